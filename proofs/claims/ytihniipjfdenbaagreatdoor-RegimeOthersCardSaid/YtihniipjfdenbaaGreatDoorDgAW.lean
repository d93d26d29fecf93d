/- The walk of And's recursion. Bounds on the table. -/
import Derived.Test.YtihniipjfdenbaaGreatDoorDgAX
set_option maxRecDepth 100000
set_option maxHeartbeats 4000000
namespace Go.Proofs.YtihniipjfdenbaaGreatDoor
open Go.RowKit
theorem run_app_ints {w:World}{base n c:Nat}{ty:TypeId}{v:Value}{l m:List Int}{ad:Addr}(hown:w.ownsRow base 3 1 v n (l.map iW))(hm:∀j u,(m.map iW)[j]? =some u->w.cell? (ad.add j)=some u)(hlen:n+m.length<=4000000)(hb:base<=w.heap.size):
  ∃v' w',(Builtin.append_ #[26,26] ty #[v,.slice (some ad) m.length c]).run Tryz.prog w=.ok v' w'/\ w'.ownsRow base 3 1 v' (n+m.length) ((l++m).map iW)/\ w.grownBy w' v.ownBlock:=by
 obtain⟨i0,b0,b1,b2,b3⟩:=info_parts intInfo3;obtain⟨v',w',h1,h2,h3,_,_⟩:=run_append_own_at (P:=Tryz.prog) w base 26 ty 3 i0 _ 1 8 Tryz.underlying26 b0 b1 b2 b3 rfl (by decide) v n _ hown ad m.length c (m.map iW) (by simp) hm (fun u hu=>by obtain⟨s,_,rfl⟩:=List.mem_map.1 hu;rfl) (by unfold maxLen;omega) (by omega) hb;exact⟨v',w',h1,by rw[List.map_append];exact h2,h3⟩
theorem wpList_app_ints {ops:Array Oper}{rest:List Oper}{o:Oper}{a:Act}{Q:Exit->Act->World->Prop}{w:World}(hg:o.guard=none)(x y:Operand)(ho:o.op=.call {callee:=.builtin .append,args:=#[x,y],argTypes:=#[26,26]})
  (base:Nat) (v:Value) (n:Nat) (l:List Int) (hv:a.eval x=v) (hown:w.ownsRow base 3 1 v n (l.map iW)) (m:List Int) (ml:Nat) (hml:m.length=ml) (ad:Addr) (c:Nat) (hy:a.eval y=.slice (some ad) ml c)
  (hm:∀j u,(m.map iW)[j]? =some u->w.cell? (ad.add j)=some u) (hlen:n+ml<=4000000) (hb:base<=w.heap.size)
  (hK:∀v' w',w'.ownsRow base 3 1 v' (n+ml) ((l++m).map iW)->w.grownBy w' v.ownBlock->wpList Tryz.prog ops Q rest (a.put o.dst v') w'):wpList Tryz.prog ops Q (o::rest) a w:=by
 subst hml;refine wpList_plain hg fun K' hK'=>?_
 obtain⟨v',w',hr,h2,h3⟩:=run_app_ints (ty:=o.type) (c:=c) hown hm hlen hb;unfold Oper.wp execOp;simp only[ho,resolve,invoke,builtin,Sem.run_bind,Sem.run_pure,Result.andThen_ok,List.map_toArray,List.map_cons,List.map_nil,hv,hy,hr];exact hK' _ _ (hK v' w' h2 h3)
def Sol3 (W:World)(base:Nat)(v:Value):Prop:=∀a n c,v=.slice (some a) n c->base<=a.block/\ ∃cs,W.heap[a.block]? =some (.cells cs 3 (0,0))
theorem Sol3.below {W W':World}{base:Nat}{v:Value}(h:Sol3 W base v)(hb:Below W.heap.size W W'):Sol3 W' base v:=fun a n c e=>by
 obtain⟨h1,cs,h2⟩:=h a n c e;exact⟨h1,cs,(hb.block _ (Array.getElem?_eq_some_iff.1 h2).1).trans h2⟩
structure IntS (base : Nat) (W : World) (l : List Int) (v : Value) : Prop where
 ge:base<=W.heap.size
 ints:IntsIn W W.heap.size l v
 sol:Sol3 W base v
theorem look_pair {w0 W:World}{K:Nat}{S:List Nat}{m:List Dn}{dn:MemoJ}(hS:StA w0 K S m dn W)(x y:Nat):
  (Instr.lookup 133 (.map (some (K+2))) (.agg #[.int .i64 (x:Int),.int .i64 (y:Int)]) true).run Tryz.prog W=.ok (match dn.lookup (x,y)with | some k=>.tuple #[.int .i64 (k:Int),.bool true] | none=>.tuple #[.int .i64 0,.bool false]) W:=by
 obtain⟨mp,hm,hmp⟩:=hS.memo;have q:=run_lookP Tryz.underlying133 zero_int3 hm (x,y);rw[hmp]at q;cases h:dn.lookup (x,y)with| some k=>rw[h]at q;exact q| none=>rw[h]at q;exact q
theorem both_hit {w0:World}{K PA PB PD:Nat}{S:List Nat}{d:List Fa}{ta tb:List Dn}{va vb vd:Value}(hE:EnvA w0 K PA PB PD d ta tb va vb vd)(x y:Nat)(m:List Dn)(dn:MemoJ)(k:Nat)(hk:dn.lookup (x,y)=some k)(W:World)(hS:StA w0 K S m dn W):
  Calls Tryz.prog 104 #[.int .i64 x,.int .i64 y,.pointer (some ⟨K+3,0,none⟩),.pointer (some ⟨PA,0,none⟩),.pointer (some ⟨PB,0,none⟩),.pointer (some ⟨PD,0,none⟩),.pointer (some ⟨K+1,0,none⟩),.pointer (some ⟨K+4,0,none⟩)] W fun e W'=>e=.returned (.int .i64 k)/\ StA w0 K S m dn W'/\ MkS K [] W W':=by
 have hdv:=(hS.blk hE.dv ⟨by decide,by decide⟩).cell 0;have hlk:=look_pair hS x y;rw[hk]at hlk;have HS:=Lib.hid hS;clear hE hS hk;go_enter Tryz.func104,Tryz.ntmps104;go_wp2;go_ret;exact⟨rfl,HS.out,MkS.refl _ _ _⟩
theorem ask_rank {d:List Fa}{lo hi:Nat->Int}{len:Nat}{rk:Nat->Nat}{n:Dn}(h:ProperD d.length lo hi len rk n):askN d n=(rankD d.length n:Nat):=by
 unfold askN rankD;by_cases hk:n.kids=[]
 {rw[if_pos hk,if_pos hk]}
 {rw[if_neg hk,if_neg hk];have:=(h.inner hk).2.1;omega}
def foldB (d:List Fa)(ta tb:List Dn)(f:Nat)(m:List Dn)(dn:MemoJ)(x y:Nat)(l:List Int):(List Dn×MemoJ)×List Int:=l.foldl (stepB d.length ta tb (sJ d.length (flo d) ta tb) 20000 f x y) ((m,dn),[])
theorem both_end_eq {d:List Fa}{ta tb:List Dn}{f:Nat}{m:List Dn}{dn:MemoJ}{x y:Nat}(hk:dn.lookup (x,y)=none)(h:minR d.length ta tb x y=d.length\/20000<m.length):
  bothG d ta tb (f+1) m dn x y=(((addD m ⟨0,[],[],(ta.getD x default).leaf&& (tb.getD y default).leaf⟩).1,dn),(addD m ⟨0,[],[],(ta.getD x default).leaf&& (tb.getD y default).leaf⟩).2):=by
 unfold bothG bothD;rw[hk]
 dsimp only
 rw[if_pos h]
theorem both_new_eq {d:List Fa}{ta tb:List Dn}{f:Nat}{m:List Dn}{dn:MemoJ}{x y:Nat}(hk:dn.lookup (x,y)=none)(h:¬(minR d.length ta tb x y=d.length\/20000<m.length)):
  bothG d ta tb (f+1) m dn x y=(((innerD (foldB d ta tb f m dn x y (sJ d.length (flo d) ta tb x y)).1.1 (minR d.length ta tb x y) (sJ d.length (flo d) ta tb x y) (foldB d ta tb f m dn x y (sJ d.length (flo d) ta tb x y)).2).1,
   ((x,y),(innerD (foldB d ta tb f m dn x y (sJ d.length (flo d) ta tb x y)).1.1 (minR d.length ta tb x y) (sJ d.length (flo d) ta tb x y) (foldB d ta tb f m dn x y (sJ d.length (flo d) ta tb x y)).2).2)::(foldB d ta tb f m dn x y (sJ d.length (flo d) ta tb x y)).1.2),
   (innerD (foldB d ta tb f m dn x y (sJ d.length (flo d) ta tb x y)).1.1 (minR d.length ta tb x y) (sJ d.length (flo d) ta tb x y) (foldB d ta tb f m dn x y (sJ d.length (flo d) ta tb x y)).2).2):=by
 conv=>lhs;unfold bothG bothD
 rw[hk]
 dsimp only
 rw[if_neg h]
 rfl
theorem foldB_snoc {d:List Fa}{ta tb:List Dn}{f:Nat}{m:List Dn}{dn:MemoJ}{x y:Nat}(l:List Int)(k:Nat)(hk:k<l.length):foldB d ta tb f m dn x y (l.take (k+1))=stepB d.length ta tb (sJ d.length (flo d) ta tb) 20000 f x y (foldB d ta tb f m dn x y (l.take k)) l[k]:=by
 unfold foldB;rw[List.take_succ_eq_append_getElem hk,List.foldl_append]
 rfl
theorem rank_n {d:List Fa}{lo hi:Nat->Int}{len:Nat}{rk:Nat->Nat}{n:Dn}(h:ProperD d.length lo hi len rk n):rankD d.length n<=d.length:=by
 unfold rankD;by_cases hk:n.kids=[]
 {rw[if_pos hk];exact Nat.le_refl _}
 {rw[if_neg hk];exact Nat.le_of_lt (h.inner hk).2.2.1}
theorem compL_le (l:List Int):(compL l).length<=l.length:=by
 cases l with| nil=>exact Nat.le_refl _| cons a l=>have:=compD_len l a;unfold compL;simp;omega
theorem if_len (b:Prop)[Decidable b](l:List Int):(if b then l else[]).length<=l.length:=by
 by_cases h:b
 {rw[if_pos h];exact Nat.le_refl _}
 {rw[if_neg h];exact Nat.zero_le _}
def lsJ (nf:Nat)(lo:Int)(i:Nat)(p q:Dn)(j:Nat):List Int:=lo::((if 0<j/\ rankD nf p=i then p.cuts else[])++(if 1<j/\ rankD nf q=i then q.cuts else[]))
theorem nodes_two {p q:Dn}{ac ak ac2 ak2:Option Addr}{cc ck cc2 ck2:Nat}(P:Dn->Option Addr->Nat->Prop)(hp:P p ac cc)(hq:P q ac2 cc2)(nf:Nat)(lo:Int)(i:Nat):∀j,j<2->∃(n:Dn) (a1 a2:Option Addr) (k1 k2:Nat),
  (∀(wr:World) (R:Nat),Blk wr R 106 #[.int .i64 p.fact,.slice ac p.cuts.length cc,.slice ak p.kids.length ck,.bool p.leaf,.int .i64 q.fact,.slice ac2 q.cuts.length cc2,.slice ak2 q.kids.length ck2,.bool q.leaf]->wr.cell? ⟨R,j*4,none⟩=some (.int .i64 n.fact)/\ wr.cell? ⟨R,j*4+1,none⟩=some (.slice a1 n.cuts.length k1)/\ wr.cell? ⟨R,j*4+2,none⟩=some (.slice a2 n.kids.length k2)/\ wr.cell? ⟨R,j*4+3,none⟩=some (.bool n.leaf))/\
  P n a1 k1/\ lsJ nf lo i p q (j+1)=lsJ nf lo i p q j++(if rankD nf n=i then n.cuts else[])
 | 0,_=>⟨p,ac,ak,cc,ck,fun _ _ h=>⟨h.cell 0,h.cell 1,h.cell 2,h.cell 3⟩,hp,by unfold lsJ;simp⟩
 | 1,_=>⟨q,ac2,ak2,cc2,ck2,fun _ _ h=>⟨h.cell 4,h.cell 5,h.cell 6,h.cell 7⟩,hq,by unfold lsJ;simp⟩
 | n+2,h=>by omega
theorem lsJ_two {d:List Fa}{ta tb:List Dn}{x y i:Nat}{p q:Dn}(hp:ta.getD x default=p)(hq:tb.getD y default=q)(hi:minR d.length ta tb x y=i):sJ d.length (flo d) ta tb x y=compL ((lsJ d.length (flo d i) i p q 2).mergeSort fun x y=>decide (x<=y)):=by
 unfold sJ lsJ;rw[hp,hq,hi]
 simp
structure NdOk (w0 : World) (K : Nat) (d : List Fa) (n : Dn) (a : Option Addr) (k : Nat) : Prop where
 cuts:IntsIn w0 K n.cuts (.slice a n.cuts.length k)
 ask:askN d n=(rankD d.length n:Nat)
 few:n.cuts.length<=1000000
 some:rankD d.length n<d.length->n.cuts≠[]
theorem nd_ok {w0:World}{K:Nat}{d:List Fa}{t:List Dn}(hd:DomOk d)(hT:TableD d.length (flo d) (fhi d) t){x:Nat}(hx:x<t.length){a:Option Addr}{k:Nat}(hc:IntsIn w0 K t[x].cuts (.slice a t[x].cuts.length k)):NdOk w0 K d t[x] a k:=by
 have hp:=hT x hx;rw[getD_dg _ _ _ hx]at hp;refine⟨hc,ask_rank hp,(table_few hd hT _ (List.getElem_mem hx)).2,fun h=>?_⟩;unfold rankD at h;by_cases hk:t[x].kids=[]
 {rw[if_pos hk]at h;omega}
 {exact(hp.inner hk).2.2.2.1}
structure Lp1 (w3 wr : World) (cs : Array Value) (ls : List Int) (sl : Value) : Prop where
 below:Below w3.heap.size w3 wr
 row:wr.ownsRow w3.heap.size 3 1 sl ls.length (ls.map iW)
 nodes:Blk wr (w3.heap.size+1) 106 cs
theorem Lp1.step {w3 wr w':World}{cs:Array Value}{ls:List Int}{sl:Value}(h:Lp1 w3 wr cs ls sl)(hb:Below wr.heap.size wr w'):Lp1 w3 w' cs ls sl:=⟨h.below.trans (hb.mono h.below.size),own_under h.row hb,h.nodes.below hb⟩
theorem Lp1.app {w3 w' w7:World}{cs:Array Value}{ls ms:List Int}{sl v7:Value}(h:Lp1 w3 w' cs ls sl)(h7:w7.ownsRow w3.heap.size 3 1 v7 (ls.length+ms.length) ((ls++ms).map iW))(hg:w'.grownBy w7 sl.ownBlock):Lp1 w3 w7 cs (ls++ms) v7:=
 ⟨h.below.grown hg h.below.size (fun g e=>(own_at h.row g e).1),by rw[List.length_append];exact h7,h.nodes.grown hg (fun e=>int_ne (by decide) h.nodes h.row _ e.symm rfl)⟩
theorem lp1_start (w3:World)(lo:Int)(cs:Array Value):Lp1 w3 ((w3.alloc (.cells #[.int .i64 lo] 3)).alloc (.cells cs 106)) cs [lo] (.slice (some ⟨w3.heap.size,0,none⟩) 1 1):=by
 refine⟨((Below.refl _ _).alloc (Nat.le_refl _) _).alloc (by simp) _,⟨rfl,.inr ⟨w3.heap.size,1,#[.int .i64 lo],rfl,Nat.le_refl _,?_,Nat.le_refl _,by decide,rfl,rfl⟩⟩,?_⟩
 {rw[Below.heap_alloc _ _ _ (by simp)];exact World.alloc_heap_new w3 _}
 {have q:=Blk.new (w3.alloc (.cells #[.int .i64 lo] 3)) 106 cs;rw[World.size_alloc]at q;exact q}
structure AnN (W wx : World) (bp bq : Nat) (np nq : Array Value) : Prop where
 below:Below W.heap.size W wx
 p:Blk wx bp 106 np
 q:Blk wx bq 106 nq
 lp:W.heap.size<=bp
 lq:W.heap.size<=bq
theorem anN_two (W:World)(np nq:Array Value):Hid (AnN W ((W.alloc (.cells np 106)).alloc (.cells nq 106)).drew W.heap.size (W.heap.size+1) np nq):=by
 refine⟨(((Below.refl _ _).alloc (Nat.le_refl _) _).alloc (by simp) _).drew,(Blk.new W 106 np).alloc _,?_,Nat.le_refl _,by omega⟩;have q:=Blk.new (W.alloc (.cells np 106)) 106 nq;rw[World.size_alloc]at q;exact q
theorem anN_owt (W:World)(np nq:Array Value):Hid (AnN W ((W.alloc (.cells nq 106)).alloc (.cells np 106)).drew (W.heap.size+1) W.heap.size np nq):=by
 have q:=(anN_two W nq np).out;exact⟨q.below,q.q,q.p,q.lq,q.lp⟩
theorem foldB_ok {d:List Fa}{ta tb:List Dn}(vA:ValidG d ta)(vB:ValidG d tb){f:Nat}{m:List Dn}{dn:MemoJ}{x y:Nat}(hI:InvX d.length (flo d) (fhi d) ta tb (readG d ta) (readG d tb) 20000 m dn)(hx:x<ta.length)(hy:y<tb.length)(hi':minR d.length ta tb x y<d.length)(hf:d.length-minR d.length ta tb x y<f+1)(l:List Int):
  FoldX d.length (flo d) (fhi d) ta tb (readG d ta) (readG d tb) 20000 f m x y l (foldB d ta tb f m dn x y l):=by
 have q:=foldX_all vA.good vB.good (S:=sJ d.length (flo d) ta tb) (both_gen vA.good vB.good (fun x y hx hy hi=>sJ_ok vA.good vB.good hx hy hi) f) hx hy hi' hf (m:=m) l [] ((m,dn),[]) ⟨hI,rfl,fun j hj=>absurd hj (Nat.not_lt_zero j),⟨[],by simp⟩,by show innN m<=_;omega⟩;exact q
theorem sJ_range {d:List Fa}{ta tb:List Dn}(vA:ValidG d ta)(vB:ValidG d tb){x y:Nat}(hx:x<ta.length)(hy:y<tb.length)(hi':minR d.length ta tb x y<d.length):0<(sJ d.length (flo d) ta tb x y).length/\ (sJ d.length (flo d) ta tb x y).length<=1000001/\ ∀v∈sJ d.length (flo d) ta tb x y,0<=v/\ v<=1000000:=by
 have hl:=(dom_ok vA.dom).lohi _ hi';obtain⟨ss,e1,e2,_⟩:=sJ_ok vA.good vB.good hx hy hi';have hc:=chain_len ss _ e2 hl.2.1;rw[e1];refine⟨by simp,by simp;omega,fun v hv=>?_⟩;rcases List.mem_cons.1 hv with rfl | hv
 {omega}
 {have:=chain_mem _ _ e2 v hv;omega}
def BothW (w0:World)(K PA PB PD:Nat)(d:List Fa)(ta tb:List Dn)(f:Nat):Prop:=
 ∀(S:List Nat) (m:List Dn) (dn:MemoJ) (x y:Nat) (W:World),(∀b∈S,b<W.heap.size)->InvX d.length (flo d) (fhi d) ta tb (readG d ta) (readG d tb) 20000 m dn->innN m<=20100->x<ta.length->y<tb.length->d.length-minR d.length ta tb x y<f->StA w0 K S m dn W->
  Calls Tryz.prog 104 #[.int .i64 x,.int .i64 y,.pointer (some ⟨K+3,0,none⟩),.pointer (some ⟨PA,0,none⟩),.pointer (some ⟨PB,0,none⟩),.pointer (some ⟨PD,0,none⟩),.pointer (some ⟨K+1,0,none⟩),.pointer (some ⟨K+4,0,none⟩)] W fun e W'=>e=.returned (.int .i64 (bothG d ta tb f m dn x y).2)/\ StA w0 K S (bothG d ta tb f m dn x y).1.1 (bothG d ta tb f m dn x y).1.2 W'/\ MkS K [] W W'
structure LoA (w0 : World) (K : Nat) (S : List Nat) (w6 : World) (r : (List Dn × MemoJ) × List Int) (kv : Value) (wr : World) : Prop where
 st:StA w0 K (ownL kv++S) r.1.1 r.1.2 wr
 mks:MkS K [] w6 wr
 own:wr.ownsRow w6.heap.size 3 1 kv r.2.length (r.2.map iW)
section
variable {w0 w6 wr w8 w10 : World} {K : Nat} {S : List Nat} {r : (List Dn × MemoJ) × List Int} {r' : List Dn × MemoJ} {kv v' : Value}
theorem LoA.own9 (h:LoA w0 K S w6 r kv wr)(h8:StA w0 K (ownL kv++S) r'.1 r'.2 w8/\ MkS K [] wr w8)(o:Obj):(w8.alloc o).ownsRow w6.heap.size 3 1 kv r.2.length (r.2.map iW):=
 own_mks h.own (h8.2.alloc o) ⟨by decide,by decide⟩ (by simp)
theorem LoA.app (h:LoA w0 K S w6 r kv wr)(hK:K+5<=w0.heap.size)(hw:w0.heap.size<=w6.heap.size)(h8:StA w0 K (ownL kv++S) r'.1 r'.2 w8/\ MkS K [] wr w8){o:Obj}(hg:(w8.alloc o).grownBy w10 kv.ownBlock){g:Nat}(hv:v'.ownBlock=some g)(hat:kv.ownBlock=some g\/g=(w8.alloc o).heap.size)
  {k:Int} (h10:w10.ownsRow w6.heap.size 3 1 v' (r.2++[k]).length ((r.2++[k]).map iW)):LoA w0 K S w6 (r',r.2++[k]) v' w10:=by
 obtain⟨q1,q2⟩:=(h8.1.below ((Below.refl _ _).alloc (Nat.le_refl _) o)).app hK (h.own9 h8 o) hw hg hv hat;refine⟨q1,?_,h10⟩;refine(((h.mks.trans (h8.2.alloc o)).more (S':=ownL kv) (by simp)).trans q2).less fun b hb hlt=>?_
 have e:kv.ownBlock=some b:=by unfold ownL at hb;simpa using hb
 have:=(own_at h.own b e).1;omega
end
theorem both_new {w0:World}{K PA PB PD:Nat}{d:List Fa}{ta tb:List Dn}{va vb vd:Value}(hE:EnvA w0 K PA PB PD d ta tb va vb vd)(gA:ValidG d ta)(gB:ValidG d tb)(f:Nat)(hf9:f<=90)(IH:BothW w0 K PA PB PD d ta tb f)
  (S:List Nat) (m:List Dn) (dn:MemoJ) (x y:Nat) (W:World) (hSb:∀b∈S,b<W.heap.size) (hI:InvX d.length (flo d) (fhi d) ta tb (readG d ta) (readG d tb) 20000 m dn) (hmi:innN m<=20100) (hx:x<ta.length) (hy:y<tb.length) (hfu:d.length-minR d.length ta tb x y<f+1) (hk:dn.lookup (x,y)=none) (hS:StA w0 K S m dn W):
  Calls Tryz.prog 104 #[.int .i64 x,.int .i64 y,.pointer (some ⟨K+3,0,none⟩),.pointer (some ⟨PA,0,none⟩),.pointer (some ⟨PB,0,none⟩),.pointer (some ⟨PD,0,none⟩),.pointer (some ⟨K+1,0,none⟩),.pointer (some ⟨K+4,0,none⟩)] W fun e W'=>e=.returned (.int .i64 (bothG d ta tb (f+1) m dn x y).2)/\ StA w0 K S (bothG d ta tb (f+1) m dn x y).1.1 (bothG d ta tb (f+1) m dn x y).1.2 W'/\ MkS K [] W W':=by
 have hml:m.length<=30000:=by have:=innN_len hI.made;omega
 have hdv:=(hS.blk hE.dv ⟨by decide,by decide⟩).cell 0;have hlk:=look_pair hS x y;rw[hk]at hlk;have hsz:=hS.size;have hsK:=hE.size;have hb0:Below K w0 W:=hS.stp.below (by omega);obtain⟨ag,cg,hva,_⟩:=SlIn.shape hE.ga;obtain⟨bg,dg,hvb,_⟩:=SlIn.shape hE.gb;subst hva;subst hvb;obtain⟨gb,go,rfl,hgb,vpc,vpk,n0,n1,n2,n3,hpc,hpk⟩:=hE.ga.at x hx;obtain⟨hb,ho,rfl,hhb,vqc,vqk,m0,m1,m2,m3,hqc,hqk⟩:=hE.gb.at y hy;obtain⟨_,_,e1,al1,al2,_⟩:=SlIn.shape hE.ga;obtain⟨_,_,e2,bl1,bl2,_⟩:=SlIn.shape hE.gb;cases e1
 cases e2
 unfold maxLen at al2 bl2;obtain⟨ac,cc,rfl,c1,c2,_⟩:=SlIn.shape hpc;obtain⟨ak,ck,rfl,k1,k2,_⟩:=SlIn.shape hpk;obtain⟨ac2,cc2,rfl,c3,c4,_⟩:=SlIn.shape hqc;obtain⟨ak2,ck2,rfl,k3,k4,_⟩:=SlIn.shape hqk;have hpa:=(hS.blk hE.ab ⟨by decide,by decide⟩).cell 0;have hpb:=(hS.blk hE.bb ⟨by decide,by decide⟩).cell 0;have n0':=(hb0.cell (p:=⟨gb,go+x*4,none⟩) hgb).trans n0;have n1':=(hb0.cell (p:=⟨gb,go+x*4+1,none⟩) hgb).trans n1;have n2':=(hb0.cell (p:=⟨gb,go+x*4+2,none⟩) hgb).trans n2;have n3':=(hb0.cell (p:=⟨gb,go+x*4+3,none⟩) hgb).trans n3;have m0':=(hb0.cell (p:=⟨hb,ho+y*4,none⟩) hhb).trans m0;have m1':=(hb0.cell (p:=⟨hb,ho+y*4+1,none⟩) hhb).trans m1;have m2':=(hb0.cell (p:=⟨hb,ho+y*4+2,none⟩) hhb).trans m2;have m3':=(hb0.cell (p:=⟨hb,ho+y*4+3,none⟩) hhb).trans m3;have lPA:PA<W.heap.size:=by have:=hE.lta;omega
 have lPB:PB<W.heap.size:=by have:=hE.ltb;omega
 have lga:gb<W.heap.size:=by omega
 have lgb:hb<W.heap.size:=by omega
 have hxl:(x:Int)<(ta.length:Int):=by omega
 have hyl:(y:Int)<(tb.length:Int):=by omega
 have hgp:ta.getD x default=ta[x]:=getD_dg _ _ _ hx;have hgq:tb.getD y default=tb[y]:=getD_dg _ _ _ hy;have pp:=gA.table x hx;have pq:=gB.table y hy;rw[hgp]at pp;rw[hgq]at pq;have HE:=Lib.hid hE;have HS:=Lib.hid hS;have HPC:=Lib.hid hpc;have HQC:=Lib.hid hqc;have HNP:=Lib.hid (nd_ok (dom_ok gA.dom) gA.table hx hpc);have HNQ:=Lib.hid (nd_ok (dom_ok gB.dom) gB.table hy hqc);generalize hp:ta[x]=p at*
 generalize hq:tb[y]=q at*
 have PP:=Lib.hid pp;have PQ:=Lib.hid pq;have HGP:=Lib.hid hgp;have HGQ:=Lib.hid hgq;obtain⟨GG,hGG⟩:∃GG,bothG d ta tb (f+1) m dn x y=GG:=⟨_,rfl⟩;rw[hGG];have HGG:=Lib.hid hGG;have HK:=Lib.hid hk;have HINV:=Lib.hid hI;have HIH:=Lib.hid IH;have HFU:=Lib.hid hfu;have HSB:=Lib.hid hSb;clear hI IH hfu hSb;clear hGG hE hS hk n0 n1 n2 n3 m0 m1 m2 m3 hpc hpk hqc hqk hp hq pp pq hgp hgq hb0;go_enter Tryz.func104,Tryz.ntmps104;go_upto_region 4 with(fail)
 go_cut[13,14] (fun s13 s14 wx=>∃bp bq,s13=.pointer (some ⟨bp,0,none⟩)/\ s14=.pointer (some ⟨bq,0,none⟩)/\ Hid (AnN W wx bp bq #[.int .i64 p.fact,.slice ac p.cuts.length cc,.slice ak p.kids.length ck,.bool p.leaf] #[.int .i64 q.fact,.slice ac2 q.cuts.length cc2,.slice ak2 q.kids.length ck2,.bool q.leaf]))
 case first=>
  go_region
  all_goals
   go_wp2;go_meet;exact⟨_,_,rfl,rfl,by first | exact anN_two W _ _ | exact anN_owt W _ _⟩
 case rest=>
  obtain⟨bp,bq,rfl,rfl,hN⟩:=hcut;have HS1:=Lib.hid (HS.out.below hN.out.below);have HM1:Hid (MkS K [] W wc):=MkS.of_below hN.out.below (Nat.le_refl _);obtain⟨ad,cd,hvd,d1,d2,_⟩:=SlIn.shape HE.out.dom;subst hvd;unfold maxLen at d2;have hsc:=hN.out.below.size;have hpd:=HS1.out.blk HE.out.db ⟨by decide,by decide⟩;have hdl:=(dom_ok gA.dom).len
  have HAP:Hid (∀w',Calls Tryz.prog 105 #[.agg #[.int .i64 p.fact,.slice ac p.cuts.length cc,.slice ak p.kids.length ck,.bool p.leaf],.agg #[.slice ad d.length cd]] w' fun e w''=>e=.returned (.int .i64 (rankD d.length p:Nat))/\ Hid (Below w'.heap.size w' w'')):=fun w'=>by{have h:=ask_any p d ac ak ad cc ck cd w';rw[ask_rank PP.out]at h;exact h}
  have HAQ:Hid (∀w',Calls Tryz.prog 105 #[.agg #[.int .i64 q.fact,.slice ac2 q.cuts.length cc2,.slice ak2 q.kids.length ck2,.bool q.leaf],.agg #[.slice ad d.length cd]] w' fun e w''=>e=.returned (.int .i64 (rankD d.length q:Nat))/\ Hid (Below w'.heap.size w' w'')):=fun w'=>by{have h:=ask_any q d ac2 ak2 ad cc2 ck2 cd w';rw[ask_rank PQ.out]at h;exact h}
  have hi:minR d.length ta tb x y=min (rankD d.length p) (rankD d.length q):=by unfold minR;rw[HGP.out,HGQ.out]
  have HHI:=Lib.hid hi;have HPD:=Lib.hid hpd
  have HKP:Hid (∀w',Hid (Below wc.heap.size wc w')->(w'.cell? ⟨bp,0,none⟩=some (.int .i64 p.fact)/\ w'.cell? ⟨bp,1,none⟩=some (.slice ac p.cuts.length cc)/\ w'.cell? ⟨bp,2,none⟩=some (.slice ak p.kids.length ck)/\ w'.cell? ⟨bp,3,none⟩=some (.bool p.leaf)/\ w'.cell? ⟨bq,0,none⟩=some (.int .i64 q.fact)/\ w'.cell? ⟨bq,1,none⟩=some (.slice ac2 q.cuts.length cc2)/\ w'.cell? ⟨bq,2,none⟩=some (.slice ak2 q.kids.length ck2)/\ w'.cell? ⟨bq,3,none⟩=some (.bool q.leaf)/\ w'.cell? ⟨PD,0,none⟩=some (.slice ad d.length cd))/\ Hid (Below wc.heap.size wc w')):=fun w' hb=>by{have k1:=hN.out.p.below hb.out;have k2:=hN.out.q.below hb.out;have k3:=HPD.out.below hb.out;exact⟨⟨k1.cell 0,k1.cell 1,k1.cell 2,k1.cell 3,k2.cell 0,k2.cell 1,k2.cell 2,k2.cell 3,k3.cell 0⟩,hb⟩}
  have HB0:Hid (Below wc.heap.size wc wc.drew):=(Below.refl _ _).drew;obtain⟨rp,hrp⟩:∃rp,rankD d.length p=rp:=⟨_,rfl⟩;obtain⟨rq,hrq⟩:∃rq,rankD d.length q=rq:=⟨_,rfl⟩;rw[hrp]at HAP HHI;rw[hrq]at HAQ HHI;have HRP:=Lib.hid hrp;have HRQ:=Lib.hid hrq;clear hi hpd hdv hlk hpa hpb n0' n1' n2' n3' m0' m1' m2' m3' hrp hrq;go_upto_region 5 with(fail)
  go_region_held3 (fun w'=>(w'.cell? ⟨bp,0,none⟩=some (.int .i64 p.fact)/\ w'.cell? ⟨bp,1,none⟩=some (.slice ac p.cuts.length cc)/\ w'.cell? ⟨bp,2,none⟩=some (.slice ak p.kids.length ck)/\ w'.cell? ⟨bp,3,none⟩=some (.bool p.leaf)/\ w'.cell? ⟨bq,0,none⟩=some (.int .i64 q.fact)/\ w'.cell? ⟨bq,1,none⟩=some (.slice ac2 q.cuts.length cc2)/\ w'.cell? ⟨bq,2,none⟩=some (.slice ak2 q.kids.length ck2)/\ w'.cell? ⟨bq,3,none⟩=some (.bool q.leaf)/\ w'.cell? ⟨PD,0,none⟩=some (.slice ad d.length cd))/\ Hid (Below wc.heap.size wc w'))
   (exact HKP.out _ (by assumption))
   (first
    | (go_at_call_of 105 ac;refine(HAP.out _).mono ?_;rintro e w2 ⟨rfl,HB2'⟩;have HB2:Hid (Below wc.heap.size wc w2):=(show Hid (Below wc.heap.size wc _) by assumption).out.trans (HB2'.out.mono (show Hid (Below wc.heap.size wc _) by assumption).out.size))
    | (go_at_call_of 105 ac2;refine(HAQ.out _).mono ?_;rintro e w3 ⟨rfl,HB3'⟩;have HB3:Hid (Below wc.heap.size wc w3):=(show Hid (Below wc.heap.size wc _) by assumption).out.trans (HB3'.out.mono (show Hid (Below wc.heap.size wc _) by assumption).out.size)))
  go_split_ands;obtain⟨i,hi⟩:∃i,min rp rq=i:=⟨_,rfl⟩;rw[hi]at HHI;have hmin:min (rp:Int) (rq:Int)=(i:Int):=by omega
  rw[hmin];have HS3:=Lib.hid (HS1.out.below HB3.out);have HM3:Hid (MkS K [] W w3):=HM1.out.trans (MkS.of_below HB3.out (Nat.le_refl _));have hmv:=(HS3.out.blk HE.out.mv ⟨by decide,by decide⟩).cell 0;obtain⟨_,⟨mv,mo,xs,g1,g2,g3,_⟩,_⟩:=HS3.out.is;obtain⟨ma,mc,hmvs⟩:=own_len g2;have hxn:xs.length=m.length:=by rw[<-g3,List.length_map]
  subst hmvs;have hmk:=g1.cell 0;rw[hxn]at hmk;have HMI:=Lib.hid hi;clear g1 g2 g3 hxn hmin hi HAP HAQ HB0 HB2 HB2' HB3';by_cases hend:i=d.length\/20000<m.length
  ·have HEQ:=Lib.hid (both_end_eq (d:=d) (f:=f) HK.out (hend.imp (fun h=>HHI.out.trans h) id))
   have HGP2:=Lib.hid (show(⟨0,[],[],(ta.getD x default).leaf&& (tb.getD y default).leaf⟩:Dn)=⟨0,[],[],p.leaf&& q.leaf⟩ by rw[HGP.out,HGQ.out]);obtain⟨bl,hbl⟩:∃bl,(p.leaf&& q.leaf)=bl:=⟨_,rfl⟩;have HN:=Lib.hid (node_any K K S m ⟨0,[],[],bl⟩ (.slice none 0 0) (.slice none 0 0) _ HS3.out.is (IntsF.nil _ _ _) (IntsF.nil _ _ _) (by omega) ⟨⟨by show(-9223372036854775808:Int)<=0;decide,by show(0:Int)<=9223372036854775807;decide⟩,by simp,by simp,by simp,by simp⟩ (HE.out.tab.on (HS3.out.stp.below (by omega))))
   have HG2:Hid (GG=(((addD m ⟨0,[],[],bl⟩).1,dn),(addD m ⟨0,[],[],bl⟩).2)):=by{show _=_;rw[<-HGG.out,HEQ.out,HGP2.out,hbl]}
   have hd2:((i:Int)==(d.length:Int))=true\/(((i:Int)==(d.length:Int))=false/\ decide ((20000:Int)<(m.length:Int))=true):=by{by_cases h:i=d.length;{left;simp[h]};{right;exact⟨by simpa using(by omega:¬(i:Int)=d.length),by simp;omega⟩}}
   clear HEQ HGG HGP2 hend;generalize(addD m ⟨0,[],[],bl⟩).2=r2 at*
   generalize(addD m ⟨0,[],[],bl⟩).1=r1 at*
   rcases hd2 with hd2 | ⟨hd2,hd3⟩
   all_goals
    cases hpl:p.leaf
    all_goals
     rw[hpl]at hbl;simp only[Bool.false_and,Bool.true_and]at hbl;subst hbl;go_wp2_with (go_at_call 106;refine HN.out.mono ?_;rintro e w4 ⟨rfl,h2,h3⟩;have H2:=Lib.hid (HS3.out.step h3 h2);have HM:=Lib.hid (HM3.out.trans h3.s);clear h2 h3);go_ret;rw[HG2.out];exact⟨rfl,H2.out,HM.out⟩
  ·have hil:i<d.length:=by
    have h1:=rank_n PP.out;rw[HRP.out]at h1;have h2:=HMI.out;omega
   have hm2:m.length<=20000:=by omega
   have HEQ:=Lib.hid (both_new_eq (d:=d) (f:=f) HK.out (fun h=>hend (h.imp (fun h=>HHI.out.symm.trans h) id)));have hie:((i:Int)==(d.length:Int))=false:=by simpa using(by omega:¬(i:Int)=d.length)
   have hdd:decide ((20000:Int)<(m.length:Int))=false:=by simp;omega
   obtain⟨db,df,rfl,hdb,f0,f1,f2,f3,_⟩:=HE.out.dom.at i hil;have hflo:d[i].lo=flo d i:=by unfold flo;rw[getD_dg _ _ _ hil]
   rw[hflo]at f2;have hf2:=((HS3.out.stp.below (by omega)).cell (p:=⟨db,df+i*4+2,none⟩) hdb).trans f2;have hil2:(i:Int)<(d.length:Int):=by omega
   have lPD:PD<w3.heap.size:=Nat.lt_of_lt_of_le HPD.out.lt HB3.out.size;obtain⟨lo,hlo⟩:∃lo,flo d i=lo:=⟨_,rfl⟩;rw[hlo]at hf2;have HLO:=Lib.hid hlo;clear hend f0 f1 f2 f3 hflo hlo;have hps:bp<w3.heap.size:=Nat.lt_of_lt_of_le hN.out.p.lt HB3.out.size;have hqs:bq<w3.heap.size:=Nat.lt_of_lt_of_le hN.out.q.lt HB3.out.size;go_upto_region 8 with(fail);clear hmv hmk hie hdd;go_upto_region 10 with(fail);have hL0:=lp1_start w3 lo #[.int .i64 p.fact,.slice ac p.cuts.length cc,.slice ak p.kids.length ck,.bool p.leaf,.int .i64 q.fact,.slice ac2 q.cuts.length cc2,.slice ak2 q.kids.length ck2,.bool q.leaf];obtain⟨W5,hW5⟩:∃W5,((w3.alloc (.cells #[.int .i64 lo] 3)).alloc (.cells #[.int .i64 p.fact,.slice ac p.cuts.length cc,.slice ak p.kids.length ck,.bool p.leaf,.int .i64 q.fact,.slice ac2 q.cuts.length cc2,.slice ak2 q.kids.length ck2,.bool q.leaf] 106))=W5:=⟨_,rfl⟩;rw[hW5]at hL0⊢;have HL0:=Lib.hid hL0;have HND:=Lib.hid (nodes_two (ac:=ac) (cc:=cc) (ak:=ak) (ck:=ck) (ac2:=ac2) (cc2:=cc2) (ak2:=ak2) (ck2:=ck2) (NdOk w0 K d) HNP.out HNQ.out d.length lo i);clear hW5 hL0 hf2 hdb
   go_loopw [16,84] (fun sl iv wr=>∃j:Nat,j<=2/\ iv=.int .i64 j/\ Hid (Lp1 w3 wr #[.int .i64 p.fact,.slice ac p.cuts.length cc,.slice ak p.kids.length ck,.bool p.leaf,.int .i64 q.fact,.slice ac2 q.cuts.length cc2,.slice ak2 q.kids.length ck2,.bool q.leaf] (lsJ d.length lo i p q j) sl)) (fun _ iv _=>2-(intOf iv).toNat)
   case atStart=>exact⟨0,by omega,rfl,by simpa[lsJ]using HL0⟩
   case round=>
    obtain⟨j,hj,rfl,hL⟩:=hrel;obtain⟨sa,sc,hsl⟩:=own_len hL.out.row;subst hsl;clear HL0;have hpdr:=(HPD.out.below (HB3.out.trans (hL.out.below.mono HB3.out.size))).cell 0;have lPD2:PD<wr.heap.size:=Nat.lt_of_lt_of_le lPD hL.out.below.size;by_cases hlt:j<2
    {obtain⟨n,a1,a2,k1,k2,hc,hn,hls⟩:=HND.out j hlt;obtain⟨c0,c1',c2',c3'⟩:=hc wr _ hL.out.nodes;have HNO:=Lib.hid hn;have HLS:=Lib.hid hls;(have hlt2:(j:Int)<2:=by omega);have lR:w3.heap.size+1<wr.heap.size:=hL.out.nodes.lt;have HASK:=Lib.hid (fun w'=>ask_any n d a1 a2 (some ⟨db,df,none⟩) k1 k2 cd w');have HRN:=Lib.hid hn.ask;have hls2:(lsJ d.length lo i p q j).length+n.cuts.length<=3000001:=by{have h1:=HNP.out.few;have h2:=HNQ.out.few;have h3:=hn.few;have h4:(lsJ d.length lo i p q j).length<=1+p.cuts.length+q.cuts.length:=by{unfold lsJ;have q1:=if_len (0<j/\ rankD d.length p=i) p.cuts;have q2:=if_len (1<j/\ rankD d.length q=i) q.cuts;rw[List.length_cons,List.length_append];omega};omega};have h3z:w3.heap.size<=wr.heap.size:=hL.out.below.size;have HCC:Hid (∀w',Below w3.heap.size w3 w'->∀cb co,a1=some ⟨cb,co,none⟩->∀jj u,(n.cuts.map iW)[jj]? =some u->w'.cell? (Addr.add ⟨cb,co,none⟩ jj)=some u):=by{intro w' hb cb co e jj u hu;rw[List.getElem?_map]at hu;obtain⟨z,hz,rfl⟩:=Option.map_eq_some_iff.1 hu;obtain⟨hjl,rfl⟩:=List.getElem?_eq_some_iff.1 hz;obtain⟨b',o',e',hbK,hcell⟩:=SlIn.one HNO.out.cuts jj hjl;rw[e]at e';(cases e');have hb0':=(HS3.out.stp.below (by omega:K<=w0.heap.size)).trans (hb.mono (by have:=HS3.out.size;omega));have q:=(hb0'.cell (p:=⟨cb,co+jj,none⟩) hbK).trans hcell;rw[Addr.add];(split);{next hz=>subst hz;exact q};{exact q}};(have HB6:∀w6,Below (wr.heap.size+1) (wr.alloc (.cells #[.int .i64 n.fact,.slice a1 n.cuts.length k1,.slice a2 n.kids.length k2,.bool n.leaf] 106)) w6->Lp1 w3 w6 #[.int .i64 p.fact,.slice ac p.cuts.length cc,.slice ak p.kids.length ck,.bool p.leaf,.int .i64 q.fact,.slice ac2 q.cuts.length cc2,.slice ak2 q.kids.length ck2,.bool q.leaf] (lsJ d.length lo i p q j) (.slice sa (lsJ d.length lo i p q j).length sc)/\ w6.cell? ⟨wr.heap.size,1,none⟩=some (.slice a1 n.cuts.length k1):=fun w6 hb=>by{refine⟨hL.out.step (((Below.refl _ _).alloc (Nat.le_refl _) _).trans (hb.mono (by omega))),?_⟩;exact((Blk.new wr 106 _).below (hb.mono (by simp))).cell 1});have HB6:=Lib.hid HB6;clear hL;generalize lsJ d.length lo i p q j=ls at*;by_cases hri:rankD d.length n=i;{(have hrb:((rankD d.length n:Nat):Int)==(i:Int):=by simp[hri]);have hcn:=hn.some (by omega);obtain⟨cb,co,rfl⟩:∃cb co,a1=some ⟨cb,co,none⟩:=by{obtain⟨cb,co,e,_⟩:=SlIn.one hn.cuts 0 (List.length_pos_iff.2 hcn);exact⟨cb,co,e⟩};rw[if_pos hri]at hls;have HLS2:=Lib.hid hls;clear hls hn hri hcn;go_upto_region 13 with(go_at_call 105;refine(HASK.out _).mono ?_;rintro e w6 ⟨rfl,hb6⟩;rw[HRN.out];obtain⟨hL6,z1⟩:=HB6.out w6 (by simpa using hb6);have HL6:=Lib.hid hL6;clear hL6 hb6);have h6z:=HL6.out.below.size;have HCC6:=Lib.hid (HCC.out w6 HL6.out.below cb co rfl);go_wp2_with (at_builtin;refine wpList_app_ints (by rfl) _ _ (by rfl) w3.heap.size (.slice sa ls.length sc) ls.length ls (by rfl) HL6.out.row n.cuts n.cuts.length rfl ⟨cb,co,none⟩ _ (by rfl) HCC6.out (by omega) (by omega) ?_;intro v7 w7 ho7 hg7;have HL7:=Lib.hid (HL6.out.app ho7 hg7);clear ho7 hg7);go_roundw;(case rel=>exact⟨j+1,by omega,by go_num,by rw[HLS2.out];exact HL7⟩);case measure=>simp[intOf];omega};{(have hrb:(((rankD d.length n:Nat):Int)==(i:Int))=false:=by simpa using(by omega:¬((rankD d.length n:Nat):Int)=(i:Int)));rw[if_neg hri,List.append_nil]at hls;have HLS2:=Lib.hid hls;clear hls hn hri;go_wp2_with (go_at_call 105;refine(HASK.out _).mono ?_;rintro e w6 ⟨rfl,hb6⟩;rw[HRN.out];obtain⟨hL6,z1⟩:=HB6.out w6 (by simpa using hb6);have HL6:=Lib.hid hL6;clear hL6 hb6);go_roundw;(case rel=>exact⟨j+1,by omega,by go_num,by rw[HLS2.out];exact HL6⟩);case measure=>simp[intOf];omega}}
    ·obtain rfl:j=2:=by omega
     have hls:=lsJ_two HGP.out HGQ.out (HHI.out);rw[HLO.out]at hls;have hrow:=hL.out.row
     have h2l:(lsJ d.length lo i p q 2).length<=3000001:=by{have h1:=HNP.out.few;have h2:=HNQ.out.few;unfold lsJ;have q1:=if_len (0<2/\ rankD d.length p=i) p.cuts;have q2:=if_len (1<2/\ rankD d.length q=i) q.cuts;rw[List.length_cons,List.length_append];omega}
     have h2p:0<(lsJ d.length lo i p q 2).length:=by unfold lsJ;simp
     have hLB:=Lib.hid hL.out.below;have hmd:minR d.length ta tb x y<d.length:=by rw[HHI.out];exact hil
     obtain⟨s1,s2,s3⟩:=sJ_range gA gB hx hy hmd;have HFO:=Lib.hid (fun l=>foldB_ok gA gB (f:=f) HINV.out hx hy hmd HFU.out l);rw[HHI.out]at HEQ;obtain⟨L,hLL⟩:∃L,sJ d.length (flo d) ta tb x y=L:=⟨_,rfl⟩;rw[hLL]at hls s1 s2 s3 HEQ;have HLL:=Lib.hid hLL;clear hL hLL hmd;generalize lsJ d.length lo i p q 2=zs at*
     obtain⟨g,gcap,e,hg,hg1⟩:=hrow.form h2p;cases e
     have HSORT:=Lib.hid (Tryz.slices_Sort_int g 0 sc zs wr (own_holds hrow) hg1 (by omega));have hsl:(zs.mergeSort fun x y=>decide (x<=y)).length=zs.length:=List.length_mergeSort _;have HOWN2:=Lib.hid (fun n os=>own_grow (Lib.ownsRow_putRow (q:=n) (ys:=zs.mergeSort fun x y=>decide (x<=y)) hrow hsl (Nat.le_refl _)) os);generalize(zs.mergeSort fun x y=>decide (x<=y))=ys at*
     have hcap:=own_cap hrow;clear hrow;go_upto_region 16 with(go_at_call 107;refine HSORT.out.mono ?_;rintro e w7 ⟨rfl,n7,os7,hw7⟩;have HW7:=Lib.hid hw7;clear hw7);have hg7:wr.grownBy w7 (some g):=by rw[HW7.out];exact put_grown _ _
     have hown7:w7.ownsRow w3.heap.size 3 1 (.slice (some ⟨g,0,none⟩) ys.length sc) ys.length (ys.map iW):=by{have q:=HOWN2.out n7 os7;rw[List.take_of_length_le (by omega), <-HW7.out]at q;rw[hsl];exact q}
     have hcomp:=Tryz.slices_Compact_int g 0 sc ys w7 (own_holds hown7) (by omega) (by omega);rw[comp_eq, <-hls]at hcomp;have HOWN8:=Lib.hid (fun q=>Lib.ownsRow_putRow (q:=q) (ys:=L++List.replicate (zs.length-L.length) 0) (k:=L.length) hown7 (by have:=compL_le ys;rw[<-hls]at this;simp;omega) (by have:=compL_le ys;rw[<-hls]at this;omega));rw[hsl]at hcomp;have HCOMP:=Lib.hid hcomp;have HB7:=Lib.hid (hLB.out.grown hg7 hLB.out.size (fun k e=>by cases e;exact hg));have hlr:L.length<=1000001:=s2;clear hcomp hls hsl hown7 HW7 HOWN2 HSORT hcap hg7 HND;go_upto_region 17 with(go_at_call 108;refine HCOMP.out.mono ?_;rintro e w8 ⟨rfl,n8,hw8⟩;have HW8:=Lib.hid hw8;clear hw8);have hg8:w7.grownBy w8 (some g):=by rw[HW8.out];exact put_grown0 _
     have hown8:w8.ownsRow w3.heap.size 3 1 (.slice (some ⟨g,0,none⟩) L.length sc) L.length (L.map iW):=by{have q:=HOWN8.out n8;rw[<-HW8.out,List.take_left]at q;exact q}
     have HO8:=Lib.hid hown8;have HB8:=Lib.hid (HB7.out.grown hg8 HB7.out.size (fun k e=>by cases e;exact hg));have HS8:=Lib.hid (HS3.out.below HB8.out);have HM8:Hid (MkS K [] W w8):=HM3.out.trans (MkS.of_below HB8.out (Nat.le_refl _));have hs8:w3.heap.size<=w8.heap.size:=HB8.out.size;have HSR:=Lib.hid s3;have hL0:Hid (LoA w0 K S w8 ((m,dn),[]) (.slice none 0 0) w8):=⟨HS8.out,MkS.refl _ _ _,rfl,.inl ⟨rfl,rfl⟩⟩;clear hown8 HW8 HOWN8 HCOMP hg8 hg hg1 s2 s3;go_upto_region 19 with(fail);have hlp2:L.length<=9223372036854775807:=by omega
     go_loopw [19,104] (fun kv iv wr=>∃(j:Nat) (r:(List Dn×MemoJ)×List Int),j<=L.length/\ iv=.int .i64 j/\ Hid (r=foldB d ta tb f m dn x y (L.take j))/\ Hid (LoA w0 K S w8 r kv wr)) (fun _ iv _=>L.length-(intOf iv).toNat)
     case atStart=>exact⟨0,((m,dn),[]),by omega,rfl,rfl,hL0⟩
     case round=>
      obtain⟨j,r,hj,rfl,hr,hLo⟩:=hrel;obtain⟨ak9,ck9,hkv⟩:=own_len hLo.out.own;subst hkv;have hFj:=HFO.out (L.take j);rw[<-hr.out]at hFj;have hrl:r.2.length=j:=by have:=hFj.len;rw[List.length_take]at this;omega
      have HRL:=Lib.hid hrl;have hrb:r.2.length<=2000000:=by omega
      have hsr:=hLo.out.mks.size
      have hSb2:∀b∈ownL (.slice ak9 r.2.length ck9)++S,b<wr.heap.size:=fun b hb=>by{(rcases List.mem_append.1 hb with hb | hb);{(have e:(Value.slice ak9 r.2.length ck9).ownBlock=some b:=by unfold ownL at hb;simpa using hb);obtain⟨_,cs,h4⟩:=own_at hLo.out.own b e;exact heap_lt h4};{have:=HSB.out b hb;have:=HB3.out.size;omega}}
      clear hL0 hrl;by_cases hlt:j<L.length
      ·have hcl:wr.cell? ⟨g,j,none⟩=some (.int .i64 L[j]):=by
        have q:=(own_mks HO8.out hLo.out.mks ⟨by decide,by decide⟩ (by simp)).cellAt j (by omega);rw[List.getElem?_map,List.getElem?_eq_getElem hlt]at q;exact q
       have hsnoc:=foldB_snoc (d:=d) (ta:=ta) (tb:=tb) (f:=f) (m:=m) (dn:=dn) (x:=x) (y:=y) L j hlt;rw[<-hr.out]at hsnoc;generalize L[j]=v at*
       have hil1:i<=1000000:=by omega
       have hzw:w0.heap.size<=w8.heap.size:=HS8.out.size;have sA:=stepN_lt gA.good hx hil (by rw[<-HHI.out];exact Nat.min_le_left _ _) v;have sB:=stepN_lt gB.good hy hil (by rw[<-HHI.out];exact Nat.min_le_right _ _) v;have hrk:i<minR d.length ta tb (stepN ta x i v) (stepN tb y i v):=by show i<min _ _;omega
       have hle:minR d.length ta tb (stepN ta x i v) (stepN tb y i v)<=d.length:=Nat.le_trans (Nat.min_le_left _ _) (rank_le_nf gA.table sA.1);have hfu2:d.length-minR d.length ta tb (stepN ta x i v) (stepN tb y i v)<f:=by have:=HFU.out;rw[HHI.out]at this;omega
       have hmw:MkS K [] w0 wr:=HS8.out.stp.trans hLo.out.mks;have hbd:Below wr.heap.size wr wr.drew:=(Below.refl _ _).drew;have hmd:MkS K [] w0 wr.drew:=hmw.trans (MkS.of_below hbd (Nat.le_refl _));have hbk:∀w',MkS K [] w0 w'->Below K w0 w':=fun w' h=>h.below (by omega)
       have HMR:Hid (MkS K [] w0 wr.drew):=hmd
       have HSA:Hid (Calls Tryz.prog 109 #[.agg #[.slice (some ⟨gb,go,none⟩) ta.length cg],.int .i64 (x:Int),.int .i64 (i:Int),.int .i64 v] wr.drew fun e w'=>e=.returned (.int .i64 ((stepN ta x i v:Nat):Int))/\ Hid (Below wr.heap.size wr w')/\ Hid (MkS K [] w0 w')):=by{refine(step_any ta x i v _ _ wr.drew K (by show K<=wr.heap.size;omega) (SlIn.below DnR.kept (hbk _ hmd) HE.out.ga) hx (fun hne=>⟨((gA.table x hx).inner hne).2.2.2.2.1,fun k hk=>(((gA.table x hx).inner hne).2.2.2.2.2.2.2 k hk).1⟩)).mono ?_;rintro e w' ⟨rfl,hb⟩;exact⟨rfl,hbd.trans hb,hmd.trans (MkS.of_below hb (Nat.le_refl _))⟩}
       have HSB2:Hid (∀w7,Hid (Below wr.heap.size wr w7)->Calls Tryz.prog 109 #[.agg #[.slice (some ⟨hb,ho,none⟩) tb.length dg],.int .i64 (y:Int),.int .i64 (i:Int),.int .i64 v] w7 fun e w'=>e=.returned (.int .i64 ((stepN tb y i v:Nat):Int))/\ Hid (Below wr.heap.size wr w')/\ Hid (MkS K [] w0 w')):=by{intro w7 h7;have hm7:MkS K [] w0 w7:=hmw.trans (MkS.of_below h7.out (Nat.le_refl _));refine(step_any tb y i v _ _ w7 K (by have:=h7.out.size;omega) (SlIn.below DnR.kept (hbk _ hm7) HE.out.gb) hy (fun hne=>⟨((gB.table y hy).inner hne).2.2.2.2.1,fun k hk=>(((gB.table y hy).inner hne).2.2.2.2.2.2.2 k hk).1⟩)).mono ?_;rintro e w' ⟨rfl,hb⟩;exact⟨rfl,h7.out.trans (hb.mono h7.out.size),hm7.trans (MkS.of_below hb (Nat.le_refl _))⟩}
       have hsn:foldB d ta tb f m dn x y (L.take (j+1))=((bothG d ta tb f r.1.1 r.1.2 (stepN ta x i v) (stepN tb y i v)).1,r.2++[((bothG d ta tb f r.1.1 r.1.2 (stepN ta x i v) (stepN tb y i v)).2:Int)]):=by{rw[hsnoc];unfold stepB;rw[HHI.out];rfl}
       have hq:=fun w8 (h8:Below wr.heap.size wr w8)=>HIH.out (ownL (.slice ak9 r.2.length ck9)++S) r.1.1 r.1.2 (stepN ta x i v) (stepN tb y i v) w8 (fun b hb=>by have:=hSb2 b hb;have:=h8.size;omega) hFj.inv (by have:=hFj.few;omega) sA.1 sB.1 hfu2 (hLo.out.st.below h8)
       obtain⟨sx,hsx⟩:∃sx,stepN ta x i v=sx:=⟨_,rfl⟩;obtain⟨sy,hsy⟩:∃sy,stepN tb y i v=sy:=⟨_,rfl⟩;rw[hsx]at hsn hq HSA;rw[hsy]at hsn hq HSB2;obtain⟨G,hG⟩:∃G,bothG d ta tb f r.1.1 r.1.2 sx sy=G:=⟨_,rfl⟩;rw[hG]at hsn hq;obtain⟨rr,kn⟩:=G;have HSN:=Lib.hid hsn.symm
       have HBO:Hid (∀w8,Hid (Below wr.heap.size wr w8)->Calls Tryz.prog 104 #[.int .i64 (sx:Int),.int .i64 (sy:Int),.pointer (some ⟨K+3,0,none⟩),.pointer (some ⟨PA,0,none⟩),.pointer (some ⟨PB,0,none⟩),.pointer (some ⟨PD,0,none⟩),.pointer (some ⟨K+1,0,none⟩),.pointer (some ⟨K+4,0,none⟩)] w8 fun e w9=>e=.returned (.int .i64 kn)/\ Hid (StA w0 K (ownL (.slice ak9 r.2.length ck9)++S) rr.1 rr.2 w9/\ MkS K [] wr w9)/\ Hid (MkS K [] w0 w9)):=by{intro w8 h8;refine(hq w8 h8.out).mono ?_;rintro e w9 ⟨rfl,h1,h2⟩;have h3:MkS K [] wr w9:=(MkS.of_below h8.out (Nat.le_refl _)).trans h2;exact⟨rfl,⟨h1,h3⟩,hmw.trans h3⟩}
       have HCL:Hid (∀w',MkS K [] w0 w'->w'.cell? ⟨K+4,0,none⟩=some (.func (.func 104) #[] #[.pointer (some ⟨K+3,0,none⟩),.pointer (some ⟨PA,0,none⟩),.pointer (some ⟨PB,0,none⟩),.pointer (some ⟨PD,0,none⟩),.pointer (some ⟨K+1,0,none⟩),.pointer (some ⟨K+4,0,none⟩)])/\ w'.cell? ⟨PA,0,none⟩=some (.slice (some ⟨gb,go,none⟩) ta.length cg)/\ w'.cell? ⟨PB,0,none⟩=some (.slice (some ⟨hb,ho,none⟩) tb.length dg)):=fun w' hm=>by{have k1:Blk w' (K+4) 134 _:=hm.keep _ _ HE.out.bv (.inr ⟨rfl,by simp⟩);have k2:Blk w' PA 75 _:=hm.keep _ _ HE.out.ab (.inr ⟨rfl,by simp⟩);have k3:Blk w' PB 75 _:=hm.keep _ _ HE.out.bb (.inr ⟨rfl,by simp⟩);exact⟨k1.cell 0,k2.cell 0,k3.cell 0⟩}
       have hrb1:r.2.length<=2000000:=hrb;clear hsn hq hG hsx hsy hsnoc sA sB hrk hle hfu2 hmw hbd hmd hbk hFj hSb2;go_upto_region 21 with(fail);refine wp_region_held_drew (S:=(fun w':World=>Hid (MkS K [] w0 w'))) (by kernel_rfl) HMR (fun hHeld=>?_);refine tp 0 ?_;refine tk 1 ?v1 ?y1 ?_
       case y1=>(intro w9 hSw;obtain⟨y0,y1,y2⟩:=HCL.out w9 hSw.out;go_simp;try with_reducible rfl)
       refine tk 2 ?v2 ?y2 ?_
       case y2=>(intro w9 hSw;obtain⟨y0,y1,y2⟩:=HCL.out w9 hSw.out;go_simp;try with_reducible rfl)
       refine tp 3 ?_;refine tp 4 ?_;refine tp 5 ?_;refine tk 7 ?v7 ?y7 ?_
       case y7=>(intro w9 hSw;obtain⟨y0,y1,y2⟩:=HCL.out w9 hSw.out;go_simp;try with_reducible rfl)
       refine tp 8 ?_;refine tp 9 ?_;refine tp 10 ?_;refine tr 6 (fun K hK=>?_)
       (go_simp;go_at_call 109;refine HSA.out.mono ?_;rintro e w7 ⟨rfl,HB7,HM7⟩)
       refine hK.out _ _ ?_ (fun hHeld=>?_)
       {exact HM7}
       clear hK K
       try simp only[Act.put,sA,sB,sC]
       refine tr 11 (fun K hK=>?_)
       (go_simp;go_at_call 109;refine(HSB2.out w7 HB7).mono ?_;rintro e wb ⟨rfl,HBb,HMb⟩)
       refine hK.out _ _ ?_ (fun hHeld=>?_)
       {exact HMb}
       clear hK K
       try simp only[Act.put,sA,sB,sC]
       refine tr 12 (fun K hK=>?_)
       (go_simp;go_at_call 104;refine(HBO.out wb HBb).mono ?_;rintro e w9 ⟨rfl,HS9,HM9⟩)
       refine hK.out _ _ ?_ (fun hHeld=>?_)
       {exact HM9}
       clear hK K
       try simp only[Act.put,sA,sB,sC]
       refine tr 13 (fun K hK=>?_)
       go_simp
       refine hK.out _ _ ?_ (fun hHeld=>?_)
       {exact HM9.out.alloc _}
       clear hK K
       try simp only[Act.put,sA,sB,sC]
       refine tr 14 (fun K hK=>?_)
       (refine own_step (xs:=r.2) (hLo.out.own9 HS9.out _) (by rfl) _ _ (by rfl) (by rfl) ⟨w9.heap.size,0,none⟩ (by rfl) (by have:=HS9.out.2.size;rw[World.size_alloc];omega) (by omega) (kn:Int) ((Blk.new _ _ _).cell 0) ?_;intro g10 c10 w10 h10 hg10 ha10;have HL10:=Lib.hid (hLo.out.app hsK (by omega) HS9.out hg10 rfl ha10 h10))
       refine hK.out _ _ ?_ (fun hHeld=>?_)
       {exact(HS8.out.stp.trans HL10.out.mks)}
       clear hK K
       try simp only[Act.put,sA,sB,sC]
       refine tp 15 ?_;refine wpAnyH_done (by kernel_rfl) ?_ _;go_wp2;go_roundw
       case rel=>exact⟨j+1,(rr,r.2++[(kn:Int)]),by omega,by go_num,HSN,HL10⟩
       case measure=>simp[intOf];omega
      ·have hje:j=L.length:=by omega
       have hrg:=hr.out;rw[hje,List.take_length]at hrg;have hgg:=HGG.out.symm.trans HEQ.out;rw[<-hrg]at hgg;obtain⟨q9,hq9⟩:∃q9,innerD r.1.1 i L r.2=q9:=⟨_,rfl⟩;rw[hq9]at hgg;have HGQ:=Lib.hid hgg;have hlen2:L.length=r.2.length:=by have:=HRL.out;omega
       have hml9:r.1.1.length<=30000:=by have:=innN_len hFj.inv.made;have:=hFj.few;omega
       have hkk:∀z∈r.2,0<=z/\ z<=30000:=fun z hz=>by{obtain⟨k,hk,rfl⟩:=List.getElem_of_mem hz;have:=hFj.kids k hk;rw[getD_dg _ _ _ hk]at this;omega}
       have hpos:0<r.2.length:=by omega
       have hin:=inner_any K K (ownL (.slice ak9 r.2.length ck9)++S) r.1.1 i L r.2 (.slice (some ⟨g,0,none⟩) L.length sc) (.slice ak9 r.2.length ck9) wr hLo.out.st.is (own_ints (own_mks HO8.out hLo.out.mks ⟨by decide,by decide⟩ (by simp))) (own_ints hLo.out.own) hSb2
        (by omega) (fun e=>by rw[e]at hpos;simp at hpos) hlen2 (by omega) (by omega) (fun z hz=>by have:=HSR.out z hz;exact⟨by omega,by omega⟩) (fun z hz=>by have:=hkk z hz;exact⟨by omega,by omega⟩)
        (by
         rw[getD_dg _ _ _ hpos]
         exact(hkk _ (List.getElem_mem _)).1) (HE.out.tab.on (hLo.out.st.stp.below (by omega)))
       rw[hq9]at hin;have HQ:=Lib.hid hin;have hmv2:=(hLo.out.st.blk HE.out.mv ⟨by decide,by decide⟩).cell 0;have HMR:Hid (MkS K [] W wr):=HM8.out.trans hLo.out.mks;clear hin hgg hrg hq9 hFj hlen2 hSb2 hje hkk hpos hml9;go_upto_region 24 with(go_at_call 110;refine HQ.out.mono ?_;rintro e w11 ⟨rfl,h2,h3⟩;have HS11:=Lib.hid (hLo.out.st.step h3 h2);have HM11:=Lib.hid h3.s;clear h2 h3);have hdv2:=(HS11.out.blk HE.out.dv ⟨by decide,by decide⟩).cell 0;obtain⟨mp2,hm2,hmp2⟩:=HS11.out.memo;obtain⟨W2,hrun2,hm3,hu3⟩:=run_storeP Tryz.underlying133 hm2 (x,y) (q9.2:Int);have hrun3:(Instr.mapUpdate 133 (.map (some (K+2))) (.agg #[.int .i64 (x:Int),.int .i64 (y:Int)]) (.int .i64 (q9.2:Int))).run Tryz.prog w11=.ok () W2:=hrun2;have HLE:=Lib.hid (HS11.out.learn hmp2 hu3 hm3 hm2);clear hmp2 hm3 hu3 hmv2 hm2 hrun2;go_wp2;go_ret;rw[HGQ.out];exact⟨rfl,HLE.out.1.less (fun k hk=>List.mem_append_right _ hk),(HMR.out.trans HM11.out).trans HLE.out.2⟩
end Go.Proofs.YtihniipjfdenbaaGreatDoor
