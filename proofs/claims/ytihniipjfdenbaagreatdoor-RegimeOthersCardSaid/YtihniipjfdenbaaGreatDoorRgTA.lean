/- The walks of cmp.Compare[string], cmp.Or[int] and regime.before: how steps compare. A bound on the days. -/
import Derived.Test.YtihniipjfdenbaaGreatDoorRgSA
import Derived.Sort.MapsRangeIn
set_option maxRecDepth 100000
set_option maxHeartbeats 4000000
namespace Go.Proofs.YtihniipjfdenbaaGreatDoor
open Go.RowKit
open Go.ChangeMaps (setBlock)
def decK :Value->ByteArray×Int
 | .agg a=>match a.toList with| [.string s,.int _ i]=>(s,i)| _=>(⟨#[]⟩,0)
 | _=>(⟨#[]⟩,0)
theorem decK_ek (k:ByteArray×Int):decK (ekK k)=k:=rfl
theorem perm_pick (e:MapEntry):∀L:List MapEntry,e∈L->(L.map (·.born)).Nodup->L.Perm (e::L.filter fun x=>x.born !=e.born)
 | [],h,_=>by cases h
 | a::L,h,hn=>by
  obtain⟨n1,n2⟩:=List.nodup_cons.1 hn;by_cases hae:a=e
  {subst hae;rw[List.filter_cons,if_neg (by simp),List.filter_eq_self.2 fun x hx=>?_];(have:x.born≠a.born:=fun h2=>n1 (List.mem_map.2 ⟨x,hx,h2⟩));simpa using this}
  ·have he:e∈L:=by
    rcases List.mem_cons.1 h with h | h
    {exact absurd h.symm hae}
    {exact h}
   have hb:a.born≠e.born:=fun h2=>n1 (List.mem_map.2 ⟨e,he,h2.symm⟩)
   rw[List.filter_cons,if_pos (by simpa using hb)];exact((perm_pick e L he n2).cons a).trans (List.Perm.swap e a _)
theorem left_push (es:Array MapEntry)(seen:Array Nat)(b:Nat):(leftOf es (seen.push b)).toList=(leftOf es seen).toList.filter fun x=>x.born !=b:=by
 unfold leftOf;rw[Array.toList_filter,Array.toList_filter,List.filter_filter];congr 1
 funext e;rw[Array.contains_push];cases seen.contains e.born<;>cases h:(e.born==b)<;>simp_all
section
variable {ν : Type} {ev : ν -> Value}
structure ItK (ev : ν -> Value) (w : World) (b r : Nat) (l : List ((ByteArray × Int) × ν)) (ss : List (ByteArray × Int)) (n : Nat) : Prop where
 is:∃(es:Array MapEntry) (c since:Nat) (seen:Array Nat) (c0:Nat),w.heap[b]? =some (.map es c)/\ es.toList.map (fun e=>(e.key,e.val))=l.map (fun p=>(ekK p.1,ev p.2))/\ (es.toList.map (·.born)).Nodup/\
  w.heap[r]? =some (.mapIter (some b) since seen c0)/\ (∀x∈es.toList,x.born<since)/\ since<=c0/\ since<=c/\ (leftOf es seen).size=n/\ (ss++(leftOf es seen).toList.map fun e=>decK e.key).Perm (l.map (·.1))
theorem ItK.walks {w w':World}{b r n:Nat}{l:List ((ByteArray×Int)×ν)}{ss:List (ByteArray×Int)}(h:ItK ev w b r l ss n)(hk:KeepsWalks w w'):ItK ev w' b r l ss n:=by
 obtain⟨es,c,since,seen,c0,h1,h2,h3,h4,h5⟩:=h.is;exact⟨es,c,since,seen,c0,hk.same b _ h1 rfl,h2,h3,hk.same r _ h4 rfl,h5⟩
theorem ItK.len {w:World}{b r n:Nat}{l:List ((ByteArray×Int)×ν)}{ss:List (ByteArray×Int)}(h:ItK ev w b r l ss n):ss.length+n=l.length:=by
 obtain⟨es,c,since,seen,c0,_,_,_,_,_,_,_,h6,h7⟩:=h.is;have:=h7.length_eq;simp only[List.length_append,List.length_map,Array.length_toList]at this;omega
theorem ItK.all {w:World}{b r:Nat}{l:List ((ByteArray×Int)×ν)}{ss:List (ByteArray×Int)}(h:ItK ev w b r l ss 0):ss.Perm (l.map (·.1)):=by
 obtain⟨es,c,since,seen,c0,_,_,_,_,_,_,_,h6,h7⟩:=h.is;rw[Array.eq_empty_of_size_eq_zero h6]at h7
 simpa using h7
theorem ItK.iter {w:World}{b r n:Nat}{l:List ((ByteArray×Int)×ν)}{ss:List (ByteArray×Int)}(h:ItK ev w b r l ss n):∃o:Obj,w.heap[r]? =some o/\ o.isWalk=true:=by
 obtain⟨es,c,since,seen,c0,_,_,_,h4,_⟩:=h.is;exact⟨_,h4,rfl⟩
theorem keys_dec {l:List ((ByteArray×Int)×ν)}{es:List MapEntry}(h:es.map (fun e=>(e.key,e.val))=l.map (fun p=>(ekK p.1,ev p.2))):es.map (fun e=>decK e.key)=l.map (·.1)/\ ∀e∈es,e.key=ekK (decK e.key):=by
 have h1:es.map (·.key)=l.map fun p=>ekK p.1:=by{have:=congrArg (List.map Prod.fst) h;simpa[List.map_map,Function.comp_def]using this}
 refine⟨?_,fun e he=>?_⟩
 {have:=congrArg (List.map decK) h1;simpa[List.map_map,Function.comp_def,decK_ek]using this}
 {have:e.key∈es.map (·.key):=List.mem_map_of_mem he;rw[h1]at this;obtain⟨p,_,hp⟩:=List.mem_map.1 this;rw[<-hp,decK_ek]}
theorem ItK.next {w:World}{b r n:Nat}{l:List ((ByteArray×Int)×ν)}{ss:List (ByteArray×Int)}(h:ItK ev w b r l ss n)(hbr:b≠r)(ty:TypeId):
  (n=0/\ (Instr.next (.pointer (some ⟨r,0,none⟩)) false ty).run Tryz.prog w=.ok (.tuple #[.bool false]) w)\/
  ∃(k:ByteArray×Int) (v:Value) (w':World) (m:Nat),n=m+1/\ (Instr.next (.pointer (some ⟨r,0,none⟩)) false ty).run Tryz.prog w=.ok (.tuple #[.bool true,ekK k,v]) w'/\ ItK ev w' b r l (ss++[k]) m/\ w.grownBy w' (some r)/\ w'.heap.size=w.heap.size/\
   (Instr.entry (.pointer (some ⟨r,0,none⟩))).run Tryz.prog w'=.ok (.tuple #[ekK k,v]) w':=by
 obtain⟨es,c,since,seen,c0,h1,h2,h3,h4,h5,h6,h6',h7,h8⟩:=h.is;obtain⟨hk1,hk2⟩:=keys_dec h2;have hrl:=(Array.getElem?_eq_some_iff.1 h4).1;rcases run_next_at (P:=Tryz.prog) w ty r b since c0 seen es c h4 h1 h5 h6 with⟨g1,g2⟩ | ⟨e,he,w1,hw1,hrun⟩
 {exact .inl ⟨by omega,g2⟩}
 {have hem:=(mem_left he).1;have hp:(leftOf es seen).toList.Perm (e::(leftOf es (seen.push e.born)).toList):=by{rw[left_push];refine perm_pick e _ he ?_;unfold leftOf;rw[Array.toList_filter];exact(List.Sublist.map _ List.filter_sublist).nodup h3};(have hb1:w1.heap[b]? =some (.map es c):=by rcases hw1 with rfl | rfl<;>exact h1);(have hsz1:w1.heap.size=w.heap.size:=by rcases hw1 with rfl | rfl<;>rfl);have hbs:(setBlock w1 r (.mapIter (some b) since (seen.push e.born) c)).heap[b]? =some (.map es c):=by{simp[setBlock,Ne.symm hbr,hb1]};have hrs:(setBlock w1 r (.mapIter (some b) since (seen.push e.born) c)).heap[r]? =some (.mapIter (some b) since (seen.push e.born) c):=by{simp[setBlock,hsz1,hrl]};have hln:=hp.length_eq;simp only[List.length_cons,Array.length_toList]at hln;refine .inr ⟨decK e.key,e.val,setBlock w1 r (.mapIter (some b) since (seen.push e.born) c),(leftOf es (seen.push e.born)).size,by omega,?_,⟨es,c,since,seen.push e.born,c,hbs,h2,h3,hrs,h5,h6',h6',rfl,?_⟩,?_,by simp[setBlock,hsz1],?_⟩;{rw[<-hk2 e hem];exact hrun};{refine List.Perm.trans ?_ h8;rw[List.append_assoc];refine List.Perm.append_left ss ?_;have:=(hp.map fun e=>decK e.key).symm;simpa using this};{refine⟨?_,?_,?_,by simp[setBlock,hsz1],fun k hk hne=>?_⟩;{rcases hw1 with rfl | rfl<;>rfl};{rcases hw1 with rfl | rfl<;>rfl};{rcases hw1 with rfl | rfl<;>rfl};{(have:k≠r:=fun e=>hne (by rw[e]));(rcases hw1 with rfl | rfl);{simp[setBlock,Ne.symm this]};{simp[setBlock,Ne.symm this];rfl}}};{rw[<-hk2 e hem];exact run_entry_at (P:=Tryz.prog) _ r b since seen es c e hrs hbs hem h3}}
theorem run_rangeB {T E:TypeId}(ht:Tryz.prog.underlying T=some (.map 59 E)){w:World}{b:Nat}{l:List ((ByteArray×Int)×ν)}(h:MapB ev w b l):
  ∃w',(Instr.range T (.map (some b))).run Tryz.prog w=.ok (.pointer (some ⟨w.heap.size,0,none⟩)) w'/\ ItK ev w' b w.heap.size l [] l.length/\ w.grownBy w' none/\ w'.heap.size=w.heap.size+1:=by
 obtain⟨es,c,h1,h2,h3,h4⟩:=h.is;have hlt:=h.lt;refine⟨_,run_range_map w T _ _ b es c ht h1,⟨es,c,c,#[],c,(heap_alloc_old w _ hlt).trans h1,h2,h3,heap_alloc_new w _,h4,Nat.le_refl _,Nat.le_refl _,?_,?_⟩,⟨rfl,rfl,rfl,by simp,fun k hk _=>heap_alloc_old w _ hk⟩,by simp⟩
 {(have e:leftOf es #[]=es:=by unfold leftOf;simp);have:=congrArg List.length h2;rw[e, <-Array.length_toList];simpa using this}
 {(have e:leftOf es #[]=es:=by unfold leftOf;simp);rw[e,(keys_dec h2).1];exact List.Perm.refl _}
end
section
attribute [local go_sem] Oper.semAt_some
theorem ItK.left {ν:Type}{ev:ν->Value}{w:World}{b r n:Nat}{l:List ((ByteArray×Int)×ν)}{ss:List (ByteArray×Int)}(h:ItK ev w b r l ss n):w.rangeLeft b r=n:=by
 obtain⟨es,c,since,seen,c0,h1,_,_,h4,_,_,_,h6,_⟩:=h.is;unfold World.rangeLeft;rw[h1,h4];exact h6
section
variable {ν : Type} {ev : ν -> Value}
theorem wpListIn_nextK {F:Fence}{n:Nat}{ops:Array Oper}{Q:Exit->Act->World->Prop}{rest:List Oper}{o:Oper}{a:Act}{w:World}(hg:o.guard=none)(it:Operand)(hop:o.op=Op.next it false){b r k:Nat}{l:List ((ByteArray×Int)×ν)}{ss:List (ByteArray×Int)}
  (hit:a.eval it=.pointer (some ⟨r,0,none⟩)) (h:ItK ev w b r l ss k) (hbr:b≠r)
  (hDone:k=0->wpListIn F n Tryz.prog ops Q rest (a.put o.dst (.tuple #[.bool false])) w)
  (hMore:∀(x:ByteArray×Int) (v:Value) (w':World) (m:Nat),k=m+1->ItK ev w' b r l (ss++[x]) m->w.grownBy w' (some r)->w'.heap.size=w.heap.size->(Instr.entry (.pointer (some ⟨r,0,none⟩))).run Tryz.prog w'=.ok (.tuple #[ekK x,v]) w'->
   wpListIn F n Tryz.prog ops Q rest (a.put o.dst (.tuple #[.bool true,ekK x,v])) w'):wpListIn F n Tryz.prog ops Q (o::rest) a w:=by
 refine wpListIn_plain hg fun K' hK'=>?_
 unfold Oper.wpIn;refine⟨by simp[Oper.about,hop],?_⟩;rw[Oper.semAt_plain F _ _ (by rw[hop];intro c hc';cases hc')];rcases h.next hbr o.type with⟨h0,hrun⟩ | ⟨x,v,w',m,hm,hrun,hi,hgr,hsz,hen⟩
 {simp[execOp,hop,hit,hrun,Result.andThen];exact hK' _ _ (hDone h0)}
 {simp[execOp,hop,hit,hrun,Result.andThen];exact hK' _ _ (hMore x v w' m hm hi hgr hsz hen)}
end
theorem keys1_any (n:Nat)(Bm b:Nat)(l:List (Key×Value))(w:World)(hm:Blk w Bm 54 #[.map (some b)])(hmp:MapB (fun v:Value=>v) w b l):
  SeqStopsK Fence.wide n Tryz.prog 62 #[.pointer (some ⟨Bm,0,none⟩)] (fun k:Key=>#[ekK k]) KeepsWalks (fun ks=>ks.Perm (l.map (·.1))) (fun _=>True) l.length w:=
 fun lp J Jx W hW hJ hJx hY h0=>by
 have hno:∀k:Nat,(Fence.wide.depth.isSome=true->1<=k):=fun k h=>by cases h
 have hY':∀m pre (x:Key) W,J pre W->pre.length<l.length->YieldAt Fence.wide m Tryz.prog lp #[ekK x] W fun e W'=>(e=.returned (.bool true)/\ J (pre++[x]) W'/\ KeepsWalks W W')\/(e=.returned (.bool false)/\ Jx (pre++[x]) W'):=fun m pre x W hj hl=>anyDepth rfl m (hY pre x W hj hl)
 have hmW:=hm.below hW;have c0:=hmW.cell 0;simp only[List.getElem?_toArray,List.getElem?_cons_zero]at c0;have hmp':=hmp.below hW hmp.lt;have hbl:=hmp'.lt;obtain⟨w0,hrun,hit,hg0,hs0⟩:=run_rangeB Tryz.underlying54 hmp';have HIT:=Lib.hid hit;have HG0:=Lib.hid hg0;have HJ0:Hid (J [] w0):=hJ [] W w0 none h0 hg0 (fun r e=>by cases e);clear hit hg0 hs0 hW hmW hmp' hY;refine callsIn_of_wp Tryz.func62 rfl trivial ?_ rfl;simp only[Tryz.ntmps62,List.size_toArray,List.length_cons,List.length_nil,Nat.reduceAdd,Nat.reduceSub,Array.replicate_succ,Array.replicate_zero,List.push_toArray,List.append_toArray,List.nil_append,List.cons_append];gi_wp2;gi_loopw [3] (fun _ wr=>∃(ss:List Key) (m:Nat),Hid (ItK (fun v:Value=>v) wr b W.heap.size l ss m)/\ Hid (J ss wr)) (fun _ wr=>wr.rangeLeft b W.heap.size)
 case atStart=>exact⟨[],l.length,HIT,HJ0⟩
 case round=>
  obtain⟨ss,m,HI,HJ⟩:=hrel
  gi_wp2_with (first
   | (gi_at_next;refine wpListIn_nextK rfl _ rfl rfl HI.out (by omega) ?_ ?_)
   | gi_in)
  {intro hm0;subst hm0;gi_wp2;go_end0;exact⟨⟨_,rfl⟩,.inl ⟨ss,HI.out.all,HJ.out⟩⟩}
  {intro xq xd v w2 m2 hm2 hi2 hg2 hs2 hen;(have hlen:ss.length<l.length:=by have:=HI.out.len;omega);have HI2:=Lib.hid hi2;have hJ2:J ss w2:=hJ ss _ w2 (some W.heap.size) HJ.out hg2 (fun r e=>by cases e;exact⟨Nat.le_refl _,HI.out.iter⟩);have HJ2:=Lib.hid hJ2;have hek:ekK (xq,xd)=.agg #[.string xq,.int .i64 xd]:=rfl;have hY2:=hY' (n-1) ss (xq,xd) (w2.alloc (.cells #[.string xq,.int .i64 xd] 59)) (abides_below hJ hJ2 ((Below.refl _ _).alloc (Nat.le_refl _) _)) hlen;rw[hek]at hen hY2⊢;have HI3:=Lib.hid (HI2.out.walks (KeepsWalks.alloc w2 (.cells #[.string xq,.int .i64 xd] 59)));obtain⟨fn,tmps,assign,body,hy,hR⟩:=hY2;clear hs2 hi2 hg2 hJ2 hek;gi_wp2;refine⟨hno _,hR.mono ?_⟩;rintro e W3 (⟨rfl,hJ3,hk3⟩ | ⟨rfl,hJ3⟩);{gi_wp2;have HI4:=Lib.hid (HI3.out.walks hk3);have HJ4:=Lib.hid hJ3;go_roundw;(case rel=>exact⟨_,m2,HI4,HJ4⟩);case measure=>rw[HI4.out.left,HI.out.left];omega};{gi_wp2;refine bodyPost_ret (results_none rfl _ _ _) rfl ?_;exact⟨⟨_,rfl⟩,.inr ⟨_,trivial,hJ3⟩⟩}}
def kC (k:Key):List Value:=[.string k.1,.int .i64 k.2]
theorem stepInfo :(Tryz.prog.info? 59).map (fun i=>(i.zero,i.size,i.bytes))=some (some (.agg #[.string ⟨#[]⟩,.int .i64 0]),2,24):=by kernel_rfl
theorem keeps_walks {W W':World}(h:KeepsOthers W W')(hs:W.heap.size<=W'.heap.size):KeepsWalks W W':=⟨hs,fun k o hk hw=>h.same k o hk (Obj.not_cells_of_walk hw)⟩
theorem appSeq_any (Bm b:Nat)(l:List (Key×Value))(w:World)(hm:Blk w Bm 54 #[.map (some b)])(hmp:MapB (fun v:Value=>v) w b l)(hn:l.length<=60):
  Calls Tryz.prog 90 #[.slice none 0 0,(.func (.func 62) #[] #[.pointer (some ⟨Bm,0,none⟩)])] w fun e w'=>∃(v:Value) (ks:List Key),e=.returned v/\ ks.Perm (l.map (·.1))/\ w'.ownsRow w.heap.size 59 2 v ks.length (ks.flatMap kC)/\ Below w.heap.size w w':=by
 refine(callsIn_wide (n:=3)).1 ?_;refine callsIn_of_wp_marks Tryz.func90 rfl trivial ?_ rfl;simp only[Tryz.ntmps90,List.size_toArray,List.length_cons,List.length_nil,Nat.reduceAdd,Nat.reduceSub,Array.replicate_succ,Array.replicate_zero,List.push_toArray,List.append_toArray,List.nil_append,List.cons_append];gi_wp2;have k0:=Boxed.new w 56 (.slice none 0 0);have hb0:Below w.heap.size w (w.alloc (.cells #[.slice none 0 0] 56)):=(Below.refl _ _).alloc (Nat.le_refl _) _;have hmw:=hm.below hb0;have hmpw:=hmp.below hb0 hmp.lt;have hs0:(w.alloc (.cells #[.slice none 0 0] 56)).heap.size=w.heap.size+1:=World.size_alloc ..;generalize w.alloc (.cells #[.slice none 0 0] 56)=W0 at*
 refine wpIn_rangeFunc_ownH (F:=Fence.wide) (n:=3) rfl (by omega) (gf:=62) (lb:=#[.pointer (some ⟨Bm,0,none⟩)]) rfl trivial (enters_of Tryz.func62 (by kernel_rfl) rfl)
  (keys1_any 2 Bm b l W0 hmw hmpw) (fun h k=>h.trans k) (fun W l o o' _ h _ hw=>KeepsWalks.putObj o' h hw) (Below.refl _ _) (fun _=>rfl)
  (fun(pre:List Key) W=>(∃v,Boxed W w.heap.size 56 v/\ W.ownsRow w.heap.size 59 2 v pre.length (pre.flatMap kC)/\ True)/\ Below w.heap.size w W)
  (fun _ (_:List Key) _=>False)
  (OwnFrom.and (Own.from (holdsRow_own w.heap.size w.heap.size 56 59 2 (fun pre:List Key=>pre.length) (fun pre=>pre.flatMap kC) (fun _ _=>True)) _) (ownFrom_below (Nat.le_refl _) (by omega)))
  (fun c s A B row hs hg hr=>hs)
  ⟨⟨_,k0,World.ownsRow_nil _ _ _ _,trivial⟩,hb0⟩
  (fun x a' W=>∃Bx,w.heap.size<Bx/\ Blk W Bx 59 #[.string x.1,.int .i64 x.2]/\ a'={tmps:=#[.slice none 0 0,(.func (.func 62) #[] #[.pointer (some ⟨Bm,0,none⟩)]),.pointer (some ⟨w.heap.size,0,none⟩),undef,.slice none 0 0,.pointer (some ⟨Bx,0,none⟩),(.func (.func 62) #[] #[.pointer (some ⟨Bm,0,none⟩)]),.agg #[.string x.1,.int .i64 x.2],undef,undef,undef,undef,undef],defers:=[]})
  (fun x a' u A B row hs hg hr=>by
   obtain⟨Bx,h1,h2,h3⟩:=hs
   refine⟨Bx,h1,(hg.block Bx h2.lt (fun e=>?_)).trans h2,h3⟩
   obtain⟨_,o,ho,hcl⟩:=hr Bx e.symm
   rw[show A.heap[Bx]? =_ from h2]at ho;cases ho;cases hcl)
  ?assign ?body ?done ?stop
 case assign=>(rintro lp pre ⟨xq,xd⟩ W K ⟨⟨v,hv,hrow,_⟩,hB⟩ hK;have HK:=Lib.hid hK;clear hK;have hek:ekK (xq,xd)=.agg #[.string xq,.int .i64 xd]:=rfl;simp only[hek];gi_wp2;have hbl:Below W.heap.size W (W.alloc (.cells #[.string xq,.int .i64 xd] 59)):=(Below.refl _ W).alloc (Nat.le_refl _) _;exact HK.out _ _ ((KeepsOthers.alloc W _).from _) (KeepsWalks.alloc _ _) ⟨⟨v,hv.alloc _,hrow.alloc _,trivial⟩,hB.trans (hbl.mono hB.size)⟩ ⟨W.heap.size,hv.lt,Blk.new W 59 _,rfl⟩)
 case body=>(rintro lp pre ⟨xq,xd⟩ a' W hl ⟨r,hr⟩ ⟨⟨v,hv,hrow,_⟩,hB⟩ ⟨Bx,hBx,bX,rfl⟩ hlt;have x0:W.cell? ⟨Bx,0,none⟩=some (.string xq):=bX.cell 0;have x1:W.cell? ⟨Bx,1,none⟩=some (.int .i64 xd):=bX.cell 1;have c3:=hv.cell;have z3:=hv.frozen;have HB:=Lib.hid hB;obtain⟨i0,hi,hz0,hz1,hz2⟩:=info_parts stepInfo;have hvl:=hv.lt;obtain⟨va,vn,vc,rfl⟩:=own_shape hrow;have HROW:=Lib.hid hrow;clear bX hrow hB;gi_wp2_with (gi_at_builtin;refine wpListIn_append_own _ rfl _ _ 56 rfl w.heap.size 59 i0 _ 2 24 Tryz.underlying56 hi hz0 hz1 hz2 rfl (by decide) _ _ _ rfl (HROW.out.alloc _) ⟨W.heap.size,0,none⟩ 1 1 [.string xq,.int .i64 xd] rfl rfl (new_cells W 59 [.string xq,.int .i64 xd]) (by simp[Value.oneCell']) (by unfold maxLen;omega) (by omega) (by simp;omega) ?_;intro v' w1 hown' hgrow _;obtain⟨g',cap',rfl⟩:=ownsRow_succ hown';have hv1:=(hv.alloc (.cells #[.string xq,.int .i64 xd] 59)).kept hgrow (hv.not_row (by decide) HROW.out);have hc1:=hv1.cell;have hf1:=hv1.frozen;have HG:=Lib.hid hgrow;have HO:=Lib.hid hown';clear hgrow hown');obtain⟨a0,a1,a2,a3,a4⟩:=Boxed.appended hv (by decide) HROW.out (by have:=HB.out.size;omega) (Nat.le_refl _) HO.out HG.out;refine⟨a3.from _,keeps_walks a3 a4.size,⟨_,a1,?_⟩,HB.out.trans a4⟩;(have e1:(pre++[(xq,xd)]).length=pre.length+1:=by simp);(have e2:(pre++[(xq,xd)]).flatMap kC=pre.flatMap kC++[.string xq,.int .i64 xd]:=by rw[List.flatMap_append];rfl);rw[e1,e2];exact a2)
 case done=>(rintro D xs W hD hS ⟨⟨v,hv,hrow,_⟩,hB⟩ hK;obtain⟨va,vn,vc,rfl⟩:=own_shape hrow;have c3:=hv.cell;have z3:=hv.frozen;have HS:=Lib.hid hS;have HK:=Lib.hid hK;have HR:=Lib.hid (ownsRow_putObj hrow (.deferred none) hK rfl);have HB:=Lib.hid (hB.trans (belowK_b (w:=w) (Nat.le_refl _) W D (.deferred (some [])) (.deferred none) (by omega) hK rfl rfl));clear hS hK hrow hB;gi_wp2;refine⟨by simp,.inl ⟨_,_,rfl,run_takeDeferred HK.out,?_⟩⟩;refine⟨_,results_tmp rfl _ _ _,?_⟩;exact⟨.slice va vn vc,xs,rfl,HS.out,HR.out,HB.out⟩)
 case stop=>exact fun D c pre W hD hS h _=>h.elim
theorem collect_any (Bm b:Nat)(l:List (Key×Value))(w:World)(hm:Blk w Bm 54 #[.map (some b)])(hmp:MapB (fun v:Value=>v) w b l)(hn:l.length<=60):
  Calls Tryz.prog 60 #[(.func (.func 62) #[] #[.pointer (some ⟨Bm,0,none⟩)])] w fun e w'=>∃(v:Value) (ks:List Key),e=.returned v/\ ks.Perm (l.map (·.1))/\ w'.ownsRow w.heap.size 59 2 v ks.length (ks.flatMap kC)/\ Below w.heap.size w w':=by
 have HA:=Lib.hid (appSeq_any Bm b l w hm hmp hn);go_enter Tryz.func60,Tryz.ntmps60;go_wp2_with (go_at_call 90;refine HA.out.mono ?_;rintro e w2 ⟨v,ks,rfl,hp,hr,hb⟩);go_ret;exact⟨v,ks,rfl,hp,hr,hb⟩
theorem keys_any (mb:Nat)(w:World):Calls Tryz.prog 29 #[.map (some mb)] w fun e w'=>e=.returned (.func (.func 62) #[] #[.pointer (some ⟨w.heap.size,0,none⟩)])/\ w'=w.alloc (.cells #[.map (some mb)] 54):=by
 go_enter Tryz.func29,Tryz.ntmps29;go_wp2;go_ret;exact⟨rfl,rfl⟩
end
def cmpS (x y:ByteArray):Int:=if x.toList<y.toList then-1 else if y.toList<x.toList then 1 else 0
def cmpK (a b:Key):Int:=if cmpS a.1 b.1≠0 then cmpS a.1 b.1 else a.2-b.2
theorem isNaNS_any (s:ByteArray)(w:World):Calls Tryz.prog 93 #[.string s] w fun e w'=>e=.returned (.bool false)/\ w=w':=by
 go_enter Tryz.func93,Tryz.ntmps93;have h:(s.toList !=s.toList)=false:=by simp
 go_wp2;go_ret;exact⟨rfl,rfl⟩
theorem compareS_any (x y:ByteArray)(w:World):Calls Tryz.prog 64 #[.string x,.string y] w fun e w'=>e=.returned (.int .i64 (cmpS x y))/\ w=w':=by
 have HR:Hid (cmpS x y=if x.toList<y.toList then-1 else if y.toList<x.toList then 1 else 0):=rfl;generalize cmpS x y=R at*
 by_cases h1:x.toList<y.toList
 {(have HS:Hid (R= -1):=by show _=_;rw[HR.out,if_pos h1]);(have g1:Op.bytesLess x.toList y.toList=true:=by rw[bytesLess_eq];exact decide_eq_true h1);clear HR h1;(go_enter Tryz.func64,Tryz.ntmps64;go_wp2_with (go_at_call 93;refine(isNaNS_any _ _).mono ?_;rintro e w2 ⟨rfl,rfl⟩);go_ret;exact⟨by rw[HS.out];rfl,rfl⟩)}
 {(have g1:Op.bytesLess x.toList y.toList=false:=by rw[bytesLess_eq];exact decide_eq_false h1);by_cases h2:y.toList<x.toList;{(have HS:Hid (R=1):=by show _=_;rw[HR.out,if_neg h1,if_pos h2]);have g2:(x.toList==y.toList)=false:=by{rw[beq_eq_false_iff_ne];intro e;rw[e]at h2;exact List.lt_irrefl _ h2};clear HR h1 h2;(go_enter Tryz.func64,Tryz.ntmps64;go_wp2_with (go_at_call 93;refine(isNaNS_any _ _).mono ?_;rintro e w2 ⟨rfl,rfl⟩);go_ret;exact⟨by rw[HS.out];rfl,rfl⟩)};{(have HS:Hid (R=0):=by show _=_;rw[HR.out,if_neg h1,if_neg h2]);have g2:(x.toList==y.toList)=true:=by{rw[beq_iff_eq];exact List.le_antisymm h2 h1};clear HR h1 h2;(go_enter Tryz.func64,Tryz.ntmps64;go_wp2_with (go_at_call 93;refine(isNaNS_any _ _).mono ?_;rintro e w2 ⟨rfl,rfl⟩);go_ret;exact⟨by rw[HS.out];rfl,rfl⟩)}}
theorem or2_any (x y:Int)(w:World)(b c:Nat)(h0:w.cell? ⟨b,0,none⟩=some (.int .i64 x))(h1:w.cell? ⟨b,1,none⟩=some (.int .i64 y)):Calls Tryz.prog 63 #[.slice (some ⟨b,0,none⟩) 2 c] w fun e w'=>e=.returned (.int .i64 (if x≠0 then x else y))/\ w=w':=by
 obtain⟨R,hR⟩:∃R,(if x≠0 then x else y)=R:=⟨_,rfl⟩;rw[hR];have HR:Hid ((if x≠0 then x else y)=R):=hR;clear hR;go_enter Tryz.func63,Tryz.ntmps63;go_wp2
 go_loopw [8] (fun iv wr=>∃(k:Nat),k<=2/\ iv=.int .i64 k/\ wr=w/\ Hid (1<=k->x=0)/\ Hid (2<=k->y=0)) (fun iv _=>2-(intOf iv).toNat)
 case atStart=>exact⟨0,by omega,rfl,rfl,fun h=>by omega,fun h=>by omega⟩
 case round=>
  obtain⟨k,hk,rfl,rfl,HX,HY⟩:=hrel
  match k,hk with| 0,_=>{by_cases hx:x=0;{(have gx:(x !=0)=false:=by simpa using hx);(have HX1:Hid (1<=0+1->x=0):=fun _=>hx);(have HY1:Hid (2<=0+1->y=0):=fun h=>by omega);go_wp2;go_roundw;(case rel=>exact⟨0+1,by omega,by go_num,by first | trivial | rfl,HX1,HY1⟩);case measure=>simp[intOf]};{(have gx:(x !=0)=true:=by simpa using hx);(have HS:Hid (R=x):=by show _=_;rw[<-HR.out,if_pos hx]);go_wp2;go_ret;exact⟨by rw[HS.out];rfl,rfl⟩}}| 1,_=>{have hx:x=0:=HX.out (by omega);by_cases hy:y=0;{(have gy:(y !=0)=false:=by simpa using hy);(have HX1:Hid (1<=1+1->x=0):=fun _=>hx);(have HY1:Hid (2<=1+1->y=0):=fun _=>hy);go_wp2;go_roundw;(case rel=>exact⟨1+1,by omega,by go_num,by first | trivial | rfl,HX1,HY1⟩);case measure=>simp[intOf]};{(have gy:(y !=0)=true:=by simpa using hy);(have HS:Hid (R=y):=by show _=_;rw[<-HR.out,if_neg (by simpa using hx)]);go_wp2;go_ret;exact⟨by rw[HS.out];rfl,rfl⟩}}| 2,_=>{(have HS:Hid (R=0):=by show _=_;rw[<-HR.out,if_neg (by simpa using HX.out (by omega)),HY.out (by omega)]);go_wp2;go_ret;exact⟨by rw[HS.out];rfl,rfl⟩}
theorem before_any (a b:Key)(w:World)(ha:0<=a.2/\ a.2<=1000000)(hb:0<=b.2/\ b.2<=1000000):Calls Tryz.prog 30 #[ekK a,ekK b] w fun e w'=>e=.returned (.int .i64 (cmpK a b))/\ ∃q os,w'=Go.Sort.grow (w.drewN q) os:=by
 obtain⟨aq,ad⟩:=a;obtain⟨bq,bd⟩:=b;obtain⟨a1,a2⟩:=ha;obtain⟨b1,b2⟩:=hb
 show Calls Tryz.prog 30 #[.agg #[.string aq,.int .i64 ad],.agg #[.string bq,.int .i64 bd]] w _
 have HR:Hid (cmpK (aq,ad) (bq,bd)=if cmpS aq bq≠0 then cmpS aq bq else ad-bd):=rfl;generalize cmpK (aq,ad) (bq,bd)=R at*
 have hc:=compareS_any aq bq;generalize cmpS aq bq=C at*
 have hw:W64 (ad-bd):=⟨by omega,by omega⟩;have k0:=(Blk.new w 59 #[.string aq,.int .i64 ad]).below ((Below.refl _ _).alloc (Nat.le_refl _) (.cells #[.string bq,.int .i64 bd] 59));have k1:=Blk.new (w.alloc (.cells #[.string aq,.int .i64 ad] 59)) 59 #[.string bq,.int .i64 bd];rw[World.size_alloc]at k1;have HB1:Hid (Below w.heap.size w ((w.alloc (.cells #[.string aq,.int .i64 ad] 59)).alloc (.cells #[.string bq,.int .i64 bd] 59))):=((Below.refl _ _).alloc (Nat.le_refl _) _).alloc (by simp) _
 have HKP:Hid (∀w',Hid (Below (((w.alloc (.cells #[.string aq,.int .i64 ad] 59)).alloc (.cells #[.string bq,.int .i64 bd] 59))).heap.size ((w.alloc (.cells #[.string aq,.int .i64 ad] 59)).alloc (.cells #[.string bq,.int .i64 bd] 59)) w')->(w'.cell? ⟨w.heap.size,0,none⟩=some (.string aq)/\ w'.cell? ⟨w.heap.size,1,none⟩=some (.int .i64 ad)/\ w'.cell? ⟨w.heap.size+1,0,none⟩=some (.string bq)/\ w'.cell? ⟨w.heap.size+1,1,none⟩=some (.int .i64 bd))/\ Hid (Below (((w.alloc (.cells #[.string aq,.int .i64 ad] 59)).alloc (.cells #[.string bq,.int .i64 bd] 59))).heap.size ((w.alloc (.cells #[.string aq,.int .i64 ad] 59)).alloc (.cells #[.string bq,.int .i64 bd] 59)) w')):=fun w' hb=>by{have q0:=k0.below hb.out;have q1:=k1.below hb.out;exact⟨⟨q0.cell 0,q0.cell 1,q1.cell 0,q1.cell 1⟩,hb⟩}
 clear k0 k1;go_enter Tryz.func30,Tryz.ntmps30;go_upto_region 1 with(fail);generalize hW1:((w.alloc (.cells #[.string aq,.int .i64 ad] 59)).alloc (.cells #[.string bq,.int .i64 bd] 59))=W1 at*
 have HBa:Hid (Below W1.heap.size W1 W1):=Below.refl _ _;have HBb:Hid (Below W1.heap.size W1 W1.drew):=(Below.refl _ _).drew;have HBc:∀o,Hid (Below W1.heap.size W1 (W1.alloc o)):=fun o=>(Below.refl _ _).alloc (Nat.le_refl _) o
 have HBd:∀o,Hid (Below W1.heap.size W1 (W1.alloc o).drew):=fun o=>((Below.refl _ _).alloc (Nat.le_refl _) o).drew
 have HBe:∀o,Hid (Below W1.heap.size W1 (W1.drew.alloc o)):=fun o=>((Below.refl _ _).drew).alloc (Nat.le_refl _) o
 have HO1:∀y,y=ad-bd->Calls Tryz.prog 63 #[.slice (some ⟨W1.heap.size,0,none⟩) 2 2] (W1.alloc (.cells #[.int .i64 C,.int .i64 y] 3)).drew fun e w'=>e=.returned (.int .i64 R)/\ (W1.alloc (.cells #[.int .i64 C,.int .i64 y] 3)).drew=w':=fun y hy=>by{subst hy;rw[HR.out];exact or2_any C (ad-bd) _ _ _ ((Blk.new W1 3 #[.int .i64 C,.int .i64 (ad-bd)]).cell 0) ((Blk.new W1 3 #[.int .i64 C,.int .i64 (ad-bd)]).cell 1)}
 have hwr:IntKind.i64.wrap (ad-bd)=ad-bd:=IntWalk.i64_in _ (by omega)
 go_region_held3 (fun w'=>(w'.cell? ⟨w.heap.size,0,none⟩=some (.string aq)/\ w'.cell? ⟨w.heap.size,1,none⟩=some (.int .i64 ad)/\ w'.cell? ⟨w.heap.size+1,0,none⟩=some (.string bq)/\ w'.cell? ⟨w.heap.size+1,1,none⟩=some (.int .i64 bd))/\ Hid (Below W1.heap.size W1 w'))
  (exact HKP.out _ (by first | exact HBa | exact HBb | exact HBc _ | exact HBd _ | exact HBe _))
  (first
   | (go_at_call 64;refine(hc _).mono ?_;rintro e w2 ⟨rfl,rfl⟩)
   | (go_at_call 63;refine(HO1 _ (by first | rfl | exact hwr)).mono ?_;rintro e w4 ⟨rfl,rfl⟩))
 go_wp2;go_ret;refine⟨rfl,1,#[.cells #[.string aq,.int .i64 ad] 59,.cells #[.string bq,.int .i64 bd] 59,.cells #[.int .i64 C,.int .i64 (ad-bd)] 3],?_⟩;subst hW1
 first
  | rfl
  | simp[Go.Sort.grow,World.drew,World.drewN,World.alloc,hwr]
end Go.Proofs.YtihniipjfdenbaaGreatDoor
