/- The walk of pandectref11.build. -/
import Derived.Test.YtejbgoigkefnfaaGreatDoorAl
import Derived.Test.YtejbgoigkefnfaaGreatDoorRfN
import Derived.Test.YtejbgoigkefnfaaGreatDoorRfT
import Derived.Test.YtejbgoigkefnfaaGreatDoorRef
set_option maxRecDepth 100000
set_option maxHeartbeats 4000000
namespace Go.Proofs.YtejbgoigkefnfaaGreatDoor
open Go.RowKit
theorem Nv (W:World)(base:Nat)(e size:Nat)(hb:base<=W.heap.size):(W.alloc (.cells #[] e)).ownsRow base e size (.slice (some ⟨W.heap.size,0,none⟩) 0 0) 0 []:=
 ⟨la,.inr ⟨W.heap.size,0,#[],rfl,hb,World.alloc_heap_new W _,ja _,xb _,la,la⟩⟩
theorem AA {w:World}{base e size n:Nat}{t ty:TypeId}{i:TypeInfo}{v:Value}{xs:List Value}(ht:Tryz.prog.underlying t=some (.slice e))(hi:Tryz.prog.info? e=some i)(hown:w.ownsRow base e size v n xs)(c:Nat):
  (Builtin.append_ #[t,t] ty #[v,.slice none 0 c]).run Tryz.prog w=.ok v w:=by
 rcases hown.2 with⟨rfl,rfl⟩ | ⟨g,cap,cur,rfl,_,_,hnc,_⟩
 {simp[Builtin.append_,run_underlying ht,sizeOf,typeInfo,hi,Builtin.lenOf,Builtin.firstCells]}
 {simp[Builtin.append_,run_underlying ht,sizeOf,typeInfo,hi,Builtin.lenOf,Builtin.firstCells,hnc,storeCells]}
theorem Gu {w:World}{base n c:Nat}{ty:TypeId}{v:Value}{l m:List Int}{ao:Option Addr}(hown:w.ownsRow base 3 1 v n (l.map iW))(hm:m=[]\/∃ad,ao=some ad/\ ∀j u,(m.map iW)[j]? =some u->w.cell? (ad.add j)=some u)
  (hlen:n+m.length<=4000000) (hb:base<=w.heap.size):
  ∃v' w',(Builtin.append_ #[29,29] ty #[v,.slice ao m.length c]).run Tryz.prog w=.ok v' w'/\ w'.ownsRow base 3 1 v' (n+m.length) ((l++m).map iW)/\ w.grownBy w' v.ownBlock/\ (v'.ownBlock=v.ownBlock\/v'.ownBlock=some w.heap.size):=by
 obtain⟨i0,b0,b1,b2,b3⟩:=info_parts Ij
 have key:∀ad,(∀j u,(m.map iW)[j]? =some u->w.cell? (ad.add j)=some u)->∃v' w',(Builtin.append_ #[29,29] ty #[v,.slice (some ad) m.length c]).run Tryz.prog w=.ok v' w'/\ w'.ownsRow base 3 1 v' (n+m.length) ((l++m).map iW)/\ w.grownBy w' v.ownBlock/\ (v'.ownBlock=v.ownBlock\/v'.ownBlock=some w.heap.size):=fun ad hn=>by{obtain⟨v',w',h1,h2,h3,_,h5⟩:=run_append_own_at (P:=Tryz.prog) w base 29 ty 3 i0 _ 1 8 Tryz.underlying29 b0 b1 b2 b3 rfl pa v n _ hown ad m.length c (m.map iW) la hn (fun u hu=>by obtain⟨s,_,rfl⟩:=List.mem_map.1 hu;rfl) (by unfold maxLen;omega) ia hb;exact⟨v',w',h1,by rw[Lb];exact h2,h3,h5⟩}
 rcases hm with rfl | ⟨ad,rfl,hn⟩
 ·cases ao with
  | some ad=>exact key ad (fun j u h=>by simp at h)
  | none=>exact⟨v,w,AA Tryz.underlying29 b0 hown c,by simpa using hown,⟨rfl,rfl,rfl,ja _,fun _ _ _=>rfl⟩,.inl rfl⟩
 {exact key ad hn}
theorem Qi {ops:Array Oper}{o:Oper}{a:Act}{w:World}{K:Act->World->Prop}{Q:Exit->Act->World->Prop}{E:Prop}(Jw:o.guard=none)(x y:Operand)(ho:o.op=.call {callee:=.builtin .append,args:=#[x,y],argTypes:=#[29,29]})
  (base:Nat) (v:Value) (l:List Int) (hv:a.eval x=v) (hown:w.ownsRow base 3 1 v l.length (l.map iW)) (m:List Int) (ml:Nat) (Lx:m.length=ml) (ao:Option Addr) (c:Nat) (hy:a.eval y=.slice ao ml c)
  (hm:m=[]\/∃ad,ao=some ad/\ ∀j u,(m.map iW)[j]? =some u->w.cell? (ad.add j)=some u) (hlen:l.length+m.length<=4000000) (hb:base<=w.heap.size)
  (h:∀v' w',w'.ownsRow base 3 1 v' (l++m).length ((l++m).map iW)->w.grownBy w' v.ownBlock->(v'.ownBlock=v.ownBlock\/v'.ownBlock=some w.heap.size)->K (a.put o.dst v') w'):
  if Region.wanted o (yielded ops a.tmps)=true then Oper.wp Tryz.prog o a w K Q else E:=by
 subst Lx;rw[if_pos (by simp[Region.wanted,Jw])];obtain⟨v',w',hr,h2,h3,h5⟩:=Gu (ty:=o.type) (c:=c) hown hm hlen hb;unfold Oper.wp execOp;simp only[ho,resolve,invoke,builtin,Sem.run_bind,Sem.run_pure,Result.andThen_ok,Hg,Va,Rf,hv,hy,hr];exact h v' w' (by rw[Ea];exact h2) h3 h5
theorem vG {W:World}{B c:Nat}{l:List Int}{ao:Option Addr}(h:IntsIn W B l (.slice ao l.length c)):l=[]\/∃ad,ao=some ad/\ ∀j u,(l.map iW)[j]? =some u->W.cell? (ad.add j)=some u:=by
 by_cases hl:l=[]
 {exact .inl hl}
 {right;obtain⟨b,off,e,_,_⟩:=Xa.one h 0 (List.length_pos_iff.2 hl);(cases e);refine⟨_,rfl,fun j u hj=>?_⟩;rw[Kb]at hj;(rcases Kc j l.length with q | q);{rw[Pa q]at hj;obtain⟨b',ajE,e',_,hc⟩:=Xa.one h j q;(cases e');(have hj:iW l[j]=u:=by simpa using hj);rw[<-hj];cases j<;>simpa[Addr.add,iW]using hc};{rw[Lh q]at hj;cases hj}}
structure FD (wr cur : World) (v : Value) (l : List Int) : Prop where
 own:cur.ownsRow wr.heap.size 3 1 v l.length (l.map iW)
 jk:Below wr.heap.size wr cur
structure GD (wr cur : World) (v : Value) (sb : Nat) (s : Int) : Prop where
 blk:Bb cur sb 3 #[.int .i64 s]
 ge:wr.heap.size<=sb
 ne:v.ownBlock≠some sb
 jk:Below wr.heap.size wr cur
theorem Qz {wr X:World}(h:Below wr.heap.size wr X):FD wr (X.alloc (.cells #[] 3)) (.slice (some ⟨X.heap.size,0,none⟩) 0 0) []:=
 ⟨Nv X _ 3 1 h.size,h.alloc h.size _⟩
theorem Zo {wr X:World}{v:Value}{l:List Int}(h:FD wr X v l)(s:Int):FD wr (X.alloc (.cells #[.int .i64 s] 3)) v l/\ GD wr (X.alloc (.cells #[.int .i64 s] 3)) v X.heap.size s:=
 ⟨⟨Nd h.own ((za _ _).alloc (ja _) _),h.jk.alloc h.jk.size _⟩,Bb.new X 3 _,h.jk.size,fun e=>(by have:=(h.own.lt _ e).2;omega),h.jk.alloc h.jk.size _⟩
theorem Ct {wr X:World}(h:Below wr.heap.size wr X)(s:Int):GD wr (X.alloc (.cells #[.int .i64 s] 3)) .nilIface X.heap.size s:=
 ⟨Bb.new X 3 _,h.size,fun e=>(by cases e),h.alloc h.size _⟩
theorem yw {wr X:World}{v:Value}{sb:Nat}{s:Int}(h:GD wr X v sb s):FD wr (X.alloc (.cells #[] 3)) (.slice (some ⟨X.heap.size,0,none⟩) 0 0) []/\ GD wr (X.alloc (.cells #[] 3)) (.slice (some ⟨X.heap.size,0,none⟩) 0 0) sb s:=
 ⟨Qz h.jk,h.blk.alloc _,h.ge,fun e=>(by cases e;exact absurd h.blk.lt (Nat.lt_irrefl _)),h.jk.alloc h.jk.size _⟩
theorem FD.Lu {wr X Y:World}{v v':Value}{l m:List Int}(h:FD wr X v l)(h1:Y.ownsRow wr.heap.size 3 1 v' m.length (m.map iW))(h2:X.grownBy Y v.ownBlock):FD wr Y v' m:=
 ⟨h1,h.jk.grown h2 h.jk.size fun g e=>(Ie h.own g e).1⟩
theorem GD.Lu {wr X Y:World}{v v':Value}{sb:Nat}{s:Int}{l:List Int}(h:GD wr X v sb s)(hr:FD wr X v l)(h2:X.grownBy Y v.ownBlock)(h3:v'.ownBlock=v.ownBlock\/v'.ownBlock=some X.heap.size):GD wr Y v' sb s:=by
 refine⟨Bb.grown h.blk h2 (fun e=>h.ne e.symm),h.ge,fun e=>?_,h.jk.grown h2 h.jk.size fun g e=>(Ie hr.own g e).1⟩;rcases h3 with q | q
 {exact h.ne (q▸e)}
 {rw[q]at e;(cases e);exact absurd h.blk.lt (Nat.lt_irrefl _)}
theorem GD.src {wr cur:World}{v:Value}{sb:Nat}{s:Int}(h:GD wr cur v sb s):∀j u,([s].map iW)[j]? =some u->cur.cell? ((⟨sb,0,none⟩:Addr).add j)=some u:=by
 intro j u hj
 match j,hj with| 0,hj=>{simp at hj;subst hj;simpa[Addr.add,iW]using h.blk.cell 0}
abbrev P9 (H K B:Nat)(d:List Fa)(f:Fo)(v u:Value)(k:Nat):Prop:=
 ∀(S:List Nat) (cs:List Int) (t:List Dn) (cv:Value) (W:World),(∀b∈S,b<W.heap.size)->cs.length+k=d.length->z6 d cs->Made d.length (Pe d) (Mh d) t->t.length+ID (Co d f) k cs.length<=900000->Hi W H K S t->f.In W B v->bf W B d u->Me W H S cs cv->
  Calls Tryz.prog 69 #[.pointer (some ⟨K,0,none⟩),v,u,cv] W fun e W'=>e=.returned (.int .i64 ((Xm d f k cs t).2:Nat))/\ Hi W' H K S (Xm d f k cs t).1/\ ld H [K] W W'
theorem kQ (H K B:Nat)(d:List Fa)(hd:Ih d)(f:Fo)(hg:Good d f)(hB:B<=H)(v u:Value):P9 H K B d f v u 0:=by
 intro S cs t cv W PG hk hin hm uu ht hf hu hc;obtain⟨ao,cap,rfl⟩:=hf.shape;obtain⟨du,rfl,uq⟩:=hu;obtain⟨ad,cd,rfl,d1,d2,_⟩:=Xa.shape uq;obtain⟨ac,cc,rfl,c1,c2,_⟩:=Xa.shape hc.1;unfold maxLen at d2 c2;have hK:=ht.lt;have hge:=ht.ge;have hdl:=hd.len;have ud:Below W.heap.size W ((W.alloc (.cells #[.int .i64 f.op,.string f.name,.int .i64 f.cmp,.int .i64 f.n,.slice ao f.kids.length cap] 24)).alloc (.cells #[.slice ad d.length cd] 27)):=((za _ _).alloc (ja _) _).alloc la _;have K1:Bb ((W.alloc (.cells #[.int .i64 f.op,.string f.name,.int .i64 f.cmp,.int .i64 f.n,.slice ao f.kids.length cap] 24)).alloc (.cells #[.slice ad d.length cd] 27)) W.heap.size 24 #[.int .i64 f.op,.string f.name,.int .i64 f.cmp,.int .i64 f.n,.slice ao f.kids.length cap]:=(Bb.new W 24 #[.int .i64 f.op,.string f.name,.int .i64 f.cmp,.int .i64 f.n,.slice ao f.kids.length cap]).alloc _
 have K2:Bb ((W.alloc (.cells #[.int .i64 f.op,.string f.name,.int .i64 f.cmp,.int .i64 f.n,.slice ao f.kids.length cap] 24)).alloc (.cells #[.slice ad d.length cd] 27)) (W.heap.size+1) 27 #[.slice ad d.length cd]:=by{have q:=Bb.new (W.alloc (.cells #[.int .i64 f.op,.string f.name,.int .i64 f.cmp,.int .i64 f.n,.slice ao f.kids.length cap] 24)) 27 #[.slice ad d.length cd];simpa only[Ba]using q}
 have x0:=K1.cell 0;have x1:=K1.cell 1;have x2:=K1.cell 2;have x3:=K1.cell 3;have x4:=K1.cell 4;have y0:=K2.cell 0;have hle:W.heap.size<=(((W.alloc (.cells #[.int .i64 f.op,.string f.name,.int .i64 f.cmp,.int .i64 f.n,.slice ao f.kids.length cap] 24)).alloc (.cells #[.slice ad d.length cd] 27))).heap.size:=ud.size;have HV:=da (ED d cs ia f.size f _ (.agg #[.slice ad d.length cd]) (.slice ac cs.length cc) ((W.alloc (.cells #[.int .i64 f.op,.string f.name,.int .i64 f.cmp,.int .i64 f.n,.slice ao f.kids.length cap] 24)).alloc (.cells #[.slice ad d.length cd] 27)) W.heap.size (ja _) hg hle (Fo.In.mono ia f _ (Fo.In.below (ud.mono ia) f _ hf)) (bf.mono ia (bf.below (ud.mono ia) ⟨_,rfl,uq⟩)) (hc.1.below ud));have Kt:=da (ht.below ud (ja _));have Vd:=da ud;obtain⟨W2,gV⟩:∃W2,((W.alloc (.cells #[.int .i64 f.op,.string f.name,.int .i64 f.cmp,.int .i64 f.n,.slice ao f.kids.length cap] 24)).alloc (.cells #[.slice ad d.length cd] 27))=W2:=⟨_,rfl⟩;have aw:((cs.length:Int)==(d.length:Int))=true:=by simp;omega
 rw[Xm];obtain⟨b,hb⟩:∃b,um d cs [] f=b:=⟨_,rfl⟩;rw[hb]at HV⊢
 have aP:Hid (∀w3,Below (((W.alloc (.cells #[.int .i64 f.op,.string f.name,.int .i64 f.cmp,.int .i64 f.n,.slice ao f.kids.length cap] 24)).alloc (.cells #[.slice ad d.length cd] 27))).heap.size ((W.alloc (.cells #[.int .i64 f.op,.string f.name,.int .i64 f.cmp,.int .i64 f.n,.slice ao f.kids.length cap] 24)).alloc (.cells #[.slice ad d.length cd] 27)) w3->Calls Tryz.prog 114 #[.pointer (some ⟨K,0,none⟩),.agg #[.int .i64 0,.slice none 0 0,.slice none 0 0,.bool b]] w3 fun e W'=>e=.returned (.int .i64 ((Md t ⟨0,[],[],b⟩).2:Nat))/\ Hi W' H K S (Md t ⟨0,[],[],b⟩).1/\ ld H [K] w3 W'):=fun w3 h3=>(Yy H K S t ⟨0,[],[],b⟩ (.slice none 0 0) (.slice none 0 0) w3 (Kt.out.below h3 (ja _)) (Me.nil _ _ _) (Me.nil _ _ _) ia).mono fun _ _ h=>⟨h.1,h.2.1,h.2.2.1⟩
 rw[gV]at HV Kt Vd aP x0 x1 x2 x3 x4 y0;clear hb hf uq hc K1 K2 ht hm hin uu ud;go_enter Tryz.func69,Tryz.ntmps69;go_upto_region 1 with(fail);clear gV
 go_wp2_with (first
  | (go_at_call 115;refine HV.out.mono ?_;rintro e w3 ⟨rfl,Lc⟩;have Qc:=da Lc;clear Lc)
  | (go_at_call 114;refine(aP.out _ Qc.out).mono ?_;rintro e w4 ⟨rfl,h4⟩;have H4:=da h4;clear h4))
 go_ret;exact⟨rfl,H4.out.1,((ld.Vb Vd.out (ja _)).trans (ld.Vb Qc.out (ja _))).trans H4.out.2⟩
theorem Hi.Lu {W W':World}{H K base n g:Nat}{S:List Nat}{t:List Dn}{kv v':Value}{xs:List Value}(h:Hi W H K (xe kv++S) t)(ZS:K∈S)(ho:W.ownsRow base 3 1 kv n xs)(hb:K<base)(hg:W.grownBy W' kv.ownBlock)(hv:v'.ownBlock=some g)(hat:kv.ownBlock=some g\/g=W.heap.size):
  Hi W' H K (xe v'++S) t/\ ld H (xe kv) W W':=by
 obtain⟨hge,_,v,ys,h1,h2,h3,h4⟩:=h;have hown:=Ie ho;have hs1:ld H (xe kv) W W':=ld.Ej hg fun b e=>⟨by have:=(hown b e).1;omega,.inl (by unfold xe;rw[e];simp)⟩
 have VM:xe v'=[g]:=by unfold xe;rw[hv];rfl
 have hlt:=h1.lt;refine⟨⟨hge,td _ ZS,v,ys,Bb.grown h1 hg fun e=>by have:=(hown K e.symm).1;omega,xi h2 fun g' LV=>?_,h3,fun x hx=>?_⟩,hs1⟩
 {obtain⟨_,cs,h5⟩:=Ie h2 g' LV;(refine hg.block g' (je h5) fun e=>?_);obtain⟨_,cs2,h6⟩:=hown g' e.symm;rw[h5]at h6;cases h6}
 ·have kZ:=h4 x hx
  rw[VM];rcases hat with e | e
  {(have:xe kv=[g]:=by unfold xe;rw[e];rfl);rw[<-this];exact kZ.step (hs1.more fun b hb=>Cd _ hb)}
  ·have ne:∀ {l:List Int} {v:Value},Me W H (xe kv++S) l v->Me W' H ([g]++S) l v:=fun hf=>((hf.step (hs1.more fun b hb=>Cd _ hb)).less (S':=S) (fun k hk=>td _ hk)).open_ ia fun hl a n c e2=>by
    have:=(hf.2 hl a n c e2).1;omega
   exact⟨ne kZ.Ja,ne kZ.kids⟩
theorem Hi.less {W:World}{H K:Nat}{S S':List Nat}{t:List Dn}(h:Hi W H K S t)(hK:K∈S')(hs:∀k∈S',k∈S):Hi W H K S' t:=by
 obtain⟨hge,_,v,xs,h1,h2,h3,h4⟩:=h;exact⟨hge,hK,v,xs,h1,h2,h3,fun x hx=>⟨(h4 x hx).Ja.less hs,(h4 x hx).kids.less hs⟩⟩
structure A6 (w5 : World) (H K : Nat) (S : List Nat) (r : List Dn × List Int) (kv : Value) (wr : World) : Prop where
 tb:Hi wr H K (xe kv++S) r.1
 Al:ld H [K] w5 wr
 own:wr.ownsRow w5.heap.size 3 1 kv r.2.length (r.2.map iW)
theorem A6.next {w5 wr w8 Ei:World}{H K g:Nat}{S:List Nat}{r:List Dn×List Int}{t':List Dn}{kv v':Value}{k:Int}(h:A6 w5 H K S r kv wr)(ZS:K∈S)(hK:K<w5.heap.size)(h8:Hi w8 H K (xe kv++S) t')(m8:ld H [K] wr w8){o:Obj}(hg:(w8.alloc o).grownBy Ei kv.ownBlock)(hv:v'.ownBlock=some g)(hat:kv.ownBlock=some g\/g=(w8.alloc o).heap.size)
  (pE:Ei.ownsRow w5.heap.size 3 1 v' (r.2++[k]).length ((r.2++[k]).map iW)):A6 w5 H K S (t',r.2++[k]) v' Ei:=by
 have ho:(w8.alloc o).ownsRow w5.heap.size 3 1 kv r.2.length (r.2.map iW):=yk h.own (m8.alloc o) ⟨pa,pa⟩ (fun g e e2=>by have:=(Ie h.own g e).1;rw[Nb]at e2;omega);obtain⟨q1,q2⟩:=Hi.Lu (h8.below ((za _ _).alloc (ja _) o) (ja _)) ZS ho hK hg hv hat;refine⟨q1,?_,pE⟩;refine((((h.Al.trans (m8.alloc o)).more (S':=xe kv++[K]) la)).trans (q2.more (S':=xe kv++[K]) (fun b hb=>Cd _ hb))).less fun b hb hlt=>?_
 rcases List.mem_append.1 hb with hb | hb
 {(have e:kv.ownBlock=some b:=by unfold xe at hb;simpa using hb);have:=(Ie h.own b e).1;omega}
 {exact hb}
def iM (d:List Fa)(f:Fo)(k:Nat)(cs:List Int)(t:List Dn)(l:List Int):List Dn×List Int:=l.foldl (fun(p:List Dn×List Int) s=>((Xm d f k (cs++[s]) p.1).1,p.2++[((Xm d f k (cs++[s]) p.1).2:Int)])) (t,[])
theorem lQ (d:List Fa)(f:Fo)(k:Nat)(cs:List Int)(t:List Dn)(l:List Int)(j:Nat)(h:j<l.length):iM d f k cs t (l.take (j+1))=((Xm d f k (cs++[l[j]]) (iM d f k cs t (l.take j)).1).1,(iM d f k cs t (l.take j)).2++[((Xm d f k (cs++[l[j]]) (iM d f k cs t (l.take j)).1).2:Int)]):=by
 unfold iM;rw[Ka h,Od]
 rfl
theorem SX (b:Nat->Nat):∀(k i:Nat),1<=ID b k i
 | 0,_=>ja _
 | _+1,_=>Nat.le_add_right _ _
theorem mQ (H K B:Nat)(d:List Fa)(hd:Ih d)(f:Fo)(hw:Kj d f)(hz:f.size<=10000)(hB:B<=H)(v u:Value)(k:Nat)(IH:P9 H K B d f v u k):P9 H K B d f v u (k+1):=by
 intro S cs t cv W PG hk hin hm uu ht hf hu hc;have HF:=da hf;have HU:=da hu;have HC:=da hc;have Gt:=da IH;obtain⟨ao,cap,rfl⟩:=hf.shape;obtain⟨du,rfl,uq⟩:=hu;obtain⟨ad,cd,rfl,d1,d2,_⟩:=Xa.shape uq;obtain⟨ac,cc,rfl,c1,c2,_⟩:=Xa.shape hc.1;unfold maxLen at d2 c2;have hK:=ht.lt;have hge:=ht.ge;have kL:=da ht.eA;have hdl:=hd.len;have hi:cs.length<d.length:=by omega
 have B6:=nQ hd hw (k+1) cs t hk hin hm;obtain⟨db,df,rfl,ajF,f0,f1,f2,f3,_⟩:=uq.at cs.length hi;have ud:Below W.heap.size W ((W.alloc (.cells #[.int .i64 f.op,.string f.name,.int .i64 f.cmp,.int .i64 f.n,.slice ao f.kids.length cap] 24)).alloc (.cells #[.slice (some ⟨db,df,none⟩) d.length cd] 27)):=((za _ _).alloc (ja _) _).alloc la _;have K1:Bb ((W.alloc (.cells #[.int .i64 f.op,.string f.name,.int .i64 f.cmp,.int .i64 f.n,.slice ao f.kids.length cap] 24)).alloc (.cells #[.slice (some ⟨db,df,none⟩) d.length cd] 27)) W.heap.size 24 #[.int .i64 f.op,.string f.name,.int .i64 f.cmp,.int .i64 f.n,.slice ao f.kids.length cap]:=(Bb.new W 24 #[.int .i64 f.op,.string f.name,.int .i64 f.cmp,.int .i64 f.n,.slice ao f.kids.length cap]).alloc _
 have K2:Bb ((W.alloc (.cells #[.int .i64 f.op,.string f.name,.int .i64 f.cmp,.int .i64 f.n,.slice ao f.kids.length cap] 24)).alloc (.cells #[.slice (some ⟨db,df,none⟩) d.length cd] 27)) (W.heap.size+1) 27 #[.slice (some ⟨db,df,none⟩) d.length cd]:=by{have q:=Bb.new (W.alloc (.cells #[.int .i64 f.op,.string f.name,.int .i64 f.cmp,.int .i64 f.n,.slice ao f.kids.length cap] 24)) 27 #[.slice (some ⟨db,df,none⟩) d.length cd];simpa only[Ba]using q}
 have Vd:=da ud;have Gf:=da K1;have Dj:=da K2;have Kt:=da (ht.below ud (ja _));have x0:=K1.cell 0;have x1:=K1.cell 1;have x2:=K1.cell 2;have x3:=K1.cell 3;have x4:=K1.cell 4;have y0:=K2.cell 0;have Q9:Xm d f (k+1) cs t=Mc ((ew (d.getD cs.length default) f).foldl (fun(p:List Dn×List Int) s=>((Xm d f k (cs++[s]) p.1).1,p.2++[((Xm d f k (cs++[s]) p.1).2:Int)])) (t,[])).1 cs.length (ew (d.getD cs.length default) f) ((ew (d.getD cs.length default) f).foldl (fun(p:List Dn×List Int) s=>((Xm d f k (cs++[s]) p.1).1,p.2++[((Xm d f k (cs++[s]) p.1).2:Int)])) (t,[])).2:=rfl;rw[Eb _ _ _ hi]at Q9;have hS:=(iV hd hw hi).trans (Vu hd f hi);obtain⟨W2,gV⟩:∃W2,((W.alloc (.cells #[.int .i64 f.op,.string f.name,.int .i64 f.cmp,.int .i64 f.n,.slice ao f.kids.length cap] 24)).alloc (.cells #[.slice (some ⟨db,df,none⟩) d.length cd] 27))=W2:=⟨_,rfl⟩;rw[gV]at Vd Gf Dj Kt x0 x1 x2 x3 x4 y0;have qm:=Vd.out.size;have HS:=da (fun(w':World) (hb':Hid (Below W2.heap.size W2 w'))=>PJ d[cs.length] f _ w' B (by have:=hb'.out.size;omega) (Fo.In.below ((Vd.out.trans (hb'.out.mono ia)).mono ia) _ _ HF.out) ia)
 have Uu:Hid (∀w',Hid (Below W2.heap.size W2 w')->((w'.cell? ⟨W.heap.size,0,none⟩=some (.int .i64 f.op)/\ w'.cell? ⟨W.heap.size,1,none⟩=some (.string f.name)/\ w'.cell? ⟨W.heap.size,2,none⟩=some (.int .i64 f.cmp)/\ w'.cell? ⟨W.heap.size,3,none⟩=some (.int .i64 f.n)/\ w'.cell? ⟨W.heap.size,4,none⟩=some (.slice ao f.kids.length cap)/\ w'.cell? ⟨W.heap.size+1,0,none⟩=some (.slice (some ⟨db,df,none⟩) d.length cd))/\ w'.cell? ⟨db,df+cs.length*4,none⟩=some (.string d[cs.length].name)/\ w'.cell? ⟨db,df+cs.length*4+1,none⟩=some (.int .i64 d[cs.length].kind)/\ w'.cell? ⟨db,df+cs.length*4+2,none⟩=some (.int .i64 d[cs.length].lo)/\ w'.cell? ⟨db,df+cs.length*4+3,none⟩=some (.int .i64 d[cs.length].hi))/\ Hid (Below W2.heap.size W2 w')):=by{intro w' hw;have z:=Gf.out.below hw.out;have z1:=Dj.out.below hw.out;have Zd:=Vd.out.trans (hw.out.mono ia);exact⟨⟨⟨z.cell 0,z.cell 1,z.cell 2,z.cell 3,z.cell 4,z1.cell 0⟩,(Zd.cell (p:=⟨db,_,none⟩) (by show db<W.heap.size;omega)).trans f0,(Zd.cell (p:=⟨db,_,none⟩) (by show db<W.heap.size;omega)).trans f1,(Zd.cell (p:=⟨db,_,none⟩) (by show db<W.heap.size;omega)).trans f2,(Zd.cell (p:=⟨db,_,none⟩) (by show db<W.heap.size;omega)).trans f3⟩,hw⟩}
 have k_:((cs.length:Int)==(d.length:Int))=false:=by simp;omega
 have acf:=da B6;obtain⟨R,hR⟩:∃R,Xm d f (k+1) cs t=R:=⟨_,rfl⟩;rw[hR]at Q9 acf⊢;have OT:=da Q9;have IU:=da hS;have HW0:Hid (Below W2.heap.size W2 W2.drew):=(za W2.heap.size W2).drew;clear hf hc uq B6 ud K1 K2 ht hR Q9 hS IH f0 f1 f2 f3;have HFA:Hid (d[cs.length]=d[cs.length]):=rfl;generalize d[cs.length]=fa at HS Uu OT IU;go_enter Tryz.func69,Tryz.ntmps69;go_upto_region 1 with(fail);clear gV;go_upto_region 4 with(fail);clear x0 x1 x2 x3 x4 y0
 go_region_held3 (fun w'=>((w'.cell? ⟨W.heap.size,0,none⟩=some (.int .i64 f.op)/\ w'.cell? ⟨W.heap.size,1,none⟩=some (.string f.name)/\ w'.cell? ⟨W.heap.size,2,none⟩=some (.int .i64 f.cmp)/\ w'.cell? ⟨W.heap.size,3,none⟩=some (.int .i64 f.n)/\ w'.cell? ⟨W.heap.size,4,none⟩=some (.slice ao f.kids.length cap)/\ w'.cell? ⟨W.heap.size+1,0,none⟩=some (.slice (some ⟨db,df,none⟩) d.length cd))/\ w'.cell? ⟨db,df+cs.length*4,none⟩=some (.string fa.name)/\ w'.cell? ⟨db,df+cs.length*4+1,none⟩=some (.int .i64 fa.kind)/\ w'.cell? ⟨db,df+cs.length*4+2,none⟩=some (.int .i64 fa.lo)/\ w'.cell? ⟨db,df+cs.length*4+3,none⟩=some (.int .i64 fa.hi))/\ Hid (Below W2.heap.size W2 w'))
  (exact Uu.out _ Da)
  ((go_at_call 86;refine(HS.out _ Da).mono ?_;rintro e w5 ⟨ua,uc,rfl,wL,Jf⟩;have et:Hid (Below W2.heap.size W2 w5):=HW0.out.trans (Jf.out.mono (by show W2.heap.size<=W2.heap.size;omega))))
 go_split_ands;obtain⟨L,hL⟩:∃L,ew fa f=L:=⟨_,rfl⟩;rw[hL]at wL OT IU⊢;clear hL
 have hLr:∀s∈L,Pe d cs.length<=s/\ s<=Mh d cs.length:=by{have hlh:=(hd.Fq cs.length hi).2.1;have hch:=(JC hd hw).chain cs.length hi;intro s hs;rw[IU.out]at hs;(rcases List.mem_cons.1 hs with rfl | hs);{exact⟨Jc _,hlh⟩};{have:=Tj _ _ hch s hs;exact⟨ia,this.2⟩}}
 have hLn:L.length=Co d f cs.length:=by rw[IU.out];unfold Co;rw[Vu hd f hi]
 have hcl:=SX (Co d f) k (cs.length+1);have afi:t.length+(1+L.length*ID (Co d f) k (cs.length+1))<=900000:=by rw[hLn];exact uu
 have M3:L.length<=900000:=by{have:L.length*1<=L.length*ID (Co d f) k (cs.length+1):=Nat.mul_le_mul_left _ hcl;omega}
 have hlp:0<L.length:=by rw[IU.out];simp
 clear hLn
 have KR:Hid (∀j,j<=L.length->Made d.length (Pe d) (Mh d) (iM d f k cs t (L.take j)).1/\ (iM d f k cs t (L.take j)).2.length=j/\ (∀x∈(iM d f k cs t (L.take j)).2,0<=x)/\ (iM d f k cs t (L.take j)).1.length<=t.length+j*ID (Co d f) k (cs.length+1)):=fun j hj=>by{have h:=iK (d:=d) (f:=f) (k:=k) (cs:=cs) (fun s t h1 h2 ht=>nQ hd hw k (cs++[s]) t (by rw[Ea,Hb];omega) (Hu hin h1 h2) ht) (L.take j) (fun s hs=>hLr s (Yh hs)) (t,[]) [] hm rfl (fun j hj=>absurd hj (Ib j));obtain⟨h1,h2,h3,_,h5⟩:=h;rw[Ya,Bc,Nat.min_eq_left hj]at h2;rw[Bc,Nat.min_eq_left hj]at h5;refine⟨h1,h2,fun x hx=>?_,h5⟩;obtain⟨i,hi,rfl⟩:=List.mem_iff_getElem.1 hx;have h6:0<=(iM d f k cs t (L.take j)).2.getD i 0:=(h3 i hi).1;rwa[Eb _ _ _ hi]at h6}
 have hRL:R=Mc (iM d f k cs t L).1 cs.length L (iM d f k cs t L).2:=OT.out;have q8:=da hRL;clear hRL OT;have hs5:=et.out.size;have hK5:K<w5.heap.size:=by omega
 have C6:Hid (Below W.heap.size W w5):=Vd.out.trans (et.out.mono ia)
 have lH:Hid (A6 w5 H K S (t,[]) (.slice none 0 0) w5):=⟨by
  show Hi w5 H K ([]++S) t
  rw[Ya]
  exact Kt.out.below et.out (ja _),ld.refl _ _ _,rfl,.inl ⟨rfl,rfl⟩⟩
 go_upto_region 6 with(fail);go_wp2
 go_loopw [11,12] (fun kv iv wr=>∃(j:Nat) (r:List Dn×List Int),j<=L.length/\ iv=.int .i64 j/\ Hid (r=iM d f k cs t (L.take j))/\ Hid (A6 w5 H K S r kv wr)) (fun _ iv _=>L.length-(intOf iv).toNat)
 case atStart=>exact⟨0,(t,[]),ia,rfl,rfl,lH⟩
 case round=>
  obtain⟨j,r,hj,rfl,hr,Gh⟩:=hrel;obtain⟨ak,ck,YD⟩:=Wd Gh.out.own;subst YD;have qo:=KR.out j hj;rw[<-hr.out]at qo;have NA:=Gh.out.Al.size;clear lH;by_cases hlt:j<L.length
  ·obtain⟨sb,so,e,LM,hsc⟩:=Xa.one wL.out.ints j hlt
   subst e;have TS:=wL.out.JW _ _ _ rfl;obtain⟨Rw,scs,OG⟩:=TS;have Rw:(W2.drew).heap.size<=sb:=Rw;have ach:sb≠K:=by have:(W2.drew).heap.size=W2.heap.size:=rfl;omega
   have D6:Hid (∀w',ld H [K] w5 w'->(w'.cell? ⟨W.heap.size,0,none⟩=some (.int .i64 f.op)/\ w'.cell? ⟨W.heap.size,1,none⟩=some (.string f.name)/\ w'.cell? ⟨W.heap.size,2,none⟩=some (.int .i64 f.cmp)/\ w'.cell? ⟨W.heap.size,3,none⟩=some (.int .i64 f.n)/\ w'.cell? ⟨W.heap.size,4,none⟩=some (.slice ao f.kids.length cap)/\ w'.cell? ⟨W.heap.size+1,0,none⟩=some (.slice (some ⟨db,df,none⟩) d.length cd))/\ w'.cell? ⟨sb,so+j,none⟩=some (.int .i64 L[j])):=fun w' hm=>by{(have q:∀ {b:Nat} {t:TypeId} {cs:Array Value},Bb w5 b t cs->(t==56)=false/\ (t==70)=false->b≠K->Bb w' b t cs:=fun h ht hb=>hm.keep _ _ h (.inr ⟨by simp[gi,ht.1,ht.2],by simpa using hb⟩));have z:=q (Gf.out.below et.out) ⟨pa,pa⟩ ia;have z1:=q (Dj.out.below et.out) ⟨pa,pa⟩ ia;have h2:w'.heap[sb]? =w5.heap[sb]? :=by{rw[show w5.heap[sb]? =_ from OG];exact hm.keep _ _ OG (.inr ⟨by simp[gi],by simpa using ach⟩)};exact⟨⟨z.cell 0,z.cell 1,z.cell 2,z.cell 3,z.cell 4,z1.cell 0⟩,(World.cell?_of_block (a:=⟨sb,so+j,none⟩) h2).trans hsc⟩}
   have xo:=lQ d f k cs t L j hlt;rw[<-hr.out]at xo;have uI:=hLr L[j] (Ga _);obtain⟨sv,E6⟩:∃sv,L[j]=sv:=⟨_,rfl⟩;rw[E6]at D6 xo uI;clear hsc OG E6;have QG:ld H [K] W wr:=(ld.Vb C6.out (ja _)).trans Gh.out.Al;have JD:Hid (∀w',Below wr.heap.size wr w'->Hid (ld H [K] w5 w')):=fun w' hb=>Gh.out.Al.trans (ld.Vb hb (ja _))
   have Mt:Hid (Below wr.heap.size wr wr.drew):=(za wr.heap.size wr).drew;have L8:=JD.out _ Mt.out
   have TX:Hid (∀w',Below wr.heap.size wr w'->cs=[]\/∃ad,ac=some ad/\ ∀j u,(cs.map iW)[j]? =some u->w'.cell? (ad.add j)=some u):=fun w' hb=>vG (HC.out.step ((QG.trans (ld.Vb hb (ja _))).more (by simpa using kL.out))).1
   have bo:Hid (∀v12 Cx,FD wr Cx v12 (cs++[sv])->Calls Tryz.prog 69 #[.pointer (some ⟨K,0,none⟩),.agg #[.int .i64 f.op,.string f.name,.int .i64 f.cmp,.int .i64 f.n,.slice ao f.kids.length cap],.agg #[.slice (some ⟨db,df,none⟩) d.length cd],v12] Cx fun e w'=>e=.returned (.int .i64 ((Xm d f k (cs++[sv]) r.1).2:Nat))/\ Hid (Hi w' H K (xe (.slice ak r.2.length ck)++S) (Xm d f k (cs++[sv]) r.1).1)/\ Hid (ld H [K] wr w')):=fun v12 Cx h=>by
    have F6:Below H W Cx:=(QG.below ia).trans (h.jk.mono ia)
    have dl:∀b∈xe (.slice ak r.2.length ck)++S,b<wr.heap.size:=fun b hb=>by{(rcases List.mem_append.1 hb with hb | hb);{(have e:(Value.slice ak r.2.length ck).ownBlock=some b:=by unfold xe at hb;simpa using hb);obtain⟨_,cs,h4⟩:=Ie Gh.out.own b e;exact je h4};{have:=PG b hb;omega}}
    refine(Gt.out (xe (.slice ak r.2.length ck)++S) (cs++[sv]) r.1 v12 Cx (fun b hb=>by have:=dl b hb;have:=h.jk.size;omega) (by rw[Ea,Hb];omega) (Hu hin uI.1 uI.2) qo.1 (by
     rw[Ea,Hb]
     have h1:=qo.2.2.2
     have h2:(j+1)*ID (Co d f) k (cs.length+1)<=L.length*ID (Co d f) k (cs.length+1):=ye _ hlt
     rw[Ee,Wg]at h2
     omega) (Gh.out.tb.below h.jk (ja _)) (Fo.In.below (F6.mono hB) _ _ HF.out) (bf.below (F6.mono hB) HU.out) (Um h.own dl ia)).mono ?_
    rintro e w' ⟨rfl,h3,h4⟩;exact⟨rfl,h3,(ld.Vb h.jk (ja _)).trans h4⟩
   obtain⟨kn,hkn⟩:∃kn:Nat,(Xm d f k (cs++[sv]) r.1).2=kn:=⟨_,rfl⟩;obtain⟨t2,ht2⟩:∃t2,(Xm d f k (cs++[sv]) r.1).1=t2:=⟨_,rfl⟩;rw[hkn,ht2]at bo xo;have Rv:=da xo;have Dk:Hid (∀PT,ld H [K] wr PT->(PT.alloc (.cells #[.int .i64 kn] 3)).ownsRow w5.heap.size 3 1 (.slice ak r.2.length ck) r.2.length (r.2.map iW)):=fun PT h=>yk Gh.out.own (h.alloc _) ⟨pa,pa⟩ (fun g e e2=>by have:=(Ie Gh.out.own g e).1;rw[Nb]at e2;omega)
   have rU:r.2.length<=2000000:=by have:=qo.2.1;omega
   have ajG:cs.length<=60:=by omega
   clear xo hkn ht2 qo QG hr hm hin;go_upto_region 9 with(fail);refine wp_region_held_drew (S:=(fun w':World=>Hid (ld H [K] w5 w'))) Ca L8 (fun Xb=>?_);refine tp 0 ?_;refine tp 1 ?_;refine tk 2 ?v2 ?y2 ?_
   case y2=>(intro w9 Pg;obtain⟨⟨y0,y1,y2,y3,y4,y5⟩,y6⟩:=D6.out w9 Pg.out;go_simp;try with_reducible rfl)
   refine tk 3 ?v3 ?y3 ?_
   case y3=>(intro w9 Pg;obtain⟨⟨y0,y1,y2,y3,y4,y5⟩,y6⟩:=D6.out w9 Pg.out;go_simp;try with_reducible rfl)
   refine tp 5 ?_;refine tp 7 ?_;refine tp 8 ?_;refine tk 9 ?v9 ?y9 ?_
   case y9=>(intro w9 Pg;obtain⟨⟨y0,y1,y2,y3,y4,y5⟩,y6⟩:=D6.out w9 Pg.out;go_simp;try with_reducible rfl)
   refine tk 10 ?v10 ?Wu ?_
   case Wu=>(intro w9 Pg;obtain⟨⟨y0,y1,y2,y3,y4,y5⟩,y6⟩:=D6.out w9 Pg.out;go_simp;try with_reducible rfl)
   refine tt 4 11 (fun K hK=>?_) (fun K hK=>?_)
   {skip;(first | (have qv:=da (yw cJ.out);go_simp;have tj:=da qv.out.1;have Bv:=da qv.out.2) | (have tj:=da (Qz Mt.out);go_simp));refine hK.out _ _ ?_ (fun Xb=>?_);{exact JD.out _ tj.out.jk};clear hK K;(try simp only[Act.put,sA,sB,sC]);refine tt 6 11 (fun K hK=>?_) (fun K hK=>?_);{skip;(refine Qi Ha _ _ Ha wr.heap.size _ [] (by first | rfl | go_simp) tj.out.own cs cs.length rfl ac cc Ha (TX.out _ tj.out.jk) (by simp;omega) tj.out.jk.size ?_;intro v6 w6 h6 Lj UX;first | (have zw:=da (tj.out.Lu h6 Lj);have qs:=da (Bv.out.Lu tj.out Lj UX)) | (have zw:=da (tj.out.Lu h6 Lj)));refine hK.out _ _ ?_ (fun Xb=>?_);{exact JD.out _ zw.out.jk};clear hK K;(try simp only[Act.put,sA,sB,sC]);refine tr 11 (fun K hK=>?_);(first | (have tC:=da (Zo zw.out sv);go_simp;have qs:=da tC.out.2;have oQ:=da tC.out.1;clear zw;have zw:=oQ) | (have tC:=da (Zo tj.out sv);go_simp;have Bv:=da tC.out.2;have oQ:=da tC.out.1;clear tj;have tj:=oQ) | (have cJ:=da (Ct Mt.out sv);go_simp));refine hK.out _ _ ?_ (fun Xb=>?_);{first | exact JD.out _ tC.out.1.jk | exact JD.out _ cJ.out.jk};clear hK K;(try simp only[Act.put,sA,sB,sC]);refine tr 12 (fun K hK=>?_);(refine Qi Ha _ _ Ha wr.heap.size _ cs Ha zw.out.own [sv] 1 rfl (some ⟨_,0,none⟩) 1 (by first | rfl | go_simp) (.inr ⟨_,rfl,qs.out.src⟩) (by simp;omega) zw.out.jk.size ?_;intro v12 Cx h12 pQ _;have xG:=da (zw.out.Lu h12 pQ));refine hK.out _ _ ?_ (fun Xb=>?_);{exact JD.out _ xG.out.jk};clear hK K;(try simp only[Act.put,sA,sB,sC]);refine tr 13 (fun K hK=>?_);(go_simp;go_at_call 69;refine(bo.out _ _ xG.out).mono ?_;rintro e PT ⟨rfl,qQ,ur⟩);refine hK.out _ _ ?_ (fun Xb=>?_);{exact Gh.out.Al.trans ur.out};clear hK K;(try simp only[Act.put,sA,sB,sC]);refine tr 14 (fun K hK=>?_);go_simp;refine hK.out _ _ ?_ (fun Xb=>?_);{exact(Gh.out.Al.trans ur.out).alloc _};clear hK K;(try simp only[Act.put,sA,sB,sC]);refine tr 15 (fun K hK=>?_);(refine bn (xs:=r.2) (Dk.out _ ur.out) Ha _ _ Ha Ha ⟨PT.heap.size,0,none⟩ Ha (by have:=ur.out.size;rw[Ba];omega) ia (kn:Int) ((Bb.new _ _ _).cell 0) ?_;intro g15 c15 w15 G6 rQ sQ;have yG:=da (Gh.out.next kL.out hK5 qQ.out ur.out rQ rfl sQ G6));refine hK.out _ _ ?_ (fun Xb=>?_);{exact yG.out.Al};clear hK K;(try simp only[Act.put,sA,sB,sC]);refine tp 16 ?_;refine wpAnyH_done Ca ?_ _;(go_wp2;go_roundw;(case rel=>exact⟨j+1,(t2,r.2++[(kn:Int)]),ia,by go_num,Rv.out.symm,yG⟩);(case measure=>simp[intOf];omega))};{skip;(first | (have tC:=da (Zo zw.out sv);go_simp;have qs:=da tC.out.2;have oQ:=da tC.out.1;clear zw;have zw:=oQ) | (have tC:=da (Zo tj.out sv);go_simp;have Bv:=da tC.out.2;have oQ:=da tC.out.1;clear tj;have tj:=oQ) | (have cJ:=da (Ct Mt.out sv);go_simp));refine hK.out _ _ ?_ (fun Xb=>?_);{first | exact JD.out _ tC.out.1.jk | exact JD.out _ cJ.out.jk};clear hK K;(try simp only[Act.put,sA,sB,sC]);refine tr 6 (fun K hK=>?_);(refine Qi Ha _ _ Ha wr.heap.size _ [] (by first | rfl | go_simp) tj.out.own cs cs.length rfl ac cc Ha (TX.out _ tj.out.jk) (by simp;omega) tj.out.jk.size ?_;intro v6 w6 h6 Lj UX;first | (have zw:=da (tj.out.Lu h6 Lj);have qs:=da (Bv.out.Lu tj.out Lj UX)) | (have zw:=da (tj.out.Lu h6 Lj)));refine hK.out _ _ ?_ (fun Xb=>?_);{exact JD.out _ zw.out.jk};clear hK K;(try simp only[Act.put,sA,sB,sC]);refine tr 12 (fun K hK=>?_);(refine Qi Ha _ _ Ha wr.heap.size _ cs Ha zw.out.own [sv] 1 rfl (some ⟨_,0,none⟩) 1 (by first | rfl | go_simp) (.inr ⟨_,rfl,qs.out.src⟩) (by simp;omega) zw.out.jk.size ?_;intro v12 Cx h12 pQ _;have xG:=da (zw.out.Lu h12 pQ));refine hK.out _ _ ?_ (fun Xb=>?_);{exact JD.out _ xG.out.jk};clear hK K;(try simp only[Act.put,sA,sB,sC]);refine tr 13 (fun K hK=>?_);(go_simp;go_at_call 69;refine(bo.out _ _ xG.out).mono ?_;rintro e PT ⟨rfl,qQ,ur⟩);refine hK.out _ _ ?_ (fun Xb=>?_);{exact Gh.out.Al.trans ur.out};clear hK K;(try simp only[Act.put,sA,sB,sC]);refine tr 14 (fun K hK=>?_);go_simp;refine hK.out _ _ ?_ (fun Xb=>?_);{exact(Gh.out.Al.trans ur.out).alloc _};clear hK K;(try simp only[Act.put,sA,sB,sC]);refine tr 15 (fun K hK=>?_);(refine bn (xs:=r.2) (Dk.out _ ur.out) Ha _ _ Ha Ha ⟨PT.heap.size,0,none⟩ Ha (by have:=ur.out.size;rw[Ba];omega) ia (kn:Int) ((Bb.new _ _ _).cell 0) ?_;intro g15 c15 w15 G6 rQ sQ;have yG:=da (Gh.out.next kL.out hK5 qQ.out ur.out rQ rfl sQ G6));refine hK.out _ _ ?_ (fun Xb=>?_);{exact yG.out.Al};clear hK K;(try simp only[Act.put,sA,sB,sC]);refine tp 16 ?_;refine wpAnyH_done Ca ?_ _;(go_wp2;go_roundw;(case rel=>exact⟨j+1,(t2,r.2++[(kn:Int)]),ia,by go_num,Rv.out.symm,yG⟩);(case measure=>simp[intOf];omega))}}
   {skip;(first | (have tC:=da (Zo zw.out sv);go_simp;have qs:=da tC.out.2;have oQ:=da tC.out.1;clear zw;have zw:=oQ) | (have tC:=da (Zo tj.out sv);go_simp;have Bv:=da tC.out.2;have oQ:=da tC.out.1;clear tj;have tj:=oQ) | (have cJ:=da (Ct Mt.out sv);go_simp));refine hK.out _ _ ?_ (fun Xb=>?_);{first | exact JD.out _ tC.out.1.jk | exact JD.out _ cJ.out.jk};clear hK K;(try simp only[Act.put,sA,sB,sC]);refine tr 4 (fun K hK=>?_);(first | (have qv:=da (yw cJ.out);go_simp;have tj:=da qv.out.1;have Bv:=da qv.out.2) | (have tj:=da (Qz Mt.out);go_simp));refine hK.out _ _ ?_ (fun Xb=>?_);{exact JD.out _ tj.out.jk};clear hK K;(try simp only[Act.put,sA,sB,sC]);refine tr 6 (fun K hK=>?_);(refine Qi Ha _ _ Ha wr.heap.size _ [] (by first | rfl | go_simp) tj.out.own cs cs.length rfl ac cc Ha (TX.out _ tj.out.jk) (by simp;omega) tj.out.jk.size ?_;intro v6 w6 h6 Lj UX;first | (have zw:=da (tj.out.Lu h6 Lj);have qs:=da (Bv.out.Lu tj.out Lj UX)) | (have zw:=da (tj.out.Lu h6 Lj)));refine hK.out _ _ ?_ (fun Xb=>?_);{exact JD.out _ zw.out.jk};clear hK K;(try simp only[Act.put,sA,sB,sC]);refine tr 12 (fun K hK=>?_);(refine Qi Ha _ _ Ha wr.heap.size _ cs Ha zw.out.own [sv] 1 rfl (some ⟨_,0,none⟩) 1 (by first | rfl | go_simp) (.inr ⟨_,rfl,qs.out.src⟩) (by simp;omega) zw.out.jk.size ?_;intro v12 Cx h12 pQ _;have xG:=da (zw.out.Lu h12 pQ));refine hK.out _ _ ?_ (fun Xb=>?_);{exact JD.out _ xG.out.jk};clear hK K;(try simp only[Act.put,sA,sB,sC]);refine tr 13 (fun K hK=>?_);(go_simp;go_at_call 69;refine(bo.out _ _ xG.out).mono ?_;rintro e PT ⟨rfl,qQ,ur⟩);refine hK.out _ _ ?_ (fun Xb=>?_);{exact Gh.out.Al.trans ur.out};clear hK K;(try simp only[Act.put,sA,sB,sC]);refine tr 14 (fun K hK=>?_);go_simp;refine hK.out _ _ ?_ (fun Xb=>?_);{exact(Gh.out.Al.trans ur.out).alloc _};clear hK K;(try simp only[Act.put,sA,sB,sC]);refine tr 15 (fun K hK=>?_);(refine bn (xs:=r.2) (Dk.out _ ur.out) Ha _ _ Ha Ha ⟨PT.heap.size,0,none⟩ Ha (by have:=ur.out.size;rw[Ba];omega) ia (kn:Int) ((Bb.new _ _ _).cell 0) ?_;intro g15 c15 w15 G6 rQ sQ;have yG:=da (Gh.out.next kL.out hK5 qQ.out ur.out rQ rfl sQ G6));refine hK.out _ _ ?_ (fun Xb=>?_);{exact yG.out.Al};clear hK K;(try simp only[Act.put,sA,sB,sC]);refine tp 16 ?_;refine wpAnyH_done Ca ?_ _;(go_wp2;go_roundw;(case rel=>exact⟨j+1,(t2,r.2++[(kn:Int)]),ia,by go_num,Rv.out.symm,yG⟩);(case measure=>simp[intOf];omega))}
  ·have Mk:j=L.length:=by omega
   have ZW:=hr.out;rw[Mk,Jb]at ZW;have Ri:=q8.out;rw[<-ZW]at Ri;have ik:=da Ri
   have dl:∀b∈xe (.slice ak r.2.length ck)++S,b<wr.heap.size:=fun b hb=>by{(rcases List.mem_append.1 hb with hb | hb);{(have e:(Value.slice ak r.2.length ck).ownBlock=some b:=by unfold xe at hb;simpa using hb);obtain⟨_,cs,h4⟩:=Ie Gh.out.own b e;exact je h4};{have:=PG b hb;omega}}
   have WW:Me w5 H [K] L (.slice ua L.length uc):=⟨wL.out.ints,fun _ a n c e=>by
    obtain⟨Rw,scs,OG⟩:=wL.out.JW a n c e
    have Rw:(W2.drew).heap.size<=a.block:=Rw
    have:(W2.drew).heap.size=W2.heap.size:=rfl
    exact⟨je OG,.inr ⟨by rw[Nb];omega,_,OG,by simp[gi]⟩⟩⟩
   have HQ:=da (dz H K (xe (.slice ak r.2.length ck)++S) r.1 cs.length L r.2 (.slice ua L.length uc) (.slice ak r.2.length ck) wr Gh.out.tb dl (WW.step Gh.out.Al).1 (rh Gh.out.own)
    (by have:=qo.2.2.2;rw[Mk]at this;omega) (fun e=>by have:=qo.2.1;rw[e]at this;simp at this;omega) (by rw[qo.2.1,Mk]) (by rw[qo.2.1];omega)
    (by
     rw[Eb _ _ _ (by rw[qo.2.1];omega)]
     exact qo.2.2.1 _ (Ga _)))
   have HMW:Hid (ld H [K] W wr):=(ld.Vb C6.out (ja _)).trans Gh.out.Al;clear ZW Ri dl WW qo hr Mk;go_wp2_with (go_at_call 116;refine HQ.out.mono ?_;rintro e w7 ⟨rfl,h7,m7,_⟩;have H7:=da h7;have M7:=da m7;clear h7 m7);go_ret;rw[ik.out];exact⟨rfl,H7.out.less kL.out (fun k hk=>td _ hk),HMW.out.trans M7.out⟩
theorem jK (H K B:Nat)(d:List Fa)(hd:Ih d)(f:Fo)(hw:Kj d f)(hg:Good d f)(hz:f.size<=10000)(hB:B<=H)(v u:Value):∀k,P9 H K B d f v u k
 | 0=>kQ H K B d hd f hg hB v u
 | k+1=>mQ H K B d hd f hw hz hB v u k (jK H K B d hd f hw hg hz hB v u k)
end Go.Proofs.YtejbgoigkefnfaaGreatDoor
