/- The walk of judge.order: the regions, in the order of their least cases. A bound on their number. -/
import Derived.Test.YtdipkbobalnilaaGreatDoorJdDA
import Derived.Test.YtdipkbobalnilaaGreatDoorJdQA
set_option maxRecDepth 100000
set_option maxHeartbeats 4000000
namespace Go.Proofs.YtdipkbobalnilaaGreatDoor
open Go.RowKit
theorem OE(a b:List Int)(va vb:Value)(w:World)(ha:IntsIn w w.heap.size a va)(hb:IntsIn w w.heap.size b vb):
  Calls Tryz.prog 75 #[va,vb] w λe w'=>e=.returned (.int .i64 (cmpL a b))/\w=w':=by
 obtain⟨aa,ca,rfl,a1,a2,_⟩:=Sa.shape ha;obtain⟨ab,cb,rfl,b1,b2,_⟩:=Sa.shape hb;unfold maxLen at a2 b2;have HA:=Lib.hid ha;have HB:=Lib.hid hb;clear ha hb;go_enter Tryz.func75,Tryz.ntmps75;go_upto_region 2 with(fail)
 go_loopw [11] (λiv wr=>∃k:Nat,k<=a.length/\k<=b.length/\iv=.int .i64 k/\Hid (w=wr)/\Hid (cmpL (a.drop k) (b.drop k)=cmpL a b)) (λiv _=>a.length-(intOf iv).toNat)
 case atStart=>exact⟨0,(by omega),(by omega),rfl,rfl,rfl⟩
 case round=>(obtain⟨k,hk,pX,rfl,HW,HC⟩:=hrel;have hw:=HW.out;subst hw;by_cases hlt:k<a.length;{obtain⟨ba,oa,rfl,MX,hca⟩:=Sa.one HA.out k hlt;by_cases X9:k<b.length;{obtain⟨bb,ob,rfl,wM,hcb⟩:=Sa.one HB.out k X9;have hc:=HC.out;rw[List.drop_eq_getElem_cons hlt,List.drop_eq_getElem_cons X9,cmpL]at hc;have XC:=Lib.hid hc;have DT:=Lib.hid (λw=>kq a[k] b[k] w);generalize a[k]=x at*;generalize b[k]=y at*;clear hc HC;by_cases h1:x<y;{rw[if_pos h1]at DT XC;go_wp2_with (go_at_call 118;refine(DT.out _).mono ?_;rintro e w2 ⟨rfl,rfl⟩);go_ret;exact⟨by rw[<-XC.out];rfl,rfl⟩};{by_cases h2:y<x;{rw[if_neg h1,if_pos h2]at DT XC;go_wp2_with (go_at_call 118;refine(DT.out _).mono ?_;rintro e w2 ⟨rfl,rfl⟩);go_ret;exact⟨by rw[<-XC.out];rfl,rfl⟩};{rw[if_neg h1,if_neg h2]at DT XC;go_wp2_with (go_at_call 118;refine(DT.out _).mono ?_;rintro e w2 ⟨rfl,rfl⟩);go_roundw;(case rel=>exact⟨_,by omega,by omega,by go_num,(by omega),XC⟩);case measure=>simp[intOf];omega}}};{have hc:=HC.out;rw[List.drop_eq_getElem_cons hlt,List.drop_of_length_le (Nat.le_of_not_lt X9),cmpL]at hc;have XC:=Lib.hid hc;go_wp2;go_ret;exact⟨by rw[<-XC.out];rfl,rfl⟩}};{(obtain rfl:k=a.length:=by omega);by_cases X9:a.length<b.length;{have hc:=HC.out;rw[List.drop_of_length_le (by omega),List.drop_eq_getElem_cons X9,cmpL]at hc;have XC:=Lib.hid hc;go_wp2;go_ret;exact⟨by rw[<-XC.out];rfl,rfl⟩};{have hc:=HC.out;rw[List.drop_of_length_le (by omega),List.drop_of_length_le (by omega),cmpL]at hc;have XC:=Lib.hid hc;go_wp2;go_ret;exact⟨by rw[<-XC.out];rfl,rfl⟩}})
def gh(d:List Fa)(t:List Dn):List Int:=(Ld d t).getD []
theorem FK{d:List Fa}{ga gb:List Dn}{aa ab da:Option Addr}{ca cb dc na nb D:Nat}{xa xb:Value}{w:World}(hd:w.cell? ⟨D,0,none⟩=some (.slice da d.length dc))(hD:D<w.heap.size)(hdi:Sa Jk 4 w w.heap.size d (.slice da d.length dc))
  (ha:Zd w w.heap.size ga (.agg #[.slice aa na ca])) (hb:Zd w w.heap.size gb (.agg #[.slice ab nb cb])) (dX:Qc d ga) (PT:Qc d gb) {s1 v1 s2 s3 t1 u1 t2 t3:Value} (hxa:xa=.agg #[.slice aa na ca,s1,v1,s2,s3]) (hxb:xb=.agg #[.slice ab nb cb,t1,u1,t2,t3]) (hT:Jh w.heap.size w):
  Calls Tryz.prog 74 #[xa,xb,.pointer (some ⟨D,0,none⟩)] w λe w'=>e=.returned (.int .i64 (cmpL (gh d ga) (gh d gb)))/\Below w.heap.size w w':=by
 subst hxa hxb;have Am:Below _ w ((w.alloc (.cells #[.slice aa na ca,s1,v1,s2,s3] 57)).alloc (.cells #[.slice ab nb cb,t1,u1,t2,t3] 57)):=((Below.refl _ _).alloc (Nat.le_refl _) _).alloc (by simp) _;have K0:qb ((w.alloc _).alloc (.cells #[.slice ab nb cb,t1,u1,t2,t3] 57)) _ 57 #[.slice aa na ca,s1,v1,s2,s3]:=(qb.new w _ _).alloc _
 have K1:qb ((w.alloc (.cells #[.slice aa na ca,s1,v1,s2,s3] 57)).alloc (.cells #[.slice ab nb cb,t1,u1,t2,t3] 57)) (w.heap.size+1) 57 #[.slice ab nb cb,t1,u1,t2,t3]:=by{have q:=qb.new (w.alloc (.cells #[.slice aa na ca,s1,v1,s2,s3] 57)) 57 #[.slice ab nb cb,t1,u1,t2,t3];simpa only[World.size_alloc]using q}
 obtain⟨W2,UL⟩:∃W2,((w.alloc (.cells #[.slice aa na ca,s1,v1,s2,s3] 57)).alloc (.cells #[.slice ab nb cb,t1,u1,t2,t3] 57))=W2:=⟨_,rfl⟩;rw[UL]at Am K0 K1;have EZ:=Lib.hid UL;have OA:=Lib.hid Am;have Qu:=Am.size;have x0:=K0.cell 0;have xd:=(Am.cell hD).trans hd;have OD:Hid (∀w',Below W2.heap.size W2 w'->w'.cell? ⟨w.heap.size+1,0,none⟩=some (.slice ab nb cb)/\w'.cell? ⟨D,0,none⟩=some (.slice da d.length dc)):=λw' h=>⟨(K1.below h).cell 0,(h.cell (by show D<_;omega)).trans xd⟩
 have YX:=Lib.hid (Ul d ga _ _ W2 _ Qu (ha.below Am) ⟨_,rfl,hdi.below Jk.kept Am⟩ (Oi dX) (λw' h=>hT w' (Am.trans (h.mono Qu))))
 have KV:Hid (∀w',Below W2.heap.size W2 w'->Calls Tryz.prog 18 #[.agg #[.slice ab nb cb],.agg #[.slice da d.length dc]] w' λe w''=>∃cv,e=.returned (.tuple #[cv,.bool (Ld d gb).isSome])/\IntsIn w'' w''.heap.size (gh d gb) cv/\Below w'.heap.size w' w''):=λw' h=>by{have UQ:=Am.trans (h.mono Qu);exact Ul d gb _ _ w' _ UQ.size (hb.below UQ) ⟨_,rfl,hdi.below Jk.kept UQ⟩ (Oi PT) (λw'' h'=>hT w'' (UQ.trans (h'.mono UQ.size)))}
 clear UL Am K0 K1 ha hb hT hdi hd;go_enter Tryz.func74,Tryz.ntmps74;go_upto_region 1 with(fail);rw[EZ.out];go_upto_region 2 with(go_at_call 18;refine YX.out.mono ?_;rintro e w3 ⟨c1,rfl,h3,jB⟩;have HI1:=Lib.hid h3;have Jq:=Lib.hid jB;have y0:=(OD.out _ jB).1;have y1:=(OD.out _ jB).2;clear h3 jB);go_upto_region 3 with(go_at_call 18;refine(KV.out _ Jq.out).mono ?_;rintro e w4 ⟨c2,rfl,h4,jy⟩;have HI2:=Lib.hid h4;have Lk:=Lib.hid jy;clear h4 jy);have DT:=Lib.hid (OE (gh d ga) _ c1 c2 w4 (Sa.mono (Ad.mono _) Lk.out.size (Sa.below (Ad.kept _) Lk.out HI1.out)) HI2.out);go_wp2_with (go_at_call 75;refine DT.out.mono ?_;rintro e w5 ⟨rfl,rfl⟩);go_ret;exact⟨rfl,(OA.out.trans (Jq.out.mono Qu)).trans (Lk.out.mono (by have:=Jq.out.size;omega))⟩
theorem Qh.grow{W W':World}{a:Jo}{v:Value}(h:Qh W W.heap.size a v)(hb:Below W.heap.size W W'):Qh W' W'.heap.size a v:=by
 obtain⟨vb,vo,rfl,h1,h2⟩:=h;exact⟨_,_,rfl,Sa.mono (Ad.mono _) hb.size (Sa.below (Ad.kept _) hb h1),Sa.mono (Ad.mono _) hb.size (Sa.below (Ad.kept _) hb h2)⟩
structure Uj where
 r:Fx
 a:Option Addr
 n:Nat
 c:Nat
 ba:Option Addr
 bc:Nat
 oa:Option Addr
 oc:Nat
def Uj.cells(x:Uj):List Value:=[.slice x.a x.n x.c,.int .i64 x.r.2.state,.int .i64 x.r.2.value,.slice x.ba x.r.2.by_.length x.bc,.slice x.oa x.r.2.over.length x.oc]
structure CK (g : Option Nat) (W W' : World) : Prop where
 size:W.heap.size<=W'.heap.size
 cell:∀b o u,some b≠g->W.cell? ⟨b,o,none⟩=some u->W'.cell? ⟨b,o,none⟩=some u
def Y9(W:World)(g:Nat):Prop:=∀o s,W.cell? ⟨g,o,none⟩≠some (.string s)
section
variable {g : Option Nat} {W W' : World} {d : List Fa}
theorem CK.jc(h:Below W.heap.size W W'):CK g W W':=⟨h.size,λ_ _ _ _ hc=>(h.cell (World.block_lt_of_cell? _ _ hc)).trans hc⟩
theorem CK.PE(hs:W.heap.size<=W'.heap.size)(h:∀b,b<W.heap.size->some b≠g->W'.heap[b]? =W.heap[b]?):CK g W W':=
 ⟨hs,λb _ _ hne hc=>(World.cell?_of_block (h b (World.block_lt_of_cell? _ _ hc) hne)).trans hc⟩
theorem CK.wo{M:Nat}{es:Array MapEntry}{c:Nat}(hm:W.heap[M]? =some (.map es c))(h:Bq M W W'):CK g W W':=
 ⟨Nat.le_of_eq h.size.symm,λb o u _ hc=>(h.cell (by grind [World.cell?])).trans hc⟩
theorem CK.strs(h:CK g W W')(hg:∀b,g=some b->Y9 W b){B:Nat}{l:List ByteArray}{v:Value}(hl:Sc W B l v):Sc W' B l v:=by
 obtain⟨ao,cap,rfl,h1,h2,h3⟩:=hl;refine⟨ao,cap,rfl,h1,h2,λhne=>?_⟩;obtain⟨b,off,rfl,hlt,hc⟩:=h3 hne;exact⟨b,off,rfl,hlt,λi hi=>h.cell _ _ _ (λe=>hg b e.symm _ _ (hc i hi)) (hc i hi)⟩
theorem CK.dg(h:CK g W W'){B:Nat}{t:List Dn}{v:Value}(hd:Rg W B g.toList t v):Rg W' B g.toList t v:=by
 obtain⟨u,rfl,ao,cap,rfl,h1,h2,h3⟩:=hd;refine⟨_,rfl,ao,cap,rfl,h1,h2,λhne=>?_⟩;obtain⟨b,off,rfl,hlt,hc⟩:=h3 hne;refine⟨b,off,rfl,hlt,λi hi=>?_⟩;obtain⟨⟨vc,vk,c0,c1,c2,c3,k1,k2⟩,hn,vc',vk',c1',c2',a1,a2⟩:=hc i hi;have e1:=Option.some.inj (c1.symm.trans c1');have e2:=Option.some.inj (c2.symm.trans c2');subst e1 e2;have QN:some b≠g:=λe=>hn (by grind)
 have key:∀ {l:List Int} {v:Value},IntsIn W B l v->Av g.toList l v->IntsIn W' B l v:=λ⟨ao,cap,e,q1,q2,q3⟩ ha=>by{subst e;refine⟨ao,cap,rfl,q1,q2,λhl=>?_⟩;obtain⟨b',J0,rfl,aeM,hc'⟩:=q3 hl;have AI:=ha hl _ _ _ rfl;exact⟨b',J0,rfl,aeM,λj hj=>h.cell _ _ _ (λe=>AI (by grind)) (hc' j hj)⟩}
 exact⟨⟨vc,vk,h.cell _ _ _ QN c0,h.cell _ _ _ QN c1,h.cell _ _ _ QN c2,h.cell _ _ _ QN c3,key k1 a1,key k2 a2⟩,hn,vc,vk,h.cell _ _ _ QN c1,h.cell _ _ _ QN c2,a1,a2⟩
structure Uj.Ok (W : World) (g : Option Nat) (d : List Fa) (x : Uj) : Prop where
 dg:Rg W W.heap.size g.toList x.r.1 (.agg #[.slice x.a x.n x.c])
 valid:Qc d x.r.1
 by_:Sc W W.heap.size x.r.2.by_ (.slice x.ba x.r.2.by_.length x.bc)
 over:Sc W W.heap.size x.r.2.over (.slice x.oa x.r.2.over.length x.oc)
theorem Uj.Ok.ck{x:Uj}(h:x.Ok W g d)(hc:CK g W W')(hg:∀b,g=some b->Y9 W b):x.Ok W' g d:=
 ⟨(hc.dg h.dg).mono hc.size,h.valid,Sa.mono (Ad.mono _) hc.size (hc.strs hg h.by_),Sa.mono (Ad.mono _) hc.size (hc.strs hg h.over)⟩
theorem Uj.Ok.new{x:Uj}{g':Nat}(h:x.Ok W g d)(hb:Below W.heap.size W W')(hg:W.heap.size<=g'):x.Ok W' (some g') d:=
 ⟨(Rg.ul (h.dg.dg.below hb) (λb hm=>by grind)).mono hb.size,h.valid,Sa.mono (Ad.mono _) hb.size (Sa.below (Ad.kept _) hb h.by_),Sa.mono (Ad.mono _) hb.size (Sa.below (Ad.kept _) hb h.over)⟩
structure mf (W : World) (base : Nat) (d : List Fa) (v : Value) (xs : List Uj) : Prop where
 own:W.ownsRow base 57 5 v xs.length (xs.flatMap Uj.cells)
 ns:∀g,v.ownBlock=some g->Y9 W g
 ok:∀x∈xs,x.Ok W v.ownBlock d
theorem mf.nil(W:World)(base:Nat):mf W base d (.slice none 0 0) []:=⟨World.ownsRow_nil _ _ _ _,λg h=>(by cases h),λx h=>(by cases h)⟩
variable {base : Nat} {v : Value} {xs : List Uj}
theorem mf.Pd(h:mf W base d v xs):(v=.slice none 0 0/\xs=[])\/∃g cap Aq,v=.slice (some ⟨g,0,none⟩) xs.length cap/\base<=g/\qb W g 57 Aq/\xs.length<=cap/\cap<=maxLen/\Aq.size=cap*5/\Aq.toList.take (xs.length*5)=xs.flatMap Uj.cells:=by
 rcases h.own.2 with⟨h1,h2⟩|q
 ·grind
 {exact .inr q}
theorem mf.ck(h:mf W base d v xs)(hc:CK v.ownBlock W W')(hb:∀g,v.ownBlock=some g->W'.heap[g]? =W.heap[g]?):mf W' base d v xs:=
 ⟨lh h.own hb,λg hg o s hs=>h.ns g hg o s (by grind [World.cell?_of_block]),λx hx=>(h.ok x hx).ck hc h.ns⟩
theorem mf.lt(h:mf W base d v xs){g:Nat}(hg:v.ownBlock=some g):g<W.heap.size:=by
 rcases h.Pd with⟨rfl,_⟩|⟨g',cap,Aq,rfl,_,hb,_⟩
 {cases hg}
 {cases hg;exact hb.lt}
theorem mf.below(h:mf W base d v xs)(hb:Below W.heap.size W W'):mf W' base d v xs:=h.ck (.jc hb) λg hg=>hb.block g (h.lt hg)
theorem mf.Lw(h:mf W base d v xs){M:Nat}{es:Array MapEntry}{c:Nat}(hm:W.heap[M]? =some (.map es c))(hu:Bq M W W'):mf W' base d v xs:=by
 refine h.ck (.wo hm hu) λq hg=>hu.block q ?_
 intro eq;subst eq;rcases h.Pd with⟨rfl,_⟩|⟨g',cap,Aq,rfl,_,hb,_⟩
 {cases hg}
 {(cases hg);have e:=Option.some.inj ((show W.heap[_]? =_ from hb).symm.trans hm);simp at e}
theorem yS:∀(xs:List Uj) (i j:Nat) (hi:i<xs.length),j<5->(xs.flatMap Uj.cells)[i*5+j]? =xs[i].cells[j]?
 | x::xs,0,j,_,hj=>by{rw[List.flatMap_cons,List.getElem?_append_left (by show _<5;omega)];simp}
 | x::xs,i+1,j,hi,hj=>by{rw[List.flatMap_cons,List.getElem?_append_right (by show 5<=_;omega),show(i+1)*5+j-x.cells.length=i*5+j by show _-5=_;omega,yS xs i j (by grind) hj];simp}
theorem L0:∃i z,Tryz.prog.info? 57=some i/\i.size=5/\i.zero=some z/\z.cells=#[.slice none 0 0,.int .i64 0,.int .i64 0,.slice none 0 0,.slice none 0 0]/\i.bytes=88:=by
 have h:(Tryz.prog.info? 57).map (λi=>(i.size,i.zero.map (·.cells),i.bytes))=some (5,some #[.slice none 0 0,.int .i64 0,.int .i64 0,.slice none 0 0,.slice none 0 0],88):=by kernel_rfl
 grind [Option.map_eq_some_iff]
def NS(u:Value):Prop:=∀s,u≠ .string s
theorem NH(x:Uj):∀u∈x.cells,NS u:=by
 intro u hu s;unfold Uj.cells at hu;simp at hu
 grind
theorem mB(w:World)(ty:TypeId)(h:mf w base d v xs)(x:Uj)(hx:x.Ok w v.ownBlock d)(ad:Addr)(c:Nat)(hn:∀j u,x.cells[j]? =some u->w.cell? (ad.add j)=some u)(h63:xs.length+1<=1000000)(tQ:base<=w.heap.size):
  ∃v' w',(Builtin.append_ #[46,46] ty #[v,.slice (some ad) 1 c]).run Tryz.prog w=.ok v' w'/\mf w' base d v' (xs++[x])/\w.grownBy w' v.ownBlock:=by
 obtain⟨i,z,hi,hs,hz,hzc,hb⟩:=L0;have hm:1000064<=maxLen:=by unfold maxLen;omega
 have h1:∀u∈x.cells,u.oneCell'=true:=by intro u hu;unfold Uj.cells at hu;simp at hu;rcases hu with rfl|rfl|rfl|rfl|rfl<;>rfl
 have M4:∀m,∀u∈(Builtin.zeroCells z.cells m).toList,NS u:=by
  intro m u hu;rw[hzc]at hu;simp only[Builtin.zeroCells]at hu;simp at hu;obtain⟨a,_,rfl⟩:=hu;intro s
  grind
 obtain⟨v',w',hr,h2,h3,h4,h5⟩:=run_append_own_at w base 46 ty 57 i z 5 88 Tryz.underlying46 hi hz hs hb (by rw[hzc];rfl) (by decide) v _ _ h.own ad 1 c _ rfl hn h1 (by omega) (by omega) tQ
 have h2':w'.ownsRow base 57 5 v' (xs++[x]).length ((xs++[x]).flatMap Uj.cells):=by
  grind
 have hxf:∀u∈xs.flatMap Uj.cells,NS u:=by
  grind [NH]
 have key:∀g cs,v'.ownBlock=some g->w'.heap[g]? =some (.cells cs 57 (0,0))->(∀u∈cs.toList,NS u)->∀g,v'.ownBlock=some g->Y9 w' g:=by{intro g cs hg hcs mH g' hg' o s hu;rw[hg]at hg';(cases hg');rw[qb.cell hcs]at hu;exact mH _ (Array.mem_toList_iff.2 (Array.mem_of_getElem? hu)) s rfl}
 have mH:∀y∈xs++[x],y.Ok w v.ownBlock d:=λy hy=>by
  rcases List.mem_append.1 hy with hy|hy
  {exact h.ok y hy}
  grind
 have eA:(∀g,v'.ownBlock=some g->w.heap.size<=g)->w.grownBy w' none->∀y∈xs++[x],y.Ok w' v'.ownBlock d:=λhg hw y hy=>by{have CA:Below _ w w':=⟨hw.os,hw.tape,hw.output,hw.size,λk hk=>hw.block k hk (by simp)⟩;(rcases h2'.2 with⟨_,h0⟩|⟨g,cap,Aq,rfl,_⟩);{simp at h0};{exact(mH y hy).new CA (hg g rfl)}}
 refine⟨v',w',hr,?_,h3⟩;rcases h.Pd with⟨rfl,h0⟩|⟨g0,cap,Aq,rfl,tS,tm,k1,k2,k3,k4⟩
 ·have TG:=run_append_nil w 46 ty 57 i z Tryz.underlying46 hi hz ad 1 c _ (by rw[hs];rfl) hn (by decide) (by decide) (by omega)
  rw[hr]at TG;obtain⟨rfl,rfl⟩:v'=_/\w'=_:=by injection TG with a b;exact⟨a,b⟩
  refine⟨h2',key _ _ rfl (heap_alloc_new _ _) λu hu=>?_,eA (λg e=>by cases e;grind) h3⟩
  grind [NH]
 ·by_cases hroom:xs.length+1<=cap
  ·have TG:=run_append_room w 46 ty 57 i Tryz.underlying46 hi g0 _ cap Aq tm ad 1 c _ (by rw[hs];rfl) hn h1 hroom (by rw[hs,k3];show xs.length*5+5<=_;omega)
   rw[hr]at TG;obtain⟨rfl,rfl⟩:v'=_/\w'=_:=by injection TG with a b;exact⟨a,b⟩
   have apE:∀u∈Aq.toList,NS u:=λu hu s e=>by{subst e;obtain⟨o,ho,e⟩:=List.getElem_of_mem hu;exact h.ns g0 rfl o s (by rw[qb.cell tm, <-Array.getElem?_toList,List.getElem?_eq_getElem ho,e])}
   refine⟨h2',key _ _ rfl (setRow_heap w g0 Aq _ 57 _ tm) λu hu=>?_,λy hy=>(mH y hy).ck (.PE h3.size h3.block) h.ns⟩
   grind [NH]
  ·have aeN:Builtin.nextslicecap (xs.length+1) cap*i.bytes<=281474976710656:=growslice_fits (by omega) (by grind)
   have TG:=run_append_grow w 46 ty 57 i z Tryz.underlying46 hi hz _ _ cap _ (by grind) (h.own.cells (g:=g0) rfl) ad 1 c _ (by rw[hs];rfl) hn (by omega) (by omega) aeN;rw[hr]at TG;obtain⟨rfl,rfl⟩:v'=_/\w'=_:=by injection TG with a b;exact⟨a,b⟩
   refine⟨h2',key _ _ rfl (heap_alloc_new _ _) λu hu=>?_,eA (λg e=>by cases e;grind) ⟨rfl,rfl,rfl,by simp,λk hk _=>Below.heap_alloc _ _ _ hk⟩⟩
   grind [NH]
theorem mf.at{n vc j:Nat}{va:Option Addr}(h:mf W base d (.slice va n vc) xs)(hj:j<xs.length):∃g,va=some ⟨g,0,none⟩/\base<=g/\g<W.heap.size/\W.frozen? ⟨g,j*5,none⟩=false/\∀i,i<5->W.cell? ⟨g,j*5+i,none⟩=xs[j].cells[i]? :=by
 rcases h.Pd with⟨_,rfl⟩|⟨g,cap,Aq,hv,hg,hb,k1,k2,k3,k4⟩
 {simp at hj}
 {obtain⟨rfl,_,_⟩:=hv;exact⟨g,rfl,hg,hb.lt,hb.frozen _,λi hi=>by rw[qb.cell hb, <-yS xs j i hj hi, <-k4,List.getElem?_take_of_lt (by omega),Array.getElem?_toList]⟩}
theorem fA:∀(xs:List Uj) (i:Nat) (y:Uj) (u:Value) (h:i<xs.length),y.cells=xs[i].cells.set 0 u->(xs.set i y).flatMap Uj.cells=(xs.flatMap Uj.cells).set (i*5) u
 | x::xs,0,y,u,_,hy=>by{rw[List.set_cons_zero,List.flatMap_cons,List.flatMap_cons,hy];rfl}
 | x::xs,i+1,y,u,h,hy=>by{rw[List.set_cons_succ,List.flatMap_cons,List.flatMap_cons,fA xs i y u (by simpa using h) (by grind),List.set_append_right _ _ (by show 5<=_;omega),show(i+1)*5-x.cells.length=i*5 by show _-5=_;omega]}
theorem mf.put(h:mf W base d v xs){i g:Nat}(hi:i<xs.length)(hg:v.ownBlock=some g){t:List Dn}{a:Option Addr}{n c:Nat}(ht:Rg W W.heap.size [g] t (.agg #[.slice a n c]))(hv:Qc d t):mf (W.setCell ⟨g,i*5,none⟩ (.slice a n c)) base d v (xs.set i {xs[i]with r:=(t,xs[i].r.2),a:=a,n:=n,c:=c}):=by
 rcases h.Pd with⟨rfl,rfl⟩|⟨g2,cap,Aq,rfl,tS,hb,k1,k2,k3,k4⟩
 {cases hg}
 obtain rfl:g2=g:=by cases hg;rfl
 have AI:=hb.set (i*5) (.slice a n c);have hc:CK (some g2) W (W.setCell _ (.slice a n c)):=.PE (by simp) λb _ hne=>heap_setCell_other W ⟨g2,i*5,none⟩ b _ (λe=>hne (by rw[e]))
 have hns:∀b,some g2=some b->Y9 W b:=λb e=>h.ns b e
 refine⟨⟨?_,.inr ⟨g2,cap,_,by grind,tS,AI,by grind,k2,by grind,?_⟩⟩,λb e o s hs=>?_,λy hy=>?_⟩
 {have:=h.own.1;rw[fA xs i _ (.slice a n c) hi rfl,List.length_set,List.length_set];exact this}
 {rw[fA xs i _ (.slice a n c) hi rfl,List.length_set, <-k4,Array.toList_setIfInBounds,List.take_set]}
 ·cases e
  rw[AI.cell,Array.getElem?_setIfInBounds]at hs
  split at hs
  ·grind
  {exact h.ns g2 rfl o s (by rw[hb.cell];exact hs)}
 {(rcases List.mem_or_eq_of_mem_set hy with hy|rfl);{exact(h.ok y hy).ck hc hns};{have q:=(h.ok _ (List.getElem_mem hi)).ck hc hns;exact⟨(hc.dg ht).mono (by simp),hv,q.by_,q.over⟩}}
end
open Go
theorem Vv{α:Type}:∀(a:Ask α) (w:World),w.drawn<=(w.ask a).2.drawn
 | .done a,w=>Nat.le_refl _
 | .ask what range k,w=>by{unfold World.ask;simp only;(split);{exact Vv (k 0) w};{exact Nat.le_trans (Nat.le_succ _) (Vv (k _) {w with drawn:=w.drawn+1})}}
theorem YC(w:World)(c:Sys):w.drawn<=(w.sys c).2.drawn:=by
 unfold World.sys;have h:=Vv (Kernel.perform c w.os) w
 split
 {exact Nat.le_refl _}
 {next e=>rw[e]at h;exact h}
theorem Lx{w w':World}{p:Program}{at_:Addr}{u:TypeId}{a:Addr}{v:Value}{b:Bool}{t:List Addr}(h:w.viewStore p at_ u a v b=.ok (w',t)):w'.drawn=w.drawn:=by
 unfold World.viewStore at h;simp only[bind,Except.bind,pure,Except.pure]at h
 repeat' split at h
 all_goals first
  | (cases h;done)
  | (cases h;rfl)
  | (simp only[Except.ok.injEq,Prod.mk.injEq]at h;obtain⟨rfl,_⟩:=h;rfl)
theorem vq{w w':World}{p:Program}{a:Addr}{v:Value}{b:Bool}{t:List Addr}(h:w.farStore p a v b=.ok (w',t)):w'.drawn=w.drawn:=by
 grind [World.farStore,Lx]
def O4{α:Type}:Result α->World
 | .ok _ w=>w
 | .halt _ w=>w
theorem si{α:Type}(p:Program):∀(s:Sem α) (w:World),w.drawn<=(O4 (s.run p w)).drawn
  | .pure a,w=>Nat.le_refl _
  | .load m a k,w=>by
    simp only[Sem.run]
    split
    . exact si p _ _
    . split
      . exact si p _ _
      . exact Nat.le_refl _
  | .store m a v k,w=>by
    have hk:=si p k;cases v
    all_goals
      simp only[Sem.run]
      first
        | exact Nat.le_refl _
        | (split
           . split
             . exact Nat.le_refl _
             . refine Nat.le_trans (Nat.le_of_eq ?_) (hk _);rfl
           . split
             . next e=>have h2:=vq e;rw[<-h2];exact hk _
             . exact Nat.le_refl _)
  | .new o k,w=>by{simp only[Sem.run];have h1:=si p (k w.heap.size) {w with heap:=w.heap.push o};exact h1}
  | .shape r k,w=>by simp only[Sem.run];exact si p _ _
  | .freeze a n k,w=>by{simp only[Sem.run];have h1:=si p k (w.freeze a n);have h2:(w.freeze a n).drawn=w.drawn:=by{unfold World.freeze;(repeat' split);all_goals rfl};omega}
  | .frozen a k,w=>by simp only[Sem.run];exact si p _ _
  | .getObj r k,w=>by
    simp only[Sem.run]
    split
    . exact Nat.le_refl _
    . exact si p _ _
    . exact Nat.le_refl _
  | .setObj r o k,w=>by
    simp only[Sem.run]
    split
    . exact Nat.le_refl _
    . have h1:=si p k {w with heap:=w.heap.setIfInBounds r o}
      exact h1
    . exact Nat.le_refl _
  | .choose q k,w=>by
    simp only[Sem.run]
    split
    . exact si p _ _
    . have h1:=si p (k (q.cut (w.tape w.drawn q))) {w with drawn:=w.drawn+1}
      exact Nat.le_trans (Nat.le_succ _) h1
  | .sys c k,w=>by{simp only[Sem.run];exact Nat.le_trans (YC w c) (si p _ _)}
  | .program k,w=>by simp only[Sem.run];exact si p _ _
  | .mark m k,w=>by simp only[Sem.run];exact si p _ _
  | .halt h0,w=>Nat.le_refl _
theorem Pg{α:Type}(p:Program):∀(s:Sem α) (w:World) (es:Array Event),w.drawn<=(O4 (s.runT p w es).1).drawn
  | .pure a,w,es=>Nat.le_refl _
  | .load m a k,w,es=>by
    simp only[Sem.runT]
    split
    . exact Pg p _ _ _
    . split
      . exact Pg p _ _ _
      . exact Nat.le_refl _
  | .store m a v k,w,es=>by
    have hk:=Pg p k;cases v
    all_goals
      simp only[Sem.runT]
      first
        | exact Nat.le_refl _
        | (split
           . split
             . exact Nat.le_refl _
             . refine Nat.le_trans (Nat.le_of_eq ?_) (hk _ _);rfl
           . split
             . next e=>have h2:=vq e;rw[<-h2];exact hk _ _
             . exact Nat.le_refl _)
  | .new o k,w,es=>by{simp only[Sem.runT];have h1:=Pg p (k w.heap.size) {w with heap:=w.heap.push o} es;exact h1}
  | .shape r k,w,es=>by simp only[Sem.runT];exact Pg p _ _ _
  | .freeze a n k,w,es=>by{simp only[Sem.runT];have h1:=Pg p k (w.freeze a n) es;have h2:(w.freeze a n).drawn=w.drawn:=by{unfold World.freeze;(repeat' split);all_goals rfl};omega}
  | .frozen a k,w,es=>by simp only[Sem.runT];exact Pg p _ _ _
  | .getObj r k,w,es=>by
    simp only[Sem.runT]
    split
    . exact Nat.le_refl _
    . exact Pg p _ _ _
    . exact Nat.le_refl _
  | .setObj r o k,w,es=>by
    simp only[Sem.runT]
    split
    . exact Nat.le_refl _
    . have h1:=Pg p k {w with heap:=w.heap.setIfInBounds r o} (es.push ⟨.obj r,true,o.isChan⟩)
      exact h1
    . exact Nat.le_refl _
  | .choose q k,w,es=>by
    simp only[Sem.runT]
    split
    . exact Pg p _ _ _
    . have h1:=Pg p (k (q.cut (w.tape w.drawn q))) {w with drawn:=w.drawn+1} es
      exact Nat.le_trans (Nat.le_succ _) h1
  | .sys c k,w,es=>by{simp only[Sem.runT];exact Nat.le_trans (YC w c) (Pg p _ _ _)}
  | .program k,w,es=>by simp only[Sem.runT];exact Pg p _ _ _
  | .mark m k,w,es=>by simp only[Sem.runT];exact Pg p _ _ _
  | .halt h0,w,es=>Nat.le_refl _
theorem Lf{α:Type}(p:Program){s:Sem α}{w w':World}{a:α}(h:s.run p w=.ok a w'):w.drawn<=w'.drawn:=by
 have q:=si p s w;rw[h]at q;exact q
theorem dj{α:Type}(p:Program){s:Sem α}{w w':World}{es:Array Event}{a:α}(h:(s.runT p w es).1=.ok a w'):w.drawn<=w'.drawn:=by
 have q:=Pg p s w es;rw[h]at q;exact q
def Km(d:Nat):GStep->Prop
 | .go _ w _ | .comm _ _ _ _ w _ | .spawn _ _ w _ | .count _ w _ | .timer _ _ w _ | .alone _ _ w _ | .newcoro _ _ _ w _ | .coroswitch _ _ _ w _ | .collect _ w _ | .watch _ w _=>d<=w.drawn
 | .ended .. =>True
def M0(d:Nat):Stepped->Prop
 | .next m=>d<=m.world.drawn
 | .ended .. =>True
theorem Km.after{d:Nat}{es:Array Event}:∀ {s:GStep},Km d s->Km d (s.after es)
 | .go ..,h | .comm ..,h | .spawn ..,h | .count ..,h | .timer ..,h | .alone ..,h | .newcoro ..,h | .coroswitch ..,h | .collect ..,h | .watch ..,h=>h
 | .ended ..,_=>trivial
theorem Km.le{d d':Nat}(hd:d<=d'):∀ {s:GStep},Km d' s->Km d s
 | .go ..,h | .comm ..,h | .spawn ..,h | .count ..,h | .timer ..,h | .alone ..,h | .newcoro ..,h | .coroswitch ..,h | .collect ..,h | .watch ..,h=>Nat.le_trans hd h
 | .ended ..,_=>trivial
theorem Km.ite{d:Nat}{c:Prop}[Decidable c]{a b:GStep}(h1:Km d a)(h2:Km d b):Km d (if c then a else b):=by grind
theorem aM{α:Type}(p:Program){s:Sem α}{w:World}{es es':Array Event}{r:Result α}(h:s.runT p w es=(r,es')):w.drawn<=(O4 r).drawn:=by
 grind [Pg]
theorem OH{α:Type}(p:Program){s:Sem α}{w:World}{es:Array Event}{r:Result α}(h:(s.runT p w es).1=r):w.drawn<=(O4 r).drawn:=h▸Pg p s w es
theorem N0{α:Type}(p:Program){s:Sem α}{w:World}{r:Result α}(h:s.run p w=r):w.drawn<=(O4 r).drawn:=h▸si p s w
section
variable (p : Program) (main : Bool) (fr : Frame) (cs : List Frame) (dy : Option Dying) (d : Nat) (w : World)
theorem PH(fd:Nat)(t:ByteArray)(o:Outcome):Km d (endWith w fd t o):=by
 unfold endWith;simp only
 repeat' split
 all_goals trivial
theorem ru(m:String)(h:d<=w.drawn):Km d (endThrow fr m w):=h
theorem jx{fr:Frame}{m:String}{w w':World}{g:Goroutine}{es:Array Event}(e:endThrow fr m w=.go g w' es):w'.drawn=w.drawn:=by
 grind [endThrow,dieOf]
theorem dp(v:Value)(h:d<=w.drawn):Km d (endPrinting p fr v w):=by
 unfold endPrinting;simp only
 split
 {exact h}
 {trivial}
theorem su(m:String)(h:d<=w.drawn):Km d (endFatal p fr cs dy m w):=by
 unfold endFatal;simp only
 split
 {next e=>exact Nat.le_trans h (Lf p e)}
 {trivial}
 {trivial}
theorem QH(dd:Dying)(f:Fatal)(h:d<=w.drawn):Km d (writeOn p fr dd f w):=by
 unfold writeOn;simp only
 split
 {trivial}
 {(split);(all_goals try trivial);{next e=>exact Nat.le_trans h (aM p e)};{next e=>exact Nat.le_trans h (aM p e)}}
theorem jW(dd:Dying)(h:d<=w.drawn):Km d (die p fr dd w):=by
 unfold die
 split
 ·grind [QH]
 ·split
  ·split
   {exact h}
   grind [PH]
  {simp only;(split);{exact h};{(split);{next e=>exact Nat.le_trans h (Lf p e)};{trivial}};{refine Km.after ?_;(split);(all_goals try trivial);{next e=>exact Nat.le_trans h (dj p e)};{next e=>exact Nat.le_trans h (dj p e)};{next e=>exact dp p fr d _ _ (Nat.le_trans h (OH p e))}};{trivial}}
theorem Qo(v:Value)(h:d<=w.drawn):Km d (doReturn p main fr cs dy v w):=by
 unfold doReturn
 repeat' split
 all_goals first|trivial|exact h
theorem RN(g:Nat)(h:d<=w.drawn):Km d (early p fr cs dy g w):=by
 unfold early;simp only
 repeat' split
 all_goals first
  | trivial
  | exact h
  | (have q:=Nat.le_trans h (Lf p ‹Sem.run p (choose (.early g)) w=_›);exact q)
theorem Wv(dd:Deferred)(h:d<=w.drawn):Km d (callDeferred p fr cs dy dd w):=by
 unfold callDeferred;refine Km.ite trivial ?_
 {simp only;have q:=Pg p (invoke dd.target dd.args) w #[];generalize((invoke dd.target dd.args).runT p w #[])=r at q;refine Km.after ?_;have q:d<=(O4 r.1).drawn:=Nat.le_trans h q;(split);(all_goals(rename_i e;rw[e]at q));(all_goals(repeat' split));all_goals first|trivial|exact q|exact su p fr cs dy d _ _ q|exact ru fr d _ _ q}
theorem GK(h:d<=w.drawn):Km d (unwind p main fr cs dy w):=by
 unfold unwind
 split
 {simp only;refine Km.after ?_;(split);{next e=>exact Nat.le_trans h (dj p e)};{trivial}}
 ·grind [Wv]
 ·split
  {trivial}
  ·split
   {trivial}
   ·split
    {exact h}
    ·split
     {(split);{exact h};{(split);{next e=>exact Nat.le_trans h (Lf p e)};{trivial};{trivial}}}
     ·split
      ·grind [dp]
      {trivial}
  ·split
   ·grind [Qo]
   ·simp only
    refine Km.after ?_
    split
    ·grind [Qo,Nat.le_trans,dj]
    {trivial}
    {trivial}
variable (ls : Bool)
theorem Rq(s:Sem Next)(h:d<=w.drawn):Km d (Go.stepG.apply p ls fr cs dy s w):=by
 unfold Go.stepG.apply;simp only
 have q:d<=(O4 (if ls then s.runT p w #[]else(s.run p w,#[])).1).drawn:=by
  grind [Pg,si]
 generalize(if ls then s.runT p w #[]else(s.run p w,#[]))=r at q;refine Km.after ?_
 split
 all_goals(rename_i e;rw[e]at q)
 all_goals(repeat' split)
 all_goals first|trivial|exact q|exact su p fr cs dy d _ _ q|exact ru fr d _ _ q|exact RN p fr cs dy d _ _ q
theorem zS(h:d<=w.drawn):Km d (Go.stepG.oper p ls fr cs dy w):=by
 unfold Go.stepG.oper
 repeat' split
 all_goals first|trivial|exact Rq p fr cs dy d w ls _ h
theorem ZC(b:Prop)[Decidable b](j:Option Code)(h:d<=w.drawn):Km d (match fr.roundOf with
   | none=>if b then .go {frame:={fr with mode:=.returning},callers:=cs,status:=.running,dying:=dy} w else .ended (.stuck "exit, goto: no such block or label" (fr.pos p)) w
   | some l=>GStep.after (seen p fr.fn ((Instr.endRound l j).runT p w #[]).2)<| match ((Instr.endRound l j).runT p w #[]).1 with
    | .ok v w=>doReturn p main fr cs dy v w
    | .halt _ w=>.ended (.stuck "range over a function: no such loop" (fr.pos p)) w):=by
 split
 {exact Km.ite h trivial}
 ·refine Km.after ?_
  split
  ·grind [Qo,Nat.le_trans,dj]
  {trivial}
theorem Km.elim{α:Type}{d:Nat}{o:Option α}{a:GStep}{f:α->GStep}(h1:Km d a)(h2:∀x,Km d (f x)):Km d (o.elim a f):=by
 cases o
 all_goals grind
theorem BS(h:d<=w.drawn):Km d (Go.stepG.exec p main ls fr cs dy w):=by
 unfold Go.stepG.exec;simp only
 split
 all_goals first
  | trivial
  | exact h
  | exact ZC p main fr cs dy d w _ _ h
  | exact Rq p _ cs dy d w ls _ h
  | exact Km.elim (ZC p main fr cs dy d w _ _ h) λ_=>h
  | exact Km.elim (by trivial) λ_=>Rq p _ cs dy d w ls _ h
  | exact Km.ite (zS p fr cs dy d w ls h) h
  | skip
 {(split);{exact h};{trivial}}
 ·refine Km.after ?_
  split
  ·grind [Rq,Nat.le_trans,dj]
  {trivial}
 {refine Km.after ?_;(split);{next e=>exact Nat.le_trans h (dj p e)};{next e=>exact Nat.le_trans h (OH p e)};{trivial}}
 {refine Km.ite h ?_;(split);{next e=>exact Nat.le_trans h (Lf p e)};{trivial}}
theorem SN(g:Goroutine)(h:d<=w.drawn):Km d (Go.stepG p main g w ls):=by
 unfold Go.stepG
 grind [jW,BS,GK]
end
section
variable (p : Program) (d : Nat)
theorem Mx{rest:Rest}{cases:Array CommCase}{w w':World}(h:waitingAt rest cases w=some w'):w'.drawn=w.drawn:=by
 grind [waitingAt]
theorem Nx(rest:Rest)(gs:Array Goroutine)(i:Nat)(g:Goroutine)(cases:Array CommCase)(b:Bool)(s:CommShape)(w:World)(h:d<=w.drawn):M0 d (communicate p rest gs i g cases b s w).1:=by
 unfold communicate;simp only
 split
 {trivial}
 ·split
  {(split);{(split);{next e=>have q:=Nat.le_trans h (Nat.le_of_eq (Mx e).symm);exact q};{trivial}};{exact h}}
  ·split
   {trivial}
   ·next e=>
    have q:=Nat.le_trans h (Lf p e)
    repeat' split
    all_goals first
     | trivial
     | exact q
     | (next e2=>exact Nat.le_trans q (N0 p e2))
     | (have q2:=Nat.le_trans q (Lf p ‹Sem.run p (choose (.extern "which waiting goroutine is the partner" _)) _=_›);exact q2)
theorem RH(gs:Array Goroutine)(rest:Rest)(w:World)(h:d<=w.drawn):M0 d (look p gs rest w):=by
 unfold look;simp only
 split
 {(split);{trivial};{(split);{trivial};{(split);{next e=>have q:=Nat.le_trans h (Lf p e);exact q};{trivial};{trivial}}}}
 {trivial}
theorem UN(m:Machine)(k:Nat)(h:d<=m.world.drawn):M0 d (serve p m k):=by
 unfold serve
 split
 {trivial}
 {exact h}
 {simp only;(split);{trivial};{exact h}}
theorem SH(w:World)(c:Nat):(drain w c).2.drawn=w.drawn:=by
 grind [drain]
theorem uu(m:Machine)(k:Nat)(t:Timer)(a b:Nat):(retime m k t a b).2.world.drawn=m.world.drawn:=by
 grind [retime,SH]
theorem QE{m m':Machine}{a:Addr}(h:timerOp.opened m a=some m'):m'.world.drawn=m.world.drawn:=by
 grind [timerOp.opened]
theorem nB{m m':Machine}{op:TimerOp}{v:Value}(h:timerOp m op=.ok (v,m')):m'.world.drawn=m.world.drawn:=by
 unfold timerOp at h
 split at h
 ·repeat' split at h
  all_goals first
   | (cases h;rfl)
   | (cases h;done)
 ·grind [timerOp.named,uu]
 ·grind [timerOp.named,QE,uu]
 {cases h;rfl}
theorem CS(m:Machine)(i:Nat)(ls:Bool)(h:d<=m.world.drawn):M0 d (Go.runT p m i ls).1:=by
 unfold Go.runT;simp only;have q:=SN p (i==0) d m.world ls (m.gs.swapAt! i {(default:Goroutine)with status:=.finished}).1 h
 split
 all_goals(rename_i e;rw[e]at q)
 {trivial}
 {exact Nx p d _ _ _ _ _ _ _ _ q}
 {exact q}
 {exact q}
 {(split);{trivial};{exact q}}
 {exact q}
 {exact RH p d _ _ _ q}
 {exact q}
 {exact q}
 ·repeat' split
  all_goals first
   | trivial
   | exact q
   | (next e2=>have q2:=Nat.le_trans q (Nat.le_of_eq (jx e2).symm);exact q2)
 ·repeat' split
  all_goals first
   | trivial
   | (next e2=>have q2:=Nat.le_trans q (Nat.le_of_eq (nB e2).symm);exact q2)
   | (next e2=>have q2:=Nat.le_trans q (Nat.le_of_eq (jx e2).symm);exact q2)
def MOk(d:Nat):Move->Prop
 | .goroutine m _=>d<=m.world.drawn
 | .machine s _=>M0 d s
theorem Xv(m:Machine)(h:d<=m.world.drawn):MOk d (askOn p m):=by
 unfold askOn;simp only
 split
 {trivial}
 ·next e=>
  have q:=Nat.le_trans h (Lf p e)
  have hp:∀m':Machine,d<=m'.world.drawn->MOk d (match (choose (.sched (runnable m.gs m.world.os.mono).length)).run p m'.world with
   | .halt _ w=>.machine (.ended (.stuck "sched" "") w)
   | .ok k world=>
    if(runnable m.gs m.world.os.mono).length<=1 then .goroutine {m' with world} ((runnable m.gs m.world.os.mono).getD k 0)else
    match (choose (.extern "sched.slice" 65536)).run p world with
    | .halt _ w=>.machine (.ended (.stuck "sched.slice" "") w)
    | .ok n world=>.goroutine {m' with world,rest:={m'.rest with slice:=if n=0 then none else some ((runnable m.gs m.world.os.mono).getD k 0,n)}} ((runnable m.gs m.world.os.mono).getD k 0)):=λm' h'=>by
   split
   {trivial}
   ·next e2=>
    have q2:=Nat.le_trans h' (Lf p e2)
    split
    {exact q2}
    {(split);{trivial};{next e3=>have q3:=Nat.le_trans q2 (Lf p e3);exact q3}}
  split
  {exact UN p d _ _ q}
  ·split
   {(split);{exact q};{(split);{exact q};{split<;>trivial}}}
   ·split
    {exact hp {m with world:=_} q}
    ·split
     {trivial}
     {next e2=>exact hp {m with world:=_} (Nat.le_trans q (Lf p e2))}
     {next e2=>have q2:=Nat.le_trans q (Lf p e2);exact q2}
     grind [Nat.le_trans,Lf,Machine.advanceTo]
theorem kW(m:Machine)(h:d<=m.world.drawn):MOk d (ask p m):=by
 unfold ask
 split
 ·split
  {trivial}
  ·next e=>
   have q:=RH p d m.gs m.rest _ (Nat.le_trans h (Lf p e))
   split
   {next e2=>rw[e2]at q;exact Xv p d _ q}
   {exact q}
  grind [Xv,Nat.le_trans,Lf]
 grind [Xv]
theorem DS(m:Machine)(h:d<=m.world.drawn):M0 d (step p m):=by
 unfold step stepT
 have q:MOk d (move p m):=by
  unfold move
  repeat' split
  all_goals first
   | trivial
   | exact h
   | exact kW p d _ h
 split
 {next e=>rw[e]at q;exact CS p d _ _ _ q}
 {next e=>rw[e]at q;exact q}
theorem TH:∀(n:Nat) (m:Machine),d<=m.world.drawn->M0 d (runN p n m)
 | 0,_,h=>h
 | n+1,m,h=>by{rw[runN];have q:=DS p d m h;(split);{next e=>rw[e]at q;exact TH n _ q};{exact q}}
end
theorem Calls.drawn{P:Program}{f:FuncId}{args:Array Value}{w:World}{R:Ending->World->Prop}(h:Calls P f args w R)(hr:∀e w',R e w'->∃v,e=.returned v):Calls P f args w λe w'=>R e w'/\w.drawn<=w'.drawn:=λcs=>by
 obtain⟨e,w',fr,h1,h2,h3⟩:=h cs;obtain⟨v,rfl⟩:=hr _ _ h1;obtain⟨n,hn⟩:=h2;have q:=TH P w.drawn n (lone (Frame.enter P f args .normal) cs w) (Nat.le_refl _);rw[hn]at q;exact⟨_,w',fr,⟨h1,q⟩,⟨n,hn⟩,h3⟩
end Go.Proofs.YtdipkbobalnilaaGreatDoor
namespace Go.Proofs
open Go.Shelf
def Tryz.UH:Go.Shelf.Ren:=⟨fun|6=>73|15=>117|14=>116|28=>150|29=>151|20=>142|21=>143|22=>144|23=>145|24=>146|25=>147|26=>148|27=>149|46=>182|47=>183|48=>184|49=>185|50=>186|57=>202|n=>n,fun|22=>46|24=>57|25=>154|3=>3|39=>200|0=>0|53=>231|55=>233|4=>4|46=>225|45=>224|50=>90|5=>5|9=>9|66=>258|70=>262|76=>273|77=>234|n=>n,fun|n=>n⟩
theorem Tryz.lW:Go.Proofs.SlLaysF0.n6 Tryz.prog Tryz.UH:={
 mixed:=by kernel_rfl
 f6:=⟨Tryz.f73.name,by decide,Tryz.func73.trans (congrArg some (by kernel_rfl))⟩
 f14:=⟨Tryz.f116.name,by decide,Tryz.func116.trans (congrArg some (by kernel_rfl))⟩
 f15:=Tryz.func117.trans (congrArg some (by kernel_rfl))
 f20:=⟨Tryz.f142.name,by decide,Tryz.func142.trans (congrArg some (by kernel_rfl))⟩
 f21:=⟨Tryz.f143.name,by decide,Tryz.func143.trans (congrArg some (by kernel_rfl))⟩
 f22:=⟨Tryz.f144.name,by decide,Tryz.func144.trans (congrArg some (by kernel_rfl))⟩
 f23:=⟨Tryz.f145.name,by decide,Tryz.func145.trans (congrArg some (by kernel_rfl))⟩
 f24:=⟨Tryz.f146.name,by decide,Tryz.func146.trans (congrArg some (by kernel_rfl))⟩
 f25:=⟨Tryz.f147.name,by decide,Tryz.func147.trans (congrArg some (by kernel_rfl))⟩
 f26:=⟨Tryz.f148.name,by decide,Tryz.func148.trans (congrArg some (by kernel_rfl))⟩
 f27:=⟨Tryz.f149.name,by decide,Tryz.func149.trans (congrArg some (by kernel_rfl))⟩
 f28:=Tryz.func150.trans (congrArg some (by kernel_rfl))
 f29:=Tryz.func151.trans (congrArg some (by kernel_rfl))
 f46:=⟨Tryz.f182.name,by decide,Tryz.func182.trans (congrArg some (by kernel_rfl))⟩
 f47:=Tryz.func183.trans (congrArg some (by kernel_rfl))
 f48:=Tryz.func184.trans (congrArg some (by kernel_rfl))
 f49:=⟨Tryz.f185.name,by decide,Tryz.func185.trans (congrArg some (by kernel_rfl))⟩
 f50:=⟨Tryz.f186.name,by decide,Tryz.func186.trans (congrArg some (by kernel_rfl))⟩
 f57:=⟨Tryz.f202.name,by decide,Tryz.func202.trans (congrArg some (by kernel_rfl))⟩
 t0:=Tryz.underlying0
 a0:=Tryz.isAgg0
 z0:=Tryz.sizeOf0
 v0:=Tryz.zeroValue0
 t3:=Tryz.underlying3
 a3:=Tryz.isAgg3
 z3:=Tryz.sizeOf3
 v3:=Tryz.zeroValue3
 t4:=Tryz.underlying4
 a4:=Tryz.isAgg4
 z4:=Tryz.sizeOf4
 v4:=Tryz.zeroValue4
 t5:=Tryz.underlying5
 a5:=Tryz.isAgg5
 z5:=Tryz.sizeOf5
 v5:=Tryz.zeroValue5
 t9:=Tryz.underlying9
 a9:=Tryz.isAgg9
 z9:=Tryz.sizeOf9
 v9:=Tryz.zeroValue9
 t22:=Tryz.underlying46
 a22:=Tryz.isAgg46
 z22:=Tryz.sizeOf46
 v22:=Tryz.zeroValue46
 t25:=Tryz.underlying154
 a25:=Tryz.isAgg154
 z25:=Tryz.sizeOf154
 v25:=Tryz.zeroValue154
 t39:=Tryz.underlying200
 a39:=Tryz.isAgg200
 z39:=Tryz.sizeOf200
 v39:=Tryz.zeroValue200
 t45:=Tryz.underlying224
 a45:=Tryz.isAgg224
 z45:=Tryz.sizeOf224
 v45:=Tryz.zeroValue224
 t46:=Tryz.underlying225
 a46:=Tryz.isAgg225
 z46:=Tryz.sizeOf225
 v46:=Tryz.zeroValue225
 t50:=Tryz.underlying90
 a50:=Tryz.isAgg90
 z50:=Tryz.sizeOf90
 v50:=Tryz.zeroValue90
 t53:=Tryz.underlying231
 a53:=Tryz.isAgg231
 z53:=Tryz.sizeOf231
 v53:=Tryz.zeroValue231
 t55:=Tryz.underlying233
 a55:=Tryz.isAgg233
 z55:=Tryz.sizeOf233
 v55:=Tryz.zeroValue233
 t66:=Tryz.underlying258
 a66:=Tryz.isAgg258
 z66:=Tryz.sizeOf258
 v66:=Tryz.zeroValue258
 t70:=Tryz.underlying262
 a70:=Tryz.isAgg262
 z70:=Tryz.sizeOf262
 v70:=Tryz.zeroValue262
 t76:=Tryz.underlying273
 a76:=Tryz.isAgg273
 z76:=Tryz.sizeOf273
 v76:=Tryz.zeroValue273
 t77:=Tryz.underlying234
 a77:=Tryz.isAgg234
 z77:=Tryz.sizeOf234
 v77:=Tryz.zeroValue234}
end Go.Proofs
namespace Go.Proofs.YtdipkbobalnilaaGreatDoor
open Go.RowKit Go.Shelf
open Go.Sort (PermIn SortedIn HoldsK)
abbrev RgZ(W:World)(g:Nat)(d:List Fa):={x:Uj // x.Ok W (some g) d}
def VH{W:World}{g:Nat}{d:List Fa}(x:RgZ W g d):List Value:=x.1.cells
def O0{W:World}{g:Nat}{d:List Fa}(x y:RgZ W g d):Int:=cmpL (gh d x.1.r.1) (gh d y.1.r.1)
def Zt(d:List Fa)(ys:List Uj):Prop:=ys.Pairwise λx y=>¬gh d y.r.1<gh d x.r.1
theorem WN{base:Nat}{d:List Fa}{v:Value}{xs:List Uj}{da:Option Addr}{dc:Nat}{w:World}(h:mf w base d v xs)(hne:xs≠[])(hl:xs.length<=100000)(hd:Sa Jk 4 w base d (.slice da d.length dc))(hT:Jh base w)(hB:base<=w.heap.size):
  Calls Tryz.prog 36 #[v,.agg #[.slice da d.length dc]] w λe w'=>e=.returned (.tuple #[])/\Below base w w'/\∃ys:List Uj,ys.Perm xs/\Zt d ys/\mf w' base d v ys:=by
 have km:Below _ w (w.alloc (.cells #[.slice da d.length dc] 24)):=(Below.refl _ _).alloc (Nat.le_refl _) _;have KD:=qb.new w 24 #[.slice da d.length dc];obtain⟨W,hW⟩:∃W,w.alloc (.cells #[.slice da d.length dc] 24)=W:=⟨_,rfl⟩;rw[hW]at km KD;have hr:=h.below km;have Sj:=km.size;rcases h.Pd with⟨_,h0⟩|⟨g,cap,aeP,rfl,hg,tm, -⟩
 {exact absurd h0 hne}
 have PI:=tm.lt;rcases hr.Pd with⟨e,_⟩|⟨g',cap',Aq,e, -,hb,h1,h2,h3,h4⟩
 {cases e}
 cases e
 clear tm aeP h;have hro:∀x∈xs,x.Ok W (some g) d:=hr.ok;obtain⟨zs,hz⟩:∃zs:List (RgZ W g d),zs.map (·.1)=xs:=⟨xs.pmap (λx h=>⟨x,h⟩) hro,by rw[List.map_pmap];simp⟩;have hzl:zs.length=xs.length:=by rw[<-hz,List.length_map]
 haveI:Inhabited _:=⟨zs.head (λe=>hne (by rw[<-hz,e];rfl))⟩
 have z_:zs.flatMap VH=xs.flatMap Uj.cells:=by rw[<-hz,List.flatMap_map];rfl
 have hH:=eW (k:=5) (λ_=>rfl) (by decide) hb (by rw[hzl,z_];exact h4)
 have hS:=AnyQ.slices_SortFunc Tryz.lW 5 Tryz.isAgg57 Tryz.sizeOf57 VH (λ_=>rfl) (λx u hu=>by
  unfold VH Uj.cells at hu
  simp at hu
  rcases hu with rfl|rfl|rfl|rfl|rfl<;>rfl) O0 (I0 _) 74 #[.pointer _] g 0 cap _ W (enters_of Tryz.func74 (by kernel_rfl) rfl)
  (λm os dk _ x y=>by
   obtain⟨WS,J4⟩:∃WS,sortWorldK VH 5 W g 0 m dk os=WS:=⟨_,rfl⟩
   have hsz:=J4▸uq
   have Q2:CK _ W WS:=.PE hsz λb q hne=>by rw[<-J4];exact Ms q (λe=>hne (by rw[e]))
   have CA:=(km.mono hB).trans (J4▸qu (Nat.le_trans hB Sj) hg)
   have hx:=x.2.ck Q2 λb e=>hr.ns b e
   have hy:=y.2.ck Q2 λb e=>hr.ns b e
   have hDc:WS.cell? _=some (.slice da _ dc):=Q2.cell _ _ _ (by simp;omega) (KD.cell 0)
   rw[J4]
   refine(Calls.drawn (FK hDc (Nat.lt_of_lt_of_le KD.lt hsz) (Sa.mono Jk.mono (by omega) (hd.below Jk.kept CA)) hx.dg.dg hy.dg.dg hx.valid hy.valid rfl rfl (λw'' h'=>hT w'' (CA.trans (h'.mono (by omega))))) λ_ _ q=>⟨_,q.1⟩).mono ?_
   rintro e w' ⟨⟨rfl,q1⟩,q2⟩
   exact⟨rfl,lB q1 q2⟩) hH (Nat.lt_of_lt_of_le PI Sj) (by simp;omega)
 have M4:zs.toArray.size=xs.length:=by simp[hzl]
 rw[M4]at hS;have HS:Hid (Calls Tryz.prog 73 #[.slice (some ⟨g,0,none⟩) xs.length cap,.func (.func 74) #[] #[.pointer (some ⟨w.heap.size,0,none⟩)]] W λe w'=>e=.returned (.tuple #[])/\∃d' n os,PermIn 0 zs.toArray.size zs.toArray d'/\SortedIn (ltOf O0) 0 zs.toArray.size d'/\w'=sortWorldK VH 5 W g 0 n d' os):=by rw[M4];exact hS
 have HW:=Lib.hid hW
 have HE:Hid (∀(d':Array (RgZ W g d)) (n:Nat) (os:Array Obj),PermIn 0 zs.toArray.size zs.toArray d'->SortedIn (ltOf O0) 0 zs.toArray.size d'->Below base w (sortWorldK VH 5 W g 0 n d' os)/\∃ys:List Uj,ys.Perm xs/\Zt d ys/\mf (sortWorldK VH 5 W g 0 n d' os) base d (.slice (some ⟨g,0,none⟩) xs.length cap) ys):=λd' n os q1 q2=>by{obtain⟨p1,p2⟩:=sorted_perm q1 q2;(have p3:(d'.toList.map (·.1)).Perm xs:=by rw[<-hz];exact p1.map _);(have Q2:CK _ W (sortWorldK VH 5 W g 0 n d' os):=.PE uq λb q hne=>Ms q (λe=>hne (by rw[e])));refine⟨(km.mono hB).trans (qu (by omega) hg),_,p3,?_,?_,λb e o s hs=>?_,λy hy=>?_⟩;{unfold Zt;rw[List.pairwise_map];exact p2.imp λ{a b} q e=>q ((pu _ _).2 e)};{have:=U9 (enc:=VH) (λ_=>rfl) (by decide) (n:=n) (os:=os) (ts:=d'.toList) (by rw[<-p3.length_eq,List.length_map]) hg hb h1 h2 h3;rw[p3.length_eq,List.flatMap_map];exact this};{(cases e);rw[qb.cell (fx hb) o]at hs;(rcases NE (k:=5) (λ_=>rfl) (by decide) hs with q|q);{obtain⟨z,_,q⟩:=List.mem_flatMap.1 q;exact NH z.1 _ q s rfl};{exact hr.ns g rfl o s ((hb.cell o).trans q)}};{obtain⟨z,_,rfl⟩:=List.mem_map.1 hy;exact z.2.ck Q2 λb e=>hr.ns b e}}
 clear hS hH hW h1 h2 h3 h4 hb hr hd hT hz z_ hzl KD km;clear M4;go_enter Tryz.func36,Tryz.ntmps36;go_upto_region 1 with(fail);rw[HW.out];go_wp2_with (go_at_call 73;refine HS.out.mono ?_;rintro e w3 ⟨rfl,d',n,os,q1,q2,rfl⟩)
 go_end0
 exact⟨rfl,HE.out d' n os q1 q2⟩
end Go.Proofs.YtdipkbobalnilaaGreatDoor
