/- The walk of formula.formed: whether a node is well-formed. No conditions. -/
import Derived.Test.YtdipkbobalnilaaGreatDoorAl
import Derived.Test.YtdipkbobalnilaaGreatDoorTok2
import Derived.Deep.DeepCutAuto
set_option maxRecDepth 100000
set_option maxHeartbeats 16000000
namespace Go.Proofs.YtdipkbobalnilaaGreatDoor
open Tryz
variable{j:Nat}{E:TypeId}
section
open Go.RowKit
theorem lA{P:Program}{w:Ca}{a:Addr}{m:Mode}(f:Fn)(x y:Array Ea):(store a (.func f x y) m).run P w=stored P w a (.func f x y) m:=Go.run_store P w a _ m rfl
attribute [local go_sem] lA
theorem PK(s:Na)(w:Ca):
    Db 208 #[.string s] w λe A=>∃q y n,e=.returned (.func (.func 211) #[] #[Ma q,Ma n])/\qB s q y n A/\w.heap.size<=q/\w.heap.size<=y/\w.heap.size<=n/\Da w.heap.size w A:=by
  go_enter func208,ntmps208
  go_wp2_with (first
    | (go_at_call 209;(with_reducible refine(ZH _).mono ?_);rintro e u ⟨rfl,a⟩
       have z:=(a.cell (p:=Ya w.heap.size) Aa).trans (show _=some (.string s) by simp)
       have f:=la (((za w.heap.size w).alloc (wa _) (.cells #[.string s] 9)).trans (a.mono Aa))
       have t:=a.size
       simp only[Ia]at t
       clear a)
    | (((with_reducible show wpList _ _ _ (⟨some 3,Op.alloc 289,_,_,_,_⟩::_) _ _);refine Pj rfl rfl oB 256 oB.Dg ?_;intro F d i g)
       have c3:=(d.cell (p:=Ya w.heap.size) (by simp;omega)).trans z
       have l:=la i
       clear i)
    | ((with_reducible show wpList _ _ _ (⟨_,Op.store 289 (.tmp 3) (.tmp 5),_,_,_,_⟩::_) _ _);refine Nn rfl (.tmp 3) (.tmp 5) rfl Bp _ rfl rfl g Bu.symm Sq XH ?_;intro x b h
       have m:=la (b.size.trans l.o)
       have r:=la (f.o.trans ((d.mono ja).trans (b.below ja)))
       have C:=((b.below (B:=u.heap.size) ja).cell (p:=Ya w.heap.size) (by simp;omega)).trans c3
       have k:=la h
       clear h g d b z c3))
  have E:=m.o;have c:Da _ x (x.alloc (.cells #[L' w.heap.size u.heap.size] 291)):=(za _ _).alloc (wa _) _;go_ret;refine⟨_,u.heap.size,_,rfl,⟨⟨?_,?_,?_⟩,?_,?_,?_⟩,ja,ja,ja,?_⟩
  . exact(c.cell (by simp;omega)).trans C
  . exact λj v D=>(c.cell (by simp;omega)).trans (k.o j v D)
  . simp[L']
  . simp;omega
  . simp;omega
  . simp
  . exact r.o.trans (c.mono ja)
end
section
open Go.RowKit
attribute [local go_sem] Oper.semAt_some
def Fd.tok(x:Fd):List Ea:=[pa x.kind,.string x.text,pa x.n,pa x.at_]
theorem qW:(prog.info? 279).map (λi=>(i.zero,i.size,i.bytes))=some (some (.agg #[pa 0,.string {data:=#[]},pa 0,pa 0]),4,40):=by kernel_rfl
theorem eD(w:Ca)(l:List Ea)(t:TypeId):∀j u,l[j]? =some u->(w.alloc (.cells l.toArray t)).cell? ((Ya w.heap.size:Addr).add j)=some u:=by
 intro j u a;have:=(qb.new w t l.toArray).cell j
 grind [Addr.add]
theorem ke{W a:Ca}{v:Ea}(h:Boxed W j E v)(b:Da W.heap.size W a):Boxed a j E v:=(b.block j h.lt).trans h
theorem Ji{W a:Ca}{v:Ea}{b:Nat}{row:Option Nat}(h:Boxed W j E v)(c:W.grownBy a row)(d:∀r,row=some r->b<=r/\∃o:Obj,W.heap[r]? =some o/\o.isCells=false):Boxed a j E v:=
 boxed_own j E (λ_=>v) () W a row h c (λr e=>(d r e).2)
theorem fD{W f:Ca}{B k m:Nat}{v c:Ea}{A u:List Ea}{news:Array Ea}(t:Boxed W B 275 v)(h:W.ownsRow j 279 4 v k A)(n:(W.alloc (.cells news 279)).grownBy f v.ownBlock)(d:f.ownsRow j 279 4 c m u)
  (E:B<j) (F:j<=W.heap.size):
  Boxed (f.setCell (Ya B) c) B 275 c/\(f.setCell (Ya B) c).ownsRow j 279 4 c m u/\KeepsOthers W (f.setCell (Ya B) c)/\zg 286 W (f.setCell (Ya B) c)/\
   (∀b,b<j->b≠B->(f.setCell (Ya B) c).heap[b]? =W.heap[b]?)/\Da B W (f.setCell (Ya B) c):=by
 have q:∀a,v.ownBlock=some a->j<=a/\∃i,(W.alloc (.cells news 279)).heap[a]? =some (Obj.cells i 279 (0,0)):=by{intro a p;(rcases(h.alloc (.cells news 279)).2 with⟨rfl,_⟩|⟨g,cap,i,rfl,w,y,_⟩);all_goals grind [Value.ownBlock]}
 have l:=(t.alloc _).kept n (t.not_row Ba h)
 have hold:∀b,b<j->b≠B->(f.setCell (Ya B) c).heap[b]? =W.heap[b]? :=λb w hne=>(Oc _ _ _ b hne).trans ((n.block b (by simp;omega) (λe=>by grind)).trans (Bd _ _ b ja))
 refine⟨l.set c,d.kept (grownBy_setCell' f B c) (.inr (l.not_row Ba d).symm),?_,?_,hold,?_⟩
 {refine((KeepsOthers.alloc W _).trans (KeepsOthers.of_grownBy n λa o s p=>?_)).trans (KeepsOthers.setCell _ _ _);obtain⟨_,i,x⟩:=q a s;rw[x]at p;cases p;rfl}
 ·refine(zg.trans (zg.below ((za _ W).alloc ja _)) (zg.grown n λr C z D G=>?_)).trans (zg.boxed Ba l c)
  grind
 ·refine(((za B W).alloc ja _).grown n (by simp;omega) λa s=>?_).setCell (wa _) c
  grind
structure uY (s : Na) (B : Nat) (W : Ca) (xs : List Fd) (v : Ea) (er : Nat) : Prop where
 row:er=0->∃B',B<=B'/\W.ownsRow B' 279 4 v xs.length (xs.flatMap Fd.tok)
 Ar:xs.length<=5000
 ok:∀x∈xs,x.err=0/\I1 s x
 name:Oe s=true->er=0/\xs=[rB s]
theorem QK(s:Na)(hs:20000<s.size)(a:s.size<=maxLen)(w:Ca):
  Db 203 #[.string s] w λe b=>e=.returned (.tuple #[Ua,pa 2,pa (-1)])/\Da w.heap.size w b:=by
 unfold maxLen at a;have hd:decide ((20000:Int)<s.size)=true:=Hb ja;go_enter func203,ntmps203;go_wp2;refine Fb (Xj rfl _ _ _ rfl rfl rfl ?_ ?_ ?_) rfl ⟨rfl,?_⟩
 {go_simp}
 {go_simp}
 {go_simp}
 {exact(((za _ w).alloc ja _).alloc Aa _).alloc (by simp;omega) _}
theorem UE(s:Na)(hs:s.size<=20000)(w:Ca):
  Db 203 #[.string s] w λe w'=>∃xs v z at_,e=.returned (.tuple #[v,pa (z:Nat),pa at_])/\uY s w.heap.size w' xs v z/\Da w.heap.size w w':=by
 have hd:decide ((20000:Int)<s.size)=false:=Za ja;refine(callsIn_wide (n:=3)).1 ?_;refine callsIn_of_wp_marks func203 rfl trivial ?_ rfl;simp only[ntmps203,Rf,Qb,nd,Re,Se,Sf,Xe,Tb,Cc];gi_wp2_with (refine⟨trivial,?_⟩;gi_at_call 208;(refine(callsIn_wide.2 (PK s _)).mono ?_);rintro e w2 ⟨bt,bc,ba,rfl,q,ht,hc,ha,E⟩;simp at ht hc ha);have k0:=Boxed.new w 275 Ua;have k1:=Boxed.new (w.alloc (.cells #[Ua] 275)) 43 (pa 0);have k2:=Boxed.new ((w.alloc (.cells #[Ua] 275)).alloc (.cells #[pa 0] 43)) 3 (pa 0);have k3:=Boxed.new (((w.alloc (.cells #[Ua] 275)).alloc (.cells #[pa 0] 43)).alloc (.cells #[pa 0] 3)) 275 Ua;simp at k0 k1 k2 k3;have r0:=ke (((k0.alloc _).alloc _).alloc _) E;have r1:=ke ((k1.alloc _).alloc _) E;have r2:=ke (k2.alloc _) E;have r3:=ke k3 E;have Y:=((((za _ w).alloc (wa _) _).alloc Aa _).alloc (by simp;omega) _ |>.alloc (by simp;omega) _).trans (E.mono (by simp;omega));have Z:=E.size;simp at Z;clear k0 k1 k2 k3 E
 refine wpIn_rangeFunc_ownH rfl ja rfl trivial (enters_of func211 Ha rfl)
  (aI 2 ja s hs bt bc ba w2 q.e q.t q.c q.a) Rr.t (Rr.b q.t q.c q.a) (za _ _) (λ_=>rfl)
  (λpre W=>(∃v,Boxed W _ 275 v/\W.ownsRow _ 279 4 v pre.length _/\True)/\(Boxed W _ 275 _/\Boxed W _ 43 _/\Boxed W _ 3 _)/\(Da _ w W/\w2.heap.size<=W.heap.size)/\(pre.length<=5000/\∀x∈pre,x.1.err=0))
  (λc (pre:List (oU s)) W=>c=.ret/\(∃(z:Nat) (at_:Int),z≠0/\Boxed W w.heap.size 275 Ua/\Boxed W (w.heap.size+1) 43 (pa z)/\Boxed W (w.heap.size+1+1) 3 (pa at_))/\Da w.heap.size w W/\pre.map (·.1)≠[rB s])
  (OwnFrom.and (Own.from (holdsRow_own w2.heap.size (w.heap.size+1+1+1) 275 279 4 (λpre:List (oU s)=>pre.length) (λpre=>pre.flatMap (λx=>x.1.tok)) (λ_ _=>True)) _)
   (OwnFrom.and (λs A B row hs F I=>⟨Ji hs.1 F I,Ji hs.2.1 F I,Ji hs.2.2 F I⟩) (OwnFrom.and (OwnFrom.and (ownFrom_below (wa _) ja) (λs A B row hs F I=>ub hs F.size)) (ownFrom_pure _ _))))
  (λc s A B row hs F I=>by
   obtain⟨h1,⟨z,at_,Q,h3,h4,V⟩,h6,h7⟩:=hs
   exact⟨h1,⟨z,at_,Q,Ji h3 F I,Ji h4 F I,Ji V F I⟩,ownFrom_below ja (wa _) () A B row h6 F (λr e=>⟨by have:=(I r e).1;omega,(I r e).2⟩),h7⟩)
  ⟨⟨_,r3,Ec _ _ _ _,trivial⟩,⟨r0,r1,r2⟩,⟨Y,wa _⟩,Aa,Aa⟩
  (λx a' W=>∃Bx,w.heap.size+1+1+1<Bx/\qb W Bx 286 x.1.cells/\a'={tmps:=#[.string s,undef,Ma w.heap.size,Ma (w.heap.size+1),Ma (w.heap.size+1+1),Ma (w.heap.size+1+1+1),Ma Bx,.string s,pa s.size,.bool false,.string s,.func (.func 211) #[] #[.pointer (some ⟨bt,0,none⟩),.pointer (some ⟨ba,0,none⟩)],.agg x.1.cells,undef,undef,undef,undef,undef,undef,undef,undef,undef,undef,undef,undef,undef,undef,undef,undef,undef,undef,undef,undef,undef,undef],defers:=[]})
  (λx a' u A B row hs F I=>by
   obtain⟨Bx,h1,Q,h3⟩:=hs
   refine⟨Bx,h1,(F.block Bx Q.lt (λe=>?_)).trans Q,h3⟩
   obtain⟨_,o,ho,vF⟩:=I Bx e.symm
   rw[Q]at ho;cases ho;cases vF)
  ?assign ?body ?done ?stop
 case assign=>(rintro l pre x W K ⟨⟨v,J,d,_⟩,⟨L,M,N⟩,⟨hB,hZ⟩,hp⟩ R;have HK:=la R;obtain⟨⟨kd,tx,m,aa,z⟩,hx⟩:=x;dsimp only[Fd.cells];gi_wp2;have O:Da _ W (W.alloc (.cells (Fd.cells ⟨kd,tx,m,aa,z⟩) 286)):=(za _ W).alloc (wa _) _;refine HK.o _ _ ((KeepsOthers.alloc W _).from _) ⟨zg.below O,O.block bt (by have:=q.t;omega),O.block bc (by have:=q.c;omega),O.block ba (by have:=q.a;omega)⟩ ⟨⟨v,J.alloc _,d.alloc _,trivial⟩,⟨L.alloc _,M.alloc _,N.alloc _⟩,⟨hB.trans (O.mono hB.size),by simp;omega⟩,hp⟩ ⟨_,J.lt,qb.new W 286 _,rfl⟩)
 case body=>
  rintro l pre x a' W hl ⟨r,I⟩ ⟨⟨v,J,d,_⟩,⟨L,M,N⟩,⟨hB,hZ⟩,hp⟩ ⟨Bx,B_,bX,rfl⟩ hlt;obtain⟨⟨kd,tx,m,aa,z⟩,hx⟩:=x
  dsimp only[Fd.cells]at bX⊢
  have HX:=la bX;have x0:W.cell? _=some (.int _ kd):=bX.cell 0;have x1:W.cell? _=some (.string tx):=bX.cell 1;have x2:W.cell? _=some (.int _ m):=bX.cell 2;have x3:W.cell? _=some (.int _ aa):=bX.cell 3;have x4:W.cell? _=some (.int _ z):=bX.cell 4;have c3:=J.cell;have c0:=L.cell;have c1:=M.cell;have c2:=N.cell;have z0:=L.frozen;have z1:=M.frozen;have z2:=N.frozen;have z3:=J.frozen;have HB:=la hB;have HP:=la hp;clear bX hp;by_cases YV:z=0
  ·subst YV
   rw[show((0:Nat):Int)=0 from rfl]at x4;obtain⟨i0,hi,yx,Un,Z⟩:=info_parts qW;rcases d.2 with⟨rfl,kF⟩|⟨g,cap,Aq,rfl,F,_⟩
   {have f:=la d;have Bt:=la kF;clear d kF;gi_wp2_with (gi_at_builtin;refine wpListIn_append_own _ rfl _ _ 275 rfl _ 279 i0 _ 4 40 Tryz.underlying275 hi yx Un Z rfl Ba _ _ _ rfl (f.o.alloc _) _ 1 1 _ rfl rfl (eD W _ 279) (by simp[Value.oneCell']) (by unfold maxLen;omega) ja (by simp;omega) ?_;intro v' w1 j i _;obtain⟨g',cap',rfl⟩:=ownsRow_succ j;have P:=(J.alloc (.cells _ 279)).kept i (J.not_row Ba f.o);have fK:=P.cell;have Mu:=P.frozen;have HG:=la i;have HO:=la j;clear i j);have afs:=q.t;have aft:=q.c;have afu:=q.a;obtain⟨a1,a2,a3,a4,H,a6⟩:=fD J f.o HG.o HO.o ja hZ;refine⟨a3.from _,⟨a4,H bt ja ja,H bc ja ja,H ba ja ja⟩,⟨_,a1,by simpa[Fd.tok]using a2,trivial⟩,⟨(H w.heap.size ja ja).trans L,(H (w.heap.size+1) ja ja).trans M,(H (w.heap.size+1+1) ja ja).trans N⟩,⟨HB.o.trans (a6.mono (show w.heap.size<=w.heap.size+1+1+1 by omega)),ub hZ a6.size⟩,by have:=Bt.o;simp;omega,?_⟩;intro y C;(rcases List.mem_append.1 C with C|C);{exact HP.o.2 y C};{simp at C;rw[C]}}
   ·have f:=la d
    clear d;by_cases V:pre.length=5000
    ·have d5:((pre.length:Int)==5000)=true:=by simp;omega
     have H5:=la V;clear V;gi_wp2;gi_region
     all_goals gi_wp2
     all_goals exact⟨((((KeepsOthers.setCell W (Ya w.heap.size) Ua).trans (KeepsOthers.setCell _ (Ya (w.heap.size+1)) (pa 2))).trans (KeepsOthers.setCell _ _ (pa aa))).trans (KeepsOthers.drew _)).from _,rfl,
      ⟨2,aa,ja,((L.set _).other ja _).other ja _,((M.other ja _).set _).other ja _,((N.other ja _).other ja _).set _⟩,
      (((HB.o.setCell (wa _) _).setCell Aa _).setCell (by simp;omega) _).drew,
      λh=>by have h1:=congrArg List.length h;have Q:=H5.o;simp at h1;rw[h1]at Q;simp at Q⟩
    {(have d5:((pre.length:Int)==5000)=false:=by simp;omega);have H5:=la V;clear V;gi_wp2_with (gi_at_builtin;refine wpListIn_append_own _ rfl _ _ 275 rfl _ 279 i0 _ 4 40 Tryz.underlying275 hi yx Un Z rfl Ba _ _ _ rfl (f.o.alloc _) _ 1 1 _ rfl rfl (eD W _ 279) (by simp[Value.oneCell']) (by unfold maxLen;omega) ja (by simp;omega) ?_;intro v' w1 j i _;obtain⟨g',cap',rfl⟩:=ownsRow_succ j;have P:=(J.alloc (.cells _ 279)).kept i (J.not_row Ba f.o);have fK:=P.cell;have Mu:=P.frozen;have HG:=la i;have HO:=la j;clear i j);have afs:=q.t;have aft:=q.c;have afu:=q.a;obtain⟨a1,a2,a3,a4,H,a6⟩:=fD J f.o HG.o HO.o ja hZ;refine⟨a3.from _,⟨a4,H bt ja ja,H bc ja ja,H ba ja ja⟩,⟨_,a1,by simpa[Fd.tok]using a2,trivial⟩,⟨(H w.heap.size ja ja).trans L,(H (w.heap.size+1) ja ja).trans M,(H (w.heap.size+1+1) ja ja).trans N⟩,⟨HB.o.trans (a6.mono (show w.heap.size<=w.heap.size+1+1+1 by omega)),ub hZ a6.size⟩,by have:=HP.o.1;have:=H5.o;simp;omega,?_⟩;intro y C;(rcases List.mem_append.1 C with C|C);{exact HP.o.2 y C};{simp at C;rw[C]}}
  ·have e1:((z:Int) !=0)=true:=by simp;omega
   have e2:((z:Int)==0)=false:=by simp;omega
   gi_wp2;gi_region
   all_goals gi_wp2
   all_goals exact⟨((((KeepsOthers.setCell W (Ya w.heap.size) Ua).trans (KeepsOthers.setCell _ (Ya (w.heap.size+1)) (pa z))).trans (KeepsOthers.setCell _ (Ya (w.heap.size+1+1)) (pa aa))).trans (KeepsOthers.drew _)).from _,rfl,
    ⟨z,aa,YV,((L.set _).other ja _).other ja _,((M.other ja _).set _).other ja _,((N.other ja _).other ja _).set _⟩,
    (((HB.o.setCell (p:=Ya w.heap.size) (wa _) _).setCell (p:=Ya (w.heap.size+1)) Aa _).setCell (p:=Ya (w.heap.size+1+1)) (by simp;omega) _).drew,
    λh=>by have:=congrArg List.getLast? h;simp[rB]at this;omega⟩
 case done=>(rintro D xs W hD hS ⟨⟨v,J,d,_⟩,⟨L,M,N⟩,⟨hB,hZ⟩,hp⟩ R;have HS:=la hS;have f:=la d;have HP:=la hp;have HK:=la R;have hvf:v=Ua\/∃g n cap,v=.slice (Nb g) n cap:=by{(rcases d.2 with⟨rfl,_⟩|⟨g,cap,Aq,rfl,_⟩);{exact .inl rfl};{exact .inr ⟨g,_,cap,rfl⟩}};have PT:∀b,b<w2.heap.size->v.ownBlock=none\/v.ownBlock≠some b:=by{(rcases d.2 with⟨rfl,_⟩|⟨g,cap,Aq,rfl,F,_⟩);{exact λ_ _=>.inl rfl};{exact λb hb=>.inr (by simp[Value.ownBlock];omega)}};have G:=la PT;have p0:=((L.set v).other (B':=w.heap.size+1) ja (pa 0)).other (B':=w.heap.size+1+1) ja (pa 0);have p1:=((M.other (B':=w.heap.size) ja v).set (pa 0)).other (B':=w.heap.size+1+1) ja (pa 0);have p2:=((N.other (B':=w.heap.size) ja v).other (B':=w.heap.size+1) ja (pa 0)).set (pa 0);have I5:=(((KeepsOthers.setCell W (Ya w.heap.size) v).trans (KeepsOthers.setCell _ (Ya (w.heap.size+1)) (pa 0))).trans (KeepsOthers.setCell _ (Ya (w.heap.size+1+1)) (pa 0))).same D _ R rfl;have S:=la p0;have T:=la p1;have U:=la p2;have k:=la I5;have HB:=la hB;have c3:=J.cell;have c0:=L.cell;have c1:=M.cell;have c2:=N.cell;have z0:=L.frozen;have z1:=M.frozen;have z2:=N.frozen;clear hS d hp PT p0 p1 p2 I5 hB R;(rcases hvf with rfl|⟨g,gn,cap,rfl⟩);{gi_wp2;refine⟨Aa,.inl ⟨_,_,rfl,run_takeDeferred k.o,?_⟩⟩;(have hne:∀ {B:Nat} {t:TypeId} {v:Ea} {X:Ca} (hX:X.heap[D]? =some (.deferred (some []))),Boxed X B t v->some B≠some D:=λhX h e=>by{cases e;rw[h]at hX;cases hX});have l0:=(S.o.kept (grownBy_putObj' _ D (.deferred none)) (hne k.o S.o)).cell;have l1:=(T.o.kept (grownBy_putObj' _ D (.deferred none)) (hne k.o T.o)).cell;have l2:=(U.o.kept (grownBy_putObj' _ D (.deferred none)) (hne k.o U.o)).cell;have Pu:=((f.o.kept (grownBy_setCell' W _ Ua) (G.o w.heap.size ja)).kept (grownBy_setCell' _ _ (pa 0)) (G.o (w.heap.size+1) ja)).kept (grownBy_setCell' _ _ (pa 0)) (G.o (w.heap.size+1+1) ja);have TG:=ownsRow_putObj Pu (.deferred none) k.o rfl;refine⟨_,Xj (u:=Ua) rfl _ _ _ rfl rfl rfl (by go_simp) (by go_simp) (by go_simp),_,_,0,0,rfl,⟨λ_=>⟨w2.heap.size,ja,by simpa[List.flatMap_map]using TG⟩,by simpa using HP.o.1,?_,λhn=>⟨rfl,HS.o hn⟩⟩,?_⟩;{intro x hx;obtain⟨y,C,rfl⟩:=List.mem_map.1 hx;exact⟨HP.o.2 y C,y.2⟩};{exact(((HB.o.setCell (wa _) _).setCell Aa _).setCell (by simp;omega) _).trans (belowK_b (wa _) _ D _ _ (by have:=q.t;have:=Y.size;omega) k.o rfl rfl)}};{gi_wp2;refine⟨Aa,.inl ⟨_,_,rfl,run_takeDeferred k.o,?_⟩⟩;(have hne:∀ {B:Nat} {t:TypeId} {v:Ea} {X:Ca} (hX:X.heap[D]? =some (.deferred (some []))),Boxed X B t v->some B≠some D:=λhX h e=>by{cases e;rw[h]at hX;cases hX});have l0:=(S.o.kept (grownBy_putObj' _ D (.deferred none)) (hne k.o S.o)).cell;have l1:=(T.o.kept (grownBy_putObj' _ D (.deferred none)) (hne k.o T.o)).cell;have l2:=(U.o.kept (grownBy_putObj' _ D (.deferred none)) (hne k.o U.o)).cell;have Pu:=((f.o.kept (grownBy_setCell' W _ (.slice (Nb g) gn cap)) (G.o w.heap.size ja)).kept (grownBy_setCell' _ _ (pa 0)) (G.o (w.heap.size+1) ja)).kept (grownBy_setCell' _ _ (pa 0)) (G.o (w.heap.size+1+1) ja);have TG:=ownsRow_putObj Pu (.deferred none) k.o rfl;refine⟨_,Xj (u:=.slice (Nb g) gn cap) rfl _ _ _ rfl rfl rfl (by go_simp) (by go_simp) (by go_simp),_,_,0,0,rfl,⟨λ_=>⟨w2.heap.size,ja,by simpa[List.flatMap_map]using TG⟩,by simpa using HP.o.1,?_,λhn=>⟨rfl,HS.o hn⟩⟩,?_⟩;{intro x hx;obtain⟨y,C,rfl⟩:=List.mem_map.1 hx;exact⟨HP.o.2 y C,y.2⟩};{exact(((HB.o.setCell (wa _) _).setCell Aa _).setCell (by simp;omega) _).trans (belowK_b (wa _) _ D _ _ (by have:=q.t;have:=Y.size;omega) k.o rfl rfl)}})
 case stop=>(rintro D c pre W hD hS ⟨rfl,⟨z,at_,Q,h3,h4,V⟩,h6,h7⟩ R;gi_wp2;refine⟨Aa,.inl ⟨_,_,rfl,run_takeDeferred R,?_⟩⟩;(have hne:∀ {B:Nat} {t:TypeId} {v:Ea},Boxed W B t v->some B≠some D:=λh e=>by{cases e;rw[h]at R;cases R});have l3:=(h3.kept (grownBy_putObj' W D (.deferred none)) (hne h3)).cell;have l4:=(h4.kept (grownBy_putObj' W D (.deferred none)) (hne h4)).cell;have l5:=(V.kept (grownBy_putObj' W D (.deferred none)) (hne V)).cell;refine⟨_,Xj (u:=Ua) rfl _ _ _ rfl rfl rfl (by go_simp) (by go_simp) (by go_simp),[],_,z,at_,rfl,⟨λh=>absurd h Q,Aa,Aa,λhn=>absurd (hS hn) h7⟩,?_⟩;exact h6.trans (belowK_b (wa _) W D _ _ (by have:=q.t;have:=Y.size;omega) R rfl rfl))
end
open Go.RowKit
theorem aO{w:Ca}{v:Ea}{x:Fd}{n:Nat}{ys:List Ea}(h:w.ownsRow j 279 4 v (n+1) (x.tok++ys)):
  ∃g cap,v=.slice (Nb g) (n+1) cap/\w.cell? (Ya g)=some (pa x.kind)/\w.cell? (Ja g 1)=some (.string x.text):=by
 rcases h.2 with⟨_,c⟩|⟨g,cap,a,rfl,_,d,_,_,e,b⟩
 {omega}
 ·refine⟨g,cap,rfl,?_,?_⟩
  ·have:(a.toList.take ((n+1)*4))[0]? =some (pa x.kind):=by rw[b];rfl
   grind [World.cell?]
  ·have:(a.toList.take ((n+1)*4))[1]? =some (.string x.text):=by rw[b];rfl
   grind [World.cell?]
theorem bO(s:Na)(h:20000<s.size):Oe s=false:=by
 grind [Oe]
theorem VS{s:Na}{W:Ca}{i:List Fd}{v:Ea}{b:Nat}(h:uY s j W i v b):
  (b≠0/\Oe s=false)\/(b=0/\(∃l n cap,v=.slice l n cap/\n≠1/\n<=5000)/\Oe s=false)\/
  (b=0/\∃g cap k f,v=.slice (Nb g) 1 cap/\W.cell? (Ya g)=some (pa (k:Nat))/\W.cell? (Ja g 1)=some (.string f)/\((((k:Int)==1)&& (f.toList==s.toList))=Oe s)):=by
 by_cases c:b=0
 ·obtain⟨u,_,a⟩:=h.row c
  by_cases e:i.length=1
  {obtain⟨x,rfl⟩:=List.length_eq_one_iff.1 e;obtain⟨g,cap,rfl,m,o⟩:=aO (ys:=[]) (by simpa using a);refine .inr (.inr ⟨c,g,cap,_,_,rfl,m,o,?_⟩);rw[Rc,Ib,Pc, <-Hp,Pc];constructor;{rintro⟨y,t⟩;obtain⟨q,r⟩:=h.ok x Aa;exact r ja q t};{intro d;have:=(h.name d).2;simp at this;subst this;exact⟨rfl,rfl⟩}}
  ·refine .inr (.inl ⟨c,?_,?_⟩)
   ·rcases a.2 with⟨rfl,w⟩|⟨g,cap,p,rfl,_⟩
    ·grind
    {exact⟨_,_,_,rfl,e,h.Ar⟩}
   {rw[Tf];intro d;rw[(h.name d).2]at e;exact e rfl}
 {refine .inl ⟨c,?_⟩;rw[Tf];intro d;exact c (h.name d).1}
theorem bI(s:Na)(hs:s.size<=20000)(w:Ca):Db 203 #[.string s] w λe c=>∃v a at_,e=.returned (.tuple #[v,pa (a:Nat),pa at_])/\Da w.heap.size w c/\
  ((a≠0/\Oe s=false)\/(a=0/\(∃f n cap,v=.slice f n cap/\n≠1/\n<=5000)/\Oe s=false)\/
  (a=0/\∃g cap k d,v=.slice (Nb g) 1 cap/\c.cell? (Ya g)=some (pa (k:Nat))/\c.cell? (Ja g 1)=some (.string d)/\((((k:Int)==1)&& (d.toList==s.toList))=Oe s))):=
 (UE s hs w).mono λ_ _ ⟨_,v,a,at_,i,b,h⟩=>⟨v,a,at_,i,h,VS b⟩
theorem XS(s:Na)(hs:s.size<=maxLen)(w:Ca):
  Db 189 #[.string s] w λe r=>e=.returned (.bool (Oe s))/\Da w.heap.size w r:=by
 by_cases d:20000<s.size
 {have b:=la (bO s d);have C:=la (QK s d hs w);go_enter func189,ntmps189;go_wp2_with (go_at_call 203;refine C.o.mono ?_;rintro e t ⟨rfl,a⟩);go_ret;exact⟨Cb b.o.symm,a⟩}
 ·have C:=la (bI s ja w)
  clear d hs;go_enter func189,ntmps189;go_wp2_with (fail);refine C.o.mono ?_;rintro e t ⟨v,i,at_,rfl,a,(⟨z,c⟩|⟨rfl,⟨u,n,cap,rfl,m,p⟩,c⟩|⟨rfl,g,cap,k,q,rfl,x,y,c⟩)⟩
  {have j:((i:Int)==0)=false:=beq_eq_false_iff_ne.2 ja;have b:=la c;go_wp2;go_ret;exact⟨Cb (by rw[b.o]),a⟩}
  {have l:((n:Int)==1)=false:=beq_eq_false_iff_ne.2 ja;have b:=la c;go_wp2;go_ret;exact⟨Cb (by rw[b.o]),a⟩}
  ·cases f:((k:Int)==1)<;>cases h:(q.toList==s.toList)
   all_goals
    rw[f,h]at c;have b:=la c;go_wp2;go_ret;exact⟨Cb (by rw[<-b.o];rfl),a⟩
def YD(f:Fo):Bool:=((f.op !=3)&& ((f.cmp !=0) || (f.n !=0))) || (((f.op !=3)&& (f.op !=4))&& !f.name.toList.isEmpty)
def Th(f:Fo):Bool:=
 if YD f then false
 else if f.op=1\/f.op=2 then decide (f.kids.length=0)
 else if f.op=3 then((decide (f.kids.length=0)&& Oe f.name)&& decide (1<=f.cmp))&& decide (f.cmp<=6)
 else if f.op=4 then decide (f.kids.length=0)&& Oe f.name
 else if f.op=5 then decide (f.kids.length=1)
 else if f.op=6\/f.op=7 then decide (2<=f.kids.length)
 else false
theorem WI(f:Fo)(v:Ea)(w:Ca)(B:Nat)(Y:f.In w B v):
  Db 155 #[v] w λe N=>e=.returned (.bool (Th f))/\Da w.heap.size w N:=by
 obtain⟨b,r,c,n,a⟩:=f;obtain⟨O,cap,rfl,T,U,V,W,h5,X,_⟩:=Y;unfold maxLen at X
 have q:Hid (Th (.mk b r c n a)=if YD (.mk b r c n a)then false
  else if b=1\/b=2 then decide (a.length=0)
  else if b=3 then((decide (a.length=0)&& Oe r)&& decide (1<=c))&& decide (c<=6)
  else if b=4 then decide (a.length=0)&& Oe r
  else if b=5 then decide (a.length=1)
  else if b=6\/b=7 then decide (2<=a.length)
  else false):=rfl
 have z:Da w.heap.size w (w.alloc (.cells #[pa b,.string r,pa c,pa n,.slice O a.length cap] 32)):=(za _ _).alloc (wa _) _;generalize Th (.mk b r c n a)=R at*
 have t:=la z;clear T U V z;go_enter func155,ntmps155;go_upto_region 2 with(fail)
 go_cut[34] (λM wx=>M=.bool (YD (.mk b r c n a))/\wx=w.alloc (.cells #[pa b,.string r,pa c,pa n,.slice O a.length cap] 32))
 case first=>((cases x:(b !=3)<;>cases K:(b !=4)<;>cases L:(c !=0)<;>cases Q:(n !=0)<;>cases S:r.toList.isEmpty);all_goals(go_wp2;go_meet;exact⟨by simp[YD,Fo.op,Fo.cmp,Fo.n,Fo.name,x,K,L,Q,S],rfl⟩))
 case rest=>
  obtain⟨rfl,rfl⟩:=hcut;cases s:YD (.mk b r c n a)with
  | true=>{have i:=la (show R=false by rw[q.o,s];rfl);clear s;go_wp2;go_ret;exact⟨Cb i.o.symm,t.o⟩}
  | false=>
   rw[s,if_neg Ba]at q;clear s
   have y:(((a.length:Int)==0)=true/\decide (a.length=0)=true/\((a.length:Int)==1)=false/\decide (a.length=1)=false/\decide ((2:Int)<=a.length)=false/\decide (2<=a.length)=false)\/
     (((a.length:Int)==0)=false/\decide (a.length=0)=false/\((a.length:Int)==1)=true/\decide (a.length=1)=true/\decide ((2:Int)<=a.length)=false/\decide (2<=a.length)=false)\/
     (((a.length:Int)==0)=false/\decide (a.length=0)=false/\((a.length:Int)==1)=false/\decide (a.length=1)=false/\decide ((2:Int)<=a.length)=true/\decide (2<=a.length)=true):=by
    rcases(by omega:a.length=0\/a.length=1\/2<=a.length)with h|h|h
    {left;simp[h]}
    {right;left;simp[h]}
    {right;right;exact⟨beq_eq_false_iff_ne.2 ja,Za ja,beq_eq_false_iff_ne.2 ja,Za ja,Hb ja,Hb ja⟩}
   have C:=la (λN=>XS r W N);generalize decide (a.length=0)=A at*
   generalize decide (a.length=1)=Z at*
   generalize decide (2<=a.length)=P at*
   by_cases D:b=1
   ·subst D
    have i:=la (show R=A by rw[q.o];rfl);clear q;rcases y with⟨k,d,l,j,m,g⟩|⟨k,d,l,j,m,g⟩|⟨k,d,l,j,m,g⟩
    all_goals
     subst d;go_wp2;go_ret;exact⟨Cb i.o.symm,t.o⟩
   by_cases E:b=2
   ·subst E
    have i:=la (show R=A by rw[q.o];rfl);clear q;rcases y with⟨k,d,l,j,m,g⟩|⟨k,d,l,j,m,g⟩|⟨k,d,l,j,m,g⟩
    all_goals
     subst d;go_wp2;go_ret;exact⟨Cb i.o.symm,t.o⟩
   by_cases F:b=3
   ·subst F
    have i:=la (show R=(((A&& Oe r)&& decide (1<=c))&& decide (c<=6)) by rw[q.o];rfl);clear q;cases x:Oe r<;>cases K:decide (1<=c)<;>cases L:decide (c<=6)<;>rcases y with⟨k,d,l,j,m,g⟩|⟨k,d,l,j,m,g⟩|⟨k,d,l,j,m,g⟩
    all_goals
     subst d;rw[x,K,L]at i;rw[x]at C;clear x;go_wp2_with (go_at_call 189;refine(C.o _).mono ?_;rintro e w2 ⟨rfl,u⟩;have q2:=(u.cell (p:=Ja w.heap.size 2) Aa).trans (show _=some (Value.int .i64 c) by rw[World.cell?_alloc_at _ _ _ _ rfl];rfl));go_ret
     first
     | exact⟨Cb i.o.symm,t.o⟩
     | exact⟨Cb i.o.symm,t.o.trans (u.mono Aa)⟩
   by_cases G:b=4
   ·subst G
    have i:=la (show R=(A&& Oe r) by rw[q.o];rfl);clear q;cases x:Oe r<;>rcases y with⟨k,d,l,j,m,g⟩|⟨k,d,l,j,m,g⟩|⟨k,d,l,j,m,g⟩
    all_goals
     subst d;rw[x]at i C;clear x;go_wp2_with (go_at_call 189;refine(C.o _).mono ?_;rintro e w2 ⟨rfl,u⟩);go_ret
     first
     | exact⟨Cb i.o.symm,t.o⟩
     | exact⟨Cb i.o.symm,t.o.trans (u.mono Aa)⟩
   by_cases H:b=5
   ·subst H
    have i:=la (show R=Z by rw[q.o];rfl);clear q;rcases y with⟨k,d,l,j,m,g⟩|⟨k,d,l,j,m,g⟩|⟨k,d,l,j,m,g⟩
    all_goals
     subst j;go_wp2;go_ret;exact⟨Cb i.o.symm,t.o⟩
   by_cases I:b=6
   ·subst I
    have i:=la (show R=P by rw[q.o];rfl);clear q;rcases y with⟨k,d,l,j,m,g⟩|⟨k,d,l,j,m,g⟩|⟨k,d,l,j,m,g⟩
    all_goals
     subst g;go_wp2;go_ret;exact⟨Cb i.o.symm,t.o⟩
   by_cases J:b=7
   ·subst J
    have i:=la (show R=P by rw[q.o];rfl);clear q;rcases y with⟨k,d,l,j,m,g⟩|⟨k,d,l,j,m,g⟩|⟨k,d,l,j,m,g⟩
    all_goals
     subst g;go_wp2;go_ret;exact⟨Cb i.o.symm,t.o⟩
   have i:=la (show R=false by rw[q.o,if_neg (by simp[D,E]),if_neg F,if_neg G,if_neg H,if_neg (by simp[I,J])]);have p1:(b==1)=false:=by simpa using D
   have p2:(b==2)=false:=by simpa using E
   have p3:(b==3)=false:=by simpa using F
   have p4:(b==4)=false:=by simpa using G
   have p5:(b==5)=false:=by simpa using H
   have p6:(b==6)=false:=by simpa using I
   have p7:(b==7)=false:=by simpa using J
   clear q y D E F G H I J;go_wp2;go_ret;exact⟨Cb i.o.symm,t.o⟩
end Go.Proofs.YtdipkbobalnilaaGreatDoor
