/- lexer.Lex: a list of tokens; said: what is needed to know whether a text is one name. -/
import Derived.Test.YtejbgoigkefnfaaGreatDoorAl
import Derived.Test.YtejbgoigkefnfaaGreatDoorTok2
set_option maxRecDepth 100000
set_option maxHeartbeats 16000000
namespace Go.Proofs.YtejbgoigkefnfaaGreatDoor
section
open Go.RowKit
theorem Iz {P:Program}{w:World}{a:Addr}{m:Mode}(f:Fn)(x y:Array Value):(store a (.func f x y) m).run P w=stored P w a (.func f x y) m:=Go.run_store P w a _ m rfl
attribute [local go_sem] Iz
theorem YI (s:ByteArray)(w:World):
    Calls Tryz.prog 165 #[.string s] w fun e w'=>∃bt bc ba,e=.returned (.func (.func 171) #[] #[.pointer (some ⟨bt,0,none⟩),.pointer (some ⟨ba,0,none⟩)])/\ tD s bt bc ba w'/\ w.heap.size<=bt/\ w.heap.size<=bc/\ w.heap.size<=ba/\ Below w.heap.size w w':=by
  go_enter Tryz.func165,Tryz.ntmps165
  go_wp2_with (first
    | (go_at_call 169;(with_reducible refine(oG _).mono ?_);rintro e w2 ⟨rfl,ud⟩
       have c0:=(ud.cell (p:=⟨w.heap.size,0,none⟩) la).trans (show _=some (.string s) by simp)
       have BS:=da (((za w.heap.size w).alloc (ja _) (.cells #[.string s] 9)).trans (ud.mono la))
       have qm:=ud.size
       simp only[Ba]at qm
       clear ud)
    | (((with_reducible show wpList _ _ _ (⟨some 3,Op.alloc 197,_,_,_,_⟩::_) _ _);refine zl rfl rfl tA 256 tA.OX ?_;intro W3 Lc Ym D1)
       have c3:=(Lc.cell (p:=⟨w.heap.size,0,none⟩) (by simp;omega)).trans c0
       have HZ3:=da Ym
       clear Ym)
    | ((with_reducible show wpList _ _ _ (⟨_,Op.store 197 (.tmp 3) (.tmp 5),_,_,_,_⟩::_) _ _);refine Xo rfl (.tmp 3) (.tmp 5) rfl Xp _ rfl rfl D1 mr.symm Ur mG ?_;intro W5 tZ J9
       have T8:=da (tZ.size.trans HZ3.out)
       have fe:=da (BS.out.trans ((Lc.mono ia).trans (tZ.below ia)))
       have c5:=((tZ.below (B:=w2.heap.size) ia).cell (p:=⟨w.heap.size,0,none⟩) (by simp;omega)).trans c3
       have tj:=da J9
       clear J9 D1 Lc tZ c0 c3))
  have hz5:=T8.out;have Jt:Below W5.heap.size W5 (W5.alloc (.cells #[T5 w.heap.size w2.heap.size] 199)):=(za _ _).alloc (ja _) _;go_ret;refine⟨w.heap.size,w2.heap.size,W5.heap.size,rfl,⟨⟨?_,?_,?_⟩,?_,?_,?_⟩,ja _,ia,ia,?_⟩
  . exact(Jt.cell (p:=⟨w.heap.size,0,none⟩) (by simp;omega)).trans c5
  . exact fun j v hv=>(Jt.cell (p:=⟨w2.heap.size,0+j,none⟩) (by simp;omega)).trans (tj.out j v hv)
  . simp[T5]
  . simp;omega
  . simp;omega
  . simp
  . exact fe.out.trans (Jt.mono ia)
end
section
open Go.RowKit
attribute [local go_sem] Oper.semAt_some
def Fd.tok (x:Fd):List Value:=[.int .i64 x.kind,.string x.text,.int .i64 x.n,.int .i64 x.at_]
theorem ET :(Tryz.prog.info? 178).map (fun i=>(i.zero,i.size,i.bytes))=some (some (.agg #[.int .i64 0,.string {data:=#[]},.int .i64 0,.int .i64 0]),4,40):=by kernel_rfl
theorem nC (w:World)(l:List Value)(t:TypeId):∀j u,l[j]? =some u->(w.alloc (.cells l.toArray t)).cell? ((⟨w.heap.size,0,none⟩:Addr).add j)=some u:=by
 intro j u hj;have:=(Bb.new w t l.toArray).cell j
 have e:(⟨w.heap.size,0,none⟩:Addr).add j=⟨w.heap.size,j,none⟩:=by{unfold Addr.add;(split);{rename_i h;subst h;rfl};{simp}}
 rw[e,this]
 simpa using hj
theorem Mb {W W':World}{B:Nat}{t:TypeId}{v:Value}(h:Boxed W B t v)(hb:Below W.heap.size W W'):Boxed W' B t v:=(hb.block B h.lt).trans h
theorem Bj {W W':World}{B:Nat}{t:TypeId}{v:Value}{B':Nat}{row:Option Nat}(h:Boxed W B t v)(hg:W.grownBy W' row)(hr:∀r,row=some r->B'<=r/\ ∃o:Obj,W.heap[r]? =some o/\ o.isCells=false):Boxed W' B t v:=
 boxed_own B t (fun(_:Unit)=>v) () W W' row h hg (fun r e=>(hr r e).2)
theorem oC {W w1:World}{R B k m:Nat}{v v':Value}{xs ys:List Value}{news:Array Value}(hv:Boxed W B 174 v)(hrow:W.ownsRow R 178 4 v k xs)(hg:(W.alloc (.cells news 178)).grownBy w1 v.ownBlock)(Yk:w1.ownsRow R 178 4 v' m ys)
  (hB:B<R) (hR:R<=W.heap.size):
  Boxed (w1.setCell ⟨B,0,none⟩ v') B 174 v'/\ (w1.setCell ⟨B,0,none⟩ v').ownsRow R 178 4 v' m ys/\ KeepsOthers W (w1.setCell ⟨B,0,none⟩ v')/\ Yg 194 W (w1.setCell ⟨B,0,none⟩ v')/\
   (∀b,b<R->b≠B->(w1.setCell ⟨B,0,none⟩ v').heap[b]? =W.heap[b]?)/\ Below B W (w1.setCell ⟨B,0,none⟩ v'):=by
 have rJ:∀j,v.ownBlock=some j->R<=j/\ ∃cur,(W.alloc (.cells news 178)).heap[j]? =some (Obj.cells cur 178 (0,0)):=by{intro j hj;(rcases(hrow.alloc (.cells news 178)).2 with⟨rfl,_⟩ | ⟨g,cap,cur,rfl,hb,Xr,_⟩);{simp[Value.ownBlock]at hj};{(obtain rfl:g=j:=by simpa[Value.ownBlock]using hj);exact⟨hb,cur,Xr⟩}}
 have nJ:Boxed w1 B 174 v:=(hv.alloc _).kept hg (hv.not_row pa hrow)
 have hold:∀b,b<R->b≠B->(w1.setCell ⟨B,0,none⟩ v').heap[b]? =W.heap[b]? :=fun b hb hne=>(Gc _ _ _ b hne).trans ((hg.block b (by simp;omega) (fun e=>by have:=(rJ b e.symm).1;omega)).trans (Tb _ _ b ia))
 refine⟨nJ.set v',Yk.kept (grownBy_setCell' w1 B v') (.inr (nJ.not_row pa Yk).symm),?_,?_,hold,?_⟩
 {refine((KeepsOthers.alloc W _).trans (KeepsOthers.of_grownBy hg fun j o ej hj=>?_)).trans (KeepsOthers.setCell _ _ _);obtain⟨_,cur,hc⟩:=rJ j ej;rw[hc]at hj;cases hj;rfl}
 {refine(Yg.trans (Yg.below ((za _ W).alloc (ja _) _)) (Yg.grown hg fun r cs z er hk=>?_)).trans (Yg.boxed pa nJ v');obtain⟨_,cur,hc⟩:=rJ r er;rw[hc]at hk;cases hk}
 {refine(((za B W).alloc ia _).grown hg (by simp;omega) fun j ej=>?_).setCell (p:=⟨B,0,none⟩) (ja _) v';have:=(rJ j ej).1;omega}
structure cV (s : ByteArray) (B : Nat) (W : World) (xs : List Fd) (v : Value) (er : Nat) : Prop where
 row:er=0->∃B',B<=B'/\ W.ownsRow B' 178 4 v xs.length (xs.flatMap Fd.tok)
 Yw:xs.length<=5000
 ok:∀x∈xs,x.err=0/\ QX s x
 name:Hd s=true->er=0/\ xs=[xA s]
theorem SI (s:ByteArray)(hs:20000<s.size)(hm:s.size<=maxLen)(w:World):
  Calls Tryz.prog 152 #[.string s] w fun e w'=>e=.returned (.tuple #[.slice none 0 0,.int .i64 2,.int .i64 (-1)])/\ Below w.heap.size w w':=by
 unfold maxLen at hm;have hd:decide ((20000:Int)<s.size)=true:=Ma ia;go_enter Tryz.func152,Tryz.ntmps152;go_wp2;refine Qa (Dl rfl _ _ _ rfl rfl rfl ?_ ?_ ?_) rfl ⟨rfl,?_⟩
 {go_simp}
 {go_simp}
 {go_simp}
 {exact(((za _ w).alloc (ja _) _).alloc la _).alloc (by simp;omega) _}
theorem mD (s:ByteArray)(hs:s.size<=20000)(w:World):
  Calls Tryz.prog 152 #[.string s] w fun e w'=>∃xs v er at_,e=.returned (.tuple #[v,.int .i64 (er:Nat),.int .i64 at_])/\ cV s w.heap.size w' xs v er/\ Below w.heap.size w w':=by
 have hd:decide ((20000:Int)<s.size)=false:=Ia ia;refine(callsIn_wide (n:=3)).1 ?_;refine callsIn_of_wp_marks Tryz.func152 rfl trivial ?_ rfl;simp only[Tryz.ntmps152,Af,ib,Cc,Nat.reduceAdd,Nat.reduceSub,Df,Ef,qg,Lf,Ya,Sb];gi_wp2_with (refine⟨trivial,?_⟩;gi_at_call 165;(refine(callsIn_wide.2 (YI s _)).mono ?_);rintro e w2 ⟨bt,bc,ba,rfl,he,ht,hc,ha,ud⟩;simp only[Ba]at ht hc ha);have k0:=Boxed.new w 174 (.slice none 0 0);have k1:=Boxed.new (w.alloc (.cells #[.slice none 0 0] 174)) 35 (.int .i64 0);have k2:=Boxed.new ((w.alloc (.cells #[.slice none 0 0] 174)).alloc (.cells #[.int .i64 0] 35)) 3 (.int .i64 0);have k3:=Boxed.new (((w.alloc (.cells #[.slice none 0 0] 174)).alloc (.cells #[.int .i64 0] 35)).alloc (.cells #[.int .i64 0] 3)) 174 (.slice none 0 0);simp only[Ba]at k0 k1 k2 k3;have r0:=Mb (((k0.alloc _).alloc _).alloc _) ud;have r1:=Mb ((k1.alloc _).alloc _) ud;have r2:=Mb (k2.alloc _) ud;have r3:=Mb k3 ud;have nZ:Below w.heap.size w w2:=((((za _ w).alloc (ja _) _).alloc la _).alloc (by simp;omega) _ |>.alloc (by simp;omega) _).trans (ud.mono (by simp;omega));have hz2:=ud.size;simp only[Ba]at hz2;clear k0 k1 k2 k3 ud
 refine wpIn_rangeFunc_ownH (F:=Fence.wide) (n:=3) rfl ia (gf:=171) (lb:=#[.pointer (some ⟨bt,0,none⟩),.pointer (some ⟨ba,0,none⟩)]) rfl trivial (enters_of Tryz.func171 Ca rfl)
  (pG 2 ia s hs bt bc ba w2 he.e he.t he.c he.a) Ns.t (Ns.b he.t he.c he.a) (za _ _) (fun _=>rfl)
  (fun(pre:List (aQ s)) W=>(∃v,Boxed W (w.heap.size+1+1+1) 174 v/\ W.ownsRow w2.heap.size 178 4 v pre.length (pre.flatMap (fun x=>x.1.tok))/\ True)/\ (Boxed W w.heap.size 174 (.slice none 0 0)/\ Boxed W (w.heap.size+1) 35 (.int .i64 0)/\ Boxed W (w.heap.size+1+1) 3 (.int .i64 0))/\ (Below w.heap.size w W/\ w2.heap.size<=W.heap.size)/\ (pre.length<=5000/\ ∀x∈pre,x.1.err=0))
  (fun c (pre:List (aQ s)) W=>c=.ret/\ (∃(er:Nat) (at_:Int),er≠0/\ Boxed W w.heap.size 174 (.slice none 0 0)/\ Boxed W (w.heap.size+1) 35 (.int .i64 er)/\ Boxed W (w.heap.size+1+1) 3 (.int .i64 at_))/\ Below w.heap.size w W/\ pre.map (·.1)≠[xA s])
  (OwnFrom.and (Own.from (holdsRow_own w2.heap.size (w.heap.size+1+1+1) 174 178 4 (fun pre:List (aQ s)=>pre.length) (fun pre=>pre.flatMap (fun x=>x.1.tok)) (fun _ _=>True)) _)
   (OwnFrom.and (fun s A B row hs hg hr=>⟨Bj hs.1 hg hr,Bj hs.2.1 hg hr,Bj hs.2.2 hg hr⟩) (OwnFrom.and (OwnFrom.and (ownFrom_below (ja _) ia) (fun s A B row hs hg hr=>Wa hs hg.size)) (ownFrom_pure _ _))))
  (fun c s A B row hs hg hr=>by
   obtain⟨h1,⟨er,at_,h2,h3,h4,h5⟩,h6,h7⟩:=hs
   exact⟨h1,⟨er,at_,h2,Bj h3 hg hr,Bj h4 hg hr,Bj h5 hg hr⟩,ownFrom_below (β:=Unit) (ja _) (ja _) () A B row h6 hg (fun r e=>⟨by have:=(hr r e).1;omega,(hr r e).2⟩),h7⟩)
  ⟨⟨_,r3,ic _ _ _ _,trivial⟩,⟨r0,r1,r2⟩,⟨nZ,ja _⟩,la,la⟩
  (fun x a' W=>∃Bx,w.heap.size+1+1+1<Bx/\ Bb W Bx 194 x.1.cells/\ a'={tmps:=#[.string s,undef,.pointer (some ⟨w.heap.size,0,none⟩),.pointer (some ⟨w.heap.size+1,0,none⟩),.pointer (some ⟨w.heap.size+1+1,0,none⟩),.pointer (some ⟨w.heap.size+1+1+1,0,none⟩),.pointer (some ⟨Bx,0,none⟩),.string s,.int .i64 s.size,.bool false,.string s,.func (.func 171) #[] #[.pointer (some ⟨bt,0,none⟩),.pointer (some ⟨ba,0,none⟩)],.agg x.1.cells,undef,undef,undef,undef,undef,undef,undef,undef,undef,undef,undef,undef,undef,undef,undef,undef,undef,undef,undef,undef,undef,undef],defers:=[]})
  (fun x a' u A B row hs hg hr=>by
   obtain⟨Bx,h1,h2,h3⟩:=hs
   refine⟨Bx,h1,(hg.block Bx h2.lt (fun e=>?_)).trans h2,h3⟩
   obtain⟨_,o,ho,hcl⟩:=hr Bx e.symm
   rw[show A.heap[Bx]? =_ from h2]at ho;cases ho;cases hcl)
  ?assign ?body ?done ?stop
 case assign=>(rintro l pre x W K ⟨⟨v,hv,hrow,_⟩,⟨q0,q1,q2⟩,⟨hB,hZ⟩,hp⟩ hK;have HK:=da hK;obtain⟨⟨kd,tx,m,aa,er⟩,hx⟩:=x;clear hK;dsimp only[Fd.cells];gi_wp2;have En:Below W.heap.size W (W.alloc (.cells (Fd.cells ⟨kd,tx,m,aa,er⟩) 194)):=(za _ W).alloc (ja _) _;refine HK.out _ _ ((KeepsOthers.alloc W _).from _) ⟨Yg.below En,En.block bt (by have:=he.t;omega),En.block bc (by have:=he.c;omega),En.block ba (by have:=he.a;omega)⟩ ⟨⟨v,hv.alloc _,hrow.alloc _,trivial⟩,⟨q0.alloc _,q1.alloc _,q2.alloc _⟩,⟨hB.trans (En.mono hB.size),by simp;omega⟩,hp⟩ ⟨W.heap.size,hv.lt,Bb.new W 194 _,rfl⟩)
 case body=>
  rintro l pre x a' W hl ⟨r,hr⟩ ⟨⟨v,hv,hrow,_⟩,⟨q0,q1,q2⟩,⟨hB,hZ⟩,hp⟩ ⟨Bx,hBx,bX,rfl⟩ hlt;obtain⟨⟨kd,tx,m,aa,er⟩,hx⟩:=x
  dsimp only[Fd.cells]at bX⊢
  have HX:=da bX;have x0:W.cell? ⟨Bx,0,none⟩=some (.int .i64 kd):=bX.cell 0;have x1:W.cell? ⟨Bx,1,none⟩=some (.string tx):=bX.cell 1;have x2:W.cell? ⟨Bx,2,none⟩=some (.int .i64 m):=bX.cell 2;have x3:W.cell? ⟨Bx,3,none⟩=some (.int .i64 aa):=bX.cell 3;have x4:W.cell? ⟨Bx,4,none⟩=some (.int .i64 er):=bX.cell 4;have c3:=hv.cell;have c0:=q0.cell;have c1:=q1.cell;have c2:=q2.cell;have z0:=q0.frozen;have z1:=q1.frozen;have z2:=q2.frozen;have z3:=hv.frozen;have HB:=da hB;have HP:=da hp;clear bX hp;by_cases dV:er=0
  ·subst dV
   rw[show((0:Nat):Int)=0 from rfl]at x4;obtain⟨i0,hi,hz0,hz1,hz2⟩:=info_parts ET;rcases hrow.2 with⟨rfl,hk0⟩ | ⟨g,cap,cur,rfl,hg,_⟩
   {have Ek:=da hrow;have Be:=da hk0;clear hrow hk0;gi_wp2_with (gi_at_builtin;refine wpListIn_append_own _ rfl _ _ 174 rfl w2.heap.size 178 i0 _ 4 40 Tryz.underlying174 hi hz0 hz1 hz2 rfl pa _ _ _ rfl (Ek.out.alloc _) ⟨W.heap.size,0,none⟩ 1 1 [.int .i64 kd,.string tx,.int .i64 m,.int .i64 aa] rfl rfl (nC W _ 178) (by simp[Value.oneCell']) (by unfold maxLen;omega) ia (by simp;omega) ?_;intro v' w1 Yk hgrow _;obtain⟨g',cap',rfl⟩:=ownsRow_succ Yk;have nJ:=(hv.alloc (.cells #[.int .i64 kd,.string tx,.int .i64 m,.int .i64 aa] 178)).kept hgrow (hv.not_row pa Ek.out);have hc1:=nJ.cell;have KO:=nJ.frozen;have HG:=da hgrow;have HO:=da Yk;clear hgrow Yk);have abX:=he.t;have abY:=he.c;have abZ:=he.a;obtain⟨a1,a2,a3,a4,a5,a6⟩:=oC hv Ek.out HG.out HO.out ia hZ;refine⟨a3.from _,⟨a4,a5 bt ia ia,a5 bc ia ia,a5 ba ia ia⟩,⟨_,a1,by simpa[Fd.tok,List.flatMap_append]using a2,trivial⟩,⟨(a5 w.heap.size ia ia).trans q0,(a5 (w.heap.size+1) ia ia).trans q1,(a5 (w.heap.size+1+1) ia ia).trans q2⟩,⟨HB.out.trans (a6.mono (show w.heap.size<=w.heap.size+1+1+1 by omega)),Wa hZ a6.size⟩,by have:=Be.out;simp;omega,?_⟩;intro y hy;(rcases List.mem_append.1 hy with hy | hy);{exact HP.out.2 y hy};{simp at hy;rw[hy]}}
   ·have Ek:=da hrow
    clear hrow;by_cases h5:pre.length=5000
    ·have d5:((pre.length:Int)==5000)=true:=by simp;omega
     have H5:=da h5;clear h5;gi_wp2;gi_region
     all_goals gi_wp2
     all_goals exact⟨((((KeepsOthers.setCell W ⟨w.heap.size,0,none⟩ (.slice none 0 0)).trans (KeepsOthers.setCell _ ⟨w.heap.size+1,0,none⟩ (.int .i64 2))).trans (KeepsOthers.setCell _ ⟨w.heap.size+1+1,0,none⟩ (.int .i64 aa))).trans (KeepsOthers.drew _)).from _,rfl,
      ⟨2,aa,ia,((q0.set _).other ia _).other ia _,((q1.other ia _).set _).other ia _,((q2.other ia _).other ia _).set _⟩,
      (((HB.out.setCell (p:=⟨w.heap.size,0,none⟩) (ja _) _).setCell (p:=⟨w.heap.size+1,0,none⟩) la _).setCell (p:=⟨w.heap.size+1+1,0,none⟩) (by simp;omega) _).drew,
      fun h=>by have h1:=congrArg List.length h;have h2:=H5.out;simp at h1;rw[h1]at h2;simp at h2⟩
    {(have d5:((pre.length:Int)==5000)=false:=by simp;omega);have H5:=da h5;clear h5;gi_wp2_with (gi_at_builtin;refine wpListIn_append_own _ rfl _ _ 174 rfl w2.heap.size 178 i0 _ 4 40 Tryz.underlying174 hi hz0 hz1 hz2 rfl pa _ _ _ rfl (Ek.out.alloc _) ⟨W.heap.size,0,none⟩ 1 1 [.int .i64 kd,.string tx,.int .i64 m,.int .i64 aa] rfl rfl (nC W _ 178) (by simp[Value.oneCell']) (by unfold maxLen;omega) ia (by simp;omega) ?_;intro v' w1 Yk hgrow _;obtain⟨g',cap',rfl⟩:=ownsRow_succ Yk;have nJ:=(hv.alloc (.cells #[.int .i64 kd,.string tx,.int .i64 m,.int .i64 aa] 178)).kept hgrow (hv.not_row pa Ek.out);have hc1:=nJ.cell;have KO:=nJ.frozen;have HG:=da hgrow;have HO:=da Yk;clear hgrow Yk);have abX:=he.t;have abY:=he.c;have abZ:=he.a;obtain⟨a1,a2,a3,a4,a5,a6⟩:=oC hv Ek.out HG.out HO.out ia hZ;refine⟨a3.from _,⟨a4,a5 bt ia ia,a5 bc ia ia,a5 ba ia ia⟩,⟨_,a1,by simpa[Fd.tok,List.flatMap_append]using a2,trivial⟩,⟨(a5 w.heap.size ia ia).trans q0,(a5 (w.heap.size+1) ia ia).trans q1,(a5 (w.heap.size+1+1) ia ia).trans q2⟩,⟨HB.out.trans (a6.mono (show w.heap.size<=w.heap.size+1+1+1 by omega)),Wa hZ a6.size⟩,by have:=HP.out.1;have:=H5.out;simp;omega,?_⟩;intro y hy;(rcases List.mem_append.1 hy with hy | hy);{exact HP.out.2 y hy};{simp at hy;rw[hy]}}
  ·have e1:((er:Int) !=0)=true:=by simp;omega
   have e2:((er:Int)==0)=false:=by simp;omega
   gi_wp2;gi_region
   all_goals gi_wp2
   all_goals exact⟨((((KeepsOthers.setCell W ⟨w.heap.size,0,none⟩ (.slice none 0 0)).trans (KeepsOthers.setCell _ ⟨w.heap.size+1,0,none⟩ (.int .i64 er))).trans (KeepsOthers.setCell _ ⟨w.heap.size+1+1,0,none⟩ (.int .i64 aa))).trans (KeepsOthers.drew _)).from _,rfl,
    ⟨er,aa,dV,((q0.set _).other ia _).other ia _,((q1.other ia _).set _).other ia _,((q2.other ia _).other ia _).set _⟩,
    (((HB.out.setCell (p:=⟨w.heap.size,0,none⟩) (ja _) _).setCell (p:=⟨w.heap.size+1,0,none⟩) la _).setCell (p:=⟨w.heap.size+1+1,0,none⟩) (by simp;omega) _).drew,
    fun h=>by have:=congrArg List.getLast? h;simp[xA]at this;omega⟩
 case done=>(rintro D xs W hD hS ⟨⟨v,hv,hrow,_⟩,⟨q0,q1,q2⟩,⟨hB,hZ⟩,hp⟩ hK;have HS:=da hS;have Ek:=da hrow;have HP:=da hp;have HK:=da hK;have hvf:v=.slice none 0 0\/∃g n cap,v=.slice (some ⟨g,0,none⟩) n cap:=by{(rcases hrow.2 with⟨rfl,_⟩ | ⟨g,cap,cur,rfl,_⟩);{exact .inl rfl};{exact .inr ⟨g,_,cap,rfl⟩}};have Hn:∀b,b<w2.heap.size->v.ownBlock=none\/v.ownBlock≠some b:=by{(rcases hrow.2 with⟨rfl,_⟩ | ⟨g,cap,cur,rfl,hg,_⟩);{exact fun _ _=>.inl rfl};{exact fun b hb=>.inr (by simp[Value.ownBlock];omega)}};have Xw:=da Hn;have p0:=((q0.set v).other (B':=w.heap.size+1) ia (.int .i64 0)).other (B':=w.heap.size+1+1) ia (.int .i64 0);have p1:=((q1.other (B':=w.heap.size) ia v).set (.int .i64 0)).other (B':=w.heap.size+1+1) ia (.int .i64 0);have p2:=((q2.other (B':=w.heap.size) ia v).other (B':=w.heap.size+1) ia (.int .i64 0)).set (.int .i64 0);have LZ:=(((KeepsOthers.setCell W ⟨w.heap.size,0,none⟩ v).trans (KeepsOthers.setCell _ ⟨w.heap.size+1,0,none⟩ (.int .i64 0))).trans (KeepsOthers.setCell _ ⟨w.heap.size+1+1,0,none⟩ (.int .i64 0))).same D _ hK rfl;have SM:=da p0;have K9:=da p1;have KU:=da p2;have BC:=da LZ;have HB:=da hB;have c3:=hv.cell;have c0:=q0.cell;have c1:=q1.cell;have c2:=q2.cell;have z0:=q0.frozen;have z1:=q1.frozen;have z2:=q2.frozen;clear hS hrow hp Hn p0 p1 p2 LZ hB hK;(rcases hvf with rfl | ⟨g,gn,cap,rfl⟩);{gi_wp2;refine⟨la,.inl ⟨_,_,rfl,run_takeDeferred BC.out,?_⟩⟩;(have hne:∀ {B:Nat} {t:TypeId} {v:Value} {X:World} (hX:X.heap[D]? =some (.deferred (some []))),Boxed X B t v->some B≠some D:=fun hX h e=>by{cases e;rw[show _=_ from h]at hX;cases hX});have l0:=(SM.out.kept (grownBy_putObj' _ D (.deferred none)) (hne BC.out SM.out)).cell;have l1:=(K9.out.kept (grownBy_putObj' _ D (.deferred none)) (hne BC.out K9.out)).cell;have l2:=(KU.out.kept (grownBy_putObj' _ D (.deferred none)) (hne BC.out KU.out)).cell;have sZ:=((Ek.out.kept (grownBy_setCell' W w.heap.size (.slice none 0 0)) (Xw.out w.heap.size ia)).kept (grownBy_setCell' _ (w.heap.size+1) (.int .i64 0)) (Xw.out (w.heap.size+1) ia)).kept (grownBy_setCell' _ (w.heap.size+1+1) (.int .i64 0)) (Xw.out (w.heap.size+1+1) ia);have vL:=ownsRow_putObj sZ (.deferred none) BC.out rfl;refine⟨_,Dl (u:=.slice none 0 0) (v:=.int .i64 0) (x:=.int .i64 0) rfl _ _ _ rfl rfl rfl (by go_simp) (by go_simp) (by go_simp),xs.map (·.1),_,0,0,rfl,⟨fun _=>⟨w2.heap.size,ia,by simpa[List.flatMap_map]using vL⟩,by simpa using HP.out.1,?_,fun hn=>⟨rfl,HS.out hn⟩⟩,?_⟩;{intro x hx;obtain⟨y,hy,rfl⟩:=List.mem_map.1 hx;exact⟨HP.out.2 y hy,y.2⟩};{exact(((HB.out.setCell (p:=⟨w.heap.size,0,none⟩) (ja _) _).setCell (p:=⟨w.heap.size+1,0,none⟩) la _).setCell (p:=⟨w.heap.size+1+1,0,none⟩) (by simp;omega) _).trans (belowK_b (w:=w) (ja _) _ D _ _ (by have:=he.t;have:=nZ.size;omega) BC.out rfl rfl)}};{gi_wp2;refine⟨la,.inl ⟨_,_,rfl,run_takeDeferred BC.out,?_⟩⟩;(have hne:∀ {B:Nat} {t:TypeId} {v:Value} {X:World} (hX:X.heap[D]? =some (.deferred (some []))),Boxed X B t v->some B≠some D:=fun hX h e=>by{cases e;rw[show _=_ from h]at hX;cases hX});have l0:=(SM.out.kept (grownBy_putObj' _ D (.deferred none)) (hne BC.out SM.out)).cell;have l1:=(K9.out.kept (grownBy_putObj' _ D (.deferred none)) (hne BC.out K9.out)).cell;have l2:=(KU.out.kept (grownBy_putObj' _ D (.deferred none)) (hne BC.out KU.out)).cell;have sZ:=((Ek.out.kept (grownBy_setCell' W w.heap.size (.slice (some ⟨g,0,none⟩) gn cap)) (Xw.out w.heap.size ia)).kept (grownBy_setCell' _ (w.heap.size+1) (.int .i64 0)) (Xw.out (w.heap.size+1) ia)).kept (grownBy_setCell' _ (w.heap.size+1+1) (.int .i64 0)) (Xw.out (w.heap.size+1+1) ia);have vL:=ownsRow_putObj sZ (.deferred none) BC.out rfl;refine⟨_,Dl (u:=.slice (some ⟨g,0,none⟩) gn cap) (v:=.int .i64 0) (x:=.int .i64 0) rfl _ _ _ rfl rfl rfl (by go_simp) (by go_simp) (by go_simp),xs.map (·.1),_,0,0,rfl,⟨fun _=>⟨w2.heap.size,ia,by simpa[List.flatMap_map]using vL⟩,by simpa using HP.out.1,?_,fun hn=>⟨rfl,HS.out hn⟩⟩,?_⟩;{intro x hx;obtain⟨y,hy,rfl⟩:=List.mem_map.1 hx;exact⟨HP.out.2 y hy,y.2⟩};{exact(((HB.out.setCell (p:=⟨w.heap.size,0,none⟩) (ja _) _).setCell (p:=⟨w.heap.size+1,0,none⟩) la _).setCell (p:=⟨w.heap.size+1+1,0,none⟩) (by simp;omega) _).trans (belowK_b (w:=w) (ja _) _ D _ _ (by have:=he.t;have:=nZ.size;omega) BC.out rfl rfl)}})
 case stop=>(rintro D c pre W hD hS ⟨rfl,⟨er,at_,h2,h3,h4,h5⟩,h6,h7⟩ hK;gi_wp2;refine⟨la,.inl ⟨_,_,rfl,run_takeDeferred hK,?_⟩⟩;(have hne:∀ {B:Nat} {t:TypeId} {v:Value},Boxed W B t v->some B≠some D:=fun h e=>by{cases e;rw[show W.heap[_]? =_ from h]at hK;cases hK});have l3:=(h3.kept (grownBy_putObj' W D (.deferred none)) (hne h3)).cell;have l4:=(h4.kept (grownBy_putObj' W D (.deferred none)) (hne h4)).cell;have l5:=(h5.kept (grownBy_putObj' W D (.deferred none)) (hne h5)).cell;refine⟨_,Dl (u:=.slice none 0 0) (v:=.int .i64 er) (x:=.int .i64 at_) rfl _ _ _ rfl rfl rfl (by go_simp) (by go_simp) (by go_simp),[],_,er,at_,rfl,⟨fun h=>absurd h h2,la,la,fun hn=>absurd (hS hn) h7⟩,?_⟩;exact h6.trans (belowK_b (w:=w) (ja _) W D _ _ (by have:=he.t;have:=nZ.size;omega) hK rfl rfl))
end
end Go.Proofs.YtejbgoigkefnfaaGreatDoor
