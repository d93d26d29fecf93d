/- lexer.Lex: a list of tokens; said: what is needed to know whether a text is one name. -/
import Derived.Test.YtihniipjfdenbaaGreatDoorTok2
set_option maxRecDepth 100000
set_option maxHeartbeats 16000000
namespace Go.Proofs.YtihniipjfdenbaaGreatDoor
section
open Go.RowKit
theorem run_store_func {P:Program}{w:World}{a:Addr}{m:Mode}(f:Fn)(x y:Array Value):(store a (.func f x y) m).run P w=stored P w a (.func f x y) m:=Go.run_store P w a _ m rfl
attribute [local go_sem] run_store_func
theorem tokens_any (s:ByteArray)(w:World):
    Calls Tryz.prog 209 #[.string s] w fun e w'=>∃bt bc ba,e=.returned (.func (.func 219) #[] #[.pointer (some ⟨bt,0,none⟩),.pointer (some ⟨ba,0,none⟩)])/\ EnvL s bt bc ba w'/\ w.heap.size<=bt/\ w.heap.size<=bc/\ w.heap.size<=ba/\ Below w.heap.size w w':=by
  go_enter Tryz.func209,Tryz.ntmps209
  go_wp2_with (first
    | (go_at_call 217;(with_reducible refine(classes_any _).mono ?_);rintro e w2 ⟨rfl,hb2⟩
       have c0:=(hb2.cell (p:=⟨w.heap.size,0,none⟩) (by simp)).trans (show _=some (.string s) by simp)
       have hb2':=Lib.hid (((Below.refl w.heap.size w).alloc (Nat.le_refl _) (.cells #[.string s] 9)).trans (hb2.mono (by simp)))
       have hs2:=hb2.size
       simp only[World.size_alloc]at hs2
       clear hb2)
    | (((with_reducible show wpList _ _ _ (⟨some 3,Op.alloc 244,_,_,_,_⟩::_) _ _);refine wpList_alloc_row rfl rfl zArr 256 zArr.info ?_;intro W3 hb3 hz3 hr3)
       have c3:=(hb3.cell (p:=⟨w.heap.size,0,none⟩) (by simp;omega)).trans c0
       have HZ3:=Lib.hid hz3
       clear hz3)
    | ((with_reducible show wpList _ _ _ (⟨_,Op.store 244 (.tmp 3) (.tmp 5),_,_,_,_⟩::_) _ _);refine wpList_store_old rfl (.tmp 3) (.tmp 5) rfl clsL _ rfl rfl hr3 clsL_len.symm clsL_info clsL_one ?_;intro W5 hu5 hr5
       have HZ5:=Lib.hid (hu5.size.trans HZ3.out)
       have hb5:=Lib.hid (hb2'.out.trans ((hb3.mono (by omega)).trans (hu5.below (by omega))))
       have c5:=((hu5.below (B:=w2.heap.size) (by omega)).cell (p:=⟨w.heap.size,0,none⟩) (by simp;omega)).trans c3
       have HR5:=Lib.hid hr5
       clear hr5 hr3 hb3 hu5 c0 c3))
  have hz5:=HZ5.out;have hB6:Below W5.heap.size W5 (W5.alloc (.cells #[atV w.heap.size w2.heap.size] 246)):=(Below.refl _ _).alloc (Nat.le_refl _) _;go_ret;refine⟨w.heap.size,w2.heap.size,W5.heap.size,rfl,⟨⟨?_,?_,?_⟩,?_,?_,?_⟩,Nat.le_refl _,by omega,by omega,?_⟩
  . exact(hB6.cell (p:=⟨w.heap.size,0,none⟩) (by simp;omega)).trans c5
  . exact fun j v hv=>(hB6.cell (p:=⟨w2.heap.size,0+j,none⟩) (by simp;omega)).trans (HR5.out j v hv)
  . simp[atV]
  . simp;omega
  . simp;omega
  . simp
  . exact hb5.out.trans (hB6.mono (by omega))
end
section
open Go.RowKit
attribute [local go_sem] Oper.semAt_some
def Fd.tok (x:Fd):List Value:=[.int .i64 x.kind,.string x.text,.int .i64 x.n,.int .i64 x.at_]
theorem tokInfo :(Tryz.prog.info? 225).map (fun i=>(i.zero,i.size,i.bytes))=some (some (.agg #[.int .i64 0,.string {data:=#[]},.int .i64 0,.int .i64 0]),4,40):=by kernel_rfl
theorem cells_new (w:World)(l:List Value)(t:TypeId):∀j u,l[j]? =some u->(w.alloc (.cells l.toArray t)).cell? ((⟨w.heap.size,0,none⟩:Addr).add j)=some u:=by
 intro j u hj;have:=(Blk.new w t l.toArray).cell j
 have e:(⟨w.heap.size,0,none⟩:Addr).add j=⟨w.heap.size,j,none⟩:=by{unfold Addr.add;(split);{rename_i h;subst h;rfl};{simp}}
 rw[e,this]
 simpa using hj
theorem boxBelow {W W':World}{B:Nat}{t:TypeId}{v:Value}(h:Boxed W B t v)(hb:Below W.heap.size W W'):Boxed W' B t v:=(hb.block B h.lt).trans h
theorem boxKeeps {W W':World}{B:Nat}{t:TypeId}{v:Value}{B':Nat}{row:Option Nat}(h:Boxed W B t v)(hg:W.grownBy W' row)(hr:∀r,row=some r->B'<=r/\ ∃o:Obj,W.heap[r]? =some o/\ o.isCells=false):Boxed W' B t v:=
 boxed_own B t (fun(_:Unit)=>v) () W W' row h hg (fun r e=>(hr r e).2)
theorem app_keeps {W w1:World}{R B k m:Nat}{v v':Value}{xs ys:List Value}{news:Array Value}(hv:Boxed W B 221 v)(hrow:W.ownsRow R 225 4 v k xs)(hg:(W.alloc (.cells news 225)).grownBy w1 v.ownBlock)(hown':w1.ownsRow R 225 4 v' m ys)
  (hB:B<R) (hR:R<=W.heap.size):
  Boxed (w1.setCell ⟨B,0,none⟩ v') B 221 v'/\ (w1.setCell ⟨B,0,none⟩ v').ownsRow R 225 4 v' m ys/\ KeepsOthers W (w1.setCell ⟨B,0,none⟩ v')/\ KeepTy 235 W (w1.setCell ⟨B,0,none⟩ v')/\
   (∀b,b<R->b≠B->(w1.setCell ⟨B,0,none⟩ v').heap[b]? =W.heap[b]?)/\ Below B W (w1.setCell ⟨B,0,none⟩ v'):=by
 have hrb:∀j,v.ownBlock=some j->R<=j/\ ∃cur,(W.alloc (.cells news 225)).heap[j]? =some (Obj.cells cur 225 (0,0)):=by{intro j hj;(rcases(hrow.alloc (.cells news 225)).2 with⟨rfl,_⟩ | ⟨g,cap,cur,rfl,hb,hgb,_⟩);{simp[Value.ownBlock]at hj};{(obtain rfl:g=j:=by simpa[Value.ownBlock]using hj);exact⟨hb,cur,hgb⟩}}
 have hv1:Boxed w1 B 221 v:=(hv.alloc _).kept hg (hv.not_row (by decide) hrow)
 have hold:∀b,b<R->b≠B->(w1.setCell ⟨B,0,none⟩ v').heap[b]? =W.heap[b]? :=fun b hb hne=>(Below.heap_setCell _ _ _ b hne).trans ((hg.block b (by simp;omega) (fun e=>by have:=(hrb b e.symm).1;omega)).trans (Below.heap_alloc _ _ b (by omega)))
 refine⟨hv1.set v',hown'.kept (grownBy_setCell' w1 B v') (.inr (hv1.not_row (by decide) hown').symm),?_,?_,hold,?_⟩
 {refine((KeepsOthers.alloc W _).trans (KeepsOthers.of_grownBy hg fun j o ej hj=>?_)).trans (KeepsOthers.setCell _ _ _);obtain⟨_,cur,hc⟩:=hrb j ej;rw[hc]at hj;cases hj;rfl}
 {refine(KeepTy.trans (KeepTy.below ((Below.refl _ W).alloc (Nat.le_refl _) _)) (KeepTy.grown hg fun r cs z er hk=>?_)).trans (KeepTy.boxed (by decide) hv1 v');obtain⟨_,cur,hc⟩:=hrb r er;rw[hc]at hk;cases hk}
 {refine(((Below.refl B W).alloc (by omega) _).grown hg (by simp;omega) fun j ej=>?_).setCell (p:=⟨B,0,none⟩) (Nat.le_refl _) v';have:=(hrb j ej).1;omega}
structure LexOk (s : ByteArray) (B : Nat) (W : World) (xs : List Fd) (v : Value) (er : Nat) : Prop where
 row:er=0->∃B',B<=B'/\ W.ownsRow B' 225 4 v xs.length (xs.flatMap Fd.tok)
 few:xs.length<=5000
 ok:∀x∈xs,x.err=0/\ FdOk s x
 name:nameB s=true->er=0/\ xs=[tokF s]
theorem lexBig_any (s:ByteArray)(hs:20000<s.size)(hm:s.size<=maxLen)(w:World):
  Calls Tryz.prog 201 #[.string s] w fun e w'=>e=.returned (.tuple #[.slice none 0 0,.int .i64 2,.int .i64 (-1)])/\ Below w.heap.size w w':=by
 unfold maxLen at hm;have hd:decide ((20000:Int)<s.size)=true:=decide_eq_true (by omega);go_enter Tryz.func201,Tryz.ntmps201;go_wp2;refine bodyPost_ret (results_cell3 rfl _ _ _ rfl rfl rfl ?_ ?_ ?_) rfl ⟨rfl,?_⟩
 {go_simp}
 {go_simp}
 {go_simp}
 {exact(((Below.refl _ w).alloc (Nat.le_refl _) _).alloc (by simp) _).alloc (by simp;omega) _}
theorem lexSmall_any (s:ByteArray)(hs:s.size<=20000)(w:World):
  Calls Tryz.prog 201 #[.string s] w fun e w'=>∃xs v er at_,e=.returned (.tuple #[v,.int .i64 (er:Nat),.int .i64 at_])/\ LexOk s w.heap.size w' xs v er/\ Below w.heap.size w w':=by
 have hd:decide ((20000:Int)<s.size)=false:=decide_eq_false (by omega);refine(callsIn_wide (n:=3)).1 ?_;refine callsIn_of_wp_marks Tryz.func201 rfl trivial ?_ rfl;simp only[Tryz.ntmps201,List.size_toArray,List.length_cons,List.length_nil,Nat.reduceAdd,Nat.reduceSub,Array.replicate_succ,Array.replicate_zero,List.push_toArray,List.append_toArray,List.nil_append,List.cons_append];gi_wp2_with (refine⟨trivial,?_⟩;gi_at_call 209;(refine(callsIn_wide.2 (tokens_any s _)).mono ?_);rintro e w2 ⟨bt,bc,ba,rfl,he,ht,hc,ha,hb2⟩;simp only[World.size_alloc]at ht hc ha);have k0:=Boxed.new w 221 (.slice none 0 0);have k1:=Boxed.new (w.alloc (.cells #[.slice none 0 0] 221)) 30 (.int .i64 0);have k2:=Boxed.new ((w.alloc (.cells #[.slice none 0 0] 221)).alloc (.cells #[.int .i64 0] 30)) 3 (.int .i64 0);have k3:=Boxed.new (((w.alloc (.cells #[.slice none 0 0] 221)).alloc (.cells #[.int .i64 0] 30)).alloc (.cells #[.int .i64 0] 3)) 221 (.slice none 0 0);simp only[World.size_alloc]at k0 k1 k2 k3;have r0:=boxBelow (((k0.alloc _).alloc _).alloc _) hb2;have r1:=boxBelow ((k1.alloc _).alloc _) hb2;have r2:=boxBelow (k2.alloc _) hb2;have r3:=boxBelow k3 hb2;have hB0:Below w.heap.size w w2:=((((Below.refl _ w).alloc (Nat.le_refl _) _).alloc (by simp) _).alloc (by simp;omega) _ |>.alloc (by simp;omega) _).trans (hb2.mono (by simp;omega));have hz2:=hb2.size;simp only[World.size_alloc]at hz2;clear k0 k1 k2 k3 hb2
 refine wpIn_rangeFunc_ownH (F:=Fence.wide) (n:=3) rfl (by omega) (gf:=219) (lb:=#[.pointer (some ⟨bt,0,none⟩),.pointer (some ⟨ba,0,none⟩)]) rfl trivial (enters_of Tryz.func219 (by kernel_rfl) rfl)
  (tokens2_any 2 (by omega) s hs bt bc ba w2 he.e he.t he.c he.a) Keep3.t (Keep3.b he.t he.c he.a) (Below.refl _ _) (fun _=>rfl)
  (fun(pre:List (FdS s)) W=>(∃v,Boxed W (w.heap.size+1+1+1) 221 v/\ W.ownsRow w2.heap.size 225 4 v pre.length (pre.flatMap (fun x=>x.1.tok))/\ True)/\ (Boxed W w.heap.size 221 (.slice none 0 0)/\ Boxed W (w.heap.size+1) 30 (.int .i64 0)/\ Boxed W (w.heap.size+1+1) 3 (.int .i64 0))/\ (Below w.heap.size w W/\ w2.heap.size<=W.heap.size)/\ (pre.length<=5000/\ ∀x∈pre,x.1.err=0))
  (fun c (pre:List (FdS s)) W=>c=.ret/\ (∃(er:Nat) (at_:Int),er≠0/\ Boxed W w.heap.size 221 (.slice none 0 0)/\ Boxed W (w.heap.size+1) 30 (.int .i64 er)/\ Boxed W (w.heap.size+1+1) 3 (.int .i64 at_))/\ Below w.heap.size w W/\ pre.map (·.1)≠[tokF s])
  (OwnFrom.and (Own.from (holdsRow_own w2.heap.size (w.heap.size+1+1+1) 221 225 4 (fun pre:List (FdS s)=>pre.length) (fun pre=>pre.flatMap (fun x=>x.1.tok)) (fun _ _=>True)) _)
   (OwnFrom.and (fun s A B row hs hg hr=>⟨boxKeeps hs.1 hg hr,boxKeeps hs.2.1 hg hr,boxKeeps hs.2.2 hg hr⟩) (OwnFrom.and (OwnFrom.and (ownFrom_below (Nat.le_refl _) (by omega)) (fun s A B row hs hg hr=>Nat.le_trans hs hg.size)) (ownFrom_pure _ _))))
  (fun c s A B row hs hg hr=>by
   obtain⟨h1,⟨er,at_,h2,h3,h4,h5⟩,h6,h7⟩:=hs
   exact⟨h1,⟨er,at_,h2,boxKeeps h3 hg hr,boxKeeps h4 hg hr,boxKeeps h5 hg hr⟩,ownFrom_below (β:=Unit) (Nat.le_refl _) (Nat.le_refl _) () A B row h6 hg (fun r e=>⟨by have:=(hr r e).1;omega,(hr r e).2⟩),h7⟩)
  ⟨⟨_,r3,World.ownsRow_nil _ _ _ _,trivial⟩,⟨r0,r1,r2⟩,⟨hB0,Nat.le_refl _⟩,by simp,by simp⟩
  (fun x a' W=>∃Bx,w.heap.size+1+1+1<Bx/\ Blk W Bx 235 x.1.cells/\ a'={tmps:=#[.string s,undef,.pointer (some ⟨w.heap.size,0,none⟩),.pointer (some ⟨w.heap.size+1,0,none⟩),.pointer (some ⟨w.heap.size+1+1,0,none⟩),.pointer (some ⟨w.heap.size+1+1+1,0,none⟩),.pointer (some ⟨Bx,0,none⟩),.string s,.int .i64 s.size,.bool false,.string s,.func (.func 219) #[] #[.pointer (some ⟨bt,0,none⟩),.pointer (some ⟨ba,0,none⟩)],.agg x.1.cells,undef,undef,undef,undef,undef,undef,undef,undef,undef,undef,undef,undef,undef,undef,undef,undef,undef,undef,undef,undef,undef,undef],defers:=[]})
  (fun x a' u A B row hs hg hr=>by
   obtain⟨Bx,h1,h2,h3⟩:=hs
   refine⟨Bx,h1,(hg.block Bx h2.lt (fun e=>?_)).trans h2,h3⟩
   obtain⟨_,o,ho,hcl⟩:=hr Bx e.symm
   rw[show A.heap[Bx]? =_ from h2]at ho;cases ho;cases hcl)
  ?assign ?body ?done ?stop
 case assign=>(rintro l pre x W K ⟨⟨v,hv,hrow,_⟩,⟨q0,q1,q2⟩,⟨hB,hZ⟩,hp⟩ hK;have HK:=Lib.hid hK;obtain⟨⟨kd,tx,m,aa,er⟩,hx⟩:=x;clear hK;dsimp only[Fd.cells];gi_wp2;have hbl:Below W.heap.size W (W.alloc (.cells (Fd.cells ⟨kd,tx,m,aa,er⟩) 235)):=(Below.refl _ W).alloc (Nat.le_refl _) _;refine HK.out _ _ ((KeepsOthers.alloc W _).from _) ⟨KeepTy.below hbl,hbl.block bt (by have:=he.t;omega),hbl.block bc (by have:=he.c;omega),hbl.block ba (by have:=he.a;omega)⟩ ⟨⟨v,hv.alloc _,hrow.alloc _,trivial⟩,⟨q0.alloc _,q1.alloc _,q2.alloc _⟩,⟨hB.trans (hbl.mono hB.size),by simp;omega⟩,hp⟩ ⟨W.heap.size,hv.lt,Blk.new W 235 _,rfl⟩)
 case body=>
  rintro l pre x a' W hl ⟨r,hr⟩ ⟨⟨v,hv,hrow,_⟩,⟨q0,q1,q2⟩,⟨hB,hZ⟩,hp⟩ ⟨Bx,hBx,bX,rfl⟩ hlt;obtain⟨⟨kd,tx,m,aa,er⟩,hx⟩:=x
  dsimp only[Fd.cells]at bX⊢
  have HX:=Lib.hid bX;have x0:W.cell? ⟨Bx,0,none⟩=some (.int .i64 kd):=bX.cell 0;have x1:W.cell? ⟨Bx,1,none⟩=some (.string tx):=bX.cell 1;have x2:W.cell? ⟨Bx,2,none⟩=some (.int .i64 m):=bX.cell 2;have x3:W.cell? ⟨Bx,3,none⟩=some (.int .i64 aa):=bX.cell 3;have x4:W.cell? ⟨Bx,4,none⟩=some (.int .i64 er):=bX.cell 4;have c3:=hv.cell;have c0:=q0.cell;have c1:=q1.cell;have c2:=q2.cell;have z0:=q0.frozen;have z1:=q1.frozen;have z2:=q2.frozen;have z3:=hv.frozen;have HB:=Lib.hid hB;have HP:=Lib.hid hp;clear bX hp;by_cases her:er=0
  ·subst her
   rw[show((0:Nat):Int)=0 from rfl]at x4;obtain⟨i0,hi,hz0,hz1,hz2⟩:=info_parts tokInfo;rcases hrow.2 with⟨rfl,hk0⟩ | ⟨g,cap,cur,rfl,hg,_⟩
   {have HROW:=Lib.hid hrow;have HK0:=Lib.hid hk0;clear hrow hk0;gi_wp2_with (gi_at_builtin;refine wpListIn_append_own _ rfl _ _ 221 rfl w2.heap.size 225 i0 _ 4 40 Tryz.underlying221 hi hz0 hz1 hz2 rfl (by decide) _ _ _ rfl (HROW.out.alloc _) ⟨W.heap.size,0,none⟩ 1 1 [.int .i64 kd,.string tx,.int .i64 m,.int .i64 aa] rfl rfl (cells_new W _ 225) (by simp[Value.oneCell']) (by unfold maxLen;omega) (by omega) (by simp;omega) ?_;intro v' w1 hown' hgrow _;obtain⟨g',cap',rfl⟩:=ownsRow_succ hown';have hv1:=(hv.alloc (.cells #[.int .i64 kd,.string tx,.int .i64 m,.int .i64 aa] 225)).kept hgrow (hv.not_row (by decide) HROW.out);have hc1:=hv1.cell;have hf1:=hv1.frozen;have HG:=Lib.hid hgrow;have HO:=Lib.hid hown';clear hgrow hown');have hbts:=he.t;have hbcs:=he.c;have hbas:=he.a;obtain⟨a1,a2,a3,a4,a5,a6⟩:=app_keeps hv HROW.out HG.out HO.out (by omega) hZ;refine⟨a3.from _,⟨a4,a5 bt (by omega) (by omega),a5 bc (by omega) (by omega),a5 ba (by omega) (by omega)⟩,⟨_,a1,by simpa[Fd.tok,List.flatMap_append]using a2,trivial⟩,⟨(a5 w.heap.size (by omega) (by omega)).trans q0,(a5 (w.heap.size+1) (by omega) (by omega)).trans q1,(a5 (w.heap.size+1+1) (by omega) (by omega)).trans q2⟩,⟨HB.out.trans (a6.mono (show w.heap.size<=w.heap.size+1+1+1 by omega)),Nat.le_trans hZ a6.size⟩,by have:=HK0.out;simp;omega,?_⟩;intro y hy;(rcases List.mem_append.1 hy with hy | hy);{exact HP.out.2 y hy};{simp at hy;rw[hy]}}
   ·have HROW:=Lib.hid hrow
    clear hrow;by_cases h5:pre.length=5000
    ·have d5:((pre.length:Int)==5000)=true:=by simp;omega
     have H5:=Lib.hid h5;clear h5;gi_wp2;gi_region
     all_goals gi_wp2
     all_goals exact⟨((((KeepsOthers.setCell W ⟨w.heap.size,0,none⟩ (.slice none 0 0)).trans (KeepsOthers.setCell _ ⟨w.heap.size+1,0,none⟩ (.int .i64 2))).trans (KeepsOthers.setCell _ ⟨w.heap.size+1+1,0,none⟩ (.int .i64 aa))).trans (KeepsOthers.drew _)).from _,rfl,
      ⟨2,aa,by omega,((q0.set _).other (by omega) _).other (by omega) _,((q1.other (by omega) _).set _).other (by omega) _,((q2.other (by omega) _).other (by omega) _).set _⟩,
      (((HB.out.setCell (p:=⟨w.heap.size,0,none⟩) (Nat.le_refl _) _).setCell (p:=⟨w.heap.size+1,0,none⟩) (by simp) _).setCell (p:=⟨w.heap.size+1+1,0,none⟩) (by simp;omega) _).drew,
      fun h=>by have h1:=congrArg List.length h;have h2:=H5.out;simp at h1;rw[h1]at h2;simp at h2⟩
    {(have d5:((pre.length:Int)==5000)=false:=by simp;omega);have H5:=Lib.hid h5;clear h5;gi_wp2_with (gi_at_builtin;refine wpListIn_append_own _ rfl _ _ 221 rfl w2.heap.size 225 i0 _ 4 40 Tryz.underlying221 hi hz0 hz1 hz2 rfl (by decide) _ _ _ rfl (HROW.out.alloc _) ⟨W.heap.size,0,none⟩ 1 1 [.int .i64 kd,.string tx,.int .i64 m,.int .i64 aa] rfl rfl (cells_new W _ 225) (by simp[Value.oneCell']) (by unfold maxLen;omega) (by omega) (by simp;omega) ?_;intro v' w1 hown' hgrow _;obtain⟨g',cap',rfl⟩:=ownsRow_succ hown';have hv1:=(hv.alloc (.cells #[.int .i64 kd,.string tx,.int .i64 m,.int .i64 aa] 225)).kept hgrow (hv.not_row (by decide) HROW.out);have hc1:=hv1.cell;have hf1:=hv1.frozen;have HG:=Lib.hid hgrow;have HO:=Lib.hid hown';clear hgrow hown');have hbts:=he.t;have hbcs:=he.c;have hbas:=he.a;obtain⟨a1,a2,a3,a4,a5,a6⟩:=app_keeps hv HROW.out HG.out HO.out (by omega) hZ;refine⟨a3.from _,⟨a4,a5 bt (by omega) (by omega),a5 bc (by omega) (by omega),a5 ba (by omega) (by omega)⟩,⟨_,a1,by simpa[Fd.tok,List.flatMap_append]using a2,trivial⟩,⟨(a5 w.heap.size (by omega) (by omega)).trans q0,(a5 (w.heap.size+1) (by omega) (by omega)).trans q1,(a5 (w.heap.size+1+1) (by omega) (by omega)).trans q2⟩,⟨HB.out.trans (a6.mono (show w.heap.size<=w.heap.size+1+1+1 by omega)),Nat.le_trans hZ a6.size⟩,by have:=HP.out.1;have:=H5.out;simp;omega,?_⟩;intro y hy;(rcases List.mem_append.1 hy with hy | hy);{exact HP.out.2 y hy};{simp at hy;rw[hy]}}
  ·have e1:((er:Int) !=0)=true:=by simp;omega
   have e2:((er:Int)==0)=false:=by simp;omega
   gi_wp2;gi_region
   all_goals gi_wp2
   all_goals exact⟨((((KeepsOthers.setCell W ⟨w.heap.size,0,none⟩ (.slice none 0 0)).trans (KeepsOthers.setCell _ ⟨w.heap.size+1,0,none⟩ (.int .i64 er))).trans (KeepsOthers.setCell _ ⟨w.heap.size+1+1,0,none⟩ (.int .i64 aa))).trans (KeepsOthers.drew _)).from _,rfl,
    ⟨er,aa,her,((q0.set _).other (by omega) _).other (by omega) _,((q1.other (by omega) _).set _).other (by omega) _,((q2.other (by omega) _).other (by omega) _).set _⟩,
    (((HB.out.setCell (p:=⟨w.heap.size,0,none⟩) (Nat.le_refl _) _).setCell (p:=⟨w.heap.size+1,0,none⟩) (by simp) _).setCell (p:=⟨w.heap.size+1+1,0,none⟩) (by simp;omega) _).drew,
    fun h=>by have:=congrArg List.getLast? h;simp[tokF]at this;omega⟩
 case done=>(rintro D xs W hD hS ⟨⟨v,hv,hrow,_⟩,⟨q0,q1,q2⟩,⟨hB,hZ⟩,hp⟩ hK;have HS:=Lib.hid hS;have HROW:=Lib.hid hrow;have HP:=Lib.hid hp;have HK:=Lib.hid hK;have hvf:v=.slice none 0 0\/∃g n cap,v=.slice (some ⟨g,0,none⟩) n cap:=by{(rcases hrow.2 with⟨rfl,_⟩ | ⟨g,cap,cur,rfl,_⟩);{exact .inl rfl};{exact .inr ⟨g,_,cap,rfl⟩}};have hvb:∀b,b<w2.heap.size->v.ownBlock=none\/v.ownBlock≠some b:=by{(rcases hrow.2 with⟨rfl,_⟩ | ⟨g,cap,cur,rfl,hg,_⟩);{exact fun _ _=>.inl rfl};{exact fun b hb=>.inr (by simp[Value.ownBlock];omega)}};have HVB:=Lib.hid hvb;have p0:=((q0.set v).other (B':=w.heap.size+1) (by omega) (.int .i64 0)).other (B':=w.heap.size+1+1) (by omega) (.int .i64 0);have p1:=((q1.other (B':=w.heap.size) (by omega) v).set (.int .i64 0)).other (B':=w.heap.size+1+1) (by omega) (.int .i64 0);have p2:=((q2.other (B':=w.heap.size) (by omega) v).other (B':=w.heap.size+1) (by omega) (.int .i64 0)).set (.int .i64 0);have hKX:=(((KeepsOthers.setCell W ⟨w.heap.size,0,none⟩ v).trans (KeepsOthers.setCell _ ⟨w.heap.size+1,0,none⟩ (.int .i64 0))).trans (KeepsOthers.setCell _ ⟨w.heap.size+1+1,0,none⟩ (.int .i64 0))).same D _ hK rfl;have HP0:=Lib.hid p0;have HP1:=Lib.hid p1;have HP2:=Lib.hid p2;have HKX:=Lib.hid hKX;have HB:=Lib.hid hB;have c3:=hv.cell;have c0:=q0.cell;have c1:=q1.cell;have c2:=q2.cell;have z0:=q0.frozen;have z1:=q1.frozen;have z2:=q2.frozen;clear hS hrow hp hvb p0 p1 p2 hKX hB hK;(rcases hvf with rfl | ⟨g,gn,cap,rfl⟩);{gi_wp2;refine⟨by simp,.inl ⟨_,_,rfl,run_takeDeferred HKX.out,?_⟩⟩;(have hne:∀ {B:Nat} {t:TypeId} {v:Value} {X:World} (hX:X.heap[D]? =some (.deferred (some []))),Boxed X B t v->some B≠some D:=fun hX h e=>by{cases e;rw[show _=_ from h]at hX;cases hX});have l0:=(HP0.out.kept (grownBy_putObj' _ D (.deferred none)) (hne HKX.out HP0.out)).cell;have l1:=(HP1.out.kept (grownBy_putObj' _ D (.deferred none)) (hne HKX.out HP1.out)).cell;have l2:=(HP2.out.kept (grownBy_putObj' _ D (.deferred none)) (hne HKX.out HP2.out)).cell;have hr1:=((HROW.out.kept (grownBy_setCell' W w.heap.size (.slice none 0 0)) (HVB.out w.heap.size (by omega))).kept (grownBy_setCell' _ (w.heap.size+1) (.int .i64 0)) (HVB.out (w.heap.size+1) (by omega))).kept (grownBy_setCell' _ (w.heap.size+1+1) (.int .i64 0)) (HVB.out (w.heap.size+1+1) (by omega));have hr2:=ownsRow_putObj hr1 (.deferred none) HKX.out rfl;refine⟨_,results_cell3 (u:=.slice none 0 0) (v:=.int .i64 0) (x:=.int .i64 0) rfl _ _ _ rfl rfl rfl (by go_simp) (by go_simp) (by go_simp),xs.map (·.1),_,0,0,rfl,⟨fun _=>⟨w2.heap.size,by omega,by simpa[List.flatMap_map]using hr2⟩,by simpa using HP.out.1,?_,fun hn=>⟨rfl,HS.out hn⟩⟩,?_⟩;{intro x hx;obtain⟨y,hy,rfl⟩:=List.mem_map.1 hx;exact⟨HP.out.2 y hy,y.2⟩};{exact(((HB.out.setCell (p:=⟨w.heap.size,0,none⟩) (Nat.le_refl _) _).setCell (p:=⟨w.heap.size+1,0,none⟩) (by simp) _).setCell (p:=⟨w.heap.size+1+1,0,none⟩) (by simp;omega) _).trans (belowK_b (w:=w) (Nat.le_refl _) _ D _ _ (by have:=he.t;have:=hB0.size;omega) HKX.out rfl rfl)}};{gi_wp2;refine⟨by simp,.inl ⟨_,_,rfl,run_takeDeferred HKX.out,?_⟩⟩;(have hne:∀ {B:Nat} {t:TypeId} {v:Value} {X:World} (hX:X.heap[D]? =some (.deferred (some []))),Boxed X B t v->some B≠some D:=fun hX h e=>by{cases e;rw[show _=_ from h]at hX;cases hX});have l0:=(HP0.out.kept (grownBy_putObj' _ D (.deferred none)) (hne HKX.out HP0.out)).cell;have l1:=(HP1.out.kept (grownBy_putObj' _ D (.deferred none)) (hne HKX.out HP1.out)).cell;have l2:=(HP2.out.kept (grownBy_putObj' _ D (.deferred none)) (hne HKX.out HP2.out)).cell;have hr1:=((HROW.out.kept (grownBy_setCell' W w.heap.size (.slice (some ⟨g,0,none⟩) gn cap)) (HVB.out w.heap.size (by omega))).kept (grownBy_setCell' _ (w.heap.size+1) (.int .i64 0)) (HVB.out (w.heap.size+1) (by omega))).kept (grownBy_setCell' _ (w.heap.size+1+1) (.int .i64 0)) (HVB.out (w.heap.size+1+1) (by omega));have hr2:=ownsRow_putObj hr1 (.deferred none) HKX.out rfl;refine⟨_,results_cell3 (u:=.slice (some ⟨g,0,none⟩) gn cap) (v:=.int .i64 0) (x:=.int .i64 0) rfl _ _ _ rfl rfl rfl (by go_simp) (by go_simp) (by go_simp),xs.map (·.1),_,0,0,rfl,⟨fun _=>⟨w2.heap.size,by omega,by simpa[List.flatMap_map]using hr2⟩,by simpa using HP.out.1,?_,fun hn=>⟨rfl,HS.out hn⟩⟩,?_⟩;{intro x hx;obtain⟨y,hy,rfl⟩:=List.mem_map.1 hx;exact⟨HP.out.2 y hy,y.2⟩};{exact(((HB.out.setCell (p:=⟨w.heap.size,0,none⟩) (Nat.le_refl _) _).setCell (p:=⟨w.heap.size+1,0,none⟩) (by simp) _).setCell (p:=⟨w.heap.size+1+1,0,none⟩) (by simp;omega) _).trans (belowK_b (w:=w) (Nat.le_refl _) _ D _ _ (by have:=he.t;have:=hB0.size;omega) HKX.out rfl rfl)}})
 case stop=>(rintro D c pre W hD hS ⟨rfl,⟨er,at_,h2,h3,h4,h5⟩,h6,h7⟩ hK;gi_wp2;refine⟨by simp,.inl ⟨_,_,rfl,run_takeDeferred hK,?_⟩⟩;(have hne:∀ {B:Nat} {t:TypeId} {v:Value},Boxed W B t v->some B≠some D:=fun h e=>by{cases e;rw[show W.heap[_]? =_ from h]at hK;cases hK});have l3:=(h3.kept (grownBy_putObj' W D (.deferred none)) (hne h3)).cell;have l4:=(h4.kept (grownBy_putObj' W D (.deferred none)) (hne h4)).cell;have l5:=(h5.kept (grownBy_putObj' W D (.deferred none)) (hne h5)).cell;refine⟨_,results_cell3 (u:=.slice none 0 0) (v:=.int .i64 er) (x:=.int .i64 at_) rfl _ _ _ rfl rfl rfl (by go_simp) (by go_simp) (by go_simp),[],_,er,at_,rfl,⟨fun h=>absurd h h2,by simp,by simp,fun hn=>absurd (hS hn) h7⟩,?_⟩;exact h6.trans (belowK_b (w:=w) (Nat.le_refl _) W D _ _ (by have:=he.t;have:=hB0.size;omega) hK rfl rfl))
end
end Go.Proofs.YtihniipjfdenbaaGreatDoor
