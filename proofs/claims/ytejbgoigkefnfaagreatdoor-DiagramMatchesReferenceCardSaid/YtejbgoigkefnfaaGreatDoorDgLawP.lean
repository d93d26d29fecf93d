/- The walk of pair: the diagrams of two formulas. No conditions. -/
import Derived.Test.YtejbgoigkefnfaaGreatDoorAl
import Derived.Test.YtejbgoigkefnfaaGreatDoorDgSm
namespace Go.Proofs.YtejbgoigkefnfaaGreatDoor
open Go.RowKit
structure AM (w0 W : World) : Prop where
 low:Below w0.heap.size w0 W
 Nx:tm W.heap.size W
theorem AM.step {w0 W W':World}(h:AM w0 W)(hb:Below W.heap.size W W'):AM w0 W':=⟨h.low.trans (hb.mono h.low.size),fun w' h'=>h.Nx w' (hb.trans (h'.mono hb.size))⟩
theorem KS {w:World}(hT:tm w.heap.size w):AM w w:=⟨za _ _,hT⟩
structure wW (W : World) (b : Nat) (f : Fo) (a : Option Addr) (c : Nat) : Prop where
 box:Bb W b 24 #[.int .i64 f.op,.string f.name,.int .i64 f.cmp,.int .i64 f.n,.slice a f.kids.length c]
 fo:f.In W W.heap.size (.agg #[.int .i64 f.op,.string f.name,.int .i64 f.cmp,.int .i64 f.n,.slice a f.kids.length c])
theorem wW.step {W W':World}{b:Nat}{f:Fo}{a:Option Addr}{c:Nat}(h:wW W b f a c)(hb:Below W.heap.size W W'):wW W' b f a c:=⟨h.box.below hb,(Fo.In.below hb _ _ h.fo).mono hb.size⟩
structure qH (W : World) (b : Nat) (d : List Fa) (a : Option Addr) (c : Nat) : Prop where
 box:Bb W b 27 #[.slice a d.length c]
 dom:bf W W.heap.size d (.agg #[.slice a d.length c])
theorem qH.step {W W':World}{b:Nat}{d:List Fa}{a:Option Addr}{c:Nat}(h:qH W b d a c)(hb:Below W.heap.size W W'):qH W' b d a c:=⟨h.box.below hb,(h.dom.below hb).mono hb.size⟩
abbrev LS (W:World)(l:List Int)(v:Value):Prop:=IntsIn W W.heap.size l v
theorem Li {W W':World}{l:List Int}{v:Value}(h:LS W l v)(hb:Below W.heap.size W W'):LS W' l v:=Xa.mono (bm.mono _) hb.size (IntsIn.below hb h)
theorem jh {W w w':World}(h:Hid (Below W.heap.size W w))(h':Below w.heap.size w w'):Hid (Below W.heap.size W w'):=h.out.trans (h'.mono h.out.size)
section
variable {w0 W w : World} {f h : Fo} {d : List Fa} {t u : List Dn} {l m : List Int} {b b' A8 : Nat} {a a' a'' : Option Addr} {c c' c'' : Nat} {v v' : Value}
theorem MS (HE:Hid (AM w0 W))(hW:Hid (Below W.heap.size W w)):Calls Tryz.prog 10 #[] w fun e w'=>e=.returned (.bool true)/\ Hid (Below W.heap.size W w'):=by
 refine(vO w (HE.out.step hW.out).Nx).mono ?_;rintro e w' ⟨rfl,h2⟩;exact⟨rfl,jh hW h2⟩
theorem nu (HF:Hid (wW W b f a c))(HD:Hid (qH W b' d a' c'))(hW:Hid (Below W.heap.size W w)):
  Calls Tryz.prog 11 #[.agg #[.int .i64 f.op,.string f.name,.int .i64 f.cmp,.int .i64 f.n,.slice a f.kids.length c],.agg #[.slice a' d.length c']] w fun e w'=>e=.returned (.bool (Gi f d))/\ Hid (Below W.heap.size W w'):=by
 refine(ZH f d _ _ w w.heap.size (ja _) (HF.out.step hW.out).fo (HD.out.step hW.out).dom).mono ?_;rintro e w' ⟨rfl,h2⟩;exact⟨rfl,jh hW h2⟩
theorem EO (HE:Hid (AM w0 W))(HF:Hid (wW W b f a c))(HD:Hid (qH W b' d a' c'))(hs:Gi f d=true)(hW:Hid (Below W.heap.size W w)):
  Calls Tryz.prog 12 #[.agg #[.int .i64 f.op,.string f.name,.int .i64 f.cmp,.int .i64 f.n,.slice a f.kids.length c],.agg #[.slice a' d.length c']] w fun e w'=>∃(x:Option Addr) (k:Nat),e=.returned (.tuple #[.agg #[.slice x (Jd d f).1.length k],.int .i64 (Jd d f).2])/\ Hid (oe w' w'.heap.size (Jd d f).1 (.agg #[.slice x (Jd d f).1.length k]))/\ Hid (Below W.heap.size W w'):=by
 have hsz:f.size<=250:=by{unfold Gi at hs;simp only[ub]at hs;exact Vq (most:=250) hs.1.1}
 refine(ZA f d _ _ w w.heap.size ia (ja _) (HF.out.step hW.out).fo (HD.out.step hW.out).dom (HE.out.step hW.out).Nx (fun hv hk=>Pn hs hv hk)).mono ?_;rintro e w' ⟨g,rfl,⟨u,rfl,h1⟩,h2⟩;obtain⟨x,k,rfl,_⟩:=Xa.shape h1;exact⟨x,k,rfl,⟨_,rfl,h1⟩,jh hW h2⟩
theorem zo (HE:Hid (AM w0 W))(HV:Hid (Ep W b t a c))(HD:Hid (qH W b' d a' c'))(Gq:∀n∈t,Rs n)(hW:Hid (Below W.heap.size W w)):
  Calls Tryz.prog 15 #[.agg #[.slice a t.length c],.agg #[.slice a' d.length c']] w fun e w'=>e=.returned (.bool (Re d t))/\ Hid (Below W.heap.size W w'):=by
 refine(Pp d t _ _ w w.heap.size (ja _) (HV.out.step hW.out).dg (HD.out.step hW.out).dom Gq (HE.out.step hW.out).Nx).mono ?_;rintro e w' ⟨rfl,h2⟩;exact⟨rfl,jh hW h2⟩
theorem sF (HV:Hid (Ep W b t a c))(HC:Hid (LS W l v))(hW:Hid (Below W.heap.size W w)):
  Calls Tryz.prog 17 #[.agg #[.slice a t.length c],v] w fun e w'=>e=.returned (.bool (Vk t l t.length 0))/\ Hid (Below W.heap.size W w'):=by
 refine(Iy t l _ _ w w.heap.size (ja _) (HV.out.step hW.out).dg (Li HC.out hW.out)).mono ?_;rintro e w' ⟨rfl,h2⟩;exact⟨rfl,jh hW h2⟩
theorem FO (HE:Hid (AM w0 W))(HV:Hid (Ep W b t a c))(HD:Hid (qH W b' d a' c'))(Gq:∀n∈t,Rs n)(hW:Hid (Below W.heap.size W w)):
  Calls Tryz.prog 20 #[.agg #[.slice a t.length c],.agg #[.slice a' d.length c']] w fun e w'=>∃(x:Option Addr) (k:Nat),e=.returned (.tuple #[.slice x ((Xg d t).getD []).length k,.bool (Xg d t).isSome])/\
   Hid (LS w' ((Xg d t).getD []) (.slice x ((Xg d t).getD []).length k))/\ Hid (Below W.heap.size W w'):=by
 refine(Gy d t _ _ w w.heap.size (ja _) (HV.out.step hW.out).dg (HD.out.step hW.out).dom Gq (HE.out.step hW.out).Nx).mono ?_;rintro e w' ⟨cv,rfl,h1,h2⟩;obtain⟨x,k,rfl,_⟩:=Xa.shape h1;exact⟨x,k,rfl,h1,jh hW h2⟩
theorem NS (HV:Hid (Ep W b t a c))(HU:Hid (Ep W b' u a' c'))(hW:Hid (Below W.heap.size W w)):
  Calls Tryz.prog 31 #[.agg #[.slice a t.length c],.agg #[.slice a' u.length c']] w fun e w'=>e=.returned (.bool (decide (t=u)))/\ Hid (Below W.heap.size W w'):=by
 refine(iB t u _ _ w w.heap.size (ja _) (HV.out.step hW.out).dg (HU.out.step hW.out).dg).mono ?_;rintro e w' ⟨rfl,h2⟩;exact⟨rfl,jh hW h2⟩
end
end Go.Proofs.YtejbgoigkefnfaaGreatDoor
