/- Plain core of chapter 15: where few cells keep the table within the limit, Build answers a diagram. No program. -/
import Derived.Test.YtihniipjfdenbaaGreatDoorDgBA
import Derived.Test.YtihniipjfdenbaaGreatDoorDgAV
import Derived.Test.YtihniipjfdenbaaGreatDoorDgLs
namespace Go.Proofs.YtihniipjfdenbaaGreatDoor
section
variable {d : List Fa}
theorem andX_ok {a b:List Dn}(h:(andX d a b).2=0):ValidG d a/\ ValidG d b/\ ValidG d (andX d a b).1/\ ∀c,fitsC d.length (flo d) (fhi d) c->readG d (andX d a b).1 0 c=(readG d a 0 c&& readG d b 0 c):=by
 unfold andX at h⊢
 split at h
 ·next hv=>
  rw[if_pos hv];have vA:=valid_iff.1 hv.1;have vB:=valid_iff.1 hv.2
  split at h
  {cases h}
  ·next hl=>
   rw[if_neg hl];have hM:=rootX vA vB;have hl:(rootJ d a b).1.1.length<=20000:=by omega
   have hN:=hM.node hl;have hd:=dom_ok vA.dom;have g:=hM.inv.made.good (dom_le hd);have hx:=hM.lt;obtain⟨ho,u,hu⟩:=visit_order g.table hx (f:=d.length+1) (by omega);have g2:=from_good g ho;have hlen:(tableJ d a b).length=(visitD (rootJ d a b).1.1 (d.length+1) [] (rootJ d a b).2).length:=by unfold tableJ fromD;rw[List.length_map]
   have hle:(visitD (rootJ d a b).1.1 (d.length+1) [] (rootJ d a b).2).length<=(rootJ d a b).1.1.length:=by{have:=List.Nodup.length_le_of_subset ho.nodup (l₂:=List.range (rootJ d a b).1.1.length) (fun y hy=>List.mem_range.2 (ho.inside y hy));rwa[List.length_range]at this}
   have hV:ValidG d (tableJ d a b):=⟨vA.dom,by rw[hlen,hu];simp,by omega,g2.table,g2.nodup,from_again g hx (by omega)⟩;refine⟨vA,vB,hV,fun c fc=>?_⟩;rw[show readG d (tableJ d a b) 0 c=_ from read_one hV.good g2 _ 0 hV.pos (Nat.le_refl _) c fc]
   show readT _ ((visitD (rootJ d a b).1.1 (d.length+1) [] (rootJ d a b).2).getD 0 0) c=_
   rw[hu]
   show readT _ (rootJ d a b).2 c=_
   exact hN.means c fc
 {cases h}
def SubD (d:List Fa)(x y:Fo):Prop:=∀c,fitsC d.length (flo d) (fhi d) c->valC d c x=true->valC d c y=true
theorem SubD.refl (x:Fo):SubD d x x:=fun _ _ h=>h
theorem SubD.trans {x y z:Fo}(h:SubD d x y)(k:SubD d y z):SubD d x z:=fun c fc hc=>k c fc (h c fc hc)
end
section
section
variable {nf : Nat} {lo hi : Nat -> Int} {σ κ : Type} [BEq κ] [LawfulBEq κ]
theorem growL_cap {F:σ->(Nat->Int)->Bool}{con:σ->Option Bool}{S:Nat->σ->List Int}{giv:Nat->σ->Int->σ}{key:Nat->σ->κ}{R:Nat->σ->Prop}{L:Nat}
    (hcap:∀m dn,InvG nf lo hi F key R m dn->m.length<=L)
    (hcon:∀i s bl,R i s->con s=some bl->∀c,fitsC nf lo hi c->F s c=bl) (hend:∀s,R nf s->con s≠none) (hRi:∀i s,R i s->i<=nf)
    (hkey:∀i s i' s',R i s->R i' s'->key i s=key i' s'->i=i'/\ ∀c,fitsC nf lo hi c->F s c=F s' c)
    (hRg:∀i s v,R i s->con s=none->i<nf->v∈S i s->R (i+1) (giv i s v))
    (hS:∀i s,R i s->con s=none->i<nf->∃ss,S i s=lo i::ss/\ chainI (hi i) (lo i) ss/\ ∀c,fitsC nf lo hi c->F s c=F (giv i s ((lo i::ss).getD (nextI ss (c i)) 0)) c):
    ∀(f:Nat) (m:List Dn) (dn:List (κ×Nat)) (i:Nat) (s:σ),InvG nf lo hi F key R m dn->R i s->nf-i<f->
    growL nf con S giv key L f false m dn i s=(((growD nf con S giv key L f m dn i s).1,false),(growD nf con S giv key L f m dn i s).2):=by
  intro f
  induction f with
  | zero=>intro m dn i s _ _ h;omega
  | succ f ih=>
    intro m dn i s hI hR hf;unfold growL growD;cases hc:con s with
    | some bl=>rfl
    | none=>
      dsimp only
      have hL:=hcap m dn hI;have hin:=hRi i s hR
      have hi':i<nf:=by
        rcases Nat.lt_or_ge i nf with h | h
        . exact h
        . have:i=nf:=by omega
          subst this;exact absurd hc (hend s hR)
      have h0:decide (L<m.length)=false:=by simpa using hL
      rw[h0,if_neg (by simp;omega),if_neg (by omega)];cases hlk:dn.lookup (key i s)with
      | some k=>rfl
      | none=>
        dsimp only
        have key2:∀(l:List Int),(∀v∈l,v∈S i s)->∀(st:(List Dn×List (κ×Nat))×List Int),InvG nf lo hi F key R st.1.1 st.1.2->
            l.foldl (stepL nf con S giv key L f i s) ((st.1,false),st.2)=
              (((l.foldl (fun(st:(List Dn×List (κ×Nat))×List Int) v=>
                let r:=growD nf con S giv key L f st.1.1 st.1.2 (i+1) (giv i s v)
                (r.1,st.2++[(r.2:Int)])) st).1,false),(l.foldl (fun(st:(List Dn×List (κ×Nat))×List Int) v=>
                let r:=growD nf con S giv key L f st.1.1 st.1.2 (i+1) (giv i s v)
                (r.1,st.2++[(r.2:Int)])) st).2):=by
          intro l
          induction l with| nil=>intro _ st _;rfl| cons v l ihl=>{intro hl st h1;have hRv:=hRg i s v hR hc hi' (hl v (List.mem_cons_self ..));have q:=ih st.1.1 st.1.2 (i+1) (giv i s v) h1 hRv (by omega);have g:=grow_ok hcap hcon hend hRi hkey hRg hS f st.1.1 st.1.2 (i+1) (giv i s v) h1 hRv (by omega);rw[List.foldl_cons,List.foldl_cons];have e:stepL nf con S giv key L f i s ((st.1,false),st.2) v=(((growD nf con S giv key L f st.1.1 st.1.2 (i+1) (giv i s v)).1,false),st.2++[((growD nf con S giv key L f st.1.1 st.1.2 (i+1) (giv i s v)).2:Int)]):=by{unfold stepL;dsimp only;rw[q]};rw[e];exact ihl (fun w hw=>hl w (List.mem_cons_of_mem _ hw)) ((growD nf con S giv key L f st.1.1 st.1.2 (i+1) (giv i s v)).1,st.2++[((growD nf con S giv key L f st.1.1 st.1.2 (i+1) (giv i s v)).2:Int)]) g.1}
        have q:=key2 (S i s) (fun _ h=>h) ((m,dn),[]) hI;have e1:(fun(st:((List Dn×List (κ×Nat))×Bool)×List Int) v=>((growL nf con S giv key L f st.1.2 st.1.1.1 st.1.1.2 (i+1) (giv i s v)).1,st.2++[((growL nf con S giv key L f st.1.2 st.1.1.1 st.1.1.2 (i+1) (giv i s v)).2:Int)]))=stepL nf con S giv key L f i s:=rfl;rw[e1,q]
end
variable {d : List Fa}
theorem buildX_built {f:Fo}(hv:validD d=true)(hc:checkF f d (fun _=>false)=0)(hb:BuiltB d f):buildX d f=buildD d f:=by
 have hd:=dom_ok hv;have hw:=wf_check hc
 have q:=growL_cap (nf:=d.length) (lo:=flo d) (hi:=fhi d) (L:=20000) (con:=conF) (S:=stD d) (giv:=givD d) (key:=keyD) (R:=ResF d f) (F:=fun s c=>valC d c s) hb.cap
  (fun i s bl hr hc c _=>con_val hr.wf hc c) (fun s hr=>res_end hr) (fun i s hr=>hr.le)
  (fun i s i' s' hr hr' he=>by
   obtain⟨e1,e2⟩:=keyD_inj (wf_sp d _ s (Nat.le_refl _) hr.wf) (wf_sp d _ s' (Nat.le_refl _) hr'.wf) he
   exact⟨e1,fun c _=>by rw[e2]⟩)
  (fun i s v hr _ hi hv=>res_giv hd hr hi hv) (fun i s hr _ hi=>res_start hd hr hi) (d.length+1) [] [] 0 (givF nilB 0 f) (inv_start f) (res_first hw) (by omega)
 have hr:rootL d f=(((rootB d f).1,false),(rootB d f).2):=q;have hl:=hb.cap _ _ hb.inv
 have ho:(orderL d f).length<=20000:=by{unfold orderL;rw[hr];have g:=hb.inv.made.good (dom_le hd);obtain⟨ho,u,hu⟩:=visit_order g.table hb.root.lt (f:=d.length+1) (by omega);have:=List.Nodup.length_le_of_subset ho.nodup (l₂:=List.range (rootB d f).1.1.length) (fun y hy=>List.mem_range.2 (ho.inside y hy));rw[List.length_range]at this;exact Nat.le_trans this hl}
 unfold buildX buildD;rw[hr];have e:orderL d f=visitD (rootB d f).1.1 (d.length+1) [] (rootB d f).2:=by unfold orderL;rw[hr]
 rw[if_neg (show ¬(false=true\/20000<(orderL d f).length) by simp;omega),e]
 rfl
end
end Go.Proofs.YtihniipjfdenbaaGreatDoor
