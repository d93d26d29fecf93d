/- Plain core of chapter 11: one round of Build's recursion at a formula, value by value, whatever the limit. No program. -/
import Derived.Test.YtihniipjfdenbaaGreatDoorDgAX
namespace Go.Proofs.YtihniipjfdenbaaGreatDoor
section
variable {nf : Nat} {lo hi : Nat -> Int} {σ κ : Type} [BEq κ] [LawfulBEq κ]
def growL (nf:Nat)(con:σ->Option Bool)(S:Nat->σ->List Int)(giv:Nat->σ->Int->σ)(key:Nat->σ->κ)(L:Nat):Nat->Bool->List Dn->List (κ×Nat)->Nat->σ->((List Dn×List (κ×Nat))×Bool)×Nat
 | 0,fu,m,dn,_,_=>(((m,dn),fu),0)
 | f+1,fu,m,dn,i,s=>
  match con s with
  | some bl=>((((addD m ⟨0,[],[],bl⟩).1,dn),fu),(addD m ⟨0,[],[],bl⟩).2)
  | none=>
   if(fu || decide (L<m.length))=true\/i=nf then((((addD m ⟨0,[],[],false⟩).1,dn),fu || decide (L<m.length)),(addD m ⟨0,[],[],false⟩).2)
   else match dn.lookup (key i s)with
   | some k=>(((m,dn),false),k)
   | none=>
    let r:=(S i s).foldl (fun(st:((List Dn×List (κ×Nat))×Bool)×List Int) v=>
     let r:=growL nf con S giv key L f st.1.2 st.1.1.1 st.1.1.2 (i+1) (giv i s v)
     (r.1,st.2++[(r.2:Int)])) (((m,dn),false),[])
    let q:=innerD r.1.1.1 i (S i s) r.2
    (((q.1,(key i s,q.2)::r.1.1.2),r.1.2),q.2)
def stepL (nf:Nat)(con:σ->Option Bool)(S:Nat->σ->List Int)(giv:Nat->σ->Int->σ)(key:Nat->σ->κ)(L f i:Nat)(s:σ)(st:((List Dn×List (κ×Nat))×Bool)×List Int)(v:Int):((List Dn×List (κ×Nat))×Bool)×List Int:=
 ((growL nf con S giv key L f st.1.2 st.1.1.1 st.1.1.2 (i+1) (giv i s v)).1,st.2++[((growL nf con S giv key L f st.1.2 st.1.1.1 st.1.1.2 (i+1) (giv i s v)).2:Int)])
structure InvL (nf : Nat) (lo hi : Nat -> Int) (key : Nat -> σ -> κ) (R : Nat -> σ -> Prop) (m : List Dn) (dn : List (κ × Nat)) : Prop where
 made:Made nf lo hi m
 memo:∀i s k,R i s->dn.lookup (key i s)=some k->k<m.length/\ i<=rankD nf (m.getD k default)
structure MadeL (nf : Nat) (lo hi : Nat -> Int) (key : Nat -> σ -> κ) (R : Nat -> σ -> Prop) (L f : Nat) (m : List Dn) (i : Nat) (r : ((List Dn × List (κ × Nat)) × Bool) × Nat) : Prop where
 inv:InvL nf lo hi key R r.1.1.1 r.1.1.2
 lt:r.2<r.1.1.1.length
 rank:i<=rankD nf (r.1.1.1.getD r.2 default)
 grow:∃u,r.1.1.1=m++u
 few:innN r.1.1.1<=max (innN m) (L+f)
structure FoldL (nf : Nat) (lo hi : Nat -> Int) (key : Nat -> σ -> κ) (R : Nat -> σ -> Prop) (L f : Nat) (m : List Dn) (i n : Nat) (r : ((List Dn × List (κ × Nat)) × Bool) × List Int) : Prop where
 inv:InvL nf lo hi key R r.1.1.1 r.1.1.2
 len:r.2.length=n
 kids:∀k∈r.2,0<=k/\ k.toNat<r.1.1.1.length/\ i<rankD nf (r.1.1.1.getD k.toNat default)
 grow:∃u,r.1.1.1=m++u
 few:innN r.1.1.1<=max (innN m) (L+f)
omit [LawfulBEq κ] in
theorem leafL {key:Nat->σ->κ}{R:Nat->σ->Prop}{m:List Dn}{dn:List (κ×Nat)}(hI:InvL nf lo hi key R m dn){i:Nat}(hi':i<=nf)(L f:Nat)(fu bl:Bool):
  MadeL nf lo hi key R L f m i ((((addD m ⟨0,[],[],bl⟩).1,dn),fu),(addD m ⟨0,[],[],bl⟩).2):=by
 have ho:OverD nf lo hi m ⟨0,[],[],bl⟩:=⟨fun _=>⟨rfl,rfl⟩,fun h=>absurd rfl h⟩;obtain⟨h1,h2,h3,u,h4⟩:=addD_made hI.made ho;have hin:=innN_add m ⟨0,[],[],bl⟩;rw[if_pos rfl]at hin;refine⟨⟨h1,fun i' s' k' hr hl=>?_⟩,h2,?_,⟨u,h4⟩,?_⟩
 {obtain⟨q1,q2⟩:=hI.memo i' s' k' hr hl;show k'<(addD m ⟨0,[],[],bl⟩).1.length/\ i'<=rankD nf ((addD m ⟨0,[],[],bl⟩).1.getD k' default);rw[h4,getD_more q1,List.length_append];exact⟨by omega,q2⟩}
 {show i<=rankD nf ((addD m ⟨0,[],[],bl⟩).1.getD _ default);rw[h3];unfold rankD;rw[if_pos rfl];exact hi'}
 {show innN (addD m ⟨0,[],[],bl⟩).1<=_;omega}
theorem growL_made {con:σ->Option Bool}{S:Nat->σ->List Int}{giv:Nat->σ->Int->σ}{key:Nat->σ->κ}{R:Nat->σ->Prop}{L:Nat}
    (hRi:∀i s,R i s->i<=nf)
    (hkey:∀i s i' s',R i s->R i' s'->key i s=key i' s'->i=i')
    (hRg:∀i s v,R i s->con s=none->i<nf->v∈S i s->R (i+1) (giv i s v))
    (hS:∀i s,R i s->con s=none->i<nf->∃ss,S i s=lo i::ss/\ chainI (hi i) (lo i) ss):
    ∀(f:Nat) (fu:Bool) (m:List Dn) (dn:List (κ×Nat)) (i:Nat) (s:σ),InvL nf lo hi key R m dn->R i s->nf-i<f->
    MadeL nf lo hi key R L f m i (growL nf con S giv key L f fu m dn i s):=by
  intro f
  induction f with
  | zero=>intro fu m dn i s _ _ h;omega
  | succ f ih=>
    intro fu m dn i s hI hR hf;have hin:=hRi i s hR;unfold growL;cases hc:con s with
    | some bl=>exact leafL hI hin _ _ _ _
    | none=>
      dsimp only
      by_cases hfu:(fu || decide (L<m.length))=true\/i=nf
      . rw[if_pos hfu];exact leafL hI hin _ _ _ _
      . rw[if_neg hfu]
        have hL:m.length<=L:=by
          rcases Nat.lt_or_ge L m.length with h | h
          . exact absurd (.inl (by simp[h])) hfu
          . exact h
        have hi':i<nf:=by
          rcases Nat.lt_or_ge i nf with h | h
          . exact h
          . exact absurd (.inr (by omega)) hfu
        cases hlk:dn.lookup (key i s)with
        | some k=>{obtain⟨q1,q2⟩:=hI.memo i s k hR hlk;exact⟨hI,q1,q2,⟨[],by simp⟩,by show innN m<=_;omega⟩}
        | none=>
          dsimp only
          obtain⟨ss,hSe,hch⟩:=hS i s hR hc hi'
          have keyl:∀(l:List Int),(∀v∈l,v∈S i s)->∀(st:((List Dn×List (κ×Nat))×Bool)×List Int) (n:Nat),FoldL nf lo hi key R L f m i n st->
              FoldL nf lo hi key R L f m i (n+l.length) (l.foldl (stepL nf con S giv key L f i s) st):=by
            intro l
            induction l with
            | nil=>intro _ st n h;exact h
            | cons v l ihl=>
              intro hl st n h;have hr:=ih st.1.2 st.1.1.1 st.1.1.2 (i+1) (giv i s v) h.inv (hRg i s v hR hc hi' (hl v (List.mem_cons_self ..))) (by omega);obtain⟨u,hu⟩:=hr.grow;obtain⟨u0,hu0⟩:=h.grow;rw[List.foldl_cons,List.length_cons,show n+(l.length+1)=(n+1)+l.length by omega];refine ihl (fun w hw=>hl w (List.mem_cons_of_mem _ hw)) _ (n+1) ⟨hr.inv,by show(st.2++[_]).length=_;rw[List.length_append,h.len];rfl,?_,⟨u0++u,by show(growL nf con S giv key L f st.1.2 st.1.1.1 st.1.1.2 (i+1) (giv i s v)).1.1.1=_;rw[hu,hu0,List.append_assoc]⟩,?_⟩
              . intro k hk
                show 0<=k/\ k.toNat<(growL nf con S giv key L f st.1.2 st.1.1.1 st.1.1.2 (i+1) (giv i s v)).1.1.1.length/\ i<rankD nf ((growL nf con S giv key L f st.1.2 st.1.1.1 st.1.1.2 (i+1) (giv i s v)).1.1.1.getD k.toNat default)
                have hk:k∈st.2++[((growL nf con S giv key L f st.1.2 st.1.1.1 st.1.1.2 (i+1) (giv i s v)).2:Int)]:=hk;rcases List.mem_append.1 hk with h1 | h1
                . obtain⟨q1,q2,q3⟩:=h.kids k h1
                  rw[hu,getD_more q2,List.length_append];exact⟨q1,by omega,q3⟩
                . rw[List.mem_singleton]at h1
                  subst h1;rw[Int.toNat_natCast];exact⟨Int.natCast_nonneg _,hr.lt,hr.rank⟩
              . have h1:=hr.few
                have h2:=h.few
                show innN (growL nf con S giv key L f st.1.2 st.1.1.1 st.1.1.2 (i+1) (giv i s v)).1.1.1<=_
                omega
          have hk:=keyl (S i s) (fun _ h=>h) (((m,dn),false),[]) 0 ⟨hI,rfl,fun k hk=>(by cases hk),⟨[],by simp⟩,by show innN m<=_;omega⟩;revert hk
          show FoldL nf lo hi key R L f m i _ (List.foldl (stepL nf con S giv key L f i s) (((m,dn),false),[]) (S i s))->
            MadeL nf lo hi key R L (f+1) m i
              ((((innerD (List.foldl (stepL nf con S giv key L f i s) (((m,dn),false),[]) (S i s)).1.1.1 i (S i s) (List.foldl (stepL nf con S giv key L f i s) (((m,dn),false),[]) (S i s)).2).1,
                (key i s,(innerD (List.foldl (stepL nf con S giv key L f i s) (((m,dn),false),[]) (S i s)).1.1.1 i (S i s) (List.foldl (stepL nf con S giv key L f i s) (((m,dn),false),[]) (S i s)).2).2)::(List.foldl (stepL nf con S giv key L f i s) (((m,dn),false),[]) (S i s)).1.1.2),
                (List.foldl (stepL nf con S giv key L f i s) (((m,dn),false),[]) (S i s)).1.2),(innerD (List.foldl (stepL nf con S giv key L f i s) (((m,dn),false),[]) (S i s)).1.1.1 i (S i s) (List.foldl (stepL nf con S giv key L f i s) (((m,dn),false),[]) (S i s)).2).2)
          generalize List.foldl (stepL nf con S giv key L f i s) (((m,dn),false),[]) (S i s)=r;intro hk;obtain⟨k1,k2,k3,⟨u,k4⟩,k5⟩:=hk;obtain⟨⟨⟨rm,rd⟩,rb⟩,rk⟩:=r;simp only at k1 k2 k3 k4 k5;rw[hSe]at k2⊢;obtain⟨k0,ks,rfl⟩:∃k0 ks,rk=k0::ks:=by cases rk with | nil=>simp at k2 | cons p q=>exact⟨p,q,rfl⟩
          have hl:ks.length=ss.length:=by simpa using k2
          obtain⟨q1,q2,⟨w,q3⟩,q4,_⟩:=innerD_made k1.made hi' (lo i) k0 ss ks hl hch k3;have hfew:=innN_inner rm i (lo i::ss) (k0::ks);have hml:=innN_le m;refine⟨⟨q1,?_⟩,q2,q4,⟨u++w,by show(innerD rm _ _ _).1=_;rw[q3,k4,List.append_assoc]⟩,?_⟩
          . intro i' s' k' hR' hlk'
            show k'<(innerD rm i (lo i::ss) (k0::ks)).1.length/\ i'<=rankD nf ((innerD rm i (lo i::ss) (k0::ks)).1.getD k' default)
            have hlk':List.lookup (key i' s') ((key i s,(innerD rm i (lo i::ss) (k0::ks)).2)::rd)=some k':=hlk';rw[List.lookup_cons]at hlk';by_cases he:key i' s'=key i s
            . rw[he]at hlk'
              simp only[beq_self_eq_true]at hlk'
              injection hlk' with e3
              subst e3;have e1:=hkey i' s' i s hR' hR he;subst e1;exact⟨q2,q4⟩
            . have:(key i' s'==key i s)=false:=by simpa using he
              rw[this]at hlk';obtain⟨g1,g2⟩:=k1.memo i' s' k' hR' hlk';rw[q3,getD_more g1,List.length_append];exact⟨by omega,g2⟩
          . show innN (innerD rm i (lo i::ss) (k0::ks)).1<=_
            omega
theorem growL_full_fold {κ':Type}[BEq κ']{con:σ->Option Bool}{S:Nat->σ->List Int}{giv:Nat->σ->Int->σ}{key:Nat->σ->κ'}{L f i:Nat}{s:σ}
  (ih:∀(fu:Bool) (m:List Dn) (dn:List (κ'×Nat)) (i:Nat) (s:σ),(growL nf con S giv key L f fu m dn i s).1.2=false->fu=false/\ ∀L',L<=L'->growD nf con S giv key L' f m dn i s=((growL nf con S giv key L f fu m dn i s).1.1,(growL nf con S giv key L f fu m dn i s).2)):
  ∀(l:List Int) (st:((List Dn×List (κ'×Nat))×Bool)×List Int),(l.foldl (stepL nf con S giv key L f i s) st).1.2=false->st.1.2=false/\ ∀L',L<=L'->
   l.foldl (fun(st:(List Dn×List (κ'×Nat))×List Int) v=>
     let r:=growD nf con S giv key L' f st.1.1 st.1.2 (i+1) (giv i s v)
     (r.1,st.2++[(r.2:Int)])) (st.1.1,st.2)=((l.foldl (stepL nf con S giv key L f i s) st).1.1,(l.foldl (stepL nf con S giv key L f i s) st).2)
 | [],st,h=>⟨h,fun _ _=>rfl⟩
 | v::l,st,h=>by{rw[List.foldl_cons]at h⊢;obtain⟨h1,h2⟩:=growL_full_fold ih l _ h;obtain⟨h3,h4⟩:=ih st.1.2 st.1.1.1 st.1.1.2 (i+1) (giv i s v) h1;refine⟨h3,fun L' hL=>?_⟩;rw[List.foldl_cons];dsimp only;rw[h4 L' hL];exact h2 L' hL}
theorem growL_free {κ':Type}[BEq κ']{con:σ->Option Bool}{S:Nat->σ->List Int}{giv:Nat->σ->Int->σ}{key:Nat->σ->κ'}{L:Nat}:
  ∀(f:Nat) (fu:Bool) (m:List Dn) (dn:List (κ'×Nat)) (i:Nat) (s:σ),(growL nf con S giv key L f fu m dn i s).1.2=false->fu=false/\ ∀L',L<=L'->growD nf con S giv key L' f m dn i s=((growL nf con S giv key L f fu m dn i s).1.1,(growL nf con S giv key L f fu m dn i s).2):=by
 intro f
 induction f with| zero=>intro fu m dn i s h;exact⟨h,fun _ _=>rfl⟩| succ f ih=>{intro fu m dn i s;unfold growL growD;cases hc:con s with| some bl=>exact fun h=>⟨h,fun _ _=>rfl⟩| none=>{dsimp only;by_cases hfu:(fu || decide (L<m.length))=true\/i=nf;{rw[if_pos hfu];intro h;have h:(fu || decide (L<m.length))=false:=h;obtain⟨h1,h2⟩:=Bool.or_eq_false_iff.1 h;rw[h]at hfu;(have hi:i=nf:=by simpa using hfu);exact⟨h1,fun L' _=>by rw[if_pos (.inr hi)]⟩};{rw[if_neg hfu];(have h0:(fu || decide (L<m.length))=false:=by simpa using(not_or.1 hfu).1);obtain⟨h1,h2⟩:=Bool.or_eq_false_iff.1 h0;(have h2:¬L<m.length:=by simpa using h2);cases hlk:dn.lookup (key i s)with| some k=>exact fun _=>⟨h1,fun L' hL=>by rw[if_neg (not_or.2 ⟨by omega,(not_or.1 hfu).2⟩)]⟩| none=>{dsimp only;intro h;obtain⟨_,q⟩:=growL_full_fold ih (S i s) (((m,dn),false),[]) h;refine⟨h1,fun L' hL=>?_⟩;rw[if_neg (not_or.2 ⟨by omega,(not_or.1 hfu).2⟩)];rw[q L' hL];rfl}}}}
end
section
open Go.RowKit
structure EnvG (w0 : World) (K DB : Nat) (d : List Fa) (fv : Value) (fu : Bool) : Prop where
 mv:Blk w0 (K+1) 127 #[.pointer (some ⟨K,0,none⟩)]
 dv:Blk w0 (K+3) 128 #[.map (some (K+2))]
 fb:Blk w0 (K+4) 4 #[.bool fu]
 gv:Blk w0 (K+5) 115 #[.func (.func 147) #[] #[.pointer (some ⟨K+1,0,none⟩),.pointer (some ⟨K+4,0,none⟩),.pointer (some ⟨DB,0,none⟩),.pointer (some ⟨K+3,0,none⟩),.pointer (some ⟨K+5,0,none⟩)]]
 db:Blk w0 DB 25 #[fv]
 lt:DB<K
 dom:SlIn FaR 4 w0 K d fv
 tab:TabH K w0
 size:K+6<=w0.heap.size
variable {w0 W W' : World} {K DB : Nat} {S S' : List Nat} {d : List Fa} {fv : Value} {m m' : List Dn} {dn : List (ByteArray × Nat)} {fu : Bool}
theorem blk_else {W:World}{b c:Nat}{t:TypeId}{cs:Array Value}(h:Blk W b t cs)(hne:b≠c)(i:Nat)(v:Value):Blk (W.setCell ⟨c,i,none⟩ v) b t cs:=
 (heap_setCell_other W ⟨c,i,none⟩ b v hne).trans h
theorem blk_one {W:World}{b:Nat}{t:TypeId}{u:Value}(h:Blk W b t #[u])(v:Value):Blk (W.setCell ⟨b,0,none⟩ v) b t #[v]:=by
 show(W.setCell ⟨b,0,none⟩ v).heap[b]? =_
 rw[heap_setCell_same W b 0 _ _ v h]
 rfl
def flagW (W:World)(K:Nat):World:=W.setCell ⟨K+4,0,none⟩ (.bool true)
theorem EnvG.full (h:EnvG w0 K DB d fv fu):EnvG (flagW w0 K) K DB d fv true:=by
 have hb:Below K w0 (flagW w0 K):=(Below.refl K w0).setCell (by show K<=K+4;omega) _;have hlt:=h.lt;exact⟨blk_else h.mv (by omega) _ _,blk_else h.dv (by omega) _ _,blk_one h.fb _,blk_else h.gv (by omega) _ _,blk_else h.db (by omega) _ _,hlt,h.dom.below FaR.kept hb,h.tab.on hb,by show K+6<=(w0.setCell _ _).heap.size;rw[World.size_setCell];exact h.size⟩
theorem StB.full (h:StB w0 K S m dn W)(hb:Blk w0 (K+4) 4 #[.bool fu])(hS:K+4∈S):StB (flagW w0 K) K S m dn (flagW W K)/\ MkS K [K+4] W (flagW W K):=by
 have hB:=h.blk hb ⟨by decide,by decide⟩
 have hm:∀ {S:List Nat},K+4∈S->MkS K S W (flagW W K):=fun hS=>
  ⟨rfl,rfl,rfl,by show _<=(W.setCell _ _).heap.size;rw[World.size_setCell];exact Nat.le_refl _,fun b o ho hc=>by
   refine(heap_setCell_other W ⟨K+4,0,none⟩ b _ ?_).trans ho
   rintro rfl
   rcases hc with hc | hc
   {have hc:K+4<K:=hc;omega}
   ·exact hc.2 hS⟩
 have hk:∀b o,W.heap[b]? =some o->solid o=false->b<W.heap.size->(flagW W K).heap[b]? =some o:=fun b o h1 h2 _=>by{refine(heap_setCell_other W ⟨K+4,0,none⟩ b _ ?_).trans h1;rintro rfl;rw[show W.heap[K+4]? =some (.cells #[.bool fu] 4 (0,0))from hB]at h1;(cases h1);simp[solid]at h2}
 refine⟨⟨?_,h.is.keep (hm hS) hk,?_,?_⟩,hm (by simp)⟩
 ·refine⟨h.stp.os,h.stp.tape,h.stp.output,?_,fun b o ho hc=>?_⟩
  ·show(w0.setCell _ _).heap.size<=(W.setCell _ _).heap.size
   rw[World.size_setCell,World.size_setCell];exact h.stp.size
  {by_cases he:b=K+4;{subst he;rw[show(flagW w0 K).heap[K+4]? =_ from blk_one hb (.bool true)]at ho;(cases ho);exact blk_one hB (.bool true)};{rw[show(flagW w0 K).heap[b]? =w0.heap[b]? from heap_setCell_other w0 ⟨K+4,0,none⟩ b _ he]at ho;rw[show(flagW W K).heap[b]? =W.heap[b]? from heap_setCell_other W ⟨K+4,0,none⟩ b _ he];exact h.stp.keep b o ho hc}}
 {rw[show(flagW W K).cell? ⟨K,1,none⟩=W.cell? ⟨K,1,none⟩from World.cell?_of_block (a:=⟨K,1,none⟩) (heap_setCell_other W ⟨K+4,0,none⟩ K _ (by show K≠K+4;omega))];exact h.own}
 {obtain⟨mp,⟨es,c,h1,h2⟩,h3⟩:=h.memo;exact⟨mp,⟨es,c,hk _ _ h1 rfl (heap_lt h1),h2⟩,h3⟩}
def bwL (w0:World)(K:Nat)(fu:Bool):World:=if fu then flagW w0 K else w0
theorem EnvG.bw (h:EnvG w0 K DB d fv false):∀fu,EnvG (bwL w0 K fu) K DB d fv fu
 | false=>h
 | true=>h.full
theorem bw_size (w0:World)(K:Nat)(fu:Bool):(bwL w0 K fu).heap.size=w0.heap.size:=by
 cases fu
 {rfl}
 ·show(w0.setCell _ _).heap.size=_;rw[World.size_setCell]
def growLF (d:List Fa)(f:Nat)(fu:Bool)(m:List Dn)(dn:List (ByteArray×Nat))(i:Nat)(s:Fo):((List Dn×List (ByteArray×Nat))×Bool)×Nat:=growL d.length conF (stD d) (givD d) keyD 20000 f fu m dn i s
def InvF (d:List Fa)(f0:Fo)(m:List Dn)(dn:List (ByteArray×Nat)):Prop:=InvL d.length (flo d) (fhi d) keyD (ResF d f0) m dn
theorem growLF_made (hd:DomOk d){f0:Fo}(f:Nat)(fu:Bool)(m:List Dn)(dn:List (ByteArray×Nat))(i:Nat)(s:Fo)(hI:InvF d f0 m dn)(hR:ResF d f0 i s)(hf:d.length-i<f):
  MadeL d.length (flo d) (fhi d) keyD (ResF d f0) 20000 f m i (growLF d f fu m dn i s):=
 growL_made (con:=conF) (S:=stD d) (giv:=givD d) (key:=keyD) (R:=ResF d f0) (fun i s hr=>hr.le) (fun i s i' s' hr hr' he=>(keyD_inj (wf_sp d _ s (Nat.le_refl _) hr.wf) (wf_sp d _ s' (Nat.le_refl _) hr'.wf) he).1) (fun i s v hr _ hi hv=>res_giv hd hr hi hv)
  (fun i s hr _ hi=>by obtain⟨ss,h1,h2,_⟩:=res_start hd hr hi;exact⟨ss,h1,h2⟩) f fu m dn i s hI hR hf
end
section
variable {d : List Fa}
def stepLF (d:List Fa)(f i:Nat)(s:Fo)(st:((List Dn×List (ByteArray×Nat))×Bool)×List Int)(v:Int):((List Dn×List (ByteArray×Nat))×Bool)×List Int:=
 ((growLF d f st.1.2 st.1.1.1 st.1.1.2 (i+1) (givD d i s v)).1,st.2++[((growLF d f st.1.2 st.1.1.1 st.1.1.2 (i+1) (givD d i s v)).2:Int)])
def foldLF (d:List Fa)(f:Nat)(m:List Dn)(dn:List (ByteArray×Nat))(i:Nat)(s:Fo)(l:List Int):((List Dn×List (ByteArray×Nat))×Bool)×List Int:=l.foldl (stepLF d f i s) (((m,dn),false),[])
theorem growL_con_eq (f:Nat){fu:Bool}{m:List Dn}{dn:List (ByteArray×Nat)}{i:Nat}{s:Fo}{bl:Bool}(hc:conF s=some bl):growLF d (f+1) fu m dn i s=((((addD m ⟨0,[],[],bl⟩).1,dn),fu),(addD m ⟨0,[],[],bl⟩).2):=by
 unfold growLF growL;rw[hc]
theorem growL_full_eq (f:Nat){fu:Bool}{m:List Dn}{dn:List (ByteArray×Nat)}{i:Nat}{s:Fo}(hc:conF s=none)(h:(fu || decide (20000<m.length))=true):growLF d (f+1) fu m dn i s=((((addD m ⟨0,[],[],false⟩).1,dn),true),(addD m ⟨0,[],[],false⟩).2):=by
 unfold growLF growL;rw[hc]
 dsimp only
 rw[if_pos (.inl h),h]
theorem growL_hit_eq (f:Nat){m:List Dn}{dn:List (ByteArray×Nat)}{i:Nat}{s:Fo}{k:Nat}(hc:conF s=none)(hm:m.length<=20000)(hi:i<d.length)(hk:dn.lookup (keyD i s)=some k):growLF d (f+1) false m dn i s=(((m,dn),false),k):=by
 have h0:decide (20000<m.length)=false:=by simpa using hm
 unfold growLF growL;rw[hc]
 dsimp only
 rw[h0,if_neg (by simp;omega),hk]
theorem growL_new_eq (f:Nat){m:List Dn}{dn:List (ByteArray×Nat)}{i:Nat}{s:Fo}(hc:conF s=none)(hm:m.length<=20000)(hi:i<d.length)(hk:dn.lookup (keyD i s)=none):
  growLF d (f+1) false m dn i s=((((innerD (foldLF d f m dn i s (stD d i s)).1.1.1 i (stD d i s) (foldLF d f m dn i s (stD d i s)).2).1,
   (keyD i s,(innerD (foldLF d f m dn i s (stD d i s)).1.1.1 i (stD d i s) (foldLF d f m dn i s (stD d i s)).2).2)::(foldLF d f m dn i s (stD d i s)).1.1.2),(foldLF d f m dn i s (stD d i s)).1.2),(innerD (foldLF d f m dn i s (stD d i s)).1.1.1 i (stD d i s) (foldLF d f m dn i s (stD d i s)).2).2):=by
 have h0:decide (20000<m.length)=false:=by simpa using hm
 conv=>lhs;unfold growLF growL
 rw[hc]
 dsimp only
 rw[h0,if_neg (by simp;omega),hk]
 rfl
theorem foldLF_snoc (f:Nat)(m:List Dn)(dn:List (ByteArray×Nat))(i:Nat)(s:Fo)(l:List Int)(k:Nat)(hk:k<l.length):foldLF d f m dn i s (l.take (k+1))=stepLF d f i s (foldLF d f m dn i s (l.take k)) l[k]:=by
 unfold foldLF;rw[List.take_succ_eq_append_getElem hk,List.foldl_append]
 rfl
structure FoldLk (d : List Fa) (f0 : Fo) (n : Nat) (r : ((List Dn × List (ByteArray × Nat)) × Bool) × List Int) : Prop where
 inv:InvF d f0 r.1.1.1 r.1.1.2
 few:innN r.1.1.1<=20070
 len:r.2.length=n
 kids:∀x∈r.2,0<=x/\ x<=20100
theorem FoldLk.small {f0:Fo}{n:Nat}{r:((List Dn×List (ByteArray×Nat))×Bool)×List Int}(h:FoldLk d f0 n r):r.1.1.1.length<=20072:=by
 have:=innN_len h.inv.made;have:=h.few;omega
theorem foldL_ok (hd:DomOk d){f0:Fo}{f:Nat}{m:List Dn}{dn:List (ByteArray×Nat)}{i:Nat}{s:Fo}
  (hI:InvF d f0 m dn) (hb:innN m<=20070) (hf7:f<=70) (hR:ResF d f0 i s) (hi:i<d.length) (hf:d.length-(i+1)<f):
  ∀k,k<=(stD d i s).length->FoldLk d f0 k (foldLF d f m dn i s ((stD d i s).take k)):=by
 intro k
 induction k with| zero=>intro _;exact⟨hI,hb,rfl,fun x hx=>by cases hx⟩| succ k ih=>{intro hk;(have hkl:k<(stD d i s).length:=by omega);rw[foldLF_snoc f m dn i s _ k hkl];have hv:=List.getElem_mem hkl;obtain⟨h1,h0,h2,h3⟩:=ih (by omega);clear ih;generalize(stD d i s)[k]=v at*;generalize foldLF d f m dn i s ((stD d i s).take k)=r at*;have g:=growLF_made hd f r.1.2 r.1.1.1 r.1.1.2 (i+1) (givD d i s v) h1 (res_giv hd hR hi hv) hf;have hfew:=g.few;have hlen:=innN_len g.inv.made;have hlt:=g.lt;refine⟨g.inv,by show innN (growLF d f r.1.2 r.1.1.1 r.1.1.2 (i+1) (givD d i s v)).1.1.1<=_;omega,by simp[stepLF,h2],fun x hx=>?_⟩;unfold stepLF at hx;(rcases List.mem_append.1 hx with hx | hx);{exact h3 x hx};{have hx:x=_:=List.mem_singleton.1 hx;rw[hx];omega}}
end
end Go.Proofs.YtihniipjfdenbaaGreatDoor
