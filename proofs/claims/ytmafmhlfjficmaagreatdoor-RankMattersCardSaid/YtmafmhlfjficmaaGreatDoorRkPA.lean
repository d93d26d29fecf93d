/- Plain core of chapter 15: a condition that is negated twice has the same diagram, or the same error. No program. -/
import Derived.Test.YtmafmhlfjficmaaGreatDoorDgBA
import Derived.Test.YtmafmhlfjficmaaGreatDoorDgAV
import Derived.Test.YtmafmhlfjficmaaGreatDoorDgLs
import Derived.BigQuiet
import Derived.Test.YtmafmhlfjficmaaGreatDoorDgST
import Derived.Test.YtmafmhlfjficmaaGreatDoorMemA
namespace Go.Proofs.YtmafmhlfjficmaaGreatDoor
section
variable {d : List Fa}
theorem andX_ok {a b:List Dn}(h:(andX d a b).2=0):ValidG d a/\ ValidG d b/\ ValidG d (andX d a b).1/\ ∀c,fitsC d.length (flo d) (fhi d) c->readG d (andX d a b).1 0 c=(readG d a 0 c&& readG d b 0 c):=by
 unfold andX at h⊢
 split at h
 ·next hv=>
  rw[if_pos hv];have vA:=valid_iff.1 hv.1;have vB:=valid_iff.1 hv.2
  split at h
  ·cases h
  ·next hl=>
   rw[if_neg hl];have hM:=rootX vA vB;have hl:(rootJ d a b).1.1.length<=20000:=by omega
   have hN:=hM.node hl;have hd:=dom_ok vA.dom;have g:=hM.inv.made.good (dom_le hd);have hx:=hM.lt;obtain⟨ho,u,hu⟩:=visit_order g.table hx (f:=d.length+1) (by omega);have g2:=from_good g ho;have hlen:(tableJ d a b).length=(visitD (rootJ d a b).1.1 (d.length+1) [] (rootJ d a b).2).length:=by unfold tableJ fromD;rw[List.length_map]
   have hle:(visitD (rootJ d a b).1.1 (d.length+1) [] (rootJ d a b).2).length<=(rootJ d a b).1.1.length:=by
    have:=List.Nodup.length_le_of_subset ho.nodup (l₂:=List.range (rootJ d a b).1.1.length) (fun y hy=>List.mem_range.2 (ho.inside y hy))
    rwa[List.length_range]at this
   have hV:ValidG d (tableJ d a b):=⟨vA.dom,by rw[hlen,hu];simp,by omega,g2.table,g2.nodup,from_again g hx (by omega)⟩;refine⟨vA,vB,hV,fun c fc=>?_⟩;rw[show readG d (tableJ d a b) 0 c=_ from read_one hV.good g2 _ 0 hV.pos (Nat.le_refl _) c fc]
   show readT _ ((visitD (rootJ d a b).1.1 (d.length+1) [] (rootJ d a b).2).getD 0 0) c=_
   rw[hu]
   show readT _ (rootJ d a b).2 c=_
   exact hN.means c fc
 ·cases h
def aloneX (d:List Fa)(x y:List Dn):Bool×Int:=if(andX d x (notD y)).2=0 then((leastG d (andX d x (notD y)).1).isSome,0)else(false,(andX d x (notD y)).2)
def aloneD (d:List Fa)(P:Nat->Fo)(a b:Nat):Bool×Int:=
 if(buildX d (P a)).2=0 then(if(buildX d (P b)).2=0 then aloneX d (buildX d (P a)).1 (buildX d (P b)).1 else(false,(buildX d (P b)).2))else(false,(buildX d (P a)).2)
def specD (d:List Fa)(P:Nat->Fo)(a b:Nat):Bool×Bool×Int:=
 if(aloneD d P a b).2=0 then(if(aloneD d P b a).2=0 then(!(aloneD d P a b).1&& (aloneD d P b a).1, !(aloneD d P a b).1&& !(aloneD d P b a).1,0)else(false,false,(aloneD d P b a).2))else(false,false,(aloneD d P a b).2)
def whyD (d:List Fa)(P:Nat->Fo)(R T:Nat->Int)(a b:Nat):Int×Int:=
 if R a<R b then(1,0)else if R b<R a then(0,0)
 else if(specD d P a b).2.2=0 then(if(specD d P a b).1 then(2,0)else if(specD d P a b).2.1=true/\ T b<T a then(3,0)else(0,0))else(0,(specD d P a b).2.2)
def SubD (d:List Fa)(x y:Fo):Prop:=∀c,fitsC d.length (flo d) (fhi d) c->valC d c x=true->valC d c y=true
theorem SubD.refl (x:Fo):SubD d x x:=fun _ _ h=>h
theorem SubD.trans {x y z:Fo}(h:SubD d x y)(k:SubD d y z):SubD d x z:=fun c fc hc=>k c fc (h c fc hc)
theorem alone_iff {P:Nat->Fo}{a b:Nat}(h:(aloneD d P a b).2=0):(aloneD d P a b).1=true↔¬SubD d (P a) (P b):=by
 unfold aloneD at h⊢
 split at h
 ·next ha=>
  split at h
  ·next hb=>
   rw[if_pos ha,if_pos hb];obtain⟨_,_,ma⟩:=buildX_ok ha;obtain⟨vb,_,mb⟩:=buildX_ok hb;unfold aloneX at h⊢
   split at h
   ·next hx=>
    rw[if_pos hx];obtain⟨_,_,vg,mg⟩:=andX_ok hx;obtain⟨_,mn⟩:=not_valid vb;have hm:∀c,fitsC d.length (flo d) (fhi d) c->readG d (andX d (buildX d (P a)).1 (notD (buildX d (P b)).1)).1 0 c=(valC d c (P a)&& !valC d c (P b)):=fun c fc=>by rw[mg c fc,mn c fc,ma c fc,mb c fc]
    cases hl:leastG d (andX d (buildX d (P a)).1 (notD (buildX d (P b)).1)).1 with
    | none=>
     refine⟨fun e=>(by cases e),fun hn=>absurd (fun c fc hc=>?_) hn⟩;have:=hm c fc;rw[least_none vg hl,hc]at this
     simpa using this.symm
    | some p=>
     obtain⟨_,_,fp,rp,_⟩:=least_some vg hl;refine⟨fun _ hs=>?_,fun _=>rfl⟩;have h1:=hm _ fp;rw[rp]at h1;have h2:valC d (fun i=>p.getD i 0) (P a)=true/\ valC d (fun i=>p.getD i 0) (P b)=false:=by simpa using h1.symm
     rw[hs _ fp h2.1]at h2;cases h2.2
   ·next hx=>exact absurd h hx
  ·next hb=>exact absurd h hb
 ·next ha=>exact absurd h ha
def BeatD (d:List Fa)(P:Nat->Fo)(R T:Nat->Int)(a b:Nat):Prop:=
 R a<R b\/(R a=R b/\ SubD d (P a) (P b)/\ (¬SubD d (P b) (P a)\/T b<T a))
theorem spec_iff {P:Nat->Fo}{a b:Nat}(h:(specD d P a b).2.2=0):
  ((specD d P a b).1=true↔SubD d (P a) (P b)/\ ¬SubD d (P b) (P a))/\ ((specD d P a b).2.1=true↔SubD d (P a) (P b)/\ SubD d (P b) (P a)):=by
 unfold specD at h⊢
 split at h
 ·next h1=>
  split at h
  ·next h2=>
   rw[if_pos h1,if_pos h2];have q1:=alone_iff h1;have q2:=alone_iff h2;cases e1:(aloneD d P a b).1<;>cases e2:(aloneD d P b a).1<;>rw[e1]at q1<;>rw[e2]at q2<;>simp_all
  ·next h2=>exact absurd h h2
 ·next h1=>exact absurd h h1
theorem why_iff {P:Nat->Fo}{R T:Nat->Int}{a b:Nat}(h:(whyD d P R T a b).2=0):0<(whyD d P R T a b).1↔BeatD d P R T a b:=by
 unfold whyD at h⊢;unfold BeatD
 split
 ·next h1=>exact⟨fun _=>.inl h1,fun _=>by decide⟩
 ·next h1=>
  rw[if_neg h1]at h
  split
  ·next h2=>
   constructor
   ·intro e;exact absurd e (by decide)
   ·rintro(e | e)<;>omega
  ·next h2=>
   rw[if_neg h2]at h
   split
   ·next h3=>
    have hr:R a=R b:=by omega
    obtain⟨q1,q2⟩:=spec_iff h3;by_cases e1:(specD d P a b).1=true
    ·rw[if_pos e1]
     obtain⟨s1,s2⟩:=q1.1 e1;exact⟨fun _=>.inr ⟨hr,s1,.inl s2⟩,fun _=>by decide⟩
    ·rw[if_neg e1]
     by_cases e2:(specD d P a b).2.1=true/\ T b<T a
     ·rw[if_pos e2]
      exact⟨fun _=>.inr ⟨hr,(q2.1 e2.1).1,.inr e2.2⟩,fun _=>by decide⟩
     ·rw[if_neg e2]
      constructor
      ·intro e;exact absurd e (by decide)
      ·rintro(e | ⟨_,s1,s2⟩)
       ·omega
       ·exfalso
        by_cases s3:SubD d (P b) (P a)
        ·exact e2 ⟨q2.2 ⟨s1,s3⟩,s2.elim (fun h=>absurd s3 h) id⟩
        ·exact e1 (q1.2 ⟨s1,s3⟩)
   ·next h3=>rw[if_neg h3]at h;exact absurd h h3
theorem beat_irr {P:Nat->Fo}{R T:Nat->Int}(a:Nat):¬BeatD d P R T a a:=by
 rintro(h | ⟨_,h,h' | h'⟩)
 ·omega
 ·exact h' h
 ·omega
theorem beat_trans {P:Nat->Fo}{R T:Nat->Int}{a b c:Nat}(h:BeatD d P R T a b)(k:BeatD d P R T b c):BeatD d P R T a c:=by
 rcases h with h | ⟨h1,h2,h3⟩<;>rcases k with k | ⟨k1,k2,k3⟩
 ·exact .inl (by omega)
 ·exact .inl (by omega)
 ·exact .inl (by omega)
 ·refine .inr ⟨by omega,h2.trans k2,?_⟩
  by_cases s:SubD d (P c) (P a)
  ·right
   have s1:SubD d (P b) (P a):=k2.trans s;have s2:SubD d (P c) (P b):=s.trans h2;have t1:T b<T a:=h3.elim (fun e=>absurd s1 e) id;have t2:T c<T b:=k3.elim (fun e=>absurd s2 e) id;omega
  ·exact .inl s
theorem beat_asym {P:Nat->Fo}{R T:Nat->Int}{a b:Nat}(h:BeatD d P R T a b):¬BeatD d P R T b a:=fun k=>beat_irr a (beat_trans h k)
theorem best_over {P:Nat->Fo}{R T:Nat->Int}(l:List Nat):∀(n a:Nat),a∈l->(∀S:List Nat,S.Nodup->(∀b∈S,b∈l/\ BeatD d P R T b a)->S.length<=n)->∃b∈l,(b=a\/BeatD d P R T b a)/\ ∀x∈l,¬BeatD d P R T x b:=by
 intro n
 induction n with
 | zero=>
  intro a ha hn;refine⟨a,ha,.inl rfl,fun x hx hb=>?_⟩;have:=hn [x] (by simp) (fun b hb'=>by rw[List.mem_singleton.1 hb'];exact⟨hx,hb⟩);simp at this
 | succ n ih=>
  intro a ha hn;by_cases hm:∃x∈l,BeatD d P R T x a
  ·obtain⟨x,hx,hb⟩:=hm
   obtain⟨b,h1,h2,h3⟩:=ih x hx (fun S hS hSl=>by
    have:=hn (x::S) (List.nodup_cons.2 ⟨fun hxS=>beat_irr x (hSl x hxS).2,hS⟩) (fun b hb'=>by
     rcases List.mem_cons.1 hb' with rfl | hb'
     ·exact⟨hx,hb⟩
     ·exact⟨(hSl b hb').1,beat_trans (hSl b hb').2 hb⟩)
    simp at this
    omega)
   refine⟨b,h1,.inr ?_,h3⟩;rcases h2 with rfl | h2
   ·exact hb
   ·exact beat_trans h2 hb
  ·exact⟨a,ha,.inl rfl,fun x hx hb=>hm ⟨x,hx,hb⟩⟩
theorem best_all {P:Nat->Fo}{R T:Nat->Int}(l:List Nat){a:Nat}(ha:a∈l):∃b∈l,(b=a\/BeatD d P R T b a)/\ ∀x∈l,¬BeatD d P R T x b:=
 best_over l l.length a ha fun _ hS hSl=>List.Nodup.length_le_of_subset hS fun b hb=>(hSl b hb).1
end
section
def beatW (W:Nat->Nat->Int×Int)(Q:Nat->Bool)(a:Nat):List Nat->Bool->Bool×Int
 | [],is=>(is,0)
 | b::l,is=>if Q b=true/\ a≠b then(if(W b a).2=0 then beatW W Q a l (is || decide (0<(W b a).1))else(false,(W b a).2))else beatW W Q a l is
def bestW (W:Nat->Nat->Int×Int)(Q:Nat->Bool)(n:Nat):List Nat->List Nat->List Nat×Int
 | [],out=>(out,0)
 | a::l,out=>if Q a=true then(if(beatW W Q a (List.range n) false).2=0 then bestW W Q n l (if(beatW W Q a (List.range n) false).1 then out else out++[a])else([],(beatW W Q a (List.range n) false).2))else bestW W Q n l out
variable {W : Nat -> Nat -> Int × Int} {Q : Nat -> Bool} {a n : Nat}
theorem beatW_iff :∀(l:List Nat) (is:Bool),(beatW W Q a l is).2=0->(∀b∈l,Q b=true->a≠b->(W b a).2=0)/\ ((beatW W Q a l is).1=true↔is=true\/∃b∈l,Q b=true/\ a≠b/\ 0<(W b a).1)
 | [],is,_=>⟨fun b hb=>(by cases hb),by simp[beatW]⟩
 | b::l,is,h=>by
  rw[beatW]at h⊢;by_cases hq:Q b=true/\ a≠b
  ·rw[if_pos hq]at h⊢
   by_cases he:(W b a).2=0
   ·rw[if_pos he]at h⊢
    obtain⟨h1,h2⟩:=beatW_iff l _ h;refine⟨fun c hc q1 q2=>(List.mem_cons.1 hc).elim (fun e=>by rw[e];exact he) (fun hc=>h1 c hc q1 q2),?_⟩;rw[h2];constructor
    ·rintro(h | ⟨c,hc,h⟩)
     ·rcases Bool.or_eq_true_iff.1 h with h | h
      ·exact .inl h
      ·exact .inr ⟨b,List.mem_cons_self ..,hq.1,hq.2,by simpa using h⟩
     ·exact .inr ⟨c,List.mem_cons_of_mem _ hc,h⟩
    ·rintro(hx | ⟨c,hc,hx⟩)
     ·exact .inl (by rw[hx];rfl)
     ·rcases List.mem_cons.1 hc with rfl | hc
      ·exact .inl (by rw[decide_eq_true hx.2.2];simp)
      ·exact .inr ⟨c,hc,hx⟩
   ·rw[if_neg he]at h;exact absurd h he
  ·rw[if_neg hq]at h⊢
   obtain⟨h1,h2⟩:=beatW_iff l _ h;refine⟨fun c hc q1 q2=>(List.mem_cons.1 hc).elim (fun e=>by subst e;exact absurd ⟨q1,q2⟩ hq) (fun hc=>h1 c hc q1 q2),?_⟩;rw[h2];refine or_congr Iff.rfl ⟨fun⟨c,hc,h⟩=>⟨c,List.mem_cons_of_mem _ hc,h⟩,fun⟨c,hc,h⟩=>?_⟩;rcases List.mem_cons.1 hc with rfl | hc
   ·exact absurd ⟨h.1,h.2.1⟩ hq
   ·exact⟨c,hc,h⟩
theorem bestW_iff :∀(l out:List Nat),(bestW W Q n l out).2=0->(∀a∈l,Q a=true->∀b,b<n->Q b=true->a≠b->(W b a).2=0)/\
  (bestW W Q n l out).1=out++l.filter (fun a=>Q a&& !(beatW W Q a (List.range n) false).1)
 | [],out,_=>⟨fun a ha=>(by cases ha),by simp[bestW]⟩
 | a::l,out,h=>by
  rw[bestW]at h⊢;by_cases hq:Q a=true
  ·rw[if_pos hq]at h⊢
   by_cases he:(beatW W Q a (List.range n) false).2=0
   ·rw[if_pos he]at h⊢
    obtain⟨h1,h2⟩:=bestW_iff l _ h;obtain⟨h3,_⟩:=beatW_iff _ _ he;refine⟨fun c hc q1 b hb q2 q3=>(List.mem_cons.1 hc).elim (fun e=>by subst e;exact h3 b (List.mem_range.2 hb) q2 q3) (fun hc=>h1 c hc q1 b hb q2 q3),?_⟩;rw[h2,List.filter_cons];cases(beatW W Q a (List.range n) false).1<;>simp[hq]
   ·rw[if_neg he]at h;exact absurd h he
  ·rw[if_neg hq]at h⊢
   obtain⟨h1,h2⟩:=bestW_iff l _ h;refine⟨fun c hc q1=>(List.mem_cons.1 hc).elim (fun e=>by subst e;exact absurd q1 hq) (fun hc=>h1 c hc q1),?_⟩;rw[h2,List.filter_cons];simp[hq]
theorem bestW_err :∀(l out:List Nat),(bestW W Q n l out).2≠0->(bestW W Q n l out).1=[]
 | [],out,h=>by rw[bestW]at h;exact absurd rfl h
 | a::l,out,h=>by
  rw[bestW]at h⊢;by_cases hq:Q a=true
  ·rw[if_pos hq]at h⊢
   by_cases he:(beatW W Q a (List.range n) false).2=0
   ·rw[if_pos he]at h⊢;exact bestW_err l _ h
   ·rw[if_neg he]
  ·rw[if_neg hq]at h⊢;exact bestW_err l _ h
structure BestOk (W : Nat -> Nat -> Int × Int) (Q : Nat -> Bool) (n : Nat) (r : List Nat) : Prop where
 err:∀a,a<n->Q a=true->∀b,b<n->Q b=true->a≠b->(W b a).2=0
 mem:∀a,a∈r↔a<n/\ Q a=true/\ ∀b,b<n->Q b=true->a≠b->¬0<(W b a).1
 order:r.Pairwise (· < ·)
theorem best_ok (h:(bestW W Q n (List.range n) []).2=0):BestOk W Q n (bestW W Q n (List.range n) []).1:=by
 obtain⟨h1,h2⟩:=bestW_iff _ _ h;have he:∀a,a<n->Q a=true->∀b,b<n->Q b=true->a≠b->(W b a).2=0:=fun a ha=>h1 a (List.mem_range.2 ha)
 have hb:∀(a:Nat) (l:List Nat) (is:Bool),(∀b∈l,b<n)->a<n->Q a=true->(beatW W Q a l is).2=0:=by
  intro a l
  induction l with
  | nil=>intro is _ _ _;rfl
  | cons b l ih=>
   intro is hl ha hq;rw[beatW];by_cases hh:Q b=true/\ a≠b
   ·rw[if_pos hh,if_pos (he a ha hq b (hl b (List.mem_cons_self ..)) hh.1 hh.2)]
    exact ih _ (fun c hc=>hl c (List.mem_cons_of_mem _ hc)) ha hq
   ·rw[if_neg hh]
    exact ih _ (fun c hc=>hl c (List.mem_cons_of_mem _ hc)) ha hq
 rw[h2,List.nil_append];refine⟨he,fun a=>?_,(List.pairwise_lt_range ..).filter _⟩;rw[List.mem_filter,List.mem_range,Bool.and_eq_true];constructor
 ·rintro⟨ha,hq,hn⟩
  refine⟨ha,hq,fun b hb' q1 q2 hp=>?_⟩;have:=(beatW_iff (W:=W) (Q:=Q) (a:=a) (List.range n) false (hb a _ _ (fun b hb=>List.mem_range.1 hb) ha hq)).2.2 (.inr ⟨b,List.mem_range.2 hb',q1,q2,hp⟩);rw[this]at hn;cases hn
 ·rintro⟨ha,hq,hn⟩
  refine⟨ha,hq,?_⟩;cases e:(beatW W Q a (List.range n) false).1 with
  | false=>rfl
  | true=>
   obtain e | ⟨b,hb',q1,q2,hp⟩:=(beatW_iff (W:=W) (Q:=Q) (a:=a) (List.range n) false (hb a _ _ (fun b hb=>List.mem_range.1 hb) ha hq)).2.1 e
   ·cases e
   ·exact absurd hp (hn b (List.mem_range.1 hb') q1 q2)
end
section
open Go.RowKit
def LawT (w:World)(B:Nat)(d:List Fa)(ps:List Pv)(ts:List Int)(v:Value):Prop:=
 ∃u1 u2 u3,v=.agg #[u1,u2,u3]/\ SlIn FaR 4 w B d u1/\ SlIn PvR 23 w B ps u2/\ SlIn (OneR (Value.int .i64)) 1 w B ts u3
theorem LawT.below {w w':World}{B:Nat}(hb:Below B w w'){d:List Fa}{ps:List Pv}{ts:List Int}{v:Value}(h:LawT w B d ps ts v):LawT w' B d ps ts v:=by
 obtain⟨u1,u2,u3,rfl,h1,h2,h3⟩:=h;exact⟨u1,u2,u3,rfl,h1.below FaR.kept hb,h2.below PvR.kept hb,h3.below (OneR.kept _) hb⟩
theorem PvR.mono :PvR.Mono:=fun _ _ _ _ _ _ hb ⟨ak,ck,ae,ce,hr,hf,he,r⟩=>⟨ak,ck,ae,ce,hr,Fo.In.mono hb _ _ hf,SlIn.mono (OneR.mono _) hb he,r⟩
theorem LawT.mono {w:World}{B B':Nat}(hb:B<=B'){d:List Fa}{ps:List Pv}{ts:List Int}{v:Value}(h:LawT w B d ps ts v):LawT w B' d ps ts v:=by
 obtain⟨u1,u2,u3,rfl,h1,h2,h3⟩:=h;exact⟨u1,u2,u3,rfl,h1.mono FaR.mono hb,h2.mono PvR.mono hb,h3.mono (OneR.mono _) hb⟩
theorem LawT.law {w:World}{B:Nat}{d:List Fa}{ps:List Pv}{ts:List Int}{v:Value}(h:LawT w B d ps ts v):LawIn w B d ps v:=by
 obtain⟨u1,u2,u3,rfl,h1,h2,h3⟩:=h;obtain⟨a,c,rfl,_⟩:=SlIn.shape h3;exact⟨u1,u2,a,_,c,rfl,h1,h2⟩
def condP (ps:List Pv)(i:Nat):Fo:=match ps[i]? with | some p=>p.cond | none=>.mk 0 nilB 0 0 []
def rankP (ps:List Pv)(i:Nat):Int:=match ps[i]? with | some p=>p.rank | none=>0
def timeP (ts:List Int)(i:Nat):Int:=ts.getD i 0
theorem condP_at {ps:List Pv}{i:Nat}(h:i<ps.length):condP ps i=ps[i].cond:=by unfold condP;rw[List.getElem?_eq_getElem h]
theorem rankP_at {ps:List Pv}{i:Nat}(h:i<ps.length):rankP ps i=ps[i].rank:=by unfold rankP;rw[List.getElem?_eq_getElem h]
def okRk (d:List Fa):List (ByteArray×Bool)->List Pv->Bool
 | _,[]=>true
 | m,p::l=>if m.lookup p.id=some true\/checkF p.cond d (fun _=>false)≠0 then false else okRk d (ins m p.id true) l
def properL (d:List Fa)(ps:List Pv)(n:Nat):Bool:=validD d&& decide (ps.length<=2000)&& decide (n=ps.length)&& okRk d [] ps
theorem okRk_iff (d:List Fa):∀(l:List Pv) (m:List (ByteArray×Bool)),okRk d m l=true->(∀p∈l,checkF p.cond d (fun _=>false)=0/\ m.lookup p.id≠some true)/\ l.Pairwise fun p q=>p.id≠q.id
 | [],m,_=>⟨fun p hp=>(by cases hp),.nil⟩
 | p::l,m,h=>by
  rw[okRk]at h
  split at h
  ·cases h
  ·next hn=>
   obtain⟨n1,n2⟩:=not_or.1 hn;obtain⟨h1,h2⟩:=okRk_iff d l _ h
   have hl:∀q∈l,m.lookup q.id≠some true/\ p.id≠q.id:=fun q hq=>by
    have:=(h1 q hq).2;rw[look_ins]at this;by_cases e:q.id=p.id
    ·rw[if_pos e]at this;exact absurd rfl this
    ·rw[if_neg e]at this;exact⟨this,fun e'=>e e'.symm⟩
   refine⟨fun q hq=>?_,List.pairwise_cons.2 ⟨fun q hq=>(hl q hq).2,h2⟩⟩;rcases List.mem_cons.1 hq with rfl | hq
   ·exact⟨by simpa using n2,n1⟩
   ·exact⟨(h1 q hq).1,(hl q hq).1⟩
structure ProperL (d : List Fa) (ps : List Pv) (n : Nat) : Prop where
 dom:validD d=true
 len:ps.length<=2000
 days:n=ps.length
 check:∀p∈ps,checkF p.cond d (fun _=>false)=0
 ids:ps.Pairwise fun p q=>p.id≠q.id
theorem proper_ok {d:List Fa}{ps:List Pv}{n:Nat}(h:properL d ps n=true):ProperL d ps n:=by
 unfold properL at h;simp only[Bool.and_eq_true,decide_eq_true_eq]at h;obtain⟨⟨⟨h1,h2⟩,h3⟩,h4⟩:=h;obtain⟨q1,q2⟩:=okRk_iff d ps [] h4;exact⟨h1,h2,h3,fun p hp=>(q1 p hp).1,q2⟩
def insideL (ps:List Pv)(a b:Int):Bool:=decide (0<=a)&& decide (a<ps.length)&& decide (0<=b)&& decide (b<ps.length)
def specialA (d:List Fa)(ps:List Pv)(ts:List Int)(a b:Int):Bool×Int:=
 if properL d ps ts.length=true/\ insideL ps a b=true then((specD d (condP ps) a.toNat b.toNat).1,(specD d (condP ps) a.toNat b.toNat).2.2)else(false,1)
def whyA (d:List Fa)(ps:List Pv)(ts:List Int)(a b:Int):Int×Int:=
 if properL d ps ts.length=true/\ insideL ps a b=true then whyD d (condP ps) (rankP ps) (timeP ts) a.toNat b.toNat else(0,1)
def beatsA (d:List Fa)(ps:List Pv)(ts:List Int)(a b:Int):Bool×Int:=(decide (0<(whyA d ps ts a b).1),(whyA d ps ts a b).2)
end
section
variable {d : List Fa} {ps : List Pv} {ts : List Int} {a b c : Int}
theorem whyA_in (h:(whyA d ps ts a b).2=0):(properL d ps ts.length=true/\ insideL ps a b=true)/\ whyA d ps ts a b=whyD d (condP ps) (rankP ps) (timeP ts) a.toNat b.toNat:=by
 unfold whyA at h⊢
 split at h
 ·next hp=>rw[if_pos hp];exact⟨hp,rfl⟩
 ·cases h
theorem beatsA_iff (h:(beatsA d ps ts a b).2=0):(beatsA d ps ts a b).1=true↔BeatD d (condP ps) (rankP ps) (timeP ts) a.toNat b.toNat:=by
 unfold beatsA at h⊢;obtain⟨_,e⟩:=whyA_in h;simp only[decide_eq_true_eq];rw[e]at h⊢;exact why_iff h
def beatF (d:List Fa)(ps:List Pv)(ts:List Int)(a b:Int):Bool:=(beatsA d ps ts a b).1&& ((beatsA d ps ts a b).2==0)
theorem beatF_iff :beatF d ps ts a b=true↔(beatsA d ps ts a b).2=0/\ BeatD d (condP ps) (rankP ps) (timeP ts) a.toNat b.toNat:=by
 unfold beatF;rw[Bool.and_eq_true,beq_iff_eq];constructor
 ·rintro⟨h1,h2⟩;exact⟨h2,(beatsA_iff h2).1 h1⟩
 ·rintro⟨h1,h2⟩;exact⟨(beatsA_iff h1).2 h2,h1⟩
theorem order_law (_:(beatsA d ps ts a b).2=0)(_:(beatsA d ps ts b c).2=0)(hg:(beatsA d ps ts a c).2=0)(hh:(beatsA d ps ts a a).2=0):
  (beatsA d ps ts a a).1=false/\ (beatF d ps ts a b&& beatF d ps ts b a)=false/\ (!beatF d ps ts a b || !beatF d ps ts b c || beatF d ps ts a c)=true:=by
 refine⟨?_,?_,?_⟩
 ·cases e:(beatsA d ps ts a a).1 with
  | false=>rfl
  | true=>exact absurd ((beatsA_iff hh).1 e) (beat_irr _)
 ·cases e:beatF d ps ts a b with
  | false=>rfl
  | true=>
   cases e2:beatF d ps ts b a with
   | false=>rfl
   | true=>exact absurd (beatF_iff.1 e2).2 (beat_asym (beatF_iff.1 e).2)
 ·cases e:beatF d ps ts a b with
  | false=>rfl
  | true=>
   cases e2:beatF d ps ts b c with
   | false=>rfl
   | true=>
    rw[beatF_iff.2 ⟨hg,beat_trans (beatF_iff.1 e).2 (beatF_iff.1 e2).2⟩];rfl
theorem higher_err (h:(whyA d ps ts a b).2≠0):(whyA d ps ts a b).1=0:=by
 unfold whyA at h⊢
 split at h
 ·next hp=>
  rw[if_pos hp];unfold whyD at h⊢
  split at h
  ·exact absurd rfl h
  ·next h1=>
   rw[if_neg h1]
   split at h
   ·exact absurd rfl h
   ·next h2=>
    rw[if_neg h2]
    split at h
    ·next h3=>
     exfalso
     split at h
     ·exact h rfl
     ·split at h<;>exact h rfl
    ·next h3=>rw[if_neg h3]
 ·next hp=>rw[if_neg hp]
theorem inside_why (h:insideL ps a b=false):whyA d ps ts a b=(0,1):=by unfold whyA;rw[if_neg (by rw[h];simp)]
theorem inside_swap :insideL ps a b=insideL ps b a:=by
 unfold insideL;cases decide (0<=a)<;>cases decide (a<(ps.length:Int))<;>cases decide (0<=b)<;>cases decide (b<(ps.length:Int))<;>rfl
theorem whyD_range {P:Nat->Fo}{R T:Nat->Int}(i j:Nat):0<=(whyD d P R T i j).1/\ (whyD d P R T i j).1<=3/\ ((whyD d P R T i j).1=1↔R i<R j)/\ (R j<R i->(whyD d P R T i j).1=0):=by
 unfold whyD;by_cases h1:R i<R j
 ·rw[if_pos h1];exact⟨by decide,by decide,⟨fun _=>h1,fun _=>rfl⟩,fun h=>by omega⟩
 ·rw[if_neg h1]
  by_cases h2:R j<R i
  ·rw[if_pos h2];exact⟨by decide,by decide,⟨fun h=>(by cases h),fun h=>absurd h h1⟩,fun _=>rfl⟩
  ·rw[if_neg h2]
   refine⟨?_,?_,⟨fun h=>?_,fun h=>absurd h h1⟩,fun h=>absurd h h2⟩
   ·split
    ·split
     ·decide
     ·split<;>decide
    ·exact Int.le_refl _
   ·split
    ·split
     ·decide
     ·split<;>decide
    ·show(0:Int)<=3;decide
   ·exfalso
    split at h
    ·split at h
     ·cases h
     ·split at h<;>cases h
    ·cases h
theorem higher_law (h:(whyA d ps ts a b).2=0)(h':(whyA d ps ts b a).2=0):
  (decide ((whyA d ps ts a b).1=1)==decide (rankP ps a.toNat<rankP ps b.toNat))=true/\ (decide ((whyA d ps ts b a).1=1)==decide (rankP ps b.toNat<rankP ps a.toNat))=true/\
  (rankP ps a.toNat=rankP ps b.toNat\/(whyA d ps ts a b).1+(whyA d ps ts b a).1=1)/\ 0<=(whyA d ps ts a b).1/\ (whyA d ps ts a b).1<=3:=by
 obtain⟨_,e⟩:=whyA_in h;obtain⟨_,e'⟩:=whyA_in h';rw[e,e'];obtain⟨p1,p2,p3,p4⟩:=whyD_range (d:=d) (P:=condP ps) (R:=rankP ps) (T:=timeP ts) a.toNat b.toNat;obtain⟨q1,q2,q3,q4⟩:=whyD_range (d:=d) (P:=condP ps) (R:=rankP ps) (T:=timeP ts) b.toNat a.toNat;refine⟨?_,?_,?_,p1,p2⟩
 ·rw[beq_iff_eq];exact decide_eq_decide.2 p3
 ·rw[beq_iff_eq];exact decide_eq_decide.2 q3
 ·rcases Int.lt_trichotomy (rankP ps a.toNat) (rankP ps b.toNat)with h | h | h
  ·right;rw[p3.2 h,q4 h];rfl
  ·exact .inl h
  ·right;rw[q3.2 h,p4 h];rfl
theorem special_err (h:(specialA d ps ts a b).2≠0):(specialA d ps ts a b).1=false:=by
 unfold specialA at h⊢
 split at h
 ·next hp=>
  rw[if_pos hp];unfold specD at h⊢
  split at h
  ·next h1=>
   split at h
   ·exact absurd rfl h
   ·next h2=>rw[if_pos h1,if_neg h2]
  ·next h1=>rw[if_neg h1]
 ·next hp=>rw[if_neg hp]
theorem special_in (h:(specialA d ps ts a b).2=0):(properL d ps ts.length=true/\ insideL ps a b=true)/\ ((specialA d ps ts a b).1=true↔SubD d (condP ps a.toNat) (condP ps b.toNat)/\ ¬SubD d (condP ps b.toNat) (condP ps a.toNat)):=by
 unfold specialA at h⊢
 split at h
 ·next hp=>
  rw[if_pos hp];exact⟨hp,(spec_iff h).1⟩
 ·cases h
end
section
section
variable {nf : Nat} {lo hi : Nat -> Int} {σ κ : Type} [BEq κ] [LawfulBEq κ]
theorem growL_cap {F:σ->(Nat->Int)->Bool}{con:σ->Option Bool}{S:Nat->σ->List Int}{giv:Nat->σ->Int->σ}{key:Nat->σ->κ}{R:Nat->σ->Prop}{L:Nat}
    (hcap:∀m dn,InvG nf lo hi F key R m dn->m.length<=L)
    (hcon:∀i s bl,R i s->con s=some bl->∀c,fitsC nf lo hi c->F s c=bl) (hend:∀s,R nf s->con s≠none) (hRi:∀i s,R i s->i<=nf)
    (hkey:∀i s i' s',R i s->R i' s'->key i s=key i' s'->i=i'/\ ∀c,fitsC nf lo hi c->F s c=F s' c)
    (hRg:∀i s v,R i s->con s=none->i<nf->v∈S i s->R (i+1) (giv i s v))
    (hS:∀i s,R i s->con s=none->i<nf->∃ss,S i s=lo i::ss/\ chainI (hi i) (lo i) ss/\ ∀c,fitsC nf lo hi c->F s c=F (giv i s ((lo i::ss).getD (nextI ss (c i)) 0)) c):
    ∀(f:Nat) (m:List Dn) (dn:List (κ×Nat)) (i:Nat) (s:σ),InvG nf lo hi F key R m dn->R i s->nf-i<f->
    growL nf con S giv key L f false m dn i s=(((growD nf con S giv key L f m dn i s).1,false),(growD nf con S giv key L f m dn i s).2):=by
  intro f
  induction f with
  | zero=>intro m dn i s _ _ h;omega
  | succ f ih=>
    intro m dn i s hI hR hf;unfold growL growD;cases hc:con s with
    | some bl=>rfl
    | none=>
      dsimp only
      have hL:=hcap m dn hI;have hin:=hRi i s hR
      have hi':i<nf:=by
        rcases Nat.lt_or_ge i nf with h | h
        . exact h
        . have:i=nf:=by omega
          subst this;exact absurd hc (hend s hR)
      have h0:decide (L<m.length)=false:=by simpa using hL
      rw[h0,if_neg (by simp;omega),if_neg (by omega)];cases hlk:dn.lookup (key i s)with
      | some k=>rfl
      | none=>
        dsimp only
        have key2:∀(l:List Int),(∀v∈l,v∈S i s)->∀(st:(List Dn×List (κ×Nat))×List Int),InvG nf lo hi F key R st.1.1 st.1.2->
            l.foldl (stepL nf con S giv key L f i s) ((st.1,false),st.2)=
              (((l.foldl (fun(st:(List Dn×List (κ×Nat))×List Int) v=>
                let r:=growD nf con S giv key L f st.1.1 st.1.2 (i+1) (giv i s v)
                (r.1,st.2++[(r.2:Int)])) st).1,false),(l.foldl (fun(st:(List Dn×List (κ×Nat))×List Int) v=>
                let r:=growD nf con S giv key L f st.1.1 st.1.2 (i+1) (giv i s v)
                (r.1,st.2++[(r.2:Int)])) st).2):=by
          intro l
          induction l with
          | nil=>intro _ st _;rfl
          | cons v l ihl=>
            intro hl st h1;have hRv:=hRg i s v hR hc hi' (hl v (List.mem_cons_self ..));have q:=ih st.1.1 st.1.2 (i+1) (giv i s v) h1 hRv (by omega);have g:=grow_ok hcap hcon hend hRi hkey hRg hS f st.1.1 st.1.2 (i+1) (giv i s v) h1 hRv (by omega);rw[List.foldl_cons,List.foldl_cons]
            have e:stepL nf con S giv key L f i s ((st.1,false),st.2) v=(((growD nf con S giv key L f st.1.1 st.1.2 (i+1) (giv i s v)).1,false),st.2++[((growD nf con S giv key L f st.1.1 st.1.2 (i+1) (giv i s v)).2:Int)]):=by
              unfold stepL;dsimp only;rw[q]
            rw[e];exact ihl (fun w hw=>hl w (List.mem_cons_of_mem _ hw)) ((growD nf con S giv key L f st.1.1 st.1.2 (i+1) (giv i s v)).1,st.2++[((growD nf con S giv key L f st.1.1 st.1.2 (i+1) (giv i s v)).2:Int)]) g.1
        have q:=key2 (S i s) (fun _ h=>h) ((m,dn),[]) hI;have e1:(fun(st:((List Dn×List (κ×Nat))×Bool)×List Int) v=>((growL nf con S giv key L f st.1.2 st.1.1.1 st.1.1.2 (i+1) (giv i s v)).1,st.2++[((growL nf con S giv key L f st.1.2 st.1.1.1 st.1.1.2 (i+1) (giv i s v)).2:Int)]))=stepL nf con S giv key L f i s:=rfl;rw[e1,q]
end
variable {d : List Fa}
theorem buildX_built {f:Fo}(hv:validD d=true)(hc:checkF f d (fun _=>false)=0)(hb:BuiltB d f):buildX d f=buildD d f:=by
 have hd:=dom_ok hv;have hw:=wf_check hc
 have q:=growL_cap (nf:=d.length) (lo:=flo d) (hi:=fhi d) (L:=20000) (con:=conF) (S:=stD d) (giv:=givD d) (key:=keyD) (R:=ResF d f) (F:=fun s c=>valC d c s) hb.cap
  (fun i s bl hr hc c _=>con_val hr.wf hc c) (fun s hr=>res_end hr) (fun i s hr=>hr.le)
  (fun i s i' s' hr hr' he=>by
   obtain⟨e1,e2⟩:=keyD_inj (wf_sp d _ s (Nat.le_refl _) hr.wf) (wf_sp d _ s' (Nat.le_refl _) hr'.wf) he
   exact⟨e1,fun c _=>by rw[e2]⟩)
  (fun i s v hr _ hi hv=>res_giv hd hr hi hv) (fun i s hr _ hi=>res_start hd hr hi) (d.length+1) [] [] 0 (givF nilB 0 f) (inv_start f) (res_first hw) (by omega)
 have hr:rootL d f=(((rootB d f).1,false),(rootB d f).2):=q;have hl:=hb.cap _ _ hb.inv
 have ho:(orderL d f).length<=20000:=by
  unfold orderL;rw[hr];have g:=hb.inv.made.good (dom_le hd);obtain⟨ho,u,hu⟩:=visit_order g.table hb.root.lt (f:=d.length+1) (by omega);have:=List.Nodup.length_le_of_subset ho.nodup (l₂:=List.range (rootB d f).1.1.length) (fun y hy=>List.mem_range.2 (ho.inside y hy));rw[List.length_range]at this;exact Nat.le_trans this hl
 unfold buildX buildD;rw[hr];have e:orderL d f=visitD (rootB d f).1.1 (d.length+1) [] (rootB d f).2:=by unfold orderL;rw[hr]
 rw[if_neg (show ¬(false=true\/20000<(orderL d f).length) by simp;omega),e]
 rfl
end
section
section
variable {nf : Nat} {σ κ : Type}
def MemR (key:Nat->σ->κ)(φ:σ->σ)(R:Nat->σ->Prop)(dn dn':List (κ×Nat)):Prop:=
 ∃l:List ((Nat×σ)×Nat),(∀x∈l,R x.1.1 x.1.2)/\ dn=l.map (fun x=>(key x.1.1 x.1.2,x.2))/\ dn'=l.map (fun x=>(key x.1.1 (φ x.1.2),x.2))
theorem memR_nil (key:Nat->σ->κ)(φ:σ->σ)(R:Nat->σ->Prop):MemR key φ R [] []:=⟨[],fun _ h=>(by cases h),rfl,rfl⟩
theorem memR_cons {key:Nat->σ->κ}{φ:σ->σ}{R:Nat->σ->Prop}{dn dn':List (κ×Nat)}(h:MemR key φ R dn dn'){i:Nat}{s:σ}(hR:R i s)(n:Nat):MemR key φ R ((key i s,n)::dn) ((key i (φ s),n)::dn'):=by
 obtain⟨l,h1,rfl,rfl⟩:=h;exact⟨((i,s),n)::l,fun x hx=>(List.mem_cons.1 hx).elim (fun e=>by rw[e];exact hR) (h1 x),rfl,rfl⟩
variable [BEq κ] [LawfulBEq κ]
theorem memR_look {key:Nat->σ->κ}{φ:σ->σ}{R:Nat->σ->Prop}(hk:∀i s i' s',R i s->R i' s'->(key i (φ s)=key i' (φ s')↔key i s=key i' s')){i:Nat}{s:σ}(hR:R i s):
  ∀ {dn dn':List (κ×Nat)},MemR key φ R dn dn'->dn'.lookup (key i (φ s))=dn.lookup (key i s):=by
 rintro dn dn' ⟨l,h1,rfl,rfl⟩
 induction l with
 | nil=>rfl
 | cons x l ih=>
  have ih:=ih (fun y hy=>h1 y (List.mem_cons_of_mem _ hy));have hx:=h1 x (List.mem_cons_self ..);rw[List.map_cons,List.map_cons,List.lookup_cons,List.lookup_cons,ih];by_cases e:key i s=key x.1.1 x.1.2
  ·rw[(hk _ _ _ _ hR hx).2 e,e];simp
  ·have e1:(key i s==key x.1.1 x.1.2)=false:=by simpa using e
   have e2:(key i (φ s)==key x.1.1 (φ x.1.2))=false:=by simpa using fun h=>e ((hk _ _ _ _ hR hx).1 h)
   rw[e1,e2]
theorem growL_sim {con:σ->Option Bool}{S:Nat->σ->List Int}{giv:Nat->σ->Int->σ}{key:Nat->σ->κ}{L:Nat}{φ:σ->σ}{R:Nat->σ->Prop}
  (hc:∀s,con (φ s)=con s) (hS:∀i s,R i s->con s=none->S i (φ s)=S i s) (hg:∀i s v,R i s->con s=none->i<nf->giv i (φ s) v=φ (giv i s v))
  (hRi:∀i s,R i s->i<=nf) (hRg:∀i s v,R i s->con s=none->i<nf->v∈S i s->R (i+1) (giv i s v)) (hk:∀i s i' s',R i s->R i' s'->(key i (φ s)=key i' (φ s')↔key i s=key i' s')):
  ∀(f:Nat) (fu:Bool) (m:List Dn) (dn dn':List (κ×Nat)) (i:Nat) (s:σ),R i s->MemR key φ R dn dn'->
  (growL nf con S giv key L f fu m dn' i (φ s)).1.1.1=(growL nf con S giv key L f fu m dn i s).1.1.1/\ (growL nf con S giv key L f fu m dn' i (φ s)).1.2=(growL nf con S giv key L f fu m dn i s).1.2/\
  (growL nf con S giv key L f fu m dn' i (φ s)).2=(growL nf con S giv key L f fu m dn i s).2/\ MemR key φ R (growL nf con S giv key L f fu m dn i s).1.1.2 (growL nf con S giv key L f fu m dn' i (φ s)).1.1.2:=by
 intro f
 induction f with
 | zero=>intro fu m dn dn' i s _ h;exact⟨rfl,rfl,rfl,h⟩
 | succ f ih=>
  intro fu m dn dn' i s hR hM;unfold growL;rw[hc s];cases hcs:con s with
  | some bl=>exact⟨rfl,rfl,rfl,hM⟩
  | none=>
   dsimp only
   by_cases hfu:(fu || decide (L<m.length))=true\/i=nf
   ·rw[if_pos hfu,if_pos hfu];exact⟨rfl,rfl,rfl,hM⟩
   ·rw[if_neg hfu,if_neg hfu,memR_look hk hR hM]
    cases hlk:dn.lookup (key i s)with
    | some k=>exact⟨rfl,rfl,rfl,hM⟩
    | none=>
     dsimp only
     have hi:i<nf:=by
      have:=hRi i s hR;rcases Nat.lt_or_ge i nf with h | h
      ·exact h
      ·exact absurd (.inr (by omega)) hfu
     rw[hS i s hR hcs]
     have key2:∀(l:List Int),(∀v∈l,v∈S i s)->∀(st st':((List Dn×List (κ×Nat))×Bool)×List Int),st'.1.1.1=st.1.1.1->st'.1.2=st.1.2->st'.2=st.2->MemR key φ R st.1.1.2 st'.1.1.2->
       (l.foldl (stepL nf con S giv key L f i (φ s)) st').1.1.1=(l.foldl (stepL nf con S giv key L f i s) st).1.1.1/\ (l.foldl (stepL nf con S giv key L f i (φ s)) st').1.2=(l.foldl (stepL nf con S giv key L f i s) st).1.2/\
       (l.foldl (stepL nf con S giv key L f i (φ s)) st').2=(l.foldl (stepL nf con S giv key L f i s) st).2/\ MemR key φ R (l.foldl (stepL nf con S giv key L f i s) st).1.1.2 (l.foldl (stepL nf con S giv key L f i (φ s)) st').1.1.2:=by
      intro l
      induction l with
      | nil=>intro _ st st' h1 h2 h3 h4;exact⟨h1,h2,h3,h4⟩
      | cons v l ihl=>
       intro hl st st' h1 h2 h3 h4;have q:=ih st.1.2 st.1.1.1 st.1.1.2 st'.1.1.2 (i+1) (giv i s v) (hRg i s v hR hcs hi (hl v (List.mem_cons_self ..))) h4;rw[List.foldl_cons,List.foldl_cons];refine ihl (fun w hw=>hl w (List.mem_cons_of_mem _ hw)) _ _ ?_ ?_ ?_ ?_
       ·show(growL nf con S giv key L f st'.1.2 st'.1.1.1 st'.1.1.2 (i+1) (giv i (φ s) v)).1.1.1=_
        rw[h1,h2,hg i s v hR hcs hi];exact q.1
       ·show(growL nf con S giv key L f st'.1.2 st'.1.1.1 st'.1.1.2 (i+1) (giv i (φ s) v)).1.2=_
        rw[h1,h2,hg i s v hR hcs hi];exact q.2.1
       ·show st'.2++[((growL nf con S giv key L f st'.1.2 st'.1.1.1 st'.1.1.2 (i+1) (giv i (φ s) v)).2:Int)]=_
        rw[h1,h2,h3,hg i s v hR hcs hi,q.2.2.1];rfl
       ·show MemR key φ R _ (growL nf con S giv key L f st'.1.2 st'.1.1.1 st'.1.1.2 (i+1) (giv i (φ s) v)).1.1.2
        rw[h1,h2,hg i s v hR hcs hi];exact q.2.2.2
     have hk2:=key2 (S i s) (fun _ h=>h) (((m,dn),false),[]) (((m,dn'),false),[]) rfl rfl rfl hM;have e1:(fun(st:((List Dn×List (κ×Nat))×Bool)×List Int) v=>((growL nf con S giv key L f st.1.2 st.1.1.1 st.1.1.2 (i+1) (giv i s v)).1,st.2++[((growL nf con S giv key L f st.1.2 st.1.1.1 st.1.1.2 (i+1) (giv i s v)).2:Int)]))=stepL nf con S giv key L f i s:=rfl;have e2:(fun(st:((List Dn×List (κ×Nat))×Bool)×List Int) v=>((growL nf con S giv key L f st.1.2 st.1.1.1 st.1.1.2 (i+1) (giv i (φ s) v)).1,st.2++[((growL nf con S giv key L f st.1.2 st.1.1.1 st.1.1.2 (i+1) (giv i (φ s) v)).2:Int)]))=stepL nf con S giv key L f i (φ s):=rfl;rw[e1,e2];revert hk2;generalize List.foldl (stepL nf con S giv key L f i s) (((m,dn),false),[]) (S i s)=r;generalize List.foldl (stepL nf con S giv key L f i (φ s)) (((m,dn'),false),[]) (S i s)=r';rintro⟨k1,k2,k3,k4⟩;refine⟨by rw[k1,k3],k2,by rw[k1,k3],?_⟩;rw[k1,k3];exact memR_cons k4 hR _
end
variable {d : List Fa}
def nnF (f:Fo):Fo:=.mk 5 nilB 0 0 [.mk 5 nilB 0 0 [f]]
def phiF (f:Fo):Fo:=notF (notF f)
theorem phi_con (f:Fo):conF (phiF f)=conF f:=by
 unfold phiF;cases hc:conF f with
 | some b=>unfold notF;rw[hc];simp[con_known]
 | none=>
  have e:notF f=.mk 5 nilB 0 0 [f]:=by unfold notF;rw[hc]
  rw[e];rfl
theorem phi_non {f:Fo}(hc:conF f=none):phiF f=nnF f:=by
 unfold phiF;have e:notF f=.mk 5 nilB 0 0 [f]:=by unfold notF;rw[hc]
 rw[e];rfl
theorem nn_giv (nm:ByteArray)(v:Int)(f:Fo):givF nm v (nnF f)=phiF (givF nm v f):=by
 unfold nnF phiF;rw[givF,if_neg (by decide),if_pos rfl,givL,givL,givF,if_neg (by decide),if_pos rfl,givL,givL]
 rfl
theorem nn_wf {f:Fo}(h:WfF d f):WfF d (nnF f):=by
 have h1:WfF d (.mk 5 nilB 0 0 [f]):=by rw[WfF];exact .inr (.inr ⟨.inl ⟨rfl,rfl⟩,rfl,rfl,rfl,by rw[WfL,WfL];exact⟨h,trivial⟩⟩)
 unfold nnF;rw[WfF];exact .inr (.inr ⟨.inl ⟨rfl,rfl⟩,rfl,rfl,rfl,by rw[WfL,WfL];exact⟨h1,trivial⟩⟩)
theorem phi_wf {f:Fo}(h:WfF d f):WfF d (phiF f):=by
 cases hc:conF f with
 | none=>rw[phi_non hc];exact nn_wf h
 | some b=>
  have:=wf_con h hc;subst this;unfold phiF notF;rw[con_known];dsimp only;rw[con_known];dsimp only;rw[Bool.not_not];exact h
theorem phi_same {f:Fo}(h:WfF d f){b:Bool}(hc:conF f=some b):phiF f=f:=by
 have:=wf_con h hc;subst this;unfold phiF notF;rw[con_known];dsimp only;rw[con_known];dsimp only;rw[Bool.not_not]
theorem nn_tests (f:Fo):testsF (nnF f)=testsF f:=by
 unfold nnF;rw[testsF,testsL,testsL,testsF,testsL,testsL];simp
theorem nn_inj {f g:Fo}:nnF f=nnF g↔f=g:=by
 constructor
 ·intro h;unfold nnF at h;simpa using h
 ·rintro rfl;rfl
theorem phi_inj {f g:Fo}(hf:WfF d f)(hg:WfF d g):phiF f=phiF g↔f=g:=by
 constructor
 ·intro h
  have hc:conF f=conF g:=by rw[<-phi_con f, <-phi_con g,h]
  cases e:conF f with
  | none=>rw[phi_non e,phi_non (hc▸e),nn_inj]at h;exact h
  | some b=>rw[phi_same hf e,phi_same hg (hc▸e)]at h;exact h
 ·rintro rfl;rfl
theorem st_nn (i:Nat)(f:Fo):stD d i (nnF f)=stD d i f:=by unfold stD startsD numsF;rw[nn_tests]
theorem root_nn (hd:DomOk d){f:Fo}(hw:WfF d f):(rootL d (nnF f)).1.1.1=(rootL d f).1.1.1/\ (rootL d (nnF f)).1.2=(rootL d f).1.2/\ (rootL d (nnF f)).2=(rootL d f).2:=by
 have q:=growL_sim (nf:=d.length) (con:=conF) (S:=stD d) (giv:=givD d) (key:=keyD) (L:=20000) (φ:=phiF) (R:=ResF d f) phi_con
  (fun i s _ hc=>by rw[phi_non hc,st_nn]) (fun i s v _ hc _=>by rw[phi_non hc];exact nn_giv _ _ _) (fun i s hr=>hr.le) (fun i s v hr _ hi hv=>res_giv hd hr hi hv)
  (fun i s i' s' hr hr'=>by
   have sp:∀ {s:Fo},WfF d s->SpOk s:=fun h=>wf_sp d _ _ (Nat.le_refl _) h
   constructor
   ·intro h
    obtain⟨e1,e2⟩:=keyD_inj (sp (phi_wf hr.wf)) (sp (phi_wf hr'.wf)) h
    rw[e1,(phi_inj hr.wf hr'.wf).1 e2]
   ·intro h
    obtain⟨e1,e2⟩:=keyD_inj (sp hr.wf) (sp hr'.wf) h
    rw[e1,e2]) (d.length+1) false [] [] [] 0 (givF nilB 0 f) (res_first hw) (memR_nil _ _ _)
 unfold rootL growLF;rw[nn_giv];exact⟨q.1,q.2.1,q.2.2.1⟩
theorem build_nn {f:Fo}(h:checkF f d (fun _=>false)=0)(h2:checkF (nnF f) d (fun _=>false)=0):buildX d (nnF f)=buildX d f:=by
 unfold buildX;rw[h,h2];by_cases hv:validD d=false\/(0:Int)≠0
 ·rw[if_pos hv,if_pos hv]
 ·rw[if_neg hv,if_neg hv]
  have hv:validD d=true:=by cases e:validD d with | true=>rfl | false=>exact absurd (.inl e) hv
  have ht:tstF (nnF f) []=tstF f []:=by
   unfold nnF;simp[tstF,tstL]
  obtain⟨q1,q2,q3⟩:=root_nn (dom_ok hv) (wf_check h);rw[ht];unfold orderL;rw[q1,q2,q3]
end
end Go.Proofs.YtmafmhlfjficmaaGreatDoor
