/- How the matrix of the reference's And lies in memory. No program is walked. -/
import Derived.Test.YtejbgoigkefnfaaGreatDoorAl
import Derived.Test.YtejbgoigkefnfaaGreatDoorDgAW
import Derived.Test.YtejbgoigkefnfaaGreatDoorRfB
namespace Go.Proofs.YtejbgoigkefnfaaGreatDoor
def pt (a b:List Dn)(x y:Nat):Prop:=x<a.length/\ y<b.length
abbrev xI (d:List Fa)(a b:List Dn)(m:List Dn)(dn:pe):Prop:=Wx d.length (Pe d) (Mh d) a b (ug d a) (ug d b) (pt a b) m dn
section
variable {d : List Fa} {a b : List Dn}
theorem Uo (va:te d a)(hf:a.length*b.length<=19998){m:List Dn}{dn:pe}(h:xI d a b m dn):m.length<=20000:=by
 have:=VA h va.dh.dom (fun _ _ h=>h);omega
theorem bz (va:te d a)(vb:te d b){x y:Nat}(v:Int)(h:pt a b x y)(hi':Pb d.length a b x y<d.length):pt a b (Rc a x (Pb d.length a b x y) v) (Rc b y (Pb d.length a b x y) v)/\ Pb d.length a b x y<Pb d.length a b (Rc a x (Pb d.length a b x y) v) (Rc b y (Pb d.length a b x y) v):=by
 have s1:=Ji va.dh h.1 hi' (Uc _ _) v;have s2:=Ji vb.dh h.2 hi' (ff _ _) v;refine⟨⟨s1.1,s2.1⟩,?_⟩
 show _<min _ _
 omega
theorem ez (va:te d a)(vb:te d b)(hf:a.length*b.length<=19998)(f:Nat){m:List Dn}{dn:pe}{x y:Nat}(hI:xI d a b m dn)(hx:pt a b x y)(Tu:d.length-Pb d.length a b x y<f):
  xI d a b (bh d a b f m dn x y).1.1 (bh d a b f m dn x y).1.2/\ Fj d.length (Pe d) (Mh d) a b (ug d a) (ug d b) (bh d a b f m dn x y).1.1 x y (bh d a b f m dn x y).2/\ ∃u,(bh d a b f m dn x y).1.1=m++u:=
 BJ va.dh vb.dh (R:=pt a b) (S:=sJ d.length (Pe d) a b) (L:=20000) (fun _ _ h=>Uo va hf h) (fun _ _ h=>h) (fun _ _ v h hi' _=>(bz va vb v h hi').1) (fun _ _ h hi'=>JA va.dh vb.dh h.1 h.2 hi') f m dn x y hI hx Tu
structure FoR (d : List Fa) (a b : List Dn) (m : List Dn) (r : (List Dn × pe) × List Int) : Prop where
 inv:xI d a b r.1.1 r.1.2
 grow:∃u,r.1.1=m++u
 ge:∀k∈r.2,0<=k
theorem CQ (va:te d a)(vb:te d b)(hf:a.length*b.length<=19998){f:Nat}{m:List Dn}{x y:Nat}(hx:pt a b x y)(hi':Pb d.length a b x y<d.length)(Tu:d.length-Pb d.length a b x y<f+1){r:(List Dn×pe)×List Int}(h:FoR d a b m r)(v:Int):
  FoR d a b m (Sv d.length a b (sJ d.length (Pe d) a b) 20000 f x y r v):=by
 obtain⟨s1,s2⟩:=bz va vb v hx hi'
 obtain⟨q1,q2,u,q3⟩:=ez va vb hf f h.inv s1 (by
  have:Pb d.length a b (Rc a x (Pb d.length a b x y) v) (Rc b y (Pb d.length a b x y) v)<=d.length:=Wa (Uc _ _) (ig va.dh.table s1.1)
  omega)
 obtain⟨u0,q4⟩:=h.grow;refine⟨q1,⟨u0++u,?_⟩,fun k hk=>?_⟩
 ·show(bh d a b f r.1.1 r.1.2 _ _).1.1=_
  rw[q3,q4,Ua]
 {(rcases List.mem_append.1 hk with hk | hk);{exact h.ge k hk};{rw[List.mem_singleton.1 hk];exact Ab _}}
theorem WJ (va:te d a)(vb:te d b)(hf:a.length*b.length<=19998){f:Nat}{m:List Dn}{dn:pe}{x y:Nat}(hI:xI d a b m dn)(hx:pt a b x y)(hi':Pb d.length a b x y<d.length)(Tu:d.length-Pb d.length a b x y<f+1)(l:List Int):∀j,j<=l.length->FoR d a b m (Rk d a b f m dn x y (l.take j))/\ (Rk d a b f m dn x y (l.take j)).2.length=j
 | 0,_=>⟨⟨hI,⟨[],by simp[Rk]⟩,by simp[Rk]⟩,rfl⟩
 | j+1,h=>by{obtain⟨h1,h2⟩:=WJ va vb hf hI hx hi' Tu l j ia;rw[Qs l j h];exact⟨CQ va vb hf hx hi' Tu h1 _,by show(_++[_]).length=_;rw[Ea,h2];rfl⟩}
def SB (a b:List Dn)(x y:Nat):Dn:=⟨0,[],[],(a.getD x default).leaf&& (b.getD y default).leaf⟩
def Jk (nf:Nat)(a b:List Dn)(m:List Dn)(dn:pe)(M:List (List Int)):Prop:=
 ∀x y,x<a.length->y<b.length->((M.getD x []).getD y 0=0/\ dn.lookup (x,y)=none)\/
  ∃k:Nat,(M.getD x []).getD y 0=(k:Int)+1/\ k<m.length/\ (dn.lookup (x,y)=some k\/(Pb nf a b x y=nf/\ dn.lookup (x,y)=none/\ m.getD k default=SB a b x y))
def Yn (na nb:Nat)(M:List (List Int)):Prop:=M.length=na/\ ∀r∈M,r.length=nb
def qt (M:List (List Int))(x y:Nat)(v:Int):List (List Int):=M.set x ((M.getD x []).set y v)
theorem LL {na nb:Nat}{M:List (List Int)}(h:Yn na nb M)(x y:Nat)(v:Int)(hx:x<na):Yn na nb (qt M x y v):=by
 refine⟨by unfold qt;rw[vf];exact h.1,fun r hr=>?_⟩;unfold qt at hr;rcases List.mem_or_eq_of_mem_set hr with hr | hr
 {exact h.2 r hr}
 {rw[hr,vf];(have hl:x<M.length:=by rw[h.1];exact hx);rw[Ra,Pa hl];exact h.2 _ (Ga hl)}
theorem lK {na nb:Nat}{M:List (List Int)}(h:Yn na nb M){x y:Nat}{v:Int}(hx:x<na)(hy:y<nb)(i j:Nat):((qt M x y v).getD i []).getD j 0=if i=x/\ j=y then v else(M.getD i []).getD j 0:=by
 have hl:x<M.length:=by rw[h.1];exact hx
 have hr:(M.getD x []).length=nb:=by{rw[Ra,Pa hl];exact h.2 _ (Ga hl)}
 unfold qt;by_cases hi:i=x
 ·subst hi
  rw[Ra (l:=M.set i _),Ed hl]
  show((M.getD i []).set y v).getD j 0=_
  by_cases hj:j=y
  {subst hj;rw[Ra,Ed (by rw[hr];exact hy),if_pos ⟨rfl,rfl⟩];rfl}
  {rw[Ra,Cb (fun e=>hj e.symm), <-Ra,Aa (fun h=>hj h.2)]}
 {rw[Ra (l:=M.set x _),Cb (fun e=>hi e.symm), <-Ra,Aa (fun h=>hi h.1)]}
theorem Jk.more {nf:Nat}{m:List Dn}{dn:pe}{M:List (List Int)}(h:Jk nf a b m dn M)(u:List Dn):Jk nf a b (m++u) dn M:=fun x y hx hy=>by
 rcases h x y hx hy with h | ⟨k,h1,h2,h3⟩
 {exact .inl h}
 {refine .inr ⟨k,h1,by rw[Ea];omega,h3.imp id fun⟨a1,a2,a3⟩=>⟨a1,a2,by rw[Hr h2];exact a3⟩⟩}
theorem FL {m:List Dn}{dn:pe}{M:List (List Int)}(hI:xI d a b m dn)(h:Jk d.length a b m dn M){x y:Nat}(hx:pt a b x y)(hM:0<(M.getD x []).getD y 0)(f:Nat):
  bh d a b (f+1) m dn x y=((m,dn),((M.getD x []).getD y 0-1).toNat):=by
 rcases h x y hx.1 hx.2 with h | ⟨k,h1,h2,h3⟩
 {omega}
 {rw[h1,show((k:Int)+1-1).toNat=k by omega];(rcases h3 with h3 | ⟨a1,a2,a3⟩);{unfold bh ui;rw[h3]};{rw[Dq a2 (.inl a1)];have hin:(⟨0,[],[],(a.getD x default).leaf&& (b.getD y default).leaf⟩:Dn)∈m:=by{have:m.getD k default=_:=a3;rw[Eb _ _ _ h2]at this;unfold SB at this;rw[<-this];exact Ga h2};have OO:Md m (⟨0,[],[],(a.getD x default).leaf&& (b.getD y default).leaf⟩:Dn)=(m,k):=by{unfold Md;rw[if_pos hin];congr 1;have e:m[k]=(⟨0,[],[],(a.getD x default).leaf&& (b.getD y default).leaf⟩:Dn):=by{rw[Eb _ _ _ h2]at a3;exact a3};rw[<-e];exact hI.made.nodup.idxOf_getElem k h2};rw[OO]}}
theorem zI {nf:Nat}{m:List Dn}{dn:pe}{M:List (List Int)}(h:Jk nf a b m dn M){x y:Nat}(hx:pt a b x y)(hM:¬0<(M.getD x []).getD y 0):dn.lookup (x,y)=none:=by
 rcases h x y hx.1 hx.2 with h | ⟨k,h1,_⟩
 {exact h.2}
 {omega}
theorem yI {nf:Nat}{m2:List Dn}{dn:pe}{M:List (List Int)}(h:Jk nf a b m2 dn M)(hF:Yn a.length b.length M){x y k:Nat}(hx:pt a b x y)(hk:dn.lookup (x,y)=none)(hr:Pb nf a b x y=nf)(hm2:k<m2.length)(hn:m2.getD k default=SB a b x y):
  Jk nf a b m2 dn (qt M x y ((k:Int)+1)):=fun i j hi hj=>by
 rw[lK hF hx.1 hx.2];by_cases e:i=x/\ j=y
 {rw[if_pos e];obtain⟨rfl,rfl⟩:=e;exact .inr ⟨k,rfl,hm2,.inr ⟨hr,hk,hn⟩⟩}
 {rw[Aa e];exact h i j hi hj}
theorem MF {nf:Nat}{m2:List Dn}{dn:pe}{M:List (List Int)}(h:Jk nf a b m2 dn M)(hF:Yn a.length b.length M){x y k:Nat}(hx:pt a b x y)(hm2:k<m2.length):
  Jk nf a b m2 (((x,y),k)::dn) (qt M x y ((k:Int)+1)):=fun i j hi hj=>by
 rw[lK hF hx.1 hx.2];by_cases e:i=x/\ j=y
 {rw[if_pos e];obtain⟨rfl,rfl⟩:=e;exact .inr ⟨k,rfl,hm2,.inl la⟩}
 {rw[Aa e];have hl:(((x,y),k)::dn).lookup (i,j)=dn.lookup (i,j):=by{rw[Db];have:((i,j)==(x,y))=false:=by{rw[beq_eq_false_iff_ne];intro q;exact e ⟨(Prod.mk.inj q).1,(Prod.mk.inj q).2⟩};rw[this]};rw[hl];exact h i j hi hj}
theorem fD (m:List Dn)(n:Dn):(Md m n).2<(Md m n).1.length/\ (Md m n).1.getD (Md m n).2 default=n/\ ∃u,(Md m n).1=m++u:=by
 unfold Md;by_cases h:n∈m
 {rw[if_pos h];have hl:=Ub h;refine⟨hl,?_,[],la⟩;rw[Eb _ _ _ hl];exact Dd hl}
 {rw[Aa h];exact⟨la,pd ..,[n],rfl⟩}
def Eg (l Ja:List Int):List Int:=Ja.foldl (fun l c=>Uh l c c c) l
theorem Tz :∀(Ja l:List Int),l.Pairwise (· < ·)->(Eg l Ja).Pairwise (· < ·)/\ ∀x,x∈Eg l Ja↔x∈l\/x∈Ja
 | [],l,h=>⟨h,fun x=>by simp[Eg]⟩
 | c::cs,l,h=>by{obtain⟨h1,h2⟩:=cD c c c h;obtain⟨h3,h4⟩:=Tz cs (Uh l c c c) h1;refine⟨h3,fun x=>?_⟩;show x∈Eg (Uh l c c c) cs↔_;rw[h4 x,h2 x,He];constructor;{rintro((h | h) | h);{exact .inl h};{exact .inr (.inl h.1)};{exact .inr (.inr h)}};{rintro(h | h | h);{exact .inl (.inl h)};{exact .inl (.inr ⟨h,Jc _,Jc _⟩)};{exact .inr h}}}
theorem Zy (l Ja:List Int)(k:Nat)(h:k<Ja.length):Eg l (Ja.take (k+1))=Uh (Eg l (Ja.take k)) Ja[k] Ja[k] Ja[k]:=by
 unfold Eg;rw[Ka h,Od];rfl
theorem Vm :∀(Ja l:List Int),(Eg l Ja).length<=l.length+Ja.length/\ (l≠[]->Eg l Ja≠[])
 | [],l=>⟨by simp[Eg],id⟩
 | c::cs,l=>by
  have h1:=Xq l c c c;obtain⟨h2,h3⟩:=Vm cs (Uh l c c c);refine⟨?_,fun h=>?_⟩
  ·show(Eg (Uh l c c c) cs).length<=_
   rw[ib];omega
  {show Eg (Uh l c c c) cs≠[];exact h3 (List.length_pos_iff.1 (by have:=List.length_pos_iff.2 h;omega))}
abbrev asks (n:Dn)(i:Nat):Prop:=n.kids≠[]/\ n.fact=(i:Int)
theorem uC {d:List Fa}{lo hi:Nat->Int}{len:Nat}{rk:Nat->Nat}{n:Dn}(h:Ap d.length lo hi len rk n){i:Nat}(hi':i<d.length):asks n i↔Fb d.length n=i:=by
 unfold Fb;by_cases hk:n.kids=[]
 {rw[if_pos hk];exact⟨fun h=>absurd hk h.1,fun h=>ia⟩}
 {rw[Aa hk];have:=(h.inner hk).2.1;exact⟨fun h=>ia,fun h=>⟨hk,ia⟩⟩}
theorem Ax {n:Dn}{i:Nat}(h:decide (n.kids=[])=true):decide (asks n i)=false:=Ia fun h2=>h2.1 (Fc h)
theorem wu {n:Dn}{i:Nat}(h:decide (n.kids=[])=false):(n.fact==(i:Int))=decide (asks n i):=by
 rw[Nc,Ad,decide_eq_true_iff];exact⟨fun e=>⟨re h,e⟩,fun e=>e.2⟩
theorem az {t:List Dn}{x i:Nat}{n:Dn}(hn:t.getD x default=n)(v:Int):Rc t x i v=if asks n i then(n.kids.getD (Yd n.Ja v) 0).toNat else x:=by
 unfold Rc wg;rw[hn]
theorem JL (va:te d a)(vb:te d b){x y:Nat}(hx:pt a b x y)(hi':Pb d.length a b x y<d.length):
  Eg (Eg [Pe d (Pb d.length a b x y)] (if asks (a.getD x default) (Pb d.length a b x y)then(a.getD x default).Ja else[])) (if asks (b.getD y default) (Pb d.length a b x y)then(b.getD y default).Ja else[])=sJ d.length (Pe d) a b x y:=by
 obtain⟨ss,e1,e2,_⟩:=JA va.dh vb.dh hx.1 hx.2 hi';have p3:=Sp _ _ e2;rw[<-e1]at p3;have ra:=uC (va.table x hx.1) hi';have rb:=uC (vb.table y hx.2) hi';obtain⟨p1,q1⟩:=Tz (if asks (a.getD x default) (Pb d.length a b x y)then(a.getD x default).Ja else[]) [Pe d (Pb d.length a b x y)] la;obtain⟨p2,q2⟩:=Tz (if asks (b.getD y default) (Pb d.length a b x y)then(b.getD y default).Ja else[]) _ p1;refine List.Perm.eq_of_pairwise (le:=fun a b=>a<b) (fun a b _ _ h1 h2=>by omega) p2 p3 ((yg (List.nodup_iff_pairwise_ne.2 (p2.imp fun h=>by omega)) (List.nodup_iff_pairwise_ne.2 (p3.imp fun h=>by omega))).2 fun z=>?_);rw[q2 z,q1 z]
 have Gl:z∈sJ d.length (Pe d) a b x y↔z∈Pe d (Pb d.length a b x y)::((if Fb d.length (a.getD x default)=Pb d.length a b x y then(a.getD x default).Ja else[])++(if Fb d.length (b.getD y default)=Pb d.length a b x y then(b.getD y default).Ja else[])):=by{unfold sJ;generalize Pe d (Pb d.length a b x y)::((if Fb d.length (a.getD x default)=Pb d.length a b x y then(a.getD x default).Ja else[])++(if Fb d.length (b.getD y default)=Pb d.length a b x y then(b.getD y default).Ja else[]))=l;(have hc:∀l:List Int,z∈Ds l↔z∈l:=fun l=>by{cases l with| nil=>exact Iff.rfl| cons c l=>exact Qr l c z});rw[hc,List.mem_mergeSort]}
 rw[Gl,Nb,He,De];simp only[ra,rb];constructor
 {rintro((h | h) | h);{exact .inl h};{exact .inr (.inl h)};{exact .inr (.inr h)}}
 {rintro(h | h | h);{exact .inl (.inl h)};{exact .inl (.inr h)};{exact .inr h}}
end
open Go.RowKit
structure Gv (W : World) (DM : Nat) (RS : List Nat) (nb : Nat) (M : List (List Int)) : Prop where
 out:∃cs,Bb W DM 28 cs/\ ∀i (h:i<RS.length),cs[i]? =some (.slice (some ⟨RS[i],0,none⟩) nb nb)
 rows:∀i (_:i<RS.length),W.ownsRow 0 3 1 (.slice (some ⟨RS[i],0,none⟩) nb nb) nb ((M.getD i []).map iW)
 nd:RS.Nodup
section
variable {W W' : World} {H K DM nb : Nat} {RS S S' : List Nat} {M : List (List Int)} {t : List Dn}
theorem Gv.cell (h:Gv W DM RS nb M){i:Nat}(hi:i<RS.length):W.cell? ⟨DM,i,none⟩=some (.slice (some ⟨RS[i],0,none⟩) nb nb):=by
 obtain⟨cs,h1,h2⟩:=h.out;exact(h1.cell i).trans (h2 i hi)
theorem Gv.at (h:Gv W DM RS nb M){i j:Nat}(hi:i<RS.length)(hl:(M.getD i []).length=nb)(hj:j<nb):W.cell? ⟨RS[i],j,none⟩=some (.int .i64 ((M.getD i []).getD j 0)):=by
 have e:(M.getD i []).getD j 0=(M.getD i [])[j]'(by omega):=Eb _ _ _ ia;rw[(h.rows i hi).cellAt j ia,Kb,Pa ia,e]
 rfl
theorem Gv.abj (h:Gv W DM RS nb M){i:Nat}(hi:i<RS.length)(j:Nat):W.frozen? ⟨RS[i],j,none⟩=false:=(h.rows i hi).frozenAt j
theorem Gv.Al (h:Gv W DM RS nb M)(hs:ld H S' W W')(hd:DM∉S')(hr:∀r∈RS,r∉S'):Gv W' DM RS nb M:=by
 obtain⟨cs,h1,h2⟩:=h.out;refine⟨⟨cs,hs.keep _ _ h1 (.inr ⟨by simp[gi],hd⟩),h2⟩,fun i hi=>?_,h.nd⟩;exact yk (h.rows i hi) hs ⟨pa,pa⟩ (fun g hg=>by cases hg;exact hr _ (Ga hi))
theorem Gv.below (h:Gv W DM RS nb M){n:Nat}(hb:Below n W W')(hn:W.heap.size<=n):Gv W' DM RS nb M:=h.Al (H:=n) (S':=[]) (ld.Vb hb hn) la la
theorem Gv.ne (h:Gv W DM RS nb M){i:Nat}(hi:i<RS.length):RS[i]≠DM:=fun e=>by
 obtain⟨cs,h1,_⟩:=h.out;obtain⟨_,cs2,h2⟩:=Ie (h.rows i hi) RS[i] rfl;rw[e]at h2;have h1:W.heap[DM]? =_:=h1;rw[h1]at h2;cases h2
theorem Gv.lt (h:Gv W DM RS nb M){i:Nat}(hi:i<RS.length):RS[i]<W.heap.size:=((h.rows i hi).lt _ rfl).2
theorem Gv.set (h:Gv W DM RS nb M){x y:Nat}(hx:x<RS.length)(hm:x<M.length)(v:Int):Gv (W.setCell ⟨RS[x],y,none⟩ (.int .i64 v)) DM RS nb (qt M x y v):=by
 obtain⟨cs,h1,h2⟩:=h.out;have hne:=h.ne hx;refine⟨⟨cs,?_,h2⟩,fun i hi=>?_,h.nd⟩
 ·show(W.heap.modify RS[x] _)[DM]? =_
  rw[uf,Aa hne];exact h1
 ·by_cases e:i=x
  {subst e;have q:=((h.rows i hi).stored y (.int .i64 v)).1;have e2:(qt M i y v).getD i []=(M.getD i []).set y v:=by{unfold qt;rw[Ra,Ed hm];rfl};rw[e2,List.map_set];exact q}
  ·have e2:(qt M x y v).getD i []=M.getD i []:=by
    unfold qt;rw[Ra,Cb (fun q=>e q.symm), <-Ra]
   rw[e2]
   exact Kf (h.rows i hi) _ _ (fun g hg=>by
    cases hg
    exact fun q=>e ((List.getElem_inj h.nd).1 q))
theorem aX (h:Hi W H K S t){b n c:Nat}{l:List Value}(hr:W.ownsRow 0 3 1 (.slice (some ⟨b,0,none⟩) n c) n l)(hb:b∈S)(hH:H<=b)(i:Nat)(u:Value):Hi (W.setCell ⟨b,i,none⟩ u) H K S t:=by
 obtain⟨hge,hS,v,xs,h1,h2,h3,h4⟩:=h;obtain⟨_,cs2,En⟩:=Ie hr b rfl;have hs:ld H S W (W.setCell ⟨b,i,none⟩ u):=gz hH hb i u;refine⟨hge,hS,v,xs,?_,?_,h3,fun x hx=>(h4 x hx).step hs⟩
 ·have hne:b≠K:=fun e=>by
   subst e;have h1:W.heap[b]? =_:=h1;rw[h1]at En;cases En
  show(W.heap.modify b _)[K]? =_
  rw[uf,Aa hne];exact h1
 ·exact Kf h2 _ _ (fun g hg e=>by
   obtain⟨_,cs3,h5⟩:=Ie h2 g hg
   have e:g=b:=e
   rw[e,En]at h5
   cases h5)
theorem cX {b:Nat}(hb:b∈S')(hne:b≠K)(i:Nat)(u:Value):Js S' K W (W.setCell ⟨b,i,none⟩ u):=fun c hc hX hr=>by
 have NJ:c≠b:=fun e=>hX (e▸hb)
 refine⟨Gc _ _ _ c NJ,fun v hv=>hr v ?_⟩;rw[<-hv];exact(World.cell?_of_block (a:=⟨K,0,none⟩) (Gc W ⟨b,i,none⟩ u K (fun e=>hne e.symm))).symm
theorem gY {w5 w8 Ei:World}{X:List Nat}{ob:Option Nat}{o:Obj}(h:Js X K w5 w8)(hs:w5.heap.size<=w8.heap.size)(hg:(w8.alloc o).grownBy Ei ob)(G9:∀g,ob=some g->w5.heap.size<=g)(hK:K<w5.heap.size):Js X K w5 Ei:=fun b hb hX hr=>by
 have ba:∀c,c<w5.heap.size->Ei.heap[c]? =w8.heap[c]? :=fun c hc=>by{rw[hg.block c (by simp;omega) (fun e=>by have:=G9 c e.symm;omega),Tb _ _ _ ia]}
 obtain⟨h1,h2⟩:=h b hb hX hr;refine⟨(ba b hb).trans h1,fun v hv=>h2 v ?_⟩;rw[<-hv];exact(World.cell?_of_block (a:=⟨K,0,none⟩) (ba K hK)).symm
end
theorem Nk.below {base:Nat}{W W':World}{l:List Int}{v:Value}(h:Nk base W l v)(hb:Below W.heap.size W W'):Nk base W' l v:=
 ⟨Wa h.ge hb.size,(IntsIn.below hb h.ints).mono (bm.mono _) hb.size,h.JW.below hb⟩
theorem bP (W:World)(lo:Int):Nk W.heap.size (W.alloc (.cells #[.int .i64 lo] 3)) [lo] (.slice (some ⟨W.heap.size,0,none⟩) 1 1):=by
 have ho:(W.alloc (.cells #[.int .i64 lo] 3)).ownsRow W.heap.size 3 1 (.slice (some ⟨W.heap.size,0,none⟩) 1 1) [lo].length ([lo].map iW):=
  ⟨rfl,.inr ⟨W.heap.size,1,#[.int .i64 lo],rfl,ja _,World.alloc_heap_new W _,ja _,pa,rfl,rfl⟩⟩
 exact⟨la,rh ho,pu ho (ja _)⟩
theorem KL {W w8:World}{H K:Nat}{RS S:List Nat}{t:List Dn}(h:Hi W H K S t)(hb:Below W.heap.size W w8)(hR:∀r∈RS,r<W.heap.size):∀w',Js (K::RS) K w8 w'->∀b,W.heap.size<=b->b<w8.heap.size->w'.heap[b]? =w8.heap[b]? :=fun w' hk b h1 h2=>by
 have hlt:=h.lt;obtain⟨_,_,v,xs,t1,t2,_⟩:=h;refine(hk b h2 (fun hm=>?_) (fun u hu=>?_)).1
 {(rcases List.mem_cons.1 hm with e | e);{omega};{have:=hR _ e;omega}}
 {have e:w8.cell? ⟨K,0,none⟩=some v:=(hb.cell (p:=⟨K,0,none⟩) hlt).trans (t1.cell 0);rw[e]at hu;(cases hu);intro e2;have:=(t2.lt _ e2).2;omega}
theorem CI (m:List Dn)(i:Int)(ss ks:List Int):∃u,(Mc m i ss ks).1=m++u:=by
 unfold Mc
 dsimp only
 split
 {exact⟨[],la⟩}
 {exact(fD _ _).2.2}
structure gZ (w5 : World) (H K DM : Nat) (RS S : List Nat) (d : List Fa) (a b : List Dn) (r : (List Dn × pe) × List Int) (M : List (List Int)) (kv : Value) (wr : World) : Prop where
 tb:Hi wr H K (xe kv++S) r.1.1
 mt:Gv wr DM RS b.length M
 Cj:Jk d.length a b r.1.1 r.1.2 M
 form:Yn a.length b.length M
 Al:ld H (K::RS) w5 wr
 own:wr.ownsRow w5.heap.size 3 1 kv r.2.length (r.2.map iW)
 kp:Js (K::RS) K w5 wr
theorem gZ.next {w5 wr w8 Ei:World}{H K DM g:Nat}{RS S:List Nat}{d:List Fa}{a b:List Dn}{r:(List Dn×pe)×List Int}{r':List Dn×pe}{M M':List (List Int)}{kv v':Value}{k:Int}(h:gZ w5 H K DM RS S d a b r M kv wr)(ZS:K∈S)(hK:K<w5.heap.size)(hR:∀q∈RS,q<w5.heap.size)(hD:DM<w5.heap.size)
  (h8:Hi w8 H K (xe kv++S) r'.1) (m8:ld H (K::RS) wr w8) (p8:Js (K::RS) K wr w8) (t8:Gv w8 DM RS b.length M') (e8:Jk d.length a b r'.1 r'.2 M') (f8:Yn a.length b.length M') {o:Obj} (hg:(w8.alloc o).grownBy Ei kv.ownBlock) (hv:v'.ownBlock=some g) (hat:kv.ownBlock=some g\/g=(w8.alloc o).heap.size)
  (pE:Ei.ownsRow w5.heap.size 3 1 v' (r.2++[k]).length ((r.2++[k]).map iW)):gZ w5 H K DM RS S d a b (r',r.2++[k]) M' v' Ei:=by
 have hnew:∀g,kv.ownBlock=some g->w5.heap.size<=g:=fun g e=>(Ie h.own g e).1
 have ho:(w8.alloc o).ownsRow w5.heap.size 3 1 kv r.2.length (r.2.map iW):=yk h.own (m8.alloc o) ⟨pa,pa⟩ (fun g e e2=>by
  have:=hnew g e
  rcases List.mem_cons.1 e2 with e2 | e2
  {omega}
  ·have:=hR _ e2;omega)
 obtain⟨q1,q2⟩:=Hi.Lu (h8.below ((za _ _).alloc (ja _) o) (ja _)) ZS ho hK hg hv hat;have t9:=t8.below ((za _ _).alloc (ja _) o) (ja _);refine⟨q1,t9.Al q2 (fun hm=>?_) (fun q hq hm=>?_),e8,f8,?_,pE,gY (h.kp.trans p8 h.Al.size) (Wa h.Al.size m8.size) hg hnew hK⟩
 {(have e:kv.ownBlock=some DM:=by unfold xe at hm;simpa using hm);have:=hnew _ e;omega}
 {(have e:kv.ownBlock=some q:=by unfold xe at hm;simpa using hm);have:=hnew _ e;have:=hR _ hq;omega}
 {(refine((((h.Al.trans (m8.alloc o)).more (S':=xe kv++K::RS) (fun b hb=>td _ hb))).trans (q2.more (S':=xe kv++K::RS) (fun b hb=>Cd _ hb))).less fun b hb hlt=>?_);(rcases List.mem_append.1 hb with hb | hb);{(have e:kv.ownBlock=some b:=by unfold xe at hb;simpa using hb);have:=hnew b e;omega};{exact hb}}
end Go.Proofs.YtejbgoigkefnfaaGreatDoor
