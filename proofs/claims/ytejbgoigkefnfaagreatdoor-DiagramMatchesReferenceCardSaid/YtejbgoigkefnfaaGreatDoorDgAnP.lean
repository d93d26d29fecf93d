/- Plain core of chapter 11: a formula is a condition that changes only at its starts; its diagram and the opposite of it. No program. -/
import Derived.Test.YtejbgoigkefnfaaGreatDoorAl
import Derived.Test.YtejbgoigkefnfaaGreatDoorDgSm
namespace Go.Proofs.YtejbgoigkefnfaaGreatDoor
section
variable {nf : Nat} {lo hi : Nat -> Int}
def F0 (i:Nat)(p c:Nat->Int):Nat->Int:=fun j=>if j<i then p j else c j
structure IE (nf : Nat) (lo hi : Nat -> Int) (ss : Nat -> List Int) (F : (Nat -> Int) -> Bool) : Prop where
 chain:∀i,i<nf->Xe (hi i) (lo i) (ss i)
 same:∀c c',ee nf lo hi c->ee nf lo hi c'->(∀j,j<nf->Yd (ss j) (c j)=Yd (ss j) (c' j))->F c=F c'
def nS (ss:Nat->List Int)(j:Nat):Nat:=(ss j).length+1
end
section
section
variable {nf : Nat} {lo hi : Nat -> Int} {a b : List Dn} {A B F H : (Nat -> Nat -> Int) -> Bool}
end
variable {nf : Nat} {lo hi : Nat -> Int} {a b : List Dn} {A B : Nat -> (Nat -> Int) -> Bool} {F H : (Nat -> Int) -> Bool}
def RJ (nf:Nat)(lo hi:Nat->Int)(a b:List Dn)(A B:Nat->(Nat->Int)->Bool)(F H:(Nat->Int)->Bool)(x y:Nat):Prop:=
 x<a.length/\ y<b.length/\ ∃p,ee nf lo hi p/\ ∀c,ee nf lo hi c->A x c=F (F0 (Pb nf a b x y) p c)/\ B y c=H (F0 (Pb nf a b x y) p c)
def sJ (nf:Nat)(lo:Nat->Int)(a b:List Dn)(x y:Nat):List Int:=
 Ds ((lo (Pb nf a b x y)::((if Fb nf (a.getD x default)=Pb nf a b x y then(a.getD x default).Ja else[])++(if Fb nf (b.getD y default)=Pb nf a b x y then(b.getD y default).Ja else[]))).mergeSort fun x y=>decide (x<=y))
theorem AJ (g:Te nf lo hi a A){x i:Nat}(hx:x<a.length)(hr:Fb nf (a.getD x default)=i):∀c∈(a.getD x default).Ja,lo i<=c/\ c<=hi i:=by
 intro c hc;by_cases hk:(a.getD x default).kids=[]
 {rw[((g.table x hx).leaf hk).2]at hc;cases hc}
 {unfold Fb at hr;rw[Aa hk]at hr;have hin:=(g.table x hx).inner hk;have:=Tj _ _ hin.2.2.2.2.2.1 c hc;rw[hr]at this;omega}
theorem JA (gA:Te nf lo hi a A)(gB:Te nf lo hi b B){x y:Nat}(hx:x<a.length)(hy:y<b.length)(hi':Pb nf a b x y<nf):∃ss,sJ nf lo a b x y=lo (Pb nf a b x y)::ss/\ Xe (hi (Pb nf a b x y)) (lo (Pb nf a b x y)) ss/\
   ((a.getD x default).kids≠[]->(a.getD x default).fact=(Pb nf a b x y:Nat)->∀c∈(a.getD x default).Ja,c∈lo (Pb nf a b x y)::ss)/\
   ((b.getD y default).kids≠[]->(b.getD y default).fact=(Pb nf a b x y:Nat)->∀c∈(b.getD y default).Ja,c∈lo (Pb nf a b x y)::ss):=by
 unfold sJ;generalize hi0:Pb nf a b x y=i at*
 generalize hl:(lo i::((if Fb nf (a.getD x default)=i then(a.getD x default).Ja else[])++(if Fb nf (b.getD y default)=i then(b.getD y default).Ja else[])))=l
 have Lx:∀c∈l,lo i<=c/\ c<=hi i:=by{intro c hc;rw[<-hl]at hc;(rcases List.mem_cons.1 hc with rfl | hc);{exact⟨Jc _,gA.dom i hi'⟩};{(rcases List.mem_append.1 hc with hc | hc);{(split at hc);{next hr=>exact AJ gA hx hr c hc};{cases hc}};{(split at hc);{next hr=>exact AJ gB hy hr c hc};{cases hc}}}}
 have hs:(l.mergeSort fun x y=>decide (x<=y)).Pairwise (· <= ·):=by{have:=List.pairwise_mergeSort (le:=fun x y:Int=>decide (x<=y)) (fun a b c h1 h2=>by simp at*;omega) (fun a b=>by simp;omega) l;exact this.imp fun h=>by simpa using h}
 obtain⟨ls,ss,e1,e2,e3,e4⟩:=Tt hs (fun x hx=>Lx x (List.mem_mergeSort.1 hx)) (List.mem_mergeSort.2 (by rw[<-hl];exact Na ..));have Gl:∀c∈l,c∈lo i::ss:=fun c hc=>(e4 c).2 (List.mem_mergeSort.2 hc)
 refine⟨ss,by rw[e1,e2];rfl,e3,fun hk hf c hc=>?_,fun hk hf c hc=>?_⟩
 {refine Gl c ?_;rw[<-hl];refine La _ (List.mem_append.2 (.inl ?_));(have:Fb nf (a.getD x default)=i:=by unfold Fb;rw[Aa hk,hf,Gb]);rw[if_pos this];exact hc}
 {refine Gl c ?_;rw[<-hl];refine La _ (List.mem_append.2 (.inr ?_));(have:Fb nf (b.getD y default)=i:=by unfold Fb;rw[Aa hk,hf,Gb]);rw[if_pos this];exact hc}
structure MR (d : List Fa) (a b : List Dn) : Prop where
 va:te d a
 vb:te d b
 ex:∃R:Nat->Nat->Prop,R 0 0/\ (∀m dn,Wx d.length (Pe d) (Mh d) a b (ug d a) (ug d b) R m dn->m.length<=20000)/\ (∀x y,R x y->x<a.length/\ y<b.length)/\
  ∀x y v,R x y->Pb d.length a b x y<d.length->v∈sJ d.length (Pe d) a b x y->R (Rc a x (Pb d.length a b x y) v) (Rc b y (Pb d.length a b x y) v)
variable {d : List Fa}
theorem Zx (va:te d a)(vb:te d b)(h:a.length*b.length<=19998):MR d a b:=by
 refine⟨va,vb,fun x y=>x<a.length/\ y<b.length,⟨va.pos,vb.pos⟩,fun m dn hI=>?_,fun x y h=>h,fun x y v h hi' hv=>?_⟩
 {have:=VA hI va.dh.dom (fun _ _ h=>h);omega}
 {exact⟨(Ji va.dh h.1 hi' (Uc _ _) v).1,(Ji vb.dh h.2 hi' (ff _ _) v).1⟩}
def bh (d:List Fa)(a b:List Dn)(f:Nat)(m:List Dn)(dn:pe)(x y:Nat):(List Dn×pe)×Nat:=ui d.length a b (sJ d.length (Pe d) a b) 20000 f m dn x y
def Sf (d:List Fa)(a b:List Dn):(List Dn×pe)×Nat:=bh d a b (d.length+1) [] [] 0 0
def Zh (d:List Fa)(a b:List Dn):List Dn:=ue (Sf d a b).1.1 (Yb (Sf d a b).1.1 (d.length+1) [] (Sf d a b).2)
def Ln (d:List Fa)(a b:List Dn):List Dn×Int:=if Re d a=true/\ Re d b=true then(Zh d a b,0)else([],1)
theorem Ts (R:Nat->Nat->Prop)(A B:Nat->(Nat->Int)->Bool):Wx nf lo hi a b A B R [] []:=⟨Made.nil,fun k hk=>absurd hk (Ib k),fun x y k h=>by cases h⟩
theorem Px (h:MR d a b):∃R,Wx d.length (Pe d) (Mh d) a b (ug d a) (ug d b) R (Sf d a b).1.1 (Sf d a b).1.2/\ Fj d.length (Pe d) (Mh d) a b (ug d a) (ug d b) (Sf d a b).1.1 0 0 (Sf d a b).2/\ (Sf d a b).1.1.length<=20000:=by
 obtain⟨R,h0,hcap,hl,hs⟩:=h.ex;obtain⟨h1,h2,_⟩:=BJ h.va.dh h.vb.dh (R:=R) (S:=sJ d.length (Pe d) a b) (L:=20000) hcap hl hs (fun x y hR hi'=>JA h.va.dh h.vb.dh (hl x y hR).1 (hl x y hR).2 hi') (d.length+1) [] [] 0 0 (Ts _ _ _) h0 ia;exact⟨R,h1,h2,hcap _ _ h1⟩
theorem PK (h:MR d a b):te d (Zh d a b)/\ ∀c,ee d.length (Pe d) (Mh d) c->ug d (Zh d a b) 0 c=(ug d a 0 c&& ug d b 0 c):=by
 obtain⟨R,hI,hN,hcap⟩:=Px h;have g:=hI.made.dh h.va.dh.dom;have hx:=hN.lt;obtain⟨ho,u,hu⟩:=Hl g.table hx (f:=d.length+1) ia;have hlen:(Zh d a b).length=(Yb (Sf d a b).1.1 (d.length+1) [] (Sf d a b).2).length:=by unfold Zh ue;rw[Sa]
 have hle:(Yb (Sf d a b).1.1 (d.length+1) [] (Sf d a b).2).length<=(Sf d a b).1.1.length:=by{have:=Xc ho.nodup (l₂:=List.range (Sf d a b).1.1.length) (fun y hy=>List.mem_range.2 (ho.inside y hy));rwa[Pd]at this}
 have hpos:0<(Zh d a b).length:=by rw[hlen,hu];simp
 have gf:=Ir g ho;have hV:te d (Zh d a b):=⟨h.va.dom,hpos,ia,gf.table,gf.nodup,ay g hx ia⟩;refine⟨hV,fun c fc=>?_⟩;rw[<-hN.means c fc];rw[Ut hV.dh gf _ 0 hpos (ja _) c fc]
 show xg _ ((Yb (Sf d a b).1.1 (d.length+1) [] (Sf d a b).2).getD 0 0) c=_
 rw[hu]
 rfl
end
section
variable {d : List Fa}
theorem QK {c c':Nat->Int}:∀(N:Nat) (f:Fo),f.size<=N->Kj d f->(∀t∈jd f,Il (c (tg d t.1).toNat) t.2.1 t.2.2=Il (c' (tg d t.1).toNat) t.2.1 t.2.2)->ve d c f=ve d c' f:=by
 intro N
 induction N with
 | zero=>intro f h;have:=f.size_pos;omega
 | succ N ih=>
  intro f hN hw ht;obtain⟨op,s,m,n,ks⟩:=f;rw[Kj]at hw;rcases hw with⟨h1,_,_,_,rfl⟩ | ⟨rfl,_,h3,_,_,rfl⟩ | ⟨h1,_,_,_,ZD⟩
  {rw[ve,ve,Aa ia,Aa ia,Aa ia,Aa ia,Aa ia,Aa ia,Aa ia,Aa ia]}
  {have:=ht (s,m,n) (by rw[jd];simp);rw[ve,ve,if_pos rfl,if_pos rfl];exact this}
  ·have hk:Jl d c ks=Jl d c' ks:=by
    rw[Kl,Kl];refine Ye fun k hk=>ih k ?_ ((si d ks).1 ZD k hk) (fun t htt=>ht t ?_)
    {obtain⟨j,hj,rfl⟩:=zb hk;have:=Fo.fg ks j hj;rw[Fo.size]at hN;omega}
    {rw[jd];exact List.mem_append.2 (.inr ((bj ks t).2 ⟨k,hk,htt⟩))}
   rw[ve,ve,hk,Aa (show ¬op=3 by omega),Aa (show ¬op=3 by omega)]
theorem SK :∀(N:Nat) (f:Fo),f.size<=N->Kj d f->∀t∈jd f,∃k:Nat,tg d t.1=k/\ k<d.length:=by
 intro N
 induction N with| zero=>intro f h;have:=f.size_pos;omega| succ N ih=>{intro f hN hw t ht;obtain⟨op,s,m,n,ks⟩:=f;rw[Kj]at hw;rw[jd,De,bj]at ht;(rcases hw with⟨h1,_,_,_,rfl⟩ | ⟨rfl,_,_,_,h4,rfl⟩ | ⟨h1,_,_,_,ZD⟩);{rw[Aa ia]at ht;simp at ht};{simp at ht;subst ht;exact h4};{rw[Aa ia]at ht;simp only[Pf,false_or]at ht;obtain⟨k,hk,ht⟩:=ht;refine ih k ?_ ((si d ks).1 ZD k hk) t ht;obtain⟨j,hj,rfl⟩:=zb hk;have:=Fo.fg ks j hj;rw[Fo.size]at hN;omega}}
theorem JE {h:Int}:∀(l:List Int) (b v u c:Int),Xe h b l->c∈l->v<c->c<=u->Yd l v<Yd l u
 | a::l,b,v,u,c,hc,hm,h1,h2=>by{have hac:a<=c:=by{(rcases List.mem_cons.1 hm with rfl | hm);{exact Jc _};{have:=Tj l a hc.2.2 c hm;omega}};rw[Th (show a<=u by omega)];(rcases Int.lt_or_le v a with q | q);{rw[Gj q];omega};{rw[Th q];(rcases List.mem_cons.1 hm with rfl | hm);{omega};{have:=JE l a v u c hc.2.2 hm h1 h2;omega}}}
def Wv (d:List Fa)(f:Fo)(i:Nat):List Int:=(gl d i f).tail
theorem Vu (hd:Ih d)(f:Fo){i:Nat}(hi:i<d.length):gl d i f=Pe d i::Wv d f i:=by
 obtain⟨ss,e,_⟩:=th (Zr d i) (hd.Fq i hi).2.1 f;unfold Wv;unfold gl;rw[e];rfl
theorem KE (hd:Ih d)(f:Fo):∀n,n<=d.length->yi (nS (Wv d f)) n=yi (Co d f) n
 | 0,_=>rfl
 | n+1,h=>by{rw[yi,yi,KE hd f n ia];congr 1;unfold Co;rw[Vu hd f ia];rfl}
theorem JC (hd:Ih d){f:Fo}(hw:Kj d f):IE d.length (Pe d) (Mh d) (Wv d f) (fun c=>ve d c f):=by
 have hst:∀i,i<d.length->Xe (Mh d i) (Pe d i) (Wv d f i)/\ ∀x,x∈Pe d i::Wv d f i↔(Pe d i<=x/\ x<=Mh d i)/\ (x=Pe d i\/x∈uh (Zr d i) f):=fun i hi=>by{obtain⟨ss,e1,e2,e3⟩:=th (Zr d i) (hd.Fq i hi).2.1 f;have e:Wv d f i=ss:=by{have:=Vu hd f hi;unfold gl at this;rw[e1]at this;exact(List.cons.inj this).2.symm};rw[e];exact⟨e2,e3⟩}
 refine⟨fun i hi=>(hst i hi).1,fun c c' fc TR h=>?_⟩;refine QK f.size f (ja _) hw fun t ht=>?_
 obtain⟨k,hk,BM⟩:=SK f.size f (ja _) hw t ht;rw[hk,Gb];have hnm:=dy hk BM;obtain⟨hch,Gl⟩:=hst k BM
 have key:∀v u:Int,Pe d k<=v->u<=Mh d k->v<=u->Yd (Wv d f k) v=Yd (Wv d f k) u->Il v t.2.1 t.2.2=Il u t.2.1 t.2.2:=by{intro v u h1 h2 h3 h4;have hno:∀n,n=t.2.2\/n=t.2.2+1->¬(v<n/\ n<=u):=by{intro n hn ⟨q1,q2⟩;have hin:n∈Pe d k::Wv d f k:=(Gl n).2 ⟨⟨ia,ia⟩,.inr ((Kq _ f n).2 ⟨t,ht,hnm.symm,hn⟩)⟩;(rcases List.mem_cons.1 hin with rfl | hin);{omega};{have:=JE _ _ v u n hch hin q1 q2;omega}};exact Xv (hno _ (.inl rfl)) (hno _ (.inr rfl)) h3}
 rcases Int.le_total (c k) (c' k)with q | q
 {exact key _ _ (fc k BM).1 (TR k BM).2 q (h k BM)}
 {exact(key _ _ (TR k BM).1 (fc k BM).2 q (h k BM).symm).symm}
theorem IE.not {nf:Nat}{lo hi:Nat->Int}{ss:Nat->List Int}{F:(Nat->Int)->Bool}(h:IE nf lo hi ss F):IE nf lo hi ss (fun c=> !F c):=⟨h.chain,fun c c' fc TR e=>by rw[h.same c c' fc TR e]⟩
structure F8 (d : List Fa) (t : List Dn) (F : (Nat -> Int) -> Bool) : Prop where
 valid:te d t
 means:∀c,ee d.length (Pe d) (Mh d) c->ug d t 0 c=F c
 cells:∃ss,IE d.length (Pe d) (Mh d) ss F/\ yi (nS ss) d.length<=400
structure oN (d : List Fa) (f : Fo) : Prop where
 small:Gi f d=true
 dom:Hf d=true
 check:Qe f d (fun _=>false)=0
theorem oN.dg {f:Fo}(h:oN d f):F8 d (vh d f) (fun c=>ve d c f):=by
 have hb:=Pn h.small h.dom h.check;refine⟨Qn h.dom (zi h.check) hb,fun c fc=>Yv h.dom (zi h.check) hb fc,_,JC (mg h.dom) (zi h.check),?_⟩;rw[KE (mg h.dom) f _ (ja _)];have hs:=h.small;unfold Gi at hs;simp only[ub,decide_eq_true_eq]at hs;exact Lq (mg h.dom) (zi h.check) (n:=400) hs.2
theorem TK {t:List Dn}(h:te d t):te d (xh t)/\ ∀c,ee d.length (Pe d) (Mh d) c->ug d (xh t) 0 c= !ug d t 0 c:=by
 have g:=pN h.dh;have hl:(xh t).length=t.length:=by unfold xh;rw[Sa]
 have hv:Yb (xh t) (d.length+1) [] 0=Yb t (d.length+1) [] 0:=uH (qN t) _ _ _
 have hV:te d (xh t):=by
  refine⟨h.dom,by rw[hl];exact h.pos,by rw[hl];exact h.Yw,g.table,g.nodup,?_⟩;rw[hv];have hin:=(Hl h.dh.table h.pos (f:=d.length+1) ia).1;have ha:=h.again;revert ha hin;generalize Yb t (d.length+1) [] 0=o;intro hin ha
  have e:ue (xh t) o=(ue t o).map Mn:=by
   unfold ue;rw[ti];refine Ye fun k hk=>?_
   rw[Mq (hin.inside k hk)]
   show(⟨(Mn (t.getD k default)).fact,(Mn (t.getD k default)).Ja,_,(Mn (t.getD k default)).leaf⟩:Dn)=Mn ⟨_,_,_,_⟩
   unfold Mn;simp[List.map_eq_nil_iff]
  rw[e,ha]
  rfl
 refine⟨hV,fun c fc=>Ut hV.dh g _ 0 hV.pos (ja _) c fc⟩
theorem F8.not {t:List Dn}{F:(Nat->Int)->Bool}(h:F8 d t F):F8 d (xh t) (fun c=> !F c):=by
 obtain⟨h1,h2⟩:=TK h.valid;obtain⟨ss,h3,h4⟩:=h.cells;exact⟨h1,fun c fc=>by rw[h2 c fc,h.means c fc],ss,h3.not,h4⟩
end
end Go.Proofs.YtejbgoigkefnfaaGreatDoor
