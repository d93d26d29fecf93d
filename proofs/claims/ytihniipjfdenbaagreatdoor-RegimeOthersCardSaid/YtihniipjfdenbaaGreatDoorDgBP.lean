/- Plain core of chapter 11: the diagram that Build makes; what Valid asks of a diagram. No program. -/
import Derived.Test.YtihniipjfdenbaaGreatDoorDgST
import Derived.Test.YtihniipjfdenbaaGreatDoorHoldsA
namespace Go.Proofs.YtihniipjfdenbaaGreatDoor
theorem sizeL_mem :∀(ks:List Fo) (k:Fo),k∈ks->k.size<=Fo.sizeL ks
 | [],_,h=>by cases h
 | a::l,k,h=>by{rw[Fo.sizeL];(rcases List.mem_cons.1 h with rfl | h);{omega};{have:=sizeL_mem l k h;omega}}
theorem sizeL_filter (p:Fo->Bool):∀ks:List Fo,Fo.sizeL (ks.filter p)<=Fo.sizeL ks
 | []=>Nat.le_refl _
 | a::l=>by{have:=sizeL_filter p l;rw[List.filter_cons];(split);{rw[Fo.sizeL,Fo.sizeL];omega};{rw[Fo.sizeL];omega}}
theorem join_size (op u z:Int)(l:List Fo):(joinF op u z l).size<=Fo.sizeL l+1:=by
 unfold joinF;cases h:l.find? (fun k=>k.op==z)with
 | some k=>have:=sizeL_mem l k (List.mem_of_find?_eq_some h);dsimp only;omega
 | none=>
  dsimp only
  have hf:=sizeL_filter (fun k=>k.op !=u) l;generalize l.filter (fun k=>k.op !=u)=fs at*
  match fs,hf with| [],_=>rw[Fo.size,Fo.sizeL];omega| [k],hf=>rw[Fo.sizeL,Fo.sizeL]at hf;dsimp only;omega| a::b::r,hf=>dsimp only;rw[Fo.size];omega
theorem giv_size (d:List Fa)(nm:ByteArray)(x:Int):∀(N:Nat) (f:Fo),f.size<=N->WfF d f->(givF nm x f).size<=f.size:=by
 intro N
 induction N with
 | zero=>intro f h;obtain⟨op,s,c,n,ks⟩:=f;rw[Fo.size]at h;omega
 | succ N ih=>
  intro f h hw;obtain⟨op,s,c,n,ks⟩:=f;have hk:=size_kid op c n s ks;have hpos:1<=(Fo.mk op s c n ks).size:=by rw[Fo.size];omega
  have hkn:∀b,(knownF b).size=1:=fun b=>by unfold knownF;rw[Fo.size,Fo.sizeL]
  have hL:WfL d ks->Fo.sizeL (givL nm x ks)<=Fo.sizeL ks:=by{intro hw;rw[givL_eq];have:∀l:List Fo,(∀k∈l,k∈ks)->Fo.sizeL (l.map (givF nm x))<=Fo.sizeL l:=by{intro l;induction l with| nil=>intro _;exact Nat.le_refl _| cons a l ihl=>{intro hm;have h1:=ih a (by have:=hk a (hm a (List.mem_cons_self ..));omega) ((WfL_iff d ks).1 hw a (hm a (List.mem_cons_self ..)));(have h2:=ihl fun k hk=>hm k (List.mem_cons_of_mem _ hk));rw[List.map_cons,Fo.sizeL,Fo.sizeL];omega}};exact this ks fun _ h=>h}
  rw[WfF]at hw;rw[givF];rcases hw with⟨h1,rfl,rfl,rfl,rfl⟩ | ⟨rfl,_,_,_,_,rfl⟩ | ⟨h1,rfl,rfl,rfl,h2⟩
  {(have:op≠3/\ op≠5/\ op≠6/\ op≠7:=by omega);rw[if_neg this.1,if_neg this.2.1,if_neg this.2.2.1,if_neg this.2.2.2];exact Nat.le_refl _}
  {rw[if_pos rfl];(split);{rw[hkn];exact hpos};{exact Nat.le_refl _}}
  ·have hs:=hL h2
   rcases h1 with⟨rfl,hl⟩ | ⟨h1,hl⟩
   ·rw[if_neg (by decide),if_pos rfl]
    match ks,hl with| [k],_=>{rw[givL,givL,Fo.sizeL,Fo.sizeL,Fo.sizeL,Fo.sizeL]at hs;simp only[givL,List.headD_cons];unfold notF;(split);{rw[hkn];exact hpos};{rw[Fo.size,Fo.sizeL,Fo.sizeL,Fo.size,Fo.sizeL,Fo.sizeL];omega}}
   {(rcases h1 with rfl | rfl);{rw[if_neg (by decide),if_neg (by decide),if_pos rfl];have:=join_size 6 1 2 (givL nm x ks);rw[Fo.size];omega};{rw[if_neg (by decide),if_neg (by decide),if_neg (by decide),if_pos rfl];have:=join_size 7 2 1 (givL nm x ks);rw[Fo.size];omega}}
theorem head_len (op c n:Int)(nm:ByteArray)(h1:W64 op)(h2:W64 c)(h3:W64 n)(h:nm.size<=24):(headT op c n nm).length<=100:=nums_len op c n nm h1 h2 h3 h
theorem spell_len (d:List Fa):∀(N:Nat) (f:Fo),f.size<=N->WfF d f->(spellT f).length<=101*f.size:=by
 intro N
 induction N with| zero=>intro f h;obtain⟨op,s,c,n,ks⟩:=f;rw[Fo.size]at h;omega| succ N ih=>{intro f h hw;obtain⟨op,s,c,n,ks⟩:=f;have hk:=size_kid op c n s ks;have w0:W64 0:=⟨by decide,by decide⟩;have hL:WfL d ks->(spellsT ks).length<=101*Fo.sizeL ks:=by{intro hw;have:∀l:List Fo,(∀k∈l,k∈ks)->(spellsT l).length<=101*Fo.sizeL l:=by{intro l;induction l with| nil=>intro _;exact Nat.le_refl _| cons a l ihl=>{intro hm;have h1:=ih a (by have:=hk a (hm a (List.mem_cons_self ..));omega) ((WfL_iff d ks).1 hw a (hm a (List.mem_cons_self ..)));(have h2:=ihl fun k hk=>hm k (List.mem_cons_of_mem _ hk));rw[spellsT,Fo.sizeL,List.length_append];omega}};exact this ks fun _ h=>h};have fin:∀ {op c n:Int} {s:ByteArray} {ks:List Fo},W64 op->W64 c->W64 n->s.size<=24->(spellsT ks).length<=101*Fo.sizeL ks->(spellT (.mk op s c n ks)).length<=101*(Fo.mk op s c n ks).size:=by{intro op c n s ks h1 h2 h3 h4 h5;have:=head_len op c n s h1 h2 h3 h4;rw[spell_eq,List.length_append,List.length_append,Fo.size];simp only[List.length_cons,List.length_nil];omega};rw[WfF]at hw;(rcases hw with⟨h1,rfl,rfl,rfl,rfl⟩ | ⟨rfl,h1,h2,h3,_,rfl⟩ | ⟨h1,rfl,rfl,rfl,h2⟩);{exact fin ⟨by omega,by omega⟩ w0 w0 (by decide) (by simp[spellsT])};{exact fin ⟨by decide,by decide⟩ ⟨by omega,by omega⟩ ⟨by omega,by omega⟩ (by unfold nameB at h3;simp only[Bool.and_eq_true,decide_eq_true_eq]at h3;exact h3.2) (by simp[spellsT])};{exact fin ⟨by omega,by omega⟩ w0 w0 (by decide) (hL h2)}}
section
variable {d : List Fa}
def stepG (d:List Fa)(f i:Nat)(s:Fo)(st:(List Dn×List (ByteArray×Nat))×List Int)(v:Int):(List Dn×List (ByteArray×Nat))×List Int:=
 ((growF d f st.1.1 st.1.2 (i+1) (givD d i s v)).1,st.2++[((growF d f st.1.1 st.1.2 (i+1) (givD d i s v)).2:Int)])
structure FoldOk (d : List Fa) (f0 : Fo) (n : Nat) (r : (List Dn × List (ByteArray × Nat)) × List Int) : Prop where
 inv:InvG d.length (flo d) (fhi d) (fun s c=>valC d c s) keyD (ResF d f0) r.1.1 r.1.2
 len:r.2.length=n
 kids:∀x∈r.2,0<=x/\ x<=20000
theorem compD_len :∀(l:List Int) (a:Int),(compD a l).length<=l.length
 | [],_=>Nat.le_refl _
 | b::l,a=>by{unfold compD;(split);{have:=compD_len l a;simp;omega};{have:=compD_len l b;simp;omega}}
theorem st_len (i:Nat)(s:Fo):(stD d i s).length<=2*s.size+1:=by
 unfold stD startsD;have h1:=numsF_len (fnm d i) s
 have h2:∀l:List Int,(compL l).length<=l.length:=by{intro l;cases l with| nil=>exact Nat.le_refl _| cons a l=>have:=compD_len l a;unfold compL;simp;omega}
 refine Nat.le_trans (h2 _) (Nat.le_trans (List.length_filter_le _ _) ?_);rw[List.length_mergeSort]
 simp
 omega
theorem st_range (hd:DomOk d){i:Nat}(hi:i<d.length){s:Fo}{x:Int}(h:x∈stD d i s):0<=x/\ x<=1000000:=by
 have hl:=hd.lohi i hi;obtain⟨ss,e,_,em⟩:=starts_law (fnm d i) hl.2.1 s;unfold stD at h;rw[e,em]at h;omega
end
theorem eqB_dg {a b:ByteArray}:eqB a b=true↔a=b:=by
 unfold eqB;rw[<-eqB_eq];simp
theorem okFrom_at :∀(d:List Fa) (l:List (ByteArray×Bool)),okFrom d l=true->∀i,(h:i<d.length)->(flagB d[i] || otherB d[i])=true/\ nameB d[i].name=true/\ l.lookup d[i].name=none/\ ∀j,(hj:j<d.length)->j<i->d[j].name≠d[i].name
 | [],_,_,i,h=>absurd h (Nat.not_lt_zero i)
 | f::d,l,ho,i,h=>by
  rw[okFrom]at ho;simp only[Bool.and_eq_true]at ho;obtain⟨⟨⟨h1,h2⟩,h3⟩,h4⟩:=ho;have ih:=okFrom_at d _ h4
  match i,h with
  | 0,_=>exact⟨h1,h2,by simpa using h3,fun j _ hj=>absurd hj (Nat.not_lt_zero j)⟩
  | i+1,h=>
   have hi:i<d.length:=by simpa using h
   obtain⟨q1,q2,q3,q4⟩:=ih i hi
   have hl:∀(l:List (ByteArray×Bool)) (k:ByteArray),(l++[(f.name,true)]).lookup k=none->l.lookup k=none/\ k≠f.name:=by{intro l;induction l with| nil=>{intro k hk;rw[List.nil_append,List.lookup_cons]at hk;refine⟨rfl,?_⟩;rintro rfl;simp at hk}| cons a l ih=>{intro k hk;obtain⟨x,y⟩:=a;rw[List.cons_append,List.lookup_cons]at hk;rw[List.lookup_cons];by_cases e:(k==x)=true;{rw[e]at hk;cases hk};{(have e:(k==x)=false:=by simpa using e);rw[e]at hk⊢;exact ih k hk}}}
   obtain⟨q5,q6⟩:=hl l _ q3;refine⟨by simpa using q1,by simpa using q2,by simpa using q5,?_⟩;intro j hj hji
   match j,hj,hji with| 0,_,_=>simpa using fun e=>q6 (Eq.symm e)| j+1,hj,hji=>simpa using q4 j (by simpa using hj) (by omega)
theorem idx_first (s:ByteArray):∀(d:List Fa) (k:Int) (i:Nat) (h:i<d.length),d[i].name=s->(∀j,(hj:j<d.length)->j<i->d[j].name≠s)->idxFrom (fun f:Fa=>eqB f.name s) d k=k+i
 | f::d,k,0,_,hs,_=>by{rw[idxFrom];have hs:f.name=s:=hs;rw[if_pos (eqB_dg.2 hs)];simp}
 | f::d,k,i+1,h,hs,hn=>by{rw[idxFrom];have h0:f.name≠s:=hn 0 (by simp) (by omega);rw[if_neg (fun e=>h0 (eqB_dg.1 e)),idx_first s d (k+1) i (by simpa using h) hs (fun j hj hji=>hn (j+1) (by simp;omega) (by omega))];omega}
theorem dom_ok {d:List Fa}(h:validD d=true):DomOk d:=by
 unfold validD at h;simp only[Bool.and_eq_true,decide_eq_true_iff]at h;have h1:=okFrom_at d [] h.1;refine⟨h.2,fun i hi=>?_,fun i hi=>?_⟩
 {obtain⟨_,q2,_,q4⟩:=h1 i hi;(have e:fnm d i=d[i].name:=by unfold fnm;rw[getD_dg _ _ _ hi]);rw[e];refine⟨?_,q2⟩;unfold idxD;rw[idx_first _ d 0 i hi rfl q4];omega}
 {obtain⟨q1,_⟩:=h1 i hi;(have e1:flo d i=d[i].lo:=by unfold flo;rw[getD_dg _ _ _ hi]);(have e2:fhi d i=d[i].hi:=by unfold fhi;rw[getD_dg _ _ _ hi]);rw[e1,e2];unfold flagB otherB at q1;simp only[Bool.or_eq_true,Bool.and_eq_true,beq_iff_eq,decide_eq_true_iff]at q1;omega}
theorem wf_nodes {d:List Fa}:∀(N:Nat) (f:Fo),f.size<=N->(∀x∈nodesL f,nodeErr d (fun _=>false) x=0)->WfF d f:=by
 intro N
 induction N with
 | zero=>intro f h;have:=f.size_pos;omega
 | succ N ih=>
  intro f hN hg;obtain⟨op,nm,c,n,ks⟩:=f;have h0:=hg _ (nodesL_self _)
  have HK:∀k∈ks,WfF d k:=fun k hk=>by{(refine ih k ?_ fun x hx=>hg x ?_);{obtain⟨j,hj,rfl⟩:=List.getElem_of_mem hk;have:=Fo.size_get ks j hj;rw[Fo.size]at hN;omega};{rw[nodesL];exact List.mem_cons_of_mem _ (nodesLL_mem ks k x hk hx)}}
  have HR:nodeErr d (fun _=>false) (.mk op nm c n ks)=if formedB (.mk op nm c n ks)=false then 1 else if op=3/\ (n<0\/1000000<n)then 10 else if(op=3/\ idxD d nm<0)\/(op=4/\ false=false)then 7 else 0:=rfl;rw[HR]at h0;clear HR;by_cases hf:formedB (.mk op nm c n ks)=false
  {rw[if_pos hf]at h0;cases h0}
  rw[if_neg hf]at h0;by_cases hr:op=3/\ (n<0\/1000000<n)
  {rw[if_pos hr]at h0;cases h0}
  rw[if_neg hr]at h0;by_cases hi:(op=3/\ idxD d nm<0)\/(op=4/\ false=false)
  {rw[if_pos hi]at h0;cases h0}
  have hf:formedB (.mk op nm c n ks)=true:=by simpa using hf
  have HF:formedB (.mk op nm c n ks)=if badB (.mk op nm c n ks)=true then false
   else if op=1\/op=2 then decide (ks.length=0)
   else if op=3 then((decide (ks.length=0)&& nameB nm)&& decide (1<=c))&& decide (c<=6)
   else if op=4 then decide (ks.length=0)&& nameB nm
   else if op=5 then decide (ks.length=1)
   else if op=6\/op=7 then decide (2<=ks.length)
   else false:=rfl
  rw[HF]at hf;by_cases hb:badB (.mk op nm c n ks)=true
  {rw[if_pos hb]at hf;cases hf}
  rw[if_neg hb]at hf
  have hb:(((op !=3)&& ((c !=0) || (n !=0))) || (((op !=3)&& (op !=4))&& !nm.toList.isEmpty))=false:=by{have:badB (.mk op nm c n ks)=(((op !=3)&& ((c !=0) || (n !=0))) || (((op !=3)&& (op !=4))&& !nm.toList.isEmpty)):=rfl;rw[<-this];simpa using hb}
  have h4:op≠4:=fun e=>hi (.inr ⟨e,rfl⟩)
  have hplain:op≠3->nm=nilB/\ c=0/\ n=0:=by{intro h3;(have e3:(op !=3)=true:=by simpa using h3);(have e4:(op !=4)=true:=by simpa using h4);rw[e3,e4,isEmpty_size]at hb;simp at hb;refine⟨?_,hb.1.1,hb.1.2⟩;obtain⟨⟨a⟩⟩:=nm;have hz:a=[]:=by{have:=congrArg (fun x:ByteArray=>x.data.toList) hb.2;exact this};subst hz;rfl}
  rw[WfF];by_cases h12:op=1\/op=2
  {rw[if_pos h12]at hf;obtain⟨a1,a2,a3⟩:=hplain (by omega);exact .inl ⟨h12,a1,a2,a3,by simpa using hf⟩}
  rw[if_neg h12]at hf;by_cases h3:op=3
  {rw[if_pos h3]at hf;simp only[Bool.and_eq_true,decide_eq_true_iff]at hf;(have h5:¬idxD d nm<0:=fun e=>hi (.inl ⟨h3,e⟩));refine .inr (.inl ⟨h3,⟨hf.1.2,hf.2⟩,?_,hf.1.1.2,⟨(idxD d nm).toNat,by omega,?_⟩,by simpa using hf.1.1.1⟩);{(have:¬(n<0\/1000000<n):=fun e=>hr ⟨h3,e⟩);omega};{(rcases idxFrom_bd (fun f:Fa=>eqB f.name nm) d 0 with h6 | h6);{exact absurd (show idxD d nm<0 by unfold idxD;omega) h5};{unfold idxD at*;omega}}}
  rw[if_neg h3,if_neg h4]at hf;obtain⟨a1,a2,a3⟩:=hplain h3;by_cases h5:op=5
  {rw[if_pos h5]at hf;exact .inr (.inr ⟨.inl ⟨h5,by simpa using hf⟩,a1,a2,a3,(WfL_iff d ks).2 HK⟩)}
  rw[if_neg h5]at hf;by_cases h6:op=6\/op=7
  {rw[if_pos h6]at hf;exact .inr (.inr ⟨.inr ⟨h6,by simpa using hf⟩,a1,a2,a3,(WfL_iff d ks).2 HK⟩)}
  {rw[if_neg h6]at hf;cases hf}
theorem first_none {d:List Fa}{kn:ByteArray->Bool}:∀l,firstErr d kn l=0->∀x∈l,nodeErr d kn x=0
 | [],_,x,hx=>by cases hx
 | a::l,h,x,hx=>by{rw[firstErr]at h;by_cases ha:nodeErr d kn a=0;{rw[if_pos ha]at h;(rcases List.mem_cons.1 hx with rfl | hx);{exact ha};{exact first_none l h x hx}};{rw[if_neg ha]at h;exact absurd h ha}}
theorem check_nodes {d:List Fa}{kn:ByteArray->Bool}{f:Fo}(h:checkF f d kn=0):f.size<=200/\ f.depth<=20/\ ∀x∈nodesL f,nodeErr d kn x=0:=by
 unfold checkF at h
 split at h
 {cases h}
 {exact⟨by omega,by omega,first_none _ h⟩}
theorem wf_check {d:List Fa}{f:Fo}(h:checkF f d (fun _=>false)=0):WfF d f:=wf_nodes f.size f (Nat.le_refl _) (check_nodes h).2.2
structure TstOk (d : List Fa) (l : List (ByteArray × Bool)) : Prop where
 nodup:(l.map (·.1)).Nodup
 known:∀p∈l,∃k:Nat,idxD d p.1=k/\ k<d.length
theorem ins_keys (s:ByteArray)(v:Bool):∀l:List (ByteArray×Bool),∀p∈ins l s v,p.1=s\/p∈l
 | [],p,h=>by rw[ins,List.mem_singleton]at h;exact .inl (by rw[h])
 | (a,x)::l,p,h=>by{rw[ins]at h;(split at h);{(rcases List.mem_cons.1 h with h | h);{exact .inl (by rw[h])};{exact .inr (List.mem_cons_of_mem _ h)}};{(rcases List.mem_cons.1 h with h | h);{exact .inr (by rw[h];exact List.mem_cons_self ..)};{(rcases ins_keys s v l p h with h | h);{exact .inl h};{exact .inr (List.mem_cons_of_mem _ h)}}}}
theorem ins_nodup (s:ByteArray)(v:Bool):∀l:List (ByteArray×Bool),(l.map (·.1)).Nodup->((ins l s v).map (·.1)).Nodup
 | [],_=>by simp[ins]
 | (a,x)::l,h=>by{rw[List.map_cons,List.nodup_cons]at h;rw[ins];(split);{rename_i he;(have:s=a:=by simpa using he);subst this;rw[List.map_cons,List.nodup_cons];exact h};{rename_i he;rw[List.map_cons,List.nodup_cons];refine⟨fun hm=>?_,ins_nodup s v l h.2⟩;obtain⟨p,hp,e⟩:=List.mem_map.1 hm;(rcases ins_keys s v l p hp with q | q);{exact he (by rw[<-q,e];simp)};{exact h.1 (List.mem_map.2 ⟨p,q,e⟩)}}}
theorem tst_ok (d:List Fa):∀(N:Nat) (f:Fo),f.size<=N->WfF d f->∀l,TstOk d l->TstOk d (tstF f l):=by
 intro N
 induction N with| zero=>intro f h;obtain⟨op,s,c,n,ks⟩:=f;rw[Fo.size]at h;omega| succ N ih=>{intro f h hw l hl;obtain⟨op,s,c,n,ks⟩:=f;have hk:=size_kid op c n s ks;have hL:WfL d ks->∀l,TstOk d l->TstOk d (tstL ks l):=by{intro hw;have:∀q:List Fo,(∀k∈q,k∈ks)->∀l,TstOk d l->TstOk d (tstL q l):=by{intro q;induction q with| nil=>intro _ l hl;exact hl| cons a q ihq=>{intro hm l hl;rw[tstL];exact ihq (fun k hk=>hm k (List.mem_cons_of_mem _ hk)) _ (ih a (by have:=hk a (hm a (List.mem_cons_self ..));omega) ((WfL_iff d ks).1 hw a (hm a (List.mem_cons_self ..))) l hl)}};exact this ks fun _ h=>h};rw[WfF]at hw;rw[tstF];(rcases hw with⟨h1,rfl,rfl,rfl,rfl⟩ | ⟨rfl,_,_,_,h3,rfl⟩ | ⟨h1,rfl,rfl,rfl,h2⟩);{rw[if_neg (by omega)];exact hl};{rw[if_pos rfl];refine⟨ins_nodup s true l hl.nodup,fun p hp=>?_⟩;(rcases ins_keys s true l p hp with q | q);{rw[q];exact h3};{exact hl.known p q}};{rw[if_neg (by omega)];exact hL h2 l hl}}
theorem tst_len {d:List Fa}{l:List (ByteArray×Bool)}(h:TstOk d l):l.length<=d.length:=by
 have h1:(l.map fun p=>(idxD d p.1).toNat).Nodup:=by{have:=h.nodup;rw[List.nodup_iff_pairwise_ne,List.pairwise_map]at this⊢;(refine this.imp_of_mem fun{a b} ha hb hne e=>hne ?_);obtain⟨k,e1,k1⟩:=h.known a ha;obtain⟨k',e2,k2⟩:=h.known b hb;rw[e1,e2,Int.toNat_natCast,Int.toNat_natCast]at e;subst e;rw[<-idx_name e1 k1, <-idx_name e2 k2]}
 have h2:=List.Nodup.length_le_of_subset h1 (l₂:=List.range d.length) (fun y hy=>by
  obtain⟨p,hp,rfl⟩:=List.mem_map.1 hy
  obtain⟨k,e1,k1⟩:=h.known p hp
  rw[e1,Int.toNat_natCast]
  exact List.mem_range.2 k1)
 rwa[List.length_map,List.length_range]at h2
section
variable {d : List Fa}
def rootB (d:List Fa)(f:Fo):(List Dn×List (ByteArray×Nat))×Nat:=growF d (d.length+1) [] [] 0 (givF nilB 0 f)
def tableB (d:List Fa)(f:Fo):List Dn:=fromD (rootB d f).1.1 (visitD (rootB d f).1.1 (d.length+1) [] (rootB d f).2)
def buildD (d:List Fa)(f:Fo):List Dn×Int:=
 if validD d=false\/checkF f d (fun _=>false)≠0 then([],1)else if 24<(tstF f []).length then([],2)else(tableB d f,0)
structure BuiltB (d : List Fa) (f : Fo) : Prop where
 cap:∀m dn,InvG d.length (flo d) (fhi d) (fun s c=>valC d c s) keyD (ResF d f) m dn->m.length<=20000
 inv:InvG d.length (flo d) (fhi d) (fun s c=>valC d c s) keyD (ResF d f) (rootB d f).1.1 (rootB d f).1.2
 root:NodeG d.length (flo d) (fhi d) (fun s c=>valC d c s) (rootB d f).1.1 0 (givF nilB 0 f) (rootB d f).2
theorem built (hd:DomOk d){f:Fo}(hw:WfF d f)(hc:cellsD d f<=19998):BuiltB d f:=by
 have hcap:∀m dn,InvG d.length (flo d) (fhi d) (fun s c=>valC d c s) keyD (ResF d f) m dn->m.length<=20000:=fun m dn h=>by{have:=build_cap hd h;omega}
 obtain⟨h1,h2,_⟩:=growF_ok hd hcap (d.length+1) [] [] 0 (givF nilB 0 f) (inv_start f) (res_first hw) (by omega);exact⟨hcap,h1,h2⟩
theorem dom_le (hd:DomOk d):∀i,i<d.length->flo d i<=fhi d i:=fun i hi=>(hd.lohi i hi).2.1
theorem chain_len {hi:Int}:∀(l:List Int) (lo:Int),chainI hi lo l->lo<=hi->(l.length:Int)<=hi-lo
 | [],_,_,h=>by simp;omega
 | c::l,lo,hc,_=>by{have:=chain_len l c hc.2.2 hc.2.1;have:=hc.1;simp;omega}
theorem table_few (hd:DomOk d){t:List Dn}(hT:TableD d.length (flo d) (fhi d) t):∀n∈t,n.kids.length<=1000001/\ n.cuts.length<=1000000:=by
 intro n hn;obtain⟨k,hk,rfl⟩:=List.getElem_of_mem hn;have hp:=hT k hk;rw[getD_dg _ _ _ hk]at hp;by_cases h:t[k].kids=[]
 {rw[h,(hp.leaf h).2];simp}
 {have hin:=hp.inner h;have hl:=hd.lohi _ hin.2.2.1;have:=chain_len _ _ hin.2.2.2.2.2.1 hl.2.1;rw[hin.2.2.2.2.1];omega}
theorem built_good (hd:DomOk d){f:Fo}(hw:WfF d f)(hb:BuiltB d f):∃M,GoodT d.length (flo d) (fhi d) (tableB d f) M/\ (∀c,fitsC d.length (flo d) (fhi d) c->M 0 c=valC d c f)/\ 0<(tableB d f).length/\ (tableB d f).length<=20000/\
  fromD (tableB d f) (visitD (tableB d f) (d.length+1) [] 0)=tableB d f:=by
 have g:=hb.inv.made.good (dom_le hd);have hx:=hb.root.lt;obtain⟨ho,u,hu⟩:=visit_order g.table hx (f:=d.length+1) (by omega);have hlen:(tableB d f).length=(visitD (rootB d f).1.1 (d.length+1) [] (rootB d f).2).length:=by unfold tableB fromD;rw[List.length_map]
 have hle:(visitD (rootB d f).1.1 (d.length+1) [] (rootB d f).2).length<=(rootB d f).1.1.length:=by{have:=List.Nodup.length_le_of_subset ho.nodup (l₂:=List.range (rootB d f).1.1.length) (fun y hy=>List.mem_range.2 (ho.inside y hy));rwa[List.length_range]at this}
 have hcap:=hb.cap _ _ hb.inv;refine⟨_,from_good g ho,fun c fc=>?_,?_,by omega,from_again g hx (by omega)⟩
 {show readT _ ((visitD (rootB d f).1.1 (d.length+1) [] (rootB d f).2).getD 0 0) c=_;rw[hu];show readT _ (rootB d f).2 c=_;rw[hb.root.means c fc];obtain⟨vs,_,_,hv⟩:=(res_first hw).from_;rw[hv c fc];congr 1}
 {rw[hlen,hu];simp}
def cutsB (hi:Int):Int->List Int->Bool
 | _,[]=>true
 | last,c::l=>if c<=last\/hi<c then false else cutsB hi c l
theorem cuts_iff (hi:Int):∀(l:List Int) (last:Int),cutsB hi last l=true↔chainI hi last l
 | [],_=>⟨fun _=>trivial,fun _=>rfl⟩
 | c::l,last=>by{unfold cutsB chainI;rw[<-cuts_iff hi l c];(split);{constructor;{intro h;cases h};{intro h;omega}};{constructor;{intro h;exact⟨by omega,by omega,h⟩};{intro h;exact h.2.2}}}
def kidsB (t:List Dn)(fact:Int):Option Int->List Int->Bool
 | _,[]=>true
 | p,k::l=>if k<0\/(t.length:Int)<=k\/p=some k\/((t.getD k.toNat default).kids≠[]/\ (t.getD k.toNat default).fact<=fact)then false else kidsB t fact (some k) l
theorem kids_iff (t:List Dn)(fact:Int):∀(l:List Int) (p:Option Int),kidsB t fact p l=true↔(match p with | none=>adjI l | some a=>adjI (a::l))/\ ∀k∈l,0<=k/\ k.toNat<t.length/\ ((t.getD k.toNat default).kids≠[]->fact<(t.getD k.toNat default).fact)
 | [],p=>by{unfold kidsB;cases p<;>simp[adjI]}
 | k::l,p=>by
  unfold kidsB;have ih:=kids_iff t fact l (some k)
  dsimp only at ih
  split
  ·next h=>
   constructor
   {intro h;cases h}
   {intro⟨h1,h2⟩;exfalso;obtain⟨a1,a2,a3⟩:=h2 k (List.mem_cons_self ..);(rcases h with h | h | h | ⟨h,h'⟩);{omega};{omega};{subst h;exact h1.1 rfl};{have:=a3 h;omega}}
  ·next h=>
   rw[ih];constructor
   ·rintro⟨h1,h2⟩
    refine⟨?_,fun x hx=>?_⟩
    ·cases p with
     | none=>exact h1
     | some a=>exact⟨fun e=>h (.inr (.inr (.inl (by rw[e])))),h1⟩
    ·rcases List.mem_cons.1 hx with rfl | hx
     ·refine⟨by omega,by omega,fun hk=>?_⟩
      rcases(show fact<(t.getD x.toNat default).fact\/(t.getD x.toNat default).fact<=fact by omega)with q | q
      {exact q}
      {exact absurd (.inr (.inr (.inr ⟨hk,q⟩))) h}
     {exact h2 x hx}
   {rintro⟨h1,h2⟩;refine⟨?_,fun x hx=>h2 x (List.mem_cons_of_mem _ hx)⟩;cases p with| none=>exact h1| some a=>exact h1.2}
def properB (d:List Fa)(t:List Dn)(n:Dn):Bool:=
 if n.kids=[]then n.fact==0&& n.cuts.isEmpty
 else if n.leaf=true\/n.fact<0\/(d.length:Int)<=n.fact\/n.cuts=[]\/n.kids.length≠n.cuts.length+1 then false
 else cutsB (fhi d n.fact.toNat) (flo d n.fact.toNat) n.cuts&& kidsB t n.fact none n.kids
theorem rank_behind {nf:Nat}{n:Dn}{i:Nat}(hi:i<nf):i<rankD nf n↔(n.kids≠[]->i<n.fact.toNat):=by
 unfold rankD;by_cases h:n.kids=[]
 {rw[if_pos h];exact⟨fun _ h'=>absurd h h',fun _=>hi⟩}
 {rw[if_neg h];exact⟨fun h' _=>h',fun h'=>h' h⟩}
theorem proper_iff (d:List Fa)(t:List Dn)(n:Dn):properB d t n=true↔ProperD d.length (flo d) (fhi d) t.length (fun j=>rankD d.length (t.getD j default)) n:=by
 unfold properB;by_cases h:n.kids=[]
 {rw[if_pos h];simp only[Bool.and_eq_true,beq_iff_eq,List.isEmpty_iff];exact⟨fun hh=>⟨fun _=>hh,fun h'=>absurd h h'⟩,fun hh=>hh.leaf h⟩}
 ·rw[if_neg h]
  split
  ·next hb=>
   constructor
   {intro hh;cases hh}
   {intro hh;obtain⟨a1,a2,a3,a4,a5,_⟩:=hh.inner h;exfalso;(rcases hb with hb | hb | hb | hb | hb);{rw[a1]at hb;cases hb};{omega};{omega};{exact a4 hb};{exact hb a5}}
  ·next hb=>
   have hb1:n.leaf=false:=by{cases e:n.leaf with| false=>rfl| true=>exact absurd (.inl e) hb}
   have hb2:0<=n.fact/\ n.fact.toNat<d.length:=by omega
   rw[Bool.and_eq_true,cuts_iff,kids_iff]
   have hr:∀k:Int,(n.fact.toNat<rankD d.length (t.getD k.toNat default)↔((t.getD k.toNat default).kids≠[]->n.fact<(t.getD k.toNat default).fact)):=by{intro k;rw[rank_behind hb2.2];constructor;{intro hh hk;have:=hh hk;omega};{intro hh hk;have:=hh hk;omega}}
   constructor
   {rintro⟨h1,h2,h3⟩;refine⟨fun h'=>absurd h' h,fun _=>⟨hb1,hb2.1,hb2.2,fun e=>hb (.inr (.inr (.inr (.inl e)))),?_,h1,h2,fun k hk=>?_⟩⟩;{omega};{obtain⟨b1,b2,b3⟩:=h3 k hk;exact⟨b1,b2,(hr k).2 b3⟩}}
   {intro hh;obtain⟨_,_,_,_,_,a6,a7,a8⟩:=hh.inner h;refine⟨a6,a7,fun k hk=>?_⟩;obtain⟨b1,b2,b3⟩:=a8 k hk;exact⟨b1,b2,(hr k).1 b3⟩}
theorem table_iff (d:List Fa)(t:List Dn):t.all (properB d t)=true↔TableD d.length (flo d) (fhi d) t:=by
 rw[List.all_eq_true];constructor
 {intro h k hk;refine(proper_iff d t _).1 (h _ ?_);rw[getD_dg _ _ _ hk];exact List.getElem_mem hk}
 {intro h n hn;obtain⟨k,hk,rfl⟩:=List.getElem_of_mem hn;have:=h k hk;rw[getD_dg _ _ _ hk]at this;exact(proper_iff d t _).2 this}
def validG (d:List Fa)(t:List Dn):Bool:=
 validD d&& !t.isEmpty&& decide (t.length<=20000)&& t.all (properB d t)&& decide t.Nodup&& decide (fromD t (visitD t (d.length+1) [] 0)=t)
structure ValidG (d : List Fa) (t : List Dn) : Prop where
 dom:validD d=true
 pos:0<t.length
 few:t.length<=20000
 table:TableD d.length (flo d) (fhi d) t
 nodup:t.Nodup
 again:fromD t (visitD t (d.length+1) [] 0)=t
theorem valid_iff {d:List Fa}{t:List Dn}:validG d t=true↔ValidG d t:=by
 unfold validG;simp only[Bool.and_eq_true,decide_eq_true_iff,table_iff,Bool.not_eq_true',List.isEmpty_eq_false_iff];constructor
 {rintro⟨⟨⟨⟨⟨h1,h2⟩,h3⟩,h4⟩,h5⟩,h6⟩;exact⟨h1,List.length_pos_iff.2 h2,h3,h4,h5,h6⟩}
 {intro h;exact⟨⟨⟨⟨⟨h.dom,List.length_pos_iff.1 h.pos⟩,h.few⟩,h.table⟩,h.nodup⟩,h.again⟩}
def readG (d:List Fa)(t:List Dn):Nat->(Nat->Int)->Bool:=readW t (d.length+1)
theorem ValidG.good {t:List Dn}(h:ValidG d t):GoodT d.length (flo d) (fhi d) t (readG d t):=table_good h.table h.nodup (dom_le (dom_ok h.dom))
theorem built_valid (hv:validD d=true){f:Fo}(hw:WfF d f)(hb:BuiltB d f):ValidG d (tableB d f):=by
 obtain⟨M,g,_,h1,h2,h3⟩:=built_good (dom_ok hv) hw hb;exact⟨hv,h1,h2,g.table,g.nodup,h3⟩
theorem read_one {nf:Nat}{lo hi:Nat->Int}{t:List Dn}{M M':Nat->(Nat->Int)->Bool}(g:GoodT nf lo hi t M)(g':GoodT nf lo hi t M'):∀(N k:Nat),k<t.length->nf-rankD nf (t.getD k default)<=N->∀c,fitsC nf lo hi c->M k c=M' k c:=by
 intro N
 induction N with| zero=>{intro k hk hN c fc;rw[g.reads k hk c fc,g'.reads k hk c fc];by_cases h:(t.getD k default).kids=[];{rw[if_pos h,if_pos h]};{exfalso;have:=((g.table k hk).inner h).2.2.1;unfold rankD at hN;rw[if_neg h]at hN;omega}}| succ N ih=>{intro k hk hN c fc;rw[g.reads k hk c fc,g'.reads k hk c fc];by_cases h:(t.getD k default).kids=[];{rw[if_pos h,if_pos h]};{rw[if_neg h,if_neg h];have hin:=(g.table k hk).inner h;obtain⟨b1,b2,b3⟩:=hin.2.2.2.2.2.2.2 _ (kidAt_mem (g.table k hk) h (c (t.getD k default).fact.toNat));refine ih _ b2 ?_ c fc;unfold rankD at hN b3⊢;rw[if_neg h]at hN;omega}}
theorem built_means (hv:validD d=true){f:Fo}(hw:WfF d f)(hb:BuiltB d f){c:Nat->Int}(fc:fitsC d.length (flo d) (fhi d) c):readG d (tableB d f) 0 c=valC d c f:=by
 obtain⟨M,g,h0,h1,_⟩:=built_good (dom_ok hv) hw hb;rw[<-h0 c fc];exact read_one (built_valid hv hw hb).good g _ 0 h1 (Nat.le_refl _) c fc
theorem valid_same {t t':List Dn}(h:ValidG d t)(h':ValidG d t')(he:∀c,fitsC d.length (flo d) (fhi d) c->readG d t 0 c=readG d t' 0 c):t=t':=by
 rw[<-h.again, <-h'.again];exact same_diagram h.good h'.good h.pos h'.pos he (d.length+1)
end
end Go.Proofs.YtihniipjfdenbaaGreatDoor
