/- The walks of ask and step. No conditions. -/
import Derived.Test.YtihniipjfdenbaaGreatDoorDgVH
set_option maxRecDepth 100000
set_option maxHeartbeats 4000000
namespace Go.Proofs.YtihniipjfdenbaaGreatDoor
section
variable {nf : Nat} {lo hi : Nat -> Int}
structure CellF (nf : Nat) (lo hi : Nat -> Int) (ss : Nat -> List Int) (F : (Nat -> Int) -> Bool) : Prop where
 chain:∀i,i<nf->chainI (hi i) (lo i) (ss i)
 same:∀c c',fitsC nf lo hi c->fitsC nf lo hi c'->(∀j,j<nf->nextI (ss j) (c j)=nextI (ss j) (c' j))->F c=F c'
end
section
section
variable {nf : Nat} {lo hi : Nat -> Int} {a b : List Dn} {A B F H : (Nat -> Nat -> Int) -> Bool}
end
variable {nf : Nat} {lo hi : Nat -> Int} {a b : List Dn} {A B : Nat -> (Nat -> Int) -> Bool} {F H : (Nat -> Int) -> Bool}
def sJ (nf:Nat)(lo:Nat->Int)(a b:List Dn)(x y:Nat):List Int:=
 compL ((lo (minR nf a b x y)::((if rankD nf (a.getD x default)=minR nf a b x y then(a.getD x default).cuts else[])++(if rankD nf (b.getD y default)=minR nf a b x y then(b.getD y default).cuts else[]))).mergeSort fun x y=>decide (x<=y))
theorem cuts_in (g:GoodT nf lo hi a A){x i:Nat}(hx:x<a.length)(hr:rankD nf (a.getD x default)=i):∀c∈(a.getD x default).cuts,lo i<=c/\ c<=hi i:=by
 intro c hc;by_cases hk:(a.getD x default).kids=[]
 {rw[((g.table x hx).leaf hk).2]at hc;cases hc}
 {unfold rankD at hr;rw[if_neg hk]at hr;have hin:=(g.table x hx).inner hk;have:=chain_mem _ _ hin.2.2.2.2.2.1 c hc;rw[hr]at this;omega}
theorem sJ_ok (gA:GoodT nf lo hi a A)(gB:GoodT nf lo hi b B){x y:Nat}(hx:x<a.length)(hy:y<b.length)(hi':minR nf a b x y<nf):∃ss,sJ nf lo a b x y=lo (minR nf a b x y)::ss/\ chainI (hi (minR nf a b x y)) (lo (minR nf a b x y)) ss/\
   ((a.getD x default).kids≠[]->(a.getD x default).fact=(minR nf a b x y:Nat)->∀c∈(a.getD x default).cuts,c∈lo (minR nf a b x y)::ss)/\
   ((b.getD y default).kids≠[]->(b.getD y default).fact=(minR nf a b x y:Nat)->∀c∈(b.getD y default).cuts,c∈lo (minR nf a b x y)::ss):=by
 unfold sJ;generalize hi0:minR nf a b x y=i at*
 generalize hl:(lo i::((if rankD nf (a.getD x default)=i then(a.getD x default).cuts else[])++(if rankD nf (b.getD y default)=i then(b.getD y default).cuts else[])))=l
 have hml:∀c∈l,lo i<=c/\ c<=hi i:=by{intro c hc;rw[<-hl]at hc;(rcases List.mem_cons.1 hc with rfl | hc);{exact⟨Int.le_refl _,gA.dom i hi'⟩};{(rcases List.mem_append.1 hc with hc | hc);{(split at hc);{next hr=>exact cuts_in gA hx hr c hc};{cases hc}};{(split at hc);{next hr=>exact cuts_in gB hy hr c hc};{cases hc}}}}
 have hs:(l.mergeSort fun x y=>decide (x<=y)).Pairwise (· <= ·):=by{have:=List.pairwise_mergeSort (le:=fun x y:Int=>decide (x<=y)) (fun a b c h1 h2=>by simp at*;omega) (fun a b=>by simp;omega) l;exact this.imp fun h=>by simpa using h}
 obtain⟨ls,ss,e1,e2,e3,e4⟩:=starts_chain hs (fun x hx=>hml x (List.mem_mergeSort.1 hx)) (List.mem_mergeSort.2 (by rw[<-hl];exact List.mem_cons_self ..));have hmem:∀c∈l,c∈lo i::ss:=fun c hc=>(e4 c).2 (List.mem_mergeSort.2 hc)
 refine⟨ss,by rw[e1,e2];rfl,e3,fun hk hf c hc=>?_,fun hk hf c hc=>?_⟩
 {refine hmem c ?_;rw[<-hl];refine List.mem_cons_of_mem _ (List.mem_append.2 (.inl ?_));(have:rankD nf (a.getD x default)=i:=by unfold rankD;rw[if_neg hk,hf,Int.toNat_natCast]);rw[if_pos this];exact hc}
 {refine hmem c ?_;rw[<-hl];refine List.mem_cons_of_mem _ (List.mem_append.2 (.inr ?_));(have:rankD nf (b.getD y default)=i:=by unfold rankD;rw[if_neg hk,hf,Int.toNat_natCast]);rw[if_pos this];exact hc}
structure AndB (d : List Fa) (a b : List Dn) : Prop where
 va:ValidG d a
 vb:ValidG d b
 ex:∃R:Nat->Nat->Prop,R 0 0/\ (∀m dn,InvJ d.length (flo d) (fhi d) a b (readG d a) (readG d b) R m dn->m.length<=20000)/\ (∀x y,R x y->x<a.length/\ y<b.length)/\
  ∀x y v,R x y->minR d.length a b x y<d.length->v∈sJ d.length (flo d) a b x y->R (stepN a x (minR d.length a b x y) v) (stepN b y (minR d.length a b x y) v)
variable {d : List Fa}
theorem andB_few (va:ValidG d a)(vb:ValidG d b)(h:a.length*b.length<=19998):AndB d a b:=by
 refine⟨va,vb,fun x y=>x<a.length/\ y<b.length,⟨va.pos,vb.pos⟩,fun m dn hI=>?_,fun x y h=>h,fun x y v h hi' hv=>?_⟩
 {have:=cap_pairs hI va.good.dom (fun _ _ h=>h);omega}
 {exact⟨(stepN_lt va.good h.1 hi' (Nat.min_le_left _ _) v).1,(stepN_lt vb.good h.2 hi' (Nat.min_le_right _ _) v).1⟩}
def bothG (d:List Fa)(a b:List Dn)(f:Nat)(m:List Dn)(dn:MemoJ)(x y:Nat):(List Dn×MemoJ)×Nat:=bothD d.length a b (sJ d.length (flo d) a b) 20000 f m dn x y
def rootJ (d:List Fa)(a b:List Dn):(List Dn×MemoJ)×Nat:=bothG d a b (d.length+1) [] [] 0 0
def tableJ (d:List Fa)(a b:List Dn):List Dn:=fromD (rootJ d a b).1.1 (visitD (rootJ d a b).1.1 (d.length+1) [] (rootJ d a b).2)
theorem inv_firstJ (R:Nat->Nat->Prop)(A B:Nat->(Nat->Int)->Bool):InvJ nf lo hi a b A B R [] []:=⟨Made.nil,fun k hk=>absurd hk (Nat.not_lt_zero k),fun x y k h=>by cases h⟩
theorem rootJ_ok (h:AndB d a b):∃R,InvJ d.length (flo d) (fhi d) a b (readG d a) (readG d b) R (rootJ d a b).1.1 (rootJ d a b).1.2/\ NodeJ d.length (flo d) (fhi d) a b (readG d a) (readG d b) (rootJ d a b).1.1 0 0 (rootJ d a b).2/\ (rootJ d a b).1.1.length<=20000:=by
 obtain⟨R,h0,hcap,hl,hs⟩:=h.ex;obtain⟨h1,h2,_⟩:=both_ok h.va.good h.vb.good (R:=R) (S:=sJ d.length (flo d) a b) (L:=20000) hcap hl hs (fun x y hR hi'=>sJ_ok h.va.good h.vb.good (hl x y hR).1 (hl x y hR).2 hi') (d.length+1) [] [] 0 0 (inv_firstJ _ _ _) h0 (by omega);exact⟨R,h1,h2,hcap _ _ h1⟩
end
section
variable {nf : Nat} {lo hi : Nat -> Int} {a b : List Dn} {A B : Nat -> (Nat -> Int) -> Bool}
def innN (m:List Dn):Nat:=(m.filter fun n=> !n.kids.isEmpty).length
theorem innN_append (m u:List Dn):innN (m++u)=innN m+innN u:=by unfold innN;rw[List.filter_append,List.length_append]
theorem innN_le (m:List Dn):innN m<=m.length:=List.length_filter_le _ _
theorem innN_add (m:List Dn)(n:Dn):innN (addD m n).1<=innN m+(if n.kids=[]then 0 else 1):=by
 unfold addD;by_cases h:n∈m
 {rw[if_pos h];show innN m<=_;omega}
 {rw[if_neg h];show innN (m++[n])<=_;rw[innN_append];unfold innN;by_cases hk:n.kids=[];{rw[if_pos hk];simp[hk]};{rw[if_neg hk];have:=List.length_filter_le (fun n:Dn=> !n.kids.isEmpty) [n];simp only[List.length_singleton]at this;omega}}
theorem innN_inner (m:List Dn)(i:Int)(ss ks:List Int):innN (innerD m i ss ks).1<=innN m+1:=by
 unfold innerD
 dsimp only
 split
 {show innN m<=_;omega}
 {have:=innN_add m ⟨i,(dedI (ks.getD 0 0) (ss.tail.zip ks.tail)).1,ks.getD 0 0::(dedI (ks.getD 0 0) (ss.tail.zip ks.tail)).2,false⟩;(split at this);{omega};{exact this}}
theorem innN_len {m:List Dn}(h:Made nf lo hi m):m.length<=innN m+2:=by
 have e:m.length=(m.filter fun n=> !n.kids.isEmpty).length+(m.filter fun n=>decide (n.kids=[])).length:=by{have:=List.length_eq_countP_add_countP (fun n:Dn=> !n.kids.isEmpty) (l:=m);rw[List.countP_eq_length_filter,List.countP_eq_length_filter]at this;simpa using this}
 have q:(m.filter fun n=>decide (n.kids=[])).length<=[(⟨0,[],[],false⟩:Dn),⟨0,[],[],true⟩].length:=by{(refine List.Nodup.length_le_of_subset (h.nodup.sublist (List.filter_sublist ..)) fun n hn=>?_);obtain⟨h1,h2⟩:=List.mem_filter.1 hn;obtain⟨k,hk,rfl⟩:=List.getElem_of_mem h1;have hp:=h.table k hk;rw[getD_dg _ _ _ hk]at hp;(have hz:m[k].kids=[]:=by simpa using h2);have:=hp.leaf hz;(rcases hm:m[k]with⟨f,c,ks,bl⟩);rw[hm]at hz this;simp only at hz this;obtain⟨rfl,rfl⟩:=this;subst hz;cases bl<;>simp}
 unfold innN;simp only[List.length_cons,List.length_nil]at q;omega
structure InvX (nf : Nat) (lo hi : Nat -> Int) (a b : List Dn) (A B : Nat -> (Nat -> Int) -> Bool) (L : Nat) (m : List Dn) (dn : MemoJ) : Prop where
 made:Made nf lo hi m
 memo:∀x y k,dn.lookup (x,y)=some k->k<m.length/\ minR nf a b x y<=rankD nf (m.getD k default)
 inv:m.length<=L->InvJ nf lo hi a b A B (fun x y=>x<a.length/\ y<b.length) m dn
theorem invX_nil (L:Nat):InvX nf lo hi a b A B L [] []:=⟨Made.nil,fun _ _ _ h=>(by cases h),fun _=>inv_firstJ _ _ _⟩
theorem getD_more {m:List Dn}{k:Nat}(h:k<m.length)(u:List Dn):(m++u).getD k default=m.getD k default:=by
 rw[getD_dg _ _ _ (by rw[List.length_append];omega),getD_dg _ _ _ h,List.getElem_append_left h]
structure MadeX (nf : Nat) (lo hi : Nat -> Int) (a b : List Dn) (A B : Nat -> (Nat -> Int) -> Bool) (L f : Nat) (m : List Dn) (x y : Nat) (r : (List Dn × MemoJ) × Nat) : Prop where
 inv:InvX nf lo hi a b A B L r.1.1 r.1.2
 lt:r.2<r.1.1.length
 rank:minR nf a b x y<=rankD nf (r.1.1.getD r.2 default)
 node:r.1.1.length<=L->NodeJ nf lo hi a b A B r.1.1 x y r.2
 grow:∃u,r.1.1=m++u
 few:innN r.1.1<=max (innN m) (L+f)
def stepB (nf:Nat)(a b:List Dn)(S:Nat->Nat->List Int)(L f x y:Nat)(st:(List Dn×MemoJ)×List Int)(v:Int):(List Dn×MemoJ)×List Int:=
 ((bothD nf a b S L f st.1.1 st.1.2 (stepN a x (minR nf a b x y) v) (stepN b y (minR nf a b x y) v)).1,st.2++[((bothD nf a b S L f st.1.1 st.1.2 (stepN a x (minR nf a b x y) v) (stepN b y (minR nf a b x y) v)).2:Int)])
structure FoldX (nf : Nat) (lo hi : Nat -> Int) (a b : List Dn) (A B : Nat -> (Nat -> Int) -> Bool) (L f : Nat) (m : List Dn) (x y : Nat) (pre : List Int) (r : (List Dn × MemoJ) × List Int) : Prop where
 inv:InvX nf lo hi a b A B L r.1.1 r.1.2
 len:r.2.length=pre.length
 kids:∀j,j<r.2.length->0<=r.2.getD j 0/\ (r.2.getD j 0).toNat<r.1.1.length/\ minR nf a b x y<rankD nf (r.1.1.getD (r.2.getD j 0).toNat default)/\
  (r.1.1.length<=L->NodeJ nf lo hi a b A B r.1.1 (stepN a x (minR nf a b x y) (pre.getD j 0)) (stepN b y (minR nf a b x y) (pre.getD j 0)) (r.2.getD j 0).toNat)
 grow:∃u,r.1.1=m++u
 few:innN r.1.1<=max (innN m) (L+f)
theorem foldX_step (ga:GoodT nf lo hi a A)(gb:GoodT nf lo hi b B){S:Nat->Nat->List Int}{L f:Nat}
  (ih:∀(m:List Dn) (dn:MemoJ) (x y:Nat),InvX nf lo hi a b A B L m dn->x<a.length->y<b.length->nf-minR nf a b x y<f->MadeX nf lo hi a b A B L f m x y (bothD nf a b S L f m dn x y))
  {x y:Nat} (hx:x<a.length) (hy:y<b.length) (hi':minR nf a b x y<nf) (hf:nf-minR nf a b x y<f+1) {m:List Dn} {pre:List Int} {st:(List Dn×MemoJ)×List Int} (h:FoldX nf lo hi a b A B L f m x y pre st) (v:Int):
  FoldX nf lo hi a b A B L f m x y (pre++[v]) (stepB nf a b S L f x y st v):=by
 have hra:minR nf a b x y<=rankD nf (a.getD x default):=Nat.min_le_left _ _;have hrb:minR nf a b x y<=rankD nf (b.getD y default):=Nat.min_le_right _ _;have s1:=stepN_lt ga hx hi' hra v;have s2:=stepN_lt gb hy hi' hrb v
 have hmin:minR nf a b x y<minR nf a b (stepN a x (minR nf a b x y) v) (stepN b y (minR nf a b x y) v):=by{show _<min _ _;omega}
 have hr:=ih st.1.1 st.1.2 _ _ h.inv s1.1 s2.1 (by
  have:minR nf a b (stepN a x (minR nf a b x y) v) (stepN b y (minR nf a b x y) v)<=nf:=Nat.le_trans (Nat.min_le_left _ _) (rank_le_nf ga.table s1.1)
  omega)
 unfold stepB;generalize bothD nf a b S L f st.1.1 st.1.2 (stepN a x (minR nf a b x y) v) (stepN b y (minR nf a b x y) v)=r at*
 obtain⟨u,hu⟩:=hr.grow;obtain⟨u0,hu0⟩:=h.grow;have hlen:st.1.1.length<=r.1.1.length:=by rw[hu,List.length_append];omega
 refine⟨hr.inv,by simp[h.len],fun j hj=>?_,⟨u0++u,by show r.1.1=_;rw[hu,hu0,List.append_assoc]⟩,?_⟩
 {have hj:j<(st.2++[(r.2:Int)]).length:=hj;rw[List.length_append]at hj;(rcases Nat.lt_or_ge j st.2.length with hj1 | hj1);{obtain⟨k1,k2,k3,k4⟩:=h.kids j hj1;show 0<=(st.2++[(r.2:Int)]).getD j 0/\ ((st.2++[(r.2:Int)]).getD j 0).toNat<r.1.1.length/\ minR nf a b x y<rankD nf (r.1.1.getD ((st.2++[(r.2:Int)]).getD j 0).toNat default)/\ (r.1.1.length<=L->NodeJ nf lo hi a b A B r.1.1 _ _ ((st.2++[(r.2:Int)]).getD j 0).toNat);rw[getD_snoc _ _ _ hj1,getD_snoc _ _ _ (show j<pre.length by have:=h.len;omega)];refine⟨k1,by omega,?_,fun hL=>?_⟩;{rw[hu,getD_more k2];exact k3};{have q:=(k4 (by omega)).more u;rw[<-hu]at q;exact q}};{(have hje:j=st.2.length:=by simp at hj;omega);subst hje;show 0<=(st.2++[(r.2:Int)]).getD st.2.length 0/\ ((st.2++[(r.2:Int)]).getD st.2.length 0).toNat<r.1.1.length/\ minR nf a b x y<rankD nf (r.1.1.getD ((st.2++[(r.2:Int)]).getD st.2.length 0).toNat default)/\ (r.1.1.length<=L->NodeJ nf lo hi a b A B r.1.1 _ _ ((st.2++[(r.2:Int)]).getD st.2.length 0).toNat);rw[getD_snoc_last,h.len,getD_snoc_last,Int.toNat_natCast];exact⟨Int.natCast_nonneg _,hr.lt,Nat.lt_of_lt_of_le hmin hr.rank,hr.node⟩}}
 {have h1:=hr.few;have h2:=h.few;show innN r.1.1<=_;omega}
theorem foldX_all (ga:GoodT nf lo hi a A)(gb:GoodT nf lo hi b B){S:Nat->Nat->List Int}{L f:Nat}
  (ih:∀(m:List Dn) (dn:MemoJ) (x y:Nat),InvX nf lo hi a b A B L m dn->x<a.length->y<b.length->nf-minR nf a b x y<f->MadeX nf lo hi a b A B L f m x y (bothD nf a b S L f m dn x y))
  {x y:Nat} (hx:x<a.length) (hy:y<b.length) (hi':minR nf a b x y<nf) (hf:nf-minR nf a b x y<f+1) {m:List Dn}:∀(l pre:List Int) (st:(List Dn×MemoJ)×List Int),FoldX nf lo hi a b A B L f m x y pre st->
  FoldX nf lo hi a b A B L f m x y (pre++l) (l.foldl (stepB nf a b S L f x y) st)
 | [],pre,st,h=>by rw[List.append_nil];exact h
 | v::l,pre,st,h=>by{have q:=foldX_all ga gb ih hx hy hi' hf l (pre++[v]) _ (foldX_step ga gb ih hx hy hi' hf h v);rw[List.append_assoc]at q;exact q}
theorem leafX (ga:GoodT nf lo hi a A)(gb:GoodT nf lo hi b B){L f:Nat}{m:List Dn}{dn:MemoJ}{x y:Nat}(hI:InvX nf lo hi a b A B L m dn)(hx:x<a.length)(hy:y<b.length)(hend:minR nf a b x y=nf\/L<m.length):
  MadeX nf lo hi a b A B L f m x y (((addD m ⟨0,[],[],(a.getD x default).leaf&& (b.getD y default).leaf⟩).1,dn),(addD m ⟨0,[],[],(a.getD x default).leaf&& (b.getD y default).leaf⟩).2):=by
 have hle:minR nf a b x y<=nf:=Nat.le_trans (Nat.min_le_left _ _) (rank_le_nf ga.table hx);have ho:OverD nf lo hi m ⟨0,[],[],(a.getD x default).leaf&& (b.getD y default).leaf⟩:=⟨fun _=>⟨rfl,rfl⟩,fun h=>absurd rfl h⟩;obtain⟨h1,h2,h3,u,h4⟩:=addD_made hI.made ho;have hin:=innN_add m ⟨0,[],[],(a.getD x default).leaf&& (b.getD y default).leaf⟩;rw[if_pos rfl]at hin;have hlen:m.length<=(addD m ⟨0,[],[],(a.getD x default).leaf&& (b.getD y default).leaf⟩).1.length:=by rw[h4,List.length_append];omega
 have hnode:(addD m ⟨0,[],[],(a.getD x default).leaf&& (b.getD y default).leaf⟩).1.length<=L->NodeJ nf lo hi a b A B (addD m ⟨0,[],[],(a.getD x default).leaf&& (b.getD y default).leaf⟩).1 x y (addD m ⟨0,[],[],(a.getD x default).leaf&& (b.getD y default).leaf⟩).2:=by{intro hL;(have hnf:minR nf a b x y=nf:=by rcases hend with h | h;exact h;omega);refine⟨h2,?_,?_⟩;{rw[h3];unfold rankD;rw[if_pos rfl];exact hle};{intro c fc;rw[h1.reads _ h2 c fc,h3];have ha:(a.getD x default).kids=[]:=by{apply Classical.byContradiction;intro h;have h5:=((ga.table x hx).inner h).2.2.1;have h6:minR nf a b x y<=rankD nf (a.getD x default):=Nat.min_le_left _ _;unfold rankD at h6;rw[if_neg h]at h6;omega};have hb:(b.getD y default).kids=[]:=by{apply Classical.byContradiction;intro h;have h5:=((gb.table y hy).inner h).2.2.1;have h6:minR nf a b x y<=rankD nf (b.getD y default):=Nat.min_le_right _ _;unfold rankD at h6;rw[if_neg h]at h6;omega};rw[ga.reads x hx c fc,gb.reads y hy c fc,if_pos ha,if_pos hb];rfl}}
 refine⟨⟨h1,fun x' y' k hk=>?_,fun hL=>?_⟩,h2,?_,hnode,⟨u,h4⟩,by show innN (addD m _).1<=_;omega⟩
 {obtain⟨q1,q2⟩:=hI.memo x' y' k hk;show k<(addD m _).1.length/\ _<=rankD nf ((addD m _).1.getD k default);refine⟨by omega,?_⟩;rw[h4,getD_more q1];exact q2}
 {have hIJ:=hI.inv (by have:(addD m _).1.length<=L:=hL;omega);refine⟨h1,from_add ho hI.made hIJ.from_ (fun h=>absurd rfl h),?_⟩;intro x' y' k' hl;show NodeJ nf lo hi a b A B (addD m _).1 x' y' k';rw[h4];exact(hIJ.memo x' y' k' hl).more u}
 {show minR nf a b x y<=rankD nf ((addD m _).1.getD (addD m _).2 default);rw[h3];unfold rankD;rw[if_pos rfl];exact hle}
theorem innerX (ga:GoodT nf lo hi a A)(gb:GoodT nf lo hi b B){L f:Nat}{m:List Dn}{x y:Nat}(hx:x<a.length)(hy:y<b.length)(hi':minR nf a b x y<nf)(hm:m.length<=L){ss:List Int}(hch:chainI (hi (minR nf a b x y)) (lo (minR nf a b x y)) ss)
  (hsa:(a.getD x default).kids≠[]->(a.getD x default).fact=(minR nf a b x y:Nat)->∀c∈(a.getD x default).cuts,c∈lo (minR nf a b x y)::ss)
  (hsb:(b.getD y default).kids≠[]->(b.getD y default).fact=(minR nf a b x y:Nat)->∀c∈(b.getD y default).cuts,c∈lo (minR nf a b x y)::ss)
  {r:(List Dn×MemoJ)×List Int} (hr:FoldX nf lo hi a b A B L f m x y (lo (minR nf a b x y)::ss) r):
  MadeX nf lo hi a b A B L (f+1) m x y (((innerD r.1.1 (minR nf a b x y) (lo (minR nf a b x y)::ss) r.2).1,((x,y),(innerD r.1.1 (minR nf a b x y) (lo (minR nf a b x y)::ss) r.2).2)::r.1.2),(innerD r.1.1 (minR nf a b x y) (lo (minR nf a b x y)::ss) r.2).2):=by
 obtain⟨k1,k2,k3,⟨u,k4⟩,k5⟩:=hr;obtain⟨⟨rm,rd⟩,rk⟩:=r;simp only at k1 k2 k3 k4 k5;obtain⟨k0,ks,rfl⟩:∃k0 ks,rk=k0::ks:=by cases rk with | nil=>simp at k2 | cons p q=>exact⟨p,q,rfl⟩
 have hl:ks.length=ss.length:=by simpa using k2
 have hkk:∀k∈k0::ks,0<=k/\ k.toNat<rm.length/\ minR nf a b x y<rankD nf (rm.getD k.toNat default):=by{intro k hm;obtain⟨j,hj,rfl⟩:=List.mem_iff_getElem.1 hm;have h1:=k3 j hj;rw[getD_dg _ _ _ hj]at h1;exact⟨h1.1,h1.2.1,h1.2.2.1⟩}
 have hin:=innerD_made k1.made hi' (lo (minR nf a b x y)) k0 ss ks hl hch hkk;have hinn:=innN_inner rm (minR nf a b x y) (lo (minR nf a b x y)::ss) (k0::ks);have hml:=innN_le m;obtain⟨q1,q2,⟨w,q3⟩,q4,_⟩:=hin;have hlen:rm.length<=(innerD rm (minR nf a b x y) (lo (minR nf a b x y)::ss) (k0::ks)).1.length:=by rw[q3,List.length_append];omega
 have hme:(innerD rm (minR nf a b x y) (lo (minR nf a b x y)::ss) (k0::ks)).1.length<=L->NodeJ nf lo hi a b A B (innerD rm (minR nf a b x y) (lo (minR nf a b x y)::ss) (k0::ks)).1 x y (innerD rm (minR nf a b x y) (lo (minR nf a b x y)::ss) (k0::ks)).2:=fun hL=>⟨q2,q4,joint_means ga gb hx hy k1.made hi' k0 ss ks hl hch hkk hsa hsb (fun j hj c fc=>((k3 j hj).2.2.2 (by omega)).means c fc)⟩
 refine⟨⟨q1,?_,?_⟩,q2,q4,hme,⟨u++w,by show(innerD rm _ _ _).1=_;rw[q3,k4,List.append_assoc]⟩,?_⟩
 {intro x' y' k' hlk';show k'<(innerD rm (minR nf a b x y) (lo (minR nf a b x y)::ss) (k0::ks)).1.length/\ _<=rankD nf ((innerD rm (minR nf a b x y) (lo (minR nf a b x y)::ss) (k0::ks)).1.getD k' default);have hlk':List.lookup (x',y') (((x,y),(innerD rm (minR nf a b x y) (lo (minR nf a b x y)::ss) (k0::ks)).2)::rd)=some k':=hlk';rw[List.lookup_cons]at hlk';by_cases he:(x',y')=(x,y);{rw[he]at hlk';simp only[beq_self_eq_true]at hlk';injection he with e1 e2;subst e1 e2;injection hlk' with e3;subst e3;exact⟨q2,q4⟩};{(have:((x',y')==(x,y))=false:=by simpa using he);rw[this]at hlk';obtain⟨p1,p2⟩:=k1.memo x' y' k' hlk';refine⟨by omega,?_⟩;rw[q3,getD_more p1];exact p2}}
 ·intro hL
  have hL:(innerD rm (minR nf a b x y) (lo (minR nf a b x y)::ss) (k0::ks)).1.length<=L:=hL;have hIJ:=k1.inv (by omega);have hnode:=hme hL;refine⟨q1,?_,?_⟩
  ·show ∀k,k<(innerD rm (minR nf a b x y) (lo (minR nf a b x y)::ss) (k0::ks)).1.length->_
   have hsame:=hnode.means;unfold innerD at hsame⊢;simp only[]at hsame⊢
   split
   {exact hIJ.from_}
   ·next hne=>
    rw[if_neg hne]at hsame;refine from_add ?_ k1.made hIJ.from_ (fun _=>⟨x,y,⟨hx,hy⟩,rfl,hsame⟩);have hz1:(ss.zip ks).map Prod.fst=ss:=List.map_fst_zip (by omega);have hz2:(ss.zip ks).map Prod.snd=ks:=List.map_snd_zip (by omega);have hdl:=dedI_len (ss.zip ks) k0;refine⟨fun he=>by simp at he,fun _=>⟨rfl,Int.natCast_nonneg _,by simpa using hi',?_,by simp[hdl],?_,dedI_adj _ _,?_⟩⟩
    {intro he;apply hne;have he:(dedI k0 (ss.zip ks)).1=[]:=he;rw[he]at hdl;(have:(dedI k0 (ss.zip ks)).2=[]:=by simpa using hdl);exact this}
    {have:=dedI_chain (hi':=hi (minR nf a b x y)) (ss.zip ks) k0 (lo (minR nf a b x y)) (by rw[hz1];exact hch);simpa using this}
    {intro k hm;(rcases List.mem_cons.1 hm with hm | hm);{rw[hm];simpa using hkk k0 (List.mem_cons_self ..)};{have h5:=dedI_mem (ss.zip ks) k0 k hm;rw[hz2]at h5;simpa using hkk k (List.mem_cons_of_mem _ h5)}}
  {intro x' y' k' hlk';show NodeJ nf lo hi a b A B (innerD rm (minR nf a b x y) (lo (minR nf a b x y)::ss) (k0::ks)).1 x' y' k';have hlk':List.lookup (x',y') (((x,y),(innerD rm (minR nf a b x y) (lo (minR nf a b x y)::ss) (k0::ks)).2)::rd)=some k':=hlk';rw[List.lookup_cons]at hlk';by_cases he:(x',y')=(x,y);{rw[he]at hlk';simp only[beq_self_eq_true]at hlk';injection he with e1 e2;subst e1 e2;injection hlk' with e3;subst e3;exact hnode};{(have:((x',y')==(x,y))=false:=by simpa using he);rw[this]at hlk';rw[q3];exact(hIJ.memo x' y' k' hlk').more w}}
 {show innN (innerD rm (minR nf a b x y) (lo (minR nf a b x y)::ss) (k0::ks)).1<=_;omega}
theorem both_gen (ga:GoodT nf lo hi a A)(gb:GoodT nf lo hi b B){S:Nat->Nat->List Int}{L:Nat}
  (hS:∀x y,x<a.length->y<b.length->minR nf a b x y<nf->∃ss,S x y=lo (minR nf a b x y)::ss/\ chainI (hi (minR nf a b x y)) (lo (minR nf a b x y)) ss/\
   ((a.getD x default).kids≠[]->(a.getD x default).fact=(minR nf a b x y:Nat)->∀c∈(a.getD x default).cuts,c∈lo (minR nf a b x y)::ss)/\
   ((b.getD y default).kids≠[]->(b.getD y default).fact=(minR nf a b x y:Nat)->∀c∈(b.getD y default).cuts,c∈lo (minR nf a b x y)::ss)):
  ∀(f:Nat) (m:List Dn) (dn:MemoJ) (x y:Nat),InvX nf lo hi a b A B L m dn->x<a.length->y<b.length->nf-minR nf a b x y<f->MadeX nf lo hi a b A B L f m x y (bothD nf a b S L f m dn x y):=by
 intro f
 induction f with| zero=>intro m dn x y _ _ _ h;omega| succ f ih=>{intro m dn x y hI hx hy hf;unfold bothD;cases hlk:dn.lookup (x,y)with| some k=>{obtain⟨p1,p2⟩:=hI.memo x y k hlk;exact⟨hI,p1,p2,fun hL=>(hI.inv hL).memo x y k hlk,⟨[],by simp⟩,by show innN m<=_;omega⟩}| none=>{dsimp only;by_cases hend:minR nf a b x y=nf\/L<m.length;{rw[if_pos hend];exact leafX ga gb hI hx hy hend};{rw[if_neg hend];have hle:minR nf a b x y<=nf:=Nat.le_trans (Nat.min_le_left _ _) (rank_le_nf ga.table hx);(have hi':minR nf a b x y<nf:=by omega);obtain⟨ss,hSe,hch,hsa,hsb⟩:=hS x y hx hy hi';have hk:=foldX_all ga gb ih hx hy hi' hf (m:=m) (S x y) [] ((m,dn),[]) ⟨hI,rfl,fun j hj=>absurd hj (Nat.not_lt_zero j),⟨[],by simp⟩,by show innN m<=_;omega⟩;rw[List.nil_append,hSe]at hk;have q:=innerX ga gb hx hy hi' (by omega) hch hsa hsb hk;rw[hSe];exact q}}}
end
open Go.RowKit
def ekP (p:Nat×Nat):Value:=.agg #[.int .i64 (p.1:Int),.int .i64 (p.2:Int)]
theorem pair_info :∃i,Tryz.prog.info? 3=some i:=info_of_underlying Tryz.underlying3
theorem int_plain :Tryz.prog.plainKey 3=true:=by kernel_rfl
theorem int_cells :Tryz.prog.cellsOf 3=1:=by kernel_rfl
theorem eqIn_pair (w:World)(d:Nat)(p q:Nat×Nat):(Op.equalIn (d+1+1) 136 (ekP p) (ekP q)).run Tryz.prog w=.ok (p==q) w:=by
 obtain⟨i,hi⟩:=pair_info;obtain⟨x,y⟩:=p;obtain⟨x',y'⟩:=q
 show(Op.equalIn (d+1+1) 136 (.agg #[.int .i64 (x:Int),.int .i64 (y:Int)]) (.agg #[.int .i64 (x':Int),.int .i64 (y':Int)])).run Tryz.prog w=_
 have h0:(part 3 #[Value.int .i64 (x:Int),.int .i64 (y:Int)] 0).run Tryz.prog w=.ok (.int .i64 (x:Int)) w:=run_part_plain w int_plain rfl;have h1:(part 3 #[Value.int .i64 (x:Int),.int .i64 (y:Int)] 1).run Tryz.prog w=.ok (.int .i64 (y:Int)) w:=run_part_plain w int_plain rfl;have h2:(part 3 #[Value.int .i64 (x':Int),.int .i64 (y':Int)] 0).run Tryz.prog w=.ok (.int .i64 (x':Int)) w:=run_part_plain w int_plain rfl;have h3:(part 3 #[Value.int .i64 (x':Int),.int .i64 (y':Int)] 1).run Tryz.prog w=.ok (.int .i64 (y':Int)) w:=run_part_plain w int_plain rfl;have e0:(Op.equalIn (d+1) 3 (.int .i64 (x:Int)) (.int .i64 (x':Int))).run Tryz.prog w=.ok ((x:Int)==(x':Int)) w:=run_equalIn_int w d 3 .i64 .i64 _ _ Tryz.underlying3;have e1:(Op.equalIn (d+1) 3 (.int .i64 (y:Int)) (.int .i64 (y':Int))).run Tryz.prog w=.ok ((y:Int)==(y':Int)) w:=run_equalIn_int w d 3 .i64 .i64 _ _ Tryz.underlying3;rw[run_equalIn_array w (d+1) _ _ Tryz.underlying136 hi,int_cells,show List.range 2=[0,1]from rfl]
 have r:((x,y)==(x',y'))=(((x:Int)==(x':Int))&& ((y:Int)==(y':Int))):=by
  show((x==x')&& (y==y'))=_
  congr 1
  {rw[Bool.eq_iff_iff,beq_iff_eq,beq_iff_eq];omega}
  {rw[Bool.eq_iff_iff,beq_iff_eq,beq_iff_eq];omega}
 rw[r];simp only[Op.eqItems,Sem.run_bind,Nat.zero_mul,Nat.one_mul,h0,h2,e0,Result.andThen_ok];cases hx:((x:Int)==(x':Int))with| false=>simp| true=>{cases hy:((y:Int)==(y':Int))with| false=>rw[hy]at e1;simp[h1,h3,e1]| true=>rw[hy]at e1;simp[h1,h3,e1]}
theorem eq_pair (w:World)(p q:Nat×Nat):(Op.equal 136 (ekP p) (ekP q)).run Tryz.prog w=.ok (p==q) w:=eqIn_pair w 9998 p q
theorem check_pair (w:World)(e:Bool)(p:Nat×Nat):(Instr.checkKey e 10000 136 (ekP p)).run Tryz.prog w=.ok () w:=by kernel_rfl
theorem bits_pair (p:Nat×Nat):Instr.sameBits 10000 (ekP p) (ekP p)=true:=by
 unfold ekP;rw[Instr.sameBits];simp[Instr.sameBits]
section
variable {ν : Type} {ev : ν -> Value}
theorem ask_none (w:World)(k:Nat×Nat):∀(l:List ((Nat×Nat)×ν)) (es:List MapEntry) (i:Nat),es.map (fun e=>(e.key,e.val))=l.map (fun p=>(ekP p.1,ev p.2))->l.lookup k=none->(Instr.findAsking 136 (ekP k) es i).run Tryz.prog w=.ok none w
 | [],[],_,_,_=>by simp[Instr.findAsking]
 | (a,x)::l,e::es,i,h,hl=>by{simp only[List.map_cons,List.cons.injEq,Prod.mk.injEq]at h;obtain⟨⟨h1,h2⟩,h3⟩:=h;rw[List.lookup_cons]at hl;cases hka:k==a with| true=>rw[hka]at hl;cases hl| false=>{rw[hka]at hl;have he:=eq_pair w k a;rw[hka]at he;simp[Instr.findAsking,h1,he,ask_none w k l es (i+1) h3 hl]}}
 | [],e::es,_,h,_=>by cases h
 | (a,x)::l,[],_,h,_=>by cases h
theorem ask_some (w:World)(k:Nat×Nat)(v x:ν):∀(l:List ((Nat×Nat)×ν)) (es:List MapEntry) (i:Nat),es.map (fun e=>(e.key,e.val))=l.map (fun p=>(ekP p.1,ev p.2))->l.lookup k=some x->
  ∃j,j<es.length/\ (Instr.findAsking 136 (ekP k) es i).run Tryz.prog w=.ok (some (i+j,ev x)) w/\ (es[j]?.map (·.key))=some (ekP k)/\
   (es.modify j fun e=>{e with key:=ekP k,val:=ev v}).map (fun e=>(e.key,e.val))=(ins l k v).map (fun p=>(ekP p.1,ev p.2))
 | [],[],_,_,h=>by cases h
 | (a,y)::l,e::es,i,h,hl=>by{simp only[List.map_cons,List.cons.injEq,Prod.mk.injEq]at h;obtain⟨⟨h1,h2⟩,h3⟩:=h;rw[List.lookup_cons]at hl;have he:=eq_pair w k a;cases hka:k==a with| true=>{rw[hka]at hl he;(obtain rfl:y=x:=by simpa using hl);(obtain rfl:k=a:=by simpa using hka);refine⟨0,by simp,?_,by simp[h1],?_⟩;{simp[Instr.findAsking,h1,he,h2]};{simp[ins,h3]}}| false=>{rw[hka]at hl he;obtain⟨j,r0,r1,r2,r3⟩:=ask_some w k v x l es (i+1) h3 hl;refine⟨j+1,by simpa using r0,?_,by simpa using r2,?_⟩;{simp[Instr.findAsking,h1,he,r1];omega};{simp[ins,hka,r3,h1,h2]}}}
 | [],e::es,_,h,_=>by cases h
 | (a,y)::l,[],_,h,_=>by cases h
theorem find_eq (w:World)(x:Value)(es:List MapEntry):(Instr.findKey 136 x es).run Tryz.prog w=(Instr.findAsking 136 x es).run Tryz.prog w:=by
 cases es with| nil=>simp[Instr.findKey,run_underlying Tryz.underlying136,Instr.findNow,Instr.findAsking]| cons e es=>simp[Instr.findKey,run_underlying Tryz.underlying136,Instr.findNow,Instr.sameNow]
variable {T E : TypeId}
theorem run_lookP (ht:Tryz.prog.underlying T=some (.map 136 E)){z:Value}(hz:∀w,(zeroValue E).run Tryz.prog w=.ok z w){w:World}{b:Nat}{l:List ((Nat×Nat)×ν)}(h:MapIs ekP ev w b l)(k:Nat×Nat):
  (Instr.lookup T (.map (some b)) (ekP k) true).run Tryz.prog w=.ok (match l.lookup k with | some x=>.tuple #[ev x,.bool true] | none=>.tuple #[z,.bool false]) w:=by
 obtain⟨es,c,h1,h2⟩:=h;have hc:=fun e=>check_pair w e k
 cases hl:l.lookup k with| none=>{have hf:(Instr.findKey 136 (ekP k) es.toList).run Tryz.prog w=.ok none w:=by{rw[find_eq];exact ask_none w k l es.toList 0 h2 hl};simp[Instr.lookup,run_underlying ht,run_getMap h1,hc,hf,hz]}| some x=>{obtain⟨j,_,r1,_,_⟩:=ask_some w k x x l es.toList 0 h2 hl;have hf:(Instr.findKey 136 (ekP k) es.toList).run Tryz.prog w=.ok (some (j,ev x)) w:=by{rw[find_eq,r1,Nat.zero_add]};simp[Instr.lookup,run_underlying ht,run_getMap h1,hc,hf]}
theorem run_storeP (ht:Tryz.prog.underlying T=some (.map 136 E)){w:World}{b:Nat}{l:List ((Nat×Nat)×ν)}(h:MapIs ekP ev w b l)(k:Nat×Nat)(v:ν):
  ∃w',(Instr.mapUpdate T (.map (some b)) (ekP k) (ev v)).run Tryz.prog w=.ok () w'/\ MapIs ekP ev w' b (ins l k v)/\ Upd b w w':=by
 have hlt:=h.lt;obtain⟨es,c,h1,h2⟩:=h;have hc:=fun e=>check_pair w e k
 have put:∀(es':Array MapEntry) (c':Nat),es'.toList.map (fun e=>(e.key,e.val))=(ins l k v).map (fun p=>(ekP p.1,ev p.2))->
   MapIs ekP ev {w with heap:=w.heap.setIfInBounds b (.map es' c')} b (ins l k v)/\ Upd b w {w with heap:=w.heap.setIfInBounds b (.map es' c')}:=fun es' c' he=>
  ⟨⟨es',c',by simp[hlt],he⟩,⟨rfl,rfl,rfl,by simp,fun j hj=>by simp[Ne.symm hj]⟩⟩
 cases hl:l.lookup k with| none=>{have hf:(Instr.findKey 136 (ekP k) es.toList).run Tryz.prog w=.ok none w:=by{rw[find_eq];exact ask_none w k l es.toList 0 h2 hl};refine⟨_,?_,put (es.push {key:=ekP k,val:=ev v,born:=c}) (c+1) (by simp[h2,ins_none l k v hl])⟩;simp[Instr.mapUpdate,run_underlying ht,run_getMap h1,run_setMap h1,hc,hf]}| some x=>{obtain⟨j,hj,r1,hkey,hm⟩:=ask_some w k v x l es.toList 0 h2 hl;have hf:(Instr.findKey 136 (ekP k) es.toList).run Tryz.prog w=.ok (some (j,ev x)) w:=by{rw[find_eq,r1,Nat.zero_add]};(have hkey':(es[j]?.map (·.key))=some (ekP k):=by simpa using hkey);refine⟨_,?_,put (es.modify j fun e=>{e with key:=ekP k,val:=ev v}) c (by rw[Array.toList_modify];exact hm)⟩;(have hst:(Instr.keyThatStays (ekP k) (ekP k)).run Tryz.prog w=.ok (ekP k) w:=by simp[Instr.keyThatStays,bits_pair]);simp[Instr.mapUpdate,run_underlying ht,run_getMap h1,run_setMap h1,hc,hf,hkey',hst]}
end
section
theorem look_insP {ν:Type}(k:Nat×Nat)(v:ν)(j:Nat×Nat):∀l:List ((Nat×Nat)×ν),(ins l k v).lookup j=if j=k then some v else l.lookup j
 | []=>by{rw[ins,List.lookup_cons,List.lookup_nil];by_cases h:j=k;{subst h;simp};{(have:(j==k)=false:=by simpa using h);rw[this,if_neg h]}}
 | (a,x)::l=>by{rw[ins];by_cases hk:k=a;{subst hk;rw[if_pos (by simp),List.lookup_cons,List.lookup_cons];by_cases h:j=k;{subst h;simp};{(have:(j==k)=false:=by simpa using h);rw[this,if_neg h]}};{(have hka:(k==a)=false:=by simpa using hk);rw[hka,if_neg (by simp),List.lookup_cons,List.lookup_cons,look_insP k v j l];by_cases h:j=a;{subst h;(have hjk:¬j=k:=fun e=>hk e.symm);simp[hjk]};{(have:(j==a)=false:=by simpa using h);rw[this]}}}
theorem mapP_soft {W:World}{b:Nat}{l:List ((Nat×Nat)×Int)}(h:MapIs ekP (Value.int .i64) W b l):∀o,W.heap[b]? =some o->solid o=false:=by
 obtain⟨es,c,h1,_⟩:=h;intro o ho;rw[h1]at ho;cases ho;rfl
theorem ne_mapP {W:World}{b ab:Nat}{l:List ((Nat×Nat)×Int)}(h:MapIs ekP (Value.int .i64) W ab l){cs:Array Value}{t:TypeId}{z:Nat×Nat}(hb:W.heap[b]? =some (.cells cs t z)):b≠ab:=by
 rintro rfl;obtain⟨es,c,h1,_⟩:=h;rw[h1]at hb;cases hb
structure EnvA (w0 : World) (K PA PB PD : Nat) (d : List Fa) (ta tb : List Dn) (va vb vd : Value) : Prop where
 mv:Blk w0 (K+1) 127 #[.pointer (some ⟨K,0,none⟩)]
 dv:Blk w0 (K+3) 133 #[.map (some (K+2))]
 bv:Blk w0 (K+4) 134 #[.func (.func 104) #[] #[.pointer (some ⟨K+3,0,none⟩),.pointer (some ⟨PA,0,none⟩),.pointer (some ⟨PB,0,none⟩),.pointer (some ⟨PD,0,none⟩),.pointer (some ⟨K+1,0,none⟩),.pointer (some ⟨K+4,0,none⟩)]]
 ab:Blk w0 PA 75 #[va]
 bb:Blk w0 PB 75 #[vb]
 db:Blk w0 PD 25 #[vd]
 lta:PA<K
 ltb:PB<K
 ltd:PD<K
 ga:SlIn DnR 4 w0 K ta va
 gb:SlIn DnR 4 w0 K tb vb
 dom:SlIn FaR 4 w0 K d vd
 tab:TabH K w0
 size:K+5<=w0.heap.size
structure StA (w0 : World) (K : Nat) (S : List Nat) (m : List Dn) (dn : MemoJ) (W : World) : Prop where
 stp:MkS K [] w0 W
 is:MkIs W K K S m
 own:W.cell? ⟨K,1,none⟩≠some (.map (some (K+2)))
 memo:∃mp,MapIs ekP (Value.int .i64) W (K+2) mp/\ ∀k,mp.lookup k=(dn.lookup k).map (fun(n:Nat)=>(n:Int))
variable {w0 W W' : World} {K : Nat} {S S' : List Nat} {m m' : List Dn} {dn : MemoJ}
theorem StA.blk (h:StA w0 K S m dn W){b:Nat}{t:TypeId}{cs:Array Value}(hb:Blk w0 b t cs)(ht:(t==106)=false/\ (t==132)=false):Blk W b t cs:=
 h.stp.keep b _ hb (.inr ⟨by simp[solid,ht.1,ht.2],by simp⟩)
theorem StA.size (h:StA w0 K S m dn W):w0.heap.size<=W.heap.size:=h.stp.size
theorem StA.lt (h:StA w0 K S m dn W):K<W.heap.size:=by obtain⟨_,⟨v,mo,xs,h1,_⟩,_⟩:=h.is;exact h1.lt
theorem StA.step (h:StA w0 K S m dn W)(hs:Stp K K W W')(hm:MkIs W' K K S m'):StA w0 K S m' dn W':=by
 obtain⟨mp,⟨es,c,h1,h2⟩,h3⟩:=h.memo;obtain⟨q1,q2⟩:=hs.k (K+2) es c h1 h.own;exact⟨h.stp.trans hs.s,hm,q2,mp,⟨es,c,q1,h2⟩,h3⟩
theorem StA.below (h:StA w0 K S m dn W)(hb:Below W.heap.size W W'):StA w0 K S m dn W':=
 h.step (Stp.of_below hb h.lt) (h.is.below hb (Nat.le_refl _))
theorem StA.less (h:StA w0 K S m dn W)(hs:∀k∈S',k∈S):StA w0 K S' m dn W:=⟨h.stp,h.is.less hs,h.own,h.memo⟩
theorem StA.learn (h:StA w0 K S m dn W){mp:List ((Nat×Nat)×Int)}(hmp:∀k,mp.lookup k=(dn.lookup k).map (fun(n:Nat)=>(n:Int))){key:Nat×Nat}{n:Nat}(hu:Upd (K+2) W W')(hm:MapIs ekP (Value.int .i64) W' (K+2) (ins mp key (n:Int)))
  (hk0:MapIs ekP (Value.int .i64) W (K+2) mp):StA w0 K S m ((key,n)::dn) W'/\ MkS K [] W W':=by
 have hsoft:=mapP_soft hk0;have hs:MkS K [] W W':=MkS.of_upd hu ⟨by omega,.inr hsoft⟩;have hsS:MkS K S W W':=hs.more (by simp);obtain⟨hge,⟨v,mo,xs,h1,h2,h3,h4,h5⟩,hlen⟩:=h.is;have hne:K≠K+2:=by omega
 have hb':Blk W' K 132 #[v,.map mo]:=(hu.block K hne).trans h1;refine⟨⟨h.stp.trans hs,⟨hge,⟨v,mo,xs,hb',own_block h2 (fun g hg=>hu.block g ?_),h3,fun x hx=>(h4 x hx).step hsS,?_⟩,hlen⟩,?_,_,hm,?_⟩,hs⟩
 {rintro rfl;(rcases h2.2 with⟨rfl,_⟩ | ⟨g',cap,cur,rfl,_,hg',_⟩);{cases hg};{(have:g'=K+2:=by simpa[Value.ownBlock]using hg);subst this;exact ne_mapP hk0 hg' rfl}}
 {(rcases h5 with h5 | ⟨ab,e1,e2,e3⟩);{exact .inl h5};{refine .inr ⟨ab,e1,e2,?_⟩;obtain⟨es,c,q1,q2⟩:=e3;refine⟨es,c,(hu.block ab ?_).trans q1,q2⟩;rintro rfl;exact h.own (by rw[h1.cell 1,e1];rfl)}}
 {rw[hu.cell (p:=⟨K,1,none⟩) hne];exact h.own}
 {intro k;rw[look_insP,List.lookup_cons];by_cases hk:k=key;{subst hk;simp};{(have:(k==key)=false:=by simpa using hk);rw[this,if_neg hk];exact hmp k}}
theorem StA.app {base n:Nat}{kv v':Value}{xs:List Value}(h:StA w0 K (ownL kv++S) m dn W)(hK:K+5<=w0.heap.size)(ho:W.ownsRow base 3 1 kv n xs)(hb:w0.heap.size<=base)(hg:W.grownBy W' kv.ownBlock){g:Nat}(hv:v'.ownBlock=some g)(hat:kv.ownBlock=some g\/g=W.heap.size):
  StA w0 K (ownL v'++S) m dn W'/\ MkS K (ownL kv) W W':=by
 have hown:=own_at ho;have hs1:MkS K (ownL kv) W W':=MkS.of_grown hg fun b e=>⟨by have:=(hown b e).1;omega,.inl (by unfold ownL;rw[e];simp)⟩
 have hk:∀b o,W.heap[b]? =some o->solid o=false->b<W.heap.size->W'.heap[b]? =some o:=fun b o h1 h2 h3=>by{refine(hg.block b h3 fun e=>?_).trans h1;obtain⟨_,cs,h4⟩:=hown b e.symm;rw[h1]at h4;(cases h4);simp[solid]at h2}
 have hvl:ownL v'=[g]:=by unfold ownL;rw[hv];rfl
 refine⟨⟨?_,?_,?_,?_⟩,hs1⟩
 {(refine((h.stp.more (S':=ownL kv) (by simp)).trans hs1).less fun b hb' hlt=>?_);(have e:kv.ownBlock=some b:=by unfold ownL at hb';simpa using hb');have:=(hown b e).1;omega}
 {rw[hvl];(rcases hat with e | e);{(have:ownL kv=[g]:=by unfold ownL;rw[e];rfl);rw[<-this];exact h.is.keep (hs1.more fun b hb=>List.mem_append_left _ hb) hk};{(refine(h.is.fresh (k:=g) (by omega) (hs1.more fun b hb=>List.mem_append_left _ hb) hk).less fun k hk=>?_);(rcases List.mem_append.1 hk with hk | hk);{simp at hk;simp[hk]};{simp[hk]}}}
 {(have:W'.heap[K]? =W.heap[K]? :=hg.block K h.lt fun e=>by have:=(hown K e.symm).1;omega);rw[World.cell?_of_block (a:=⟨K,1,none⟩) this];exact h.own}
 {obtain⟨mp,⟨es,c,h1,h2⟩,h3⟩:=h.memo;exact⟨mp,⟨es,c,hk _ _ h1 rfl (heap_lt h1),h2⟩,h3⟩}
end
def askN (d:List Fa)(n:Dn):Int:=if n.kids=[]then(d.length:Int)else n.fact
theorem ask_any (n:Dn)(d:List Fa)(ac ak ad:Option Addr)(cc ck cd:Nat)(w:World):
  Calls Tryz.prog 105 #[.agg #[.int .i64 n.fact,.slice ac n.cuts.length cc,.slice ak n.kids.length ck,.bool n.leaf],.agg #[.slice ad d.length cd]] w fun e w'=>e=.returned (.int .i64 (askN d n))/\ Below w.heap.size w w':=by
 have hb2:Below w.heap.size w ((w.alloc (.cells #[.int .i64 n.fact,.slice ac n.cuts.length cc,.slice ak n.kids.length ck,.bool n.leaf] 106)).alloc (.cells #[.slice ad d.length cd] 25)):=((Below.refl _ _).alloc (Nat.le_refl _) _).alloc (by simp) _;have K0:Blk ((w.alloc (.cells #[.int .i64 n.fact,.slice ac n.cuts.length cc,.slice ak n.kids.length ck,.bool n.leaf] 106)).alloc (.cells #[.slice ad d.length cd] 25)) w.heap.size 106 #[.int .i64 n.fact,.slice ac n.cuts.length cc,.slice ak n.kids.length ck,.bool n.leaf]:=(Blk.new w 106 #[.int .i64 n.fact,.slice ac n.cuts.length cc,.slice ak n.kids.length ck,.bool n.leaf]).alloc _
 have K1:Blk ((w.alloc (.cells #[.int .i64 n.fact,.slice ac n.cuts.length cc,.slice ak n.kids.length ck,.bool n.leaf] 106)).alloc (.cells #[.slice ad d.length cd] 25)) (w.heap.size+1) 25 #[.slice ad d.length cd]:=by{have q:=Blk.new (w.alloc (.cells #[.int .i64 n.fact,.slice ac n.cuts.length cc,.slice ak n.kids.length ck,.bool n.leaf] 106)) 25 #[.slice ad d.length cd];rw[World.size_alloc]at q;exact q}
 obtain⟨W,hW⟩:∃W,((w.alloc (.cells #[.int .i64 n.fact,.slice ac n.cuts.length cc,.slice ak n.kids.length ck,.bool n.leaf] 106)).alloc (.cells #[.slice ad d.length cd] 25))=W:=⟨_,rfl⟩;rw[hW]at hb2 K0 K1;have HW:=Lib.hid hW;have HB2:=Lib.hid hb2;have x0:=K0.cell 0;have x2:=K0.cell 2;have y0:=K1.cell 0;clear hW hb2 K0 K1;by_cases hk:n.kids=[]
 {(have h0:n.kids.length=0:=by rw[hk];rfl);have HR:=Lib.hid (show askN d n=(d.length:Int) by unfold askN;rw[if_pos hk]);rw[h0];rw[h0]at x2 HW;clear hk h0;go_enter Tryz.func105,Tryz.ntmps105;go_upto_region 1 with(fail);rw[HW.out];go_wp2;go_ret;exact⟨by rw[HR.out];rfl,HB2.out⟩}
 {have HR:=Lib.hid (show askN d n=n.fact by unfold askN;rw[if_neg hk]);(have h0:((n.kids.length:Int)==0)=false:=by simpa using hk);clear hk;go_enter Tryz.func105,Tryz.ntmps105;go_upto_region 1 with(fail);rw[HW.out];go_wp2;go_ret;exact⟨by rw[HR.out];rfl,HB2.out⟩}
theorem step_eq {t:List Dn}{x i:Nat}{v:Int}(hx:x<t.length)(hin:(t.getD x default).kids≠[]->(t.getD x default).kids.length=(t.getD x default).cuts.length+1/\ ∀k∈(t.getD x default).kids,0<=k):
  ((stepN t x i v:Nat):Int)=if t[x].kids≠[]/\ t[x].fact=(i:Int)then t[x].kids.getD (nextI t[x].cuts v) 0 else(x:Int):=by
 rw[getD_dg _ _ _ hx]at hin;unfold stepN kidAt;rw[getD_dg _ _ _ hx];by_cases h:t[x].kids≠[]/\ t[x].fact=(i:Int)
 {rw[if_pos h,if_pos h];obtain⟨h1,h2⟩:=hin h.1;(have hl:nextI t[x].cuts v<t[x].kids.length:=by have:=nextI_le t[x].cuts v;omega);have:=h2 _ (List.getElem_mem hl);rw[getD_dg _ _ _ hl];omega}
 {rw[if_neg h,if_neg h]}
theorem step_any (t:List Dn)(x i:Nat)(v:Int)(ag:Option Addr)(cg:Nat)(w:World)(B:Nat)(hB:B<=w.heap.size)(hg:SlIn DnR 4 w B t (.slice ag t.length cg))(hx:x<t.length)
  (hin:(t.getD x default).kids≠[]->(t.getD x default).kids.length=(t.getD x default).cuts.length+1/\ ∀k∈(t.getD x default).kids,0<=k):
  Calls Tryz.prog 109 #[.agg #[.slice ag t.length cg],.int .i64 (x:Int),.int .i64 (i:Int),.int .i64 v] w fun e w'=>e=.returned (.int .i64 ((stepN t x i v:Nat):Int))/\ Below w.heap.size w w':=by
 have hse:=step_eq (v:=v) (i:=i) hx hin;rw[getD_dg _ _ _ hx]at hin;obtain⟨_,_,e,l1,l2,_⟩:=SlIn.shape hg;cases e
 unfold maxLen at l2;obtain⟨gb,go,rfl,hgB,vc,vk,n0,n1,n2,n3,hcu,hki⟩:=hg.at x hx;have hnx:=next_any t[x] v vc vk;obtain⟨ac,cc,rfl,_⟩:=SlIn.shape hcu;obtain⟨ak,ck,rfl,k1,k2,_⟩:=SlIn.shape hki;unfold maxLen at k2
 have hkx:t[x].kids≠[]->∃kb ko,ak=some ⟨kb,ko,none⟩/\ kb<B/\ ∀(j:Nat) (h:j<t[x].kids.length),w.cell? ⟨kb,ko+j,none⟩=some (.int .i64 t[x].kids[j]):=fun hne=>by{have h0:0<t[x].kids.length:=List.length_pos_iff.2 hne;obtain⟨kb,ko,e,hb,_⟩:=SlIn.one hki 0 h0;refine⟨kb,ko,e,hb,fun j hj=>?_⟩;obtain⟨kb',ko',e',_,hc⟩:=SlIn.one hki j hj;rw[e]at e';(cases e');exact hc}
 have HB1:Hid (Below w.heap.size w (w.alloc (.cells #[.slice (some ⟨gb,go,none⟩) t.length cg] 75))):=(Below.refl _ _).alloc (Nat.le_refl _) _;have HK:Hid (Blk (w.alloc (.cells #[.slice (some ⟨gb,go,none⟩) t.length cg] 75)) w.heap.size 75 #[.slice (some ⟨gb,go,none⟩) t.length cg]):=Blk.new _ _ _;have hs1:((w.alloc (.cells #[.slice (some ⟨gb,go,none⟩) t.length cg] 75))).heap.size=w.heap.size+1:=by simp
 obtain⟨W,hW⟩:∃W,(w.alloc (.cells #[.slice (some ⟨gb,go,none⟩) t.length cg] 75))=W:=⟨_,rfl⟩;rw[hW]at HB1 HK hs1;have HW:=Lib.hid hW;have x0:=HK.out.cell 0;have m0:=(HB1.out.cell (p:=⟨gb,go+x*4,none⟩) (by show gb<w.heap.size;omega)).trans n0;have m1:=(HB1.out.cell (p:=⟨gb,go+x*4+1,none⟩) (by show gb<w.heap.size;omega)).trans n1;have m2:=(HB1.out.cell (p:=⟨gb,go+x*4+2,none⟩) (by show gb<w.heap.size;omega)).trans n2;have m3:=(HB1.out.cell (p:=⟨gb,go+x*4+3,none⟩) (by show gb<w.heap.size;omega)).trans n3;have hxl:(x:Int)<(t.length:Int):=by omega
 have HCU:=Lib.hid hcu;have HKI:=Lib.hid hki;have HIN:=Lib.hid hin;have HKX:=Lib.hid hkx;obtain⟨R,hR⟩:∃R:Int,((stepN t x i v:Nat):Int)=R:=⟨_,rfl⟩;rw[hR]at hse⊢;have HSE:=Lib.hid hse;clear hg n0 n1 n2 n3 hcu hki hin hkx hW hR hse;generalize t[x]=n at*
 by_cases hk:n.kids=[]
 {(have h0:n.kids.length=0:=by rw[hk];rfl);have HR:=Lib.hid (show R=(x:Int) by rw[HSE.out,if_neg (fun h=>h.1 hk)]);rw[h0]at m2;clear hk h0 HSE hnx k1;go_enter Tryz.func109,Tryz.ntmps109;go_upto_region 1 with(fail);rw[HW.out];go_wp2;go_ret;exact⟨by rw[HR.out];rfl,HB1.out.trans (((Below.refl _ _).alloc (Nat.le_refl _) _).mono (by omega))⟩}
 ·have h0:decide ((0:Int)<(n.kids.length:Int))=true:=by have:=List.length_pos_iff.2 hk;simp;omega
  have h00:0<n.kids.length:=List.length_pos_iff.2 hk;by_cases hf:n.fact=(i:Int)
  ·obtain⟨hlen,hpos⟩:=HIN.out hk
   obtain⟨kb,ko,rfl,hkb,hkc⟩:=HKX.out hk;have hkl:nextI n.cuts v<n.kids.length:=by have:=nextI_le n.cuts v;omega
   have hng:=nextG_eq hlen v;have HR:=Lib.hid (show R=n.kids[nextI n.cuts v] by rw[HSE.out,if_pos ⟨hk,hf⟩,getD_dg _ _ _ hkl]);have hf0:(n.fact==(i:Int))=true:=by simpa using hf
   have hkc1:=hkc (nextI n.cuts v) hkl;generalize nextI n.cuts v=kx at*
   have hk2:=(HB1.out.cell (p:=⟨kb,ko+kx,none⟩) (by show kb<w.heap.size;omega)).trans hkc1;have HX:Hid (Blk (W.alloc (.cells #[.int .i64 n.fact,.slice ac n.cuts.length cc,.slice (some ⟨kb,ko,none⟩) n.kids.length ck,.bool n.leaf] 106)) W.heap.size 106 #[.int .i64 n.fact,.slice ac n.cuts.length cc,.slice (some ⟨kb,ko,none⟩) n.kids.length ck,.bool n.leaf]):=Blk.new _ _ _;have hs2:((W.alloc (.cells #[.int .i64 n.fact,.slice ac n.cuts.length cc,.slice (some ⟨kb,ko,none⟩) n.kids.length ck,.bool n.leaf] 106))).heap.size=W.heap.size+1:=by simp
   have HB2:Hid (Below W.heap.size W (W.alloc (.cells #[.int .i64 n.fact,.slice ac n.cuts.length cc,.slice (some ⟨kb,ko,none⟩) n.kids.length ck,.bool n.leaf] 106))):=(Below.refl _ _).alloc (Nat.le_refl _) _
   have HN:Hid (∀W',Hid (Below (W.heap.size+1) (W.alloc (.cells #[.int .i64 n.fact,.slice ac n.cuts.length cc,.slice (some ⟨kb,ko,none⟩) n.kids.length ck,.bool n.leaf] 106)) W')->Calls Tryz.prog 156 #[.agg #[.int .i64 n.fact,.slice ac n.cuts.length cc,.slice (some ⟨kb,ko,none⟩) n.kids.length ck,.bool n.leaf],.int .i64 v] W' fun e w'=>e=.returned (.int .i64 (kx:Int))/\ Hid (Below W'.heap.size W' w')):=fun W' hw=>by{have hbw:=(HB1.out.trans (HB2.out.mono (by omega))).trans (hw.out.mono (by omega));have q:=hnx W' B (by have:=hw.out.size;omega) (IntsIn.below (hbw.mono hB) HCU.out) (IntsIn.below (hbw.mono hB) HKI.out);rw[hng]at q;exact q}
   have HKP:Hid (∀w',Hid (Below (W.heap.size+1) (W.alloc (.cells #[.int .i64 n.fact,.slice ac n.cuts.length cc,.slice (some ⟨kb,ko,none⟩) n.kids.length ck,.bool n.leaf] 106)) w')->(w'.cell? ⟨W.heap.size,0,none⟩=some (.int .i64 n.fact)/\ w'.cell? ⟨W.heap.size,1,none⟩=some (.slice ac n.cuts.length cc)/\ w'.cell? ⟨W.heap.size,2,none⟩=some (.slice (some ⟨kb,ko,none⟩) n.kids.length ck)/\ w'.cell? ⟨W.heap.size,3,none⟩=some (.bool n.leaf)/\ w'.cell? ⟨kb,ko+kx,none⟩=some (.int .i64 n.kids[kx]))/\ Hid (Below (W.heap.size+1) (W.alloc (.cells #[.int .i64 n.fact,.slice ac n.cuts.length cc,.slice (some ⟨kb,ko,none⟩) n.kids.length ck,.bool n.leaf] 106)) w')):=by{intro w' hw;have z:=HX.out.below (by rw[hs2];exact hw.out);exact⟨⟨z.cell 0,z.cell 1,z.cell 2,z.cell 3,((HB2.out.trans (hw.out.mono (by omega))).cell (p:=⟨kb,ko+kx,none⟩) (by show kb<W.heap.size;omega)).trans hk2⟩,hw⟩}
   have HW0:Hid (Below (W.heap.size+1) (W.alloc (.cells #[.int .i64 n.fact,.slice ac n.cuts.length cc,.slice (some ⟨kb,ko,none⟩) n.kids.length ck,.bool n.leaf] 106)) ((W.alloc (.cells #[.int .i64 n.fact,.slice ac n.cuts.length cc,.slice (some ⟨kb,ko,none⟩) n.kids.length ck,.bool n.leaf] 106))).drew):=(Below.refl _ _).drew;have hkxl:(kx:Int)<(n.kids.length:Int):=by omega
   clear hk HSE hnx hf hlen hpos hkc hng hkc1 HKX HIN hs1 hs2;go_enter Tryz.func109,Tryz.ntmps109;go_upto_region 1 with(fail);rw[HW.out];go_upto_region 3 with(fail)
   go_region_held3 (fun w'=>(w'.cell? ⟨W.heap.size,0,none⟩=some (.int .i64 n.fact)/\ w'.cell? ⟨W.heap.size,1,none⟩=some (.slice ac n.cuts.length cc)/\ w'.cell? ⟨W.heap.size,2,none⟩=some (.slice (some ⟨kb,ko,none⟩) n.kids.length ck)/\ w'.cell? ⟨W.heap.size,3,none⟩=some (.bool n.leaf)/\ w'.cell? ⟨kb,ko+kx,none⟩=some (.int .i64 n.kids[kx]))/\ Hid (Below (W.heap.size+1) (W.alloc (.cells #[.int .i64 n.fact,.slice ac n.cuts.length cc,.slice (some ⟨kb,ko,none⟩) n.kids.length ck,.bool n.leaf] 106)) w'))
    (exact HKP.out _ (by assumption))
    ((go_at_call 156;refine(HN.out _ (by assumption)).mono ?_;rintro e w8 ⟨rfl,HB8⟩;have HW8:Hid (Below (W.heap.size+1) (W.alloc (.cells #[.int .i64 n.fact,.slice ac n.cuts.length cc,.slice (some ⟨kb,ko,none⟩) n.kids.length ck,.bool n.leaf] 106)) w8):=HW0.out.trans (HB8.out.mono (by simp))))
   go_split_ands;go_wp2;go_ret;exact⟨by rw[HR.out];rfl,(HB1.out.trans (HB2.out.mono HB1.out.size)).trans (HW8.out.mono (by have:=HB1.out.size;omega))⟩
  {have HR:=Lib.hid (show R=(x:Int) by rw[HSE.out,if_neg (fun h=>hf h.2)]);(have hf0:(n.fact==(i:Int))=false:=by simpa using hf);clear hk HSE hnx hf;go_enter Tryz.func109,Tryz.ntmps109;go_upto_region 1 with(fail);rw[HW.out];go_wp2;go_ret;exact⟨by rw[HR.out];rfl,HB1.out.trans (((Below.refl _ _).alloc (Nat.le_refl _) _).mono (by omega))⟩}
end Go.Proofs.YtihniipjfdenbaaGreatDoor
