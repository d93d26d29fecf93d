/- The domain of the example of chapters 11 and 15. No program is walked. -/
import Derived.Test.YtihniipjfdenbaaGreatDoorDgTM
import Derived.Test.YtihniipjfdenbaaGreatDoorFactA
namespace Go.Proofs.YtihniipjfdenbaaGreatDoor
def nilB :ByteArray:=⟨#[]⟩
def knownF (b:Bool):Fo:=.mk (if b then 1 else 2) nilB 0 0 []
def conF (f:Fo):Option Bool:=if f.op=1 then some true else if f.op=2 then some false else none
def joinF (op unit zero:Int)(l:List Fo):Fo:=
 match l.find? (fun k=>k.op==zero)with
 | some k=>k
 | none=>match l.filter (fun k=>k.op !=unit)with
  | []=>.mk unit nilB 0 0 []
  | [k]=>k
  | ks=>.mk op nilB 0 0 ks
def notF (k:Fo):Fo:=match conF k with | some b=>knownF (!b) | none=>.mk 5 nilB 0 0 [k]
mutual
def givF (nm:ByteArray)(v:Int):Fo->Fo
 | .mk op s c n ks=>
  if op=3 then(if eqB s nm then knownF (cmpB v c n)else .mk op s c n ks)
  else if op=5 then notF ((givL nm v ks).headD default)
  else if op=6 then joinF 6 1 2 (givL nm v ks)
  else if op=7 then joinF 7 2 1 (givL nm v ks)
  else .mk op s c n ks
def givL (nm:ByteArray)(v:Int):List Fo->List Fo
 | []=>[]
 | k::ks=>givF nm v k::givL nm v ks
end
theorem givL_eq (nm:ByteArray)(v:Int):∀ks,givL nm v ks=ks.map (givF nm v)
 | []=>rfl
 | k::ks=>by rw[givL,List.map_cons,givL_eq nm v ks]
mutual
def valC (d:List Fa)(c:Nat->Int):Fo->Bool
 | .mk op s m n ks=>
  if op=3 then cmpB (c (idxD d s).toNat) m n
  else if op=5 then !((valCL d c ks).headD false)
  else if op=6 then(valCL d c ks).all id
  else if op=7 then(valCL d c ks).any id
  else op==1
def valCL (d:List Fa)(c:Nat->Int):List Fo->List Bool
 | []=>[]
 | k::ks=>valC d c k::valCL d c ks
end
theorem valCL_eq (d:List Fa)(c:Nat->Int):∀ks,valCL d c ks=ks.map (valC d c)
 | []=>rfl
 | k::ks=>by rw[valCL,List.map_cons,valCL_eq d c ks]
mutual
def WfF (d:List Fa):Fo->Prop
 | .mk op s c n ks=>((op=1\/op=2)/\ s=nilB/\ c=0/\ n=0/\ ks=[])\/
   (op=3/\ (1<=c/\ c<=6)/\ (0<=n/\ n<=1000000)/\ nameB s=true/\ (∃k:Nat,idxD d s=k/\ k<d.length)/\ ks=[])\/
   ((op=5/\ ks.length=1\/(op=6\/op=7)/\ 2<=ks.length)/\ s=nilB/\ c=0/\ n=0/\ WfL d ks)
def WfL (d:List Fa):List Fo->Prop
 | []=>True
 | k::ks=>WfF d k/\ WfL d ks
end
theorem WfL_iff (d:List Fa):∀ks,WfL d ks↔∀k∈ks,WfF d k
 | []=>by simp[WfL]
 | k::ks=>by simp[WfL,WfL_iff d ks]
mutual
def NcF :Fo->Prop
 | .mk op _ _ _ ks=>op≠1/\ op≠2/\ NcL ks
def NcL :List Fo->Prop
 | []=>True
 | k::ks=>NcF k/\ NcL ks
end
theorem NcL_iff :∀ks,NcL ks↔∀k∈ks,NcF k
 | []=>by simp[NcL]
 | k::ks=>by simp[NcL,NcL_iff ks]
def RedF (f:Fo):Prop:=conF f≠none\/NcF f
mutual
def testsF :Fo->List (ByteArray×Int×Int)
 | .mk op s c n ks=>(if op=3 then[(s,c,n)]else[])++testsL ks
def testsL :List Fo->List (ByteArray×Int×Int)
 | []=>[]
 | k::ks=>testsF k++testsL ks
end
theorem testsL_mem :∀ks t,t∈testsL ks↔∃k∈ks,t∈testsF k
 | [],t=>by simp[testsL]
 | k::ks,t=>by simp[testsL,testsL_mem ks t]
theorem con_known (b:Bool):conF (knownF b)=some b:=by cases b<;>rfl
theorem val_known (d:List Fa)(c:Nat->Int)(b:Bool):valC d c (knownF b)=b:=by cases b<;>simp[knownF,valC]
theorem wf_known (d:List Fa)(b:Bool):WfF d (knownF b):=by
 unfold knownF;rw[WfF];left;cases b<;>simp
theorem tests_known (b:Bool):testsF (knownF b)=[]:=by cases b<;>simp[knownF,testsF,testsL]
theorem wf_con {d:List Fa}{f:Fo}{b:Bool}(h:WfF d f)(hc:conF f=some b):f=knownF b:=by
 obtain⟨op,s,c,n,ks⟩:=f
 change(if op=1 then some true else if op=2 then some false else none)=some b at hc
 rw[WfF]at h
 have hop:op=1/\ b=true\/op=2/\ b=false:=by{by_cases h1:op=1;{rw[if_pos h1]at hc;exact .inl ⟨h1,by simpa using hc.symm⟩};{rw[if_neg h1]at hc;by_cases h2:op=2;{rw[if_pos h2]at hc;exact .inr ⟨h2,by simpa using hc.symm⟩};{rw[if_neg h2]at hc;cases hc}}}
 rcases h with⟨_,rfl,rfl,rfl,rfl⟩ | ⟨h,_⟩ | ⟨h,_⟩
 {rcases hop with⟨rfl,rfl⟩ | ⟨rfl,rfl⟩<;>rfl}
 {omega}
 {omega}
theorem con_op {f:Fo}:conF f=none↔f.op≠1/\ f.op≠2:=by
 unfold conF;by_cases h1:f.op=1
 {simp[h1]}
 {by_cases h2:f.op=2;{simp[h2]};{simp[h1,h2]}}
theorem red_nc {f:Fo}(h:RedF f)(hc:conF f=none):NcF f:=h.elim (fun h=>absurd hc h) id
theorem notF_ok {d:List Fa}{k:Fo}(h:WfF d k)(hr:RedF k):WfF d (notF k)/\ RedF (notF k)/\ (∀c,valC d c (notF k)= !valC d c k)/\ ∀t∈testsF (notF k),t∈testsF k:=by
 unfold notF;cases hc:conF k with| some b=>{have:=wf_con h hc;subst this;refine⟨wf_known _ _,.inl (by rw[con_known];simp),fun c=>by rw[val_known,val_known],fun t ht=>by rw[tests_known]at ht;cases ht⟩}| none=>{refine⟨?_,.inr ?_,?_,?_⟩;{show WfF d (.mk 5 nilB 0 0 [k]);rw[WfF];exact .inr (.inr ⟨.inl ⟨rfl,rfl⟩,rfl,rfl,rfl,by rw[WfL];exact⟨h,trivial⟩⟩)};{show NcF (.mk 5 nilB 0 0 [k]);rw[NcF];exact⟨by decide,by decide,by rw[NcL];exact⟨red_nc hr hc,trivial⟩⟩};{intro c;show valC d c (.mk 5 nilB 0 0 [k])=_;rw[valC];simp[valCL]};{intro t ht;have ht:t∈testsF (.mk 5 nilB 0 0 [k]):=ht;rw[testsF]at ht;simpa[testsL]using ht}}
theorem joinF_ok {d:List Fa}{op:Int}(hop:op=6\/op=7){l:List Fo}(h:∀k∈l,WfF d k)(hr:∀k∈l,RedF k):
  let u:=if op=6 then 1 else 2;let z:=if op=6 then 2 else 1
  WfF d (joinF op u z l)/\ RedF (joinF op u z l)/\ (∀c,valC d c (joinF op u z l)=if op=6 then(l.map (valC d c)).all id else(l.map (valC d c)).any id)/\ ∀t∈testsF (joinF op u z l),∃k∈l,t∈testsF k:=by
 intro u z
 have hz1:∀k∈l,k.op=z->∀c,valC d c k=decide (op≠6):=by{intro k hk hkz c;have hc:conF k=some (decide (op≠6)):=by{unfold conF;rw[hkz];rcases hop with rfl | rfl<;>simp[z]};rw[wf_con (h k hk) hc,val_known]}
 have hu1:∀k∈l,k.op=u->∀c,valC d c k=decide (op=6):=by{intro k hk hku c;have hc:conF k=some (decide (op=6)):=by{unfold conF;rw[hku];rcases hop with rfl | rfl<;>simp[u]};rw[wf_con (h k hk) hc,val_known]}
 unfold joinF;cases hf:l.find? (fun k=>k.op==z)with
 | some k=>{have hk:=List.mem_of_find?_eq_some hf;(have hkz:k.op=z:=by simpa using List.find?_some hf);refine⟨h k hk,hr k hk,fun c=>?_,fun t ht=>⟨k,hk,ht⟩⟩;have h1:=hz1 k hk hkz c;show valC d c k=_;rw[h1];(rcases hop with rfl | rfl);{symm;simp only[if_true];show _=false;rw[List.all_eq_false];refine⟨valC d c k,List.mem_map_of_mem hk,?_⟩;rw[h1];decide};{symm;rw[if_neg (by decide)];show _=true;rw[List.any_eq_true];refine⟨valC d c k,List.mem_map_of_mem hk,?_⟩;rw[h1];rfl}}
 | none=>
  have hnz:∀k∈l,k.op≠z:=by{intro k hk e;have:=List.find?_eq_none.1 hf k hk;simp[e]at this}
  have hval:∀c,(if op=6 then(l.map (valC d c)).all id else(l.map (valC d c)).any id)=
    if op=6 then((l.filter (fun k=>k.op !=u)).map (valC d c)).all id else((l.filter (fun k=>k.op !=u)).map (valC d c)).any id:=by
   intro c;rcases hop with rfl | rfl
   {simp only[if_true];rw[Bool.eq_iff_iff,List.all_eq_true,List.all_eq_true];constructor;{intro hh x hx;obtain⟨k,hk,rfl⟩:=List.mem_map.1 hx;exact hh _ (List.mem_map_of_mem (List.mem_filter.1 hk).1)};{intro hh x hx;obtain⟨k,hk,rfl⟩:=List.mem_map.1 hx;by_cases hku:k.op=u;{rw[hu1 k hk hku c];rfl};{exact hh _ (List.mem_map_of_mem (List.mem_filter.2 ⟨hk,by simpa using hku⟩))}}}
   {rw[if_neg (by decide),if_neg (by decide)];rw[Bool.eq_iff_iff,List.any_eq_true,List.any_eq_true];constructor;{rintro⟨x,hx,h1⟩;obtain⟨k,hk,rfl⟩:=List.mem_map.1 hx;by_cases hku:k.op=u;{rw[hu1 k hk hku c]at h1;exact absurd h1 (by decide)};{exact⟨_,List.mem_map_of_mem (List.mem_filter.2 ⟨hk,by simpa using hku⟩),h1⟩}};{rintro⟨x,hx,h1⟩;obtain⟨k,hk,rfl⟩:=List.mem_map.1 hx;exact⟨_,List.mem_map_of_mem (List.mem_filter.1 hk).1,h1⟩}}
  have hmem:∀k∈l.filter (fun k=>k.op !=u),k∈l/\ NcF k:=by{intro k hk;have hk':=List.mem_filter.1 hk;refine⟨hk'.1,red_nc (hr k hk'.1) (con_op.2 ?_)⟩;(have h1:k.op≠u:=by simpa using hk'.2);have h2:=hnz k hk'.1;(rcases hop with rfl | rfl);{exact⟨h1,h2⟩};{exact⟨h2,h1⟩}}
  revert hval hmem;generalize l.filter (fun k=>k.op !=u)=m;intro hval hmem
  match m,hval,hmem with| [],hval,_=>{(have he:(Fo.mk u nilB 0 0 [])=knownF (decide (op=6)):=by rcases hop with rfl | rfl<;>rfl);dsimp only;rw[he];refine⟨wf_known _ _,.inl (by rw[con_known];simp),fun c=>?_,fun t ht=>by rw[tests_known]at ht;cases ht⟩;rw[val_known,hval c];rcases hop with rfl | rfl<;>rfl}| [k],hval,hmem=>{dsimp only;have hk:=hmem k (by simp);refine⟨h k hk.1,hr k hk.1,fun c=>?_,fun t ht=>⟨k,hk.1,ht⟩⟩;rw[hval c];simp}| a::b::ks,hval,hmem=>{dsimp only;refine⟨?_,.inr ?_,fun c=>?_,fun t ht=>?_⟩;{rw[WfF];refine .inr (.inr ⟨.inr ⟨hop,by simp⟩,rfl,rfl,rfl,?_⟩);rw[WfL_iff];exact fun k hk=>h k (hmem k hk).1};{rw[NcF,NcL_iff];exact⟨by omega,by omega,fun k hk=>(hmem k hk).2⟩};{rw[hval c,valC,valCL_eq];(rcases hop with rfl | rfl);{rw[if_neg (by decide),if_neg (by decide),if_pos rfl,if_pos rfl]};{rw[if_neg (by decide),if_neg (by decide),if_neg (by decide),if_pos rfl,if_neg (by decide)]}};{rw[testsF,if_neg (by omega),List.nil_append,testsL_mem]at ht;obtain⟨k,hk,ht⟩:=ht;exact⟨k,(hmem k hk).1,ht⟩}}
theorem givF_ok (d:List Fa)(nm:ByteArray)(v:Int):∀(N:Nat) (f:Fo),f.size<=N->WfF d f->
  WfF d (givF nm v f)/\ RedF (givF nm v f)/\
  (∀c,(∀t∈testsF f,t.1=nm->cmpB v t.2.1 t.2.2=cmpB (c (idxD d nm).toNat) t.2.1 t.2.2)->valC d c (givF nm v f)=valC d c f)/\
  ∀t∈testsF (givF nm v f),t∈testsF f/\ t.1≠nm:=by
 intro N
 induction N with
 | zero=>intro f h;have:=f.size_pos;omega
 | succ N ih=>
  intro f hN hw;obtain⟨op,s,c,n,ks⟩:=f
  have hks:∀k∈ks,k.size<=N:=by{intro k hk;obtain⟨i,hi,rfl⟩:=List.getElem_of_mem hk;have:=Fo.size_get ks i hi;rw[Fo.size]at hN;omega}
  rw[WfF]at hw;rcases hw with⟨h1,rfl,rfl,rfl,rfl⟩ | ⟨rfl,h1,h2,h3,h4,rfl⟩ | ⟨h1,rfl,rfl,rfl,hwl⟩
  {(have hne:op≠3/\ op≠5/\ op≠6/\ op≠7:=by omega);have he:givF nm v (.mk op nilB 0 0 [])=.mk op nilB 0 0 []:=by{rw[givF,if_neg hne.1,if_neg hne.2.1,if_neg hne.2.2.1,if_neg hne.2.2.2]};rw[he];refine⟨by rw[WfF];exact .inl ⟨h1,rfl,rfl,rfl,rfl⟩,.inl ?_,fun _ _=>rfl,fun t ht=>?_⟩;{rw[Ne,con_op];simp only[Fo.op];omega};{rw[testsF,if_neg hne.1]at ht;simp[testsL]at ht}}
  {rw[givF,if_pos rfl];by_cases hs:eqB s nm=true;{rw[if_pos hs];(have hs':s=nm:=by unfold eqB at hs;rw[<-eqB_eq]at hs;simpa using hs);subst hs';refine⟨wf_known _ _,.inl (by rw[con_known];simp),fun c' hc=>?_,fun t ht=>by rw[tests_known]at ht;cases ht⟩;rw[val_known,valC,if_pos rfl];exact hc (s,c,n) (by simp[testsF,testsL]) rfl};{rw[if_neg hs];refine⟨by rw[WfF];exact .inr (.inl ⟨rfl,h1,h2,h3,h4,rfl⟩),.inr ?_,fun _ _=>rfl,fun t ht=>⟨ht,?_⟩⟩;{rw[NcF,NcL];exact⟨by decide,by decide,trivial⟩};{rw[testsF,if_pos rfl,testsL,List.append_nil,List.mem_singleton]at ht;subst ht;intro e;have e:s=nm:=e;apply hs;unfold eqB;rw[e];simp}}}
  ·have hwl:=(WfL_iff d ks).1 hwl
   have IH:=fun k (hk:k∈ks)=>ih k (hks k hk) (hwl k hk)
   have htl:∀ {op':Int} (_:op'≠3) t,t∈testsF (.mk op' nilB 0 0 ks)↔∃k∈ks,t∈testsF k:=by{intro op' ho t;rw[testsF,if_neg ho,List.nil_append,testsL_mem]}
   rcases h1 with⟨rfl,hl1⟩ | ⟨hop,hl2⟩
   {obtain⟨k,rfl⟩:=List.length_eq_one_iff.1 hl1;have he:givF nm v (.mk 5 nilB 0 0 [k])=notF (givF nm v k):=by{rw[givF,if_neg (by decide),if_pos rfl];simp[givL]};rw[he];have hk:=IH k (by simp);obtain⟨q1,q2,q3,q4⟩:=notF_ok hk.1 hk.2.1;refine⟨q1,q2,fun c hc=>?_,fun t ht=>?_⟩;{rw[q3,hk.2.2.1 c (fun t ht=>hc t ((htl (by decide) t).2 ⟨k,by simp,ht⟩)),valC];simp[valCL]};{have:=hk.2.2.2 t (q4 t ht);exact⟨(htl (by decide) t).2 ⟨k,by simp,this.1⟩,this.2⟩}}
   ·have he:givF nm v (.mk op nilB 0 0 ks)=joinF op (if op=6 then 1 else 2) (if op=6 then 2 else 1) (ks.map (givF nm v)):=by
     rw[givF,if_neg (by omega),if_neg (by omega)];rcases hop with rfl | rfl
     {rw[if_pos rfl,if_pos rfl,if_pos rfl,givL_eq]}
     {rw[if_neg (by decide),if_pos rfl,if_neg (by decide),if_neg (by decide),givL_eq]}
    rw[he];obtain⟨q1,q2,q3,q4⟩:=joinF_ok (d:=d) hop (l:=ks.map (givF nm v)) (fun x hx=>by obtain⟨k,hk,rfl⟩:=List.mem_map.1 hx;exact(IH k hk).1) (fun x hx=>by obtain⟨k,hk,rfl⟩:=List.mem_map.1 hx;exact(IH k hk).2.1);refine⟨q1,q2,fun c hc=>?_,fun t ht=>?_⟩
    {rw[q3,List.map_map];have hm:ks.map (valC d c∘givF nm v)=ks.map (valC d c):=by{(refine List.map_congr_left fun k hk=>?_);exact(IH k hk).2.2.1 c (fun t ht=>hc t ((htl (by omega) t).2 ⟨k,hk,ht⟩))};rw[hm,valC,valCL_eq];(rcases hop with rfl | rfl);{rw[if_pos rfl,if_neg (by decide),if_neg (by decide),if_pos rfl]};{rw[if_neg (by decide),if_neg (by decide),if_neg (by decide),if_neg (by decide),if_pos rfl]}}
    {obtain⟨x,hx,ht⟩:=q4 t ht;obtain⟨k,hk,rfl⟩:=List.mem_map.1 hx;have:=(IH k hk).2.2.2 t ht;exact⟨(htl (by omega) t).2 ⟨k,hk,this.1⟩,this.2⟩}
theorem nc_tests (d:List Fa):∀(N:Nat) (f:Fo),f.size<=N->WfF d f->NcF f->testsF f≠[]:=by
 intro N
 induction N with
 | zero=>intro f h;have:=f.size_pos;omega
 | succ N ih=>
  intro f hN hw hn;obtain⟨op,s,c,n,ks⟩:=f;rw[WfF]at hw;rw[NcF]at hn;rcases hw with⟨h1,_⟩ | ⟨rfl,_⟩ | ⟨h1,_,_,_,hwl⟩
  {omega}
  {rw[testsF,if_pos rfl];simp}
  ·obtain⟨k,l,rfl⟩:∃k l,ks=k::l:=by
    cases ks with| nil=>simp at h1| cons k l=>exact⟨k,l,rfl⟩
   rw[WfL]at hwl;have hn2:=hn.2.2;rw[NcL]at hn2;have:=ih k (by rw[Fo.size,Fo.sizeL]at hN;omega) hwl.1 hn2.1;intro e;rw[testsF]at e;have e:=(List.append_eq_nil_iff.1 e).2;rw[testsL]at e;exact this (List.append_eq_nil_iff.1 e).1
theorem name_ok {s:ByteArray}(h:nameB s=true):NameOk s:=by
 unfold nameB at h;simp only[Bool.and_eq_true]at h;obtain⟨⟨h1,_⟩,_⟩:=h
 have key:∀(l:List UInt8) (k:Nat),okAll l k=true->(∀c∈l,c≠44)/\ (k=0->∀c∈l.head?,digCh c=false):=by{intro l;induction l with| nil=>intro k _;simp| cons a l ih=>{intro k h;rw[okAll,Bool.and_eq_true]at h;obtain⟨i1,_⟩:=ih _ h.2;have ha:=h.1;unfold okB at ha;rw[decide_eq_true_eq]at ha;refine⟨fun c hc=>?_,fun hk c hc=>?_⟩;{(rcases List.mem_cons.1 hc with rfl | hc);{rintro rfl;simp at ha};{exact i1 c hc}};{subst hk;simp at hc;subst hc;simp only[ne_eq,not_true,false_and,or_false]at ha;unfold digCh;rw[Bool.and_eq_false_iff,decide_eq_false_iff_not,decide_eq_false_iff_not];omega}}}
 obtain⟨k1,k2⟩:=key _ 0 h1;rw[NameOk,ByteArray.toList_eq];exact⟨k1,k2 rfl⟩
theorem nil_ok :NameOk nilB:=by
 have:nilB.toList=[]:=by rw[ByteArray.toList_eq];rfl
 rw[NameOk,this];simp
theorem wf_sp (d:List Fa):∀(N:Nat) (f:Fo),f.size<=N->WfF d f->SpOk f:=by
 intro N
 induction N with| zero=>intro f h;have:=f.size_pos;omega| succ N ih=>{intro f hN hw;obtain⟨op,s,c,n,ks⟩:=f;rw[WfF]at hw;rw[SpOk,SpOks_iff];(rcases hw with⟨h1,rfl,_,_,rfl⟩ | ⟨rfl,_,_,h3,_,rfl⟩ | ⟨h1,rfl,_,_,hwl⟩);{exact⟨by omega,nil_ok,by simp⟩};{exact⟨by omega,name_ok h3,by simp⟩};{refine⟨by omega,nil_ok,fun k hk=>ih k ?_ ((WfL_iff d ks).1 hwl k hk)⟩;obtain⟨i,hi,rfl⟩:=List.getElem_of_mem hk;have:=Fo.size_get ks i hi;rw[Fo.size]at hN;omega}}
section
def numsF (nm:ByteArray)(f:Fo):List Int:=((testsF f).filter fun t=>eqB t.1 nm).flatMap fun t=>[t.2.2,t.2.2+1]
def compL :List Int->List Int
 | []=>[]
 | a::l=>a::compD a l
def startsD (nm:ByteArray)(lo hi:Int)(f:Fo):List Int:=compL (((lo::numsF nm f).mergeSort fun x y=>decide (x<=y)).filter fun n=> !(decide (n<lo) || decide (hi<n)))
theorem nums_mem (nm:ByteArray)(f:Fo)(x:Int):x∈numsF nm f↔∃t∈testsF f,t.1=nm/\ (x=t.2.2\/x=t.2.2+1):=by
 unfold numsF;rw[List.mem_flatMap];constructor
 {rintro⟨t,ht,hx⟩;rw[List.mem_filter]at ht;have h1:=ht.2;unfold eqB at h1;rw[<-eqB_eq]at h1;exact⟨t,ht.1,by simpa using h1,by simpa using hx⟩}
 {rintro⟨t,ht,rfl,hx⟩;refine⟨t,List.mem_filter.2 ⟨ht,by simp[eqB]⟩,by simpa using hx⟩}
theorem starts_law (nm:ByteArray){lo hi:Int}(hlh:lo<=hi)(f:Fo):∃ss,startsD nm lo hi f=lo::ss/\ chainI hi lo ss/\ ∀x,x∈lo::ss↔(lo<=x/\ x<=hi)/\ (x=lo\/x∈numsF nm f):=by
 have hs:((lo::numsF nm f).mergeSort fun x y=>decide (x<=y)).Pairwise (· <= ·):=by{have:=List.pairwise_mergeSort (le:=fun x y:Int=>decide (x<=y)) (fun a b c h1 h2=>by simp at*;omega) (fun a b=>by simp;omega) (lo::numsF nm f);exact this.imp fun h=>by simpa using h}
 have hm:∀x,x∈((lo::numsF nm f).mergeSort fun x y=>decide (x<=y)).filter (fun n=> !(decide (n<lo) || decide (hi<n)))↔(lo<=x/\ x<=hi)/\ (x=lo\/x∈numsF nm f):=by{intro x;rw[List.mem_filter,List.mem_mergeSort,List.mem_cons];simp only[Bool.not_eq_true',Bool.or_eq_false_iff,decide_eq_false_iff_not];constructor;{rintro⟨h1,h2,h3⟩;exact⟨by omega,h1⟩};{rintro⟨h1,h2⟩;exact⟨h2,by omega,by omega⟩}}
 unfold startsD;have hp:=hs.filter (fun n=> !(decide (n<lo) || decide (hi<n)));revert hm hp;generalize((lo::numsF nm f).mergeSort fun x y=>decide (x<=y)).filter (fun n=> !(decide (n<lo) || decide (hi<n)))=l;intro hm hp;obtain⟨ls,ss,e1,e2,e3,e4⟩:=starts_chain hp (fun x hx=>((hm x).1 hx).1) ((hm lo).2 ⟨⟨Int.le_refl _,hlh⟩,.inl rfl⟩);refine⟨ss,by rw[e1,e2];rfl,e3,fun x=>?_⟩;rw[e4 x,hm x]
theorem cmp_between {v u how n:Int}(h1:¬(v<n/\ n<=u))(h2:¬(v<n+1/\ n+1<=u))(h:v<=u):cmpB v how n=cmpB u how n:=by
 have e1:decide (v=n)=decide (u=n):=by rw[decide_eq_decide];omega
 have e2:decide (v≠n)=decide (u≠n):=by rw[decide_eq_decide];omega
 have e3:decide (v<n)=decide (u<n):=by rw[decide_eq_decide];omega
 have e4:decide (v<=n)=decide (u<=n):=by rw[decide_eq_decide];omega
 have e5:decide (n<v)=decide (n<u):=by rw[decide_eq_decide];omega
 have e6:decide (n<=v)=decide (n<=u):=by rw[decide_eq_decide];omega
 unfold cmpB;rw[e1,e2,e3,e4,e5,e6]
def fnm (d:List Fa)(i:Nat):ByteArray:=(d.getD i default).name
def flo (d:List Fa)(i:Nat):Int:=(d.getD i default).lo
def fhi (d:List Fa)(i:Nat):Int:=(d.getD i default).hi
structure DomOk (d : List Fa) : Prop where
 len:d.length<=60
 name:∀i,i<d.length->idxD d (fnm d i)=i/\ nameB (fnm d i)=true
 lohi:∀i,i<d.length->0<=flo d i/\ flo d i<=fhi d i/\ fhi d i<=1000000
theorem idx_at_dg :∀(d:List Fa) (s:ByteArray) (k:Int),(∃j:Nat,idxFrom (fun f:Fa=>eqB f.name s) d k=k+j/\ ∃h:j<d.length,d[j].name=s)\/idxFrom (fun f:Fa=>eqB f.name s) d k= -1
 | [],_,_=>.inr rfl
 | f::d,s,k=>by{rw[idxFrom];by_cases h:eqB f.name s=true;{rw[if_pos h];refine .inl ⟨0,by omega,by simp,?_⟩;unfold eqB at h;rw[<-eqB_eq]at h;simpa using h};{rw[if_neg h];(rcases idx_at_dg d s (k+1)with⟨j,h1,h2,h3⟩ | h1);{exact .inl ⟨j+1,by rw[h1];omega,by simp;omega,by simpa using h3⟩};{exact .inr h1}}}
theorem idx_name {d:List Fa}{s:ByteArray}{k:Nat}(h:idxD d s=k)(hk:k<d.length):fnm d k=s:=by
 unfold idxD at h;rcases idx_at_dg d s 0 with⟨j,h1,h2,h3⟩ | h1
 {(have:j=k:=by omega);subst this;unfold fnm;rw[getD_dg _ _ _ hk];exact h3}
 {omega}
variable {d : List Fa}
def givD (d:List Fa)(i:Nat)(s:Fo)(v:Int):Fo:=givF (fnm d i) v s
def stD (d:List Fa)(i:Nat)(s:Fo):List Int:=startsD (fnm d i) (flo d i) (fhi d i) s
def growF (d:List Fa)(f:Nat)(m:List Dn)(dn:List (ByteArray×Nat))(i:Nat)(s:Fo):(List Dn×List (ByteArray×Nat))×Nat:=growD d.length conF (stD d) (givD d) keyD 20000 f m dn i s
structure ResF (d : List Fa) (f0 : Fo) (i : Nat) (s : Fo) : Prop where
 le:i<=d.length
 wf:WfF d s
 red:RedF s
 tests:∀t∈testsF s,t∈testsF f0/\ ∃k,i<=k/\ k<d.length/\ idxD d t.1=(k:Nat)
 from_:∃vs:List Int,vs.length=i/\ (∀j,j<i->vs.getD j 0∈stD d j f0)/\ ∀c,fitsC d.length (flo d) (fhi d) c->valC d c s=valC d (fun j=>if j<i then vs.getD j 0 else c j) f0
theorem st_sub (hd:DomOk d){s f:Fo}(h:∀t∈testsF s,t∈testsF f){i:Nat}(hi:i<d.length){v:Int}(hv:v∈stD d i s):v∈stD d i f:=by
 have hl:=(hd.lohi i hi).2.1;obtain⟨ss,e1,_,e2⟩:=starts_law (fnm d i) hl s;obtain⟨ss',e1',_,e2'⟩:=starts_law (fnm d i) hl f;unfold stD at*
 rw[e1,e2]at hv;rw[e1',e2'];refine⟨hv.1,hv.2.imp id fun h1=>?_⟩;rw[nums_mem]at h1⊢;obtain⟨t,h2,h3⟩:=h1;exact⟨t,h t h2,h3⟩
theorem res_giv (hd:DomOk d){f0:Fo}{i:Nat}{s:Fo}(h:ResF d f0 i s)(hi:i<d.length){v:Int}(hv:v∈stD d i s):ResF d f0 (i+1) (givD d i s v):=by
 obtain⟨q1,q2,q3,q4⟩:=givF_ok d (fnm d i) v s.size s (Nat.le_refl _) h.wf;obtain⟨vs,hvl,hvs,hval⟩:=h.from_;obtain⟨ss,es,_,em⟩:=starts_law (fnm d i) (hd.lohi i hi).2.1 s
 have hvb:flo d i<=v/\ v<=fhi d i:=by{unfold stD at hv;rw[es,em]at hv;exact hv.1}
 refine⟨hi,q1,q2,?_,vs++[v],by simp[hvl],?_,?_⟩
 {intro t ht;have h1:=q4 t ht;obtain⟨h2,k,h3,h4,h5⟩:=h.tests t h1.1;refine⟨h2,k,?_,h4,h5⟩;(rcases Nat.lt_or_ge i k with h6 | h6);{exact h6};{exfalso;(have:k=i:=by omega);subst this;exact h1.2 (idx_name h5 h4).symm}}
 {intro j hj;(rcases Nat.lt_or_ge j i with h1 | h1);{rw[getD_snoc _ _ _ (by omega)];exact hvs j h1};{(have:j=vs.length:=by omega);subst this;rw[getD_snoc_last,hvl];exact st_sub hd (fun t ht=>(h.tests t ht).1) hi hv}}
 ·intro c fc
  have hc':fitsC d.length (flo d) (fhi d) (updC c i v):=fits_upd fc hvb.1 hvb.2
  have e1:valC d c (givD d i s v)=valC d (updC c i v) (givD d i s v):=by
   have hh:∀(N:Nat) (f:Fo),f.size<=N->WfF d f->(∀t∈testsF f,t.1≠fnm d i)->valC d c f=valC d (updC c i v) f:=by
    intro N
    induction N with
    | zero=>intro f h;have:=f.size_pos;omega
    | succ N ih=>
     intro f hN hw ht;obtain⟨op,s,m,n,ks⟩:=f;rw[WfF]at hw;rw[valC,valC];rcases hw with⟨h1,_⟩ | ⟨rfl,_,_,_,⟨k,hk,hkl⟩,_⟩ | ⟨h1,_,_,_,hwl⟩
     {rw[if_neg (by omega),if_neg (by omega),if_neg (by omega),if_neg (by omega),if_neg (by omega),if_neg (by omega),if_neg (by omega),if_neg (by omega)]}
     {rw[if_pos rfl,if_pos rfl];have h2:(idxD d s).toNat≠i:=by{intro e;rw[hk,Int.toNat_natCast]at e;subst e;exact ht (s,m,n) (by simp[testsF]) (idx_name hk hkl).symm};unfold updC;rw[if_neg h2]}
     ·have hm:valCL d c ks=valCL d (updC c i v) ks:=by
       rw[valCL_eq,valCL_eq];refine List.map_congr_left fun k hk=>ih k ?_ ((WfL_iff d ks).1 hwl k hk) fun t htk=>ht t ?_
       {obtain⟨j,hj,rfl⟩:=List.getElem_of_mem hk;have:=Fo.size_get ks j hj;rw[Fo.size]at hN;omega}
       {rw[testsF,List.mem_append,testsL_mem];exact .inr ⟨k,hk,htk⟩}
      have h3:op≠3:=by omega
      rw[if_neg h3,if_neg h3,hm]
   exact hh _ _ (Nat.le_refl _) q1 fun t ht=>(q4 t ht).2
  rw[e1]
  show valC d (updC c i v) (givF (fnm d i) v s)=_
  rw[q3 (updC c i v) ?_,hval _ hc']
  {congr 1;funext j;unfold updC;by_cases h1:j<i;{rw[if_pos h1,if_pos (by omega),getD_snoc _ _ _ (by omega)]};{rw[if_neg h1];by_cases h2:j=i;{rw[if_pos h2,if_pos (by omega),h2];have:=getD_snoc_last vs v 0;rw[hvl]at this;exact this.symm};{rw[if_neg h2,if_neg (by omega)]}}}
  {intro t ht e;rw[(hd.name i hi).1,Int.toNat_natCast];unfold updC;rw[if_pos rfl]}
theorem res_start (hd:DomOk d){f0:Fo}{i:Nat}{s:Fo}(h:ResF d f0 i s)(hi:i<d.length):∃ss,stD d i s=flo d i::ss/\ chainI (fhi d i) (flo d i) ss/\
  ∀c,fitsC d.length (flo d) (fhi d) c->valC d c s=valC d c (givD d i s ((flo d i::ss).getD (nextI ss (c i)) 0)):=by
 obtain⟨ss,e1,e2,e3⟩:=starts_law (fnm d i) (hd.lohi i hi).2.1 s;refine⟨ss,e1,e2,fun c fc=>?_⟩;obtain⟨_,_,q3,_⟩:=givF_ok d (fnm d i) ((flo d i::ss).getD (nextI ss (c i)) 0) s.size s (Nat.le_refl _) h.wf;have hfc:=fc i hi;obtain⟨g1,g2,g3⟩:=start_at ss (flo d i) (c i) e2 hfc.1;symm
 unfold givD;refine q3 c fun t ht e=>?_
 rw[(hd.name i hi).1,Int.toNat_natCast]
 have key:∀x,x=t.2.2\/x=t.2.2+1->¬((flo d i::ss).getD (nextI ss (c i)) 0<x/\ x<=c i):=by{intro x hx hh;have:=g3 x ((e3 x).2 ⟨by omega,.inr ((nums_mem _ _ _).2 ⟨t,ht,e,hx⟩)⟩) hh.2;omega}
 exact cmp_between (key _ (.inl rfl)) (key _ (.inr rfl)) g1
theorem res_end {f0 s:Fo}(h:ResF d f0 d.length s):conF s≠none:=by
 intro hc;have h1:=nc_tests d s.size s (Nat.le_refl _) h.wf (red_nc h.red hc);cases ht:testsF s with| nil=>exact h1 ht| cons t l=>{obtain⟨_,k,h2,h3,_⟩:=h.tests t (by rw[ht];simp);omega}
theorem res_first {f:Fo}(h:WfF d f):ResF d f 0 (givF nilB 0 f):=by
 obtain⟨q1,q2,q3,q4⟩:=givF_ok d nilB 0 f.size f (Nat.le_refl _) h
 have hne:∀(N:Nat) (f:Fo),f.size<=N->WfF d f->∀t∈testsF f,t.1≠nilB/\ ∃k:Nat,k<d.length/\ idxD d t.1=k:=by{intro N;induction N with| zero=>intro f h;have:=f.size_pos;omega| succ N ih=>{intro f hN hw t ht;obtain⟨op,s,m,n,ks⟩:=f;rw[WfF]at hw;rw[testsF,List.mem_append,testsL_mem]at ht;(rcases hw with⟨h1,_,_,_,rfl⟩ | ⟨rfl,_,_,h3,⟨k,hk,hkl⟩,rfl⟩ | ⟨h1,_,_,_,hwl⟩);{rw[if_neg (by omega)]at ht;simp at ht};{simp at ht;subst ht;refine⟨?_,k,hkl,hk⟩;intro e;have e:s=nilB:=e;rw[e,show nameB nilB=false by kernel_rfl]at h3;cases h3};{rw[if_neg (by omega)]at ht;simp only[List.not_mem_nil,false_or]at ht;obtain⟨k,hk,ht⟩:=ht;refine ih k ?_ ((WfL_iff d ks).1 hwl k hk) t ht;obtain⟨j,hj,rfl⟩:=List.getElem_of_mem hk;have:=Fo.size_get ks j hj;rw[Fo.size]at hN;omega}}}
 refine⟨Nat.zero_le _,q1,q2,?_,[],rfl,fun j hj=>absurd hj (Nat.not_lt_zero j),?_⟩
 {intro t ht;have h1:=q4 t ht;obtain⟨_,k,h3,h4⟩:=hne _ f (Nat.le_refl _) h t h1.1;exact⟨h1.1,k,Nat.zero_le _,h3,h4⟩}
 {intro c _;rw[q3 c fun t ht e=>absurd e (hne _ f (Nat.le_refl _) h t ht).1];congr 1}
theorem con_val {f:Fo}{b:Bool}(h:WfF d f)(hc:conF f=some b)(c:Nat->Int):valC d c f=b:=by rw[wf_con h hc,val_known]
theorem growF_ok (hd:DomOk d){f0:Fo}(hcap:∀m dn,InvG d.length (flo d) (fhi d) (fun s c=>valC d c s) keyD (ResF d f0) m dn->m.length<=20000)(f:Nat)(m:List Dn)(dn:List (ByteArray×Nat))(i:Nat)(s:Fo)
  (hI:InvG d.length (flo d) (fhi d) (fun s c=>valC d c s) keyD (ResF d f0) m dn) (hR:ResF d f0 i s) (hf:d.length-i<f):
  InvG d.length (flo d) (fhi d) (fun s c=>valC d c s) keyD (ResF d f0) (growF d f m dn i s).1.1 (growF d f m dn i s).1.2/\ NodeG d.length (flo d) (fhi d) (fun s c=>valC d c s) (growF d f m dn i s).1.1 i s (growF d f m dn i s).2/\
  ∃u,(growF d f m dn i s).1.1=m++u:=by
 refine grow_ok hcap (fun i s bl hr hc c _=>con_val hr.wf hc c) (fun s hr=>res_end hr) (fun i s hr=>hr.le) ?_ (fun i s v hr _ hi hv=>res_giv hd hr hi hv) (fun i s hr _ hi=>res_start hd hr hi) f m dn i s hI hR hf;intro i s i' s' hr hr' he;obtain⟨e1,e2⟩:=keyD_inj (wf_sp d _ s (Nat.le_refl _) hr.wf) (wf_sp d _ s' (Nat.le_refl _) hr'.wf) he;exact⟨e1,fun c _=>by rw[e2]⟩
theorem inv_start (f0:Fo):InvG d.length (flo d) (fhi d) (fun s c=>valC d c s) keyD (ResF d f0) [] []:=
 ⟨Made.nil,fun k h=>absurd h (Nat.not_lt_zero k),fun _ _ _ _ h=>by cases h⟩
end
section
def prodF (b:Nat->Nat):Nat->Nat
 | 0=>1
 | n+1=>prodF b n*b n
def radF (b a:Nat->Nat):Nat->Nat
 | 0=>0
 | n+1=>radF b a n+a n*prodF b n
theorem rad_lt {b a:Nat->Nat}:∀ {n:Nat},(∀j,j<n->a j<b j)->radF b a n<prodF b n
 | 0,_=>Nat.one_pos
 | n+1,h=>by{(have ih:=rad_lt (n:=n) fun j hj=>h j (by omega));have h1:(a n+1)*prodF b n<=b n*prodF b n:=Nat.mul_le_mul_right _ (h n (by omega));rw[Nat.add_mul]at h1;rw[radF,prodF,Nat.mul_comm (prodF b n)];omega}
theorem rad_inj {b a a':Nat->Nat}:∀ {n:Nat},(∀j,j<n->a j<b j)->(∀j,j<n->a' j<b j)->radF b a n=radF b a' n->∀j,j<n->a j=a' j
 | 0,_,_,_,j,hj=>absurd hj (Nat.not_lt_zero j)
 | n+1,h,h',e,j,hj=>by{(have l1:=rad_lt (n:=n) fun j hj=>h j (by omega));(have l2:=rad_lt (n:=n) fun j hj=>h' j (by omega));rw[radF,radF]at e;have hn:a n=a' n:=by{(rcases Nat.lt_trichotomy (a n) (a' n)with q | q | q);{have:(a n+1)*prodF b n<=a' n*prodF b n:=Nat.mul_le_mul_right _ q;rw[Nat.add_mul]at this;omega};{exact q};{have:(a' n+1)*prodF b n<=a n*prodF b n:=Nat.mul_le_mul_right _ q;rw[Nat.add_mul]at this;omega}};rw[hn]at e;(rcases Nat.lt_or_ge j n with h1 | h1);{exact rad_inj (fun j hj=>h j (by omega)) (fun j hj=>h' j (by omega)) (by omega) j h1};{(have:j=n:=by omega);rw[this];exact hn}}
section
variable {nf : Nat} {lo hi : Nat -> Int} {t : List Dn} {M : Nat -> (Nat -> Int) -> Bool}
theorem inner_looks (g:GoodT nf lo hi t M){k:Nat}(hk:k<t.length)(h:(t.getD k default).kids≠[])
  (hc:∀c v,fitsC nf lo hi c->lo (t.getD k default).fact.toNat<=v->v<=hi (t.getD k default).fact.toNat->M k (updC c (t.getD k default).fact.toNat v)=M k c):False:=by
 have hin:=(g.table k hk).inner h
 obtain⟨c0,cs,hcs⟩:∃c0 cs,(t.getD k default).cuts=c0::cs:=by{cases e:(t.getD k default).cuts with| nil=>exact absurd e hin.2.2.2.1| cons a l=>exact⟨a,l,rfl⟩}
 have hlen:=hin.2.2.2.2.1;have hch:=hin.2.2.2.2.2.1
 obtain⟨k0,k1,ks,hks⟩:∃k0 k1 ks,(t.getD k default).kids=k0::k1::ks:=by{rw[hcs]at hlen;cases e:(t.getD k default).kids with| nil=>rw[e]at hlen;simp at hlen| cons a l=>{cases l with| nil=>rw[e]at hlen;simp at hlen| cons b l=>exact⟨a,b,l,rfl⟩}}
 have hlh:=g.dom _ hin.2.2.1;rw[hcs]at hch
 have e0:kidAt (t.getD k default) (lo (t.getD k default).fact.toNat)=k0:=by{unfold kidAt;rw[hcs,nextI_lo hch,hks];rfl}
 have e1:kidAt (t.getD k default) c0=k1:=by{unfold kidAt;rw[hcs,nextI_ge (Int.le_refl _),nextI_lo hch.2.2,hks];rfl}
 have h0:=hin.2.2.2.2.2.2.2 k0 (by rw[hks];simp);have h1:=hin.2.2.2.2.2.2.2 k1 (by rw[hks];simp)
 have key:k0.toNat=k1.toNat:=by{(refine g.one h0.2.1 h1.2.1 fun c fc=>?_);have m0:=kid_means g.table g.reads hk h (v:=lo (t.getD k default).fact.toNat) (Int.le_refl _) hlh fc;have m1:=kid_means g.table g.reads hk h (v:=c0) (by have:=hch.1;omega) hch.2.1 fc;rw[e0]at m0;rw[e1]at m1;rw[m0,m1,hc c _ fc (Int.le_refl _) hlh,hc c _ fc (by have:=hch.1;omega) hch.2.1]}
 have hadj:=hin.2.2.2.2.2.2.1;rw[hks]at hadj;have:=h0.1;have:=h1.1;exact hadj.1 (by omega)
end
variable {d : List Fa}
def stN (d:List Fa)(f:Fo)(i:Nat):Nat:=(stD d i f).length
def cellsD (d:List Fa)(f:Fo):Nat:=prodF (stN d f) d.length
theorem st_pos (hd:DomOk d)(f:Fo){i:Nat}(hi:i<d.length):1<=stN d f i:=by
 obtain⟨ss,e,_⟩:=starts_law (fnm d i) (hd.lohi i hi).2.1 f;unfold stN stD;rw[e];simp
theorem st_one (hd:DomOk d){f0 s:Fo}{i:Nat}(h:ResF d f0 i s)(hi:i<d.length)(h1:stN d f0 i=1)(c:Nat->Int)(v:Int)(fc:fitsC d.length (flo d) (fhi d) c)(v1:flo d i<=v)(v2:v<=fhi d i):
  valC d (updC c i v) s=valC d c s:=by
 obtain⟨ss,e1,e2,e3⟩:=res_start hd h hi
 have hs:ss=[]:=by{cases ss with| nil=>rfl| cons a l=>{exfalso;have ha:a∈stD d i f0:=st_sub hd (fun t ht=>(h.tests t ht).1) hi (by rw[e1];simp);obtain⟨ss',e1',_,_⟩:=starts_law (fnm d i) (hd.lohi i hi).2.1 f0;have e1':stD d i f0=flo d i::ss':=e1';unfold stN at h1;rw[e1']at h1 ha;(have:ss'=[]:=by simpa using h1);subst this;have:=e2.1;simp at ha;omega}}
 subst hs;have a1:=e3 c fc;have a2:=e3 _ (fits_upd fc v1 v2);rw[nextI_nil]at a1 a2;rw[a1,a2];obtain⟨q1,_,_,q4⟩:=givF_ok d (fnm d i) ((flo d i::([]:List Int)).getD 0 0) s.size s (Nat.le_refl _) h.wf;have hr:=res_giv hd h hi (v:=flo d i) (by rw[e1];simp);obtain⟨vs,hvl,_,hval⟩:=hr.from_
 show valC d (updC c i v) (givD d i s (flo d i))=valC d c (givD d i s (flo d i))
 rw[hval _ fc,hval _ (fits_upd fc v1 v2)];congr 1
 funext j;unfold updC;by_cases hj:j<i+1
 {rw[if_pos hj,if_pos hj]}
 {rw[if_neg hj,if_neg hj,if_neg (by omega)]}
def digP (d:List Fa)(f0:Fo)(i:Nat)(vs:List Int)(j:Nat):Nat:=if j<i then(stD d j f0).idxOf (vs.getD j 0)else if j=i then 1 else 0
theorem build_cap (hd:DomOk d){f0:Fo}{m:List Dn}{dn:List (ByteArray×Nat)}(h:InvG d.length (flo d) (fhi d) (fun s c=>valC d c s) keyD (ResF d f0) m dn):m.length<=cellsD d f0+2:=by
 have hdom:∀i,i<d.length->flo d i<=fhi d i:=fun i hi=>(hd.lohi i hi).2.1
 have g:=h.made.good hdom
 refine cap_codes h.made hdom _ (fun k z=>∃i vs,i<d.length/\ 2<=stN d f0 i/\ vs.length=i/\ (∀j,j<i->vs.getD j 0∈stD d j f0)/\ z=radF (stN d f0) (digP d f0 i vs) d.length/\
  ∀c,fitsC d.length (flo d) (fhi d) c->readT m k c=valC d (fun j=>if j<i then vs.getD j 0 else c j) f0) ?_ ?_
 {intro k hk hkk;obtain⟨i,s,hR,hfact,hmean⟩:=h.from_ k hk hkk;have hin:=(h.made.table k hk).inner hkk;(have hi:i<d.length:=by have:=hin.2.2.1;rw[hfact,Int.toNat_natCast]at this;exact this);have h2:2<=stN d f0 i:=by{have h1:=st_pos hd f0 hi;(rcases Nat.lt_or_ge (stN d f0 i) 2 with hlt | hge);{exfalso;(refine inner_looks g hk hkk fun c v fc v1 v2=>?_);rw[hfact,Int.toNat_natCast]at v1 v2⊢;rw[hmean _ (fits_upd fc v1 v2),hmean _ fc];exact st_one hd hR hi (by omega) c v fc v1 v2};{exact hge}};obtain⟨vs,v1,v2,v3⟩:=hR.from_;refine⟨_,?_,i,vs,hi,h2,v1,v2,rfl,fun c fc=>by rw[hmean c fc,v3 c fc]⟩;(refine rad_lt fun j hj=>?_);unfold digP;(split);{next hji=>exact List.idxOf_lt_length_of_mem (v2 j hji)};{(split);{next hji=>rw[hji];omega};{have:=st_pos hd f0 hj;omega}}}
 {rintro k k' z hk hk' ⟨i,vs,h1,h2,h3,h4,h5,h6⟩ ⟨i',vs',h1',h2',h3',h4',h5',h6'⟩ c fc;have hb:∀ {i:Nat} {vs:List Int},2<=stN d f0 i->(∀j,j<i->vs.getD j 0∈stD d j f0)->∀j,j<d.length->digP d f0 i vs j<stN d f0 j:=by{intro i vs h2 h4 j hj;unfold digP;(split);{next hji=>exact List.idxOf_lt_length_of_mem (h4 j hji)};{(split);{next hji=>rw[hji];omega};{have:=st_pos hd f0 hj;omega}}};have hd2:=rad_inj (hb h2 h4) (hb h2' h4') (h5.symm.trans h5');have hii:i=i':=by{(rcases Nat.lt_trichotomy i i' with q | q | q);{have:=hd2 i' h1';unfold digP at this;rw[if_neg (by omega),if_neg (by omega),if_neg (by omega),if_pos rfl]at this;omega};{exact q};{have:=hd2 i h1;unfold digP at this;rw[if_neg (by omega),if_pos rfl,if_neg (by omega),if_neg (by omega)]at this;omega}};subst hii;rw[h6 c fc,h6' c fc];congr 1;funext j;by_cases hj:j<i;{rw[if_pos hj,if_pos hj];have:=hd2 j (by omega);unfold digP at this;rw[if_pos hj,if_pos hj]at this;have e1:=List.getElem_idxOf (List.idxOf_lt_length_of_mem (h4 j hj));have e2:=List.getElem_idxOf (List.idxOf_lt_length_of_mem (h4' j hj));rw[<-e1, <-e2];congr 1};{rw[if_neg hj,if_neg hj]}}
end
open Go.RowKit
def ageB :ByteArray:=⟨#[97,103,101]⟩
def taxB :ByteArray:=⟨#[116,97,120]⟩
end Go.Proofs.YtihniipjfdenbaaGreatDoor
