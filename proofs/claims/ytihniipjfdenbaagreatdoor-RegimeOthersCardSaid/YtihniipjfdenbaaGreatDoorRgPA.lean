/- Maps whose keys are steps (a string and a day): lookup, update, a range over them. No conditions. -/
import Derived.Test.YtihniipjfdenbaaGreatDoorRkPA
import Derived.WideKeyEntry
namespace Go.Proofs.YtihniipjfdenbaaGreatDoor
structure Chg where
 id:ByteArray
 question:ByteArray
 cond:Fo
 day:Int
 keep:Bool
abbrev Key :=ByteArray×Int
def Chg.key (c:Chg):Key:=(c.question,c.day)
def dayB (n:Int):Bool:=decide (0<=n)&& decide (n<=1000000)
def okCh (d:List Fa):List (ByteArray×Bool)->List Chg->Bool
 | _,[]=>true
 | m,c::l=>if m.lookup c.id=some true\/nameB c.id=false\/nameB c.question=false\/dayB c.day=false\/checkF c.cond d (fun _=>false)≠0 then false else okCh d (ins m c.id true) l
def properC (d:List Fa)(l:List Chg):Bool:=validD d&& decide (l.length<=60)&& okCh d [] l
theorem okCh_iff (d:List Fa):∀(l:List Chg) (m:List (ByteArray×Bool)),okCh d m l=true↔(∀c∈l,nameB c.id=true/\ nameB c.question=true/\ dayB c.day=true/\ checkF c.cond d (fun _=>false)=0/\ m.lookup c.id≠some true)/\ l.Pairwise fun p q=>p.id≠q.id
 | [],m=>⟨fun _=>⟨fun p hp=>(by cases hp),.nil⟩,fun _=>rfl⟩
 | p::l,m=>by
  rw[okCh];have ih:=okCh_iff d l (ins m p.id true);constructor
  ·intro h
   split at h
   {cases h}
   ·next hn=>
    simp only[not_or,Bool.not_eq_false,ne_eq,Classical.not_not]at hn;obtain⟨n1,n2,n3,n4,n5⟩:=hn;obtain⟨h1,h2⟩:=ih.1 h
    have hl:∀q∈l,m.lookup q.id≠some true/\ p.id≠q.id:=fun q hq=>by{have:=(h1 q hq).2.2.2.2;rw[look_ins]at this;by_cases e:q.id=p.id;{rw[if_pos e]at this;exact absurd rfl this};{rw[if_neg e]at this;exact⟨this,fun e'=>e e'.symm⟩}}
    refine⟨fun q hq=>?_,List.pairwise_cons.2 ⟨fun q hq=>(hl q hq).2,h2⟩⟩;rcases List.mem_cons.1 hq with rfl | hq
    {exact⟨n2,n3,n4,n5,n1⟩}
    {obtain⟨q1,q2,q3,q4,_⟩:=h1 q hq;exact⟨q1,q2,q3,q4,(hl q hq).1⟩}
  {rintro⟨h1,h2⟩;obtain⟨q1,q2,q3,q4,q5⟩:=h1 p (List.mem_cons_self ..);obtain⟨h3,h4⟩:=List.pairwise_cons.1 h2;rw[if_neg (by simp[q1,q2,q3,q4,q5])];refine ih.2 ⟨fun q hq=>?_,h4⟩;obtain⟨r1,r2,r3,r4,r5⟩:=h1 q (List.mem_cons_of_mem _ hq);refine⟨r1,r2,r3,r4,?_⟩;rw[look_ins,if_neg (fun e=>h3 q hq e.symm)];exact r5}
structure ProperC (d : List Fa) (l : List Chg) : Prop where
 dom:validD d=true
 len:l.length<=60
 each:∀c∈l,nameB c.id=true/\ nameB c.question=true/\ dayB c.day=true/\ checkF c.cond d (fun _=>false)=0
 ids:l.Pairwise fun p q=>p.id≠q.id
theorem properC_iff {d:List Fa}{l:List Chg}:properC d l=true↔ProperC d l:=by
 unfold properC;simp only[Bool.and_eq_true,decide_eq_true_eq];rw[okCh_iff];constructor
 {rintro⟨⟨h1,h2⟩,h3,h4⟩;exact⟨h1,h2,fun c hc=>⟨(h3 c hc).1,(h3 c hc).2.1,(h3 c hc).2.2.1,(h3 c hc).2.2.2.1⟩,h4⟩}
 {rintro⟨h1,h2,h3,h4⟩;exact⟨⟨h1,h2⟩,fun c hc=>⟨(h3 c hc).1,(h3 c hc).2.1,(h3 c hc).2.2.1,(h3 c hc).2.2.2,by simp⟩,h4⟩}
theorem day_iff {n:Int}:dayB n=true↔0<=n/\ n<=1000000:=by unfold dayB;simp
theorem ProperC.sub {d:List Fa}{l m:List Chg}(h:ProperC d l)(hm:∀c∈m,c∈l)(hn:m.Pairwise fun p q=>p.id≠q.id)(hl:m.length<=l.length):ProperC d m:=
 ⟨h.dom,Nat.le_trans hl h.len,fun c hc=>h.each c (hm c hc),hn⟩
def ltB (a b:ByteArray):Prop:=a.toList<b.toList
def ltK (a b:Key):Prop:=ltB a.1 b.1\/(a.1=b.1/\ a.2<b.2)
def stepR (l:List Chg)(k:Key):List Chg:=l.filter fun c=>decide (c.key=k)
structure KeysOf (l : List Chg) (ks : List Key) : Prop where
 mem:∀k,k∈ks↔∃c∈l,c.key=k
 order:ks.Pairwise ltK
theorem ltB_irr (a:ByteArray):¬ltB a a:=fun h=>List.lt_irrefl _ h
theorem ltB_trans {a b c:ByteArray}(h:ltB a b)(k:ltB b c):ltB a c:=List.lt_trans h k
theorem ltK_irr (a:Key):¬ltK a a:=by
 rintro(h | ⟨_,h⟩)
 {exact ltB_irr _ h}
 {omega}
theorem ltK_trans {a b c:Key}(h:ltK a b)(k:ltK b c):ltK a c:=by
 rcases h with h | ⟨h1,h2⟩<;>rcases k with k | ⟨k1,k2⟩
 {exact .inl (ltB_trans h k)}
 {exact .inl (by rw[<-k1];exact h)}
 {exact .inl (by rw[h1];exact k)}
 {exact .inr ⟨h1.trans k1,by omega⟩}
theorem keys_unique :∀ {a b:List Key},a.Pairwise ltK->b.Pairwise ltK->(∀k,k∈a↔k∈b)->a=b
 | [],[],_,_,_=>rfl
 | [],y::b,_,_,h=>absurd ((h y).2 (List.mem_cons_self ..)) (by simp)
 | x::a,[],_,_,h=>absurd ((h x).1 (List.mem_cons_self ..)) (by simp)
 | x::a,y::b,ha,hb,h=>by{obtain⟨a1,a2⟩:=List.pairwise_cons.1 ha;obtain⟨b1,b2⟩:=List.pairwise_cons.1 hb;have e:x=y:=by{(rcases List.mem_cons.1 ((h x).1 (List.mem_cons_self ..))with e | e);{exact e};{(rcases List.mem_cons.1 ((h y).2 (List.mem_cons_self ..))with f | f);{exact f.symm};{exact absurd (ltK_trans (a1 y f) (b1 x e)) (ltK_irr _)}}};subst e;rw[keys_unique a2 b2 fun k=>?_];constructor;{intro hk;(rcases List.mem_cons.1 ((h k).1 (List.mem_cons_of_mem _ hk))with e | e);{subst e;exact absurd (a1 k hk) (ltK_irr _)};{exact e}};{intro hk;(rcases List.mem_cons.1 ((h k).2 (List.mem_cons_of_mem _ hk))with e | e);{subst e;exact absurd (b1 k hk) (ltK_irr _)};{exact e}}}
def holdR (d:List Fa)(c:List Int)(l:List Chg):List Chg:=l.filter fun x=>holdsF x.cond d c []
def decideR (l:List Chg):Int×Bool:=
 match l with| []=>(11,false)| x::l=>if(x::l).any (fun y=>y.keep !=x.keep)=true then(9,false)else(0,x.keep)
def relK (q:ByteArray)(o day:Int)(k:Key):Bool:=decide (k.1=q)&& decide (o<k.2)&& decide (k.2<=day)
def govF (S:Key->Int×Bool)(q:ByteArray)(o day:Int):List Key->Int->Int×Int
 | [],fz=>(if 0<=fz then fz else day,0)
 | k::ks,fz=>if relK q o day k=true then(if(S k).1=0 then govF S q o day ks (if(S k).2=true then(if fz<0 then k.2-1 else fz)else-1)else(0,(S k).1))else govF S q o day ks fz
def stepS (d:List Fa)(l:List Chg)(c:List Int)(k:Key):Int×Bool:=decideR (holdR d c (stepR l k))
def govA (d:List Fa)(l:List Chg)(ks:List Key)(q:ByteArray)(o:Int)(c:List Int)(day:Int):Int×Int:=
 if properC d l=true/\ fitsD d c=true/\ dayB o=true/\ dayB day=true/\ o<=day then govF (stepS d l c) q o day ks (-1)else(0,1)
theorem govF_filter {S:Key->Int×Bool}{q:ByteArray}{o day:Int}:∀(ks:List Key) (fz:Int),govF S q o day ks fz=govF S q o day (ks.filter (relK q o day)) fz
 | [],_=>rfl
 | k::ks,fz=>by{rw[govF,List.filter_cons];by_cases h:relK q o day k=true;{rw[if_pos h,if_pos h,govF,if_pos h];rw[govF_filter ks]};{rw[if_neg h,if_neg h];exact govF_filter ks fz}}
theorem govF_congr {S S':Key->Int×Bool}{q:ByteArray}{o day:Int}:∀(ks:List Key) (fz:Int),(∀k∈ks,S k=S' k)->govF S q o day ks fz=govF S' q o day ks fz
 | [],_,_=>rfl
 | k::ks,fz,h=>by{rw[govF,govF,h k (List.mem_cons_self ..)];(have ih:=fun fz=>govF_congr (q:=q) (o:=o) (day:=day) ks fz fun x hx=>h x (List.mem_cons_of_mem _ hx));rw[ih,ih]}
theorem rel_iff {q:ByteArray}{o day:Int}{k:Key}:relK q o day k=true↔k.1=q/\ o<k.2/\ k.2<=day:=by unfold relK;simp[and_assoc]
def lessR (q:ByteArray)(day:Int)(l:List Chg):List Chg:=(l.filter fun c=>decide (c.question=q)&& decide (c.day<=day)).reverse
theorem any_keep {x:Chg}{l:List Chg}:(l.any fun y=>y.keep !=x.keep)=true↔∃y∈l,y.keep≠x.keep:=by simp
theorem decide_same {a b:List Chg}(h:∀x,x∈a↔x∈b):decideR a=decideR b:=by
 cases a with
 | nil=>{cases b with| nil=>rfl| cons y b=>exact absurd ((h y).2 (List.mem_cons_self ..)) (by simp)}
 | cons x a=>
  cases b with
  | nil=>exact absurd ((h x).1 (List.mem_cons_self ..)) (by simp)
  | cons y b=>
   unfold decideR;by_cases ha:((x::a).any fun z=>z.keep !=x.keep)=true
   {obtain⟨z,hz,hne⟩:=any_keep.1 ha;have hb:((y::b).any fun z=>z.keep !=y.keep)=true:=by{rw[any_keep];by_cases e:x.keep=y.keep;{exact⟨z,(h z).1 hz,by rw[<-e];exact hne⟩};{exact⟨x,(h x).1 (List.mem_cons_self ..),e⟩}};simp only[ha,hb,if_true]}
   ·have hall:∀z∈x::a,z.keep=x.keep:=fun z hz=>Classical.byContradiction fun hne=>ha (any_keep.2 ⟨z,hz,hne⟩)
    have hyx:y.keep=x.keep:=hall y ((h y).2 (List.mem_cons_self ..))
    have hb:¬((y::b).any fun z=>z.keep !=y.keep)=true:=fun hh=>by{obtain⟨z,hz,hne⟩:=any_keep.1 hh;exact hne (by rw[hyx];exact hall z ((h z).2 hz))}
    show(if _ then _ else _)=(if _ then _ else _)
    rw[if_neg ha,if_neg hb,hyx]
theorem others_law {d:List Fa}{l:List Chg}{ks ks':List Key}(hk:KeysOf l ks){q:ByteArray}{day:Int}(hk':KeysOf (lessR q day l) ks'){o:Int}{c:List Int}(hp:properC d l=true):
  govA d (lessR q day l) ks' q o c day=govA d l ks q o c day:=by
 have hsub:∀x∈lessR q day l,x∈l:=fun x hx=>by{unfold lessR at hx;rw[List.mem_reverse,List.mem_filter]at hx;exact hx.1}
 have hpl:properC d (lessR q day l)=true:=by{rw[properC_iff]at hp⊢;refine hp.sub hsub ?_ ?_;{unfold lessR;rw[List.pairwise_reverse];exact(hp.ids.filter _).imp fun h e=>h e.symm};{unfold lessR;rw[List.length_reverse];exact List.length_filter_le _ _}}
 unfold govA;rw[hp,hpl]
 split
 {rw[govF_filter ks',govF_filter ks];have ek:ks'.filter (relK q o day)=ks.filter (relK q o day):=by{(refine keys_unique (hk'.order.filter _) (hk.order.filter _) fun k=>?_);rw[List.mem_filter,List.mem_filter,hk'.mem,hk.mem];refine⟨fun⟨⟨x,hx,e⟩,hr⟩=>⟨⟨x,hsub x hx,e⟩,hr⟩,fun⟨⟨x,hx,e⟩,hr⟩=>⟨⟨x,?_,e⟩,hr⟩⟩;obtain⟨r1,_,r3⟩:=rel_iff.1 hr;unfold lessR;rw[List.mem_reverse,List.mem_filter];subst e;have r1:x.question=q:=r1;have r3:x.day<=day:=r3;exact⟨hx,by simp[r1,r3]⟩};rw[ek];(refine govF_congr _ _ fun k hk=>?_);obtain⟨_,hr⟩:=List.mem_filter.1 hk;obtain⟨r1,_,r3⟩:=rel_iff.1 hr;unfold stepS holdR stepR lessR;(refine decide_same fun x=>?_);simp only[List.mem_filter,List.mem_reverse,Bool.and_eq_true,decide_eq_true_eq];refine⟨fun⟨⟨⟨h1,_⟩,h2⟩,h3⟩=>⟨⟨h1,h2⟩,h3⟩,fun⟨⟨h1,h2⟩,h3⟩=>⟨⟨⟨h1,?_⟩,h2⟩,h3⟩⟩;subst h2;exact⟨r1,r3⟩}
 {rfl}
section
def trueF :Fo:=.mk 1 nilB 0 0 []
def stpN (d:List Fa)(st:List Dn×Int)(f:Fo):List Dn×Int:=
 if st.2=0 then(if(buildX d f).2=0 then andX d st.1 (notD (buildX d f).1)else(st.1,(buildX d f).2))else st
def noneX (d:List Fa)(e0:Int)(fs:List Fo):List Dn×Int:=fs.foldl (stpN d) (if e0=0 then buildX d trueF else([],e0))
def gapX (d:List Fa)(R:List Chg):List Dn×Int:=noneX d 0 (R.map (·.cond))
def stayX (d:List Fa)(R:List Chg):List Dn×Int:=noneX d (gapX d R).2 ((R.filter (·.keep)).map (·.cond))
def leaveX (d:List Fa)(R:List Chg):List Dn×Int:=noneX d (stayX d R).2 ((R.filter (!·.keep)).map (·.cond))
def bothX (d:List Fa)(R:List Chg):List Dn×Int:=if(leaveX d R).2=0 then andX d (notD (stayX d R).1) (notD (leaveX d R).1)else(notD (stayX d R).1,(leaveX d R).2)
structure Fnd where
 kind:Int
 question:ByteArray
 day:Int
 cse:List Int
 ids:List ByteArray
def repG (d:List Fa)(g:List Dn)(f:List Int->Fnd):List Fnd:=match leastG d g with | some c=>[f c] | none=>[]
def gapF (k:Key)(R:List Chg)(c:List Int):Fnd:=⟨1,k.1,k.2,c,R.map (·.id)⟩
def overF (d:List Fa)(k:Key)(R:List Chg)(c:List Int):Fnd:=⟨2,k.1,k.2,c,(holdR d c R).map (·.id)⟩
def findK (d:List Fa)(k:Key)(R:List Chg):List Fnd:=repG d (gapX d R).1 (gapF k R)++repG d (bothX d R).1 (overF d k R)
def anaL (d:List Fa)(l:List Chg):List Key->List Fnd->List Fnd×Int
 | [],out=>(out,0)
 | k::ks,out=>if(bothX d (stepR l k)).2=0 then anaL d l ks (out++findK d k (stepR l k))else([],(bothX d (stepR l k)).2)
def anaA (d:List Fa)(l:List Chg)(ks:List Key):List Fnd×Int:=if properC d l=true then anaL d l ks []else([],1)
variable {d : List Fa}
theorem stepN_ok :∀(fs:List Fo) (st:List Dn×Int),(fs.foldl (stpN d) st).2=0->st.2=0/\ (ValidG d st.1->ValidG d (fs.foldl (stpN d) st).1/\ ∀c,fitsC d.length (flo d) (fhi d) c->readG d (fs.foldl (stpN d) st).1 0 c=(readG d st.1 0 c&& fs.all fun f=> !valC d c f))
 | [],st,h=>⟨h,fun hv=>⟨hv,fun c _=>by simp⟩⟩
 | f::fs,st,h=>by{rw[List.foldl_cons]at h⊢;obtain⟨h1,h2⟩:=stepN_ok fs _ h;unfold stpN at h1;by_cases h0:st.2=0;{rw[if_pos h0]at h1;by_cases hb:(buildX d f).2=0;{rw[if_pos hb]at h1;obtain⟨vb,_,mb⟩:=buildX_ok hb;obtain⟨_,_,vg,mg⟩:=andX_ok h1;obtain⟨_,mn⟩:=not_valid vb;(have es:stpN d st f=andX d st.1 (notD (buildX d f).1):=by unfold stpN;rw[if_pos h0,if_pos hb]);refine⟨h0,fun _=>?_⟩;obtain⟨q1,q2⟩:=h2 (by rw[es];exact vg);refine⟨q1,fun c fc=>?_⟩;rw[q2 c fc,es,mg c fc,mn c fc,mb c fc,List.all_cons,Bool.and_assoc]};{rw[if_neg hb]at h1;exact absurd h1 hb}};{rw[if_neg h0]at h1;exact absurd h1 h0}}
theorem val_true (c:Nat->Int):valC d c trueF=true:=by simp[trueF,valC]
theorem noneX_ok {e0:Int}{fs:List Fo}(h:(noneX d e0 fs).2=0):e0=0/\ ValidG d (noneX d e0 fs).1/\ ∀c,fitsC d.length (flo d) (fhi d) c->readG d (noneX d e0 fs).1 0 c=fs.all fun f=> !valC d c f:=by
 unfold noneX at h⊢;obtain⟨h1,h2⟩:=stepN_ok _ _ h;by_cases h0:e0=0
 {rw[if_pos h0]at h1 h2⊢;obtain⟨vb,_,mb⟩:=buildX_ok h1;obtain⟨q1,q2⟩:=h2 vb;refine⟨h0,q1,fun c fc=>?_⟩;rw[q2 c fc,mb c fc,val_true,Bool.true_and]}
 {rw[if_neg h0]at h1;exact absurd h1 h0}
structure AnaOk (d : List Fa) (R : List Chg) : Prop where
 gap:ValidG d (gapX d R).1
 gapR:∀c,fitsC d.length (flo d) (fhi d) c->(readG d (gapX d R).1 0 c=true↔∀x∈R,valC d c x.cond=false)
 both:ValidG d (bothX d R).1
 bothR:∀c,fitsC d.length (flo d) (fhi d) c->(readG d (bothX d R).1 0 c=true↔(∃x∈R,x.keep=true/\ valC d c x.cond=true)/\ ∃x∈R,x.keep=false/\ valC d c x.cond=true)
theorem ana_ok {R:List Chg}(h:(bothX d R).2=0):AnaOk d R:=by
 have hl:(leaveX d R).2=0:=by{unfold bothX at h;(split at h);{next h0=>exact h0};{next h0=>exact absurd h h0}}
 obtain⟨hs,vl,ml⟩:=noneX_ok (show(noneX d (stayX d R).2 _).2=0 from hl);obtain⟨hg,vs,ms⟩:=noneX_ok (show(noneX d (gapX d R).2 _).2=0 from hs);obtain⟨_,vg,mg⟩:=noneX_ok (show(noneX d 0 _).2=0 from hg);have eb:bothX d R=andX d (notD (stayX d R).1) (notD (leaveX d R).1):=by unfold bothX;rw[if_pos hl]
 rw[eb]at h;obtain⟨_,_,vb,mb⟩:=andX_ok h;have ns:=(not_valid (show ValidG d (stayX d R).1 from vs)).2;have nl:=(not_valid (show ValidG d (leaveX d R).1 from vl)).2;refine⟨vg,fun c fc=>?_,by rw[eb];exact vb,fun c fc=>?_⟩
 {rw[show readG d (gapX d R).1 0 c=_ from mg c fc];simp}
 {rw[eb,mb c fc,ns c fc,nl c fc,show readG d (stayX d R).1 0 c=_ from ms c fc,show readG d (leaveX d R).1 0 c=_ from ml c fc];simp}
section
variable {l : List Chg} {ks : List Key}
theorem step_mem {k:Key}{x:Chg}:x∈stepR l k↔x∈l/\ x.key=k:=by unfold stepR;simp
structure FindOk (d : List Fa) (l : List Chg) (ks : List Key) (f : Fnd) : Prop where
 fits:fitsD d f.cse=true
 ids:f.ids≠[]
 kind:f.kind=1\/f.kind=2
 day:dayB f.day=true
 gov:0<f.day->govA d l ks f.question (f.day-1) f.cse f.day=(0,if f.kind=1 then 11 else 9)
end
end
open Go.RowKit
def chC (x:Chg)(ak:Option Addr)(ck:Nat):List Value:=
 [.string x.id,.string x.question,.int .i64 x.cond.op,.string x.cond.name,.int .i64 x.cond.cmp,.int .i64 x.cond.n,.slice ak x.cond.kids.length ck,.int .i64 x.day,.bool x.keep]
theorem chC_len (x:Chg)(ak:Option Addr)(ck:Nat):(chC x ak ck).length=9:=rfl
theorem chC_one (x:Chg)(ak:Option Addr)(ck:Nat):(chC x ak ck).toArray.all (·.oneCell')=true:=by
 refine all_oneCell_toArray fun v hv=>?_
 simp only[chC,List.mem_cons,List.not_mem_nil,or_false]at hv;rcases hv with rfl | rfl | rfl | rfl | rfl | rfl | rfl | rfl | rfl<;>rfl
theorem chC_ones (x:Chg)(ak:Option Addr)(ck:Nat):∀u∈chC x ak ck,u.oneCell'=true:=fun u hu=>by
 have h:=chC_one x ak ck;rw[Array.all_eq_true_iff_forall_mem]at h;exact h u (by simpa using hu)
def condC (x:Chg)(ak:Option Addr)(ck:Nat):Value:=.agg #[.int .i64 x.cond.op,.string x.cond.name,.int .i64 x.cond.cmp,.int .i64 x.cond.n,.slice ak x.cond.kids.length ck]
def ChR :CellRel Chg:=fun w B x b o=>∃(ak:Option Addr) (ck:Nat),w.rangeAt b o (chC x ak ck)/\ x.cond.In w B (condC x ak ck)/\ x.id.size<=maxLen/\ x.question.size<=maxLen/\ W64 x.day
theorem ChR.kept :ChR.Kept:=by
 rintro w w' B x b o hb hlt ⟨ak,ck,hr,hf,r⟩;exact⟨ak,ck,fun j v hv=>by rw[hb.cell (p:=⟨b,o+j,none⟩) hlt];exact hr j v hv,Fo.In.below hb _ _ hf,r⟩
theorem ChR.mono :ChR.Mono:=by
 rintro w B B' x b o hb ⟨ak,ck,hr,hf,r⟩;exact⟨ak,ck,hr,Fo.In.mono hb _ _ hf,r⟩
theorem chInfo :(Tryz.prog.info? 49).map (fun i=>(i.size,i.zero.map (·.cells.size),i.bytes))=some (9,some 9,112):=by kernel_rfl
theorem Chg.info :(Tryz.prog.info? 49).map (·.size)=some 9:=by kernel_rfl
theorem ch_info :∃i z,Tryz.prog.info? 49=some i/\ i.size=9/\ i.zero=some z/\ z.cells.size=9/\ i.bytes=112:=by
 have h:=chInfo;cases hi:Tryz.prog.info? 49 with| none=>rw[hi]at h;cases h| some i=>{rw[hi]at h;simp only[Option.map_some,Option.some.injEq,Prod.mk.injEq]at h;obtain⟨h1,h2,h3⟩:=h;obtain⟨z,hz,hz2⟩:=Option.map_eq_some_iff.1 h2;exact⟨i,z,rfl,h1,hz,hz2,h3⟩}
theorem wpList_load_ch {P:Program}{ops:Array Oper}{rest:List Oper}{op:Oper}{a:Act}{w:World}{Q:Exit->Act->World->Prop}(hgd:op.guard=none){ty:TypeId}(x:Operand)(ho:op.op=.load ty x)
  {b o:Nat} (hx:a.eval x=.pointer (some ⟨b,o,none⟩)) (p:Chg) (ak:Option Addr) (ck:Nat) {d:TypeDesc} (hc:w.rangeAt b o (chC p ak ck))
  (hu:P.underlying ty=some d) (hd:d.isRow=true) (hi:(P.info? ty).map (·.size)=some 9)
  (h:wpList P ops Q rest (a.put op.dst (.agg (chC p ak ck).toArray)) w):wpList P ops Q (op::rest) a w:=
 wpList_load_mid hgd ty x ho b o hx _ d hc hu hd (by rw[hi,chC_len]) h
theorem wpList_store_ch {P:Program}{ops:Array Oper}{rest:List Oper}{o:Oper}{a:Act}{Q:Exit->Act->World->Prop}{w:World}{zs:Array Value}{ty:TypeId}
  (hg:o.guard=none) (x y:Operand) (ho:o.op=.store ty x y) (p:Chg) (ak:Option Addr) (ck:Nat)
  (hx:a.eval x=.pointer (some ⟨w.heap.size,0,none⟩)) (hy:a.eval y=.agg (chC p ak ck).toArray)
  (hs:zs.size=9) (hi:(P.info? ty).map (·.size)=some 9)
  (h:∀W',Below w.heap.size w W'->W'.heap.size=w.heap.size+1->W'.rangeAt w.heap.size 0 (chC p ak ck)->(∀j,W'.frozen? ⟨w.heap.size,j,none⟩=false)->wpList P ops Q rest (a.put o.dst undef) W'):
  wpList P ops Q (o::rest) a (w.alloc (.cells zs ty)):=
 wpList_store_new hg x y ho (chC p ak ck) hx hy (by rw[hs,chC_len]) (by rw[hi,chC_len]) (chC_one _ _ _) h
theorem run_buildSlice_ch (p:Chg)(ak:Option Addr)(ck:Nat)(w:World):
  (Instr.buildSlice 22 1 #[(0,.agg (chC p ak ck).toArray)]).run Tryz.prog w=.ok (.slice (some ⟨w.heap.size,0,none⟩) 1 1) (w.alloc (.cells (chC p ak ck).toArray 49)):=by
 obtain⟨i,z,hi,hs,hz,hzs,_⟩:=ch_info;exact run_buildSlice_one (chC p ak ck) Tryz.underlying22 hi hs hz hzs (by rw[chC_len];decide) (by rw[chC_len];decide) w
theorem wpList_build_ch {ops:Array Oper}{rest:List Oper}{op:Oper}{a:Act}{w:World}{Q:Exit->Act->World->Prop}(hgd:op.guard=none)(x:Operand)(ho:op.op=.buildSlice 22 1 #[(0,x)])(p:Chg)(ak:Option Addr)(ck:Nat)(hx:a.eval x=.agg (chC p ak ck).toArray)
  (h:wpList Tryz.prog ops Q rest (a.put op.dst (.slice (some ⟨w.heap.size,0,none⟩) 1 1)) (w.alloc (.cells (chC p ak ck).toArray 49))):wpList Tryz.prog ops Q (op::rest) a w:=by
 refine wpList_plain hgd fun K hK=>?_
 unfold Oper.wp execOp;simp only[ho,List.map_toArray,List.map_cons,List.map_nil,hx,Sem.run_bind,run_buildSlice_ch,Result.andThen_ok,Sem.run_pure];exact hK _ _ h
structure ChA where
 c:Chg
 ak:Option Addr
 ck:Nat
def ChA.cells (x:ChA):List Value:=chC x.c x.ak x.ck
def ChA.Ok (W:World)(B:Nat)(x:ChA):Prop:=x.c.cond.In W B (condC x.c x.ak x.ck)/\ x.c.id.size<=maxLen/\ x.c.question.size<=maxLen/\ W64 x.c.day
theorem ChA.Ok.up {W W':World}{B:Nat}{x:ChA}(h:x.Ok W B)(hb:Below B W W'):x.Ok W' B:=⟨Fo.In.below hb _ _ h.1,h.2⟩
theorem ChA.Ok.mono {W:World}{B B':Nat}{x:ChA}(h:x.Ok W B)(hb:B<=B'):x.Ok W B':=⟨Fo.In.mono hb _ _ h.1,h.2⟩
theorem flatC_get :∀(xs:List ChA) (i j:Nat) (hi:i<xs.length),j<9->(xs.flatMap ChA.cells)[i*9+j]? =xs[i].cells[j]?
 | x::xs,0,j,_,hj=>by{rw[List.flatMap_cons,List.getElem?_append_left (by show _<9;omega)];simp}
 | x::xs,i+1,j,hi,hj=>by{rw[List.flatMap_cons,List.getElem?_append_right (by show 9<=_;omega),show(i+1)*9+j-x.cells.length=i*9+j by show _-9=_;omega,flatC_get xs i j (by simpa using hi) hj];simp}
theorem own_chs {W:World}{base:Nat}{v:Value}{xs:List ChA}(h:W.ownsRow base 49 9 v xs.length (xs.flatMap ChA.cells)){B:Nat}(hB:W.heap.size<=B)(hx:∀x∈xs,x.Ok W B):SlIn ChR 9 W B (xs.map (·.c)) v:=by
 rcases h.2 with⟨rfl,h0⟩ | ⟨g,cap,cur,rfl,_,hg,h1,h2,h3,h4⟩
 {have:xs=[]:=List.length_eq_zero_iff.1 h0;subst this;exact⟨none,0,rfl,Nat.zero_le _,Nat.zero_le _,fun e=>absurd rfl e⟩}
 {refine⟨some ⟨g,0,none⟩,cap,by rw[List.length_map],by rw[List.length_map];exact h1,h2,fun _=>⟨g,0,rfl,Nat.lt_of_lt_of_le (Array.getElem?_eq_some_iff.1 hg).1 hB,fun i hi=>?_⟩⟩;(have hi':i<xs.length:=by simpa using hi);obtain⟨k1,k3,k4,k5⟩:=hx xs[i] (List.getElem_mem hi');rw[List.getElem_map];refine⟨xs[i].ak,xs[i].ck,fun j u hj=>?_,k1,k3,k4,k5⟩;have hj':j<9:=by{(rcases Nat.lt_or_ge j 9 with h | h);{exact h};{rw[List.getElem?_eq_none (by exact h)]at hj;cases hj}};(have h5:(cur.toList.take (xs.length*9))[i*9+j]? =(xs.flatMap ChA.cells)[i*9+j]? :=by rw[h4]);rw[List.getElem?_take_of_lt (by omega),flatC_get xs i j hi' hj']at h5;show W.cell? ⟨g,0+i*9+j,none⟩=some u;simp only[World.cell?,hg];rw[Nat.zero_add];have:cur[i*9+j]? =some u:=by{rw[<-Array.getElem?_toList,h5];exact hj};simpa using this}
def ekK (k:ByteArray×Int):Value:=.agg #[.string k.1,.int .i64 k.2]
theorem str_plain :Tryz.prog.plainKey 9=true:=by kernel_rfl
theorem int_plainM :Tryz.prog.plainKey 3=true:=by kernel_rfl
set_option maxRecDepth 100000 in
theorem eqIn_key (w:World)(d:Nat)(p q:ByteArray×Int):(Op.equalIn (d+1+1) 59 (ekK p) (ekK q)).run Tryz.prog w=.ok (p==q) w:=by
 obtain⟨x,y⟩:=p;obtain⟨x',y'⟩:=q
 show(Op.equalIn (d+1+1) 59 (.agg #[.string x,.int .i64 y]) (.agg #[.string x',.int .i64 y'])).run Tryz.prog w=_
 have h0:(part 9 #[Value.string x,.int .i64 y] 0).run Tryz.prog w=.ok (.string x) w:=run_part_plain w str_plain rfl;have h1:(part 3 #[Value.string x,.int .i64 y] 1).run Tryz.prog w=.ok (.int .i64 y) w:=run_part_plain w int_plainM rfl;have h2:(part 9 #[Value.string x',.int .i64 y'] 0).run Tryz.prog w=.ok (.string x') w:=run_part_plain w str_plain rfl;have h3:(part 3 #[Value.string x',.int .i64 y'] 1).run Tryz.prog w=.ok (.int .i64 y') w:=run_part_plain w int_plainM rfl;have e0:(Op.equalIn (d+1) 9 (.string x) (.string x')).run Tryz.prog w=.ok (x.toList==x'.toList) w:=run_equalIn_string w d 9 _ _ Tryz.underlying9;have e1:(Op.equalIn (d+1) 3 (.int .i64 y) (.int .i64 y')).run Tryz.prog w=.ok (y==y') w:=run_equalIn_int w d 3 .i64 .i64 _ _ Tryz.underlying3
 have r:((x,y)==(x',y'))=((x.toList==x'.toList)&& (y==y')):=by
  show((x==x')&& (y==y'))=_
  rw[eqB_eq]
 have hf:(Tryz.prog.fieldsOf 59).toList.map (fun f=>(f.type,f.offset,f.name))=[(9,0, "question"),(3,1, "day")]:=by kernel_rfl
 rw[run_equalIn_struct w (d+1) 59 _ _ (by kernel_rfl) (by kernel_rfl)];generalize(Tryz.prog.fieldsOf 59).toList=fs at hf⊢;have hlen:fs.length=2:=by simpa using congrArg List.length hf
 obtain⟨f0,f1,rfl⟩:∃f0 f1,fs=[f0,f1]:=by{cases fs with| nil=>simp at hlen| cons f0 fs=>{cases fs with| nil=>simp at hlen| cons f1 fs=>{cases fs with| nil=>exact⟨f0,f1,rfl⟩| cons f2 fs=>simp at hlen}}}
 simp only[List.map_cons,List.map_nil,List.cons.injEq,Prod.mk.injEq,and_true]at hf;obtain⟨⟨a0,a1,a2⟩,b0,b1,b2⟩:=hf;have c0:¬f0.name= "_" :=by rw[a2];decide
 have c1:¬f1.name= "_" :=by rw[b2];decide
 rw[r];simp only[Op.eqFields,a0,a1,b0,b1,c0,c1,not_false_eq_true,ne_eq,if_true,Sem.run_bind,h0,h2,e0,Result.andThen_ok];cases hx:(x.toList==x'.toList)with| false=>simp| true=>{cases hy:(y==y')with| false=>rw[hy]at e1;simp[h1,h3,e1]| true=>rw[hy]at e1;simp[h1,h3,e1]}
theorem eq_key (w:World)(p q:ByteArray×Int):(Op.equal 59 (ekK p) (ekK q)).run Tryz.prog w=.ok (p==q) w:=eqIn_key w 9998 p q
theorem check_key (w:World)(e:Bool)(p:ByteArray×Int):(Instr.checkKey e 10000 59 (ekK p)).run Tryz.prog w=.ok () w:=by kernel_rfl
theorem bits_key (p:ByteArray×Int):Instr.sameBits 10000 (ekK p) (ekK p)=true:=by
 unfold ekK;rw[Instr.sameBits];simp[Instr.sameBits]
section
variable {ν : Type} {ev : ν -> Value}
theorem askK_none (w:World)(k:ByteArray×Int):∀(l:List ((ByteArray×Int)×ν)) (es:List MapEntry) (i:Nat),es.map (fun e=>(e.key,e.val))=l.map (fun p=>(ekK p.1,ev p.2))->l.lookup k=none->(Instr.findAsking 59 (ekK k) es i).run Tryz.prog w=.ok none w
 | [],[],_,_,_=>by simp[Instr.findAsking]
 | (a,x)::l,e::es,i,h,hl=>by{simp only[List.map_cons,List.cons.injEq,Prod.mk.injEq]at h;obtain⟨⟨h1,h2⟩,h3⟩:=h;rw[List.lookup_cons]at hl;cases hka:k==a with| true=>rw[hka]at hl;cases hl| false=>{rw[hka]at hl;have he:=eq_key w k a;rw[hka]at he;simp[Instr.findAsking,h1,he,askK_none w k l es (i+1) h3 hl]}}
 | [],e::es,_,h,_=>by cases h
 | (a,x)::l,[],_,h,_=>by cases h
theorem askK_some (w:World)(k:ByteArray×Int)(v x:ν):∀(l:List ((ByteArray×Int)×ν)) (es:List MapEntry) (i:Nat),es.map (fun e=>(e.key,e.val))=l.map (fun p=>(ekK p.1,ev p.2))->l.lookup k=some x->
  ∃j,j<es.length/\ (Instr.findAsking 59 (ekK k) es i).run Tryz.prog w=.ok (some (i+j,ev x)) w/\ (es[j]?.map (·.key))=some (ekK k)/\
   (es.modify j fun e=>{e with key:=ekK k,val:=ev v}).map (fun e=>(e.key,e.val))=(ins l k v).map (fun p=>(ekK p.1,ev p.2))
 | [],[],_,_,h=>by cases h
 | (a,y)::l,e::es,i,h,hl=>by{simp only[List.map_cons,List.cons.injEq,Prod.mk.injEq]at h;obtain⟨⟨h1,h2⟩,h3⟩:=h;rw[List.lookup_cons]at hl;have he:=eq_key w k a;cases hka:k==a with| true=>{rw[hka]at hl he;(obtain rfl:y=x:=by simpa using hl);(obtain rfl:k=a:=by simpa using hka);refine⟨0,by simp,?_,by simp[h1],?_⟩;{simp[Instr.findAsking,h1,he,h2]};{simp[ins,h3]}}| false=>{rw[hka]at hl he;obtain⟨j,r0,r1,r2,r3⟩:=askK_some w k v x l es (i+1) h3 hl;refine⟨j+1,by simpa using r0,?_,by simpa using r2,?_⟩;{simp[Instr.findAsking,h1,he,r1];omega};{simp[ins,hka,r3,h1,h2]}}}
 | [],e::es,_,h,_=>by cases h
 | (a,y)::l,[],_,h,_=>by cases h
set_option maxRecDepth 100000 in
theorem findK_eq (w:World)(x:Value)(es:List MapEntry):(Instr.findKey 59 x es).run Tryz.prog w=(Instr.findAsking 59 x es).run Tryz.prog w:=by
 cases es with| nil=>simp[Instr.findKey,run_underlying Tryz.underlying59,Instr.findNow,Instr.findAsking]| cons e es=>simp[Instr.findKey,run_underlying Tryz.underlying59,Instr.findNow,Instr.sameNow]
structure MapB (ev : ν -> Value) (w : World) (b : Nat) (l : List ((ByteArray × Int) × ν)) : Prop where
 is:∃es c,w.heap[b]? =some (.map es c)/\ es.toList.map (fun e=>(e.key,e.val))=l.map (fun p=>(ekK p.1,ev p.2))/\ (es.toList.map (·.born)).Nodup/\ ∀e∈es.toList,e.born<c
theorem MapB.lt {w:World}{b:Nat}{l:List ((ByteArray×Int)×ν)}(h:MapB ev w b l):b<w.heap.size:=by
 obtain⟨es,c,h1,_⟩:=h.is;exact(Array.getElem?_eq_some_iff.1 h1).1
theorem MapB.of_block {w w':World}{b:Nat}{l:List ((ByteArray×Int)×ν)}(h:MapB ev w b l)(hb:w'.heap[b]? =w.heap[b]?):MapB ev w' b l:=by
 obtain⟨es,c,h1,h2⟩:=h.is;exact⟨es,c,hb.trans h1,h2⟩
theorem MapB.below {w w':World}{b B:Nat}{l:List ((ByteArray×Int)×ν)}(h:MapB ev w b l)(hb:Below B w w')(hlt:b<B):MapB ev w' b l:=h.of_block (hb.block b hlt)
theorem MapB.made (w:World):MapB ev (w.alloc (.map #[] 0)) w.heap.size ([]:List ((ByteArray×Int)×ν)):=⟨#[],0,heap_alloc_new _ _,rfl,.nil,fun e h=>by cases h⟩
variable {T E : TypeId}
theorem run_lookB (ht:Tryz.prog.underlying T=some (.map 59 E)){z:Value}(hz:∀w,(zeroValue E).run Tryz.prog w=.ok z w){w:World}{b:Nat}{l:List ((ByteArray×Int)×ν)}(h:MapB ev w b l)(k:ByteArray×Int):
  (Instr.lookup T (.map (some b)) (ekK k) false).run Tryz.prog w=.ok (match l.lookup k with | some x=>ev x | none=>z) w:=by
 obtain⟨es,c,h1,h2,_⟩:=h.is;have hc:=fun e=>check_key w e k
 cases hl:l.lookup k with| none=>{have hf:(Instr.findKey 59 (ekK k) es.toList).run Tryz.prog w=.ok none w:=by{rw[findK_eq];exact askK_none w k l es.toList 0 h2 hl};simp[Instr.lookup,run_underlying ht,run_getMap h1,hc,hf,hz]}| some x=>{obtain⟨j,_,r1,_,_⟩:=askK_some w k x x l es.toList 0 h2 hl;have hf:(Instr.findKey 59 (ekK k) es.toList).run Tryz.prog w=.ok (some (j,ev x)) w:=by{rw[findK_eq,r1,Nat.zero_add]};simp[Instr.lookup,run_underlying ht,run_getMap h1,hc,hf]}
theorem born_modify (es:List MapEntry)(j:Nat)(k v:Value):(es.modify j fun e=>{e with key:=k,val:=v}).map (·.born)=es.map (·.born):=by
 induction es generalizing j with| nil=>simp| cons e es ih=>{cases j with| zero=>simp| succ j=>simp[List.modify_succ_cons,ih j]}
theorem born_keyed (es:List MapEntry)(j:Nat)(k:Value):(es.modify j fun e=>{e with key:=k}).map (·.born)=es.map (·.born):=by
 induction es generalizing j with| nil=>simp| cons e es ih=>{cases j with| zero=>simp| succ j=>simp[List.modify_succ_cons,ih j]}
theorem twice (es:List MapEntry)(j:Nat)(k v:Value):((es.modify j fun e=>{e with key:=k}).modify j fun e=>{e with val:=v})=es.modify j fun e=>{e with key:=k,val:=v}:=by
 induction es generalizing j with| nil=>simp| cons e es ih=>{cases j with| zero=>simp| succ j=>simp[List.modify_succ_cons,ih j]}
theorem run_entryB (ht:Tryz.prog.underlying T=some (.map 59 E)){z:ν}(hz:∀w,(zeroValue E).run Tryz.prog w=.ok (ev z) w){w:World}{b:Nat}{l:List ((ByteArray×Int)×ν)}(h:MapB ev w b l)(k:ByteArray×Int):
  ∃(st:Nat) (w1:World),(Instr.mapEntry T (.map (some b)) (ekK k)).run Tryz.prog w=.ok (.tuple #[ev ((l.lookup k).getD z),goInt st]) w1/\ Upd b w w1/\
   ∀(w2:World) (v:ν),w2.heap[b]? =w1.heap[b]? ->∃w3,(Instr.entryStore T (.map (some b)) (goInt st) (ev v)).run Tryz.prog w2=.ok () w3/\ MapB ev w3 b (ins l k v)/\ Upd b w2 w3:=by
 have hlt:=h.lt;obtain⟨es,c,h1,h2,h3,h4⟩:=h.is;have hc:=fun e=>check_key w e k
 have set1:∀(o:Obj),Upd b w {w with heap:=w.heap.setIfInBounds b o}:=fun o=>⟨rfl,rfl,rfl,by simp,fun j hj=>by simp[Ne.symm hj]⟩
 cases hl:l.lookup k with| none=>{have hf:(Instr.findKey 59 (ekK k) es.toList).run Tryz.prog w=.ok none w:=by{rw[findK_eq];exact askK_none w k l es.toList 0 h2 hl};refine⟨c,{w with heap:=w.heap.setIfInBounds b (.map (es.push {key:=ekK k,val:=ev z,born:=c}) (c+1))},by simp[Instr.mapEntry,run_underlying ht,run_getMap h1,run_setMap h1,hc,hf,hz],set1 _,fun w2 v hw2=>?_⟩;(have hw2':w2.heap[b]? =some (.map (es.push {key:=ekK k,val:=ev z,born:=c}) (c+1)):=by rw[hw2];simp[hlt]);have hlt2:b<w2.heap.size:=(Array.getElem?_eq_some_iff.1 hw2').1;have hidx:(es.push {key:=ekK k,val:=ev z,born:=c}).findIdx? (fun e=>((e.born:Nat):Int)==((c:Nat):Int))=some es.size:=by{rw[Go.WideElems.findIdx_arr];refine Go.WideElems.findIdx_born (l:=(es.push {key:=ekK k,val:=ev z,born:=c}).toList) (j:=es.size) (e0:={key:=ekK k,val:=ev z,born:=c}) ?_ (by simp);simp only[Array.toList_push,List.map_append,List.map_cons,List.map_nil];refine List.nodup_append.2 ⟨h3,by simp,fun a ha y hy e1=>?_⟩;simp only[List.mem_singleton]at hy;obtain⟨x,hx,rfl⟩:=List.mem_map.1 ha;have:=h4 x hx;omega};have hmod:(es.push {key:=ekK k,val:=ev z,born:=c}).modify es.size (fun e=>{e with val:=ev v})=es.push {key:=ekK k,val:=ev v,born:=c}:=by{apply Array.ext';rw[Array.toList_modify,Array.toList_push,Array.toList_push, <-Array.length_toList,Go.WideElems.modify_last]};refine⟨{w2 with heap:=w2.heap.setIfInBounds b (.map (es.push {key:=ekK k,val:=ev v,born:=c}) (c+1))},by simp[Instr.entryStore,run_getMap hw2',asInt,asIntOf,goInt,hidx,hmod,run_setMap hw2',Result.andThen],⟨es.push {key:=ekK k,val:=ev v,born:=c},c+1,by simp[hlt2],by simp[h2,ins_none l k v hl],?_,?_⟩,⟨rfl,rfl,rfl,by simp,fun j hj=>by simp[Ne.symm hj]⟩⟩;{rw[Array.toList_push,List.map_append];refine List.nodup_append.2 ⟨h3,by simp,fun x hx y hy=>?_⟩;obtain⟨e,he,rfl⟩:=List.mem_map.1 hx;(have:y=c:=by simpa using hy);have:=h4 e he;omega};{intro e he;rw[Array.toList_push]at he;(rcases List.mem_append.1 he with he | he);{have:=h4 e he;omega};{(have:e={key:=ekK k,val:=ev v,born:=c}:=by simpa using he);rw[this];exact Nat.lt_succ_self c}}}| some x=>{obtain⟨j,hj,r1,hkey,_⟩:=askK_some w k x x l es.toList 0 h2 hl;have hf:(Instr.findKey 59 (ekK k) es.toList).run Tryz.prog w=.ok (some (j,ev x)) w:=by{rw[findK_eq,r1,Nat.zero_add]};(have hkey':(es[j]?.map (·.key))=some (ekK k):=by simpa using hkey);obtain⟨e0,he0⟩:∃e0,es.toList[j]? =some e0:=⟨_,List.getElem?_eq_getElem hj⟩;(have he0':es[j]? =some e0:=by simpa using he0);(have hst:(Instr.keyThatStays (ekK k) (ekK k)).run Tryz.prog w=.ok (ekK k) w:=by simp[Instr.keyThatStays,bits_key]);(have hek:e0.key=ekK k:=by rw[he0']at hkey';simpa using hkey');refine⟨e0.born,{w with heap:=w.heap.setIfInBounds b (.map (es.modify j fun e=>{e with key:=ekK k}) c)},by simp[Instr.mapEntry,run_underlying ht,run_getMap h1,run_setMap h1,hc,hf,he0',hek,hst],set1 _,fun w2 v hw2=>?_⟩;(have hw2':w2.heap[b]? =some (.map (es.modify j fun e=>{e with key:=ekK k}) c):=by rw[hw2];simp[hlt]);have hlt2:b<w2.heap.size:=(Array.getElem?_eq_some_iff.1 hw2').1;have hb1:((es.modify j fun e=>{e with key:=ekK k}).toList.map (·.born))=es.toList.map (·.born):=by{rw[Array.toList_modify];exact born_keyed _ _ _};have hidx:(es.modify j fun e=>{e with key:=ekK k}).findIdx? (fun e=>((e.born:Nat):Int)==((e0.born:Nat):Int))=some j:=by{rw[Go.WideElems.findIdx_arr];refine Go.WideElems.findIdx_born (l:=(es.modify j fun e=>{e with key:=ekK k}).toList) (j:=j) (e0:={e0 with key:=ekK k}) (by rw[hb1];exact h3) ?_;rw[Array.toList_modify,List.getElem?_modify_eq,he0];rfl};obtain⟨j',hj',q1,_,hm⟩:=askK_some w k v x l es.toList 0 h2 hl;(have ej:j'=j:=by rw[r1]at q1;simpa using q1.symm);subst ej;(have hmm:((es.modify j' fun e=>{e with key:=ekK k}).modify j' fun e=>{e with val:=ev v}).toList=es.toList.modify j' fun e=>{e with key:=ekK k,val:=ev v}:=by{rw[Array.toList_modify,Array.toList_modify];exact twice _ _ _ _});refine⟨{w2 with heap:=w2.heap.setIfInBounds b (.map ((es.modify j' fun e=>{e with key:=ekK k}).modify j' fun e=>{e with val:=ev v}) c)},by simp[Instr.entryStore,run_getMap hw2',asInt,asIntOf,goInt,hidx,run_setMap hw2',Result.andThen],⟨(es.modify j' fun e=>{e with key:=ekK k}).modify j' fun e=>{e with val:=ev v},c,by simp[hlt2],by rw[hmm];exact hm,by rw[hmm,born_modify];exact h3,?_⟩,⟨rfl,rfl,rfl,by simp,fun j hj=>by simp[Ne.symm hj]⟩⟩;intro e he;rw[hmm]at he;have:e.born∈(es.toList.map (·.born)):=by{rw[<-born_modify es.toList j' (ekK k) (ev v)];exact List.mem_map_of_mem he};obtain⟨e',he',hee⟩:=List.mem_map.1 this;rw[<-hee];exact h4 e' he'}
theorem wpList_entryB {ops:Array Oper}{rest:List Oper}{o:Oper}{a:Act}{Q:Exit->Act->World->Prop}{w:World}(hg:o.guard=none)(m x:Operand)(ho:o.op=.mapEntry T m x)
  (ht:Tryz.prog.underlying T=some (.map 59 E)) {z:ν} (hz:∀w,(zeroValue E).run Tryz.prog w=.ok (ev z) w) {b:Nat} {l:List ((ByteArray×Int)×ν)} (h:MapB ev w b l) (k:ByteArray×Int) (v0:ν) (hv0:(l.lookup k).getD z=v0) (hm:a.eval m=.map (some b)) (hx:a.eval x=ekK k)
  (hK:∀(st:Nat) (w1:World),Upd b w w1->Hid (∀(w2:World) (v:ν),w2.heap[b]? =w1.heap[b]? ->∃w3,(Instr.entryStore T (.map (some b)) (goInt st) (ev v)).run Tryz.prog w2=.ok () w3/\ MapB ev w3 b (ins l k v)/\ Upd b w2 w3)->wpList Tryz.prog ops Q rest (a.put o.dst (.tuple #[ev v0,.int .i64 st])) w1):
  wpList Tryz.prog ops Q (o::rest) a w:=by
 subst hv0;refine wpList_plain hg fun K' hK'=>?_
 obtain⟨st,w1,hrun,h1,h2⟩:=run_entryB ht hz h k;unfold Oper.wp;simp[execOp,ho,hm,hx,hrun,Result.andThen];exact hK' _ _ (hK st w1 h1 h2)
theorem wpList_stampB {ops:Array Oper}{rest:List Oper}{o:Oper}{a:Act}{Q:Exit->Act->World->Prop}{w2:World}(hg:o.guard=none)(m s x:Operand)(ho:o.op=.entryStore T m s x)
  {b st:Nat} {l:List ((ByteArray×Int)×ν)} {k:ByteArray×Int} {w1:World} (h:∀(w2:World) (v:ν),w2.heap[b]? =w1.heap[b]? ->∃w3,(Instr.entryStore T (.map (some b)) (goInt st) (ev v)).run Tryz.prog w2=.ok () w3/\ MapB ev w3 b (ins l k v)/\ Upd b w2 w3)
  (hw:w2.heap[b]? =w1.heap[b]?) (v:ν) (hm:a.eval m=.map (some b)) (hs:a.eval s=.int .i64 st) (hx:a.eval x=ev v)
  (hK:∀w3,MapB ev w3 b (ins l k v)->Upd b w2 w3->wpList Tryz.prog ops Q rest (a.put o.dst undef) w3):wpList Tryz.prog ops Q (o::rest) a w2:=by
 refine wpList_plain hg fun K' hK'=>?_
 obtain⟨w3,hrun,h1,h2⟩:=h w2 v hw;unfold goInt at hrun;unfold Oper.wp;simp[execOp,ho,hm,hs,hx,hrun,Result.andThen];exact hK' _ _ (hK w3 h1 h2)
end
end Go.Proofs.YtihniipjfdenbaaGreatDoor
