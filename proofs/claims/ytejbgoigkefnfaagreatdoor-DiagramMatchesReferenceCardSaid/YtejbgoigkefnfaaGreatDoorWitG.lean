/- The arguments opened (formulas, domains, cases); the witness's world; closed facts of the program that every row of this seat asks. No conditions. -/
import Derived.Test.YtejbgoigkefnfaaGreatDoorAl
import Derived.Test.YtejbgoigkefnfaaGreatDoorMemA
import Derived.ProofKit
import Derived.OpenShut
import Derived.Deep.Slices
import Derived.Test.YtejbgoigkefnfaaGreatDoorTie
import Derived.Test.YtejbgoigkefnfaaGreatDoorCards
import Derived.LaidMore
set_option maxRecDepth 100000
namespace Go.Proofs.YtejbgoigkefnfaaGreatDoor
open Go.RowKit Go.ChangeShapes Go.ChangeMaps
theorem okWide_struct {P:Program}{w:World}{r:Reach}{b0:Nat}{t:TypeId}{v:Value}{fs:Array Field}(ht:P.underlying t=some (.struct fs))(hval:Value.okWide P w r b0 t v):∃l:List Value,v=.agg l.toArray:=by
 unfold Value.okWide at hval;rw[ht]at hval;obtain⟨cs,h,_⟩:=hval;exact⟨cs.toList,by rw[h]⟩
theorem okWide_slice {P:Program}{w:World}{r:Reach}{b0:Nat}{t e:TypeId}{v:Value}(ht:P.underlying t=some (.slice e))(hval:Value.okWide P w r b0 t v):v.cells.toList=[v]:=by
 unfold Value.okWide at hval;rw[ht]at hval;cases v with| agg cs=>simp[Cell.okWide,Cell.ok,ht]at hval| _=>rfl
section
variable {H : Type} {enc : TypeId × Value -> H} {W : World} {sp : Nat -> Bool} {hd : Bool}
theorem Ku {α:Type}{P:Nat->α->Prop}:∀(n:Nat),(∀i,i<n->∃z,P i z)->∃l:List α,l.length=n/\ ∀i (h:i<l.length),P i l[i]
 | 0,_=>⟨[],rfl,fun i h=>by cases h⟩
 | n+1,h=>by{obtain⟨l,hl,hp⟩:=Ku n (fun i hi=>h i ia);obtain⟨z,hz⟩:=h n ia;refine⟨l++[z],by simp[hl],fun i hi=>?_⟩;by_cases e:i<l.length;{rw[Qd e];exact hp i e};{(have:i=l.length:=by simp at hi;omega);subst this;rw[Jg (ja _)];simpa[hl]using hz}}
theorem Ez {α:Type}{l:List α}{n:Nat}(h:l.length=n+1):∃v m,l=v::m/\ m.length=n:=by
 cases l with| nil=>cases h| cons v m=>exact⟨v,m,rfl,by simpa using h⟩
theorem G5 {α:Type}{l0:List α}(h0:l0.length=4):∃v0 v1 v2 v3,l0=[v0,v1,v2,v3]:=by
 obtain⟨v0,l1,rfl,h1⟩:=Ez h0;obtain⟨v1,l2,rfl,h2⟩:=Ez h1;obtain⟨v2,l3,rfl,h3⟩:=Ez h2;obtain⟨v3,l4,rfl,h4⟩:=Ez h3;obtain rfl:=List.length_eq_zero_iff.1 h4;exact⟨v0,v1,v2,v3,rfl⟩
theorem L7 {α:Type}{l0:List α}(h0:l0.length=5):∃v0 v1 v2 v3 v4,l0=[v0,v1,v2,v3,v4]:=by
 obtain⟨v0,l1,rfl,h1⟩:=Ez h0;obtain⟨v1,l2,rfl,h2⟩:=Ez h1;obtain⟨v2,l3,rfl,h3⟩:=Ez h2;obtain⟨v3,l4,rfl,h4⟩:=Ez h3;obtain⟨v4,l5,rfl,h5⟩:=Ez h4;obtain rfl:=List.length_eq_zero_iff.1 h5;exact⟨v0,v1,v2,v3,v4,rfl⟩
theorem Wr (a:Addr)(n:Nat):(a.add n).block=a.block:=by unfold Addr.add;split<;>rfl
theorem qK (a:Addr)(n:Nat):(a.add n).off=a.off+n:=by unfold Addr.add;split<;>simp_all
theorem wY (a:Addr)(h:a.spot=none)(n:Nat):a.add n=⟨a.block,a.off+n,none⟩:=by
 obtain⟨b,o,s⟩:=a;simp only at h;subst h;unfold Addr.add
 split<;>simp_all
theorem Cw {a:Addr}{n:Nat}{cs:List Value}(h:W.cells? 0 a n=some cs)(hn:0<n):a.spot=none/\ a.block<W.heap.size/\ cs.length=n/\ W.rangeAt a.block a.off cs:=by
 unfold World.cells? at h;rw[if_pos (xb _)]at h;have hl:cs.length=n:=by simpa using mapM_some_length h
 have hg:∀i (hi:i<n),W.cell? (a.add i)=cs[i]? :=fun i hi=>mapM_some_get h i i (by simp[hi])
 have h0:W.cell? a=some cs[0]:=by{have:=hg 0 hn;rwa[Pa ia,show a.add 0=a by simp[Addr.add]]at this}
 have hs:a.spot=none:=World.cell?_spot h0;refine⟨hs,?_,hl,fun j v hj=>?_⟩
 {exact Ae _ _ h0}
 {(have hj':j<n:=by rw[<-hl];exact(List.getElem?_eq_some_iff.1 hj).1);rw[<-wY a hs,hg j hj',hj]}
theorem Ex {α:Type}{R:pg α}{t e:TypeId}{k fuel:Nat}{v:Value}{x:DataW H×List MemPlace}(ht:Tryz.prog.underlying t=some (.slice e))(hk:Tryz.prog.cellsOf e=k)(h0:0<k)(h:DataW.trod enc Tryz.prog W 0 sp hd fuel t [v]=some x)
  (he:∀n cs y b o,n<fuel->DataW.trod enc Tryz.prog W 0 sp hd n e cs=some y->b<W.heap.size->W.rangeAt b o cs->cs.length=k->∃z,R W W.heap.size z b o):∃l,Xa R k W W.heap.size l v:=by
 rcases DataW.trod_slice ht h with⟨hc,_⟩ | ⟨a,len,cap,elems,rest,n,hf,hc,_,_,hl,hm,hlen,hel,_⟩
 {simp only[List.cons.injEq,and_true]at hc;subst hc;exact⟨[],none,0,rfl,ja _,xb _,fun e=>absurd rfl e⟩}
 {simp only[List.cons.injEq,and_true]at hc;subst hc;have key:∀i,i<len->(a.add (i*k)).spot=none/\ a.block<W.heap.size/\ ∃z,R W W.heap.size z a.block (a.off+i*k):=by{intro i hi;have hi2:=hel i hi;rw[Pa ia]at hi2;obtain⟨cs',h1,h2⟩:=Option.bind_eq_some_iff.1 hi2;rw[hk]at h1;obtain⟨s1,s2,s3,s4⟩:=Cw h1 h0;rw[Wr]at s2;rw[Wr,qK]at s4;exact⟨s1,s2,he n cs' _ a.block (a.off+i*k) ia h2 s2 s4 s3⟩};obtain⟨l,aA,FM⟩:=Ku len (fun i hi=>(key i hi).2.2);refine⟨l,some a,cap,by rw[aA],ia,hm,fun hne=>?_⟩;have hpos:0<len:=by{(rcases gh len with h | h);{exact absurd (List.length_eq_zero_iff.1 ia) hne};{exact h}};obtain⟨k1,k2,_⟩:=key 0 hpos;rw[Se,show a.add 0=a by simp[Addr.add]]at k1;refine⟨a.block,a.off,?_,k2,fun i hi=>FM i hi⟩;obtain⟨b,o,s⟩:=a;simp only at k1;rw[k1]}
theorem E5 {n:Int}(h:(Lit.int .i64 n).wf=true):yj n:=bounds_i64 h
theorem c3 :Tryz.prog.cellsOf 3=1:=by kernel_rfl
theorem c9 :Tryz.prog.cellsOf 9=1:=by kernel_rfl
theorem c24 :Tryz.prog.cellsOf 24=5:=by kernel_rfl
theorem c22 :Tryz.prog.cellsOf 22=1:=by kernel_rfl
theorem c27 :Tryz.prog.cellsOf 27=1:=by kernel_rfl
theorem c25 :Tryz.prog.cellsOf 25=1:=by kernel_rfl
theorem ade :Tryz.prog.cellsOf 83=4:=by kernel_rfl
theorem xt {fuel:Nat}{v:Value}{y:Option (DataW H×List MemPlace)}(h:DataW.trod enc Tryz.prog W 0 sp hd fuel 3 [v]=y)(hy:y.isSome=true):∃n,v=.int .i64 n/\ yj n:=by
 obtain⟨x,rfl⟩:=Option.isSome_iff_exists.1 hy;obtain⟨n,hc,_,hw⟩:=DataW.trod_int Tryz.underlying3 h;exact⟨n,by simpa using hc,E5 hw⟩
theorem XQ {fuel:Nat}{v:Value}{y:Option (DataW H×List MemPlace)}(h:DataW.trod enc Tryz.prog W 0 sp hd fuel 9 [v]=y)(hy:y.isSome=true):∃s,v=.string s/\ s.size<=maxLen:=by
 obtain⟨x,rfl⟩:=Option.isSome_iff_exists.1 hy;obtain⟨s,hc,_,hw⟩:=DataW.trod_string Tryz.underlying9 h;exact⟨s,by simpa using hc,hw⟩
theorem Wi {α:Type}{xs:List α}{n i:Nat}(h:xs.length=n)(hi:i<n):(xs[i]?).isSome=true:=by rw[Pa ia];rfl
theorem VD {t:TypeId}(ht:Tryz.prog.underlying t=some (.slice 3)){fuel:Nat}{v:Value}{y:Option (DataW H×List MemPlace)}(h:DataW.trod enc Tryz.prog W 0 sp hd fuel t [v]=y)(hy:y.isSome=true):∃l,IntsIn W W.heap.size l v:=by
 obtain⟨x,rfl⟩:=Option.isSome_iff_exists.1 hy;refine Ex ht c3 pa h (fun n cs y b o _ hy hb hr hl=>?_);obtain⟨s,rfl,_⟩:=DataW.trod_int Tryz.underlying3 hy;exact⟨s,hr 0 _ rfl⟩
theorem YQ {B b:Nat}:∀(n off:Nat),(∀i,i<n->∃(f:Fo) (v0 v1 v2 v3 v4:Value),W.cell? ⟨b,off+i*5,none⟩=some v0/\ W.cell? ⟨b,off+i*5+1,none⟩=some v1/\ W.cell? ⟨b,off+i*5+2,none⟩=some v2/\ W.cell? ⟨b,off+i*5+3,none⟩=some v3/\
  W.cell? ⟨b,off+i*5+4,none⟩=some v4/\ f.In W B (.agg #[v0,v1,v2,v3,v4]))->∃ks:List Fo,ks.length=n/\ Fo.Qk W B ks b off
 | 0,off,_=>⟨[],rfl,trivial⟩
 | n+1,off,h=>by
  obtain⟨ks,hk,hL⟩:=YQ n (off+5) (fun i hi=>by
   obtain⟨f,v0,v1,v2,v3,v4,h0,h1,h2,h3,h4,h5⟩:=h (i+1) ia
   rw[show off+(i+1)*5=off+5+i*5 by omega]at h0 h1 h2 h3 h4
   exact⟨f,v0,v1,v2,v3,v4,h0,h1,h2,h3,h4,h5⟩)
  obtain⟨f,v0,v1,v2,v3,v4,h0,h1,h2,h3,h4,h5⟩:=h 0 ia;rw[Se,Ag]at h0 h1 h2 h3 h4;exact⟨f::ks,by simp[hk],⟨v0,v1,v2,v3,v4,h0,h1,h2,h3,h4,h5⟩,hL⟩
theorem iU (N:Nat):∀(fuel:Nat) (cs:List Value) (x:DataW H×List MemPlace),fuel<N->DataW.trod enc Tryz.prog W 0 sp hd fuel 24 cs=some x->∃f:Fo,f.In W W.heap.size (.agg cs.toArray):=by
 induction N with
 | zero=>intro fuel _ _ h;omega
 | succ N ih=>
 intro fuel cs x hN h;obtain⟨xs,n,hf,_,hlen,pw,hx⟩:=DataW.trod_struct Tryz.underlying24 h;rw[c24]at hlen;have pw:xs.length=5:=pw;obtain⟨v0,v1,v2,v3,v4,rfl⟩:=L7 hlen
 ·skip
  have f0:=hx 0 _ rfl;have f1:=hx 1 _ rfl;have f2:=hx 2 _ rfl;have f3:=hx 3 _ rfl;have f4:=hx 4 _ rfl;simp only[Dc,Ob]at f0;simp only[Dc,Ob,Ic]at f1;simp only[Dc,Ob,Ic]at f2;simp only[Dc,Ob,Ic]at f3;simp only[Dc,Ob,Ic]at f4;rw[c3]at f0 f2 f3;rw[c9]at f1;rw[c22]at f4;obtain⟨op,rfl,o1⟩:=xt f0 (Wi pw pa);obtain⟨nm,rfl,o2⟩:=XQ f1 (Wi pw pa);obtain⟨cm,rfl,o3⟩:=xt f2 (Wi pw pa);obtain⟨m,rfl,o4⟩:=xt f3 (Wi pw pa);rw[Pa ia]at f4
  replace f4:DataW.trod enc Tryz.prog W 0 sp hd n 22 [v4]=some xs[4]:=f4
  rcases DataW.trod_slice Tryz.underlying22 f4 with⟨hc,_⟩ | ⟨a,len,cap,elems,rest,n',hf',hc,_,_,hl,hm,hlen,hel,_⟩
  {simp only[List.cons.injEq,and_true]at hc;subst hc;exact⟨.mk op nm cm m [],none,0,rfl,o1,o3,o4,o2,ja _,xb _,fun e=>absurd rfl e⟩}
  ·simp only[List.cons.injEq,and_true]at hc
   subst hc
   have key:∀i,i<len->(a.add (i*5)).spot=none/\ a.block<W.heap.size/\ ∃(f:Fo) (v0 v1 v2 v3 v4:Value),W.cell? ⟨a.block,a.off+i*5,none⟩=some v0/\ W.cell? ⟨a.block,a.off+i*5+1,none⟩=some v1/\ W.cell? ⟨a.block,a.off+i*5+2,none⟩=some v2/\ W.cell? ⟨a.block,a.off+i*5+3,none⟩=some v3/\
     W.cell? ⟨a.block,a.off+i*5+4,none⟩=some v4/\ f.In W W.heap.size (.agg #[v0,v1,v2,v3,v4]):=by
    intro i hi;have hi2:=hel i hi;rw[Pa ia]at hi2;obtain⟨cs',h1,h2⟩:=Option.bind_eq_some_iff.1 hi2;rw[c24]at h1;obtain⟨s1,s2,s3,s4⟩:=Cw h1 pa;rw[Wr]at s2;rw[Wr,qK]at s4;refine⟨s1,s2,?_⟩;obtain⟨f,MJ⟩:=ih n' cs' _ ia h2;obtain⟨u0,u1,u2,u3,u4,rfl⟩:=L7 s3;exact⟨f,u0,u1,u2,u3,u4,s4 0 _ rfl,s4 1 _ rfl,s4 2 _ rfl,s4 3 _ rfl,s4 4 _ rfl,MJ⟩
   obtain⟨ks,hk,hL⟩:=YQ (W:=W) (B:=W.heap.size) (b:=a.block) len a.off (fun i hi=>(key i hi).2.2);refine⟨.mk op nm cm m ks,some a,cap,by rw[hk],o1,o3,o4,o2,ia,hm,fun hne=>?_⟩
   have hpos:0<len:=by{(rcases gh len with h | h);{exact absurd (List.length_eq_zero_iff.1 ia) hne};{exact h}}
   obtain⟨k1,k2,_⟩:=key 0 hpos;rw[Se,show a.add 0=a by simp[Addr.add]]at k1;refine⟨a.block,a.off,?_,k2,hL⟩;obtain⟨b,o,s⟩:=a;simp only at k1;rw[k1]
theorem jU {fuel:Nat}{v:Value}{y:Option (DataW H×List MemPlace)}(h:DataW.trod enc Tryz.prog W 0 sp hd fuel 25 [v]=y)(hy:y.isSome=true):∃d,Xa Iw 4 W W.heap.size d v:=by
 obtain⟨x,rfl⟩:=Option.isSome_iff_exists.1 hy;refine Ex Tryz.underlying25 ade pa h (fun n cs y b o _ hy hb hr hl=>?_);obtain⟨xs,n,hf,_,_,pw,hx⟩:=DataW.trod_struct Tryz.underlying83 hy;have pw:xs.length=4:=pw;obtain⟨v0,v1,v2,v3,rfl⟩:=G5 hl
 {skip;have f0:=hx 0 _ rfl;have f1:=hx 1 _ rfl;have f2:=hx 2 _ rfl;have f3:=hx 3 _ rfl;simp only[Dc,Ob]at f0;simp only[Dc,Ob,Ic]at f1;simp only[Dc,Ob,Ic]at f2;simp only[Dc,Ob,Ic]at f3;rw[c3]at f1 f2 f3;rw[c9]at f0;obtain⟨nm,rfl,o0⟩:=XQ f0 (Wi pw pa);obtain⟨k,rfl,o1⟩:=xt f1 (Wi pw pa);obtain⟨lo,rfl,o2⟩:=xt f2 (Wi pw pa);obtain⟨hi,rfl,o3⟩:=xt f3 (Wi pw pa);exact⟨⟨nm,k,lo,hi⟩,hr 0 _ rfl,hr 1 _ rfl,hr 2 _ rfl,hr 3 _ rfl,o0,o1,o2,o3⟩}
theorem JP {r:Reach}{b0:Nat}{v:Value}{d:DataW H}{ps:List MemPlace}(hval:Value.okWide Tryz.prog W r b0 29 v)(h:DataW.Trod enc Tryz.prog W 0 sp hd 29 v d ps):∃c,IntsIn W W.heap.size c v:=by
 obtain⟨fuel,hf⟩:=h;rw[okWide_slice Tryz.underlying29 hval]at hf;exact VD Tryz.underlying29 hf rfl
theorem uX {r:Reach}{b0:Nat}{v:Value}{d:DataW H}{ps:List MemPlace}(hval:Value.okWide Tryz.prog W r b0 24 v)(h:DataW.Trod enc Tryz.prog W 0 sp hd 24 v d ps):∃f:Fo,f.In W W.heap.size v:=by
 obtain⟨fuel,hf⟩:=h;obtain⟨l,rfl⟩:=okWide_struct Tryz.underlying24 hval;exact iU (fuel+1) fuel l _ ia hf
theorem xT {r:Reach}{b0:Nat}{v:Value}{d:DataW H}{ps:List MemPlace}(hval:Value.okWide Tryz.prog W r b0 27 v)(h:DataW.Trod enc Tryz.prog W 0 sp hd 27 v d ps):∃ds,bf W W.heap.size ds v:=by
 obtain⟨fuel,hf⟩:=h;obtain⟨l,rfl⟩:=okWide_struct Tryz.underlying27 hval;obtain⟨ys,n',_,_,hlen,tK,hy⟩:=DataW.trod_struct Tryz.underlying27 hf;rw[c27]at hlen;obtain⟨v0,l1,rfl,OH⟩:=Ez hlen;obtain rfl:=List.length_eq_zero_iff.1 OH;have tK:ys.length=1:=tK;have g0:=hy 0 _ rfl;simp only[Dc,Ob]at g0;rw[c25]at g0;obtain⟨ds,hds⟩:=jU g0 (Wi tK pa);exact⟨ds,v0,rfl,hds⟩
theorem lD {t t' N7 t3 t4:TypeId}{args:Array Value}{ds:List (DataW H)}{ps:List MemPlace}(h:DataW.TrodAll enc Tryz.prog W 0 sp hd [t,t',N7,t3,t4] args.toList ds ps):
  ∃v v' xY v3 v4 d d' d'' d3 d4 p p' tV p3 p4,args=#[v,v',xY,v3,v4]/\ ds=[d,d',d'',d3,d4]/\ ps=p++p'++tV++p3++p4/\ DataW.Trod enc Tryz.prog W 0 sp hd t v d p/\ DataW.Trod enc Tryz.prog W 0 sp hd t' v' d' p'/\ DataW.Trod enc Tryz.prog W 0 sp hd N7 xY d'' tV/\ DataW.Trod enc Tryz.prog W 0 sp hd t3 v3 d3 p3/\ DataW.Trod enc Tryz.prog W 0 sp hd t4 v4 d4 p4:=by
 obtain⟨v,vs,d,ds',p,q,afP,rfl,rfl,N9,O7⟩:=trodAll_cons h;obtain⟨v',vs',d',alg,p',q',rfl,rfl,rfl,hd',yY⟩:=trodAll_cons O7;obtain⟨xY,ali,d'',afQ,tV,q'',rfl,rfl,rfl,adf,kU⟩:=trodAll_cons yY;obtain⟨v3,vs3,d3,ds3,p3,q3,rfl,rfl,rfl,h_,zY⟩:=trodAll_cons kU;obtain⟨v4,vs4,d4,ds4,p4,q4,rfl,rfl,rfl,hd4,AY⟩:=trodAll_cons zY;obtain⟨rfl,rfl,rfl⟩:=trodAll_nil AY;exact⟨v,v',xY,v3,v4,d,d',d'',d3,d4,p,p',tV,p3,p4,by cases args;simp_all,rfl,la,N9,hd',adf,h_,hd4⟩
theorem bG {t t' N7 t3 t4:TypeId}{v v' xY v3 v4:Value}{d d' d'' d3 d4:DataW H}{p p' tV p3 p4:List MemPlace}(h:DataW.Trod enc Tryz.prog W 0 sp hd t v d p)(h':DataW.Trod enc Tryz.prog W 0 sp hd t' v' d' p')
  (h'':DataW.Trod enc Tryz.prog W 0 sp hd N7 xY d'' tV) (h3:DataW.Trod enc Tryz.prog W 0 sp hd t3 v3 d3 p3) (h4:DataW.Trod enc Tryz.prog W 0 sp hd t4 v4 d4 p4):DataW.TrodAll enc Tryz.prog W 0 sp hd [t,t',N7,t3,t4] [v,v',xY,v3,v4] [d,d',d'',d3,d4] (p++(p'++(tV++(p3++p4)))):=
 ⟨p,p'++(tV++(p3++p4)),h,trodAll_mk4 h' h'' h3 h4,rfl⟩
end
open Go Go.RowKit Go.ChangeShapes
theorem own :ownKnob Tryz.prog.godebug=none:=by kernel_rfl
theorem laidOut :laidOutB Tryz.prog=true:=by kernel_rfl
def Dz :List (String×DataW Unit):=[("math/bits.deBruijn32tab",Rows.laid_math_bits_deBruijn32tab),("math/bits.deBruijn64tab",Rows.laid_math_bits_deBruijn64tab),("internal/strconv.uint64pow10",Rows.laid_internal_strconv_uint64pow10),("strconv.ErrRange",Rows.laid_strconv_ErrRange),("strconv.ErrSyntax",Rows.laid_strconv_ErrSyntax)]
theorem LP (os:Os)(args:Array Value):laidMetH Tryz.prog Dz ((World.doorLaid Tryz.prog 2000 os).forCall (fun _ _=>0) ⟨#[],args,[]⟩).memory:=
 laidMetH_of_parts3 (fuel:=8) (laidMet_of_run' 8 Ca Ca) Ca Ca
open Go
theorem vX :mapsRowed Tryz.prog=true:=by kernel_rfl
theorem wX :(Tryz.prog.stops==[])=true:=by kernel_rfl
theorem xX :(Tryz.prog.stopKnobs==[])=true:=by kernel_rfl
theorem yX :Tryz.prog.stopsHeard=true:=by kernel_rfl
theorem zX :Tryz.prog.mayEnter=true:=by kernel_rfl
theorem AX :true=Tryz.prog.looks []:=by kernel_rfl
theorem Qj {a b:Bool}(h:a=true)(k:b=true):(a&& b)=true:=by rw[h,k];rfl
end Go.Proofs.YtejbgoigkefnfaaGreatDoor
