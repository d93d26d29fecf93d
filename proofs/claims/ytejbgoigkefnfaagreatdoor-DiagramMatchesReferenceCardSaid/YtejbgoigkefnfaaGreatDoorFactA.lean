/- The walks of formula.Size, of cmp.Compare and formula.compare at int. A bound on the number of nodes. -/
import Derived.Test.YtejbgoigkefnfaaGreatDoorAl
import Derived.Test.YtejbgoigkefnfaaGreatDoorLexA
import Derived.Deep.DeepCutAuto
set_option maxRecDepth 100000
set_option maxHeartbeats 2000000
namespace Go.Proofs.YtejbgoigkefnfaaGreatDoor
open Go.RowKit
def Jo (f:Fa):Bool:=(f.kind==1&& f.lo==0)&& f.hi==1
def ll (f:Fa):Bool:=(((f.kind==2 || f.kind==3)&& decide (0<=f.lo))&& decide (f.lo<=f.hi))&& decide (f.hi<=1000000)
def wj (d:List Fa):List (ByteArray×Bool):=d.map fun f=>(f.name,true)
def jl :List Fa->List (ByteArray×Bool)->Bool
 | [],_=>true
 | f::d,l=>(Jo f || ll f)&& Hd f.name&& (l.lookup f.name).isNone&& jl d (l++[(f.name,true)])
def Hf (d:List Fa):Bool:=jl d []&& decide (d.length<=60)
theorem qw (d:List Fa)(k:Nat)(h:k<d.length):
  jl (d.drop k) (wj (d.take k))=((Jo d[k] || ll d[k])&& Hd d[k].name&& ((wj (d.take k)).lookup d[k].name).isNone&& jl (d.drop (k+1)) (wj (d.take (k+1)))):=by
 rw[Qb h,jl,Ka h];simp only[wj,Lb,Va,Rf]
theorem Gz :∀(d:List Fa) (k:ByteArray) (x:Bool),(wj d).lookup k=some x->x=true
 | [],_,_,h=>by cases h
 | f::d,k,x,h=>by{simp only[wj,Va,Db]at h;(split at h);{simpa using h.symm};{exact Gz d k x h}}
theorem QP.key :KeyLaw Value.string Tryz.prog 9:=VH Tryz.underlying9
theorem VL :∀w,(zeroValue 4).run Tryz.prog w=.ok (.bool false) w:=Tryz.zeroValue4
theorem Xu (d:List Fa)(v:Value)(w:World)(B:Nat)(hB:B<=w.heap.size)(hd:bf w B d v):
  Calls Tryz.prog 13 #[v] w fun e w'=>e=.returned (.bool (Hf d))/\ Below w.heap.size w w':=by
 obtain⟨u,rfl,hd⟩:=hd;obtain⟨ad,cd,rfl,d1,d2,_⟩:=Xa.shape hd;unfold maxLen at d2;have HD:=da hd;have HR:Hid (Hf d=(jl (d.drop 0) (wj (d.take 0))&& decide (d.length<=60))):=rfl;generalize Hf d=R at*
 have PR:=@run_makeMap Tryz.prog;clear hd;go_enter Tryz.func13,Tryz.ntmps13;go_wp2;clear PR
 go_loopw [12] (fun i wr=>∃k:Nat,k<=d.length/\ i=.int .i64 k/\ Hid (R=(jl (d.drop k) (wj (d.take k))&& decide (d.length<=60)))/\ Below w.heap.size w wr/\ w.heap.size+1<wr.heap.size/\
  We Value.string Value.bool wr (w.heap.size+1) (wj (d.take k))/\ wr.cell? ⟨w.heap.size,0,none⟩=some (.slice ad d.length cd)) (fun i _=>d.length-(intOf i).toNat)
 case atStart=>(exact⟨0,ia,rfl,HR,((za _ _).alloc (ja _) _).alloc la _,la,by have:=We.made (ek:=Value.string) (ev:=Value.bool) (w.alloc (.cells #[.slice ad d.length cd] 27));simpa[wj]using this,by go_simp⟩)
 case round=>
  obtain⟨k,hk,rfl,hin,hb,hsz,zy,hc0⟩:=hrel;clear HR;by_cases hlt:k<d.length
  ·obtain⟨b,off,rfl,Rj,f0,f1,f2,f3,hz,wk,wl,wh⟩:=Xa.at (HD.out.below Iw.kept (hb.mono hB)) k hlt
   have ho:=qw d k hlt;have ng:=hin.out;rw[ho]at ng;generalize bV:d[k]=f at*
   have HI:=da ng;have L1:=da bV;clear ho ng bV hin;go_upto_region 5 with(fail)
   go_cut[6] (fun s6 wx=>s6=.bool (Jo f)/\ wx=wr.alloc (.cells #[.string f.name,.int .i64 f.kind,.int .i64 f.lo,.int .i64 f.hi] 83))
   case first=>((cases a1:(f.kind==1)<;>cases a2:(f.lo==0)<;>cases a3:(f.hi==1));all_goals(go_wp2;go_meet;exact⟨by simp[Jo,a1,a2,a3],rfl⟩))
   case rest=>
    obtain⟨rfl,rfl⟩:=hcut;go_upto_region 6 with(fail)
    go_cut[7] (fun s7 wx=>s7=.bool (ll f)/\ wx=wr.alloc (.cells #[.string f.name,.int .i64 f.kind,.int .i64 f.lo,.int .i64 f.hi] 83))
    case first=>((cases a1:(f.kind==2)<;>cases a2:(f.kind==3)<;>cases a3:decide (0<=f.lo)<;>cases a4:decide (f.lo<=f.hi)<;>cases a5:decide (f.hi<=1000000));all_goals(go_wp2;go_meet;exact⟨by simp only[ll,a1,a2,a3,a4,a5];rfl,rfl⟩))
    case rest=>
     obtain⟨rfl,rfl⟩:=hcut;have RP:=zy.alloc (.cells #[.string f.name,.int .i64 f.kind,.int .i64 f.lo,.int .i64 f.hi] 83);have hlk:=Az QP.key Tryz.underlying63 VL RP f.name;have cE:=hb.alloc ia (.cells #[.string f.name,.int .i64 f.kind,.int .i64 f.lo,.int .i64 f.hi] 83);have HB:=da cE;have HM:=da RP;clear cE RP zy hb;cases c0:(Jo f || ll f)with
     | false=>{have HS:=da (show R=false by have:=HI.out;rw[c0]at this;simpa using this);obtain⟨c1,c2⟩:=Bool.or_eq_false_iff.1 c0;clear hlk c0;go_wp2;go_ret;exact⟨Oa HS.out.symm,HB.out⟩}
     | true=>
      cases c3:Hd f.name with
      | false=>
       have HS:=da (show R=false by have:=HI.out;rw[c3]at this;simpa using this);cases c1:Jo f<;>cases c2:ll f<;>first | (rw[c1,c2]at c0;cases c0) | skip
       all_goals
        clear hlk;go_wp2_with (go_at_call 48;refine(yt f.name _ hz).mono ?_;rintro e w2 ⟨rfl,rfl⟩);go_ret;exact⟨Oa HS.out.symm,HB.out⟩
      | true=>
       cases c4:(wj (d.take k)).lookup f.name with
       | some x=>
        have hx:x=true:=Gz _ _ _ c4;subst hx;rw[c4]at hlk;have HS:=da (show R=false by have:=HI.out;rw[c4]at this;simpa using this);cases c1:Jo f<;>cases c2:ll f<;>first | (rw[c1,c2]at c0;cases c0) | skip
        all_goals
         go_wp2_with (go_at_call 48;refine(yt f.name _ hz).mono ?_;rintro e w2 ⟨rfl,rfl⟩);go_ret;exact⟨Oa HS.out.symm,HB.out⟩
       | none=>
        rw[c4]at hlk;have HN:=da (show R=(jl (d.drop (k+1)) (wj (d.take (k+1)))&& decide (d.length<=60)) by have:=HI.out;rw[c0,c3,c4]at this;simpa using this)
        have Kn:Hid (ins (wj (d.take k)) f.name true=wj (d.take (k+1))):=by{have h1:=Hq (wj (d.take k)) f.name true c4;show _=_;rw[h1,Ka hlt];simp only[wj,Lb,Va,Rf,L1.out]}
        cases c1:Jo f<;>cases c2:ll f<;>first | (rw[c1,c2]at c0;cases c0) | skip
        all_goals
         clear c4
         go_wp2_with (first
          | (go_at_call 48;refine(yt f.name _ hz).mono ?_;rintro e w2 ⟨rfl,rfl⟩)
          | ((with_reducible show wpList _ _ _ (⟨_,Op.mapUpdate 63 _ _ _,_,_,_,_⟩::_) _ _);refine RI rfl (.tmp 72) (.tmp 74) (.const (.bool true)) rfl QP.key Tryz.underlying63 HM.out f.name true rfl rfl rfl ?_;intro W3 LR iN))
         go_roundw
         case rel=>(refine⟨k+1,ia,by go_num,HN,HB.out.trans (iN.below ia),by rw[iN.size];simp;omega,by rw[<-Kn.out];exact LR,?_⟩;rw[iN.cell (p:=⟨w.heap.size,0,none⟩) la,World.cell?_alloc_past _ _ _ ia];exact hc0)
         case measure=>simp[intOf];omega
  ·have HS:=da (show R=decide (d.length<=60) by
    have:=hin.out
    rw[Ta ia,jl]at this
    simpa using this)
   clear hin zy;by_cases IX:d.length<=60
   {(have JX:(d.length:Int)<=60:=ia);rw[Ma IX]at HS;go_wp2;go_ret;exact⟨Oa HS.out.symm,hb⟩}
   {(have JX:decide ((d.length:Int)<=60)=false:=by simp;omega);rw[Ia IX]at HS;clear IX;go_wp2;go_ret;exact⟨Oa HS.out.symm,hb⟩}
def idxFrom {α:Type}(p:α->Bool):List α->Int->Int
 | [],_=> -1
 | x::l,k=>if p x then k else idxFrom p l (k+1)
def tg (d:List Fa)(s:ByteArray):Int:=idxFrom (fun f=>Ni f.name s) d 0
theorem Kk {α:Type}(p:α->Bool)(l:List α)(k:Nat)(h:k<l.length)(i:Int):idxFrom p (l.drop k) i=if p l[k]then i else idxFrom p (l.drop (k+1)) (i+1):=by
 rw[Qb h,idxFrom]
theorem Jv (f:Fa)(s:ByteArray)(b:Nat)(w:World)(hb:b<w.heap.size)(hc:w.cell? ⟨b,0,none⟩=some (.string s)):
  Calls Tryz.prog 107 #[.agg #[.string f.name,.int .i64 f.kind,.int .i64 f.lo,.int .i64 f.hi],.pointer (some ⟨b,0,none⟩)] w fun e w'=>e=.returned (.bool (Ni f.name s))/\ Below w.heap.size w w':=by
 go_enter Tryz.func107,Tryz.ntmps107;go_wp2;go_ret;exact⟨rfl,(za _ _).alloc (ja _) _⟩
theorem iG (d:List Fa)(s:ByteArray)(bp:Nat)(v:Value)(w:World)(B:Nat)(hB:B<=w.heap.size)(hd:Xa Iw 4 w B d v)(F3:bp<w.heap.size)(hs:w.cell? ⟨bp,0,none⟩=some (.string s)):
  Calls Tryz.prog 106 #[v,.func (.func 107) #[] #[.pointer (some ⟨bp,0,none⟩)]] w fun e w'=>e=.returned (.int .i64 (tg d s))/\ Below w.heap.size w w':=by
 obtain⟨ad,cd,rfl,d1,d2,_⟩:=Xa.shape hd;unfold maxLen at d2;have HD:=da hd;have HR:Hid (tg d s=idxFrom (fun f=>Ni f.name s) (d.drop 0) (0:Nat)):=rfl;generalize tg d s=R at*
 clear hd;go_enter Tryz.func106,Tryz.ntmps106;go_wp2
 go_loopw [8] (fun i wr=>∃k:Nat,k<=d.length/\ i=.int .i64 k/\ Hid (R=idxFrom (fun f=>Ni f.name s) (d.drop k) k)/\ Below w.heap.size w wr) (fun i _=>d.length-(intOf i).toNat)
 case atStart=>exact⟨0,ia,rfl,HR,za _ _⟩
 case round=>
  obtain⟨k,hk,rfl,hin,hb⟩:=hrel;have hsz:=hb.size;by_cases hlt:k<d.length
  {obtain⟨b,off,rfl,Rj,f0,f1,f2,f3,hz,wk,wl,wh⟩:=Xa.at (HD.out.below Iw.kept (hb.mono hB)) k hlt;have hsw:=(hb.cell (p:=⟨bp,0,none⟩) F3).trans hs;have ng:=hin.out;rw[Kk _ d k hlt]at ng;generalize bV:d[k]=f at*;have C:=da (Jv f s bp wr ia hsw);cases he:Ni f.name s with| true=>{have HS:=da (show(k:Int)=R by rw[ng,he];rfl);clear ng hin HR hs hsw;rw[he]at C;go_wp2_with (go_at_call 107;refine C.out.mono ?_;rintro e w2 ⟨rfl,ud⟩);go_ret;exact⟨ke HS.out,hb.trans (ud.mono hsz)⟩}| false=>{have HS:=da (show R=idxFrom (fun f=>Ni f.name s) (d.drop (k+1)) ((k+1:Nat):Int) by rw[ng,he];rfl);clear ng hin HR hs hsw;rw[he]at C;go_wp2_with (go_at_call 107;refine C.out.mono ?_;rintro e w2 ⟨rfl,ud⟩);go_roundw;(case rel=>exact⟨k+1,ia,by go_num,HS,hb.trans (ud.mono hsz)⟩);case measure=>simp[intOf];omega}}
  ·have HS:=da (show(-1:Int)=R by
    have h0:=hin.out
    rw[Ta ia]at h0
    exact h0.symm)
   clear hin HR;go_wp2;go_ret;exact⟨ke HS.out,hb⟩
theorem FA (d:List Fa)(s:ByteArray)(v:Value)(w:World)(B:Nat)(hB:B<=w.heap.size)(hd:bf w B d v):
  Calls Tryz.prog 59 #[v,.string s] w fun e w'=>e=.returned (.int .i64 (tg d s))/\ Below w.heap.size w w':=by
 obtain⟨u,rfl,hd⟩:=hd;obtain⟨ad,cd,rfl,d1,d2,_⟩:=Xa.shape hd;have HD:=da hd;clear hd;go_enter Tryz.func59,Tryz.ntmps59;go_wp2_with (go_at_call 106;refine(iG d s _ _ _ B ?_ ?_ ?_ ?_).mono ?_;(simp;omega);exact HD.out.below Iw.kept (((za _ _).alloc ia _).alloc (by simp;omega) _);(simp);(go_simp);rintro e w2 ⟨rfl,ud⟩);go_ret;exact⟨rfl,(((za _ _).alloc (ja _) _).alloc la _).trans (ud.mono (by simp;omega))⟩
mutual
def Fo.depth :Fo->Nat
 | .mk _ _ _ _ ks=>Fo.bi ks+1
def Fo.bi :List Fo->Nat
 | []=>0
 | k::ks=>max k.depth (Fo.bi ks)
end
theorem Fo.Nj (l:List Fo)(k:Nat)(h:k<l.length):Fo.Tc (l.take (k+1))=Fo.Tc (l.take k)+l[k].size:=by
 have aux:∀(a b:List Fo),Fo.Tc (a++b)=Fo.Tc a+Fo.Tc b:=by{intro a b;induction a with| nil=>simp[Fo.Tc]| cons x a ih=>simp[Fo.Tc,ih];omega}
 rw[Ka h,aux];simp[Fo.Tc]
theorem Fo.sw (l:List Fo)(k:Nat)(h:k<l.length):Fo.bi (l.take (k+1))=max (Fo.bi (l.take k)) l[k].depth:=by
 have aux:∀(a b:List Fo),Fo.bi (a++b)=max (Fo.bi a) (Fo.bi b):=by{intro a b;induction a with| nil=>simp[Fo.bi]| cons x a ih=>simp only[Sb,Fo.bi,ih];omega}
 rw[Ka h,aux];simp[Fo.bi]
mutual
theorem Fo.Cq :∀(f:Fo),f.depth<=f.size
 | .mk _ _ _ _ ks=>by have:=Fo.iC ks;simp only[Fo.depth,Fo.size];omega
theorem Fo.iC :∀(ks:List Fo),Fo.bi ks<=Fo.Tc ks
 | []=>by simp[Fo.bi]
 | k::ks=>by have:=Fo.Cq k;have:=Fo.iC ks;simp only[Fo.bi,Fo.Tc];omega
end
theorem Fo.Oj (l:List Fo)(k:Nat):Fo.Tc (l.take k)<=Fo.Tc l:=by
 induction l generalizing k with| nil=>simp[Fo.Tc]| cons x l ih=>{cases k with| zero=>simp[Fo.Tc]| succ k=>simp only[Zc,Fo.Tc];have:=ih k;omega}
theorem WM (N:Nat):∀(f:Fo) (v:Value) (w:World) (B:Nat),f.size<=N->f.size<=1000000->B<=w.heap.size->f.In w B v->
  Calls Tryz.prog 99 #[v] w fun e w'=>e=.returned (.tuple #[.int .i64 f.size,.int .i64 f.depth])/\ Below w.heap.size w w':=by
 induction N with
 | zero=>intro f _ _ _ h;have:=f.size_pos;omega
 | succ N ih=>
 intro f v w B hN hM hB hf;have IH:=da ih;clear ih;obtain⟨op,nm,c,n,ks⟩:=f;obtain⟨ao,cap,rfl,h1,h2,h3,h4,h5,h6,h7⟩:=hf;unfold maxLen at h6;have H7:=da h7;have HS:=da (show(Fo.mk op nm c n ks).size=Fo.Tc ks+1 by rw[Fo.size]);have HD:=da (show(Fo.mk op nm c n ks).depth=Fo.bi ks+1 by rw[Fo.depth]);rw[HS.out]at hN hM;generalize(Fo.mk op nm c n ks).size=S at*
 generalize(Fo.mk op nm c n ks).depth=D at*
 clear h7 h1 h2 h3 h4;go_enter Tryz.func99,Tryz.ntmps99;go_wp2
 go_loopw [4,5,13] (fun n dp i wr=>∃k a b:Nat,k<=ks.length/\ i=.int .i64 k/\ n=.int .i64 a/\ dp=.int .i64 b/\ Hid (a=Fo.Tc (ks.take k)+1)/\ Hid (b=Fo.bi (ks.take k))/\ a<=1000000/\ b<=1000000/\
  Below w.heap.size w wr/\ w.heap.size<wr.heap.size) (fun _ _ i _=>ks.length-(intOf i).toNat)
 case atStart=>exact⟨0,1,0,ia,rfl,rfl,rfl,by simp[Fo.Tc,Hid],by simp[Fo.bi,Hid],ia,ia,(za _ _).alloc (ja _) _,la⟩
 case round=>
  obtain⟨k,a,b,hk,rfl,rfl,rfl,ha,hb,hal,En,Zd,hsz⟩:=hrel;by_cases hlt:k<ks.length
  {obtain⟨bb,off,rfl,Rj,hL⟩:=H7.out (by intro h;simp[h]at hlt);obtain⟨ka,kc,g0,g1,g2,g3,g4,gk⟩:=Fo.Qk.get ks off k hlt (Fo.Qk.below (Zd.mono hB) Rj ks off hL);have hs1:=Fo.Nj ks k hlt;have GC:=Fo.sw ks k hlt;have qm:=Fo.Oj ks (k+1);have hsk:=Fo.fg ks k hlt;have hdk:=Fo.Cq ks[k];generalize hx:ks[k]=x at*;have A1:=da (show a+x.size=Fo.Tc (ks.take (k+1))+1 by rw[hs1,ha.out];omega);(have A2:a+x.size<=1000000:=by rw[A1.out];omega);have A3:=da (show max b x.depth=Fo.bi (ks.take (k+1)) by rw[GC,hb.out]);(have A4:x.depth<=1000000:=ia);have GK:=da gk;(have pw:x.size<=N:=ia);(have SP:x.size<=1000000:=ia);clear gk hL H7 hs1 GC hx qm hsk hdk ha hb;have di:=da (Zd.alloc ia (.cells #[.int .i64 x.op,.string x.name,.int .i64 x.cmp,.int .i64 x.n,.slice ka x.kids.length kc] 24));by_cases XL:b<x.depth;{have hmx:=da (show x.depth=max b x.depth by omega);(have hc1:(b:Int)<(x.depth:Int):=ia);go_wp2_with (go_at_call 99;refine(IH.out _ _ _ B pw SP ?_ ?_).mono ?_;(simp;omega);exact Fo.In.below ((za _ _).alloc ia _) _ _ GK.out;rintro e w' ⟨rfl,hb'⟩);go_roundw;(case rel=>exact⟨k+1,a+x.size,x.depth,ia,by go_num,by go_num,(by first | rfl | (rw[Int.max_eq_right ia]) | (rw[Int.max_eq_left ia])),A1,by show _=_;rw[<-A3.out];omega,A2,A4,di.out.trans (hb'.mono (by simp;omega)),by have:=hb'.size;simp at this;omega⟩);case measure=>simp[intOf];omega};{(have hc1:(x.depth:Int)<=(b:Int):=ia);go_wp2_with (go_at_call 99;refine(IH.out _ _ _ B pw SP ?_ ?_).mono ?_;(simp;omega);exact Fo.In.below ((za _ _).alloc ia _) _ _ GK.out;rintro e w' ⟨rfl,hb'⟩);go_roundw;(case rel=>exact⟨k+1,a+x.size,b,ia,by go_num,by go_num,(by first | rfl | (rw[Int.max_eq_right ia]) | (rw[Int.max_eq_left ia])),A1,by show _=_;rw[<-A3.out];omega,A2,En,di.out.trans (hb'.mono (by simp;omega)),by have:=hb'.size;simp at this;omega⟩);case measure=>simp[intOf];omega}}
  ·have e1:((a:Nat):Int)=(S:Nat):=by
    have:=ha.out;rw[Ac ia]at this;have:=HS.out;omega
   have e2:((b:Nat):Int)+1=(D:Nat):=by{have:=hb.out;rw[Ac ia]at this;have:=HD.out;omega}
   have E1:=da e1;have E2:=da e2;clear e1 e2 ha hb;go_wp2;go_ret2;exact⟨jG E1.out E2.out,Zd⟩
def Il (a how b:Int):Bool:=
 (how==1&& decide (a=b)) || (how==2&& decide (a≠b)) || (how==3&& decide (a<b)) || (how==4&& decide (a<=b)) || (how==5&& decide (b<a)) || (how==6&& decide (b<=a))
end Go.Proofs.YtejbgoigkefnfaaGreatDoor
