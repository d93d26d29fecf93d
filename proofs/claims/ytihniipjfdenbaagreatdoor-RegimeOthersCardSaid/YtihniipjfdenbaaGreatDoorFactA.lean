/- The walks of formula.Size, of cmp.Compare and formula.compare at int. A bound on the number of nodes. -/
import Derived.Test.YtihniipjfdenbaaGreatDoorLexA
import Derived.Deep.DeepCutAuto
set_option maxRecDepth 100000
set_option maxHeartbeats 2000000
namespace Go.Proofs.YtihniipjfdenbaaGreatDoor
open Go.RowKit
def flagB (f:Fa):Bool:=(f.kind==1&& f.lo==0)&& f.hi==1
def otherB (f:Fa):Bool:=(((f.kind==2 || f.kind==3)&& decide (0<=f.lo))&& decide (f.lo<=f.hi))&& decide (f.hi<=1000000)
def seenL (d:List Fa):List (ByteArray×Bool):=d.map fun f=>(f.name,true)
def okFrom :List Fa->List (ByteArray×Bool)->Bool
 | [],_=>true
 | f::d,l=>(flagB f || otherB f)&& nameB f.name&& (l.lookup f.name).isNone&& okFrom d (l++[(f.name,true)])
def validD (d:List Fa):Bool:=okFrom d []&& decide (d.length<=60)
theorem okFrom_drop (d:List Fa)(k:Nat)(h:k<d.length):
  okFrom (d.drop k) (seenL (d.take k))=((flagB d[k] || otherB d[k])&& nameB d[k].name&& ((seenL (d.take k)).lookup d[k].name).isNone&& okFrom (d.drop (k+1)) (seenL (d.take (k+1)))):=by
 rw[List.drop_eq_getElem_cons h,okFrom,List.take_succ_eq_append_getElem h];simp only[seenL,List.map_append,List.map_cons,List.map_nil]
theorem seenL_true :∀(d:List Fa) (k:ByteArray) (x:Bool),(seenL d).lookup k=some x->x=true
 | [],_,_,h=>by cases h
 | f::d,k,x,h=>by{simp only[seenL,List.map_cons,List.lookup_cons]at h;(split at h);{simpa using h.symm};{exact seenL_true d k x h}}
theorem MapStr.key :KeyLaw Value.string Tryz.prog 9:=keyStr Tryz.underlying9
theorem zero_bool :∀w,(zeroValue 4).run Tryz.prog w=.ok (.bool false) w:=Tryz.zeroValue4
theorem valid_any (d:List Fa)(v:Value)(w:World)(B:Nat)(hB:B<=w.heap.size)(hd:DomIn w B d v):
  Calls Tryz.prog 50 #[v] w fun e w'=>e=.returned (.bool (validD d))/\ Below w.heap.size w w':=by
 obtain⟨u,rfl,hd⟩:=hd;obtain⟨ad,cd,rfl,d1,d2,_⟩:=SlIn.shape hd;unfold maxLen at d2;have HD:=Lib.hid hd;have HR:Hid (validD d=(okFrom (d.drop 0) (seenL (d.take 0))&& decide (d.length<=60))):=rfl;generalize validD d=R at*
 have hmm:=@run_makeMap Tryz.prog;clear hd;go_enter Tryz.func50,Tryz.ntmps50;go_wp2;clear hmm
 go_loopw [12] (fun i wr=>∃k:Nat,k<=d.length/\ i=.int .i64 k/\ Hid (R=(okFrom (d.drop k) (seenL (d.take k))&& decide (d.length<=60)))/\ Below w.heap.size w wr/\ w.heap.size+1<wr.heap.size/\
  MapIs Value.string Value.bool wr (w.heap.size+1) (seenL (d.take k))/\ wr.cell? ⟨w.heap.size,0,none⟩=some (.slice ad d.length cd)) (fun i _=>d.length-(intOf i).toNat)
 case atStart=>(exact⟨0,by omega,rfl,HR,((Below.refl _ _).alloc (Nat.le_refl _) _).alloc (by simp) _,by simp,by have:=MapIs.made (ek:=Value.string) (ev:=Value.bool) (w.alloc (.cells #[.slice ad d.length cd] 25));simpa[seenL]using this,by go_simp⟩)
 case round=>
  obtain⟨k,hk,rfl,hin,hb,hsz,hmap,hc0⟩:=hrel;clear HR;by_cases hlt:k<d.length
  ·obtain⟨b,off,rfl,hbB,f0,f1,f2,f3,hz,wk,wl,wh⟩:=SlIn.at (HD.out.below FaR.kept (hb.mono hB)) k hlt
   have ho:=okFrom_drop d k hlt;have hin2:=hin.out;rw[ho]at hin2;generalize hfk:d[k]=f at*
   have HI:=Lib.hid hin2;have HFK:=Lib.hid hfk;clear ho hin2 hfk hin;go_upto_region 5 with(fail)
   go_cut[6] (fun s6 wx=>s6=.bool (flagB f)/\ wx=wr.alloc (.cells #[.string f.name,.int .i64 f.kind,.int .i64 f.lo,.int .i64 f.hi] 86))
   case first=>((cases a1:(f.kind==1)<;>cases a2:(f.lo==0)<;>cases a3:(f.hi==1));all_goals(go_wp2;go_meet;exact⟨by simp[flagB,a1,a2,a3],rfl⟩))
   case rest=>
    obtain⟨rfl,rfl⟩:=hcut;go_upto_region 6 with(fail)
    go_cut[7] (fun s7 wx=>s7=.bool (otherB f)/\ wx=wr.alloc (.cells #[.string f.name,.int .i64 f.kind,.int .i64 f.lo,.int .i64 f.hi] 86))
    case first=>((cases a1:(f.kind==2)<;>cases a2:(f.kind==3)<;>cases a3:decide (0<=f.lo)<;>cases a4:decide (f.lo<=f.hi)<;>cases a5:decide (f.hi<=1000000));all_goals(go_wp2;go_meet;exact⟨by simp only[otherB,a1,a2,a3,a4,a5];rfl,rfl⟩))
    case rest=>
     obtain⟨rfl,rfl⟩:=hcut;have hmap2:=hmap.alloc (.cells #[.string f.name,.int .i64 f.kind,.int .i64 f.lo,.int .i64 f.hi] 86);have hlk:=run_look MapStr.key Tryz.underlying93 zero_bool hmap2 f.name;have hbb:=hb.alloc (by omega) (.cells #[.string f.name,.int .i64 f.kind,.int .i64 f.lo,.int .i64 f.hi] 86);have HB:=Lib.hid hbb;have HM:=Lib.hid hmap2;clear hbb hmap2 hmap hb;cases c0:(flagB f || otherB f)with
     | false=>{have HS:=Lib.hid (show R=false by have:=HI.out;rw[c0]at this;simpa using this);obtain⟨c1,c2⟩:=Bool.or_eq_false_iff.1 c0;clear hlk c0;go_wp2;go_ret;exact⟨ret_bool HS.out.symm,HB.out⟩}
     | true=>
      cases c3:nameB f.name with
      | false=>
       have HS:=Lib.hid (show R=false by have:=HI.out;rw[c3]at this;simpa using this);cases c1:flagB f<;>cases c2:otherB f<;>first | (rw[c1,c2]at c0;cases c0) | skip
       all_goals
        clear hlk;go_wp2_with (go_at_call 79;refine(isName_any f.name _ hz).mono ?_;rintro e w2 ⟨rfl,rfl⟩);go_ret;exact⟨ret_bool HS.out.symm,HB.out⟩
      | true=>
       cases c4:(seenL (d.take k)).lookup f.name with
       | some x=>
        have hx:x=true:=seenL_true _ _ _ c4;subst hx;rw[c4]at hlk;have HS:=Lib.hid (show R=false by have:=HI.out;rw[c4]at this;simpa using this);cases c1:flagB f<;>cases c2:otherB f<;>first | (rw[c1,c2]at c0;cases c0) | skip
        all_goals
         go_wp2_with (go_at_call 79;refine(isName_any f.name _ hz).mono ?_;rintro e w2 ⟨rfl,rfl⟩);go_ret;exact⟨ret_bool HS.out.symm,HB.out⟩
       | none=>
        rw[c4]at hlk;have HN:=Lib.hid (show R=(okFrom (d.drop (k+1)) (seenL (d.take (k+1)))&& decide (d.length<=60)) by have:=HI.out;rw[c0,c3,c4]at this;simpa using this)
        have HIN:Hid (ins (seenL (d.take k)) f.name true=seenL (d.take (k+1))):=by{have h1:=ins_none (seenL (d.take k)) f.name true c4;show _=_;rw[h1,List.take_succ_eq_append_getElem hlt];simp only[seenL,List.map_append,List.map_cons,List.map_nil,HFK.out]}
        cases c1:flagB f<;>cases c2:otherB f<;>first | (rw[c1,c2]at c0;cases c0) | skip
        all_goals
         clear c4
         go_wp2_with (first
          | (go_at_call 79;refine(isName_any f.name _ hz).mono ?_;rintro e w2 ⟨rfl,rfl⟩)
          | ((with_reducible show wpList _ _ _ (⟨_,Op.mapUpdate 93 _ _ _,_,_,_,_⟩::_) _ _);refine wpList_put rfl (.tmp 72) (.tmp 74) (.const (.bool true)) rfl MapStr.key Tryz.underlying93 HM.out f.name true rfl rfl rfl ?_;intro W3 hm3 hu3))
         go_roundw
         case rel=>(refine⟨k+1,by omega,by go_num,HN,HB.out.trans (hu3.below (by omega)),by rw[hu3.size];simp;omega,by rw[<-HIN.out];exact hm3,?_⟩;rw[hu3.cell (p:=⟨w.heap.size,0,none⟩) (by simp),World.cell?_alloc_past _ _ _ (by omega)];exact hc0)
         case measure=>simp[intOf];omega
  ·have HS:=Lib.hid (show R=decide (d.length<=60) by
    have:=hin.out
    rw[List.drop_of_length_le (by omega),okFrom]at this
    simpa using this)
   clear hin hmap;by_cases h60:d.length<=60
   {(have h60':(d.length:Int)<=60:=by omega);rw[decide_eq_true h60]at HS;go_wp2;go_ret;exact⟨ret_bool HS.out.symm,hb⟩}
   {(have h60':decide ((d.length:Int)<=60)=false:=by simp;omega);rw[decide_eq_false h60]at HS;clear h60;go_wp2;go_ret;exact⟨ret_bool HS.out.symm,hb⟩}
def inR (f:Fa)(c:Int):Bool:=decide (f.lo<=c)&& decide (c<=f.hi)
def inRs :List Fa->List Int->Bool
 | [],[]=>true
 | f::d,c::cs=>inR f c&& inRs d cs
 | _,_=>false
def fitsD (d:List Fa)(c:List Int):Bool:=validD d&& decide (c.length=d.length)&& inRs d c
theorem inRs_drop (d:List Fa)(c:List Int)(k:Nat)(h:k<d.length)(h':k<c.length):inRs (d.drop k) (c.drop k)=(inR d[k] c[k]&& inRs (d.drop (k+1)) (c.drop (k+1))):=by
 rw[List.drop_eq_getElem_cons h,List.drop_eq_getElem_cons h',inRs]
theorem fits_any (d:List Fa)(c:List Int)(v u:Value)(w:World)(B:Nat)(hB:B<=w.heap.size)(hd:DomIn w B d v)(hc:IntsIn w B c u):
  Calls Tryz.prog 17 #[v,u] w fun e w'=>e=.returned (.bool (fitsD d c))/\ Below w.heap.size w w':=by
 have hd0:=hd;obtain⟨u0,rfl,hd⟩:=hd;obtain⟨ad,cd,rfl,d1,d2,_⟩:=SlIn.shape hd;obtain⟨ac,cc,rfl,c1,c2,_⟩:=SlIn.shape hc;unfold maxLen at d2 c2;have HD:=Lib.hid hd;have HD0:=Lib.hid hd0;have HC:=Lib.hid hc;have HR:Hid (fitsD d c=(validD d&& decide (c.length=d.length)&& inRs d c)):=rfl;generalize fitsD d c=R at*
 clear hd hc hd0;go_enter Tryz.func17,Tryz.ntmps17;cases hv:validD d with
 | false=>{have HS:=Lib.hid (show R=false by rw[HR.out,hv];rfl);go_wp2_with (go_at_call 50;refine(valid_any d _ _ B ?_ ?_).mono ?_;(simp;omega);exact DomIn.below ((Below.refl _ _).alloc (by omega) _) HD0.out;rintro e w2 ⟨rfl,hb2⟩);go_ret;exact⟨ret_bool HS.out.symm,((Below.refl _ _).alloc (Nat.le_refl _) _).trans (hb2.mono (by simp))⟩}
 | true=>
  by_cases hlen:c.length=d.length
  ·have hl1:((c.length:Int) !=d.length)=false:=by simp[hlen]
   have HL:=Lib.hid hlen;have HS:=Lib.hid (show R=inRs (d.drop 0) (c.drop 0) by rw[HR.out,hv,decide_eq_true hlen];rfl);clear hlen;go_wp2_with (go_at_call 50;refine(valid_any d _ _ B ?_ ?_).mono ?_;(simp;omega);exact DomIn.below ((Below.refl _ _).alloc (by omega) _) HD0.out;rintro e w2 ⟨rfl,hb2⟩;have q0:=(hb2.cell (p:=⟨w.heap.size,0,none⟩) (by simp)).trans (show _=some (Value.slice ad d.length cd) by rw[World.cell?_alloc_at _ _ _ _ rfl];rfl);have hz2:=hb2.size;rw[World.size_alloc]at hz2);have HB:=Lib.hid (((Below.refl w.heap.size w).alloc (Nat.le_refl _) (.cells #[.slice ad d.length cd] 25)).trans (hb2.mono (by simp)));clear hb2
   go_loopw [21] (fun i wr=>∃k:Nat,k<=d.length/\ i=.int .i64 k/\ Hid (R=inRs (d.drop k) (c.drop k))/\ Below w.heap.size w wr/\ w.heap.size<wr.heap.size) (fun i _=>d.length-(intOf i).toNat)
   case atStart=>exact⟨0,by omega,rfl,HS,HB.out,by omega⟩
   case round=>
    obtain⟨k,hk,rfl,hin,hb,hsz⟩:=hrel;by_cases hlt:k<d.length
    {(have hlt':k<c.length:=by have:=HL.out;omega);obtain⟨b,off,rfl,hbB,f0,f1,f2,f3,hz,wk,wl,wh⟩:=SlIn.at (HD.out.below FaR.kept (hb.mono hB)) k hlt;obtain⟨b',off',rfl,hbB',hcc⟩:=SlIn.one (HC.out.below (hb.mono hB)) k hlt';(have hcc0:b'<wr.heap.size:=by omega);have hin2:=hin.out;rw[inRs_drop d c k hlt hlt']at hin2;generalize hfk:d[k]=f at*;generalize hxk:c[k]=x at*;have HI:=Lib.hid hin2;clear hin2 hin HR HS hfk hxk;have hbe:=hb.alloc (by omega) (.cells #[.string f.name,.int .i64 f.kind,.int .i64 f.lo,.int .i64 f.hi] 86);have HBE:=Lib.hid hbe;clear hbe;by_cases g1:x<f.lo;{(have g1d:decide (x<f.lo)=true:=by simpa using g1);have HS:=Lib.hid (show R=false by rw[HI.out,inR,show decide (f.lo<=x)=false by simp;omega];simp);go_wp2;go_quiet(fail);go_wp2;go_ret;exact⟨ret_bool HS.out.symm,HBE.out.trans (World.drewN_below _ _ _)⟩};{(have g1d:decide (x<f.lo)=false:=by simpa using g1);by_cases g2:f.hi<x;{(have g2d:decide (f.hi<x)=true:=by simpa using g2);have HS:=Lib.hid (show R=false by rw[HI.out,inR,show decide (x<=f.hi)=false by simp;omega];simp);clear g1;go_wp2;go_quiet(fail);go_wp2;go_ret;exact⟨ret_bool HS.out.symm,HBE.out.trans (World.drewN_below _ _ _)⟩};{(have g2d:decide (f.hi<x)=false:=by simpa using g2);have HS:=Lib.hid (show R=inRs (d.drop (k+1)) (c.drop (k+1)) by rw[HI.out,inR,decide_eq_true (show f.lo<=x by omega),decide_eq_true (show x<=f.hi by omega)];simp);clear g1 g2;go_wp2;go_quiet(fail);go_wp2;go_roundw;(case rel=>exact⟨k+1,by omega,by go_num,HS,HBE.out.trans (World.drewN_below _ _ _),by simp;omega⟩);case measure=>simp[intOf];omega}}}
    ·have HS2:=Lib.hid (show R=true by
      have h0:=hin.out
      rw[List.drop_of_length_le (by omega),List.drop_of_length_le (by have:=HL.out;omega)]at h0
      exact h0)
     clear hin;go_wp2;go_ret;exact⟨ret_bool HS2.out.symm,hb⟩
  {(have hl1:((c.length:Int) !=d.length)=true:=by rw[bne_iff_ne];omega);have HS:=Lib.hid (show R=false by rw[HR.out,decide_eq_false hlen];simp);clear hlen;go_wp2_with (go_at_call 50;refine(valid_any d _ _ B ?_ ?_).mono ?_;(simp;omega);exact DomIn.below ((Below.refl _ _).alloc (by omega) _) HD0.out;rintro e w2 ⟨rfl,hb2⟩;have q0:=(hb2.cell (p:=⟨w.heap.size,0,none⟩) (by simp)).trans (show _=some (Value.slice ad d.length cd) by rw[World.cell?_alloc_at _ _ _ _ rfl];rfl);have hz2:=hb2.size;rw[World.size_alloc]at hz2);go_ret;exact⟨ret_bool HS.out.symm,((Below.refl _ _).alloc (Nat.le_refl _) _).trans (hb2.mono (by simp))⟩}
def idxFrom {α:Type}(p:α->Bool):List α->Int->Int
 | [],_=> -1
 | x::l,k=>if p x then k else idxFrom p l (k+1)
def idxD (d:List Fa)(s:ByteArray):Int:=idxFrom (fun f=>eqB f.name s) d 0
theorem idxFrom_drop {α:Type}(p:α->Bool)(l:List α)(k:Nat)(h:k<l.length)(i:Int):idxFrom p (l.drop k) i=if p l[k]then i else idxFrom p (l.drop (k+1)) (i+1):=by
 rw[List.drop_eq_getElem_cons h,idxFrom]
theorem indexClosure_any (f:Fa)(s:ByteArray)(b:Nat)(w:World)(hb:b<w.heap.size)(hc:w.cell? ⟨b,0,none⟩=some (.string s)):
  Calls Tryz.prog 143 #[.agg #[.string f.name,.int .i64 f.kind,.int .i64 f.lo,.int .i64 f.hi],.pointer (some ⟨b,0,none⟩)] w fun e w'=>e=.returned (.bool (eqB f.name s))/\ Below w.heap.size w w':=by
 go_enter Tryz.func143,Tryz.ntmps143;go_wp2;go_ret;exact⟨rfl,(Below.refl _ _).alloc (Nat.le_refl _) _⟩
theorem indexFa_any (d:List Fa)(s:ByteArray)(bp:Nat)(v:Value)(w:World)(B:Nat)(hB:B<=w.heap.size)(hd:SlIn FaR 4 w B d v)(hbp:bp<w.heap.size)(hs:w.cell? ⟨bp,0,none⟩=some (.string s)):
  Calls Tryz.prog 142 #[v,.func (.func 143) #[] #[.pointer (some ⟨bp,0,none⟩)]] w fun e w'=>e=.returned (.int .i64 (idxD d s))/\ Below w.heap.size w w':=by
 obtain⟨ad,cd,rfl,d1,d2,_⟩:=SlIn.shape hd;unfold maxLen at d2;have HD:=Lib.hid hd;have HR:Hid (idxD d s=idxFrom (fun f=>eqB f.name s) (d.drop 0) (0:Nat)):=rfl;generalize idxD d s=R at*
 clear hd;go_enter Tryz.func142,Tryz.ntmps142;go_wp2
 go_loopw [8] (fun i wr=>∃k:Nat,k<=d.length/\ i=.int .i64 k/\ Hid (R=idxFrom (fun f=>eqB f.name s) (d.drop k) k)/\ Below w.heap.size w wr) (fun i _=>d.length-(intOf i).toNat)
 case atStart=>exact⟨0,by omega,rfl,HR,Below.refl _ _⟩
 case round=>
  obtain⟨k,hk,rfl,hin,hb⟩:=hrel;have hsz:=hb.size;by_cases hlt:k<d.length
  {obtain⟨b,off,rfl,hbB,f0,f1,f2,f3,hz,wk,wl,wh⟩:=SlIn.at (HD.out.below FaR.kept (hb.mono hB)) k hlt;have hsw:=(hb.cell (p:=⟨bp,0,none⟩) hbp).trans hs;have hin2:=hin.out;rw[idxFrom_drop _ d k hlt]at hin2;generalize hfk:d[k]=f at*;have C:=Lib.hid (indexClosure_any f s bp wr (by omega) hsw);cases he:eqB f.name s with| true=>{have HS:=Lib.hid (show(k:Int)=R by rw[hin2,he];rfl);clear hin2 hin HR hs hsw;rw[he]at C;go_wp2_with (go_at_call 143;refine C.out.mono ?_;rintro e w2 ⟨rfl,hb2⟩);go_ret;exact⟨ret_int HS.out,hb.trans (hb2.mono hsz)⟩}| false=>{have HS:=Lib.hid (show R=idxFrom (fun f=>eqB f.name s) (d.drop (k+1)) ((k+1:Nat):Int) by rw[hin2,he];rfl);clear hin2 hin HR hs hsw;rw[he]at C;go_wp2_with (go_at_call 143;refine C.out.mono ?_;rintro e w2 ⟨rfl,hb2⟩);go_roundw;(case rel=>exact⟨k+1,by omega,by go_num,HS,hb.trans (hb2.mono hsz)⟩);case measure=>simp[intOf];omega}}
  ·have HS:=Lib.hid (show(-1:Int)=R by
    have h0:=hin.out
    rw[List.drop_of_length_le (by omega)]at h0
    exact h0.symm)
   clear hin HR;go_wp2;go_ret;exact⟨ret_int HS.out,hb⟩
theorem index_any (d:List Fa)(s:ByteArray)(v:Value)(w:World)(B:Nat)(hB:B<=w.heap.size)(hd:DomIn w B d v):
  Calls Tryz.prog 97 #[v,.string s] w fun e w'=>e=.returned (.int .i64 (idxD d s))/\ Below w.heap.size w w':=by
 obtain⟨u,rfl,hd⟩:=hd;obtain⟨ad,cd,rfl,d1,d2,_⟩:=SlIn.shape hd;have HD:=Lib.hid hd;clear hd;go_enter Tryz.func97,Tryz.ntmps97;go_wp2_with (go_at_call 142;refine(indexFa_any d s _ _ _ B ?_ ?_ ?_ ?_).mono ?_;(simp;omega);exact HD.out.below FaR.kept (((Below.refl _ _).alloc (by omega) _).alloc (by simp;omega) _);(simp);(go_simp);rintro e w2 ⟨rfl,hb2⟩);go_ret;exact⟨rfl,(((Below.refl _ _).alloc (Nat.le_refl _) _).alloc (by simp) _).trans (hb2.mono (by simp;omega))⟩
mutual
def Fo.depth :Fo->Nat
 | .mk _ _ _ _ ks=>Fo.depthL ks+1
def Fo.depthL :List Fo->Nat
 | []=>0
 | k::ks=>max k.depth (Fo.depthL ks)
end
theorem Fo.sizeL_snoc (l:List Fo)(k:Nat)(h:k<l.length):Fo.sizeL (l.take (k+1))=Fo.sizeL (l.take k)+l[k].size:=by
 have aux:∀(a b:List Fo),Fo.sizeL (a++b)=Fo.sizeL a+Fo.sizeL b:=by{intro a b;induction a with| nil=>simp[Fo.sizeL]| cons x a ih=>simp[Fo.sizeL,ih];omega}
 rw[List.take_succ_eq_append_getElem h,aux];simp[Fo.sizeL]
theorem Fo.depthL_snoc (l:List Fo)(k:Nat)(h:k<l.length):Fo.depthL (l.take (k+1))=max (Fo.depthL (l.take k)) l[k].depth:=by
 have aux:∀(a b:List Fo),Fo.depthL (a++b)=max (Fo.depthL a) (Fo.depthL b):=by{intro a b;induction a with| nil=>simp[Fo.depthL]| cons x a ih=>simp only[List.cons_append,Fo.depthL,ih];omega}
 rw[List.take_succ_eq_append_getElem h,aux];simp[Fo.depthL]
mutual
theorem Fo.depth_le :∀(f:Fo),f.depth<=f.size
 | .mk _ _ _ _ ks=>by have:=Fo.depthL_le ks;simp only[Fo.depth,Fo.size];omega
theorem Fo.depthL_le :∀(ks:List Fo),Fo.depthL ks<=Fo.sizeL ks
 | []=>by simp[Fo.depthL]
 | k::ks=>by have:=Fo.depth_le k;have:=Fo.depthL_le ks;simp only[Fo.depthL,Fo.sizeL];omega
end
theorem Fo.sizeL_take (l:List Fo)(k:Nat):Fo.sizeL (l.take k)<=Fo.sizeL l:=by
 induction l generalizing k with| nil=>simp[Fo.sizeL]| cons x l ih=>{cases k with| zero=>simp[Fo.sizeL]| succ k=>simp only[List.take_succ_cons,Fo.sizeL];have:=ih k;omega}
theorem size_any (N:Nat):∀(f:Fo) (v:Value) (w:World) (B:Nat),f.size<=N->f.size<=1000000->B<=w.heap.size->f.In w B v->
  Calls Tryz.prog 127 #[v] w fun e w'=>e=.returned (.tuple #[.int .i64 f.size,.int .i64 f.depth])/\ Below w.heap.size w w':=by
 induction N with
 | zero=>intro f _ _ _ h;have:=f.size_pos;omega
 | succ N ih=>
 intro f v w B hN hM hB hf;have IH:=Lib.hid ih;clear ih;obtain⟨op,nm,c,n,ks⟩:=f;obtain⟨ao,cap,rfl,h1,h2,h3,h4,h5,h6,h7⟩:=hf;unfold maxLen at h6;have H7:=Lib.hid h7;have HS:=Lib.hid (show(Fo.mk op nm c n ks).size=Fo.sizeL ks+1 by rw[Fo.size]);have HD:=Lib.hid (show(Fo.mk op nm c n ks).depth=Fo.depthL ks+1 by rw[Fo.depth]);rw[HS.out]at hN hM;generalize(Fo.mk op nm c n ks).size=S at*
 generalize(Fo.mk op nm c n ks).depth=D at*
 clear h7 h1 h2 h3 h4;go_enter Tryz.func127,Tryz.ntmps127;go_wp2
 go_loopw [4,5,13] (fun n dp i wr=>∃k a b:Nat,k<=ks.length/\ i=.int .i64 k/\ n=.int .i64 a/\ dp=.int .i64 b/\ Hid (a=Fo.sizeL (ks.take k)+1)/\ Hid (b=Fo.depthL (ks.take k))/\ a<=1000000/\ b<=1000000/\
  Below w.heap.size w wr/\ w.heap.size<wr.heap.size) (fun _ _ i _=>ks.length-(intOf i).toNat)
 case atStart=>exact⟨0,1,0,by omega,rfl,rfl,rfl,by simp[Fo.sizeL,Hid],by simp[Fo.depthL,Hid],by omega,by omega,(Below.refl _ _).alloc (Nat.le_refl _) _,by simp⟩
 case round=>
  obtain⟨k,a,b,hk,rfl,rfl,rfl,ha,hb,hal,hbl,hbw,hsz⟩:=hrel;by_cases hlt:k<ks.length
  {obtain⟨bb,off,rfl,hbB,hL⟩:=H7.out (by intro h;simp[h]at hlt);obtain⟨ka,kc,g0,g1,g2,g3,g4,gk⟩:=Fo.InL.get ks off k hlt (Fo.InL.below (hbw.mono hB) hbB ks off hL);have hs1:=Fo.sizeL_snoc ks k hlt;have hd1:=Fo.depthL_snoc ks k hlt;have hs2:=Fo.sizeL_take ks (k+1);have hsk:=Fo.size_get ks k hlt;have hdk:=Fo.depth_le ks[k];generalize hx:ks[k]=x at*;have A1:=Lib.hid (show a+x.size=Fo.sizeL (ks.take (k+1))+1 by rw[hs1,ha.out];omega);(have A2:a+x.size<=1000000:=by rw[A1.out];omega);have A3:=Lib.hid (show max b x.depth=Fo.depthL (ks.take (k+1)) by rw[hd1,hb.out]);(have A4:x.depth<=1000000:=by omega);have GK:=Lib.hid gk;(have hxs:x.size<=N:=by omega);(have hxs2:x.size<=1000000:=by omega);clear gk hL H7 hs1 hd1 hx hs2 hsk hdk ha hb;have HBW:=Lib.hid (hbw.alloc (by omega) (.cells #[.int .i64 x.op,.string x.name,.int .i64 x.cmp,.int .i64 x.n,.slice ka x.kids.length kc] 47));by_cases hcm:b<x.depth;{have hmx:=Lib.hid (show x.depth=max b x.depth by omega);(have hc1:(b:Int)<(x.depth:Int):=by omega);go_wp2_with (go_at_call 127;refine(IH.out _ _ _ B hxs hxs2 ?_ ?_).mono ?_;(simp;omega);exact Fo.In.below ((Below.refl _ _).alloc (by omega) _) _ _ GK.out;rintro e w' ⟨rfl,hb'⟩);go_roundw;(case rel=>exact⟨k+1,a+x.size,x.depth,by omega,by go_num,by go_num,(by first | rfl | (rw[Int.max_eq_right (by omega)]) | (rw[Int.max_eq_left (by omega)])),A1,by show _=_;rw[<-A3.out];omega,A2,A4,HBW.out.trans (hb'.mono (by simp;omega)),by have:=hb'.size;simp at this;omega⟩);case measure=>simp[intOf];omega};{(have hc1:(x.depth:Int)<=(b:Int):=by omega);go_wp2_with (go_at_call 127;refine(IH.out _ _ _ B hxs hxs2 ?_ ?_).mono ?_;(simp;omega);exact Fo.In.below ((Below.refl _ _).alloc (by omega) _) _ _ GK.out;rintro e w' ⟨rfl,hb'⟩);go_roundw;(case rel=>exact⟨k+1,a+x.size,b,by omega,by go_num,by go_num,(by first | rfl | (rw[Int.max_eq_right (by omega)]) | (rw[Int.max_eq_left (by omega)])),A1,by show _=_;rw[<-A3.out];omega,A2,hbl,HBW.out.trans (hb'.mono (by simp;omega)),by have:=hb'.size;simp at this;omega⟩);case measure=>simp[intOf];omega}}
  ·have e1:((a:Nat):Int)=(S:Nat):=by
    have:=ha.out;rw[List.take_of_length_le (by omega)]at this;have:=HS.out;omega
   have e2:((b:Nat):Int)+1=(D:Nat):=by{have:=hb.out;rw[List.take_of_length_le (by omega)]at this;have:=HD.out;omega}
   have E1:=Lib.hid e1;have E2:=Lib.hid e2;clear e1 e2 ha hb;go_wp2;go_ret2;exact⟨ret_int2 E1.out E2.out,hbw⟩
def cmpB (a how b:Int):Bool:=
 (how==1&& decide (a=b)) || (how==2&& decide (a≠b)) || (how==3&& decide (a<b)) || (how==4&& decide (a<=b)) || (how==5&& decide (b<a)) || (how==6&& decide (b<=a))
theorem cmpCompare_any (a b:Int)(w:World):
  Calls Tryz.prog 141 #[.int .i64 a,.int .i64 b] w fun e w'=>e=.returned (.int .i64 (if a<b then-1 else if b<a then 1 else 0))/\ w=w':=by
 rcases Int.lt_trichotomy a b with h | h | h
 {(have h2:¬b<a:=by omega);go_enter Tryz.func141,Tryz.ntmps141;go_wp2;go_ret;exact⟨by simp,rfl⟩}
 {subst h;go_enter Tryz.func141,Tryz.ntmps141;go_wp2;go_ret;exact⟨by simp,rfl⟩}
 {(have h2:¬a<b:=by omega);go_enter Tryz.func141,Tryz.ntmps141;go_wp2;go_ret;exact⟨by simp,rfl⟩}
theorem compare_any (a how b:Int)(w:World)(h1:1<=how)(h6:how<=6):
  Calls Tryz.prog 96 #[.int .i64 a,.int .i64 how,.int .i64 b] w fun e w'=>e=.returned (.bool (cmpB a how b))/\ w=w':=by
 have C:=cmpCompare_any a b w;have hh:how=1\/how=2\/how=3\/how=4\/how=5\/how=6:=by omega
 rcases Int.lt_trichotomy a b with h | h | h
 ·rw[if_pos h]at C
  have C':=Lib.hid C;have g1:¬a=b:=by omega
  have g2:¬b<a:=by omega
  have g3:¬b<=a:=by omega
  have g4:a<=b:=by omega
  have HB:=Lib.hid (show ∀how,cmpB a how b=_ from fun how=>by unfold cmpB;rw[decide_eq_false g1,decide_eq_true (show a≠b from g1),decide_eq_true h,decide_eq_true g4,decide_eq_false g2,decide_eq_false g3]);clear C g1 g2 g3 g4 h h1 h6;rcases hh with rfl | rfl | rfl | rfl | rfl | rfl
  all_goals
   go_enter Tryz.func96,Tryz.ntmps96;go_wp2_with (go_at_call 141;refine C'.out.mono ?_;rintro e w2 ⟨rfl,rfl⟩);go_ret;exact⟨ret_bool (by rw[HB.out];rfl),rfl⟩
 ·rw[if_neg (by omega),if_neg (by omega)]at C
  have C':=Lib.hid C;have g2:¬b<a:=by omega
  have g3:b<=a:=by omega
  have g4:a<=b:=by omega
  have g5:¬a<b:=by omega
  have HB:=Lib.hid (show ∀how,cmpB a how b=_ from fun how=>by unfold cmpB;rw[decide_eq_true h,decide_eq_false (show ¬a≠b from fun hn=>hn h),decide_eq_false g5,decide_eq_true g4,decide_eq_false g2,decide_eq_true g3]);clear C g2 g3 g4 g5 h h1 h6;rcases hh with rfl | rfl | rfl | rfl | rfl | rfl
  all_goals
   go_enter Tryz.func96,Tryz.ntmps96;go_wp2_with (go_at_call 141;refine C'.out.mono ?_;rintro e w2 ⟨rfl,rfl⟩);go_ret;exact⟨ret_bool (by rw[HB.out];rfl),rfl⟩
 ·rw[if_neg (by omega),if_pos h]at C
  have C':=Lib.hid C;have g1:¬a=b:=by omega
  have g2:¬a<b:=by omega
  have g3:b<=a:=by omega
  have g4:¬a<=b:=by omega
  have HB:=Lib.hid (show ∀how,cmpB a how b=_ from fun how=>by unfold cmpB;rw[decide_eq_false g1,decide_eq_true (show a≠b from g1),decide_eq_false g2,decide_eq_false g4,decide_eq_true h,decide_eq_true g3]);clear C g1 g2 g3 g4 h h1 h6;rcases hh with rfl | rfl | rfl | rfl | rfl | rfl
  all_goals
   go_enter Tryz.func96,Tryz.ntmps96;go_wp2_with (go_at_call 141;refine C'.out.mono ?_;rintro e w2 ⟨rfl,rfl⟩);go_ret;exact⟨ret_bool (by rw[HB.out];rfl),rfl⟩
end Go.Proofs.YtihniipjfdenbaaGreatDoor
