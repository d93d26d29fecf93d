/- The walks of formula.Size, of cmp.Compare and formula.compare at int. A bound on the number of nodes. -/
import Derived.Test.YtdipkbobalnilaaGreatDoorAl
import Derived.Test.YtdipkbobalnilaaGreatDoorLexA
import Derived.Deep.DeepCutAuto
set_option maxRecDepth 100000
set_option maxHeartbeats 2000000
namespace Go.Proofs.YtdipkbobalnilaaGreatDoor
open Tryz
open Go.RowKit
def Dr(f:Fa):Bool:=(f.kind==1&& f.lo==0)&& f.hi==1
def Hm(f:Fa):Bool:=(((f.kind==2 || f.kind==3)&& decide (0<=f.lo))&& decide (f.lo<=f.hi))&& decide (f.hi<=1000000)
def Yl(d:List Fa):List (Na×Bool):=d.map λf=>(f.name,true)
def Ll:List Fa->List (Na×Bool)->Bool
 | [],_=>true
 | f::d,l=>(Dr f || Hm f)&& Oe f.name&& (l.lookup f.name).isNone&& Ll d (l++[(f.name,true)])
def gf(d:List Fa):Bool:=Ll d []&& decide (d.length<=60)
theorem WG(d:List Fa)(k:Nat)(h:k<d.length):
  Ll (d.drop k) (Yl (d.take k))=((Dr d[k] || Hm d[k])&& Oe d[k].name&& ((Yl (d.take k)).lookup d[k].name).isNone&& Ll (d.drop (k+1)) (Yl (d.take (k+1)))):=by
 grind [List.drop_eq_getElem_cons,Ll,Yl]
theorem Bz:∀(d:List Fa) (k:Na) (x:Bool),(Yl d).lookup k=some x->x=true
 | [],_,_,h=>by cases h
 | f::d,k,x,h=>by{simp only[Yl,Eb,Ab]at h;(split at h);{simpa using h.symm};{exact Bz d k x h}}
theorem GD.key:KeyLaw Value.string prog 9:=DJ Tryz.underlying9
theorem Om:∀w,(zeroValue 4).run prog w=.ok (.bool false) w:=Tryz.zeroValue4
theorem Lj(d:List Fa)(v:Ea)(w:Ca)(B:Nat)(hB:B<=w.heap.size)(hd:jf w B d v):
  Db 46 #[v] w λe w'=>e=.returned (.bool (gf d))/\Da w.heap.size w w':=by
 obtain⟨u,rfl,hd⟩:=hd;obtain⟨P,Q,rfl,d1,Z,_⟩:=Sa.shape hd;unfold maxLen at Z;have U:=la hd;have O:Hid (gf d=(Ll (d.drop 0) (Yl (d.take 0))&& decide _)):=rfl;generalize gf d=R at*
 have L:=@run_makeMap prog;clear hd;go_enter func46,ntmps46;go_wp2;clear L
 go_loopw [12] (λi wr=>∃k:Nat,k<=d.length/\i=pa k/\Hid (R=(Ll (d.drop k) (Yl (d.take k))&& decide (d.length<=60)))/\Da w.heap.size w wr/\w.heap.size+1<wr.heap.size/\
  Wb Value.string Value.bool wr (w.heap.size+1) (Yl (d.take k))/\wr.cell? (Ya w.heap.size)=some (.slice P d.length Q)) (λi _=>d.length-(intOf i).toNat)
 case atStart=>(exact⟨0,ja,rfl,O,((za _ _).alloc ja _).alloc Aa _,Aa,by have:=Wb.made (ek:=Value.string) (ev:=Value.bool) (w.alloc (.cells #[.slice P d.length Q] 24));simpa[Yl]using this,by go_simp⟩)
 case round=>
  obtain⟨k,hk,rfl,l,t,hsz,g,J⟩:=hrel;clear O;by_cases hlt:k<d.length
  ·obtain⟨b,off,rfl,Tn,f0,f1,f2,f3,M,wk,wl,wh⟩:=Sa.at (U.o.below Jk.kept (t.mono hB)) k hlt
   have S:=WG d k hlt;have c:=l.o;rw[S]at c;generalize z:d[k]=f at*
   have D:=la c;have E:=la z;clear S c z l;go_upto_region 5 with(fail)
   go_cut[6] (λs6 N=>s6=.bool (Dr f)/\N=wr.alloc (.cells #[.string f.name,pa f.kind,pa f.lo,pa f.hi] 120))
   case first=>((cases G:(f.kind==1)<;>cases H:(f.lo==0)<;>cases I:(f.hi==1));all_goals(go_wp2;go_meet;exact⟨by simp[Dr,G,H,I],rfl⟩))
   case rest=>
    obtain⟨rfl,rfl⟩:=hcut;go_upto_region 6 with(fail)
    go_cut[7] (λs7 N=>s7=.bool (Hm f)/\N=wr.alloc (.cells #[.string f.name,pa f.kind,pa f.lo,pa f.hi] 120))
    case first=>((cases G:(f.kind==2)<;>cases H:(f.kind==3)<;>cases I:decide (0<=f.lo)<;>cases X:decide (f.lo<=f.hi)<;>cases Y:decide (f.hi<=1000000));all_goals(go_wp2;go_meet;exact⟨by simp only[Hm,G,H,I,X,Y];rfl,rfl⟩))
    case rest=>
     obtain⟨rfl,rfl⟩:=hcut;have a:=g.alloc (.cells #[.string f.name,pa f.kind,pa f.lo,pa f.hi] 120);have A:=zk GD.key Tryz.underlying169 Om a f.name;have y:=t.alloc ja (.cells #[.string f.name,pa f.kind,pa f.lo,pa f.hi] 120);have C:=la y;have V:=la a;clear y a g t;cases j:(Dr f || Hm f)with
     | false=>{have h:=la (show R=false by have:=D.o;rw[j]at this;simpa using this);obtain⟨n,p⟩:=Bool.or_eq_false_iff.1 j;go_wp2;go_ret;exact⟨Cb h.o.symm,C.o⟩}
     | true=>
      cases c3:Oe f.name with
      | false=>
       have h:=la (show R=false by have:=D.o;rw[c3]at this;simpa using this);cases n:Dr f<;>cases p:Hm f<;>first|(rw[n,p]at j;cases j)|skip
       all_goals
        go_wp2_with (go_at_call 84;refine(Hs _ _ M).mono ?_;rintro e T ⟨rfl,rfl⟩);go_ret;exact⟨Cb h.o.symm,C.o⟩
      | true=>
       cases q:(Yl (d.take k)).lookup f.name with
       | some x=>
        have hx:=Bz _ _ _ q;subst hx;rw[q]at A;have h:=la (show R=false by have:=D.o;rw[q]at this;simpa using this);cases n:Dr f<;>cases p:Hm f<;>first|(rw[n,p]at j;cases j)|skip
        all_goals
         go_wp2_with (go_at_call 84;refine(Hs _ _ M).mono ?_;rintro e T ⟨rfl,rfl⟩);go_ret;exact⟨Cb h.o.symm,C.o⟩
       | none=>
        rw[q]at A;have W:=la (show R=(Ll (d.drop (k+1)) (Yl (d.take (k+1)))&& decide (d.length<=60)) by have:=D.o;rw[j,c3,q]at this;simpa using this)
        have F:Hid (ins (Yl (d.take k)) f.name true=Yl (d.take (k+1))):=by{have h1:=Il _ _ true q;show _=_;rw[h1,Ta hlt];simp only[Yl,Pb,Eb,sd,E.o]}
        cases n:Dr f<;>cases p:Hm f<;>first|(rw[n,p]at j;cases j)|skip
        all_goals
         go_wp2_with (first
          | (go_at_call 84;refine(Hs f.name _ M).mono ?_;rintro e T ⟨rfl,rfl⟩)
          | ((with_reducible show wpList _ _ _ (⟨_,Op.mapUpdate 169 _ _ _,_,_,_,_⟩::_) _ _);refine Io rfl (.tmp 72) (.tmp 74) (.const (.bool true)) rfl GD.key Tryz.underlying169 V.o f.name true rfl rfl rfl ?_;intro W3 K m))
         go_roundw
         case rel=>(refine⟨_,ja,by go_num,W,C.o.trans (m.below ja),by rw[m.size];simp;omega,by rw[<-F.o];exact K,?_⟩;rw[m.cell Aa,World.cell?_alloc_past _ _ _ ja];exact J)
         case measure=>simp[intOf];omega
  ·have h:=la (show R=decide (d.length<=60) by
    have:=l.o
    rw[Bb ja,Ll]at this
    simpa using this)
   clear l g;by_cases r:d.length<=60
   {(have s:(d.length:Int)<=60:=ja);rw[Hb r]at h;go_wp2;go_ret;exact⟨Cb h.o.symm,t⟩}
   {(have s:decide ((d.length:Int)<=60)=false:=by simp;omega);rw[Za r]at h;go_wp2;go_ret;exact⟨Cb h.o.symm,t⟩}
def xZ(f:Fa)(c:Int):Bool:=decide (f.lo<=c)&& decide (c<=f.hi)
def Cx:List Fa->List Int->Bool
 | [],[]=>true
 | f::d,c::cs=>xZ f c&& Cx d cs
 | _,_=>false
def Vh(d:List Fa)(c:List Int):Bool:=gf d&& decide (c.length=d.length)&& Cx d c
theorem qN(d:List Fa)(c:List Int)(k:Nat)(h:k<d.length)(a:k<c.length):Cx (d.drop k) (c.drop k)=(xZ d[k] c[k]&& Cx (d.drop (k+1)) (c.drop (k+1))):=by
 grind [List.drop_eq_getElem_cons,Cx]
theorem Tt(d:List Fa)(c:List Int)(v u:Ea)(w:Ca)(B:Nat)(O:B<=w.heap.size)(hd:jf w B d v)(G:IntsIn w B c u):
  Db 22 #[v,u] w λe w'=>e=.returned (.bool (Vh d c))/\Da w.heap.size w w':=by
 have s:=hd;obtain⟨u0,rfl,hd⟩:=hd;obtain⟨L,M,rfl,d1,d2,_⟩:=Sa.shape hd;obtain⟨ac,cc,rfl,c1,Z,_⟩:=Sa.shape G;unfold maxLen at d2 Z;have X:=la hd;have m:=la s;have W:=la G;have t:Hid (Vh d c=(gf d&& decide _&& Cx d c)):=rfl;generalize Vh d c=R at*
 clear hd G s;go_enter func22,ntmps22;cases S:gf d with
 | false=>{have g:=la (show R=false by rw[t.o,S];rfl);go_wp2_with (go_at_call 46;refine(Lj d _ _ B ?_ ?_).mono ?_;(simp;omega);exact jf.below ((za _ _).alloc ja _) m.o;rintro e U ⟨rfl,a⟩);go_ret;exact⟨Cb g.o.symm,((za _ _).alloc ja _).trans (a.mono Aa)⟩}
 | true=>
  by_cases hlen:c.length=d.length
  ·have I:((c.length:Int) !=d.length)=false:=by simp[hlen]
   have K:=la hlen;have g:=la (show R=Cx (d.drop 0) (c.drop 0) by rw[t.o,S,Hb hlen];rfl);clear hlen;go_wp2_with (go_at_call 46;refine(Lj d _ _ B ?_ ?_).mono ?_;(simp;omega);exact jf.below ((za _ _).alloc ja _) m.o;rintro e U ⟨rfl,a⟩;have q0:=(a.cell (p:=Ya w.heap.size) Aa).trans (show _=some (Value.slice L d.length M) by rw[World.cell?_alloc_at _ _ _ _ rfl];rfl);have q:=a.size;rw[Ia]at q);have V:=la (((za _ w).alloc (wa _) (.cells _ 24)).trans (a.mono Aa));clear a
   go_loopw [21] (λi wr=>∃k:Nat,k<=d.length/\i=pa k/\Hid (R=Cx (d.drop k) (c.drop k))/\Da w.heap.size w wr/\w.heap.size<wr.heap.size) (λi _=>d.length-(intOf i).toNat)
   case atStart=>exact⟨0,ja,rfl,g,V.o,ja⟩
   case round=>
    obtain⟨k,hk,rfl,n,z,hsz⟩:=hrel;by_cases hlt:k<d.length
    {(have j:k<c.length:=by have:=K.o;omega);obtain⟨b,off,rfl,Tn,f0,f1,f2,f3,hz,wk,wl,wh⟩:=Sa.at (X.o.below Jk.kept (z.mono O)) k hlt;obtain⟨Y,T,rfl,P,hcc⟩:=Sa.one (W.o.below (z.mono O)) k j;(have Q:Y<wr.heap.size:=ja);have h:=n.o;rw[qN d c k hlt j]at h;generalize H:d[k]=f at*;generalize J:c[k]=x at*;have A:=la h;clear h n t g H J;have r:=z.alloc ja (.cells #[.string f.name,pa f.kind,pa f.lo,pa f.hi] 120);have l:=la r;clear r;by_cases y:x<f.lo;{(have D:decide (x<f.lo)=true:=by simpa using y);have g:=la (show R=false by rw[A.o,xZ,show decide (f.lo<=x)=false by simp;omega];simp);go_wp2;go_quiet(fail);go_wp2;go_ret;exact⟨Cb g.o.symm,l.o.trans (World.Md _ _ _)⟩};{(have D:decide (x<f.lo)=false:=by simpa using y);by_cases E:f.hi<x;{(have F:decide (f.hi<x)=true:=by simpa using E);have g:=la (show R=false by rw[A.o,xZ,show decide (x<=f.hi)=false by simp;omega];simp);clear y;go_wp2;go_quiet(fail);go_wp2;go_ret;exact⟨Cb g.o.symm,l.o.trans (World.Md _ _ _)⟩};{(have F:decide (f.hi<x)=false:=by simpa using E);have g:=la (show R=Cx (d.drop (k+1)) (c.drop (k+1)) by rw[A.o,xZ,Hb (show f.lo<=x by omega),Hb (show x<=f.hi by omega)];simp);clear y E;go_wp2;go_quiet(fail);go_wp2;go_roundw;(case rel=>exact⟨_,ja,by go_num,g,l.o.trans (World.Md _ _ _),by simp;omega⟩);case measure=>simp[intOf];omega}}}
    ·have C:=la (show R=true by
      have N:=n.o
      rw[Bb ja,Bb (by have:=K.o;omega)]at N
      exact N)
     go_wp2;go_ret;exact⟨Cb C.o.symm,z⟩
  {(have I:((c.length:Int) !=d.length)=true:=by rw[bne_iff_ne];omega);have g:=la (show R=false by rw[t.o,Za hlen];simp);go_wp2_with (go_at_call 46;refine(Lj d _ _ B ?_ ?_).mono ?_;(simp;omega);exact jf.below ((za _ _).alloc ja _) m.o;rintro e U ⟨rfl,a⟩;have q0:=(a.cell (p:=Ya w.heap.size) Aa).trans (show _=some (Value.slice L d.length M) by rw[World.cell?_alloc_at _ _ _ _ rfl];rfl);have q:=a.size;rw[Ia]at q);go_ret;exact⟨Cb g.o.symm,((za _ _).alloc ja _).trans (a.mono Aa)⟩}
def idxFrom{a:Type}(p:a->Bool):List a->Int->Int
 | [],_=> -1
 | x::l,k=>if p x then k else idxFrom p l (k+1)
def ki(d:List Fa)(s:Na):Int:=idxFrom (λf=>Lh f.name s) d 0
theorem ph{a:Type}(p:a->Bool)(l:List a)(k:Nat)(h:k<l.length)(i:Int):idxFrom p (l.drop k) i=if p l[k]then i else idxFrom p (l.drop (k+1)) (i+1):=by
 rw[Gc,idxFrom]
theorem Kv(f:Fa)(s:Na)(b:Nat)(w:Ca)(c:b<w.heap.size)(d:w.cell? (Ya b)=some (.string s)):
  Db 157 #[.agg #[.string f.name,pa f.kind,pa f.lo,pa f.hi],Ma b] w λe a=>e=.returned (.bool (Lh f.name s))/\Da w.heap.size w a:=by
 go_enter func157,ntmps157;go_wp2;go_ret;exact⟨rfl,(za _ _).alloc ja _⟩
theorem XG(d:List Fa)(s:Na)(m:Nat)(v:Ea)(w:Ca)(B:Nat)(x:B<=w.heap.size)(hd:Sa Jk 4 w B d v)(q:m<w.heap.size)(hs:w.cell? (Ya m)=some (.string s)):
  Db 156 #[v,.func (.func 157) #[] #[.pointer (some ⟨m,0,none⟩)]] w λe A=>e=.returned (pa (ki d s))/\Da w.heap.size w A:=by
 obtain⟨E,F,rfl,G,u,_⟩:=Sa.shape hd;unfold maxLen at u;have t:=la hd;have p:Hid (ki d s=idxFrom (λf=>Lh _ s) (d.drop 0) (0:Nat)):=rfl;generalize ki d s=R at*
 clear hd;go_enter func156,ntmps156;go_wp2
 go_loopw [8] (λi wr=>∃k:Nat,k<=d.length/\i=pa k/\Hid (R=idxFrom (λf=>Lh f.name s) (d.drop k) k)/\Da w.heap.size w wr) (λi _=>d.length-(intOf i).toNat)
 case atStart=>exact⟨0,ja,rfl,p,za _ _⟩
 case round=>
  obtain⟨k,L,rfl,c,j⟩:=hrel;have hsz:=j.size;by_cases hlt:k<d.length
  {obtain⟨b,off,rfl,y,H,I,J,K,M,O,P,N⟩:=Sa.at (t.o.below Jk.kept (j.mono x)) k hlt;have h:=(j.cell q).trans hs;have a:=c.o;rw[ph _ d k hlt]at a;generalize z:d[k]=f at*;have C:=la (Kv f s m wr ja h);cases n:Lh f.name s with| true=>{have l:=la (show(k:Int)=R by rw[a,n];rfl);clear a c p hs h;rw[n]at C;go_wp2_with (go_at_call 157;refine C.o.mono ?_;rintro e D ⟨rfl,g⟩);go_ret;exact⟨vf l.o,j.trans (g.mono hsz)⟩}| false=>{have l:=la (show R=idxFrom (λf=>Lh f.name s) (d.drop (k+1)) ((k+1:Nat):Int) by rw[a,n];rfl);clear a c p hs h;rw[n]at C;go_wp2_with (go_at_call 157;refine C.o.mono ?_;rintro e D ⟨rfl,g⟩);go_roundw;(case rel=>exact⟨_,ja,by go_num,l,j.trans (g.mono hsz)⟩);case measure=>simp[intOf];omega}}
  ·have l:=la (show(-1:Int)=R by
    have r:=c.o
    rw[Bb ja]at r
    exact r.symm)
   go_wp2;go_ret;exact⟨vf l.o,j⟩
theorem JB(d:List Fa)(s:Na)(v:Ea)(w:Ca)(B:Nat)(j:B<=w.heap.size)(hd:jf w B d v):
  Db 125 #[v,.string s] w λe c=>e=.returned (pa (ki d s))/\Da w.heap.size w c:=by
 obtain⟨u,rfl,hd⟩:=hd;obtain⟨f,g,rfl,h,i,_⟩:=Sa.shape hd;have b:=la hd;go_enter func125,ntmps125;go_wp2_with (go_at_call 156;refine(XG d s _ _ _ B ?_ ?_ ?_ ?_).mono ?_;(simp;omega);exact b.o.below Jk.kept (((za _ _).alloc ja _).alloc (by simp;omega) _);(simp);(go_simp);rintro e k ⟨rfl,a⟩);go_ret;exact⟨rfl,(((za _ _).alloc ja _).alloc Aa _).trans (a.mono (by simp;omega))⟩
mutual
def Fo.depth:Fo->Nat
 | .mk _ _ _ _ a=>Fo.oi a+1
def Fo.oi:List Fo->Nat
 | []=>0
 | k::ks=>max k.depth (Fo.oi ks)
end
theorem Fo.Al(l:List Fo)(k:Nat)(h:k<l.length):Fo.Cd (l.take (k+1))=Fo.Cd (l.take k)+l[k].size:=by
 have aux:∀(a b:List Fo),Fo.Cd (a++b)=Fo.Cd a+Fo.Cd b:=by{intro a b;induction a with| nil=>simp[Fo.Cd]| cons x a c=>grind [Fo.Cd]}
 grind [List.take_succ_eq_append_getElem,Fo.Cd]
theorem Fo.YG(l:List Fo)(k:Nat)(h:k<l.length):Fo.oi (l.take (k+1))=max (Fo.oi (l.take k)) l[k].depth:=by
 have aux:∀(a b:List Fo),Fo.oi (a++b)=max (Fo.oi a) (Fo.oi b):=by{intro a b;induction a with| nil=>simp[Fo.oi]| cons x a c=>grind [Fo.oi]}
 grind [List.take_succ_eq_append_getElem,Fo.oi]
mutual
theorem Fo.ZG:∀(f:Fo),f.depth<=f.size
 | .mk _ _ _ _ a=>by have:=Fo.KC a;simp only[Fo.depth,Fo.size];omega
theorem Fo.KC:∀(a:List Fo),Fo.oi a<=Fo.Cd a
 | []=>by simp[Fo.oi]
 | k::a=>by have:=Fo.ZG k;have:=Fo.KC a;simp only[Fo.oi,Fo.Cd];omega
end
theorem Fo.Bl(l:List Fo)(k:Nat):Fo.Cd (l.take k)<=Fo.Cd l:=by
 induction l generalizing k with| nil=>grind| cons x l a=>{cases k with| zero=>simp[Fo.Cd]| succ k=>grind [Fo.Cd]}
theorem pP(N:Nat):∀(f:Fo) (v:Ea) (w:Ca) (B:Nat),f.size<=N->f.size<=1000000->B<=w.heap.size->f.In w B v->
  Db 153 #[v] w λe H=>e=.returned (.tuple #[pa f.size,pa f.depth])/\Da w.heap.size w H:=by
 induction N with
 | zero=>intro f _ _ _ h;have:=f.size_pos;omega
 | succ N U=>
 intro f v w B hN hM hB hf;have O:=la U;clear U;obtain⟨y,u,c,n,d⟩:=f;obtain⟨ao,cap,rfl,h1,h2,h3,h4,h5,h6,R⟩:=hf;unfold maxLen at h6;have L:=la R;have M:=la (show(Fo.mk y u c n d).size=Fo.Cd d+1 by rw[Fo.size]);have Y:=la (show(Fo.mk y u c n d).depth=Fo.oi d+1 by rw[Fo.depth]);rw[M.o]at hN hM;generalize(Fo.mk y u c n d).size=S at*
 generalize(Fo.mk y u c n d).depth=D at*
 clear R h1 h2 h3 h4;go_enter func153,ntmps153;go_wp2
 go_loopw [4,5,13] (λn Z i wr=>∃k a b:Nat,k<=d.length/\i=pa k/\n=pa a/\Z=pa b/\Hid (a=Fo.Cd (d.take k)+1)/\Hid (b=Fo.oi (d.take k))/\a<=1000000/\b<=1000000/\
  Da w.heap.size w wr/\w.heap.size<wr.heap.size) (λ_ _ i _=>d.length-(intOf i).toNat)
 case atStart=>exact⟨0,1,0,ja,rfl,rfl,rfl,by simp[Fo.Cd,Hid],by simp[Fo.oi,Hid],ja,ja,(za _ _).alloc ja _,Aa⟩
 case round=>
  obtain⟨k,a,b,hk,rfl,rfl,rfl,s,t,hal,C,l,hsz⟩:=hrel;by_cases hlt:k<d.length
  {obtain⟨bb,off,rfl,A,T⟩:=L.o (by intro h;simp[h]at hlt);obtain⟨ka,kc,g0,g1,g2,g3,g4,gk⟩:=Fo.Vk.get d off k hlt (Fo.Vk.below (l.mono hB) A d off T);have q:=Fo.Al d k hlt;have p:=Fo.YG d k hlt;have F:=Fo.Bl d (k+1);have G:=Fo.Eh d k hlt;have E:=Fo.ZG d[k];generalize hx:d[k]=x at*;have z:=la (show a+x.size=Fo.Cd (d.take (k+1))+1 by rw[q,s.o];omega);(have I:a+x.size<=1000000:=by rw[z.o];omega);have J:=la (show max b x.depth=Fo.oi (d.take (k+1)) by rw[p,t.o]);(have V:x.depth<=1000000:=ja);have K:=la gk;(have r:x.size<=N:=ja);(have j:x.size<=1000000:=ja);clear gk T L q p hx F G E s t;have m:=la (l.alloc ja (.cells #[pa x.op,.string x.name,pa x.cmp,pa x.n,.slice ka x.kids.length kc] 32));by_cases hcm:b<x.depth;{(have fK:b<(x.depth:Int):=ja);go_wp2_with (go_at_call 153;refine(O.o _ _ _ B r j ?_ ?_).mono ?_;(simp;omega);exact Fo.In.below ((za _ _).alloc ja _) _ _ K.o;rintro e H ⟨rfl,g⟩);go_roundw;(case rel=>exact⟨_,_,_,ja,by go_num,by go_num,(by first|rfl|(rw[Int.max_eq_right ja])|(rw[Int.max_eq_left ja])),z,by show _=_;rw[<-J.o];omega,I,V,m.o.trans (g.mono (by simp;omega)),by have:=g.size;simp at this;omega⟩);case measure=>simp[intOf];omega};{go_wp2_with (go_at_call 153;refine(O.o _ _ _ B r j ?_ ?_).mono ?_;(simp;omega);exact Fo.In.below ((za _ _).alloc ja _) _ _ K.o;rintro e H ⟨rfl,g⟩);go_roundw;(case rel=>exact⟨_,_,b,ja,by go_num,by go_num,(by first|rfl|(rw[Int.max_eq_right ja])|(rw[Int.max_eq_left ja])),z,by show _=_;rw[<-J.o];omega,I,C,m.o.trans (g.mono (by simp;omega)),by have:=g.size;simp at this;omega⟩);case measure=>simp[intOf];omega}}
  ·have P:(a:Int)=S:=by
    have:=s.o;rw[Kc ja]at this;have:=M.o;omega
   have Q:(b:Int)+1=D:=by{have:=t.o;rw[Kc ja]at this;have:=Y.o;omega}
   have W:=la P;have X:=la Q;clear P Q s t;go_wp2;go_ret2;exact⟨rR W.o X.o,l⟩
def Ol(a how b:Int):Bool:=
 (how==1&& decide (a=b)) || (how==2&& decide (a≠b)) || (how==3&& decide (a<b)) || (how==4&& decide (a<=b)) || (how==5&& decide (b<a)) || (how==6&& decide (b<=a))
theorem kq(a b:Int)(w:Ca):
  Db 118 #[pa a,pa b] w λe d=>e=.returned (pa (if a<b then-1 else if b<a then 1 else 0))/\w=d:=by
 rcases Int.lt_trichotomy a b with h|h|h
 {(have c:¬b<a:=ja);go_enter func118,ntmps118;go_wp2;go_ret;exact⟨Aa,rfl⟩}
 {subst h;go_enter func118,ntmps118;go_wp2;go_ret;exact⟨Aa,rfl⟩}
 {(have c:¬a<b:=ja);go_enter func118,ntmps118;go_wp2;go_ret;exact⟨Aa,rfl⟩}
theorem aH(a how b:Int)(w:Ca)(m:1<=how)(n:how<=6):
  Db 124 #[pa a,pa how,pa b] w λe q=>e=.returned (.bool (Ol a how b))/\w=q:=by
 have C:=kq a b w;have k:how=1\/how=2\/how=3\/how=4\/how=5\/how=6:=by omega
 rcases Int.lt_trichotomy a b with h|h|h
 ·rw[Ga h]at C
  have g:=la C;have j:¬a=b:=by omega
  have c:¬b<a:=by omega
  have d:¬b<=a:=by omega
  have f:a<=b:=by omega
  have i:=la (show ∀how,Ol a how b=_ from λhow=>by unfold Ol;rw[Za j,Hb ja,Hb h,Hb f,Za c,Za d]);rcases k with rfl|rfl|rfl|rfl|rfl|rfl
  all_goals
   go_enter func124,ntmps124;go_wp2_with (go_at_call 118;refine g.o.mono ?_;rintro e p ⟨rfl,rfl⟩);go_ret;exact⟨Cb (by rw[i.o];rfl),rfl⟩
 ·rw[if_neg ja,if_neg ja]at C
  have g:=la C;have c:¬b<a:=by omega
  have d:b<=a:=by omega
  have f:a<=b:=by omega
  have l:¬a<b:=by omega
  have i:=la (show ∀how,Ol a how b=_ from λhow=>by unfold Ol;rw[Hb h,Za ja,Za l,Hb f,Za c,Hb d]);clear C c d f l h m n;rcases k with rfl|rfl|rfl|rfl|rfl|rfl
  all_goals
   go_enter func124,ntmps124;go_wp2_with (go_at_call 118;refine g.o.mono ?_;rintro e p ⟨rfl,rfl⟩);go_ret;exact⟨Cb (by rw[i.o];rfl),rfl⟩
 ·rw[if_neg ja,Ga h]at C
  have g:=la C;have j:¬a=b:=by omega
  have c:¬a<b:=by omega
  have d:b<=a:=by omega
  have f:¬a<=b:=by omega
  have i:=la (show ∀how,Ol a how b=_ from λhow=>by unfold Ol;rw[Za j,Hb ja,Za c,Za f,Hb h,Hb d]);clear C j c d f h m n;rcases k with rfl|rfl|rfl|rfl|rfl|rfl
  all_goals
   go_enter func124,ntmps124;go_wp2_with (go_at_call 118;refine g.o.mono ?_;rintro e p ⟨rfl,rfl⟩);go_ret;exact⟨Cb (by rw[i.o];rfl),rfl⟩
end Go.Proofs.YtdipkbobalnilaaGreatDoor
