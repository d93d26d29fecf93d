/- The walks of law16's less and example. No conditions. -/
import Derived.Test.YtdipkbobalnilaaGreatDoorAl
import Derived.Test.YtdipkbobalnilaaGreatDoorJdZ
set_option maxRecDepth 100000
set_option maxHeartbeats 8000000
namespace Go.Proofs.YtdipkbobalnilaaGreatDoor
open Tryz
variable{j:Nat}{T:List Dn}{Z:Int}{E:TypeId}{Q:List Nat}{A:Option Addr}{g:Nat->Int}{K:Act}{M:Oper}
def VR:Na:=⟨#[105,110,99,111,109,101]⟩
def WR:Na:=⟨#[109,101,109,98,101,114]⟩
def dJ:List Fa:=[⟨VR,2,0,9⟩,⟨WR,1,0,1⟩]
def Rk(n:Int):Fo:=.mk 3 VR 3 n []
def isF:Fo:=.mk 3 WR 1 1 []
def oF:St:=⟨0,⟨#[]⟩,0,none,0,0⟩
def my:Na:=⟨#[112,49]⟩
def sK:Na:=⟨#[112,50]⟩
def p3B:Na:=⟨#[112,51]⟩
def Cj:Na:=⟨#[116,97,120]⟩
def ZX:Na:=⟨#[112,101,114,109,105,116]⟩
def Kh:List Pv:=[⟨my,2,2,Cj,5,Rk 5,[],oF,oF,oF⟩,⟨sK,2,2,Cj,3,Rk 2,[],oF,oF,oF⟩,⟨p3B,2,2,ZX,1,isF,[my],oF,oF,oF⟩]
def jr:List Int:=[0,0,0]
def DE:List (Int×Int):=(List.range 20).map λi=>(((i / 2:Nat):Int),((i % 2:Nat):Int))
theorem QL(h:Gi dJ g):(g 0,g 1)∈DE:=by
 have a:0<=g 0/\g 0<=9:=h 0 Ba;have b:0<=g 1/\g 1<=1:=h 1 Ba;refine List.mem_map.2 ⟨2*(g 0).toNat+(g 1).toNat,List.mem_range.2 ja,?_⟩
 grind
def Z3(t:List Dn)(x:Int×Int):Bool:=ym t 3 0 λi=>if i=0 then x.1 else x.2
def MV(t:List Dn):Bool:=Fh dJ t&& t.all λn=>decide (n.fact.toNat<2)
theorem SC{t:List Dn}(h:∀n∈t,n.fact.toNat<2){c c':Nat->Int}(b:c 0=c' 0)(d:c 1=c' 1):∀f k,ym t f k c=ym t f k c'
 | 0,_=>rfl
 | f+1,k=>by
  rw[ym,ym]
  split
  {rfl}
  ·next a=>
   have g:(t.getD k Ka).fact.toNat<2:=by{rw[zc]at a⊢;cases e:t[k]? with| none=>rw[e]at a;exact absurd rfl a| some n=>exact h n (vh e)}
   have:c (t.getD k Ka).fact.toNat=c' (t.getD k Ka).fact.toNat:=by
    rcases(show(t.getD k Ka).fact.toNat=0\/(t.getD k Ka).fact.toNat=1 by omega)with e|e<;>rw[e]<;>assumption
   rw[this];exact SC h b d f _
theorem aY(h:MV T=true)(c:Nat->Int):Uc dJ T 0 c=Z3 T (c 0,c 1):=by
 unfold MV at h;rw[Ib,ee]at h;exact SC (c':=λi=>if i=0 then c 0 else c 1) (λn a=>Uf (h.2 n a)) rfl rfl 3 0
theorem Pq(h:MV T=true):Qc dJ T:=by
 grind [MV,Gh]
theorem Mo{b t:List Dn}(h:(MV T&& (MV b&& (MV t&& (decide (T.length*b.length<=19998)&& DE.all λx=>Z3 t x==(Z3 T x&& Z3 b x)))))=true):Ae dJ T b=(t,0):=by
 simp only[Ib,decide_eq_true_eq,ee,Pc]at h;obtain⟨d,f,i,g,k⟩:=h;have q:=xM (aQ (Pq d) (Pq f) g);have a:(Ae dJ T b).2=0:=by rw[q]
 obtain⟨_,_,v,r⟩:=Ai a;have e:=Xy v (Pq i) λc j=>by grind [aY,QL]
 grind
theorem tq:gf dJ=true:=by kernel_rfl
theorem XR{f:Fo}(a:se f dJ (λ_=>false)=0)(hs:f.size<=3):uv dJ f:=by
 apply built (eh tq) (jk a)
 have b:=kJ (d:=dJ) 0 f;have c:=kJ (d:=dJ) 1 f
 show 1*(vm dJ 0 f).length*(vm dJ 1 f).length<=19998
 have:(vm dJ 0 f).length*(vm dJ 1 f).length<=7*7:=Nat.mul_le_mul ja ja
 grind
theorem Oz{f:Fo}(g:Int×Int->Bool)(a:se f dJ (λ_=>false)=0)(hs:f.size<=3)(i:(dl f []).length<=24)(j:∀c,Fe dJ c f=g (c 0,c 1))(h:(MV T&& DE.all λx=>Z3 T x==g x)=true):Nc dJ f=(T,0):=by
 simp only[Ib,ee,Pc]at h;obtain⟨d,k⟩:=h;have b:=XR a hs;rw[Ut tq a b];unfold ZD;rw[if_neg (by rw[tq,a];simp),if_neg ja];congr 1
 refine Xy (Sw tq (jk a) b) (Pq d) λc e=>?_
 grind [fG,tq,jk,aY,QL]
def YR:Dn:=⟨0,[],[],true⟩
def jU:Dn:=⟨0,[],[],false⟩
def lT(n:Int):List Dn:=[⟨0,[n],[1,2],false⟩,YR,jU]
def mT:List Dn:=[⟨1,[1],[1,2],false⟩,jU,YR]
def dT:List Dn:=[⟨0,[5],[1,3],false⟩,⟨1,[1],[2,3],false⟩,YR,jU]
def F8:List Dn:=[⟨0,[2],[1,3],false⟩,⟨1,[1],[2,3],false⟩,YR,jU]
def G8:List Dn:=[⟨0,[2,5],[1,2,1],false⟩,jU,⟨1,[1],[3,1],false⟩,YR]
def H8:List Dn:=[⟨0,[2],[1,2],false⟩,⟨1,[1],[2,3],false⟩,jU,YR]
def I8:List Dn:=[⟨0,[2,5],[1,2,3],false⟩,jU,⟨1,[1],[1,3],false⟩,YR]
def e5T:List Dn:=[⟨0,[2,5],[1,2,1],false⟩,jU,YR]
theorem TZ:ki dJ VR=0:=by kernel_rfl
theorem NV:ki dJ WR=1:=by kernel_rfl
theorem cY(n:Int)(h:(MV (lT n)&& DE.all λx=>Z3 (lT n) x==decide (x.1<n))=true)(a:se (Rk n) dJ (λ_=>false)=0):Nc dJ (Rk n)=(lT n,0):=
 Oz (λx=>decide _) a (by simp[Rk,Fo.size,Fo.Cd]) (by simp[Rk,dl,ZQ,ins]) (λc=>by simp[Rk,Fe,TZ,Ol]) h
theorem b5:Nc dJ (Rk 5)=(lT 5,0):=cY 5 Ha Ha
theorem b2:Nc dJ (Rk 2)=(lT 2,0):=cY 2 Ha Ha
theorem bM:Nc dJ isF=(mT,0):=Oz (λx=>decide (x.2=1)) Ha Ba Ba (λc=>by simp[isF,Fe,NV,Ol]) Ha
theorem bY:Nc dJ Ri=([YR],0):=Oz (λ_=>true) Ha Ba Ba (λc=>by simp[Ri,Fe]) Ha
theorem x1:Ae dJ (lT 5) (Hd mT)=(dT,0):=Mo Ha
theorem x2:Ae dJ [YR] dT=(dT,0):=Mo Ha
theorem x3:Ae dJ [YR] (Hd dT)=(Hd dT,0):=Mo Ha
theorem x4:Ae dJ dT (lT 2)=(F8,0):=Mo Ha
theorem x5:Ae dJ dT (Hd (lT 2))=(G8,0):=Mo Ha
theorem x6:Ae dJ (Hd dT) (lT 2)=(H8,0):=Mo Ha
theorem x7:Ae dJ (Hd dT) (Hd (lT 2))=(I8,0):=Mo Ha
theorem x8:Ae dJ (lT 2) (Hd (lT 5))=([jU],0):=Mo Ha
theorem x9:Ae dJ (lT 5) (Hd (lT 2))=(e5T,0):=Mo Ha
def QX:Jo:=⟨1,3,[sK],[my]⟩
def RX:Jo:=⟨1,5,[my],[]⟩
def SX:Jo:=⟨1,3,[sK],[]⟩
theorem tK:Ef dJ Kh jr.length=true:=by kernel_rfl
theorem Q8:(kr dJ Kh Cj).1=[(F8,[0,1]),(G8,[0]),(H8,[1]),(I8,[])]/\(kr dJ Kh Cj).2.2=0:=by
 have r:Og Kh Cj Kh.length=[0,1]:=by kernel_rfl
 have l:th Kh 0=[2]:=by kernel_rfl
 have m:th Kh 1=[]:=by kernel_rfl
 have n:th Kh 2=[]:=by kernel_rfl
 have i:pd Kh 0=Rk 5:=rfl;have j:pd Kh 1=Rk 2:=rfl;have k:pd Kh 2=isF:=rfl;have c:(Ld dJ dT).isSome=true:=by kernel_rfl
 have d:(Ld dJ (Hd dT)).isSome=true:=by kernel_rfl
 have e:(Ld dJ F8).isSome=true:=by kernel_rfl
 have f:(Ld dJ G8).isSome=true:=by kernel_rfl
 have g:(Ld dJ H8).isSome=true:=by kernel_rfl
 have h:(Ld dJ I8).isSome=true:=by kernel_rfl
 have a:Yf dJ (pd Kh) (th Kh) 4 0 ([],0)=(dT,([(2,mT),(0,dT)],0)):=by
  grind [Yf,Pz,b5,bM,uh,x1,ins]
 have b:Yf dJ (pd Kh) (th Kh) 4 1 ([(2,mT),(0,dT)],0)=(lT 2,([(2,mT),(0,dT),(1,lT 2)],0)):=by
  grind [Yf,Pz,b2,ins]
 unfold kr;rw[r,bY,show Kh.length+1=4 from rfl];simp[Of,a,b,Gn,uh,Qz,x2,x3,x4,x5,x6,x7,c,d,e,f,g,h]
theorem R8:Hn dJ (pd Kh) (Jj Kh) (Dj jr) 1 0=(2,0)/\Hn dJ (pd Kh) (Jj Kh) (Dj jr) 0 1=(0,0):=by
 have a:pd Kh 0=Rk 5:=rfl;have b:pd Kh 1=Rk 2:=rfl;have c:(Ld dJ [jU]).isSome=false:=by kernel_rfl
 have d:(Ld dJ e5T).isSome=true:=by kernel_rfl
 grind [Jj,Kh,Ih,Ov,b5,b2,x8,x9,Hn,bm]
theorem Qv{ids:List Na}(a:RL Kh ids=true)(b:(Dk dJ Kh jr ids)=(Q,0)):Je dJ Kh jr ids=(Q.map (qj Kh),0):=by
 grind [Je,tK]
theorem EE:Dk dJ Kh jr []=([],0)/\Dk dJ Kh jr [my,sK]=([1],0)/\Dk dJ Kh jr [my]=([0],0)/\Dk dJ Kh jr [sK]=([1],0):=by
 obtain⟨b,a⟩:=R8;have e:List.range Kh.length=[0,1,2]:=rfl
 have c:∀i,Oo Kh [] i=false:=λi=>by{unfold Oo;(split);{rfl};{rfl}}
 have d:Oo Kh [my,sK] 0=true/\Oo Kh [my,sK] 1=true/\Oo Kh [my,sK] 2=false:=by refine⟨?_,?_,?_⟩<;>kernel_rfl
 have f:Oo Kh [my] 0=true/\Oo Kh [my] 1=false/\Oo Kh [my] 2=false:=by refine⟨?_,?_,?_⟩<;>kernel_rfl
 have t3:Oo Kh [sK] 0=false/\Oo Kh [sK] 1=true/\Oo Kh [sK] 2=false:=by refine⟨?_,?_,?_⟩<;>kernel_rfl
 grind [Dk,Sk,ji]
theorem dY:Rh dJ Kh jr [my,sK]=(QX,0)/\Rh dJ Kh jr [my]=(RX,0)/\Rh dJ Kh jr [sK]=(SX,0)/\Rh dJ Kh jr []=(Qi,0):=by
 obtain⟨e,f,g,h⟩:=EE;have a:=Qv Ha e;have b:=Qv Ha f;have c:=Qv Ha g;have d:=Qv Ha h;refine⟨?_,?_,?_,OV (by rw[a])⟩
 {unfold Rh;rw[b];kernel_rfl}
 {unfold Rh;rw[c];kernel_rfl}
 {unfold Rh;rw[d];kernel_rfl}
theorem E8:(bj dJ Kh jr Cj).2=0/\(bj dJ Kh jr Cj).1=[(F8,QX),(G8,RX),(H8,SX),(I8,Qi)]:=by
 obtain⟨f,_,_,_⟩:=EE;obtain⟨a,b,c,d⟩:=dY;have e:=Qv Ha f;have o:zp dJ Kh jr [0,1]=(QX,0):=a;have p:zp dJ Kh jr [0]=(RX,0):=b;have q:zp dJ Kh jr [1]=(SX,0):=c;have r:zp dJ Kh jr []=(Qi,0):=d;have i:(Ej QX==Ej RX)=false:=by kernel_rfl
 have j:(Ej QX==Ej SX)=false:=by kernel_rfl
 have k:(Ej QX==Ej Qi)=false:=by kernel_rfl
 have l:(Ej RX==Ej SX)=false:=by kernel_rfl
 have m:(Ej RX==Ej Qi)=false:=by kernel_rfl
 have n:(Ej SX==Ej Qi)=false:=by kernel_rfl
 obtain⟨g,h⟩:=Q8;unfold bj;rw[Ga (by rw[e]),Ga Ha,Ga h,g]
 grind [ri,mr]
theorem OZ:Df dJ Kh jr Cj [1,0]=(QX,0)/\Df dJ Kh jr Cj [3,0]=(RX,0)/\Df dJ Kh jr Cj [3,1]=(Qi,0)/\Df dJ Kh jr Cj [1,1]=(SX,0)/\Df dJ Kh jr Cj [10,0]=(Qi,1):=by
 obtain⟨f,_,_,_⟩:=EE;obtain⟨a,b,c,d⟩:=dY;have e:(Je dJ Kh jr []).2=0:=by rw[Qv Ha f]
 unfold Df;simp only[Ga e];refine⟨?_,?_,?_,?_,?_⟩
 {rw[Ga Ha,show bB Kh Cj _=[my,sK]from by kernel_rfl,a]}
 {rw[Ga Ha,show bB Kh Cj _=[my]from by kernel_rfl,b]}
 {rw[Ga Ha,show bB Kh Cj _=[]from by kernel_rfl,d]}
 {rw[Ga Ha,show bB Kh Cj _=[sK]from by kernel_rfl,c]}
 {rw[show Pm dJ Kh _=1 from by kernel_rfl];rfl}
theorem wV:Kh.foldl oq []=[Cj,ZX]:=by kernel_rfl
theorem vV:zE dJ Kh:=by
 refine⟨by rw[bY],λi=>if i=0 then 1 else 0,λi k a b=>?_,λi _=>by grind⟩;have c:th Kh 0=[2]:=by kernel_rfl
 have d:th Kh 1=[]:=by kernel_rfl
 have e:th Kh 2=[]:=by kernel_rfl
 match i,a with| 0,_=>grind| 1,_=>grind| 2,_=>grind
open Go.RowKit
theorem qH(n:Int)(w:Ca):Db 52 #[pa n] w λe d=>e=.returned (.agg #[pa 3,.string VR,pa 3,pa n,Ua])/\Da w.heap.size w d:=by
 have b:Da _ w (w.alloc (.cells #[pa 3,.string (⟨#[105,110,99,111,109,101]⟩),pa 3,pa n,Ua] 32)):=(za _ _).alloc (wa _) _;have K:=qb.new w 32 #[pa 3,.string (⟨#[105,110,99,111,109,101]⟩),pa 3,pa n,Ua];unfold VR;go_enter func52,ntmps52;go_wp2
 have a:(loadCellsFrom _ 0 5 #[]).run _ _=.ok _ _:=
  run_loadCells_list (P:=prog) _ _ _ (λj v c=>by rw[Addr.add_mid,Vb,K.cell];simpa using c)
 refine Fb (v:=.agg #[pa 3,.string (⟨#[105,110,99,111,109,101]⟩:Na),pa 3,pa n,Ua]) (by simp only[results,results52,go_sem];simp[a];try rfl) rfl ?_;exact⟨rfl,b⟩
def Ls(b:Nat):List Ea:=Cl (Kh.getD 0 ⟨my,2,2,Cj,5,Rk 5,[],oF,oF,oF⟩) none 0 none 0++(Cl (Kh.getD 1 ⟨my,2,2,Cj,5,Rk 5,[],oF,oF,oF⟩) none 0 none 0++Cl (Kh.getD 2 ⟨my,2,2,Cj,5,Rk 5,[],oF,oF,oF⟩) none 0 (Nb b) 1)
theorem uK{W:Ca}{B b i:Nat}{p:Pv}{c:Nat}{r:List Ea}(h:qb W j 38 (Ls b).toArray)(hd:(Ls b).drop (i*23)=Cl p none 0 A c++r)(f:p.cond.In W B (.agg #[pa p.cond.op,.string p.cond.name,pa p.cond.cmp,pa p.cond.n,.slice none p.cond.kids.length 0]))(g:Sc W B p.except (.slice A p.except.length c))(k:p.id.size<=maxLen)(l:p.name.size<=maxLen):jm W B p j (0+i*23):=by
 refine⟨none,0,A,c,λa v d=>?_,f,g,k,l⟩;have m:=(List.getElem?_eq_some_iff.1 d).1
 have e:(Ls b)[0+i*23+a]? =some v:=by{rw[Vb, <-List.getElem?_drop,hd,te m];exact d}
 rw[h.cell]
 simpa using e
theorem Rz(w:Ca)(B:Nat){a:Na}{n:Int}(b:Wh Z)(c:Wh n)(d:a.size<=maxLen):(Fo.mk 3 a Z n []).In w B (.agg #[pa 3,.string a,pa Z,pa n,Ua]):=
 ⟨none,0,rfl,⟨Ba,Ba⟩,b,c,d,wa _,ja,λh=>absurd rfl h⟩
theorem PV{W:Ca}{b B:Nat}(h:qb W j 38 (Ls b).toArray)(f:qb W b 9 #[.string my])(hlt:j<B)(c:b<B):Sa jm 23 W B Kh (.slice (Nb j) 3 3):=by
 have e:Sc W B [] Ua:=⟨none,0,rfl,wa _,Lb _,λh=>absurd rfl h⟩
 have g:Sc W B [my] (.slice _ 1 1):=⟨_,1,rfl,wa _,Ba,λ_=>⟨b,0,rfl,c,λi d=>by
  obtain rfl:i=0:=by grind
  exact f.cell 0⟩⟩
 have a:∀n,0<=n->n<=150->Wh n:=λn k l=>⟨ja,ja⟩
 refine⟨_,3,rfl,Ba,Ba,λ_=>⟨j,0,rfl,hlt,λi d=>?_⟩⟩
 match i,d with| 0,_=>exact uK h rfl (Rz _ _ (a _ Ba Ba) (a _ Ba Ba) Ba) e (by show 2<=maxLen;decide) (by show 3<=maxLen;decide)| 1,_=>exact uK h rfl (Rz _ _ (a _ Ba Ba) (a _ Ba Ba) Ba) e (by show 2<=maxLen;decide) (by show 3<=maxLen;decide)| 2,_=>exact uK h rfl (Rz _ _ (a _ Ba Ba) (a _ Ba Ba) Ba) g (by show 2<=maxLen;decide) (by show 6<=maxLen;decide)
theorem DN(b:Nat)(w:Ca):(Instr.buildSlice 25 3 #[(0,.agg ((Ls b).take 23).toArray),(1,.agg (((Ls b).drop 23).take 23).toArray),(2,.agg ((Ls b).drop 46).toArray)]).run prog w=.ok (.slice (Nb w.heap.size) 3 3) (w.alloc (.cells (Ls b).toArray 38)):=by kernel_rfl
theorem Rv{ops:Array Oper}{w:Ca}{a:Act->Ca->Prop}{Q:Exit->Act->Ca->Prop}{E:Prop}{k:Ca}{d:Array Ea}(_:Hid (qb k j 9 d))(b:M.guard=none)(c x1 x2:Operand)(i:M.op=.buildSlice 25 3 #[(0,c),(1,x1),(2,x2)])
  (e:K.eval c=.agg ((Ls j).take 23).toArray) (f:K.eval x1=.agg (((Ls j).drop 23).take 23).toArray) (g:K.eval x2=.agg ((Ls j).drop 46).toArray) (h:a (K.put M.dst (.slice (Nb w.heap.size) 3 3)) (w.alloc (.cells (Ls j).toArray 38))):
  if Region.wanted M (yielded ops K.tmps)=true then Oper.wp prog M K w a Q else E:=by
 rw[Ga (by simp[Region.wanted,b])];unfold Oper.wp execOp;simp only[i,Le,Eb,sd,e,f,g,Sem.run_bind,DN,Result.andThen_ok,Sem.run_pure];exact h
theorem eY:∀x∈dJ,x.name.size<=maxLen/\Wh x.kind/\Wh x.lo/\Wh x.hi:=by
 intro x a;unfold Wh;rcases List.mem_cons.1 a with rfl|a
 {exact⟨Ba,Ba,Ba,Ba⟩}
 {rw[List.mem_singleton.1 a];exact⟨Ba,Ba,Ba,Ba⟩}
theorem FE{w:Ca}{b:Nat}{c:TypeId}{d a:Array Ea}(h:qb w j E d)(f:qb w b c a)(g:E≠c):j≠b:=by
 rintro rfl;have e:=Qe ((show w.heap[j]? =_ from h).symm.trans f)
 grind
theorem aeb{w W c:Ca}{Y b:Nat}(m:Da w.heap.size w W)(_:w.heap.size+3<W.heap.size)(l:Da W.heap.size W c)(f:qb c w.heap.size 28 #[Ua,Ua,Ua])(p:qb W (w.heap.size+1) 120 #[.string (⟨#[105,110,99,111,109,101]⟩:Na),pa 2,pa 0,pa 9,.string (⟨#[109,101,109,98,101,114]⟩:Na),pa 1,pa 0,pa 1])(h:qb c j 38 (Ls b).toArray)(i:qb c b 9 #[.string my])(g:qb c Y 3 #[pa 0,pa 0,pa 0])(q:(c.cell? (Ya (w.heap.size+2))=some (.slice (Nb (w.heap.size+1)) 2 2)/\c.cell? (Ya (w.heap.size+3))=some (pa 3)/\c.cell? (Ja (w.heap.size+3) 1)=some (.string (⟨#[109,101,109,98,101,114]⟩:Na))/\c.cell? (Ja (w.heap.size+3) 2)=some (pa 1)/\c.cell? (Ja (w.heap.size+3) 3)=some (pa 1)/\c.cell? (Ja (w.heap.size+3) 4)=some Ua)):
  (λc=>(c.cell? (Ya (w.heap.size+2))=some (.slice (Nb (w.heap.size+1)) 2 2)/\c.cell? (Ya (w.heap.size+3))=some (pa 3)/\c.cell? (Ja (w.heap.size+3) 1)=some (.string (⟨#[109,101,109,98,101,114]⟩:Na))/\c.cell? (Ja (w.heap.size+3) 2)=some (pa 1)/\c.cell? (Ja (w.heap.size+3) 3)=some (pa 1)/\c.cell? (Ja (w.heap.size+3) 4)=some Ua)) (((c.setCell (Ya w.heap.size) (.slice (Nb (w.heap.size+1)) 2 2)).setCell (Ja w.heap.size 1) (.slice (Nb j) 3 3)).setCell (Ja w.heap.size 2) (.slice (Nb Y) 3 3))/\Hid (qb (((c.setCell (Ya w.heap.size) (.slice (Nb (w.heap.size+1)) 2 2)).setCell (Ja w.heap.size 1) (.slice (Nb j) 3 3)).setCell (Ja w.heap.size 2) (.slice (Nb Y) 3 3)) w.heap.size 28 #[.slice (Nb (w.heap.size+1)) 2 2,.slice (Nb j) 3 3,.slice (Nb Y) 3 3])/\Hid (Da w.heap.size w (((c.setCell (Ya w.heap.size) (.slice (Nb (w.heap.size+1)) 2 2)).setCell (Ja w.heap.size 1) (.slice (Nb j) 3 3)).setCell (Ja w.heap.size 2) (.slice (Nb Y) 3 3)))/\Hid (qb (((c.setCell (Ya w.heap.size) (.slice (Nb (w.heap.size+1)) 2 2)).setCell (Ja w.heap.size 1) (.slice (Nb j) 3 3)).setCell (Ja w.heap.size 2) (.slice (Nb Y) 3 3)) (w.heap.size+1) 120 #[.string (⟨#[105,110,99,111,109,101]⟩:Na),pa 2,pa 0,pa 9,.string (⟨#[109,101,109,98,101,114]⟩:Na),pa 1,pa 0,pa 1])/\Hid (qb (((c.setCell (Ya w.heap.size) (.slice (Nb (w.heap.size+1)) 2 2)).setCell (Ja w.heap.size 1) (.slice (Nb j) 3 3)).setCell (Ja w.heap.size 2) (.slice (Nb Y) 3 3)) j 38 (Ls b).toArray)/\Hid (qb (((c.setCell (Ya w.heap.size) (.slice (Nb (w.heap.size+1)) 2 2)).setCell (Ja w.heap.size 1) (.slice (Nb j) 3 3)).setCell (Ja w.heap.size 2) (.slice (Nb Y) 3 3)) b 9 #[.string my])/\Hid (qb (((c.setCell (Ya w.heap.size) (.slice (Nb (w.heap.size+1)) 2 2)).setCell (Ja w.heap.size 1) (.slice (Nb j) 3 3)).setCell (Ja w.heap.size 2) (.slice (Nb Y) 3 3)) Y 3 #[pa 0,pa 0,pa 0]):=by
 have e:∀k,k≠w.heap.size->((((c.setCell (Ya w.heap.size) (.slice (Nb (w.heap.size+1)) 2 2)).setCell (Ja w.heap.size 1) (.slice (Nb j) 3 3)).setCell (Ja w.heap.size 2) (.slice (Nb Y) 3 3))).heap[k]? =c.heap[k]? :=λk n=>by
  grind [heap_setCell_other]
 have d:=λk o n=>World.cell?_of_block (a:=Ja k o) (e k n)
 obtain⟨r,s,t,u,v,x⟩:=q;refine⟨⟨(d _ _ ja).trans r,(d _ _ ja).trans s,(d _ _ ja).trans t,(d _ _ ja).trans u,(d _ _ ja).trans v,(d _ _ ja).trans x⟩,((f.set 0 _).set 1 _).set 2 _,(((m.trans (l.mono m.size)).setCell (wa _) _).setCell (wa _) _).setCell (wa _) _,(e _ ja).trans (p.below l),(e _ (FE h f Ba)).trans h,(e _ (FE i f Ba)).trans i,(e _ (FE g f Ba)).trans g⟩
theorem dH(w:Ca):Db 23 #[] w λe r=>∃v,e=.returned v/\Da w.heap.size w r/\Gj r r.heap.size dJ Kh jr v:=by
 go_enter func23,ntmps23;go_upto_region 3 with(fail);have y:Da _ w ((((w.alloc (.cells #[Ua,Ua,Ua] 28)).alloc (.cells #[.string (⟨#[105,110,99,111,109,101]⟩),pa 2,pa 0,pa 9,.string (⟨#[109,101,109,98,101,114]⟩),pa 1,pa 0,pa 1] 120)).alloc (.cells #[.slice (Nb (w.heap.size+1)) 2 2] 24)).alloc (.cells #[pa 3,.string (⟨#[109,101,109,98,101,114]⟩),pa 1,pa 1,Ua] 32)):=((((za _ _).alloc (wa _) _).alloc Aa _).alloc (by simp;omega) _).alloc (by simp;omega) _;have D:qb ((((w.alloc _).alloc (.cells #[.string (⟨#[105,110,99,111,109,101]⟩),pa 2,pa 0,pa 9,.string (⟨#[109,101,109,98,101,114]⟩),pa 1,pa 0,pa 1] 120)).alloc (.cells #[.slice (Nb (w.heap.size+1)) 2 2] 24)).alloc (.cells #[pa 3,.string (⟨#[109,101,109,98,101,114]⟩),pa 1,pa 1,Ua] 32)) _ 28 _:=(((qb.new w 28 #[Ua,Ua,Ua]).alloc _).alloc _).alloc _
 have E:qb ((((w.alloc (.cells #[Ua,Ua,Ua] 28)).alloc (.cells #[.string (⟨#[105,110,99,111,109,101]⟩),pa 2,pa 0,pa 9,.string (⟨#[109,101,109,98,101,114]⟩),pa 1,pa 0,pa 1] 120)).alloc (.cells #[.slice (Nb (w.heap.size+1)) 2 2] 24)).alloc (.cells #[pa 3,.string (⟨#[109,101,109,98,101,114]⟩),pa 1,pa 1,Ua] 32)) (w.heap.size+1) 120 #[.string (⟨#[105,110,99,111,109,101]⟩),pa 2,pa 0,pa 9,.string (⟨#[109,101,109,98,101,114]⟩),pa 1,pa 0,pa 1]:=by{have q:=((qb.new (w.alloc (.cells #[Ua,Ua,Ua] 28)) 120 #[.string (⟨#[105,110,99,111,109,101]⟩),pa 2,pa 0,pa 9,.string (⟨#[109,101,109,98,101,114]⟩),pa 1,pa 0,pa 1]).alloc (.cells #[.slice (Nb (w.heap.size+1)) 2 2] 24)).alloc (.cells #[pa 3,.string (⟨#[109,101,109,98,101,114]⟩),pa 1,pa 1,Ua] 32);simpa only[Ia]using q}
 have F:qb ((((w.alloc (.cells #[Ua,Ua,Ua] 28)).alloc (.cells #[.string (⟨#[105,110,99,111,109,101]⟩),pa 2,pa 0,pa 9,.string (⟨#[109,101,109,98,101,114]⟩),pa 1,pa 0,pa 1] 120)).alloc (.cells #[.slice (Nb (w.heap.size+1)) 2 2] 24)).alloc (.cells #[pa 3,.string (⟨#[109,101,109,98,101,114]⟩),pa 1,pa 1,Ua] 32)) (w.heap.size+2) 24 #[.slice (Nb (w.heap.size+1)) 2 2]:=by{have q:=(qb.new ((w.alloc (.cells #[Ua,Ua,Ua] 28)).alloc (.cells #[.string (⟨#[105,110,99,111,109,101]⟩),pa 2,pa 0,pa 9,.string (⟨#[109,101,109,98,101,114]⟩),pa 1,pa 0,pa 1] 120)) 24 #[.slice (Nb (w.heap.size+1)) 2 2]).alloc (.cells #[pa 3,.string (⟨#[109,101,109,98,101,114]⟩),pa 1,pa 1,Ua] 32);simpa only[Ia]using q}
 have B:qb ((((w.alloc (.cells #[Ua,Ua,Ua] 28)).alloc (.cells #[.string (⟨#[105,110,99,111,109,101]⟩),pa 2,pa 0,pa 9,.string (⟨#[109,101,109,98,101,114]⟩),pa 1,pa 0,pa 1] 120)).alloc (.cells #[.slice (Nb (w.heap.size+1)) 2 2] 24)).alloc (.cells #[pa 3,.string (⟨#[109,101,109,98,101,114]⟩),pa 1,pa 1,Ua] 32)) (w.heap.size+3) 32 #[pa 3,.string (⟨#[109,101,109,98,101,114]⟩),pa 1,pa 1,Ua]:=by{have q:=qb.new (((w.alloc (.cells #[Ua,Ua,Ua] 28)).alloc (.cells #[.string (⟨#[105,110,99,111,109,101]⟩),pa 2,pa 0,pa 9,.string (⟨#[109,101,109,98,101,114]⟩),pa 1,pa 0,pa 1] 120)).alloc (.cells #[.slice (Nb (w.heap.size+1)) 2 2] 24)) 32 #[pa 3,.string (⟨#[109,101,109,98,101,114]⟩),pa 1,pa 1,Ua];simpa only[Ia]using q}
 obtain⟨W,M⟩:∃W,((((w.alloc (.cells #[Ua,Ua,Ua] 28)).alloc (.cells #[.string (⟨#[105,110,99,111,109,101]⟩),pa 2,pa 0,pa 9,.string (⟨#[109,101,109,98,101,114]⟩),pa 1,pa 0,pa 1] 120)).alloc (.cells #[.slice (Nb (w.heap.size+1)) 2 2] 24)).alloc (.cells #[pa 3,.string (⟨#[109,101,109,98,101,114]⟩),pa 1,pa 1,Ua] 32))=W:=⟨_,rfl⟩;rw[M]at y D E F B⊢;have C:=la y;have Q:=la D;have A:=la E;have H:=B.lt
 have g:Hid (∀r,Da W.heap.size W r->Hid (r.cell? (Ya (w.heap.size+2))=some (.slice (Nb (w.heap.size+1)) 2 2)/\r.cell? (Ya (w.heap.size+3))=some (pa 3)/\r.cell? (Ja (w.heap.size+3) 1)=some (.string (⟨#[109,101,109,98,101,114]⟩:Na))/\r.cell? (Ja (w.heap.size+3) 2)=some (pa 1)/\r.cell? (Ja (w.heap.size+3) 3)=some (pa 1)/\r.cell? (Ja (w.heap.size+3) 4)=some Ua)):=λr h=>by{have s:=F.below h;have z:=B.below h;exact⟨s.cell 0,z.cell 0,z.cell 1,z.cell 2,z.cell 3,z.cell 4⟩}
 clear M y D E F B
 go_cut[] (λt=>∃(X Y b:Nat),Hid (qb t w.heap.size 28 #[.slice (Nb (w.heap.size+1)) 2 2,.slice (Nb X) 3 3,.slice (Nb Y) 3 3])/\Hid (Da w.heap.size w t)/\Hid (qb t (w.heap.size+1) 120 #[.string (⟨#[105,110,99,111,109,101]⟩),pa 2,pa 0,pa 9,.string (⟨#[109,101,109,98,101,114]⟩),pa 1,pa 0,pa 1])/\Hid (qb t X 38 (Ls b).toArray)/\Hid (qb t b 9 #[.string my])/\Hid (qb t Y 3 #[pa 0,pa 0,pa 0]))
 case first=>
  have c:Hid (Da W.heap.size W _):=(za _ _).drew;refine wp_region_held_drew (S:=λr=>Hid (r.cell? _=some _/\r.cell? _=some _/\r.cell? _=some _/\r.cell? _=some _/\r.cell? _=some _/\r.cell? _=some _)) Ha (g.o _ c.o) (λMb=>?_);generalize W.drew=w0 at*
  refine tk 0 ?v0 ?y0 ?_
  case y0=>(intro l Be;obtain⟨N,y1,y2,y3,y4,O⟩:=Be.o;go_simp;try with_reducible rfl)
  refine tk 5 ?v5 ?y5 ?_
  case y5=>(intro l Be;obtain⟨N,y1,y2,y3,y4,O⟩:=Be.o;go_simp;try with_reducible rfl)
  all_goals first
   | (have x:=m;have s:=n;clear x s;refine tr 1 (λk d=>?_))
   | (have x:=m;clear x;refine tt 1 9 (λk d=>?_) (λk d=>?_);rotate_left;(go_simp;refine Sz d (λl h=>g.o _ (c.o.trans (h.o.mono c.o.size))) ?_;intro l a f Mb;(try have m:=la (m.o.below a.o));(try have p:=la (p.o.below a.o));have n:=f;have c:=la (c.o.trans (a.o.mono c.o.size));clear d a f);refine tr 1 (λk d=>?_))
   | (have s:=n;clear s;refine tt 1 6 (λk d=>?_) (λk d=>?_);rotate_left;(go_simp;refine Sz d (λl h=>g.o _ (c.o.trans (h.o.mono c.o.size))) ?_;intro l a f Mb;(try have n:=la (n.o.below a.o));have m:=f;have c:=la (c.o.trans (a.o.mono c.o.size));clear d a f;refine tp 7 ?_);refine tr 1 (λk d=>?_))
   | (refine t3 1 6 9 (λk d=>?_) (λk d=>?_) (λk d=>?_);rotate_left;(go_simp;refine Sz d (λl h=>g.o _ (c.o.trans (h.o.mono c.o.size))) ?_;intro l a f Mb;(try have n:=la (n.o.below a.o));have m:=f;have c:=la (c.o.trans (a.o.mono c.o.size));clear d a f;refine tp 7 ?_);refine tt 1 9 (λk d=>?_) (λk d=>?_);rotate_left;(go_simp;refine Sz d (λl h=>g.o _ (c.o.trans (h.o.mono c.o.size))) ?_;intro l a f Mb;(try have m:=la (m.o.below a.o));(try have p:=la (p.o.below a.o));have n:=f;have c:=la (c.o.trans (a.o.mono c.o.size));clear d a f);refine tr 1 (λk d=>?_);rotate_left;(go_simp;refine Sz d (λl h=>g.o _ (c.o.trans (h.o.mono c.o.size))) ?_;intro l a f Mb;(try have m:=la (m.o.below a.o));(try have p:=la (p.o.below a.o));have n:=f;have c:=la (c.o.trans (a.o.mono c.o.size));clear d a f);refine tt 1 6 (λk d=>?_) (λk d=>?_);rotate_left;(go_simp;refine Sz d (λl h=>g.o _ (c.o.trans (h.o.mono c.o.size))) ?_;intro l a f Mb;(try have n:=la (n.o.below a.o));have m:=f;have c:=la (c.o.trans (a.o.mono c.o.size));clear d a f;refine tp 7 ?_);refine tr 1 (λk d=>?_))
  all_goals
   go_simp
   (go_at_call 52;refine(qH 5 _).mono ?_;rintro e l ⟨rfl,a⟩)
   refine d.o _ _ (g.o _ (c.o.trans (a.mono c.o.size))) (λMb=>?_)
   (try have m:=la (m.o.below a))
   (try have n:=la (n.o.below a))
   have c:=la (c.o.trans (a.mono c.o.size));clear d a;refine tp 2 ?_
  all_goals first
   | (have x:=m;have s:=n;clear x s;refine tr 3 (λk d=>?_))
   | (have x:=m;clear x;refine tt 3 9 (λk d=>?_) (λk d=>?_);rotate_left;(go_simp;refine Sz d (λl h=>g.o _ (c.o.trans (h.o.mono c.o.size))) ?_;intro l a f Mb;(try have m:=la (m.o.below a.o));(try have p:=la (p.o.below a.o));have n:=f;have c:=la (c.o.trans (a.o.mono c.o.size));clear d a f);refine tr 3 (λk d=>?_))
   | (have s:=n;clear s;refine tt 3 6 (λk d=>?_) (λk d=>?_);rotate_left;(go_simp;refine Sz d (λl h=>g.o _ (c.o.trans (h.o.mono c.o.size))) ?_;intro l a f Mb;(try have n:=la (n.o.below a.o));have m:=f;have c:=la (c.o.trans (a.o.mono c.o.size));clear d a f;refine tp 7 ?_);refine tr 3 (λk d=>?_))
   | (refine t3 3 6 9 (λk d=>?_) (λk d=>?_) (λk d=>?_);rotate_left;(go_simp;refine Sz d (λl h=>g.o _ (c.o.trans (h.o.mono c.o.size))) ?_;intro l a f Mb;(try have n:=la (n.o.below a.o));have m:=f;have c:=la (c.o.trans (a.o.mono c.o.size));clear d a f;refine tp 7 ?_);refine tt 3 9 (λk d=>?_) (λk d=>?_);rotate_left;(go_simp;refine Sz d (λl h=>g.o _ (c.o.trans (h.o.mono c.o.size))) ?_;intro l a f Mb;(try have m:=la (m.o.below a.o));(try have p:=la (p.o.below a.o));have n:=f;have c:=la (c.o.trans (a.o.mono c.o.size));clear d a f);refine tr 3 (λk d=>?_);rotate_left;(go_simp;refine Sz d (λl h=>g.o _ (c.o.trans (h.o.mono c.o.size))) ?_;intro l a f Mb;(try have m:=la (m.o.below a.o));(try have p:=la (p.o.below a.o));have n:=f;have c:=la (c.o.trans (a.o.mono c.o.size));clear d a f);refine tt 3 6 (λk d=>?_) (λk d=>?_);rotate_left;(go_simp;refine Sz d (λl h=>g.o _ (c.o.trans (h.o.mono c.o.size))) ?_;intro l a f Mb;(try have n:=la (n.o.below a.o));have m:=f;have c:=la (c.o.trans (a.o.mono c.o.size));clear d a f;refine tp 7 ?_);refine tr 3 (λk d=>?_))
  all_goals
   go_simp
   (go_at_call 52;refine(qH 2 _).mono ?_;rintro e l ⟨rfl,a⟩)
   refine d.o _ _ (g.o _ (c.o.trans (a.mono c.o.size))) (λMb=>?_)
   (try have m:=la (m.o.below a))
   (try have n:=la (n.o.below a))
   have c:=la (c.o.trans (a.mono c.o.size));clear d a;refine tp 4 ?_
  all_goals first
   | (have x:=m;have s:=n;clear x s;refine tr 8 (λk d=>?_))
   | (have x:=m;clear x;refine tt 8 9 (λk d=>?_) (λk d=>?_);rotate_left;(go_simp;refine Sz d (λl h=>g.o _ (c.o.trans (h.o.mono c.o.size))) ?_;intro l a f Mb;(try have m:=la (m.o.below a.o));(try have p:=la (p.o.below a.o));have n:=f;have c:=la (c.o.trans (a.o.mono c.o.size));clear d a f);refine tr 8 (λk d=>?_))
   | (have s:=n;clear s;refine tr 6 (λk d=>?_);(go_simp;refine Sz d (λl h=>g.o _ (c.o.trans (h.o.mono c.o.size))) ?_;intro l a f Mb;(try have n:=la (n.o.below a.o));have m:=f;have c:=la (c.o.trans (a.o.mono c.o.size));clear d a f;refine tp 7 ?_);refine tr 8 (λk d=>?_))
   | (refine tt 6 9 (λk d=>?_) (λk d=>?_);(go_simp;refine Sz d (λl h=>g.o _ (c.o.trans (h.o.mono c.o.size))) ?_;intro l a f Mb;(try have n:=la (n.o.below a.o));have m:=f;have c:=la (c.o.trans (a.o.mono c.o.size));clear d a f;refine tp 7 ?_);refine tt 8 9 (λk d=>?_) (λk d=>?_);rotate_left;(go_simp;refine Sz d (λl h=>g.o _ (c.o.trans (h.o.mono c.o.size))) ?_;intro l a f Mb;(try have m:=la (m.o.below a.o));(try have p:=la (p.o.below a.o));have n:=f;have c:=la (c.o.trans (a.o.mono c.o.size));clear d a f);refine tr 8 (λk d=>?_);rotate_left;(go_simp;refine Sz d (λl h=>g.o _ (c.o.trans (h.o.mono c.o.size))) ?_;intro l a f Mb;(try have m:=la (m.o.below a.o));(try have p:=la (p.o.below a.o));have n:=f;have c:=la (c.o.trans (a.o.mono c.o.size));clear d a f);refine tr 6 (λk d=>?_);(go_simp;refine Sz d (λl h=>g.o _ (c.o.trans (h.o.mono c.o.size))) ?_;intro l a f Mb;(try have n:=la (n.o.below a.o));have m:=f;have c:=la (c.o.trans (a.o.mono c.o.size));clear d a f;refine tp 7 ?_);refine tr 8 (λk d=>?_))
  all_goals
   apply Rv m rfl _ _ _ rfl Ra Ra Ra
   apply Sz d (λl h=>g.o _ (c.o.trans (h.o.mono c.o.size)))
   intro l a p Mb;have m:=la (m.o.below a.o)
   (try have n:=la (n.o.below a.o))
   have c:=la (c.o.trans (a.o.mono c.o.size));clear d a
   try simp only[Act.put,sA,sB,sC]
   first
    | (have s:=n;clear s)
    | (refine tr 9 (λk d=>?_);(go_simp;refine Sz d (λl h=>g.o _ (c.o.trans (h.o.mono c.o.size))) ?_;intro l a f Mb;(try have m:=la (m.o.below a.o));(try have p:=la (p.o.below a.o));have n:=f;have c:=la (c.o.trans (a.o.mono c.o.size));clear d a f))
   refine tp 10 ?_;refine tr 11 (λk d=>?_);have u:=la (Q.o.below c.o);have z0:=u.o.cell 0;have z1:=u.o.cell 1;have z2:=u.o.cell 2;have g0:=u.o.frozen 0;have g1:=u.o.frozen 1;have g2:=u.o.frozen 2
   go_simp
   obtain⟨Z,e1,e2,e3,e4,e5,e6⟩:=aeb C.o H c.o u.o A.o p.o m.o n.o Mb.o;refine d.o _ _ (la Z) (λMb=>?_);refine wpAnyH_done Ha ?_ _;go_wp2;go_meet;exact⟨_,_,_,e1,e2,e3,e4,e5,e6⟩
 case rest=>
  obtain⟨X,Y,b,u,c,A,K,J,L⟩:=hcut;rename Ca=>t
  have T:=u.o.cell 0;have U:=u.o.cell 1;have V:=u.o.cell 2;go_wp2
  have I:(loadCellsFrom _ 0 3 #[]).run _ t=.ok _ t:=
   run_loadCells_list (P:=prog) t _ _ (λj v hv=>by rw[Addr.add_mid,Vb,u.o.cell];simpa using hv)
  refine Fb (v:=.agg #[.slice (Nb (w.heap.size+1)) 2 2,.slice (Nb X) 3 3,.slice (Nb Y) 3 3]) (by simp only[results,results23,go_sem];simp[I];try rfl) rfl ?_
  have hd:Sa Jk 4 t t.heap.size dJ (.slice (Nb (w.heap.size+1)) 2 2):=by
   refine⟨_,2,rfl,Ba,Ba,λ_=>⟨_,0,rfl,A.o.lt,λi G=>?_⟩⟩;have R:=A.o
   match i,G with| 0,_=>exact⟨R.cell 0,R.cell 1,R.cell 2,R.cell 3,eY _ (Wa ..)⟩| 1,_=>exact⟨R.cell 4,R.cell 5,R.cell 6,R.cell 7,eY _ (Pa _ (Wa ..))⟩
  have ht:Sa (Ad (Value.int .i64)) 1 t t.heap.size jr (.slice (Nb Y) 3 3):=by
   refine⟨_,3,rfl,Ba,Ba,λ_=>⟨Y,0,rfl,L.o.lt,λi G=>?_⟩⟩;have R:=L.o
   match i,G with| 0,_=>exact R.cell 0| 1,_=>exact R.cell 1| 2,_=>exact R.cell 2
  exact⟨_,rfl,c.o,_,_,_,rfl,hd,PV K.o J.o K.o.lt J.o.lt,ht⟩
end Go.Proofs.YtdipkbobalnilaaGreatDoor
