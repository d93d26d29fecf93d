/- The walk of pandectref06.Less. No conditions. -/
import Derived.Test.YtdipkbobalnilaaGreatDoorAl
import Derived.Test.YtdipkbobalnilaaGreatDoorJdZ
set_option maxRecDepth 100000
set_option maxHeartbeats 8000000
namespace Go.Proofs.YtdipkbobalnilaaGreatDoor
open Tryz
variable{j:Nat}{T:List Dn}{Z:Int}{E:TypeId}{Q:List Nat}{A:Option Addr}{g:Nat->Int}{K:Act}{M:Oper}
def VR:Na:=⟨#[105,110,99,111,109,101]⟩
def WR:Na:=⟨#[109,101,109,98,101,114]⟩
def dJ:List Fa:=[⟨VR,2,0,9⟩,⟨WR,1,0,1⟩]
def Rk(n:Int):Fo:=.mk 3 VR 3 n []
def isF:Fo:=.mk 3 WR 1 1 []
def oF:St:=⟨0,⟨#[]⟩,0,none,0,0⟩
def my:Na:=⟨#[112,49]⟩
def sK:Na:=⟨#[112,50]⟩
def p3B:Na:=⟨#[112,51]⟩
def Cj:Na:=⟨#[116,97,120]⟩
def ZX:Na:=⟨#[112,101,114,109,105,116]⟩
def Kh:List Pv:=[⟨my,2,2,Cj,5,Rk 5,[],oF,oF,oF⟩,⟨sK,2,2,Cj,3,Rk 2,[],oF,oF,oF⟩,⟨p3B,2,2,ZX,1,isF,[my],oF,oF,oF⟩]
def jr:List Int:=[0,0,0]
def DE:List (Int×Int):=(List.range 20).map λi=>(((i / 2:Nat):Int),((i % 2:Nat):Int))
theorem QL(h:Gi dJ g):(g 0,g 1)∈DE:=by
 have a:0<=g 0/\g 0<=9:=h 0 Ba;have b:0<=g 1/\g 1<=1:=h 1 Ba;refine List.mem_map.2 ⟨2*(g 0).toNat+(g 1).toNat,List.mem_range.2 ja,?_⟩
 grind
def Z3(t:List Dn)(x:Int×Int):Bool:=ym t 3 0 λi=>if i=0 then x.1 else x.2
def MV(t:List Dn):Bool:=Fh dJ t&& t.all λn=>decide (n.fact.toNat<2)
theorem SC{t:List Dn}(h:∀n∈t,n.fact.toNat<2){c c':Nat->Int}(b:c 0=c' 0)(d:c 1=c' 1):∀f k,ym t f k c=ym t f k c'
 | 0,_=>rfl
 | f+1,k=>by
  rw[ym,ym]
  split
  {rfl}
  ·next a=>
   have g:(t.getD k Ka).fact.toNat<2:=by{rw[zc]at a⊢;cases e:t[k]? with| none=>rw[e]at a;exact absurd rfl a| some n=>exact h n (vh e)}
   have:c (t.getD k Ka).fact.toNat=c' (t.getD k Ka).fact.toNat:=by
    rcases(show(t.getD k Ka).fact.toNat=0\/(t.getD k Ka).fact.toNat=1 by omega)with e|e<;>rw[e]<;>assumption
   rw[this];exact SC h b d f _
theorem aY(h:MV T=true)(c:Nat->Int):Uc dJ T 0 c=Z3 T (c 0,c 1):=by
 unfold MV at h;rw[Ib,ee]at h;exact SC (c':=λi=>if i=0 then c 0 else c 1) (λn a=>Uf (h.2 n a)) rfl rfl 3 0
theorem Pq(h:MV T=true):Qc dJ T:=by
 grind [MV,Gh]
theorem Mo{b t:List Dn}(h:(MV T&& (MV b&& (MV t&& (decide (T.length*b.length<=19998)&& DE.all λx=>Z3 t x==(Z3 T x&& Z3 b x)))))=true):Ae dJ T b=(t,0):=by
 simp only[Ib,decide_eq_true_eq,ee,Pc]at h;obtain⟨d,f,i,g,k⟩:=h;have q:=xM (aQ (Pq d) (Pq f) g);have a:(Ae dJ T b).2=0:=by rw[q]
 obtain⟨_,_,v,r⟩:=Ai a;have e:=Xy v (Pq i) λc j=>by grind [aY,QL]
 grind
theorem tq:gf dJ=true:=by kernel_rfl
theorem XR{f:Fo}(a:se f dJ (λ_=>false)=0)(hs:f.size<=3):uv dJ f:=by
 apply built (eh tq) (jk a)
 have b:=kJ (d:=dJ) 0 f;have c:=kJ (d:=dJ) 1 f
 show 1*(vm dJ 0 f).length*(vm dJ 1 f).length<=19998
 have:(vm dJ 0 f).length*(vm dJ 1 f).length<=7*7:=Nat.mul_le_mul ja ja
 grind
theorem Oz{f:Fo}(g:Int×Int->Bool)(a:se f dJ (λ_=>false)=0)(hs:f.size<=3)(i:(dl f []).length<=24)(j:∀c,Fe dJ c f=g (c 0,c 1))(h:(MV T&& DE.all λx=>Z3 T x==g x)=true):Nc dJ f=(T,0):=by
 simp only[Ib,ee,Pc]at h;obtain⟨d,k⟩:=h;have b:=XR a hs;rw[Ut tq a b];unfold ZD;rw[if_neg (by rw[tq,a];simp),if_neg ja];congr 1
 refine Xy (Sw tq (jk a) b) (Pq d) λc e=>?_
 grind [fG,tq,jk,aY,QL]
def YR:Dn:=⟨0,[],[],true⟩
def jU:Dn:=⟨0,[],[],false⟩
def lT(n:Int):List Dn:=[⟨0,[n],[1,2],false⟩,YR,jU]
def mT:List Dn:=[⟨1,[1],[1,2],false⟩,jU,YR]
def dT:List Dn:=[⟨0,[5],[1,3],false⟩,⟨1,[1],[2,3],false⟩,YR,jU]
def F8:List Dn:=[⟨0,[2],[1,3],false⟩,⟨1,[1],[2,3],false⟩,YR,jU]
def G8:List Dn:=[⟨0,[2,5],[1,2,1],false⟩,jU,⟨1,[1],[3,1],false⟩,YR]
def H8:List Dn:=[⟨0,[2],[1,2],false⟩,⟨1,[1],[2,3],false⟩,jU,YR]
def I8:List Dn:=[⟨0,[2,5],[1,2,3],false⟩,jU,⟨1,[1],[1,3],false⟩,YR]
def e5T:List Dn:=[⟨0,[2,5],[1,2,1],false⟩,jU,YR]
theorem TZ:ki dJ VR=0:=by kernel_rfl
theorem NV:ki dJ WR=1:=by kernel_rfl
theorem cY(n:Int)(h:(MV (lT n)&& DE.all λx=>Z3 (lT n) x==decide (x.1<n))=true)(a:se (Rk n) dJ (λ_=>false)=0):Nc dJ (Rk n)=(lT n,0):=
 Oz (λx=>decide _) a (by simp[Rk,Fo.size,Fo.Cd]) (by simp[Rk,dl,ZQ,ins]) (λc=>by simp[Rk,Fe,TZ,Ol]) h
theorem b5:Nc dJ (Rk 5)=(lT 5,0):=cY 5 Ha Ha
theorem b2:Nc dJ (Rk 2)=(lT 2,0):=cY 2 Ha Ha
theorem bM:Nc dJ isF=(mT,0):=Oz (λx=>decide (x.2=1)) Ha Ba Ba (λc=>by simp[isF,Fe,NV,Ol]) Ha
theorem bY:Nc dJ Ri=([YR],0):=Oz (λ_=>true) Ha Ba Ba (λc=>by simp[Ri,Fe]) Ha
theorem x1:Ae dJ (lT 5) (Hd mT)=(dT,0):=Mo Ha
theorem x2:Ae dJ [YR] dT=(dT,0):=Mo Ha
theorem x3:Ae dJ [YR] (Hd dT)=(Hd dT,0):=Mo Ha
theorem x4:Ae dJ dT (lT 2)=(F8,0):=Mo Ha
theorem x5:Ae dJ dT (Hd (lT 2))=(G8,0):=Mo Ha
theorem x6:Ae dJ (Hd dT) (lT 2)=(H8,0):=Mo Ha
theorem x7:Ae dJ (Hd dT) (Hd (lT 2))=(I8,0):=Mo Ha
theorem x8:Ae dJ (lT 2) (Hd (lT 5))=([jU],0):=Mo Ha
theorem x9:Ae dJ (lT 5) (Hd (lT 2))=(e5T,0):=Mo Ha
def QX:Jo:=⟨1,3,[sK],[my]⟩
def RX:Jo:=⟨1,5,[my],[]⟩
def SX:Jo:=⟨1,3,[sK],[]⟩
theorem tK:Ef dJ Kh jr.length=true:=by kernel_rfl
theorem Q8:(kr dJ Kh Cj).1=[(F8,[0,1]),(G8,[0]),(H8,[1]),(I8,[])]/\(kr dJ Kh Cj).2.2=0:=by
 have r:Og Kh Cj Kh.length=[0,1]:=by kernel_rfl
 have l:th Kh 0=[2]:=by kernel_rfl
 have m:th Kh 1=[]:=by kernel_rfl
 have n:th Kh 2=[]:=by kernel_rfl
 have i:pd Kh 0=Rk 5:=rfl;have j:pd Kh 1=Rk 2:=rfl;have k:pd Kh 2=isF:=rfl;have c:(Ld dJ dT).isSome=true:=by kernel_rfl
 have d:(Ld dJ (Hd dT)).isSome=true:=by kernel_rfl
 have e:(Ld dJ F8).isSome=true:=by kernel_rfl
 have f:(Ld dJ G8).isSome=true:=by kernel_rfl
 have g:(Ld dJ H8).isSome=true:=by kernel_rfl
 have h:(Ld dJ I8).isSome=true:=by kernel_rfl
 have a:Yf dJ (pd Kh) (th Kh) 4 0 ([],0)=(dT,([(2,mT),(0,dT)],0)):=by
  grind [Yf,Pz,b5,bM,uh,x1,ins]
 have b:Yf dJ (pd Kh) (th Kh) 4 1 ([(2,mT),(0,dT)],0)=(lT 2,([(2,mT),(0,dT),(1,lT 2)],0)):=by
  grind [Yf,Pz,b2,ins]
 unfold kr;rw[r,bY,show Kh.length+1=4 from rfl];simp[Of,a,b,Gn,uh,Qz,x2,x3,x4,x5,x6,x7,c,d,e,f,g,h]
theorem R8:Hn dJ (pd Kh) (Jj Kh) (Dj jr) 1 0=(2,0)/\Hn dJ (pd Kh) (Jj Kh) (Dj jr) 0 1=(0,0):=by
 have a:pd Kh 0=Rk 5:=rfl;have b:pd Kh 1=Rk 2:=rfl;have c:(Ld dJ [jU]).isSome=false:=by kernel_rfl
 have d:(Ld dJ e5T).isSome=true:=by kernel_rfl
 grind [Jj,Kh,Ih,Ov,b5,b2,x8,x9,Hn,bm]
theorem Qv{ids:List Na}(a:RL Kh ids=true)(b:(Dk dJ Kh jr ids)=(Q,0)):Je dJ Kh jr ids=(Q.map (qj Kh),0):=by
 grind [Je,tK]
theorem EE:Dk dJ Kh jr []=([],0)/\Dk dJ Kh jr [my,sK]=([1],0)/\Dk dJ Kh jr [my]=([0],0)/\Dk dJ Kh jr [sK]=([1],0):=by
 obtain⟨b,a⟩:=R8;have e:List.range Kh.length=[0,1,2]:=rfl
 have c:∀i,Oo Kh [] i=false:=λi=>by{unfold Oo;(split);{rfl};{rfl}}
 have d:Oo Kh [my,sK] 0=true/\Oo Kh [my,sK] 1=true/\Oo Kh [my,sK] 2=false:=by refine⟨?_,?_,?_⟩<;>kernel_rfl
 have f:Oo Kh [my] 0=true/\Oo Kh [my] 1=false/\Oo Kh [my] 2=false:=by refine⟨?_,?_,?_⟩<;>kernel_rfl
 have t3:Oo Kh [sK] 0=false/\Oo Kh [sK] 1=true/\Oo Kh [sK] 2=false:=by refine⟨?_,?_,?_⟩<;>kernel_rfl
 grind [Dk,Sk,ji]
theorem dY:Rh dJ Kh jr [my,sK]=(QX,0)/\Rh dJ Kh jr [my]=(RX,0)/\Rh dJ Kh jr [sK]=(SX,0)/\Rh dJ Kh jr []=(Qi,0):=by
 obtain⟨e,f,g,h⟩:=EE;have a:=Qv Ha e;have b:=Qv Ha f;have c:=Qv Ha g;have d:=Qv Ha h;refine⟨?_,?_,?_,OV (by rw[a])⟩
 {unfold Rh;rw[b];kernel_rfl}
 {unfold Rh;rw[c];kernel_rfl}
 {unfold Rh;rw[d];kernel_rfl}
theorem E8:(bj dJ Kh jr Cj).2=0/\(bj dJ Kh jr Cj).1=[(F8,QX),(G8,RX),(H8,SX),(I8,Qi)]:=by
 obtain⟨f,_,_,_⟩:=EE;obtain⟨a,b,c,d⟩:=dY;have e:=Qv Ha f;have o:zp dJ Kh jr [0,1]=(QX,0):=a;have p:zp dJ Kh jr [0]=(RX,0):=b;have q:zp dJ Kh jr [1]=(SX,0):=c;have r:zp dJ Kh jr []=(Qi,0):=d;have i:(Ej QX==Ej RX)=false:=by kernel_rfl
 have j:(Ej QX==Ej SX)=false:=by kernel_rfl
 have k:(Ej QX==Ej Qi)=false:=by kernel_rfl
 have l:(Ej RX==Ej SX)=false:=by kernel_rfl
 have m:(Ej RX==Ej Qi)=false:=by kernel_rfl
 have n:(Ej SX==Ej Qi)=false:=by kernel_rfl
 obtain⟨g,h⟩:=Q8;unfold bj;rw[Ga (by rw[e]),Ga Ha,Ga h,g]
 grind [ri,mr]
theorem OZ:Df dJ Kh jr Cj [1,0]=(QX,0)/\Df dJ Kh jr Cj [3,0]=(RX,0)/\Df dJ Kh jr Cj [3,1]=(Qi,0)/\Df dJ Kh jr Cj [1,1]=(SX,0)/\Df dJ Kh jr Cj [10,0]=(Qi,1):=by
 obtain⟨f,_,_,_⟩:=EE;obtain⟨a,b,c,d⟩:=dY;have e:(Je dJ Kh jr []).2=0:=by rw[Qv Ha f]
 unfold Df;simp only[Ga e];refine⟨?_,?_,?_,?_,?_⟩
 {rw[Ga Ha,show bB Kh Cj _=[my,sK]from by kernel_rfl,a]}
 {rw[Ga Ha,show bB Kh Cj _=[my]from by kernel_rfl,b]}
 {rw[Ga Ha,show bB Kh Cj _=[]from by kernel_rfl,d]}
 {rw[Ga Ha,show bB Kh Cj _=[sK]from by kernel_rfl,c]}
 {rw[show Pm dJ Kh _=1 from by kernel_rfl];rfl}
theorem wV:Kh.foldl pi []=[Cj,ZX]:=by kernel_rfl
theorem vV:zE dJ Kh:=by
 refine⟨by rw[bY],λi=>if i=0 then 1 else 0,λi k a b=>?_,λi _=>by grind⟩;have c:th Kh 0=[2]:=by kernel_rfl
 have d:th Kh 1=[]:=by kernel_rfl
 have e:th Kh 2=[]:=by kernel_rfl
 match i,a with| 0,_=>grind| 1,_=>grind| 2,_=>grind
open Go.RowKit
theorem qH(n:Int)(w:Ca):Db 52 #[pa n] w λe d=>e=.returned (.agg #[pa 3,.string VR,pa 3,pa n,Ua])/\Da w.heap.size w d:=by
 have b:Da _ w (w.alloc (.cells #[pa 3,.string (⟨#[105,110,99,111,109,101]⟩),pa 3,pa n,Ua] 32)):=(za _ _).alloc (wa _) _;have K:=qb.new w 32 #[pa 3,.string (⟨#[105,110,99,111,109,101]⟩),pa 3,pa n,Ua];unfold VR;go_enter func52,ntmps52;go_wp2
 have a:(loadCellsFrom _ 0 5 #[]).run _ _=.ok _ _:=
  run_loadCells_list (P:=prog) _ _ _ (λj v c=>by rw[Addr.add_mid,Vb,K.cell];simpa using c)
 refine Fb (v:=.agg #[pa 3,.string (⟨#[105,110,99,111,109,101]⟩:Na),pa 3,pa n,Ua]) (by simp only[results,results52,go_sem];simp[a];try rfl) rfl ?_;exact⟨rfl,b⟩
def Ls(b:Nat):List Ea:=Cl (Kh.getD 0 ⟨my,2,2,Cj,5,Rk 5,[],oF,oF,oF⟩) none 0 none 0++(Cl (Kh.getD 1 ⟨my,2,2,Cj,5,Rk 5,[],oF,oF,oF⟩) none 0 none 0++Cl (Kh.getD 2 ⟨my,2,2,Cj,5,Rk 5,[],oF,oF,oF⟩) none 0 (Nb b) 1)
theorem uK{W:Ca}{B b i:Nat}{p:Pv}{c:Nat}{r:List Ea}(h:qb W j 38 (Ls b).toArray)(hd:(Ls b).drop (i*23)=Cl p none 0 A c++r)(f:p.cond.In W B (.agg #[pa p.cond.op,.string p.cond.name,pa p.cond.cmp,pa p.cond.n,.slice none p.cond.kids.length 0]))(g:Sc W B p.except (.slice A p.except.length c))(k:p.id.size<=maxLen)(l:p.name.size<=maxLen):jm W B p j (0+i*23):=by
 refine⟨none,0,A,c,λa v d=>?_,f,g,k,l⟩;have m:=(List.getElem?_eq_some_iff.1 d).1
 have e:(Ls b)[0+i*23+a]? =some v:=by{rw[Vb, <-List.getElem?_drop,hd,te m];exact d}
 rw[h.cell]
 simpa using e
theorem Rz(w:Ca)(B:Nat){a:Na}{n:Int}(b:Wh Z)(c:Wh n)(d:a.size<=maxLen):(Fo.mk 3 a Z n []).In w B (.agg #[pa 3,.string a,pa Z,pa n,Ua]):=
 ⟨none,0,rfl,⟨Ba,Ba⟩,b,c,d,wa _,ja,λh=>absurd rfl h⟩
theorem PV{W:Ca}{b B:Nat}(h:qb W j 38 (Ls b).toArray)(f:qb W b 9 #[.string my])(hlt:j<B)(c:b<B):Sa jm 23 W B Kh (.slice (Nb j) 3 3):=by
 have e:Sc W B [] Ua:=⟨none,0,rfl,wa _,Lb _,λh=>absurd rfl h⟩
 have g:Sc W B [my] (.slice _ 1 1):=⟨_,1,rfl,wa _,Ba,λ_=>⟨b,0,rfl,c,λi d=>by
  obtain rfl:i=0:=by grind
  exact f.cell 0⟩⟩
 have a:∀n,0<=n->n<=150->Wh n:=λn k l=>⟨ja,ja⟩
 refine⟨_,3,rfl,Ba,Ba,λ_=>⟨j,0,rfl,hlt,λi d=>?_⟩⟩
 match i,d with| 0,_=>exact uK h rfl (Rz _ _ (a _ Ba Ba) (a _ Ba Ba) Ba) e (by show 2<=maxLen;decide) (by show 3<=maxLen;decide)| 1,_=>exact uK h rfl (Rz _ _ (a _ Ba Ba) (a _ Ba Ba) Ba) e (by show 2<=maxLen;decide) (by show 3<=maxLen;decide)| 2,_=>exact uK h rfl (Rz _ _ (a _ Ba Ba) (a _ Ba Ba) Ba) g (by show 2<=maxLen;decide) (by show 6<=maxLen;decide)
theorem DN(b:Nat)(w:Ca):(Instr.buildSlice 25 3 #[(0,.agg ((Ls b).take 23).toArray),(1,.agg (((Ls b).drop 23).take 23).toArray),(2,.agg ((Ls b).drop 46).toArray)]).run prog w=.ok (.slice (Nb w.heap.size) 3 3) (w.alloc (.cells (Ls b).toArray 38)):=by kernel_rfl
theorem Rv{ops:Array Oper}{w:Ca}{a:Act->Ca->Prop}{Q:Exit->Act->Ca->Prop}{E:Prop}{k:Ca}{d:Array Ea}(_:Hid (qb k j 9 d))(b:M.guard=none)(c x1 x2:Operand)(i:M.op=.buildSlice 25 3 #[(0,c),(1,x1),(2,x2)])
  (e:K.eval c=.agg ((Ls j).take 23).toArray) (f:K.eval x1=.agg (((Ls j).drop 23).take 23).toArray) (g:K.eval x2=.agg ((Ls j).drop 46).toArray) (h:a (K.put M.dst (.slice (Nb w.heap.size) 3 3)) (w.alloc (.cells (Ls j).toArray 38))):
  if Region.wanted M (yielded ops K.tmps)=true then Oper.wp prog M K w a Q else E:=by
 rw[Ga (by simp[Region.wanted,b])];unfold Oper.wp execOp;simp only[i,Le,Eb,sd,e,f,g,Sem.run_bind,DN,Result.andThen_ok,Sem.run_pure];exact h
theorem eY:∀x∈dJ,x.name.size<=maxLen/\Wh x.kind/\Wh x.lo/\Wh x.hi:=by
 intro x a;unfold Wh;rcases List.mem_cons.1 a with rfl|a
 {exact⟨Ba,Ba,Ba,Ba⟩}
 {rw[List.mem_singleton.1 a];exact⟨Ba,Ba,Ba,Ba⟩}
theorem FE{w:Ca}{b:Nat}{c:TypeId}{d a:Array Ea}(h:qb w j E d)(f:qb w b c a)(g:E≠c):j≠b:=by
 rintro rfl;have e:=Qe ((show w.heap[j]? =_ from h).symm.trans f)
 grind
theorem aeb{w W c:Ca}{Y b:Nat}(m:Da w.heap.size w W)(_:w.heap.size+3<W.heap.size)(l:Da W.heap.size W c)(f:qb c w.heap.size 28 #[Ua,Ua,Ua])(p:qb W (w.heap.size+1) 120 #[.string (⟨#[105,110,99,111,109,101]⟩:Na),pa 2,pa 0,pa 9,.string (⟨#[109,101,109,98,101,114]⟩:Na),pa 1,pa 0,pa 1])(h:qb c j 38 (Ls b).toArray)(i:qb c b 9 #[.string my])(g:qb c Y 3 #[pa 0,pa 0,pa 0])(q:(c.cell? (Ya (w.heap.size+2))=some (.slice (Nb (w.heap.size+1)) 2 2)/\c.cell? (Ya (w.heap.size+3))=some (pa 3)/\c.cell? (Ja (w.heap.size+3) 1)=some (.string (⟨#[109,101,109,98,101,114]⟩:Na))/\c.cell? (Ja (w.heap.size+3) 2)=some (pa 1)/\c.cell? (Ja (w.heap.size+3) 3)=some (pa 1)/\c.cell? (Ja (w.heap.size+3) 4)=some Ua)):
  (λc=>(c.cell? (Ya (w.heap.size+2))=some (.slice (Nb (w.heap.size+1)) 2 2)/\c.cell? (Ya (w.heap.size+3))=some (pa 3)/\c.cell? (Ja (w.heap.size+3) 1)=some (.string (⟨#[109,101,109,98,101,114]⟩:Na))/\c.cell? (Ja (w.heap.size+3) 2)=some (pa 1)/\c.cell? (Ja (w.heap.size+3) 3)=some (pa 1)/\c.cell? (Ja (w.heap.size+3) 4)=some Ua)) (((c.setCell (Ya w.heap.size) (.slice (Nb (w.heap.size+1)) 2 2)).setCell (Ja w.heap.size 1) (.slice (Nb j) 3 3)).setCell (Ja w.heap.size 2) (.slice (Nb Y) 3 3))/\Hid (qb (((c.setCell (Ya w.heap.size) (.slice (Nb (w.heap.size+1)) 2 2)).setCell (Ja w.heap.size 1) (.slice (Nb j) 3 3)).setCell (Ja w.heap.size 2) (.slice (Nb Y) 3 3)) w.heap.size 28 #[.slice (Nb (w.heap.size+1)) 2 2,.slice (Nb j) 3 3,.slice (Nb Y) 3 3])/\Hid (Da w.heap.size w (((c.setCell (Ya w.heap.size) (.slice (Nb (w.heap.size+1)) 2 2)).setCell (Ja w.heap.size 1) (.slice (Nb j) 3 3)).setCell (Ja w.heap.size 2) (.slice (Nb Y) 3 3)))/\Hid (qb (((c.setCell (Ya w.heap.size) (.slice (Nb (w.heap.size+1)) 2 2)).setCell (Ja w.heap.size 1) (.slice (Nb j) 3 3)).setCell (Ja w.heap.size 2) (.slice (Nb Y) 3 3)) (w.heap.size+1) 120 #[.string (⟨#[105,110,99,111,109,101]⟩:Na),pa 2,pa 0,pa 9,.string (⟨#[109,101,109,98,101,114]⟩:Na),pa 1,pa 0,pa 1])/\Hid (qb (((c.setCell (Ya w.heap.size) (.slice (Nb (w.heap.size+1)) 2 2)).setCell (Ja w.heap.size 1) (.slice (Nb j) 3 3)).setCell (Ja w.heap.size 2) (.slice (Nb Y) 3 3)) j 38 (Ls b).toArray)/\Hid (qb (((c.setCell (Ya w.heap.size) (.slice (Nb (w.heap.size+1)) 2 2)).setCell (Ja w.heap.size 1) (.slice (Nb j) 3 3)).setCell (Ja w.heap.size 2) (.slice (Nb Y) 3 3)) b 9 #[.string my])/\Hid (qb (((c.setCell (Ya w.heap.size) (.slice (Nb (w.heap.size+1)) 2 2)).setCell (Ja w.heap.size 1) (.slice (Nb j) 3 3)).setCell (Ja w.heap.size 2) (.slice (Nb Y) 3 3)) Y 3 #[pa 0,pa 0,pa 0]):=by
 have e:∀k,k≠w.heap.size->((((c.setCell (Ya w.heap.size) (.slice (Nb (w.heap.size+1)) 2 2)).setCell (Ja w.heap.size 1) (.slice (Nb j) 3 3)).setCell (Ja w.heap.size 2) (.slice (Nb Y) 3 3))).heap[k]? =c.heap[k]? :=λk n=>by
  grind [heap_setCell_other]
 have d:=λk o n=>World.cell?_of_block (a:=Ja k o) (e k n)
 obtain⟨r,s,t,u,v,x⟩:=q;refine⟨⟨(d _ _ ja).trans r,(d _ _ ja).trans s,(d _ _ ja).trans t,(d _ _ ja).trans u,(d _ _ ja).trans v,(d _ _ ja).trans x⟩,((f.set 0 _).set 1 _).set 2 _,(((m.trans (l.mono m.size)).setCell (wa _) _).setCell (wa _) _).setCell (wa _) _,(e _ ja).trans (p.below l),(e _ (FE h f Ba)).trans h,(e _ (FE i f Ba)).trans i,(e _ (FE g f Ba)).trans g⟩
theorem dH(w:Ca):Db 23 #[] w λe r=>∃v,e=.returned v/\Da w.heap.size w r/\Gj r r.heap.size dJ Kh jr v:=by
 go_enter func23,ntmps23;go_upto_region 3 with(fail);have y:Da _ w ((((w.alloc (.cells #[Ua,Ua,Ua] 28)).alloc (.cells #[.string (⟨#[105,110,99,111,109,101]⟩),pa 2,pa 0,pa 9,.string (⟨#[109,101,109,98,101,114]⟩),pa 1,pa 0,pa 1] 120)).alloc (.cells #[.slice (Nb (w.heap.size+1)) 2 2] 24)).alloc (.cells #[pa 3,.string (⟨#[109,101,109,98,101,114]⟩),pa 1,pa 1,Ua] 32)):=((((za _ _).alloc (wa _) _).alloc Aa _).alloc (by simp;omega) _).alloc (by simp;omega) _;have D:qb ((((w.alloc _).alloc (.cells #[.string (⟨#[105,110,99,111,109,101]⟩),pa 2,pa 0,pa 9,.string (⟨#[109,101,109,98,101,114]⟩),pa 1,pa 0,pa 1] 120)).alloc (.cells #[.slice (Nb (w.heap.size+1)) 2 2] 24)).alloc (.cells #[pa 3,.string (⟨#[109,101,109,98,101,114]⟩),pa 1,pa 1,Ua] 32)) _ 28 _:=(((qb.new w 28 #[Ua,Ua,Ua]).alloc _).alloc _).alloc _
 have E:qb ((((w.alloc (.cells #[Ua,Ua,Ua] 28)).alloc (.cells #[.string (⟨#[105,110,99,111,109,101]⟩),pa 2,pa 0,pa 9,.string (⟨#[109,101,109,98,101,114]⟩),pa 1,pa 0,pa 1] 120)).alloc (.cells #[.slice (Nb (w.heap.size+1)) 2 2] 24)).alloc (.cells #[pa 3,.string (⟨#[109,101,109,98,101,114]⟩),pa 1,pa 1,Ua] 32)) (w.heap.size+1) 120 #[.string (⟨#[105,110,99,111,109,101]⟩),pa 2,pa 0,pa 9,.string (⟨#[109,101,109,98,101,114]⟩),pa 1,pa 0,pa 1]:=by{have q:=((qb.new (w.alloc (.cells #[Ua,Ua,Ua] 28)) 120 #[.string (⟨#[105,110,99,111,109,101]⟩),pa 2,pa 0,pa 9,.string (⟨#[109,101,109,98,101,114]⟩),pa 1,pa 0,pa 1]).alloc (.cells #[.slice (Nb (w.heap.size+1)) 2 2] 24)).alloc (.cells #[pa 3,.string (⟨#[109,101,109,98,101,114]⟩),pa 1,pa 1,Ua] 32);simpa only[Ia]using q}
 have F:qb ((((w.alloc (.cells #[Ua,Ua,Ua] 28)).alloc (.cells #[.string (⟨#[105,110,99,111,109,101]⟩),pa 2,pa 0,pa 9,.string (⟨#[109,101,109,98,101,114]⟩),pa 1,pa 0,pa 1] 120)).alloc (.cells #[.slice (Nb (w.heap.size+1)) 2 2] 24)).alloc (.cells #[pa 3,.string (⟨#[109,101,109,98,101,114]⟩),pa 1,pa 1,Ua] 32)) (w.heap.size+2) 24 #[.slice (Nb (w.heap.size+1)) 2 2]:=by{have q:=(qb.new ((w.alloc (.cells #[Ua,Ua,Ua] 28)).alloc (.cells #[.string (⟨#[105,110,99,111,109,101]⟩),pa 2,pa 0,pa 9,.string (⟨#[109,101,109,98,101,114]⟩),pa 1,pa 0,pa 1] 120)) 24 #[.slice (Nb (w.heap.size+1)) 2 2]).alloc (.cells #[pa 3,.string (⟨#[109,101,109,98,101,114]⟩),pa 1,pa 1,Ua] 32);simpa only[Ia]using q}
 have B:qb ((((w.alloc (.cells #[Ua,Ua,Ua] 28)).alloc (.cells #[.string (⟨#[105,110,99,111,109,101]⟩),pa 2,pa 0,pa 9,.string (⟨#[109,101,109,98,101,114]⟩),pa 1,pa 0,pa 1] 120)).alloc (.cells #[.slice (Nb (w.heap.size+1)) 2 2] 24)).alloc (.cells #[pa 3,.string (⟨#[109,101,109,98,101,114]⟩),pa 1,pa 1,Ua] 32)) (w.heap.size+3) 32 #[pa 3,.string (⟨#[109,101,109,98,101,114]⟩),pa 1,pa 1,Ua]:=by{have q:=qb.new (((w.alloc (.cells #[Ua,Ua,Ua] 28)).alloc (.cells #[.string (⟨#[105,110,99,111,109,101]⟩),pa 2,pa 0,pa 9,.string (⟨#[109,101,109,98,101,114]⟩),pa 1,pa 0,pa 1] 120)).alloc (.cells #[.slice (Nb (w.heap.size+1)) 2 2] 24)) 32 #[pa 3,.string (⟨#[109,101,109,98,101,114]⟩),pa 1,pa 1,Ua];simpa only[Ia]using q}
 obtain⟨W,M⟩:∃W,((((w.alloc (.cells #[Ua,Ua,Ua] 28)).alloc (.cells #[.string (⟨#[105,110,99,111,109,101]⟩),pa 2,pa 0,pa 9,.string (⟨#[109,101,109,98,101,114]⟩),pa 1,pa 0,pa 1] 120)).alloc (.cells #[.slice (Nb (w.heap.size+1)) 2 2] 24)).alloc (.cells #[pa 3,.string (⟨#[109,101,109,98,101,114]⟩),pa 1,pa 1,Ua] 32))=W:=⟨_,rfl⟩;rw[M]at y D E F B⊢;have C:=la y;have Q:=la D;have A:=la E;have H:=B.lt
 have g:Hid (∀r,Da W.heap.size W r->Hid (r.cell? (Ya (w.heap.size+2))=some (.slice (Nb (w.heap.size+1)) 2 2)/\r.cell? (Ya (w.heap.size+3))=some (pa 3)/\r.cell? (Ja (w.heap.size+3) 1)=some (.string (⟨#[109,101,109,98,101,114]⟩:Na))/\r.cell? (Ja (w.heap.size+3) 2)=some (pa 1)/\r.cell? (Ja (w.heap.size+3) 3)=some (pa 1)/\r.cell? (Ja (w.heap.size+3) 4)=some Ua)):=λr h=>by{have s:=F.below h;have z:=B.below h;exact⟨s.cell 0,z.cell 0,z.cell 1,z.cell 2,z.cell 3,z.cell 4⟩}
 clear M y D E F B
 go_cut[] (λt=>∃(X Y b:Nat),Hid (qb t w.heap.size 28 #[.slice (Nb (w.heap.size+1)) 2 2,.slice (Nb X) 3 3,.slice (Nb Y) 3 3])/\Hid (Da w.heap.size w t)/\Hid (qb t (w.heap.size+1) 120 #[.string (⟨#[105,110,99,111,109,101]⟩),pa 2,pa 0,pa 9,.string (⟨#[109,101,109,98,101,114]⟩),pa 1,pa 0,pa 1])/\Hid (qb t X 38 (Ls b).toArray)/\Hid (qb t b 9 #[.string my])/\Hid (qb t Y 3 #[pa 0,pa 0,pa 0]))
 case first=>
  have c:Hid (Da W.heap.size W _):=(za _ _).drew;refine wp_region_held_drew (S:=λr=>Hid (r.cell? _=some _/\r.cell? _=some _/\r.cell? _=some _/\r.cell? _=some _/\r.cell? _=some _/\r.cell? _=some _)) Ha (g.o _ c.o) (λMb=>?_);generalize W.drew=w0 at*
  refine tk 0 ?v0 ?y0 ?_
  case y0=>(intro l Be;obtain⟨N,y1,y2,y3,y4,O⟩:=Be.o;go_simp;try with_reducible rfl)
  refine tk 5 ?v5 ?y5 ?_
  case y5=>(intro l Be;obtain⟨N,y1,y2,y3,y4,O⟩:=Be.o;go_simp;try with_reducible rfl)
  all_goals first
   | (have x:=m;have s:=n;clear x s;refine tr 1 (λk d=>?_))
   | (have x:=m;clear x;refine tt 1 9 (λk d=>?_) (λk d=>?_);rotate_left;(go_simp;refine Sz d (λl h=>g.o _ (c.o.trans (h.o.mono c.o.size))) ?_;intro l a f Mb;(try have m:=la (m.o.below a.o));(try have p:=la (p.o.below a.o));have n:=f;have c:=la (c.o.trans (a.o.mono c.o.size));clear d a f);refine tr 1 (λk d=>?_))
   | (have s:=n;clear s;refine tt 1 6 (λk d=>?_) (λk d=>?_);rotate_left;(go_simp;refine Sz d (λl h=>g.o _ (c.o.trans (h.o.mono c.o.size))) ?_;intro l a f Mb;(try have n:=la (n.o.below a.o));have m:=f;have c:=la (c.o.trans (a.o.mono c.o.size));clear d a f;refine tp 7 ?_);refine tr 1 (λk d=>?_))
   | (refine t3 1 6 9 (λk d=>?_) (λk d=>?_) (λk d=>?_);rotate_left;(go_simp;refine Sz d (λl h=>g.o _ (c.o.trans (h.o.mono c.o.size))) ?_;intro l a f Mb;(try have n:=la (n.o.below a.o));have m:=f;have c:=la (c.o.trans (a.o.mono c.o.size));clear d a f;refine tp 7 ?_);refine tt 1 9 (λk d=>?_) (λk d=>?_);rotate_left;(go_simp;refine Sz d (λl h=>g.o _ (c.o.trans (h.o.mono c.o.size))) ?_;intro l a f Mb;(try have m:=la (m.o.below a.o));(try have p:=la (p.o.below a.o));have n:=f;have c:=la (c.o.trans (a.o.mono c.o.size));clear d a f);refine tr 1 (λk d=>?_);rotate_left;(go_simp;refine Sz d (λl h=>g.o _ (c.o.trans (h.o.mono c.o.size))) ?_;intro l a f Mb;(try have m:=la (m.o.below a.o));(try have p:=la (p.o.below a.o));have n:=f;have c:=la (c.o.trans (a.o.mono c.o.size));clear d a f);refine tt 1 6 (λk d=>?_) (λk d=>?_);rotate_left;(go_simp;refine Sz d (λl h=>g.o _ (c.o.trans (h.o.mono c.o.size))) ?_;intro l a f Mb;(try have n:=la (n.o.below a.o));have m:=f;have c:=la (c.o.trans (a.o.mono c.o.size));clear d a f;refine tp 7 ?_);refine tr 1 (λk d=>?_))
  all_goals
   go_simp
   (go_at_call 52;refine(qH 5 _).mono ?_;rintro e l ⟨rfl,a⟩)
   refine d.o _ _ (g.o _ (c.o.trans (a.mono c.o.size))) (λMb=>?_)
   (try have m:=la (m.o.below a))
   (try have n:=la (n.o.below a))
   have c:=la (c.o.trans (a.mono c.o.size));clear d a;refine tp 2 ?_
  all_goals first
   | (have x:=m;have s:=n;clear x s;refine tr 3 (λk d=>?_))
   | (have x:=m;clear x;refine tt 3 9 (λk d=>?_) (λk d=>?_);rotate_left;(go_simp;refine Sz d (λl h=>g.o _ (c.o.trans (h.o.mono c.o.size))) ?_;intro l a f Mb;(try have m:=la (m.o.below a.o));(try have p:=la (p.o.below a.o));have n:=f;have c:=la (c.o.trans (a.o.mono c.o.size));clear d a f);refine tr 3 (λk d=>?_))
   | (have s:=n;clear s;refine tt 3 6 (λk d=>?_) (λk d=>?_);rotate_left;(go_simp;refine Sz d (λl h=>g.o _ (c.o.trans (h.o.mono c.o.size))) ?_;intro l a f Mb;(try have n:=la (n.o.below a.o));have m:=f;have c:=la (c.o.trans (a.o.mono c.o.size));clear d a f;refine tp 7 ?_);refine tr 3 (λk d=>?_))
   | (refine t3 3 6 9 (λk d=>?_) (λk d=>?_) (λk d=>?_);rotate_left;(go_simp;refine Sz d (λl h=>g.o _ (c.o.trans (h.o.mono c.o.size))) ?_;intro l a f Mb;(try have n:=la (n.o.below a.o));have m:=f;have c:=la (c.o.trans (a.o.mono c.o.size));clear d a f;refine tp 7 ?_);refine tt 3 9 (λk d=>?_) (λk d=>?_);rotate_left;(go_simp;refine Sz d (λl h=>g.o _ (c.o.trans (h.o.mono c.o.size))) ?_;intro l a f Mb;(try have m:=la (m.o.below a.o));(try have p:=la (p.o.below a.o));have n:=f;have c:=la (c.o.trans (a.o.mono c.o.size));clear d a f);refine tr 3 (λk d=>?_);rotate_left;(go_simp;refine Sz d (λl h=>g.o _ (c.o.trans (h.o.mono c.o.size))) ?_;intro l a f Mb;(try have m:=la (m.o.below a.o));(try have p:=la (p.o.below a.o));have n:=f;have c:=la (c.o.trans (a.o.mono c.o.size));clear d a f);refine tt 3 6 (λk d=>?_) (λk d=>?_);rotate_left;(go_simp;refine Sz d (λl h=>g.o _ (c.o.trans (h.o.mono c.o.size))) ?_;intro l a f Mb;(try have n:=la (n.o.below a.o));have m:=f;have c:=la (c.o.trans (a.o.mono c.o.size));clear d a f;refine tp 7 ?_);refine tr 3 (λk d=>?_))
  all_goals
   go_simp
   (go_at_call 52;refine(qH 2 _).mono ?_;rintro e l ⟨rfl,a⟩)
   refine d.o _ _ (g.o _ (c.o.trans (a.mono c.o.size))) (λMb=>?_)
   (try have m:=la (m.o.below a))
   (try have n:=la (n.o.below a))
   have c:=la (c.o.trans (a.mono c.o.size));clear d a;refine tp 4 ?_
  all_goals first
   | (have x:=m;have s:=n;clear x s;refine tr 8 (λk d=>?_))
   | (have x:=m;clear x;refine tt 8 9 (λk d=>?_) (λk d=>?_);rotate_left;(go_simp;refine Sz d (λl h=>g.o _ (c.o.trans (h.o.mono c.o.size))) ?_;intro l a f Mb;(try have m:=la (m.o.below a.o));(try have p:=la (p.o.below a.o));have n:=f;have c:=la (c.o.trans (a.o.mono c.o.size));clear d a f);refine tr 8 (λk d=>?_))
   | (have s:=n;clear s;refine tr 6 (λk d=>?_);(go_simp;refine Sz d (λl h=>g.o _ (c.o.trans (h.o.mono c.o.size))) ?_;intro l a f Mb;(try have n:=la (n.o.below a.o));have m:=f;have c:=la (c.o.trans (a.o.mono c.o.size));clear d a f;refine tp 7 ?_);refine tr 8 (λk d=>?_))
   | (refine tt 6 9 (λk d=>?_) (λk d=>?_);(go_simp;refine Sz d (λl h=>g.o _ (c.o.trans (h.o.mono c.o.size))) ?_;intro l a f Mb;(try have n:=la (n.o.below a.o));have m:=f;have c:=la (c.o.trans (a.o.mono c.o.size));clear d a f;refine tp 7 ?_);refine tt 8 9 (λk d=>?_) (λk d=>?_);rotate_left;(go_simp;refine Sz d (λl h=>g.o _ (c.o.trans (h.o.mono c.o.size))) ?_;intro l a f Mb;(try have m:=la (m.o.below a.o));(try have p:=la (p.o.below a.o));have n:=f;have c:=la (c.o.trans (a.o.mono c.o.size));clear d a f);refine tr 8 (λk d=>?_);rotate_left;(go_simp;refine Sz d (λl h=>g.o _ (c.o.trans (h.o.mono c.o.size))) ?_;intro l a f Mb;(try have m:=la (m.o.below a.o));(try have p:=la (p.o.below a.o));have n:=f;have c:=la (c.o.trans (a.o.mono c.o.size));clear d a f);refine tr 6 (λk d=>?_);(go_simp;refine Sz d (λl h=>g.o _ (c.o.trans (h.o.mono c.o.size))) ?_;intro l a f Mb;(try have n:=la (n.o.below a.o));have m:=f;have c:=la (c.o.trans (a.o.mono c.o.size));clear d a f;refine tp 7 ?_);refine tr 8 (λk d=>?_))
  all_goals
   apply Rv m rfl _ _ _ rfl Ra Ra Ra
   apply Sz d (λl h=>g.o _ (c.o.trans (h.o.mono c.o.size)))
   intro l a p Mb;have m:=la (m.o.below a.o)
   (try have n:=la (n.o.below a.o))
   have c:=la (c.o.trans (a.o.mono c.o.size));clear d a
   try simp only[Act.put,sA,sB,sC]
   first
    | (have s:=n;clear s)
    | (refine tr 9 (λk d=>?_);(go_simp;refine Sz d (λl h=>g.o _ (c.o.trans (h.o.mono c.o.size))) ?_;intro l a f Mb;(try have m:=la (m.o.below a.o));(try have p:=la (p.o.below a.o));have n:=f;have c:=la (c.o.trans (a.o.mono c.o.size));clear d a f))
   refine tp 10 ?_;refine tr 11 (λk d=>?_);have u:=la (Q.o.below c.o);have z0:=u.o.cell 0;have z1:=u.o.cell 1;have z2:=u.o.cell 2;have g0:=u.o.frozen 0;have g1:=u.o.frozen 1;have g2:=u.o.frozen 2
   go_simp
   obtain⟨Z,e1,e2,e3,e4,e5,e6⟩:=aeb C.o H c.o u.o A.o p.o m.o n.o Mb.o;refine d.o _ _ (la Z) (λMb=>?_);refine wpAnyH_done Ha ?_ _;go_wp2;go_meet;exact⟨_,_,_,e1,e2,e3,e4,e5,e6⟩
 case rest=>
  obtain⟨X,Y,b,u,c,A,K,J,L⟩:=hcut;rename Ca=>t
  have T:=u.o.cell 0;have U:=u.o.cell 1;have V:=u.o.cell 2;go_wp2
  have I:(loadCellsFrom _ 0 3 #[]).run _ t=.ok _ t:=
   run_loadCells_list (P:=prog) t _ _ (λj v hv=>by rw[Addr.add_mid,Vb,u.o.cell];simpa using hv)
  refine Fb (v:=.agg #[.slice (Nb (w.heap.size+1)) 2 2,.slice (Nb X) 3 3,.slice (Nb Y) 3 3]) (by simp only[results,results23,go_sem];simp[I];try rfl) rfl ?_
  have hd:Sa Jk 4 t t.heap.size dJ (.slice (Nb (w.heap.size+1)) 2 2):=by
   refine⟨_,2,rfl,Ba,Ba,λ_=>⟨_,0,rfl,A.o.lt,λi G=>?_⟩⟩;have R:=A.o
   match i,G with| 0,_=>exact⟨R.cell 0,R.cell 1,R.cell 2,R.cell 3,eY _ (Wa ..)⟩| 1,_=>exact⟨R.cell 4,R.cell 5,R.cell 6,R.cell 7,eY _ (Pa _ (Wa ..))⟩
  have ht:Sa (Ad (Value.int .i64)) 1 t t.heap.size jr (.slice (Nb Y) 3 3):=by
   refine⟨_,3,rfl,Ba,Ba,λ_=>⟨Y,0,rfl,L.o.lt,λi G=>?_⟩⟩;have R:=L.o
   match i,G with| 0,_=>exact R.cell 0| 1,_=>exact R.cell 1| 2,_=>exact R.cell 2
  exact⟨_,rfl,c.o,_,_,_,rfl,hd,PV K.o J.o K.o.lt J.o.lt,ht⟩
theorem rK(t:List Dn)(c:List Int)(vg u:Ea)(w:Ca)(B:Nat)(hB:B<=w.heap.size)(hg:Zd w B t vg)(hc:Ob w B c u):
  Db 21 #[vg,u] w λe g=>e=.returned (.bool (Kt t c t.length 0))/\Da w.heap.size w g:=by
 have HC:=la hc;obtain⟨_,rfl,E⟩:=hg;have DA:=la E;obtain⟨V,X,rfl,l1,l2,_⟩:=Sa.shape E;obtain⟨ac,cc,rfl,m1,m2,_⟩:=Sa.shape hc;unfold maxLen at l2 m2;obtain⟨R,hR⟩:∃R,Kt t c t.length 0=R:=⟨_,rfl⟩;rw[hR];have HR:Hid (R=Kt t c (t.length-0) 0):=hR.symm;clear hR;have s:Hid (Da _ w (w.alloc (.cells #[.slice V t.length X] 55))):=(za _ _).alloc (wa _) _;have C:Hid (qb _ w.heap.size 55 #[.slice V t.length X]):=qb.new _ _ _;have Sj:(w.alloc (.cells #[.slice V t.length X] 55)).heap.size=w.heap.size+1:=by simp
 obtain⟨W,hW⟩:∃W,(w.alloc (.cells #[.slice V t.length X] 55))=W:=⟨_,rfl⟩;rw[hW]at s C Sj;have HW:=la hW;have x0:=C.o.cell 0;clear E hc hW;go_enter func21,ntmps21;go_upto_region 1 with(fail);rw[HW.o];go_wp2
 go_loopw [5,11] (λav iv wr=>∃(j:Nat) (a:Int),j<=t.length/\iv=pa j/\av=pa a/\Hid (R=Kt t c (t.length-j) a)/\Hid (Da W.heap.size W wr)) (λ_ iv _=>t.length-(intOf iv).toNat)
 case atStart=>exact⟨0,0,ja,rfl,rfl,HR,za _ _⟩
 case round=>
  obtain⟨j,a,hj,rfl,rfl,y,hb⟩:=hrel;have hsz:=hb.o.size;have d:Hid _:=s.o.trans (hb.o.mono ja);clear x0 HR;have x0:=(C.o.below hb.o).cell 0;by_cases hlt:j<t.length
  ·have hf:t.length-j=(t.length-(j+1))+1:=by omega
   have f:=y.o;rw[hf,Kt]at f;clear hf;by_cases g1:a<0
   {(have g1d:decide (a<0)=true:=by simpa using g1);have k:=la (show R=false by rw[f,Ga ja]);go_wp2;go_ret;exact⟨Cb k.o.symm,d.o⟩}
   ·have g1d:decide (a<0)=false:=by simpa using g1
    by_cases Z:t.length<=a
    {(have g2d:decide (t.length<=a)=true:=by simpa using Z);have k:=la (show R=false by rw[f,Ga ja]);clear y f Z;go_wp2;go_ret;exact⟨Cb k.o.symm,d.o⟩}
    ·have g2d:decide (t.length<=a)=false:=by simpa using Z
     have ha0:0<=a:=by omega
     have U5:a<t.length:=by omega
     have N:a.toNat<t.length:=by omega
     rw[if_neg ja,Gd _ _ _ N]at f;obtain⟨b,o,rfl,Tn,vc,vk,n0,n1,n2,n3,D,F⟩:=DA.o.at _ N;have q0:=(d.o.cell (by show b<w.heap.size;omega)).trans n0;have q1:=(d.o.cell (by show b<w.heap.size;omega)).trans n1;have q2:=(d.o.cell (by show b<w.heap.size;omega)).trans n2;have q3:=(d.o.cell (by show b<w.heap.size;omega)).trans n3;have v:=la f;generalize t[a.toNat]=x at*
     have HCU:=la D;have I:=la F;obtain⟨n,p,rfl,_⟩:=Sa.shape D;obtain⟨q,r,rfl,y1,y2,_⟩:=Sa.shape F;unfold maxLen at y2;clear n0 n1 n2 n3 D F y f g1 Z;have l:Da _ wr (wr.alloc (.cells #[pa x.fact,.slice n x.Sb.length p,.slice q x.kids.length r,.bool x.leaf] 104)):=(za _ _).alloc (wa _) _;have U:=la (qb.new wr 104 #[pa x.fact,.slice n x.Sb.length p,.slice q x.kids.length r,.bool x.leaf]);have p0:=U.o.cell 0;have p2:=U.o.cell 2;have p3:=U.o.cell 3;cases Y:((x.kids.length:Int)==0)with
     | true=>{(have m:x.kids=[]:=by rw[jq]at Y;simpa using Y);have k:=la (show R=x.leaf by rw[v.o,Ga m]);clear v m;go_wp2;go_ret;exact⟨Cb k.o.symm,d.o.trans (l.mono ja)⟩}
     | false=>
      have m:x.kids≠[]:=λe=>by rw[jq,e]at Y;simp at Y
      have i:=v.o;rw[if_neg m]at i;clear v;by_cases g3:x.fact<0
      {(have g3d:decide (x.fact<0)=true:=by simpa using g3);have k:=la (show R=false by rw[i,Ga ja]);go_wp2;go_ret;exact⟨Cb k.o.symm,d.o.trans (l.mono ja)⟩}
      ·have g3d:decide (x.fact<0)=false:=by simpa using g3
       by_cases g4:c.length<=x.fact
       {(have g4d:decide (c.length<=x.fact)=true:=by simpa using g4);have k:=la (show R=false by rw[i,Ga ja]);clear i g4 m;go_wp2;go_ret;exact⟨Cb k.o.symm,d.o.trans (l.mono ja)⟩}
       ·have g4d:decide (c.length<=x.fact)=false:=by simpa using g4
        have hf0:0<=x.fact:=by omega
        have Mu:x.fact<c.length:=by omega
        have O:x.fact.toNat<c.length:=by omega
        rw[if_neg ja,Gd _ _ _ O]at i;obtain⟨kb,ko,rfl,hkB,Q⟩:=Sa.one HC.o _ O;have P:=((d.o.trans (l.mono ja)).cell (by show kb<w.heap.size;omega)).trans Q;have DX:=qR m c[x.fact.toNat];have S:=VF x c[x.fact.toNat] (.slice n x.Sb.length p) (.slice q x.kids.length r);generalize c[x.fact.toNat]=M at*
        have HN:Hid (∀G,Hid (Da (wr.heap.size+1) (wr.alloc (.cells #[pa x.fact,.slice n x.Sb.length p,.slice q x.kids.length r,.bool x.leaf] 104)) G)->Db 51 #[.agg #[pa x.fact,.slice n x.Sb.length p,.slice q x.kids.length r,.bool x.leaf],pa M] G λe g=>e=.returned (pa (Mr x M))/\Hid (Da G.heap.size G g)):=λG hw=>S G B (by have:=hw.o.size;simp at this;omega) (Ob.below ((d.o.trans ((l.trans (hw.o.mono ja)).mono ja)).mono hB) HCU.o) (Ob.below ((d.o.trans ((l.trans (hw.o.mono ja)).mono ja)).mono hB) I.o)
        have J:Hid (∀g,Hid (Da (wr.heap.size+1) (wr.alloc (.cells #[pa x.fact,.slice n x.Sb.length p,.slice q x.kids.length r,.bool x.leaf] 104)) g)->(g.cell? (Ya wr.heap.size)=some (pa x.fact)/\g.cell? (Ja wr.heap.size 1)=some (.slice n x.Sb.length p)/\g.cell? (Ja wr.heap.size 2)=some (.slice q x.kids.length r)/\g.cell? (Ja wr.heap.size 3)=some (.bool x.leaf)/\g.cell? (Ja kb (ko+x.fact.toNat))=some (pa M))/\Hid (Da (wr.heap.size+1) (wr.alloc (.cells #[pa x.fact,.slice n x.Sb.length p,.slice q x.kids.length r,.bool x.leaf] 104)) g)):=by{intro g hw;have z:=U.o.below (by rw[Ia];exact hw.o);exact⟨⟨z.cell 0,z.cell 1,z.cell 2,z.cell 3,(hw.o.cell (by show kb<wr.heap.size+1;omega)).trans P⟩,hw⟩}
        have K:Hid (Da (wr.heap.size+1) _ ((wr.alloc (.cells #[pa x.fact,.slice n x.Sb.length p,.slice q x.kids.length r,.bool x.leaf] 104))).drew):=(za _ _).drew;generalize Mr x M=H at*
        clear S Q g3 g4;go_upto_region 11 with(fail)
        go_region_held3 (λg=>(g.cell? (Ya wr.heap.size)=some (pa x.fact)/\g.cell? (Ja wr.heap.size 1)=some (.slice n x.Sb.length p)/\g.cell? (Ja wr.heap.size 2)=some (.slice q x.kids.length r)/\g.cell? (Ja wr.heap.size 3)=some (.bool x.leaf)/\g.cell? (Ja kb (ko+x.fact.toNat))=some (pa M))/\Hid (Da (wr.heap.size+1) (wr.alloc (.cells #[pa x.fact,.slice n x.Sb.length p,.slice q x.kids.length r,.bool x.leaf] 104)) g))
         (exact J.o _ La)
         ((go_at_call 51;refine(HN.o _ La).mono ?_;rintro e w8 ⟨rfl,Wu⟩;have L:Hid _:=K.o.trans (Wu.o.mono Aa)))
        clear p0 p2 p3 P J HN K;go_split_ands;have KP:=L.o.size;simp at KP;have A:Hid _:=hb.o.trans ((l.trans (L.o.mono ja)).mono hsz);by_cases g5:x.kids.length<=H
        {(have g5d:decide (x.kids.length<=H)=true:=by simpa using g5);have k:=la (show R=false by rw[i,Ga g5]);go_wp2;go_ret;exact⟨Cb k.o.symm,s.o.trans (A.o.mono ja)⟩}
        {(have g5d:decide (x.kids.length<=H)=false:=by simpa using g5);(have jF:H<x.kids.length:=ja);(have T:H.toNat<x.kids.length:=ja);rw[if_neg g5,Gd _ _ _ T]at i;obtain⟨jb,jo,hja,hjB,hjc⟩:=Sa.one I.o _ T;subst hja;have hj2:=((s.o.trans (A.o.mono ja)).cell (by show jb<w.heap.size;omega)).trans hjc;generalize x.kids[H.toNat]=av at*;have k:=la i;go_wp2;go_roundw;(case rel=>exact⟨_,av,ja,by go_num,rfl,k,A⟩);case measure=>simp[intOf];omega}
  ·have k:=la (show R=false by
    have h:=y.o
    rw[show t.length-j=0 by omega]at h
    exact h)
   go_wp2;go_ret;exact⟨Cb k.o.symm,d.o⟩
theorem vK(x y:List Int)(k:Nat)(h:k<x.length)(a:k<y.length):Aj (x.drop k) (y.drop k)=if x[k]=y[k]then Aj (x.drop (k+1)) (y.drop (k+1))else decide (x[k]<y[k]):=by
 grind [List.drop_eq_getElem_cons,Aj]
theorem nH(x y:List Int)(v u:Ea)(w:Ca)(B:Nat)(K:B<=w.heap.size)(i:Ob w B x v)(j:Ob w B y u):
  Db 20 #[v,u] w λe F=>e=.returned (.bool (Aj x y))/\Da w.heap.size w F:=by
 have r:=la i;have s:=la j;obtain⟨G,I,rfl,N,D,_⟩:=Sa.shape i;obtain⟨H,J,rfl,O,E,_⟩:=Sa.shape j;unfold maxLen at D E;obtain⟨R,g⟩:∃R,Aj x y=R:=⟨_,rfl⟩;rw[g];have c:Hid (R=Aj (x.drop 0) (y.drop 0)):=g.symm;clear i j g;go_enter func20,ntmps20;go_wp2
 go_loopw [5] (λm wr=>∃k:Nat,k<=x.length/\k<=y.length/\m=pa k/\Hid (R=Aj (x.drop k) (y.drop k))/\Hid (Da w.heap.size w wr)) (λm _=>x.length-(intOf m).toNat)
 case atStart=>exact⟨0,ja,ja,rfl,c,za _ _⟩
 case round=>
  obtain⟨k,L,C,rfl,d,f⟩:=hrel;clear c;by_cases hlt:k<x.length
  ·by_cases hlt2:k<y.length
   {obtain⟨b,o,rfl,z,A⟩:=Sa.one r.o k hlt;obtain⟨t,P,rfl,n,hc'⟩:=Sa.one s.o k hlt2;have Q:=(f.o.cell (by show b<w.heap.size;omega)).trans A;have S:=(f.o.cell (by show t<w.heap.size;omega)).trans hc';have a:=d.o;rw[vK x y k hlt hlt2]at a;generalize x[k]=p at*;generalize y[k]=q at*;have M:=f.o.size;cases e:(p !=q)with| true=>{have c:=la (show decide (p<q)=R by rw[a,if_neg (by simpa using e)]);clear a;go_wp2;go_quiet(fail);go_wp2;go_quiet(fail);go_wp2;go_ret;exact⟨Cb c.o,(f.o.trans (World.Md _ _ _)).trans (World.Md _ _ _)⟩}| false=>{(have c:Hid (R=Aj (x.drop (k+1)) (y.drop (k+1))):=by show _=_;rw[a,Ga (by simpa using e)]);clear a;go_wp2;go_quiet(fail);go_wp2;go_roundw;(case rel=>exact⟨_,ja,ja,by go_num,c,f.o.trans (World.Md _ _ _)⟩);case measure=>simp[intOf];omega}}
   ·have c:=la (show R=false by
     have h:=d.o
     rw[Bb (l:=y) ja]at h
     rw[h];cases x.drop k<;>rfl)
    go_wp2;go_ret;exact⟨Cb c.o.symm,f.o⟩
  ·have c:=la (show R=false by
    have h:=d.o
    rw[Bb ja]at h
    exact h)
   go_wp2;go_ret;exact⟨Cb c.o.symm,f.o⟩
end Go.Proofs.YtdipkbobalnilaaGreatDoor
