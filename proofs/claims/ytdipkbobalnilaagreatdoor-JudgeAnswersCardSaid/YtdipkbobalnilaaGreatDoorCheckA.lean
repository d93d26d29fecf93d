/- The walk of formula.check: what is wrong with a formula. A bound on the number of nodes. -/
import Derived.Test.YtdipkbobalnilaaGreatDoorAl
import Derived.Test.YtdipkbobalnilaaGreatDoorFactA
import Derived.Test.YtdipkbobalnilaaGreatDoorLexB
import Derived.Shelf.AbstractIn
set_option maxRecDepth 100000
set_option maxHeartbeats 8000000
namespace Go.Proofs.YtdipkbobalnilaaGreatDoor
open Tryz
variable{j:Nat}{E:TypeId}
section
open Go.RowKit
attribute [local go_sem] Oper.semAt_some
mutual
def ch:Fo->List Fo
 | .mk d b c n a=>.mk d b c n a::Ig a
def Ig:List Fo->List Fo
 | []=>[]
 | k::ks=>ch k++Ig ks
end
mutual
theorem UI:∀(f:Fo),(ch f).length=f.size
 | .mk d b c n a=>by simp[ch,Fo.size,Dp a]
theorem Dp:∀(a:List Fo),(Ig a).length=Fo.Cd a
 | []=>by simp[Ig,Fo.Cd]
 | k::a=>by simp[Ig,Fo.Cd,UI k,Dp a]
end
theorem Ep:∀(a b:List Fo),Ig (a++b)=Ig a++Ig b
 | [],b=>by simp[Ig]
 | k::a,b=>by simp[Ig,Ep a b]
theorem xD(l:List Fo)(k:Nat)(h:k<l.length):Ig (l.take (k+1))=Ig (l.take k)++ch l[k]:=by
 rw[Ta h,Ep];simp[Ig]
theorem uF(l:List Fo)(k:Nat):Ig (l.take k)<+: Ig l:=by
 have h:=Ep (l.take k) (l.drop k);rw[bh]at h;exact⟨_,h.symm⟩
structure ig (W W' : Ca) : Prop where
 size:W.heap.size<=W'.heap.size
 cells:∀(k:Nat) (cs:Array Ea) (t:TypeId) (z:Nat×Nat),W.heap[k]? =some (Obj.cells cs t z)->W'.heap[k]? =some (Obj.cells cs t z)
theorem ig.refl(W:Ca):ig W W:=⟨ja,λ_ _ _ _ h=>h⟩
theorem ig.t:∀ {A B C:Ca},ig A B->ig B C->ig A C:=λh k=>⟨ub h.1 k.1,λi a t z b=>k.2 i a t z (h.2 i a t z b)⟩
theorem ig.b:∀(W:Ca) (l:Nat) (o c:Obj),j<=l->W.heap[l]? =some o->o.isCells=false->o.isWalk=false->ig W (W.putObj l c):=λW l o c _ d f _=>
 ⟨De (by simp_all),λk g t z a=>(World.putObj_heap_other (λe=>by subst e;rw[d]at a;cases a;cases f)).trans a⟩
theorem ig.below{W a:Ca}(h:Da W.heap.size W a):ig W a:=⟨h.size,λk _ _ _ b=>(h.block k (Array.getElem?_eq_some_iff.1 b).1).trans b⟩
theorem ig.Pd{W a:Ca}(h:ig W a){b:Array Ea}(c:qb W j E b):qb a j E b:=h.2 _ _ _ _ c
theorem ig.cell{W a:Ca}(h:ig W a){p:Addr}{v:Ea}(b:W.cell? p=some v):a.cell? p=some v:=by
 grind [World.cell?,cells]
mutual
theorem Fo.In.keep{w a:Ca}{B:Nat}(p:ig w a):∀(f:Fo) (v:Ea),f.In w B v->f.In a B v
 | .mk t s c n r,v=>by{rintro⟨d,cap,q,e,g,h,i,j,k,l⟩;refine⟨d,cap,q,e,g,h,i,j,k,λhne=>?_⟩;obtain⟨b,off,o,hlt,m⟩:=l hne;exact⟨b,off,o,hlt,Fo.Vk.keep p r off m⟩}
theorem Fo.Vk.keep{w e:Ca}{B b:Nat}(a:ig w e):∀(c:List Fo) (off:Nat),Fo.Vk w B c b off->Fo.Vk e B c b off
 | [],_=>λ_=>trivial
 | k::c,off=>by{rintro⟨⟨l,m,n,o,p,f,g,h,c3,i,j⟩,d⟩;exact⟨⟨l,m,n,o,p,a.cell f,a.cell g,a.cell h,a.cell c3,a.cell i,Fo.In.keep a k _ j⟩,Fo.Vk.keep a c _ d⟩}
end
abbrev wy(a:Ca)(B:Nat):={x:Fo×Ea // x.1.In a B x.2}
def wy.fo{a:Ca}{B:Nat}(x:wy a B):Fo:=x.1.1
theorem mM{F:Fence}(hd:F.depth=none)(k:Nat):F.room k:=λd h=>by grind
theorem mP{F:Fence}(hd:F.depth=none)(f:Nat){P:Program}{l:Nat}{args:Array Ea}{W:Ca}{R:Ending->Ca->Prop}(h:YieldAt F j P l args W R):YieldAt F f P l args W R:=by
 obtain⟨d,tmps,assign,body,e,a⟩:=h;exact⟨d,tmps,assign,body,e,a.1,λc b _=>a.2 c b (mM hd _)⟩
abbrev bL(b:Ca)(B:Nat)(l N:Nat)(J c:List (wy b B)->Ca->Prop):Prop:=
 ∀m pre (x:wy b B) W,J pre W->pre.length<N->YieldAt Fence.wide m prog l #[x.1.2] W λe a=>(e=.returned (.bool true)/\J (pre++[x]) a/\ig W a)\/(e=.returned (.bool false)/\c (pre++[x]) a)
theorem nM(C:Ca)(B Bh l yb vb N:Nat)(J Jx:List (wy C B)->Ca->Prop)(hJ:AbidesFrom Bh J)(hY:bL C B l N J Jx)(M:Nat):
  ∀(f:Fo) (n:Nat) (v:Ea) (pre:List (wy C B)) (W:Ca),f.size<=M->f.In C B v->ig C W->qb W yb 203 #[.func (.yield l) #[] #[]]->
   qb W vb 203 #[.func (.func 188) #[] #[.pointer (some ⟨yb,0,none⟩),.pointer (some ⟨vb,0,none⟩)]]->J pre W->pre.length+f.size<=N->
   CallsIn Fence.wide n prog 188 #[v,Ma yb,Ma vb] W λe W'=>
    (e=.returned (.bool true)/\∃g:List (wy C B),g.map wy.fo=ch f/\J (pre++g) W'/\ig W W')\/
    (e=.returned (.bool false)/\∃g:List (wy C B),g.map wy.fo<+: ch f/\Jx (pre++g) W'):=by
 induction M with
 | zero=>intro f _ _ _ _ h;have:=f.size_pos;omega
 | succ M ih=>
 intro f n v pre W hM hf hk z T G hN;have IH:=la ih;have HY:=la hY;have HJ:=la hJ;clear ih hY hJ;have HF:=la hf;obtain⟨Y,V,c,X,a⟩:=f;obtain⟨ao,cap,rfl,_,_,_,_,h5,h6,h7⟩:=hf;unfold maxLen at h6;have H7:=la h7;have p:Da _ W (W.alloc (.cells #[pa Y,.string V,pa c,pa X,.slice ao a.length cap] 32)):=(za _ _).alloc (wa _) _;have Q:=qb.new W 32 #[pa Y,.string V,pa c,pa X,.slice ao a.length cap];have H:=xj HJ.o G p;obtain⟨fn,tmps,assign,body,hy,hR⟩:=HY.o (n-1) pre ⟨⟨_,_⟩,HF.o⟩ _ H (by rw[Fo.size]at hN;omega);have hyc:=(z.below p).cell 0;have HYB:=la z;have HVB:=la T;have E:=la p;have lP:=la Q;have HR:=la hR;have HKW:=la hk;clear h7 p Q hR z T G H hk
 dsimp only at hy
 refine callsIn_of_wp func188 rfl trivial ?_ rfl;simp only[ntmps188,Rf,Qb,nd,Re,Se,Sf,Xe,Tb,Cc];have hno:∀k,(Fence.wide.depth.isSome=true->1<=k):=λk h=>by cases h
 gi_wp2;refine⟨hno _,?_⟩;refine HR.o.mono ?_;rintro e W1 (⟨rfl,I,q⟩|⟨rfl,ez⟩)
 {have w:=q.Pd lP.o;have c4:W1.cell? _=some (.slice ao _ cap):=w.cell 4;have S:=q.Pd (HVB.o.below E.o);have x:=la ((ig.below E.o).t q);have nP:=la S;have HJ2:=la I;clear w q S I;gi_wp2;gi_loopw [14] (λvi wr=>∃(k:Nat) (g:List _),k<=a.length/\vi=pa k/\Hid (g.map wy.fo=.mk Y V c X a::Ig (a.take k))/\Hid (J (pre++g) wr)/\Hid (ig W1 wr)) (λvi _=>a.length-(intOf vi).toNat);(case atStart=>exact⟨0,[⟨⟨_,_⟩,_⟩],ja,rfl,rfl,HJ2,la (ig.refl _)⟩);case round=>(obtain⟨k,g,hk,rfl,u,K,j⟩:=hrel;by_cases hlt:k<a.length;{obtain⟨b,off,rfl,Tn,hL⟩:=H7.o (by intro h;simp[h]at hlt);have d:=HKW.o.t (x.o.t j.o);obtain⟨ka,kc,g0,g1,g2,g3,g4,gk⟩:=Fo.Vk.get a off k hlt hL;have c0:=d.cell g0;have c1:=d.cell g1;have c2:=d.cell g2;have c3:=d.cell g3;have c4:=d.cell g4;have s:=j.o.Pd nP.o;have hv0:=s.cell 0;have wU:=s.lt;have U:=(x.o.t j.o).Pd HYB.o;have R:=xD a k hlt;have UW:=Fo.Eh a k hlt;have hlen:g.length=1+Fo.Cd (a.take k):=by{have h1:=congrArg List.length u.o;rw[Va,Qb,Dp]at h1;omega};have Sj:=Fo.Al a k hlt;have Qu:=Fo.Bl a (k+1);(have L:a[k].size<=M:=by rw[Fo.size]at hM;omega);(have O:(pre++g).length+a[k].size<=N:=by rw[Fo.size]at hN;rw[Qa];omega);generalize JY:a[k]=D at*;have i:Da _ wr (wr.alloc (.cells #[pa D.op,.string D.name,pa D.cmp,pa D.n,.slice ka D.kids.length kc] 32)):=(za _ _).alloc (wa _) _;have hI:=IH.o D (n-1) _ _ _ L gk (d.t (ig.below i)) (U.below i) (s.below i) (xj HJ.o K.o i) O;have HI:=la hI;have Z:=la i;have F:=la R;have HKR:=j;have m:=u;clear hI i R d gk g0 g1 g2 g3 g4 hlen Sj Qu L O s U j u JY hL;gi_wp2_with (refine⟨trivial,hno _,?_⟩;gi_at_call 188;refine HI.o.mono ?_;rintro e W3 (⟨rfl,zs,y,A,LY⟩|⟨rfl,zs,y,A⟩));{have wO:=la y;go_roundw;(case rel=>(exact⟨k+1,g++zs,ja,by go_num,by show _=_;rw[Pb,m.o,wO.o,F.o,Cc],by rw[<-Ic];exact A,HKR.o.t ((ig.below Z.o).t LY)⟩));case measure=>simp[intOf];omega};{go_ret;refine .inr ⟨rfl,_,?_,by rw[<-Ic];exact A⟩;rw[Pb,m.o,Cc,ch];obtain⟨r,hr⟩:=y;obtain⟨r',hr'⟩:=uF a (k+1);exact⟨r++r',by rw[Cc, <-hr',F.o, <-hr];simp⟩}};{have P:a.take k=a:=Kc ja;have m:=la (show g.map wy.fo=ch (.mk Y V c X a) by rw[u.o,P,ch]);gi_wp2;go_ret;exact .inl ⟨rfl,g,m.o,K.o,x.o.t j.o⟩})}
 {gi_wp2;go_ret;exact .inr ⟨rfl,_,⟨_,rfl⟩,ez⟩}
theorem oM(f:Fo)(v:Ea)(w:Ca)(B:Nat)(b:f.In w B v):
  Db 154 #[v] w λe c=>e=.returned (.func (.func 187) #[] #[Ma w.heap.size])/\∃a,v=.agg a/\c=w.alloc (.cells a 32):=by
 obtain⟨d,cap,rfl⟩:=b.shape;go_enter func154,ntmps154;go_wp2;go_ret;exact⟨rfl,_,rfl,rfl⟩
theorem Wk{P:Program}{w:Ca}{a:Addr}{m:Mode}(f:Fn)(x y:Array Ea):(store a (.func f x y) m).run P w=stored P w a (.func f x y) m:=Go.run_store P w a _ m rfl
section
attribute [local go_sem] Wk
theorem VI(n:Nat)(i:Ca)(B A:Nat)(f:Fo)(z:Array Ea)(w:Ca)(F:f.In i B (.agg z))(P:ig i w)(r:qb w A 32 z):
  SeqStopsK Fence.wide n prog 187 #[Ma A] (λx:wy i B=>#[x.1.2]) ig (λs=>s.map wy.fo=ch f) (λs=>s.map wy.fo<+: ch f) f.size w:=
 λl J v W q j p E C=>by
 have hno:∀k,(Fence.wide.depth.isSome=true->1<=k):=λk h=>by cases h
 have g:bL i B l _ J v:=λm pre x W O Q=>mP rfl m (E pre x W O Q)
 have a:=r.below q;have N:=a.lt;have G:=la F;obtain⟨T,cap,hcs⟩:=F.shape;cases hcs
 have I:=a.cell 0;have K:=a.cell 1;have L:=a.cell 2;have c3:=a.cell 3;have M:=a.cell 4;simp at I K L c3 M;have y:=(qb.new W 203 #[.func (.yield l) #[] #[]]).below ((za _ _).alloc (wa _) (.cells #[.func (.func 188) #[] #[.pointer (some ⟨W.heap.size,0,none⟩),.pointer (some ⟨W.heap.size+1,0,none⟩)]] 203));have b2:=qb.new (W.alloc (.cells #[.func (.yield l) #[] #[]] 203)) 203 #[.func (.func 188) #[] #[.pointer (some ⟨W.heap.size,0,none⟩),.pointer (some ⟨W.heap.size+1,0,none⟩)]];rw[Ia]at b2;have b:Da _ W ((W.alloc (.cells #[.func (.yield l) #[] #[]] 203)).alloc (.cells #[.func (.func 188) #[] #[.pointer (some ⟨W.heap.size,0,none⟩),.pointer (some ⟨W.heap.size+1,0,none⟩)]] 203)):=((za _ _).alloc (wa _) _).alloc Aa _;have D:=nM i B _ l _ _ _ J v j g _ f (n-1) _ [] _ (wa _) G.o (P.t (ig.below (q.trans (b.mono q.size)))) y b2 (xj j C b) Aa;have H:=la D;clear D y b2 b j p E g C a;refine callsIn_of_wp func187 rfl trivial ?_ rfl;simp only[ntmps187,Rf,Qb,nd,Re,Se,Sf,Xe,Tb,Cc];gi_wp2_with (refine⟨trivial,hno _,?_⟩;gi_at_call 188;refine H.o.mono ?_;rintro e S (⟨rfl,u,c,d,R⟩|⟨rfl,u,c,d⟩))
 {go_end0;exact⟨⟨_,rfl⟩,.inl ⟨u,c,d⟩⟩}
 {go_end0;exact⟨⟨_,rfl⟩,.inr ⟨u,c,d⟩⟩}
end
end
section
open Go.RowKit
attribute [local go_sem] Oper.semAt_some
def Jg(d:List Fa)(a:Na->Bool)(f:Fo):Int:=
 if Th f=false then 1
 else if f.op=3/\(f.n<0\/1000000<f.n)then 10
 else if(f.op=3/\ki d f.name<0)\/(f.op=4/\a f.name=false)then 7
 else 0
def bf(d:List Fa)(a:Na->Bool):List Fo->Int
 | []=>0
 | x::l=>if Jg d a x=0 then bf d a l else Jg d a x
def se(f:Fo)(d:List Fa)(a:Na->Bool):Int:=if 200<f.size\/20<f.depth then 2 else bf d a (ch f)
theorem Vn(d:List Fa)(c:Na->Bool):∀(a b:List Fo),(∀y∈a,Jg d c y=0)->bf d c (a++b)=bf d c b
 | [],_,_=>rfl
 | x::a,b,h=>by{rw[Cc,bf,Ga (h x Aa)];exact Vn d c a b λy e=>h y (Pa _ e)}
theorem yr(d:List Fa)(b:Na->Bool)(a:List Fo)(h:∀y∈a,Jg d b y=0):bf d b a=0:=by
 have:=Vn d b a [] h
 rwa[ud]at this
def oP(g:Nat)(c:Array Ea)(b:Na->Bool)(w:Ca):Prop:=
 ∀(W:Ca) (s:Na),Da w.heap.size w W->s.size<=maxLen->Db g (#[.string s]++c) W λe a=>e=.returned (.bool (b s))/\Da W.heap.size W a
def wy.cells{b:Ca}{B:Nat}(x:wy b B):Array Ea:=match x.1.2 with | .agg a=>a|_=>#[]
theorem Xs(d:List Fa)(c:Na->Bool):∀(a b:List Fo),bf d c a≠0->bf d c (a++b)=bf d c a
 | [],_,h=>absurd rfl h
 | x::a,b,h=>by{rw[Cc,bf,bf];rw[bf]at h;(split);{rename_i e;rw[Ga e]at h;exact Xs d c a b h};{rfl}}
theorem Wr{W a:Ca}(h:Da W.heap.size W a):KeepsOthers W a:=KeepsOthers.of_grownBy (jg h) (λj o e=>by cases e)
theorem pM{w a W:Ca}(h:Da j w a)(k:Da j w W)(c:a.heap.size<=W.heap.size):Da j a W:=
 ⟨k.os.trans h.os.symm,k.tape.trans h.tape.symm,k.output.trans h.output.symm,c,λi b=>(k.block i b).trans (h.block i b).symm⟩
theorem qb.yD{w:Ca}{a b c c3 d:Ea}(h:qb w j E #[a,b,c,c3,d]):w.cell? (Ya j)=some a/\w.cell? (Ja j 1)=some b/\w.cell? (Ja j 2)=some c/\w.cell? (Ja j 3)=some c3/\w.cell? (Ja j 4)=some d:=
 ⟨h.cell 0,h.cell 1,h.cell 2,h.cell 3,h.cell 4⟩
theorem IB(f:Fo)(d:List Fa)(g:Nat)(lb:Array Ea)(z:Na->Bool)(v u:Ea)(w:Ca)(B:Nat)(hs:f.size<=1000000)(hB:B<=w.heap.size)(hf:f.In w B v)(hd:jf w B d u)
    (eg:∀args w,(callFunc g args).run prog w=.ok (.enter g args) w) (zI:oP g lb z w):
    Db 119 #[v,u,.func (.func g) #[] lb] w λe w'=>e=.returned (pa (se f d z))/\Da w.heap.size w w':=by
  obtain⟨ao,cap,rfl⟩:=hf.shape;have HD:=la hd;obtain⟨du,rfl,M2⟩:=hd;obtain⟨ad,cd,rfl,d1,d2,_⟩:=Sa.shape M2;have HF:=la hf;have HKN:=la zI;clear hf zI M2;have k0:=qb.new w 32 #[pa f.op,.string f.name,pa f.cmp,pa f.n,.slice ao f.kids.length cap];have k1:=qb.new (w.alloc (.cells #[pa f.op,.string f.name,pa f.cmp,pa f.n,.slice ao f.kids.length cap] 32)) 24 #[.slice ad d.length cd];have k2:=qb.new ((w.alloc (.cells #[pa f.op,.string f.name,pa f.cmp,pa f.n,.slice ao f.kids.length cap] 32)).alloc (.cells #[.slice ad d.length cd] 24)) 128 #[.func (.func g) #[] lb];have k3:=qb.new (((w.alloc (.cells #[pa f.op,.string f.name,pa f.cmp,pa f.n,.slice ao f.kids.length cap] 32)).alloc (.cells #[.slice ad d.length cd] 24)).alloc (.cells #[.func (.func g) #[] lb] 128)) 43 #[pa 0];simp at k0 k1 k2 k3;have FT:Da _ w ((((w.alloc (.cells #[pa f.op,.string f.name,pa f.cmp,pa f.n,.slice ao f.kids.length cap] 32)).alloc (.cells #[.slice ad d.length cd] 24)).alloc (.cells #[.func (.func g) #[] lb] 128)).alloc (.cells #[pa 0] 43)):=((((za _ _).alloc (wa _) _).alloc Aa _).alloc (by simp;omega) _).alloc (by simp;omega) _;have HS:=la (pP _ f _ _ B (wa _) hs (by simp;omega) (Fo.In.below (FT.mono hB) _ _ HF.o));have K0:Hid (qb ((((w.alloc _).alloc (.cells #[.slice ad d.length cd] 24)).alloc (.cells #[.func (.func g) #[] lb] 128)).alloc (.cells #[pa 0] 43)) _ 32 _):=qb.alloc (qb.alloc (qb.alloc k0 _) _) _;have K1:Hid (qb ((((w.alloc _).alloc _).alloc (.cells #[.func (.func g) #[] lb] 128)).alloc (.cells #[pa 0] 43)) _ 24 _):=qb.alloc (qb.alloc k1 _) _;have K2:Hid (qb ((((w.alloc _).alloc _).alloc _).alloc (.cells #[pa 0] 43)) _ 128 _):=qb.alloc k2 _;have K3:=la k3;have vp:=la FT;clear k0 k1 k2 k3 FT;by_cases T:200<f.size\/20<f.depth
  . have HR:=la (show se f d z=2 by rw[se,Ga T])
    go_enter func119,ntmps119;have e1:decide (200<(f.size:Int))=decide (200<f.size):=by simp;omega
    have e2:decide (200<f.size)=false->decide (20<(f.depth:Int))=true:=λh=>by simp at h⊢;omega
    generalize decide (200<f.size)=b1 at*
    cases b1<;>(try have e2:=e2 rfl)
    all_goals
      go_wp2_with (go_at_call 153;refine HS.o.mono ?_;rintro e Z ⟨rfl,j⟩;have y3:=(ke K3.o j).cell;have z3:=(ke K3.o j).frozen);refine Fb (Ee (v:=pa 2) rfl _ _ _ rfl (by go_simp)) rfl ⟨by rw[HR.o],(vp.o.trans (j.mono (by simp;omega))).setCell (by simp;omega) _⟩
  . have HR:=la (show se f d z=bf d z (ch f) by rw[se,if_neg T])
    have e1:decide (200<(f.size:Int))=false:=by simp;omega
    have e2:decide (20<(f.depth:Int))=false:=by simp;omega
    clear T;refine(callsIn_wide (n:=3)).1 ?_;refine callsIn_of_wp_marks func119 rfl trivial ?_ rfl;simp only[ntmps119,Rf,Qb,nd,Re,Se,Sf,Xe,Tb,Cc]
    gi_wp2_with (first
      | (refine⟨trivial,?_⟩;gi_at_call 153;(refine(callsIn_wide.2 HS.o).mono ?_);rintro e Z ⟨rfl,j⟩
         have r0:=qb.below K0.o j
         have r1:=qb.below K1.o j
         have r2:=qb.below K2.o j
         have r3:=qb.below K3.o j
         obtain⟨c0,c1,c2,c3,c4⟩:=r0.yD
         have RW:=vp.o.trans (j.mono (by simp;omega))
         have BA:=j.size
         simp only[Ia]at BA
         have VW:=Fo.In.below (RW.mono hB) _ _ HF.o
         have HN:=la (oM f _ Z B VW)
         have HF2:=la VW
         have S:=la RW
         have R1:=la r1
         have R2:=la r2
         have R3:=la r3
         clear j r0 r1 r2 r3 RW VW K0 K1 K2 K3)
      | (refine⟨trivial,?_⟩;gi_at_call 154;(refine(callsIn_wide.2 HN.o).mono ?_);rintro e P ⟨rfl,cs,hcs,rfl⟩;cases hcs))
    refine wpIn_rangeFunc_ownH rfl ja rfl trivial (enters_of func187 Ha rfl)
      (VI 2 Z B _ f _ _ HF2.o (ig.below ((za _ _).alloc ja _)) (qb.new Z 32 _)) ig.t ig.b (za _ _) (λ_=>rfl)
      (λpre W=>(Boxed W _ 24 _/\Boxed W _ 128 _/\Boxed W _ 43 (pa 0))/\(Da w.heap.size w W/\Z.heap.size<=W.heap.size)/\(∀x∈pre,Jg d z x.fo=0))
      (λc (pre:List (wy Z B)) W=>c=.ret/\(∃C:Int,C≠0/\bf d z (pre.map wy.fo)=C/\Boxed W (w.heap.size+1+1+1) 43 (pa C))/\Da w.heap.size w W)
      (OwnFrom.and (λs A B row hs O H=>⟨Ji hs.1 O H,Ji hs.2.1 O H,Ji hs.2.2 O H⟩) (OwnFrom.and (OwnFrom.and (ownFrom_below (wa _) (by simp;omega)) (λs A B row hs O H=>ub hs O.size)) (ownFrom_pure _ _)))
      (λc s A B row hs O H=>by
        obtain⟨T,⟨C,U,h3,h4⟩,h6⟩:=hs
        exact⟨T,⟨C,U,h3,Ji h4 O H⟩,ownFrom_below ja (wa _) () A B row h6 O (λr e=>⟨by have:=(H r e).1;simp at this;omega,(H r e).2⟩)⟩)
      ⟨⟨ke R1.o ((za _ _).alloc (wa _) _),ke R2.o ((za _ _).alloc (wa _) _),ke R3.o ((za _ _).alloc (wa _) _)⟩,⟨S.o.trans (((za _ _).alloc (wa _) _).mono ja),Aa⟩,Aa⟩
      (λx a' W=>∃E,w.heap.size+1+1+1<E/\qb W E 32 x.cells/\a'={tmps:=#[.agg #[pa f.op,.string f.name,pa f.cmp,pa f.n,.slice ao f.kids.length cap],.agg #[.slice ad d.length cd],.func (.func g) #[] lb,.pointer (some ⟨w.heap.size,0,none⟩),.pointer (some ⟨w.heap.size+1,0,none⟩),Ma (w.heap.size+1+1),Ma (w.heap.size+1+1+1),pa f.size,pa f.depth,Ma E,.tuple #[pa f.size,pa f.depth],.agg #[pa f.op,.string f.name,pa f.cmp,pa f.n,.slice ao f.kids.length cap],.tuple #[pa f.size,pa f.depth],pa f.size,pa f.depth,pa f.size,.bool false,.bool false,pa f.depth,.bool false,.bool false,.agg #[pa f.op,.string f.name,pa f.cmp,pa f.n,.slice ao f.kids.length cap],.func (.func 187) #[] #[.pointer (some ⟨Z.heap.size,0,none⟩)],.agg x.cells,undef,undef,undef,undef,undef,undef,undef,undef,undef,undef,undef,undef,undef,undef,undef,undef,undef,undef,undef,undef,undef,undef,undef,undef,undef,undef,undef,undef,undef,undef,undef,undef,undef,undef,undef,undef,undef,undef,undef],defers:=[]})
      (λx a' u A B row hs O H=>by
        obtain⟨E,T,U,h3⟩:=hs
        refine⟨E,T,(O.block E U.lt (λe=>?_)).trans U,h3⟩
        obtain⟨_,o,ho,vF⟩:=H E e.symm
        rw[U]at ho;cases ho;cases vF)
      ?assign ?body ?done ?stop
    case assign=>(rintro l pre x W K ⟨⟨q1,q2,I⟩,⟨i,hZ⟩,hp⟩ V;have HK:=la V;obtain⟨⟨xf,xv⟩,L⟩:=x;have E5:=Fo.In.shape (f:=xf) (v:=xv) L;obtain⟨xa,xc,rfl⟩:=E5;gi_wp2;have G:Da _ W (W.alloc (.cells #[pa xf.op,.string xf.name,pa xf.cmp,pa xf.n,.slice xa xf.kids.length xc] 32)):=(za _ W).alloc (wa _) _;have F5:=I.lt;refine HK.o _ _ ((Wr G).from _) (ig.below G) ⟨⟨ke q1 G,ke q2 G,ke I G⟩,⟨i.trans (G.mono i.size),by simp;omega⟩,hp⟩ ⟨_,F5,qb.new W 32 _,rfl⟩)
    case body=>
      rintro l pre x a' W hl ⟨r,H⟩ ⟨⟨q1,q2,I⟩,⟨i,hZ⟩,hp⟩ ⟨E,B_,bX,rfl⟩ hlt;obtain⟨⟨⟨q,m,c,n,ks⟩,xv⟩,L⟩:=x;have E5:∃xa xc,xv=.agg #[.int _ q,.string m,.int _ c,.int _ n,.slice xa ks.length xc]:=Fo.In.shape L;obtain⟨xa,xc,rfl⟩:=E5
      change qb W E 32 #[.int _ q,.string m,.int _ c,.int _ n,.slice xa _ xc]at bX
      have hxW:Fo.In W B (.mk q m c n ks) _:=Fo.In.below ((pM S.o i hZ).mono hB) _ _ L;have hnm:m.size<=maxLen:=by obtain⟨_,_,_,_,_,_,h4,_⟩:=L;exact h4
      dsimp only[wy.cells]
      obtain⟨x0,x1,x2,x3,x4⟩:=bX.yD;have HFM:=la (WI _ _ W B hxW);have HB:=la i;have lP:=la bX;have HQ1:=la q1;have G5:=la q2;have F:=la I
      have Q:Hid (∀C,Jg d z (.mk q m c n ks)=C->(C≠0->bf d z ((pre++[(⟨(.mk q m c n ks,.agg #[pa q,.string m,pa c,pa n,.slice xa ks.length xc]),L⟩:wy Z B)]).map wy.fo)=C)/\(C=0->∀x∈pre++[(⟨(.mk q m c n ks,.agg #[pa q,.string m,pa c,pa n,.slice xa ks.length xc]),L⟩:wy Z B)],Jg d z x.fo=0)):=by
        rintro C rfl;refine⟨λU=>?_,λT x hx'=>?_⟩
        . rw[Pb,Vn _ _ _ _ (λy hy=>by obtain⟨x,L,rfl⟩:=List.mem_map.1 hy;exact hp x L)]
          exact if_neg U
        . rcases List.mem_append.1 hx' with h|h
          . exact hp x h
          . simp at h;subst h;exact T
      have R:Hid (Jg d z _=if Th (.mk q m c n ks)=false then 1 else if q=3/\(n<0\/1000000<n)then 10 else if(q=3/\ki d m<0)\/(q=4/\z m=false)then 7 else 0):=rfl;have M:=la (λW' N v=>And.intro ((Wr N).trans (KeepsOthers.setCell W' (Ya (w.heap.size+1+1+1)) v)) (And.intro ((ke I N).set v) ((i.trans (N.mono i.size)).setCell (p:=Ya (w.heap.size+1+1+1)) (by simp;omega) v)));have HO:=la (λW' (N:Da _ W W')=>And.intro (Wr N) (And.intro (ke q1 N) (And.intro (ke q2 N) (And.intro (ke I N) (And.intro (i.trans (N.mono i.size)) (ub hZ N.size))))));clear i hp hxW bX q1 q2 I;generalize JT:Th _=fb at*
      clear JT;have h34:fb=false\/(fb=true/\q=3/\decide (ki d m<0)=true)\/(fb=true/\q=3/\decide (ki d m<0)=false)\/(fb=true/\q=4)\/(fb=true/\(q==3)=false/\(q==4)=false):=by cases fb<;>simp;omega
      rcases h34 with rfl|⟨rfl,rfl,d3⟩|⟨rfl,rfl,d3⟩|⟨rfl,rfl⟩|⟨rfl,p3,p4⟩
      all_goals gi_wp2_with (first|(refine⟨trivial,?_⟩;gi_at_call 155;(refine(CallsIn.inRound l (callsIn_wide.2 HFM.o)).mono ?_);rintro e P ⟨rfl,a⟩;have y3:=(ke F.o a).cell;have z3:=(ke F.o a).frozen;have y1:=(ke HQ1.o a).cell;have y2:=(ke G5.o a).cell;have J:=qb.below lP.o a;have v0:P.cell? (Ya E)=some (pa _):=J.cell 0;have v1:P.cell? (Ja E 1)=some (.string m):=J.cell 1;have v3:P.cell? (Ja E 3)=some (pa n):=J.cell 3;have abw:=la J;have vO:=la (HB.o.trans (a.mono HB.o.size));have Y:=a.size;clear J)|(refine⟨trivial,?_⟩;gi_at_call 125;(refine(CallsIn.inRound l (callsIn_wide.2 (JB d m _ P B ja (HD.o.below (vO.o.mono hB))))).mono ?_);rintro e w4 ⟨rfl,k⟩;have u3:=(ke (ke F.o a) k).cell;have zz3:=(ke (ke F.o a) k).frozen;have bx4:=qb.below abw.o k;have uv0:w4.cell? (Ya E)=some (pa _):=bx4.cell 0;clear bx4))
      all_goals try(refine⟨trivial,?_⟩;gi_wp2_with (refine⟨trivial,?_⟩;gi_at_fn g;(refine(CallsIn.inRound l (callsIn_wide.2 (HKN.o P m vO.o hnm))).mono ?_);rintro e w4 ⟨rfl,k⟩;have u3:=(ke (ke F.o a) k).cell;have zz3:=(ke (ke F.o a) k).frozen))
      all_goals try(refine⟨λ_ h=>(by cases h),?_⟩;gi_wp2)
      all_goals first
        | exact⟨(M.o P a _).1.from _,rfl,⟨_,Ba,(Q.o _ (by rw[R.o];simp_all<;>omega)).1 Ba,(M.o P a _).2.1⟩,(M.o P a _).2.2⟩
        | exact⟨(M.o w4 (a.trans (k.mono Y)) _).1.from _,rfl,⟨_,Ba,(Q.o _ (by rw[R.o];simp_all<;>omega)).1 Ba,(M.o w4 (a.trans (k.mono Y)) _).2.1⟩,(M.o w4 (a.trans (k.mono Y)) _).2.2⟩
        | (obtain⟨o1,o2,o3,o4,o5⟩:=HO.o w4 (a.trans (k.mono Y));exact⟨o1.from _,ig.t (ig.below a) (ig.below k),⟨o2,o3,o4⟩,o5,(Q.o _ (by rw[R.o];simp_all<;>omega)).2 rfl⟩)
        | (obtain⟨o1,o2,o3,o4,o5⟩:=HO.o P a;exact⟨o1.from _,ig.below a,⟨o2,o3,o4⟩,o5,(Q.o _ (by rw[R.o];simp_all<;>omega)).2 rfl⟩)
    case done=>(rintro D xs W hD hS ⟨⟨q1,q2,I⟩,⟨i,hZ⟩,hp⟩ V;have M:Hid (se f d z=0):=by{show _=_;rw[HR.o, <-hS];exact yr d z _ λy hy=>by obtain⟨x,L,rfl⟩:=List.mem_map.1 hy;exact hp x L};have c3:=I.cell;have z3:=I.frozen;have I5:=(KeepsOthers.setCell W (Ya (w.heap.size+1+1+1)) (pa 0)).same D _ V rfl;have HP:=la (I.set (pa 0));have xO:=la I5;have HB:=la i;clear I5 V hp hS i q1 q2 I;gi_wp2;refine⟨Aa,.inl ⟨_,_,rfl,run_takeDeferred xO.o,?_⟩⟩;(have hne:∀ {B:Nat} {t:TypeId} {v:Ea} {X:Ca} (_:X.heap[D]? =some (.deferred (some []))),Boxed X B t v->some B≠some D:=λhX h e=>by{cases e;rw[h]at hX;cases hX});have l0:=(HP.o.kept (grownBy_putObj' _ D (.deferred none)) (hne xO.o HP.o)).cell;refine⟨_,Ee (v:=pa 0) rfl _ _ _ rfl (by go_simp),by rw[M.o],?_⟩;exact(HB.o.setCell (by simp;omega) _).trans (belowK_b (wa _) _ D _ _ (by simp at hD;have:=S.o.size;omega) xO.o rfl rfl))
    case stop=>(rintro D c pre W hD hS ⟨rfl,⟨C,U,h3,h4⟩,h6⟩ V;gi_wp2;refine⟨Aa,.inl ⟨_,_,rfl,run_takeDeferred V,?_⟩⟩;(have hne:∀ {B:Nat} {t:TypeId} {v:Ea},Boxed W B t v->some B≠some D:=λh e=>by{cases e;rw[h]at V;cases V});have l0:=(h4.kept (grownBy_putObj' W D (.deferred none)) (hne h4)).cell;have M:se f d z=C:=by{obtain⟨r,H⟩:=hS;rw[HR.o, <-H,Xs _ _ _ _ (by rw[h3];exact U),h3]};refine⟨_,Ee (v:=pa C) rfl _ _ _ rfl (by go_simp),by rw[M],?_⟩;exact h6.trans (belowK_b (wa _) W D _ _ (by simp at hD;have:=S.o.size;omega) V rfl rfl))
end
end Go.Proofs.YtdipkbobalnilaaGreatDoor
