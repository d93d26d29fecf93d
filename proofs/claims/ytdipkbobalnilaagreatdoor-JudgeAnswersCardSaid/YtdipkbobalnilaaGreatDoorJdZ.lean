/- The walk of judge.Regions. Bounds on the provisions. -/
import Derived.Test.YtdipkbobalnilaaGreatDoorAl
import Derived.Test.YtdipkbobalnilaaGreatDoorJdXA
import Derived.Test.YtdipkbobalnilaaGreatDoorJdLA
namespace Go.Proofs.YtdipkbobalnilaaGreatDoor
open Tryz
open Go.RowKit
variable{Q:List Nat}{P:List Pv}{K:Act}{M:Oper}
def kr(d:List Fa)(a:List Pv)(q:Na):List Part×Zo:=Of d (pd a) (th a) (a.length+1) (Og a q a.length) ([((Nc d Ri).1,[])],([],0))
def zp(d:List Fa)(a:List Pv)(c:List Int)(b:List Nat):Jo×Int:=Rh d a c (b.map (qj a))
def bj(d:List Fa)(a:List Pv)(b:List Int)(q:Na):List Fx×Int:=
 if(Je d a b []).2=0 then
  if Ii a=[]then
   if(kr d a q).2.2=0 then ri d (zp d a b) (kr d a q).1 []else([],(kr d a q).2.2)
  else([],13)
 else([],1)
def zE(d:List Fa)(a:List Pv):Prop:=(Nc d Ri).2=0/\∃b:Nat->Nat,(∀i k,i<a.length->k∈th a i->b k<b i)/\∀i,i<a.length->b i<a.length+1
structure P0 (a : Jo) : Prop where
 st:Wh a.state
 vl:Wh a.value
 by_:a.by_.length<=1000
 over:a.over.length<=1000
 size:∀s∈a.by_++a.over,s.size<=1000000
theorem Ro:∀(a:List Int) (s:Int×Int),Wh s.1->Wh s.2->(∀v∈a,Wh v)->Wh (aA a s).1/\Wh (aA a s).2
 | [],s,b,c,_=>⟨b,c⟩
 | v::a,s,b,c,h=>by{rw[aA];have f:=h v (Wa ..);(have d:=λu e=>h u (Pa _ e));(split);{exact Ro a (1,v) (show Wh 1 by unfold Wh;decide) f d};{(split);{exact Ro a _ (by unfold Wh;decide) (by unfold Wh;decide) d};{exact Ro a _ b c d}}}
theorem IK{d:List Fa}{ts:List Int}(hid:∀p∈P,p.id.size<=1000000)(g:∀p∈P,Wh p.value)(r:P.length<=1000)(w:Q.length<=P.length):P0 (zp d P ts Q).1:=by
 unfold zp;by_cases h:(Rh d P ts (Q.map (qj P))).2=0
 ·obtain⟨o,j,k,q⟩:=uS h
  obtain⟨l,c⟩:=DH o
  have b:∀i,(qj P i).size<=1000000:=λi=>by{unfold qj;(split);{next p e=>exact hid p (vh e)};{exact Lb _}}
  have f:∀s∈Q.map (qj P),s.size<=1000000:=λs a=>by{obtain⟨i,_,rfl⟩:=List.mem_map.1 a;exact b i}
  obtain⟨m,n⟩:=Ro _ (0,0) (by unfold Wh;decide) (by unfold Wh;decide) (λv u=>by
   obtain⟨p,t,rfl⟩:=List.mem_map.1 u
   exact g p (List.mem_filter.1 t).1:∀v∈((P.filter λp=>xi (Je d P ts (Q.map (qj P))).1 p.id).map (·.value)),Wh v)
  rw[<-q]at m n;refine⟨m,n,?_,?_,λs a=>?_⟩
  {rw[j,c.eq,Va];exact ub (sz _ _ (c.order.imp λh=>Nat.ne_of_lt h) λi f=>(c.inside i f).1) r}
  {rw[k];exact ub (ve _ _) (by rw[Va];omega)}
  {(rcases List.mem_append.1 a with a|a);{rw[j,c.eq]at a;obtain⟨i,f,rfl⟩:=List.mem_map.1 a;exact b i};{rw[k]at a;exact f s (List.mem_filter.1 a).1}}
 {rw[fW h];exact⟨by unfold Wh Qi;decide,by unfold Wh Qi;decide,Lb _,Lb _,λs a=>(by cases a)⟩}
section
variable {base : Nat} {d : List Fa} {w : Ca}
theorem XN{ops:Array Oper}{rest:List Oper}{Q:Exit->Act->Ca->Prop}(k:M.guard=none)(s y:Operand)(q:M.op=.call {callee:=.builtin .append,args:=#[s,y],argTypes:=#[46,46]})
  {v:Ea} {l:List Uj} (hs:K.eval s=v) (h:mf w base d v l) (x:Uj) (t:x.Ok w v.ownBlock d) (g:Addr) (c:Nat) (z:K.eval y=.slice (some g) 1 c) (p:∀j u,x.cells[j]? =some u->w.cell? (g.add j)=some u) (i:l.length+1<=1000000) (b:base<=w.heap.size)
  (o:∀f e,mf e base d f (l++[x])->w.grownBy e v.ownBlock->wpList prog ops Q rest (K.put M.dst f) e):wpList prog ops Q (M::rest) K w:=by
 refine wpList_plain k λa hK'=>?_
 obtain⟨f,e,r,m,n⟩:=mB w M.type h x t g c p i b;unfold Oper.wp execOp;simp only[q,resolve,invoke,builtin,Sem.run_bind,Sem.run_pure,Result.andThen_ok,Le,Eb,sd,hs,z,r];exact hK' _ _ (o f e m n)
end
structure uR (w w' : Ca) (d : List Fa) (RR : List Fx × Int) (v : Ea) (ys : List Uj) : Prop where
 below:Da w.heap.size w w'
 row:mf w' w.heap.size d v ys
 ok:RR.2=0->(ys.map (·.r)).Perm RR.1/\Zt d ys
 nil:RR.2≠0->ys=[]
set_option maxRecDepth 100000 in
set_option maxHeartbeats 8000000 in
theorem cH(d:List Fa)(l:List Pv)(D:List Int)(q:Na)(v:Ea)(w:Ca)(hn:l.length<=1000)(hl:Gj w w.heap.size d l D v)(hex:∀p∈l,p.except.length<=40)(hsz:∀p∈l,p.cond.size<=1000000)(hid:∀p∈l,p.id.size<=1000000)(wU:∀p∈l,Wh p.value)
  (hok:(Je d l D []).2=0->Ii l=[]->zE d l) (hne:(bj d l D q).2=0->(bj d l D q).1≠[]) (hT:Jh w.heap.size w):
  Db 9 #[v,.string q] w λe m=>∃(v':Ea) (ys:List Uj),e=.returned (.tuple #[v',pa (bj d l D q).2])/\uR w m d (bj d l D q) v' ys:=by
 have HL:=la hl;obtain⟨u1,u2,u3,rfl,hd,hp,ht⟩:=hl;obtain⟨U,Y,rfl,_⟩:=Sa.shape hd;obtain⟨X,Z,rfl,_⟩:=Sa.shape hp;obtain⟨at_,ct,rfl,_⟩:=Sa.shape ht;have km:Da w.heap.size w (w.alloc (.cells #[.slice U d.length Y,.slice X l.length Z,.slice at_ D.length ct] 28)):=(za _ _).alloc (wa _) _;have K0:=qb.new w 28 #[.slice U d.length Y,.slice X l.length Z,.slice at_ D.length ct];obtain⟨W,hW⟩:∃W,w.alloc (.cells #[.slice U d.length Y,.slice X l.length Z,.slice at_ D.length ct] 28)=W:=⟨_,rfl⟩;rw[hW]at km K0;have P:=km.size;have HW:=la hW;have vp:=la km;have T:=la K0;have E0:Hid (∀m,Da W.heap.size W m->Gj m m.heap.size d l D (.agg #[.slice U d.length Y,.slice X l.length Z,.slice at_ D.length ct])):=λm h=>(HL.o.below (km.trans (h.mono P))).mono (ub P h.size)
 have HTW:Hid (∀m,Da W.heap.size W m->Jh m.heap.size m):=λm h w'' h'=>hT w'' (km.trans ((h.trans (h'.mono h.size)).mono P))
 have lS:=la (ju d l D _ W hn (E0.o W (za _ _)) hsz (HTW.o W (za _ _)));have Z9:=la (λm (h:Da W.heap.size W m)=>jP d l _ m m.heap.size hn (wa _) (wH (E0.o m h)) hex);have HHT:=la hT;have HD:=la hd;have A8:=la hp;have gM:=la hsz;have aeQ:=la hid;have HVL:=la wU;obtain⟨RR,GI⟩:∃RR,bj d l D q=RR:=⟨_,rfl⟩;rw[GI]at hne⊢;have nU:=la GI;have L8:=la hne;have x0:=K0.cell 0;have x1:=K0.cell 1;have x2:=K0.cell 2;clear hd hp ht hW km K0 GI hT hsz hid wU hex hne;by_cases OI:(Je d l D []).2=0
 ·have hb:((Je d l D []).2==0)=true:=by simp[OI]
  rw[hb]at lS;by_cases Q0:Ii l=[]
  ·have gY:=la (hok OI Q0)
   have JL:Hid (RR=if(kr d l q).2.2=0 then ri d (zp d l D) (kr d l q).1 []else([],(kr d l q).2.2)):=by show _=_;rw[<-nU.o];unfold bj;rw[Ga OI,Ga Q0]
   have XC:Hid (∀m,Da W.heap.size W m->Db 31 #[.agg #[.slice U d.length Y,.slice X l.length Z,.slice at_ D.length ct]] m λe w''=>∃(ua:Option Addr) (uc:Nat),e=.returned (.slice ua 0 uc)/\Hid (Da m.heap.size m w'')):=λm h=>by{refine(Z9.o m h).mono ?_;rintro e w'' ⟨u,rfl,h1,h2⟩;obtain⟨ua,uc,rfl,_⟩:=Sa.shape h2;rw[Q0];exact⟨ua,uc,rfl,h1⟩}
   clear hb OI Q0 hok nU Z9;have zO:=@run_makeMap prog;go_enter func9,ntmps9;go_upto_region 1 with(fail);rw[HW.o];go_upto_region 3 with(go_at_call 26;refine lS.o.mono ?_;rintro e w1 ⟨rfl,I⟩;have Lk:=la I;clear x0 x1 x2;have x0:=(T.o.below I).cell 0;have x1:=(T.o.below I).cell 1;have x2:=(T.o.below I).cell 2;clear I);go_upto_region 5 with(go_at_call 31;refine(XC.o w1 Lk.o).mono ?_;rintro e w2 ⟨ua,uc,rfl,dr⟩;have OA:=la (Lk.o.trans (dr.o.mono Lk.o.size));clear x0 x1 x2;have x0:=(T.o.below OA.o).cell 0;have x1:=(T.o.below OA.o).cell 1;have x2:=(T.o.below OA.o).cell 2);go_upto_region 6 with(fail);have jB:Da w2.heap.size w2 ((w2.alloc (.map #[] 0)).alloc (.cells #[.slice U d.length Y,.slice X l.length Z,.slice at_ D.length ct,pa 0,.map (some w2.heap.size)] 84)):=((za _ _).alloc (wa _) _).alloc Aa _;have KA:=qb.new (w2.alloc (.map #[] 0)) 84 #[.slice U d.length Y,.slice X l.length Z,.slice at_ D.length ct,pa 0,.map (some w2.heap.size)];rw[Ia]at KA;have KM:=(Wb.made (ek:=Value.int .i64) (ev:=λv:Ea=>v) w2).alloc (.cells #[.slice U d.length Y,.slice X l.length Z,.slice at_ D.length ct,pa 0,.map (some w2.heap.size)] 84);obtain⟨W3,hW3⟩:∃W3,(w2.alloc (.map #[] 0)).alloc (.cells #[.slice U d.length Y,.slice X l.length Z,.slice at_ D.length ct,pa 0,.map (some w2.heap.size)] 84)=W3:=⟨_,rfl⟩;rw[hW3]at jB KA KM⊢;have Qu:=OA.o.size;have eQ:=jB.size;have hA3:=KA.lt;have Jq:Hid (Da W.heap.size W W3):=OA.o.trans (jB.mono Qu);have ES:Da w.heap.size w W3:=vp.o.trans (Jq.o.mono P);have apI:=la ES
   have MT:Hid (Ix w.heap.size (w2.heap.size+1) w2.heap.size d l U X at_ Y Z D.length ct ([],0) W3):=
    ⟨KA,⟨[],KM,λ_=>rfl,λk v h=>(by cases h),λ_ i g v h=>(by cases h)⟩,HD.o.below Jk.kept ES,A8.o.below jm.kept ES,ja,ja,ja,λm h=>HHT.o m (ES.trans h)⟩
   obtain⟨tm,ρ,fY,hf⟩:=gY.o;have HPT:=la (JN MT.o rfl hn gM.o (l.length+1) ρ fY hf q tm)
   change Hid (Db 32 #[Ma (w2.heap.size+1),.string q] W3 λe m=>∃(v:Ea) (xs:List Rn),e=.returned v/\xs.map (·.p)=(kr d l q).1/\xs.length<=1000/\(∀x∈xs,x.p.2.length<=l.length)/\
    Vj (w2.heap.size+1) w2.heap.size d l U X at_ Y Z D.length ct (kr d l q).2 W3 m/\Eg m W3.heap.size d l (kr d l q).2.2 v xs)at HPT
   generalize kr d l q=PJ at*
   obtain⟨PS,st⟩:=PJ
   dsimp only at HPT JL
   clear hW3 jB KA KM fY hf tm gY x0 x1 x2 ES;generalize hA:w2.heap.size+1=A at*
   generalize hK:w2.heap.size=K at*
   go_upto_region 7 with(go_at_call 32;refine HPT.o.mono ?_;rintro e w7 ⟨v7,xs,rfl,hx7,FF,f',hp7,hr7⟩;obtain⟨va,vc,rfl⟩:=Xd hr7.own;have HX:=la hx7;have B9:=la f';have qY:=la hp7;have R9:=la hr7;clear hx7 f' hp7 hr7);have y0:=qY.o.box.cell 0;have y1:=qY.o.box.cell 1;have y2:=qY.o.box.cell 2;have y3:=qY.o.box.cell 3;have JS:Hid (Da W.heap.size W w7):=Jq.o.trans (qY.o.step.below ja ja ja);by_cases he:st.2=0
   ·have e1:(st.2 !=0)=false:=by simp[he]
    rw[Ga he]at JL;rw[he]at R9;have Z_:=la (MT.o.step qY.o);have hs7:=qY.o.step.size;clear HPT MT qY Jq;go_upto_region 11 with(fail);have mW:Da w7.heap.size w7 (w7.alloc (.map #[] 0)):=(za _ _).alloc (wa _) _;have VT:Hid (Wb Value.string (Value.int .i64) (w7.alloc (.map #[] 0)) w7.heap.size ([]:List (Na×Int))):=Wb.made w7;have j7:w7.heap.size+1=(w7.alloc (.map #[] 0)).heap.size:=by simp
    obtain⟨W8,hW8⟩:∃W8,w7.alloc (.map #[] 0)=W8:=⟨_,rfl⟩;rw[hW8]at mW VT j7⊢;have Wu:=la mW;clear hW8 mW y0 y1 y2 y3;generalize hM:w7.heap.size=M at*
    go_upto_region 12 with(fail)
    go_loopw [8,44] (λov iv wr=>∃(k:Nat) (out:List Uj),k<=xs.length/\iv=pa k/\Hid (ri d (zp d l D) (PS.drop k) (out.map (·.r))=RR)/\out.length<=k/\Hid (mf wr W8.heap.size d ov out)/\Hid (Da M w7 wr)/\Hid (Wb Value.string (Value.int .i64) wr M (Jm 0 (out.map (·.r))))/\W8.heap.size<=wr.heap.size) (λ_ iv _=>xs.length-(intOf iv).toNat)
    case atStart=>exact⟨0,[],Lb _,rfl,JL.o.symm,wa _,mf.nil _ _,Wu,VT,wa _⟩
    case round=>
     obtain⟨k,out,hk,rfl,HG,U3,KN,HB,A6,I7⟩:=hrel;obtain⟨xa,xc,rfl⟩:=Xd KN.o.own;rename Ca=>wr
     clear VT Wu;have j0:=la (R9.o.below (hM.symm▸HB.o));by_cases hlt:k<xs.length
     ·obtain⟨g,rfl,c0,c1⟩:=j0.o.at hlt
      have gY:=la (j0.o.ok xs[k] (Oa hlt));have HO7:=la (R9.o.ok xs[k] (Oa hlt));have FF:=B9.o xs[k] (Oa hlt);have iY:PS.drop k=xs[k].p::PS.drop (k+1):=by rw[<-HX.o, <-nh, <-nh,Gc hlt,Eb]
      rw[iY,ri]at HG;clear iY;generalize xs[k]=x at*
      go_upto_region 14 with(fail);have Ou:Da wr.heap.size wr (wr.alloc (.cells #[.slice x.a x.n x.c,.slice x.ia x.p.2.length x.ic] 89)):=(za _ _).alloc (wa _) _;have KX:=qb.new wr 89 #[.slice x.a x.n x.c,.slice x.ia x.p.2.length x.ic];obtain⟨V,hV⟩:∃V,wr.alloc (.cells #[.slice x.a x.n x.c,.slice x.ia x.p.2.length x.ic] 89)=V:=⟨_,rfl⟩;rw[hV]at Ou KX⊢;have hVs:=Ou.size;have hVx:=KX.lt;have L:Hid (Da W.heap.size W V):=(JS.o.trans (HB.o.mono ja)).trans (Ou.mono ja);have G:Da w.heap.size w V:=vp.o.trans (L.o.mono P);have O8:Hid (Da M w7 V):=HB.o.trans (Ou.mono ja);have L4:=la (gY.o.below Ou);have i':=la (KN.o.below Ou);have HMV:=la (A6.o.below Ou A6.o.lt);have xO:=la KX;have j':Gj V V.heap.size d l D (.agg #[.slice U d.length Y,.slice X l.length Z,.slice at_ D.length ct]):=(HL.o.below G).mono G.size;have KS:Hid (qb V w.heap.size 28 #[.slice U d.length Y,.slice X l.length Z,.slice at_ D.length ct]):=T.o.below L.o;have x0:=KS.o.cell 0;have x1:=KS.o.cell 1;have x2:=KS.o.cell 2;obtain⟨AA,F0⟩:∃AA,zp d l D x.p.2=AA:=⟨_,rfl⟩;have R0:=la (IK (d:=d) (ts:=D) aeQ.o HVL.o hn FF);rw[F0]at HG R0
      have cS:Hid (Db 30 #[.agg #[.slice U d.length Y,.slice X l.length Z,.slice at_ D.length ct],.slice x.ia x.p.2.length x.ic] V λe m=>∃(N:Option Addr) (O:Nat) (Q:Option Addr) (R:Nat),e=.returned (.tuple #[.agg #[pa AA.1.state,pa AA.1.value,.slice N AA.1.by_.length O,.slice Q AA.1.over.length R],pa AA.2])/\Hid (Da V.heap.size V m)/\Hid (Qh m m.heap.size AA.1 (.agg #[pa AA.1.state,pa AA.1.value,.slice N AA.1.by_.length O,.slice Q AA.1.over.length R]))):=by{have q:=Xz d l D (x.p.2.map (qj l)) _ (.slice x.ia (x.p.2.map (qj l)).length x.ic) V hn (by rw[Va];omega) j' L4.o.ids gM.o (λm h=>HHT.o m (G.trans (h.mono G.size)));rw[Va]at q;change Calls _ _ _ _ (λe m=>∃x',e=.returned (.tuple #[x',pa (zp d l D x.p.2).2])/\Da V.heap.size V m/\Qh m m.heap.size (zp d l D x.p.2).1 x')at q;rw[F0]at q;refine q.mono ?_;rintro e m ⟨_,rfl,h1,vb,vo,rfl,h2,h3⟩;obtain⟨N,O,rfl,_⟩:=Sa.shape h2;obtain⟨Q,R,rfl,_⟩:=Sa.shape h3;exact⟨N,O,Q,R,rfl,h1,_,_,rfl,h2,h3⟩}
      have k1:=KX.cell 1;have HHM:Hid (M<V.heap.size):=HMV.o.lt;have Y_:=la (λ(g:Nat) (hg:(Value.slice xa out.length xc).ownBlock=some g)=>KN.o.lt hg);clear hV Ou KX j' G F0 gY KN j0;obtain⟨a,ae⟩:=AA
      dsimp only at HG cS R0
      go_upto_region 15 with(go_at_call 30;refine cS.o.mono ?_;rintro e w9 ⟨N,O,Q,R,rfl,eU,Y3⟩);have kF:=eU.o.size;by_cases p':ae=0
      ·have e2:(ae !=0)=false:=by simp[p']
       rw[Ga p']at HG;go_upto_region 17 with(fail);have AO:Da w9.heap.size w9 (w9.alloc (.cells #[pa a.state,pa a.value,.slice N a.by_.length O,.slice Q a.over.length R] 42)):=(za _ _).alloc (wa _) _;have KY:=qb.new w9 42 #[pa a.state,pa a.value,.slice N a.by_.length O,.slice Q a.over.length R];obtain⟨W9,hW9⟩:∃W9,w9.alloc (.cells #[pa a.state,pa a.value,.slice N a.by_.length O,.slice Q a.over.length R] 42)=W9:=⟨_,rfl⟩;rw[hW9]at AO KY⊢;have ZO:Hid (Da V.heap.size V W9):=eU.o.trans (AO.mono kF);have cZ:=ZO.o.size;have hY9:=KY.lt;have HAY:Hid (Qh W9 W9.heap.size a (.agg #[pa a.state,pa a.value,.slice N a.by_.length O,.slice Q a.over.length R])):=Y3.o.grow AO;have ET:=la (i'.o.below ZO.o);have VP:=la (HMV.o.below ZO.o HHM.o);have iU:=la (xO.o.below ZO.o);have gP:=la (L4.o.below ZO.o);have t':Hid (Da M w7 W9):=O8.o.trans (ZO.o.mono (Dh HHM.o));have T0:=la KY
       have y':Hid (∀m,Da W9.heap.size W9 m->Db 33 #[.agg #[pa a.state,pa a.value,.slice N a.by_.length O,.slice Q a.over.length R]] m λe w''=>e=.returned (.string (Ap a))/\Hid (Da m.heap.size m w'')):=λm h=>by{have G:Da w.heap.size w m:=vp.o.trans (((L.o.trans (ZO.o.mono (by have:=L.o.size;omega))).trans (h.mono (by have:=L.o.size;omega))).mono P);exact cW a _ m (HAY.o.grow h) R0.o.st R0.o.vl R0.o.by_ R0.o.over R0.o.size (λw'' h'=>HHT.o w'' (G.trans (h'.mono G.size)))}
       obtain⟨⟨a0,a1,a2,a3⟩, -, -, -, -⟩:=KY.four;have hMY:M<w9.heap.size:=Zb HHM.o kF;have hXY:wr.heap.size<w9.heap.size:=Zb hVx kF;have hMr:M<wr.heap.size:=A6.o.lt;clear hW9 AO KY Y3 cS i' HMV xO L4 O8 HHM;rcases FH (d:=d) (t:=x.p.1) (a:=a) 0 (out.map (·.r))with⟨hl,ha⟩|⟨i,hi,hl,ha⟩
       {rw[ha,Ga rfl]at HG;clear ha;go_upto_region 18 with(go_at_call 33;refine(y'.o W9 (za _ _)).mono ?_;rintro e s ⟨rfl,C⟩;have Yr:=af Cr.key Tryz.underlying87 Tryz.zeroValue3 (VP.o.below C.o VP.o.lt) (Ap a);rw[hl]at Yr);have YN:=la (VP.o.below C.o VP.o.lt);have nW:=C.o.size;clear a0 a1 a2 a3 Yr;obtain⟨⟨a0,a1,a2,a3⟩, -, -, -, -⟩:=(T0.o.below C.o).four;go_upto_region 20 with(first|(go_at_call 33;refine(y'.o s C.o).mono ?_;rintro e ZP ⟨rfl,dB⟩;have UF:=la (YN.o.below dB.o YN.o.lt))|((with_reducible show wpList _ _ _ (⟨_,Op.mapUpdate 87 _ _ _,_,_,_,_⟩::_) _ _);refine Io rfl (.tmp 67) (.tmp 69) (.tmp 71) rfl Cr.key Tryz.underlying87 UF.o (Ap a) ((out.length:Nat):Int) rfl rfl rfl ?_;intro F z' JK));have H:Hid (Da W9.heap.size W9 ZP):=C.o.trans (dB.o.mono nW);have apK:=H.o.size;have h12:ZP.heap.size<=F.heap.size:=De JK.size.symm;obtain⟨apL,apM,A',_⟩:=UF.o;have rY:Da M w7 F:=(t'.o.trans (H.o.mono ja)).trans (JK.below (wa _));have uH:=la ((ET.o.below H.o).Lw A' JK);have C':qb F wr.heap.size 89 #[.slice x.a x.n x.c,.slice x.ia x.p.2.length x.ic]:=(JK.block _ ja).trans (iU.o.below H.o);have aeT:qb F w9.heap.size 42 #[pa a.state,pa a.value,.slice N a.by_.length O,.slice Q a.over.length R]:=(JK.block _ ja).trans (T0.o.below H.o);obtain⟨⟨a0,a1,a2,a3⟩, -, -, -, -⟩:=aeT.four;have b0:=C'.cell 0;have hHI:Da M w7 (F.alloc (.cells #[.slice x.a x.n x.c,pa a.state,pa a.value,.slice N a.by_.length O,.slice Q a.over.length R] 57)):=rY.alloc ja _;have eV:Da F.heap.size F (F.alloc (.cells #[.slice x.a x.n x.c,pa a.state,pa a.value,.slice N a.by_.length O,.slice Q a.over.length R] 57)):=(za _ _).alloc (wa _) _;have aeU:=la hHI;have U0:=la (uH.o.below eV);have aeV:=la (z'.below eV z'.lt);have aeW:Hid (Uj.Ok (F.alloc (.cells #[.slice x.a x.n x.c,pa a.state,pa a.value,.slice N a.by_.length O,.slice Q a.over.length R] 57)) (Value.slice xa out.length xc).ownBlock d ⟨(x.p.1,a),x.a,x.n,x.c,N,O,Q,R⟩):=by{obtain⟨q1,q2⟩:=HO7.o.dg.dg rfl;obtain⟨_,_,e,q3,q4⟩:=HAY.o.grow H.o;(cases e);have hc:CK (none:Option Nat) ZP (F.alloc (.cells #[.slice x.a x.n x.c,pa a.state,pa a.value,.slice N a.by_.length O,.slice Q a.over.length R] 57)):=⟨ub (De JK.size.symm) eV.size,λb o u hne hq=>(CK.jc (g:=none) eV).cell _ _ _ hne ((CK.wo (g:=none) A' JK).cell _ _ _ hne hq)⟩;refine⟨(Rg.ul (q1.below (hM.symm▸hHI)) λb hb=>?_).mono hHI.size,q2,Sa.mono (Ad.mono _) hc.size (hc.strs (λb e=>by cases e) q3),Sa.mono (Ad.mono _) hc.size (hc.strs (λb e=>by cases e) q4)⟩;have:=(uH.o.own.lt b (by simpa using hb)).1;omega};(have aeX:Hid (∀j u,(Uj.cells ⟨(x.p.1,a),x.a,x.n,x.c,N,O,Q,R⟩)[j]? =some u->(F.alloc (.cells #[.slice x.a x.n x.c,pa a.state,pa a.value,.slice N a.by_.length O,.slice Q a.over.length R] 57)).cell? ((Ya F.heap.size:Addr).add j)=some u):=λj u hj=>ny (qb.new F 57 #[.slice x.a x.n x.c,pa a.state,pa a.value,.slice N a.by_.length O,.slice Q a.over.length R]) j u (by rw[<-hj];simp[Uj.cells]));(have aeY:out.length<=1000:=ja);(have G':W8.heap.size<=(F.alloc (.cells #[.slice x.a x.n x.c,pa a.state,pa a.value,.slice N a.by_.length O,.slice Q a.over.length R] 57)).heap.size:=by simp;omega);clear rY C' hHI eV uH iU T0 gP HO7;go_wp2_with (at_builtin;go_loud (refine XN rfl (.tmp 72) (.tmp 77) rfl rfl U0.o ⟨(x.p.1,a),x.a,x.n,x.c,N,O,Q,R⟩ aeW.o (Ya F.heap.size) 1 rfl aeX.o (ub (Nat.succ_le_succ aeY) Ba) G' ?_;intro v14 w14 sY tY;have aeZ:=la sY;have V0:=la tY;clear sY tY));have afa:Hid (Da M w7 w14):=aeU.o.grown V0.o (by simp;omega) (λb hb=>by have:=(U0.o.own.lt b hb).1;omega);have afb:Hid (Wb Value.string (Value.int .i64) w14 M (Jm 0 ((out++[(⟨(x.p.1,a),x.a,x.n,x.c,N,O,Q,R⟩:Uj)]).map (·.r)))):=by{obtain⟨es,c,m1,m2⟩:=aeV.o;refine⟨es,c,(V0.o.block M (by simp;omega) (λe=>by have:=(U0.o.own.lt M e.symm).1;omega)).trans m1,?_⟩;(have e:Jm 0 ((out++[(⟨(x.p.1,a),x.a,x.n,x.c,N,O,Q,R⟩:Uj)]).map (·.r))=ins (Jm 0 (out.map (·.r))) (Ap a) ((out.length:Nat):Int):=by rw[Pb,Eb,sd,GH,Va,Vb,Il _ _ _ hl]);rw[e];exact m2};have h14:=V0.o.size;rw[Ia]at h14;(have DA:Hid (ri d (zp d l D) (PS.drop (k+1)) ((out++[(⟨(x.p.1,a),x.a,x.n,x.c,N,O,Q,R⟩:Uj)]).map (·.r))=RR):=by show _=_;rw[Pb];exact HG.o);go_roundw;(case rel=>exact⟨k+1,_,ja,by go_num,DA,by simp;omega,aeZ,afa,afb,ja⟩);case measure=>simp[intOf];omega}
       ·have hi2:i<out.length:=by simpa using hi
        rw[Vb]at hl;have HE:=la (λz:List Dn=>JH z 0 _ i hi);rw[ha]at HG;clear ha;rw[Sd]at HG HE;have HOI:=la (ET.o.ok out[i] (Oa hi2));have PR:=la (λ(W':Ca) (g:Nat) (t:List Dn) (ta:Option Addr) (tn tc:Nat) (hr:mf W' W8.heap.size d (.slice (Nb g) out.length xc) out) (ht:Rg W' W'.heap.size [g] t (.agg #[.slice ta tn tc])) (hv:Qc d t)=>hr.put hi2 rfl ht hv);obtain⟨E,rfl,J_,PI,hgf,hgc⟩:=ET.o.at hi2;have hgw:E<wr.heap.size:=Y_.o E rfl;have gU:=hgc 0 ja;generalize hoi:out[i]=o at*
        clear hoi hgc;obtain⟨J,hJ⟩:∃J,Ae d (Hd o.r.1) (Hd x.p.1)=J:=⟨_,rfl⟩;have PO:Dm d o.r.1 x.p.1=if J.2=0 then(Hd J.1,0)else([],J.2):=by rw[<-hJ];rfl
        have DA:Hid (RR=if J.2=0 then ri d (zp d l D) (PS.drop (k+1)) ((out.map λy:Uj=>y.r).set i (Hd J.1,o.r.2))else([],J.2)):=by{show _=_;rw[<-HG.o,PO];by_cases h0:J.2=0;{simp only[Ga h0,if_true]};{simp only[if_neg h0]}}
        go_upto_region 18 with(go_at_call 33;refine(y'.o W9 (za _ _)).mono ?_;rintro e s ⟨rfl,C⟩;have Yr:=af Cr.key Tryz.underlying87 Tryz.zeroValue3 (VP.o.below C.o VP.o.lt) (Ap a);rw[hl]at Yr);have nW:=C.o.size;have LS:Hid (Da M w7 s):=t'.o.trans (C.o.mono ja);have MS:Hid (Ix w.heap.size A K d l U X at_ Y Z D.length ct st s):=Z_.o.below (hM.symm▸LS.o);have D':=la (ET.o.below C.o);have YN:=la (VP.o.below C.o VP.o.lt);have QO:Hid (bi s d st.2 o.r.1 (.agg #[.slice o.a o.n o.c])):=bi.ok ((HOI.o.dg.dg.below C.o).mono nW) HOI.o.valid;have LX:Hid (bi s d st.2 x.p.1 (.agg #[.slice x.a x.n x.c])):=by rw[he];exact gP.o.dg.below C.o
        have hX0:s.cell? (Ya wr.heap.size)=some (.slice x.a x.n x.c):=(iU.o.below C.o).cell 0;have fK:s.cell? (Ja E (i*5))=some (.slice o.a o.n o.c):=(C.o.cell (p:=Ja E (i*5)) PI).trans gU;have Mu:s.frozen? (Ja E (i*5))=false:=(C.o.frozen (p:=Ja E (i*5)) PI).trans hgf;have hJ2:uh d st.2 (Hd o.r.1) (Hd x.p.1)=J:=by rw[he,Mn,hJ]
        have qS:Hid (∀wc,Hid (Vj A K d l U X at_ Y Z D.length ct st s wc)->Db 34 #[.agg #[.slice o.a o.n o.c]] wc λr' w''=>∃(a:Option Addr) (n c:Nat),r'=.returned (.agg #[.slice a n c])/\Hid (bi w'' d st.2 (Hd o.r.1) (.agg #[.slice a n c]))/\Hid (Da wc.heap.size wc w'')):=λwc hp=>Tz (QO.o.step MS.o hp.o id)
        have zX:Hid (∀wc,Hid (Vj A K d l U X at_ Y Z D.length ct st s wc)->Db 34 #[.agg #[.slice x.a x.n x.c]] wc λr' w''=>∃(a:Option Addr) (n c:Nat),r'=.returned (.agg #[.slice a n c])/\Hid (bi w'' d st.2 (Hd x.p.1) (.agg #[.slice a n c]))/\Hid (Da wc.heap.size wc w'')):=λwc hp=>Tz (LX.o.step MS.o hp.o id)
        have P4:Hid (∀wc (a1:Option Addr) (n1 c1:Nat) (a2:Option Addr) (n2 c2:Nat),Hid (Vj A K d l U X at_ Y Z D.length ct st s wc)->Hid (bi wc d st.2 (Hd o.r.1) (.agg #[.slice a1 n1 c1]))->Hid (bi wc d st.2 (Hd x.p.1) (.agg #[.slice a2 n2 c2]))->
          Db 35 #[Ma A,.agg #[.slice a1 n1 c1],.agg #[.slice a2 n2 c2]] wc λr' w''=>∃(a:Option Addr) (n c:Nat),r'=.returned (.agg #[.slice a n c])/\Hid (Vj A K d l U X at_ Y Z D.length ct (st.1,J.2) s w'')/\Hid (bi w'' d J.2 J.1 (.agg #[.slice a n c]))/\Hid (J.2=0->Rg w'' w''.heap.size [E] J.1 (.agg #[.slice a n c])/\Da wc.heap.size wc w'')/\Hid (Ff A K wc w'')):=by
         intro wc a1 n1 c1 a2 n2 c2 hp h1 h2;have q:=Mz (MS.o.step hp.o) h1.o h2.o;rw[hJ2]at q;refine q.mono ?_;rintro r' w'' ⟨a,n,c,rfl,q1,q2,q3⟩;refine⟨a,n,c,rfl,hp.o.trans q1 (λ_=>he),q2,λh0=>⟨(q3 h0).1.less λb hb=>?_,(q3 h0).2⟩,q1.step⟩;rw[List.mem_singleton.1 hb,Sh];exact Zb PI (ub nW hp.o.step.size)
        have HN3:Hid (∀wc (a1:Option Addr) (n1 c1:Nat),s.heap.size<=wc.heap.size->Hid (bi wc d J.2 J.1 (.agg #[.slice a1 n1 c1]))->Hid (J.2=0->Rg wc wc.heap.size [E] J.1 (.agg #[.slice a1 n1 c1]))->
          Db 34 #[.agg #[.slice a1 n1 c1]] wc λr' w''=>∃(a:Option Addr) (n c:Nat),r'=.returned (.agg #[.slice a n c])/\Hid (Da wc.heap.size wc w'')/\Hid (J.2=0->Rg w'' w''.heap.size [E] (Hd J.1) (.agg #[.slice a n c])/\Qc d (Hd J.1))):=by
         intro wc a1 n1 c1 hsz h1 h2;by_cases h0:J.2=0
         {obtain⟨_,q2⟩:=h1.o.dg h0;refine(yG (S:=[E]) (λb hb=>?_) (Zl q2) (h2.o h0)).mono ?_;{rw[List.mem_singleton.1 hb];omega};{rintro r' w'' ⟨a,c,rfl,q3,q4⟩;exact⟨a,_,c,rfl,q4,λ_=>⟨q3,(Xh q2).1⟩⟩}}
         {refine(Tz h1.o).mono ?_;rintro r' w'' ⟨a,n,c,rfl,_,q4⟩;exact⟨a,n,c,rfl,q4,λh=>absurd h h0⟩}
        have hU:Hid (Vj A K d l U X at_ Y Z D.length ct st s s.drew):=MS.o.refl (za _ _).drew;have iL:Hid (Da s.heap.size s s.drew):=(za _ _).drew;have Kw:(0:Int)<=(i:Int):=Xb _;have B5:(i:Int)<(out.length:Int):=by omega
        clear Yr gP QO LX iU hJ PO hJ2 HOI HG a0 a1 a2 a3 gU hgf;go_upto_region 21 with(fail);refine wp_region_held_drew (S:=λm:Ca=>Hid (m.cell? (Ya wr.heap.size)=some (.slice x.a x.n x.c))) Ha (la (show s.drew.cell? _=_ from hX0)) (λMb=>?_);have yN:s.drew.cell? (Ja E (i*5))=some (.slice o.a o.n o.c):=fK;have VW:s.drew.frozen? (Ja E (i*5))=false:=Mu;generalize s.drew=w0 at*
        refine tp 0 ?_;refine tp 1 ?_;refine tp 2 ?_;refine tp 3 ?_;refine tp 4 ?_;refine tp 5 ?_;refine tp 6 ?_;refine tp 9 ?_;refine tk 10 ?v10 ?RU ?_
        case RU=>(intro w9 Be;have y0:=Be.o;go_simp;try with_reducible rfl)
        refine tr 7 (λKK hK=>?_)
        go_simp
        refine hK.o _ _ Mb (λMb=>?_);clear hK;refine tr 8 (λKK hK=>?_)
        go_simp
        (go_at_call 34;refine(qS.o _ hU).mono ?_;rintro e v1 ⟨na,nn,nc,rfl,O2,nP⟩)
        have DR:=la (hU.o.more nP.o);refine hK.o _ _ (la ((nP.o.cell (p:=Ya wr.heap.size) (Kb _ _ Mb.o)).trans Mb.o)) (λMb=>?_);clear hK;refine tr 11 (λKK hK=>?_)
        go_simp
        (go_at_call 34;refine(zX.o _ DR).mono ?_;rintro e v2 ⟨ma,mn,mc,rfl,HE2,XA⟩)
        have K7:=la (DR.o.more XA.o);have E':=la (O2.o.below XA.o);refine hK.o _ _ (la ((XA.o.cell (p:=Ya wr.heap.size) (Kb _ _ Mb.o)).trans Mb.o)) (λMb=>?_);clear hK O2;refine tr 12 (λKK hK=>?_)
        go_simp
        (go_at_call 35;refine(P4.o _ _ _ _ _ _ _ K7 E' HE2).mono ?_;rintro e v3 ⟨ga,gn,gc,rfl,F',HE3,HV3,V5⟩)
        have Un:=F'.o.step.size;have hv2:=K7.o.step.size;have hAM:A<M:=by omega
        refine hK.o _ _ (la ((V5.o.cell (b:=wr.heap.size) (o:=0) (Kb _ _ Mb.o) ja ja).trans Mb.o)) (λMb=>?_);clear hK E' HE2;have H':v3.cell? (Ja E (i*5))=some (.slice o.a o.n o.c):=(F'.o.step.cell (b:=E) (o:=i*5) (Kb _ _ fK) ja ja).trans fK;have hf3:v3.frozen? (Ja E (i*5))=false:=(sf (a:=Ja E (i*5)) (F'.o.step.ul E (Kb _ _ fK) ja ja)).trans Mu;refine tr 13 (λKK hK=>?_)
        go_simp
        (go_at_call 34;refine(HN3.o _ _ _ _ Un HE3 (la λh=>(HV3.o h).1)).mono ?_;rintro e v4 ⟨fa,fn,fc,rfl,W0,HF4⟩)
        refine hK.o _ _ (la ((W0.o.cell (p:=Ya wr.heap.size) (Kb _ _ Mb.o)).trans Mb.o)) (λMb=>?_);clear hK;have Q4:=la (F'.o.more W0.o);have cz:v4.cell? (Ja E (i*5))=some (.slice o.a o.n o.c):=(W0.o.cell (p:=Ja E (i*5)) (Kb _ _ H')).trans H';have fz:v4.frozen? (Ja E (i*5))=false:=(W0.o.frozen (p:=Ja E (i*5)) (Kb _ _ H')).trans hf3;clear fK Mu yN VW H' hf3;refine tp 14 ?_;refine tp 15 ?_;refine tr 16 (λKK hK=>?_)
        go_simp
        refine hK.o _ _ (la ((World.cell?_setCell_other _ _ _ _ (by intro e;have e2:=congrArg Addr.block e;simp only at e2;omega)).trans Mb.o)) (λMb=>?_);clear hK cz fz Mb;refine wpAnyH_done Ha ?_ _;have hv4:=W0.o.size
        have afh:Hid (Da W.heap.size W (v4.setCell (Ja E (i*5)) (.slice fa fn fc))):=by{have h1:Da W.heap.size W s:=JS.o.trans (LS.o.mono ja);have h2:=h1.trans (Q4.o.step.below (B:=W.heap.size) h1.size ja ja);exact h2.setCell (p:=Ja E (i*5)) (by show W.heap.size<=E;omega) _}
        have afi:Hid (DV (v4.setCell (Ja E (i*5)) (.slice fa fn fc)) A (.slice U d.length Y) (.slice X l.length Z) (.slice at_ D.length ct) J.2 K):=(heap_setCell_other v4 (Ja E (i*5)) A _ (by show A≠E;omega)).trans Q4.o.box
        have WX:Hid (J.2=0->Da M w7 (v4.setCell (Ja E (i*5)) (.slice fa fn fc))/\mf (v4.setCell (Ja E (i*5)) (.slice fa fn fc)) W8.heap.size d (.slice (Nb E) out.length xc) (out.set i {o with r:=(Hd J.1,o.r.2),a:=fa,n:=fn,c:=fc})/\Wb Value.string (Value.int .i64) (v4.setCell (Ja E (i*5)) (.slice fa fn fc)) M (Jm 0 (out.map (·.r)))/\W8.heap.size<=(v4.setCell (Ja E (i*5)) (.slice fa fn fc)).heap.size):=λh0=>by{obtain⟨_,q1⟩:=HV3.o h0;have q2:Da s.heap.size s v2:=(iL.o.trans (nP.o.mono iL.o.size)).trans (XA.o.mono (ub iL.o.size nP.o.size));have q3:Da s.heap.size s v4:=(q2.trans (q1.mono q2.size)).trans (W0.o.mono (ub q2.size q1.size));obtain⟨es,c,m1,m2⟩:=YN.o.below q3 YN.o.lt;refine⟨(LS.o.trans (q3.mono ja)).setCell (p:=Ja E (i*5)) (by show M<=E;omega) _,PR.o v4 E _ _ _ _ (D'.o.below q3) (HF4.o h0).1 (HF4.o h0).2,⟨es,c,(heap_setCell_other v4 (Ja E (i*5)) M _ (by show M≠E;omega)).trans m1,m2⟩,?_⟩;rw[Yb];exact ub ja q3.size}
        clear iL nP XA HV3 W0 HF4 hU DR K7 F' Q4 V5 HE3 qS zX HN3 P4 D' YN PR MS hX0;generalize v4.setCell (Ja E (i*5)) (.slice fa fn fc)=wZ at*
        have y3:=afi.o.cell 3;by_cases h0:J.2=0
        {(have e3:(J.2 !=0)=false:=by simp[h0]);obtain⟨dB,X0,UF,afj⟩:=WX.o h0;have dB:=la dB;have X0:=la X0;have UF:=la UF;rw[Ga h0]at DA;(have ZY:Hid (ri d (zp d l D) (PS.drop (k+1)) ((out.set i {o with r:=(Hd J.1,o.r.2),a:=fa,n:=fn,c:=fc}).map (·.r))=RR):=by show _=_;rw[List.map_set];exact DA.o.symm);have afk:Hid (Wb Value.string (Value.int .i64) wZ M (Jm 0 ((out.set i {o with r:=(Hd J.1,o.r.2),a:=fa,n:=fn,c:=fc}).map (·.r)))):=by{(have e:Jm 0 ((out.set i {o with r:=(Hd J.1,o.r.2),a:=fa,n:=fn,c:=fc}).map (·.r))=Jm 0 (out.map (·.r)):=by rw[List.map_set];exact HE.o _);rw[e];exact UF.o};have XT:(out.set i {o with r:=(Hd J.1,o.r.2),a:=fa,n:=fn,c:=fc}).length=out.length:=Cg;generalize out.set i {o with r:=(Hd J.1,o.r.2),a:=fa,n:=fn,c:=fc}=I' at*;(have QT:I'.length<=k+1:=ja);have HLL:=la XT;clear XT;go_wp2;go_roundw;(case rel=>exact⟨k+1,I',ja,by go_num,ZY,QT,X0,dB,afk,afj⟩);case measure=>simp[intOf];omega}
        ·have e3:(J.2 !=0)=true:=by simpa using h0
         rw[if_neg h0]at DA;obtain rfl:=DA.o;go_upto_region 23 with(fail)
         go_region
         all_goals
          go_wp2;go_ret2;exact⟨_,rfl,[],(vp.o.trans (afh.o.mono P)).drew,mf.nil _ _,λh=>absurd h h0,λ_=>rfl⟩
      {(have e2:(ae !=0)=true:=by simpa using p');rw[if_neg p']at HG;obtain rfl:=HG.o;have AO:Da w9.heap.size w9 (w9.alloc (.cells #[pa a.state,pa a.value,.slice N a.by_.length O,.slice Q a.over.length R] 42)):=(za _ _).alloc (wa _) _;go_wp2;go_ret2;exact⟨_,rfl,[],vp.o.trans (((L.o.trans (eU.o.mono (L.o.size))).trans (AO.mono (ub L.o.size kF))).mono P),mf.nil _ _,λh=>absurd h p',λ_=>rfl⟩}
     {(have zI:k=xs.length:=ja);(have iY:PS.drop k=[]:=by rw[zI, <-HX.o, <-Va (f:=λy:Rn=>y.p),List.drop_length]);rw[iY,ri]at HG;obtain rfl:=HG.o;have G:Da w.heap.size w wr:=vp.o.trans ((JS.o.trans (HB.o.mono ja)).mono P);have KS:Hid (qb wr w.heap.size 28 #[.slice U d.length Y,.slice X l.length Z,.slice at_ D.length ct]):=T.o.below (JS.o.trans (HB.o.mono ja));have x0:=KS.o.cell 0;(have hne:out≠[]:=λe=>L8.o rfl (by rw[e];rfl));have iZ:mf wr w.heap.size d (.slice xa out.length xc) out:=⟨Wp KN.o.own ja,KN.o.ns,KN.o.ok⟩;have HOR:=la (WN iZ hne ja (HD.o.below Jk.kept G) (λm h=>HHT.o m (G.trans h)) G.size);have TP:=la G;clear G iZ hne iY;go_wp2_with (go_at_call 36;refine HOR.o.mono ?_;rintro e w8 ⟨rfl,mW,ys,p1,p2,p3⟩);go_ret2;exact⟨_,rfl,ys,TP.o.trans mW,p3,λ_=>⟨p1.map _,p2⟩,λh=>absurd rfl h⟩}
   ·have e1:(st.2 !=0)=true:=by simpa using he
    rw[if_neg he]at JL;obtain rfl:=JL.o;go_upto_region 8 with(fail)
    go_region
    all_goals
     go_wp2;go_ret2;exact⟨_,rfl,[],(vp.o.trans (JS.o.mono P)).drew,mf.nil _ _,λh=>absurd h he,λ_=>rfl⟩
  {obtain⟨n,hn⟩:∃n,(Ii l).length=n+1:=⟨(Ii l).length-1,by have:=List.length_pos_iff.2 Q0;omega⟩;(have XC:Hid (∀m,Da W.heap.size W m->Db 31 #[.agg #[.slice U d.length Y,.slice X l.length Z,.slice at_ D.length ct]] m λe w''=>∃(ua:Option Addr) (uc:Nat),e=.returned (.slice ua (n+1) uc)/\Hid (Da m.heap.size m w'')):=λm h=>by{refine(Z9.o m h).mono ?_;rintro e w'' ⟨u,rfl,h1,h2⟩;obtain⟨ua,uc,rfl,_⟩:=Sa.shape h2;rw[hn];exact⟨ua,uc,rfl,h1⟩});(obtain rfl:RR=([],13):=by rw[<-nU.o];unfold bj;rw[Ga OI,if_neg Q0]);clear hb OI Q0 hok nU Z9 hn;go_enter func9,ntmps9;go_upto_region 1 with(fail);rw[HW.o];go_upto_region 3 with(go_at_call 26;refine lS.o.mono ?_;rintro e w1 ⟨rfl,I⟩;have Lk:=la I;clear x0 x1 x2;have x0:=(T.o.below I).cell 0;have x1:=(T.o.below I).cell 1;have x2:=(T.o.below I).cell 2;clear I);go_wp2_with (go_at_call 31;refine(XC.o w1 Lk.o).mono ?_;rintro e w2 ⟨ua,uc,rfl,dr⟩);go_ret2;exact⟨_,[],rfl,vp.o.trans ((Lk.o.trans (dr.o.mono Lk.o.size)).mono P),mf.nil _ _,λh=>absurd h Ba,λ_=>rfl⟩}
 {(have hb:((Je d l D []).2==0)=false:=by simpa using OI);rw[hb]at lS;(obtain rfl:RR=([],1):=by rw[<-nU.o];unfold bj;rw[if_neg OI]);clear hb OI hok nU Z9;go_enter func9,ntmps9;go_upto_region 1 with(fail);rw[HW.o];go_wp2_with (go_at_call 26;refine lS.o.mono ?_;rintro e w1 ⟨rfl,I⟩);go_ret2;exact⟨_,[],rfl,vp.o.trans (I.mono P),mf.nil _ _,λh=>absurd h Ba,λ_=>rfl⟩}
end Go.Proofs.YtdipkbobalnilaaGreatDoor
