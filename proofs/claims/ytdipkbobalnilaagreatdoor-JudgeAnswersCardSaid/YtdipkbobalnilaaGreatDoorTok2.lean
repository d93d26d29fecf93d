/- The walk of the lexer's iterator. -/
import Derived.Test.YtdipkbobalnilaaGreatDoorAl
import Derived.Test.YtdipkbobalnilaaGreatDoorTokA
namespace Go.Proofs.YtdipkbobalnilaaGreatDoor
open Tryz
open Go.RowKit
variable{j:Nat}
attribute [local go_sem] Oper.semAt_some
def L'(b a:Nat):Ea:=.func (.func 210) #[] #[Ma b,Ma a]
structure Env (s : Na) (bt bc ba : Nat) (W : Ca) : Prop where
 t:W.cell? (Ya bt)=some (.string s)
 c:W.rangeAt bc 0 Bp
 a:W.cell? (Ya ba)=some (L' bt bc)
structure qB (s : Na) (bt bc ba : Nat) (W : Ca) : Prop where
 e:Env s bt bc ba W
 t:bt<W.heap.size
 c:bc<W.heap.size
 a:ba<W.heap.size
theorem qB.below{s:Na}{g f:Nat}{W i:Ca}(h:qB s j g f W)(d:Da W.heap.size W i):qB s j g f i:=
 ⟨⟨(d.cell (p:=Ya j) h.t).trans h.e.t,λb v k=>(d.cell (p:=Ja g (0+b)) h.c).trans (h.e.c b v k),(d.cell (p:=Ya f) h.a).trans h.e.a⟩,Zb h.t d.size,Zb h.c d.size,Zb h.a d.size⟩
def Rr(t d c b:Nat)(W a:Ca):Prop:=zg t W a/\a.heap[d]? =W.heap[d]? /\a.heap[c]? =W.heap[c]? /\a.heap[b]? =W.heap[b]?
theorem Rr.t{t c b a:Nat}:∀ {A B C:Ca},Rr t c b a A B->Rr t c b a B C->Rr t c b a A C:=
 λh k=>⟨h.1.trans k.1,k.2.1.trans h.2.1,k.2.2.1.trans h.2.2.1,k.2.2.2.trans h.2.2.2⟩
theorem Rr.b{e d c:Nat}{w:Ca}(m:e<w.heap.size)(k:d<w.heap.size)(i:c<w.heap.size):∀(W:Ca) (l:Nat) (o a:Obj),w.heap.size<=l->W.heap[l]? =some o->o.isCells=false->o.isWalk=false->Rr j e d c W (W.putObj l a):=
 λW l o a h f g _=>⟨zg.putObj j W l o a f g,World.putObj_heap_other ja,World.putObj_heap_other ja,World.putObj_heap_other ja⟩
theorem Ss{W a:Ca}(h:a.heap[j]? =W.heap[j]?)(b:j<W.heap.size):j<a.heap.size:=by
 rw[fg b]at h;exact(Array.getElem?_eq_some_iff.1 h).1
theorem qB.keep{s:Na}{g f d:Nat}{W i:Ca}(h:qB s g f d W)(k:Rr j g f d W i):qB s g f d i:=
 ⟨⟨(World.cell?_of_block (a:=Ya g) k.2.1).trans h.e.t,λb v l=>(World.cell?_of_block (a:=Ja f (0+b)) k.2.2.1).trans (h.e.c b v l),(World.cell?_of_block (a:=Ya d) k.2.2.2).trans h.e.a⟩,Ss k.2.1 h.t,Ss k.2.2.1 h.c,Ss k.2.2.2 h.a⟩
def xB(s:Na)(k:Nat)(pre:List (oU s)):Prop:=pre.length<=k/\(Oe s=true->(k=0/\pre=[])\/(k=s.size/\pre.map (·.1)=[rB s]))
def Cut(s:Na)(k k' b n a:Nat):Prop:=k<=k'/\k'<=s.size/\(a=0->k<k')/\(b=1->a=0->k'-k<=24/\Cu s k=3/\∀i,k<=i->i<k'->Y' (Cu s i))/\
 (Oe s=true->k=0->b=1/\a=0/\n=0/\k'=s.size)
theorem Cut.ok{s:Na}{k' b n a:Nat}(h:Cut s j k' b n a)(m:j<s.size):I1 s ⟨b,s.extract j k',n,j,a⟩:=by
 intro e f g;obtain⟨rfl,rfl⟩:=yB s j k' h.2.1 g ja;obtain⟨l,c,d⟩:=h.2.2.2.1 e f;exact(Qj s).2 ⟨ja,ja,c,λi k=>d i (Lb _) k⟩
theorem Cut.afU{s:Na}{k' e n a:Nat}(h:Cut s j k' e n a)(f:j<s.size){pre:List (oU s)}(c:xB s j pre)(b:a=0):xB s k' (pre++[⟨⟨e,s.extract j k',n,j,a⟩,h.ok f⟩]):=by
 refine⟨by have:=c.1;have:=h.2.2.1 b;simp;omega,λd=>?_⟩;rcases c.2 d with⟨rfl,rfl⟩|⟨rfl,_⟩
 {obtain⟨rfl,rfl,rfl,rfl⟩:=h.2.2.2.2 d rfl;exact .inr ⟨rfl,by simp[rB]⟩}
 {omega}
theorem Cut.name{s:Na}{k' c n a:Nat}(h:Cut s j k' c n a)(e:j<s.size){pre:List (oU s)}(d:xB s j pre)(b:Oe s=true):
  a=0/\(pre++[(⟨⟨c,s.extract j k',n,j,a⟩,h.ok e⟩:oU s)]).map (·.1)=[rB s]:=by
 rcases d.2 b with⟨rfl,rfl⟩|⟨rfl,_⟩
 {obtain⟨rfl,rfl,rfl,rfl⟩:=h.2.2.2.2 b rfl;exact⟨rfl,by simp[rB]⟩}
 {omega}
theorem xB.done{s:Na}{pre:List (oU s)}(b:xB s s.size pre)(a:Oe s=true):pre.map (·.1)=[rB s]:=by
 rcases b.2 a with⟨c,_⟩|⟨_,h⟩
 {have:=((Qj s).1 a).1;omega}
 {exact h}
theorem afV(c:Nat)(h:c<256)(b:Oq c=2):c=35:=by
 have a:∀c:Fin 256,Oq c.1=2->c.1=35:=by decide+kernel
 exact a ⟨c,h⟩ b
theorem afW(c:Nat)(h:c<256)(b:Oq c=4):48<=c/\c<=57:=by
 have a:∀c:Fin 256,Oq c.1=4->48<=c.1/\c.1<=57:=by decide+kernel
 exact a ⟨c,h⟩ b
theorem rA(s:Na)(k j:Nat)(d:j<=s.size)(h:∀i,k<=i->i<j->Cu s i=4):TE (s.extract k j):=by
 intro i c;have a:k+i<j:=by rw[li]at c;omega
 have b:=h (k+i) ja a;rw[VK s (k+i) ja]at b;have:=afW _ (UInt8.toNat_lt _) b;rw[ByteArray.getElem_extract];exact this
theorem xB.skip{s:Na}{k':Nat}{pre:List (oU s)}(h:xB s j pre)(d:j<s.size)(b:Cu s j≠3)(c:j<=k'):xB s k' pre:=by
 refine⟨by have:=h.1;omega,λa=>?_⟩;rcases h.2 a with⟨rfl,rfl⟩|⟨rfl,_⟩
 {exact absurd ((Qj s).1 a).2.2.1 b}
 {omega}
theorem Gw(m:Nat)(s:Na)(x:Int)(j:Nat)(g:x=j)(b a f:Nat)(w:Ca)(hs:s.size<=20000)(d:Env s b a f w):
  CallsIn Fence.wide m prog 210 #[pa x,Ma b,Ma a] w λe h=>e=.returned (.int .u8 (Cu s j))/\w=h:=by
 subst g;exact callsIn_wide.2 (JR s j b a w ja d.t d.c)
set_option maxRecDepth 100000 in
set_option maxHeartbeats 2000000 in
theorem aI(n:Nat)(O:1<=n)(s:Na)(hs:s.size<=20000)(I N H:Nat)(w:Ca)(he:Env s I N H w)(ht:I<w.heap.size)(hc:N<w.heap.size)(ha:H<w.heap.size):
    SeqStopsK Fence.wide n prog 211 #[Ma I,Ma H] (λx:oU s=>#[.agg x.1.cells]) (Rr 286 I N H)
      (λxs=>Oe s=true->xs.map (·.1)=[rB s]) (λxs=>Oe s=true->xs.map (·.1)=[rB s]) s.size w:=λl J Jx W hW hJ hJx hY h0=>by
  have HE0:=la ((⟨he,ht,hc,ha⟩:qB s I N H w).below hW);have HW:=la hW;have HJ:=la hJ;have HY:=la hY;clear he hW hJ hY;refine callsIn_of_wp func211 rfl trivial ?_ rfl;simp only[ntmps211,Rf,Qb,nd,Nat.reduceAdd,Nat.reduceSub,Re,Se,Sf,Xe,Tb,Cc];refine sr ?_;gi_wp2;refine wpIn_label ?_;gi_wp2;gi_loopw [4] (λC wr=>∃(k:Nat) (pre:List (oU s)),k<=s.size/\C=pa k/\Hid (xB s k pre)/\Hid (J pre wr)/\Hid (qB s I N H wr)) (λC _=>s.size-(intOf C).toNat)
  case atStart=>exact⟨0,[],Lb _,rfl,la ⟨wa _,λ_=>.inl ⟨rfl,rfl⟩⟩,la h0,HE0⟩
  case round=>
    obtain⟨k,pre,hk,rfl,z,Z,g⟩:=hrel;by_cases hlt:k<s.size
    . have aqz:=g.o.t
      have aqA:=g.o.a;have hE:=g.o.e;have HE:=la hE;obtain⟨e1,e2,e3⟩:=hE;unfold L' at e3;have HC:=la e2;clear e2;gi_upto_region 4 with(fail);have P:Da wr.heap.size wr (wr.alloc (.cells #[pa 0,.string {data:=#[]},pa 0,pa k,pa 0] 286)):=(za _ wr).alloc (wa _) _;have hK1:=qb.new wr 286 #[pa 0,.string {data:=#[]},pa 0,pa k,pa 0];have vp:=la P;have Zu:=la hK1;have e1':=(P.cell (p:=Ya I) (by simp;omega)).trans e1;have e3':=(P.cell (p:=Ya H) (by simp;omega)).trans e3;have hA:=Gw (n-1) s k k rfl I N H _ hs (g.o.below P).e;clear P hK1;have B:=la hA;clear hA;gi_cut [20]from 18 (λv U=>v=.int .u8 (Cu s k)/\Hid (Da wr.heap.size wr U)/\Hid (qb U wr.heap.size 286 #[pa 0,.string {data:=#[]},pa 0,pa k,pa 0]))
      case first=>(gi_wp2_with ((try refine⟨trivial,?_⟩);gi_at_call 210;(with_reducible refine B.o.mono ?_);rintro e w2 ⟨rfl,rfl⟩);gi_meet;case rel=>exact⟨rfl,vp,Zu⟩)
      case rest=>
        obtain⟨rfl,D,f⟩:=hcut;clear B vp Zu;have Q:=la (g.o.below D.o);have Y:=Q.o.e;have X:=la Y;have e1c:=Y.t;have e3c:=Y.a;unfold L' at e3c;clear Y e1 e3 e1' e3';have EA:=WK s k;obtain⟨c,hcc⟩:∃c,Cu s k=c:=⟨_,rfl⟩;rw[hcc]at EA⊢;have y:=la hcc;clear hcc;gi_step;gi_cut [4]from 7 (λC U=>∃(k' kd m K:Nat),C=pa k'/\Hid (Cut s k k' kd m K)/\Hid (Da wr.heap.size wr U)/\Hid (qb U wr.heap.size 286 #[pa kd,.string {data:=#[]},pa m,pa k,pa K]))
        case first=>
          have hcs:c=0\/c=1\/c=2\/c=3\/c=4\/c=5\/c=6\/c=7\/c=8:=by omega
          clear EA;have f0:wc.cell? (Ya wr.heap.size)=some (pa 0):=f.o.cell 0;have f4:wc.cell? (Ja wr.heap.size 4)=some (pa 0):=f.o.cell 4;have z0:=f.o.frozen 0;have z4:=f.o.frozen 4;have B:=la (Gw (n-1) s k k rfl I N H _ hs X.o);rw[y.o]at B;have HQ:Hid (c≠3->∀(k' kd m K:Nat),k<=k'->k'<=s.size->(K=0->k<k')->kd≠1->Hid (Cut s k k' kd m K)):=la λh3 _ _ _ _ a b d e=>la ⟨a,b,d,λh=>absurd h e,λh E=>absurd (by rw[<-y.o,E];exact((Qj s).1 h).2.2.1) h3⟩
          have T1:=λi v=>la (D.o.setCell (p:=Ja wr.heap.size i) (wa _) v)
          have T2:=λi v j u=>la ((T1 i v).o.setCell (p:=Ja wr.heap.size j) (wa _) u)
          have HSK:=la (λh3 j (V:k<=j)=>(⟨la (z.o.skip hlt (by rw[y.o];exact h3) V),la (xj HJ.o Z.o D.o),Q⟩:Hid (xB s j pre)/\Hid (J pre wc)/\Hid (qB s I N H wc)));rcases hcs with rfl|rfl|rfl|rfl|rfl|rfl|rfl|rfl|rfl
          . gi_wp2_with (fail)
            gi_meet
            case rel=>exact⟨k,0,0,3,rfl,HQ.o Ba _ _ _ _ (wa _) hk ja Ba,T1 4 _,la (f.o.set 4 _)⟩
          . gi_wp2_with (fail)
            go_roundw
            case rel=>exact⟨k+1,pre,ja,by go_num,HSK.o Ba _ ja⟩
            case measure=>simp[intOf];omega
          . have h35:=afV s[k].toNat (UInt8.toNat_lt _) (by rw[<-VK s k hlt];exact y.o)
            have H35:=la h35;clear h35 B f0 f4 z0 z4;gi_wp2_with (fail);gi_loopw [4] (λC U=>∃j:Nat,k<=j/\j<=s.size/\C=pa j/\U=wc) (λC _=>s.size-(intOf C).toNat)
            case atStart=>exact⟨k,wa _,hk,rfl,rfl⟩
            case round=>
              obtain⟨j,hkj,V,rfl,rfl⟩:=hrel;by_cases hjs:j<s.size
              . rcases hq:((s[j].toNat:Int)==10)with _|_
                . have hq':((s[j].toNat:Int) !=10)=true:=by rw[bne,hq];rfl
                  gi_wp2_with (fail);go_roundw
                  case rel=>exact⟨j+1,ja,ja,by go_num,trivial⟩
                  case measure=>simp[intOf];omega
                . have hq':((s[j].toNat:Int) !=10)=false:=by rw[bne,hq];rfl
                  have T:k<j:=by
                    by_cases h:j=k
                    . subst h
                      have:=H35.o;rw[this]at hq;cases hq
                    . omega
                  gi_wp2_with (fail);go_roundw
                  case rel=>exact⟨j,pre,V,rfl,HSK.o Ba _ ja⟩
                  case measure=>simp[intOf];omega
              . gi_wp2_with (fail)
                go_roundw
                case rel=>exact⟨j,pre,V,rfl,HSK.o Ba _ ja⟩
                case measure=>simp[intOf];omega
          . gi_wp2_with ((try refine⟨trivial,?_⟩);gi_at_call 210;(with_reducible refine B.o.mono ?_);rintro e w2 ⟨rfl,rfl⟩)
            gi_loopw [4,7] (λC vc U=>∃j d:Nat,k<=j/\j<=s.size/\C=pa j/\vc=.int .u8 d/\Hid (Cu s j=d)/\Hid (∀i,k<=i->i<j->Y' (Cu s i))/\(j=k->d=3)/\U=wc) (λC _ _=>s.size-(intOf C).toNat)
            case atStart=>exact⟨k,3,wa _,hk,rfl,rfl,y,la (λi h1 h2=>by omega),λ_=>rfl,rfl⟩
            case round=>
              obtain⟨j,d,hkj,V,rfl,rfl,M,G,hjk,rfl⟩:=hrel;have hd8:=WK s j;rw[M.o]at hd8;clear B;by_cases S:d=3\/d=4\/d=5
              . have hjs:j<s.size:=by
                  by_cases h:j<s.size
                  . exact h
                  . have:=jT s j h;rw[M.o]at this;omega
                have B:=la (Gw (n-1) s ((j:Int)+1) (j+1) rfl I N H _ hs X.o)
                have HWD:=la (show ∀i,k<=i->i<j+1->Y' (Cu s i)from λi h1 h2=>by
                  by_cases h:i<j
                  . exact G.o i h1 h
                  . have:i=j:=by omega
                    rw[this,M.o];exact S)
                clear hjk M G;rcases S with rfl|rfl|rfl
                all_goals
                  gi_wp2_with ((try refine⟨trivial,?_⟩);gi_at_call 210;(with_reducible refine B.o.mono ?_);rintro e w2 ⟨rfl,rfl⟩);go_roundw
                  case rel=>exact⟨j+1,Cu s (j+1),ja,ja,by go_num,rfl,la rfl,HWD,λh=>ja,trivial⟩
                  case measure=>simp[intOf];omega
              . have e3d:((d:Int)==3)=false:=by simp;omega
                have e4d:((d:Int)==4)=false:=by simp;omega
                have e5d:((d:Int)==5)=false:=by simp;omega
                have T:k<j:=by
                  by_cases h:j=k
                  . exact absurd (.inl (hjk h)) S
                  . omega
                have HN:=la (show Oe s=true->k=0->j=s.size from λh h0=>by
                  by_cases hjs:j<s.size
                  . have:=((Qj s).1 h).2.2.2 j hjs
                    rw[M.o]at this
                    exact absurd this S
                  . omega)
                clear hjk S hd8 M;by_cases h24:24<j-k
                . have d24:decide ((24:Int)<(j:Int)-k)=true:=Hb ja
                  gi_wp2_with (fail);gi_meet
                  case rel=>exact⟨j,1,0,2,rfl,la ⟨ja,V,λ_=>ja,λ_ h=>ja,λh E=>by have:=HN.o h E;have:=((Qj s).1 h).2.1;omega⟩,T2 0 _ 4 _,la ((f.o.set 0 _).set 4 _)⟩
                . have d24:decide ((24:Int)<(j:Int)-k)=false:=Za ja
                  gi_wp2_with (fail);gi_meet
                  case rel=>exact⟨j,1,0,0,rfl,la ⟨ja,V,λ_=>ja,λ_ _=>⟨ja,y.o,G.o⟩,λh E=>⟨rfl,rfl,rfl,HN.o h E⟩⟩,T1 0 _,la (f.o.set 0 _)⟩
          . have f2:wc.cell? (Ja wr.heap.size 2)=some (pa 0):=f.o.cell 2
            have z2:=f.o.frozen 2;clear B;rw[show((4:Nat):Int)=4 from rfl];gi_wp2_with (fail);gi_loopw [4] (λC U=>∃j:Nat,k<=j/\j<=s.size/\C=pa j/\Hid (∀i,k<=i->i<j->Cu s i=4)/\U=wc) (λC _=>s.size-(intOf C).toNat)
            case atStart=>exact⟨k,wa _,hk,rfl,la (λi h1 h2=>by omega),rfl⟩
            case round=>
              obtain⟨j,hkj,V,rfl,R,rfl⟩:=hrel;obtain⟨d,hd⟩:∃d,Cu s j=d:=⟨_,rfl⟩;have hd8:=WK s j;have hA:=Gw (n-1) s (j:Int) j rfl I N H _ hs X.o;rw[hd]at hd8 hA;have B:=la hA;have HD:=la hd;clear hA hd;by_cases hd4:d=4
              . have hjs:j<s.size:=by
                  by_cases h:j<s.size
                  . exact h
                  . have:=jT s j h;rw[HD.o]at this;omega
                subst hd4
                have HDG:=la (show ∀i,k<=i->i<j+1->Cu s i=4 from λi h1 h2=>by
                  by_cases h:i<j
                  . exact R.o i h1 h
                  . have:i=j:=by omega
                    rw[this,HD.o])
                gi_wp2_with ((try refine⟨trivial,?_⟩);gi_at_call 210;(with_reducible refine B.o.mono ?_);rintro e w2 ⟨rfl,rfl⟩);go_roundw
                case rel=>exact⟨j+1,ja,ja,by go_num,HDG,trivial⟩
                case measure=>simp[intOf];omega
              . have T:k<j:=by
                  by_cases h:j=k
                  . subst h;have:=HD.o;rw[y.o]at this;omega
                  . omega
                have e4d:((d:Int)==4)=false:=by simp;omega
                have hdc:7<j-k\/(j-k<=7/\d=3)\/(j-k<=7/\d=5)\/(j-k<=7/\d≠3/\d≠5):=by omega
                have Z':=la (λ(K m:Nat)=>(⟨hkj,V,λ_=>T,λh=>ja,λh E=>by have:=((Qj s).1 h).2.2.1;rw[<-E,y.o]at this;omega⟩:Cut s k j 2 m K));have r:=la (Gw (n-1) s (j:Int) j rfl I N H _ hs (g.o.below (D.o.setCell (p:=Ya _) (wa _) (pa 2))).e);rw[HD.o]at r;rcases hdc with h7|⟨h7,rfl⟩|⟨h7,rfl⟩|⟨h7,hd3,hd5⟩
                rotate_right 1
                . have d7:decide ((7:Int)<(j:Int)-k)=false:=Za ja
                  have e3d:((d:Int)==3)=false:=by simp;omega
                  have e5d:((d:Int)==5)=false:=by simp;omega
                  have HDX:=la (rA s k j V R.o);have hsz:(s.extract k j).size=j-k:=by rw[li];omega
                  have gM:=la hsz;clear R hsz;gi_wp2_with (first|(refine⟨trivial,?_⟩;gi_at_call 210;(first|(with_reducible refine CallsIn.mono B.o ?_;clear B)|(with_reducible refine CallsIn.mono r.o ?_;clear r));rintro e w2 ⟨rfl,rfl⟩)|(refine⟨trivial,?_⟩;gi_at_call 212;(refine(callsIn_wide.2 (US (s.extract k j) (by rw[gM.o];omega) (by rw[gM.o];omega) HDX.o _)).mono ?_);rintro e w2 ⟨rfl,Am⟩;have q:=(f.o.set 0 (pa 2)).below Am;have HQ:=la q;have g2:w2.cell? (Ja _ 2)=some (pa 0):=q.cell 2;have g2':=q.frozen 2;have OA:=la Am;clear q Am));gi_meet
                  case rel=>exact⟨j,2,_,0,rfl,la (Z'.o 0 _),la (((D.o.setCell (p:=Ya _) (wa _) _).trans (OA.o.mono (by have:=D.o.size;simp;omega))).setCell (p:=Ja _ 2) (wa _) _),la (HQ.o.set 2 _)⟩
                all_goals
                  first
                  | have d7:decide ((7:Int)<(j:Int)-k)=true:=Hb ja
                  | have d7:decide ((7:Int)<(j:Int)-k)=false:=Za ja
                  gi_wp2_with (refine⟨trivial,?_⟩;gi_at_call 210;(first|(with_reducible refine CallsIn.mono B.o ?_;clear B)|(with_reducible refine CallsIn.mono r.o ?_;clear r));rintro e w2 ⟨rfl,rfl⟩);gi_meet
                  case rel=>exact⟨j,2,0,4,rfl,la (Z'.o 4 0),T2 0 _ 4 _,la ((f.o.set 0 _).set 4 _)⟩
          . gi_wp2_with (fail)
            gi_meet
            case rel=>exact⟨k,0,0,3,rfl,HQ.o Ba _ _ _ _ (wa _) hk ja Ba,T1 4 _,la (f.o.set 4 _)⟩
          all_goals
            clear B;simp only[Int.cast_ofNat_Int];have r:=la (Gw (n-1) s (k:Int) k rfl I N H _ hs (g.o.below (T1 0 (pa 3)).o).e);rw[y.o]at r;by_cases aqN:k+1<s.size
            rcases hq:((s[k+1].toNat:Int)==61)with _|_
            all_goals
              gi_wp2_with (refine⟨trivial,?_⟩;gi_at_call 210;(with_reducible refine CallsIn.mono r.o ?_);clear r;rintro e w2 ⟨rfl,rfl⟩);gi_meet
              case rel=>first
                | exact⟨k+1,3,0,0,rfl,HQ.o Ba _ _ _ _ ja ja ja Ba,T1 0 _,la (f.o.set 0 _)⟩
                | exact⟨k+2,3,0,0,rfl,HQ.o Ba _ _ _ _ ja ja ja Ba,T1 0 _,la (f.o.set 0 _)⟩
                | exact⟨k+1,3,0,3,rfl,HQ.o Ba _ _ _ _ ja ja ja Ba,T2 0 _ 4 _,la ((f.o.set 0 _).set 4 _)⟩
        case rest=>
          obtain⟨k',kd,m,K,rfl,A,Ou,F⟩:=hcut;clear f D Q X e1c e3c;have aga:=la (g.o.below Ou.o);have hE2:=aga.o.e;have e1d:=hE2.t;clear hE2;have agb:=A.o.2.1;have aqO:=A.o.1;have f0:wc.cell? (Ya wr.heap.size)=some (pa kd):=F.o.cell 0;have f1:wc.cell? (Ja wr.heap.size 1)=some (.string {data:=#[]}):=F.o.cell 1;have f2:wc.cell? (Ja wr.heap.size 2)=some (pa m):=F.o.cell 2;have f3:wc.cell? (Ja wr.heap.size 3)=some (pa k):=F.o.cell 3;have f4:wc.cell? (Ja wr.heap.size 4)=some (pa K):=F.o.cell 4;have z1:=F.o.frozen 1;have AO:=Ou.o.setCell (p:=Ja wr.heap.size 1) (wa _) (.string (s.extract k k'));have hky:=F.o.set 1 (.string (s.extract k k'));have hJy:=xj HJ.o Z.o AO;have hlen:pre.length<s.size:=by have:=z.o.1;omega
          obtain⟨fn,tmps,assign,body,hy,hR⟩:=HY.o pre ⟨⟨kd,s.extract k k',m,k,K⟩,A.o.ok hlt⟩ _ hJy hlen
          dsimp only[Fd.cells]at hy
          have y':=la hky;have ZO:=la AO;clear hky AO hJy hlen;gi_step;gi_wp2_with (fail);refine hR.mono ?_;rintro e W3 (⟨rfl,hJ3,hk3⟩|⟨rfl,a_⟩)
          . have jB:=hk3.1 _ _ _ y'.o
            have g4:W3.cell? (Ja wr.heap.size 4)=some (pa K):=qb.cell (show qb W3 wr.heap.size 286 _ from jB) 4;have L:=la hJ3;have Jq:=la ((g.o.below ZO.o).keep hk3);clear jB hJ3 hk3;by_cases YV:K=0
            . subst YV
              rw[show((0:Nat):Int)=0 from rfl]at g4;gi_wp2_with (fail);go_roundw
              case rel=>exact⟨k',_,agb,rfl,la (A.o.afU hlt z.o rfl),L,Jq⟩
              case measure=>have:=A.o.2.2.1 rfl;simp[intOf];omega
            . have er0:((K:Int) !=0)=true:=by simp;omega
              have aqP:((K:Int)==0)=false:=by simp;omega
              gi_wp2_with (fail)
              first
              | (refine Fb (results_none rfl _ _ _) rfl ?_
                 exact⟨⟨_,rfl⟩,.inl ⟨_,λO=>absurd (A.o.name hlt z.o O).1 YV,L.o⟩⟩)
              | (rw[Exit.noGoto_ret]
                 refine Fb (results_none rfl _ _ _) rfl ?_
                 exact⟨⟨_,rfl⟩,.inl ⟨_,λO=>absurd (A.o.name hlt z.o O).1 YV,L.o⟩⟩)
          . have L:=la a_
            clear a_;gi_wp2_with (fail)
            first
            | (refine Fb (results_none rfl _ _ _) rfl ?_
               exact⟨⟨_,rfl⟩,.inr ⟨_,λO=>(A.o.name hlt z.o O).2,L.o⟩⟩)
            | (rw[Exit.noGoto_ret]
               refine Fb (results_none rfl _ _ _) rfl ?_
               exact⟨⟨_,rfl⟩,.inr ⟨_,λO=>(A.o.name hlt z.o O).2,L.o⟩⟩)
    . obtain rfl:k=s.size:=by omega
      have e1:=g.o.e.t;gi_wp2_with (fail);simp only[Exit.noGoto_normal]
      first
      | (go_end0
         exact⟨⟨_,rfl⟩,.inl ⟨pre,λO=>z.o.done O,Z.o⟩⟩)
      | (rw[Exit.noGoto_normal]
         go_end0
         exact⟨⟨_,rfl⟩,.inl ⟨pre,λO=>z.o.done O,Z.o⟩⟩)
end Go.Proofs.YtdipkbobalnilaaGreatDoor
