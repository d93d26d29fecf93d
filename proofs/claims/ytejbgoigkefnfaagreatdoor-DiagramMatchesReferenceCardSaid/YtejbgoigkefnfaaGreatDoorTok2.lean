/- The walk of the lexer's iterator. -/
import Derived.Test.YtejbgoigkefnfaaGreatDoorAl
import Derived.Test.YtejbgoigkefnfaaGreatDoorTokA
namespace Go.Proofs.YtejbgoigkefnfaaGreatDoor
open Go.RowKit
attribute [local go_sem] Oper.semAt_some
def T5 (bt bc:Nat):Value:=.func (.func 170) #[] #[.pointer (some ⟨bt,0,none⟩),.pointer (some ⟨bc,0,none⟩)]
structure Env (s : ByteArray) (bt bc ba : Nat) (W : World) : Prop where
 t:W.cell? ⟨bt,0,none⟩=some (.string s)
 c:W.rangeAt bc 0 Xp
 a:W.cell? ⟨ba,0,none⟩=some (T5 bt bc)
structure tD (s : ByteArray) (bt bc ba : Nat) (W : World) : Prop where
 e:Env s bt bc ba W
 t:bt<W.heap.size
 c:bc<W.heap.size
 a:ba<W.heap.size
theorem tD.below {s:ByteArray}{bt bc ba:Nat}{W W':World}(h:tD s bt bc ba W)(hb:Below W.heap.size W W'):tD s bt bc ba W':=
 ⟨⟨(hb.cell (p:=⟨bt,0,none⟩) h.t).trans h.e.t,fun j v hv=>(hb.cell (p:=⟨bc,0+j,none⟩) h.c).trans (h.e.c j v hv),(hb.cell (p:=⟨ba,0,none⟩) h.a).trans h.e.a⟩,Wb h.t hb.size,Wb h.c hb.size,Wb h.a hb.size⟩
def Ns (t bt bc ba:Nat)(W W':World):Prop:=Yg t W W'/\ W'.heap[bt]? =W.heap[bt]? /\ W'.heap[bc]? =W.heap[bc]? /\ W'.heap[ba]? =W.heap[ba]?
theorem Ns.t {t bt bc ba:Nat}:∀ {A B C:World},Ns t bt bc ba A B->Ns t bt bc ba B C->Ns t bt bc ba A C:=
 fun h k=>⟨h.1.trans k.1,k.2.1.trans h.2.1,k.2.2.1.trans h.2.2.1,k.2.2.2.trans h.2.2.2⟩
theorem Ns.b {t bt bc ba:Nat}{w:World}(ht:bt<w.heap.size)(hc:bc<w.heap.size)(ha:ba<w.heap.size):∀(W:World) (l:Nat) (o o':Obj),w.heap.size<=l->W.heap[l]? =some o->o.isCells=false->o.isWalk=false->Ns t bt bc ba W (W.putObj l o'):=
 fun W l o o' h1 h2 h3 _=>⟨Yg.putObj t W l o o' h2 h3,World.putObj_heap_other ia,World.putObj_heap_other ia,World.putObj_heap_other ia⟩
theorem Et {W W':World}{b:Nat}(h:W'.heap[b]? =W.heap[b]?)(hb:b<W.heap.size):b<W'.heap.size:=by
 rw[Kg hb]at h;exact(Array.getElem?_eq_some_iff.1 h).1
theorem tD.keep {s:ByteArray}{t bt bc ba:Nat}{W W':World}(h:tD s bt bc ba W)(k:Ns t bt bc ba W W'):tD s bt bc ba W':=
 ⟨⟨(World.cell?_of_block (a:=⟨bt,0,none⟩) k.2.1).trans h.e.t,fun j v hv=>(World.cell?_of_block (a:=⟨bc,0+j,none⟩) k.2.2.1).trans (h.e.c j v hv),(World.cell?_of_block (a:=⟨ba,0,none⟩) k.2.2.2).trans h.e.a⟩,Et k.2.1 h.t,Et k.2.2.1 h.c,Et k.2.2.2 h.a⟩
def UD (s:ByteArray)(k:Nat)(pre:List (aQ s)):Prop:=pre.length<=k/\ (Hd s=true->(k=0/\ pre=[])\/(k=s.size/\ pre.map (·.1)=[xA s]))
def Cut (s:ByteArray)(k k' kd n er:Nat):Prop:=k<=k'/\ k'<=s.size/\ (er=0->k<k')/\ (kd=1->er=0->k'-k<=24/\ Du s k=3/\ ∀i,k<=i->i<k'->I7 (Du s i))/\
 (Hd s=true->k=0->kd=1/\ er=0/\ n=0/\ k'=s.size)
theorem Cut.ok {s:ByteArray}{k k' kd n er:Nat}(h:Cut s k k' kd n er)(hk:k<s.size):QX s ⟨kd,s.extract k k',n,k,er⟩:=by
 intro h1 h2 h3;obtain⟨rfl,rfl⟩:=DA s k k' h.2.1 h3 ia;obtain⟨a1,a2,a3⟩:=h.2.2.2.1 h1 h2;exact(Dg s).2 ⟨ia,ia,a2,fun i hi=>a3 i (xb _) hi⟩
theorem Cut.came {s:ByteArray}{k k' kd n er:Nat}(h:Cut s k k' kd n er)(hk:k<s.size){pre:List (aQ s)}(hc:UD s k pre)(dV:er=0):UD s k' (pre++[⟨⟨kd,s.extract k k',n,k,er⟩,h.ok hk⟩]):=by
 refine⟨by have:=hc.1;have:=h.2.2.1 dV;simp;omega,fun hn=>?_⟩;rcases hc.2 hn with⟨rfl,rfl⟩ | ⟨rfl,_⟩
 {obtain⟨rfl,rfl,rfl,rfl⟩:=h.2.2.2.2 hn rfl;exact .inr ⟨rfl,by simp[xA]⟩}
 {omega}
theorem Cut.name {s:ByteArray}{k k' kd n er:Nat}(h:Cut s k k' kd n er)(hk:k<s.size){pre:List (aQ s)}(hc:UD s k pre)(hn:Hd s=true):
  er=0/\ (pre++[(⟨⟨kd,s.extract k k',n,k,er⟩,h.ok hk⟩:aQ s)]).map (·.1)=[xA s]:=by
 rcases hc.2 hn with⟨rfl,rfl⟩ | ⟨rfl,_⟩
 {obtain⟨rfl,rfl,rfl,rfl⟩:=h.2.2.2.2 hn rfl;exact⟨rfl,by simp[xA]⟩}
 {omega}
theorem UD.done {s:ByteArray}{pre:List (aQ s)}(hc:UD s s.size pre)(hn:Hd s=true):pre.map (·.1)=[xA s]:=by
 rcases hc.2 hn with⟨h0,_⟩ | ⟨_,h⟩
 {have:=((Dg s).1 hn).1;omega}
 {exact h}
theorem acW (c:Nat)(h:c<256)(h2:mm c=2):c=35:=by
 have h0:∀c:Fin 256,mm c.1=2->c.1=35:=by decide+kernel
 exact h0 ⟨c,h⟩ h2
theorem acX (c:Nat)(h:c<256)(h2:mm c=4):48<=c/\ c<=57:=by
 have h0:∀c:Fin 256,mm c.1=4->48<=c.1/\ c.1<=57:=by decide+kernel
 exact h0 ⟨c,h⟩ h2
theorem Xz (s:ByteArray)(k j:Nat)(hj:j<=s.size)(h:∀i,k<=i->i<j->Du s i=4):sD (s.extract k j):=by
 intro i hi;have hi':k+i<j:=by rw[qh]at hi;omega
 have hc:=h (k+i) ia hi';rw[kJ s (k+i) ia]at hc;have:=acX _ (UInt8.toNat_lt _) hc;rw[ByteArray.getElem_extract];exact this
theorem UD.skip {s:ByteArray}{k k':Nat}{pre:List (aQ s)}(h:UD s k pre)(hk:k<s.size)(h3:Du s k≠3)(hkk:k<=k'):UD s k' pre:=by
 refine⟨by have:=h.1;omega,fun hn=>?_⟩;rcases h.2 hn with⟨rfl,rfl⟩ | ⟨rfl,_⟩
 {exact absurd ((Dg s).1 hn).2.2.1 h3}
 {omega}
theorem Br (m:Nat)(s:ByteArray)(x:Int)(j:Nat)(hx:x=j)(bt bc ba:Nat)(w:World)(hs:s.size<=20000)(he:Env s bt bc ba w):
  CallsIn Fence.wide m Tryz.prog 170 #[.int .i64 x,.pointer (some ⟨bt,0,none⟩),.pointer (some ⟨bc,0,none⟩)] w fun e w'=>e=.returned (.int .u8 (Du s j))/\ w=w':=by
 subst hx;exact callsIn_wide.2 (PX s j bt bc w ia he.t he.c)
set_option maxRecDepth 100000 in
set_option maxHeartbeats 2000000 in
theorem pG (n:Nat)(hn:1<=n)(s:ByteArray)(hs:s.size<=20000)(bt bc ba:Nat)(w:World)(he:Env s bt bc ba w)(ht:bt<w.heap.size)(hc:bc<w.heap.size)(ha:ba<w.heap.size):
    SeqStopsK Fence.wide n Tryz.prog 171 #[.pointer (some ⟨bt,0,none⟩),.pointer (some ⟨ba,0,none⟩)] (fun x:aQ s=>#[.agg x.1.cells]) (Ns 194 bt bc ba)
      (fun xs=>Hd s=true->xs.map (·.1)=[xA s]) (fun xs=>Hd s=true->xs.map (·.1)=[xA s]) s.size w:=fun l J Jx W hW hJ hJx hY h0=>by
  have HE0:=da ((⟨he,ht,hc,ha⟩:tD s bt bc ba w).below hW);have HW:=da hW;have HJ:=da hJ;have HY:=da hY;clear he hW hJ hY;refine callsIn_of_wp Tryz.func171 rfl trivial ?_ rfl;simp only[Tryz.ntmps171,Af,ib,Cc,Nat.reduceAdd,Nat.reduceSub,Df,Ef,qg,Lf,Ya,Sb];refine As ?_;gi_wp2;refine wpIn_label ?_;gi_wp2;gi_loopw [4] (fun vi wr=>∃(k:Nat) (pre:List (aQ s)),k<=s.size/\ vi=.int .i64 k/\ Hid (UD s k pre)/\ Hid (J pre wr)/\ Hid (tD s bt bc ba wr)) (fun vi _=>s.size-(intOf vi).toNat)
  case atStart=>exact⟨0,[],xb _,rfl,da ⟨ja _,fun _=>.inl ⟨rfl,rfl⟩⟩,da h0,HE0⟩
  case round=>
    obtain⟨k,pre,hk,rfl,XL,DZ,Zd⟩:=hrel;by_cases hlt:k<s.size
    . have akP:=Zd.out.t
      have akQ:=Zd.out.a;have hE:=Zd.out.e;have HE:=da hE;obtain⟨e1,e2,e3⟩:=hE;unfold T5 at e3;have HC:=da e2;clear e2;gi_upto_region 4 with(fail);have vq:Below wr.heap.size wr (wr.alloc (.cells #[.int .i64 0,.string {data:=#[]},.int .i64 0,.int .i64 k,.int .i64 0] 194)):=(za _ wr).alloc (ja _) _;have hK1:=Bb.new wr 194 #[.int .i64 0,.string {data:=#[]},.int .i64 0,.int .i64 k,.int .i64 0];have Ve:=da vq;have Gf:=da hK1;have eW:=(vq.cell (p:=⟨bt,0,none⟩) (by simp;omega)).trans e1;have e3':=(vq.cell (p:=⟨ba,0,none⟩) (by simp;omega)).trans e3;have hA:=Br (n-1) s k k rfl bt bc ba _ hs (Zd.out.below vq).e;clear vq hK1;have HA:=da hA;clear hA;gi_cut [20]from 18 (fun v wx=>v=.int .u8 (Du s k)/\ Hid (Below wr.heap.size wr wx)/\ Hid (Bb wx wr.heap.size 194 #[.int .i64 0,.string {data:=#[]},.int .i64 0,.int .i64 k,.int .i64 0]))
      case first=>(gi_wp2_with (first | (refine⟨trivial,?_⟩;gi_at_call 170;(with_reducible refine HA.out.mono ?_);rintro e w2 ⟨rfl,rfl⟩) | (gi_at_call 170;(with_reducible refine HA.out.mono ?_);rintro e w2 ⟨rfl,rfl⟩));gi_meet;case rel=>exact⟨rfl,Ve,Gf⟩)
      case rest=>
        obtain⟨rfl,Ff,hk1⟩:=hcut;clear HA Ve Gf;have TQ:=da (Zd.out.below Ff.out);have F':=TQ.out.e;have G':=da F';have e1c:=F'.t;have e3c:=F'.a;unfold T5 at e3c;clear F' e1 e3 eW e3';have aZ:=lJ s k;obtain⟨c,hcc⟩:∃c,Du s k=c:=⟨_,rfl⟩;rw[hcc]at aZ⊢;have Fw:=da hcc;clear hcc;gi_step;gi_cut [4]from 7 (fun vi wx=>∃(k' kd m er:Nat),vi=.int .i64 k'/\ Hid (Cut s k k' kd m er)/\ Hid (Below wr.heap.size wr wx)/\ Hid (Bb wx wr.heap.size 194 #[.int .i64 kd,.string {data:=#[]},.int .i64 m,.int .i64 k,.int .i64 er]))
        case first=>
          have hcs:c=0\/c=1\/c=2\/c=3\/c=4\/c=5\/c=6\/c=7\/c=8:=by omega
          clear aZ;have f0:wc.cell? ⟨wr.heap.size,0,none⟩=some (.int .i64 0):=hk1.out.cell 0;have f4:wc.cell? ⟨wr.heap.size,4,none⟩=some (.int .i64 0):=hk1.out.cell 4;have z0:=hk1.out.frozen 0;have z4:=hk1.out.frozen 4;have HA:=da (Br (n-1) s k k rfl bt bc ba _ hs G'.out);rw[Fw.out]at HA;rcases hcs with rfl | rfl | rfl | rfl | rfl | rfl | rfl | rfl | rfl
          . gi_wp2_with (fail)
            gi_meet
            case rel=>exact⟨k,0,0,3,rfl,da ⟨ja _,hk,fun h=>ia,fun h=>ia,fun h hk0=>by have:=((Dg s).1 h).2.2.1;rw[<-hk0,Fw.out]at this;omega⟩,da (Ff.out.setCell (p:=⟨_,4,none⟩) (ja _) _),da (hk1.out.set 4 _)⟩
          . gi_wp2_with (fail)
            go_roundw
            case rel=>exact⟨k+1,pre,ia,by go_num,da (XL.out.skip hlt (by rw[Fw.out];decide) ia),da (Di HJ.out DZ.out Ff.out),TQ⟩
            case measure=>simp[intOf];omega
          . have h35:=acW s[k].toNat (UInt8.toNat_lt _) (by rw[<-kJ s k hlt];exact Fw.out)
            have H35:=da h35;clear h35 HA f0 f4 z0 z4;gi_wp2_with (fail);gi_loopw [4] (fun vi wx=>∃j:Nat,k<=j/\ j<=s.size/\ vi=.int .i64 j/\ wx=wc) (fun vi _=>s.size-(intOf vi).toNat)
            case atStart=>exact⟨k,ja _,hk,rfl,rfl⟩
            case round=>
              obtain⟨j,hkj,hj,rfl,rfl⟩:=hrel;by_cases H':j<s.size
              . rcases hq:((s[j].toNat:Int)==10)with _ | _
                . have hq':((s[j].toNat:Int) !=10)=true:=by rw[bne,hq];rfl
                  gi_wp2_with (fail);go_roundw
                  case rel=>exact⟨j+1,ia,ia,by go_num,trivial⟩
                  case measure=>simp[intOf];omega
                . have hq':((s[j].toNat:Int) !=10)=false:=by rw[bne,hq];rfl
                  have tY:k<j:=by
                    by_cases h:j=k
                    . subst h
                      have:=H35.out;rw[this]at hq;cases hq
                    . omega
                  gi_wp2_with (fail);go_roundw
                  case rel=>exact⟨j,pre,hj,rfl,da (XL.out.skip hlt (by rw[Fw.out];decide) ia),da (Di HJ.out DZ.out Ff.out),TQ⟩
                  case measure=>simp[intOf];omega
              . gi_wp2_with (fail)
                go_roundw
                case rel=>exact⟨j,pre,hj,rfl,da (XL.out.skip hlt (by rw[Fw.out];decide) ia),da (Di HJ.out DZ.out Ff.out),TQ⟩
                case measure=>simp[intOf];omega
          . gi_wp2_with (first | (refine⟨trivial,?_⟩;gi_at_call 170;(with_reducible refine HA.out.mono ?_);rintro e w2 ⟨rfl,rfl⟩) | (gi_at_call 170;(with_reducible refine HA.out.mono ?_);rintro e w2 ⟨rfl,rfl⟩))
            gi_loopw [4,7] (fun vi vc wx=>∃j d:Nat,k<=j/\ j<=s.size/\ vi=.int .i64 j/\ vc=.int .u8 d/\ Hid (Du s j=d)/\ Hid (∀i,k<=i->i<j->I7 (Du s i))/\ (j=k->d=3)/\ wx=wc) (fun vi _ _=>s.size-(intOf vi).toNat)
            case atStart=>exact⟨k,3,ja _,hk,rfl,rfl,Fw,da (fun i h1 h2=>by omega),fun _=>rfl,rfl⟩
            case round=>
              obtain⟨j,d,hkj,hj,rfl,rfl,WX,UQ,hjk,rfl⟩:=hrel;have O':=lJ s j;rw[WX.out]at O';clear HA;by_cases J7:d=3\/d=4\/d=5
              . have H':j<s.size:=by
                  by_cases h:j<s.size
                  . exact h
                  . have:=VQ s j h;rw[WX.out]at this;omega
                have HA:=da (Br (n-1) s ((j:Int)+1) (j+1) rfl bt bc ba _ hs G'.out)
                have HWD:=da (show ∀i,k<=i->i<j+1->I7 (Du s i)from fun i h1 h2=>by
                  by_cases h:i<j
                  . exact UQ.out i h1 h
                  . have:i=j:=by omega
                    rw[this,WX.out];exact J7)
                clear hjk WX UQ;rcases J7 with rfl | rfl | rfl
                all_goals
                  gi_wp2_with (first | (refine⟨trivial,?_⟩;gi_at_call 170;(with_reducible refine HA.out.mono ?_);rintro e w2 ⟨rfl,rfl⟩) | (gi_at_call 170;(with_reducible refine HA.out.mono ?_);rintro e w2 ⟨rfl,rfl⟩));go_roundw
                  case rel=>exact⟨j+1,Du s (j+1),ia,ia,by go_num,rfl,da rfl,HWD,fun h=>ia,trivial⟩
                  case measure=>simp[intOf];omega
              . have e3d:((d:Int)==3)=false:=by simp;omega
                have e4d:((d:Int)==4)=false:=by simp;omega
                have e5d:((d:Int)==5)=false:=by simp;omega
                have tY:k<j:=by
                  by_cases h:j=k
                  . exact absurd (.inl (hjk h)) J7
                  . omega
                have HN:=da (show Hd s=true->k=0->j=s.size from fun h h0=>by
                  by_cases H':j<s.size
                  . have:=((Dg s).1 h).2.2.2 j H'
                    rw[WX.out]at this
                    exact absurd this J7
                  . omega)
                clear hjk J7 O' WX;by_cases aM:24<j-k
                . have d24:decide ((24:Int)<(j:Int)-k)=true:=Ma ia
                  gi_wp2_with (fail);gi_meet
                  case rel=>exact⟨j,1,0,2,rfl,da ⟨ia,hj,fun _=>ia,fun _ h=>ia,fun h hk0=>by have:=HN.out h hk0;have:=((Dg s).1 h).2.1;omega⟩,da ((Ff.out.setCell (p:=⟨_,0,none⟩) (ja _) _).setCell (p:=⟨_,4,none⟩) (ja _) _),da ((hk1.out.set 0 _).set 4 _)⟩
                . have d24:decide ((24:Int)<(j:Int)-k)=false:=Ia ia
                  gi_wp2_with (fail);gi_meet
                  case rel=>exact⟨j,1,0,0,rfl,da ⟨ia,hj,fun _=>ia,fun _ _=>⟨ia,Fw.out,UQ.out⟩,fun h hk0=>⟨rfl,rfl,rfl,HN.out h hk0⟩⟩,da (Ff.out.setCell (p:=⟨_,0,none⟩) (ja _) _),da (hk1.out.set 0 _)⟩
          . have f2:wc.cell? ⟨wr.heap.size,2,none⟩=some (.int .i64 0):=hk1.out.cell 2
            have z2:=hk1.out.frozen 2;clear HA;rw[show((4:Nat):Int)=4 from rfl];gi_wp2_with (fail);gi_loopw [4] (fun vi wx=>∃j:Nat,k<=j/\ j<=s.size/\ vi=.int .i64 j/\ Hid (∀i,k<=i->i<j->Du s i=4)/\ wx=wc) (fun vi _=>s.size-(intOf vi).toNat)
            case atStart=>exact⟨k,ja _,hk,rfl,da (fun i h1 h2=>by omega),rfl⟩
            case round=>
              obtain⟨j,hkj,hj,rfl,uY,rfl⟩:=hrel;obtain⟨d,hd⟩:∃d,Du s j=d:=⟨_,rfl⟩;have O':=lJ s j;have hA:=Br (n-1) s (j:Int) j rfl bt bc ba _ hs G'.out;rw[hd]at O' hA;have HA:=da hA;have HD:=da hd;clear hA hd;by_cases hd4:d=4
              . have H':j<s.size:=by
                  by_cases h:j<s.size
                  . exact h
                  . have:=VQ s j h;rw[HD.out]at this;omega
                subst hd4
                have V9:=da (show ∀i,k<=i->i<j+1->Du s i=4 from fun i h1 h2=>by
                  by_cases h:i<j
                  . exact uY.out i h1 h
                  . have:i=j:=by omega
                    rw[this,HD.out])
                gi_wp2_with (first | (refine⟨trivial,?_⟩;gi_at_call 170;(with_reducible refine HA.out.mono ?_);rintro e w2 ⟨rfl,rfl⟩) | (gi_at_call 170;(with_reducible refine HA.out.mono ?_);rintro e w2 ⟨rfl,rfl⟩));go_roundw
                case rel=>exact⟨j+1,ia,ia,by go_num,V9,trivial⟩
                case measure=>simp[intOf];omega
              . have tY:k<j:=by
                  by_cases h:j=k
                  . subst h;have:=HD.out;rw[Fw.out]at this;omega
                  . omega
                have e4d:((d:Int)==4)=false:=by simp;omega
                have Z2:7<j-k\/(j-k<=7/\ d=3)\/(j-k<=7/\ d=5)\/(j-k<=7/\ d≠3/\ d≠5):=by omega
                have fU:=da (fun(er m:Nat)=>(⟨hkj,hj,fun _=>tY,fun h=>ia,fun h hk0=>by have:=((Dg s).1 h).2.2.1;rw[<-hk0,Fw.out]at this;omega⟩:Cut s k j 2 m er));have Es:=da (Br (n-1) s (j:Int) j rfl bt bc ba _ hs (Zd.out.below (Ff.out.setCell (p:=⟨_,0,none⟩) (ja _) (.int .i64 2))).e);rw[HD.out]at Es;rcases Z2 with h7 | ⟨h7,rfl⟩ | ⟨h7,rfl⟩ | ⟨h7,h_,hd5⟩
                . have d7:decide ((7:Int)<(j:Int)-k)=true:=Ma ia
                  gi_wp2_with (first | (refine⟨trivial,?_⟩;gi_at_call 170;(with_reducible refine CallsIn.mono HA.out ?_);clear HA;rintro e w2 ⟨rfl,rfl⟩) | (refine⟨trivial,?_⟩;gi_at_call 170;(with_reducible refine CallsIn.mono Es.out ?_);clear Es;rintro e w2 ⟨rfl,rfl⟩));gi_meet
                  case rel=>exact⟨j,2,0,4,rfl,da (fU.out 4 0),da ((Ff.out.setCell (p:=⟨_,0,none⟩) (ja _) _).setCell (p:=⟨_,4,none⟩) (ja _) _),da ((hk1.out.set 0 _).set 4 _)⟩
                . have d7:decide ((7:Int)<(j:Int)-k)=false:=Ia ia
                  gi_wp2_with (first | (refine⟨trivial,?_⟩;gi_at_call 170;(with_reducible refine CallsIn.mono HA.out ?_);clear HA;rintro e w2 ⟨rfl,rfl⟩) | (refine⟨trivial,?_⟩;gi_at_call 170;(with_reducible refine CallsIn.mono Es.out ?_);clear Es;rintro e w2 ⟨rfl,rfl⟩));gi_meet
                  case rel=>exact⟨j,2,0,4,rfl,da (fU.out 4 0),da ((Ff.out.setCell (p:=⟨_,0,none⟩) (ja _) _).setCell (p:=⟨_,4,none⟩) (ja _) _),da ((hk1.out.set 0 _).set 4 _)⟩
                . have d7:decide ((7:Int)<(j:Int)-k)=false:=Ia ia
                  gi_wp2_with (first | (refine⟨trivial,?_⟩;gi_at_call 170;(with_reducible refine CallsIn.mono HA.out ?_);clear HA;rintro e w2 ⟨rfl,rfl⟩) | (refine⟨trivial,?_⟩;gi_at_call 170;(with_reducible refine CallsIn.mono Es.out ?_);clear Es;rintro e w2 ⟨rfl,rfl⟩));gi_meet
                  case rel=>exact⟨j,2,0,4,rfl,da (fU.out 4 0),da ((Ff.out.setCell (p:=⟨_,0,none⟩) (ja _) _).setCell (p:=⟨_,4,none⟩) (ja _) _),da ((hk1.out.set 0 _).set 4 _)⟩
                . have d7:decide ((7:Int)<(j:Int)-k)=false:=Ia ia
                  have e3d:((d:Int)==3)=false:=by simp;omega
                  have e5d:((d:Int)==5)=false:=by simp;omega
                  have HDX:=da (Xz s k j hj uY.out);have hsz:(s.extract k j).size=j-k:=by rw[qh];omega
                  have HSZ:=da hsz;clear uY hsz;gi_wp2_with (first | (first | (refine⟨trivial,?_⟩;gi_at_call 170;(with_reducible refine CallsIn.mono HA.out ?_);clear HA;rintro e w2 ⟨rfl,rfl⟩) | (refine⟨trivial,?_⟩;gi_at_call 170;(with_reducible refine CallsIn.mono Es.out ?_);clear Es;rintro e w2 ⟨rfl,rfl⟩)) | (refine⟨trivial,?_⟩;gi_at_call 172;(refine(callsIn_wide.2 (ZP (s.extract k j) (by rw[HSZ.out];omega) (by rw[HSZ.out];omega) HDX.out _)).mono ?_);rintro e w2 ⟨rfl,ud⟩;have q:=(hk1.out.set 0 (.int .i64 2)).below ud;have HQ:=da q;have g2:w2.cell? ⟨_,2,none⟩=some (.int .i64 0):=q.cell 2;have g2':=q.frozen 2;have Vd:=da ud;clear q ud));gi_meet
                  case rel=>exact⟨j,2,_,0,rfl,da (fU.out 0 _),da (((Ff.out.setCell (p:=⟨_,0,none⟩) (ja _) _).trans (Vd.out.mono (by have:=Ff.out.size;simp;omega))).setCell (p:=⟨_,2,none⟩) (ja _) _),da (HQ.out.set 2 _)⟩
          . gi_wp2_with (fail)
            gi_meet
            case rel=>exact⟨k,0,0,3,rfl,da ⟨ja _,hk,fun h=>ia,fun h=>ia,fun h hk0=>by have:=((Dg s).1 h).2.2.1;rw[<-hk0,Fw.out]at this;omega⟩,da (Ff.out.setCell (p:=⟨_,4,none⟩) (ja _) _),da (hk1.out.set 4 _)⟩
          . clear HA
            rw[show((6:Nat):Int)=6 from rfl];have Es:=da (Br (n-1) s (k:Int) k rfl bt bc ba _ hs (Zd.out.below (Ff.out.setCell (p:=⟨_,0,none⟩) (ja _) (.int .i64 3))).e);rw[Fw.out]at Es;gi_wp2_with (refine⟨trivial,?_⟩;gi_at_call 170;(with_reducible refine CallsIn.mono Es.out ?_);clear Es;rintro e w2 ⟨rfl,rfl⟩);gi_meet
            case rel=>exact⟨k+1,3,0,0,rfl,da ⟨ia,ia,fun _=>ia,fun h=>ia,fun h hk0=>by have:=((Dg s).1 h).2.2.1;rw[<-hk0,Fw.out]at this;omega⟩,da (Ff.out.setCell (p:=⟨_,0,none⟩) (ja _) _),da (hk1.out.set 0 _)⟩
          . clear HA
            rw[show((7:Nat):Int)=7 from rfl];have Es:=da (Br (n-1) s (k:Int) k rfl bt bc ba _ hs (Zd.out.below (Ff.out.setCell (p:=⟨_,0,none⟩) (ja _) (.int .i64 3))).e);rw[Fw.out]at Es;by_cases acZ:k+1<s.size
            . rcases hq:((s[k+1].toNat:Int)==61)with _ | _
              . gi_wp2_with (refine⟨trivial,?_⟩;gi_at_call 170;(with_reducible refine CallsIn.mono Es.out ?_);clear Es;rintro e w2 ⟨rfl,rfl⟩)
                gi_meet
                case rel=>exact⟨k+1,3,0,0,rfl,da ⟨ia,ia,fun _=>ia,fun h=>ia,fun h hk0=>by have:=((Dg s).1 h).2.2.1;rw[<-hk0,Fw.out]at this;omega⟩,da (Ff.out.setCell (p:=⟨_,0,none⟩) (ja _) _),da (hk1.out.set 0 _)⟩
              . gi_wp2_with (refine⟨trivial,?_⟩;gi_at_call 170;(with_reducible refine CallsIn.mono Es.out ?_);clear Es;rintro e w2 ⟨rfl,rfl⟩)
                gi_meet
                case rel=>exact⟨k+2,3,0,0,rfl,da ⟨ia,ia,fun _=>ia,fun h=>ia,fun h hk0=>by have:=((Dg s).1 h).2.2.1;rw[<-hk0,Fw.out]at this;omega⟩,da (Ff.out.setCell (p:=⟨_,0,none⟩) (ja _) _),da (hk1.out.set 0 _)⟩
            . gi_wp2_with (refine⟨trivial,?_⟩;gi_at_call 170;(with_reducible refine CallsIn.mono Es.out ?_);clear Es;rintro e w2 ⟨rfl,rfl⟩)
              gi_meet
              case rel=>exact⟨k+1,3,0,0,rfl,da ⟨ia,ia,fun _=>ia,fun h=>ia,fun h hk0=>by have:=((Dg s).1 h).2.2.1;rw[<-hk0,Fw.out]at this;omega⟩,da (Ff.out.setCell (p:=⟨_,0,none⟩) (ja _) _),da (hk1.out.set 0 _)⟩
          . clear HA
            rw[show((8:Nat):Int)=8 from rfl];have Es:=da (Br (n-1) s (k:Int) k rfl bt bc ba _ hs (Zd.out.below (Ff.out.setCell (p:=⟨_,0,none⟩) (ja _) (.int .i64 3))).e);rw[Fw.out]at Es;by_cases acZ:k+1<s.size
            . rcases hq:((s[k+1].toNat:Int)==61)with _ | _
              . gi_wp2_with (refine⟨trivial,?_⟩;gi_at_call 170;(with_reducible refine CallsIn.mono Es.out ?_);clear Es;rintro e w2 ⟨rfl,rfl⟩)
                gi_meet
                case rel=>exact⟨k+1,3,0,3,rfl,da ⟨ia,ia,fun _=>ia,fun h=>ia,fun h hk0=>by have:=((Dg s).1 h).2.2.1;rw[<-hk0,Fw.out]at this;omega⟩,da ((Ff.out.setCell (p:=⟨_,0,none⟩) (ja _) _).setCell (p:=⟨_,4,none⟩) (ja _) _),da ((hk1.out.set 0 _).set 4 _)⟩
              . gi_wp2_with (refine⟨trivial,?_⟩;gi_at_call 170;(with_reducible refine CallsIn.mono Es.out ?_);clear Es;rintro e w2 ⟨rfl,rfl⟩)
                gi_meet
                case rel=>exact⟨k+2,3,0,0,rfl,da ⟨ia,ia,fun _=>ia,fun h=>ia,fun h hk0=>by have:=((Dg s).1 h).2.2.1;rw[<-hk0,Fw.out]at this;omega⟩,da (Ff.out.setCell (p:=⟨_,0,none⟩) (ja _) _),da (hk1.out.set 0 _)⟩
            . gi_wp2_with (refine⟨trivial,?_⟩;gi_at_call 170;(with_reducible refine CallsIn.mono Es.out ?_);clear Es;rintro e w2 ⟨rfl,rfl⟩)
              gi_meet
              case rel=>exact⟨k+1,3,0,3,rfl,da ⟨ia,ia,fun _=>ia,fun h=>ia,fun h hk0=>by have:=((Dg s).1 h).2.2.1;rw[<-hk0,Fw.out]at this;omega⟩,da ((Ff.out.setCell (p:=⟨_,0,none⟩) (ja _) _).setCell (p:=⟨_,4,none⟩) (ja _) _),da ((hk1.out.set 0 _).set 4 _)⟩
        case rest=>
          obtain⟨k',kd,m,er,rfl,gU,jE,Tk⟩:=hcut;clear hk1 Ff TQ G' e1c e3c;have gT:=da (Zd.out.below jE.out);have hE2:=gT.out.e;have e1d:=hE2.t;clear hE2;have ada:=gU.out.2.1;have akZ:=gU.out.1;have f0:wc.cell? ⟨wr.heap.size,0,none⟩=some (.int .i64 kd):=Tk.out.cell 0;have f1:wc.cell? ⟨wr.heap.size,1,none⟩=some (.string {data:=#[]}):=Tk.out.cell 1;have f2:wc.cell? ⟨wr.heap.size,2,none⟩=some (.int .i64 m):=Tk.out.cell 2;have f3:wc.cell? ⟨wr.heap.size,3,none⟩=some (.int .i64 k):=Tk.out.cell 3;have f4:wc.cell? ⟨wr.heap.size,4,none⟩=some (.int .i64 er):=Tk.out.cell 4;have z1:=Tk.out.frozen 1;have OW:=jE.out.setCell (p:=⟨wr.heap.size,1,none⟩) (ja _) (.string (s.extract k k'));have yq:=Tk.out.set 1 (.string (s.extract k k'));have hJy:=Di HJ.out DZ.out OW;have hlen:pre.length<s.size:=by have:=XL.out.1;omega
          obtain⟨fn,tmps,assign,body,hy,hR⟩:=HY.out pre ⟨⟨kd,s.extract k k',m,k,er⟩,gU.out.ok hlt⟩ _ hJy hlen
          dsimp only[Fd.cells]at hy
          have HKY:=da yq;have HBY:=da OW;clear yq OW hJy hlen;gi_step;gi_wp2_with (fail);refine hR.mono ?_;rintro e W3 (⟨rfl,hJ3,oZ⟩ | ⟨rfl,K7⟩)
          . have Lc:=oZ.1 _ _ _ HKY.out
            have g4:W3.cell? ⟨wr.heap.size,4,none⟩=some (.int .i64 er):=Bb.cell (show Bb W3 wr.heap.size 194 _ from Lc) 4;have EZ:=da hJ3;have Qc:=da ((Zd.out.below HBY.out).keep oZ);clear Lc hJ3 oZ;by_cases dV:er=0
            . subst dV
              rw[show((0:Nat):Int)=0 from rfl]at g4;gi_wp2_with (fail);go_roundw
              case rel=>exact⟨k',_,ada,rfl,da (gU.out.came hlt XL.out rfl),EZ,Qc⟩
              case measure=>have:=gU.out.2.2.1 rfl;simp[intOf];omega
            . have er0:((er:Int) !=0)=true:=by simp;omega
              have alc:((er:Int)==0)=false:=by simp;omega
              gi_wp2_with (fail)
              first
              | (refine Qa (results_none rfl _ _ _) rfl ?_
                 exact⟨⟨_,rfl⟩,.inl ⟨_,fun hn=>absurd (gU.out.name hlt XL.out hn).1 dV,EZ.out⟩⟩)
              | (rw[Exit.noGoto_ret]
                 refine Qa (results_none rfl _ _ _) rfl ?_
                 exact⟨⟨_,rfl⟩,.inl ⟨_,fun hn=>absurd (gU.out.name hlt XL.out hn).1 dV,EZ.out⟩⟩)
          . have EZ:=da K7
            clear K7;gi_wp2_with (fail)
            first
            | (refine Qa (results_none rfl _ _ _) rfl ?_
               exact⟨⟨_,rfl⟩,.inr ⟨_,fun hn=>(gU.out.name hlt XL.out hn).2,EZ.out⟩⟩)
            | (rw[Exit.noGoto_ret]
               refine Qa (results_none rfl _ _ _) rfl ?_
               exact⟨⟨_,rfl⟩,.inr ⟨_,fun hn=>(gU.out.name hlt XL.out hn).2,EZ.out⟩⟩)
    . obtain rfl:k=s.size:=by omega
      have e1:=Zd.out.e.t;gi_wp2_with (fail);simp only[Exit.noGoto_normal]
      first
      | (go_end0
         exact⟨⟨_,rfl⟩,.inl ⟨pre,fun hn=>XL.out.done hn,DZ.out⟩⟩)
      | (rw[Exit.noGoto_normal]
         go_end0
         exact⟨⟨_,rfl⟩,.inl ⟨pre,fun hn=>XL.out.done hn,DZ.out⟩⟩)
end Go.Proofs.YtejbgoigkefnfaaGreatDoor
