/- The walk of the lexer's iterator. -/
import Derived.Test.YtihniipjfdenbaaGreatDoorTokA
namespace Go.Proofs.YtihniipjfdenbaaGreatDoor
open Go.RowKit
attribute [local go_sem] Oper.semAt_some
def atV (bt bc:Nat):Value:=.func (.func 218) #[] #[.pointer (some ⟨bt,0,none⟩),.pointer (some ⟨bc,0,none⟩)]
structure Env (s : ByteArray) (bt bc ba : Nat) (W : World) : Prop where
 t:W.cell? ⟨bt,0,none⟩=some (.string s)
 c:W.rangeAt bc 0 clsL
 a:W.cell? ⟨ba,0,none⟩=some (atV bt bc)
structure EnvL (s : ByteArray) (bt bc ba : Nat) (W : World) : Prop where
 e:Env s bt bc ba W
 t:bt<W.heap.size
 c:bc<W.heap.size
 a:ba<W.heap.size
theorem EnvL.below {s:ByteArray}{bt bc ba:Nat}{W W':World}(h:EnvL s bt bc ba W)(hb:Below W.heap.size W W'):EnvL s bt bc ba W':=
 ⟨⟨(hb.cell (p:=⟨bt,0,none⟩) h.t).trans h.e.t,fun j v hv=>(hb.cell (p:=⟨bc,0+j,none⟩) h.c).trans (h.e.c j v hv),(hb.cell (p:=⟨ba,0,none⟩) h.a).trans h.e.a⟩,Nat.lt_of_lt_of_le h.t hb.size,Nat.lt_of_lt_of_le h.c hb.size,Nat.lt_of_lt_of_le h.a hb.size⟩
def Keep3 (t bt bc ba:Nat)(W W':World):Prop:=KeepTy t W W'/\ W'.heap[bt]? =W.heap[bt]? /\ W'.heap[bc]? =W.heap[bc]? /\ W'.heap[ba]? =W.heap[ba]?
theorem Keep3.t {t bt bc ba:Nat}:∀ {A B C:World},Keep3 t bt bc ba A B->Keep3 t bt bc ba B C->Keep3 t bt bc ba A C:=
 fun h k=>⟨h.1.trans k.1,k.2.1.trans h.2.1,k.2.2.1.trans h.2.2.1,k.2.2.2.trans h.2.2.2⟩
theorem Keep3.b {t bt bc ba:Nat}{w:World}(ht:bt<w.heap.size)(hc:bc<w.heap.size)(ha:ba<w.heap.size):∀(W:World) (l:Nat) (o o':Obj),w.heap.size<=l->W.heap[l]? =some o->o.isCells=false->o.isWalk=false->Keep3 t bt bc ba W (W.putObj l o'):=
 fun W l o o' h1 h2 h3 _=>⟨KeepTy.putObj t W l o o' h2 h3,World.putObj_heap_other (by omega),World.putObj_heap_other (by omega),World.putObj_heap_other (by omega)⟩
theorem lt_of_same {W W':World}{b:Nat}(h:W'.heap[b]? =W.heap[b]?)(hb:b<W.heap.size):b<W'.heap.size:=by
 rw[Array.getElem?_eq_getElem hb]at h;exact(Array.getElem?_eq_some_iff.1 h).1
theorem EnvL.keep {s:ByteArray}{t bt bc ba:Nat}{W W':World}(h:EnvL s bt bc ba W)(k:Keep3 t bt bc ba W W'):EnvL s bt bc ba W':=
 ⟨⟨(World.cell?_of_block (a:=⟨bt,0,none⟩) k.2.1).trans h.e.t,fun j v hv=>(World.cell?_of_block (a:=⟨bc,0+j,none⟩) k.2.2.1).trans (h.e.c j v hv),(World.cell?_of_block (a:=⟨ba,0,none⟩) k.2.2.2).trans h.e.a⟩,lt_of_same k.2.1 h.t,lt_of_same k.2.2.1 h.c,lt_of_same k.2.2.2 h.a⟩
def Came (s:ByteArray)(k:Nat)(pre:List (FdS s)):Prop:=pre.length<=k/\ (nameB s=true->(k=0/\ pre=[])\/(k=s.size/\ pre.map (·.1)=[tokF s]))
def Cut (s:ByteArray)(k k' kd n er:Nat):Prop:=k<=k'/\ k'<=s.size/\ (er=0->k<k')/\ (kd=1->er=0->k'-k<=24/\ atC s k=3/\ ∀i,k<=i->i<k'->isW (atC s i))/\
 (nameB s=true->k=0->kd=1/\ er=0/\ n=0/\ k'=s.size)
theorem Cut.ok {s:ByteArray}{k k' kd n er:Nat}(h:Cut s k k' kd n er)(hk:k<s.size):FdOk s ⟨kd,s.extract k k',n,k,er⟩:=by
 intro h1 h2 h3;obtain⟨rfl,rfl⟩:=extract_whole s k k' h.2.1 h3 (by omega);obtain⟨a1,a2,a3⟩:=h.2.2.2.1 h1 h2;exact(nameB_iff s).2 ⟨by omega,by omega,a2,fun i hi=>a3 i (Nat.zero_le _) hi⟩
theorem Cut.came {s:ByteArray}{k k' kd n er:Nat}(h:Cut s k k' kd n er)(hk:k<s.size){pre:List (FdS s)}(hc:Came s k pre)(her:er=0):Came s k' (pre++[⟨⟨kd,s.extract k k',n,k,er⟩,h.ok hk⟩]):=by
 refine⟨by have:=hc.1;have:=h.2.2.1 her;simp;omega,fun hn=>?_⟩;rcases hc.2 hn with⟨rfl,rfl⟩ | ⟨rfl,_⟩
 {obtain⟨rfl,rfl,rfl,rfl⟩:=h.2.2.2.2 hn rfl;exact .inr ⟨rfl,by simp[tokF]⟩}
 {omega}
theorem Cut.name {s:ByteArray}{k k' kd n er:Nat}(h:Cut s k k' kd n er)(hk:k<s.size){pre:List (FdS s)}(hc:Came s k pre)(hn:nameB s=true):
  er=0/\ (pre++[(⟨⟨kd,s.extract k k',n,k,er⟩,h.ok hk⟩:FdS s)]).map (·.1)=[tokF s]:=by
 rcases hc.2 hn with⟨rfl,rfl⟩ | ⟨rfl,_⟩
 {obtain⟨rfl,rfl,rfl,rfl⟩:=h.2.2.2.2 hn rfl;exact⟨rfl,by simp[tokF]⟩}
 {omega}
theorem Came.done {s:ByteArray}{pre:List (FdS s)}(hc:Came s s.size pre)(hn:nameB s=true):pre.map (·.1)=[tokF s]:=by
 rcases hc.2 hn with⟨h0,_⟩ | ⟨_,h⟩
 {have:=((nameB_iff s).1 hn).1;omega}
 {exact h}
theorem cls2 (c:Nat)(h:c<256)(h2:clsB c=2):c=35:=by
 have h0:∀c:Fin 256,clsB c.1=2->c.1=35:=by decide+kernel
 exact h0 ⟨c,h⟩ h2
theorem cls4 (c:Nat)(h:c<256)(h2:clsB c=4):48<=c/\ c<=57:=by
 have h0:∀c:Fin 256,clsB c.1=4->48<=c.1/\ c.1<=57:=by decide+kernel
 exact h0 ⟨c,h⟩ h2
theorem digits_extract (s:ByteArray)(k j:Nat)(hj:j<=s.size)(h:∀i,k<=i->i<j->atC s i=4):Digits (s.extract k j):=by
 intro i hi;have hi':k+i<j:=by rw[ByteArray.size_extract]at hi;omega
 have hc:=h (k+i) (by omega) hi';rw[atC_lt s (k+i) (by omega)]at hc;have:=cls4 _ (UInt8.toNat_lt _) hc;rw[ByteArray.getElem_extract];exact this
theorem Came.skip {s:ByteArray}{k k':Nat}{pre:List (FdS s)}(h:Came s k pre)(hk:k<s.size)(h3:atC s k≠3)(hkk:k<=k'):Came s k' pre:=by
 refine⟨by have:=h.1;omega,fun hn=>?_⟩;rcases h.2 hn with⟨rfl,rfl⟩ | ⟨rfl,_⟩
 {exact absurd ((nameB_iff s).1 hn).2.2.1 h3}
 {omega}
theorem at_int (m:Nat)(s:ByteArray)(x:Int)(j:Nat)(hx:x=j)(bt bc ba:Nat)(w:World)(hs:s.size<=20000)(he:Env s bt bc ba w):
  CallsIn Fence.wide m Tryz.prog 218 #[.int .i64 x,.pointer (some ⟨bt,0,none⟩),.pointer (some ⟨bc,0,none⟩)] w fun e w'=>e=.returned (.int .u8 (atC s j))/\ w=w':=by
 subst hx;exact callsIn_wide.2 (at_any s j bt bc w (by omega) he.t he.c)
set_option maxRecDepth 100000 in
set_option maxHeartbeats 2000000 in
theorem tokens2_any (n:Nat)(hn:1<=n)(s:ByteArray)(hs:s.size<=20000)(bt bc ba:Nat)(w:World)(he:Env s bt bc ba w)(ht:bt<w.heap.size)(hc:bc<w.heap.size)(ha:ba<w.heap.size):
    SeqStopsK Fence.wide n Tryz.prog 219 #[.pointer (some ⟨bt,0,none⟩),.pointer (some ⟨ba,0,none⟩)] (fun x:FdS s=>#[.agg x.1.cells]) (Keep3 235 bt bc ba)
      (fun xs=>nameB s=true->xs.map (·.1)=[tokF s]) (fun xs=>nameB s=true->xs.map (·.1)=[tokF s]) s.size w:=fun l J Jx W hW hJ hJx hY h0=>by
  have HE0:=Lib.hid ((⟨he,ht,hc,ha⟩:EnvL s bt bc ba w).below hW);have HW:=Lib.hid hW;have HJ:=Lib.hid hJ;have HY:=Lib.hid hY;clear he hW hJ hY;refine callsIn_of_wp Tryz.func219 rfl trivial ?_ rfl;simp only[Tryz.ntmps219,List.size_toArray,List.length_cons,List.length_nil,Nat.reduceAdd,Nat.reduceSub,Array.replicate_succ,Array.replicate_zero,List.push_toArray,List.append_toArray,List.nil_append,List.cons_append];refine wpIn_scope_straight ?_;gi_wp2;refine wpIn_label ?_;gi_wp2;gi_loopw [4] (fun vi wr=>∃(k:Nat) (pre:List (FdS s)),k<=s.size/\ vi=.int .i64 k/\ Hid (Came s k pre)/\ Hid (J pre wr)/\ Hid (EnvL s bt bc ba wr)) (fun vi _=>s.size-(intOf vi).toNat)
  case atStart=>exact⟨0,[],Nat.zero_le _,rfl,Lib.hid ⟨Nat.le_refl _,fun _=>.inl ⟨rfl,rfl⟩⟩,Lib.hid h0,HE0⟩
  case round=>
    obtain⟨k,pre,hk,rfl,hcm,hJw,hbw⟩:=hrel;by_cases hlt:k<s.size
    . have hbt':=hbw.out.t
      have hba':=hbw.out.a;have hE:=hbw.out.e;have HE:=Lib.hid hE;obtain⟨e1,e2,e3⟩:=hE;unfold atV at e3;have HC:=Lib.hid e2;clear e2;gi_upto_region 4 with(fail);have hB1:Below wr.heap.size wr (wr.alloc (.cells #[.int .i64 0,.string {data:=#[]},.int .i64 0,.int .i64 k,.int .i64 0] 235)):=(Below.refl _ wr).alloc (Nat.le_refl _) _;have hK1:=Blk.new wr 235 #[.int .i64 0,.string {data:=#[]},.int .i64 0,.int .i64 k,.int .i64 0];have HB1:=Lib.hid hB1;have HK1:=Lib.hid hK1;have e1':=(hB1.cell (p:=⟨bt,0,none⟩) (by simp;omega)).trans e1;have e3':=(hB1.cell (p:=⟨ba,0,none⟩) (by simp;omega)).trans e3;have hA:=at_int (n-1) s k k rfl bt bc ba _ hs (hbw.out.below hB1).e;clear hB1 hK1;have HA:=Lib.hid hA;clear hA;gi_cut [20]from 18 (fun v wx=>v=.int .u8 (atC s k)/\ Hid (Below wr.heap.size wr wx)/\ Hid (Blk wx wr.heap.size 235 #[.int .i64 0,.string {data:=#[]},.int .i64 0,.int .i64 k,.int .i64 0]))
      case first=>(gi_wp2_with (first | (refine⟨trivial,?_⟩;gi_at_call 218;(with_reducible refine HA.out.mono ?_);rintro e w2 ⟨rfl,rfl⟩) | (gi_at_call 218;(with_reducible refine HA.out.mono ?_);rintro e w2 ⟨rfl,rfl⟩));gi_meet;case rel=>exact⟨rfl,HB1,HK1⟩)
      case rest=>
        obtain⟨rfl,hb1,hk1⟩:=hcut;clear HA HB1 HK1;have hbw1:=Lib.hid (hbw.out.below hb1.out);have hE1:=hbw1.out.e;have HE1:=Lib.hid hE1;have e1c:=hE1.t;have e3c:=hE1.a;unfold atV at e3c;clear hE1 e1 e3 e1' e3';have hc8:=atC_le s k;obtain⟨c,hcc⟩:∃c,atC s k=c:=⟨_,rfl⟩;rw[hcc]at hc8⊢;have HCC:=Lib.hid hcc;clear hcc;gi_step;gi_cut [4]from 7 (fun vi wx=>∃(k' kd m er:Nat),vi=.int .i64 k'/\ Hid (Cut s k k' kd m er)/\ Hid (Below wr.heap.size wr wx)/\ Hid (Blk wx wr.heap.size 235 #[.int .i64 kd,.string {data:=#[]},.int .i64 m,.int .i64 k,.int .i64 er]))
        case first=>
          have hcs:c=0\/c=1\/c=2\/c=3\/c=4\/c=5\/c=6\/c=7\/c=8:=by omega
          clear hc8;have f0:wc.cell? ⟨wr.heap.size,0,none⟩=some (.int .i64 0):=hk1.out.cell 0;have f4:wc.cell? ⟨wr.heap.size,4,none⟩=some (.int .i64 0):=hk1.out.cell 4;have z0:=hk1.out.frozen 0;have z4:=hk1.out.frozen 4;have HA:=Lib.hid (at_int (n-1) s k k rfl bt bc ba _ hs HE1.out);rw[HCC.out]at HA;rcases hcs with rfl | rfl | rfl | rfl | rfl | rfl | rfl | rfl | rfl
          . gi_wp2_with (fail)
            gi_meet
            case rel=>exact⟨k,0,0,3,rfl,Lib.hid ⟨Nat.le_refl _,hk,fun h=>by omega,fun h=>by omega,fun h hk0=>by have:=((nameB_iff s).1 h).2.2.1;rw[<-hk0,HCC.out]at this;omega⟩,Lib.hid (hb1.out.setCell (p:=⟨_,4,none⟩) (Nat.le_refl _) _),Lib.hid (hk1.out.set 4 _)⟩
          . gi_wp2_with (fail)
            go_roundw
            case rel=>exact⟨k+1,pre,by omega,by go_num,Lib.hid (hcm.out.skip hlt (by rw[HCC.out];decide) (by omega)),Lib.hid (abides_below HJ.out hJw.out hb1.out),hbw1⟩
            case measure=>simp[intOf];omega
          . have h35:=cls2 s[k].toNat (UInt8.toNat_lt _) (by rw[<-atC_lt s k hlt];exact HCC.out)
            have H35:=Lib.hid h35;clear h35 HA f0 f4 z0 z4;gi_wp2_with (fail);gi_loopw [4] (fun vi wx=>∃j:Nat,k<=j/\ j<=s.size/\ vi=.int .i64 j/\ wx=wc) (fun vi _=>s.size-(intOf vi).toNat)
            case atStart=>exact⟨k,Nat.le_refl _,hk,rfl,rfl⟩
            case round=>
              obtain⟨j,hkj,hj,rfl,rfl⟩:=hrel;by_cases hjs:j<s.size
              . rcases hq:((s[j].toNat:Int)==10)with _ | _
                . have hq':((s[j].toNat:Int) !=10)=true:=by rw[bne,hq];rfl
                  gi_wp2_with (fail);go_roundw
                  case rel=>exact⟨j+1,by omega,by omega,by go_num,trivial⟩
                  case measure=>simp[intOf];omega
                . have hq':((s[j].toNat:Int) !=10)=false:=by rw[bne,hq];rfl
                  have hkj':k<j:=by
                    by_cases h:j=k
                    . subst h
                      have:=H35.out;rw[this]at hq;cases hq
                    . omega
                  gi_wp2_with (fail);go_roundw
                  case rel=>exact⟨j,pre,hj,rfl,Lib.hid (hcm.out.skip hlt (by rw[HCC.out];decide) (by omega)),Lib.hid (abides_below HJ.out hJw.out hb1.out),hbw1⟩
                  case measure=>simp[intOf];omega
              . gi_wp2_with (fail)
                go_roundw
                case rel=>exact⟨j,pre,hj,rfl,Lib.hid (hcm.out.skip hlt (by rw[HCC.out];decide) (by omega)),Lib.hid (abides_below HJ.out hJw.out hb1.out),hbw1⟩
                case measure=>simp[intOf];omega
          . gi_wp2_with (first | (refine⟨trivial,?_⟩;gi_at_call 218;(with_reducible refine HA.out.mono ?_);rintro e w2 ⟨rfl,rfl⟩) | (gi_at_call 218;(with_reducible refine HA.out.mono ?_);rintro e w2 ⟨rfl,rfl⟩))
            gi_loopw [4,7] (fun vi vc wx=>∃j d:Nat,k<=j/\ j<=s.size/\ vi=.int .i64 j/\ vc=.int .u8 d/\ Hid (atC s j=d)/\ Hid (∀i,k<=i->i<j->isW (atC s i))/\ (j=k->d=3)/\ wx=wc) (fun vi _ _=>s.size-(intOf vi).toNat)
            case atStart=>exact⟨k,3,Nat.le_refl _,hk,rfl,rfl,HCC,Lib.hid (fun i h1 h2=>by omega),fun _=>rfl,rfl⟩
            case round=>
              obtain⟨j,d,hkj,hj,rfl,rfl,hcj,hword,hjk,rfl⟩:=hrel;have hd8:=atC_le s j;rw[hcj.out]at hd8;clear HA;by_cases hdw:d=3\/d=4\/d=5
              . have hjs:j<s.size:=by
                  by_cases h:j<s.size
                  . exact h
                  . have:=atC_ge s j h;rw[hcj.out]at this;omega
                have HA:=Lib.hid (at_int (n-1) s ((j:Int)+1) (j+1) rfl bt bc ba _ hs HE1.out)
                have HWD:=Lib.hid (show ∀i,k<=i->i<j+1->isW (atC s i)from fun i h1 h2=>by
                  by_cases h:i<j
                  . exact hword.out i h1 h
                  . have:i=j:=by omega
                    rw[this,hcj.out];exact hdw)
                clear hjk hcj hword;rcases hdw with rfl | rfl | rfl
                all_goals
                  gi_wp2_with (first | (refine⟨trivial,?_⟩;gi_at_call 218;(with_reducible refine HA.out.mono ?_);rintro e w2 ⟨rfl,rfl⟩) | (gi_at_call 218;(with_reducible refine HA.out.mono ?_);rintro e w2 ⟨rfl,rfl⟩));go_roundw
                  case rel=>exact⟨j+1,atC s (j+1),by omega,by omega,by go_num,rfl,Lib.hid rfl,HWD,fun h=>by omega,trivial⟩
                  case measure=>simp[intOf];omega
              . have e3d:((d:Int)==3)=false:=by simp;omega
                have e4d:((d:Int)==4)=false:=by simp;omega
                have e5d:((d:Int)==5)=false:=by simp;omega
                have hkj':k<j:=by
                  by_cases h:j=k
                  . exact absurd (.inl (hjk h)) hdw
                  . omega
                have HN:=Lib.hid (show nameB s=true->k=0->j=s.size from fun h h0=>by
                  by_cases hjs:j<s.size
                  . have:=((nameB_iff s).1 h).2.2.2 j hjs
                    rw[hcj.out]at this
                    exact absurd this hdw
                  . omega)
                clear hjk hdw hd8 hcj;by_cases h24:24<j-k
                . have d24:decide ((24:Int)<(j:Int)-k)=true:=decide_eq_true (by omega)
                  gi_wp2_with (fail);gi_meet
                  case rel=>exact⟨j,1,0,2,rfl,Lib.hid ⟨by omega,hj,fun _=>by omega,fun _ h=>by omega,fun h hk0=>by have:=HN.out h hk0;have:=((nameB_iff s).1 h).2.1;omega⟩,Lib.hid ((hb1.out.setCell (p:=⟨_,0,none⟩) (Nat.le_refl _) _).setCell (p:=⟨_,4,none⟩) (Nat.le_refl _) _),Lib.hid ((hk1.out.set 0 _).set 4 _)⟩
                . have d24:decide ((24:Int)<(j:Int)-k)=false:=decide_eq_false (by omega)
                  gi_wp2_with (fail);gi_meet
                  case rel=>exact⟨j,1,0,0,rfl,Lib.hid ⟨by omega,hj,fun _=>by omega,fun _ _=>⟨by omega,HCC.out,hword.out⟩,fun h hk0=>⟨rfl,rfl,rfl,HN.out h hk0⟩⟩,Lib.hid (hb1.out.setCell (p:=⟨_,0,none⟩) (Nat.le_refl _) _),Lib.hid (hk1.out.set 0 _)⟩
          . have f2:wc.cell? ⟨wr.heap.size,2,none⟩=some (.int .i64 0):=hk1.out.cell 2
            have z2:=hk1.out.frozen 2;clear HA;rw[show((4:Nat):Int)=4 from rfl];gi_wp2_with (fail);gi_loopw [4] (fun vi wx=>∃j:Nat,k<=j/\ j<=s.size/\ vi=.int .i64 j/\ Hid (∀i,k<=i->i<j->atC s i=4)/\ wx=wc) (fun vi _=>s.size-(intOf vi).toNat)
            case atStart=>exact⟨k,Nat.le_refl _,hk,rfl,Lib.hid (fun i h1 h2=>by omega),rfl⟩
            case round=>
              obtain⟨j,hkj,hj,rfl,hdig,rfl⟩:=hrel;obtain⟨d,hd⟩:∃d,atC s j=d:=⟨_,rfl⟩;have hd8:=atC_le s j;have hA:=at_int (n-1) s (j:Int) j rfl bt bc ba _ hs HE1.out;rw[hd]at hd8 hA;have HA:=Lib.hid hA;have HD:=Lib.hid hd;clear hA hd;by_cases hd4:d=4
              . have hjs:j<s.size:=by
                  by_cases h:j<s.size
                  . exact h
                  . have:=atC_ge s j h;rw[HD.out]at this;omega
                subst hd4
                have HDG:=Lib.hid (show ∀i,k<=i->i<j+1->atC s i=4 from fun i h1 h2=>by
                  by_cases h:i<j
                  . exact hdig.out i h1 h
                  . have:i=j:=by omega
                    rw[this,HD.out])
                gi_wp2_with (first | (refine⟨trivial,?_⟩;gi_at_call 218;(with_reducible refine HA.out.mono ?_);rintro e w2 ⟨rfl,rfl⟩) | (gi_at_call 218;(with_reducible refine HA.out.mono ?_);rintro e w2 ⟨rfl,rfl⟩));go_roundw
                case rel=>exact⟨j+1,by omega,by omega,by go_num,HDG,trivial⟩
                case measure=>simp[intOf];omega
              . have hkj':k<j:=by
                  by_cases h:j=k
                  . subst h;have:=HD.out;rw[HCC.out]at this;omega
                  . omega
                have e4d:((d:Int)==4)=false:=by simp;omega
                have hdc:7<j-k\/(j-k<=7/\ d=3)\/(j-k<=7/\ d=5)\/(j-k<=7/\ d≠3/\ d≠5):=by omega
                have HREL:=Lib.hid (fun(er m:Nat)=>(⟨hkj,hj,fun _=>hkj',fun h=>by omega,fun h hk0=>by have:=((nameB_iff s).1 h).2.2.1;rw[<-hk0,HCC.out]at this;omega⟩:Cut s k j 2 m er));have HA2:=Lib.hid (at_int (n-1) s (j:Int) j rfl bt bc ba _ hs (hbw.out.below (hb1.out.setCell (p:=⟨_,0,none⟩) (Nat.le_refl _) (.int .i64 2))).e);rw[HD.out]at HA2;rcases hdc with h7 | ⟨h7,rfl⟩ | ⟨h7,rfl⟩ | ⟨h7,hd3,hd5⟩
                . have d7:decide ((7:Int)<(j:Int)-k)=true:=decide_eq_true (by omega)
                  gi_wp2_with (first | (refine⟨trivial,?_⟩;gi_at_call 218;(with_reducible refine CallsIn.mono HA.out ?_);clear HA;rintro e w2 ⟨rfl,rfl⟩) | (refine⟨trivial,?_⟩;gi_at_call 218;(with_reducible refine CallsIn.mono HA2.out ?_);clear HA2;rintro e w2 ⟨rfl,rfl⟩));gi_meet
                  case rel=>exact⟨j,2,0,4,rfl,Lib.hid (HREL.out 4 0),Lib.hid ((hb1.out.setCell (p:=⟨_,0,none⟩) (Nat.le_refl _) _).setCell (p:=⟨_,4,none⟩) (Nat.le_refl _) _),Lib.hid ((hk1.out.set 0 _).set 4 _)⟩
                . have d7:decide ((7:Int)<(j:Int)-k)=false:=decide_eq_false (by omega)
                  gi_wp2_with (first | (refine⟨trivial,?_⟩;gi_at_call 218;(with_reducible refine CallsIn.mono HA.out ?_);clear HA;rintro e w2 ⟨rfl,rfl⟩) | (refine⟨trivial,?_⟩;gi_at_call 218;(with_reducible refine CallsIn.mono HA2.out ?_);clear HA2;rintro e w2 ⟨rfl,rfl⟩));gi_meet
                  case rel=>exact⟨j,2,0,4,rfl,Lib.hid (HREL.out 4 0),Lib.hid ((hb1.out.setCell (p:=⟨_,0,none⟩) (Nat.le_refl _) _).setCell (p:=⟨_,4,none⟩) (Nat.le_refl _) _),Lib.hid ((hk1.out.set 0 _).set 4 _)⟩
                . have d7:decide ((7:Int)<(j:Int)-k)=false:=decide_eq_false (by omega)
                  gi_wp2_with (first | (refine⟨trivial,?_⟩;gi_at_call 218;(with_reducible refine CallsIn.mono HA.out ?_);clear HA;rintro e w2 ⟨rfl,rfl⟩) | (refine⟨trivial,?_⟩;gi_at_call 218;(with_reducible refine CallsIn.mono HA2.out ?_);clear HA2;rintro e w2 ⟨rfl,rfl⟩));gi_meet
                  case rel=>exact⟨j,2,0,4,rfl,Lib.hid (HREL.out 4 0),Lib.hid ((hb1.out.setCell (p:=⟨_,0,none⟩) (Nat.le_refl _) _).setCell (p:=⟨_,4,none⟩) (Nat.le_refl _) _),Lib.hid ((hk1.out.set 0 _).set 4 _)⟩
                . have d7:decide ((7:Int)<(j:Int)-k)=false:=decide_eq_false (by omega)
                  have e3d:((d:Int)==3)=false:=by simp;omega
                  have e5d:((d:Int)==5)=false:=by simp;omega
                  have HDX:=Lib.hid (digits_extract s k j hj hdig.out);have hsz:(s.extract k j).size=j-k:=by rw[ByteArray.size_extract];omega
                  have HSZ:=Lib.hid hsz;clear hdig hsz;gi_wp2_with (first | (first | (refine⟨trivial,?_⟩;gi_at_call 218;(with_reducible refine CallsIn.mono HA.out ?_);clear HA;rintro e w2 ⟨rfl,rfl⟩) | (refine⟨trivial,?_⟩;gi_at_call 218;(with_reducible refine CallsIn.mono HA2.out ?_);clear HA2;rintro e w2 ⟨rfl,rfl⟩)) | (refine⟨trivial,?_⟩;gi_at_call 220;(refine(callsIn_wide.2 (atoi_any (s.extract k j) (by rw[HSZ.out];omega) (by rw[HSZ.out];omega) HDX.out _)).mono ?_);rintro e w2 ⟨rfl,hb2⟩;have q:=(hk1.out.set 0 (.int .i64 2)).below hb2;have HQ:=Lib.hid q;have g2:w2.cell? ⟨_,2,none⟩=some (.int .i64 0):=q.cell 2;have g2':=q.frozen 2;have HB2:=Lib.hid hb2;clear q hb2));gi_meet
                  case rel=>exact⟨j,2,_,0,rfl,Lib.hid (HREL.out 0 _),Lib.hid (((hb1.out.setCell (p:=⟨_,0,none⟩) (Nat.le_refl _) _).trans (HB2.out.mono (by have:=hb1.out.size;simp;omega))).setCell (p:=⟨_,2,none⟩) (Nat.le_refl _) _),Lib.hid (HQ.out.set 2 _)⟩
          . gi_wp2_with (fail)
            gi_meet
            case rel=>exact⟨k,0,0,3,rfl,Lib.hid ⟨Nat.le_refl _,hk,fun h=>by omega,fun h=>by omega,fun h hk0=>by have:=((nameB_iff s).1 h).2.2.1;rw[<-hk0,HCC.out]at this;omega⟩,Lib.hid (hb1.out.setCell (p:=⟨_,4,none⟩) (Nat.le_refl _) _),Lib.hid (hk1.out.set 4 _)⟩
          . clear HA
            rw[show((6:Nat):Int)=6 from rfl];have HA2:=Lib.hid (at_int (n-1) s (k:Int) k rfl bt bc ba _ hs (hbw.out.below (hb1.out.setCell (p:=⟨_,0,none⟩) (Nat.le_refl _) (.int .i64 3))).e);rw[HCC.out]at HA2;gi_wp2_with (refine⟨trivial,?_⟩;gi_at_call 218;(with_reducible refine CallsIn.mono HA2.out ?_);clear HA2;rintro e w2 ⟨rfl,rfl⟩);gi_meet
            case rel=>exact⟨k+1,3,0,0,rfl,Lib.hid ⟨by omega,by omega,fun _=>by omega,fun h=>by omega,fun h hk0=>by have:=((nameB_iff s).1 h).2.2.1;rw[<-hk0,HCC.out]at this;omega⟩,Lib.hid (hb1.out.setCell (p:=⟨_,0,none⟩) (Nat.le_refl _) _),Lib.hid (hk1.out.set 0 _)⟩
          . clear HA
            rw[show((7:Nat):Int)=7 from rfl];have HA2:=Lib.hid (at_int (n-1) s (k:Int) k rfl bt bc ba _ hs (hbw.out.below (hb1.out.setCell (p:=⟨_,0,none⟩) (Nat.le_refl _) (.int .i64 3))).e);rw[HCC.out]at HA2;by_cases hk1s:k+1<s.size
            . rcases hq:((s[k+1].toNat:Int)==61)with _ | _
              . gi_wp2_with (refine⟨trivial,?_⟩;gi_at_call 218;(with_reducible refine CallsIn.mono HA2.out ?_);clear HA2;rintro e w2 ⟨rfl,rfl⟩)
                gi_meet
                case rel=>exact⟨k+1,3,0,0,rfl,Lib.hid ⟨by omega,by omega,fun _=>by omega,fun h=>by omega,fun h hk0=>by have:=((nameB_iff s).1 h).2.2.1;rw[<-hk0,HCC.out]at this;omega⟩,Lib.hid (hb1.out.setCell (p:=⟨_,0,none⟩) (Nat.le_refl _) _),Lib.hid (hk1.out.set 0 _)⟩
              . gi_wp2_with (refine⟨trivial,?_⟩;gi_at_call 218;(with_reducible refine CallsIn.mono HA2.out ?_);clear HA2;rintro e w2 ⟨rfl,rfl⟩)
                gi_meet
                case rel=>exact⟨k+2,3,0,0,rfl,Lib.hid ⟨by omega,by omega,fun _=>by omega,fun h=>by omega,fun h hk0=>by have:=((nameB_iff s).1 h).2.2.1;rw[<-hk0,HCC.out]at this;omega⟩,Lib.hid (hb1.out.setCell (p:=⟨_,0,none⟩) (Nat.le_refl _) _),Lib.hid (hk1.out.set 0 _)⟩
            . gi_wp2_with (refine⟨trivial,?_⟩;gi_at_call 218;(with_reducible refine CallsIn.mono HA2.out ?_);clear HA2;rintro e w2 ⟨rfl,rfl⟩)
              gi_meet
              case rel=>exact⟨k+1,3,0,0,rfl,Lib.hid ⟨by omega,by omega,fun _=>by omega,fun h=>by omega,fun h hk0=>by have:=((nameB_iff s).1 h).2.2.1;rw[<-hk0,HCC.out]at this;omega⟩,Lib.hid (hb1.out.setCell (p:=⟨_,0,none⟩) (Nat.le_refl _) _),Lib.hid (hk1.out.set 0 _)⟩
          . clear HA
            rw[show((8:Nat):Int)=8 from rfl];have HA2:=Lib.hid (at_int (n-1) s (k:Int) k rfl bt bc ba _ hs (hbw.out.below (hb1.out.setCell (p:=⟨_,0,none⟩) (Nat.le_refl _) (.int .i64 3))).e);rw[HCC.out]at HA2;by_cases hk1s:k+1<s.size
            . rcases hq:((s[k+1].toNat:Int)==61)with _ | _
              . gi_wp2_with (refine⟨trivial,?_⟩;gi_at_call 218;(with_reducible refine CallsIn.mono HA2.out ?_);clear HA2;rintro e w2 ⟨rfl,rfl⟩)
                gi_meet
                case rel=>exact⟨k+1,3,0,3,rfl,Lib.hid ⟨by omega,by omega,fun _=>by omega,fun h=>by omega,fun h hk0=>by have:=((nameB_iff s).1 h).2.2.1;rw[<-hk0,HCC.out]at this;omega⟩,Lib.hid ((hb1.out.setCell (p:=⟨_,0,none⟩) (Nat.le_refl _) _).setCell (p:=⟨_,4,none⟩) (Nat.le_refl _) _),Lib.hid ((hk1.out.set 0 _).set 4 _)⟩
              . gi_wp2_with (refine⟨trivial,?_⟩;gi_at_call 218;(with_reducible refine CallsIn.mono HA2.out ?_);clear HA2;rintro e w2 ⟨rfl,rfl⟩)
                gi_meet
                case rel=>exact⟨k+2,3,0,0,rfl,Lib.hid ⟨by omega,by omega,fun _=>by omega,fun h=>by omega,fun h hk0=>by have:=((nameB_iff s).1 h).2.2.1;rw[<-hk0,HCC.out]at this;omega⟩,Lib.hid (hb1.out.setCell (p:=⟨_,0,none⟩) (Nat.le_refl _) _),Lib.hid (hk1.out.set 0 _)⟩
            . gi_wp2_with (refine⟨trivial,?_⟩;gi_at_call 218;(with_reducible refine CallsIn.mono HA2.out ?_);clear HA2;rintro e w2 ⟨rfl,rfl⟩)
              gi_meet
              case rel=>exact⟨k+1,3,0,3,rfl,Lib.hid ⟨by omega,by omega,fun _=>by omega,fun h=>by omega,fun h hk0=>by have:=((nameB_iff s).1 h).2.2.1;rw[<-hk0,HCC.out]at this;omega⟩,Lib.hid ((hb1.out.setCell (p:=⟨_,0,none⟩) (Nat.le_refl _) _).setCell (p:=⟨_,4,none⟩) (Nat.le_refl _) _),Lib.hid ((hk1.out.set 0 _).set 4 _)⟩
        case rest=>
          obtain⟨k',kd,m,er,rfl,hct,hbx,hkx⟩:=hcut;clear hk1 hb1 hbw1 HE1 e1c e3c;have hbw2:=Lib.hid (hbw.out.below hbx.out);have hE2:=hbw2.out.e;have e1d:=hE2.t;clear hE2;have hk's:=hct.out.2.1;have hkk':=hct.out.1;have f0:wc.cell? ⟨wr.heap.size,0,none⟩=some (.int .i64 kd):=hkx.out.cell 0;have f1:wc.cell? ⟨wr.heap.size,1,none⟩=some (.string {data:=#[]}):=hkx.out.cell 1;have f2:wc.cell? ⟨wr.heap.size,2,none⟩=some (.int .i64 m):=hkx.out.cell 2;have f3:wc.cell? ⟨wr.heap.size,3,none⟩=some (.int .i64 k):=hkx.out.cell 3;have f4:wc.cell? ⟨wr.heap.size,4,none⟩=some (.int .i64 er):=hkx.out.cell 4;have z1:=hkx.out.frozen 1;have hby:=hbx.out.setCell (p:=⟨wr.heap.size,1,none⟩) (Nat.le_refl _) (.string (s.extract k k'));have hky:=hkx.out.set 1 (.string (s.extract k k'));have hJy:=abides_below HJ.out hJw.out hby;have hlen:pre.length<s.size:=by have:=hcm.out.1;omega
          obtain⟨fn,tmps,assign,body,hy,hR⟩:=HY.out pre ⟨⟨kd,s.extract k k',m,k,er⟩,hct.out.ok hlt⟩ _ hJy hlen
          dsimp only[Fd.cells]at hy
          have HKY:=Lib.hid hky;have HBY:=Lib.hid hby;clear hky hby hJy hlen;gi_step;gi_wp2_with (fail);refine hR.mono ?_;rintro e W3 (⟨rfl,hJ3,hk3⟩ | ⟨rfl,hJx3⟩)
          . have hb3:=hk3.1 _ _ _ HKY.out
            have g4:W3.cell? ⟨wr.heap.size,4,none⟩=some (.int .i64 er):=Blk.cell (show Blk W3 wr.heap.size 235 _ from hb3) 4;have HJ3:=Lib.hid hJ3;have HB3:=Lib.hid ((hbw.out.below HBY.out).keep hk3);clear hb3 hJ3 hk3;by_cases her:er=0
            . subst her
              rw[show((0:Nat):Int)=0 from rfl]at g4;gi_wp2_with (fail);go_roundw
              case rel=>exact⟨k',_,hk's,rfl,Lib.hid (hct.out.came hlt hcm.out rfl),HJ3,HB3⟩
              case measure=>have:=hct.out.2.2.1 rfl;simp[intOf];omega
            . have er0:((er:Int) !=0)=true:=by simp;omega
              have er0':((er:Int)==0)=false:=by simp;omega
              gi_wp2_with (fail)
              first
              | (refine bodyPost_ret (results_none rfl _ _ _) rfl ?_
                 exact⟨⟨_,rfl⟩,.inl ⟨_,fun hn=>absurd (hct.out.name hlt hcm.out hn).1 her,HJ3.out⟩⟩)
              | (rw[Exit.noGoto_ret]
                 refine bodyPost_ret (results_none rfl _ _ _) rfl ?_
                 exact⟨⟨_,rfl⟩,.inl ⟨_,fun hn=>absurd (hct.out.name hlt hcm.out hn).1 her,HJ3.out⟩⟩)
          . have HJ3:=Lib.hid hJx3
            clear hJx3;gi_wp2_with (fail)
            first
            | (refine bodyPost_ret (results_none rfl _ _ _) rfl ?_
               exact⟨⟨_,rfl⟩,.inr ⟨_,fun hn=>(hct.out.name hlt hcm.out hn).2,HJ3.out⟩⟩)
            | (rw[Exit.noGoto_ret]
               refine bodyPost_ret (results_none rfl _ _ _) rfl ?_
               exact⟨⟨_,rfl⟩,.inr ⟨_,fun hn=>(hct.out.name hlt hcm.out hn).2,HJ3.out⟩⟩)
    . obtain rfl:k=s.size:=by omega
      have e1:=hbw.out.e.t;gi_wp2_with (fail);simp only[Exit.noGoto_normal]
      first
      | (go_end0
         exact⟨⟨_,rfl⟩,.inl ⟨pre,fun hn=>hcm.out.done hn,hJw.out⟩⟩)
      | (rw[Exit.noGoto_normal]
         go_end0
         exact⟨⟨_,rfl⟩,.inl ⟨pre,fun hn=>hcm.out.done hn,hJw.out⟩⟩)
end Go.Proofs.YtihniipjfdenbaaGreatDoor
