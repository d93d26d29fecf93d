/- The walks of formula.Check and formula.Holds. A bound on the number of nodes. -/
import Derived.Test.YtihniipjfdenbaaGreatDoorCheckA
import Derived.Deep.RegionHeld3
set_option maxRecDepth 100000
set_option maxHeartbeats 4000000
namespace Go.Proofs.YtihniipjfdenbaaGreatDoor
open Go.RowKit
theorem idxFrom_any {α:Type}(p:α->Bool):∀(l:List α) (k:Nat),decide ((0:Int)<=idxFrom p l (k:Nat))=l.any p
 | [],k=>by simp[idxFrom]
 | x::l,k=>by{rw[idxFrom,List.any_cons];cases h:p x with| true=>simp| false=>{rw[if_neg (by simp),Bool.false_or, <-idxFrom_any p l (k+1)];simp}}
theorem indexStr_any (l:List ByteArray)(s:ByteArray)(v:Value)(w:World)(B:Nat)(hl:StrsIn w B l v):
  Calls Tryz.prog 130 #[v,.string s] w fun e w'=>e=.returned (.int .i64 (idxFrom (fun x=>eqB s x) l 0))/\ w=w':=by
 obtain⟨ao,cap,rfl,h1,h2,_⟩:=SlIn.shape hl;unfold maxLen at h2;have HL:=Lib.hid hl;have HR:Hid (idxFrom (fun x=>eqB s x) l 0=idxFrom (fun x=>eqB s x) (l.drop 0) ((0:Nat):Int)):=rfl;generalize idxFrom (fun x=>eqB s x) l 0=R at*
 clear hl;go_enter Tryz.func130,Tryz.ntmps130;go_wp2
 go_loop [8] (fun i=>∃k:Nat,k<=l.length/\ i=.int .i64 k/\ Hid (R=idxFrom (fun x=>eqB s x) (l.drop k) (k:Nat))) (fun i=>l.length-(intOf i).toNat)
 case atStart=>exact⟨0,by omega,rfl,HR⟩
 case round=>
  obtain⟨k,hk,rfl,hin⟩:=hrel;by_cases hlt:k<l.length
  {obtain⟨b,off,rfl,hb,hc⟩:=SlIn.one HL.out k hlt;have hs:=hin.out;rw[idxFrom_drop _ l k hlt]at hs;generalize l[k]=y at*;cases he:(s.toList==y.toList)with| true=>{have HS:=Lib.hid (show(k:Int)=R by rw[hs];unfold eqB;rw[he];rfl);clear hs hin HR;go_wp2;go_ret;exact⟨ret_int HS.out,rfl⟩}| false=>{have HS:=Lib.hid (show R=idxFrom (fun x=>eqB s x) (l.drop (k+1)) ((k+1:Nat):Int) by rw[hs];unfold eqB;rw[he];rfl);clear hs hin HR;go_wp2;go_round;(case rel=>exact⟨k+1,by omega,by go_num,HS⟩);case measure=>simp[intOf];omega}}
  ·have HS:=Lib.hid (show(-1:Int)=R by
    have h0:=hin.out
    rw[List.drop_of_length_le (by omega)]at h0
    exact h0.symm)
   clear hin HR;go_wp2;go_ret;exact⟨ret_int HS.out,rfl⟩
theorem containsStr_any (l:List ByteArray)(s:ByteArray)(v:Value)(w:World)(B:Nat)(hl:StrsIn w B l v):
  Calls Tryz.prog 89 #[v,.string s] w fun e w'=>e=.returned (.bool (l.any fun x=>eqB s x))/\ w=w':=by
 have C:=Lib.hid (indexStr_any l s v w B hl);have HA:=Lib.hid (idxFrom_any (fun x=>eqB s x) l 0);obtain⟨ao,cap,rfl,h1,h2,_⟩:=SlIn.shape hl;clear hl
 change Hid (decide ((0:Int)<=idxFrom (fun x=>eqB s x) l 0)=_)at HA
 generalize idxFrom (fun x=>eqB s x) l 0=R at*
 go_enter Tryz.func89,Tryz.ntmps89;go_wp2_with (go_at_call 130;refine C.out.mono ?_;rintro e w' ⟨rfl,rfl⟩);go_ret;exact⟨ret_bool HA.out,rfl⟩
abbrev FnOn {α:Type}(g:Nat)(lb:Array Value)(val:World->α->Value->Prop)(p:α->Bool)(l:List α)(J:World->Prop):Prop:=
 ∀(W:World) (x:α) (v:Value),x∈l->J W->val W x v->Calls Tryz.prog g (#[v]++lb) W fun e W'=>e=.returned (.bool (p x))/\ J W'
theorem idxFuncFo_any (ks:List Fo)(g:Nat)(lb:Array Value)(p:Fo->Bool)(J:World->Prop)(B:Nat)(ao:Option Addr)(cap:Nat)(w:World)(eg:∀args w,(callFunc g args).run Tryz.prog w=.ok (.enter g args) w)
  (hcap:cap<=maxLen) (hlen:ks.length<=cap) (hrow:∀W,J W->ks≠[]->∃b off,ao=some ⟨b,off,none⟩/\ Fo.InL W B ks b off) (hp:FnOn g lb (fun W x v=>Fo.In W B x v) p ks J) (h0:J w):
  Calls Tryz.prog 144 #[.slice ao ks.length cap,.func (.func g) #[] lb] w fun e w'=>e=.returned (.int .i64 (idxFrom p ks 0))/\ J w':=by
 unfold maxLen at hcap;have HR:Hid (idxFrom p ks 0=idxFrom p (ks.drop 0) ((0:Nat):Int)):=rfl;have HP:=Lib.hid hp;have HW:=Lib.hid hrow;have HJ0:=Lib.hid h0;generalize idxFrom p ks 0=R at*
 clear hp hrow h0;go_enter Tryz.func144,Tryz.ntmps144;go_wp2
 go_loopw [8] (fun i wr=>∃k:Nat,k<=ks.length/\ i=.int .i64 k/\ Hid (R=idxFrom p (ks.drop k) (k:Nat))/\ Hid (J wr)) (fun i _=>ks.length-(intOf i).toNat)
 case atStart=>exact⟨0,by omega,rfl,HR,HJ0⟩
 case round=>
  obtain⟨k,hk,rfl,hin,hj⟩:=hrel;by_cases hlt:k<ks.length
  {obtain⟨b,off,rfl,hL⟩:=HW.out wr hj.out (by intro h;simp[h]at hlt);obtain⟨ka,kc,g0,g1,g2,g3,g4,gk⟩:=Fo.InL.get ks off k hlt hL;have hs:=hin.out;rw[idxFrom_drop _ ks k hlt]at hs;have HC:=Lib.hid (HP.out wr ks[k] _ (List.getElem_mem _) hj.out gk);generalize ks[k]=y at*;have HJ:=hj;clear gk hL hj;cases he:p y with| true=>{have HS:=Lib.hid (show(k:Int)=R by rw[hs,he];rfl);rw[he]at HC;clear hs hin HR;go_wp2_with (go_at_fn g;refine HC.out.mono ?_;rintro e w' ⟨rfl,hj'⟩);go_ret;exact⟨ret_int HS.out,hj'⟩}| false=>{have HS:=Lib.hid (show R=idxFrom p (ks.drop (k+1)) ((k+1:Nat):Int) by rw[hs,he];rfl);rw[he]at HC;clear hs hin HR;go_wp2_with (go_at_fn g;refine HC.out.mono ?_;rintro e w' ⟨rfl,hj'⟩);have HJ':=Lib.hid hj';clear hj';go_roundw;(case rel=>exact⟨k+1,by omega,by go_num,HS,HJ'⟩);case measure=>simp[intOf];omega}}
  ·have HS:=Lib.hid (show(-1:Int)=R by
    have h0:=hin.out
    rw[List.drop_of_length_le (by omega)]at h0
    exact h0.symm)
   clear hin HR;go_wp2;go_ret;exact⟨ret_int HS.out,hj.out⟩
theorem contFuncFo_any (ks:List Fo)(g:Nat)(lb:Array Value)(p:Fo->Bool)(J:World->Prop)(B:Nat)(ao:Option Addr)(cap:Nat)(w:World)(eg:∀args w,(callFunc g args).run Tryz.prog w=.ok (.enter g args) w)
  (hcap:cap<=maxLen) (hlen:ks.length<=cap) (hrow:∀W,J W->ks≠[]->∃b off,ao=some ⟨b,off,none⟩/\ Fo.InL W B ks b off) (hp:FnOn g lb (fun W x v=>Fo.In W B x v) p ks J) (h0:J w):
  Calls Tryz.prog 98 #[.slice ao ks.length cap,.func (.func g) #[] lb] w fun e w'=>e=.returned (.bool (ks.any p))/\ J w':=by
 have C:=Lib.hid (idxFuncFo_any ks g lb p J B ao cap w eg hcap hlen hrow hp h0);have HA:=Lib.hid (idxFrom_any p ks 0)
 change Hid (decide ((0:Int)<=idxFrom p ks 0)=_)at HA
 generalize idxFrom p ks 0=R at*
 clear hrow hp h0;go_enter Tryz.func98,Tryz.ntmps98;go_wp2_with (go_at_call 144;refine C.out.mono ?_;rintro e w' ⟨rfl,hj⟩);go_ret;exact⟨ret_bool HA.out,hj⟩
mutual
def valF (d:List Fa)(c:List Int)(ts:List ByteArray):Fo->Bool
 | .mk op nm cm n ks=>
  if op=3 then cmpB (c.getD (idxD d nm).toNat 0) cm n
  else if op=4 then ts.any fun x=>eqB nm x
  else if op=5 then !((valL d c ts ks).headD false)
  else if op=6 then(valL d c ts ks).all id
  else if op=7 then(valL d c ts ks).any id
  else op==1
def valL (d:List Fa)(c:List Int)(ts:List ByteArray):List Fo->List Bool
 | []=>[]
 | k::ks=>valF d c ts k::valL d c ts ks
end
theorem valL_eq (d:List Fa)(c:List Int)(ts:List ByteArray):∀ks,valL d c ts ks=ks.map (valF d c ts)
 | []=>rfl
 | k::ks=>by rw[valL,List.map_cons,valL_eq d c ts ks]
def holdsF (f:Fo)(d:List Fa)(c:List Int)(ts:List ByteArray):Bool:=decide (checkF f d (fun _=>true)=0)&& fitsD d c&& valF d c ts f
def Good (d:List Fa)(f:Fo):Prop:=∀x∈nodesL f,nodeErr d (fun _=>true) x=0
theorem nodesL_self (f:Fo):f∈nodesL f:=by obtain⟨op,nm,c,n,ks⟩:=f;simp[nodesL]
theorem nodesLL_mem (ks:List Fo)(k x:Fo)(hk:k∈ks)(hx:x∈nodesL k):x∈nodesLL ks:=by
 induction ks with| nil=>cases hk| cons a ks ih=>{rw[nodesLL,List.mem_append];(rcases List.mem_cons.1 hk with rfl | hk);{exact .inl hx};{exact .inr (ih hk)}}
theorem Good.kid {d:List Fa}{op c n:Int}{nm:ByteArray}{ks:List Fo}(h:Good d (.mk op nm c n ks)){k:Fo}(hk:k∈ks):Good d k:=
 fun x hx=>h x (by rw[nodesL];exact List.mem_cons_of_mem _ (nodesLL_mem ks k x hk hx))
theorem good_of_check {d:List Fa}{f:Fo}(h:checkF f d (fun _=>true)=0):Good d f:=by
 unfold checkF at h
 split at h
 {cases h}
 ·have:∀l,firstErr d (fun _=>true) l=0->∀x∈l,nodeErr d (fun _=>true) x=0:=by
   intro l
   induction l with| nil=>intro _ x hx;cases hx| cons a l ih=>{intro h x hx;rw[firstErr]at h;by_cases ha:nodeErr d (fun _=>true) a=0;{rw[if_pos ha]at h;(rcases List.mem_cons.1 hx with rfl | hx);{exact ha};{exact ih h x hx}};{rw[if_neg ha]at h;exact absurd h ha}}
  exact fun x hx=>this _ h x hx
theorem idxFrom_bd {α:Type}(p:α->Bool):∀(l:List α) (k:Int),idxFrom p l k= -1\/(k<=idxFrom p l k/\ idxFrom p l k<k+l.length)
 | [],k=>.inl rfl
 | x::l,k=>by{rw[idxFrom];(split);{right;simp;omega};{(rcases idxFrom_bd p l (k+1)with h | h);{exact .inl h};{right;simp;omega}}}
theorem formed_cases {op c n:Int}{nm:ByteArray}{ks:List Fo}(h:formedB (.mk op nm c n ks)=true):
  (op=1\/op=2)\/(op=3/\ 1<=c/\ c<=6)\/op=4\/(op=5/\ ks.length=1)\/op=6\/op=7:=by
 have HR:formedB (.mk op nm c n ks)=if badB (.mk op nm c n ks)=true then false
  else if op=1\/op=2 then decide (ks.length=0)
  else if op=3 then((decide (ks.length=0)&& nameB nm)&& decide (1<=c))&& decide (c<=6)
  else if op=4 then decide (ks.length=0)&& nameB nm
  else if op=5 then decide (ks.length=1)
  else if op=6\/op=7 then decide (2<=ks.length)
  else false:=rfl
 rw[HR]at h;clear HR;by_cases hb:badB (.mk op nm c n ks)=true
 {rw[if_pos hb]at h;cases h}
 rw[if_neg hb]at h;by_cases h1:op=1\/op=2
 {exact .inl h1}
 rw[if_neg h1]at h;by_cases h3:op=3
 {rw[if_pos h3]at h;simp only[Bool.and_eq_true,decide_eq_true_iff]at h;exact .inr (.inl ⟨h3,h.1.2,h.2⟩)}
 rw[if_neg h3]at h;by_cases h4:op=4
 {exact .inr (.inr (.inl h4))}
 rw[if_neg h4]at h;by_cases h5:op=5
 {rw[if_pos h5]at h;exact .inr (.inr (.inr (.inl ⟨h5,by simpa using h⟩)))}
 rw[if_neg h5]at h;by_cases h6:op=6\/op=7
 {exact .inr (.inr (.inr (.inr h6)))}
 {rw[if_neg h6]at h;cases h}
theorem node_cases {d:List Fa}{op c n:Int}{nm:ByteArray}{ks:List Fo}(h:nodeErr d (fun _=>true) (.mk op nm c n ks)=0):
  (op=1\/op=2)\/(op=3/\ 1<=c/\ c<=6/\ ∃k:Nat,idxD d nm=k/\ k<d.length)\/op=4\/(op=5/\ ∃k,ks=[k])\/op=6\/op=7:=by
 have HR:nodeErr d (fun _=>true) (.mk op nm c n ks)=if formedB (.mk op nm c n ks)=false then 1 else if op=3/\ (n<0\/1000000<n)then 10 else if(op=3/\ idxD d nm<0)\/(op=4/\ true=false)then 7 else 0:=rfl;rw[HR]at h;clear HR;by_cases hf:formedB (.mk op nm c n ks)=false
 {rw[if_pos hf]at h;cases h}
 rw[if_neg hf]at h;by_cases hr:op=3/\ (n<0\/1000000<n)
 {rw[if_pos hr]at h;cases h}
 rw[if_neg hr]at h;by_cases hi:op=3/\ idxD d nm<0
 {rw[if_pos (.inl hi)]at h;cases h}
 rcases formed_cases (by simpa using hf)with h1 | ⟨h1,h2,h3⟩ | h1 | ⟨h1,h2⟩ | h1 | h1
 {exact .inl h1}
 {(have h4:¬idxD d nm<0:=fun e=>hi ⟨h1,e⟩);refine .inr (.inl ⟨h1,h2,h3,(idxD d nm).toNat,by omega,?_⟩);(rcases idxFrom_bd (fun f:Fa=>eqB f.name nm) d 0 with h5 | h5);{exact absurd (show idxD d nm<0 by unfold idxD;omega) h4};{unfold idxD at*;omega}}
 {exact .inr (.inr (.inl h1))}
 {obtain⟨k,rfl⟩:=List.length_eq_one_iff.1 h2;exact .inr (.inr (.inr (.inl ⟨h1,k,rfl⟩)))}
 {exact .inr (.inr (.inr (.inr (.inl h1))))}
 {exact .inr (.inr (.inr (.inr (.inr h1))))}
structure EnvH (d : List Fa) (c : List Int) (ts : List ByteArray) (H cb db tb hb : Nat) (w : World) : Prop where
 size:H<=w.heap.size
 c:cb<H/\ ∃ao cap,w.cell? ⟨cb,0,none⟩=some (.slice ao c.length cap)/\ IntsIn w H c (.slice ao c.length cap)
 d:db<H/\ ∃ao cap,w.cell? ⟨db,0,none⟩=some (.slice ao d.length cap)/\ DomIn w H d (.agg #[.slice ao d.length cap])
 t:tb<H/\ ∃ao cap,w.cell? ⟨tb,0,none⟩=some (.slice ao ts.length cap)/\ StrsIn w H ts (.slice ao ts.length cap)
 h:hb<H/\ w.cell? ⟨hb,0,none⟩=some (.func (.func 95) #[] #[.pointer (some ⟨cb,0,none⟩),.pointer (some ⟨db,0,none⟩),.pointer (some ⟨tb,0,none⟩),.pointer (some ⟨hb,0,none⟩)])
theorem EnvH.below {d:List Fa}{c:List Int}{ts:List ByteArray}{H cb db tb hb:Nat}{w w':World}(h:EnvH d c ts H cb db tb hb w)(hb':Below H w w'):EnvH d c ts H cb db tb hb w':=by
 obtain⟨h0,⟨h1,a1,c1,h2,h3⟩,⟨h4,a2,c2,h5,h6⟩,⟨h7,a3,c3,h8,h9⟩,⟨h10,h11⟩⟩:=h
 exact⟨Nat.le_trans h0 hb'.size,⟨h1,a1,c1,(hb'.cell (p:=⟨cb,0,none⟩) h1).trans h2,h3.below hb'⟩,⟨h4,a2,c2,(hb'.cell (p:=⟨db,0,none⟩) h4).trans h5,h6.below hb'⟩,
  ⟨h7,a3,c3,(hb'.cell (p:=⟨tb,0,none⟩) h7).trans h8,h9.below hb'⟩,⟨h10,(hb'.cell (p:=⟨hb,0,none⟩) h10).trans h11⟩⟩
theorem keepS {W1 W' w4:World}{n:Nat}(h:Hid (Below n W1 W'))(hs:n<=W'.heap.size)(hb:Below W'.heap.size W' w4):Hid (Below n W1 w4):=h.out.trans (hb.mono hs)
theorem holdsC_any (d:List Fa)(c:List Int)(ts:List ByteArray)(hcd:c.length=d.length)(H cb db tb hb:Nat)(N:Nat):∀(f:Fo) (v:Value) (w:World),f.size<=N->Good d f->EnvH d c ts H cb db tb hb w->f.In w H v->
    Calls Tryz.prog 95 #[v,.pointer (some ⟨cb,0,none⟩),.pointer (some ⟨db,0,none⟩),.pointer (some ⟨tb,0,none⟩),.pointer (some ⟨hb,0,none⟩)] w fun e w'=>e=.returned (.bool (valF d c ts f))/\ Below w.heap.size w w':=by
  induction N with
  | zero=>intro f _ _ h;have:=f.size_pos;omega
  | succ N ih=>
  intro f v w hN hg he hf;have IH:=Lib.hid ih;clear ih;obtain⟨op,nm,cm,n,ks⟩:=f;have HF:=Lib.hid hf;obtain⟨ao,cap,rfl,_,_,_,hnm,h5,h6,h7⟩:=hf;have H7:=Lib.hid h7;have HG:=Lib.hid hg;have HE0:=Lib.hid he;have hcase:=node_cases (hg _ (nodesL_self _))
  have hV:Hid (valF d c ts (.mk op nm cm n ks)=if op=3 then cmpB (c.getD (idxD d nm).toNat 0) cm n else if op=4 then ts.any fun x=>eqB nm x else if op=5 then !((valL d c ts ks).headD false)else if op=6 then(valL d c ts ks).all id
    else if op=7 then(valL d c ts ks).any id else op==1):=by show _=_;rw[valF]
  generalize valF d c ts (.mk op nm cm n ks)=R at*
  have hb1:Below w.heap.size w (w.alloc (.cells #[.int .i64 op,.string nm,.int .i64 cm,.int .i64 n,.slice ao ks.length cap] 47)):=(Below.refl _ _).alloc (Nat.le_refl _) _;have he1:=he.below (hb1.mono he.size);have HB1:=Lib.hid hb1;have HE1:=Lib.hid he1;have hsz:=he.size;obtain⟨_,⟨l1,a1,p1,q1,r1⟩,⟨l2,a2,p2,q2,r2⟩,⟨l3,a3,p3,q3,r3⟩,⟨l4,q4⟩⟩:=he;have R1:=Lib.hid r1;have R2:=Lib.hid r2;have R3:=Lib.hid r3;clear h7 hg hb1 he1 r1 r2 r3;rcases hcase with h1 | ⟨rfl,g1,g2,k,hk,hkd⟩ | rfl | ⟨rfl,k,rfl⟩ | rfl | rfl
  . rcases h1 with rfl | rfl
    all_goals
      have HS:=Lib.hid hV.out;simp at HS;clear hV;go_enter Tryz.func95,Tryz.ntmps95;go_wp2;go_ret;exact⟨ret_bool (by rw[HS.out]),HB1.out⟩
  . have hkc:k<c.length:=by omega
    obtain⟨b,off,rfl,hbH,hcc⟩:=SlIn.one R1.out k hkc
    have HS:Hid (R=cmpB c[k] cm n):=by{have h:=hV.out;rw[if_pos rfl,hk,Int.toNat_natCast,List.getD_eq_getElem?_getD,List.getElem?_eq_getElem hkc]at h;exact h}
    have HI:Hid (∀W,Below (w.heap.size+1) (w.alloc (.cells #[.int .i64 3,.string nm,.int .i64 cm,.int .i64 n,.slice ao ks.length cap] 47)) W->Calls Tryz.prog 97 #[.agg #[.slice a2 d.length p2],.string nm] W fun e w'=>e=.returned (.int .i64 k)/\ Below W.heap.size W w'):=by{intro W hW;have hWs:=hW.size;simp only[World.size_alloc]at hWs;have h:=index_any d nm _ W H (by omega) (R2.out.below ((HB1.out.mono hsz).trans (hW.mono (by omega:H<=w.heap.size+1))));rw[hk]at h;exact h}
    have hk0:(0:Int)<=(k:Int):=Int.natCast_nonneg _;have hk1:(k:Int)<(c.length:Int):=by omega
    generalize c[k]=ck at*
    clear hV hk;go_enter Tryz.func95,Tryz.ntmps95;go_wp2
    have HY:Hid ((w.alloc (.cells #[.int .i64 3,.string nm,.int .i64 cm,.int .i64 n,.slice ao ks.length cap] 47)).cell? ⟨cb,0,none⟩=some (.slice (some ⟨b,off,none⟩) c.length p1)/\ (w.alloc (.cells #[.int .i64 3,.string nm,.int .i64 cm,.int .i64 n,.slice ao ks.length cap] 47)).cell? ⟨db,0,none⟩=some (.slice a2 d.length p2)/\ (w.alloc (.cells #[.int .i64 3,.string nm,.int .i64 cm,.int .i64 n,.slice ao ks.length cap] 47)).cell? ⟨w.heap.size,1,none⟩=some (.string nm)/\
       (w.alloc (.cells #[.int .i64 3,.string nm,.int .i64 cm,.int .i64 n,.slice ao ks.length cap] 47)).cell? ⟨w.heap.size,2,none⟩=some (.int .i64 cm)/\ (w.alloc (.cells #[.int .i64 3,.string nm,.int .i64 cm,.int .i64 n,.slice ao ks.length cap] 47)).cell? ⟨w.heap.size,3,none⟩=some (.int .i64 n)/\ (w.alloc (.cells #[.int .i64 3,.string nm,.int .i64 cm,.int .i64 n,.slice ao ks.length cap] 47)).cell? ⟨b,off+k,none⟩=some (.int .i64 ck)):=
      ⟨(HB1.out.cell (by simp;omega)).trans q1,(HB1.out.cell (by simp;omega)).trans q2,Blk.cell (Blk.new w 47 _) 1,Blk.cell (Blk.new w 47 _) 2,Blk.cell (Blk.new w 47 _) 3,(HB1.out.cell (by simp;omega)).trans hcc⟩
    have HW0:Hid (Below (w.heap.size+1) (w.alloc (.cells #[.int .i64 3,.string nm,.int .i64 cm,.int .i64 n,.slice ao ks.length cap] 47)) (w.alloc (.cells #[.int .i64 3,.string nm,.int .i64 cm,.int .i64 n,.slice ao ks.length cap] 47)).drew):=(Below.refl _ _).drew
    go_region_held3 (fun w'=>w'.cell? ⟨cb,0,none⟩=some (.slice (some ⟨b,off,none⟩) c.length p1)/\ w'.cell? ⟨db,0,none⟩=some (.slice a2 d.length p2)/\ w'.cell? ⟨w.heap.size,1,none⟩=some (.string nm)/\
       w'.cell? ⟨w.heap.size,2,none⟩=some (.int .i64 cm)/\ w'.cell? ⟨w.heap.size,3,none⟩=some (.int .i64 n)/\ w'.cell? ⟨b,off+k,none⟩=some (.int .i64 ck)/\ Hid (Below (w.heap.size+1) (w.alloc (.cells #[.int .i64 3,.string nm,.int .i64 cm,.int .i64 n,.slice ao ks.length cap] 47)) w')/\ w.heap.size+1<=w'.heap.size)
      (first
        | (go_split_ands
           have hBW:=keepS (n:=w.heap.size+1) (W1:=w.alloc (.cells #[.int .i64 3,.string nm,.int .i64 cm,.int .i64 n,.slice ao ks.length cap] 47)) (by assumption) (by assumption) hb4
           have hzz:=hBW.out.size
           simp only[World.size_alloc]at hzz
           obtain⟨y1,y2,y3,y4,y5,y6⟩:=HY.out
           exact⟨(hBW.out.cell (by simp;omega)).trans y1,(hBW.out.cell (by simp;omega)).trans y2,(hBW.out.cell (by simp)).trans y3,(hBW.out.cell (by simp)).trans y4,(hBW.out.cell (by simp)).trans y5,(hBW.out.cell (by simp;omega)).trans y6,hBW,hzz⟩)
        | go_keep)
      (first
        | (go_at_call 97;refine(HI.out _ ?_).mono ?_;exact(by assumption:Hid (Below (w.heap.size+1) (w.alloc (.cells #[.int .i64 3,.string nm,.int .i64 cm,.int .i64 n,.slice ao ks.length cap] 47)) _)).out;rintro e w4 ⟨rfl,hb4⟩)
        | (go_at_call 96;refine(compare_any _ _ _ _ g1 g2).mono ?_;rintro e w5 ⟨rfl,rfl⟩))
    go_wp2;go_ret;go_split_ands;exact⟨ret_bool HS.out.symm,HB1.out.trans ((by assumption:Hid (Below (w.heap.size+1) (w.alloc (.cells #[.int .i64 3,.string nm,.int .i64 cm,.int .i64 n,.slice ao ks.length cap] 47)) w4)).out.mono (by omega))⟩
  . have HS:Hid (R=ts.any fun x=>eqB nm x):=by
      have h:=hV.out;rw[if_neg (by decide),if_pos rfl]at h;exact h
    have HC:=Lib.hid (fun W (hW:Below w.heap.size w W)=>containsStr_any ts nm _ W H (R3.out.below (hW.mono hsz)));generalize ts.any (fun x=>eqB nm x)=RR at*
    clear hV;go_enter Tryz.func95,Tryz.ntmps95;have htb:tb<w.heap.size:=by omega
    go_wp2_with (go_at_call 89;refine(HC.out _ HB1.out).mono ?_;rintro e w4 ⟨rfl,rfl⟩);go_ret;exact⟨ret_bool HS.out.symm,HB1.out⟩
  . have HS:Hid (R= !valF d c ts k):=by
      have h:=hV.out;rw[if_neg (by decide),if_neg (by decide),if_pos rfl,valL]at h;exact h
    obtain⟨b,off,rfl,hbH,hL⟩:=H7.out (by simp);obtain⟨ka,kc,y1,y2,y3,y4,y5,gk⟩:=Fo.InL.get [k] off 0 (by simp) (Fo.InL.below (HB1.out.mono hsz) hbH _ _ hL);simp only[Nat.zero_mul,Nat.add_zero,List.getElem_cons_zero]at y1 y2 y3 y4 y5 gk;have hks:k.size<=N:=by rw[Fo.size,Fo.sizeL,Fo.sizeL]at hN;omega
    have HI:Hid (∀W,Below (w.heap.size+1) (w.alloc (.cells #[.int .i64 5,.string nm,.int .i64 cm,.int .i64 n,.slice (some ⟨b,off,none⟩) 1 cap] 47)) W->Calls Tryz.prog 95 #[.agg #[.int .i64 k.op,.string k.name,.int .i64 k.cmp,.int .i64 k.n,.slice ka k.kids.length kc],.pointer (some ⟨cb,0,none⟩),.pointer (some ⟨db,0,none⟩),.pointer (some ⟨tb,0,none⟩),.pointer (some ⟨hb,0,none⟩)] W fun e w'=>e=.returned (.bool (valF d c ts k))/\ Below W.heap.size W w'):=
      fun W hW=>IH.out k _ W hks (HG.out.kid (by simp)) (HE1.out.below (hW.mono (by omega))) (Fo.In.below (hW.mono (by omega)) _ _ gk)
    generalize valF d c ts k=vk at*
    have HY:Hid ((w.alloc (.cells #[.int .i64 5,.string nm,.int .i64 cm,.int .i64 n,.slice (some ⟨b,off,none⟩) 1 cap] 47)).cell? ⟨hb,0,none⟩=some (.func (.func 95) #[] #[.pointer (some ⟨cb,0,none⟩),.pointer (some ⟨db,0,none⟩),.pointer (some ⟨tb,0,none⟩),.pointer (some ⟨hb,0,none⟩)])/\
       (w.alloc (.cells #[.int .i64 5,.string nm,.int .i64 cm,.int .i64 n,.slice (some ⟨b,off,none⟩) 1 cap] 47)).cell? ⟨w.heap.size,4,none⟩=some (.slice (some ⟨b,off,none⟩) 1 cap)/\ (w.alloc (.cells #[.int .i64 5,.string nm,.int .i64 cm,.int .i64 n,.slice (some ⟨b,off,none⟩) 1 cap] 47)).cell? ⟨b,off,none⟩=some (.int .i64 k.op)/\ (w.alloc (.cells #[.int .i64 5,.string nm,.int .i64 cm,.int .i64 n,.slice (some ⟨b,off,none⟩) 1 cap] 47)).cell? ⟨b,off+1,none⟩=some (.string k.name)/\
       (w.alloc (.cells #[.int .i64 5,.string nm,.int .i64 cm,.int .i64 n,.slice (some ⟨b,off,none⟩) 1 cap] 47)).cell? ⟨b,off+2,none⟩=some (.int .i64 k.cmp)/\ (w.alloc (.cells #[.int .i64 5,.string nm,.int .i64 cm,.int .i64 n,.slice (some ⟨b,off,none⟩) 1 cap] 47)).cell? ⟨b,off+3,none⟩=some (.int .i64 k.n)/\ (w.alloc (.cells #[.int .i64 5,.string nm,.int .i64 cm,.int .i64 n,.slice (some ⟨b,off,none⟩) 1 cap] 47)).cell? ⟨b,off+4,none⟩=some (.slice ka k.kids.length kc)):=
      ⟨(HB1.out.cell (by simp;omega)).trans q4,Blk.cell (Blk.new w 47 _) 4,y1,y2,y3,y4,y5⟩
    have HW0:Hid (Below (w.heap.size+1) (w.alloc (.cells #[.int .i64 5,.string nm,.int .i64 cm,.int .i64 n,.slice (some ⟨b,off,none⟩) 1 cap] 47)) (w.alloc (.cells #[.int .i64 5,.string nm,.int .i64 cm,.int .i64 n,.slice (some ⟨b,off,none⟩) 1 cap] 47)).drew):=(Below.refl _ _).drew;clear hV hL gk;go_enter Tryz.func95,Tryz.ntmps95;go_wp2
    go_region_held3 (fun w'=>w'.cell? ⟨hb,0,none⟩=some (.func (.func 95) #[] #[.pointer (some ⟨cb,0,none⟩),.pointer (some ⟨db,0,none⟩),.pointer (some ⟨tb,0,none⟩),.pointer (some ⟨hb,0,none⟩)])/\
       w'.cell? ⟨w.heap.size,4,none⟩=some (.slice (some ⟨b,off,none⟩) 1 cap)/\ w'.cell? ⟨b,off,none⟩=some (.int .i64 k.op)/\ w'.cell? ⟨b,off+1,none⟩=some (.string k.name)/\
       w'.cell? ⟨b,off+2,none⟩=some (.int .i64 k.cmp)/\ w'.cell? ⟨b,off+3,none⟩=some (.int .i64 k.n)/\ w'.cell? ⟨b,off+4,none⟩=some (.slice ka k.kids.length kc)/\
       Hid (Below (w.heap.size+1) (w.alloc (.cells #[.int .i64 5,.string nm,.int .i64 cm,.int .i64 n,.slice (some ⟨b,off,none⟩) 1 cap] 47)) w')/\ w.heap.size+1<=w'.heap.size)
      (first
        | (go_split_ands
           have hBW:=keepS (n:=w.heap.size+1) (W1:=w.alloc (.cells #[.int .i64 5,.string nm,.int .i64 cm,.int .i64 n,.slice (some ⟨b,off,none⟩) 1 cap] 47)) (by assumption) (by assumption) hb4
           have hzz:=hBW.out.size
           simp only[World.size_alloc]at hzz
           obtain⟨y1,y2,y3,y4,y5,y6,y7⟩:=HY.out
           exact⟨(hBW.out.cell (by simp;omega)).trans y1,(hBW.out.cell (by simp)).trans y2,(hBW.out.cell (by simp;omega)).trans y3,(hBW.out.cell (by simp;omega)).trans y4,(hBW.out.cell (by simp;omega)).trans y5,(hBW.out.cell (by simp;omega)).trans y6,(hBW.out.cell (by simp;omega)).trans y7,hBW,hzz⟩)
        | exact⟨HY.out.1,HY.out.2.1,HY.out.2.2.1,HY.out.2.2.2.1,HY.out.2.2.2.2.1,HY.out.2.2.2.2.2.1,HY.out.2.2.2.2.2.2,HW0,by simp⟩
        | go_keep)
      ((go_at_call 95;refine(HI.out _ ?_).mono ?_;exact(by assumption:Hid (Below (w.heap.size+1) (w.alloc (.cells #[.int .i64 5,.string nm,.int .i64 cm,.int .i64 n,.slice (some ⟨b,off,none⟩) 1 cap] 47)) _)).out;rintro e w4 ⟨rfl,hb4⟩))
    go_wp2;go_ret;go_split_ands;exact⟨ret_bool HS.out.symm,HB1.out.trans ((by assumption:Hid (Below (w.heap.size+1) (w.alloc (.cells #[.int .i64 5,.string nm,.int .i64 cm,.int .i64 n,.slice (some ⟨b,off,none⟩) 1 cap] 47)) w4)).out.mono (by omega))⟩
  . have HS:Hid (R= !(ks.any fun k=> !valF d c ts k)):=by
      have h:=hV.out;rw[if_neg (by decide),if_neg (by decide),if_neg (by decide),if_pos rfl,valL_eq,List.all_map]at h
      show _=_
      rw[h,List.all_eq_not_any_not];rfl
    have HP:FnOn 99 #[.pointer (some ⟨hb,0,none⟩)] (fun W x v=>Fo.In W H x v) (fun k=> !valF d c ts k) ks (fun W=>Below w.heap.size w W):=by{intro W x v hx hW hxv;have hks:x.size<=N:=by{obtain⟨i,hi,rfl⟩:=List.getElem_of_mem hx;have:=Fo.size_get ks i hi;rw[Fo.size]at hN;omega};have hWs:=hW.size;have hsh:=hxv.shape;obtain⟨xa,xc,rfl⟩:=hsh;have hbb:Below W.heap.size W (W.alloc (.cells #[.int .i64 x.op,.string x.name,.int .i64 x.cmp,.int .i64 x.n,.slice xa x.kids.length xc] 47)):=(Below.refl _ _).alloc (Nat.le_refl _) _;have hI:=IH.out x _ (W.alloc (.cells #[.int .i64 x.op,.string x.name,.int .i64 x.cmp,.int .i64 x.n,.slice xa x.kids.length xc] 47)) hks (HG.out.kid hx) (HE0.out.below ((hW.mono hsz).trans (hbb.mono (by omega)))) (Fo.In.below (hbb.mono (by omega)) _ _ hxv);have y4:=(hW.cell (p:=⟨hb,0,none⟩) (by simp;omega)).trans q4;(have hhb:hb<W.heap.size:=by omega);have HI:=Lib.hid hI;have HBB:=Lib.hid hbb;clear hI hbb;show Calls _ _ #[_,_] _ _;go_enter Tryz.func99,Tryz.ntmps99;go_wp2_with (go_at_call 95;refine HI.out.mono ?_;rintro e w4 ⟨rfl,hb4⟩);go_ret;exact⟨rfl,hW.trans ((HBB.out.trans (hb4.mono HBB.out.size)).mono hWs)⟩}
    have HC:=Lib.hid (contFuncFo_any ks 99 #[.pointer (some ⟨hb,0,none⟩)] _ (fun W=>Below w.heap.size w W) H ao cap (w.alloc (.cells #[.int .i64 6,.string nm,.int .i64 cm,.int .i64 n,.slice ao ks.length cap] 47)) (enters_of Tryz.func99 (by kernel_rfl) rfl) h6 h5
      (fun W hW hne=>by obtain⟨b,off,ha,hbH,hL⟩:=H7.out hne;exact⟨b,off,ha,Fo.InL.below (hW.mono hsz) hbH _ _ hL⟩) HP HB1.out)
    generalize(ks.any fun k=> !valF d c ts k)=RR at*
    have hhb:hb<w.heap.size:=by omega
    clear hV HP;go_enter Tryz.func95,Tryz.ntmps95;go_wp2_with (go_at_call 98;refine HC.out.mono ?_;rintro e w4 ⟨rfl,hb4⟩);go_ret;exact⟨ret_bool HS.out.symm,hb4⟩
  . have HS:Hid (R=ks.any fun k=>valF d c ts k):=by
      have h:=hV.out;rw[if_neg (by decide),if_neg (by decide),if_neg (by decide),if_neg (by decide),if_pos rfl,valL_eq,List.any_map]at h;exact h
    have HP:FnOn 95 #[.pointer (some ⟨cb,0,none⟩),.pointer (some ⟨db,0,none⟩),.pointer (some ⟨tb,0,none⟩),.pointer (some ⟨hb,0,none⟩)] (fun W x v=>Fo.In W H x v) (fun k=>valF d c ts k) ks (fun W=>Below w.heap.size w W):=by{intro W x v hx hW hxv;have hks:x.size<=N:=by{obtain⟨i,hi,rfl⟩:=List.getElem_of_mem hx;have:=Fo.size_get ks i hi;rw[Fo.size]at hN;omega};exact(IH.out x v W hks (HG.out.kid hx) (HE0.out.below (hW.mono hsz)) hxv).mono fun e w' ⟨he,hb⟩=>⟨he,hW.trans (hb.mono hW.size)⟩}
    have HC:=Lib.hid (contFuncFo_any ks 95 #[.pointer (some ⟨cb,0,none⟩),.pointer (some ⟨db,0,none⟩),.pointer (some ⟨tb,0,none⟩),.pointer (some ⟨hb,0,none⟩)] _ (fun W=>Below w.heap.size w W) H ao cap (w.alloc (.cells #[.int .i64 7,.string nm,.int .i64 cm,.int .i64 n,.slice ao ks.length cap] 47)) (enters_of Tryz.func95 (by kernel_rfl) rfl) h6 h5
      (fun W hW hne=>by obtain⟨b,off,ha,hbH,hL⟩:=H7.out hne;exact⟨b,off,ha,Fo.InL.below (hW.mono hsz) hbH _ _ hL⟩) HP HB1.out)
    generalize(ks.any fun k=>valF d c ts k)=RR at*
    have hhb:hb<w.heap.size:=by omega
    clear hV HP;go_enter Tryz.func95,Tryz.ntmps95;go_wp2_with (go_at_call 98;refine HC.out.mono ?_;rintro e w4 ⟨rfl,hb4⟩);go_ret;exact⟨ret_bool HS.out.symm,hb4⟩
theorem checkP_any (f:Fo)(d:List Fa)(ts:List ByteArray)(v u t:Value)(w:World)(B:Nat)(hs:f.size<=1000000)(hB:B<=w.heap.size)(hf:f.In w B v)(hd:DomIn w B d u)(ht:StrsIn w B ts t):
  Calls Tryz.prog 59 #[v,u,t] w fun e w'=>e=.returned (.int .i64 (checkF f d (fun s=>ts.any fun x=>eqB s x)))/\ Below w.heap.size w w':=by
 obtain⟨ao,cap,rfl⟩:=hf.shape;have HD:=Lib.hid hd;obtain⟨du,rfl,hdu⟩:=hd;obtain⟨ad,cd,rfl,d1,d2,_⟩:=SlIn.shape hdu;have HT:=Lib.hid ht;obtain⟨at_,ct,rfl,t1,t2,_⟩:=SlIn.shape ht;have HF:=Lib.hid hf;have hB1:Below w.heap.size w (((w.alloc (.cells #[.int .i64 f.op,.string f.name,.int .i64 f.cmp,.int .i64 f.n,.slice ao f.kids.length cap] 47)).alloc (.cells #[.slice ad d.length cd] 25)).alloc (.cells #[.slice at_ ts.length ct] 38)):=(((Below.refl _ _).alloc (Nat.le_refl _) _).alloc (by simp) _).alloc (by simp;omega) _
 have hc3:(((w.alloc (.cells #[.int .i64 f.op,.string f.name,.int .i64 f.cmp,.int .i64 f.n,.slice ao f.kids.length cap] 47)).alloc (.cells #[.slice ad d.length cd] 25)).alloc (.cells #[.slice at_ ts.length ct] 38)).cell? ⟨w.heap.size+1+1,0,none⟩=some (.slice at_ ts.length ct):=by{have h:=Blk.cell (Blk.new ((w.alloc (.cells #[.int .i64 f.op,.string f.name,.int .i64 f.cmp,.int .i64 f.n,.slice ao f.kids.length cap] 47)).alloc (.cells #[.slice ad d.length cd] 25)) 38 #[.slice at_ ts.length ct]) 0;simpa using h}
 have hz3:w.heap.size+1+1<(((w.alloc (.cells #[.int .i64 f.op,.string f.name,.int .i64 f.cmp,.int .i64 f.n,.slice ao f.kids.length cap] 47)).alloc (.cells #[.slice ad d.length cd] 25)).alloc (.cells #[.slice at_ ts.length ct] 38)).heap.size:=by simp
 have hT:Tells 88 #[.pointer (some ⟨w.heap.size+1+1,0,none⟩)] (fun s=>ts.any fun x=>eqB s x) (((w.alloc (.cells #[.int .i64 f.op,.string f.name,.int .i64 f.cmp,.int .i64 f.n,.slice ao f.kids.length cap] 47)).alloc (.cells #[.slice ad d.length cd] 25)).alloc (.cells #[.slice at_ ts.length ct] 38)):=by{intro W s hW hsz;have h1:=(hW.cell (p:=⟨w.heap.size+1+1,0,none⟩) hz3).trans hc3;have HC:=Lib.hid (containsStr_any ts s _ W B (HT.out.below ((hB1.trans (hW.mono (by simp;omega))).mono hB)));clear hB1 hc3;show Calls _ _ #[_,_] _ _;go_enter Tryz.func88,Tryz.ntmps88;go_wp2_with (go_at_call 89;refine HC.out.mono ?_;rintro e w4 ⟨rfl,rfl⟩);go_ret;exact⟨rfl,Below.refl _ _⟩}
 have HC:=Lib.hid (check_any f d 88 #[.pointer (some ⟨w.heap.size+1+1,0,none⟩)] (fun s=>ts.any fun x=>eqB s x) _ _ (((w.alloc (.cells #[.int .i64 f.op,.string f.name,.int .i64 f.cmp,.int .i64 f.n,.slice ao f.kids.length cap] 47)).alloc (.cells #[.slice ad d.length cd] 25)).alloc (.cells #[.slice at_ ts.length ct] 38)) B hs (by simp;omega) (Fo.In.below (hB1.mono hB) _ _ HF.out) (HD.out.below (hB1.mono hB)) (enters_of Tryz.func88 (by kernel_rfl) rfl) hT);have HB1:=Lib.hid hB1;generalize checkF f d (fun s=>ts.any fun x=>eqB s x)=R at*
 clear hT hc3 hB1 hf hdu ht;go_enter Tryz.func59,Tryz.ntmps59;go_wp2_with (go_at_call 87;refine HC.out.mono ?_;rintro e w4 ⟨rfl,hb4⟩);go_ret;exact⟨rfl,HB1.out.trans (hb4.mono (by simp;omega))⟩
theorem DomIn.mono {w:World}{B B':Nat}(hb:B<=B'){d:List Fa}{v:Value}(h:DomIn w B d v):DomIn w B' d v:=by
 obtain⟨u,rfl,h1⟩:=h;exact⟨u,rfl,h1.mono FaR.mono hb⟩
theorem envH {d:List Fa}{c:List Int}{ts:List ByteArray}{w w2 w3:World}{B:Nat}{ad ac at_:Option Addr}{cd cc ct:Nat}(hz:w.heap.size+1+1+1+1<=w2.heap.size)(_h:Below w.heap.size w w3)(hb:Below w2.heap.size w2 w3)
  (r1:Blk w2 (w.heap.size+1) 25 #[.slice ad d.length cd]) (r2:Blk w2 (w.heap.size+1+1) 27 #[.slice ac c.length cc]) (r3:Blk w2 (w.heap.size+1+1+1) 38 #[.slice at_ ts.length ct])
  (hd:DomIn w3 B d (.agg #[.slice ad d.length cd])) (hc:IntsIn w3 B c (.slice ac c.length cc)) (ht:StrsIn w3 B ts (.slice at_ ts.length ct)) (hB:B<=w.heap.size):
  EnvH d c ts (w3.heap.size+1) (w.heap.size+1+1) (w.heap.size+1) (w.heap.size+1+1+1) w3.heap.size
   (w3.alloc (.cells #[.func (.func 95) #[] #[.pointer (some ⟨w.heap.size+1+1,0,none⟩),.pointer (some ⟨w.heap.size+1,0,none⟩),.pointer (some ⟨w.heap.size+1+1+1,0,none⟩),.pointer (some ⟨w3.heap.size,0,none⟩)]] 113)):=by
 have hz3:=hb.size;have hb4:Below w3.heap.size w3 (w3.alloc (.cells #[.func (.func 95) #[] #[.pointer (some ⟨w.heap.size+1+1,0,none⟩),.pointer (some ⟨w.heap.size+1,0,none⟩),.pointer (some ⟨w.heap.size+1+1+1,0,none⟩),.pointer (some ⟨w3.heap.size,0,none⟩)]] 113)):=(Below.refl _ _).alloc (Nat.le_refl _) _;have s1:=Blk.below (Blk.below r1 hb) hb4;have s2:=Blk.below (Blk.below r2 hb) hb4;have s3:=Blk.below (Blk.below r3 hb) hb4
 refine⟨by simp,⟨by omega,ac,cc,s2.cell 0,SlIn.mono (OneR.mono _) (by omega) (hc.below (hb4.mono (by omega)))⟩,⟨by omega,ad,cd,s1.cell 0,DomIn.mono (by omega) (hd.below (hb4.mono (by omega)))⟩,
  ⟨by omega,at_,ct,s3.cell 0,SlIn.mono (OneR.mono _) (by omega) (ht.below (hb4.mono (by omega)))⟩,⟨by omega,Blk.cell (Blk.new w3 113 _) 0⟩⟩
theorem tells_all (w:World):Tells 94 #[] (fun _=>true) w:=by
 intro W s _ _
 show Calls _ _ #[_] _ _
 go_enter Tryz.func94,Tryz.ntmps94;go_wp2;go_ret;exact⟨rfl,Below.refl _ _⟩
section
attribute [local go_sem] run_store_fn
theorem holdsP_any (f:Fo)(d:List Fa)(c:List Int)(ts:List ByteArray)(v u cv t:Value)(w:World)(B:Nat)(hs:f.size<=1000000)(hB:B<=w.heap.size)(hf:f.In w B v)(hd:DomIn w B d u)(hc:IntsIn w B c cv)(ht:StrsIn w B ts t):
  Calls Tryz.prog 65 #[v,u,cv,t] w fun e w'=>e=.returned (.bool (holdsF f d c ts))/\ Below w.heap.size w w':=by
 obtain⟨ao,cap,rfl⟩:=hf.shape;have HD:=Lib.hid hd;obtain⟨du,rfl,hdu⟩:=hd;obtain⟨ad,cd,rfl,d1,d2,_⟩:=SlIn.shape hdu;have HT:=Lib.hid ht;obtain⟨at_,ct,rfl,t1,t2,_⟩:=SlIn.shape ht;have HCC:=Lib.hid hc;obtain⟨ac,cc,rfl,c1,c2,_⟩:=SlIn.shape hc;have HF:=Lib.hid hf;have hB1:Below w.heap.size w ((((w.alloc (.cells #[.int .i64 f.op,.string f.name,.int .i64 f.cmp,.int .i64 f.n,.slice ao f.kids.length cap] 47)).alloc (.cells #[.slice ad d.length cd] 25)).alloc (.cells #[.slice ac c.length cc] 27)).alloc (.cells #[.slice at_ ts.length ct] 38)):=((((Below.refl _ _).alloc (Nat.le_refl _) _).alloc (by simp) _).alloc (by simp;omega) _).alloc (by simp;omega) _;have k0:=Blk.new w 47 #[.int .i64 f.op,.string f.name,.int .i64 f.cmp,.int .i64 f.n,.slice ao f.kids.length cap];have k1:=Blk.new (w.alloc (.cells #[.int .i64 f.op,.string f.name,.int .i64 f.cmp,.int .i64 f.n,.slice ao f.kids.length cap] 47)) 25 #[.slice ad d.length cd];have k2:=Blk.new ((w.alloc (.cells #[.int .i64 f.op,.string f.name,.int .i64 f.cmp,.int .i64 f.n,.slice ao f.kids.length cap] 47)).alloc (.cells #[.slice ad d.length cd] 25)) 27 #[.slice ac c.length cc];have k3:=Blk.new (((w.alloc (.cells #[.int .i64 f.op,.string f.name,.int .i64 f.cmp,.int .i64 f.n,.slice ao f.kids.length cap] 47)).alloc (.cells #[.slice ad d.length cd] 25)).alloc (.cells #[.slice ac c.length cc] 27)) 38 #[.slice at_ ts.length ct];simp only[World.size_alloc]at k0 k1 k2 k3;have K0:Hid (Blk ((((w.alloc (.cells #[.int .i64 f.op,.string f.name,.int .i64 f.cmp,.int .i64 f.n,.slice ao f.kids.length cap] 47)).alloc (.cells #[.slice ad d.length cd] 25)).alloc (.cells #[.slice ac c.length cc] 27)).alloc (.cells #[.slice at_ ts.length ct] 38)) w.heap.size 47 #[.int .i64 f.op,.string f.name,.int .i64 f.cmp,.int .i64 f.n,.slice ao f.kids.length cap]):=Blk.alloc (Blk.alloc (Blk.alloc k0 _) _) _;have K1:Hid (Blk ((((w.alloc (.cells #[.int .i64 f.op,.string f.name,.int .i64 f.cmp,.int .i64 f.n,.slice ao f.kids.length cap] 47)).alloc (.cells #[.slice ad d.length cd] 25)).alloc (.cells #[.slice ac c.length cc] 27)).alloc (.cells #[.slice at_ ts.length ct] 38)) (w.heap.size+1) 25 #[.slice ad d.length cd]):=Blk.alloc (Blk.alloc k1 _) _;have K2:Hid (Blk ((((w.alloc (.cells #[.int .i64 f.op,.string f.name,.int .i64 f.cmp,.int .i64 f.n,.slice ao f.kids.length cap] 47)).alloc (.cells #[.slice ad d.length cd] 25)).alloc (.cells #[.slice ac c.length cc] 27)).alloc (.cells #[.slice at_ ts.length ct] 38)) (w.heap.size+1+1) 27 #[.slice ac c.length cc]):=Blk.alloc k2 _;have K3:=Lib.hid k3;have HC:=Lib.hid (check_any f d 94 #[] (fun _=>true) _ _ ((((w.alloc (.cells #[.int .i64 f.op,.string f.name,.int .i64 f.cmp,.int .i64 f.n,.slice ao f.kids.length cap] 47)).alloc (.cells #[.slice ad d.length cd] 25)).alloc (.cells #[.slice ac c.length cc] 27)).alloc (.cells #[.slice at_ ts.length ct] 38)) B hs (by simp;omega) (Fo.In.below (hB1.mono hB) _ _ HF.out) (HD.out.below (hB1.mono hB)) (enters_of Tryz.func94 (by kernel_rfl) rfl) (tells_all _));have HB1:=Lib.hid hB1;have HR:Hid (holdsF f d c ts=(decide (checkF f d (fun _=>true)=0)&& fitsD d c&& valF d c ts f)):=rfl;generalize holdsF f d c ts=R at*
 have hgood:=good_of_check (d:=d) (f:=f);have HGD:=Lib.hid hgood;generalize checkF f d (fun _=>true)=ck at*
 clear hB1 hf hdu ht hc k0 k1 k2 k3 hgood;by_cases h1:ck=0
 ·subst h1
  cases h2:fitsD d c with
  | false=>
   have HS:=Lib.hid (show R=false by rw[HR.out,h2];simp);go_enter Tryz.func65,Tryz.ntmps65
   go_wp2_with (first
    | (go_at_call 87;refine HC.out.mono ?_;rintro e w2 ⟨rfl,hb2⟩;have r1:=Blk.below K1.out hb2;have r2:=Blk.below K2.out hb2;have r0:=Blk.below K0.out hb2;have y1:w2.cell? ⟨w.heap.size+1,0,none⟩=some (.slice ad d.length cd):=r1.cell 0;have y2:w2.cell? ⟨w.heap.size+1+1,0,none⟩=some (.slice ac c.length cc):=r2.cell 0;have HW2:=Lib.hid (HB1.out.trans (hb2.mono (by simp;omega)));have hz2:=hb2.size;simp only[World.size_alloc]at hz2;have R0:=Lib.hid r0;have R1:=Lib.hid r1;have R2:=Lib.hid r2;have R3:=Lib.hid (Blk.below K3.out hb2);clear r0 r1 r2 hb2)
    | (go_at_call 17;refine(fits_any d c _ _ w2 B (by omega) (HD.out.below (HW2.out.mono hB)) (HCC.out.below (HW2.out.mono hB))).mono ?_;rw[h2];rintro e w3 ⟨rfl,hb3⟩;have HW3:=Lib.hid (HW2.out.trans (hb3.mono HW2.out.size));have HB3:=Lib.hid hb3;clear hb3))
   go_ret;exact⟨ret_bool HS.out.symm,HW3.out⟩
  | true=>
   have HS:=Lib.hid (show R=valF d c ts f by rw[HR.out,h2];simp)
   have hlen:c.length=d.length:=by{unfold fitsD at h2;simp only[Bool.and_eq_true,decide_eq_true_iff]at h2;exact h2.1.2}
   have HL:=Lib.hid hlen;clear hlen;go_enter Tryz.func65,Tryz.ntmps65
   go_wp2_with (first
    | (go_at_call 87;refine HC.out.mono ?_;rintro e w2 ⟨rfl,hb2⟩;have r1:=Blk.below K1.out hb2;have r2:=Blk.below K2.out hb2;have r0:=Blk.below K0.out hb2;have y1:w2.cell? ⟨w.heap.size+1,0,none⟩=some (.slice ad d.length cd):=r1.cell 0;have y2:w2.cell? ⟨w.heap.size+1+1,0,none⟩=some (.slice ac c.length cc):=r2.cell 0;have HW2:=Lib.hid (HB1.out.trans (hb2.mono (by simp;omega)));have hz2:=hb2.size;simp only[World.size_alloc]at hz2;have R0:=Lib.hid r0;have R1:=Lib.hid r1;have R2:=Lib.hid r2;have R3:=Lib.hid (Blk.below K3.out hb2);clear r0 r1 r2 hb2)
    | (go_at_call 17;refine(fits_any d c _ _ w2 B (by omega) (HD.out.below (HW2.out.mono hB)) (HCC.out.below (HW2.out.mono hB))).mono ?_;rw[h2];rintro e w3 ⟨rfl,hb3⟩;have x0:w3.cell? ⟨w.heap.size,0,none⟩=some (.int .i64 f.op):=(Blk.below R0.out hb3).cell 0;have x1:w3.cell? ⟨w.heap.size,1,none⟩=some (.string f.name):=(Blk.below R0.out hb3).cell 1;have x2:w3.cell? ⟨w.heap.size,2,none⟩=some (.int .i64 f.cmp):=(Blk.below R0.out hb3).cell 2;have x3:w3.cell? ⟨w.heap.size,3,none⟩=some (.int .i64 f.n):=(Blk.below R0.out hb3).cell 3;have x4:w3.cell? ⟨w.heap.size,4,none⟩=some (.slice ao f.kids.length cap):=(Blk.below R0.out hb3).cell 4;have hz3:=hb3.size;have hlt3:w.heap.size<w3.heap.size:=(by omega);have HW3:=Lib.hid (HW2.out.trans (hb3.mono HW2.out.size));have HB3:=Lib.hid hb3;clear hb3)
    | (go_at_call 95;refine(holdsC_any d c ts HL.out (w3.heap.size+1) (w.heap.size+1+1) (w.heap.size+1) (w.heap.size+1+1+1) w3.heap.size f.size f _ _ (Nat.le_refl _) (HGD.out trivial) (envH (by omega) HW3.out HB3.out R1.out R2.out R3.out (HD.out.below (HW3.out.mono hB)) (HCC.out.below (HW3.out.mono hB)) (HT.out.below (HW3.out.mono hB)) hB) (Fo.In.mono (by omega:B<=w3.heap.size+1) _ _ (Fo.In.below ((HW3.out.mono hB).trans ((Below.refl _ _).alloc (by omega) _)) _ _ HF.out))).mono ?_;rintro e w5 ⟨rfl,hb5⟩))
   go_ret;exact⟨ret_bool HS.out.symm,(HW3.out.trans ((Below.refl _ _).alloc (by omega) _)).trans (hb5.mono (by simp;omega))⟩
 {have HS:=Lib.hid (show R=false by rw[HR.out];simp[h1]);(have e1:((ck:Int) !=0)=true:=by simpa using h1);clear h1;go_enter Tryz.func65,Tryz.ntmps65;go_wp2_with (go_at_call 87;refine HC.out.mono ?_;rintro e w2 ⟨rfl,hb2⟩;have r1:=Blk.below K1.out hb2;have r2:=Blk.below K2.out hb2;have r0:=Blk.below K0.out hb2;have y1:w2.cell? ⟨w.heap.size+1,0,none⟩=some (.slice ad d.length cd):=r1.cell 0;have y2:w2.cell? ⟨w.heap.size+1+1,0,none⟩=some (.slice ac c.length cc):=r2.cell 0;have HW2:=Lib.hid (HB1.out.trans (hb2.mono (by simp;omega)));have hz2:=hb2.size;simp only[World.size_alloc]at hz2;have R0:=Lib.hid r0;have R1:=Lib.hid r1;have R2:=Lib.hid r2;have R3:=Lib.hid (Blk.below K3.out hb2);clear r0 r1 r2 hb2);go_ret;exact⟨ret_bool HS.out.symm,HW2.out⟩}
end
end Go.Proofs.YtihniipjfdenbaaGreatDoor
