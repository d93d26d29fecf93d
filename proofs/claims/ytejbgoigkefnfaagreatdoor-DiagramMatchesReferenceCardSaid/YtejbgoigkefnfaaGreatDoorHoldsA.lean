/- The walks of formula.Check and formula.Holds. A bound on the number of nodes. -/
import Derived.Test.YtejbgoigkefnfaaGreatDoorAl
import Derived.Test.YtejbgoigkefnfaaGreatDoorCheckA
import Derived.Deep.RegionHeld3
set_option maxRecDepth 100000
set_option maxHeartbeats 4000000
namespace Go.Proofs.YtejbgoigkefnfaaGreatDoor
open Go.RowKit
theorem tw {α:Type}(p:α->Bool):∀(l:List α) (k:Nat),decide ((0:Int)<=idxFrom p l (k:Nat))=l.any p
 | [],k=>by simp[idxFrom]
 | x::l,k=>by{rw[idxFrom,Tg];cases h:p x with| true=>simp| false=>{rw[Aa la,Sh, <-tw p l (k+1)];simp}}
theorem nD (l:List ByteArray)(s:ByteArray)(v:Value)(w:World)(B:Nat)(hl:jr w B l v):
  Calls Tryz.prog 102 #[v,.string s] w fun e w'=>e=.returned (.int .i64 (idxFrom (fun x=>Ni s x) l 0))/\ w=w':=by
 obtain⟨ao,cap,rfl,h1,h2,_⟩:=Xa.shape hl;unfold maxLen at h2;have HL:=da hl;have HR:Hid (idxFrom (fun x=>Ni s x) l 0=idxFrom (fun x=>Ni s x) (l.drop 0) ((0:Nat):Int)):=rfl;generalize idxFrom (fun x=>Ni s x) l 0=R at*
 clear hl;go_enter Tryz.func102,Tryz.ntmps102;go_wp2
 go_loop [8] (fun i=>∃k:Nat,k<=l.length/\ i=.int .i64 k/\ Hid (R=idxFrom (fun x=>Ni s x) (l.drop k) (k:Nat))) (fun i=>l.length-(intOf i).toNat)
 case atStart=>exact⟨0,ia,rfl,HR⟩
 case round=>
  obtain⟨k,hk,rfl,hin⟩:=hrel;by_cases hlt:k<l.length
  {obtain⟨b,off,rfl,hb,hc⟩:=Xa.one HL.out k hlt;have hs:=hin.out;rw[Kk _ l k hlt]at hs;generalize l[k]=y at*;cases he:(s.toList==y.toList)with| true=>{have HS:=da (show(k:Int)=R by rw[hs];unfold Ni;rw[he];rfl);clear hs hin HR;go_wp2;go_ret;exact⟨ke HS.out,rfl⟩}| false=>{have HS:=da (show R=idxFrom (fun x=>Ni s x) (l.drop (k+1)) ((k+1:Nat):Int) by rw[hs];unfold Ni;rw[he];rfl);clear hs hin HR;go_wp2;go_round;(case rel=>exact⟨k+1,ia,by go_num,HS⟩);case measure=>simp[intOf];omega}}
  ·have HS:=da (show(-1:Int)=R by
    have h0:=hin.out
    rw[Ta ia]at h0
    exact h0.symm)
   clear hin HR;go_wp2;go_ret;exact⟨ke HS.out,rfl⟩
theorem Sw (l:List ByteArray)(s:ByteArray)(v:Value)(w:World)(B:Nat)(hl:jr w B l v):
  Calls Tryz.prog 51 #[v,.string s] w fun e w'=>e=.returned (.bool (l.any fun x=>Ni s x))/\ w=w':=by
 have C:=da (nD l s v w B hl);have HA:=da (tw (fun x=>Ni s x) l 0);obtain⟨ao,cap,rfl,h1,h2,_⟩:=Xa.shape hl;clear hl
 change Hid (decide ((0:Int)<=idxFrom (fun x=>Ni s x) l 0)=_)at HA
 generalize idxFrom (fun x=>Ni s x) l 0=R at*
 go_enter Tryz.func51,Tryz.ntmps51;go_wp2_with (go_at_call 102;refine C.out.mono ?_;rintro e w' ⟨rfl,rfl⟩);go_ret;exact⟨Oa HA.out,rfl⟩
mutual
def um (d:List Fa)(c:List Int)(ts:List ByteArray):Fo->Bool
 | .mk op nm cm n ks=>
  if op=3 then Il (c.getD (tg d nm).toNat 0) cm n
  else if op=4 then ts.any fun x=>Ni nm x
  else if op=5 then !((py d c ts ks).headD false)
  else if op=6 then(py d c ts ks).all id
  else if op=7 then(py d c ts ks).any id
  else op==1
def py (d:List Fa)(c:List Int)(ts:List ByteArray):List Fo->List Bool
 | []=>[]
 | k::ks=>um d c ts k::py d c ts ks
end
theorem Kr (d:List Fa)(c:List Int)(ts:List ByteArray):∀ks,py d c ts ks=ks.map (um d c ts)
 | []=>rfl
 | k::ks=>by rw[py,Va,Kr d c ts ks]
def Good (d:List Fa)(f:Fo):Prop:=∀x∈qf f,Le d (fun _=>true) x=0
theorem Nq (f:Fo):f∈qf f:=by obtain⟨op,nm,c,n,ks⟩:=f;simp[qf]
theorem bw (ks:List Fo)(k x:Fo)(hk:k∈ks)(hx:x∈qf k):x∈Fg ks:=by
 induction ks with| nil=>cases hk| cons a ks ih=>{rw[Fg,De];(rcases List.mem_cons.1 hk with rfl | hk);{exact .inl hx};{exact .inr (ih hk)}}
theorem Good.O5 {d:List Fa}{op c n:Int}{nm:ByteArray}{ks:List Fo}(h:Good d (.mk op nm c n ks)){k:Fo}(hk:k∈ks):Good d k:=
 fun x hx=>h x (by rw[qf];exact La _ (bw ks k x hk hx))
theorem rA {d:List Fa}{f:Fo}(h:Qe f d (fun _=>true)=0):Good d f:=by
 unfold Qe at h
 split at h
 {cases h}
 ·have:∀l,gd d (fun _=>true) l=0->∀x∈l,Le d (fun _=>true) x=0:=by
   intro l
   induction l with| nil=>intro _ x hx;cases hx| cons a l ih=>{intro h x hx;rw[gd]at h;by_cases ha:Le d (fun _=>true) a=0;{rw[if_pos ha]at h;(rcases List.mem_cons.1 hx with rfl | hx);{exact ha};{exact ih h x hx}};{rw[Aa ha]at h;exact absurd h ha}}
  exact fun x hx=>this _ h x hx
theorem Ys {α:Type}(p:α->Bool):∀(l:List α) (k:Int),idxFrom p l k= -1\/(k<=idxFrom p l k/\ idxFrom p l k<k+l.length)
 | [],k=>.inl rfl
 | x::l,k=>by{rw[idxFrom];(split);{right;simp;omega};{(rcases Ys p l (k+1)with h | h);{exact .inl h};{right;simp;omega}}}
theorem oD {op c n:Int}{nm:ByteArray}{ks:List Fo}(h:Gg (.mk op nm c n ks)=true):
  (op=1\/op=2)\/(op=3/\ 1<=c/\ c<=6)\/op=4\/(op=5/\ ks.length=1)\/op=6\/op=7:=by
 have HR:Gg (.mk op nm c n ks)=if eu (.mk op nm c n ks)=true then false
  else if op=1\/op=2 then decide (ks.length=0)
  else if op=3 then((decide (ks.length=0)&& Hd nm)&& decide (1<=c))&& decide (c<=6)
  else if op=4 then decide (ks.length=0)&& Hd nm
  else if op=5 then decide (ks.length=1)
  else if op=6\/op=7 then decide (2<=ks.length)
  else false:=rfl
 rw[HR]at h;clear HR;by_cases hb:eu (.mk op nm c n ks)=true
 {rw[if_pos hb]at h;cases h}
 rw[Aa hb]at h;by_cases h1:op=1\/op=2
 {exact .inl h1}
 rw[Aa h1]at h;by_cases h3:op=3
 {rw[if_pos h3]at h;simp only[ub,decide_eq_true_iff]at h;exact .inr (.inl ⟨h3,h.1.2,h.2⟩)}
 rw[Aa h3]at h;by_cases h4:op=4
 {exact .inr (.inr (.inl h4))}
 rw[Aa h4]at h;by_cases h5:op=5
 {rw[if_pos h5]at h;exact .inr (.inr (.inr (.inl ⟨h5,by simpa using h⟩)))}
 rw[Aa h5]at h;by_cases h6:op=6\/op=7
 {exact .inr (.inr (.inr (.inr h6)))}
 {rw[Aa h6]at h;cases h}
theorem UI {d:List Fa}{op c n:Int}{nm:ByteArray}{ks:List Fo}(h:Le d (fun _=>true) (.mk op nm c n ks)=0):
  (op=1\/op=2)\/(op=3/\ 1<=c/\ c<=6/\ ∃k:Nat,tg d nm=k/\ k<d.length)\/op=4\/(op=5/\ ∃k,ks=[k])\/op=6\/op=7:=by
 have HR:Le d (fun _=>true) (.mk op nm c n ks)=if Gg (.mk op nm c n ks)=false then 1 else if op=3/\ (n<0\/1000000<n)then 10 else if(op=3/\ tg d nm<0)\/(op=4/\ true=false)then 7 else 0:=rfl;rw[HR]at h;clear HR;by_cases hf:Gg (.mk op nm c n ks)=false
 {rw[if_pos hf]at h;cases h}
 rw[Aa hf]at h;by_cases hr:op=3/\ (n<0\/1000000<n)
 {rw[if_pos hr]at h;cases h}
 rw[Aa hr]at h;by_cases hi:op=3/\ tg d nm<0
 {rw[if_pos (.inl hi)]at h;cases h}
 rcases oD (by simpa using hf)with h1 | ⟨h1,h2,h3⟩ | h1 | ⟨h1,h2⟩ | h1 | h1
 {exact .inl h1}
 {(have h4:¬tg d nm<0:=fun e=>hi ⟨h1,e⟩);refine .inr (.inl ⟨h1,h2,h3,(tg d nm).toNat,ia,?_⟩);(rcases Ys (fun f:Fa=>Ni f.name nm) d 0 with h5 | h5);{exact absurd (show tg d nm<0 by unfold tg;omega) h4};{unfold tg at*;omega}}
 {exact .inr (.inr (.inl h1))}
 {obtain⟨k,rfl⟩:=List.length_eq_one_iff.1 h2;exact .inr (.inr (.inr (.inl ⟨h1,k,rfl⟩)))}
 {exact .inr (.inr (.inr (.inr (.inl h1))))}
 {exact .inr (.inr (.inr (.inr (.inr h1))))}
structure KX (d : List Fa) (c : List Int) (ts : List ByteArray) (H cb db tb hb : Nat) (w : World) : Prop where
 size:H<=w.heap.size
 c:cb<H/\ ∃ao cap,w.cell? ⟨cb,0,none⟩=some (.slice ao c.length cap)/\ IntsIn w H c (.slice ao c.length cap)
 d:db<H/\ ∃ao cap,w.cell? ⟨db,0,none⟩=some (.slice ao d.length cap)/\ bf w H d (.agg #[.slice ao d.length cap])
 t:tb<H/\ ∃ao cap,w.cell? ⟨tb,0,none⟩=some (.slice ao ts.length cap)/\ jr w H ts (.slice ao ts.length cap)
 h:hb<H/\ w.cell? ⟨hb,0,none⟩=some (.func (.func 57) #[] #[.pointer (some ⟨cb,0,none⟩),.pointer (some ⟨db,0,none⟩),.pointer (some ⟨tb,0,none⟩),.pointer (some ⟨hb,0,none⟩)])
theorem KX.below {d:List Fa}{c:List Int}{ts:List ByteArray}{H cb db tb hb:Nat}{w w':World}(h:KX d c ts H cb db tb hb w)(hb':Below H w w'):KX d c ts H cb db tb hb w':=by
 obtain⟨h0,⟨h1,a1,c1,h2,h3⟩,⟨h4,a2,c2,h5,h6⟩,⟨h7,a3,c3,h8,h9⟩,⟨pE,h11⟩⟩:=h
 exact⟨Wa h0 hb'.size,⟨h1,a1,c1,(hb'.cell (p:=⟨cb,0,none⟩) h1).trans h2,h3.below hb'⟩,⟨h4,a2,c2,(hb'.cell (p:=⟨db,0,none⟩) h4).trans h5,h6.below hb'⟩,
  ⟨h7,a3,c3,(hb'.cell (p:=⟨tb,0,none⟩) h7).trans h8,h9.below hb'⟩,⟨pE,(hb'.cell (p:=⟨hb,0,none⟩) pE).trans h11⟩⟩
theorem zH (f:Fo)(d:List Fa)(ts:List ByteArray)(v u t:Value)(w:World)(B:Nat)(hs:f.size<=1000000)(hB:B<=w.heap.size)(hf:f.In w B v)(hd:bf w B d u)(ht:jr w B ts t):
  Calls Tryz.prog 14 #[v,u,t] w fun e w'=>e=.returned (.int .i64 (Qe f d (fun s=>ts.any fun x=>Ni s x)))/\ Below w.heap.size w w':=by
 obtain⟨ao,cap,rfl⟩:=hf.shape;have HD:=da hd;obtain⟨du,rfl,uq⟩:=hd;obtain⟨ad,cd,rfl,d1,d2,_⟩:=Xa.shape uq;have HT:=da ht;obtain⟨at_,ct,rfl,t1,t2,_⟩:=Xa.shape ht;have HF:=da hf;have vq:Below w.heap.size w (((w.alloc (.cells #[.int .i64 f.op,.string f.name,.int .i64 f.cmp,.int .i64 f.n,.slice ao f.kids.length cap] 24)).alloc (.cells #[.slice ad d.length cd] 27)).alloc (.cells #[.slice at_ ts.length ct] 88)):=(((za _ _).alloc (ja _) _).alloc la _).alloc (by simp;omega) _
 have hc3:(((w.alloc (.cells #[.int .i64 f.op,.string f.name,.int .i64 f.cmp,.int .i64 f.n,.slice ao f.kids.length cap] 24)).alloc (.cells #[.slice ad d.length cd] 27)).alloc (.cells #[.slice at_ ts.length ct] 88)).cell? ⟨w.heap.size+1+1,0,none⟩=some (.slice at_ ts.length ct):=by{have h:=Bb.cell (Bb.new ((w.alloc (.cells #[.int .i64 f.op,.string f.name,.int .i64 f.cmp,.int .i64 f.n,.slice ao f.kids.length cap] 24)).alloc (.cells #[.slice ad d.length cd] 27)) 88 #[.slice at_ ts.length ct]) 0;simpa using h}
 have Ym:w.heap.size+1+1<(((w.alloc (.cells #[.int .i64 f.op,.string f.name,.int .i64 f.cmp,.int .i64 f.n,.slice ao f.kids.length cap] 24)).alloc (.cells #[.slice ad d.length cd] 27)).alloc (.cells #[.slice at_ ts.length ct] 88)).heap.size:=by simp
 have hT:lU 50 #[.pointer (some ⟨w.heap.size+1+1,0,none⟩)] (fun s=>ts.any fun x=>Ni s x) (((w.alloc (.cells #[.int .i64 f.op,.string f.name,.int .i64 f.cmp,.int .i64 f.n,.slice ao f.kids.length cap] 24)).alloc (.cells #[.slice ad d.length cd] 27)).alloc (.cells #[.slice at_ ts.length ct] 88)):=by{intro W s hW hsz;have h1:=(hW.cell (p:=⟨w.heap.size+1+1,0,none⟩) Ym).trans hc3;have HC:=da (Sw ts s _ W B (HT.out.below ((vq.trans (hW.mono (by simp;omega))).mono hB)));clear vq hc3;show Calls _ _ #[_,_] _ _;go_enter Tryz.func50,Tryz.ntmps50;go_wp2_with (go_at_call 51;refine HC.out.mono ?_;rintro e w4 ⟨rfl,rfl⟩);go_ret;exact⟨rfl,za _ _⟩}
 have HC:=da (xK f d 50 #[.pointer (some ⟨w.heap.size+1+1,0,none⟩)] (fun s=>ts.any fun x=>Ni s x) _ _ (((w.alloc (.cells #[.int .i64 f.op,.string f.name,.int .i64 f.cmp,.int .i64 f.n,.slice ao f.kids.length cap] 24)).alloc (.cells #[.slice ad d.length cd] 27)).alloc (.cells #[.slice at_ ts.length ct] 88)) B hs (by simp;omega) (Fo.In.below (vq.mono hB) _ _ HF.out) (HD.out.below (vq.mono hB)) (enters_of Tryz.func50 Ca rfl) hT);have Ve:=da vq;generalize Qe f d (fun s=>ts.any fun x=>Ni s x)=R at*
 clear hT hc3 vq hf uq ht;go_enter Tryz.func14,Tryz.ntmps14;go_wp2_with (go_at_call 49;refine HC.out.mono ?_;rintro e w4 ⟨rfl,hb4⟩);go_ret;exact⟨rfl,Ve.out.trans (hb4.mono (by simp;omega))⟩
theorem bf.mono {w:World}{B B':Nat}(hb:B<=B'){d:List Fa}{v:Value}(h:bf w B d v):bf w B' d v:=by
 obtain⟨u,rfl,h1⟩:=h;exact⟨u,rfl,h1.mono Iw.mono hb⟩
section
attribute [local go_sem] Ot
end
end Go.Proofs.YtejbgoigkefnfaaGreatDoor
