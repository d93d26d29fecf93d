/- How the maker of chapter 11 lies in memory: what a step keeps, rows that stand, nodes, the table of nodes with its map. No conditions. -/
import Derived.Test.YtejbgoigkefnfaaGreatDoorAl
import Derived.Test.YtejbgoigkefnfaaGreatDoorDgPl
import Derived.Lib.ItoaLen
import Derived.Deep.RegionHeld3
import Derived.Test.YtejbgoigkefnfaaGreatDoorTokA
import Derived.Deep.AppendLies
namespace Go.Proofs.YtejbgoigkefnfaaGreatDoor
open Go.Lib
def Ks (c:UInt8):Bool:=c==45 || (decide (48<=c.toNat)&& decide (c.toNat<=57))
def aq (c:UInt8):Bool:=decide (48<=c.toNat)&& decide (c.toNat<=57)
theorem qz (u j:Nat):aq (dg u j)=true:=by
 unfold aq dg;have h:=Nat.mod_lt (u / 10 ^ j) (show 0<10 by decide);generalize u / 10 ^ j % 10=m at h
 have:(UInt8.ofNat (48+m)).toNat=48+m:=by{rw[UInt8.toNat_ofNat'];omega}
 rw[this]
 simp
 omega
theorem Vp (u:Nat):(decDigits u).all aq=true:=by
 rw[decDigits_eq,Je];intro c hc;obtain⟨t,_,rfl⟩:=List.mem_map.1 hc;exact qz _ _
theorem rn (n:Int):(itoa n).all Ks=true:=by
 have h:∀l:List UInt8,l.all aq=true->l.all Ks=true:=fun l hl=>by{rw[Je]at hl⊢;intro c hc;have:=hl c hc;unfold aq at this;unfold Ks;rw[this,Bool.or_true]}
 unfold itoa
 split
 {rw[Ld];exact Bool.and_eq_true_iff.2 ⟨rfl,h _ (Vp _)⟩}
 {exact h _ (Vp _)}
theorem Sr {p:UInt8->Bool}:∀ {a a':List UInt8} {c c':UInt8} {r r':List UInt8},a.all p=true->a'.all p=true->p c=false->p c'=false->a++c::r=a'++c'::r'->a=a'/\ c=c'/\ r=r'
 | [],[],_,_,_,_,_,_,_,_,h=>by{simp only[Ya,List.cons.injEq]at h;exact⟨rfl,h.1,h.2⟩}
 | [],x::a',c,_,_,_,_,h2,h3,_,h=>by{simp only[Ya,Sb,List.cons.injEq]at h;rw[Ld, <-h.1,h3]at h2;cases h2}
 | x::a,[],_,c',_,_,h1,_,_,h4,h=>by{simp only[Ya,Sb,List.cons.injEq]at h;rw[Ld,h.1,h4]at h1;cases h1}
 | x::a,y::a',c,c',r,r',h1,h2,h3,h4,h=>by{simp only[Sb,List.cons.injEq]at h;rw[Ld,ub]at h1 h2;obtain⟨e1,e2,e3⟩:=Sr h1.2 h2.2 h3 h4 h.2;exact⟨by rw[h.1,e1],e2,e3⟩}
theorem ofNat_inj {a b:Nat}(ha:a<10)(hb:b<10)(h:UInt8.ofNat (48+a)=UInt8.ofNat (48+b)):a=b:=by
 have:=congrArg UInt8.toNat h;rw[UInt8.toNat_ofNat',UInt8.toNat_ofNat']at this;omega
theorem Vo {u:Nat}(h:u<10):decDigits u=[UInt8.ofNat (48+u)]:=by
 rw[decDigits];simp[h]
theorem Dx {u:Nat}(h:¬u<10):decDigits u=decDigits (u / 10)++[UInt8.ofNat (48+u % 10)]:=by
 conv=>lhs;rw[decDigits]
 simp[h]
theorem kD :∀(N u v:Nat),u<=N->decDigits u=decDigits v->u=v
 | N,u,v,hu,h=>by{by_cases h1:u<10;{by_cases h2:v<10;{rw[Vo h1,Vo h2]at h;exact ofNat_inj h1 h2 (by simpa using h)};{rw[Vo h1,Dx h2]at h;have h3:=congrArg List.length h;rw[Ea,decDigits_length]at h3;have:=nDigits_pos (v / 10);simp at h3;omega}};{by_cases h2:v<10;{rw[Vo h2,Dx h1]at h;have h3:=congrArg List.length h;rw[Ea,decDigits_length]at h3;have:=nDigits_pos (u / 10);simp at h3;omega};{rw[Dx h1,Dx h2]at h;have h3:=List.append_inj' h rfl;cases N with| zero=>omega| succ N=>{have h4:=kD N (u / 10) (v / 10) ia h3.1;have h5:=ofNat_inj (Nat.mod_lt u pa) (Nat.mod_lt v pa) (by simpa using h3.2);omega}}}}
theorem Au {a b:Int}(h:itoa a=itoa b):a=b:=by
 have key:∀(u:Nat) (l:List UInt8),decDigits u≠45::l:=by{intro u l e;have:=Vp u;rw[e,Ld]at this;exact absurd (Bool.and_eq_true_iff.1 this).1 pa}
 unfold itoa at h
 split at h<;>split at h
 {have:=kD _ _ _ (ja _) (List.cons.inj h).2;omega}
 {exact absurd h.symm (key _ _)}
 {exact absurd h (key _ _)}
 {have:=kD _ _ _ (ja _) h;omega}
def ji (l:List Int):List UInt8:=l.flatMap fun k=>itoa k++[44]
def dr (n:Dn):List UInt8:=(if n.leaf then 49 else 48)::itoa n.fact++58::ji n.Ja++58::ji n.kids
def Ah (n:Dn):ByteArray:=⟨(dr n).toArray⟩
theorem ZJ (k:Int):∃c l,itoa k=c::l/\ Ks c=true:=by
 have h:=rn k;cases e:itoa k with| nil=>{exfalso;unfold itoa at e;(split at e);{cases e};{have:=congrArg List.length e;rw[decDigits_length]at this;have:=nDigits_pos k.toNat;simp at*;omega}}| cons c l=>{rw[e,Ld]at h;exact⟨c,l,rfl,(Bool.and_eq_true_iff.1 h).1⟩}
theorem rz :∀ {l l':List Int} {r r':List UInt8},(∀c∈r.head?,Ks c=false)->(∀c∈r'.head?,Ks c=false)->ji l++r=ji l'++r'->l=l'/\ r=r'
 | [],[],_,_,_,_,h=>⟨rfl,h⟩
 | [],k::l',r,r',h1,_,h=>by{exfalso;obtain⟨c,m,e,hc⟩:=ZJ k;have h:r=(ji (k::l'))++r':=h;rw[ji,jc,e]at h;rw[h]at h1;have:=h1 c la;rw[hc]at this;cases this}
 | k::l,[],r,r',_,h2,h=>by{exfalso;obtain⟨c,m,e,hc⟩:=ZJ k;have h:(ji (k::l))++r=r':=h;rw[ji,jc,e]at h;rw[<-h]at h2;have:=h2 c la;rw[hc]at this;cases this}
 | k::l,k'::l',r,r',h1,h2,h=>by{rw[ji,ji,jc,jc]at h;simp only[Ua,Sb,Ya]at h;obtain⟨e1,_,e3⟩:=Sr (p:=Ks) (rn k) (rn k') pa pa h;obtain⟨e4,e5⟩:=rz (l:=l) (l':=l') h1 h2 e3;exact⟨by rw[Au e1,e4],e5⟩}
theorem II {n m:Dn}(h:dr n=dr m):n=m:=by
 unfold dr at h;simp only[Sb,Ua,List.cons.injEq]at h;obtain⟨h0,h⟩:=h;obtain⟨e1,_,e2⟩:=Sr (p:=Ks) (rn _) (rn _) pa pa h;obtain⟨e3,e4⟩:=rz (by intro c hc;simp at hc;subst hc;decide) (by intro c hc;simp at hc;subst hc;decide) e2;obtain⟨_,e4⟩:=List.cons.inj e4;obtain⟨e5,_⟩:=rz (r:=[]) (r':=[]) la la (by simpa using e4);have e1:=Au e1;obtain⟨a,b,c,l⟩:=n;obtain⟨a',b',c',l'⟩:=m;simp only at e1 e3 e5 h0;subst e1 e3 e5;cases l<;>cases l'<;>simp at h0⊢
theorem JI {n m:Dn}(h:Ah n=Ah m):n=m:=by
 unfold Ah at h
 injection h with h
 exact II (by simpa using congrArg Array.toList h)
mutual
def Wf :Fo->List UInt8
 | .mk op nm c n ks=>itoa op++nm.toList++44::itoa c++44::itoa n++40::we ks++[41]
def we :List Fo->List UInt8
 | []=>[]
 | k::ks=>Wf k++we ks
end
def Qq (nm:ByteArray):Prop:=(∀c∈nm.toList,c≠44)/\ ∀c∈nm.toList.head?,aq c=false
mutual
def gu :Fo->Prop
 | .mk op nm _ _ ks=>(1<=op/\ op<=7)/\ Qq nm/\ Ls ks
def Ls :List Fo->Prop
 | []=>True
 | k::ks=>gu k/\ Ls ks
end
theorem rB :∀ks,Ls ks↔∀k∈ks,gu k
 | []=>by simp[Ls]
 | k::ks=>by simp[Ls,rB ks]
theorem Wo {op:Int}(h:1<=op/\ op<=7):itoa op=[UInt8.ofNat (48+op.toNat)]:=by
 unfold itoa;rw[Aa ia,Vo ia]
theorem VF {nm:ByteArray}(h:Qq nm)(r:List UInt8):∃c q,nm.toList++44::r=c::q/\ aq c=false:=by
 cases e:nm.toList with| nil=>exact⟨44,r,rfl,pa⟩| cons c l=>exact⟨c,l++44::r,rfl,h.2 c (by rw[e];rfl)⟩
theorem rP {nm jZ:ByteArray}(h:Qq nm)(h':Qq jZ){r r':List UInt8}(e:nm.toList++44::r=jZ.toList++44::r'):nm=jZ/\ r=r':=by
 obtain⟨e1,_,e2⟩:=Sr (p:=fun c=>c !=44) (by rw[Je];intro c hc;simpa using h.1 c hc) (by rw[Je];intro c hc;simpa using h'.1 c hc) pa pa e;refine⟨?_,e2⟩;rw[Sc,Sc]at e1
 cases nm with | mk a=>cases jZ with | mk b=>{congr 1;exact Array.toList_inj.1 (by simpa using e1)}
theorem aK {a b:Int}{c:UInt8}{r r':List UInt8}(hc:Ks c=false)(h:itoa a++c::r=itoa b++c::r'):a=b/\ r=r':=by
 obtain⟨e1,_,e2⟩:=Sr (p:=Ks) (rn a) (rn b) hc hc h;exact⟨Au e1,e2⟩
theorem sz {f:Fo}(h:gu f):∃c q,Wf f=c::q/\ aq c=true:=by
 obtain⟨op,nm,c,n,ks⟩:=f;rw[gu]at h;rw[Wf,Wo h.1];have h2:=qz op.toNat 0;unfold dg at h2;rw[Nat.pow_zero,Nat.div_one,Nat.mod_eq_of_lt ia]at h2;exact⟨_,_,rfl,h2⟩
mutual
theorem bC :∀ {f f':Fo} {r r':List UInt8},gu f->gu f'->Wf f++r=Wf f'++r'->f=f'/\ r=r'
 | .mk op nm c n ks,.mk dW jZ c' n' gX,r,r',h,h',e=>by{rw[gu]at h h';rw[Wf,Wf,Wo h.1,Wo h'.1]at e;simp only[Ua,Sb,Ya,List.cons.injEq]at e;obtain⟨e0,e⟩:=e;have e0:=ofNat_inj ia ia e0;obtain⟨e1,e⟩:=rP h.2.1 h'.2.1 e;obtain⟨e2,e⟩:=aK pa e;obtain⟨e3,e⟩:=aK pa e;obtain⟨e4,e5⟩:=tz h.2.2 h'.2.2 e;(have:op=dW:=ia);exact⟨by rw[this,e1,e2,e3,e4],e5⟩}
theorem tz :∀ {ks gX:List Fo} {r r':List UInt8},Ls ks->Ls gX->we ks++41::r=we gX++41::r'->ks=gX/\ r=r'
 | [],[],_,_,_,_,e=>by{rw[we]at e;simp only[Ya,List.cons.injEq,true_and]at e;exact⟨rfl,e⟩}
 | [],k::ks,_,_,_,h',e=>by{rw[Ls]at h';obtain⟨c,q,e1,hc⟩:=sz h'.1;rw[we,we,e1]at e;simp only[Ya,Sb,List.cons.injEq]at e;rw[<-e.1]at hc;exact absurd hc pa}
 | k::ks,[],_,_,h,_,e=>by{rw[Ls]at h;obtain⟨c,q,e1,hc⟩:=sz h.1;rw[we,we,e1]at e;simp only[Ya,Sb,List.cons.injEq]at e;rw[e.1]at hc;exact absurd hc pa}
 | k::ks,k'::gX,r,r',h,h',e=>by{rw[Ls]at h h';rw[we,we]at e;simp only[Ua]at e;obtain⟨e1,e2⟩:=bC h.1 h'.1 e;obtain⟨e3,e4⟩:=tz h.2 h'.2 e2;exact⟨by rw[e1,e3],e4⟩}
end
def sP (i:Nat)(f:Fo):List UInt8:=itoa i++Wf f
def il (i:Nat)(f:Fo):ByteArray:=⟨(sP i f).toArray⟩
theorem tP {i i':Nat}{f f':Fo}(h:gu f)(h':gu f')(e:sP i f=sP i' f'):i=i'/\ f=f':=by
 have e0:=e;obtain⟨op,nm,c,n,ks⟩:=f;obtain⟨dW,jZ,c',n',gX⟩:=f';have hs:=h;have EM:=h';rw[gu]at h h';unfold sP at e;rw[Wf,Wf]at e;simp only[Ua,Sb]at e;obtain⟨a,q,ea,ha⟩:=VF h.2.1 (itoa c++44::(itoa n++40::(we ks++[41])));obtain⟨b,p,eb,hb⟩:=VF h'.2.1 (itoa c'++44::(itoa n'++40::(we gX++[41])));rw[ea,eb, <-Ua, <-Ua (itoa (i':Int))]at e
 have hd:∀(j:Nat) (o:Int),1<=o/\ o<=7->(itoa (j:Int)++itoa o).all aq=true:=by{intro j o ho;rw[qi,itoa_nonneg,Vp,Wo ho];have h2:=qz o.toNat 0;unfold dg at h2;rw[Nat.pow_zero,Nat.div_one,Nat.mod_eq_of_lt ia]at h2;simp only[Ld,List.all_nil,h2,Bool.and_self]}
 obtain⟨e1,_,_⟩:=Sr (p:=aq) (hd i op h.1) (hd i' dW h'.1) ha hb e;rw[Wo h.1,Wo h'.1]at e1;have e2:=(List.append_inj' e1 rfl).1;have e3:i=i':=by have:=Au e2;omega
 subst e3;unfold sP at e0;have e4:=List.append_cancel_left e0;obtain⟨e5,_⟩:=bC (r:=[]) (r':=[]) hs EM (by rw[Yc,Yc];exact e4);exact⟨rfl,e5⟩
theorem fO {i i':Nat}{f f':Fo}(h:gu f)(h':gu f')(e:il i f=il i' f'):i=i'/\ f=f':=by
 unfold il at e
 injection e with e
 exact tP h h' (by simpa using congrArg Array.toList e)
open Go
theorem sA {α:Type _}(l:List α)(i:Nat)(a:α):l.toArray.setIfInBounds i a=(l.set i a).toArray:=List.setIfInBounds_toArray ..
theorem sB {α:Type _}(x:α)(l:List α)(a:α):(x::l).set 0 a=a::l:=List.set_cons_zero ..
theorem sC {α:Type _}(x:α)(l:List α)(n:Nat)(a:α):(x::l).set (n+1) a=x::l.set n a:=List.set_cons_succ ..
section
variable {P : Program} {ops : Array Oper} {Q : Exit -> Act -> World -> Prop} {md : Region.Mode} {S : World -> Prop} {o : Oper} {fuel : Nat} {l l' : Array Bool} {a a' : Act} {w : World}
theorem tk (i:Nat)(v:Value)(hy:∀w,S w->(execOp a.eval o).run P w=.ok (.value v) w)(h:wpAnyH P md ops Q S fuel l' a' w)
  (hi:ops[i]? =some o:=by simp only[Oc,Ec,Zb];rfl) (ha:a.put o.dst v=a':=by(try simp only[Act.put,sA,sB,sC]);rfl) (hl:l.setIfInBounds i true=l':=by(try simp only[sA,sB,sC]);rfl) (hs:Region.noSelect ops=true:=by kernel_rfl) (hf:Region.free md ops l i=true:=by kernel_rfl) (hr:(Region.ready md ops l).contains i=true:=by kernel_rfl)
  (hQ:∀c a w,Q (.panic c) (a.put o.dst v) w->Q (.panic c) a w:=by exact fun _ _ _ h=>h) (hw:Region.wanted o (yielded ops a.tmps)=true:=by rfl) (hS:S w:=by assumption):wpAnyH P md ops Q S (fuel+1) l a w:=
 wpAnyH_take hi hs hf hr hQ (Or.inl ⟨hw,hy⟩) hS (ha▸hl▸h)
theorem tp (i:Nat){v:Value}(h:wpAnyH P md ops Q S fuel l' a' w)
  (hi:ops[i]? =some o:=by simp only[Oc,Ec,Zb];rfl) (hy:∀w,S w->(execOp a.eval o).run P w=.ok (.value v) w:=by intro _ _;go_simp;try with_reducible rfl) (ha:a.put o.dst v=a':=by(try simp only[Act.put,sA,sB,sC]);rfl) (hl:l.setIfInBounds i true=l':=by(try simp only[sA,sB,sC]);rfl) (hs:Region.noSelect ops=true:=by kernel_rfl) (hf:Region.free md ops l i=true:=by kernel_rfl) (hr:(Region.ready md ops l).contains i=true:=by kernel_rfl)
  (hQ:∀c a w,Q (.panic c) (a.put o.dst v) w->Q (.panic c) a w:=by exact fun _ _ _ h=>h) (hw:Region.wanted o (yielded ops a.tmps)=true:=by rfl) (hS:S w:=by assumption):wpAnyH P md ops Q S (fuel+1) l a w:=
 tk i v hy h hi ha hl hs hf hr hQ hw hS
theorem tr (i:Nat)(h:∀K':Act->World->Prop,Shut (∀a w,S w->(S w->wpAnyH P md ops Q S fuel l' a w)->K' a w)->if Region.wanted o (yielded ops a.tmps)=true then Oper.wp P o a w K' Q else K' (a.put o.dst undef) w)
  (hi:ops[i]? =some o:=by simp only[Oc,Ec,Zb];rfl) (hl:l.setIfInBounds i true=l':=by(try simp only[sA,sB,sC]);rfl) (hr:Region.ready md ops l=[i]:=by kernel_rfl):wpAnyH P md ops Q S (fuel+1) l a w:=
 wpAnyH_ready hr la (AllReadyH.cons hi (hl▸h) AllReadyH.nil)
theorem tt (i j:Nat){oj:Oper}{l2:Array Bool}(h:∀K':Act->World->Prop,Shut (∀a w,S w->(S w->wpAnyH P md ops Q S fuel l' a w)->K' a w)->if Region.wanted o (yielded ops a.tmps)=true then Oper.wp P o a w K' Q else K' (a.put o.dst undef) w)
  (h2:∀K':Act->World->Prop,Shut (∀a w,S w->(S w->wpAnyH P md ops Q S fuel l2 a w)->K' a w)->if Region.wanted oj (yielded ops a.tmps)=true then Oper.wp P oj a w K' Q else K' (a.put oj.dst undef) w)
  (hi:ops[i]? =some o:=by simp only[Oc,Ec,Zb];rfl) (hj:ops[j]? =some oj:=by simp only[Oc,Ec,Zb];rfl) (hl:l.setIfInBounds i true=l':=by(try simp only[sA,sB,sC]);rfl) (FM:l.setIfInBounds j true=l2:=by(try simp only[sA,sB,sC]);rfl) (hr:Region.ready md ops l=[i,j]:=by kernel_rfl):wpAnyH P md ops Q S (fuel+1) l a w:=
 wpAnyH_ready hr la (AllReadyH.cons hi (hl▸h) (AllReadyH.cons hj (FM▸h2) AllReadyH.nil))
end
section
open Go.RowKit
def gi :Obj->Bool
 | .cells _ t _=> !(t==56)&& !(t==70)
 | _=>false
structure ld (H : Nat) (S : List Nat) (W W' : World) : Prop where
 os:W'.os=W.os
 tape:W'.tape=W.tape
 output:W'.output=W.output
 size:W.heap.size<=W'.heap.size
 keep:∀b o,W.heap[b]? =some o->(b<H\/(gi o=true/\ b∉S))->W'.heap[b]? =some o
def Hs (W:World)(H:Nat)(S:List Nat)(b:Nat):Prop:=b<W.heap.size/\ (b<H\/(b∉S/\ ∃o,W.heap[b]? =some o/\ gi o=true))
variable {H : Nat} {S S' : List Nat} {W W' GU : World}
theorem cC {W:World}{b:Nat}(h:b<W.heap.size):∃o,W.heap[b]? =some o:=⟨_,Kg h⟩
theorem je {W:World}{b:Nat}{o:Obj}(h:W.heap[b]? =some o):b<W.heap.size:=(Array.getElem?_eq_some_iff.1 h).1
theorem ld.refl (H:Nat)(S:List Nat)(W:World):ld H S W W:=⟨rfl,rfl,rfl,ja _,fun _ _ h _=>h⟩
theorem ld.trans (h:ld H S W W')(k:ld H S W' GU):ld H S W GU:=
 ⟨k.os.trans h.os,k.tape.trans h.tape,k.output.trans h.output,Wa h.size k.size,fun b o hb hc=>k.keep b o (h.keep b o hb hc) hc⟩
theorem ld.more (h:ld H S W W')(hs:∀b∈S,b∈S'):ld H S' W W':=
 ⟨h.os,h.tape,h.output,h.size,fun b o hb hc=>h.keep b o hb (hc.imp id fun hc=>⟨hc.1,fun e=>hc.2 (hs b e)⟩)⟩
theorem ld.less (h:ld H S' W W')(hs:∀b∈S',b<W.heap.size->b∈S):ld H S W W':=
 ⟨h.os,h.tape,h.output,h.size,fun b o hb hc=>h.keep b o hb (hc.imp id fun hc=>⟨hc.1,fun e=>hc.2 (hs b e (je hb))⟩)⟩
theorem ld.Vb {n:Nat}(h:Below n W W')(hn:W.heap.size<=n):ld H S W W':=
 ⟨h.os,h.tape,h.output,h.size,fun b _ hb _=>(h.block b (Wb (je hb) hn)).trans hb⟩
theorem ld.below (h:ld H S W W')(hH:H<=W.heap.size):Below H W W':=
 ⟨h.os,h.tape,h.output,h.size,fun b hb=>by
  obtain⟨o,ho⟩:=cC (W:=W) (b:=b) ia
  rw[h.keep b o ho (.inl hb),ho]⟩
theorem ld.Ej {row:Option Nat}(h:W.grownBy W' row)(hr:∀b,row=some b->H<=b/\ (b∈S\/∀o,W.heap[b]? =some o->gi o=false)):ld H S W W':=
 ⟨h.os,h.tape,h.output,h.size,fun b o hb hc=>by
  refine(h.block b (je hb) fun e=>?_).trans hb
  obtain⟨h1,h2⟩:=hr b e.symm
  rcases hc with hc | hc
  {omega}
  ·rcases h2 with h2 | h2
   {exact hc.2 h2}
   ·rw[h2 o hb]at hc;exact absurd hc.1 pa⟩
theorem ld.rH {b:Nat}(h:kA b W W')(hr:H<=b/\ (b∈S\/∀o,W.heap[b]? =some o->gi o=false)):ld H S W W':=
 ld.Ej (row:=some b) ⟨h.os,h.tape,h.output,lh h.size.symm,fun k _ hne=>h.block k (fun e=>hne (by rw[e]))⟩ (fun b' e=>by cases e;exact hr)
theorem ld.alloc (h:ld H S W W')(o:Obj):ld H S W (W'.alloc o):=h.trans (ld.Vb ((za W'.heap.size W').alloc (ja _) o) (ja _))
theorem ld.drewN (h:ld H S W W')(n:Nat):ld H S W (W'.drewN n):=h.trans (ld.Vb (World.Za W'.heap.size W' n) (ja _))
theorem Hs.heap {b:Nat}(h:Hs W H S b)(hs:ld H S W W'):W'.heap[b]? =W.heap[b]? :=by
 obtain⟨o,ho⟩:=cC h.1;rw[ho];refine hs.keep b o ho (h.2.imp id fun hc=>⟨?_,hc.1⟩);obtain⟨o',h1,h2⟩:=hc.2;rw[ho]at h1;cases h1;exact h2
theorem Hs.step {b:Nat}(h:Hs W H S b)(hs:ld H S W W'):Hs W' H S b:=by
 refine⟨Wb h.1 hs.size,h.2.imp id fun hc=>⟨hc.1,?_⟩⟩;rw[h.heap hs];exact hc.2
theorem Hs.cell {b i:Nat}(h:Hs W H S b)(hs:ld H S W W'):W'.cell? ⟨b,i,none⟩=W.cell? ⟨b,i,none⟩:=World.cell?_of_block (a:=⟨b,i,none⟩) (h.heap hs)
theorem Hs.open_ {b:Nat}(h:Hs W H S b){k:Nat}(_hk:H<=k)(hne:b≠k):Hs W H (k::S) b:=
 ⟨h.1,h.2.imp id fun hc=>⟨fun e=>(List.mem_cons.1 e).elim hne hc.1,hc.2⟩⟩
theorem Hs.less {b:Nat}(h:Hs W H S b)(hs:∀k∈S',k∈S):Hs W H S' b:=⟨h.1,h.2.imp id fun hc=>⟨fun e=>hc.1 (hs _ e),hc.2⟩⟩
def Me (W:World)(H:Nat)(S:List Nat)(l:List Int)(v:Value):Prop:=IntsIn W W.heap.size l v/\ (l≠[]->∀a n c,v=.slice (some a) n c->Hs W H S a.block)
theorem Me.step {l:List Int}{v:Value}(h:Me W H S l v)(hs:ld H S W W'):Me W' H S l v:=by
 obtain⟨⟨ao,cap,rfl,h1,h2,h3⟩,h4⟩:=h;refine⟨⟨ao,cap,rfl,h1,h2,fun hne=>?_⟩,fun hne a n c e=>(h4 hne a n c e).step hs⟩;obtain⟨b,off,rfl,hb,hc⟩:=h3 hne;have hf:=h4 hne _ _ _ rfl;refine⟨b,off,rfl,Wb hb hs.size,fun i hi=>?_⟩
 show W'.cell? _=_
 rw[Hs.cell (b:=b) hf hs];exact hc i hi
theorem Me.open_ {l:List Int}{v:Value}(h:Me W H S l v){k:Nat}(hk:H<=k)(hne:l≠[]->∀a n c,v=.slice (some a) n c->a.block≠k):Me W H (k::S) l v:=
 ⟨h.1,fun hl a n c e=>(h.2 hl a n c e).open_ hk (hne hl a n c e)⟩
theorem Me.less {l:List Int}{v:Value}(h:Me W H S l v)(hs:∀k∈S',k∈S):Me W H S' l v:=⟨h.1,fun hl a n c e=>(h.2 hl a n c e).less hs⟩
theorem Me.nil (W:World)(H:Nat)(S:List Nat):Me W H S [] (.slice none 0 0):=⟨⟨none,0,rfl,ja _,xb _,fun h=>absurd rfl h⟩,fun h=>absurd rfl h⟩
theorem Me.old {B:Nat}{w:World}{l:List Int}{v:Value}(h:IntsIn w B l v)(hB:B<=H)(hw:H<=w.heap.size)(hs:ld H S w W):Me W H S l v:=by
 obtain⟨ao,cap,rfl,h1,h2,h3⟩:=h;have hb0:=hs.below hw;refine⟨⟨ao,cap,rfl,h1,h2,fun hne=>?_⟩,fun hne a n c e=>?_⟩
 {obtain⟨b,off,rfl,hb,hc⟩:=h3 hne;refine⟨b,off,rfl,by have:=hs.size;omega,fun i hi=>?_⟩;show W.cell? _=_;rw[hb0.cell (p:=⟨b,off+i*1,none⟩) (by show b<H;omega)];exact hc i hi}
 {obtain⟨b,off,rfl,hb,_⟩:=h3 hne;(cases e);exact⟨by show b<_;have:=hs.size;omega,.inl (by show b<H;omega)⟩}
structure Jh where
 n:Dn
 vc:Value
 vk:Value
def Jh.cells (x:Jh):List Value:=[.int .i64 x.n.fact,x.vc,x.vk,.bool x.n.leaf]
structure Jh.Ok (W : World) (H : Nat) (S : List Nat) (x : Jh) : Prop where
 Ja:Me W H S x.n.Ja x.vc
 kids:Me W H S x.n.kids x.vk
theorem Jh.Ok.step {x:Jh}(h:x.Ok W H S)(hs:ld H S W W'):x.Ok W' H S:=⟨h.Ja.step hs,h.kids.step hs⟩
def cq (t:List Dn):List (ByteArray×Int):=t.zipIdx.map fun p=>(Ah p.1,(p.2:Int))
theorem XH (t:List Dn)(n:Dn):cq (t++[n])=cq t++[(Ah n,(t.length:Int))]:=by
 unfold cq;rw[List.zipIdx_append]
 simp
theorem Bu (n:Dn):∀(t:List Dn) (k:Nat),((t.zipIdx k).map fun p=>(Ah p.1,(p.2:Int))).lookup (Ah n)=if n∈t then some ((k+t.idxOf n:Nat):Int)else none
 | [],_=>by simp
 | m::t,k=>by
  rw[List.zipIdx_cons,Va,Db];by_cases h:n=m
  {subst h;simp}
  ·have h1:(Ah n==Ah m)=false:=by
    rw[beq_eq_false_iff_ne];exact fun e=>h (JI e)
   have h2:(m==n)=false:=by rw[beq_eq_false_iff_ne];exact fun e=>h e.symm
   dsimp only
   rw[h1]
   dsimp only
   rw[Bu n t (k+1)];by_cases hm:n∈t
   {rw[if_pos hm,if_pos (La _ hm),mi,h2];simp only[cond_false];congr 2;omega}
   {rw[Aa hm,Aa (by simp[h,hm])]}
theorem FB (t:List Dn)(n:Dn):(cq t).lookup (Ah n)=if n∈t then some ((t.idxOf n:Nat):Int)else none:=by
 have:=Bu n t 0;rw[dc]at this;exact this
structure Pj (W : World) (H mb : Nat) (S : List Nat) (t : List Dn) : Prop where
 ge:H<=mb
 mem:∃(v:Value) (mo:Option Nat) (xs:List Jh),Bb W mb 70 #[v,.map mo]/\ W.ownsRow H 56 4 v xs.length (xs.flatMap Jh.cells)/\ xs.map (·.n)=t/\ (∀x∈xs,x.Ok W H S)/\
  ((mo=none/\ t=[])\/∃ab,mo=some ab/\ H<=ab/\ We Value.string (Value.int .i64) W ab (cq t))
 small:t.length<=1000000
theorem Pj.keep {mb:Nat}{t:List Dn}(h:Pj W H mb S t)(hs:ld H S W W')(hk:∀b o,W.heap[b]? =some o->gi o=false->b<W.heap.size->W'.heap[b]? =some o):Pj W' H mb S t:=by
 obtain⟨hge,⟨v,mo,xs,h1,h2,h3,h4,h5⟩,h6⟩:=h;refine⟨hge,⟨v,mo,xs,hk _ _ h1 (by simp[gi]) h1.lt,xi h2 fun g hg=>?_,h3,fun x hx=>(h4 x hx).step hs,h5.imp id ?_⟩,h6⟩
 {(rcases h2.2 with⟨rfl,_⟩ | ⟨g',cap,cur,rfl,_,Xr,_⟩);{simp[Value.ownBlock]at hg};{(have:g'=g:=by simpa[Value.ownBlock]using hg);subst this;rw[Xr];exact hk _ _ Xr (by simp[gi]) (je Xr)}}
 {rintro⟨ab,e,hab,es,c,hm,hm2⟩;exact⟨ab,e,hab,es,c,hk _ _ hm rfl (je hm),hm2⟩}
theorem Pj.below {mb:Nat}{t:List Dn}(h:Pj W H mb S t){n:Nat}(hb:Below n W W')(hn:W.heap.size<=n):Pj W' H mb S t:=
 h.keep (ld.Vb hb hn) fun b o ho _ hlt=>(hb.block b ia).trans ho
theorem Pj.fresh {mb:Nat}{t:List Dn}(h:Pj W H mb S t){k:Nat}(hk:W.heap.size<=k)(hs:ld H S W W')(EM:∀b o,W.heap[b]? =some o->gi o=false->b<W.heap.size->W'.heap[b]? =some o):Pj W' H mb (k::S) t:=by
 obtain⟨hge,⟨v,mo,xs,h1,h2,h3,h4,h5⟩,h6⟩:=h.keep hs EM;obtain⟨_,⟨v0,mo0,xs0,g1,g2,g3,g4,g5⟩,_⟩:=h
 have e:v=v0/\ mo=mo0:=by{have:=EM _ _ g1 (by simp[gi]) g1.lt;have h1':W'.heap[mb]? =_:=h1;rw[this]at h1';injection h1' with h1';injection h1' with h1' _ _;simp at h1';exact⟨h1'.1.symm,h1'.2.symm⟩}
 have nW:H<=W.heap.size:=by have:=g1.lt;omega
 refine⟨hge,⟨v0,mo0,xs0,by rw[<-e.1, <-e.2];exact h1,xi g2 fun g hg=>?_,g3,fun x hx=>?_,?_⟩,h6⟩
 {(rcases g2.2 with⟨rfl,_⟩ | ⟨g',cap,cur,rfl,_,Xr,_⟩);{simp[Value.ownBlock]at hg};{(have:g'=g:=by simpa[Value.ownBlock]using hg);subst this;rw[Xr];exact EM _ _ Xr (by simp[gi]) (je Xr)}}
 {have kZ:=g4 x hx;(have ne:∀ {l:List Int} {v:Value},Me W H S l v->Me W' H (k::S) l v:=fun hf=>(hf.step hs).open_ ia fun hl a n c e=>by{have:=(hf.2 hl a n c e).1;omega});exact⟨ne kZ.Ja,ne kZ.kids⟩}
 {rw[<-e.2];exact h5}
theorem Pj.less {mb:Nat}{t:List Dn}(h:Pj W H mb S t)(hs:∀k∈S',k∈S):Pj W H mb S' t:=by
 obtain⟨hge,⟨v,mo,xs,h1,h2,h3,h4,h5⟩,h6⟩:=h;exact⟨hge,⟨v,mo,xs,h1,h2,h3,fun x hx=>⟨(h4 x hx).Ja.less hs,(h4 x hx).kids.less hs⟩,h5⟩,h6⟩
end
end Go.Proofs.YtejbgoigkefnfaaGreatDoor
