/- How the maker of chapter 11 lies in memory: what a step keeps, rows that stand, nodes, the table of nodes with its map. No conditions. -/
import Derived.Test.YtihniipjfdenbaaGreatDoorDgPl
import Derived.Lib.ItoaLen
import Derived.Deep.RegionHeld3
import Derived.Test.YtihniipjfdenbaaGreatDoorTokA
import Derived.Deep.AppendLies
namespace Go.Proofs.YtihniipjfdenbaaGreatDoor
open Go.Lib
def numCh (c:UInt8):Bool:=c==45 || (decide (48<=c.toNat)&& decide (c.toNat<=57))
def digCh (c:UInt8):Bool:=decide (48<=c.toNat)&& decide (c.toNat<=57)
theorem dg_digit (u j:Nat):digCh (dg u j)=true:=by
 unfold digCh dg;have h:=Nat.mod_lt (u / 10 ^ j) (show 0<10 by decide);generalize u / 10 ^ j % 10=m at h
 have:(UInt8.ofNat (48+m)).toNat=48+m:=by{rw[UInt8.toNat_ofNat'];omega}
 rw[this]
 simp
 omega
theorem dec_digits (u:Nat):(decDigits u).all digCh=true:=by
 rw[decDigits_eq,List.all_eq_true];intro c hc;obtain⟨t,_,rfl⟩:=List.mem_map.1 hc;exact dg_digit _ _
theorem itoa_num (n:Int):(itoa n).all numCh=true:=by
 have h:∀l:List UInt8,l.all digCh=true->l.all numCh=true:=fun l hl=>by{rw[List.all_eq_true]at hl⊢;intro c hc;have:=hl c hc;unfold digCh at this;unfold numCh;rw[this,Bool.or_true]}
 unfold itoa
 split
 {rw[List.all_cons];exact Bool.and_eq_true_iff.2 ⟨rfl,h _ (dec_digits _)⟩}
 {exact h _ (dec_digits _)}
theorem run_inj {p:UInt8->Bool}:∀ {a a':List UInt8} {c c':UInt8} {r r':List UInt8},a.all p=true->a'.all p=true->p c=false->p c'=false->a++c::r=a'++c'::r'->a=a'/\ c=c'/\ r=r'
 | [],[],_,_,_,_,_,_,_,_,h=>by{simp only[List.nil_append,List.cons.injEq]at h;exact⟨rfl,h.1,h.2⟩}
 | [],x::a',c,_,_,_,_,h2,h3,_,h=>by{simp only[List.nil_append,List.cons_append,List.cons.injEq]at h;rw[List.all_cons, <-h.1,h3]at h2;cases h2}
 | x::a,[],_,c',_,_,h1,_,_,h4,h=>by{simp only[List.nil_append,List.cons_append,List.cons.injEq]at h;rw[List.all_cons,h.1,h4]at h1;cases h1}
 | x::a,y::a',c,c',r,r',h1,h2,h3,h4,h=>by{simp only[List.cons_append,List.cons.injEq]at h;rw[List.all_cons,Bool.and_eq_true]at h1 h2;obtain⟨e1,e2,e3⟩:=run_inj h1.2 h2.2 h3 h4 h.2;exact⟨by rw[h.1,e1],e2,e3⟩}
theorem ofNat_inj {a b:Nat}(ha:a<10)(hb:b<10)(h:UInt8.ofNat (48+a)=UInt8.ofNat (48+b)):a=b:=by
 have:=congrArg UInt8.toNat h;rw[UInt8.toNat_ofNat',UInt8.toNat_ofNat']at this;omega
theorem dec_small {u:Nat}(h:u<10):decDigits u=[UInt8.ofNat (48+u)]:=by
 rw[decDigits];simp[h]
theorem dec_big {u:Nat}(h:¬u<10):decDigits u=decDigits (u / 10)++[UInt8.ofNat (48+u % 10)]:=by
 conv=>lhs;rw[decDigits]
 simp[h]
theorem dec_inj :∀(N u v:Nat),u<=N->decDigits u=decDigits v->u=v
 | N,u,v,hu,h=>by{by_cases h1:u<10;{by_cases h2:v<10;{rw[dec_small h1,dec_small h2]at h;exact ofNat_inj h1 h2 (by simpa using h)};{rw[dec_small h1,dec_big h2]at h;have h3:=congrArg List.length h;rw[List.length_append,decDigits_length]at h3;have:=nDigits_pos (v / 10);simp at h3;omega}};{by_cases h2:v<10;{rw[dec_small h2,dec_big h1]at h;have h3:=congrArg List.length h;rw[List.length_append,decDigits_length]at h3;have:=nDigits_pos (u / 10);simp at h3;omega};{rw[dec_big h1,dec_big h2]at h;have h3:=List.append_inj' h rfl;cases N with| zero=>omega| succ N=>{have h4:=dec_inj N (u / 10) (v / 10) (by omega) h3.1;have h5:=ofNat_inj (Nat.mod_lt u (by decide)) (Nat.mod_lt v (by decide)) (by simpa using h3.2);omega}}}}
theorem itoa_inj {a b:Int}(h:itoa a=itoa b):a=b:=by
 have key:∀(u:Nat) (l:List UInt8),decDigits u≠45::l:=by{intro u l e;have:=dec_digits u;rw[e,List.all_cons]at this;exact absurd (Bool.and_eq_true_iff.1 this).1 (by decide)}
 unfold itoa at h
 split at h<;>split at h
 {have:=dec_inj _ _ _ (Nat.le_refl _) (List.cons.inj h).2;omega}
 {exact absurd h.symm (key _ _)}
 {exact absurd h (key _ _)}
 {have:=dec_inj _ _ _ (Nat.le_refl _) h;omega}
def numsT (l:List Int):List UInt8:=l.flatMap fun k=>itoa k++[44]
def writeT (n:Dn):List UInt8:=(if n.leaf then 49 else 48)::itoa n.fact++58::numsT n.cuts++58::numsT n.kids
def writeD (n:Dn):ByteArray:=⟨(writeT n).toArray⟩
theorem itoa_ne (k:Int):∃c l,itoa k=c::l/\ numCh c=true:=by
 have h:=itoa_num k;cases e:itoa k with| nil=>{exfalso;unfold itoa at e;(split at e);{cases e};{have:=congrArg List.length e;rw[decDigits_length]at this;have:=nDigits_pos k.toNat;simp at*;omega}}| cons c l=>{rw[e,List.all_cons]at h;exact⟨c,l,rfl,(Bool.and_eq_true_iff.1 h).1⟩}
theorem nums_inj :∀ {l l':List Int} {r r':List UInt8},(∀c∈r.head?,numCh c=false)->(∀c∈r'.head?,numCh c=false)->numsT l++r=numsT l'++r'->l=l'/\ r=r'
 | [],[],_,_,_,_,h=>⟨rfl,h⟩
 | [],k::l',r,r',h1,_,h=>by{exfalso;obtain⟨c,m,e,hc⟩:=itoa_ne k;have h:r=(numsT (k::l'))++r':=h;rw[numsT,List.flatMap_cons,e]at h;rw[h]at h1;have:=h1 c (by simp);rw[hc]at this;cases this}
 | k::l,[],r,r',_,h2,h=>by{exfalso;obtain⟨c,m,e,hc⟩:=itoa_ne k;have h:(numsT (k::l))++r=r':=h;rw[numsT,List.flatMap_cons,e]at h;rw[<-h]at h2;have:=h2 c (by simp);rw[hc]at this;cases this}
 | k::l,k'::l',r,r',h1,h2,h=>by{rw[numsT,numsT,List.flatMap_cons,List.flatMap_cons]at h;simp only[List.append_assoc,List.cons_append,List.nil_append]at h;obtain⟨e1,_,e3⟩:=run_inj (p:=numCh) (itoa_num k) (itoa_num k') (by decide) (by decide) h;obtain⟨e4,e5⟩:=nums_inj (l:=l) (l':=l') h1 h2 e3;exact⟨by rw[itoa_inj e1,e4],e5⟩}
theorem writeT_inj {n m:Dn}(h:writeT n=writeT m):n=m:=by
 unfold writeT at h;simp only[List.cons_append,List.append_assoc,List.cons.injEq]at h;obtain⟨h0,h⟩:=h;obtain⟨e1,_,e2⟩:=run_inj (p:=numCh) (itoa_num _) (itoa_num _) (by decide) (by decide) h;obtain⟨e3,e4⟩:=nums_inj (by intro c hc;simp at hc;subst hc;decide) (by intro c hc;simp at hc;subst hc;decide) e2;obtain⟨_,e4⟩:=List.cons.inj e4;obtain⟨e5,_⟩:=nums_inj (r:=[]) (r':=[]) (by simp) (by simp) (by simpa using e4);have e1:=itoa_inj e1;obtain⟨a,b,c,l⟩:=n;obtain⟨a',b',c',l'⟩:=m;simp only at e1 e3 e5 h0;subst e1 e3 e5;cases l<;>cases l'<;>simp at h0⊢
theorem writeD_inj {n m:Dn}(h:writeD n=writeD m):n=m:=by
 unfold writeD at h
 injection h with h
 exact writeT_inj (by simpa using congrArg Array.toList h)
mutual
def spellT :Fo->List UInt8
 | .mk op nm c n ks=>itoa op++nm.toList++44::itoa c++44::itoa n++40::spellsT ks++[41]
def spellsT :List Fo->List UInt8
 | []=>[]
 | k::ks=>spellT k++spellsT ks
end
def NameOk (nm:ByteArray):Prop:=(∀c∈nm.toList,c≠44)/\ ∀c∈nm.toList.head?,digCh c=false
mutual
def SpOk :Fo->Prop
 | .mk op nm _ _ ks=>(1<=op/\ op<=7)/\ NameOk nm/\ SpOks ks
def SpOks :List Fo->Prop
 | []=>True
 | k::ks=>SpOk k/\ SpOks ks
end
theorem SpOks_iff :∀ks,SpOks ks↔∀k∈ks,SpOk k
 | []=>by simp[SpOks]
 | k::ks=>by simp[SpOks,SpOks_iff ks]
theorem op_digit {op:Int}(h:1<=op/\ op<=7):itoa op=[UInt8.ofNat (48+op.toNat)]:=by
 unfold itoa;rw[if_neg (by omega),dec_small (by omega)]
theorem name_run {nm:ByteArray}(h:NameOk nm)(r:List UInt8):∃c q,nm.toList++44::r=c::q/\ digCh c=false:=by
 cases e:nm.toList with| nil=>exact⟨44,r,rfl,by decide⟩| cons c l=>exact⟨c,l++44::r,rfl,h.2 c (by rw[e];rfl)⟩
theorem name_inj {nm nm':ByteArray}(h:NameOk nm)(h':NameOk nm'){r r':List UInt8}(e:nm.toList++44::r=nm'.toList++44::r'):nm=nm'/\ r=r':=by
 obtain⟨e1,_,e2⟩:=run_inj (p:=fun c=>c !=44) (by rw[List.all_eq_true];intro c hc;simpa using h.1 c hc) (by rw[List.all_eq_true];intro c hc;simpa using h'.1 c hc) (by decide) (by decide) e;refine⟨?_,e2⟩;rw[ByteArray.toList_eq,ByteArray.toList_eq]at e1
 cases nm with | mk a=>cases nm' with | mk b=>{congr 1;exact Array.toList_inj.1 (by simpa using e1)}
theorem num_sep {a b:Int}{c:UInt8}{r r':List UInt8}(hc:numCh c=false)(h:itoa a++c::r=itoa b++c::r'):a=b/\ r=r':=by
 obtain⟨e1,_,e2⟩:=run_inj (p:=numCh) (itoa_num a) (itoa_num b) hc hc h;exact⟨itoa_inj e1,e2⟩
theorem spell_head {f:Fo}(h:SpOk f):∃c q,spellT f=c::q/\ digCh c=true:=by
 obtain⟨op,nm,c,n,ks⟩:=f;rw[SpOk]at h;rw[spellT,op_digit h.1];have h2:=dg_digit op.toNat 0;unfold dg at h2;rw[Nat.pow_zero,Nat.div_one,Nat.mod_eq_of_lt (by omega)]at h2;exact⟨_,_,rfl,h2⟩
mutual
theorem spell_inj :∀ {f f':Fo} {r r':List UInt8},SpOk f->SpOk f'->spellT f++r=spellT f'++r'->f=f'/\ r=r'
 | .mk op nm c n ks,.mk op' nm' c' n' ks',r,r',h,h',e=>by{rw[SpOk]at h h';rw[spellT,spellT,op_digit h.1,op_digit h'.1]at e;simp only[List.append_assoc,List.cons_append,List.nil_append,List.cons.injEq]at e;obtain⟨e0,e⟩:=e;have e0:=ofNat_inj (by omega) (by omega) e0;obtain⟨e1,e⟩:=name_inj h.2.1 h'.2.1 e;obtain⟨e2,e⟩:=num_sep (by decide) e;obtain⟨e3,e⟩:=num_sep (by decide) e;obtain⟨e4,e5⟩:=spells_inj h.2.2 h'.2.2 e;(have:op=op':=by omega);exact⟨by rw[this,e1,e2,e3,e4],e5⟩}
theorem spells_inj :∀ {ks ks':List Fo} {r r':List UInt8},SpOks ks->SpOks ks'->spellsT ks++41::r=spellsT ks'++41::r'->ks=ks'/\ r=r'
 | [],[],_,_,_,_,e=>by{rw[spellsT]at e;simp only[List.nil_append,List.cons.injEq,true_and]at e;exact⟨rfl,e⟩}
 | [],k::ks,_,_,_,h',e=>by{rw[SpOks]at h';obtain⟨c,q,e1,hc⟩:=spell_head h'.1;rw[spellsT,spellsT,e1]at e;simp only[List.nil_append,List.cons_append,List.cons.injEq]at e;rw[<-e.1]at hc;exact absurd hc (by decide)}
 | k::ks,[],_,_,h,_,e=>by{rw[SpOks]at h;obtain⟨c,q,e1,hc⟩:=spell_head h.1;rw[spellsT,spellsT,e1]at e;simp only[List.nil_append,List.cons_append,List.cons.injEq]at e;rw[e.1]at hc;exact absurd hc (by decide)}
 | k::ks,k'::ks',r,r',h,h',e=>by{rw[SpOks]at h h';rw[spellsT,spellsT]at e;simp only[List.append_assoc]at e;obtain⟨e1,e2⟩:=spell_inj h.1 h'.1 e;obtain⟨e3,e4⟩:=spells_inj h.2 h'.2 e2;exact⟨by rw[e1,e3],e4⟩}
end
def keyT (i:Nat)(f:Fo):List UInt8:=itoa i++spellT f
def keyD (i:Nat)(f:Fo):ByteArray:=⟨(keyT i f).toArray⟩
theorem keyT_inj {i i':Nat}{f f':Fo}(h:SpOk f)(h':SpOk f')(e:keyT i f=keyT i' f'):i=i'/\ f=f':=by
 have e0:=e;obtain⟨op,nm,c,n,ks⟩:=f;obtain⟨op',nm',c',n',ks'⟩:=f';have hs:=h;have hs':=h';rw[SpOk]at h h';unfold keyT at e;rw[spellT,spellT]at e;simp only[List.append_assoc,List.cons_append]at e;obtain⟨a,q,ea,ha⟩:=name_run h.2.1 (itoa c++44::(itoa n++40::(spellsT ks++[41])));obtain⟨b,p,eb,hb⟩:=name_run h'.2.1 (itoa c'++44::(itoa n'++40::(spellsT ks'++[41])));rw[ea,eb, <-List.append_assoc, <-List.append_assoc (itoa (i':Int))]at e
 have hd:∀(j:Nat) (o:Int),1<=o/\ o<=7->(itoa (j:Int)++itoa o).all digCh=true:=by{intro j o ho;rw[List.all_append,itoa_nonneg,dec_digits,op_digit ho];have h2:=dg_digit o.toNat 0;unfold dg at h2;rw[Nat.pow_zero,Nat.div_one,Nat.mod_eq_of_lt (by omega)]at h2;simp only[List.all_cons,List.all_nil,h2,Bool.and_self]}
 obtain⟨e1,_,_⟩:=run_inj (p:=digCh) (hd i op h.1) (hd i' op' h'.1) ha hb e;rw[op_digit h.1,op_digit h'.1]at e1;have e2:=(List.append_inj' e1 rfl).1;have e3:i=i':=by have:=itoa_inj e2;omega
 subst e3;unfold keyT at e0;have e4:=List.append_cancel_left e0;obtain⟨e5,_⟩:=spell_inj (r:=[]) (r':=[]) hs hs' (by rw[List.append_nil,List.append_nil];exact e4);exact⟨rfl,e5⟩
theorem keyD_inj {i i':Nat}{f f':Fo}(h:SpOk f)(h':SpOk f')(e:keyD i f=keyD i' f'):i=i'/\ f=f':=by
 unfold keyD at e
 injection e with e
 exact keyT_inj h h' (by simpa using congrArg Array.toList e)
open Go
theorem sA {α:Type _}(l:List α)(i:Nat)(a:α):l.toArray.setIfInBounds i a=(l.set i a).toArray:=List.setIfInBounds_toArray ..
theorem sB {α:Type _}(x:α)(l:List α)(a:α):(x::l).set 0 a=a::l:=List.set_cons_zero ..
theorem sC {α:Type _}(x:α)(l:List α)(n:Nat)(a:α):(x::l).set (n+1) a=x::l.set n a:=List.set_cons_succ ..
section
variable {P : Program} {ops : Array Oper} {Q : Exit -> Act -> World -> Prop} {md : Region.Mode} {S : World -> Prop} {o : Oper} {fuel : Nat} {l l' : Array Bool} {a a' : Act} {w : World}
theorem tk (i:Nat)(v:Value)(hy:∀w,S w->(execOp a.eval o).run P w=.ok (.value v) w)(h:wpAnyH P md ops Q S fuel l' a' w)
  (hi:ops[i]? =some o:=by simp only[List.getElem?_toArray,List.getElem?_cons_succ,List.getElem?_cons_zero];rfl) (ha:a.put o.dst v=a':=by(try simp only[Act.put,sA,sB,sC]);rfl) (hl:l.setIfInBounds i true=l':=by(try simp only[sA,sB,sC]);rfl) (hs:Region.noSelect ops=true:=by kernel_rfl) (hf:Region.free md ops l i=true:=by kernel_rfl) (hr:(Region.ready md ops l).contains i=true:=by kernel_rfl)
  (hQ:∀c a w,Q (.panic c) (a.put o.dst v) w->Q (.panic c) a w:=by exact fun _ _ _ h=>h) (hw:Region.wanted o (yielded ops a.tmps)=true:=by rfl) (hS:S w:=by assumption):wpAnyH P md ops Q S (fuel+1) l a w:=
 wpAnyH_take hi hs hf hr hQ (Or.inl ⟨hw,hy⟩) hS (ha▸hl▸h)
theorem tp (i:Nat){v:Value}(h:wpAnyH P md ops Q S fuel l' a' w)
  (hi:ops[i]? =some o:=by simp only[List.getElem?_toArray,List.getElem?_cons_succ,List.getElem?_cons_zero];rfl) (hy:∀w,S w->(execOp a.eval o).run P w=.ok (.value v) w:=by intro _ _;go_simp;try with_reducible rfl) (ha:a.put o.dst v=a':=by(try simp only[Act.put,sA,sB,sC]);rfl) (hl:l.setIfInBounds i true=l':=by(try simp only[sA,sB,sC]);rfl) (hs:Region.noSelect ops=true:=by kernel_rfl) (hf:Region.free md ops l i=true:=by kernel_rfl) (hr:(Region.ready md ops l).contains i=true:=by kernel_rfl)
  (hQ:∀c a w,Q (.panic c) (a.put o.dst v) w->Q (.panic c) a w:=by exact fun _ _ _ h=>h) (hw:Region.wanted o (yielded ops a.tmps)=true:=by rfl) (hS:S w:=by assumption):wpAnyH P md ops Q S (fuel+1) l a w:=
 tk i v hy h hi ha hl hs hf hr hQ hw hS
theorem tr (i:Nat)(h:∀K':Act->World->Prop,Shut (∀a w,S w->(S w->wpAnyH P md ops Q S fuel l' a w)->K' a w)->if Region.wanted o (yielded ops a.tmps)=true then Oper.wp P o a w K' Q else K' (a.put o.dst undef) w)
  (hi:ops[i]? =some o:=by simp only[List.getElem?_toArray,List.getElem?_cons_succ,List.getElem?_cons_zero];rfl) (hl:l.setIfInBounds i true=l':=by(try simp only[sA,sB,sC]);rfl) (hr:Region.ready md ops l=[i]:=by kernel_rfl):wpAnyH P md ops Q S (fuel+1) l a w:=
 wpAnyH_ready hr (by simp) (AllReadyH.cons hi (hl▸h) AllReadyH.nil)
theorem tt (i j:Nat){oj:Oper}{l2:Array Bool}(h:∀K':Act->World->Prop,Shut (∀a w,S w->(S w->wpAnyH P md ops Q S fuel l' a w)->K' a w)->if Region.wanted o (yielded ops a.tmps)=true then Oper.wp P o a w K' Q else K' (a.put o.dst undef) w)
  (h2:∀K':Act->World->Prop,Shut (∀a w,S w->(S w->wpAnyH P md ops Q S fuel l2 a w)->K' a w)->if Region.wanted oj (yielded ops a.tmps)=true then Oper.wp P oj a w K' Q else K' (a.put oj.dst undef) w)
  (hi:ops[i]? =some o:=by simp only[List.getElem?_toArray,List.getElem?_cons_succ,List.getElem?_cons_zero];rfl) (hj:ops[j]? =some oj:=by simp only[List.getElem?_toArray,List.getElem?_cons_succ,List.getElem?_cons_zero];rfl) (hl:l.setIfInBounds i true=l':=by(try simp only[sA,sB,sC]);rfl) (hl2:l.setIfInBounds j true=l2:=by(try simp only[sA,sB,sC]);rfl) (hr:Region.ready md ops l=[i,j]:=by kernel_rfl):wpAnyH P md ops Q S (fuel+1) l a w:=
 wpAnyH_ready hr (by simp) (AllReadyH.cons hi (hl▸h) (AllReadyH.cons hj (hl2▸h2) AllReadyH.nil))
end
section
open Go.RowKit
def solid :Obj->Bool
 | .cells _ t _=> !(t==106)&& !(t==132)
 | _=>false
structure MkS (H : Nat) (S : List Nat) (W W' : World) : Prop where
 os:W'.os=W.os
 tape:W'.tape=W.tape
 output:W'.output=W.output
 size:W.heap.size<=W'.heap.size
 keep:∀b o,W.heap[b]? =some o->(b<H\/(solid o=true/\ b∉S))->W'.heap[b]? =some o
def Fix (W:World)(H:Nat)(S:List Nat)(b:Nat):Prop:=b<W.heap.size/\ (b<H\/(b∉S/\ ∃o,W.heap[b]? =some o/\ solid o=true))
variable {H : Nat} {S S' : List Nat} {W W' W'' : World}
theorem heap_some {W:World}{b:Nat}(h:b<W.heap.size):∃o,W.heap[b]? =some o:=⟨_,Array.getElem?_eq_getElem h⟩
theorem heap_lt {W:World}{b:Nat}{o:Obj}(h:W.heap[b]? =some o):b<W.heap.size:=(Array.getElem?_eq_some_iff.1 h).1
theorem MkS.refl (H:Nat)(S:List Nat)(W:World):MkS H S W W:=⟨rfl,rfl,rfl,Nat.le_refl _,fun _ _ h _=>h⟩
theorem MkS.trans (h:MkS H S W W')(k:MkS H S W' W''):MkS H S W W'':=
 ⟨k.os.trans h.os,k.tape.trans h.tape,k.output.trans h.output,Nat.le_trans h.size k.size,fun b o hb hc=>k.keep b o (h.keep b o hb hc) hc⟩
theorem MkS.more (h:MkS H S W W')(hs:∀b∈S,b∈S'):MkS H S' W W':=
 ⟨h.os,h.tape,h.output,h.size,fun b o hb hc=>h.keep b o hb (hc.imp id fun hc=>⟨hc.1,fun e=>hc.2 (hs b e)⟩)⟩
theorem MkS.less (h:MkS H S' W W')(hs:∀b∈S',b<W.heap.size->b∈S):MkS H S W W':=
 ⟨h.os,h.tape,h.output,h.size,fun b o hb hc=>h.keep b o hb (hc.imp id fun hc=>⟨hc.1,fun e=>hc.2 (hs b e (heap_lt hb))⟩)⟩
theorem MkS.of_below {n:Nat}(h:Below n W W')(hn:W.heap.size<=n):MkS H S W W':=
 ⟨h.os,h.tape,h.output,h.size,fun b _ hb _=>(h.block b (Nat.lt_of_lt_of_le (heap_lt hb) hn)).trans hb⟩
theorem MkS.below (h:MkS H S W W')(hH:H<=W.heap.size):Below H W W':=
 ⟨h.os,h.tape,h.output,h.size,fun b hb=>by
  obtain⟨o,ho⟩:=heap_some (W:=W) (b:=b) (by omega)
  rw[h.keep b o ho (.inl hb),ho]⟩
theorem MkS.of_grown {row:Option Nat}(h:W.grownBy W' row)(hr:∀b,row=some b->H<=b/\ (b∈S\/∀o,W.heap[b]? =some o->solid o=false)):MkS H S W W':=
 ⟨h.os,h.tape,h.output,h.size,fun b o hb hc=>by
  refine(h.block b (heap_lt hb) fun e=>?_).trans hb
  obtain⟨h1,h2⟩:=hr b e.symm
  rcases hc with hc | hc
  {omega}
  ·rcases h2 with h2 | h2
   {exact hc.2 h2}
   ·rw[h2 o hb]at hc;exact absurd hc.1 (by decide)⟩
theorem MkS.of_upd {b:Nat}(h:Upd b W W')(hr:H<=b/\ (b∈S\/∀o,W.heap[b]? =some o->solid o=false)):MkS H S W W':=
 MkS.of_grown (row:=some b) ⟨h.os,h.tape,h.output,Nat.le_of_eq h.size.symm,fun k _ hne=>h.block k (fun e=>hne (by rw[e]))⟩ (fun b' e=>by cases e;exact hr)
theorem MkS.alloc (h:MkS H S W W')(o:Obj):MkS H S W (W'.alloc o):=h.trans (MkS.of_below ((Below.refl W'.heap.size W').alloc (Nat.le_refl _) o) (Nat.le_refl _))
theorem MkS.drewN (h:MkS H S W W')(n:Nat):MkS H S W (W'.drewN n):=h.trans (MkS.of_below (World.drewN_below W'.heap.size W' n) (Nat.le_refl _))
theorem Fix.heap {b:Nat}(h:Fix W H S b)(hs:MkS H S W W'):W'.heap[b]? =W.heap[b]? :=by
 obtain⟨o,ho⟩:=heap_some h.1;rw[ho];refine hs.keep b o ho (h.2.imp id fun hc=>⟨?_,hc.1⟩);obtain⟨o',h1,h2⟩:=hc.2;rw[ho]at h1;cases h1;exact h2
theorem Fix.step {b:Nat}(h:Fix W H S b)(hs:MkS H S W W'):Fix W' H S b:=by
 refine⟨Nat.lt_of_lt_of_le h.1 hs.size,h.2.imp id fun hc=>⟨hc.1,?_⟩⟩;rw[h.heap hs];exact hc.2
theorem Fix.cell {b i:Nat}(h:Fix W H S b)(hs:MkS H S W W'):W'.cell? ⟨b,i,none⟩=W.cell? ⟨b,i,none⟩:=World.cell?_of_block (a:=⟨b,i,none⟩) (h.heap hs)
theorem Fix.open_ {b:Nat}(h:Fix W H S b){k:Nat}(_hk:H<=k)(hne:b≠k):Fix W H (k::S) b:=
 ⟨h.1,h.2.imp id fun hc=>⟨fun e=>(List.mem_cons.1 e).elim hne hc.1,hc.2⟩⟩
theorem Fix.less {b:Nat}(h:Fix W H S b)(hs:∀k∈S',k∈S):Fix W H S' b:=⟨h.1,h.2.imp id fun hc=>⟨fun e=>hc.1 (hs _ e),hc.2⟩⟩
def IntsF (W:World)(H:Nat)(S:List Nat)(l:List Int)(v:Value):Prop:=IntsIn W W.heap.size l v/\ (l≠[]->∀a n c,v=.slice (some a) n c->Fix W H S a.block)
theorem IntsF.step {l:List Int}{v:Value}(h:IntsF W H S l v)(hs:MkS H S W W'):IntsF W' H S l v:=by
 obtain⟨⟨ao,cap,rfl,h1,h2,h3⟩,h4⟩:=h;refine⟨⟨ao,cap,rfl,h1,h2,fun hne=>?_⟩,fun hne a n c e=>(h4 hne a n c e).step hs⟩;obtain⟨b,off,rfl,hb,hc⟩:=h3 hne;have hf:=h4 hne _ _ _ rfl;refine⟨b,off,rfl,Nat.lt_of_lt_of_le hb hs.size,fun i hi=>?_⟩
 show W'.cell? _=_
 rw[Fix.cell (b:=b) hf hs];exact hc i hi
theorem IntsF.open_ {l:List Int}{v:Value}(h:IntsF W H S l v){k:Nat}(hk:H<=k)(hne:l≠[]->∀a n c,v=.slice (some a) n c->a.block≠k):IntsF W H (k::S) l v:=
 ⟨h.1,fun hl a n c e=>(h.2 hl a n c e).open_ hk (hne hl a n c e)⟩
theorem IntsF.less {l:List Int}{v:Value}(h:IntsF W H S l v)(hs:∀k∈S',k∈S):IntsF W H S' l v:=⟨h.1,fun hl a n c e=>(h.2 hl a n c e).less hs⟩
theorem IntsF.nil (W:World)(H:Nat)(S:List Nat):IntsF W H S [] (.slice none 0 0):=⟨⟨none,0,rfl,Nat.le_refl _,Nat.zero_le _,fun h=>absurd rfl h⟩,fun h=>absurd rfl h⟩
theorem IntsF.old {B:Nat}{w:World}{l:List Int}{v:Value}(h:IntsIn w B l v)(hB:B<=H)(hw:H<=w.heap.size)(hs:MkS H S w W):IntsF W H S l v:=by
 obtain⟨ao,cap,rfl,h1,h2,h3⟩:=h;have hb0:=hs.below hw;refine⟨⟨ao,cap,rfl,h1,h2,fun hne=>?_⟩,fun hne a n c e=>?_⟩
 {obtain⟨b,off,rfl,hb,hc⟩:=h3 hne;refine⟨b,off,rfl,by have:=hs.size;omega,fun i hi=>?_⟩;show W.cell? _=_;rw[hb0.cell (p:=⟨b,off+i*1,none⟩) (by show b<H;omega)];exact hc i hi}
 {obtain⟨b,off,rfl,hb,_⟩:=h3 hne;(cases e);exact⟨by show b<_;have:=hs.size;omega,.inl (by show b<H;omega)⟩}
structure DnA where
 n:Dn
 vc:Value
 vk:Value
def DnA.cells (x:DnA):List Value:=[.int .i64 x.n.fact,x.vc,x.vk,.bool x.n.leaf]
structure DnA.Ok (W : World) (H : Nat) (S : List Nat) (x : DnA) : Prop where
 cuts:IntsF W H S x.n.cuts x.vc
 kids:IntsF W H S x.n.kids x.vk
theorem DnA.Ok.step {x:DnA}(h:x.Ok W H S)(hs:MkS H S W W'):x.Ok W' H S:=⟨h.cuts.step hs,h.kids.step hs⟩
def keysL (t:List Dn):List (ByteArray×Int):=t.zipIdx.map fun p=>(writeD p.1,(p.2:Int))
theorem keysL_snoc (t:List Dn)(n:Dn):keysL (t++[n])=keysL t++[(writeD n,(t.length:Int))]:=by
 unfold keysL;rw[List.zipIdx_append]
 simp
theorem keysL_lookup (n:Dn):∀(t:List Dn) (k:Nat),((t.zipIdx k).map fun p=>(writeD p.1,(p.2:Int))).lookup (writeD n)=if n∈t then some ((k+t.idxOf n:Nat):Int)else none
 | [],_=>by simp
 | m::t,k=>by
  rw[List.zipIdx_cons,List.map_cons,List.lookup_cons];by_cases h:n=m
  {subst h;simp}
  ·have h1:(writeD n==writeD m)=false:=by
    rw[beq_eq_false_iff_ne];exact fun e=>h (writeD_inj e)
   have h2:(m==n)=false:=by rw[beq_eq_false_iff_ne];exact fun e=>h e.symm
   dsimp only
   rw[h1]
   dsimp only
   rw[keysL_lookup n t (k+1)];by_cases hm:n∈t
   {rw[if_pos hm,if_pos (List.mem_cons_of_mem _ hm),List.idxOf_cons,h2];simp only[cond_false];congr 2;omega}
   {rw[if_neg hm,if_neg (by simp[h,hm])]}
theorem keys_look (t:List Dn)(n:Dn):(keysL t).lookup (writeD n)=if n∈t then some ((t.idxOf n:Nat):Int)else none:=by
 have:=keysL_lookup n t 0;rw[Nat.zero_add]at this;exact this
structure MkIs (W : World) (H mb : Nat) (S : List Nat) (t : List Dn) : Prop where
 ge:H<=mb
 mem:∃(v:Value) (mo:Option Nat) (xs:List DnA),Blk W mb 132 #[v,.map mo]/\ W.ownsRow H 106 4 v xs.length (xs.flatMap DnA.cells)/\ xs.map (·.n)=t/\ (∀x∈xs,x.Ok W H S)/\
  ((mo=none/\ t=[])\/∃ab,mo=some ab/\ H<=ab/\ MapIs Value.string (Value.int .i64) W ab (keysL t))
 small:t.length<=1000000
theorem MkIs.keep {mb:Nat}{t:List Dn}(h:MkIs W H mb S t)(hs:MkS H S W W')(hk:∀b o,W.heap[b]? =some o->solid o=false->b<W.heap.size->W'.heap[b]? =some o):MkIs W' H mb S t:=by
 obtain⟨hge,⟨v,mo,xs,h1,h2,h3,h4,h5⟩,h6⟩:=h;refine⟨hge,⟨v,mo,xs,hk _ _ h1 (by simp[solid]) h1.lt,own_block h2 fun g hg=>?_,h3,fun x hx=>(h4 x hx).step hs,h5.imp id ?_⟩,h6⟩
 {(rcases h2.2 with⟨rfl,_⟩ | ⟨g',cap,cur,rfl,_,hgb,_⟩);{simp[Value.ownBlock]at hg};{(have:g'=g:=by simpa[Value.ownBlock]using hg);subst this;rw[hgb];exact hk _ _ hgb (by simp[solid]) (heap_lt hgb)}}
 {rintro⟨ab,e,hab,es,c,hm,hm2⟩;exact⟨ab,e,hab,es,c,hk _ _ hm rfl (heap_lt hm),hm2⟩}
theorem MkIs.below {mb:Nat}{t:List Dn}(h:MkIs W H mb S t){n:Nat}(hb:Below n W W')(hn:W.heap.size<=n):MkIs W' H mb S t:=
 h.keep (MkS.of_below hb hn) fun b o ho _ hlt=>(hb.block b (by omega)).trans ho
theorem MkIs.fresh {mb:Nat}{t:List Dn}(h:MkIs W H mb S t){k:Nat}(hk:W.heap.size<=k)(hs:MkS H S W W')(hs':∀b o,W.heap[b]? =some o->solid o=false->b<W.heap.size->W'.heap[b]? =some o):MkIs W' H mb (k::S) t:=by
 obtain⟨hge,⟨v,mo,xs,h1,h2,h3,h4,h5⟩,h6⟩:=h.keep hs hs';obtain⟨_,⟨v0,mo0,xs0,g1,g2,g3,g4,g5⟩,_⟩:=h
 have e:v=v0/\ mo=mo0:=by{have:=hs' _ _ g1 (by simp[solid]) g1.lt;have h1':W'.heap[mb]? =_:=h1;rw[this]at h1';injection h1' with h1';injection h1' with h1' _ _;simp at h1';exact⟨h1'.1.symm,h1'.2.symm⟩}
 have hHs:H<=W.heap.size:=by have:=g1.lt;omega
 refine⟨hge,⟨v0,mo0,xs0,by rw[<-e.1, <-e.2];exact h1,own_block g2 fun g hg=>?_,g3,fun x hx=>?_,?_⟩,h6⟩
 {(rcases g2.2 with⟨rfl,_⟩ | ⟨g',cap,cur,rfl,_,hgb,_⟩);{simp[Value.ownBlock]at hg};{(have:g'=g:=by simpa[Value.ownBlock]using hg);subst this;rw[hgb];exact hs' _ _ hgb (by simp[solid]) (heap_lt hgb)}}
 {have hx4:=g4 x hx;(have ne:∀ {l:List Int} {v:Value},IntsF W H S l v->IntsF W' H (k::S) l v:=fun hf=>(hf.step hs).open_ (by omega) fun hl a n c e=>by{have:=(hf.2 hl a n c e).1;omega});exact⟨ne hx4.cuts,ne hx4.kids⟩}
 {rw[<-e.2];exact h5}
theorem MkIs.less {mb:Nat}{t:List Dn}(h:MkIs W H mb S t)(hs:∀k∈S',k∈S):MkIs W H mb S' t:=by
 obtain⟨hge,⟨v,mo,xs,h1,h2,h3,h4,h5⟩,h6⟩:=h;exact⟨hge,⟨v,mo,xs,h1,h2,h3,fun x hx=>⟨(h4 x hx).cuts.less hs,(h4 x hx).kids.less hs⟩,h5⟩,h6⟩
end
end Go.Proofs.YtihniipjfdenbaaGreatDoor
