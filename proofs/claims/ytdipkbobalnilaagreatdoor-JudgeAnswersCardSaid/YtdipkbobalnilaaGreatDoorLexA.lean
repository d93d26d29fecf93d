/- A range over a function, inside a fence: a scope without jumps; what a round keeps, by the types of blocks. Of no program. -/
import Derived.Test.YtdipkbobalnilaaGreatDoorAl
import Derived.Test.YtdipkbobalnilaaGreatDoorMemA
import Derived.Deep.OwnRows
import Derived.Shelf.Strings.Search1
import Derived.Lib.AtoiErrMem
import Derived.RangeFuncNested
import Derived.RangeFuncBound
import Derived.OwnWalkIn
import Derived.TacticsInMore
import Derived.LoopNIn
import Derived.LoopIn
set_option maxRecDepth 100000
set_option maxHeartbeats 4000000
namespace Go.Proofs.YtdipkbobalnilaaGreatDoor
open Tryz
open Go.RowKit
variable{j:Nat}{M:Oper}
def okB(k:Nat)(c:Nat):Bool:=decide (((97<=(c:Int)/\(c:Int)<=122)\/(65<=(c:Int)/\(c:Int)<=90))\/(k≠0/\((48<=(c:Int)/\(c:Int)<=57)\/(c:Int)=95)))
def Tl:List UInt8->Nat->Bool
 | [],_=>true
 | c::l,k=>okB k c.toNat&& Tl l (k+1)
def Oe(s:Na):Bool:=Tl s.data.toList 0&& !s.toList.isEmpty&& decide (s.size<=24)
theorem jA(s:Na)(k:Nat)(h:k<s.size):Tl (s.data.toList.drop k) k=(okB k s[k].toNat&& Tl (s.data.toList.drop (k+1)) (k+1)):=by
 rw[Gc (by simpa using h),Tl];rfl
theorem zo(s:Na):s.toList.isEmpty=decide (s.size=0):=by
 rw[Vd];cases s with|mk d=>grind [ByteArray.size]
theorem WH(c:Int)(b:0<=c)(d:c<=255):
  (0<=c/\c<=47/\decide (97<=c)=false/\decide (c<=122)=true/\decide (65<=c)=false/\decide (c<=90)=true/\decide (48<=c)=false/\decide (c<=57)=true/\(c==95)=false)\/
  (48<=c/\c<=57/\decide (97<=c)=false/\decide (c<=122)=true/\decide (65<=c)=false/\decide (c<=90)=true/\decide (48<=c)=true/\decide (c<=57)=true/\(c==95)=false)\/
  (58<=c/\c<=64/\decide (97<=c)=false/\decide (c<=122)=true/\decide (65<=c)=false/\decide (c<=90)=true/\decide (48<=c)=true/\decide (c<=57)=false/\(c==95)=false)\/
  (65<=c/\c<=90/\decide (97<=c)=false/\decide (c<=122)=true/\decide (65<=c)=true/\decide (c<=90)=true/\decide (48<=c)=true/\decide (c<=57)=false/\(c==95)=false)\/
  (91<=c/\c<=94/\decide (97<=c)=false/\decide (c<=122)=true/\decide (65<=c)=true/\decide (c<=90)=false/\decide (48<=c)=true/\decide (c<=57)=false/\(c==95)=false)\/
  (95<=c/\c<=95/\decide (97<=c)=false/\decide (c<=122)=true/\decide (65<=c)=true/\decide (c<=90)=false/\decide (48<=c)=true/\decide (c<=57)=false/\(c==95)=true)\/
  (96<=c/\c<=96/\decide (97<=c)=false/\decide (c<=122)=true/\decide (65<=c)=true/\decide (c<=90)=false/\decide (48<=c)=true/\decide (c<=57)=false/\(c==95)=false)\/
  (97<=c/\c<=122/\decide (97<=c)=true/\decide (c<=122)=true/\decide (65<=c)=true/\decide (c<=90)=false/\decide (48<=c)=true/\decide (c<=57)=false/\(c==95)=false)\/
  (123<=c/\c<=255/\decide (97<=c)=true/\decide (c<=122)=false/\decide (65<=c)=true/\decide (c<=90)=false/\decide (48<=c)=true/\decide (c<=57)=false/\(c==95)=false):=by
 have a:(0<=c/\c<=47)\/(48<=c/\c<=57)\/(58<=c/\c<=64)\/(65<=c/\c<=90)\/(91<=c/\c<=94)\/(95<=c/\c<=95)\/(96<=c/\c<=96)\/(97<=c/\c<=122)\/(123<=c/\c<=255):=by omega
 rcases a with h|h|h|h|h|h|h|h|h
 all_goals grind
theorem Hs(s:Na)(w:Ca)(hs:s.size<=maxLen):
  Db 84 #[.string s] w λe E=>e=.returned (.bool (Oe s))/\w=E:=by
 unfold maxLen at hs;have x:Hid (Oe s=(Tl _ 0&& !s.toList.isEmpty&& decide _)):=rfl;generalize Oe s=R at*
 go_enter func84,ntmps84;go_wp2
 go_loop [9] (λi=>∃k:Nat,k<=s.size/\i=pa k/\Hid (Tl (s.data.toList.drop k) k=Tl s.data.toList 0)) (λi=>s.size-(intOf i).toNat)
 case atStart=>exact⟨0,ja,rfl,rfl⟩
 case round=>
  obtain⟨k,F,rfl,n⟩:=hrel;by_cases hlt:k<s.size
  ·have z:=jA s k hlt
   rw[n.o]at z;have y:=la z;clear z n;have p:okB k s[k].toNat=true->Tl (s.data.toList.drop (k+1)) (k+1)=Tl s.data.toList 0:=λh=>by rw[y.o,h,tf]
   have hno:okB k s[k].toNat=false->R=false:=λh=>by rw[x.o,y.o,h];simp
   have B:=la p;have A:=la hno;clear p hno y x;have v:=WH (s[k].toNat) ja (by have:=s[k].toNat_lt;omega);by_cases q:k=0
   ·subst q
    rcases v with⟨a,hc',b,c,t3,d,f,g,j⟩|⟨a,hc',b,c,t3,d,f,g,j⟩|⟨a,hc',b,c,t3,d,f,g,j⟩|⟨a,hc',b,c,t3,d,f,g,j⟩|⟨a,hc',b,c,t3,d,f,g,j⟩|⟨a,hc',b,c,t3,d,f,g,j⟩|⟨a,hc',b,c,t3,d,f,g,j⟩|⟨a,hc',b,c,t3,d,f,g,j⟩|⟨a,hc',b,c,t3,d,f,g,j⟩
    all_goals
     go_wp2
     first
     | (go_ret;exact⟨Cb (A.o (Za ja)).symm,rfl⟩)
     | (go_round;(case rel=>exact⟨0+1,ja,by go_num,B.o (Hb ja)⟩);(case measure=>first|(simp[intOf];omega)|simp[intOf]))
   ·have D:((k:Int)==0)=false:=by simp[q]
    have C:0<k:=by omega
    clear q;rcases v with⟨a,hc',b,c,t3,d,f,g,j⟩|⟨a,hc',b,c,t3,d,f,g,j⟩|⟨a,hc',b,c,t3,d,f,g,j⟩|⟨a,hc',b,c,t3,d,f,g,j⟩|⟨a,hc',b,c,t3,d,f,g,j⟩|⟨a,hc',b,c,t3,d,f,g,j⟩|⟨a,hc',b,c,t3,d,f,g,j⟩|⟨a,hc',b,c,t3,d,f,g,j⟩|⟨a,hc',b,c,t3,d,f,g,j⟩
    all_goals
     go_wp2
     first
     | (go_ret;exact⟨Cb (A.o (Za ja)).symm,rfl⟩)
     | (go_round;(case rel=>exact⟨k+1,ja,by go_num,B.o (Hb ja)⟩);(case measure=>first|(simp[intOf];omega)|simp[intOf]))
  ·have l:Hid (R=(!s.toList.isEmpty&& decide (s.size<=24))):=by
    have r:=n.o;rw[Bb (by simp;omega),Tl]at r
    show _=_
    rw[x.o, <-r];simp
   clear n x;have m:=zo s;by_cases r:s.size=0
   {rw[Hb r]at m;rw[m]at l;go_wp2;go_ret;exact⟨Cb (by rw[l.o];simp),rfl⟩}
   {rw[Za r]at m;rw[m]at l;by_cases t:s.size<=24;{(have u:(s.size:Int)<=24:=ja);rw[Hb t]at l;go_wp2;go_ret;exact⟨Cb (by rw[l.o];simp),rfl⟩};{(have u:¬(s.size:Int)<=24:=ja);rw[Za t]at l;go_wp2;go_ret;exact⟨Cb (by rw[l.o];simp),rfl⟩}}
structure Bq (b : Nat) (w w' : Ca) : Prop where
 os:w'.os=w.os
 tape:w'.tape=w.tape
 output:w'.output=w.output
 size:w'.heap.size=w.heap.size
 block:∀k,k≠b->w'.heap[k]? =w.heap[k]?
theorem Bq.below{b B:Nat}{w a:Ca}(h:Bq b w a)(c:B<=b):Da B w a:=⟨h.os,h.tape,h.output,De h.size.symm,λk d=>h.block k ja⟩
theorem Bq.cell{b:Nat}{w a:Ca}(h:Bq b w a){p:Addr}(c:p.block≠b):a.cell? p=w.cell? p:=World.cell?_of_block (h.block _ c)
theorem Bq.frozen{b:Nat}{w a:Ca}(h:Bq b w a){p:Addr}(c:p.block≠b):a.frozen? p=w.frozen? p:=sf (h.block _ c)
section
variable {κ ν : Type} (ek : κ -> Ea) (ev : ν -> Ea)
def Wb(w:Ca)(b:Nat)(l:List (κ×ν)):Prop:=
 ∃a clock,w.heap[b]? =some (.map a clock)/\a.toList.map (λe=>(e.key,e.val))=l.map λp=>(ek p.1,ev p.2)
variable {ek ev}
theorem Wb.Lw{b:Nat}{w a:Ca}{l:List (κ×ν)}(h:Wb ek ev w b l)(i:Bq j w a)(g:b≠j):Wb ek ev a b l:=by
 obtain⟨d,c,e,f⟩:=h;exact⟨d,c,by rw[i.block _ g];exact e,f⟩
theorem Wb.below{b B:Nat}{w a:Ca}{l:List (κ×ν)}(h:Wb ek ev w b l)(i:Da B w a)(g:b<B):Wb ek ev a b l:=by
 obtain⟨d,c,e,f⟩:=h;exact⟨d,c,by rw[i.block _ g];exact e,f⟩
theorem Wb.lt{b:Nat}{w:Ca}{l:List (κ×ν)}(h:Wb ek ev w b l):b<w.heap.size:=by
 obtain⟨d,c,a,e⟩:=h;exact(Array.getElem?_eq_some_iff.1 a).1
theorem Wb.made(w:Ca):Wb ek ev (w.alloc (.map #[] 0)) w.heap.size ([]:List (κ×ν)):=⟨#[],0,heap_alloc_new _ _,rfl⟩
theorem Wb.alloc{b:Nat}{w:Ca}{l:List (κ×ν)}(h:Wb ek ev w b l)(o:Obj):Wb ek ev (w.alloc o) b l:=
 h.below ((za _ _).alloc ja _) h.lt
end
theorem Tg{P:Program}{w:Ca}{b:Nat}{a:Array MapEntry}(h:w.heap[b]? =some (.map a j)):(getObj b).run P w=.ok (.map a j) w:=by
 grind [getObj,Sem.run]
theorem qo{P:Program}{w:Ca}{b:Nat}{a:Array MapEntry}(h:w.heap[b]? =some (.map a j))(o:Obj):(setObj b o).run P w=.ok () {w with heap:=w.heap.setIfInBounds b o}:=by
 grind [setObj,Sem.run]
section
variable {κ ν : Type} [BEq κ] (ek : κ -> Ea) (ev : ν -> Ea)
def ins:List (κ×ν)->κ->ν->List (κ×ν)
 | [],k,v=>[(k,v)]
 | (a,x)::l,k,v=>if k==a then(k,v)::l else(a,x)::ins l k v
structure KeyLaw (P : Program) (K : TypeId) : Prop where
 X4:∃d,P.underlying K=some d/\(∀a b:κ,Instr.sameNow d (ek a) (ek b)=some (a==b))/\(∀(w:Ca) (e:Bool) (a:κ),(Instr.checkKey e 10000 K (ek a)).run P w=.ok () w)
 bits:∀a:κ,Instr.sameBits 10000 (ek a) (ek a)=true
variable {ek ev}
theorem aD{d:TypeDesc}(hd:∀a b:κ,Instr.sameNow d (ek a) (ek b)=some (a==b))(k:κ)(v:ν):∀(l:List (κ×ν)) (c:List MapEntry) (i:Nat),
  c.map (λe=>(e.key,e.val))=l.map (λp=>(ek p.1,ev p.2))->l.lookup k=none->Instr.findNow d (ek k) c i=some none/\ins l k v=l++[(k,v)]
 | [],[],i,_,_=>⟨rfl,rfl⟩
 | (a,x)::l,e::c,i,h,g=>by
  simp at h;obtain⟨⟨m,n⟩,j⟩:=h;rw[Ab]at g;cases f:k==a with
  | true=>rw[f]at g;cases g
  | false=>
   rw[f]at g;obtain⟨o,q⟩:=aD hd k v l c (i+1) j g
   grind [Instr.findNow,ins]
 | [],e::c,i,h,_=>by cases h
 | (a,x)::l,[],i,h,_=>by cases h
theorem Il:∀(l:List (κ×ν)) (k:κ) (v:ν),l.lookup k=none->ins l k v=l++[(k,v)]
 | [],_,_,_=>rfl
 | (a,x)::l,k,v,h=>by{rw[Ab]at h;cases b:k==a with| true=>rw[b]at h;cases h| false=>rw[b]at h;simp[ins,b,Il l k v h]}
variable [LawfulBEq κ]
theorem bD{d:TypeDesc}(hd:∀a b:κ,Instr.sameNow d (ek a) (ek b)=some (a==b))(k:κ)(v x:ν):∀(l:List (κ×ν)) (c:List MapEntry) (i:Nat),
  c.map (λe=>(e.key,e.val))=l.map (λp=>(ek p.1,ev p.2))->l.lookup k=some x->
  ∃j,j<c.length/\Instr.findNow d (ek k) c i=some (some (i+j,ev x))/\(c[j]?.map (·.key))=some (ek k)/\
   (c.modify j λe=>{e with key:=ek k,val:=ev v}).map (λe=>(e.key,e.val))=(ins l k v).map (λp=>(ek p.1,ev p.2))
 | [],[],i,_,h=>by cases h
 | (a,y)::l,e::c,i,h,g=>by{simp at h;obtain⟨⟨m,r⟩,n⟩:=h;rw[Ab]at g;cases f:k==a with| true=>{rw[f]at g;(obtain rfl:y=x:=by simpa using g);(obtain rfl:k=a:=by simpa using f);refine⟨0,Aa,?_,by simp[m],?_⟩;all_goals grind [Instr.findNow,ins]}| false=>{rw[f]at g;obtain⟨j,o,s,q,t⟩:=bD hd k v x l c (i+1) n g;refine⟨j+1,by simpa using o,?_,by simpa using q,?_⟩;all_goals grind [Instr.findNow,ins]}}
 | [],e::c,i,h,_=>by cases h
 | (a,y)::l,[],i,h,_=>by cases h
variable {P : Program} {T K E : TypeId}
theorem run_findKey(i:KeyLaw ek P K){w:Ca}{l:List (κ×ν)}{a:Array MapEntry}(f:a.toList.map (λe=>(e.key,e.val))=l.map λp=>(ek p.1,ev p.2))(k:κ)(v:ν):
  match l.lookup k with
  | none=>(Instr.findKey K (ek k) a.toList).run P w=.ok none w/\ins l k v=l++[(k,v)]
  | some x=>∃j,j<a.size/\(Instr.findKey K (ek k) a.toList).run P w=.ok (some (j,ev x)) w/\(a[j]?.map (·.key))=some (ek k)/\
    (a.modify j λe=>{e with key:=ek k,val:=ev v}).toList.map (λe=>(e.key,e.val))=(ins l k v).map (λp=>(ek p.1,ev p.2)):=by
 obtain⟨d,h,hd,_⟩:=i.X4;cases g:l.lookup k with| none=>{obtain⟨b,c⟩:=aD hd k v l _ 0 f g;refine⟨?_,c⟩;simp[Instr.findKey,run_underlying h,b]}| some x=>{obtain⟨j,n,b,c,m⟩:=bD hd k v x l _ 0 f g;refine⟨j,ja,?_,by simpa using c,?_⟩;{simp[Instr.findKey,run_underlying h,b]};{rw[Array.toList_modify];exact m}}
theorem zk(g:KeyLaw ek P K)(r:P.underlying T=some (.map K E)){z:Ea}(t:∀w,(zeroValue E).run P w=.ok z w){w:Ca}{b:Nat}{l:List (κ×ν)}(h:Wb ek ev w b l)(k:κ):
  (Instr.lookup T (.map (some b)) (ek k) false).run P w=.ok (match l.lookup k with|some x=>ev x|none=>z) w:=by
 obtain⟨a,c,n,o⟩:=h;have q:=λe=>(Classical.choose_spec g.X4).2.2 w e k
 cases m:l.lookup k with
 | none=>
  obtain⟨d,s,hd,_⟩:=g.X4
  have f:(Instr.findKey K (ek k) a.toList).run P w=.ok none w:=by
   have:Instr.findNow d (ek k) a.toList 0=some none:=by
    have aux:∀(l:List (κ×ν)) (a:List MapEntry) (i:Nat),a.map (λe=>(e.key,e.val))=l.map (λp=>(ek p.1,ev p.2))->l.lookup k=none->Instr.findNow d (ek k) a i=some none:=by
     intro l
     induction l with
     | nil=>intro a i h _;cases a with|nil=>rfl|cons e a=>cases h
     | cons p l u=>
      intro a i h m;cases a with
      | nil=>cases h
      | cons e a=>
       grind [Instr.findNow]
    exact aux l _ 0 o m
   simp[Instr.findKey,run_underlying s,this]
  simp[Instr.lookup,run_underlying r,Tg n,q,f,t]
 | some x=>{have:=run_findKey g (w:=w) o k x;rw[m]at this;obtain⟨j,_,f,_,_⟩:=this;simp[Instr.lookup,run_underlying r,Tg n,q,f]}
theorem af(f:KeyLaw ek P K)(n:P.underlying T=some (.map K E)){z:Ea}(s:∀w,(zeroValue E).run P w=.ok z w){w:Ca}{b:Nat}{l:List (κ×ν)}(h:Wb ek ev w b l)(k:κ):
  (Instr.lookup T (.map (some b)) (ek k) true).run P w=.ok (match l.lookup k with|some x=>.tuple #[ev x,.bool true] | none=>.tuple #[z,.bool false]) w:=by
 have u:=zk f n s h k;obtain⟨a,c,o,q⟩:=h;have r:=λe=>(Classical.choose_spec f.X4).2.2 w e k
 cases m:l.lookup k with
 | none=>
  obtain⟨d,t,hd,_⟩:=f.X4
  have g:(Instr.findKey K (ek k) a.toList).run P w=.ok none w:=by
   have aux:∀(l:List (κ×ν)) (a:List MapEntry) (i:Nat),a.map (λe=>(e.key,e.val))=l.map (λp=>(ek p.1,ev p.2))->l.lookup k=none->Instr.findNow d (ek k) a i=some none:=by
    intro l
    induction l with
    | nil=>intro a i h _;cases a with|nil=>rfl|cons e a=>cases h
    | cons p l v=>
     intro a i h m;cases a with
     | nil=>cases h
     | cons e a=>
      grind [Instr.findNow]
   simp[Instr.findKey,run_underlying t,aux l _ 0 q m]
  simp[Instr.lookup,run_underlying n,Tg o,r,g,s]
 | some x=>{have:=run_findKey f (w:=w) q k x;rw[m]at this;obtain⟨j,_,g,_,_⟩:=this;simp[Instr.lookup,run_underlying n,Tg o,r,g]}
theorem run_store(i:KeyLaw ek P K)(s:P.underlying T=some (.map K E)){w:Ca}{b:Nat}{l:List (κ×ν)}(h:Wb ek ev w b l)(k:κ)(v:ν):
  ∃m,(Instr.mapUpdate T (.map (some b)) (ek k) (ev v)).run P w=.ok () m/\Wb ek ev m b (ins l k v)/\Bq b w m:=by
 have hlt:=h.lt;obtain⟨t,c,g,n⟩:=h;have o:=λe=>(Classical.choose_spec i.X4).2.2 w e k
 have a:=run_findKey i (w:=w) n k v
 have put:∀(es':Array MapEntry) (f:Nat),es'.toList.map (λe=>(e.key,e.val))=(ins l k v).map (λp=>(ek p.1,ev p.2))->
   Wb ek ev {w with heap:=w.heap.setIfInBounds b (.map es' f)} b _/\Bq b w {w with heap:=w.heap.setIfInBounds b (.map es' f)}:=λes' f u=>
  ⟨⟨es',f,by simp[hlt],u⟩,⟨rfl,rfl,rfl,Aa,λj q=>by simp[Ne.symm q]⟩⟩
 cases r:l.lookup k with| none=>{rw[r]at a;refine⟨_,?_,put (t.push {key:=ek k,val:=ev v,born:=c}) (c+1) (by simp[n,a.2])⟩;simp[Instr.mapUpdate,run_underlying s,Tg g,qo g,o,a.1]}| some x=>{rw[r]at a;obtain⟨j,q,a,d,y⟩:=a;refine⟨_,?_,put _ c y⟩;(have hst:(Instr.keyThatStays (ek k) (ek k)).run P w=.ok (ek k) w:=by simp[Instr.keyThatStays,i.bits]);simp[Instr.mapUpdate,run_underlying s,Tg g,qo g,o,a,d,hst]}
end
theorem Io{κ ν:Type}[BEq κ][LawfulBEq κ]{ek:κ->Ea}{ev:ν->Ea}{P:Program}{T K E:TypeId}{ops:Array Oper}{rest:List Oper}{a:Act}{Q:Exit->Act->Ca->Prop}{w:Ca}
  (g:M.guard=none) (m x y:Operand) (n:M.op=.mapUpdate T m x y) (i:KeyLaw ek P K) (o:P.underlying T=some (.map K E)) {b:Nat} {l:List (κ×ν)} (h:Wb ek ev w b l)
  (k:κ) (v:ν) (j:a.eval m=.map (some b)) (p:a.eval x=ek k) (q:a.eval y=ev v)
  (f:∀c,Wb ek ev c b (ins l k v)->Bq b w c->wpList P ops Q rest (a.put M.dst undef) c):wpList P ops Q (M::rest) a w:=by
 refine wpList_plain g λr hK'=>?_
 obtain⟨c,hrun,d,e⟩:=run_store i o h k v;unfold Oper.wp;simp[execOp,n,j,p,q,hrun];exact hK' _ _ (f c d e)
instance : LawfulBEq Na where
 eq_of_beq {a b} h:=by{cases a with|mk a=>cases b with|mk b=>{have:(a==b)=true:=h;rw[eq_of_beq this]}}
 rfl {a}:=by
  cases a with|mk a=>
   show(a==a)=true
   exact BEq.rfl
theorem Hp(a b:Na):(a==b)=(a.toList==b.toList):=by
 rw[Rc,Pc,Pc];constructor
 {rintro rfl;rfl}
 {intro h;rw[Vd,Vd]at h;cases a with|mk a=>simp_all}
theorem zw{P:Program}{K:TypeId}(h:P.underlying K=some .string)(n:Nat)(w:Ca)(e:Bool)(a:Na):(Instr.checkKey e (n+1) K (.string a)).run P w=.ok () w:=by
 rw[Instr.checkKey.eq_def];simp[run_underlying h]
theorem Aw{P:Program}{K:TypeId}{q:IntKind}(h:P.underlying K=some (.int q))(n:Nat)(w:Ca)(e:Bool)(a:Int):(Instr.checkKey e (n+1) K (.int q a)).run P w=.ok () w:=by
 rw[Instr.checkKey.eq_def];simp[run_underlying h]
theorem RE(n:Nat)(a:Na):Instr.sameBits (n+1) (.string a) (.string a)=true:=by rw[Instr.sameBits];simp
theorem SE(n:Nat)(q:IntKind)(a:Int):Instr.sameBits (n+1) (.int q a) (.int q a)=true:=by rw[Instr.sameBits];simp
theorem DJ{P:Program}{K:TypeId}(h:P.underlying K=some .string):KeyLaw Value.string P K:=
 ⟨⟨_,h,λ_ _=>rfl,λw e a=>zw h _ w e a⟩,λa=>RE _ a⟩
theorem tE{P:Program}{K:TypeId}{q:IntKind}(h:P.underlying K=some (.int q)):KeyLaw (Value.int q) P K:=
 ⟨⟨_,h,λ_ _=>by simp[Instr.sameNow],λw e a=>Aw h _ w e a⟩,λa=>SE _ q a⟩
theorem Ux(s:Na)(c:Int)(w:Ca):
  Db 216 #[.string s,.int .u8 c] w λe a=>e=.returned (pa (Lib.indexByte s.data.toList c.toNat.toUInt8))/\w=a:=by
 go_enter func216,ntmps216;go_wp2;rw[run_callFunc_extern func222 Ha Ha Ha Ha,Lib.run_indexByteString];simp only[Result.andThen];go_wp2;go_ret;exact⟨rfl,rfl⟩
theorem Qr(s:Na)(c:Int)(w:Ca):
  Db 213 #[.string s,.int .u8 c] w λe a=>e=.returned (pa (Lib.indexByte s.data.toList c.toNat.toUInt8))/\w=a:=by
 go_enter func213,ntmps213;go_wp2_with (go_at_call 216;refine(Ux _ _ _).mono ?_;rintro e b ⟨rfl,rfl⟩);go_ret;exact⟨rfl,rfl⟩
def Rs(c:Nat):Nat:=
 if(97<=c/\c<=122)\/(65<=c/\c<=90)then 3 else if 48<=c/\c<=57 then 4 else if c=32\/c=9\/c=10 then 1
 else if c=59\/c=44\/c=46\/c=58\/c=40\/c=41\/c=91\/c=93\/c=123\/c=125\/c=61 then 6 else if c=60\/c=62 then 7 else 0
def Oq(c:Nat):Nat:=if c=35 then 2 else if c=95 then 5 else if c=33 then 8 else Rs c
def MK:Na:={data:=#[32,9,10]}
def D1:Na:={data:=#[59,44,46,58,40,41,91,93,123,125,61]}
theorem SS(c:Nat)(h:c<256):decide (0<=Lib.indexByte MK.data.toList (c:Int).toNat.toUInt8)=decide (c=32\/c=9\/c=10):=by
 have:∀c:Fin 256,decide (0<=Lib.indexByte MK.data.toList (c.1:Int).toNat.toUInt8)=decide (c.1=32\/c.1=9\/c.1=10):=by decide+kernel
 exact this ⟨c,h⟩
theorem IR(c:Nat)(h:c<256):decide (0<=Lib.indexByte D1.data.toList (c:Int).toNat.toUInt8)=
  decide (c=59\/c=44\/c=46\/c=58\/c=40\/c=41\/c=91\/c=93\/c=123\/c=125\/c=61):=by
 have:∀c:Fin 256,decide (0<=Lib.indexByte D1.data.toList (c.1:Int).toNat.toUInt8)=
  decide (c.1=59\/c.1=44\/c.1=46\/c.1=58\/c.1=40\/c.1=41\/c.1=91\/c.1=93\/c.1=123\/c.1=125\/c.1=61):=by decide+kernel
 exact this ⟨c,h⟩
theorem Pj{P:Program}{ops:Array Oper}{rest:List Oper}{a:Act}{Q:Exit->Act->Ca->Prop}{w:Ca}{b:TypeId}
  (f:M.guard=none) (g:M.op=.alloc b) (z:Ea) (n:Nat) (k:(P.info? b).map (·.zero)=some (some (.agg (Kf n z))))
  (h:∀c,Da w.heap.size w c->c.heap.size=w.heap.size+1->c.rowIs w.heap.size b n (λ_=>z)->wpList P ops Q rest (a.put M.dst (Ma w.heap.size)) c):
  wpList P ops Q (M::rest) a w:=by
 refine wpList_plain f λj hK'=>?_
 obtain⟨i,e,d⟩:∃i,P.info? b=some i/\i.zero=some (.agg (Kf n z)):=by{simp_all}
 have hrun:(Instr.alloc b true (.tuple #[])).run P w=.ok (Ma w.heap.size) (w.alloc (.cells (Kf n z) b)):=by{simp[Instr.alloc,zeroValue,typeInfo,e,d,newVar,newRow,Value.cells]}
 unfold Oper.wp;simp only[execOp,g];simp[hrun];refine hK' _ _ (h _ ((za _ _).alloc ja _) Aa ?_);have:=World.rowIs_alloc w (Kf n z) b (λ_=>z) (λi e=>by grind)
 grind
theorem Nn{P:Program}{ops:Array Oper}{rest:List Oper}{a:Act}{Q:Exit->Act->Ca->Prop}{w:Ca}{i t:TypeId}{f:Nat->Ea}
  (n:M.guard=none) (x y:Operand) (o:M.op=.store i x y) (cells:List Ea) (b:Nat) (p:a.eval x=Ma b) (q:a.eval y=.agg cells.toArray)
  (d:w.rowIs b t j f) (z:j=cells.length) (s:(P.info? i).map (·.size)=some cells.length) (m:cells.toArray.all (·.oneCell')=true)
  (h:∀g,Bq b w g->g.rangeAt b 0 cells->wpList P ops Q rest (a.put M.dst undef) g):wpList P ops Q (M::rest) a w:=by
 have A:w.there b 0 cells.length:=λc u=>⟨by rw[Vb,d.cell ja];rfl,by rw[Vb];exact d.frozen c⟩
 refine wpList_store_mid n i x y o b 0 _ p q ja ja m (h _ ?_ ?_)
 ·have:∀(e:List Ea) (M:Nat) (W:Ca),Bq b w W->Bq b w (W.setCells b M e):=by
   intro e
   induction e with| nil=>intro _ _ h;exact h| cons v e r=>{intro M W h;refine r _ _ ⟨h.os,h.tape,h.output,?_,λk l=>?_⟩;{simpa[World.setCell]using h.size};{rw[Oc _ _ _ _ (by exact l)];exact h.block k l}}
  exact this _ _ _ ⟨rfl,rfl,rfl,rfl,λ_ _=>rfl⟩
 grind [World.rangeAt_setCells_same]
theorem Ee{b:Func}{p:Tmp}{d:TypeId}(h:b.results=#[.cell p d])(tmps:Array Ea)(P:Program)(w:Ca){a:Addr}(c:tmps.getD p undef=.pointer (some a)){v:Ea}
  (e:(loadVar d a).run P w=.ok v w):(results b tmps).run P w=.ok v w:=by
 rw[Nf]at c;simp[results,h,c,e,asAddr]
theorem Xj{d:Func}{p q r:Tmp}{i j t3:TypeId}(h:d.results=#[.cell p i,.cell q j,.cell r t3])(tmps:Array Ea)(P:Program)(w:Ca){a b c:Addr}
  (e:tmps.getD p undef=.pointer (some a)) (f:tmps.getD q undef=.pointer (some b)) (g:tmps.getD r undef=.pointer (some c)) {u v x:Ea}
  (k:(loadVar i a).run P w=.ok u w) (l:(loadVar j b).run P w=.ok v w) (m:(loadVar t3 c).run P w=.ok x w):(results d tmps).run P w=.ok (.tuple #[u,v,x]) w:=by
 rw[Nf]at e f g;simp[results,h,e,f,g,k,l,m,asAddr]
def Bp:List Ea:=(List.range 256).map λc=>Value.int .u8 (Oq c)
theorem Bu:Bp.length=256:=by simp[Bp]
theorem XH:Bp.toArray.all (·.oneCell')=true:=all_oneCell_toArray λv a=>by
 simp only[Bp,List.mem_map]at a;obtain⟨c,_,rfl⟩:=a
 rfl
theorem Sq:(prog.info? 289).map (·.size)=some Bp.length:=by rw[Bu];kernel_rfl
theorem YH(j:Nat)(v:Ea)(h:Bp[j]? =some v):j<256/\v=.int .u8 (Oq j):=by
 have a:j<256:=by grind [Bu]
 refine⟨a,?_⟩;simp only[Bp,gd,List.getElem?_range a,Option.map_some,Yg]at h;exact h.symm
def oB:Ea:=.int .u8 0
theorem oB.Dg:(prog.info? 289).map (·.zero)=some (some (.agg (Kf 256 oB))):=by kernel_rfl
def kA(k:Nat):Nat->Ea:=λi=>.int .u8 (if i<k then(Rs i:Nat)else 0:Nat)
theorem zl{w:Ca}{b k:Nat}(h:w.rowIs b 289 256 (kA k))(c:Rs k=j):(w.setCell (Ja b k) (.int .u8 j)).rowIs b 289 256 (kA (k+1)):=by
 refine(h.set k _).congr λi a=>?_
 grind [kA]
theorem ZN{w:Ca}{b k:Nat}(h:w.rowIs b 289 256 (kA k))(c:Rs k=0):w.rowIs b 289 256 (kA (k+1)):=by
 refine h.congr λi a=>?_
 grind [kA]
theorem NK{w:Ca}{b:Nat}(h:w.rowIs b 289 256 (kA 256)):
  (((w.setCell (Ja b 35) (.int .u8 2)).setCell (Ja b 95) (.int .u8 5)).setCell (Ja b 33) (.int .u8 8)).rangeAt b 0 Bp:=by
 have a:=((h.set 35 (.int .u8 2)).set 95 (.int .u8 5)).set 33 (.int .u8 8);intro j v d;obtain⟨c,rfl⟩:=YH j v d;rw[Vb,a.cell c]
 grind [Oq,kA]
theorem ZH(w:Ca):
  Db 209 #[] w λe O=>e=.returned (.agg Bp.toArray)/\Da w.heap.size w O:=by
 go_enter func209,ntmps209;go_wp2_with (first|((with_reducible show wpList _ _ _ (⟨some 0,Op.alloc 289,_,_,_,_⟩::_) _ _);refine Pj rfl rfl oB 256 oB.Dg ?_;intro W1 L N M)|((with_reducible show wpList _ _ _ (⟨some 1,Op.alloc 289,_,_,_,_⟩::_) _ _);refine Pj rfl rfl oB 256 oB.Dg ?_;intro W2 D V F));have A:=M.of_block (D.block _ ja);have W:=la ((L.trans (D.mono ja)));have I:=la A;rw[N]at F;have J:=la (show W2.rowIs _ 289 256 (kA 0)from F.congr λi _=>by simp[kA,oB]);clear A M F L D N V
 go_loopw [4] (λi wr=>∃k:Nat,k<=256/\i=pa k/\wr.rowIs (w.heap.size+1) 289 256 (kA k)/\Hid (wr.rowIs w.heap.size 289 256 (λ_=>oB))/\Hid (Da w.heap.size w wr)) (λi _=>256-(intOf i).toNat)
 case atStart=>exact⟨0,ja,rfl,J.o,I,W⟩
 case round=>
  obtain⟨k,hk,rfl,l,m,p⟩:=hrel;clear W I J;by_cases hlt:k<256
  ·have b:=l.cell hlt
   have hf:=l.frozen k;have n:=la l;have I7:IntKind.u8.wrap k=k:=by simp[IntKind.wrap,IntKind.signed,IntKind.bits];omega
   have q:=WH k ja ja
   have E:(k=32\/k=9\/k=10)\/(k=59\/k=44\/k=46\/k=58\/k=40\/k=41\/k=91\/k=93\/k=123\/k=125\/k=61)\/k=60\/k=62\/
    ¬(k=32\/k=9\/k=10\/k=59\/k=44\/k=46\/k=58\/k=40\/k=41\/k=91\/k=93\/k=123\/k=125\/k=61\/k=60\/k=62):=by omega
   obtain⟨x1,G⟩:∃x1,x1=Lib.indexByte MK.data.toList (k:Int).toNat.toUInt8:=⟨_,rfl⟩;obtain⟨x2,H⟩:∃x2,x2=Lib.indexByte D1.data.toList (k:Int).toNat.toUInt8:=⟨_,rfl⟩;have v:decide (0<=x1)=decide (k=32\/k=9\/k=10):=by rw[G];exact SS k hlt
   have x:decide (0<=x2)=decide (k=59\/k=44\/k=46\/k=58\/k=40\/k=41\/k=91\/k=93\/k=123\/k=125\/k=61):=by rw[H];exact IR k hlt
   have t:=la (show Db 213 #[.string {data:=#[32,9,10]},.int .u8 k] wr λe O=>e=.returned (pa x1)/\wr=O by rw[G];exact Qr _ _ _);have u:=la (show Db 213 #[.string {data:=#[59,44,46,58,40,41,91,93,123,125,61]},.int .u8 k] wr λe O=>e=.returned (pa x2)/\wr=O by rw[H];exact Qr _ _ _);clear G H;by_cases Q:(97<=k/\k<=122)\/(65<=k/\k<=90)
   ·have r:=la (show Rs k=3 by unfold Rs;rw[Ga Q])
    clear v x E;rcases Q with⟨Y,Z⟩|⟨Y,Z⟩
    all_goals
     rcases q with⟨b,hc',c,d,t3,f,g,h,j⟩|⟨b,hc',c,d,t3,f,g,h,j⟩|⟨b,hc',c,d,t3,f,g,h,j⟩|⟨b,hc',c,d,t3,f,g,h,j⟩|⟨b,hc',c,d,t3,f,g,h,j⟩|⟨b,hc',c,d,t3,f,g,h,j⟩|⟨b,hc',c,d,t3,f,g,h,j⟩|⟨b,hc',c,d,t3,f,g,h,j⟩|⟨b,hc',c,d,t3,f,g,h,j⟩<;>first|(exfalso;omega)|skip
     go_wp2;go_roundw
     case rel=>exact⟨_,ja,by go_num,zl n.o r.o,m.o.setOther Aa _,p.o.setCell Aa _⟩
     case measure=>simp[intOf];omega
   ·by_cases S:48<=k/\k<=57
    {have r:=la (show Rs k=4 by unfold Rs;rw[if_neg Q,Ga S]);clear v x E;obtain⟨Y,Z⟩:=S;(rcases q with⟨b,hc',c,d,t3,f,g,h,j⟩|⟨b,hc',c,d,t3,f,g,h,j⟩|⟨b,hc',c,d,t3,f,g,h,j⟩|⟨b,hc',c,d,t3,f,g,h,j⟩|⟨b,hc',c,d,t3,f,g,h,j⟩|⟨b,hc',c,d,t3,f,g,h,j⟩|⟨b,hc',c,d,t3,f,g,h,j⟩|⟨b,hc',c,d,t3,f,g,h,j⟩|⟨b,hc',c,d,t3,f,g,h,j⟩<;>first|(exfalso;omega)|skip);go_wp2;go_roundw;(case rel=>exact⟨_,ja,by go_num,zl n.o r.o,m.o.setOther Aa _,p.o.setCell Aa _⟩);case measure=>simp[intOf];omega}
    ·have y:=la (show Rs k=_ by unfold Rs;rw[if_neg Q,if_neg S])
     rcases E with s|s|s|s|s
     ·have r:=la (show Rs k=1 by rw[y.o,Ga s])
      have P:decide (0<=x1)=true:=by rw[v];exact Hb s
      rcases q with⟨b,hc',c,d,t3,f,g,h,j⟩|⟨b,hc',c,d,t3,f,g,h,j⟩|⟨b,hc',c,d,t3,f,g,h,j⟩|⟨b,hc',c,d,t3,f,g,h,j⟩|⟨b,hc',c,d,t3,f,g,h,j⟩|⟨b,hc',c,d,t3,f,g,h,j⟩|⟨b,hc',c,d,t3,f,g,h,j⟩|⟨b,hc',c,d,t3,f,g,h,j⟩|⟨b,hc',c,d,t3,f,g,h,j⟩<;>first|(exfalso;omega)|skip
      all_goals
       go_wp2_with (first|(go_at_call 213;(with_reducible refine t.o.mono ?_);rintro e z ⟨rfl,rfl⟩)|(go_at_call 213;(with_reducible refine u.o.mono ?_);rintro e z ⟨rfl,rfl⟩));go_roundw
       case rel=>exact⟨_,ja,by go_num,zl n.o r.o,m.o.setOther Aa _,p.o.setCell Aa _⟩
       case measure=>simp[intOf];omega
     ·have r:=la (show Rs k=6 by rw[y.o,if_neg ja,Ga s])
      have P:decide (0<=x1)=false:=by rw[v];exact Za ja
      have R:decide (0<=x2)=true:=by rw[x];exact Hb s
      clear v x s y;rcases q with⟨b,hc',c,d,t3,f,g,h,j⟩|⟨b,hc',c,d,t3,f,g,h,j⟩|⟨b,hc',c,d,t3,f,g,h,j⟩|⟨b,hc',c,d,t3,f,g,h,j⟩|⟨b,hc',c,d,t3,f,g,h,j⟩|⟨b,hc',c,d,t3,f,g,h,j⟩|⟨b,hc',c,d,t3,f,g,h,j⟩|⟨b,hc',c,d,t3,f,g,h,j⟩|⟨b,hc',c,d,t3,f,g,h,j⟩<;>first|(exfalso;omega)|skip
      all_goals
       go_wp2_with (first|(go_at_call 213;(with_reducible refine t.o.mono ?_);rintro e z ⟨rfl,rfl⟩)|(go_at_call 213;(with_reducible refine u.o.mono ?_);rintro e z ⟨rfl,rfl⟩));go_roundw
       case rel=>exact⟨_,ja,by go_num,zl n.o r.o,m.o.setOther Aa _,p.o.setCell Aa _⟩
       case measure=>simp[intOf];omega
     ·have r:=la (show Rs k=7 by rw[y.o,if_neg ja,if_neg ja,Ga ja])
      have P:decide (0<=x1)=false:=by rw[v];exact Za ja
      have R:decide (0<=x2)=false:=by rw[x];exact Za ja
      clear v x;have X:((k:Int)==60)=true:=by simp;omega
      clear s y;rcases q with⟨b,hc',c,d,t3,f,g,h,j⟩|⟨b,hc',c,d,t3,f,g,h,j⟩|⟨b,hc',c,d,t3,f,g,h,j⟩|⟨b,hc',c,d,t3,f,g,h,j⟩|⟨b,hc',c,d,t3,f,g,h,j⟩|⟨b,hc',c,d,t3,f,g,h,j⟩|⟨b,hc',c,d,t3,f,g,h,j⟩|⟨b,hc',c,d,t3,f,g,h,j⟩|⟨b,hc',c,d,t3,f,g,h,j⟩<;>first|(exfalso;omega)|skip
      all_goals
       go_wp2_with (first|(go_at_call 213;(with_reducible refine t.o.mono ?_);rintro e z ⟨rfl,rfl⟩)|(go_at_call 213;(with_reducible refine u.o.mono ?_);rintro e z ⟨rfl,rfl⟩));go_roundw
       case rel=>exact⟨_,ja,by go_num,zl n.o r.o,m.o.setOther Aa _,p.o.setCell Aa _⟩
       case measure=>simp[intOf];omega
     ·have r:=la (show Rs k=7 by rw[y.o,if_neg ja,if_neg ja,Ga ja])
      have P:decide (0<=x1)=false:=by rw[v];exact Za ja
      have R:decide (0<=x2)=false:=by rw[x];exact Za ja
      clear v x;have X:((k:Int)==60)=false:=by simp;omega
      have d4:((k:Int)==62)=true:=by simp;omega
      clear s y;rcases q with⟨b,hc',c,d,t3,f,g,h,j⟩|⟨b,hc',c,d,t3,f,g,h,j⟩|⟨b,hc',c,d,t3,f,g,h,j⟩|⟨b,hc',c,d,t3,f,g,h,j⟩|⟨b,hc',c,d,t3,f,g,h,j⟩|⟨b,hc',c,d,t3,f,g,h,j⟩|⟨b,hc',c,d,t3,f,g,h,j⟩|⟨b,hc',c,d,t3,f,g,h,j⟩|⟨b,hc',c,d,t3,f,g,h,j⟩<;>first|(exfalso;omega)|skip
      all_goals
       go_wp2_with (first|(go_at_call 213;(with_reducible refine t.o.mono ?_);rintro e z ⟨rfl,rfl⟩)|(go_at_call 213;(with_reducible refine u.o.mono ?_);rintro e z ⟨rfl,rfl⟩));go_roundw
       case rel=>exact⟨_,ja,by go_num,zl n.o r.o,m.o.setOther Aa _,p.o.setCell Aa _⟩
       case measure=>simp[intOf];omega
     ·have r:=la (show Rs k=0 by rw[y.o,if_neg ja,if_neg ja,if_neg ja])
      have P:decide (0<=x1)=false:=by rw[v];exact Za ja
      have R:decide (0<=x2)=false:=by rw[x];exact Za ja
      clear v x;have X:((k:Int)==60)=false:=by simp;omega
      have d4:((k:Int)==62)=false:=by simp;omega
      clear s y;rcases q with⟨b,hc',c,d,t3,f,g,h,j⟩|⟨b,hc',c,d,t3,f,g,h,j⟩|⟨b,hc',c,d,t3,f,g,h,j⟩|⟨b,hc',c,d,t3,f,g,h,j⟩|⟨b,hc',c,d,t3,f,g,h,j⟩|⟨b,hc',c,d,t3,f,g,h,j⟩|⟨b,hc',c,d,t3,f,g,h,j⟩|⟨b,hc',c,d,t3,f,g,h,j⟩|⟨b,hc',c,d,t3,f,g,h,j⟩<;>first|(exfalso;omega)|skip
      all_goals
       go_wp2_with (first|(go_at_call 213;(with_reducible refine t.o.mono ?_);rintro e z ⟨rfl,rfl⟩)|(go_at_call 213;(with_reducible refine u.o.mono ?_);rintro e z ⟨rfl,rfl⟩));go_roundw
       case rel=>exact⟨_,ja,by go_num,ZN n.o r.o,ja,p.o⟩
       case measure=>simp[intOf];omega
  ·obtain rfl:k=256:=by omega
   have c35:=l.cell (i:=35) ja;have c95:=l.cell (i:=95) ja;have c33:=l.cell (i:=33) ja;have f35:=l.frozen 35;have f95:=l.frozen 95;have f33:=l.frozen 33;have B:=NK l;have K:=la B;have C:=la (((m.o.setOther (a:=Ja (w.heap.size+1) 35) Aa (.int .u8 2)).setOther (a:=Ja (w.heap.size+1) 95) Aa (.int .u8 5)).setOther (a:=Ja (w.heap.size+1) 33) Aa (.int .u8 8));clear l B
   go_wp2_with (first
    | ((with_reducible show wpList _ _ _ (⟨_,Op.load 289 (.tmp 1),_,_,_,_⟩::_) _ _);refine wpList_load_mid rfl _ (.tmp 1) rfl (w.heap.size+1) 0 rfl Bp _ K.o Tryz.underlying289 rfl Sq ?_)
    | ((with_reducible show wpList _ _ _ (⟨_,Op.store 289 (.tmp 0) (.tmp 56),_,_,_,_⟩::_) _ _);refine Nn rfl (.tmp 0) (.tmp 56) rfl Bp w.heap.size rfl rfl C.o Bu.symm Sq XH ?_;intro W5 U T))
   refine Fb ?_ rfl ⟨rfl,?_⟩
   {have:=run_loadVar_mid W5 _ 0 289 Bp _ T Tryz.underlying289 rfl Sq;exact Ee rfl _ _ _ rfl this}
   {exact(((p.o.setCell Aa _).setCell Aa _).setCell Aa _).trans (U.below ja)}
def Cu(s:Na)(i:Nat):Nat:=if h:i<s.size then Oq s[i].toNat else 0
theorem JR(s:Na)(i:Nat)(c b:Nat)(w:Ca)(_hs:s.size<=9223372036854775807)(m:w.cell? (Ya c)=some (.string s))(j:w.rangeAt b 0 Bp):
  Db 210 #[pa i,Ma c,Ma b] w λe k=>e=.returned (.int .u8 (Cu s i))/\w=k:=by
 by_cases h:i<s.size
 ·have l:w.cell? (Ja b (s[i].toNat))=some (.int .u8 (Oq s[i].toNat)):=by
   have hlt:s[i].toNat<Bp.length:=by rw[Bu];exact s[i].toNat_lt
   have f:Bp[s[i].toNat]? =some (Value.int .u8 (Oq s[i].toNat)):=by{obtain⟨v,d⟩:∃v,Bp[s[i].toNat]? =some v:=⟨_,Xa hlt⟩;rw[d,(YH _ _ d).2]}
   simpa using j _ _ f
  have a:=la (show Cu s i=Oq s[i].toNat by unfold Cu;rw[dif_pos]);have g:(s[i].toNat:Int)<256:=by have:=s[i].toNat_lt;omega
  go_enter func210,ntmps210;go_wp2;go_ret;exact⟨vf (by rw[a.o]),rfl⟩
 {have a:=la (show Cu s i=0 by unfold Cu;rw[dif_neg h]);go_enter func210,ntmps210;go_wp2;go_ret;exact⟨vf (by rw[a.o];rfl),rfl⟩}
def Vx(l:List UInt8):Nat:=l.foldl (λn c=>10*n+(c.toNat-48)) 0
theorem cD(l:List UInt8)(c:UInt8):Vx (l++[c])=10*Vx l+(c.toNat-48):=by simp[Vx]
theorem dD(s:Na)(k:Nat)(h:k<s.size):s.data.toList.take (k+1)=s.data.toList.take k++[s[k]]:=by
 rw[Ta (by simpa using h)];rfl
def TE(s:Na):Prop:=∀i (h:i<s.size),48<=s[i].toNat/\s[i].toNat<=57
theorem pW(s:Na)(hd:TE s)(k:Nat)(h:k<=s.size):Vx (s.data.toList.take k)<10 ^ k:=by
 induction k with
 | zero=>simp[Vx]
 | succ k a=>
  have b:=a ja;have c:=hd k ja
  grind [dD,cD]
theorem OK(s:Na)(E:1<=s.size)(v:s.size<=18)(hd:TE s)(w:Ca):
  Db 214 #[.string s] w λe D=>e=.returned (.tuple #[pa (Vx s.data.toList),.nilIface])/\Da w.heap.size w D:=by
 have hcv:=Lib.run_convert_string_bytes w 9 139 5 s Tryz.underlying9 Tryz.underlying139 Tryz.underlying5
 have d:∀j,(h:j<s.size)->(Lib.bytesWorld w 5 s).cell? (Ja w.heap.size j)=some (.int .u8 s[j].toNat):=λj m=>by{rw[Lib.bytesWorld_cell w 5 s j m];congr 3;(have hj':j<s.data.toList.length:=by simpa using m);rw[zc,Xa hj'];rfl}
 have b:=la (Lib.bytesWorld_below w 5 s);obtain⟨l,c⟩:∃l,Lib.bytesWorld w 5 s=l:=⟨_,rfl⟩;rw[c]at hcv d b;clear c;have p:=la d;have i:=la hd;clear d;have A:=hd 0 ja;have u:((s[0].toNat:Int)==45)=false:=by simp;omega
 have t:((s[0].toNat:Int)==43)=false:=by simp;omega
 clear hd;have q:=la (show Vx s.data.toList=Vx (s.data.toList.take s.size) by rw[Kc Aa]);generalize Vx _=V at*
 go_enter func214,ntmps214;go_wp2
 go_loop [49,6] (λg C=>∃k acc:Nat,k<=s.size/\g=pa k/\C=pa acc/\Hid (acc=Vx (s.data.toList.take k))) (λg _=>s.size-(intOf g).toNat)
 case atStart=>exact⟨0,0,ja,rfl,rfl,la rfl⟩
 case round=>(obtain⟨k,acc,z,rfl,rfl,a⟩:=hrel;by_cases hlt:k<s.size;{have x:=p.o k hlt;have y:=i.o k hlt;have f:acc<100000000000000000:=by{have:=pW s i.o k z;rw[<-a.o]at this;refine Zb this (Nat.pow_le_pow_right (n:=10) ja (show k<=17 by omega))};have r:=la (show 10*acc+(s[k].toNat-48)=Vx (s.data.toList.take (k+1)) by rw[dD,cD,a.o]);go_wp2;go_round;(case rel=>exact⟨_,_,ja,by go_num,by first|go_num|(congr 1;unfold wrap64;omega),r⟩);case measure=>simp[intOf];omega};{(obtain rfl:k=s.size:=ja);(have B:acc=V:=by rw[q.o];exact a.o);subst B;go_wp2;go_ret2;exact⟨rfl,b.o⟩})
theorem US(s:Na)(c:1<=s.size)(a:s.size<=18)(hd:TE s)(w:Ca):
  Db 212 #[.string s] w λe d=>e=.returned (.tuple #[pa (Vx s.data.toList),.nilIface])/\Da w.heap.size w d:=by
 have H:=la (OK s c a hd w);go_enter func212,ntmps212;go_wp2_with (go_at_call 214;(with_reducible refine H.o.mono ?_);rintro e f ⟨rfl,b⟩);go_ret2;exact⟨rfl,b⟩
section
variable {P : Program} {b : Frame} {a : Act} {k : List Item} {cs : List Frame} {w : Ca}
theorem rj{c:Code}:step P (lone (b.atR a (.code (.scope c)::k)) cs w)=.next (lone (b.atR a (.code c:: .inScope c::k)) cs w):=
 step_lone_go (by simp[stepG,stepG.exec,Frame.atR])
theorem pB{c:Code}:step P (lone (b.atR a (.inScope c::k)) cs w)=.next (lone (b.atR a k) cs w):=
 step_lone_go (by simp[stepG,stepG.exec,Frame.atR])
theorem sr{F:Fence}{Q:Exit->Act->Ca->Prop}{c:Code}(h:c.wpIn F j P (Exit.noGoto Q) a w):(Code.scope c).wpIn F j P Q a w:=by
 intro b k cs r o p;have i:(lone (b.atR a (.code (.scope c)::k)) cs w).fenced P F:=fenced_calm o p rfl;obtain⟨e,f,g,m,d⟩:=h b (.inScope c::k) cs r o p;cases e with
 | normal=>exact⟨_,f,g,m,.head i rj (StepsIn.trans d (.one (fenced_calm o p rfl) pB))⟩
 | exit s=>
  have y:exitTo s (.inScope c::k)=exitTo s k:=by simp[exitTo]
  exact⟨_,f,g,m,λk' v=>.head i rj (d.1 k' (by grind)),
   λq v=>let⟨n,t,u⟩:=d.2 q (by grind);⟨n,t,.head i rj u⟩⟩
 | goto l=>exact m.elim
 | ret=>exact⟨_,f,g,m,.of_steps (.one i rj) d⟩
 | panic x=>exact⟨_,f,g,m,.of_steps (.one i rj) d⟩
 | outgrown=>exact⟨_,f,g,m,.of_steps (.one i rj) d⟩
end
def zg(t:TypeId)(W a:Ca):Prop:=∀(k:Nat) (cs:Array Ea) (z:Nat×Nat),W.heap[k]? =some (Obj.cells cs t z)->a.heap[k]? =some (Obj.cells cs t z)
theorem zg.refl(t:TypeId)(W:Ca):zg t W W:=λ_ _ _ h=>h
theorem zg.trans{t:TypeId}{A B C:Ca}(h:zg t A B)(k:zg t B C):zg t A C:=λi cs z a=>k i cs z (h i cs z a)
theorem zg.putObj(t:TypeId)(W:Ca)(l:Nat)(o d:Obj)(b:W.heap[l]? =some o)(c:o.isCells=false):zg t W (W.putObj l d):=λk cs z a=>
 (World.putObj_heap_other (λe=>by subst e;rw[b]at a;cases a;cases c)).trans a
theorem zg.below{t:TypeId}{W a:Ca}(h:Da W.heap.size W a):zg t W a:=λk _ _ b=>(h.block k (Array.getElem?_eq_some_iff.1 b).1).trans b
theorem zg.grown{t:TypeId}{W b:Ca}{row:Option Nat}(h:W.grownBy b row)(c:∀(r:Nat) (cs:Array Ea) (z:Nat×Nat),row=some r->W.heap[r]? ≠some (Obj.cells cs t z)):zg t W b:=λk cs z a=>
 (h.block k (Array.getElem?_eq_some_iff.1 a).1 (λe=>c k cs z e.symm a)).trans a
theorem zg.boxed{t a:TypeId}(hne:a≠t){W:Ca}{v:Ea}(h:Boxed W j a v)(b:Ea):zg t W (W.setCell (Ya j) b):=
 zg.grown (grownBy_setCell' W j b) (λr cs z e c=>by cases e;rw[h]at c;grind)
theorem jg{W a:Ca}(h:Da W.heap.size W a):W.grownBy a none:=⟨h.os,h.tape,h.output,h.size,λk b _=>h.block k b⟩
theorem xj{a:Type}{J:a->Ca->Prop}(c:AbidesFrom j J){s:a}{W b:Ca}(hs:J s W)(h:Da W.heap.size W b):J s b:=
 c s W b none hs (jg h) (λr e=>by cases e)
def Kept(t:TypeId)(n:Nat)(W a:Ca):Prop:=Da n W a/\zg t W a
theorem Kept.t{t:TypeId}{n:Nat}:∀ {A B C:Ca},Kept t n A B->Kept t n B C->Kept t n A C:=λh k=>⟨h.1.trans k.1,h.2.trans k.2⟩
theorem Kept.b{t:TypeId}{w:Ca}(g:j<=w.heap.size):∀(W:Ca) (l:Nat) (o a:Obj),w.heap.size<=l->W.heap[l]? =some o->o.isCells=false->o.isWalk=false->Kept t j W (W.putObj l a):=
 λW l o a e c d f=>⟨belowK_b g W l o a e c d f,zg.putObj t W l o a c d⟩
end Go.Proofs.YtdipkbobalnilaaGreatDoor
