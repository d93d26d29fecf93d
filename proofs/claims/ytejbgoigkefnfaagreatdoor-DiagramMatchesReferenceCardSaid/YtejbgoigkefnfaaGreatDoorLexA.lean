/- A range over a function, inside a fence: a scope without jumps; what a round keeps, by the types of blocks. Of no program. -/
import Derived.Test.YtejbgoigkefnfaaGreatDoorAl
import Derived.Test.YtejbgoigkefnfaaGreatDoorMemA
import Derived.Deep.OwnRows
import Derived.Shelf.Strings.Search1
import Derived.Lib.AtoiErrMem
import Derived.RangeFuncNested
import Derived.RangeFuncBound
import Derived.OwnWalkIn
import Derived.TacticsInMore
import Derived.LoopNIn
import Derived.LoopIn
set_option maxRecDepth 100000
set_option maxHeartbeats 4000000
namespace Go.Proofs.YtejbgoigkefnfaaGreatDoor
open Go.RowKit
def okB (k:Nat)(c:Nat):Bool:=decide (((97<=(c:Int)/\ (c:Int)<=122)\/(65<=(c:Int)/\ (c:Int)<=90))\/(k≠0/\ ((48<=(c:Int)/\ (c:Int)<=57)\/(c:Int)=95)))
def Vi :List UInt8->Nat->Bool
 | [],_=>true
 | c::l,k=>okB k c.toNat&& Vi l (k+1)
def Hd (s:ByteArray):Bool:=Vi s.data.toList 0&& !s.toList.isEmpty&& decide (s.size<=24)
theorem zt (s:ByteArray)(k:Nat)(h:k<s.size):Vi (s.data.toList.drop k) k=(okB k s[k].toNat&& Vi (s.data.toList.drop (k+1)) (k+1)):=by
 rw[Qb (by simpa using h),Vi];rfl
theorem Bk (s:ByteArray):s.toList.isEmpty=decide (s.size=0):=by
 rw[Sc];cases s with | mk d=>cases d with | mk l=>cases l<;>simp[ByteArray.size]
theorem lr (c:Int)(h0:0<=c)(h1:c<=255):
  (0<=c/\ c<=47/\ decide (97<=c)=false/\ decide (c<=122)=true/\ decide (65<=c)=false/\ decide (c<=90)=true/\ decide (48<=c)=false/\ decide (c<=57)=true/\ (c==95)=false)\/
  (48<=c/\ c<=57/\ decide (97<=c)=false/\ decide (c<=122)=true/\ decide (65<=c)=false/\ decide (c<=90)=true/\ decide (48<=c)=true/\ decide (c<=57)=true/\ (c==95)=false)\/
  (58<=c/\ c<=64/\ decide (97<=c)=false/\ decide (c<=122)=true/\ decide (65<=c)=false/\ decide (c<=90)=true/\ decide (48<=c)=true/\ decide (c<=57)=false/\ (c==95)=false)\/
  (65<=c/\ c<=90/\ decide (97<=c)=false/\ decide (c<=122)=true/\ decide (65<=c)=true/\ decide (c<=90)=true/\ decide (48<=c)=true/\ decide (c<=57)=false/\ (c==95)=false)\/
  (91<=c/\ c<=94/\ decide (97<=c)=false/\ decide (c<=122)=true/\ decide (65<=c)=true/\ decide (c<=90)=false/\ decide (48<=c)=true/\ decide (c<=57)=false/\ (c==95)=false)\/
  (95<=c/\ c<=95/\ decide (97<=c)=false/\ decide (c<=122)=true/\ decide (65<=c)=true/\ decide (c<=90)=false/\ decide (48<=c)=true/\ decide (c<=57)=false/\ (c==95)=true)\/
  (96<=c/\ c<=96/\ decide (97<=c)=false/\ decide (c<=122)=true/\ decide (65<=c)=true/\ decide (c<=90)=false/\ decide (48<=c)=true/\ decide (c<=57)=false/\ (c==95)=false)\/
  (97<=c/\ c<=122/\ decide (97<=c)=true/\ decide (c<=122)=true/\ decide (65<=c)=true/\ decide (c<=90)=false/\ decide (48<=c)=true/\ decide (c<=57)=false/\ (c==95)=false)\/
  (123<=c/\ c<=255/\ decide (97<=c)=true/\ decide (c<=122)=false/\ decide (65<=c)=true/\ decide (c<=90)=false/\ decide (48<=c)=true/\ decide (c<=57)=false/\ (c==95)=false):=by
 have hcl:(0<=c/\ c<=47)\/(48<=c/\ c<=57)\/(58<=c/\ c<=64)\/(65<=c/\ c<=90)\/(91<=c/\ c<=94)\/(95<=c/\ c<=95)\/(96<=c/\ c<=96)\/(97<=c/\ c<=122)\/(123<=c/\ c<=255):=by omega
 rcases hcl with h | h | h | h | h | h | h | h | h
 {left;exact⟨ia,ia,by simp;omega,by simp;omega,by simp;omega,by simp;omega,by simp;omega,by simp;omega,by simp;omega⟩}
 {right;left;exact⟨ia,ia,by simp;omega,by simp;omega,by simp;omega,by simp;omega,by simp;omega,by simp;omega,by simp;omega⟩}
 {right;right;left;exact⟨ia,ia,by simp;omega,by simp;omega,by simp;omega,by simp;omega,by simp;omega,by simp;omega,by simp;omega⟩}
 {right;right;right;left;exact⟨ia,ia,by simp;omega,by simp;omega,by simp;omega,by simp;omega,by simp;omega,by simp;omega,by simp;omega⟩}
 {right;right;right;right;left;exact⟨ia,ia,by simp;omega,by simp;omega,by simp;omega,by simp;omega,by simp;omega,by simp;omega,by simp;omega⟩}
 {right;right;right;right;right;left;exact⟨ia,ia,by simp;omega,by simp;omega,by simp;omega,by simp;omega,by simp;omega,by simp;omega,by simp;omega⟩}
 {right;right;right;right;right;right;left;exact⟨ia,ia,by simp;omega,by simp;omega,by simp;omega,by simp;omega,by simp;omega,by simp;omega,by simp;omega⟩}
 {right;right;right;right;right;right;right;left;exact⟨ia,ia,by simp;omega,by simp;omega,by simp;omega,by simp;omega,by simp;omega,by simp;omega,by simp;omega⟩}
 {right;right;right;right;right;right;right;right;exact⟨ia,ia,by simp;omega,by simp;omega,by simp;omega,by simp;omega,by simp;omega,by simp;omega,by simp;omega⟩}
theorem yt (s:ByteArray)(w:World)(hs:s.size<=maxLen):
  Calls Tryz.prog 48 #[.string s] w fun e w'=>e=.returned (.bool (Hd s))/\ w=w':=by
 unfold maxLen at hs;have HR:Hid (Hd s=(Vi s.data.toList 0&& !s.toList.isEmpty&& decide (s.size<=24))):=rfl;generalize Hd s=R at*
 go_enter Tryz.func48,Tryz.ntmps48;go_wp2
 go_loop [9] (fun i=>∃k:Nat,k<=s.size/\ i=.int .i64 k/\ Hid (Vi (s.data.toList.drop k) k=Vi s.data.toList 0)) (fun i=>s.size-(intOf i).toNat)
 case atStart=>exact⟨0,ia,rfl,rfl⟩
 case round=>
  obtain⟨k,hk,rfl,hin⟩:=hrel;by_cases hlt:k<s.size
  ·have ho:=zt s k hlt
   rw[hin.out]at ho;have HO:=da ho;clear ho hin;have lG:okB k s[k].toNat=true->Vi (s.data.toList.drop (k+1)) (k+1)=Vi s.data.toList 0:=fun h=>by rw[HO.out,h,Ge]
   have hno:okB k s[k].toNat=false->R=false:=fun h=>by rw[HR.out,HO.out,h];simp
   have HY:=da lG;have HN:=da hno;clear lG hno HO HR;have hcl:=lr (s[k].toNat:Int) ia (by have:=s[k].toNat_lt;omega);by_cases hk0:k=0
   ·subst hk0
    rcases hcl with⟨hc,hc',t1,t2,t3,t4,t5,t6,t7⟩ | ⟨hc,hc',t1,t2,t3,t4,t5,t6,t7⟩ | ⟨hc,hc',t1,t2,t3,t4,t5,t6,t7⟩ | ⟨hc,hc',t1,t2,t3,t4,t5,t6,t7⟩ | ⟨hc,hc',t1,t2,t3,t4,t5,t6,t7⟩ | ⟨hc,hc',t1,t2,t3,t4,t5,t6,t7⟩ | ⟨hc,hc',t1,t2,t3,t4,t5,t6,t7⟩ | ⟨hc,hc',t1,t2,t3,t4,t5,t6,t7⟩ | ⟨hc,hc',t1,t2,t3,t4,t5,t6,t7⟩
    all_goals
     go_wp2
     first
     | (go_ret;exact⟨Oa (HN.out (Ia ia)).symm,rfl⟩)
     | (go_round;(case rel=>exact⟨0+1,ia,by go_num,HY.out (Ma ia)⟩);(case measure=>first | (simp[intOf];omega) | simp[intOf]))
   ·have hkp:((k:Int)==0)=false:=by simp[hk0]
    have ajt:0<k:=by omega
    clear hk0;rcases hcl with⟨hc,hc',t1,t2,t3,t4,t5,t6,t7⟩ | ⟨hc,hc',t1,t2,t3,t4,t5,t6,t7⟩ | ⟨hc,hc',t1,t2,t3,t4,t5,t6,t7⟩ | ⟨hc,hc',t1,t2,t3,t4,t5,t6,t7⟩ | ⟨hc,hc',t1,t2,t3,t4,t5,t6,t7⟩ | ⟨hc,hc',t1,t2,t3,t4,t5,t6,t7⟩ | ⟨hc,hc',t1,t2,t3,t4,t5,t6,t7⟩ | ⟨hc,hc',t1,t2,t3,t4,t5,t6,t7⟩ | ⟨hc,hc',t1,t2,t3,t4,t5,t6,t7⟩
    all_goals
     go_wp2
     first
     | (go_ret;exact⟨Oa (HN.out (Ia ia)).symm,rfl⟩)
     | (go_round;(case rel=>exact⟨k+1,ia,by go_num,HY.out (Ma ia)⟩);(case measure=>first | (simp[intOf];omega) | simp[intOf]))
  ·have Fi:Hid (R=(!s.toList.isEmpty&& decide (s.size<=24))):=by
    have h0:=hin.out;rw[Ta (by simp;omega),Vi]at h0
    show _=_
    rw[HR.out, <-h0];simp
   clear hin HR;have pD:=Bk s;by_cases h0:s.size=0
   {rw[Ma h0]at pD;rw[pD]at Fi;go_wp2;go_ret;exact⟨Oa (by rw[Fi.out];simp),rfl⟩}
   {rw[Ia h0]at pD;rw[pD]at Fi;by_cases aM:s.size<=24;{(have abU:(s.size:Int)<=24:=ia);rw[Ma aM]at Fi;go_wp2;go_ret;exact⟨Oa (by rw[Fi.out];simp),rfl⟩};{(have abU:¬(s.size:Int)<=24:=ia);rw[Ia aM]at Fi;clear aM;go_wp2;go_ret;exact⟨Oa (by rw[Fi.out];simp),rfl⟩}}
structure kA (b : Nat) (w w' : World) : Prop where
 os:w'.os=w.os
 tape:w'.tape=w.tape
 output:w'.output=w.output
 size:w'.heap.size=w.heap.size
 block:∀k,k≠b->w'.heap[k]? =w.heap[k]?
theorem kA.below {b B:Nat}{w w':World}(h:kA b w w')(hb:B<=b):Below B w w':=⟨h.os,h.tape,h.output,lh h.size.symm,fun k hk=>h.block k ia⟩
theorem kA.cell {b:Nat}{w w':World}(h:kA b w w'){p:Addr}(hp:p.block≠b):w'.cell? p=w.cell? p:=World.cell?_of_block (w:=w) (h.block _ hp)
theorem kA.frozen {b:Nat}{w w':World}(h:kA b w w'){p:Addr}(hp:p.block≠b):w'.frozen? p=w.frozen? p:=ph (w:=w) (h.block _ hp)
section
variable {κ ν : Type} (ek : κ -> Value) (ev : ν -> Value)
def We (w:World)(b:Nat)(l:List (κ×ν)):Prop:=
 ∃es clock,w.heap[b]? =some (.map es clock)/\ es.toList.map (fun e=>(e.key,e.val))=l.map fun p=>(ek p.1,ev p.2)
variable {ek ev}
theorem We.upd {b b':Nat}{w w':World}{l:List (κ×ν)}(h:We ek ev w b l)(hu:kA b' w w')(hb:b≠b'):We ek ev w' b l:=by
 obtain⟨es,c,h1,h2⟩:=h;exact⟨es,c,by rw[hu.block _ hb];exact h1,h2⟩
theorem We.below {b B:Nat}{w w':World}{l:List (κ×ν)}(h:We ek ev w b l)(hu:Below B w w')(hb:b<B):We ek ev w' b l:=by
 obtain⟨es,c,h1,h2⟩:=h;exact⟨es,c,by rw[hu.block _ hb];exact h1,h2⟩
theorem We.lt {b:Nat}{w:World}{l:List (κ×ν)}(h:We ek ev w b l):b<w.heap.size:=by
 obtain⟨es,c,h1,h2⟩:=h;exact(Array.getElem?_eq_some_iff.1 h1).1
theorem We.made (w:World):We ek ev (w.alloc (.map #[] 0)) w.heap.size ([]:List (κ×ν)):=⟨#[],0,heap_alloc_new _ _,rfl⟩
theorem We.alloc {b:Nat}{w:World}{l:List (κ×ν)}(h:We ek ev w b l)(o:Obj):We ek ev (w.alloc o) b l:=
 h.below (B:=w.heap.size) ((za _ _).alloc (ja _) _) h.lt
end
theorem ai {P:Program}{w:World}{b:Nat}{es:Array MapEntry}{c:Nat}(h:w.heap[b]? =some (.map es c)):(getObj b).run P w=.ok (.map es c) w:=by
 unfold getObj;rw[Sem.run,h];rfl
theorem Fp {P:Program}{w:World}{b:Nat}{es:Array MapEntry}{c:Nat}(h:w.heap[b]? =some (.map es c))(o:Obj):(setObj b o).run P w=.ok () {w with heap:=w.heap.setIfInBounds b o}:=by
 unfold setObj;rw[Sem.run,h];rfl
section
variable {κ ν : Type} [BEq κ] (ek : κ -> Value) (ev : ν -> Value)
def ins :List (κ×ν)->κ->ν->List (κ×ν)
 | [],k,v=>[(k,v)]
 | (a,x)::l,k,v=>if k==a then(k,v)::l else(a,x)::ins l k v
structure KeyLaw (P : Program) (K : TypeId) : Prop where
 rZ:∃d,P.underlying K=some d/\ (∀a b:κ,Instr.sameNow d (ek a) (ek b)=some (a==b))/\ (∀(w:World) (e:Bool) (a:κ),(Instr.checkKey e 10000 K (ek a)).run P w=.ok () w)
 bits:∀a:κ,Instr.sameBits 10000 (ek a) (ek a)=true
variable {ek ev}
theorem jC {d:TypeDesc}(hd:∀a b:κ,Instr.sameNow d (ek a) (ek b)=some (a==b))(k:κ)(v:ν):∀(l:List (κ×ν)) (es:List MapEntry) (i:Nat),
  es.map (fun e=>(e.key,e.val))=l.map (fun p=>(ek p.1,ev p.2))->l.lookup k=none->Instr.findNow d (ek k) es i=some none/\ ins l k v=l++[(k,v)]
 | [],[],i,_,_=>⟨rfl,rfl⟩
 | (a,x)::l,e::es,i,h,hl=>by{simp only[Va,List.cons.injEq,Rg]at h;obtain⟨⟨h1,h2⟩,h3⟩:=h;rw[Db]at hl;cases hka:k==a with| true=>rw[hka]at hl;cases hl| false=>{rw[hka]at hl;obtain⟨r1,r2⟩:=jC hd k v l es (i+1) h3 hl;refine⟨?_,?_⟩;{rw[Instr.findNow,h1,hd,hka];exact r1};{simp[ins,hka,r2]}}}
 | [],e::es,i,h,_=>by cases h
 | (a,x)::l,[],i,h,_=>by cases h
theorem Hq :∀(l:List (κ×ν)) (k:κ) (v:ν),l.lookup k=none->ins l k v=l++[(k,v)]
 | [],_,_,_=>rfl
 | (a,x)::l,k,v,h=>by{rw[Db]at h;cases hka:k==a with| true=>rw[hka]at h;cases h| false=>rw[hka]at h;simp[ins,hka,Hq l k v h]}
variable [LawfulBEq κ]
theorem kC {d:TypeDesc}(hd:∀a b:κ,Instr.sameNow d (ek a) (ek b)=some (a==b))(k:κ)(v x:ν):∀(l:List (κ×ν)) (es:List MapEntry) (i:Nat),
  es.map (fun e=>(e.key,e.val))=l.map (fun p=>(ek p.1,ev p.2))->l.lookup k=some x->
  ∃j,j<es.length/\ Instr.findNow d (ek k) es i=some (some (i+j,ev x))/\ (es[j]?.map (·.key))=some (ek k)/\
   (es.modify j fun e=>{e with key:=ek k,val:=ev v}).map (fun e=>(e.key,e.val))=(ins l k v).map (fun p=>(ek p.1,ev p.2))
 | [],[],i,_,h=>by cases h
 | (a,y)::l,e::es,i,h,hl=>by{simp only[Va,List.cons.injEq,Rg]at h;obtain⟨⟨h1,h2⟩,h3⟩:=h;rw[Db]at hl;cases hka:k==a with| true=>{rw[hka]at hl;(obtain rfl:y=x:=by simpa using hl);(obtain rfl:k=a:=by simpa using hka);refine⟨0,la,?_,by simp[h1],?_⟩;{rw[Instr.findNow,h1,hd,hka,h2];rfl};{simp[ins,h3]}}| false=>{rw[hka]at hl;obtain⟨j,r0,r1,r2,r3⟩:=kC hd k v x l es (i+1) h3 hl;refine⟨j+1,by simpa using r0,?_,by simpa using r2,?_⟩;{rw[Instr.findNow,h1,hd,hka];simpa[Nat.add_assoc,Nat.add_comm 1 j]using r1};{simp[ins,hka,r3,h1,h2]}}}
 | [],e::es,i,h,_=>by cases h
 | (a,y)::l,[],i,h,_=>by cases h
variable {P : Program} {T K E : TypeId}
theorem run_findKey (hk:KeyLaw ek P K){w:World}{l:List (κ×ν)}{es:Array MapEntry}(he:es.toList.map (fun e=>(e.key,e.val))=l.map fun p=>(ek p.1,ev p.2))(k:κ)(v:ν):
  match l.lookup k with
  | none=>(Instr.findKey K (ek k) es.toList).run P w=.ok none w/\ ins l k v=l++[(k,v)]
  | some x=>∃j,j<es.size/\ (Instr.findKey K (ek k) es.toList).run P w=.ok (some (j,ev x)) w/\ (es[j]?.map (·.key))=some (ek k)/\
    (es.modify j fun e=>{e with key:=ek k,val:=ev v}).toList.map (fun e=>(e.key,e.val))=(ins l k v).map (fun p=>(ek p.1,ev p.2)):=by
 obtain⟨d,hu,hd,_⟩:=hk.rZ;cases hl:l.lookup k with| none=>{obtain⟨r1,r2⟩:=jC hd k v l es.toList 0 he hl;refine⟨?_,r2⟩;simp[Instr.findKey,run_underlying hu,r1]}| some x=>{obtain⟨j,r0,r1,r2,r3⟩:=kC hd k v x l es.toList 0 he hl;refine⟨j,by simpa using r0,?_,by simpa using r2,?_⟩;{simp[Instr.findKey,run_underlying hu,r1]};{rw[Array.toList_modify];exact r3}}
theorem Az (hk:KeyLaw ek P K)(ht:P.underlying T=some (.map K E)){z:Value}(hz:∀w,(zeroValue E).run P w=.ok z w){w:World}{b:Nat}{l:List (κ×ν)}(h:We ek ev w b l)(k:κ):
  (Instr.lookup T (.map (some b)) (ek k) false).run P w=.ok (match l.lookup k with | some x=>ev x | none=>z) w:=by
 obtain⟨es,c,h1,h2⟩:=h;have hc:=fun e=>(Classical.choose_spec hk.rZ).2.2 w e k
 cases hl:l.lookup k with| none=>{obtain⟨d,hu,hd,_⟩:=hk.rZ;have hf:(Instr.findKey K (ek k) es.toList).run P w=.ok none w:=by{have:Instr.findNow d (ek k) es.toList 0=some none:=by{have aux:∀(l:List (κ×ν)) (es:List MapEntry) (i:Nat),es.map (fun e=>(e.key,e.val))=l.map (fun p=>(ek p.1,ev p.2))->l.lookup k=none->Instr.findNow d (ek k) es i=some none:=by{intro l;induction l with| nil=>{intro es i h _;cases es with | nil=>rfl | cons e es=>cases h}| cons p l ih=>{intro es i h hl;cases es with| nil=>cases h| cons e es=>{obtain⟨a,x⟩:=p;simp only[Va,List.cons.injEq,Rg]at h;rw[Db]at hl;cases hka:k==a with| true=>rw[hka]at hl;cases hl| false=>rw[hka]at hl;rw[Instr.findNow,h.1.1,hd,hka];exact ih es _ h.2 hl}}};exact aux l _ 0 h2 hl};simp[Instr.findKey,run_underlying hu,this]};simp[Instr.lookup,run_underlying ht,ai h1,hc,hf,hz]}| some x=>{have:=run_findKey hk (w:=w) h2 k x;rw[hl]at this;obtain⟨j,_,hf,_,_⟩:=this;simp[Instr.lookup,run_underlying ht,ai h1,hc,hf]}
theorem Sn (hk:KeyLaw ek P K)(ht:P.underlying T=some (.map K E)){z:Value}(hz:∀w,(zeroValue E).run P w=.ok z w){w:World}{b:Nat}{l:List (κ×ν)}(h:We ek ev w b l)(k:κ):
  (Instr.lookup T (.map (some b)) (ek k) true).run P w=.ok (match l.lookup k with | some x=>.tuple #[ev x,.bool true] | none=>.tuple #[z,.bool false]) w:=by
 have h0:=Az hk ht hz h k;obtain⟨es,c,h1,h2⟩:=h;have hc:=fun e=>(Classical.choose_spec hk.rZ).2.2 w e k
 cases hl:l.lookup k with| none=>{obtain⟨d,hu,hd,_⟩:=hk.rZ;rw[hl]at h0;have hf:(Instr.findKey K (ek k) es.toList).run P w=.ok none w:=by{have aux:∀(l:List (κ×ν)) (es:List MapEntry) (i:Nat),es.map (fun e=>(e.key,e.val))=l.map (fun p=>(ek p.1,ev p.2))->l.lookup k=none->Instr.findNow d (ek k) es i=some none:=by{intro l;induction l with| nil=>{intro es i h _;cases es with | nil=>rfl | cons e es=>cases h}| cons p l ih=>{intro es i h hl;cases es with| nil=>cases h| cons e es=>{obtain⟨a,x⟩:=p;simp only[Va,List.cons.injEq,Rg]at h;rw[Db]at hl;cases hka:k==a with| true=>rw[hka]at hl;cases hl| false=>rw[hka]at hl;rw[Instr.findNow,h.1.1,hd,hka];exact ih es _ h.2 hl}}};simp[Instr.findKey,run_underlying hu,aux l _ 0 h2 hl]};simp[Instr.lookup,run_underlying ht,ai h1,hc,hf,hz]}| some x=>{have:=run_findKey hk (w:=w) h2 k x;rw[hl]at this;obtain⟨j,_,hf,_,_⟩:=this;simp[Instr.lookup,run_underlying ht,ai h1,hc,hf]}
theorem run_store (hk:KeyLaw ek P K)(ht:P.underlying T=some (.map K E)){w:World}{b:Nat}{l:List (κ×ν)}(h:We ek ev w b l)(k:κ)(v:ν):
  ∃w',(Instr.mapUpdate T (.map (some b)) (ek k) (ev v)).run P w=.ok () w'/\ We ek ev w' b (ins l k v)/\ kA b w w':=by
 have hlt:=h.lt;obtain⟨es,c,h1,h2⟩:=h;have hc:=fun e=>(Classical.choose_spec hk.rZ).2.2 w e k
 have hf:=run_findKey hk (w:=w) h2 k v
 have put:∀(es':Array MapEntry) (c':Nat),es'.toList.map (fun e=>(e.key,e.val))=(ins l k v).map (fun p=>(ek p.1,ev p.2))->
   We ek ev {w with heap:=w.heap.setIfInBounds b (.map es' c')} b (ins l k v)/\ kA b w {w with heap:=w.heap.setIfInBounds b (.map es' c')}:=fun es' c' he=>
  ⟨⟨es',c',by simp[hlt],he⟩,⟨rfl,rfl,rfl,la,fun j hj=>by simp[Ne.symm hj]⟩⟩
 cases hl:l.lookup k with| none=>{rw[hl]at hf;refine⟨_,?_,put (es.push {key:=ek k,val:=ev v,born:=c}) (c+1) (by simp[h2,hf.2])⟩;simp[Instr.mapUpdate,run_underlying ht,ai h1,Fp h1,hc,hf.1]}| some x=>{rw[hl]at hf;obtain⟨j,hj,hf,hkey,hm⟩:=hf;refine⟨_,?_,put (es.modify j fun e=>{e with key:=ek k,val:=ev v}) c hm⟩;(have hst:(Instr.keyThatStays (ek k) (ek k)).run P w=.ok (ek k) w:=by simp[Instr.keyThatStays,hk.bits]);simp[Instr.mapUpdate,run_underlying ht,ai h1,Fp h1,hc,hf,hkey,hst]}
end
theorem RI {κ ν:Type}[BEq κ][LawfulBEq κ]{ek:κ->Value}{ev:ν->Value}{P:Program}{T K E:TypeId}{ops:Array Oper}{rest:List Oper}{o:Oper}{a:Act}{Q:Exit->Act->World->Prop}{w:World}
  (hg:o.guard=none) (m x y:Operand) (ho:o.op=.mapUpdate T m x y) (hk:KeyLaw ek P K) (ht:P.underlying T=some (.map K E)) {b:Nat} {l:List (κ×ν)} (h:We ek ev w b l)
  (k:κ) (v:ν) (hm:a.eval m=.map (some b)) (hx:a.eval x=ek k) (hy:a.eval y=ev v)
  (hK:∀w',We ek ev w' b (ins l k v)->kA b w w'->wpList P ops Q rest (a.put o.dst undef) w'):wpList P ops Q (o::rest) a w:=by
 refine wpList_plain hg fun K' hK'=>?_
 obtain⟨w',hrun,h1,h2⟩:=run_store hk ht h k v;unfold Oper.wp;simp[execOp,ho,hm,hx,hy,hrun,Result.andThen];exact hK' _ _ (hK w' h1 h2)
instance : LawfulBEq ByteArray where
 eq_of_beq {a b} h:=by{cases a with | mk a=>cases b with | mk b=>{have:(a==b)=true:=h;rw[eq_of_beq this]}}
 rfl {a}:=by
  cases a with | mk a=>
   show(a==a)=true
   exact BEq.rfl
theorem jv (a b:ByteArray):(a==b)=(a.toList==b.toList):=by
 rw[Nc,Ad,Ad];constructor
 {rintro rfl;rfl}
 {intro h;rw[Sc,Sc]at h;cases a with | mk a=>cases b with | mk b=>simpa using h}
theorem Kv {P:Program}{K:TypeId}(h:P.underlying K=some .string)(n:Nat)(w:World)(e:Bool)(a:ByteArray):(Instr.checkKey e (n+1) K (.string a)).run P w=.ok () w:=by
 rw[Instr.checkKey.eq_def];simp[run_underlying h]
theorem Lv {P:Program}{K:TypeId}{q:IntKind}(h:P.underlying K=some (.int q))(n:Nat)(w:World)(e:Bool)(a:Int):(Instr.checkKey e (n+1) K (.int q a)).run P w=.ok () w:=by
 rw[Instr.checkKey.eq_def];simp[run_underlying h]
theorem qD (n:Nat)(a:ByteArray):Instr.sameBits (n+1) (.string a) (.string a)=true:=by rw[Instr.sameBits];simp
theorem rD (n:Nat)(q:IntKind)(a:Int):Instr.sameBits (n+1) (.int q a) (.int q a)=true:=by rw[Instr.sameBits];simp
theorem VH {P:Program}{K:TypeId}(h:P.underlying K=some .string):KeyLaw Value.string P K:=
 ⟨⟨_,h,fun _ _=>rfl,fun w e a=>Kv h 9999 w e a⟩,fun a=>qD 9999 a⟩
theorem jX {P:Program}{K:TypeId}{q:IntKind}(h:P.underlying K=some (.int q)):KeyLaw (Value.int q) P K:=
 ⟨⟨_,h,fun _ _=>by simp[Instr.sameNow],fun w e a=>Lv h 9999 w e a⟩,fun a=>rD 9999 q a⟩
theorem Tw (s:ByteArray)(c:Int)(w:World):
  Calls Tryz.prog 176 #[.string s,.int .u8 c] w fun e w'=>e=.returned (.int .i64 (Lib.indexByte s.data.toList c.toNat.toUInt8))/\ w=w':=by
 go_enter Tryz.func176,Tryz.ntmps176;go_wp2;rw[run_callFunc_extern Tryz.func182 Ca Ca Ca (e:=Extern.BytealgIndexByte.indexByte) Ca,Lib.run_indexByteString];simp only[Result.andThen];rw[Oper.upon_value];go_wp2;go_ret;exact⟨rfl,rfl⟩
theorem Ms (s:ByteArray)(c:Int)(w:World):
  Calls Tryz.prog 173 #[.string s,.int .u8 c] w fun e w'=>e=.returned (.int .i64 (Lib.indexByte s.data.toList c.toNat.toUInt8))/\ w=w':=by
 go_enter Tryz.func173,Tryz.ntmps173;go_wp2_with (go_at_call 176;refine(Tw _ _ _).mono ?_;rintro e w2 ⟨rfl,rfl⟩);go_ret;exact⟨rfl,rfl⟩
def Bt (c:Nat):Nat:=
 if(97<=c/\ c<=122)\/(65<=c/\ c<=90)then 3 else if 48<=c/\ c<=57 then 4 else if c=32\/c=9\/c=10 then 1
 else if c=59\/c=44\/c=46\/c=58\/c=40\/c=41\/c=91\/c=93\/c=123\/c=125\/c=61 then 6 else if c=60\/c=62 then 7 else 0
def mm (c:Nat):Nat:=if c=35 then 2 else if c=95 then 5 else if c=33 then 8 else Bt c
def VI :ByteArray:={data:=#[32,9,10]}
def LX :ByteArray:={data:=#[59,44,46,58,40,41,91,93,123,125,61]}
theorem XP (c:Nat)(h:c<256):decide (0<=Lib.indexByte VI.data.toList (c:Int).toNat.toUInt8)=decide (c=32\/c=9\/c=10):=by
 have:∀c:Fin 256,decide (0<=Lib.indexByte VI.data.toList ((c.1:Nat):Int).toNat.toUInt8)=decide (c.1=32\/c.1=9\/c.1=10):=by decide+kernel
 exact this ⟨c,h⟩
theorem MX (c:Nat)(h:c<256):decide (0<=Lib.indexByte LX.data.toList (c:Int).toNat.toUInt8)=
  decide (c=59\/c=44\/c=46\/c=58\/c=40\/c=41\/c=91\/c=93\/c=123\/c=125\/c=61):=by
 have:∀c:Fin 256,decide (0<=Lib.indexByte LX.data.toList ((c.1:Nat):Int).toNat.toUInt8)=
  decide (c.1=59\/c.1=44\/c.1=46\/c.1=58\/c.1=40\/c.1=41\/c.1=91\/c.1=93\/c.1=123\/c.1=125\/c.1=61):=by decide+kernel
 exact this ⟨c,h⟩
theorem zl {P:Program}{ops:Array Oper}{rest:List Oper}{o:Oper}{a:Act}{Q:Exit->Act->World->Prop}{w:World}{ty:TypeId}
  (hg:o.guard=none) (ho:o.op=.alloc ty) (z:Value) (n:Nat) (hz:(P.info? ty).map (·.zero)=some (some (.agg (kg n z))))
  (h:∀W',Below w.heap.size w W'->W'.heap.size=w.heap.size+1->W'.rowIs w.heap.size ty n (fun _=>z)->wpList P ops Q rest (a.put o.dst (.pointer (some ⟨w.heap.size,0,none⟩))) W'):
  wpList P ops Q (o::rest) a w:=by
 refine wpList_plain hg fun K' hK'=>?_
 obtain⟨i,hi,hzi⟩:∃i,P.info? ty=some i/\ i.zero=some (.agg (kg n z)):=by{cases hq:P.info? ty with| none=>rw[hq]at hz;cases hz| some i=>rw[hq]at hz;exact⟨i,rfl,by simpa using hz⟩}
 have hrun:(Instr.alloc ty true (.tuple #[])).run P w=.ok (.pointer (some ⟨w.heap.size,0,none⟩)) (w.alloc (.cells (kg n z) ty)):=by{simp[Instr.alloc,zeroValue,typeInfo,hi,hzi,newVar,newRow,Value.cells]}
 unfold Oper.wp;simp only[execOp,ho];simp[hrun];refine hK' _ _ (h _ ((za _ _).alloc (ja _) _) la ?_);have:=World.rowIs_alloc w (kg n z) ty (fun _=>z) (fun i hi=>by simp at hi;simp[hi])
 simpa using this
theorem Xo {P:Program}{ops:Array Oper}{rest:List Oper}{o:Oper}{a:Act}{Q:Exit->Act->World->Prop}{w:World}{ty t:TypeId}{n:Nat}{f:Nat->Value}
  (hg:o.guard=none) (x y:Operand) (ho:o.op=.store ty x y) (cells:List Value) (b:Nat) (hx:a.eval x=.pointer (some ⟨b,0,none⟩)) (hy:a.eval y=.agg cells.toArray)
  (hrow:w.rowIs b t n f) (hn:n=cells.length) (hi:(P.info? ty).map (·.size)=some cells.length) (h1:cells.toArray.all (·.oneCell')=true)
  (h:∀W',kA b w W'->W'.rangeAt b 0 cells->wpList P ops Q rest (a.put o.dst undef) W'):wpList P ops Q (o::rest) a w:=by
 have ht:w.there b 0 cells.length:=fun j hj=>⟨by rw[dc,hrow.cell ia];rfl,by rw[dc];exact hrow.frozen j⟩
 refine wpList_store_mid hg ty x y ho b 0 cells.toArray hx hy (by simpa using ht) (by simpa using hi) h1 (h _ ?_ ?_)
 ·have:∀(vs:List Value) (o:Nat) (W:World),kA b w W->kA b w (W.setCells b o vs):=by
   intro vs
   induction vs with| nil=>intro _ _ h;exact h| cons v vs ih=>{intro o W h;refine ih _ _ ⟨h.os,h.tape,h.output,?_,fun k hk=>?_⟩;{simpa[World.setCell]using h.size};{rw[Gc _ _ _ _ (by exact hk)];exact h.block k hk}}
  exact this _ _ _ ⟨rfl,rfl,rfl,rfl,fun _ _=>rfl⟩
 {simpa using World.rangeAt_setCells_same w b 0 cells ht}
theorem od {fn:Func}{p:Tmp}{ty:TypeId}(h:fn.results=#[.cell p ty])(tmps:Array Value)(P:Program)(w:World){a:Addr}(hp:tmps.getD p undef=.pointer (some a)){v:Value}
  (hl:(loadVar ty a).run P w=.ok v w):(results fn tmps).run P w=.ok v w:=by
 rw[Array.getD_eq_getD_getElem?]at hp;simp[results,h,hp,hl,asAddr]
theorem Dl {fn:Func}{p q r:Tmp}{t1 t2 t3:TypeId}(h:fn.results=#[.cell p t1,.cell q t2,.cell r t3])(tmps:Array Value)(P:Program)(w:World){a b c:Addr}
  (hp:tmps.getD p undef=.pointer (some a)) (hq:tmps.getD q undef=.pointer (some b)) (hr:tmps.getD r undef=.pointer (some c)) {u v x:Value}
  (h1:(loadVar t1 a).run P w=.ok u w) (h2:(loadVar t2 b).run P w=.ok v w) (h3:(loadVar t3 c).run P w=.ok x w):(results fn tmps).run P w=.ok (.tuple #[u,v,x]) w:=by
 rw[Array.getD_eq_getD_getElem?]at hp hq hr;simp[results,h,hp,hq,hr,h1,h2,h3,asAddr]
def Xp :List Value:=(List.range 256).map fun c=>Value.int .u8 (mm c)
theorem mr :Xp.length=256:=by simp[Xp]
theorem mG :Xp.toArray.all (·.oneCell')=true:=all_oneCell_toArray fun v hv=>by
 simp only[Xp,List.mem_map]at hv;obtain⟨c,_,rfl⟩:=hv
 rfl
theorem Ur :(Tryz.prog.info? 197).map (·.size)=some Xp.length:=by rw[mr];kernel_rfl
theorem nG (j:Nat)(v:Value)(h:Xp[j]? =some v):j<256/\ v=.int .u8 (mm j):=by
 have hj:j<256:=by rw[<-mr];exact(List.getElem?_eq_some_iff.1 h).1
 refine⟨hj,?_⟩;simp only[Xp,Kb,List.getElem?_range hj,Option.map_some,Option.some.injEq]at h;exact h.symm
def tA :Value:=.int .u8 0
theorem tA.OX :(Tryz.prog.info? 197).map (·.zero)=some (some (.agg (kg 256 tA))):=by kernel_rfl
def Hz (k:Nat):Nat->Value:=fun i=>.int .u8 (if i<k then(Bt i:Nat)else 0:Nat)
theorem Wm {w:World}{b k:Nat}{x:Nat}(h:w.rowIs b 197 256 (Hz k))(hx:Bt k=x):(w.setCell ⟨b,k,none⟩ (.int .u8 x)).rowIs b 197 256 (Hz (k+1)):=by
 refine(h.set k (.int .u8 x)).congr fun i hi=>?_
 unfold Hz;by_cases h1:i=k
 {subst h1;simp[hx]}
 {by_cases h2:i<k;{rw[Aa h1,if_pos h2,if_pos ia]};{rw[Aa h1,Aa h2,Aa ia]}}
theorem bM {w:World}{b k:Nat}(h:w.rowIs b 197 256 (Hz k))(hx:Bt k=0):w.rowIs b 197 256 (Hz (k+1)):=by
 refine h.congr fun i hi=>?_
 unfold Hz;by_cases h1:i=k
 {subst h1;simp[hx]}
 {by_cases h2:i<k;{rw[if_pos h2,if_pos ia]};{rw[Aa h2,Aa ia]}}
theorem WI {w:World}{b:Nat}(h:w.rowIs b 197 256 (Hz 256)):
  (((w.setCell ⟨b,35,none⟩ (.int .u8 2)).setCell ⟨b,95,none⟩ (.int .u8 5)).setCell ⟨b,33,none⟩ (.int .u8 8)).rangeAt b 0 Xp:=by
 have h3:=((h.set 35 (.int .u8 2)).set 95 (.int .u8 5)).set 33 (.int .u8 8);intro j v hv;obtain⟨hj,rfl⟩:=nG j v hv;rw[dc,h3.cell hj];unfold mm Hz;by_cases a1:j=33
 {subst a1;rfl}
 {by_cases a2:j=95;{subst a2;rfl};{by_cases a3:j=35;{subst a3;rfl};{rw[Aa a1,Aa a2,Aa a3,if_pos hj,Aa a3,Aa a2,Aa a1]}}}
theorem oG (w:World):
  Calls Tryz.prog 169 #[] w fun e w'=>e=.returned (.agg Xp.toArray)/\ Below w.heap.size w w':=by
 go_enter Tryz.func169,Tryz.ntmps169;go_wp2_with (first | ((with_reducible show wpList _ _ _ (⟨some 0,Op.alloc 197,_,_,_,_⟩::_) _ _);refine zl rfl rfl tA 256 tA.OX ?_;intro W1 Ff hz1 sZ) | ((with_reducible show wpList _ _ _ (⟨some 1,Op.alloc 197,_,_,_,_⟩::_) _ _);refine zl rfl rfl tA 256 tA.OX ?_;intro W2 ud hz2 vL));have P5:=sZ.of_block (ud.block w.heap.size ia);have HB:=da ((Ff.trans (ud.mono ia)):Below w.heap.size w W2);have hz:W2.heap.size=w.heap.size+2:=by omega
 have uL:=da P5;rw[hz1]at vL;have Fi:=da (show W2.rowIs (w.heap.size+1) 197 256 (Hz 0)from vL.congr fun i _=>by simp[Hz,tA]);clear P5 sZ vL Ff ud hz1 hz2
 go_loopw [4] (fun i wr=>∃k:Nat,k<=256/\ i=.int .i64 k/\ wr.rowIs (w.heap.size+1) 197 256 (Hz k)/\ Hid (wr.rowIs w.heap.size 197 256 (fun _=>tA))/\ Hid (Below w.heap.size w wr)) (fun i _=>256-(intOf i).toNat)
 case atStart=>exact⟨0,ia,rfl,Fi.out,uL,HB⟩
 case round=>
  obtain⟨k,hk,rfl,hrow,uw,Zd⟩:=hrel;clear HB uL Fi;by_cases hlt:k<256
  ·have hc:=hrow.cell hlt
   have hf:=hrow.frozen k;have Ek:=da hrow;have hwr:IntKind.u8.wrap (k:Int)=k:=by simp[IntKind.wrap,IntKind.signed,IntKind.bits];omega
   have hcl:=lr (k:Int) ia ia
   have qZ:(k=32\/k=9\/k=10)\/(k=59\/k=44\/k=46\/k=58\/k=40\/k=41\/k=91\/k=93\/k=123\/k=125\/k=61)\/k=60\/k=62\/
    ¬(k=32\/k=9\/k=10\/k=59\/k=44\/k=46\/k=58\/k=40\/k=41\/k=91\/k=93\/k=123\/k=125\/k=61\/k=60\/k=62):=by omega
   obtain⟨x1,hx1⟩:∃x1,x1=Lib.indexByte VI.data.toList (k:Int).toNat.toUInt8:=⟨_,rfl⟩;obtain⟨x2,hx2⟩:∃x2,x2=Lib.indexByte LX.data.toList (k:Int).toNat.toUInt8:=⟨_,rfl⟩;have d1:decide (0<=x1)=decide (k=32\/k=9\/k=10):=by rw[hx1];exact XP k hlt
   have d2:decide (0<=x2)=decide (k=59\/k=44\/k=46\/k=58\/k=40\/k=41\/k=91\/k=93\/k=123\/k=125\/k=61):=by rw[hx2];exact MX k hlt
   have Wt:=da (show Calls Tryz.prog 173 #[.string {data:=#[32,9,10]},.int .u8 k] wr fun e w'=>e=.returned (.int .i64 x1)/\ wr=w' by rw[hx1];exact Ms _ _ _);have Ws:=da (show Calls Tryz.prog 173 #[.string {data:=#[59,44,46,58,40,41,91,93,123,125,61]},.int .u8 k] wr fun e w'=>e=.returned (.int .i64 x2)/\ wr=w' by rw[hx2];exact Ms _ _ _);clear hx1 hx2;by_cases hL:(97<=k/\ k<=122)\/(65<=k/\ k<=90)
   ·have H3:=da (show Bt k=3 by unfold Bt;rw[if_pos hL])
    clear d1 d2 qZ;rcases hL with⟨l1,l2⟩ | ⟨l1,l2⟩
    all_goals
     rcases hcl with⟨hc,hc',t1,t2,t3,t4,t5,t6,t7⟩ | ⟨hc,hc',t1,t2,t3,t4,t5,t6,t7⟩ | ⟨hc,hc',t1,t2,t3,t4,t5,t6,t7⟩ | ⟨hc,hc',t1,t2,t3,t4,t5,t6,t7⟩ | ⟨hc,hc',t1,t2,t3,t4,t5,t6,t7⟩ | ⟨hc,hc',t1,t2,t3,t4,t5,t6,t7⟩ | ⟨hc,hc',t1,t2,t3,t4,t5,t6,t7⟩ | ⟨hc,hc',t1,t2,t3,t4,t5,t6,t7⟩ | ⟨hc,hc',t1,t2,t3,t4,t5,t6,t7⟩<;>first | (exfalso;omega) | skip
     go_wp2;go_roundw
     case rel=>exact⟨k+1,ia,by go_num,Wm Ek.out H3.out,uw.out.setOther la _,Zd.out.setCell la _⟩
     case measure=>simp[intOf];omega
   ·by_cases hD:48<=k/\ k<=57
    {have H3:=da (show Bt k=4 by unfold Bt;rw[Aa hL,if_pos hD]);clear d1 d2 qZ;obtain⟨l1,l2⟩:=hD;(rcases hcl with⟨hc,hc',t1,t2,t3,t4,t5,t6,t7⟩ | ⟨hc,hc',t1,t2,t3,t4,t5,t6,t7⟩ | ⟨hc,hc',t1,t2,t3,t4,t5,t6,t7⟩ | ⟨hc,hc',t1,t2,t3,t4,t5,t6,t7⟩ | ⟨hc,hc',t1,t2,t3,t4,t5,t6,t7⟩ | ⟨hc,hc',t1,t2,t3,t4,t5,t6,t7⟩ | ⟨hc,hc',t1,t2,t3,t4,t5,t6,t7⟩ | ⟨hc,hc',t1,t2,t3,t4,t5,t6,t7⟩ | ⟨hc,hc',t1,t2,t3,t4,t5,t6,t7⟩<;>first | (exfalso;omega) | skip);go_wp2;go_roundw;(case rel=>exact⟨k+1,ia,by go_num,Wm Ek.out H3.out,uw.out.setOther la _,Zd.out.setCell la _⟩);case measure=>simp[intOf];omega}
    ·have H0:=da (show Bt k=_ by unfold Bt;rw[Aa hL,Aa hD])
     rcases qZ with hq | hq | hq | hq | hq
     ·have H3:=da (show Bt k=1 by rw[H0.out,if_pos hq])
      have e1:decide (0<=x1)=true:=by rw[d1];exact Ma hq
      clear d1 d2 hq H0;rcases hcl with⟨hc,hc',t1,t2,t3,t4,t5,t6,t7⟩ | ⟨hc,hc',t1,t2,t3,t4,t5,t6,t7⟩ | ⟨hc,hc',t1,t2,t3,t4,t5,t6,t7⟩ | ⟨hc,hc',t1,t2,t3,t4,t5,t6,t7⟩ | ⟨hc,hc',t1,t2,t3,t4,t5,t6,t7⟩ | ⟨hc,hc',t1,t2,t3,t4,t5,t6,t7⟩ | ⟨hc,hc',t1,t2,t3,t4,t5,t6,t7⟩ | ⟨hc,hc',t1,t2,t3,t4,t5,t6,t7⟩ | ⟨hc,hc',t1,t2,t3,t4,t5,t6,t7⟩<;>first | (exfalso;omega) | skip
      all_goals
       go_wp2_with (first | (go_at_call 173;(with_reducible refine Wt.out.mono ?_);rintro e w2 ⟨rfl,rfl⟩) | (go_at_call 173;(with_reducible refine Ws.out.mono ?_);rintro e w2 ⟨rfl,rfl⟩));go_roundw
       case rel=>exact⟨k+1,ia,by go_num,Wm Ek.out H3.out,uw.out.setOther la _,Zd.out.setCell la _⟩
       case measure=>simp[intOf];omega
     ·have H3:=da (show Bt k=6 by rw[H0.out,Aa ia,if_pos hq])
      have e1:decide (0<=x1)=false:=by rw[d1];exact Ia ia
      have e2:decide (0<=x2)=true:=by rw[d2];exact Ma hq
      clear d1 d2 hq H0;rcases hcl with⟨hc,hc',t1,t2,t3,t4,t5,t6,t7⟩ | ⟨hc,hc',t1,t2,t3,t4,t5,t6,t7⟩ | ⟨hc,hc',t1,t2,t3,t4,t5,t6,t7⟩ | ⟨hc,hc',t1,t2,t3,t4,t5,t6,t7⟩ | ⟨hc,hc',t1,t2,t3,t4,t5,t6,t7⟩ | ⟨hc,hc',t1,t2,t3,t4,t5,t6,t7⟩ | ⟨hc,hc',t1,t2,t3,t4,t5,t6,t7⟩ | ⟨hc,hc',t1,t2,t3,t4,t5,t6,t7⟩ | ⟨hc,hc',t1,t2,t3,t4,t5,t6,t7⟩<;>first | (exfalso;omega) | skip
      all_goals
       go_wp2_with (first | (go_at_call 173;(with_reducible refine Wt.out.mono ?_);rintro e w2 ⟨rfl,rfl⟩) | (go_at_call 173;(with_reducible refine Ws.out.mono ?_);rintro e w2 ⟨rfl,rfl⟩));go_roundw
       case rel=>exact⟨k+1,ia,by go_num,Wm Ek.out H3.out,uw.out.setOther la _,Zd.out.setCell la _⟩
       case measure=>simp[intOf];omega
     ·have H3:=da (show Bt k=7 by rw[H0.out,Aa ia,Aa ia,if_pos ia])
      have e1:decide (0<=x1)=false:=by rw[d1];exact Ia ia
      have e2:decide (0<=x2)=false:=by rw[d2];exact Ia ia
      clear d1 d2;have d3:((k:Int)==60)=true:=by simp;omega
      clear hq H0;rcases hcl with⟨hc,hc',t1,t2,t3,t4,t5,t6,t7⟩ | ⟨hc,hc',t1,t2,t3,t4,t5,t6,t7⟩ | ⟨hc,hc',t1,t2,t3,t4,t5,t6,t7⟩ | ⟨hc,hc',t1,t2,t3,t4,t5,t6,t7⟩ | ⟨hc,hc',t1,t2,t3,t4,t5,t6,t7⟩ | ⟨hc,hc',t1,t2,t3,t4,t5,t6,t7⟩ | ⟨hc,hc',t1,t2,t3,t4,t5,t6,t7⟩ | ⟨hc,hc',t1,t2,t3,t4,t5,t6,t7⟩ | ⟨hc,hc',t1,t2,t3,t4,t5,t6,t7⟩<;>first | (exfalso;omega) | skip
      all_goals
       go_wp2_with (first | (go_at_call 173;(with_reducible refine Wt.out.mono ?_);rintro e w2 ⟨rfl,rfl⟩) | (go_at_call 173;(with_reducible refine Ws.out.mono ?_);rintro e w2 ⟨rfl,rfl⟩));go_roundw
       case rel=>exact⟨k+1,ia,by go_num,Wm Ek.out H3.out,uw.out.setOther la _,Zd.out.setCell la _⟩
       case measure=>simp[intOf];omega
     ·have H3:=da (show Bt k=7 by rw[H0.out,Aa ia,Aa ia,if_pos ia])
      have e1:decide (0<=x1)=false:=by rw[d1];exact Ia ia
      have e2:decide (0<=x2)=false:=by rw[d2];exact Ia ia
      clear d1 d2;have d3:((k:Int)==60)=false:=by simp;omega
      have d4:((k:Int)==62)=true:=by simp;omega
      clear hq H0;rcases hcl with⟨hc,hc',t1,t2,t3,t4,t5,t6,t7⟩ | ⟨hc,hc',t1,t2,t3,t4,t5,t6,t7⟩ | ⟨hc,hc',t1,t2,t3,t4,t5,t6,t7⟩ | ⟨hc,hc',t1,t2,t3,t4,t5,t6,t7⟩ | ⟨hc,hc',t1,t2,t3,t4,t5,t6,t7⟩ | ⟨hc,hc',t1,t2,t3,t4,t5,t6,t7⟩ | ⟨hc,hc',t1,t2,t3,t4,t5,t6,t7⟩ | ⟨hc,hc',t1,t2,t3,t4,t5,t6,t7⟩ | ⟨hc,hc',t1,t2,t3,t4,t5,t6,t7⟩<;>first | (exfalso;omega) | skip
      all_goals
       go_wp2_with (first | (go_at_call 173;(with_reducible refine Wt.out.mono ?_);rintro e w2 ⟨rfl,rfl⟩) | (go_at_call 173;(with_reducible refine Ws.out.mono ?_);rintro e w2 ⟨rfl,rfl⟩));go_roundw
       case rel=>exact⟨k+1,ia,by go_num,Wm Ek.out H3.out,uw.out.setOther la _,Zd.out.setCell la _⟩
       case measure=>simp[intOf];omega
     ·have H3:=da (show Bt k=0 by rw[H0.out,Aa ia,Aa ia,Aa ia])
      have e1:decide (0<=x1)=false:=by rw[d1];exact Ia ia
      have e2:decide (0<=x2)=false:=by rw[d2];exact Ia ia
      clear d1 d2;have d3:((k:Int)==60)=false:=by simp;omega
      have d4:((k:Int)==62)=false:=by simp;omega
      clear hq H0;rcases hcl with⟨hc,hc',t1,t2,t3,t4,t5,t6,t7⟩ | ⟨hc,hc',t1,t2,t3,t4,t5,t6,t7⟩ | ⟨hc,hc',t1,t2,t3,t4,t5,t6,t7⟩ | ⟨hc,hc',t1,t2,t3,t4,t5,t6,t7⟩ | ⟨hc,hc',t1,t2,t3,t4,t5,t6,t7⟩ | ⟨hc,hc',t1,t2,t3,t4,t5,t6,t7⟩ | ⟨hc,hc',t1,t2,t3,t4,t5,t6,t7⟩ | ⟨hc,hc',t1,t2,t3,t4,t5,t6,t7⟩ | ⟨hc,hc',t1,t2,t3,t4,t5,t6,t7⟩<;>first | (exfalso;omega) | skip
      all_goals
       go_wp2_with (first | (go_at_call 173;(with_reducible refine Wt.out.mono ?_);rintro e w2 ⟨rfl,rfl⟩) | (go_at_call 173;(with_reducible refine Ws.out.mono ?_);rintro e w2 ⟨rfl,rfl⟩));go_roundw
       case rel=>exact⟨k+1,ia,by go_num,bM Ek.out H3.out,uw.out,Zd.out⟩
       case measure=>simp[intOf];omega
  ·obtain rfl:k=256:=by omega
   have c35:=hrow.cell (i:=35) ia;have c95:=hrow.cell (i:=95) ia;have c33:=hrow.cell (i:=33) ia;have f35:=hrow.frozen 35;have f95:=hrow.frozen 95;have f33:=hrow.frozen 33;have Q5:=WI hrow;have abV:=da Q5;have R5:=da (((uw.out.setOther (a:=⟨w.heap.size+1,35,none⟩) la (.int .u8 2)).setOther (a:=⟨w.heap.size+1,95,none⟩) la (.int .u8 5)).setOther (a:=⟨w.heap.size+1,33,none⟩) la (.int .u8 8));clear hrow Q5
   go_wp2_with (first
    | ((with_reducible show wpList _ _ _ (⟨_,Op.load 197 (.tmp 1),_,_,_,_⟩::_) _ _);refine wpList_load_mid rfl _ (.tmp 1) rfl (w.heap.size+1) 0 rfl Xp _ abV.out Tryz.underlying197 rfl Ur ?_)
    | ((with_reducible show wpList _ _ _ (⟨_,Op.store 197 (.tmp 0) (.tmp 56),_,_,_,_⟩::_) _ _);refine Xo rfl (.tmp 0) (.tmp 56) rfl Xp w.heap.size rfl rfl R5.out mr.symm Ur mG ?_;intro W5 tZ J9))
   refine Qa (v:=.agg Xp.toArray) ?_ rfl ⟨rfl,?_⟩
   {have:=run_loadVar_mid (P:=Tryz.prog) W5 w.heap.size 0 197 Xp _ J9 Tryz.underlying197 rfl Ur;exact od (p:=0) (ty:=197) rfl _ _ _ rfl this}
   {exact(((Zd.out.setCell la _).setCell la _).setCell la _).trans (tZ.below (ja _))}
def Du (s:ByteArray)(i:Nat):Nat:=if h:i<s.size then mm s[i].toNat else 0
theorem PX (s:ByteArray)(i:Nat)(bt bc:Nat)(w:World)(_hs:s.size<=9223372036854775807)(ht:w.cell? ⟨bt,0,none⟩=some (.string s))(hc:w.rangeAt bc 0 Xp):
  Calls Tryz.prog 170 #[.int .i64 i,.pointer (some ⟨bt,0,none⟩),.pointer (some ⟨bc,0,none⟩)] w fun e w'=>e=.returned (.int .u8 (Du s i))/\ w=w':=by
 by_cases h:i<s.size
 ·have hb:w.cell? ⟨bc,s[i].toNat,none⟩=some (.int .u8 (mm s[i].toNat)):=by
   have hlt:s[i].toNat<Xp.length:=by rw[mr];exact s[i].toNat_lt
   have h0:Xp[s[i].toNat]? =some (Value.int .u8 (mm s[i].toNat)):=by{obtain⟨v,hv⟩:∃v,Xp[s[i].toNat]? =some v:=⟨_,Pa hlt⟩;rw[hv,(nG _ _ hv).2]}
   simpa using hc _ _ h0
  have HR:=da (show Du s i=mm s[i].toNat by unfold Du;rw[dif_pos h]);have cE:(s[i].toNat:Int)<256:=by have:=s[i].toNat_lt;omega
  clear hc;go_enter Tryz.func170,Tryz.ntmps170;go_wp2;go_ret;exact⟨ke (by rw[HR.out]),rfl⟩
 {have HR:=da (show Du s i=0 by unfold Du;rw[dif_neg h]);clear hc;go_enter Tryz.func170,Tryz.ntmps170;go_wp2;go_ret;exact⟨ke (by rw[HR.out];rfl),rfl⟩}
def Uw (l:List UInt8):Nat:=l.foldl (fun n c=>10*n+(c.toNat-48)) 0
theorem lC (l:List UInt8)(c:UInt8):Uw (l++[c])=10*Uw l+(c.toNat-48):=by simp[Uw]
theorem mC (s:ByteArray)(k:Nat)(h:k<s.size):s.data.toList.take (k+1)=s.data.toList.take k++[s[k]]:=by
 rw[Ka (by simpa using h)];rfl
def sD (s:ByteArray):Prop:=∀i (h:i<s.size),48<=s[i].toNat/\ s[i].toNat<=57
theorem DT (s:ByteArray)(hd:sD s)(k:Nat)(h:k<=s.size):Uw (s.data.toList.take k)<10 ^ k:=by
 induction k with| zero=>simp[Uw]| succ k ih=>{have h1:=ih ia;have h2:=hd k ia;rw[mC s k ia,lC,Nat.pow_succ];omega}
theorem XI (s:ByteArray)(h1:1<=s.size)(h18:s.size<=18)(hd:sD s)(w:World):
  Calls Tryz.prog 174 #[.string s] w fun e w'=>e=.returned (.tuple #[.int .i64 (Uw s.data.toList),.nilIface])/\ Below w.heap.size w w':=by
 have hcv:=Lib.run_convert_string_bytes (P:=Tryz.prog) w 9 74 5 s (u:=.string) Tryz.underlying9 Tryz.underlying74 Tryz.underlying5
 have hB:∀j,(h:j<s.size)->(Lib.bytesWorld w 5 s).cell? ⟨w.heap.size,j,none⟩=some (.int .u8 s[j].toNat):=fun j hj=>by{rw[Lib.bytesWorld_cell w 5 s j hj];congr 3;(have hj':j<s.data.toList.length:=by simpa using hj);rw[Ra,Pa hj'];rfl}
 have S5:=da (Lib.bytesWorld_below w 5 s);obtain⟨W1,hW1⟩:∃W1,Lib.bytesWorld w 5 s=W1:=⟨_,rfl⟩;rw[hW1]at hcv hB S5;clear hW1;have HB:=da hB;have HD:=da hd;clear hB;have LY:=hd 0 ia;have e45:((s[0].toNat:Int)==45)=false:=by simp;omega
 have e43:((s[0].toNat:Int)==43)=false:=by simp;omega
 clear hd;have HF:=da (show Uw s.data.toList=Uw (s.data.toList.take s.size) by rw[Ac la]);generalize Uw s.data.toList=V at*
 go_enter Tryz.func174,Tryz.ntmps174;go_wp2
 go_loop [49,6] (fun vi vn=>∃k acc:Nat,k<=s.size/\ vi=.int .i64 k/\ vn=.int .i64 acc/\ Hid (acc=Uw (s.data.toList.take k))) (fun vi _=>s.size-(intOf vi).toNat)
 case atStart=>exact⟨0,0,xb _,rfl,rfl,da rfl⟩
 case round=>(obtain⟨k,acc,hk,rfl,rfl,YP⟩:=hrel;by_cases hlt:k<s.size;{have hc1:=HB.out k hlt;have hdk:=HD.out k hlt;have afb:acc<100000000000000000:=by{have:=DT s HD.out k hk;rw[<-YP.out]at this;refine Wb this (Nat.pow_le_pow_right (n:=10) ia (show k<=17 by omega))};have HN:=da (show 10*acc+(s[k].toNat-48)=Uw (s.data.toList.take (k+1)) by rw[mC s k hlt,lC,YP.out]);clear YP;go_wp2;go_round;(case rel=>exact⟨k+1,10*acc+(s[k].toNat-48),ia,by go_num,by first | go_num | (congr 1;unfold wrap64;omega),HN⟩);case measure=>simp[intOf];omega};{(obtain rfl:k=s.size:=ia);(have hv:acc=V:=by rw[HF.out];exact YP.out);subst hv;clear YP HF;go_wp2;go_ret2;exact⟨rfl,S5.out⟩})
theorem ZP (s:ByteArray)(h1:1<=s.size)(h18:s.size<=18)(hd:sD s)(w:World):
  Calls Tryz.prog 172 #[.string s] w fun e w'=>e=.returned (.tuple #[.int .i64 (Uw s.data.toList),.nilIface])/\ Below w.heap.size w w':=by
 have H:=da (XI s h1 h18 hd w);clear hd;go_enter Tryz.func172,Tryz.ntmps172;go_wp2_with (go_at_call 174;(with_reducible refine H.out.mono ?_);rintro e w2 ⟨rfl,ud⟩);go_ret2;exact⟨rfl,ud⟩
section
variable {P : Program} {b : Frame} {a : Act} {k : List Item} {cs : List Frame} {w : World}
theorem Yj {c:Code}:step P (lone (b.atR a (.code (.scope c)::k)) cs w)=.next (lone (b.atR a (.code c:: .inScope c::k)) cs w):=
 step_lone_go (by simp[stepG,stepG.exec,Frame.atR])
theorem uA {c:Code}:step P (lone (b.atR a (.inScope c::k)) cs w)=.next (lone (b.atR a k) cs w):=
 step_lone_go (by simp[stepG,stepG.exec,Frame.atR])
theorem As {F:Fence}{n:Nat}{Q:Exit->Act->World->Prop}{c:Code}(h:c.wpIn F n P (Exit.noGoto Q) a w):(Code.scope c).wpIn F n P Q a w:=by
 intro b k cs hro hb hr;have h0:(lone (b.atR a (.code (.scope c)::k)) cs w).fenced P F:=fenced_calm hb hr rfl;obtain⟨e,a₁,w₁,hq,cM⟩:=h b (.inScope c::k) cs hro hb hr;cases e with
 | normal=>exact⟨.normal,a₁,w₁,hq,.head h0 Yj (StepsIn.trans cM (.one (fenced_calm hb hr rfl) uA))⟩
 | exit id=>
  have hx:exitTo id (.inScope c::k)=exitTo id k:=by simp[exitTo]
  exact⟨.exit id,a₁,w₁,hq,fun k' hk=>.head h0 Yj (cM.1 k' (by rw[hx];exact hk)),
   fun IZ hk=>let⟨abW,h1,h2⟩:=cM.2 IZ (by rw[hx];exact hk);⟨abW,h1,.head h0 Yj h2⟩⟩
 | goto l=>exact hq.elim
 | ret=>exact⟨_,a₁,w₁,hq,.of_steps (.one h0 Yj) cM⟩
 | panic ch=>exact⟨_,a₁,w₁,hq,.of_steps (.one h0 Yj) cM⟩
 | outgrown=>exact⟨_,a₁,w₁,hq,.of_steps (.one h0 Yj) cM⟩
end
def Yg (t:TypeId)(W W':World):Prop:=∀(k:Nat) (cs:Array Value) (z:Nat×Nat),W.heap[k]? =some (Obj.cells cs t z)->W'.heap[k]? =some (Obj.cells cs t z)
theorem Yg.refl (t:TypeId)(W:World):Yg t W W:=fun _ _ _ h=>h
theorem Yg.trans {t:TypeId}{A B C:World}(h:Yg t A B)(k:Yg t B C):Yg t A C:=fun i cs z hi=>k i cs z (h i cs z hi)
theorem Yg.putObj (t:TypeId)(W:World)(l:Nat)(o o':Obj)(hl:W.heap[l]? =some o)(ho:o.isCells=false):Yg t W (W.putObj l o'):=fun k cs z hk=>
 (World.putObj_heap_other (fun e=>by subst e;rw[hl]at hk;cases hk;cases ho)).trans hk
theorem Yg.below {t:TypeId}{W W':World}(h:Below W.heap.size W W'):Yg t W W':=fun k _ _ hk=>(h.block k (Array.getElem?_eq_some_iff.1 hk).1).trans hk
theorem Yg.grown {t:TypeId}{W W':World}{row:Option Nat}(h:W.grownBy W' row)(hr:∀(r:Nat) (cs:Array Value) (z:Nat×Nat),row=some r->W.heap[r]? ≠some (Obj.cells cs t z)):Yg t W W':=fun k cs z hk=>
 (h.block k (Array.getElem?_eq_some_iff.1 hk).1 (fun e=>hr k cs z e.symm hk)).trans hk
theorem Yg.boxed {t t':TypeId}(hne:t'≠t){W:World}{B:Nat}{v:Value}(h:Boxed W B t' v)(v':Value):Yg t W (W.setCell ⟨B,0,none⟩ v'):=
 Yg.grown (grownBy_setCell' W B v') (fun r cs z e hk=>by cases e;rw[show W.heap[B]? =_ from h]at hk;cases hk;exact hne rfl)
theorem Bq {W W':World}(h:Below W.heap.size W W'):W.grownBy W' none:=⟨h.os,h.tape,h.output,h.size,fun k hk _=>h.block k hk⟩
theorem Di {β:Type}{B:Nat}{J:β->World->Prop}(hJ:AbidesFrom B J){s:β}{W W':World}(hs:J s W)(h:Below W.heap.size W W'):J s W':=
 hJ s W W' none hs (Bq h) (fun r e=>by cases e)
def Kept (t:TypeId)(n:Nat)(W W':World):Prop:=Below n W W'/\ Yg t W W'
theorem Kept.t {t:TypeId}{n:Nat}:∀ {A B C:World},Kept t n A B->Kept t n B C->Kept t n A C:=fun h k=>⟨h.1.trans k.1,h.2.trans k.2⟩
theorem Kept.b {t:TypeId}{n:Nat}{w:World}(hn:n<=w.heap.size):∀(W:World) (l:Nat) (o o':Obj),w.heap.size<=l->W.heap[l]? =some o->o.isCells=false->o.isWalk=false->Kept t n W (W.putObj l o'):=
 fun W l o o' h1 h2 h3 h4=>⟨belowK_b hn W l o o' h1 h2 h3 h4,Yg.putObj t W l o o' h2 h3⟩
end Go.Proofs.YtejbgoigkefnfaaGreatDoor
