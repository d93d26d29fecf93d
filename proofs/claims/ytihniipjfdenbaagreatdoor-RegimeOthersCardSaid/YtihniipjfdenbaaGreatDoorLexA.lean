/- A range over a function, inside a fence: a scope without jumps; what a round keeps, by the types of blocks. Of no program. -/
import Derived.Test.YtihniipjfdenbaaGreatDoorMemA
import Derived.Deep.OwnRows
import Derived.Shelf.Strings.Search1
import Derived.Lib.AtoiErrMem
import Derived.RangeFuncNested
import Derived.RangeFuncBound
import Derived.OwnWalkIn
import Derived.TacticsInMore
import Derived.LoopNIn
import Derived.LoopIn
set_option maxRecDepth 100000
set_option maxHeartbeats 4000000
namespace Go.Proofs.YtihniipjfdenbaaGreatDoor
open Go.RowKit
def okB (k:Nat)(c:Nat):Bool:=decide (((97<=(c:Int)/\ (c:Int)<=122)\/(65<=(c:Int)/\ (c:Int)<=90))\/(k≠0/\ ((48<=(c:Int)/\ (c:Int)<=57)\/(c:Int)=95)))
def okAll :List UInt8->Nat->Bool
 | [],_=>true
 | c::l,k=>okB k c.toNat&& okAll l (k+1)
def nameB (s:ByteArray):Bool:=okAll s.data.toList 0&& !s.toList.isEmpty&& decide (s.size<=24)
theorem okAll_drop (s:ByteArray)(k:Nat)(h:k<s.size):okAll (s.data.toList.drop k) k=(okB k s[k].toNat&& okAll (s.data.toList.drop (k+1)) (k+1)):=by
 rw[List.drop_eq_getElem_cons (by simpa using h),okAll];rfl
theorem isEmpty_size (s:ByteArray):s.toList.isEmpty=decide (s.size=0):=by
 rw[ByteArray.toList_eq];cases s with | mk d=>cases d with | mk l=>cases l<;>simp[ByteArray.size]
theorem byte_cls (c:Int)(h0:0<=c)(h1:c<=255):
  (0<=c/\ c<=47/\ decide (97<=c)=false/\ decide (c<=122)=true/\ decide (65<=c)=false/\ decide (c<=90)=true/\ decide (48<=c)=false/\ decide (c<=57)=true/\ (c==95)=false)\/
  (48<=c/\ c<=57/\ decide (97<=c)=false/\ decide (c<=122)=true/\ decide (65<=c)=false/\ decide (c<=90)=true/\ decide (48<=c)=true/\ decide (c<=57)=true/\ (c==95)=false)\/
  (58<=c/\ c<=64/\ decide (97<=c)=false/\ decide (c<=122)=true/\ decide (65<=c)=false/\ decide (c<=90)=true/\ decide (48<=c)=true/\ decide (c<=57)=false/\ (c==95)=false)\/
  (65<=c/\ c<=90/\ decide (97<=c)=false/\ decide (c<=122)=true/\ decide (65<=c)=true/\ decide (c<=90)=true/\ decide (48<=c)=true/\ decide (c<=57)=false/\ (c==95)=false)\/
  (91<=c/\ c<=94/\ decide (97<=c)=false/\ decide (c<=122)=true/\ decide (65<=c)=true/\ decide (c<=90)=false/\ decide (48<=c)=true/\ decide (c<=57)=false/\ (c==95)=false)\/
  (95<=c/\ c<=95/\ decide (97<=c)=false/\ decide (c<=122)=true/\ decide (65<=c)=true/\ decide (c<=90)=false/\ decide (48<=c)=true/\ decide (c<=57)=false/\ (c==95)=true)\/
  (96<=c/\ c<=96/\ decide (97<=c)=false/\ decide (c<=122)=true/\ decide (65<=c)=true/\ decide (c<=90)=false/\ decide (48<=c)=true/\ decide (c<=57)=false/\ (c==95)=false)\/
  (97<=c/\ c<=122/\ decide (97<=c)=true/\ decide (c<=122)=true/\ decide (65<=c)=true/\ decide (c<=90)=false/\ decide (48<=c)=true/\ decide (c<=57)=false/\ (c==95)=false)\/
  (123<=c/\ c<=255/\ decide (97<=c)=true/\ decide (c<=122)=false/\ decide (65<=c)=true/\ decide (c<=90)=false/\ decide (48<=c)=true/\ decide (c<=57)=false/\ (c==95)=false):=by
 have hcl:(0<=c/\ c<=47)\/(48<=c/\ c<=57)\/(58<=c/\ c<=64)\/(65<=c/\ c<=90)\/(91<=c/\ c<=94)\/(95<=c/\ c<=95)\/(96<=c/\ c<=96)\/(97<=c/\ c<=122)\/(123<=c/\ c<=255):=by omega
 rcases hcl with h | h | h | h | h | h | h | h | h
 {left;exact⟨by omega,by omega,by simp;omega,by simp;omega,by simp;omega,by simp;omega,by simp;omega,by simp;omega,by simp;omega⟩}
 {right;left;exact⟨by omega,by omega,by simp;omega,by simp;omega,by simp;omega,by simp;omega,by simp;omega,by simp;omega,by simp;omega⟩}
 {right;right;left;exact⟨by omega,by omega,by simp;omega,by simp;omega,by simp;omega,by simp;omega,by simp;omega,by simp;omega,by simp;omega⟩}
 {right;right;right;left;exact⟨by omega,by omega,by simp;omega,by simp;omega,by simp;omega,by simp;omega,by simp;omega,by simp;omega,by simp;omega⟩}
 {right;right;right;right;left;exact⟨by omega,by omega,by simp;omega,by simp;omega,by simp;omega,by simp;omega,by simp;omega,by simp;omega,by simp;omega⟩}
 {right;right;right;right;right;left;exact⟨by omega,by omega,by simp;omega,by simp;omega,by simp;omega,by simp;omega,by simp;omega,by simp;omega,by simp;omega⟩}
 {right;right;right;right;right;right;left;exact⟨by omega,by omega,by simp;omega,by simp;omega,by simp;omega,by simp;omega,by simp;omega,by simp;omega,by simp;omega⟩}
 {right;right;right;right;right;right;right;left;exact⟨by omega,by omega,by simp;omega,by simp;omega,by simp;omega,by simp;omega,by simp;omega,by simp;omega,by simp;omega⟩}
 {right;right;right;right;right;right;right;right;exact⟨by omega,by omega,by simp;omega,by simp;omega,by simp;omega,by simp;omega,by simp;omega,by simp;omega,by simp;omega⟩}
theorem isName_any (s:ByteArray)(w:World)(hs:s.size<=maxLen):
  Calls Tryz.prog 79 #[.string s] w fun e w'=>e=.returned (.bool (nameB s))/\ w=w':=by
 unfold maxLen at hs;have HR:Hid (nameB s=(okAll s.data.toList 0&& !s.toList.isEmpty&& decide (s.size<=24))):=rfl;generalize nameB s=R at*
 go_enter Tryz.func79,Tryz.ntmps79;go_wp2
 go_loop [9] (fun i=>∃k:Nat,k<=s.size/\ i=.int .i64 k/\ Hid (okAll (s.data.toList.drop k) k=okAll s.data.toList 0)) (fun i=>s.size-(intOf i).toNat)
 case atStart=>exact⟨0,by omega,rfl,rfl⟩
 case round=>
  obtain⟨k,hk,rfl,hin⟩:=hrel;by_cases hlt:k<s.size
  ·have ho:=okAll_drop s k hlt
   rw[hin.out]at ho;have HO:=Lib.hid ho;clear ho hin;have hyes:okB k s[k].toNat=true->okAll (s.data.toList.drop (k+1)) (k+1)=okAll s.data.toList 0:=fun h=>by rw[HO.out,h,Bool.true_and]
   have hno:okB k s[k].toNat=false->R=false:=fun h=>by rw[HR.out,HO.out,h];simp
   have HY:=Lib.hid hyes;have HN:=Lib.hid hno;clear hyes hno HO HR;have hcl:=byte_cls (s[k].toNat:Int) (by omega) (by have:=s[k].toNat_lt;omega);by_cases hk0:k=0
   ·subst hk0
    rcases hcl with⟨hc,hc',t1,t2,t3,t4,t5,t6,t7⟩ | ⟨hc,hc',t1,t2,t3,t4,t5,t6,t7⟩ | ⟨hc,hc',t1,t2,t3,t4,t5,t6,t7⟩ | ⟨hc,hc',t1,t2,t3,t4,t5,t6,t7⟩ | ⟨hc,hc',t1,t2,t3,t4,t5,t6,t7⟩ | ⟨hc,hc',t1,t2,t3,t4,t5,t6,t7⟩ | ⟨hc,hc',t1,t2,t3,t4,t5,t6,t7⟩ | ⟨hc,hc',t1,t2,t3,t4,t5,t6,t7⟩ | ⟨hc,hc',t1,t2,t3,t4,t5,t6,t7⟩
    all_goals
     go_wp2
     first
     | (go_ret;exact⟨ret_bool (HN.out (decide_eq_false (by omega))).symm,rfl⟩)
     | (go_round;(case rel=>exact⟨0+1,by omega,by go_num,HY.out (decide_eq_true (by omega))⟩);(case measure=>first | (simp[intOf];omega) | simp[intOf]))
   ·have hkp:((k:Int)==0)=false:=by simp[hk0]
    have hkp':0<k:=by omega
    clear hk0;rcases hcl with⟨hc,hc',t1,t2,t3,t4,t5,t6,t7⟩ | ⟨hc,hc',t1,t2,t3,t4,t5,t6,t7⟩ | ⟨hc,hc',t1,t2,t3,t4,t5,t6,t7⟩ | ⟨hc,hc',t1,t2,t3,t4,t5,t6,t7⟩ | ⟨hc,hc',t1,t2,t3,t4,t5,t6,t7⟩ | ⟨hc,hc',t1,t2,t3,t4,t5,t6,t7⟩ | ⟨hc,hc',t1,t2,t3,t4,t5,t6,t7⟩ | ⟨hc,hc',t1,t2,t3,t4,t5,t6,t7⟩ | ⟨hc,hc',t1,t2,t3,t4,t5,t6,t7⟩
    all_goals
     go_wp2
     first
     | (go_ret;exact⟨ret_bool (HN.out (decide_eq_false (by omega))).symm,rfl⟩)
     | (go_round;(case rel=>exact⟨k+1,by omega,by go_num,HY.out (decide_eq_true (by omega))⟩);(case measure=>first | (simp[intOf];omega) | simp[intOf]))
  ·have HR2:Hid (R=(!s.toList.isEmpty&& decide (s.size<=24))):=by
    have h0:=hin.out;rw[List.drop_of_length_le (by simp;omega),okAll]at h0
    show _=_
    rw[HR.out, <-h0];simp
   clear hin HR;have hemp:=isEmpty_size s;by_cases h0:s.size=0
   {rw[decide_eq_true h0]at hemp;rw[hemp]at HR2;go_wp2;go_ret;exact⟨ret_bool (by rw[HR2.out];simp),rfl⟩}
   {rw[decide_eq_false h0]at hemp;rw[hemp]at HR2;by_cases h24:s.size<=24;{(have h24d:(s.size:Int)<=24:=by omega);rw[decide_eq_true h24]at HR2;go_wp2;go_ret;exact⟨ret_bool (by rw[HR2.out];simp),rfl⟩};{(have h24d:¬(s.size:Int)<=24:=by omega);rw[decide_eq_false h24]at HR2;clear h24;go_wp2;go_ret;exact⟨ret_bool (by rw[HR2.out];simp),rfl⟩}}
structure Upd (b : Nat) (w w' : World) : Prop where
 os:w'.os=w.os
 tape:w'.tape=w.tape
 output:w'.output=w.output
 size:w'.heap.size=w.heap.size
 block:∀k,k≠b->w'.heap[k]? =w.heap[k]?
theorem Upd.below {b B:Nat}{w w':World}(h:Upd b w w')(hb:B<=b):Below B w w':=⟨h.os,h.tape,h.output,Nat.le_of_eq h.size.symm,fun k hk=>h.block k (by omega)⟩
theorem Upd.cell {b:Nat}{w w':World}(h:Upd b w w'){p:Addr}(hp:p.block≠b):w'.cell? p=w.cell? p:=World.cell?_of_block (w:=w) (h.block _ hp)
theorem Upd.frozen {b:Nat}{w w':World}(h:Upd b w w'){p:Addr}(hp:p.block≠b):w'.frozen? p=w.frozen? p:=World.frozen?_of_block (w:=w) (h.block _ hp)
section
variable {κ ν : Type} (ek : κ -> Value) (ev : ν -> Value)
def MapIs (w:World)(b:Nat)(l:List (κ×ν)):Prop:=
 ∃es clock,w.heap[b]? =some (.map es clock)/\ es.toList.map (fun e=>(e.key,e.val))=l.map fun p=>(ek p.1,ev p.2)
variable {ek ev}
theorem MapIs.upd {b b':Nat}{w w':World}{l:List (κ×ν)}(h:MapIs ek ev w b l)(hu:Upd b' w w')(hb:b≠b'):MapIs ek ev w' b l:=by
 obtain⟨es,c,h1,h2⟩:=h;exact⟨es,c,by rw[hu.block _ hb];exact h1,h2⟩
theorem MapIs.below {b B:Nat}{w w':World}{l:List (κ×ν)}(h:MapIs ek ev w b l)(hu:Below B w w')(hb:b<B):MapIs ek ev w' b l:=by
 obtain⟨es,c,h1,h2⟩:=h;exact⟨es,c,by rw[hu.block _ hb];exact h1,h2⟩
theorem MapIs.lt {b:Nat}{w:World}{l:List (κ×ν)}(h:MapIs ek ev w b l):b<w.heap.size:=by
 obtain⟨es,c,h1,h2⟩:=h;exact(Array.getElem?_eq_some_iff.1 h1).1
theorem MapIs.made (w:World):MapIs ek ev (w.alloc (.map #[] 0)) w.heap.size ([]:List (κ×ν)):=⟨#[],0,heap_alloc_new _ _,rfl⟩
theorem MapIs.alloc {b:Nat}{w:World}{l:List (κ×ν)}(h:MapIs ek ev w b l)(o:Obj):MapIs ek ev (w.alloc o) b l:=
 h.below (B:=w.heap.size) ((Below.refl _ _).alloc (Nat.le_refl _) _) h.lt
end
theorem run_getMap {P:Program}{w:World}{b:Nat}{es:Array MapEntry}{c:Nat}(h:w.heap[b]? =some (.map es c)):(getObj b).run P w=.ok (.map es c) w:=by
 unfold getObj;rw[Sem.run,h];rfl
theorem run_setMap {P:Program}{w:World}{b:Nat}{es:Array MapEntry}{c:Nat}(h:w.heap[b]? =some (.map es c))(o:Obj):(setObj b o).run P w=.ok () {w with heap:=w.heap.setIfInBounds b o}:=by
 unfold setObj;rw[Sem.run,h];rfl
section
variable {κ ν : Type} [BEq κ] (ek : κ -> Value) (ev : ν -> Value)
def ins :List (κ×ν)->κ->ν->List (κ×ν)
 | [],k,v=>[(k,v)]
 | (a,x)::l,k,v=>if k==a then(k,v)::l else(a,x)::ins l k v
structure KeyLaw (P : Program) (K : TypeId) : Prop where
 und:∃d,P.underlying K=some d/\ (∀a b:κ,Instr.sameNow d (ek a) (ek b)=some (a==b))/\ (∀(w:World) (e:Bool) (a:κ),(Instr.checkKey e 10000 K (ek a)).run P w=.ok () w)
 bits:∀a:κ,Instr.sameBits 10000 (ek a) (ek a)=true
variable {ek ev}
theorem find_none {d:TypeDesc}(hd:∀a b:κ,Instr.sameNow d (ek a) (ek b)=some (a==b))(k:κ)(v:ν):∀(l:List (κ×ν)) (es:List MapEntry) (i:Nat),
  es.map (fun e=>(e.key,e.val))=l.map (fun p=>(ek p.1,ev p.2))->l.lookup k=none->Instr.findNow d (ek k) es i=some none/\ ins l k v=l++[(k,v)]
 | [],[],i,_,_=>⟨rfl,rfl⟩
 | (a,x)::l,e::es,i,h,hl=>by{simp only[List.map_cons,List.cons.injEq,Prod.mk.injEq]at h;obtain⟨⟨h1,h2⟩,h3⟩:=h;rw[List.lookup_cons]at hl;cases hka:k==a with| true=>rw[hka]at hl;cases hl| false=>{rw[hka]at hl;obtain⟨r1,r2⟩:=find_none hd k v l es (i+1) h3 hl;refine⟨?_,?_⟩;{rw[Instr.findNow,h1,hd,hka];exact r1};{simp[ins,hka,r2]}}}
 | [],e::es,i,h,_=>by cases h
 | (a,x)::l,[],i,h,_=>by cases h
theorem ins_none :∀(l:List (κ×ν)) (k:κ) (v:ν),l.lookup k=none->ins l k v=l++[(k,v)]
 | [],_,_,_=>rfl
 | (a,x)::l,k,v,h=>by{rw[List.lookup_cons]at h;cases hka:k==a with| true=>rw[hka]at h;cases h| false=>rw[hka]at h;simp[ins,hka,ins_none l k v h]}
variable [LawfulBEq κ]
theorem find_some {d:TypeDesc}(hd:∀a b:κ,Instr.sameNow d (ek a) (ek b)=some (a==b))(k:κ)(v x:ν):∀(l:List (κ×ν)) (es:List MapEntry) (i:Nat),
  es.map (fun e=>(e.key,e.val))=l.map (fun p=>(ek p.1,ev p.2))->l.lookup k=some x->
  ∃j,j<es.length/\ Instr.findNow d (ek k) es i=some (some (i+j,ev x))/\ (es[j]?.map (·.key))=some (ek k)/\
   (es.modify j fun e=>{e with key:=ek k,val:=ev v}).map (fun e=>(e.key,e.val))=(ins l k v).map (fun p=>(ek p.1,ev p.2))
 | [],[],i,_,h=>by cases h
 | (a,y)::l,e::es,i,h,hl=>by{simp only[List.map_cons,List.cons.injEq,Prod.mk.injEq]at h;obtain⟨⟨h1,h2⟩,h3⟩:=h;rw[List.lookup_cons]at hl;cases hka:k==a with| true=>{rw[hka]at hl;(obtain rfl:y=x:=by simpa using hl);(obtain rfl:k=a:=by simpa using hka);refine⟨0,by simp,?_,by simp[h1],?_⟩;{rw[Instr.findNow,h1,hd,hka,h2];rfl};{simp[ins,h3]}}| false=>{rw[hka]at hl;obtain⟨j,r0,r1,r2,r3⟩:=find_some hd k v x l es (i+1) h3 hl;refine⟨j+1,by simpa using r0,?_,by simpa using r2,?_⟩;{rw[Instr.findNow,h1,hd,hka];simpa[Nat.add_assoc,Nat.add_comm 1 j]using r1};{simp[ins,hka,r3,h1,h2]}}}
 | [],e::es,i,h,_=>by cases h
 | (a,y)::l,[],i,h,_=>by cases h
variable {P : Program} {T K E : TypeId}
theorem run_findKey (hk:KeyLaw ek P K){w:World}{l:List (κ×ν)}{es:Array MapEntry}(he:es.toList.map (fun e=>(e.key,e.val))=l.map fun p=>(ek p.1,ev p.2))(k:κ)(v:ν):
  match l.lookup k with
  | none=>(Instr.findKey K (ek k) es.toList).run P w=.ok none w/\ ins l k v=l++[(k,v)]
  | some x=>∃j,j<es.size/\ (Instr.findKey K (ek k) es.toList).run P w=.ok (some (j,ev x)) w/\ (es[j]?.map (·.key))=some (ek k)/\
    (es.modify j fun e=>{e with key:=ek k,val:=ev v}).toList.map (fun e=>(e.key,e.val))=(ins l k v).map (fun p=>(ek p.1,ev p.2)):=by
 obtain⟨d,hu,hd,_⟩:=hk.und;cases hl:l.lookup k with| none=>{obtain⟨r1,r2⟩:=find_none hd k v l es.toList 0 he hl;refine⟨?_,r2⟩;simp[Instr.findKey,run_underlying hu,r1]}| some x=>{obtain⟨j,r0,r1,r2,r3⟩:=find_some hd k v x l es.toList 0 he hl;refine⟨j,by simpa using r0,?_,by simpa using r2,?_⟩;{simp[Instr.findKey,run_underlying hu,r1]};{rw[Array.toList_modify];exact r3}}
theorem run_look (hk:KeyLaw ek P K)(ht:P.underlying T=some (.map K E)){z:Value}(hz:∀w,(zeroValue E).run P w=.ok z w){w:World}{b:Nat}{l:List (κ×ν)}(h:MapIs ek ev w b l)(k:κ):
  (Instr.lookup T (.map (some b)) (ek k) false).run P w=.ok (match l.lookup k with | some x=>ev x | none=>z) w:=by
 obtain⟨es,c,h1,h2⟩:=h;have hc:=fun e=>(Classical.choose_spec hk.und).2.2 w e k
 cases hl:l.lookup k with| none=>{obtain⟨d,hu,hd,_⟩:=hk.und;have hf:(Instr.findKey K (ek k) es.toList).run P w=.ok none w:=by{have:Instr.findNow d (ek k) es.toList 0=some none:=by{have aux:∀(l:List (κ×ν)) (es:List MapEntry) (i:Nat),es.map (fun e=>(e.key,e.val))=l.map (fun p=>(ek p.1,ev p.2))->l.lookup k=none->Instr.findNow d (ek k) es i=some none:=by{intro l;induction l with| nil=>{intro es i h _;cases es with | nil=>rfl | cons e es=>cases h}| cons p l ih=>{intro es i h hl;cases es with| nil=>cases h| cons e es=>{obtain⟨a,x⟩:=p;simp only[List.map_cons,List.cons.injEq,Prod.mk.injEq]at h;rw[List.lookup_cons]at hl;cases hka:k==a with| true=>rw[hka]at hl;cases hl| false=>rw[hka]at hl;rw[Instr.findNow,h.1.1,hd,hka];exact ih es _ h.2 hl}}};exact aux l _ 0 h2 hl};simp[Instr.findKey,run_underlying hu,this]};simp[Instr.lookup,run_underlying ht,run_getMap h1,hc,hf,hz]}| some x=>{have:=run_findKey hk (w:=w) h2 k x;rw[hl]at this;obtain⟨j,_,hf,_,_⟩:=this;simp[Instr.lookup,run_underlying ht,run_getMap h1,hc,hf]}
theorem run_look_ok (hk:KeyLaw ek P K)(ht:P.underlying T=some (.map K E)){z:Value}(hz:∀w,(zeroValue E).run P w=.ok z w){w:World}{b:Nat}{l:List (κ×ν)}(h:MapIs ek ev w b l)(k:κ):
  (Instr.lookup T (.map (some b)) (ek k) true).run P w=.ok (match l.lookup k with | some x=>.tuple #[ev x,.bool true] | none=>.tuple #[z,.bool false]) w:=by
 have h0:=run_look hk ht hz h k;obtain⟨es,c,h1,h2⟩:=h;have hc:=fun e=>(Classical.choose_spec hk.und).2.2 w e k
 cases hl:l.lookup k with| none=>{obtain⟨d,hu,hd,_⟩:=hk.und;rw[hl]at h0;have hf:(Instr.findKey K (ek k) es.toList).run P w=.ok none w:=by{have aux:∀(l:List (κ×ν)) (es:List MapEntry) (i:Nat),es.map (fun e=>(e.key,e.val))=l.map (fun p=>(ek p.1,ev p.2))->l.lookup k=none->Instr.findNow d (ek k) es i=some none:=by{intro l;induction l with| nil=>{intro es i h _;cases es with | nil=>rfl | cons e es=>cases h}| cons p l ih=>{intro es i h hl;cases es with| nil=>cases h| cons e es=>{obtain⟨a,x⟩:=p;simp only[List.map_cons,List.cons.injEq,Prod.mk.injEq]at h;rw[List.lookup_cons]at hl;cases hka:k==a with| true=>rw[hka]at hl;cases hl| false=>rw[hka]at hl;rw[Instr.findNow,h.1.1,hd,hka];exact ih es _ h.2 hl}}};simp[Instr.findKey,run_underlying hu,aux l _ 0 h2 hl]};simp[Instr.lookup,run_underlying ht,run_getMap h1,hc,hf,hz]}| some x=>{have:=run_findKey hk (w:=w) h2 k x;rw[hl]at this;obtain⟨j,_,hf,_,_⟩:=this;simp[Instr.lookup,run_underlying ht,run_getMap h1,hc,hf]}
theorem run_store (hk:KeyLaw ek P K)(ht:P.underlying T=some (.map K E)){w:World}{b:Nat}{l:List (κ×ν)}(h:MapIs ek ev w b l)(k:κ)(v:ν):
  ∃w',(Instr.mapUpdate T (.map (some b)) (ek k) (ev v)).run P w=.ok () w'/\ MapIs ek ev w' b (ins l k v)/\ Upd b w w':=by
 have hlt:=h.lt;obtain⟨es,c,h1,h2⟩:=h;have hc:=fun e=>(Classical.choose_spec hk.und).2.2 w e k
 have hf:=run_findKey hk (w:=w) h2 k v
 have put:∀(es':Array MapEntry) (c':Nat),es'.toList.map (fun e=>(e.key,e.val))=(ins l k v).map (fun p=>(ek p.1,ev p.2))->
   MapIs ek ev {w with heap:=w.heap.setIfInBounds b (.map es' c')} b (ins l k v)/\ Upd b w {w with heap:=w.heap.setIfInBounds b (.map es' c')}:=fun es' c' he=>
  ⟨⟨es',c',by simp[hlt],he⟩,⟨rfl,rfl,rfl,by simp,fun j hj=>by simp[Ne.symm hj]⟩⟩
 cases hl:l.lookup k with| none=>{rw[hl]at hf;refine⟨_,?_,put (es.push {key:=ek k,val:=ev v,born:=c}) (c+1) (by simp[h2,hf.2])⟩;simp[Instr.mapUpdate,run_underlying ht,run_getMap h1,run_setMap h1,hc,hf.1]}| some x=>{rw[hl]at hf;obtain⟨j,hj,hf,hkey,hm⟩:=hf;refine⟨_,?_,put (es.modify j fun e=>{e with key:=ek k,val:=ev v}) c hm⟩;(have hst:(Instr.keyThatStays (ek k) (ek k)).run P w=.ok (ek k) w:=by simp[Instr.keyThatStays,hk.bits]);simp[Instr.mapUpdate,run_underlying ht,run_getMap h1,run_setMap h1,hc,hf,hkey,hst]}
end
theorem wpList_put {κ ν:Type}[BEq κ][LawfulBEq κ]{ek:κ->Value}{ev:ν->Value}{P:Program}{T K E:TypeId}{ops:Array Oper}{rest:List Oper}{o:Oper}{a:Act}{Q:Exit->Act->World->Prop}{w:World}
  (hg:o.guard=none) (m x y:Operand) (ho:o.op=.mapUpdate T m x y) (hk:KeyLaw ek P K) (ht:P.underlying T=some (.map K E)) {b:Nat} {l:List (κ×ν)} (h:MapIs ek ev w b l)
  (k:κ) (v:ν) (hm:a.eval m=.map (some b)) (hx:a.eval x=ek k) (hy:a.eval y=ev v)
  (hK:∀w',MapIs ek ev w' b (ins l k v)->Upd b w w'->wpList P ops Q rest (a.put o.dst undef) w'):wpList P ops Q (o::rest) a w:=by
 refine wpList_plain hg fun K' hK'=>?_
 obtain⟨w',hrun,h1,h2⟩:=run_store hk ht h k v;unfold Oper.wp;simp[execOp,ho,hm,hx,hy,hrun,Result.andThen];exact hK' _ _ (hK w' h1 h2)
instance : LawfulBEq ByteArray where
 eq_of_beq {a b} h:=by{cases a with | mk a=>cases b with | mk b=>{have:(a==b)=true:=h;rw[eq_of_beq this]}}
 rfl {a}:=by
  cases a with | mk a=>
   show(a==a)=true
   exact BEq.rfl
theorem eqB_eq (a b:ByteArray):(a==b)=(a.toList==b.toList):=by
 rw[Bool.eq_iff_iff,beq_iff_eq,beq_iff_eq];constructor
 {rintro rfl;rfl}
 {intro h;rw[ByteArray.toList_eq,ByteArray.toList_eq]at h;cases a with | mk a=>cases b with | mk b=>simpa using h}
theorem run_checkKey_str {P:Program}{K:TypeId}(h:P.underlying K=some .string)(n:Nat)(w:World)(e:Bool)(a:ByteArray):(Instr.checkKey e (n+1) K (.string a)).run P w=.ok () w:=by
 rw[Instr.checkKey.eq_def];simp[run_underlying h]
theorem run_checkKey_int {P:Program}{K:TypeId}{q:IntKind}(h:P.underlying K=some (.int q))(n:Nat)(w:World)(e:Bool)(a:Int):(Instr.checkKey e (n+1) K (.int q a)).run P w=.ok () w:=by
 rw[Instr.checkKey.eq_def];simp[run_underlying h]
theorem sameBits_str (n:Nat)(a:ByteArray):Instr.sameBits (n+1) (.string a) (.string a)=true:=by rw[Instr.sameBits];simp
theorem sameBits_int (n:Nat)(q:IntKind)(a:Int):Instr.sameBits (n+1) (.int q a) (.int q a)=true:=by rw[Instr.sameBits];simp
theorem keyStr {P:Program}{K:TypeId}(h:P.underlying K=some .string):KeyLaw Value.string P K:=
 ⟨⟨_,h,fun _ _=>rfl,fun w e a=>run_checkKey_str h 9999 w e a⟩,fun a=>sameBits_str 9999 a⟩
theorem keyInt {P:Program}{K:TypeId}{q:IntKind}(h:P.underlying K=some (.int q)):KeyLaw (Value.int q) P K:=
 ⟨⟨_,h,fun _ _=>by simp[Instr.sameNow],fun w e a=>run_checkKey_int h 9999 w e a⟩,fun a=>sameBits_int 9999 q a⟩
theorem indexByteIn_any (s:ByteArray)(c:Int)(w:World):
  Calls Tryz.prog 230 #[.string s,.int .u8 c] w fun e w'=>e=.returned (.int .i64 (Lib.indexByte s.data.toList c.toNat.toUInt8))/\ w=w':=by
 go_enter Tryz.func230,Tryz.ntmps230;go_wp2;rw[run_callFunc_extern Tryz.func236 (by kernel_rfl) (by kernel_rfl) (by kernel_rfl) (e:=Extern.BytealgIndexByte.indexByte) (by kernel_rfl),Lib.run_indexByteString];simp only[Result.andThen];rw[Oper.upon_value];go_wp2;go_ret;exact⟨rfl,rfl⟩
theorem indexByte_any (s:ByteArray)(c:Int)(w:World):
  Calls Tryz.prog 225 #[.string s,.int .u8 c] w fun e w'=>e=.returned (.int .i64 (Lib.indexByte s.data.toList c.toNat.toUInt8))/\ w=w':=by
 go_enter Tryz.func225,Tryz.ntmps225;go_wp2_with (go_at_call 230;refine(indexByteIn_any _ _ _).mono ?_;rintro e w2 ⟨rfl,rfl⟩);go_ret;exact⟨rfl,rfl⟩
def cls0 (c:Nat):Nat:=
 if(97<=c/\ c<=122)\/(65<=c/\ c<=90)then 3 else if 48<=c/\ c<=57 then 4 else if c=32\/c=9\/c=10 then 1
 else if c=59\/c=44\/c=46\/c=58\/c=40\/c=41\/c=91\/c=93\/c=123\/c=125\/c=61 then 6 else if c=60\/c=62 then 7 else 0
def clsB (c:Nat):Nat:=if c=35 then 2 else if c=95 then 5 else if c=33 then 8 else cls0 c
def sBlank :ByteArray:={data:=#[32,9,10]}
def sSym :ByteArray:={data:=#[59,44,46,58,40,41,91,93,123,125,61]}
theorem blank_at (c:Nat)(h:c<256):decide (0<=Lib.indexByte sBlank.data.toList (c:Int).toNat.toUInt8)=decide (c=32\/c=9\/c=10):=by
 have:∀c:Fin 256,decide (0<=Lib.indexByte sBlank.data.toList ((c.1:Nat):Int).toNat.toUInt8)=decide (c.1=32\/c.1=9\/c.1=10):=by decide+kernel
 exact this ⟨c,h⟩
theorem sym_at (c:Nat)(h:c<256):decide (0<=Lib.indexByte sSym.data.toList (c:Int).toNat.toUInt8)=
  decide (c=59\/c=44\/c=46\/c=58\/c=40\/c=41\/c=91\/c=93\/c=123\/c=125\/c=61):=by
 have:∀c:Fin 256,decide (0<=Lib.indexByte sSym.data.toList ((c.1:Nat):Int).toNat.toUInt8)=
  decide (c.1=59\/c.1=44\/c.1=46\/c.1=58\/c.1=40\/c.1=41\/c.1=91\/c.1=93\/c.1=123\/c.1=125\/c.1=61):=by decide+kernel
 exact this ⟨c,h⟩
theorem wpList_alloc_row {P:Program}{ops:Array Oper}{rest:List Oper}{o:Oper}{a:Act}{Q:Exit->Act->World->Prop}{w:World}{ty:TypeId}
  (hg:o.guard=none) (ho:o.op=.alloc ty) (z:Value) (n:Nat) (hz:(P.info? ty).map (·.zero)=some (some (.agg (Array.replicate n z))))
  (h:∀W',Below w.heap.size w W'->W'.heap.size=w.heap.size+1->W'.rowIs w.heap.size ty n (fun _=>z)->wpList P ops Q rest (a.put o.dst (.pointer (some ⟨w.heap.size,0,none⟩))) W'):
  wpList P ops Q (o::rest) a w:=by
 refine wpList_plain hg fun K' hK'=>?_
 obtain⟨i,hi,hzi⟩:∃i,P.info? ty=some i/\ i.zero=some (.agg (Array.replicate n z)):=by{cases hq:P.info? ty with| none=>rw[hq]at hz;cases hz| some i=>rw[hq]at hz;exact⟨i,rfl,by simpa using hz⟩}
 have hrun:(Instr.alloc ty true (.tuple #[])).run P w=.ok (.pointer (some ⟨w.heap.size,0,none⟩)) (w.alloc (.cells (Array.replicate n z) ty)):=by{simp[Instr.alloc,zeroValue,typeInfo,hi,hzi,newVar,newRow,Value.cells]}
 unfold Oper.wp;simp only[execOp,ho];simp[hrun];refine hK' _ _ (h _ ((Below.refl _ _).alloc (Nat.le_refl _) _) (by simp) ?_);have:=World.rowIs_alloc w (Array.replicate n z) ty (fun _=>z) (fun i hi=>by simp at hi;simp[hi])
 simpa using this
theorem wpList_store_old {P:Program}{ops:Array Oper}{rest:List Oper}{o:Oper}{a:Act}{Q:Exit->Act->World->Prop}{w:World}{ty t:TypeId}{n:Nat}{f:Nat->Value}
  (hg:o.guard=none) (x y:Operand) (ho:o.op=.store ty x y) (cells:List Value) (b:Nat) (hx:a.eval x=.pointer (some ⟨b,0,none⟩)) (hy:a.eval y=.agg cells.toArray)
  (hrow:w.rowIs b t n f) (hn:n=cells.length) (hi:(P.info? ty).map (·.size)=some cells.length) (h1:cells.toArray.all (·.oneCell')=true)
  (h:∀W',Upd b w W'->W'.rangeAt b 0 cells->wpList P ops Q rest (a.put o.dst undef) W'):wpList P ops Q (o::rest) a w:=by
 have ht:w.there b 0 cells.length:=fun j hj=>⟨by rw[Nat.zero_add,hrow.cell (by omega)];rfl,by rw[Nat.zero_add];exact hrow.frozen j⟩
 refine wpList_store_mid hg ty x y ho b 0 cells.toArray hx hy (by simpa using ht) (by simpa using hi) h1 (h _ ?_ ?_)
 ·have:∀(vs:List Value) (o:Nat) (W:World),Upd b w W->Upd b w (W.setCells b o vs):=by
   intro vs
   induction vs with| nil=>intro _ _ h;exact h| cons v vs ih=>{intro o W h;refine ih _ _ ⟨h.os,h.tape,h.output,?_,fun k hk=>?_⟩;{simpa[World.setCell]using h.size};{rw[Below.heap_setCell _ _ _ _ (by exact hk)];exact h.block k hk}}
  exact this _ _ _ ⟨rfl,rfl,rfl,rfl,fun _ _=>rfl⟩
 {simpa using World.rangeAt_setCells_same w b 0 cells ht}
theorem results_cell1 {fn:Func}{p:Tmp}{ty:TypeId}(h:fn.results=#[.cell p ty])(tmps:Array Value)(P:Program)(w:World){a:Addr}(hp:tmps.getD p undef=.pointer (some a)){v:Value}
  (hl:(loadVar ty a).run P w=.ok v w):(results fn tmps).run P w=.ok v w:=by
 rw[Array.getD_eq_getD_getElem?]at hp;simp[results,h,hp,hl,asAddr]
theorem results_cell3 {fn:Func}{p q r:Tmp}{t1 t2 t3:TypeId}(h:fn.results=#[.cell p t1,.cell q t2,.cell r t3])(tmps:Array Value)(P:Program)(w:World){a b c:Addr}
  (hp:tmps.getD p undef=.pointer (some a)) (hq:tmps.getD q undef=.pointer (some b)) (hr:tmps.getD r undef=.pointer (some c)) {u v x:Value}
  (h1:(loadVar t1 a).run P w=.ok u w) (h2:(loadVar t2 b).run P w=.ok v w) (h3:(loadVar t3 c).run P w=.ok x w):(results fn tmps).run P w=.ok (.tuple #[u,v,x]) w:=by
 rw[Array.getD_eq_getD_getElem?]at hp hq hr;simp[results,h,hp,hq,hr,h1,h2,h3,asAddr]
def clsL :List Value:=(List.range 256).map fun c=>Value.int .u8 (clsB c)
theorem clsL_len :clsL.length=256:=by simp[clsL]
theorem clsL_one :clsL.toArray.all (·.oneCell')=true:=all_oneCell_toArray fun v hv=>by
 simp only[clsL,List.mem_map]at hv;obtain⟨c,_,rfl⟩:=hv
 rfl
theorem clsL_info :(Tryz.prog.info? 244).map (·.size)=some clsL.length:=by rw[clsL_len];kernel_rfl
theorem clsL_get (j:Nat)(v:Value)(h:clsL[j]? =some v):j<256/\ v=.int .u8 (clsB j):=by
 have hj:j<256:=by rw[<-clsL_len];exact(List.getElem?_eq_some_iff.1 h).1
 refine⟨hj,?_⟩;simp only[clsL,List.getElem?_map,List.getElem?_range hj,Option.map_some,Option.some.injEq]at h;exact h.symm
def zArr :Value:=.int .u8 0
theorem zArr.info :(Tryz.prog.info? 244).map (·.zero)=some (some (.agg (Array.replicate 256 zArr))):=by kernel_rfl
def clsF (k:Nat):Nat->Value:=fun i=>.int .u8 (if i<k then(cls0 i:Nat)else 0:Nat)
theorem clsF_step {w:World}{b k:Nat}{x:Nat}(h:w.rowIs b 244 256 (clsF k))(hx:cls0 k=x):(w.setCell ⟨b,k,none⟩ (.int .u8 x)).rowIs b 244 256 (clsF (k+1)):=by
 refine(h.set k (.int .u8 x)).congr fun i hi=>?_
 unfold clsF;by_cases h1:i=k
 {subst h1;simp[hx]}
 {by_cases h2:i<k;{rw[if_neg h1,if_pos h2,if_pos (by omega)]};{rw[if_neg h1,if_neg h2,if_neg (by omega)]}}
theorem clsF_zero {w:World}{b k:Nat}(h:w.rowIs b 244 256 (clsF k))(hx:cls0 k=0):w.rowIs b 244 256 (clsF (k+1)):=by
 refine h.congr fun i hi=>?_
 unfold clsF;by_cases h1:i=k
 {subst h1;simp[hx]}
 {by_cases h2:i<k;{rw[if_pos h2,if_pos (by omega)]};{rw[if_neg h2,if_neg (by omega)]}}
theorem clsF_range {w:World}{b:Nat}(h:w.rowIs b 244 256 (clsF 256)):
  (((w.setCell ⟨b,35,none⟩ (.int .u8 2)).setCell ⟨b,95,none⟩ (.int .u8 5)).setCell ⟨b,33,none⟩ (.int .u8 8)).rangeAt b 0 clsL:=by
 have h3:=((h.set 35 (.int .u8 2)).set 95 (.int .u8 5)).set 33 (.int .u8 8);intro j v hv;obtain⟨hj,rfl⟩:=clsL_get j v hv;rw[Nat.zero_add,h3.cell hj];unfold clsB clsF;by_cases a1:j=33
 {subst a1;rfl}
 {by_cases a2:j=95;{subst a2;rfl};{by_cases a3:j=35;{subst a3;rfl};{rw[if_neg a1,if_neg a2,if_neg a3,if_pos hj,if_neg a3,if_neg a2,if_neg a1]}}}
theorem classes_any (w:World):
  Calls Tryz.prog 217 #[] w fun e w'=>e=.returned (.agg clsL.toArray)/\ Below w.heap.size w w':=by
 go_enter Tryz.func217,Tryz.ntmps217;go_wp2_with (first | ((with_reducible show wpList _ _ _ (⟨some 0,Op.alloc 244,_,_,_,_⟩::_) _ _);refine wpList_alloc_row rfl rfl zArr 256 zArr.info ?_;intro W1 hb1 hz1 hr1) | ((with_reducible show wpList _ _ _ (⟨some 1,Op.alloc 244,_,_,_,_⟩::_) _ _);refine wpList_alloc_row rfl rfl zArr 256 zArr.info ?_;intro W2 hb2 hz2 hr2));have hr1':=hr1.of_block (hb2.block w.heap.size (by omega));have HB:=Lib.hid ((hb1.trans (hb2.mono (by omega))):Below w.heap.size w W2);have hz:W2.heap.size=w.heap.size+2:=by omega
 have HR1:=Lib.hid hr1';rw[hz1]at hr2;have HR2:=Lib.hid (show W2.rowIs (w.heap.size+1) 244 256 (clsF 0)from hr2.congr fun i _=>by simp[clsF,zArr]);clear hr1' hr1 hr2 hb1 hb2 hz1 hz2
 go_loopw [4] (fun i wr=>∃k:Nat,k<=256/\ i=.int .i64 k/\ wr.rowIs (w.heap.size+1) 244 256 (clsF k)/\ Hid (wr.rowIs w.heap.size 244 256 (fun _=>zArr))/\ Hid (Below w.heap.size w wr)) (fun i _=>256-(intOf i).toNat)
 case atStart=>exact⟨0,by omega,rfl,HR2.out,HR1,HB⟩
 case round=>
  obtain⟨k,hk,rfl,hrow,hrow0,hbw⟩:=hrel;clear HB HR1 HR2;by_cases hlt:k<256
  ·have hc:=hrow.cell hlt
   have hf:=hrow.frozen k;have HROW:=Lib.hid hrow;have hwr:IntKind.u8.wrap (k:Int)=k:=by simp[IntKind.wrap,IntKind.signed,IntKind.bits];omega
   have hcl:=byte_cls (k:Int) (by omega) (by omega)
   have hk5:(k=32\/k=9\/k=10)\/(k=59\/k=44\/k=46\/k=58\/k=40\/k=41\/k=91\/k=93\/k=123\/k=125\/k=61)\/k=60\/k=62\/
    ¬(k=32\/k=9\/k=10\/k=59\/k=44\/k=46\/k=58\/k=40\/k=41\/k=91\/k=93\/k=123\/k=125\/k=61\/k=60\/k=62):=by omega
   obtain⟨x1,hx1⟩:∃x1,x1=Lib.indexByte sBlank.data.toList (k:Int).toNat.toUInt8:=⟨_,rfl⟩;obtain⟨x2,hx2⟩:∃x2,x2=Lib.indexByte sSym.data.toList (k:Int).toNat.toUInt8:=⟨_,rfl⟩;have d1:decide (0<=x1)=decide (k=32\/k=9\/k=10):=by rw[hx1];exact blank_at k hlt
   have d2:decide (0<=x2)=decide (k=59\/k=44\/k=46\/k=58\/k=40\/k=41\/k=91\/k=93\/k=123\/k=125\/k=61):=by rw[hx2];exact sym_at k hlt
   have HX1:=Lib.hid (show Calls Tryz.prog 225 #[.string {data:=#[32,9,10]},.int .u8 k] wr fun e w'=>e=.returned (.int .i64 x1)/\ wr=w' by rw[hx1];exact indexByte_any _ _ _);have HX2:=Lib.hid (show Calls Tryz.prog 225 #[.string {data:=#[59,44,46,58,40,41,91,93,123,125,61]},.int .u8 k] wr fun e w'=>e=.returned (.int .i64 x2)/\ wr=w' by rw[hx2];exact indexByte_any _ _ _);clear hx1 hx2;by_cases hL:(97<=k/\ k<=122)\/(65<=k/\ k<=90)
   ·have H3:=Lib.hid (show cls0 k=3 by unfold cls0;rw[if_pos hL])
    clear d1 d2 hk5;rcases hL with⟨l1,l2⟩ | ⟨l1,l2⟩
    all_goals
     rcases hcl with⟨hc,hc',t1,t2,t3,t4,t5,t6,t7⟩ | ⟨hc,hc',t1,t2,t3,t4,t5,t6,t7⟩ | ⟨hc,hc',t1,t2,t3,t4,t5,t6,t7⟩ | ⟨hc,hc',t1,t2,t3,t4,t5,t6,t7⟩ | ⟨hc,hc',t1,t2,t3,t4,t5,t6,t7⟩ | ⟨hc,hc',t1,t2,t3,t4,t5,t6,t7⟩ | ⟨hc,hc',t1,t2,t3,t4,t5,t6,t7⟩ | ⟨hc,hc',t1,t2,t3,t4,t5,t6,t7⟩ | ⟨hc,hc',t1,t2,t3,t4,t5,t6,t7⟩<;>first | (exfalso;omega) | skip
     go_wp2;go_roundw
     case rel=>exact⟨k+1,by omega,by go_num,clsF_step HROW.out H3.out,hrow0.out.setOther (by simp) _,hbw.out.setCell (by simp) _⟩
     case measure=>simp[intOf];omega
   ·by_cases hD:48<=k/\ k<=57
    {have H3:=Lib.hid (show cls0 k=4 by unfold cls0;rw[if_neg hL,if_pos hD]);clear d1 d2 hk5;obtain⟨l1,l2⟩:=hD;(rcases hcl with⟨hc,hc',t1,t2,t3,t4,t5,t6,t7⟩ | ⟨hc,hc',t1,t2,t3,t4,t5,t6,t7⟩ | ⟨hc,hc',t1,t2,t3,t4,t5,t6,t7⟩ | ⟨hc,hc',t1,t2,t3,t4,t5,t6,t7⟩ | ⟨hc,hc',t1,t2,t3,t4,t5,t6,t7⟩ | ⟨hc,hc',t1,t2,t3,t4,t5,t6,t7⟩ | ⟨hc,hc',t1,t2,t3,t4,t5,t6,t7⟩ | ⟨hc,hc',t1,t2,t3,t4,t5,t6,t7⟩ | ⟨hc,hc',t1,t2,t3,t4,t5,t6,t7⟩<;>first | (exfalso;omega) | skip);go_wp2;go_roundw;(case rel=>exact⟨k+1,by omega,by go_num,clsF_step HROW.out H3.out,hrow0.out.setOther (by simp) _,hbw.out.setCell (by simp) _⟩);case measure=>simp[intOf];omega}
    ·have H0:=Lib.hid (show cls0 k=_ by unfold cls0;rw[if_neg hL,if_neg hD])
     rcases hk5 with hq | hq | hq | hq | hq
     ·have H3:=Lib.hid (show cls0 k=1 by rw[H0.out,if_pos hq])
      have e1:decide (0<=x1)=true:=by rw[d1];exact decide_eq_true hq
      clear d1 d2 hq H0;rcases hcl with⟨hc,hc',t1,t2,t3,t4,t5,t6,t7⟩ | ⟨hc,hc',t1,t2,t3,t4,t5,t6,t7⟩ | ⟨hc,hc',t1,t2,t3,t4,t5,t6,t7⟩ | ⟨hc,hc',t1,t2,t3,t4,t5,t6,t7⟩ | ⟨hc,hc',t1,t2,t3,t4,t5,t6,t7⟩ | ⟨hc,hc',t1,t2,t3,t4,t5,t6,t7⟩ | ⟨hc,hc',t1,t2,t3,t4,t5,t6,t7⟩ | ⟨hc,hc',t1,t2,t3,t4,t5,t6,t7⟩ | ⟨hc,hc',t1,t2,t3,t4,t5,t6,t7⟩<;>first | (exfalso;omega) | skip
      all_goals
       go_wp2_with (first | (go_at_call 225;(with_reducible refine HX1.out.mono ?_);rintro e w2 ⟨rfl,rfl⟩) | (go_at_call 225;(with_reducible refine HX2.out.mono ?_);rintro e w2 ⟨rfl,rfl⟩));go_roundw
       case rel=>exact⟨k+1,by omega,by go_num,clsF_step HROW.out H3.out,hrow0.out.setOther (by simp) _,hbw.out.setCell (by simp) _⟩
       case measure=>simp[intOf];omega
     ·have H3:=Lib.hid (show cls0 k=6 by rw[H0.out,if_neg (by omega),if_pos hq])
      have e1:decide (0<=x1)=false:=by rw[d1];exact decide_eq_false (by omega)
      have e2:decide (0<=x2)=true:=by rw[d2];exact decide_eq_true hq
      clear d1 d2 hq H0;rcases hcl with⟨hc,hc',t1,t2,t3,t4,t5,t6,t7⟩ | ⟨hc,hc',t1,t2,t3,t4,t5,t6,t7⟩ | ⟨hc,hc',t1,t2,t3,t4,t5,t6,t7⟩ | ⟨hc,hc',t1,t2,t3,t4,t5,t6,t7⟩ | ⟨hc,hc',t1,t2,t3,t4,t5,t6,t7⟩ | ⟨hc,hc',t1,t2,t3,t4,t5,t6,t7⟩ | ⟨hc,hc',t1,t2,t3,t4,t5,t6,t7⟩ | ⟨hc,hc',t1,t2,t3,t4,t5,t6,t7⟩ | ⟨hc,hc',t1,t2,t3,t4,t5,t6,t7⟩<;>first | (exfalso;omega) | skip
      all_goals
       go_wp2_with (first | (go_at_call 225;(with_reducible refine HX1.out.mono ?_);rintro e w2 ⟨rfl,rfl⟩) | (go_at_call 225;(with_reducible refine HX2.out.mono ?_);rintro e w2 ⟨rfl,rfl⟩));go_roundw
       case rel=>exact⟨k+1,by omega,by go_num,clsF_step HROW.out H3.out,hrow0.out.setOther (by simp) _,hbw.out.setCell (by simp) _⟩
       case measure=>simp[intOf];omega
     ·have H3:=Lib.hid (show cls0 k=7 by rw[H0.out,if_neg (by omega),if_neg (by omega),if_pos (by omega)])
      have e1:decide (0<=x1)=false:=by rw[d1];exact decide_eq_false (by omega)
      have e2:decide (0<=x2)=false:=by rw[d2];exact decide_eq_false (by omega)
      clear d1 d2;have d3:((k:Int)==60)=true:=by simp;omega
      clear hq H0;rcases hcl with⟨hc,hc',t1,t2,t3,t4,t5,t6,t7⟩ | ⟨hc,hc',t1,t2,t3,t4,t5,t6,t7⟩ | ⟨hc,hc',t1,t2,t3,t4,t5,t6,t7⟩ | ⟨hc,hc',t1,t2,t3,t4,t5,t6,t7⟩ | ⟨hc,hc',t1,t2,t3,t4,t5,t6,t7⟩ | ⟨hc,hc',t1,t2,t3,t4,t5,t6,t7⟩ | ⟨hc,hc',t1,t2,t3,t4,t5,t6,t7⟩ | ⟨hc,hc',t1,t2,t3,t4,t5,t6,t7⟩ | ⟨hc,hc',t1,t2,t3,t4,t5,t6,t7⟩<;>first | (exfalso;omega) | skip
      all_goals
       go_wp2_with (first | (go_at_call 225;(with_reducible refine HX1.out.mono ?_);rintro e w2 ⟨rfl,rfl⟩) | (go_at_call 225;(with_reducible refine HX2.out.mono ?_);rintro e w2 ⟨rfl,rfl⟩));go_roundw
       case rel=>exact⟨k+1,by omega,by go_num,clsF_step HROW.out H3.out,hrow0.out.setOther (by simp) _,hbw.out.setCell (by simp) _⟩
       case measure=>simp[intOf];omega
     ·have H3:=Lib.hid (show cls0 k=7 by rw[H0.out,if_neg (by omega),if_neg (by omega),if_pos (by omega)])
      have e1:decide (0<=x1)=false:=by rw[d1];exact decide_eq_false (by omega)
      have e2:decide (0<=x2)=false:=by rw[d2];exact decide_eq_false (by omega)
      clear d1 d2;have d3:((k:Int)==60)=false:=by simp;omega
      have d4:((k:Int)==62)=true:=by simp;omega
      clear hq H0;rcases hcl with⟨hc,hc',t1,t2,t3,t4,t5,t6,t7⟩ | ⟨hc,hc',t1,t2,t3,t4,t5,t6,t7⟩ | ⟨hc,hc',t1,t2,t3,t4,t5,t6,t7⟩ | ⟨hc,hc',t1,t2,t3,t4,t5,t6,t7⟩ | ⟨hc,hc',t1,t2,t3,t4,t5,t6,t7⟩ | ⟨hc,hc',t1,t2,t3,t4,t5,t6,t7⟩ | ⟨hc,hc',t1,t2,t3,t4,t5,t6,t7⟩ | ⟨hc,hc',t1,t2,t3,t4,t5,t6,t7⟩ | ⟨hc,hc',t1,t2,t3,t4,t5,t6,t7⟩<;>first | (exfalso;omega) | skip
      all_goals
       go_wp2_with (first | (go_at_call 225;(with_reducible refine HX1.out.mono ?_);rintro e w2 ⟨rfl,rfl⟩) | (go_at_call 225;(with_reducible refine HX2.out.mono ?_);rintro e w2 ⟨rfl,rfl⟩));go_roundw
       case rel=>exact⟨k+1,by omega,by go_num,clsF_step HROW.out H3.out,hrow0.out.setOther (by simp) _,hbw.out.setCell (by simp) _⟩
       case measure=>simp[intOf];omega
     ·have H3:=Lib.hid (show cls0 k=0 by rw[H0.out,if_neg (by omega),if_neg (by omega),if_neg (by omega)])
      have e1:decide (0<=x1)=false:=by rw[d1];exact decide_eq_false (by omega)
      have e2:decide (0<=x2)=false:=by rw[d2];exact decide_eq_false (by omega)
      clear d1 d2;have d3:((k:Int)==60)=false:=by simp;omega
      have d4:((k:Int)==62)=false:=by simp;omega
      clear hq H0;rcases hcl with⟨hc,hc',t1,t2,t3,t4,t5,t6,t7⟩ | ⟨hc,hc',t1,t2,t3,t4,t5,t6,t7⟩ | ⟨hc,hc',t1,t2,t3,t4,t5,t6,t7⟩ | ⟨hc,hc',t1,t2,t3,t4,t5,t6,t7⟩ | ⟨hc,hc',t1,t2,t3,t4,t5,t6,t7⟩ | ⟨hc,hc',t1,t2,t3,t4,t5,t6,t7⟩ | ⟨hc,hc',t1,t2,t3,t4,t5,t6,t7⟩ | ⟨hc,hc',t1,t2,t3,t4,t5,t6,t7⟩ | ⟨hc,hc',t1,t2,t3,t4,t5,t6,t7⟩<;>first | (exfalso;omega) | skip
      all_goals
       go_wp2_with (first | (go_at_call 225;(with_reducible refine HX1.out.mono ?_);rintro e w2 ⟨rfl,rfl⟩) | (go_at_call 225;(with_reducible refine HX2.out.mono ?_);rintro e w2 ⟨rfl,rfl⟩));go_roundw
       case rel=>exact⟨k+1,by omega,by go_num,clsF_zero HROW.out H3.out,hrow0.out,hbw.out⟩
       case measure=>simp[intOf];omega
  ·obtain rfl:k=256:=by omega
   have c35:=hrow.cell (i:=35) (by omega);have c95:=hrow.cell (i:=95) (by omega);have c33:=hrow.cell (i:=33) (by omega);have f35:=hrow.frozen 35;have f95:=hrow.frozen 95;have f33:=hrow.frozen 33;have hrng:=clsF_range hrow;have HRNG:=Lib.hid hrng;have HROW0:=Lib.hid (((hrow0.out.setOther (a:=⟨w.heap.size+1,35,none⟩) (by simp) (.int .u8 2)).setOther (a:=⟨w.heap.size+1,95,none⟩) (by simp) (.int .u8 5)).setOther (a:=⟨w.heap.size+1,33,none⟩) (by simp) (.int .u8 8));clear hrow hrng
   go_wp2_with (first
    | ((with_reducible show wpList _ _ _ (⟨_,Op.load 244 (.tmp 1),_,_,_,_⟩::_) _ _);refine wpList_load_mid rfl _ (.tmp 1) rfl (w.heap.size+1) 0 rfl clsL _ HRNG.out Tryz.underlying244 rfl clsL_info ?_)
    | ((with_reducible show wpList _ _ _ (⟨_,Op.store 244 (.tmp 0) (.tmp 56),_,_,_,_⟩::_) _ _);refine wpList_store_old rfl (.tmp 0) (.tmp 56) rfl clsL w.heap.size rfl rfl HROW0.out clsL_len.symm clsL_info clsL_one ?_;intro W5 hu5 hr5))
   refine bodyPost_ret (v:=.agg clsL.toArray) ?_ rfl ⟨rfl,?_⟩
   {have:=run_loadVar_mid (P:=Tryz.prog) W5 w.heap.size 0 244 clsL _ hr5 Tryz.underlying244 rfl clsL_info;exact results_cell1 (p:=0) (ty:=244) rfl _ _ _ rfl this}
   {exact(((hbw.out.setCell (by simp) _).setCell (by simp) _).setCell (by simp) _).trans (hu5.below (Nat.le_refl _))}
def atC (s:ByteArray)(i:Nat):Nat:=if h:i<s.size then clsB s[i].toNat else 0
theorem at_any (s:ByteArray)(i:Nat)(bt bc:Nat)(w:World)(_hs:s.size<=9223372036854775807)(ht:w.cell? ⟨bt,0,none⟩=some (.string s))(hc:w.rangeAt bc 0 clsL):
  Calls Tryz.prog 218 #[.int .i64 i,.pointer (some ⟨bt,0,none⟩),.pointer (some ⟨bc,0,none⟩)] w fun e w'=>e=.returned (.int .u8 (atC s i))/\ w=w':=by
 by_cases h:i<s.size
 ·have hb:w.cell? ⟨bc,s[i].toNat,none⟩=some (.int .u8 (clsB s[i].toNat)):=by
   have hlt:s[i].toNat<clsL.length:=by rw[clsL_len];exact s[i].toNat_lt
   have h0:clsL[s[i].toNat]? =some (Value.int .u8 (clsB s[i].toNat)):=by{obtain⟨v,hv⟩:∃v,clsL[s[i].toNat]? =some v:=⟨_,List.getElem?_eq_getElem hlt⟩;rw[hv,(clsL_get _ _ hv).2]}
   simpa using hc _ _ h0
  have HR:=Lib.hid (show atC s i=clsB s[i].toNat by unfold atC;rw[dif_pos h]);have hbb:(s[i].toNat:Int)<256:=by have:=s[i].toNat_lt;omega
  clear hc;go_enter Tryz.func218,Tryz.ntmps218;go_wp2;go_ret;exact⟨ret_int (by rw[HR.out]),rfl⟩
 {have HR:=Lib.hid (show atC s i=0 by unfold atC;rw[dif_neg h]);clear hc;go_enter Tryz.func218,Tryz.ntmps218;go_wp2;go_ret;exact⟨ret_int (by rw[HR.out];rfl),rfl⟩}
def decL (l:List UInt8):Nat:=l.foldl (fun n c=>10*n+(c.toNat-48)) 0
theorem decL_snoc (l:List UInt8)(c:UInt8):decL (l++[c])=10*decL l+(c.toNat-48):=by simp[decL]
theorem take_snoc (s:ByteArray)(k:Nat)(h:k<s.size):s.data.toList.take (k+1)=s.data.toList.take k++[s[k]]:=by
 rw[List.take_succ_eq_append_getElem (by simpa using h)];rfl
def Digits (s:ByteArray):Prop:=∀i (h:i<s.size),48<=s[i].toNat/\ s[i].toNat<=57
theorem decL_lt (s:ByteArray)(hd:Digits s)(k:Nat)(h:k<=s.size):decL (s.data.toList.take k)<10 ^ k:=by
 induction k with| zero=>simp[decL]| succ k ih=>{have h1:=ih (by omega);have h2:=hd k (by omega);rw[take_snoc s k (by omega),decL_snoc,Nat.pow_succ];omega}
theorem atoiIn_any (s:ByteArray)(h1:1<=s.size)(h18:s.size<=18)(hd:Digits s)(w:World):
  Calls Tryz.prog 226 #[.string s] w fun e w'=>e=.returned (.tuple #[.int .i64 (decL s.data.toList),.nilIface])/\ Below w.heap.size w w':=by
 have hcv:=Lib.run_convert_string_bytes (P:=Tryz.prog) w 9 178 5 s (u:=.string) Tryz.underlying9 Tryz.underlying178 Tryz.underlying5
 have hB:∀j,(h:j<s.size)->(Lib.bytesWorld w 5 s).cell? ⟨w.heap.size,j,none⟩=some (.int .u8 s[j].toNat):=fun j hj=>by{rw[Lib.bytesWorld_cell w 5 s j hj];congr 3;(have hj':j<s.data.toList.length:=by simpa using hj);rw[List.getD_eq_getElem?_getD,List.getElem?_eq_getElem hj'];rfl}
 have HBel:=Lib.hid (Lib.bytesWorld_below w 5 s);obtain⟨W1,hW1⟩:∃W1,Lib.bytesWorld w 5 s=W1:=⟨_,rfl⟩;rw[hW1]at hcv hB HBel;clear hW1;have HB:=Lib.hid hB;have HD:=Lib.hid hd;clear hB;have hs0:=hd 0 (by omega);have e45:((s[0].toNat:Int)==45)=false:=by simp;omega
 have e43:((s[0].toNat:Int)==43)=false:=by simp;omega
 clear hd;have HF:=Lib.hid (show decL s.data.toList=decL (s.data.toList.take s.size) by rw[List.take_of_length_le (by simp)]);generalize decL s.data.toList=V at*
 go_enter Tryz.func226,Tryz.ntmps226;go_wp2
 go_loop [49,6] (fun vi vn=>∃k acc:Nat,k<=s.size/\ vi=.int .i64 k/\ vn=.int .i64 acc/\ Hid (acc=decL (s.data.toList.take k))) (fun vi _=>s.size-(intOf vi).toNat)
 case atStart=>exact⟨0,0,Nat.zero_le _,rfl,rfl,Lib.hid rfl⟩
 case round=>(obtain⟨k,acc,hk,rfl,rfl,hacc⟩:=hrel;by_cases hlt:k<s.size;{have hc1:=HB.out k hlt;have hdk:=HD.out k hlt;have hlt18:acc<100000000000000000:=by{have:=decL_lt s HD.out k hk;rw[<-hacc.out]at this;refine Nat.lt_of_lt_of_le this (Nat.pow_le_pow_right (n:=10) (by omega) (show k<=17 by omega))};have HN:=Lib.hid (show 10*acc+(s[k].toNat-48)=decL (s.data.toList.take (k+1)) by rw[take_snoc s k hlt,decL_snoc,hacc.out]);clear hacc;go_wp2;go_round;(case rel=>exact⟨k+1,10*acc+(s[k].toNat-48),by omega,by go_num,by first | go_num | (congr 1;unfold wrap64;omega),HN⟩);case measure=>simp[intOf];omega};{(obtain rfl:k=s.size:=by omega);(have hv:acc=V:=by rw[HF.out];exact hacc.out);subst hv;clear hacc HF;go_wp2;go_ret2;exact⟨rfl,HBel.out⟩})
theorem atoi_any (s:ByteArray)(h1:1<=s.size)(h18:s.size<=18)(hd:Digits s)(w:World):
  Calls Tryz.prog 220 #[.string s] w fun e w'=>e=.returned (.tuple #[.int .i64 (decL s.data.toList),.nilIface])/\ Below w.heap.size w w':=by
 have H:=Lib.hid (atoiIn_any s h1 h18 hd w);clear hd;go_enter Tryz.func220,Tryz.ntmps220;go_wp2_with (go_at_call 226;(with_reducible refine H.out.mono ?_);rintro e w2 ⟨rfl,hb2⟩);go_ret2;exact⟨rfl,hb2⟩
section
variable {P : Program} {b : Frame} {a : Act} {k : List Item} {cs : List Frame} {w : World}
theorem stepR_scope {c:Code}:step P (lone (b.atR a (.code (.scope c)::k)) cs w)=.next (lone (b.atR a (.code c:: .inScope c::k)) cs w):=
 step_lone_go (by simp[stepG,stepG.exec,Frame.atR])
theorem stepR_inScope {c:Code}:step P (lone (b.atR a (.inScope c::k)) cs w)=.next (lone (b.atR a k) cs w):=
 step_lone_go (by simp[stepG,stepG.exec,Frame.atR])
theorem wpIn_scope_straight {F:Fence}{n:Nat}{Q:Exit->Act->World->Prop}{c:Code}(h:c.wpIn F n P (Exit.noGoto Q) a w):(Code.scope c).wpIn F n P Q a w:=by
 intro b k cs hro hb hr;have h0:(lone (b.atR a (.code (.scope c)::k)) cs w).fenced P F:=fenced_calm hb hr rfl;obtain⟨e,a₁,w₁,hq,harr⟩:=h b (.inScope c::k) cs hro hb hr;cases e with
 | normal=>exact⟨.normal,a₁,w₁,hq,.head h0 stepR_scope (StepsIn.trans harr (.one (fenced_calm hb hr rfl) stepR_inScope))⟩
 | exit id=>
  have hx:exitTo id (.inScope c::k)=exitTo id k:=by simp[exitTo]
  exact⟨.exit id,a₁,w₁,hq,fun k' hk=>.head h0 stepR_scope (harr.1 k' (by rw[hx];exact hk)),
   fun hr' hk=>let⟨k₁,h1,h2⟩:=harr.2 hr' (by rw[hx];exact hk);⟨k₁,h1,.head h0 stepR_scope h2⟩⟩
 | goto l=>exact hq.elim
 | ret=>exact⟨_,a₁,w₁,hq,.of_steps (.one h0 stepR_scope) harr⟩
 | panic ch=>exact⟨_,a₁,w₁,hq,.of_steps (.one h0 stepR_scope) harr⟩
 | outgrown=>exact⟨_,a₁,w₁,hq,.of_steps (.one h0 stepR_scope) harr⟩
end
def KeepTy (t:TypeId)(W W':World):Prop:=∀(k:Nat) (cs:Array Value) (z:Nat×Nat),W.heap[k]? =some (Obj.cells cs t z)->W'.heap[k]? =some (Obj.cells cs t z)
theorem KeepTy.refl (t:TypeId)(W:World):KeepTy t W W:=fun _ _ _ h=>h
theorem KeepTy.trans {t:TypeId}{A B C:World}(h:KeepTy t A B)(k:KeepTy t B C):KeepTy t A C:=fun i cs z hi=>k i cs z (h i cs z hi)
theorem KeepTy.putObj (t:TypeId)(W:World)(l:Nat)(o o':Obj)(hl:W.heap[l]? =some o)(ho:o.isCells=false):KeepTy t W (W.putObj l o'):=fun k cs z hk=>
 (World.putObj_heap_other (fun e=>by subst e;rw[hl]at hk;cases hk;cases ho)).trans hk
theorem KeepTy.below {t:TypeId}{W W':World}(h:Below W.heap.size W W'):KeepTy t W W':=fun k _ _ hk=>(h.block k (Array.getElem?_eq_some_iff.1 hk).1).trans hk
theorem KeepTy.grown {t:TypeId}{W W':World}{row:Option Nat}(h:W.grownBy W' row)(hr:∀(r:Nat) (cs:Array Value) (z:Nat×Nat),row=some r->W.heap[r]? ≠some (Obj.cells cs t z)):KeepTy t W W':=fun k cs z hk=>
 (h.block k (Array.getElem?_eq_some_iff.1 hk).1 (fun e=>hr k cs z e.symm hk)).trans hk
theorem KeepTy.boxed {t t':TypeId}(hne:t'≠t){W:World}{B:Nat}{v:Value}(h:Boxed W B t' v)(v':Value):KeepTy t W (W.setCell ⟨B,0,none⟩ v'):=
 KeepTy.grown (grownBy_setCell' W B v') (fun r cs z e hk=>by cases e;rw[show W.heap[B]? =_ from h]at hk;cases hk;exact hne rfl)
theorem grown_of_below {W W':World}(h:Below W.heap.size W W'):W.grownBy W' none:=⟨h.os,h.tape,h.output,h.size,fun k hk _=>h.block k hk⟩
theorem abides_below {β:Type}{B:Nat}{J:β->World->Prop}(hJ:AbidesFrom B J){s:β}{W W':World}(hs:J s W)(h:Below W.heap.size W W'):J s W':=
 hJ s W W' none hs (grown_of_below h) (fun r e=>by cases e)
def Kept (t:TypeId)(n:Nat)(W W':World):Prop:=Below n W W'/\ KeepTy t W W'
theorem Kept.t {t:TypeId}{n:Nat}:∀ {A B C:World},Kept t n A B->Kept t n B C->Kept t n A C:=fun h k=>⟨h.1.trans k.1,h.2.trans k.2⟩
theorem Kept.b {t:TypeId}{n:Nat}{w:World}(hn:n<=w.heap.size):∀(W:World) (l:Nat) (o o':Obj),w.heap.size<=l->W.heap[l]? =some o->o.isCells=false->o.isWalk=false->Kept t n W (W.putObj l o'):=
 fun W l o o' h1 h2 h3 h4=>⟨belowK_b hn W l o o' h1 h2 h3 h4,KeepTy.putObj t W l o o' h2 h3⟩
end Go.Proofs.YtihniipjfdenbaaGreatDoor
