/- The steps of rules as a list that is reckoned; what Governs and Analyse answer by it. No program is walked. -/
import Derived.Test.YtihniipjfdenbaaGreatDoorRgTA
import Derived.Test.YtihniipjfdenbaaGreatDoorShelfD
import Derived.Test.YtihniipjfdenbaaGreatDoorShelfE
import Derived.Sort.OwnSorted
set_option maxRecDepth 100000
set_option maxHeartbeats 2000000
namespace Go.Proofs.YtihniipjfdenbaaGreatDoor
open Go.RowKit Go.Sort Go.Shelf
section
variable {α : Type} [Inhabited α] {enc : α -> List Value}
theorem flat2 (hk:∀x,(enc x).length=2):∀(xs:List α) (t:Nat),t<xs.length*2->(xs.flatMap enc)[t]? =some ((enc (xs[t / 2]!))[t % 2]!)
 | [],t,h=>by simp at h
 | x::xs,t,h=>by{rw[List.flatMap_cons];(rcases Nat.lt_or_ge t 2 with h2 | h2);{rw[List.getElem?_append_left (by rw[hk];exact h2),Nat.div_eq_of_lt h2,Nat.mod_eq_of_lt h2];(have:t<(enc x).length:=by rw[hk];exact h2);simp[this]};{rw[List.getElem?_append_right (by rw[hk];exact h2),hk,flat2 hk xs (t-2) (by simp at h;omega)];obtain⟨s,rfl⟩:∃s,t=s+2:=⟨t-2,by omega⟩;simp[Nat.add_div_right]}}
theorem flatK_list (hk:∀x,(enc x).length=2)(xs:List α):(flatK enc 2 xs.toArray).toList=xs.flatMap enc:=by
 apply List.ext_getElem?
 intro t;by_cases ht:t<xs.length*2
 {rw[flat2 hk xs t ht];(have h1:t<(flatK enc 2 xs.toArray).size:=by simpa using ht);have h2:=get_flatK enc 2 xs.toArray t (by simpa using ht);rw[Array.getElem?_toList,Array.getElem?_eq_getElem h1, <-getElem!_pos _ t h1,h2];simp}
 {rw[List.getElem?_eq_none (by simp;omega),List.getElem?_eq_none];have:(xs.flatMap enc).length=xs.length*2:=by{induction xs with| nil=>rfl| cons x xs ih=>rw[List.flatMap_cons,List.length_append,hk,ih (by simp at ht⊢;omega)];simp;omega};omega}
theorem holds_flat (hk:∀x,(enc x).length=2){w:World}{g:Nat}{cur:Array Value}{e:TypeId}{xs:List α}(hb:w.heap[g]? =some (.cells cur e (0,0)))(ht:cur.toList.take (xs.length*2)=xs.flatMap enc):HoldsK enc 2 w g 0 xs.toArray:=by
 intro j hj;have hj':j<xs.length*2:=by simpa using hj
 refine⟨?_,by simp[World.frozen?,hb]⟩;have h1:(cur.toList.take (xs.length*2))[j]? =(xs.flatMap enc)[j]? :=by rw[ht]
 rw[List.getElem?_take_of_lt hj',flat2 hk xs j hj']at h1;have h2:=get_flatK enc 2 xs.toArray j (by simpa using hj');simp only[World.cell?,hb,Nat.zero_add];simp only[Option.isSome_none,Bool.false_eq_true,if_false];rw[<-Array.getElem?_toList,h1,h2]
 simp
theorem own_flat (hk:∀x,(enc x).length=2){w:World}{base g cap n:Nat}{e:TypeId}{os:Array Obj}{cur:Array Value}{k:Nat}{ts:List α}(hl:ts.length=k)(hbase:base<=g)(hb:w.heap[g]? =some (.cells cur e (0,0)))
  (h1:k<=cap) (h2:cap<=maxLen) (h3:cur.size=cap*2):(sortWorldK enc 2 w g 0 n ts.toArray os).ownsRow base e 2 (.slice (some ⟨g,0,none⟩) k cap) k (ts.flatMap enc):=by
 have hg:g<w.heap.size:=(Array.getElem?_eq_some_iff.1 hb).1
 have hh:(sortWorldK enc 2 w g 0 n ts.toArray os).heap[g]? =some (.cells (putCells id 0 (flatK enc 2 ts.toArray) cur) e (0,0)):=by{unfold sortWorldK putRowK;rw[heap_grow_old _ _ (by simpa using hg)];simp[putRow,mapBlock,Sort.ahead,Array.getElem?_modify,hb,onCells]}
 have hF:=flatK_list hk ts;have hsz:(flatK enc 2 ts.toArray).size=k*2:=by simp[hl]
 refine⟨?_,.inr ⟨g,cap,_,rfl,hbase,hh,h1,h2,by simp[putCells,h3],?_⟩⟩
 {rw[<-hF,Array.length_toList,hsz]}
 {rw[<-hF, <-hsz];generalize flatK enc 2 ts.toArray=F at hsz⊢;(have hc:F.size<=cur.size:=by rw[hsz,h3];exact Nat.mul_le_mul_right 2 h1);apply List.ext_getElem?;intro j;by_cases hj:j<F.size;{rw[List.getElem?_take_of_lt hj,Array.getElem?_toList,Array.getElem?_toList];simp[putCells,hj,show j<cur.size by omega]};{rw[List.getElem?_take_eq_none (by omega),List.getElem?_eq_none (by simp;omega)]}}
theorem below_flat {w:World}{B g n:Nat}{d:Array α}{os:Array Obj}(hB:B<=w.heap.size)(hg:B<=g):Go.RowKit.Below B w (sortWorldK enc 2 w g 0 n d os)  :=by
 refine⟨rfl,rfl,rfl,by simp[sortWorldK,putRowK,putRow,mapBlock,Sort.ahead,grow],fun k hk=>?_⟩;unfold sortWorldK putRowK;have h1:k<w.heap.size:=by omega
 have h2:g≠k:=by omega
 rw[heap_grow_old _ _ (by simpa[putRow,mapBlock,Sort.ahead]using h1)];simp[putRow,mapBlock,Sort.ahead,Array.getElem?_modify,h2]
end
theorem eq_ofL {a b:ByteArray}(h:a.toList=b.toList):a=b:=by
 have:(a==b)=true:=by rw[eqB_eq];exact beq_iff_eq.2 h
 exact eq_of_beq this
theorem cmpK_lt (a b:Key):cmpK a b<0↔ltK a b:=by
 unfold cmpK cmpS ltK ltB;by_cases h1:a.1.toList<b.1.toList
 {rw[if_pos h1,if_pos (by decide)];exact⟨fun _=>.inl h1,fun _=>by decide⟩}
 {rw[if_neg h1];by_cases h2:b.1.toList<a.1.toList;{rw[if_pos h2,if_pos (by decide)];refine⟨fun h=>absurd h (by decide),fun h=>?_⟩;(rcases h with h | ⟨h,_⟩);{exact absurd h h1};{rw[h]at h2;exact absurd h2 (List.lt_irrefl _)}};{rw[if_neg h2,if_neg (by simp)];have e:=eq_ofL (List.le_antisymm h2 h1);refine⟨fun h=>.inr ⟨e,by omega⟩,fun h=>?_⟩;(rcases h with h | ⟨_,h⟩);{exact absurd h h1};{omega}}}
theorem ltK_total {a b:Key}(h:¬ltK a b):ltK b a\/a=b:=by
 by_cases h2:ltK b a
 {exact .inl h2}
 {right;(have h3:¬a.1.toList<b.1.toList:=fun x=>h (.inl x));(have h4:¬b.1.toList<a.1.toList:=fun x=>h2 (.inl x));have e:=eq_ofL (List.le_antisymm h4 h3);(have h5:¬a.2<b.2:=fun x=>h (.inr ⟨e,x⟩));(have h6:¬b.2<a.2:=fun x=>h2 (.inr ⟨e.symm,x⟩));exact Prod.ext e (by omega)}
abbrev KB :={k:Key // 0<=k.2/\ k.2<=1000000}
instance : Inhabited KB := ⟨⟨(⟨#[]⟩, 0), by decide⟩⟩
def encB (x:KB):List Value:=kC x.1
def cmpB' (x y:KB):Int:=cmpK x.1 y.1
theorem ltB_iff (x y:KB):ltOf cmpB' x y=true↔ltK x.1 y.1:=by unfold ltOf cmpB';rw[decide_eq_true_iff];exact cmpK_lt _ _
theorem ltB_not (x y:KB):ltOf cmpB' x y=false↔¬ltK x.1 y.1:=by rw[<-ltB_iff];simp
theorem swoB :SWO (ltOf cmpB') where
 irrefl x:=(ltB_not x x).2 (ltK_irr _)
 trans x y z h k:=(ltB_iff x z).2 (ltK_trans ((ltB_iff x y).1 h) ((ltB_iff y z).1 k))
 ntrans x y z h k:=(ltB_not x z).2 (fun hxz=>by
  have h:=ltK_total ((ltB_not x y).1 h)
  have k:=ltK_total ((ltB_not y z).1 k)
  rcases h with h | h<;>rcases k with k | k
  {exact ltK_irr _ (ltK_trans hxz (ltK_trans k h))}
  {rw[<-k]at hxz;exact ltK_irr _ (ltK_trans hxz h)}
  {rw[h]at hxz;exact ltK_irr _ (ltK_trans hxz k)}
  ·rw[h,k]at hxz;exact ltK_irr _ hxz)
theorem sorted_pair {d d':Array KB}(hp:PermIn 0 d.size d d')(hs:SortedIn (ltOf cmpB') 0 d.size d')(hn:d.toList.Nodup):d'.toList.Perm d.toList/\ (d'.toList.map (·.1)).Pairwise ltK:=by
 obtain⟨h1,_,h2⟩:=hp
 have h3:d'.toList.Perm d.toList:=by{(have e1:d'.extract 0 d.size=d':=by rw[<-h1];simp);(have e2:d.extract 0 d.size=d:=by simp);rwa[e1,e2]at h2}
 refine⟨h3,?_⟩;have hn':d'.toList.Nodup:=h3.symm.nodup hn;rw[List.pairwise_map,List.pairwise_iff_getElem];intro i j hi hj hij;have hi':i<d'.size:=by simpa using hi
 have hj':j<d'.size:=by simpa using hj
 have h4:=(ltB_not _ _).1 (hs i j (Nat.zero_le _) hij (by omega));rw[getElem!_pos d' i hi',getElem!_pos d' j hj']at h4;rw[Array.getElem_toList,Array.getElem_toList];rcases ltK_total h4 with h5 | h5
 {exact h5}
 {exfalso;have h6:=(List.nodup_iff_pairwise_ne.1 hn');rw[List.pairwise_iff_getElem]at h6;have h7:=h6 i j hi hj hij;rw[Array.getElem_toList,Array.getElem_toList]at h7;exact h7 (Subtype.ext h5.symm)}
theorem sortB_any (blk cap:Nat)(d:Array KB)(w:World)(hH:HoldsK encB 2 w blk 0 d)(hblk:blk<w.heap.size)(h12:d.size<=12):
  Calls Tryz.prog 61 #[.slice (some ⟨blk,0,none⟩) d.size cap,.func (.func 30) #[] #[]] w fun e w'=>e=.returned (.tuple #[])/\ ∃d' n os,PermIn 0 d.size d d'/\ SortedIn (ltOf cmpB') 0 d.size d'/\ w'=sortWorldK encB 2 w blk 0 n d' os:=
 AnyQ.slices_SortFunc_small_sorted Tryz.laysF06 2 Tryz.isAgg59 Tryz.sizeOf59 encB (fun _=>rfl) (fun x v hv=>by
  simp only[encB,kC,List.mem_cons,List.not_mem_nil,or_false]at hv
  rcases hv with rfl | rfl<;>rfl) cmpB' 30 #[] swoB blk 0 cap d w (enters_of Tryz.func30 (by kernel_rfl) rfl)
  (fun m os dk hs x y=>before_any x.1 y.1 _ x.2 y.2) hH hblk h12
  (fun n W hn=>(Tryz.bits_Len n W (by omega) (by omega)).mono fun e w' h=>⟨⟨_,h.1⟩,h.2⟩)
theorem insNil_any (F:Value)(w:World):Calls Tryz.prog 131 #[.slice none 0 0,.int .i64 0,.int .i64 0,F] w fun e w'=>e=.returned (.tuple #[])/\ w'=w:=by
 go_enter Tryz.func131,Tryz.ntmps131;go_wp2;refine wp_loop_rounds 1 ?_;rw[rounds_succ];go_wp2
 go_end0
 exact⟨rfl,rfl⟩
theorem pdqNil_any (lim:Int)(F:Value)(w:World):Calls Tryz.prog 91 #[.slice none 0 0,.int .i64 0,.int .i64 0,.int .i64 lim,F] w fun e w'=>e=.returned (.tuple #[])/\ w'=w:=by
 go_enter Tryz.func91,Tryz.ntmps91;go_wp2;refine wp_loop_rounds 1 ?_;rw[rounds_succ];go_wp2_with (go_at_call 131;refine(insNil_any _ _).mono ?_;rintro e w2 ⟨rfl,rfl⟩)
 (try simp only[Exit.inBlock,Exit.then]);refine bodyPost_ret (results_none rfl _ _ _) rfl ?_
 exact⟨rfl,rfl⟩
theorem sortNil_any (F:Value)(w:World):Calls Tryz.prog 61 #[.slice none 0 0,F] w fun e w'=>e=.returned (.tuple #[])/\ w'=w:=by
 go_enter Tryz.func61,Tryz.ntmps61
 go_wp2_with (first
  | (go_at_call 92;refine(Tryz.bits_Len 0 _ (by decide) (by decide)).mono ?_;rintro e w2 ⟨rfl,rfl⟩)
  | (go_at_call 91;refine(pdqNil_any _ _ _).mono ?_;rintro e w2 ⟨rfl,rfl⟩))
 go_end0
 exact⟨rfl,rfl⟩
theorem sortedKeys_any (Bm b:Nat)(l:List (Key×Value))(w:World)(hm:Blk w Bm 54 #[.map (some b)])(hmp:MapB (fun v:Value=>v) w b l)(hn:l.length<=12)(hnd:(l.map (·.1)).Nodup)(hd:∀k∈l.map (·.1),0<=k.2/\ k.2<=1000000):
  Calls Tryz.prog 28 #[(.func (.func 62) #[] #[.pointer (some ⟨Bm,0,none⟩)]),.func (.func 30) #[] #[]] w fun e w'=>∃(v:Value) (ks:List Key),e=.returned v/\ ks.Perm (l.map (·.1))/\ ks.Pairwise ltK/\ w'.ownsRow w.heap.size 59 2 v ks.length (ks.flatMap kC)/\ Go.RowKit.Below w.heap.size w w':=by
 have HA:=Lib.hid (collect_any Bm b l w hm hmp (by omega));have HN:=Lib.hid hnd;have HD:=Lib.hid hd;clear hm hmp hnd hd;go_enter Tryz.func28,Tryz.ntmps28;go_upto_region 2 with(go_at_call 60;refine HA.out.mono ?_;rintro e w2 ⟨v,ks,rfl,hp,hr,hb⟩);have HB:=Lib.hid hb;have HP:=Lib.hid hp;rcases hr.2 with⟨rfl,h0⟩ | ⟨g,cap,cur,rfl,hg,hbk,h1,h2,h3,h4⟩
 {have hks:ks=[]:=List.length_eq_zero_iff.1 h0;subst hks;clear hr hb hp;go_wp2_with (go_at_call 61;refine(sortNil_any _ _).mono ?_;rintro e w3 ⟨rfl,rfl⟩);go_ret;exact⟨.slice none 0 0,[],rfl,HP.out,.nil,World.ownsRow_nil _ _ _ _,HB.out⟩}
 {(have hin:∀k∈ks,0<=k.2/\ k.2<=1000000:=fun k hk=>HD.out k (hp.mem_iff.1 hk));obtain⟨kb,hkb⟩:∃kb:List KB,kb.map (·.1)=ks:=⟨ks.pmap (fun k h=>⟨k,h⟩) hin,by rw[List.map_pmap];simp⟩;(have hfl:kb.flatMap encB=ks.flatMap kC:=by rw[<-hkb,List.flatMap_map];rfl);(have hlen:kb.length=ks.length:=by rw[<-hkb,List.length_map]);have hlt:=(Array.getElem?_eq_some_iff.1 hbk).1;(have hkl:ks.length<=12:=by rw[hp.length_eq,List.length_map];exact hn);have hH:HoldsK encB 2 w2 g 0 kb.toArray:=holds_flat (fun _=>rfl) hbk (by rw[hlen,hfl];exact h4);have hS:=sortB_any g cap kb.toArray w2 hH hlt (by simp;omega);rw[show kb.toArray.size=ks.length by simp[hlen]]at hS;have HS:=Lib.hid hS;have hnk:kb.Nodup:=by{(have:(kb.map (·.1)).Nodup:=by rw[hkb];exact hp.symm.nodup HN.out);exact List.Pairwise.of_map (·.1) (fun a b h e=>h (congrArg _ e)) this};(have HF:Hid (∀(d':Array KB) (n:Nat) (os:Array Obj),PermIn 0 ks.length kb.toArray d'->SortedIn (ltOf cmpB') 0 ks.length d'->∃ks':List Key,ks'.length=ks.length/\ ks'.Perm ks/\ ks'.Pairwise ltK/\ (sortWorldK encB 2 w2 g 0 n d' os).ownsRow w.heap.size 59 2 (.slice (some ⟨g,0,none⟩) ks.length cap) ks'.length (ks'.flatMap kC)):=fun d' n os q1 q2=>by{(have e:kb.toArray.size=ks.length:=by simp[hlen]);rw[<-e]at q1 q2;obtain⟨r1,r2⟩:=sorted_pair q1 q2 (by simpa using hnk);(have r3:(d'.toList.map (·.1)).Perm ks:=by rw[<-hkb];exact(r1.map _).trans (by simp));(have r4:d'.toList.length=ks.length:=by rw[<-r3.length_eq,List.length_map]);refine⟨d'.toList.map (·.1),r3.length_eq,r3,r2,?_⟩;have:=own_flat (enc:=encB) (fun _=>rfl) (w:=w2) (n:=n) (os:=os) (ts:=d'.toList) r4 hg hbk h1 h2 h3;rw[Array.toArray_toList]at this;rw[List.length_map,r4,List.flatMap_map];exact this});(have HW:Hid (∀(d':Array KB) (n:Nat) (os:Array Obj),Go.RowKit.Below w.heap.size w (sortWorldK encB 2 w2 g 0 n d' os)):=fun d' n os=>HB.out.trans (below_flat HB.out.size hg));clear hr hb hp hin hfl hlt hH hS hnk hbk h1 h2 h3 h4 hkb;go_wp2_with (go_at_call 61;refine HS.out.mono ?_;rintro e w3 ⟨rfl,d',n,os,q1,q2,rfl⟩);go_ret;obtain⟨ks',r1,r2,r3,r4⟩:=HF.out d' n os q1 q2;exact⟨_,ks',rfl,r2.trans HP.out,r3,r4,HW.out d' n os⟩}
instance (a b : Key) : Decidable (ltK a b) := by unfold ltK ltB; infer_instance
def insK (k:Key):List Key->List Key
 | []=>[k]
 | x::l=>if ltK k x then k::x::l else if ltK x k then x::insK k l else x::l
def keysD :List Chg->List Key
 | []=>[]
 | c::l=>insK c.key (keysD l)
theorem insK_mem (k x:Key):∀l,x∈insK k l↔x=k\/x∈l
 | []=>by simp[insK]
 | y::l=>by{rw[insK];by_cases h1:ltK k y;{rw[if_pos h1];simp};{rw[if_neg h1];by_cases h2:ltK y k;{rw[if_pos h2,List.mem_cons,insK_mem k x l,List.mem_cons];exact⟨fun h=>h.elim (fun e=>.inr (.inl e)) (fun h=>h.elim .inl (fun h=>.inr (.inr h))),fun h=>h.elim (fun e=>.inr (.inl e)) (fun h=>h.elim .inl (fun h=>.inr (.inr h)))⟩};{have e:k=y:=(ltK_total h1).elim (fun h=>absurd h h2) id;rw[if_neg h2,List.mem_cons];subst e;exact⟨.inr,fun h=>h.elim .inl id⟩}}}
theorem insK_order (k:Key):∀l:List Key,l.Pairwise ltK->(insK k l).Pairwise ltK
 | [],_=>List.pairwise_singleton ..
 | y::l,h=>by{obtain⟨h1,h2⟩:=List.pairwise_cons.1 h;rw[insK];by_cases hk:ltK k y;{rw[if_pos hk];exact List.pairwise_cons.2 ⟨fun x hx=>(List.mem_cons.1 hx).elim (fun e=>e▸hk) (fun hx=>ltK_trans hk (h1 x hx)),h⟩};{rw[if_neg hk];by_cases hy:ltK y k;{rw[if_pos hy];exact List.pairwise_cons.2 ⟨fun x hx=>((insK_mem k x l).1 hx).elim (fun e=>e▸hy) (h1 x),insK_order k l h2⟩};{rw[if_neg hy];exact h}}}
theorem keys_of :∀l:List Chg,KeysOf l (keysD l)
 | []=>⟨fun k=>by simp[keysD],.nil⟩
 | c::l=>by{have ih:=keys_of l;refine⟨fun k=>?_,insK_order _ _ ih.order⟩;rw[keysD,insK_mem,ih.mem];constructor;{rintro(rfl | ⟨x,hx,e⟩);{exact⟨c,List.mem_cons_self ..,rfl⟩};{exact⟨x,List.mem_cons_of_mem _ hx,e⟩}};{rintro⟨x,hx,e⟩;(rcases List.mem_cons.1 hx with rfl | hx);{exact .inl e.symm};{exact .inr ⟨x,hx,e⟩}}}
theorem keysD_eq {l:List Chg}{ks:List Key}(h:KeysOf l ks):ks=keysD l:=keys_unique h.order (keys_of l).order fun k=>by rw[h.mem,(keys_of l).mem]
def govD (d:List Fa)(l:List Chg)(q:ByteArray)(o:Int)(c:List Int)(day:Int):Int×Int:=govA d l (keysD l) q o c day
def anaD (d:List Fa)(l:List Chg):List Fnd×Int:=anaA d l (keysD l)
theorem gov_eq {d:List Fa}{l:List Chg}{ks:List Key}{q:ByteArray}{o:Int}{c:List Int}{day:Int}(h:properC d l=true/\ fitsD d c=true/\ dayB o=true/\ dayB day=true/\ o<=day->KeysOf l ks):govA d l ks q o c day=govD d l q o c day:=by
 by_cases hg:properC d l=true/\ fitsD d c=true/\ dayB o=true/\ dayB day=true/\ o<=day
 {unfold govD;rw[keysD_eq (h hg)]}
 {unfold govD govA;rw[if_neg hg,if_neg hg]}
end Go.Proofs.YtihniipjfdenbaaGreatDoor
