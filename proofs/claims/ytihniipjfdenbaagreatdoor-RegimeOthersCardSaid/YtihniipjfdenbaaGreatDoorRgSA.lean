/- The walks of Governs$1, IndexFunc and ContainsFunc at rules: whether the rules that hold do not say the same. -/
import Derived.Test.YtihniipjfdenbaaGreatDoorRgPA
set_option maxRecDepth 100000
set_option maxHeartbeats 4000000
namespace Go.Proofs.YtihniipjfdenbaaGreatDoor
open Go.RowKit
theorem look_insG {κ ν:Type}[BEq κ][LawfulBEq κ][DecidableEq κ](k:κ)(v:ν)(j:κ):∀l:List (κ×ν),(ins l k v).lookup j=if j=k then some v else l.lookup j
 | []=>by{rw[ins,List.lookup_cons,List.lookup_nil];by_cases h:j=k;{subst h;simp};{rw[if_neg h,beq_eq_false_iff_ne.2 h]}}
 | (a,x)::l=>by{rw[ins];by_cases hka:k=a;{subst hka;rw[if_pos (by simp),List.lookup_cons,List.lookup_cons];by_cases h:j=k;{subst h;simp};{rw[if_neg h,beq_eq_false_iff_ne.2 h]}};{rw[if_neg (by simpa using hka),List.lookup_cons,List.lookup_cons,look_insG k v j l];by_cases h:j=k;{subst h;rw[if_pos rfl,if_pos rfl,beq_eq_false_iff_ne.2 hka]};{rw[if_neg h,if_neg h]}}}
theorem ins_keyL {κ ν:Type}[BEq κ][LawfulBEq κ](k:κ)(v:ν):∀l:List (κ×ν),(k∈l.map (·.1)->(ins l k v).map (·.1)=l.map (·.1))/\ (k∉l.map (·.1)->(ins l k v).map (·.1)=l.map (·.1)++[k])
 | []=>⟨fun h=>by simp at h,fun _=>rfl⟩
 | (a,x)::l=>by{have ih:=ins_keyL k v l;rw[ins];by_cases hka:k=a;{subst hka;rw[if_pos (by simp)];exact⟨fun _=>rfl,fun h=>absurd (by simp) h⟩};{rw[if_neg (by simpa using hka)];simp only[List.map_cons,List.mem_cons,List.cons_append];refine⟨fun h=>?_,fun h=>?_⟩;{(rcases h with h | h);{exact absurd h hka};{rw[ih.1 h]}};{rw[ih.2 fun h2=>h (.inr h2)]}}}
abbrev nilR :Value:=.slice none 0 0
def stepA (l:List ChA)(k:Key):List ChA:=l.filter fun x=>decide (x.c.key=k)
theorem stepA_push (l:List ChA)(x:ChA)(k:Key):stepA (l++[x]) k=if x.c.key=k then stepA l k++[x]else stepA l k:=by
 unfold stepA;rw[List.filter_append];by_cases h:x.c.key=k
 {rw[if_pos h];simp[h]}
 {rw[if_neg h];simp[h]}
theorem stepA_map (l:List ChA)(k:Key):(stepA l k).map (·.c)=stepR (l.map (·.c)) k:=by
 unfold stepA stepR;rw[List.filter_map]
 rfl
def rowOf (m:List (Key×Value))(k:Key):Value:=(m.lookup k).getD nilR
theorem rowOf_ins (m:List (Key×Value))(k:Key)(v:Value)(j:Key):rowOf (ins m k v) j=if j=k then v else rowOf m j:=by
 unfold rowOf;rw[look_insG]
 split<;>rfl
structure StM (w : World) (base mb : Nat) (l : List ChA) (m : List (Key × Value)) : Prop where
 map:MapB (fun v:Value=>v) w mb m
 ge:base<=mb
 nodup:(m.map (·.1)).Nodup
 len:m.length<=l.length
 keys:∀k,k∈m.map (·.1)↔∃x∈l,x.c.key=k
 row:∀k,w.ownsRow base 49 9 (rowOf m k) (stepA l k).length ((stepA l k).flatMap ChA.cells)
 apart:∀k b,(rowOf m k).ownBlock=some b->b≠mb/\ ∀j,j≠k->(rowOf m j).ownBlock≠some b
theorem StM.made (w:World){base:Nat}(hb:base<=w.heap.size):StM (w.alloc (.map #[] 0)) base w.heap.size [] []:=
 ⟨MapB.made w,hb,.nil,Nat.le_refl _,fun k=>⟨fun h=>by simp at h,fun h=>by obtain⟨x,hx,_⟩:=h;cases hx⟩,fun _=>World.ownsRow_nil _ _ _ _,fun k b h=>by cases h⟩
theorem StM.below {w w':World}{base mb:Nat}{l:List ChA}{m:List (Key×Value)}(h:StM w base mb l m)(hb:Below w.heap.size w w'):StM w' base mb l m:=
 ⟨h.map.below hb h.map.lt,h.ge,h.nodup,h.len,h.keys,fun k=>own_block (h.row k) fun g hg=>hb.block g ((h.row k).lt g hg).2,h.apart⟩
theorem StM.push {w w1 w2 w3:World}{base mb:Nat}{l:List ChA}{m:List (Key×Value)}(h:StM w base mb l m){x:ChA}{v':Value}(h1:Upd mb w w1)
  (hown:w2.ownsRow base 49 9 v' ((stepA l x.c.key).length+1) ((stepA l x.c.key).flatMap ChA.cells++x.cells)) (hg:w1.grownBy w2 (rowOf m x.c.key).ownBlock)
  (hat:v'.ownBlock=(rowOf m x.c.key).ownBlock\/v'.ownBlock=some w1.heap.size) (h3:MapB (fun v:Value=>v) w3 mb (ins m x.c.key v')) (hu:Upd mb w2 w3):StM w3 base mb (l++[x]) (ins m x.c.key v'):=by
 have hlt:=h.map.lt;have s1:=h1.size
 have hv:∀b,v'.ownBlock=some b->b≠mb/\ ∀j,j≠x.c.key->(rowOf m j).ownBlock≠some b:=fun b hb=>by{(rcases hat with e | e);{exact h.apart _ b (by rw[<-e];exact hb)};{(have eb:b=w1.heap.size:=by rw[hb]at e;simpa using e);exact⟨by omega,fun j _ hj=>by have:=((h.row j).lt b hj).2;omega⟩}}
 refine⟨h3,h.ge,?_,?_,fun k=>?_,fun k=>?_,fun k b hb=>?_⟩
 ·by_cases hk:x.c.key∈m.map (·.1)
  {rw[(ins_keyL _ _ _).1 hk];exact h.nodup}
  ·rw[(ins_keyL _ _ _).2 hk]
   exact List.nodup_append.2 ⟨h.nodup,by simp,fun a ha b hb e=>by
    have:b=x.c.key:=by simpa using hb
    subst this;subst e;exact hk ha⟩
 {have hl:=h.len;rw[List.length_append, <-List.length_map (f:=fun p:Key×Value=>p.1)];by_cases hk:x.c.key∈m.map (·.1);{rw[(ins_keyL _ _ _).1 hk,List.length_map];simp;omega};{rw[(ins_keyL _ _ _).2 hk,List.length_append,List.length_map];simp;omega}}
 ·have hk2:k∈(ins m x.c.key v').map (·.1)↔k∈m.map (·.1)\/k=x.c.key:=by
   by_cases hk:x.c.key∈m.map (·.1)
   {rw[(ins_keyL _ _ _).1 hk];exact⟨.inl,fun h=>h.elim id fun e=>e▸hk⟩}
   {rw[(ins_keyL _ _ _).2 hk];simp}
  rw[hk2,h.keys];constructor
  {rintro(⟨y,hy,e⟩ | e);{exact⟨y,List.mem_append_left _ hy,e⟩};{exact⟨x,by simp,e.symm⟩}}
  {rintro⟨y,hy,e⟩;(rcases List.mem_append.1 hy with hy | hy);{exact .inl ⟨y,hy,e⟩};{(have:y=x:=by simpa using hy);subst this;exact .inr e.symm}}
 {rw[rowOf_ins,stepA_push];by_cases hk:x.c.key=k;{subst hk;rw[if_pos rfl,if_pos rfl,List.length_append,List.flatMap_append,List.flatMap_cons,List.flatMap_nil,List.append_nil];exact own_block hown fun g hg'=>hu.block g (hv g hg').1};{rw[if_neg (fun e=>hk e.symm),if_neg hk];(refine own_block (h.row k) fun g hg'=>?_);obtain⟨a1,a2⟩:=h.apart k g hg';have lt:=((h.row k).lt g hg').2;rw[hu.block g a1,hg.block g (by omega) (fun e=>a2 _ hk e.symm),h1.block g a1]}}
 {rw[rowOf_ins]at hb;by_cases hk:k=x.c.key;{rw[if_pos hk]at hb;refine⟨(hv b hb).1,fun j hj=>?_⟩;rw[rowOf_ins,if_neg (fun e=>hj (e.trans hk.symm))];exact(hv b hb).2 j (fun e=>hj (e.trans hk.symm))};{rw[if_neg hk]at hb;refine⟨(h.apart k b hb).1,fun j hj=>?_⟩;rw[rowOf_ins];by_cases hj2:j=x.c.key;{rw[if_pos hj2];exact fun e=>(hv b e).2 k hk hb};{rw[if_neg hj2];exact(h.apart k b hb).2 j hj}}}
theorem rng_below {w w':World}{B b o:Nat}{xs:List Value}(h:w.rangeAt b o xs)(hb:Below B w w')(hlt:b<B):w'.rangeAt b o xs:=fun j v hv=>by
 rw[hb.cell (p:=⟨b,o+j,none⟩) hlt];exact h j v hv
theorem new_cells (w:World)(t:TypeId)(cs:List Value):∀j u,cs[j]? =some u->(w.alloc (.cells cs.toArray t)).cell? ((⟨w.heap.size,0,none⟩:Addr).add j)=some u:=fun j u h=>by
 rw[Addr.add_mid,World.cell?_alloc_new]
 simpa using h
theorem StM.rowE {w w1:World}{base mb:Nat}{l:List ChA}{m:List (Key×Value)}(h:StM w base mb l m)(hu:Upd mb w w1)(k:Key):w1.ownsRow base 49 9 (rowOf m k) (stepA l k).length ((stepA l k).flatMap ChA.cells):=
 own_block (h.row k) fun g hg=>hu.block g (h.apart k g hg).1
theorem stepA_len (l:List ChA)(k:Key):(stepA l k).length<=l.length:=List.length_filter_le _ _
theorem StM.keysOf {w:World}{base mb:Nat}{xs:List ChA}{m:List (Key×Value)}(h:StM w base mb xs m){l:List Chg}(hl:xs.map (·.c)=l){ks:List Key}(hp:ks.Perm (m.map (·.1)))(hs:ks.Pairwise ltK):KeysOf l ks:=by
 refine⟨fun k=>?_,hs⟩;rw[hp.mem_iff,h.keys, <-hl];constructor
 {rintro⟨x,hx,e⟩;exact⟨x.c,List.mem_map_of_mem hx,e⟩}
 {rintro⟨c,hc,e⟩;obtain⟨x,hx,rfl⟩:=List.mem_map.1 hc;exact⟨x,hx,e⟩}
theorem step_info :(Tryz.prog.info? 59).map (·.size)=some 2:=by kernel_rfl
theorem zero_row :∀w:World,(zeroValue 22).run Tryz.prog w=.ok nilR w:=fun w=>by kernel_rfl
theorem steps_any (l:List Chg)(v:Value)(w:World)(B:Nat)(hn:l.length<=60)(hB:B<=w.heap.size)(hl:SlIn ChR 9 w B l v):
  Calls Tryz.prog 27 #[v] w fun e w'=>∃mb xs m,e=.returned (.map (some mb))/\ Below w.heap.size w w'/\ xs.map ChA.c=l/\ (∀x∈xs,x.Ok w' B)/\ StM w' w.heap.size mb xs m:=by
 obtain⟨av,cv,rfl,v1,v2,_⟩:=SlIn.shape hl;obtain⟨i0,z0,hi0,hs0,hz0,hzs0,hb0⟩:=ch_info;have HP:=Lib.hid hl;clear hl;go_enter Tryz.func27,Tryz.ntmps27;have hmm:=@run_makeMap Tryz.prog;go_wp2;have HM0:=Lib.hid (StM.made w (Nat.le_refl w.heap.size));have HB0:Hid (Below w.heap.size w (w.alloc (.map #[] 0))):=(Below.refl _ _).alloc (Nat.le_refl _) _;have hz0':w.heap.size<(w.alloc (.map #[] 0)).heap.size:=by simp
 go_loopw [10] (fun iv wr=>∃(k:Nat) (xs:List ChA) (m:List (Key×Value)),k<=l.length/\ iv=.int .i64 k/\ Hid (xs.map ChA.c=l.take k)/\ Hid (∀x∈xs,x.Ok wr B)/\ Hid (StM wr w.heap.size w.heap.size xs m)/\ Hid (Below w.heap.size w wr)/\ w.heap.size<wr.heap.size) (fun iv _=>l.length-(intOf iv).toNat)
 case atStart=>exact⟨0,[],[],Nat.zero_le _,rfl,rfl,fun x hx=>by(cases hx),HM0.out,HB0.out,hz0'⟩
 case round=>
  obtain⟨k,xs,m,hk,rfl,HX,HO,HM,HB,hsw⟩:=hrel;clear HM0 HB0 hz0';by_cases hlt:k<l.length
  ·obtain⟨b,off,rfl,hbB,ak,ck,hr,hf,hs1,hs2,hd⟩:=SlIn.at (HP.out.below ChR.kept (HB.out.mono hB)) k hlt
   have HX':Hid (∀y:ChA,y.c=l[k]->(xs++[y]).map ChA.c=l.take (k+1)):=fun y hy=>by{rw[List.map_append,HX.out,List.map_cons,List.map_nil,hy,List.take_succ_eq_append_getElem hlt]}
   have hxl:xs.length<=60:=by{have:=congrArg List.length HX.out;rw[List.length_map,List.length_take]at this;omega}
   generalize l[k]=p at*
   have HOK:Hid (ChA.Ok wr B ⟨p,ak,ck⟩):=⟨hf,hs1,hs2,hd⟩;have HRG:=Lib.hid hr;clear hr hf hs1 hs2 hd;obtain⟨va,vn,vc,hrow⟩:=own_shape (HM.out.row p.key)
   go_wp2_with (first
    | ((with_reducible show wpList _ _ _ (⟨_,Op.load 49 (.tmp 12),_,_,_,_⟩::_) _ _);refine wpList_load_ch rfl (.tmp 12) rfl rfl p ak ck HRG.out Tryz.underlying49 rfl Chg.info ?_)
    | ((with_reducible show wpList _ _ _ (⟨_,Op.store 49 (.tmp 5) (.tmp 13),_,_,_,_⟩::_) _ _);refine wpList_store_ch rfl (.tmp 5) (.tmp 13) rfl p ak ck rfl rfl ?hs1 Chg.info ?_;(case hs1=>rfl);intro W1 hb1 hz1 hr1 hf1;have e1_1:=hr1 1 _ rfl;have e1_7:=hr1 7 _ rfl;have HR1:=Lib.hid hr1;clear hr1)
    | ((with_reducible show wpList _ _ _ (⟨_,Op.load 49 (.tmp 5),_,_,_,_⟩::_) _ _);refine wpList_load_ch rfl (.tmp 5) rfl rfl p ak ck (rng_below HR1.out ((Below.refl _ _).alloc (Nat.le_refl _) _) (by omega)) Tryz.underlying49 rfl Chg.info ?_)
    | (((with_reducible show wpList _ _ _ (⟨_,Op.buildSlice 22 1 #[(0,.tmp 22)],_,_,_,_⟩::_) _ _);refine wpList_build_ch rfl (.tmp 22) rfl p ak ck rfl ?_);have HBA:Hid (Below wr.heap.size wr ((W1.alloc (.cells #[.string p.question,.int .i64 p.day] 59)).alloc (.cells (chC p ak ck).toArray 49))):=(hb1.alloc (by omega) _).alloc (by simp;omega) _;have HMA:=Lib.hid (HM.out.below HBA.out);have HNA:Hid (∀j u,(chC p ak ck)[j]? =some u->((W1.alloc (.cells #[.string p.question,.int .i64 p.day] 59)).alloc (.cells (chC p ak ck).toArray 49)).cell? ((⟨wr.heap.size+1+1,0,none⟩:Addr).add j)=some u):=(by have h:=new_cells (W1.alloc (.cells #[.string p.question,.int .i64 p.day] 59)) 49 (chC p ak ck);rw[show(W1.alloc (.cells #[.string p.question,.int .i64 p.day] 59)).heap.size=wr.heap.size+1+1 by simp[hz1]]at h;exact h))
    | ((with_reducible show wpList _ _ _ (⟨_,Op.mapEntry _ _ _,_,_,_,_⟩::_) _ _);refine wpList_entryB (ev:=fun v:Value=>v) rfl (.tmp 19) (.tmp 20) rfl Tryz.underlying54 (z:=nilR) zero_row HMA.out.map p.key (.slice va vn vc) hrow rfl rfl ?_;intro st W5 hu5 hst5)
    | (at_builtin;go_loud (refine wpList_append_own_at _ rfl (.tmp 21) (.tmp 23) 22 rfl w.heap.size 49 i0 z0 9 112 Tryz.underlying22 hi0 hz0 hs0 hb0 hzs0 (by decide) (.slice va vn vc) _ _ rfl (by rw[<-hrow];exact HMA.out.rowE hu5 p.key) ⟨wr.heap.size+1+1,0,none⟩ 1 1 (chC p ak ck) rfl rfl (fun j u hj=>(hu5.cell (by rw[Addr.add_mid];show wr.heap.size+1+1≠w.heap.size;omega)).trans (HNA.out j u hj)) (chC_ones _ _ _) (by have:=stepA_len xs p.key;unfold maxLen;omega) (by have:=stepA_len xs p.key;omega) (by have:=hu5.size;simp at this;omega) ?_;intro v9 w9 hown9 hgrow9 hnil9 hat9))
    | ((with_reducible show wpList _ _ _ (⟨_,Op.entryStore _ _ _ _,_,_,_,_⟩::_) _ _);refine wpList_stampB (ev:=fun v:Value=>v) rfl (.tmp 19) (.tmp 26) (.tmp 25) rfl hst5.out (hgrow9.block w.heap.size (by have:=hu5.size;simp at this;omega) (fun e=>(HMA.out.apart p.key w.heap.size (by rw[hrow];exact e.symm)).1 rfl)) v9 rfl rfl rfl ?_;intro w10 hm10 hu10))
   have s5:=hu5.size;have C:Below w.heap.size wr w10:=(((HBA.out.mono (by omega)).trans (hu5.below (Nat.le_refl _))).grown hgrow9 (by simp at s5;omega) (fun g e=>((HMA.out.row p.key).lt g (by rw[hrow];exact e)).1)).trans (hu10.below (Nat.le_refl _));have HM9:=Lib.hid (StM.push (x:=⟨p,ak,ck⟩) HMA.out hu5 hown9 (by show W5.grownBy w9 (rowOf m p.key).ownBlock;rw[hrow];exact hgrow9) (by show _=(rowOf m p.key).ownBlock\/_;rw[hrow];exact hat9) hm10 hu10);have HX9:=Lib.hid (HX'.out ⟨p,ak,ck⟩ rfl)
   have HO9:Hid (∀x∈xs++[⟨p,ak,ck⟩],x.Ok w10 B):=fun x hx=>by{(rcases List.mem_append.1 hx with hx | hx);{exact(HO.out x hx).up (C.mono hB)};{(have:x=⟨p,ak,ck⟩:=by simpa using hx);subst this;exact HOK.out.up (C.mono hB)}}
   have HB9:=Lib.hid (HB.out.trans C);have hs9:w.heap.size<w10.heap.size:=by have:=C.size;omega
   go_roundw
   case rel=>exact⟨k+1,_,_,by omega,by go_num,HX9,HO9,HM9,HB9,hs9⟩
   case measure=>simp[intOf];omega
  {(have HXE:Hid (xs.map ChA.c=l):=by show _=_;rw[HX.out,List.take_of_length_le (by omega)]);go_wp2;go_ret;exact⟨w.heap.size,xs,m,rfl,HB.out,HXE.out,HO.out,HM.out⟩}
theorem own_setX {w:World}{base:Nat}{e:TypeId}{k n:Nat}{v:Value}{xs:List Value}(h:w.ownsRow base e k v n xs){X:Nat}(hX:X<base)(i:Nat)(u:Value):(w.setCell ⟨X,i,none⟩ u).ownsRow base e k v n xs:=
 ⟨h.1,h.2.imp id fun⟨g,cap,cur,e1,e2,e3,r⟩=>⟨g,cap,cur,e1,e2,(heap_setCell_other w ⟨X,i,none⟩ g u (by show g≠X;omega)).trans e3,r⟩⟩
theorem holdingA_any (d:List Fa)(l:List Chg)(c:List Int)(v u cv:Value)(w:World)(B:Nat)(hn:l.length<=60)(hB:B<=w.heap.size)(hl:SlIn ChR 9 w B l v)(hd:DomIn w B d u)(hc:IntsIn w B c cv)(hsz:∀p∈l,p.cond.size<=1000000):
  Calls Tryz.prog 31 #[v,u,cv] w fun e w'=>∃(r:Value) (xs:List ChA),e=.returned r/\ Below w.heap.size w w'/\ xs.map ChA.c=holdR d c l/\ w'.ownsRow w.heap.size 49 9 r xs.length (xs.flatMap ChA.cells)/\ ∀x∈xs,x.Ok w' B:=by
 obtain⟨u0,rfl,hd⟩:=hd;obtain⟨ad,cd,rfl,d1,d2,_⟩:=SlIn.shape hd;obtain⟨ap,cp,rfl,p1,p2,_⟩:=SlIn.shape hl;obtain⟨i0,z0,hi0,hs0,hz0,hzs0,hb0⟩:=ch_info;have HBW:Hid (Below w.heap.size w (w.alloc (.cells #[.slice ad d.length cd] 25))):=(Below.refl _ _).alloc (Nat.le_refl _) _;have K0:=Lib.hid (Blk.new w 25 #[.slice ad d.length cd]);have HP:=Lib.hid hl;have HDM:Hid (DomIn w B d (.agg #[.slice ad d.length cd])):=⟨_,rfl,hd⟩;have HCV:=Lib.hid hc;have HSZ:=Lib.hid hsz;clear hd hl hsz hc;go_enter Tryz.func31,Tryz.ntmps31;go_wp2;have hz0':w.heap.size<(w.alloc (.cells #[.slice ad d.length cd] 25)).heap.size:=by simp
 go_loopw [7,12] (fun ov iv wr=>∃(k:Nat) (xs:List ChA),k<=l.length/\ iv=.int .i64 k/\ Hid (xs.map ChA.c=holdR d c (l.take k))/\ Hid (xs.length<=k)/\ Hid (∀x∈xs,x.Ok wr B)/\ Hid (wr.ownsRow (w.heap.size+1) 49 9 ov xs.length (xs.flatMap ChA.cells))/\ Hid (Below w.heap.size w wr)/\ w.heap.size<wr.heap.size/\ Hid (Blk wr w.heap.size 25 #[.slice ad d.length cd])) (fun _ iv _=>l.length-(intOf iv).toNat)
 case atStart=>exact⟨0,[],Nat.zero_le _,rfl,rfl,Nat.le_refl _,fun x hx=>by(cases hx),World.ownsRow_nil _ _ _ _,HBW,hz0',K0⟩
 case round=>
  obtain⟨k,xs,hk,rfl,HX,HL,HO,HR,HB,hsw,HK⟩:=hrel;have y0:=HK.out.cell 0;obtain⟨va,vn,vc,rfl⟩:=own_shape HR.out;have hxl:=HL.out;by_cases hlt:k<l.length
  ·obtain⟨b,off,rfl,hbB,ak,ck,hr,hf,hs1,hs2,hdy⟩:=SlIn.at (HP.out.below ChR.kept (HB.out.mono hB)) k hlt
   have HXT:Hid (l.take (k+1)=l.take k++[l[k]]):=List.take_succ_eq_append_getElem hlt;have hsk:=HSZ.out l[k] (List.getElem_mem hlt);generalize l[k]=p at*
   have HOK:Hid (ChA.Ok wr B ⟨p,ak,ck⟩):=⟨hf,hs1,hs2,hdy⟩;have HRG:=Lib.hid hr
   have HCK:Hid (∀W',Below wr.heap.size wr W'->Calls Tryz.prog 65 #[.agg #[.int .i64 p.cond.op,.string p.cond.name,.int .i64 p.cond.cmp,.int .i64 p.cond.n,.slice ak p.cond.kids.length ck],.agg #[.slice ad d.length cd],cv,.slice none 0 0] W' fun e w''=>e=.returned (.bool (holdsF p.cond d c []))/\ Hid (Below W'.heap.size W' w'')):=fun W' hb=>by{have hbw:=HB.out.trans (hb.mono HB.out.size);exact holdsP_any p.cond d c [] _ _ _ _ W' B hsk (by have:=hbw.size;omega) (Fo.In.below (hb.mono (by have:=HB.out.size;omega)) _ _ hf) (HDM.out.below (hbw.mono hB)) (HCV.out.below (hbw.mono hB)) ⟨none,0,rfl,Nat.le_refl _,Nat.zero_le _,fun h=>absurd rfl h⟩}
   clear hr hf hs1 hs2 hdy hsk;cases hh:holdsF p.cond d c []with
   | false=>
    rw[hh]at HCK;have HX9:Hid (xs.map ChA.c=holdR d c (l.take (k+1))):=by show _=_;rw[HXT.out,HX.out];unfold holdR;rw[List.filter_append];simp[hh]
    clear HXT
    go_wp2_with (first
     | ((with_reducible show wpList _ _ _ (⟨_,Op.load 49 (.tmp 14),_,_,_,_⟩::_) _ _);refine wpList_load_ch rfl (.tmp 14) rfl rfl p ak ck HRG.out Tryz.underlying49 rfl Chg.info ?_)
     | (((with_reducible show wpList _ _ _ (⟨_,Op.store 49 (.tmp 9) (.tmp 15),_,_,_,_⟩::_) _ _);refine wpList_store_ch rfl (.tmp 9) (.tmp 15) rfl p ak ck rfl rfl ?hs1 Chg.info ?_;(case hs1=>rfl);intro W1 hb1 hz1 hr1 hf1;have e1_2:=hr1 2 _ rfl;have e1_3:=hr1 3 _ rfl;have e1_4:=hr1 4 _ rfl;have e1_5:=hr1 5 _ rfl;have e1_6:=hr1 6 _ rfl;have HR1:=Lib.hid hr1;clear hr1);have K1:=Lib.hid (HK.out.below hb1);have v0:=K1.out.cell 0;have HC1:=HCK.out _ hb1;clear y0)
     | (go_at_call 65;refine HC1.mono ?_;rintro e w3 ⟨rfl,hb3⟩;have K3:=Lib.hid (K1.out.below hb3.out)))
    have C:Below wr.heap.size wr w3:=hb1.trans (hb3.out.mono hb1.size);have HO9:Hid (∀x∈xs,x.Ok w3 B):=fun x hx=>(HO.out x hx).up (C.mono (by have:=HB.out.size;omega))
    have HR9:=Lib.hid (own_under HR.out C);have HB9:=Lib.hid (HB.out.trans (C.mono HB.out.size));have hs9:w.heap.size<w3.heap.size:=by have:=C.size;omega
    have HL9:Hid (xs.length<=k+1):=Nat.le_succ_of_le hxl;go_roundw
    case rel=>exact⟨k+1,xs,by omega,by go_num,HX9,HL9,HO9,HR9,HB9,hs9,K3⟩
    case measure=>simp[intOf];omega
   | true=>
    rw[hh]at HCK;have HX9:Hid ((xs++[(⟨p,ak,ck⟩:ChA)]).map ChA.c=holdR d c (l.take (k+1))):=by show _=_;rw[HXT.out,List.map_append,HX.out];unfold holdR;rw[List.filter_append];simp[hh]
    clear HXT
    go_wp2_with (first
     | ((with_reducible show wpList _ _ _ (⟨_,Op.load 49 (.tmp 14),_,_,_,_⟩::_) _ _);refine wpList_load_ch rfl (.tmp 14) rfl rfl p ak ck HRG.out Tryz.underlying49 rfl Chg.info ?_)
     | (((with_reducible show wpList _ _ _ (⟨_,Op.store 49 (.tmp 9) (.tmp 15),_,_,_,_⟩::_) _ _);refine wpList_store_ch rfl (.tmp 9) (.tmp 15) rfl p ak ck rfl rfl ?hs1 Chg.info ?_;(case hs1=>rfl);intro W1 hb1 hz1 hr1 hf1;have e1_2:=hr1 2 _ rfl;have e1_3:=hr1 3 _ rfl;have e1_4:=hr1 4 _ rfl;have e1_5:=hr1 5 _ rfl;have e1_6:=hr1 6 _ rfl;have HR1:=Lib.hid hr1;clear hr1);have K1:=Lib.hid (HK.out.below hb1);have v0:=K1.out.cell 0;have HC1:=HCK.out _ hb1;clear y0)
     | (go_at_call 65;refine HC1.mono ?_;rintro e w3 ⟨rfl,hb3⟩;have K3:=Lib.hid (K1.out.below hb3.out))
     | ((with_reducible show wpList _ _ _ (⟨_,Op.load 49 (.tmp 9),_,_,_,_⟩::_) _ _);refine wpList_load_ch rfl (.tmp 9) rfl rfl p ak ck (rng_below HR1.out hb3.out (by omega)) Tryz.underlying49 rfl Chg.info ?_)
     | (((with_reducible show wpList _ _ _ (⟨_,Op.buildSlice 22 1 #[(0,.tmp 22)],_,_,_,_⟩::_) _ _);refine wpList_build_ch rfl (.tmp 22) rfl p ak ck rfl ?_);have hs3:=hb3.out.size;have HBA:Hid (Below wr.heap.size wr (w3.alloc (.cells (chC p ak ck).toArray 49))):=((hb1.trans (hb3.out.mono hb1.size)).alloc (by omega) _);have HRA:=Lib.hid (own_under HR.out HBA.out);have HNA:=Lib.hid (new_cells w3 49 (chC p ak ck)))
     | (at_builtin;go_loud (refine wpList_append_own_at _ rfl (.tmp 21) (.tmp 23) 22 rfl (w.heap.size+1) 49 i0 z0 9 112 Tryz.underlying22 hi0 hz0 hs0 hb0 hzs0 (by decide) (.slice va vn vc) _ _ rfl HRA.out ⟨w3.heap.size,0,none⟩ 1 1 (chC p ak ck) rfl rfl HNA.out (chC_ones _ _ _) (by unfold maxLen;omega) (by omega) (by simp;omega) ?_;intro v9 w9 hown9 hgrow9 hnil9 hat9)))
    have C:Below w.heap.size wr w9:=(HBA.out.mono (by omega)).grown hgrow9 (by simp;omega) (fun g e=>by have:=(HRA.out.lt g e).1;omega)
    have HO9:Hid (∀x∈xs++[(⟨p,ak,ck⟩:ChA)],x.Ok w9 B):=fun x hx=>by{(rcases List.mem_append.1 hx with hx | hx);{exact(HO.out x hx).up (C.mono hB)};{(have:x=⟨p,ak,ck⟩:=by simpa using hx);subst this;exact HOK.out.up (C.mono hB)}}
    have HR9:Hid (w9.ownsRow (w.heap.size+1) 49 9 v9 (xs++[(⟨p,ak,ck⟩:ChA)]).length ((xs++[(⟨p,ak,ck⟩:ChA)]).flatMap ChA.cells)):=by{show World.ownsRow _ _ _ _ _ _ _;rw[List.length_append,List.flatMap_append,List.flatMap_cons,List.flatMap_nil,List.append_nil];exact hown9}
    have HB9:=Lib.hid (HB.out.trans C);have hs9:w.heap.size<w9.heap.size:=by have:=C.size;omega
    have HK9:Hid (Blk w9 w.heap.size 25 #[.slice ad d.length cd]):=(K3.out.below ((Below.refl _ _).alloc (Nat.le_refl _) _)).grown hgrow9 (fun e=>by have:=(HRA.out.lt _ e.symm).1;omega);have HL9:Hid ((xs++[(⟨p,ak,ck⟩:ChA)]).length<=k+1):=by show _<=_;rw[List.length_append];simp;exact hxl
    go_roundw
    case rel=>exact⟨k+1,_,by omega,by go_num,HX9,HL9,HO9,HR9,HB9,hs9,HK9⟩
    case measure=>simp[intOf];omega
  {(have HXE:Hid (xs.map ChA.c=holdR d c l):=by show _=_;rw[HX.out,List.take_of_length_le (by omega)]);go_wp2;go_ret;exact⟨_,xs,rfl,HB.out,HXE.out,own_base HR.out (Nat.le_succ _),HO.out⟩}
theorem holding_any (d:List Fa)(l:List Chg)(c:List Int)(v u cv:Value)(w:World)(B:Nat)(hn:l.length<=60)(hB:B<=w.heap.size)(hl:SlIn ChR 9 w B l v)(hd:DomIn w B d u)(hc:IntsIn w B c cv)(hsz:∀p∈l,p.cond.size<=1000000):
  Calls Tryz.prog 31 #[v,u,cv] w fun e w'=>∃r,e=.returned r/\ Below w.heap.size w w'/\ SlIn ChR 9 w' w'.heap.size (holdR d c l) r:=
 (holdingA_any d l c v u cv w B hn hB hl hd hc hsz).mono fun _ _ ⟨r,xs,h1,h2,h3,h4,h5⟩=>⟨r,h1,h2,by rw[<-h3];exact own_chs h4 (Nat.le_refl _) fun x hx=>(h5 x hx).mono (Nat.le_trans hB h2.size)⟩
theorem gov1_any (x:Chg)(ak:Option Addr)(ck:Nat)(Bx b off n c:Nat)(k0:Bool)(w:World)(hb:w.cell? ⟨Bx,0,none⟩=some (.slice (some ⟨b,off,none⟩) n c))(hn:0<n)(hk:w.cell? ⟨b,off+8,none⟩=some (.bool k0)):
  Calls Tryz.prog 33 #[.agg (chC x ak ck).toArray,.pointer (some ⟨Bx,0,none⟩)] w fun e w'=>e=.returned (.bool (x.keep !=k0))/\ Below w.heap.size w w':=by
 show Calls Tryz.prog 33 #[.agg #[.string x.id,.string x.question,.int .i64 x.cond.op,.string x.cond.name,.int .i64 x.cond.cmp,.int .i64 x.cond.n,.slice ak x.cond.kids.length ck,.int .i64 x.day,.bool x.keep],.pointer (some ⟨Bx,0,none⟩)] w _
 have h1:Bx<w.heap.size:=World.block_lt_of_cell? _ _ hb;have h2:b<w.heap.size:=World.block_lt_of_cell? _ _ hk;have HB:Hid (Below w.heap.size w (w.alloc (.cells #[.string x.id,.string x.question,.int .i64 x.cond.op,.string x.cond.name,.int .i64 x.cond.cmp,.int .i64 x.cond.n,.slice ak x.cond.kids.length ck,.int .i64 x.day,.bool x.keep] 49))):=(Below.refl _ _).alloc (Nat.le_refl _) _;have e0:=(HB.out.cell (p:=⟨Bx,0,none⟩) h1).trans hb;have e1:=(HB.out.cell (p:=⟨b,off+8,none⟩) h2).trans hk;have K:=(Blk.new w 49 #[.string x.id,.string x.question,.int .i64 x.cond.op,.string x.cond.name,.int .i64 x.cond.cmp,.int .i64 x.cond.n,.slice ak x.cond.kids.length ck,.int .i64 x.day,.bool x.keep]).cell 8;simp only[List.getElem?_toArray,List.getElem?_cons_zero,List.getElem?_cons_succ]at K;have hin:decide ((0:Int)<(n:Int))=true:=decide_eq_true (by omega);clear hb hk;go_enter Tryz.func33,Tryz.ntmps33;go_wp2
 go_region
 all_goals(go_wp2;go_ret;exact⟨rfl,by first | exact HB.out | exact HB.out.drew⟩)
theorem indexCh_any (l:List Chg)(Bx:Nat)(k0:Bool)(v:Value)(w:World)(B b off n c:Nat)(hB:B<=w.heap.size)(hl:SlIn ChR 9 w B l v)(hb:w.cell? ⟨Bx,0,none⟩=some (.slice (some ⟨b,off,none⟩) n c))(hn:0<n)(hk:w.cell? ⟨b,off+8,none⟩=some (.bool k0)):
  Calls Tryz.prog 66 #[v,.func (.func 33) #[] #[.pointer (some ⟨Bx,0,none⟩)]] w fun e w'=>∃i:Int,e=.returned (.int .i64 i)/\ decide (0<=i)=(l.any fun y=>y.keep !=k0)/\ Below w.heap.size w w':=by
 obtain⟨av,cv,rfl,v1,v2,_⟩:=SlIn.shape hl;unfold maxLen at v2;have h1:Bx<w.heap.size:=World.block_lt_of_cell? _ _ hb;have h2:b<w.heap.size:=World.block_lt_of_cell? _ _ hk;have HP:=Lib.hid hl
 have HC:Hid (∀(W:World) (x:Chg) (ak:Option Addr) (ck:Nat),Below w.heap.size w W->Calls Tryz.prog 33 #[.agg (chC x ak ck).toArray,.pointer (some ⟨Bx,0,none⟩)] W fun e w'=>e=.returned (.bool (x.keep !=k0))/\ Below W.heap.size W w'):=fun W x ak ck hW=>gov1_any x ak ck Bx b off n c k0 W ((hW.cell (p:=⟨Bx,0,none⟩) h1).trans hb) hn ((hW.cell (p:=⟨b,off+8,none⟩) h2).trans hk)
 obtain⟨R,hR⟩:∃R,(l.any fun y=>y.keep !=k0)=R:=⟨_,rfl⟩;rw[hR];have HR:Hid ((l.any fun y=>y.keep !=k0)=R):=hR;clear hl hb hk hR;have HB0:=Lib.hid (Below.refl w.heap.size w);go_enter Tryz.func66,Tryz.ntmps66;go_wp2
 go_loopw [8] (fun iv wr=>∃(k:Nat),k<=l.length/\ iv=.int .i64 k/\ Hid ((l.drop k).any (fun y=>y.keep !=k0)=R)/\ Hid (Below w.heap.size w wr)) (fun iv _=>l.length-(intOf iv).toNat)
 case atStart=>exact⟨0,Nat.zero_le _,rfl,HR,HB0⟩
 case round=>
  obtain⟨k,hk,rfl,HI,HB⟩:=hrel;by_cases hlt:k<l.length
  ·obtain⟨bb,oo,rfl,hbB,ak,ck,hr,_⟩:=SlIn.at (HP.out.below ChR.kept (HB.out.mono hB)) k hlt
   have hI:=HI.out;rw[List.drop_eq_getElem_cons hlt,List.any_cons]at hI;generalize l[k]=p at*
   have HRG:=Lib.hid hr;have HC1:=Lib.hid (HC.out _ p ak ck HB.out);clear hr;cases hp:(p.keep !=k0)with
   | true=>
    rw[hp]at HC1 hI;have HE:Hid (true=R):=(show true=R by simpa using hI);clear hI
    go_wp2_with (first
     | ((with_reducible show wpList _ _ _ (⟨_,Op.load 49 (.tmp 14),_,_,_,_⟩::_) _ _);refine wpList_load_ch rfl (.tmp 14) rfl rfl p ak ck HRG.out Tryz.underlying49 rfl Chg.info ?_)
     | (go_at_call 33;refine HC1.out.mono ?_;rintro e w3 ⟨rfl,hb3⟩))
    go_ret;exact⟨k,rfl,by rw[<-HE.out];simp,HB.out.trans (hb3.mono HB.out.size)⟩
   | false=>
    rw[hp]at HC1 hI;have HE:Hid ((l.drop (k+1)).any (fun y=>y.keep !=k0)=R):=(show _=R by simpa using hI);clear hI
    go_wp2_with (first
     | ((with_reducible show wpList _ _ _ (⟨_,Op.load 49 (.tmp 14),_,_,_,_⟩::_) _ _);refine wpList_load_ch rfl (.tmp 14) rfl rfl p ak ck HRG.out Tryz.underlying49 rfl Chg.info ?_)
     | (go_at_call 33;refine HC1.out.mono ?_;rintro e w3 ⟨rfl,hb3⟩))
    have HB3:=Lib.hid (HB.out.trans (hb3.mono HB.out.size));go_roundw
    case rel=>exact⟨k+1,by omega,by go_num,HE,HB3⟩
    case measure=>simp[intOf];omega
  {(have HE:Hid (false=R):=by show _=_;rw[<-HI.out,List.drop_of_length_le (by omega)];rfl);go_wp2;go_ret;exact⟨-1,rfl,by rw[<-HE.out];rfl,HB.out⟩}
theorem containsCh_any (l:List Chg)(Bx:Nat)(k0:Bool)(v:Value)(w:World)(B b off n c:Nat)(hB:B<=w.heap.size)(hl:SlIn ChR 9 w B l v)(hb:w.cell? ⟨Bx,0,none⟩=some (.slice (some ⟨b,off,none⟩) n c))(hn:0<n)(hk:w.cell? ⟨b,off+8,none⟩=some (.bool k0)):
  Calls Tryz.prog 32 #[v,.func (.func 33) #[] #[.pointer (some ⟨Bx,0,none⟩)]] w fun e w'=>e=.returned (.bool (l.any fun y=>y.keep !=k0))/\ Below w.heap.size w w':=by
 have HI:=Lib.hid (indexCh_any l Bx k0 v w B b off n c hB hl hb hn hk);obtain⟨R,hR⟩:∃R,(l.any fun y=>y.keep !=k0)=R:=⟨_,rfl⟩;rw[hR]at HI⊢;obtain⟨av,cv,rfl,_⟩:=SlIn.shape hl;clear hl hb hk hR;go_enter Tryz.func32,Tryz.ntmps32;go_wp2_with (go_at_call 66;refine HI.out.mono ?_;rintro e w3 ⟨i,rfl,hi,hb3⟩);go_ret;exact⟨by rw[<-hi];rfl,hb3⟩
end Go.Proofs.YtihniipjfdenbaaGreatDoor
