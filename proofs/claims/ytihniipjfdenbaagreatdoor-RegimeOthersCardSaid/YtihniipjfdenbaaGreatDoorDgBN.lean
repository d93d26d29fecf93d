/- The walk of diagram.Build. A bound on the formula's cells. -/
import Derived.Test.YtihniipjfdenbaaGreatDoorDgBP
set_option maxRecDepth 100000
set_option maxHeartbeats 4000000
namespace Go.Proofs.YtihniipjfdenbaaGreatDoor
section
open Go.RowKit
open Go.Sort (grow)
theorem own_step {W:World}{base:Nat}{v:Value}{xs:List Int}(h:W.ownsRow base 3 1 v xs.length (xs.map iW)){ops:Array Oper}{o:Oper}{a:Act}{K:Act->World->Prop}{Q:Exit->Act->World->Prop}{E:Prop}
  (hgd:o.guard=none) (s x:Operand) (ho:o.op=.call {callee:=.builtin .append,args:=#[s,x],argTypes:=#[26,26]}) (hs:a.eval s=v) (ad:Addr) (hx:a.eval x=.slice (some ad) 1 1) (hB:base<=W.heap.size) (hl:xs.length<=2000000) (n:Int) (hc:W.cell? ad=some (.int .i64 n))
  (hK:∀g cap w',w'.ownsRow base 3 1 (.slice (some ⟨g,0,none⟩) (xs.length+1) cap) (xs++[n]).length ((xs++[n]).map iW)->W.grownBy w' v.ownBlock->(v.ownBlock=some g\/g=W.heap.size)->K (a.put o.dst (.slice (some ⟨g,0,none⟩) (xs.length+1) cap)) w'):
  if Region.wanted o (yielded ops a.tmps)=true then Oper.wp Tryz.prog o a W K Q else E:=by
 obtain⟨g,cap,w',r1,r2,r3,r4,_⟩:=run_appI (.inl ⟨h,rfl⟩) hB hl ad n hc o.type;exact step_run hgd s x _ ho _ _ hs hx _ _ r1 (hK g cap w' r2 r3 r4)
structure LoS (w0 : World) (K : Nat) (S : List Nat) (w6 : World) (r : (List Dn × List (ByteArray × Nat)) × List Int) (kv : Value) (wr : World) : Prop where
 st:StB w0 K (ownL kv++S) r.1.1 r.1.2 wr
 mks:MkS K [] w6 wr
 own:wr.ownsRow w6.heap.size 3 1 kv r.2.length (r.2.map iW)
variable {w0 w6 wr w8 w10 : World} {K : Nat} {S : List Nat} {r : (List Dn × List (ByteArray × Nat)) × List Int} {r' : List Dn × List (ByteArray × Nat)} {kv v' : Value}
theorem LoS.own9 (h:LoS w0 K S w6 r kv wr)(h8:StB w0 K (ownL kv++S) r'.1 r'.2 w8/\ MkS K [] wr w8)(o:Obj):(w8.alloc o).ownsRow w6.heap.size 3 1 kv r.2.length (r.2.map iW):=
 own_mks h.own (h8.2.alloc o) ⟨by decide,by decide⟩ (by simp)
theorem LoS.app (h:LoS w0 K S w6 r kv wr)(hK:K+6<=w0.heap.size)(hw:w0.heap.size<=w6.heap.size)(h8:StB w0 K (ownL kv++S) r'.1 r'.2 w8/\ MkS K [] wr w8){o:Obj}(hg:(w8.alloc o).grownBy w10 kv.ownBlock){g:Nat}(hv:v'.ownBlock=some g)(hat:kv.ownBlock=some g\/g=(w8.alloc o).heap.size)
  {k:Int} (h10:w10.ownsRow w6.heap.size 3 1 v' (r.2++[k]).length ((r.2++[k]).map iW)):LoS w0 K S w6 (r',r.2++[k]) v' w10:=by
 obtain⟨q1,q2⟩:=(h8.1.below ((Below.refl _ _).alloc (Nat.le_refl _) o)).app hK (h.own9 h8 o) hw hg hv hat;refine⟨q1,?_,h10⟩;refine(((h.mks.trans (h8.2.alloc o)).more (S':=ownL kv) (by simp)).trans q2).less fun b hb hlt=>?_
 have e:kv.ownBlock=some b:=by unfold ownL at hb;simpa using hb
 have:=(own_at h.own b e).1;omega
end
open Go.RowKit
section
theorem env_build (W:World)(DB:Nat)(d:List Fa)(fv:Value)(hdb:Blk W DB 25 #[fv])(hd:SlIn FaR 4 W W.heap.size d fv)(hT:TabH W.heap.size W):∃w0,w0=((((((W.alloc (.cells #[.slice none 0 0,.map none] 132)).alloc (.cells #[.pointer (some ⟨W.heap.size,0,none⟩)] 127)).alloc (.map #[] 0)).alloc (.cells #[.map (some (W.heap.size+1+1))] 128)).alloc (.cells #[.bool false] 4)).alloc (.cells #[.func (.func 147) #[] #[.pointer (some ⟨W.heap.size+1,0,none⟩),.pointer (some ⟨W.heap.size+4,0,none⟩),.pointer (some ⟨DB,0,none⟩),.pointer (some ⟨W.heap.size+3,0,none⟩),.pointer (some ⟨W.heap.size+5,0,none⟩)]] 115))/\ EnvB w0 W.heap.size DB d fv/\ StB w0 W.heap.size [] [] [] w0/\ Below W.heap.size W w0/\ w0.heap.size=W.heap.size+6:=by
 have b1:Below W.heap.size W ((((((W.alloc (.cells #[.slice none 0 0,.map none] 132)).alloc (.cells #[.pointer (some ⟨W.heap.size,0,none⟩)] 127)).alloc (.map #[] 0)).alloc (.cells #[.map (some (W.heap.size+1+1))] 128)).alloc (.cells #[.bool false] 4)).alloc (.cells #[.func (.func 147) #[] #[.pointer (some ⟨W.heap.size+1,0,none⟩),.pointer (some ⟨W.heap.size+4,0,none⟩),.pointer (some ⟨DB,0,none⟩),.pointer (some ⟨W.heap.size+3,0,none⟩),.pointer (some ⟨W.heap.size+5,0,none⟩)]] 115)):=((((((Below.refl _ _).alloc (Nat.le_refl _) _).alloc (by simp) _).alloc (by simp;omega) _).alloc (by simp;omega) _).alloc (by simp;omega) _).alloc (by simp;omega) _;have h0:=(((((Blk.new W 132 #[.slice none 0 0,.map none]).alloc (.cells #[.pointer (some ⟨W.heap.size,0,none⟩)] 127)).alloc (.map #[] 0)).alloc (.cells #[.map (some (W.heap.size+1+1))] 128)).alloc (.cells #[.bool false] 4)).alloc (.cells #[.func (.func 147) #[] #[.pointer (some ⟨W.heap.size+1,0,none⟩),.pointer (some ⟨W.heap.size+4,0,none⟩),.pointer (some ⟨DB,0,none⟩),.pointer (some ⟨W.heap.size+3,0,none⟩),.pointer (some ⟨W.heap.size+5,0,none⟩)]] 115);have h1:=((((Blk.new (W.alloc (.cells #[.slice none 0 0,.map none] 132)) 127 #[.pointer (some ⟨W.heap.size,0,none⟩)]).alloc (.map #[] 0)).alloc (.cells #[.map (some (W.heap.size+1+1))] 128)).alloc (.cells #[.bool false] 4)).alloc (.cells #[.func (.func 147) #[] #[.pointer (some ⟨W.heap.size+1,0,none⟩),.pointer (some ⟨W.heap.size+4,0,none⟩),.pointer (some ⟨DB,0,none⟩),.pointer (some ⟨W.heap.size+3,0,none⟩),.pointer (some ⟨W.heap.size+5,0,none⟩)]] 115);have h3:=((Blk.new (((W.alloc (.cells #[.slice none 0 0,.map none] 132)).alloc (.cells #[.pointer (some ⟨W.heap.size,0,none⟩)] 127)).alloc (.map #[] 0)) 128 #[.map (some (W.heap.size+1+1))]).alloc (.cells #[.bool false] 4)).alloc (.cells #[.func (.func 147) #[] #[.pointer (some ⟨W.heap.size+1,0,none⟩),.pointer (some ⟨W.heap.size+4,0,none⟩),.pointer (some ⟨DB,0,none⟩),.pointer (some ⟨W.heap.size+3,0,none⟩),.pointer (some ⟨W.heap.size+5,0,none⟩)]] 115);have h4:=(Blk.new ((((W.alloc (.cells #[.slice none 0 0,.map none] 132)).alloc (.cells #[.pointer (some ⟨W.heap.size,0,none⟩)] 127)).alloc (.map #[] 0)).alloc (.cells #[.map (some (W.heap.size+1+1))] 128)) 4 #[.bool false]).alloc (.cells #[.func (.func 147) #[] #[.pointer (some ⟨W.heap.size+1,0,none⟩),.pointer (some ⟨W.heap.size+4,0,none⟩),.pointer (some ⟨DB,0,none⟩),.pointer (some ⟨W.heap.size+3,0,none⟩),.pointer (some ⟨W.heap.size+5,0,none⟩)]] 115);have h5:=Blk.new (((((W.alloc (.cells #[.slice none 0 0,.map none] 132)).alloc (.cells #[.pointer (some ⟨W.heap.size,0,none⟩)] 127)).alloc (.map #[] 0)).alloc (.cells #[.map (some (W.heap.size+1+1))] 128)).alloc (.cells #[.bool false] 4)) 115 #[.func (.func 147) #[] #[.pointer (some ⟨W.heap.size+1,0,none⟩),.pointer (some ⟨W.heap.size+4,0,none⟩),.pointer (some ⟨DB,0,none⟩),.pointer (some ⟨W.heap.size+3,0,none⟩),.pointer (some ⟨W.heap.size+5,0,none⟩)]]
 have h2:(((((((W.alloc (.cells #[.slice none 0 0,.map none] 132)).alloc (.cells #[.pointer (some ⟨W.heap.size,0,none⟩)] 127)).alloc (.map #[] 0)).alloc (.cells #[.map (some (W.heap.size+1+1))] 128)).alloc (.cells #[.bool false] 4)).alloc (.cells #[.func (.func 147) #[] #[.pointer (some ⟨W.heap.size+1,0,none⟩),.pointer (some ⟨W.heap.size+4,0,none⟩),.pointer (some ⟨DB,0,none⟩),.pointer (some ⟨W.heap.size+3,0,none⟩),.pointer (some ⟨W.heap.size+5,0,none⟩)]] 115))).heap[W.heap.size+2]? =some (.map #[] 0):=by{have q:=World.alloc_heap_new ((W.alloc (.cells #[.slice none 0 0,.map none] 132)).alloc (.cells #[.pointer (some ⟨W.heap.size,0,none⟩)] 127)) (.map #[] 0);simp only[World.size_alloc]at q;rw[Below.heap_alloc _ _ _ (by simp),Below.heap_alloc _ _ _ (by simp),Below.heap_alloc _ _ _ (by simp)];exact q}
 simp only[World.size_alloc]at h1 h3 h4 h5;refine⟨_,rfl,⟨h1,h3,h4,h5,hdb.below b1,hdb.lt,SlIn.below FaR.kept b1 hd,hT.on b1,by simp⟩,⟨MkS.refl _ _ _,⟨Nat.le_refl _,⟨.slice none 0 0,none,[],h0,World.ownsRow_nil _ _ _ _,rfl,by simp,.inl ⟨rfl,rfl⟩⟩,by simp⟩,?_,[],⟨#[],0,h2,rfl⟩,fun k=>rfl⟩,b1,by simp⟩;rw[h0.cell 1];simp
theorem blk_slice_ne {w:World}{b:Nat}{t:TypeId}{a:Option Addr}{n c:Nat}(hb:Blk w b t #[.slice a n c]){b' o:Nat}{x:Int}(h:w.cell? ⟨b',o,none⟩=some (.int .i64 x)):b'≠b:=by
 rintro rfl;rw[hb.cell o]at h
 match o,h with| 0,h=>simp at h| o+1,h=>simp at h
theorem ints_set {w:World}{b B:Nat}{t:TypeId}{a:Option Addr}{n c:Nat}(hb:Blk w b t #[.slice a n c])(u:Value){l:List Int}{v:Value}(h:IntsIn w B l v):IntsIn (w.setCell ⟨b,0,none⟩ u) B l v:=by
 obtain⟨ao,cap,rfl,h1,h2,h3⟩:=h;refine⟨ao,cap,rfl,h1,h2,fun hne=>?_⟩;obtain⟨b',off,rfl,hlt,hc⟩:=h3 hne;refine⟨b',off,rfl,hlt,fun i hi=>?_⟩;have hne':b'≠b:=blk_slice_ne hb (hc i hi)
 show(w.setCell ⟨b,0,none⟩ u).cell? _=_
 rw[World.cell?_of_block (a:=⟨b',_,none⟩) (Below.heap_setCell w ⟨b,0,none⟩ u b' hne')];exact hc i hi
theorem DgIn.set {w:World}{b B:Nat}{t:TypeId}{a:Option Addr}{n c:Nat}(hb:Blk w b t #[.slice a n c])(u:Value){g:List Dn}{v:Value}(h:DgIn w B g v):DgIn (w.setCell ⟨b,0,none⟩ u) B g v:=by
 obtain⟨_,rfl,ao,cap,rfl,h1,h2,h3⟩:=h;refine⟨_,rfl,ao,cap,rfl,h1,h2,fun hne=>?_⟩;obtain⟨b',off,rfl,hlt,hc⟩:=h3 hne;refine⟨b',off,rfl,hlt,fun i hi=>?_⟩;obtain⟨vc,vk,c0,c1,c2,c3,hcu,hki⟩:=hc i hi;have hne':b'≠b:=blk_slice_ne hb c0;have e:∀o,(w.setCell ⟨b,0,none⟩ u).cell? ⟨b',o,none⟩=w.cell? ⟨b',o,none⟩:=fun o=>World.cell?_of_block (a:=⟨b',o,none⟩) (Below.heap_setCell w ⟨b,0,none⟩ u b' hne')
 exact⟨vc,vk,(e _).trans c0,(e _).trans c1,(e _).trans c2,(e _).trans c3,ints_set hb u hcu,ints_set hb u hki⟩
theorem DgIn.nil (w:World)(B:Nat):DgIn w B [] (.agg #[.slice none 0 0]):=⟨_,rfl,none,0,rfl,Nat.le_refl _,Nat.zero_le _,fun h=>absurd rfl h⟩
attribute [local go_sem] run_store_func2
end
end Go.Proofs.YtihniipjfdenbaaGreatDoor
