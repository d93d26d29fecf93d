/- And's recursion for any fuel; the walk of diagram.And. A bound on the facts alone. -/
import Derived.Test.YtihniipjfdenbaaGreatDoorDgBN
import Derived.Test.YtihniipjfdenbaaGreatDoorDgVH
import Derived.Test.YtihniipjfdenbaaGreatDoorDgAW
set_option maxRecDepth 100000
set_option maxHeartbeats 4000000
namespace Go.Proofs.YtihniipjfdenbaaGreatDoor
section
open Go.RowKit
theorem hd_new {wc w4:World}{cs:Array Value}{t:TypeId}(hb:Below (wc.alloc (.cells cs t)).heap.size (wc.alloc (.cells cs t)) w4):Hid (Blk w4 wc.heap.size t cs):=(Blk.new wc t cs).below hb
theorem hd_newd {wc w4:World}{cs:Array Value}{t:TypeId}(hb:Below ((wc.alloc (.cells cs t)).drew).heap.size ((wc.alloc (.cells cs t)).drew) w4):Hid (Blk w4 wc.heap.size t cs):=(show Blk ((wc.alloc (.cells cs t)).drew) wc.heap.size t cs from Blk.new wc t cs).below hb
theorem hd_one (w:World)(o:Obj)(t:TypeId)(cs:Array Value):Hid (Blk ((w.alloc (.cells cs t)).alloc o) w.heap.size t cs):=(Blk.new w t cs).alloc o
theorem hd_two (w:World)(o:Obj)(t:TypeId)(cs:Array Value):Hid (Blk ((w.alloc o).alloc (.cells cs t)) (w.heap.size+1) t cs):=by
 have q:=Blk.new (w.alloc o) t cs;rw[World.size_alloc]at q;exact q
structure DgV (W : World) (b : Nat) (t : List Dn) (a : Option Addr) (c : Nat) : Prop where
 box:Blk W b 75 #[.slice a t.length c]
 dg:DgIn W W.heap.size t (.agg #[.slice a t.length c])
theorem DgV.step {W W':World}{b:Nat}{t:List Dn}{a:Option Addr}{c:Nat}(h:DgV W b t a c)(hb:Below W.heap.size W W'):DgV W' b t a c:=⟨h.box.below hb,(h.dg.below hb).mono hb.size⟩
theorem dgv_new {W:World}{t:List Dn}{a:Option Addr}{c:Nat}(h:Hid (DgIn W W.heap.size t (.agg #[.slice a t.length c]))):Hid (DgV (W.alloc (.cells #[.slice a t.length c] 75)) W.heap.size t a c):=
 ⟨Blk.new W _ _,(h.out.below ((Below.refl _ _).alloc (Nat.le_refl _) _)).mono (by simp)⟩
theorem dgv_set {W:World}{b:Nat}{t:List Dn}{a a0:Option Addr}{n0 c0 c:Nat}(hb:Hid (Blk W b 75 #[.slice a0 n0 c0]))(h:Hid (DgIn W W.heap.size t (.agg #[.slice a t.length c]))):Hid (DgV (W.setCell ⟨b,0,none⟩ (.slice a t.length c)) b t a c):=
 ⟨hb.out.set 0 _,by rw[World.size_setCell];exact h.out.set hb.out _⟩
theorem hd_set {W w:World}{b:Nat}{v:Value}(h:Hid (Below W.heap.size W w))(hb:Hid (W.heap.size<=b)):Hid (Below W.heap.size W (w.setCell ⟨b,0,none⟩ v)):=h.out.setCell (p:=⟨b,0,none⟩) hb.out v
end
section
open Go.RowKit
structure LwS (w0 W : World) : Prop where
 low:Below w0.heap.size w0 W
 tab:TabH W.heap.size W
theorem LwS.step {w0 W W':World}(h:LwS w0 W)(hb:Below W.heap.size W W'):LwS w0 W':=⟨h.low.trans (hb.mono h.low.size),fun w' h'=>h.tab w' (hb.trans (h'.mono hb.size))⟩
theorem lws_new {w:World}(hT:TabH w.heap.size w):LwS w w:=⟨Below.refl _ _,hT⟩
structure LwF (W : World) (b : Nat) (f : Fo) (a : Option Addr) (c : Nat) : Prop where
 box:Blk W b 47 #[.int .i64 f.op,.string f.name,.int .i64 f.cmp,.int .i64 f.n,.slice a f.kids.length c]
 fo:f.In W W.heap.size (.agg #[.int .i64 f.op,.string f.name,.int .i64 f.cmp,.int .i64 f.n,.slice a f.kids.length c])
theorem LwF.step {W W':World}{b:Nat}{f:Fo}{a:Option Addr}{c:Nat}(h:LwF W b f a c)(hb:Below W.heap.size W W'):LwF W' b f a c:=⟨h.box.below hb,(Fo.In.below hb _ _ h.fo).mono hb.size⟩
structure LwD (W : World) (b : Nat) (d : List Fa) (a : Option Addr) (c : Nat) : Prop where
 box:Blk W b 25 #[.slice a d.length c]
 dom:DomIn W W.heap.size d (.agg #[.slice a d.length c])
theorem LwD.step {W W':World}{b:Nat}{d:List Fa}{a:Option Addr}{c:Nat}(h:LwD W b d a c)(hb:Below W.heap.size W W'):LwD W' b d a c:=⟨h.box.below hb,(h.dom.below hb).mono hb.size⟩
theorem lw_then {W w w':World}(h:Hid (Below W.heap.size W w))(h':Below w.heap.size w w'):Hid (Below W.heap.size W w'):=h.out.trans (h'.mono h.out.size)
variable {w0 W w : World} {f h : Fo} {d : List Fa} {t u : List Dn} {l m : List Int} {b b' b'' : Nat} {a a' a'' : Option Addr} {c c' c'' : Nat} {v v' : Value}
end
section
open Go.RowKit
theorem three_start {ta tb:List Dn}{d:List Fa}{w:World}{aa ab ad:Option Addr}{ca cb cd:Nat}(ha:DgIn w w.heap.size ta (.agg #[.slice aa ta.length ca]))(hb:DgIn w w.heap.size tb (.agg #[.slice ab tb.length cb]))(hd:DomIn w w.heap.size d (.agg #[.slice ad d.length cd]))(hT:TabH w.heap.size w):
  Hid (LwS w (((w.alloc (.cells #[.slice aa ta.length ca] 75)).alloc (.cells #[.slice ab tb.length cb] 75)).alloc (.cells #[.slice ad d.length cd] 25)))/\ Hid (DgV (((w.alloc (.cells #[.slice aa ta.length ca] 75)).alloc (.cells #[.slice ab tb.length cb] 75)).alloc (.cells #[.slice ad d.length cd] 25)) w.heap.size ta aa ca)/\ Hid (DgV (((w.alloc (.cells #[.slice aa ta.length ca] 75)).alloc (.cells #[.slice ab tb.length cb] 75)).alloc (.cells #[.slice ad d.length cd] 25)) (w.heap.size+1) tb ab cb)/\ Hid (LwD (((w.alloc (.cells #[.slice aa ta.length ca] 75)).alloc (.cells #[.slice ab tb.length cb] 75)).alloc (.cells #[.slice ad d.length cd] 25)) (w.heap.size+1+1) d ad cd):=by
 have h3:Below w.heap.size w (((w.alloc (.cells #[.slice aa ta.length ca] 75)).alloc (.cells #[.slice ab tb.length cb] 75)).alloc (.cells #[.slice ad d.length cd] 25)):=(((Below.refl _ _).alloc (Nat.le_refl _) _).alloc (by simp) _).alloc (by simp;omega) _;have k0:Blk (((w.alloc (.cells #[.slice aa ta.length ca] 75)).alloc (.cells #[.slice ab tb.length cb] 75)).alloc (.cells #[.slice ad d.length cd] 25)) w.heap.size 75 #[.slice aa ta.length ca]:=((Blk.new w 75 #[.slice aa ta.length ca]).alloc _).alloc _
 have k1:Blk (((w.alloc (.cells #[.slice aa ta.length ca] 75)).alloc (.cells #[.slice ab tb.length cb] 75)).alloc (.cells #[.slice ad d.length cd] 25)) (w.heap.size+1) 75 #[.slice ab tb.length cb]:=by
  have q:=(Blk.new (w.alloc (.cells #[.slice aa ta.length ca] 75)) 75 #[.slice ab tb.length cb]).alloc (.cells #[.slice ad d.length cd] 25);rw[World.size_alloc]at q;exact q
 have k2:Blk (((w.alloc (.cells #[.slice aa ta.length ca] 75)).alloc (.cells #[.slice ab tb.length cb] 75)).alloc (.cells #[.slice ad d.length cd] 25)) (w.heap.size+1+1) 25 #[.slice ad d.length cd]:=by
  have q:=Blk.new ((w.alloc (.cells #[.slice aa ta.length ca] 75)).alloc (.cells #[.slice ab tb.length cb] 75)) 25 #[.slice ad d.length cd];rw[World.size_alloc,World.size_alloc]at q;exact q
 exact⟨(lws_new hT).step h3,⟨k0,(ha.below h3).mono h3.size⟩,⟨k1,(hb.below h3).mono h3.size⟩,⟨k2,(hd.below h3).mono h3.size⟩⟩
theorem and_start {ta tb:List Dn}{d:List Fa}{w:World}{aa ab ad:Option Addr}{ca cb cd:Nat}(ha:DgIn w w.heap.size ta (.agg #[.slice aa ta.length ca]))(hb:DgIn w w.heap.size tb (.agg #[.slice ab tb.length cb]))(hd:DomIn w w.heap.size d (.agg #[.slice ad d.length cd]))(hT:TabH w.heap.size w):
  Hid (LwS w ((((w.alloc (.cells #[.slice aa ta.length ca] 75)).alloc (.cells #[.slice ab tb.length cb] 75)).alloc (.cells #[.slice ad d.length cd] 25)).alloc (.cells #[.slice none 0 0] 75)))/\ Hid (DgV ((((w.alloc (.cells #[.slice aa ta.length ca] 75)).alloc (.cells #[.slice ab tb.length cb] 75)).alloc (.cells #[.slice ad d.length cd] 25)).alloc (.cells #[.slice none 0 0] 75)) w.heap.size ta aa ca)/\ Hid (DgV ((((w.alloc (.cells #[.slice aa ta.length ca] 75)).alloc (.cells #[.slice ab tb.length cb] 75)).alloc (.cells #[.slice ad d.length cd] 25)).alloc (.cells #[.slice none 0 0] 75)) (w.heap.size+1) tb ab cb)/\ Hid (LwD ((((w.alloc (.cells #[.slice aa ta.length ca] 75)).alloc (.cells #[.slice ab tb.length cb] 75)).alloc (.cells #[.slice ad d.length cd] 25)).alloc (.cells #[.slice none 0 0] 75)) (w.heap.size+1+1) d ad cd)/\ Hid (Blk ((((w.alloc (.cells #[.slice aa ta.length ca] 75)).alloc (.cells #[.slice ab tb.length cb] 75)).alloc (.cells #[.slice ad d.length cd] 25)).alloc (.cells #[.slice none 0 0] 75)) (w.heap.size+1+1+1) 75 #[.slice none 0 0]):=by
 obtain⟨h1,h2,h3,h4⟩:=three_start ha hb hd hT;have hs:Below ((((w.alloc (.cells #[.slice aa ta.length ca] 75)).alloc (.cells #[.slice ab tb.length cb] 75)).alloc (.cells #[.slice ad d.length cd] 25))).heap.size (((w.alloc (.cells #[.slice aa ta.length ca] 75)).alloc (.cells #[.slice ab tb.length cb] 75)).alloc (.cells #[.slice ad d.length cd] 25)) ((((w.alloc (.cells #[.slice aa ta.length ca] 75)).alloc (.cells #[.slice ab tb.length cb] 75)).alloc (.cells #[.slice ad d.length cd] 25)).alloc (.cells #[.slice none 0 0] 75)):=(Below.refl _ _).alloc (Nat.le_refl _) _
 have k3:Blk ((((w.alloc (.cells #[.slice aa ta.length ca] 75)).alloc (.cells #[.slice ab tb.length cb] 75)).alloc (.cells #[.slice ad d.length cd] 25)).alloc (.cells #[.slice none 0 0] 75)) (w.heap.size+1+1+1) 75 #[.slice none 0 0]:=by
  have q:=Blk.new (((w.alloc (.cells #[.slice aa ta.length ca] 75)).alloc (.cells #[.slice ab tb.length cb] 75)).alloc (.cells #[.slice ad d.length cd] 25)) 75 #[.slice none 0 0];rw[World.size_alloc,World.size_alloc,World.size_alloc]at q;exact q
 exact⟨h1.out.step hs,h2.out.step hs,h3.out.step hs,h4.out.step hs,k3⟩
theorem lw_valid {w0 W w:World}{d:List Fa}{t:List Dn}{b b':Nat}{a a':Option Addr}{c c':Nat}(HE:Hid (LwS w0 W))(HV:Hid (DgV W b t a c))(HD:Hid (LwD W b' d a' c'))(h64:∀n∈t,Dn64 n)(hW:Hid (Below W.heap.size W w)):
  Calls Tryz.prog 71 #[.agg #[.slice a t.length c],.agg #[.slice a' d.length c']] w fun e w'=>e=.returned (.bool (validG d t))/\ Hid (Below W.heap.size W w'):=by
 refine(validG_any d t _ _ w w.heap.size (Nat.le_refl _) (HV.out.step hW.out).dg (HD.out.step hW.out).dom h64 (HE.out.step hW.out).tab).mono ?_;rintro e w' ⟨rfl,h2⟩;exact⟨rfl,lw_then hW h2⟩
theorem andR_any {ta tb:List Dn}{d:List Fa}{w:World}{va vb u:Value}(ha:DgIn w w.heap.size ta va)(hb:DgIn w w.heap.size tb vb)(hd:DomIn w w.heap.size d u)(hT:TabH w.heap.size w)(h64:∀n∈ta,Dn64 n)(h64':∀n∈tb,Dn64 n)(hno:(validG d ta&& validG d tb)=false):
  Calls Tryz.prog 69 #[va,vb,u] w fun e w'=>e=.returned (.tuple #[.agg #[.slice none 0 0],.int .i64 1])/\ Below w.heap.size w w':=by
 have ha1:=ha;have hb1:=hb;have hd1:=hd;obtain⟨_,rfl,h1⟩:=ha;obtain⟨_,rfl,h2⟩:=hb;obtain⟨_,rfl,h3⟩:=hd;obtain⟨aa,ca,rfl,_⟩:=SlIn.shape h1;obtain⟨ab,cb,rfl,_⟩:=SlIn.shape h2;obtain⟨ad,cd,rfl,_⟩:=SlIn.shape h3;obtain⟨HE,HA,HB,HD,HK⟩:=and_start ha1 hb1 hd1 hT;clear ha1 hb1 hd1 h1 h2 h3 hT;obtain⟨W,hW⟩:∃W,((((w.alloc (.cells #[.slice aa ta.length ca] 75)).alloc (.cells #[.slice ab tb.length cb] 75)).alloc (.cells #[.slice ad d.length cd] 25)).alloc (.cells #[.slice none 0 0] 75))=W:=⟨_,rfl⟩;rw[hW]at HE HA HB HD HK;have HW:=Lib.hid hW;clear hW;have HB0:Hid (Below W.heap.size W W):=Below.refl _ _
 have HCL:Hid (∀w',Hid (Below W.heap.size W w')->w'.cell? ⟨w.heap.size,0,none⟩=some (.slice aa ta.length ca)/\ w'.cell? ⟨w.heap.size+1,0,none⟩=some (.slice ab tb.length cb)/\ w'.cell? ⟨w.heap.size+1+1,0,none⟩=some (.slice ad d.length cd)):=fun w' hb=>
  ⟨(HA.out.box.below hb.out).cell 0,(HB.out.box.below hb.out).cell 0,(HD.out.box.below hb.out).cell 0⟩
 have HVA:=Lib.hid (fun w' (hb:Hid (Below W.heap.size W w'))=>lw_valid HE HA HD h64 hb);have HVB:=Lib.hid (fun w' (hb:Hid (Below W.heap.size W w'))=>lw_valid HE HB HD h64' hb);obtain⟨x0,y0,z0⟩:=HCL.out W HB0;clear h64 h64';cases hva:validG d ta with
 | false=>
  rw[hva]at HVA;clear hno;go_enter Tryz.func69,Tryz.ntmps69;go_upto_region 1 with(fail);rw[HW.out];go_upto_region 2 with(go_at_call_of 71 aa;refine(HVA.out _ HB0).mono ?_;rintro e w1 ⟨rfl,HB1⟩;(clear x0 y0 z0;obtain⟨x0,y0,z0⟩:=HCL.out _ (by assumption)));generalize hwz:w1=wZ at*
  (have HN:=Lib.hid (HK.out.below (show Hid (Below W.heap.size W wZ) by assumption).out);have n0:=HN.out.cell 0;have f0:=HN.out.frozen 0;clear x0 y0 z0;go_wp2;refine bodyPost_ret (by simp[results,Tryz.results69,go_sem,n0];try rfl) rfl ?_;exact⟨rfl,(HE.out.low.trans ((show Hid (Below W.heap.size W wZ) by assumption).out.mono HE.out.low.size)).setCell (p:=⟨w.heap.size+1+1+1,0,none⟩) (by show w.heap.size<=w.heap.size+1+1+1;omega) _⟩)
 | true=>
  have hvb:validG d tb=false:=by rw[hva]at hno;simpa using hno
  rw[hva]at HVA;rw[hvb]at HVB;clear hno;go_enter Tryz.func69,Tryz.ntmps69;go_upto_region 1 with(fail);rw[HW.out];go_upto_region 2 with(first | (go_at_call_of 71 aa;refine(HVA.out _ HB0).mono ?_;rintro e w1 ⟨rfl,HB1⟩;(clear x0 y0 z0;obtain⟨x0,y0,z0⟩:=HCL.out _ (by assumption))) | (go_at_call_of 71 ab;refine(HVB.out _ HB1).mono ?_;rintro e w2 ⟨rfl,HB2⟩;(clear x0 y0 z0;obtain⟨x0,y0,z0⟩:=HCL.out _ (by assumption))));generalize hwz:w2=wZ at*
  (have HN:=Lib.hid (HK.out.below (show Hid (Below W.heap.size W wZ) by assumption).out);have n0:=HN.out.cell 0;have f0:=HN.out.frozen 0;clear x0 y0 z0;go_wp2;refine bodyPost_ret (by simp[results,Tryz.results69,go_sem,n0];try rfl) rfl ?_;exact⟨rfl,(HE.out.low.trans ((show Hid (Below W.heap.size W wZ) by assumption).out.mono HE.out.low.size)).setCell (p:=⟨w.heap.size+1+1+1,0,none⟩) (by show w.heap.size<=w.heap.size+1+1+1;omega) _⟩)
end
section
open Go.RowKit
theorem both_any {w0:World}{K PA PB PD:Nat}{d:List Fa}{ta tb:List Dn}{va vb vd:Value}(hE:EnvA w0 K PA PB PD d ta tb va vb vd)(gA:ValidG d ta)(gB:ValidG d tb):∀f,f<=90->BothW w0 K PA PB PD d ta tb f
 | 0,_=>fun S m dn x y W _ _ _ _ _ hf=>absurd hf (Nat.not_lt_zero _)
 | f+1,hf=>by
  intro S m dn x y W hS hI hm hx hy hfu hst;cases hk:dn.lookup (x,y)with
  | some k=>
   have e:bothG d ta tb (f+1) m dn x y=((m,dn),k):=by
    unfold bothG bothD;rw[hk]
   rw[e];exact both_hit hE x y m dn k hk W hst
  | none=>exact both_new hE gA gB f (by omega) (both_any hE gA gB f (by omega)) S m dn x y W hS hI hm hx hy hfu hk hst
theorem rootX {d:List Fa}{ta tb:List Dn}(vA:ValidG d ta)(vB:ValidG d tb):MadeX d.length (flo d) (fhi d) ta tb (readG d ta) (readG d tb) 20000 (d.length+1) [] 0 0 (rootJ d ta tb):=
 both_gen vA.good vB.good (fun _ _ hx hy hi=>sJ_ok vA.good vB.good hx hy hi) (d.length+1) [] [] 0 0 (invX_nil 20000) vA.pos vB.pos (by omega)
def andX (d:List Fa)(a b:List Dn):List Dn×Int:=if validG d a=true/\ validG d b=true then(if 20000<(rootJ d a b).1.1.length then([],2)else(tableJ d a b,0))else([],1)
theorem andX_okay {d:List Fa}{a b:List Dn}(h:AndB d a b):andX d a b=(tableJ d a b,0):=by
 obtain⟨_,_,_,hl⟩:=rootJ_ok h;unfold andX;rw[if_pos ⟨valid_iff.2 h.va,valid_iff.2 h.vb⟩,if_neg (by omega)]
theorem env_and (W:World)(PA PB PD:Nat)(d:List Fa)(ta tb:List Dn)(va vb vd:Value)(hpa:Blk W PA 75 #[va])(hpb:Blk W PB 75 #[vb])(hpd:Blk W PD 25 #[vd])(ga:SlIn DnR 4 W W.heap.size ta va)(gb:SlIn DnR 4 W W.heap.size tb vb)(hd:SlIn FaR 4 W W.heap.size d vd)(hT:TabH W.heap.size W):
  ∃w0,w0=(((((W.alloc (.cells #[.slice none 0 0,.map none] 132)).alloc (.cells #[.pointer (some ⟨W.heap.size,0,none⟩)] 127)).alloc (.map #[] 0)).alloc (.cells #[.map (some (W.heap.size+1+1))] 133)).alloc (.cells #[.func (.func 104) #[] #[.pointer (some ⟨W.heap.size+3,0,none⟩),.pointer (some ⟨PA,0,none⟩),.pointer (some ⟨PB,0,none⟩),.pointer (some ⟨PD,0,none⟩),.pointer (some ⟨W.heap.size+1,0,none⟩),.pointer (some ⟨W.heap.size+4,0,none⟩)]] 134))/\ EnvA w0 W.heap.size PA PB PD d ta tb va vb vd/\ StA w0 W.heap.size [] [] [] w0/\ Below W.heap.size W w0/\ w0.heap.size=W.heap.size+5:=by
 have b1:Below W.heap.size W (((((W.alloc (.cells #[.slice none 0 0,.map none] 132)).alloc (.cells #[.pointer (some ⟨W.heap.size,0,none⟩)] 127)).alloc (.map #[] 0)).alloc (.cells #[.map (some (W.heap.size+1+1))] 133)).alloc (.cells #[.func (.func 104) #[] #[.pointer (some ⟨W.heap.size+3,0,none⟩),.pointer (some ⟨PA,0,none⟩),.pointer (some ⟨PB,0,none⟩),.pointer (some ⟨PD,0,none⟩),.pointer (some ⟨W.heap.size+1,0,none⟩),.pointer (some ⟨W.heap.size+4,0,none⟩)]] 134)):=(((((Below.refl _ _).alloc (Nat.le_refl _) _).alloc (by simp) _).alloc (by simp;omega) _).alloc (by simp;omega) _).alloc (by simp;omega) _;have h0:=((((Blk.new W 132 #[.slice none 0 0,.map none]).alloc (.cells #[.pointer (some ⟨W.heap.size,0,none⟩)] 127)).alloc (.map #[] 0)).alloc (.cells #[.map (some (W.heap.size+1+1))] 133)).alloc (.cells #[.func (.func 104) #[] #[.pointer (some ⟨W.heap.size+3,0,none⟩),.pointer (some ⟨PA,0,none⟩),.pointer (some ⟨PB,0,none⟩),.pointer (some ⟨PD,0,none⟩),.pointer (some ⟨W.heap.size+1,0,none⟩),.pointer (some ⟨W.heap.size+4,0,none⟩)]] 134);have h1:=(((Blk.new (W.alloc (.cells #[.slice none 0 0,.map none] 132)) 127 #[.pointer (some ⟨W.heap.size,0,none⟩)]).alloc (.map #[] 0)).alloc (.cells #[.map (some (W.heap.size+1+1))] 133)).alloc (.cells #[.func (.func 104) #[] #[.pointer (some ⟨W.heap.size+3,0,none⟩),.pointer (some ⟨PA,0,none⟩),.pointer (some ⟨PB,0,none⟩),.pointer (some ⟨PD,0,none⟩),.pointer (some ⟨W.heap.size+1,0,none⟩),.pointer (some ⟨W.heap.size+4,0,none⟩)]] 134);have h3:=(Blk.new (((W.alloc (.cells #[.slice none 0 0,.map none] 132)).alloc (.cells #[.pointer (some ⟨W.heap.size,0,none⟩)] 127)).alloc (.map #[] 0)) 133 #[.map (some (W.heap.size+1+1))]).alloc (.cells #[.func (.func 104) #[] #[.pointer (some ⟨W.heap.size+3,0,none⟩),.pointer (some ⟨PA,0,none⟩),.pointer (some ⟨PB,0,none⟩),.pointer (some ⟨PD,0,none⟩),.pointer (some ⟨W.heap.size+1,0,none⟩),.pointer (some ⟨W.heap.size+4,0,none⟩)]] 134);have h4:=Blk.new ((((W.alloc (.cells #[.slice none 0 0,.map none] 132)).alloc (.cells #[.pointer (some ⟨W.heap.size,0,none⟩)] 127)).alloc (.map #[] 0)).alloc (.cells #[.map (some (W.heap.size+1+1))] 133)) 134 #[.func (.func 104) #[] #[.pointer (some ⟨W.heap.size+3,0,none⟩),.pointer (some ⟨PA,0,none⟩),.pointer (some ⟨PB,0,none⟩),.pointer (some ⟨PD,0,none⟩),.pointer (some ⟨W.heap.size+1,0,none⟩),.pointer (some ⟨W.heap.size+4,0,none⟩)]]
 have h2:((((((W.alloc (.cells #[.slice none 0 0,.map none] 132)).alloc (.cells #[.pointer (some ⟨W.heap.size,0,none⟩)] 127)).alloc (.map #[] 0)).alloc (.cells #[.map (some (W.heap.size+1+1))] 133)).alloc (.cells #[.func (.func 104) #[] #[.pointer (some ⟨W.heap.size+3,0,none⟩),.pointer (some ⟨PA,0,none⟩),.pointer (some ⟨PB,0,none⟩),.pointer (some ⟨PD,0,none⟩),.pointer (some ⟨W.heap.size+1,0,none⟩),.pointer (some ⟨W.heap.size+4,0,none⟩)]] 134))).heap[W.heap.size+2]? =some (.map #[] 0):=by
  have q:=World.alloc_heap_new ((W.alloc (.cells #[.slice none 0 0,.map none] 132)).alloc (.cells #[.pointer (some ⟨W.heap.size,0,none⟩)] 127)) (.map #[] 0);simp only[World.size_alloc]at q;rw[Below.heap_alloc _ _ _ (by simp),Below.heap_alloc _ _ _ (by simp)];exact q
 simp only[World.size_alloc]at h1 h3 h4;refine⟨_,rfl,⟨h1,h3,h4,hpa.below b1,hpb.below b1,hpd.below b1,hpa.lt,hpb.lt,hpd.lt,SlIn.below DnR.kept b1 ga,SlIn.below DnR.kept b1 gb,SlIn.below FaR.kept b1 hd,hT.on b1,by simp⟩,⟨MkS.refl _ _ _,⟨Nat.le_refl _,⟨.slice none 0 0,none,[],h0,World.ownsRow_nil _ _ _ _,rfl,by simp,.inl ⟨rfl,rfl⟩⟩,by simp⟩,?_,[],⟨#[],0,h2,rfl⟩,fun k=>rfl⟩,b1,by simp⟩;rw[h0.cell 1];simp
attribute [local go_sem] run_store_func2
theorem andX_any {ta tb:List Dn}{d:List Fa}{w:World}{va vb u:Value}(ha:DgIn w w.heap.size ta va)(hb:DgIn w w.heap.size tb vb)(hd:DomIn w w.heap.size d u)(hT:TabH w.heap.size w)(h64:∀n∈ta,Dn64 n)(h64':∀n∈tb,Dn64 n):
  Calls Tryz.prog 69 #[va,vb,u] w fun e w'=>∃(x:Option Addr) (k:Nat),e=.returned (.tuple #[.agg #[.slice x (andX d ta tb).1.length k],.int .i64 (andX d ta tb).2])/\ DgIn w' w'.heap.size (andX d ta tb).1 (.agg #[.slice x (andX d ta tb).1.length k])/\ Below w.heap.size w w':=by
 by_cases hv:validG d ta=true/\ validG d tb=true
 ·obtain⟨hva,hvb⟩:=hv
  have gA:=valid_iff.1 hva;have gB:=valid_iff.1 hvb;have hX:=rootX gA gB;have hdl:=(dom_ok gA.dom).len;obtain⟨R,hR⟩:∃R,andX d ta tb=R:=⟨_,rfl⟩;rw[hR];have hR2:R=if 20000<(rootJ d ta tb).1.1.length then([],2)else(tableJ d ta tb,0):=by rw[<-hR];unfold andX;rw[if_pos ⟨hva,hvb⟩]
  have HR:=Lib.hid hR2;have HX:=Lib.hid hX;have HGA:=Lib.hid gA;have HGB:=Lib.hid gB;clear hR hR2 hX gA gB;have ha1:=ha;have hb1:=hb;have hd1:=hd;obtain⟨_,rfl,h1⟩:=ha;obtain⟨_,rfl,h2⟩:=hb;obtain⟨_,rfl,h3⟩:=hd;obtain⟨aa,ca,rfl,_⟩:=SlIn.shape h1;obtain⟨ab,cb,rfl,_⟩:=SlIn.shape h2;obtain⟨ad,cd,rfl,_⟩:=SlIn.shape h3;obtain⟨HE,HA,HB,HD,HK⟩:=and_start ha1 hb1 hd1 hT;clear ha1 hb1 hd1 h1 h2 h3 hT;obtain⟨W,hW⟩:∃W,((((w.alloc (.cells #[.slice aa ta.length ca] 75)).alloc (.cells #[.slice ab tb.length cb] 75)).alloc (.cells #[.slice ad d.length cd] 25)).alloc (.cells #[.slice none 0 0] 75))=W:=⟨_,rfl⟩;rw[hW]at HE HA HB HD HK;have HW:=Lib.hid hW;clear hW;have HB0:Hid (Below W.heap.size W W):=Below.refl _ _
  have HCL:Hid (∀w',Hid (Below W.heap.size W w')->w'.cell? ⟨w.heap.size,0,none⟩=some (.slice aa ta.length ca)/\ w'.cell? ⟨w.heap.size+1,0,none⟩=some (.slice ab tb.length cb)/\ w'.cell? ⟨w.heap.size+1+1,0,none⟩=some (.slice ad d.length cd)):=fun w' hb=>
   ⟨(HA.out.box.below hb.out).cell 0,(HB.out.box.below hb.out).cell 0,(HD.out.box.below hb.out).cell 0⟩
  have HVA:=Lib.hid (fun w' (hb:Hid (Below W.heap.size W w'))=>lw_valid HE HA HD h64 hb);have HVB:=Lib.hid (fun w' (hb:Hid (Below W.heap.size W w'))=>lw_valid HE HB HD h64' hb);obtain⟨x0,y0,z0⟩:=HCL.out W HB0;rw[hva]at HVA;rw[hvb]at HVB;have hmm:=@run_makeMap Tryz.prog;clear h64 h64' hva hvb;go_enter Tryz.func69,Tryz.ntmps69;go_upto_region 1 with(fail);rw[HW.out];go_upto_region 3 with(first | (go_at_call_of 71 aa;refine(HVA.out _ HB0).mono ?_;rintro e w1 ⟨rfl,HB1⟩;(clear x0 y0 z0;obtain⟨x0,y0,z0⟩:=HCL.out _ (by assumption))) | (go_at_call_of 71 ab;refine(HVB.out _ HB1).mono ?_;rintro e w2 ⟨rfl,HB2⟩;(clear x0 y0 z0;obtain⟨x0,y0,z0⟩:=HCL.out _ (by assumption))));have HE2:=Lib.hid (HE.out.step HB2.out);have HA2:=Lib.hid (HA.out.step HB2.out);have HBB2:=Lib.hid (HB.out.step HB2.out);have HD2:=Lib.hid (HD.out.step HB2.out);have HK2:=Lib.hid (HK.out.below HB2.out);have hwz:w.heap.size+1+1+1<w2.heap.size:=HK2.out.lt;clear HVA HVB HB0 HB1 HB2 HCL x0 y0 z0 HE HA HB HD HK HW;obtain⟨_,ea,hga⟩:=HA2.out.dg;cases ea
  obtain⟨_,eb,hgb⟩:=HBB2.out.dg;cases eb
  obtain⟨_,ed,hgd⟩:=HD2.out.dom;cases ed
  obtain⟨w0,hw0,hE,hst0,hb0,hs0⟩:=env_and w2 w.heap.size (w.heap.size+1) (w.heap.size+1+1) d ta tb _ _ _ HA2.out.box HBB2.out.box HD2.out.box hga hgb hgd HE2.out.tab;have HW0:=Lib.hid hw0;have HEV:=Lib.hid hE;have HST0:=Lib.hid hst0;have HB0:=Lib.hid hb0
  have HBO:Hid (Calls Tryz.prog 104 #[.int .i64 0,.int .i64 0,.pointer (some ⟨w2.heap.size+3,0,none⟩),.pointer (some ⟨w.heap.size,0,none⟩),.pointer (some ⟨w.heap.size+1,0,none⟩),.pointer (some ⟨w.heap.size+1+1,0,none⟩),.pointer (some ⟨w2.heap.size+1,0,none⟩),.pointer (some ⟨w2.heap.size+4,0,none⟩)] w0 fun e w8=>e=.returned (.int .i64 ((rootJ d ta tb).2:Nat))/\ Hid (StA w0 w2.heap.size [] (rootJ d ta tb).1.1 (rootJ d ta tb).1.2 w8)):=by
   have q:=both_any hE HGA.out HGB.out (d.length+1) (by omega) [] [] [] 0 0 w0 (by simp) (invX_nil 20000) (by unfold innN;simp) HGA.out.pos HGB.out.pos (by omega) hst0;refine q.mono ?_;rintro e w8 ⟨rfl,h4,_⟩;exact⟨rfl,h4⟩
  have fz:=HEV.out.bv.cell 0;clear hw0 hE hst0 hb0 hga hgb hgd hdl;go_upto_region 7 with(fail);rw[<-HW0.out];go_upto_region 8 with(go_at_call 104;refine HBO.out.mono ?_;rintro e w8 ⟨rfl,HS8⟩);have hb8:Below w2.heap.size w2 w8:=HB0.out.trans (HS8.out.stp.below (by omega));have hmv8:=(HS8.out.blk HEV.out.mv ⟨by decide,by decide⟩).cell 0;obtain⟨_,⟨mv,mo,xs,g1,g2,g3,_⟩,_⟩:=HS8.out.is;obtain⟨ma,mc,hmvs⟩:=own_len g2;have hxl:xs.length=(rootJ d ta tb).1.1.length:=by rw[<-g3,List.length_map]
  subst hmvs;have hmk:=g1.cell 0;rw[hxl]at hmk;have HY8:=Lib.hid (HK2.out.below hb8);have HB8:=Lib.hid (HE2.out.low.trans (hb8.mono HE2.out.low.size));have y8:=HY8.out.cell 0;have f8:=HY8.out.frozen 0
  have hml:(rootJ d ta tb).1.1.length<=30000:=by
   have q1:=innN_len HX.out.inv.made;have q2:=HX.out.few;have q3:innN ([]:List Dn)=0:=rfl;have q4:=(dom_ok HGA.out.dom).len;rw[q3]at q2;omega
  clear g1 g2 g3 hxl fz HBO hb8;by_cases hlim:20000<(rootJ d ta tb).1.1.length
  ·have HR2:=HR.out
   rw[if_pos hlim]at HR2;have HR3:=Lib.hid HR2;have hdd:decide ((20000:Int)<((rootJ d ta tb).1.1.length:Int))=true:=by simp;omega
   clear HR2 HR;go_wp2;have hcs:=(HY8.out.set 0 (.slice none 0 0)).cell 0;refine bodyPost_ret (by simp[results,Tryz.results69,go_sem,hcs];try rfl) rfl ?_;rw[HR3.out];exact⟨none,0,rfl,DgIn.nil _ _,HB8.out.setCell (p:=⟨w.heap.size+1+1+1,0,none⟩) (by show w.heap.size<=w.heap.size+1+1+1;omega) _⟩
  ·have HR2:=HR.out
   rw[if_neg hlim]at HR2;have HR3:=Lib.hid HR2;have hdd:decide ((20000:Int)<((rootJ d ta tb).1.1.length:Int))=false:=by simp;omega
   have HFR:Hid (Calls Tryz.prog 111 #[.pointer (some ⟨w2.heap.size,0,none⟩),.int .i64 ((rootJ d ta tb).2:Nat)] w8 fun e W'=>∃(au:Option Addr) (cu:Nat),e=.returned (.tuple #[.agg #[.slice au (tableJ d ta tb).length cu],.int .i64 0])/\ Hid (DgIn W' W'.heap.size (tableJ d ta tb) (.agg #[.slice au (tableJ d ta tb).length cu]))/\ Hid (Below w8.heap.size w8 W')):=by
    have q:=from_any (rootJ d ta tb).1.1 w2.heap.size w2.heap.size [] (rootJ d ta tb).2 w8 HS8.out.is HX.out.inv.made.table HX.out.lt (by omega) (fun n hn=>by have:=(table_few (dom_ok HGA.out.dom) HX.out.inv.made.table n hn).1;omega);refine q.mono ?_;rintro e W' ⟨_,rfl,⟨u,rfl,h1⟩,h2⟩;obtain⟨au,cu,rfl,_⟩:=SlIn.shape h1;exact⟨au,cu,rfl,⟨_,rfl,h1⟩,h2⟩
   clear HR2 HR;go_wp2_with (go_at_call 111;refine HFR.out.mono ?_;rintro e w9 ⟨au,cu,rfl,HU9,HB9⟩;clear y8 f8;have c9:=(HY8.out.below HB9.out).cell 0;have z9:=(HY8.out.below HB9.out).frozen 0;have HY9:=Lib.hid (HY8.out.below HB9.out));have hcs:=(HY9.out.set 0 (.slice au (tableJ d ta tb).length cu)).cell 0;refine bodyPost_ret (by simp[results,Tryz.results69,go_sem,hcs];try rfl) rfl ?_;have hs9:=HB9.out.size;have hs8:=HB8.out.size;rw[HR3.out];refine⟨au,cu,rfl,?_,(HB8.out.trans (HB9.out.mono hs8)).setCell (p:=⟨w.heap.size+1+1+1,0,none⟩) (by show w.heap.size<=w.heap.size+1+1+1;omega) _⟩;rw[World.size_setCell];exact HU9.out.set HY9.out _
 ·have hno:(validG d ta&& validG d tb)=false:=by
   cases h1:validG d ta<;>cases h2:validG d tb<;>simp_all
  have e:andX d ta tb=([],1):=by unfold andX;rw[if_neg hv]
  rw[e];refine(andR_any ha hb hd hT h64 h64' hno).mono ?_;rintro e w' ⟨rfl,hb⟩;exact⟨none,0,rfl,DgIn.nil _ _,hb⟩
end
end Go.Proofs.YtihniipjfdenbaaGreatDoor
