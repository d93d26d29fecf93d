/- The walks of pandectref11.Equal and Same, of pandectref06.Equal and Less. No conditions. -/
import Derived.Test.YtejbgoigkefnfaaGreatDoorAl
import Derived.Test.YtejbgoigkefnfaaGreatDoorDgEP
set_option maxRecDepth 100000
set_option maxHeartbeats 4000000
namespace Go.Proofs.YtejbgoigkefnfaaGreatDoor
open Go.RowKit
theorem iP {α:Type}{a b:List α}(h:a.length≠b.length):a≠b:=fun e=>h (by rw[e])
theorem Up (n m:Dn)(vc vk CM aL:Value)(w:World)(B:Nat)(hB:B<=w.heap.size)(h1:IntsIn w B n.Ja vc)(h2:IntsIn w B n.kids vk)(h3:IntsIn w B m.Ja CM)(h4:IntsIn w B m.kids aL):
  Calls Tryz.prog 77 #[.agg #[.int .i64 n.fact,vc,vk,.bool n.leaf],.agg #[.int .i64 m.fact,CM,aL,.bool m.leaf]] w fun e w'=>e=.returned (.bool (decide (n=m)))/\ Below w.heap.size w w':=by
 have H1:=da h1;have H2:=da h2;have H3:=da h3;have H4:=da h4;obtain⟨ac,cc,rfl,l1,l2,_⟩:=Xa.shape h1;obtain⟨ak,ck,rfl,l3,l4,_⟩:=Xa.shape h2;obtain⟨ac2,cc2,rfl,l5,l6,_⟩:=Xa.shape h3;obtain⟨ak2,ck2,rfl,l7,l8,_⟩:=Xa.shape h4;unfold maxLen at l2 l4 l6 l8;have hR:=AU n m;obtain⟨R,jA⟩:∃R,decide (n=m)=R:=⟨_,rfl⟩;rw[jA]at hR⊢;have ud:Below w.heap.size w ((w.alloc (.cells #[.int .i64 n.fact,.slice ac n.Ja.length cc,.slice ak n.kids.length ck,.bool n.leaf] 56)).alloc (.cells #[.int .i64 m.fact,.slice ac2 m.Ja.length cc2,.slice ak2 m.kids.length ck2,.bool m.leaf] 56)):=((za _ _).alloc (ja _) _).alloc la _;have K0:Bb ((w.alloc (.cells #[.int .i64 n.fact,.slice ac n.Ja.length cc,.slice ak n.kids.length ck,.bool n.leaf] 56)).alloc (.cells #[.int .i64 m.fact,.slice ac2 m.Ja.length cc2,.slice ak2 m.kids.length ck2,.bool m.leaf] 56)) w.heap.size 56 #[.int .i64 n.fact,.slice ac n.Ja.length cc,.slice ak n.kids.length ck,.bool n.leaf]:=(Bb.new w 56 #[.int .i64 n.fact,.slice ac n.Ja.length cc,.slice ak n.kids.length ck,.bool n.leaf]).alloc _
 have K1:Bb ((w.alloc (.cells #[.int .i64 n.fact,.slice ac n.Ja.length cc,.slice ak n.kids.length ck,.bool n.leaf] 56)).alloc (.cells #[.int .i64 m.fact,.slice ac2 m.Ja.length cc2,.slice ak2 m.kids.length ck2,.bool m.leaf] 56)) (w.heap.size+1) 56 #[.int .i64 m.fact,.slice ac2 m.Ja.length cc2,.slice ak2 m.kids.length ck2,.bool m.leaf]:=by{have q:=Bb.new (w.alloc (.cells #[.int .i64 n.fact,.slice ac n.Ja.length cc,.slice ak n.kids.length ck,.bool n.leaf] 56)) 56 #[.int .i64 m.fact,.slice ac2 m.Ja.length cc2,.slice ak2 m.kids.length ck2,.bool m.leaf];simpa only[Ba]using q}
 have qm:(((w.alloc (.cells #[.int .i64 n.fact,.slice ac n.Ja.length cc,.slice ak n.kids.length ck,.bool n.leaf] 56)).alloc (.cells #[.int .i64 m.fact,.slice ac2 m.Ja.length cc2,.slice ak2 m.kids.length ck2,.bool m.leaf] 56))).heap.size=w.heap.size+2:=by simp
 obtain⟨W,hW⟩:∃W,((w.alloc (.cells #[.int .i64 n.fact,.slice ac n.Ja.length cc,.slice ak n.kids.length ck,.bool n.leaf] 56)).alloc (.cells #[.int .i64 m.fact,.slice ac2 m.Ja.length cc2,.slice ak2 m.kids.length ck2,.bool m.leaf] 56))=W:=⟨_,rfl⟩;rw[hW]at ud K0 K1 qm;have HW:=da hW;have Vd:=da ud;have Be:=da K0;have Gf:=da K1;have x0:=K0.cell 0;have x1:=K0.cell 1;have x2:=K0.cell 2;have x3:=K0.cell 3;have y0:=K1.cell 0;have y1:=K1.cell 1;have y2:=K1.cell 2;have y3:=K1.cell 3;have HR:=da hR;clear h1 h2 h3 h4 hR jA hW ud K0 K1;cases e1:(n.fact !=m.fact)with
 | true=>{have HS:=da (show R=false by rw[HR.out,show(n.fact==m.fact)=false by simpa using e1];rfl);go_enter Tryz.func77,Tryz.ntmps77;go_upto_region 1 with(fail);rw[HW.out];go_wp2;go_ret;exact⟨Oa HS.out.symm,Vd.out⟩}
 | false=>
  have V3:(n.fact==m.fact)=true:=by simpa using e1
  cases e2:(n.leaf==m.leaf)with
  | false=>{have HS:=da (show R=false by rw[HR.out,e2];simp);clear V3;go_enter Tryz.func77,Tryz.ntmps77;go_upto_region 1 with(fail);rw[HW.out];go_wp2;go_ret;exact⟨Oa HS.out.symm,Vd.out⟩}
  | true=>
   cases e3:((n.Ja.length:Int) !=(m.Ja.length:Int))with
   | true=>{have hne:n.Ja≠m.Ja:=iP (fun e=>by rw[e]at e3;simp at e3);have HS:=da (show R=false by rw[HR.out,Ia hne];simp);clear V3 hne;go_enter Tryz.func77,Tryz.ntmps77;go_upto_region 1 with(fail);rw[HW.out];go_wp2;go_ret;exact⟨Oa HS.out.symm,Vd.out⟩}
   | false=>
    have jP:Hid (n.Ja.length=m.Ja.length):=by{(have:(n.Ja.length:Int)=(m.Ja.length:Int):=by simpa using e3);show _=_;omega}
    cases e4:((n.kids.length:Int) !=(m.kids.length:Int))with
    | true=>{have hne:n.kids≠m.kids:=iP (fun e=>by rw[e]at e4;simp at e4);have HS:=da (show R=false by rw[HR.out,Ia hne];simp);clear V3 hne;go_enter Tryz.func77,Tryz.ntmps77;go_upto_region 1 with(fail);rw[HW.out];go_wp2;go_ret;exact⟨Oa HS.out.symm,Vd.out⟩}
    | false=>
     have hlk:Hid (n.kids.length=m.kids.length):=by{(have:(n.kids.length:Int)=(m.kids.length:Int):=by simpa using e4);show _=_;omega}
     have HS:Hid (R=(decide (n.Ja.drop 0=m.Ja.drop 0)&& decide (n.kids=m.kids))):=by show _=_;rw[HR.out,V3,e2];rfl
     clear V3 HR;go_enter Tryz.func77,Tryz.ntmps77;go_upto_region 1 with(fail);rw[HW.out];go_wp2
     go_loopw [5] (fun iv wr=>∃k:Nat,k<=n.Ja.length/\ iv=.int .i64 k/\ Hid (R=(decide (n.Ja.drop k=m.Ja.drop k)&& decide (n.kids=m.kids)))/\ Hid (Below W.heap.size W wr)) (fun iv _=>n.Ja.length-(intOf iv).toNat)
     case atStart=>exact⟨0,ia,rfl,HS,za _ _⟩
     case round=>
      obtain⟨k,hk,rfl,Nr,hb⟩:=hrel;clear HS x0 x1 x2 x3 y0 y1 y2 y3;have hs:=hb.out.size;have zj:=da (Vd.out.trans (hb.out.mono ia));have x1:=(Be.out.below hb.out).cell 1;have x2:=(Be.out.below hb.out).cell 2;have y1:=(Gf.out.below hb.out).cell 1;have y2:=(Gf.out.below hb.out).cell 2;by_cases hlt:k<n.Ja.length
      {(have hlt2:k<m.Ja.length:=by have:=jP.out;omega);obtain⟨b,o,rfl,Rj,hc⟩:=Xa.one H1.out k hlt;obtain⟨b',o',rfl,RN,hc'⟩:=Xa.one H3.out k hlt2;have q1:=(zj.out.cell (p:=⟨b,o+k,none⟩) (by show b<w.heap.size;omega)).trans hc;have q2:=(zj.out.cell (p:=⟨b',o'+k,none⟩) (by show b'<w.heap.size;omega)).trans hc';have Ri:=Nr.out;rw[Mr n.Ja m.Ja k hlt hlt2]at Ri;clear hc hc' Nr;generalize n.Ja[k]=p at*;generalize m.Ja[k]=q at*;cases e:(p !=q)with| true=>{have HS:=da (show R=false by rw[Ri,Ia (by simpa using e)];rfl);clear Ri;go_wp2;go_quiet(fail);go_wp2;go_ret;exact⟨Oa HS.out.symm,zj.out.trans (World.Za _ _ _)⟩}| false=>{(have HS:Hid (R=(decide (n.Ja.drop (k+1)=m.Ja.drop (k+1))&& decide (n.kids=m.kids))):=by show _=_;rw[Ri,Ma (by simpa using e)];rfl);clear Ri;go_wp2;go_quiet(fail);go_wp2;go_roundw;(case rel=>exact⟨k+1,ia,by go_num,HS,hb.out.trans (World.Za _ _ _)⟩);case measure=>simp[intOf];omega}}
      ·have Lr:Hid (R=decide (n.kids.drop 0=m.kids.drop 0)):=by
        show _=_
        have h:=Nr.out;rw[Ta ia,Ta (by have:=jP.out;omega)]at h
        simpa using h
       clear Nr;go_wp2
       go_loopw [6] (fun iv wq=>∃k:Nat,k<=n.kids.length/\ iv=.int .i64 k/\ Hid (R=decide (n.kids.drop k=m.kids.drop k))/\ Hid (Below W.heap.size W wq)) (fun iv _=>n.kids.length-(intOf iv).toNat)
       case atStart=>exact⟨0,ia,rfl,Lr,hb⟩
       case round=>
        rename World=>wq
        obtain⟨k,hk,rfl,Nr,hb⟩:=hrel;clear Lr x1 x2 y1 y2 zj;have hs:=hb.out.size;have zj:=da (Vd.out.trans (hb.out.mono ia));have x2:=(Be.out.below hb.out).cell 2;have y2:=(Gf.out.below hb.out).cell 2;by_cases hlt:k<n.kids.length
        {(have hlt2:k<m.kids.length:=by have:=hlk.out;omega);obtain⟨b,o,rfl,Rj,hc⟩:=Xa.one H2.out k hlt;obtain⟨b',o',rfl,RN,hc'⟩:=Xa.one H4.out k hlt2;have q1:=(zj.out.cell (p:=⟨b,o+k,none⟩) (by show b<w.heap.size;omega)).trans hc;have q2:=(zj.out.cell (p:=⟨b',o'+k,none⟩) (by show b'<w.heap.size;omega)).trans hc';have Ri:=Nr.out;rw[Mr n.kids m.kids k hlt hlt2]at Ri;clear hc hc' Nr;generalize n.kids[k]=p at*;generalize m.kids[k]=q at*;cases e:(p !=q)with| true=>{have HS:=da (show R=false by rw[Ri,Ia (by simpa using e)];rfl);clear Ri;go_wp2;go_quiet(fail);go_wp2;go_ret;exact⟨Oa HS.out.symm,zj.out.trans (World.Za _ _ _)⟩}| false=>{(have HS:Hid (R=decide (n.kids.drop (k+1)=m.kids.drop (k+1))):=by show _=_;rw[Ri,Ma (by simpa using e)];rfl);clear Ri;go_wp2;go_quiet(fail);go_wp2;go_roundw;(case rel=>exact⟨k+1,ia,by go_num,HS,hb.out.trans (World.Za _ _ _)⟩);case measure=>simp[intOf];omega}}
        ·have HS:=da (show R=true by
          have h:=Nr.out
          rw[Ta ia,Ta (by have:=hlk.out;omega)]at h
          simpa using h)
         clear Nr;go_wp2;go_ret;exact⟨Oa HS.out.symm,zj.out⟩
theorem Sq (x y:List Dn)(v u:Value)(w:World)(B:Nat)(hB:B<=w.heap.size)(hx:oe w B x v)(hy:oe w B y u):
  Calls Tryz.prog 27 #[v,u] w fun e w'=>e=.returned (.bool (decide (x=y)))/\ Below w.heap.size w w':=by
 obtain⟨_,rfl,hx⟩:=hx;obtain⟨_,rfl,hy⟩:=hy;have HX:=da hx;have HY:=da hy;obtain⟨a1,c1,rfl,l1,l2,_⟩:=Xa.shape hx;obtain⟨a2,c2,rfl,l3,l4,_⟩:=Xa.shape hy;unfold maxLen at l2 l4;have ud:Below w.heap.size w ((w.alloc (.cells #[.slice a1 x.length c1] 34)).alloc (.cells #[.slice a2 y.length c2] 34)):=((za _ _).alloc (ja _) _).alloc la _;have K0:Bb ((w.alloc (.cells #[.slice a1 x.length c1] 34)).alloc (.cells #[.slice a2 y.length c2] 34)) w.heap.size 34 #[.slice a1 x.length c1]:=(Bb.new w 34 #[.slice a1 x.length c1]).alloc _
 have K1:Bb ((w.alloc (.cells #[.slice a1 x.length c1] 34)).alloc (.cells #[.slice a2 y.length c2] 34)) (w.heap.size+1) 34 #[.slice a2 y.length c2]:=by{have q:=Bb.new (w.alloc (.cells #[.slice a1 x.length c1] 34)) 34 #[.slice a2 y.length c2];simpa only[Ba]using q}
 have qm:(((w.alloc (.cells #[.slice a1 x.length c1] 34)).alloc (.cells #[.slice a2 y.length c2] 34))).heap.size=w.heap.size+2:=by simp
 obtain⟨W,hW⟩:∃W,((w.alloc (.cells #[.slice a1 x.length c1] 34)).alloc (.cells #[.slice a2 y.length c2] 34))=W:=⟨_,rfl⟩;rw[hW]at ud K0 K1 qm;have HW:=da hW;have Vd:=da ud;have Be:=da K0;have Gf:=da K1;have x0:=K0.cell 0;have y0:=K1.cell 0;obtain⟨R,hR⟩:∃R,decide (x=y)=R:=⟨_,rfl⟩;rw[hR];clear hx hy hW ud K0 K1;by_cases hl:x.length=y.length
 ·have e1:((x.length:Int) !=(y.length:Int))=false:=by simp[hl]
  have HL:Hid (x.length=y.length):=hl;have HS:Hid (R=decide (x.drop 0=y.drop 0)):=hR.symm;clear hl hR;go_enter Tryz.func27,Tryz.ntmps27;go_upto_region 1 with(fail);rw[HW.out];go_wp2
  go_loopw [5] (fun iv wr=>∃k:Nat,k<=x.length/\ iv=.int .i64 k/\ Hid (R=decide (x.drop k=y.drop k))/\ Hid (Below W.heap.size W wr)) (fun iv _=>x.length-(intOf iv).toNat)
  case atStart=>exact⟨0,ia,rfl,HS,za _ _⟩
  case round=>
   obtain⟨k,hk,rfl,Nr,hb⟩:=hrel;clear HS x0 y0;have hsz:=hb.out.size;have x0:=(Be.out.below hb.out).cell 0;have y0:=(Gf.out.below hb.out).cell 0;by_cases hlt:k<x.length
   ·have hlt2:k<y.length:=by have:=HL.out;omega
    obtain⟨b,o,rfl,Rj,vc,vk,n0,n1,n2,n3,Jj,hki⟩:=HX.out.at k hlt;obtain⟨b',o',rfl,RN,CM,aL,m0,m1,m2,m3,Mw,Nw⟩:=HY.out.at k hlt2;have Ri:=Nr.out;rw[Mr x y k hlt hlt2]at Ri;have ik:=da Ri;have HC:=da (fun W' (JO:Hid (Below W.heap.size W W'))=>Up x[k] y[k] vc vk CM aL W' B (by have:=JO.out.size;omega) (IntsIn.below ((Vd.out.trans (JO.out.mono ia)).mono hB) Jj) (IntsIn.below ((Vd.out.trans (JO.out.mono ia)).mono hB) hki) (IntsIn.below ((Vd.out.trans (JO.out.mono ia)).mono hB) Mw) (IntsIn.below ((Vd.out.trans (JO.out.mono ia)).mono hB) Nw));obtain⟨ac,cc,rfl,_⟩:=Xa.shape Jj;obtain⟨ak,ck,rfl,_⟩:=Xa.shape hki;obtain⟨ac2,cc2,rfl,_⟩:=Xa.shape Mw;obtain⟨ak2,ck2,rfl,_⟩:=Xa.shape Nw;clear Jj hki Mw Nw Nr Ri;generalize x[k]=p at*
    generalize y[k]=q at*
    have Uu:Hid (∀w',Hid (Below W.heap.size W w')->(w'.cell? ⟨w.heap.size,0,none⟩=some (.slice (some ⟨b,o,none⟩) x.length c1)/\ w'.cell? ⟨w.heap.size+1,0,none⟩=some (.slice (some ⟨b',o',none⟩) y.length c2)/\ w'.cell? ⟨b,o+k*4,none⟩=some (.int .i64 p.fact)/\ w'.cell? ⟨b,o+k*4+1,none⟩=some (.slice ac p.Ja.length cc)/\ w'.cell? ⟨b,o+k*4+2,none⟩=some (.slice ak p.kids.length ck)/\ w'.cell? ⟨b,o+k*4+3,none⟩=some (.bool p.leaf)/\ w'.cell? ⟨b',o'+k*4,none⟩=some (.int .i64 q.fact)/\ w'.cell? ⟨b',o'+k*4+1,none⟩=some (.slice ac2 q.Ja.length cc2)/\ w'.cell? ⟨b',o'+k*4+2,none⟩=some (.slice ak2 q.kids.length ck2)/\ w'.cell? ⟨b',o'+k*4+3,none⟩=some (.bool q.leaf))/\ Hid (Below W.heap.size W w')):=by
     intro w' hw;have Zd:=Vd.out.trans (hw.out.mono ia)
     exact⟨⟨(Be.out.below hw.out).cell 0,(Gf.out.below hw.out).cell 0,(Zd.cell (p:=⟨b,_,none⟩) (by show b<w.heap.size;omega)).trans n0,(Zd.cell (p:=⟨b,_,none⟩) (by show b<w.heap.size;omega)).trans n1,(Zd.cell (p:=⟨b,_,none⟩) (by show b<w.heap.size;omega)).trans n2,(Zd.cell (p:=⟨b,_,none⟩) (by show b<w.heap.size;omega)).trans n3,
      (Zd.cell (p:=⟨b',_,none⟩) (by show b'<w.heap.size;omega)).trans m0,(Zd.cell (p:=⟨b',_,none⟩) (by show b'<w.heap.size;omega)).trans m1,(Zd.cell (p:=⟨b',_,none⟩) (by show b'<w.heap.size;omega)).trans m2,(Zd.cell (p:=⟨b',_,none⟩) (by show b'<w.heap.size;omega)).trans m3⟩,hw⟩
    have HW0:Hid (Below W.heap.size W wr.drew):=hb.out.trans ((za wr.heap.size wr).drew.mono hsz);clear n0 n1 n2 n3 m0 m1 m2 m3;have Tk:(k:Int)<(x.length:Int):=by omega
    have yq:(k:Int)<(y.length:Int):=by omega
    cases e:decide (p=q)with
    | true=>
     have HS:Hid (R=decide (x.drop (k+1)=y.drop (k+1))):=by show _=_;rw[ik.out,e];rfl
     rw[e]at HC;clear ik e;go_upto_region 6 with(fail)
     go_region_held3 (fun w'=>(w'.cell? ⟨w.heap.size,0,none⟩=some (.slice (some ⟨b,o,none⟩) x.length c1)/\ w'.cell? ⟨w.heap.size+1,0,none⟩=some (.slice (some ⟨b',o',none⟩) y.length c2)/\ w'.cell? ⟨b,o+k*4,none⟩=some (.int .i64 p.fact)/\ w'.cell? ⟨b,o+k*4+1,none⟩=some (.slice ac p.Ja.length cc)/\ w'.cell? ⟨b,o+k*4+2,none⟩=some (.slice ak p.kids.length ck)/\ w'.cell? ⟨b,o+k*4+3,none⟩=some (.bool p.leaf)/\ w'.cell? ⟨b',o'+k*4,none⟩=some (.int .i64 q.fact)/\ w'.cell? ⟨b',o'+k*4+1,none⟩=some (.slice ac2 q.Ja.length cc2)/\ w'.cell? ⟨b',o'+k*4+2,none⟩=some (.slice ak2 q.kids.length ck2)/\ w'.cell? ⟨b',o'+k*4+3,none⟩=some (.bool q.leaf))/\ Hid (Below W.heap.size W w'))
      (exact Uu.out _ Da)
      ((go_at_call 77;refine(HC.out _ Da).mono ?_;rintro e w8 ⟨rfl,Vh⟩;have Cp:Hid (Below W.heap.size W w8):=HW0.out.trans (Vh.mono (by show W.heap.size<=wr.heap.size;omega))))
     go_split_ands;go_wp2;go_roundw
     case rel=>exact⟨k+1,ia,by go_num,HS,Cp⟩
     case measure=>simp[intOf];omega
    | false=>
     have HS:=da (show R=false by rw[ik.out,e];rfl);rw[e]at HC;clear ik e;go_upto_region 6 with(fail)
     go_region_held3 (fun w'=>(w'.cell? ⟨w.heap.size,0,none⟩=some (.slice (some ⟨b,o,none⟩) x.length c1)/\ w'.cell? ⟨w.heap.size+1,0,none⟩=some (.slice (some ⟨b',o',none⟩) y.length c2)/\ w'.cell? ⟨b,o+k*4,none⟩=some (.int .i64 p.fact)/\ w'.cell? ⟨b,o+k*4+1,none⟩=some (.slice ac p.Ja.length cc)/\ w'.cell? ⟨b,o+k*4+2,none⟩=some (.slice ak p.kids.length ck)/\ w'.cell? ⟨b,o+k*4+3,none⟩=some (.bool p.leaf)/\ w'.cell? ⟨b',o'+k*4,none⟩=some (.int .i64 q.fact)/\ w'.cell? ⟨b',o'+k*4+1,none⟩=some (.slice ac2 q.Ja.length cc2)/\ w'.cell? ⟨b',o'+k*4+2,none⟩=some (.slice ak2 q.kids.length ck2)/\ w'.cell? ⟨b',o'+k*4+3,none⟩=some (.bool q.leaf))/\ Hid (Below W.heap.size W w'))
      (exact Uu.out _ Da)
      ((go_at_call 77;refine(HC.out _ Da).mono ?_;rintro e w8 ⟨rfl,Vh⟩;have Cp:Hid (Below W.heap.size W w8):=HW0.out.trans (Vh.mono (by show W.heap.size<=wr.heap.size;omega))))
     go_split_ands;go_wp2;go_ret;exact⟨Oa HS.out.symm,Vd.out.trans (Cp.out.mono ia)⟩
   ·have HS:=da (show R=true by
     have h:=Nr.out
     rw[Ta ia,Ta (by have:=HL.out;omega)]at h
     simpa using h)
    clear Nr;go_wp2;go_ret;exact⟨Oa HS.out.symm,Vd.out.trans (hb.out.mono ia)⟩
 {(have e1:((x.length:Int) !=(y.length:Int))=true:=by rw[bne_iff_ne];omega);have HS:=da (show R=false by rw[<-hR];exact Ia fun e=>hl (by rw[e]));clear hl hR;go_enter Tryz.func27,Tryz.ntmps27;go_upto_region 1 with(fail);rw[HW.out];go_wp2;go_ret;exact⟨Oa HS.out.symm,Vd.out⟩}
theorem Hy (x y:List Int)(v u:Value)(w:World)(B:Nat)(hB:B<=w.heap.size)(hx:IntsIn w B x v)(hy:IntsIn w B y u):
  Calls Tryz.prog 28 #[v,u] w fun e w'=>e=.returned (.bool (decide (x=y)))/\ Below w.heap.size w w':=by
 have HX:=da hx;have HY:=da hy;obtain⟨a1,c1,rfl,l1,l2,_⟩:=Xa.shape hx;obtain⟨a2,c2,rfl,l3,l4,_⟩:=Xa.shape hy;unfold maxLen at l2 l4;obtain⟨R,hR⟩:∃R,decide (x=y)=R:=⟨_,rfl⟩;rw[hR];clear hx hy;by_cases hl:x.length=y.length
 ·have e1:((x.length:Int) !=(y.length:Int))=false:=by simp[hl]
  have HL:Hid (x.length=y.length):=hl;have HS:Hid (R=decide (x.drop 0=y.drop 0)):=hR.symm;clear hl hR;go_enter Tryz.func28,Tryz.ntmps28;go_wp2
  go_loopw [5] (fun iv wr=>∃k:Nat,k<=x.length/\ iv=.int .i64 k/\ Hid (R=decide (x.drop k=y.drop k))/\ Hid (Below w.heap.size w wr)) (fun iv _=>x.length-(intOf iv).toNat)
  case atStart=>exact⟨0,ia,rfl,HS,za _ _⟩
  case round=>
   obtain⟨k,hk,rfl,Nr,hb⟩:=hrel;clear HS;by_cases hlt:k<x.length
   {(have hlt2:k<y.length:=by have:=HL.out;omega);obtain⟨b,o,rfl,Rj,hc⟩:=Xa.one HX.out k hlt;obtain⟨b',o',rfl,RN,hc'⟩:=Xa.one HY.out k hlt2;have q1:=(hb.out.cell (p:=⟨b,o+k,none⟩) (by show b<w.heap.size;omega)).trans hc;have q2:=(hb.out.cell (p:=⟨b',o'+k,none⟩) (by show b'<w.heap.size;omega)).trans hc';have Ri:=Nr.out;rw[Mr x y k hlt hlt2]at Ri;clear hc hc' Nr;generalize x[k]=p at*;generalize y[k]=q at*;have hs:=hb.out.size;cases e:(p !=q)with| true=>{have HS:=da (show R=false by rw[Ri,Ia (by simpa using e)];rfl);clear Ri;go_wp2;go_quiet(fail);go_wp2;go_ret;exact⟨Oa HS.out.symm,hb.out.trans (World.Za _ _ _)⟩}| false=>{(have HS:Hid (R=decide (x.drop (k+1)=y.drop (k+1))):=by show _=_;rw[Ri,Ma (by simpa using e)];rfl);clear Ri;go_wp2;go_quiet(fail);go_wp2;go_roundw;(case rel=>exact⟨k+1,ia,by go_num,HS,hb.out.trans (World.Za _ _ _)⟩);case measure=>simp[intOf];omega}}
   ·have HS:=da (show R=true by
     have h:=Nr.out
     rw[Ta ia,Ta (by have:=HL.out;omega)]at h
     simpa using h)
    clear Nr;go_wp2;go_ret;exact⟨Oa HS.out.symm,hb.out⟩
 {(have e1:((x.length:Int) !=(y.length:Int))=true:=by rw[bne_iff_ne];omega);have HS:=da (show R=false by rw[<-hR];exact Ia fun e=>hl (by rw[e]));clear hl hR;go_enter Tryz.func28,Tryz.ntmps28;go_wp2;go_ret;exact⟨Oa HS.out.symm,za _ _⟩}
end Go.Proofs.YtejbgoigkefnfaaGreatDoor
