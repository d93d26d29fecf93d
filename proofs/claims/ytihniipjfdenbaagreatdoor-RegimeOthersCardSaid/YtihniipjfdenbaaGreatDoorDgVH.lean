/- The walk of fact.Least. No conditions. -/
import Derived.Test.YtihniipjfdenbaaGreatDoorDgBN
set_option maxRecDepth 100000
set_option maxHeartbeats 8000000
namespace Go.Proofs.YtihniipjfdenbaaGreatDoor
open Go.RowKit
theorem cutsB_drop (hi last:Int)(l:List Int)(j:Nat)(h:j<l.length):cutsB hi last (l.drop j)=if l[j]<=last\/hi<l[j]then false else cutsB hi l[j] (l.drop (j+1)):=by
 rw[List.drop_eq_getElem_cons h,cutsB]
def prevO (l:List Int)(j:Nat):Option Int:=if j=0 then none else some (l.getD (j-1) 0)
theorem kidsB_drop (t:List Dn)(fact:Int)(p:Option Int)(l:List Int)(j:Nat)(h:j<l.length):kidsB t fact p (l.drop j)=if l[j]<0\/(t.length:Int)<=l[j]\/p=some l[j]\/((t.getD l[j].toNat default).kids≠[]/\ (t.getD l[j].toNat default).fact<=fact)then false else kidsB t fact (some l[j]) (l.drop (j+1)):=by
 rw[List.drop_eq_getElem_cons h,kidsB]
theorem len_zero {α:Type}{l:List α}:(((l.length:Nat):Int)==0)=decide (l=[]):=by cases l<;>simp<;>omega
theorem proper_any (d:List Fa)(t:List Dn)(n:Dn)(vg vc vk u:Value)(w:World)(B:Nat)(hB:B<=w.heap.size)(hg:DgIn w B t vg)(hc:IntsIn w B n.cuts vc)(hk:IntsIn w B n.kids vk)(hd:DomIn w B d u)(hl:n.cuts.length<=1000000):
    Calls Tryz.prog 113 #[vg,.agg #[.int .i64 n.fact,vc,vk,.bool n.leaf],u] w fun e w'=>e=.returned (.bool (properB d t n))/\ Below w.heap.size w w':=by
  obtain⟨fact,cuts,kids,leaf⟩:=n
  dsimp only at hc hk hl⊢
  have HG:=Lib.hid hg;have HD:=Lib.hid hd;have HC:=Lib.hid hc;have HK:=Lib.hid hk;obtain⟨_,rfl,hg2⟩:=hg;obtain⟨_,rfl,hd2⟩:=hd;have HG2:=Lib.hid hg2;have HD2:=Lib.hid hd2;obtain⟨ag,cg,rfl,g1,g2,_⟩:=SlIn.shape hg2;obtain⟨ad,cd,rfl,d1,d2,_⟩:=SlIn.shape hd2;obtain⟨ac,cc,rfl,c1,c2,_⟩:=SlIn.shape hc;obtain⟨ak,ck,rfl,k1,k2,_⟩:=SlIn.shape hk;unfold maxLen at g2 d2 c2 k2;have hl:cuts.length<=1000000:=hl;have hB3:Below w.heap.size w (((w.alloc (.cells #[.slice ag t.length cg] 75)).alloc (.cells #[.int .i64 fact,.slice ac cuts.length cc,.slice ak kids.length ck,.bool leaf] 106)).alloc (.cells #[.slice ad d.length cd] 25)):=(((Below.refl _ _).alloc (Nat.le_refl _) _).alloc (by simp) _).alloc (by simp;omega) _;have K0:Blk (((w.alloc (.cells #[.slice ag t.length cg] 75)).alloc (.cells #[.int .i64 fact,.slice ac cuts.length cc,.slice ak kids.length ck,.bool leaf] 106)).alloc (.cells #[.slice ad d.length cd] 25)) w.heap.size 75 #[.slice ag t.length cg]:=((Blk.new w 75 #[.slice ag t.length cg]).alloc _).alloc _
  have K1:Blk (((w.alloc (.cells #[.slice ag t.length cg] 75)).alloc (.cells #[.int .i64 fact,.slice ac cuts.length cc,.slice ak kids.length ck,.bool leaf] 106)).alloc (.cells #[.slice ad d.length cd] 25)) (w.heap.size+1) 106 #[.int .i64 fact,.slice ac cuts.length cc,.slice ak kids.length ck,.bool leaf]:=by{have q:=(Blk.new (w.alloc (.cells #[.slice ag t.length cg] 75)) 106 #[.int .i64 fact,.slice ac cuts.length cc,.slice ak kids.length ck,.bool leaf]).alloc (.cells #[.slice ad d.length cd] 25);simpa only[World.size_alloc]using q}
  have K2:Blk (((w.alloc (.cells #[.slice ag t.length cg] 75)).alloc (.cells #[.int .i64 fact,.slice ac cuts.length cc,.slice ak kids.length ck,.bool leaf] 106)).alloc (.cells #[.slice ad d.length cd] 25)) (w.heap.size+2) 25 #[.slice ad d.length cd]:=by{have q:=Blk.new ((w.alloc (.cells #[.slice ag t.length cg] 75)).alloc (.cells #[.int .i64 fact,.slice ac cuts.length cc,.slice ak kids.length ck,.bool leaf] 106)) 25 #[.slice ad d.length cd];simpa only[World.size_alloc]using q}
  have hs3:((((w.alloc (.cells #[.slice ag t.length cg] 75)).alloc (.cells #[.int .i64 fact,.slice ac cuts.length cc,.slice ak kids.length ck,.bool leaf] 106)).alloc (.cells #[.slice ad d.length cd] 25))).heap.size=w.heap.size+3:=by simp
  obtain⟨W,hW⟩:∃W,(((w.alloc (.cells #[.slice ag t.length cg] 75)).alloc (.cells #[.int .i64 fact,.slice ac cuts.length cc,.slice ak kids.length ck,.bool leaf] 106)).alloc (.cells #[.slice ad d.length cd] 25))=W:=⟨_,rfl⟩;rw[hW]at hB3 K0 K1 K2 hs3;have HW:=Lib.hid hW;have HB3:=Lib.hid hB3;have HK0:=Lib.hid K0;have HK1:=Lib.hid K1;have HK2:=Lib.hid K2;obtain⟨R,hR⟩:∃R,properB d t ⟨fact,cuts,kids,leaf⟩=R:=⟨_,rfl⟩;rw[hR];have HR:=Lib.hid hR;have x0:=K0.cell 0;have y0:=K1.cell 0;have y1:=K1.cell 1;have y2:=K1.cell 2;have y3:=K1.cell 3;have z0:=K2.cell 0;have hkz:=len_zero (l:=kids);have hcz:=len_zero (l:=cuts);clear hg2 hd2 hc hk hW hB3 K0 K1 K2 hR;go_enter Tryz.func113,Tryz.ntmps113;go_upto_region 1 with(fail);rw[HW.out];by_cases hke:kids=[]
  . have e1:((kids.length:Int)==0)=true:=by rw[hkz];simpa using hke
    have HS:=Lib.hid (show R=(fact==0&& cuts.isEmpty) by rw[<-HR.out];unfold properB;rw[if_pos hke]);clear hkz hke;cases a1:(fact==0)with| false=>{go_wp2;go_ret;exact⟨ret_bool (by rw[HS.out,a1];rfl),HB3.out⟩}| true=>{(have e2:((cuts.length:Int)==0)=cuts.isEmpty:=by rw[hcz];cases cuts<;>simp);clear hcz;go_wp2;go_ret;exact⟨ret_bool (by rw[HS.out,a1];rfl),HB3.out⟩}
  . have e1:((kids.length:Int)==0)=false:=by rw[hkz];simpa using hke
    have hR2:R=if leaf=true\/fact<0\/(d.length:Int)<=fact\/cuts=[]\/kids.length≠cuts.length+1 then false else cutsB (fhi d fact.toNat) (flo d fact.toNat) cuts&& kidsB t fact none kids:=by{rw[<-HR.out];unfold properB;rw[if_neg hke]}
    have HR2:=Lib.hid hR2;clear hkz hR2;have hfalse:(leaf=true\/fact<0\/(d.length:Int)<=fact\/cuts=[]\/kids.length≠cuts.length+1)->R=false:=fun h=>by rw[HR2.out,if_pos h]
    cases a1:leaf with
    | true=>{have HS:=Lib.hid (hfalse (.inl a1));clear hfalse hke hcz;subst a1;go_wp2;go_ret;exact⟨ret_bool HS.out.symm,HB3.out⟩}
    | false=>
      subst a1;cases a2:decide (fact<0)with
      | true=>{have HS:=Lib.hid (hfalse (.inr (.inl (by simpa using a2))));clear hfalse hke hcz;go_wp2;go_ret;exact⟨ret_bool HS.out.symm,HB3.out⟩}
      | false=>
        cases a3:decide ((d.length:Int)<=fact)with
        | true=>{have HS:=Lib.hid (hfalse (.inr (.inr (.inl (by simpa using a3)))));clear hfalse hke hcz;go_wp2;go_ret;exact⟨ret_bool HS.out.symm,HB3.out⟩}
        | false=>
          cases a4:((cuts.length:Int)==0)with
          | true=>{have HS:=Lib.hid (hfalse (.inr (.inr (.inr (.inl (by rw[hcz]at a4;simpa using a4))))));clear hfalse hke hcz;go_wp2;go_ret;exact⟨ret_bool HS.out.symm,HB3.out⟩}
          | false=>
            cases a5:((kids.length:Int) !=(cuts.length:Int)+1)with
            | true=>{have hne5:kids.length≠cuts.length+1:=by{(have:(kids.length:Int)≠(cuts.length:Int)+1:=by simpa using a5);omega};have HS:=Lib.hid (hfalse (.inr (.inr (.inr (.inr hne5)))));clear hne5;clear hfalse hke hcz;go_wp2;go_ret;exact⟨ret_bool HS.out.symm,HB3.out⟩}
            | false=>
              have b2:0<=fact:=by simpa using a2
              obtain⟨i,rfl⟩:∃i:Nat,fact=(i:Int):=⟨fact.toNat,by omega⟩
              have hi:i<d.length:=by{(have:¬((d.length:Int)<=(i:Int)):=by simpa using a3);omega}
              have hce:cuts≠[]:=fun e=>by rw[hcz,e]at a4;simp at a4
              have hkl:kids.length=cuts.length+1:=by{(have:(kids.length:Int)=(cuts.length:Int)+1:=by simpa using a5);omega}
              have hn:¬(false=true\/(i:Int)<0\/(d.length:Int)<=(i:Int)\/cuts=[]\/kids.length≠cuts.length+1):=by
                rintro(h | h | h | h | h)
                . cases h
                . omega
                . omega
                . exact hce h
                . exact h hkl
              have HS:=HR2.out;rw[if_neg hn,Int.toNat_natCast]at HS;obtain⟨db,df,rfl,hdB,f0,f1,f2,f3,f4,f5,f6,f7⟩:=HD2.out.at i hi;clear f0 f1 f4 f5 f6 f7;have elo:flo d i=d[i].lo:=by unfold flo;rw[getD_dg _ _ _ hi]
              have ehi:fhi d i=d[i].hi:=by unfold fhi;rw[getD_dg _ _ _ hi]
              rw[elo,ehi]at HS;generalize d[i].lo=lo at*
              generalize d[i].hi=hx at*
              have q2:=(HB3.out.cell (p:=⟨db,df+i*4+2,none⟩) (by show db<w.heap.size;omega)).trans f2;have q3:=(HB3.out.cell (p:=⟨db,df+i*4+3,none⟩) (by show db<w.heap.size;omega)).trans f3;have HST:=Lib.hid HS;have HKL:Hid (kids.length=cuts.length+1):=hkl;have hkl2:kids.length<=1000001:=by omega
              have hin:(i:Int)<(d.length:Int):=by omega
              have i0:(0:Int)<=(i:Int):=Int.natCast_nonneg i;clear hfalse hn hcz hke hce HR HR2 f2 f3 elo ehi hkl HS hi;go_wp2
              go_loopw [7,66] (fun lv iv wr=>∃(j:Nat) (last:Int),j<=cuts.length/\ iv=.int .i64 j/\ lv=.int .i64 last/\ Hid (wr=W)/\ Hid (R=(cutsB hx last (cuts.drop j)&& kidsB t i none kids))) (fun _ iv _=>cuts.length-(intOf iv).toNat)
              case atStart=>exact⟨0,lo,by omega,rfl,rfl,rfl,HST⟩
              case round=>
                obtain⟨j,last,hj,rfl,rfl,hwr,hRj⟩:=hrel;have hwr:=hwr.out;subst hwr;by_cases hlt:j<cuts.length
                . obtain⟨cb,co,rfl,hcB,hcc⟩:=SlIn.one HC.out j hlt
                  have hcc2:=(HB3.out.cell (p:=⟨cb,co+j,none⟩) (by show cb<w.heap.size;omega)).trans hcc;have hdr:=cutsB_drop hx last cuts j hlt;have hRR:=hRj.out;rw[hdr]at hRR;clear hdr hcc;generalize cuts[j]=cj at*
                  by_cases b1:cj<=last
                  . have g1d:decide (cj<=last)=true:=by simpa using b1
                    have HS:=Lib.hid (show R=false by rw[hRR,if_pos (.inl b1)];rfl);clear hRR b1;go_wp2;go_ret;exact⟨ret_bool HS.out.symm,HB3.out⟩
                  . have g1d:decide (cj<=last)=false:=by simpa using b1
                    by_cases b2:hx<cj
                    . have g2d:decide (hx<cj)=true:=by simpa using b2
                      have HS:=Lib.hid (show R=false by rw[hRR,if_pos (.inr b2)];rfl);clear hRR b1 b2;go_wp2;go_ret;exact⟨ret_bool HS.out.symm,HB3.out⟩
                    . have g2d:decide (hx<cj)=false:=by simpa using b2
                      have HS:Hid (R=(cutsB hx cj (cuts.drop (j+1))&& kidsB t i none kids)):=by{show _=_;rw[hRR,if_neg (by omega)]}
                      clear hRR b1 b2;go_wp2;go_roundw
                      case rel=>exact⟨j+1,cj,by omega,by go_num,rfl,(show True from trivial),HS⟩
                      case measure=>simp[intOf];omega
                . have hRR:=hRj.out
                  rw[List.drop_of_length_le (by omega)]at hRR;have HS0:Hid (R=kidsB t i (prevO kids 0) (kids.drop 0)):=by show _=_;rw[hRR];rfl
                  clear hRR;go_wp2
                  go_loopw [89] (fun iv wq=>∃(m:Nat),m<=kids.length/\ iv=.int .i64 m/\ Hid (Below wr.heap.size wr wq)/\ Hid (R=kidsB t i (prevO kids m) (kids.drop m))) (fun iv _=>kids.length-(intOf iv).toNat)
                  case atStart=>exact⟨0,by omega,rfl,Below.refl _ _,HS0⟩
                  case round=>
                    rename World=>wq
                    obtain⟨m,hm,rfl,hq,hRm⟩:=hrel;have HBQ:Hid (Below w.heap.size w wq):=HB3.out.trans (hq.out.mono (by omega));have hsq:=hq.out.size;clear x0 y0 y1 y2 y3 z0 HS0 hRj;have x0:=(HK0.out.below hq.out).cell 0;have y0:=(HK1.out.below hq.out).cell 0;have y2:=(HK1.out.below hq.out).cell 2;by_cases hlm:m<kids.length
                    . obtain⟨kb,ko,rfl,hkB,hkc⟩:=SlIn.one HK.out m hlm
                      have hkc2:=(HBQ.out.cell (p:=⟨kb,ko+m,none⟩) (by show kb<w.heap.size;omega)).trans hkc;have hdr:=kidsB_drop t i (prevO kids m) kids m hlm;have hnx:prevO kids (m+1)=some kids[m]:=by unfold prevO;rw[if_neg (by omega),Nat.add_sub_cancel,getD_dg _ _ _ hlm]
                      have hRR:=hRm.out;rw[hdr]at hRR;have HNX:=Lib.hid hnx;generalize kids[m]=k at*
                      have HRR:=Lib.hid hRR;clear hdr hkc hRm hRR hnx;by_cases b1:k<0
                      . have g1d:decide (k<0)=true:=by simpa using b1
                        have HS:=Lib.hid (show R=false by rw[HRR.out,if_pos (.inl b1)]);clear b1
                        (go_wp2;go_quiet(fail);go_wp2;go_ret;exact⟨ret_bool HS.out.symm,HBQ.out.trans (World.drewN_below _ _ _)⟩)
                      . have g1d:decide (k<0)=false:=by simpa using b1
                        by_cases b2:(t.length:Int)<=k
                        . have g2d:decide ((t.length:Int)<=k)=true:=by simpa using b2
                          have HS:=Lib.hid (show R=false by rw[HRR.out,if_pos (.inr (.inl b2))]);clear b2
                          (go_wp2;go_quiet(fail);go_wp2;go_ret;exact⟨ret_bool HS.out.symm,HBQ.out.trans (World.drewN_below _ _ _)⟩)
                        . have g2d:decide ((t.length:Int)<=k)=false:=by simpa using b2
                          have hkn:k.toNat<t.length:=by omega
                          have hk0:(0:Int)<=k:=by omega
                          have hk1:k<(t.length:Int):=by omega
                          obtain⟨gb,go,rfl,hgB,vc',vk',n0,n1,n2,n3,hcu,hki⟩:=HG2.out.at k.toNat hkn;obtain⟨ka,kc,rfl,_⟩:=SlIn.shape hki;have q0:=(HBQ.out.cell (p:=⟨gb,go+k.toNat*4,none⟩) (by show gb<w.heap.size;omega)).trans n0;have q2:=(HBQ.out.cell (p:=⟨gb,go+k.toNat*4+2,none⟩) (by show gb<w.heap.size;omega)).trans n2;have HR4:=HRR.out;rw[getD_dg _ _ _ hkn]at HR4;have hkl3:((t[k.toNat].kids).length=0↔t[k.toNat].kids=[]):=List.length_eq_zero_iff;clear n0 n1 n2 n3 hcu hki HRR b1 b2;generalize t[k.toNat].fact=kf at*
                          generalize t[k.toNat].kids=kk at*
                          generalize kk.length=kl at*
                          by_cases hm0:m=0
                          . have hm1:decide ((0:Int)<(m:Int))=false:=by simp;omega
                            have hm2:decide (0<m)=false:=by simp;omega
                            have HR5:Hid (R=if kk≠[]/\ kf<=(i:Int)then false else kidsB t i (some k) (kids.drop (m+1))):=by
                              show _=_
                              rw[HR4,show prevO kids m=none by unfold prevO;rw[if_pos hm0]];congr 1
                              rw[eq_iff_iff];constructor
                              . rintro(h | h | h | h)
                                . omega
                                . omega
                                . cases h
                                . exact h
                              . intro h;exact .inr (.inr (.inr h))
                            clear HR4 hm0
                            (cases b5:decide (kk=[])with
                              | true=>
                                (have hq1:decide ((0:Int)<(kl:Int))=false:=(by have:kk=[]:=(by simpa using b5);have:kl=0:=hkl3.2 this;simp;omega)
                                 have hq2:decide (0<kl)=false:=(by simpa using hq1)
                                 have HS:=Lib.hid (show R=_ by rw[HR5.out,if_neg (fun h=>h.1 (by simpa using b5))])
                                 clear HR5
                                 (go_wp2;go_quiet(fail);go_wp2;go_roundw;(case rel=>exact⟨m+1,by omega,by go_num,hq.out.trans (World.drewN_below _ _ _),(by show _=_;rw[HNX.out];exact HS.out)⟩);(case measure=>simp[intOf];omega)))
                              | false=>
                                (have hq1:decide ((0:Int)<(kl:Int))=true:=(by have:kk≠[]:=(by simpa using b5);have:kl≠0:=fun e=>this (hkl3.1 e);simp;omega)
                                 have hq2:decide (0<kl)=true:=(by simpa using hq1)
                                 cases b6:decide (kf<=(i:Int))with
                                 | true=>
                                   (have HS:=Lib.hid (show R=false by rw[HR5.out,if_pos ⟨by simpa using b5,by simpa using b6⟩])
                                    clear HR5
                                    (go_wp2;go_quiet(fail);go_wp2;go_ret;exact⟨ret_bool HS.out.symm,HBQ.out.trans (World.drewN_below _ _ _)⟩))
                                 | false=>
                                   (have HS:=Lib.hid (show R=_ by rw[HR5.out,if_neg (fun h=>by have:=h.2;simp at b6;omega)])
                                    clear HR5
                                    (go_wp2;go_quiet(fail);go_wp2;go_roundw;(case rel=>exact⟨m+1,by omega,by go_num,hq.out.trans (World.drewN_below _ _ _),(by show _=_;rw[HNX.out];exact HS.out)⟩);(case measure=>simp[intOf];omega)))))
                          . obtain⟨mp,hmp⟩:∃mp,m=mp+1:=⟨m-1,by omega⟩
                            have hmpl:mp<kids.length:=by omega
                            obtain⟨kb',ko',hk',hkB',hkc'⟩:=SlIn.one HK.out mp hmpl;obtain⟨rfl,rfl⟩:kb=kb'/\ ko=ko':=by simpa using hk'
                            have hkc3:=(HBQ.out.cell (p:=⟨kb,ko+mp,none⟩) (by show kb<w.heap.size;omega)).trans hkc';have hwr:IntKind.i64.wrap ((m:Int)-1)=(mp:Int):=by rw[IntWalk.i64_in _ (by omega)];omega
                            have hpv:prevO kids m=some kids[mp]:=by unfold prevO;rw[if_neg hm0,hmp,Nat.add_sub_cancel,getD_dg _ _ _ hmpl]
                            have hm1:decide ((0:Int)<(m:Int))=true:=by simp;omega
                            have hm2:decide (0<m)=true:=by simp;omega
                            rw[hpv]at HR4;clear hkc' hpv hk' hmp;generalize kids[mp]=kp at*
                            cases b4:(kp==k)with
                            | true=>{have HS:=Lib.hid (show R=false by rw[HR4,if_pos (.inr (.inr (.inl (by rw[eq_of_beq b4]))))]);clear HR4;(go_wp2;go_quiet(fail);go_wp2;go_ret;exact⟨ret_bool HS.out.symm,HBQ.out.trans (World.drewN_below _ _ _)⟩)}
                            | false=>
                              have HR5:Hid (R=if kk≠[]/\ kf<=(i:Int)then false else kidsB t i (some k) (kids.drop (m+1))):=by
                                show _=_
                                rw[HR4];congr 1
                                rw[eq_iff_iff];constructor
                                . rintro(h | h | h | h)
                                  . omega
                                  . omega
                                  . exfalso
                                    have h:kp=k:=by simpa using h
                                    rw[h]at b4;simp at b4
                                  . exact h
                                . intro h;exact .inr (.inr (.inr h))
                              clear HR4
                              (cases b5:decide (kk=[])with
                                | true=>
                                  (have hq1:decide ((0:Int)<(kl:Int))=false:=(by have:kk=[]:=(by simpa using b5);have:kl=0:=hkl3.2 this;simp;omega)
                                   have hq2:decide (0<kl)=false:=(by simpa using hq1)
                                   have HS:=Lib.hid (show R=_ by rw[HR5.out,if_neg (fun h=>h.1 (by simpa using b5))])
                                   clear HR5
                                   (go_wp2;go_quiet(fail);go_wp2;go_roundw;(case rel=>exact⟨m+1,by omega,by go_num,hq.out.trans (World.drewN_below _ _ _),(by show _=_;rw[HNX.out];exact HS.out)⟩);(case measure=>simp[intOf];omega)))
                                | false=>
                                  (have hq1:decide ((0:Int)<(kl:Int))=true:=(by have:kk≠[]:=(by simpa using b5);have:kl≠0:=fun e=>this (hkl3.1 e);simp;omega)
                                   have hq2:decide (0<kl)=true:=(by simpa using hq1)
                                   cases b6:decide (kf<=(i:Int))with
                                   | true=>
                                     (have HS:=Lib.hid (show R=false by rw[HR5.out,if_pos ⟨by simpa using b5,by simpa using b6⟩])
                                      clear HR5
                                      (go_wp2;go_quiet(fail);go_wp2;go_ret;exact⟨ret_bool HS.out.symm,HBQ.out.trans (World.drewN_below _ _ _)⟩))
                                   | false=>
                                     (have HS:=Lib.hid (show R=_ by rw[HR5.out,if_neg (fun h=>by have:=h.2;simp at b6;omega)])
                                      clear HR5
                                      (go_wp2;go_quiet(fail);go_wp2;go_roundw;(case rel=>exact⟨m+1,by omega,by go_num,hq.out.trans (World.drewN_below _ _ _),(by show _=_;rw[HNX.out];exact HS.out)⟩);(case measure=>simp[intOf];omega)))))
                    . have hRR:=hRm.out
                      rw[List.drop_of_length_le (by omega)]at hRR;have HS:=Lib.hid (show R=true by rw[hRR];cases prevO kids m<;>rfl);clear hRR;go_wp2;go_ret;exact⟨ret_bool HS.out.symm,HBQ.out⟩
theorem eq_drop {α:Type}[DecidableEq α](x y:List α)(k:Nat)(h:k<x.length)(h':k<y.length):decide (x.drop k=y.drop k)=(decide (x[k]=y[k])&& decide (x.drop (k+1)=y.drop (k+1))):=by
 have e1:=List.drop_eq_getElem_cons h;have e2:=List.drop_eq_getElem_cons h';rw[Bool.eq_iff_iff,Bool.and_eq_true,decide_eq_true_iff,decide_eq_true_iff,decide_eq_true_iff,e1,e2,List.cons.injEq]
theorem eqI_any (x y:List Int)(v u:Value)(w:World)(B:Nat)(hB:B<=w.heap.size)(hx:IntsIn w B x v)(hy:IntsIn w B y u):
  Calls Tryz.prog 162 #[v,u] w fun e w'=>e=.returned (.bool (decide (x=y)))/\ Below w.heap.size w w':=by
 have HX:=Lib.hid hx;have HY:=Lib.hid hy;obtain⟨a1,c1,rfl,l1,l2,_⟩:=SlIn.shape hx;obtain⟨a2,c2,rfl,l3,l4,_⟩:=SlIn.shape hy;unfold maxLen at l2 l4;obtain⟨R,hR⟩:∃R,decide (x=y)=R:=⟨_,rfl⟩;rw[hR];clear hx hy;by_cases hl:x.length=y.length
 ·have e1:((x.length:Int) !=(y.length:Int))=false:=by simp[hl]
  have HL:Hid (x.length=y.length):=hl;have HS:Hid (R=decide (x.drop 0=y.drop 0)):=hR.symm;clear hl hR;go_enter Tryz.func162,Tryz.ntmps162;go_wp2
  go_loopw [13] (fun iv wr=>∃k:Nat,k<=x.length/\ iv=.int .i64 k/\ Hid (R=decide (x.drop k=y.drop k))/\ Hid (Below w.heap.size w wr)) (fun iv _=>x.length-(intOf iv).toNat)
  case atStart=>exact⟨0,by omega,rfl,HS,Below.refl _ _⟩
  case round=>
   obtain⟨k,hk,rfl,hRk,hb⟩:=hrel;clear HS;by_cases hlt:k<x.length
   {(have hlt2:k<y.length:=by have:=HL.out;omega);obtain⟨b,o,rfl,hbB,hc⟩:=SlIn.one HX.out k hlt;obtain⟨b',o',rfl,hbB',hc'⟩:=SlIn.one HY.out k hlt2;have q1:=(hb.out.cell (p:=⟨b,o+k,none⟩) (by show b<w.heap.size;omega)).trans hc;have q2:=(hb.out.cell (p:=⟨b',o'+k,none⟩) (by show b'<w.heap.size;omega)).trans hc';have hRR:=hRk.out;rw[eq_drop x y k hlt hlt2]at hRR;clear hc hc' hRk;generalize x[k]=p at*;generalize y[k]=q at*;have hs:=hb.out.size;cases e:(p !=q)with| true=>{have HS:=Lib.hid (show R=false by rw[hRR,decide_eq_false (by simpa using e)];rfl);clear hRR;go_wp2;go_quiet(fail);go_wp2;go_ret;exact⟨ret_bool HS.out.symm,hb.out.trans (World.drewN_below _ _ _)⟩}| false=>{(have HS:Hid (R=decide (x.drop (k+1)=y.drop (k+1))):=by show _=_;rw[hRR,decide_eq_true (by simpa using e)];rfl);clear hRR;go_wp2;go_quiet(fail);go_wp2;go_roundw;(case rel=>exact⟨k+1,by omega,by go_num,HS,hb.out.trans (World.drewN_below _ _ _)⟩);case measure=>simp[intOf];omega}}
   ·have HS:=Lib.hid (show R=true by
     have h:=hRk.out
     rw[List.drop_of_length_le (by omega),List.drop_of_length_le (by have:=HL.out;omega)]at h
     simpa using h)
    clear hRk;go_wp2;go_ret;exact⟨ret_bool HS.out.symm,hb.out⟩
 {(have e1:((x.length:Int) !=(y.length:Int))=true:=by rw[bne_iff_ne];omega);have HS:=Lib.hid (show R=false by rw[<-hR];exact decide_eq_false fun e=>hl (by rw[e]));clear hl hR;go_enter Tryz.func162,Tryz.ntmps162;go_wp2;go_ret;exact⟨ret_bool HS.out.symm,Below.refl _ _⟩}
theorem dn_eq (n m:Dn):decide (n=m)=(n.fact==m.fact&& (n.leaf==m.leaf&& (decide (n.cuts=m.cuts)&& decide (n.kids=m.kids)))):=by
 obtain⟨a,b,c,e⟩:=n;obtain⟨a',b',c',e'⟩:=m;rw[Bool.eq_iff_iff];simp only[decide_eq_true_iff,Dn.mk.injEq,Bool.and_eq_true,beq_iff_eq];constructor
 {rintro⟨h1,h2,h3,h4⟩;exact⟨h1,h4,h2,h3⟩}
 {rintro⟨h1,h4,h2,h3⟩;exact⟨h1,h2,h3,h4⟩}
theorem same1_any (n m:Dn)(vc vk vc2 vk2:Value)(w:World)(B:Nat)(hB:B<=w.heap.size)(h1:IntsIn w B n.cuts vc)(h2:IntsIn w B n.kids vk)(h3:IntsIn w B m.cuts vc2)(h4:IntsIn w B m.kids vk2):
  Calls Tryz.prog 161 #[.agg #[.int .i64 n.fact,vc,vk,.bool n.leaf],.agg #[.int .i64 m.fact,vc2,vk2,.bool m.leaf]] w fun e w'=>e=.returned (.bool (decide (n=m)))/\ Below w.heap.size w w':=by
 obtain⟨ac,cc,rfl,_⟩:=SlIn.shape h1;obtain⟨ak,ck,rfl,_⟩:=SlIn.shape h2;obtain⟨ac2,cc2,rfl,_⟩:=SlIn.shape h3;obtain⟨ak2,ck2,rfl,_⟩:=SlIn.shape h4;have hR:=dn_eq n m;obtain⟨R,hR2⟩:∃R,decide (n=m)=R:=⟨_,rfl⟩;rw[hR2]at hR⊢;have hb2:Below w.heap.size w ((w.alloc (.cells #[.int .i64 n.fact,.slice ac n.cuts.length cc,.slice ak n.kids.length ck,.bool n.leaf] 106)).alloc (.cells #[.int .i64 m.fact,.slice ac2 m.cuts.length cc2,.slice ak2 m.kids.length ck2,.bool m.leaf] 106)):=((Below.refl _ _).alloc (Nat.le_refl _) _).alloc (by simp) _;have K0:Blk ((w.alloc (.cells #[.int .i64 n.fact,.slice ac n.cuts.length cc,.slice ak n.kids.length ck,.bool n.leaf] 106)).alloc (.cells #[.int .i64 m.fact,.slice ac2 m.cuts.length cc2,.slice ak2 m.kids.length ck2,.bool m.leaf] 106)) w.heap.size 106 #[.int .i64 n.fact,.slice ac n.cuts.length cc,.slice ak n.kids.length ck,.bool n.leaf]:=(Blk.new w 106 #[.int .i64 n.fact,.slice ac n.cuts.length cc,.slice ak n.kids.length ck,.bool n.leaf]).alloc _
 have K1:Blk ((w.alloc (.cells #[.int .i64 n.fact,.slice ac n.cuts.length cc,.slice ak n.kids.length ck,.bool n.leaf] 106)).alloc (.cells #[.int .i64 m.fact,.slice ac2 m.cuts.length cc2,.slice ak2 m.kids.length ck2,.bool m.leaf] 106)) (w.heap.size+1) 106 #[.int .i64 m.fact,.slice ac2 m.cuts.length cc2,.slice ak2 m.kids.length ck2,.bool m.leaf]:=by{have q:=Blk.new (w.alloc (.cells #[.int .i64 n.fact,.slice ac n.cuts.length cc,.slice ak n.kids.length ck,.bool n.leaf] 106)) 106 #[.int .i64 m.fact,.slice ac2 m.cuts.length cc2,.slice ak2 m.kids.length ck2,.bool m.leaf];simpa only[World.size_alloc]using q}
 have hs2:(((w.alloc (.cells #[.int .i64 n.fact,.slice ac n.cuts.length cc,.slice ak n.kids.length ck,.bool n.leaf] 106)).alloc (.cells #[.int .i64 m.fact,.slice ac2 m.cuts.length cc2,.slice ak2 m.kids.length ck2,.bool m.leaf] 106))).heap.size=w.heap.size+2:=by simp
 obtain⟨W,hW⟩:∃W,((w.alloc (.cells #[.int .i64 n.fact,.slice ac n.cuts.length cc,.slice ak n.kids.length ck,.bool n.leaf] 106)).alloc (.cells #[.int .i64 m.fact,.slice ac2 m.cuts.length cc2,.slice ak2 m.kids.length ck2,.bool m.leaf] 106))=W:=⟨_,rfl⟩;rw[hW]at hb2 K0 K1 hs2;have HW:=Lib.hid hW;have HB2:=Lib.hid hb2
 have HE:Hid (∀w',Below w.heap.size w w'->Calls Tryz.prog 162 #[.slice ac n.cuts.length cc,.slice ac2 m.cuts.length cc2] w' fun e w''=>e=.returned (.bool (decide (n.cuts=m.cuts)))/\ Below w'.heap.size w' w''):=fun w' hb=>eqI_any n.cuts m.cuts _ _ w' B (by have:=hb.size;omega) (h1.below (hb.mono hB)) (h3.below (hb.mono hB))
 have HF:Hid (∀w',Below w.heap.size w w'->Calls Tryz.prog 162 #[.slice ak n.kids.length ck,.slice ak2 m.kids.length ck2] w' fun e w''=>e=.returned (.bool (decide (n.kids=m.kids)))/\ Below w'.heap.size w' w''):=fun w' hb=>eqI_any n.kids m.kids _ _ w' B (by have:=hb.size;omega) (h2.below (hb.mono hB)) (h4.below (hb.mono hB))
 have HK0:=Lib.hid K0;have HK1:=Lib.hid K1;have x0:=K0.cell 0;have x1:=K0.cell 1;have x2:=K0.cell 2;have x3:=K0.cell 3;have y0:=K1.cell 0;have y1:=K1.cell 1;have y2:=K1.cell 2;have y3:=K1.cell 3;have HR:=Lib.hid hR;clear h1 h2 h3 h4 hR hR2 hW hb2 K0 K1;go_enter Tryz.func161,Tryz.ntmps161;go_upto_region 1 with(fail);rw[HW.out];cases e1:(n.fact==m.fact)with
 | false=>{have HS:=Lib.hid (show R=false by rw[HR.out,e1];rfl);go_wp2;go_ret;exact⟨ret_bool HS.out.symm,HB2.out⟩}
 | true=>
  cases e2:(n.leaf==m.leaf)with
  | false=>{have HS:=Lib.hid (show R=false by rw[HR.out,e1,e2];rfl);go_wp2;go_ret;exact⟨ret_bool HS.out.symm,HB2.out⟩}
  | true=>
   have HR2:=Lib.hid (show R=(decide (n.cuts=m.cuts)&& decide (n.kids=m.kids)) by rw[HR.out,e1,e2];rfl);clear HR;generalize decide (n.cuts=m.cuts)=r1 at*
   generalize decide (n.kids=m.kids)=r2 at*
   cases r1 with
   | false=>{have HS:=Lib.hid (show R=false by rw[HR2.out];rfl);go_wp2_with (go_at_call 162;refine(HE.out _ HB2.out).mono ?_;rintro e w3 ⟨rfl,hb3⟩;have HB3:=Lib.hid (HB2.out.trans (hb3.mono (by omega)));clear hb3);go_ret;exact⟨ret_bool HS.out.symm,HB3.out⟩}
   | true=>
    have HS:=Lib.hid (show R=r2 by rw[HR2.out];rfl)
    go_wp2_with (first
     | (go_at_call 162;refine(HE.out _ HB2.out).mono ?_;rintro e w3 ⟨rfl,hb3⟩;have HB3:=Lib.hid (HB2.out.trans (hb3.mono (by omega)));clear x0 x1 x2 x3 y0 y1 y2 y3 HE;have x2:=(HK0.out.below hb3).cell 2;have y2:=(HK1.out.below hb3).cell 2;clear hb3)
     | (go_at_call 162;refine(HF.out _ HB3.out).mono ?_;rintro e w4 ⟨rfl,hb4⟩;have HB4:=Lib.hid (HB3.out.trans (hb4.mono (by have:=HB3.out.size;omega)));clear hb4))
    go_ret;exact⟨ret_bool HS.out.symm,HB4.out⟩
theorem eqF_any (x y:List Dn)(v u:Value)(w:World)(B:Nat)(hB:B<=w.heap.size)(hx:SlIn DnR 4 w B x v)(hy:SlIn DnR 4 w B y u):
  Calls Tryz.prog 160 #[v,u,.func (.func 161) #[] #[]] w fun e w'=>e=.returned (.bool (decide (x=y)))/\ Below w.heap.size w w':=by
 have HX:=Lib.hid hx;have HY:=Lib.hid hy;obtain⟨a1,c1,rfl,l1,l2,_⟩:=SlIn.shape hx;obtain⟨a2,c2,rfl,l3,l4,_⟩:=SlIn.shape hy;unfold maxLen at l2 l4;obtain⟨R,hR⟩:∃R,decide (x=y)=R:=⟨_,rfl⟩;rw[hR];clear hx hy;by_cases hl:x.length=y.length
 ·have e1:((x.length:Int) !=(y.length:Int))=false:=by simp[hl]
  have HL:Hid (x.length=y.length):=hl;have HS:Hid (R=decide (x.drop 0=y.drop 0)):=hR.symm;clear hl hR;go_enter Tryz.func160,Tryz.ntmps160;go_wp2
  go_loopw [17] (fun iv wr=>∃k:Nat,k<=x.length/\ iv=.int .i64 k/\ Hid (R=decide (x.drop k=y.drop k))/\ Hid (Below w.heap.size w wr)) (fun iv _=>x.length-(intOf iv).toNat)
  case atStart=>exact⟨0,by omega,rfl,HS,Below.refl _ _⟩
  case round=>
   obtain⟨k,hk,rfl,hRk,hb⟩:=hrel;clear HS;by_cases hlt:k<x.length
   {(have hlt2:k<y.length:=by have:=HL.out;omega);obtain⟨b,o,rfl,hbB,vc,vk,n0,n1,n2,n3,hcu,hki⟩:=HX.out.at k hlt;obtain⟨b',o',rfl,hbB',vc2,vk2,m0,m1,m2,m3,hcu2,hki2⟩:=HY.out.at k hlt2;have hs:=hb.out.size;have q0:=(hb.out.cell (p:=⟨b,o+k*4,none⟩) (by show b<w.heap.size;omega)).trans n0;have q1:=(hb.out.cell (p:=⟨b,o+k*4+1,none⟩) (by show b<w.heap.size;omega)).trans n1;have q2:=(hb.out.cell (p:=⟨b,o+k*4+2,none⟩) (by show b<w.heap.size;omega)).trans n2;have q3:=(hb.out.cell (p:=⟨b,o+k*4+3,none⟩) (by show b<w.heap.size;omega)).trans n3;have r0:=((hb.out.alloc (by omega) (.cells #[.int .i64 x[k].fact,vc,vk,.bool x[k].leaf] 106)).cell (p:=⟨b',o'+k*4,none⟩) (by show b'<w.heap.size;omega)).trans m0;have r1:=((hb.out.alloc (by omega) (.cells #[.int .i64 x[k].fact,vc,vk,.bool x[k].leaf] 106)).cell (p:=⟨b',o'+k*4+1,none⟩) (by show b'<w.heap.size;omega)).trans m1;have r2:=((hb.out.alloc (by omega) (.cells #[.int .i64 x[k].fact,vc,vk,.bool x[k].leaf] 106)).cell (p:=⟨b',o'+k*4+2,none⟩) (by show b'<w.heap.size;omega)).trans m2;have r3:=((hb.out.alloc (by omega) (.cells #[.int .i64 x[k].fact,vc,vk,.bool x[k].leaf] 106)).cell (p:=⟨b',o'+k*4+3,none⟩) (by show b'<w.heap.size;omega)).trans m3;have s0:=(hb.out.cell (p:=⟨b',o'+k*4,none⟩) (by show b'<w.heap.size;omega)).trans m0;have s1:=(hb.out.cell (p:=⟨b',o'+k*4+1,none⟩) (by show b'<w.heap.size;omega)).trans m1;have s2:=(hb.out.cell (p:=⟨b',o'+k*4+2,none⟩) (by show b'<w.heap.size;omega)).trans m2;have s3:=(hb.out.cell (p:=⟨b',o'+k*4+3,none⟩) (by show b'<w.heap.size;omega)).trans m3;have hRR:=hRk.out;rw[eq_drop x y k hlt hlt2]at hRR;have HC:=Lib.hid (fun W (hW:Below w.heap.size w W)=>same1_any x[k] y[k] vc vk vc2 vk2 W B (by have:=hW.size;omega) (IntsIn.below (hW.mono hB) hcu) (IntsIn.below (hW.mono hB) hki) (IntsIn.below (hW.mono hB) hcu2) (IntsIn.below (hW.mono hB) hki2));obtain⟨ac,cc,rfl,_⟩:=SlIn.shape hcu;obtain⟨ak,ck,rfl,_⟩:=SlIn.shape hki;obtain⟨ac2,cc2,rfl,_⟩:=SlIn.shape hcu2;obtain⟨ak2,ck2,rfl,_⟩:=SlIn.shape hki2;have HRR:=Lib.hid hRR;clear n0 n1 n2 n3 m0 m1 m2 m3 hcu hki hcu2 hki2 hRk hRR;generalize x[k]=p at*;generalize y[k]=q at*;cases e:decide (p=q)with| true=>{(have HS:Hid (R=decide (x.drop (k+1)=y.drop (k+1))):=by show _=_;rw[HRR.out,e];rfl);rw[e]at HC;clear HRR e;go_wp2_with (go_at_call 161;refine(HC.out _ ?_).mono ?_;(· exact(hb.out.alloc (by omega) _).alloc (by simp;omega) _);rintro e w3 ⟨rfl,hb3⟩;have HB3:=Lib.hid (((hb.out.alloc (by omega) _).alloc (by simp;omega) _).trans (hb3.mono (by simp;omega)));clear hb3);go_roundw;(case rel=>exact⟨k+1,by omega,by go_num,HS,HB3⟩);case measure=>simp[intOf];omega}| false=>{have HS:=Lib.hid (show R=false by rw[HRR.out,e];rfl);rw[e]at HC;clear HRR e;go_wp2_with (go_at_call 161;refine(HC.out _ ?_).mono ?_;(· exact(hb.out.alloc (by omega) _).alloc (by simp;omega) _);rintro e w3 ⟨rfl,hb3⟩;have HB3:=Lib.hid (((hb.out.alloc (by omega) _).alloc (by simp;omega) _).trans (hb3.mono (by simp;omega)));clear hb3);go_ret;exact⟨ret_bool HS.out.symm,HB3.out⟩}}
   ·have HS:=Lib.hid (show R=true by
     have h:=hRk.out
     rw[List.drop_of_length_le (by omega),List.drop_of_length_le (by have:=HL.out;omega)]at h
     simpa using h)
    clear hRk;go_wp2;go_ret;exact⟨ret_bool HS.out.symm,hb.out⟩
 {(have e1:((x.length:Int) !=(y.length:Int))=true:=by rw[bne_iff_ne];omega);have HS:=Lib.hid (show R=false by rw[<-hR];exact decide_eq_false fun e=>hl (by rw[e]));clear hl hR;go_enter Tryz.func160,Tryz.ntmps160;go_wp2;go_ret;exact⟨ret_bool HS.out.symm,Below.refl _ _⟩}
theorem sameD_any (x y:List Dn)(v u:Value)(w:World)(B:Nat)(hB:B<=w.heap.size)(hx:DgIn w B x v)(hy:DgIn w B y u):
  Calls Tryz.prog 115 #[v,u] w fun e w'=>e=.returned (.bool (decide (x=y)))/\ Below w.heap.size w w':=by
 obtain⟨_,rfl,hx⟩:=hx;obtain⟨_,rfl,hy⟩:=hy;obtain⟨a1,c1,rfl,l1,l2,_⟩:=SlIn.shape hx;obtain⟨a2,c2,rfl,l3,l4,_⟩:=SlIn.shape hy;have hb:Below w.heap.size w ((w.alloc (.cells #[.slice a1 x.length c1] 75)).alloc (.cells #[.slice a2 y.length c2] 75)):=((Below.refl _ _).alloc (Nat.le_refl _) _).alloc (by simp) _;have HC:=Lib.hid (eqF_any x y _ _ _ B (by simp;omega) (SlIn.below DnR.kept (hb.mono hB) hx) (SlIn.below DnR.kept (hb.mono hB) hy));have HB:=Lib.hid hb;clear hx hy hb;go_enter Tryz.func115,Tryz.ntmps115;go_wp2_with (go_at_call 160;refine HC.out.mono ?_;rintro e w3 ⟨rfl,hb3⟩;have HB3:=Lib.hid (HB.out.trans (hb3.mono (by simp;omega)));clear hb3);go_ret;exact⟨rfl,HB3.out⟩
theorem idx_any_ge {α:Type}(p:α->Bool):∀(l:List α) (k:Nat),decide (0<=idxFrom p l (k:Int))=l.any p
 | [],k=>by simp[idxFrom]
 | x::l,k=>by{rw[idxFrom,List.any_cons];cases h:p x with| true=>simp| false=>{rw[if_neg (by simp),Bool.false_or];exact idx_any_ge p l (k+1)}}
theorem valid1_any (d:List Fa)(t:List Dn)(n:Dn)(ag:Option Addr)(cg:Nat)(ad:Option Addr)(cd:Nat)(vc vk:Value)(gp dp:Nat)(w:World)(B:Nat)(hB:B<=w.heap.size)(hg:DgIn w B t (.agg #[.slice ag t.length cg]))(hc:IntsIn w B n.cuts vc)(hk:IntsIn w B n.kids vk)
  (hd:DomIn w B d (.agg #[.slice ad d.length cd])) (hl:n.cuts.length<=1000000) (h1:w.cell? ⟨gp,0,none⟩=some (.slice ag t.length cg)) (h2:w.cell? ⟨dp,0,none⟩=some (.slice ad d.length cd)):
  Calls Tryz.prog 112 #[.agg #[.int .i64 n.fact,vc,vk,.bool n.leaf],.pointer (some ⟨gp,0,none⟩),.pointer (some ⟨dp,0,none⟩)] w fun e w'=>e=.returned (.bool (!properB d t n))/\ Below w.heap.size w w':=by
 obtain⟨ac,cc,rfl,_⟩:=SlIn.shape hc;obtain⟨ak,ck,rfl,_⟩:=SlIn.shape hk;have hb:Below w.heap.size w (w.alloc (.cells #[.int .i64 n.fact,.slice ac n.cuts.length cc,.slice ak n.kids.length ck,.bool n.leaf] 106)):=(Below.refl _ _).alloc (Nat.le_refl _) _;have HC:=Lib.hid (proper_any d t n _ _ _ _ _ B (by simp;omega) (hg.below (hb.mono hB)) (hc.below (hb.mono hB)) (hk.below (hb.mono hB)) (hd.below (hb.mono hB)) hl);have hgp:=World.block_lt_of_cell? _ _ h1;have hdp:=World.block_lt_of_cell? _ _ h2;have HB:=Lib.hid hb;have x0:=(Blk.new w 106 #[.int .i64 n.fact,.slice ac n.cuts.length cc,.slice ak n.kids.length ck,.bool n.leaf]).cell 0;generalize properB d t n=R at*
 clear hg hc hk hd hb;cases R
 all_goals
  go_enter Tryz.func112,Tryz.ntmps112;go_wp2_with (go_at_call 113;refine HC.out.mono ?_;rintro e w3 ⟨rfl,hb3⟩;have HB3:=Lib.hid (HB.out.trans (hb3.mono (by simp)));clear hb3);go_ret;exact⟨rfl,HB3.out⟩
theorem idxN_any (d:List Fa)(t:List Dn)(ag:Option Addr)(cg:Nat)(ad:Option Addr)(cd:Nat)(gp dp:Nat)(w:World)(B:Nat)(hB:B<=w.heap.size)(hg:DgIn w B t (.agg #[.slice ag t.length cg]))
  (hd:DomIn w B d (.agg #[.slice ad d.length cd])) (hl:∀n∈t,n.cuts.length<=1000000) (h1:w.cell? ⟨gp,0,none⟩=some (.slice ag t.length cg)) (h2:w.cell? ⟨dp,0,none⟩=some (.slice ad d.length cd)):
  Calls Tryz.prog 159 #[.slice ag t.length cg,(.func (.func 112) #[] #[.pointer (some ⟨gp,0,none⟩),.pointer (some ⟨dp,0,none⟩)])] w fun e w'=>e=.returned (.int .i64 (idxFrom (fun n=> !properB d t n) t 0))/\ Below w.heap.size w w':=by
 have HG:=Lib.hid hg;have HD:=Lib.hid hd;have HL:=Lib.hid hl;have HG2:Hid (SlIn DnR 4 w B t (.slice ag t.length cg)):=by obtain⟨_,e,h⟩:=hg;cases e;exact h
 obtain⟨_,_,e1,l1,l2,_⟩:=HG2.out;obtain⟨rfl,rfl⟩:ag=_/\ cg=_:=by simpa using e1
 unfold maxLen at l2;have HR:Hid (idxFrom (fun n=> !properB d t n) t 0=idxFrom (fun n=> !properB d t n) (t.drop 0) (0:Nat)):=rfl;generalize idxFrom (fun n=> !properB d t n) t 0=R at*
 have hgp:=World.block_lt_of_cell? _ _ h1;have hdp:=World.block_lt_of_cell? _ _ h2;clear hg hd hl;go_enter Tryz.func159,Tryz.ntmps159;go_wp2
 go_loopw [8] (fun i wr=>∃k:Nat,k<=t.length/\ i=.int .i64 k/\ Hid (R=idxFrom (fun n=> !properB d t n) (t.drop k) k)/\ Hid (Below w.heap.size w wr)) (fun i _=>t.length-(intOf i).toNat)
 case atStart=>exact⟨0,by omega,rfl,HR,Below.refl _ _⟩
 case round=>
  obtain⟨k,hk,rfl,hin,hb⟩:=hrel;have hsz:=hb.out.size;by_cases hlt:k<t.length
  ·have HC:=Lib.hid (fun vc vk (q:IntsIn w B t[k].cuts vc) (q':IntsIn w B t[k].kids vk)=>valid1_any d t t[k] _ _ _ _ vc vk gp dp wr B (by omega) (HG.out.below (hb.out.mono hB)) (q.below (hb.out.mono hB)) (q'.below (hb.out.mono hB)) (HD.out.below (hb.out.mono hB)) (HL.out _ (List.getElem_mem _))
    ((hb.out.cell (p:=⟨gp,0,none⟩) hgp).trans h1) ((hb.out.cell (p:=⟨dp,0,none⟩) hdp).trans h2))
   obtain⟨b,o,rfl,hbB,vc,vk,n0,n1,n2,n3,hcu,hki⟩:=HG2.out.at k hlt;have q0:=(hb.out.cell (p:=⟨b,o+k*4,none⟩) (by show b<w.heap.size;omega)).trans n0;have q1:=(hb.out.cell (p:=⟨b,o+k*4+1,none⟩) (by show b<w.heap.size;omega)).trans n1;have q2:=(hb.out.cell (p:=⟨b,o+k*4+2,none⟩) (by show b<w.heap.size;omega)).trans n2;have q3:=(hb.out.cell (p:=⟨b,o+k*4+3,none⟩) (by show b<w.heap.size;omega)).trans n3;have HC2:=Lib.hid (HC.out vc vk hcu hki);have hin2:=hin.out;rw[idxFrom_drop _ t k hlt]at hin2;obtain⟨ac,cc,rfl,_⟩:=SlIn.shape hcu;obtain⟨ak,ck,rfl,_⟩:=SlIn.shape hki;have HIN:=Lib.hid hin2;clear n0 n1 n2 n3 hcu hki HC hin2 hin HR;generalize properB d t t[k]=pb at*
   generalize t[k]=x at*
   cases pb with| false=>{have HS:=Lib.hid (show(k:Int)=R by rw[HIN.out];rfl);clear HIN;go_wp2_with (go_at_call 112;refine HC2.out.mono ?_;rintro e w2 ⟨rfl,hb2⟩);go_ret;exact⟨ret_int HS.out,hb.out.trans (hb2.mono hsz)⟩}| true=>{(have HS:Hid (R=idxFrom (fun n=> !properB d t n) (t.drop (k+1)) ((k+1:Nat):Int)):=by show _=_;rw[HIN.out];rfl);clear HIN;go_wp2_with (go_at_call 112;refine HC2.out.mono ?_;rintro e w2 ⟨rfl,hb2⟩);go_roundw;(case rel=>exact⟨k+1,by omega,by go_num,HS,hb.out.trans (hb2.mono hsz)⟩);case measure=>simp[intOf];omega}
  ·have HS:=Lib.hid (show(-1:Int)=R by
    have h0:=hin.out
    rw[List.drop_of_length_le (by omega)]at h0
    exact h0.symm)
   clear hin HR;go_wp2;go_ret;exact⟨ret_int HS.out,hb.out⟩
theorem hasN_any (d:List Fa)(t:List Dn)(ag:Option Addr)(cg:Nat)(ad:Option Addr)(cd:Nat)(gp dp:Nat)(w:World)(B:Nat)(hB:B<=w.heap.size)(hg:DgIn w B t (.agg #[.slice ag t.length cg]))
  (hd:DomIn w B d (.agg #[.slice ad d.length cd])) (hl:∀n∈t,n.cuts.length<=1000000) (h1:w.cell? ⟨gp,0,none⟩=some (.slice ag t.length cg)) (h2:w.cell? ⟨dp,0,none⟩=some (.slice ad d.length cd)):
  Calls Tryz.prog 114 #[.slice ag t.length cg,(.func (.func 112) #[] #[.pointer (some ⟨gp,0,none⟩),.pointer (some ⟨dp,0,none⟩)])] w fun e w'=>e=.returned (.bool (!t.all (properB d t)))/\ Below w.heap.size w w':=by
 have HC:=Lib.hid (idxN_any d t ag cg ad cd gp dp w B hB hg hd hl h1 h2);have HS:=Lib.hid (idx_any_ge (fun n=> !properB d t n) t 0);have HA:Hid (t.any (fun n=> !properB d t n)= !t.all (properB d t)):=by show _=_;rw[List.not_all_eq_any_not]
 have e:((0:Nat):Int)=0:=rfl;rw[e]at HS;clear hg hd hl h1 h2 e;generalize idxFrom (fun n=> !properB d t n) t 0=R at*
 go_enter Tryz.func114,Tryz.ntmps114;go_wp2_with (go_at_call 159;refine HC.out.mono ?_;rintro e w2 ⟨rfl,hb2⟩);go_ret;exact⟨ret_bool (by rw[HS.out,HA.out]),hb2⟩
structure VaS (w6 : World) (K : Nat) (t : List Dn) (wr : World) : Prop where
 is:MkIs wr K K [] t
 mks:MkS K [] w6 wr
theorem add_take {t:List Dn}{j:Nat}(h:j<t.length)(hn:t[j]∉t.take j):addD (t.take j) t[j]=(t.take (j+1),j):=by
 unfold addD;rw[if_neg hn,List.take_succ_eq_append_getElem h,List.length_take];congr 1
 omega
theorem add_old {t:List Dn}{j:Nat}(h:j<t.length)(hn:t[j]∈t.take j):(addD (t.take j) t[j]).2<j:=by
 unfold addD;rw[if_pos hn];have:=List.idxOf_lt_length_of_mem hn;rw[List.length_take]at this
 show(t.take j).idxOf t[j]<j
 omega
theorem nodup_next {t:List Dn}{j:Nat}(h:j<t.length)(hn:(t.take j).Nodup)(hx:t[j]∉t.take j):(t.take (j+1)).Nodup:=by
 rw[List.take_succ_eq_append_getElem h,List.nodup_append];exact⟨hn,by simp,fun a ha b hb e=>hx (by rw[List.mem_singleton]at hb;rw[<-hb, <-e];exact ha)⟩
theorem validG_any (d:List Fa)(t:List Dn)(vg u:Value)(w:World)(B:Nat)(hB:B<=w.heap.size)(hg:DgIn w B t vg)(hd:DomIn w B d u)(h64:∀n∈t,Dn64 n)(hT:TabH w.heap.size w):
  Calls Tryz.prog 71 #[vg,u] w fun e w'=>e=.returned (.bool (validG d t))/\ Below w.heap.size w w':=by
 have HG:=Lib.hid hg;have HD:=Lib.hid hd;obtain⟨_,rfl,hg2⟩:=hg;obtain⟨_,rfl,hd2⟩:=hd;have HG2:=Lib.hid hg2;obtain⟨ag,cg,rfl,l1,l2,_⟩:=SlIn.shape hg2;obtain⟨ad,cd,rfl,_⟩:=SlIn.shape hd2;unfold maxLen at l2;have hb2:Below w.heap.size w ((w.alloc (.cells #[.slice ag t.length cg] 75)).alloc (.cells #[.slice ad d.length cd] 25)):=((Below.refl _ _).alloc (Nat.le_refl _) _).alloc (by simp) _;have K0:Blk ((w.alloc (.cells #[.slice ag t.length cg] 75)).alloc (.cells #[.slice ad d.length cd] 25)) w.heap.size 75 #[.slice ag t.length cg]:=(Blk.new w 75 #[.slice ag t.length cg]).alloc _
 have K1:Blk ((w.alloc (.cells #[.slice ag t.length cg] 75)).alloc (.cells #[.slice ad d.length cd] 25)) (w.heap.size+1) 25 #[.slice ad d.length cd]:=by{have q:=Blk.new (w.alloc (.cells #[.slice ag t.length cg] 75)) 25 #[.slice ad d.length cd];simpa only[World.size_alloc]using q}
 have hs2:(((w.alloc (.cells #[.slice ag t.length cg] 75)).alloc (.cells #[.slice ad d.length cd] 25))).heap.size=w.heap.size+2:=by simp
 obtain⟨W,hW⟩:∃W,((w.alloc (.cells #[.slice ag t.length cg] 75)).alloc (.cells #[.slice ad d.length cd] 25))=W:=⟨_,rfl⟩;rw[hW]at hb2 K0 K1 hs2;have HW:=Lib.hid hW;have HB2:=Lib.hid hb2;have HK0:=Lib.hid K0;have HK1:=Lib.hid K1;have x0:=K0.cell 0;have y0:=K1.cell 0;have H64:=Lib.hid h64;have HT:=Lib.hid hT;have HV:=Lib.hid (valid_any d _ W B (by omega) (HD.out.below (hb2.mono hB)))
 have HH:Hid (∀w',Blk w' w.heap.size 75 #[.slice ag t.length cg]->Blk w' (w.heap.size+1) 25 #[.slice ad d.length cd]->Below w.heap.size w w'->
   Calls Tryz.prog 114 #[.slice ag t.length cg,(.func (.func 112) #[] #[.pointer (some ⟨w.heap.size,0,none⟩),.pointer (some ⟨w.heap.size+1,0,none⟩)])] w' fun e w''=>e=.returned (.bool (!t.all (properB d t)))/\ Below w'.heap.size w' w''):=fun w' q0 q1 hb=>
  hasN_any d t ag cg ad cd w.heap.size (w.heap.size+1) w' B (by have:=hb.size;omega) (HG.out.below (hb.mono hB)) (HD.out.below (hb.mono hB)) (fun n hn=>(h64 n hn).lc) (q0.cell 0) (q1.cell 0)
 obtain⟨R,hR⟩:∃R,validG d t=R:=⟨_,rfl⟩;rw[hR];have hR0:R=(validD d&& !t.isEmpty&& decide (t.length<=20000)&& t.all (properB d t)&& decide t.Nodup&& decide (fromD t (visitD t (d.length+1) [] 0)=t)):=hR.symm;have HR:=Lib.hid hR0;clear hg2 hd2 hW hb2 K0 K1 h64 hT hR hR0;go_enter Tryz.func71,Tryz.ntmps71;go_upto_region 1 with(fail);rw[HW.out];cases e1:validD d with
 | false=>{have HS:=Lib.hid (show R=false by rw[HR.out,e1];rfl);rw[e1]at HV;go_wp2_with (go_at_call 50;refine HV.out.mono ?_;rintro e w4 ⟨rfl,hb4⟩;have x0:=(HK0.out.below hb4).cell 0;have HX0:=Lib.hid (HK0.out.below hb4);have HX1:=Lib.hid (HK1.out.below hb4);have HB4:=Lib.hid (HB2.out.trans (hb4.mono (by omega)));have hs4:=hb4.size;clear hb4);go_ret;exact⟨ret_bool HS.out.symm,HB4.out⟩}
 | true=>
  rw[e1]at HV;cases e2:((t.length:Int)==0)with
  | true=>{have HS:=Lib.hid (show R=false by rw[HR.out,e1];rw[len_zero]at e2;have ht:t=[]:=(by simpa using e2);rw[ht];rfl);go_wp2_with (go_at_call 50;refine HV.out.mono ?_;rintro e w4 ⟨rfl,hb4⟩;have x0:=(HK0.out.below hb4).cell 0;have HX0:=Lib.hid (HK0.out.below hb4);have HX1:=Lib.hid (HK1.out.below hb4);have HB4:=Lib.hid (HB2.out.trans (hb4.mono (by omega)));have hs4:=hb4.size;clear hb4);go_ret;exact⟨ret_bool HS.out.symm,HB4.out⟩}
  | false=>
   cases e3:decide ((20000:Int)<(t.length:Int))with
   | true=>
    have HS:=Lib.hid (show R=false by
     have:¬t.length<=20000:=by simp at e3;omega
     rw[HR.out,decide_eq_false this];simp)
    go_wp2_with (go_at_call 50;refine HV.out.mono ?_;rintro e w4 ⟨rfl,hb4⟩;have x0:=(HK0.out.below hb4).cell 0;have HX0:=Lib.hid (HK0.out.below hb4);have HX1:=Lib.hid (HK1.out.below hb4);have HB4:=Lib.hid (HB2.out.trans (hb4.mono (by omega)));have hs4:=hb4.size;clear hb4);go_ret;exact⟨ret_bool HS.out.symm,HB4.out⟩
   | false=>
    have hl2:t.length<=20000:=by simp at e3;omega
    have hne:t≠[]:=fun e=>by rw[len_zero,e]at e2;simp at e2
    cases e4:t.all (properB d t)with
    | false=>{have HS:=Lib.hid (show R=false by rw[HR.out,e4];simp);rw[e4]at HH;clear hne;go_wp2_with (first | (go_at_call 50;refine HV.out.mono ?_;rintro e w4 ⟨rfl,hb4⟩;have x0:=(HK0.out.below hb4).cell 0;have HX0:=Lib.hid (HK0.out.below hb4);have HX1:=Lib.hid (HK1.out.below hb4);have HB4:=Lib.hid (HB2.out.trans (hb4.mono (by omega)));have hs4:=hb4.size;clear hb4) | (go_at_call 114;refine(HH.out _ HX0.out HX1.out HB4.out).mono ?_;rintro e w5 ⟨rfl,hb5⟩;clear x0;have x0:=(HX0.out.below hb5).cell 0;have HY0:=Lib.hid (HX0.out.below hb5);have HB5:=Lib.hid (HB4.out.trans (hb5.mono (by omega)));have hs5:=hb5.size;clear hb5));go_ret;exact⟨ret_bool HS.out.symm,HB5.out⟩}
    | true=>
     have hTB:=(table_iff d t).1 e4;have HTB:=Lib.hid hTB;have HDK:=Lib.hid (dom_ok e1);have hpos:0<t.length:=List.length_pos_iff.2 hne
     have HR2:Hid (R=(decide t.Nodup&& decide (fromD t (visitD t (d.length+1) [] 0)=t))):=by{show _=_;rw[HR.out,e1,e4,decide_eq_true hl2,show t.isEmpty=false by simpa using hne];rfl}
     rw[e4]at HH;clear hne e4 hTB HR;go_upto_region 5 with(first | (go_at_call 50;refine HV.out.mono ?_;rintro e w4 ⟨rfl,hb4⟩;have x0:=(HK0.out.below hb4).cell 0;have HX0:=Lib.hid (HK0.out.below hb4);have HX1:=Lib.hid (HK1.out.below hb4);have HB4:=Lib.hid (HB2.out.trans (hb4.mono (by omega)));have hs4:=hb4.size;clear hb4) | (go_at_call 114;refine(HH.out _ HX0.out HX1.out HB4.out).mono ?_;rintro e w5 ⟨rfl,hb5⟩;clear x0;have x0:=(HX0.out.below hb5).cell 0;have HY0:=Lib.hid (HX0.out.below hb5);have HB5:=Lib.hid (HB4.out.trans (hb5.mono (by omega)));have hs5:=hb5.size;clear hb5));have hs52:w.heap.size+2<=w5.heap.size:=by omega
     have hm0:MkIs (w5.alloc (.cells #[.slice none 0 0,.map none] 132)) w5.heap.size w5.heap.size [] []:=⟨Nat.le_refl _,⟨.slice none 0 0,none,[],Blk.new _ _ _,World.ownsRow_nil _ _ _ _,rfl,by simp,.inl ⟨rfl,rfl⟩⟩,by simp⟩;have hb6:Below w5.heap.size w5 (w5.alloc (.cells #[.slice none 0 0,.map none] 132)):=(Below.refl _ _).alloc (Nat.le_refl _) _;have hs6:((w5.alloc (.cells #[.slice none 0 0,.map none] 132))).heap.size=w5.heap.size+1:=by simp
     have HY6:=Lib.hid (HY0.out.below hb6);have x6:=HY6.out.cell 0;obtain⟨w6,hw6⟩:∃w6,(w5.alloc (.cells #[.slice none 0 0,.map none] 132))=w6:=⟨_,rfl⟩;rw[hw6]at hm0 hb6 hs6 HY6 x6;have HB6:=Lib.hid (HB5.out.trans (hb6.mono (by omega)));have HTK:Hid (TabH w5.heap.size w6):=fun w' hb=>HT.out w' (HB6.out.trans (hb.mono (by omega)))
     have HV0:Hid (VaS w6 w5.heap.size (t.take 0) w6):=⟨hm0,MkS.refl _ _ _⟩;have HND0:Hid ((t.take 0).Nodup):=by show List.Nodup _;simp
     have HW6:=Lib.hid hw6;clear hm0 hb6 hw6 x0;rw[HW6.out];go_wp2
     go_loopw [38] (fun iv wr=>∃j:Nat,j<=t.length/\ iv=.int .i64 j/\ Hid (VaS w6 w5.heap.size (t.take j) wr)/\ Hid ((t.take j).Nodup)) (fun iv _=>t.length-(intOf iv).toNat)
     case atStart=>exact⟨0,by omega,rfl,HV0,HND0⟩
     case round=>
      obtain⟨j,hj,rfl,hv,hnd⟩:=hrel;clear HV0 HND0 x6;have hsr:=hv.out.mks.size;have hb6r:=hv.out.mks.below (by omega);have HBR:Hid (Below w.heap.size w wr):=HB6.out.trans (hb6r.mono (by omega));by_cases hlt:j<t.length
      ·obtain⟨b,o,rfl,hbB,vc,vk,n0,n1,n2,n3,hcu,hki⟩:=HG2.out.at j hlt
       have q0:=(HBR.out.cell (p:=⟨b,o+j*4,none⟩) (by show b<w.heap.size;omega)).trans n0;have q1:=(HBR.out.cell (p:=⟨b,o+j*4+1,none⟩) (by show b<w.heap.size;omega)).trans n1;have q2:=(HBR.out.cell (p:=⟨b,o+j*4+2,none⟩) (by show b<w.heap.size;omega)).trans n2;have q3:=(HBR.out.cell (p:=⟨b,o+j*4+3,none⟩) (by show b<w.heap.size;omega)).trans n3;have hmt:MkS w5.heap.size [] w6 (wr.alloc (.cells #[.int .i64 t[j].fact,vc,vk,.bool t[j].leaf] 106)):=hv.out.mks.alloc _;have hba:Below wr.heap.size wr (wr.alloc (.cells #[.int .i64 t[j].fact,vc,vk,.bool t[j].leaf] 106)):=(Below.refl _ _).alloc (Nat.le_refl _) _
       have hnode:=node_any w5.heap.size w5.heap.size [] (t.take j) t[j] vc vk _ (hv.out.is.below hba (Nat.le_refl _)) (IntsF.old (hcu.below (HB6.out.mono hB)) (by omega) (by omega) hmt) (IntsF.old (hki.below (HB6.out.mono hB)) (by omega) (by omega) hmt)
        (by rw[List.length_take];omega) (H64.out _ (List.getElem_mem _)) (HTK.out.on (hmt.below (by omega)))
       have HN:=Lib.hid hnode;have HMT:=Lib.hid hmt;obtain⟨ac,cc,rfl,_⟩:=SlIn.shape hcu;obtain⟨ak,ck,rfl,_⟩:=SlIn.shape hki;clear n0 n1 n2 n3 hcu hki hnode hmt hba;by_cases hx:t[j]∈t.take j
       ·have hq:=add_old hlt hx
        have HS:=Lib.hid (show R=false by
         have:¬t.Nodup:=fun hn=>by{have h2:=hn.sublist (List.take_sublist (j+1) t);rw[List.take_succ_eq_append_getElem hlt,List.nodup_append]at h2;exact h2.2.2 _ hx t[j] (by simp) rfl}
         rw[HR2.out,decide_eq_false this];rfl)
        clear hx;generalize addD (t.take j) t[j]=A at*
        generalize t[j]=x at*
        have hne:((A.2:Int) !=(j:Int))=true:=by rw[bne_iff_ne];omega
        go_wp2_with (go_at_call 106;refine HN.out.mono ?_;rintro e w7 ⟨rfl,h1,h2⟩;have HB7:=Lib.hid (h2.s.below (by have:=HMT.out.size;omega));clear h1 h2);go_ret;exact⟨ret_bool HS.out.symm,HBR.out.trans (((Below.refl _ _).alloc (by omega) _).trans (HB7.out.mono (by omega)))⟩
       {have hq:=add_take hlt hx;rw[hq]at HN;have HND:=Lib.hid (nodup_next hlt hnd.out hx);clear hx hq;generalize t[j]=x at*;(have hne:((j:Int) !=(j:Int))=false:=by simp);go_wp2_with (go_at_call 106;refine HN.out.mono ?_;rintro e w7 ⟨rfl,h1,h2⟩;have HV7:Hid (VaS w6 w5.heap.size (t.take (j+1)) w7):=⟨h1,HMT.out.trans h2.s⟩;clear h1 h2);go_roundw;(case rel=>exact⟨j+1,by omega,by go_num,HV7,HND⟩);case measure=>simp[intOf];omega}
      ·have hje:j=t.length:=by omega
       have hmi:=hv.out.is;have hndt:=hnd.out;rw[hje,List.take_length]at hmi hndt;have HS:Hid (R=decide (fromD t (visitD t (d.length+1) [] 0)=t)):=by show _=_;rw[HR2.out,decide_eq_true hndt];rfl
       have hfr:=from_any t w5.heap.size w5.heap.size [] 0 wr hmi HTB.out hpos hl2 (fun n hn=>by have:=(table_few HDK.out HTB.out n hn).1;omega);rw[show((0:Nat):Int)=0 from rfl]at hfr
       have HFR:Hid (Calls Tryz.prog 111 #[.pointer (some ⟨w5.heap.size,0,none⟩),.int .i64 0] wr fun e W'=>∃(au:Option Addr) (cu:Nat),e=.returned (.tuple #[.agg #[.slice au (fromD t (visitD t (d.length+1) [] 0)).length cu],.int .i64 0])/\ Hid (DgIn W' W'.heap.size (fromD t (visitD t (d.length+1) [] 0)) (.agg #[.slice au (fromD t (visitD t (d.length+1) [] 0)).length cu]))/\ Hid (Below wr.heap.size wr W')):=by{refine hfr.mono ?_;rintro e W' ⟨_,rfl,⟨u,rfl,h1⟩,h2⟩;obtain⟨au,cu,rfl,_⟩:=SlIn.shape h1;exact⟨au,cu,rfl,⟨_,rfl,h1⟩,h2⟩}
       have HSM:Hid (∀W' au cu,Hid (DgIn W' W'.heap.size (fromD t (visitD t (d.length+1) [] 0)) (.agg #[.slice au (fromD t (visitD t (d.length+1) [] 0)).length cu]))->Hid (Below wr.heap.size wr W')->Calls Tryz.prog 115 #[.agg #[.slice au (fromD t (visitD t (d.length+1) [] 0)).length cu],.agg #[.slice ag t.length cg]] (W'.alloc (.cells #[.slice au (fromD t (visitD t (d.length+1) [] 0)).length cu] 75)) fun e w'=>e=.returned (.bool R)/\ Below W'.heap.size W' w'):=by{intro W' au cu h1 h2;have hz:=h2.out.size;have hbx:Below W'.heap.size W' (W'.alloc (.cells #[.slice au (fromD t (visitD t (d.length+1) [] 0)).length cu] 75)):=(Below.refl _ _).alloc (Nat.le_refl _) _;have q:=sameD_any (fromD t (visitD t (d.length+1) [] 0)) t _ _ _ W'.heap.size (by simp) (h1.out.below hbx) (((HG.out.below ((HBR.out.trans (h2.out.mono (by omega))).mono hB)).mono (B':=W'.heap.size) (by omega)).below hbx);rw[<-HS.out]at q;refine q.mono ?_;rintro e w' ⟨rfl,h3⟩;exact⟨rfl,hbx.trans (h3.mono (by simp))⟩}
       have HYR:Hid (Blk wr w.heap.size 75 #[.slice ag t.length cg]):=(hb6r.block w.heap.size (by omega)).trans HY6.out;generalize fromD t (visitD t (d.length+1) [] 0)=ft at*
       clear hmi hndt hfr hje HS HR2 hb6r
       go_wp2_with (first
        | (go_at_call 111;refine HFR.out.mono ?_;rintro e w8 ⟨au,cu,rfl,HU8,HB8⟩;have y8:=((HYR.out.below HB8.out).alloc (.cells #[.slice au ft.length cu] 75)).cell 0;have hs8:=HB8.out.size;have hsy:=(HYR.out.below HB8.out).lt)
        | (go_at_call 115;refine(HSM.out _ _ _ HU8 HB8).mono ?_;rintro e w9 ⟨rfl,hb9⟩))
       go_ret;exact⟨rfl,HBR.out.trans ((HB8.out.trans (hb9.mono (by omega))).mono (by omega))⟩
theorem idx_find {α:Type}(p:α->Bool):∀(l:List α) (k:Nat),idxFrom p l (k:Int)=if l.any p then((k+l.findIdx p:Nat):Int)else-1
 | [],k=>by simp[idxFrom]
 | x::l,k=>by{rw[idxFrom,List.any_cons,List.findIdx_cons];cases h:p x with| true=>simp| false=>{rw[if_neg (by simp),Bool.false_or];have ih:=idx_find p l (k+1);have e:((k+1:Nat):Int)=(k:Int)+1:=rfl;rw[<-e,ih];(split);{simp only[cond_false];congr 1;omega};{rfl}}}
theorem idxI_any (g:Nat)(lb:Array Value)(eg:∀args w,(callFunc g args).run Tryz.prog w=.ok (.enter g args) w)(p:Int->Bool)(l:List Int)(v:Value)(w:World)(B:Nat)(hB:B<=w.heap.size)(hl:IntsIn w B l v)
  (hp:∀x∈l,∀W,Below w.heap.size w W->Calls Tryz.prog g (#[.int .i64 x]++lb) W fun e W'=>e=.returned (.bool (p x))/\ Below W.heap.size W W'):
  Calls Tryz.prog 73 #[v,.func (.func g) #[] lb] w fun e w'=>e=.returned (.int .i64 (idxFrom p l 0))/\ Below w.heap.size w w':=by
 have HL:=Lib.hid hl;have HP:=Lib.hid hp;obtain⟨al,cl,rfl,l1,l2,_⟩:=SlIn.shape hl;unfold maxLen at l2;have HR:Hid (idxFrom p l 0=idxFrom p (l.drop 0) (0:Nat)):=rfl;generalize idxFrom p l 0=R at*
 clear hl hp;go_enter Tryz.func73,Tryz.ntmps73;go_wp2
 go_loopw [8] (fun i wr=>∃k:Nat,k<=l.length/\ i=.int .i64 k/\ Hid (R=idxFrom p (l.drop k) k)/\ Hid (Below w.heap.size w wr)) (fun i _=>l.length-(intOf i).toNat)
 case atStart=>exact⟨0,by omega,rfl,HR,Below.refl _ _⟩
 case round=>
  obtain⟨k,hk,rfl,hin,hb⟩:=hrel;have hsz:=hb.out.size;by_cases hlt:k<l.length
  {obtain⟨b,o,rfl,hbB,hc⟩:=SlIn.one HL.out k hlt;have q0:=(hb.out.cell (p:=⟨b,o+k,none⟩) (by show b<w.heap.size;omega)).trans hc;have hin2:=hin.out;rw[idxFrom_drop _ l k hlt]at hin2;have HC:=Lib.hid (HP.out l[k] (List.getElem_mem _) wr hb.out);have HIN:=Lib.hid hin2;clear hc hin2 hin HR;generalize l[k]=x at*;generalize p x=pb at*;cases pb with| true=>{have HS:=Lib.hid (show(k:Int)=R by rw[HIN.out];rfl);clear HIN;go_wp2_with (go_at_fn g;refine HC.out.mono ?_;rintro e w2 ⟨rfl,hb2⟩);go_ret;exact⟨ret_int HS.out,hb.out.trans (hb2.mono hsz)⟩}| false=>{(have HS:Hid (R=idxFrom p (l.drop (k+1)) ((k+1:Nat):Int)):=by show _=_;rw[HIN.out];rfl);clear HIN;go_wp2_with (go_at_fn g;refine HC.out.mono ?_;rintro e w2 ⟨rfl,hb2⟩);go_roundw;(case rel=>exact⟨k+1,by omega,by go_num,HS,hb.out.trans (hb2.mono hsz)⟩);case measure=>simp[intOf];omega}}
  ·have HS:=Lib.hid (show(-1:Int)=R by
    have h0:=hin.out
    rw[List.drop_of_length_le (by omega)]at h0
    exact h0.symm)
   clear hin HR;go_wp2;go_ret;exact⟨ret_int HS.out,hb.out⟩
theorem next1_any (c v:Int)(b:Nat)(w:World)(hc:w.cell? ⟨b,0,none⟩=some (.int .i64 v)):
  Calls Tryz.prog 199 #[.int .i64 c,.pointer (some ⟨b,0,none⟩)] w fun e w'=>e=.returned (.bool (decide (v<c)))/\ Below w.heap.size w w':=by
 go_enter Tryz.func199,Tryz.ntmps199;go_wp2;go_ret;exact⟨rfl,Below.refl _ _⟩
def nextG (n:Dn)(v:Int):Int:=if n.cuts.any (fun c=>decide (v<c))then(nextI n.cuts v:Int)else(n.kids.length:Int)-1
theorem next_any (n:Dn)(v:Int)(vc vk:Value)(w:World)(B:Nat)(hB:B<=w.heap.size)(hc:IntsIn w B n.cuts vc)(hk:IntsIn w B n.kids vk):
  Calls Tryz.prog 156 #[.agg #[.int .i64 n.fact,vc,vk,.bool n.leaf],.int .i64 v] w fun e w'=>e=.returned (.int .i64 (nextG n v))/\ Below w.heap.size w w':=by
 obtain⟨ac,cc,rfl,_⟩:=SlIn.shape hc;obtain⟨ak,ck,rfl,k1,k2,_⟩:=SlIn.shape hk;unfold maxLen at k2;have hb2:Below w.heap.size w ((w.alloc (.cells #[.int .i64 n.fact,.slice ac n.cuts.length cc,.slice ak n.kids.length ck,.bool n.leaf] 106)).alloc (.cells #[.int .i64 v] 3)):=((Below.refl _ _).alloc (Nat.le_refl _) _).alloc (by simp) _;have K0:Blk ((w.alloc (.cells #[.int .i64 n.fact,.slice ac n.cuts.length cc,.slice ak n.kids.length ck,.bool n.leaf] 106)).alloc (.cells #[.int .i64 v] 3)) w.heap.size 106 #[.int .i64 n.fact,.slice ac n.cuts.length cc,.slice ak n.kids.length ck,.bool n.leaf]:=(Blk.new w 106 #[.int .i64 n.fact,.slice ac n.cuts.length cc,.slice ak n.kids.length ck,.bool n.leaf]).alloc _
 have K1:Blk ((w.alloc (.cells #[.int .i64 n.fact,.slice ac n.cuts.length cc,.slice ak n.kids.length ck,.bool n.leaf] 106)).alloc (.cells #[.int .i64 v] 3)) (w.heap.size+1) 3 #[.int .i64 v]:=by{have q:=Blk.new (w.alloc (.cells #[.int .i64 n.fact,.slice ac n.cuts.length cc,.slice ak n.kids.length ck,.bool n.leaf] 106)) 3 #[.int .i64 v];simpa only[World.size_alloc]using q}
 have hs2:(((w.alloc (.cells #[.int .i64 n.fact,.slice ac n.cuts.length cc,.slice ak n.kids.length ck,.bool n.leaf] 106)).alloc (.cells #[.int .i64 v] 3))).heap.size=w.heap.size+2:=by simp
 obtain⟨W,hW⟩:∃W,((w.alloc (.cells #[.int .i64 n.fact,.slice ac n.cuts.length cc,.slice ak n.kids.length ck,.bool n.leaf] 106)).alloc (.cells #[.int .i64 v] 3))=W:=⟨_,rfl⟩;rw[hW]at hb2 K0 K1 hs2;have HW:=Lib.hid hW;have HK0:=Lib.hid K0;have HK1:=Lib.hid K1;have HB2:=Lib.hid hb2;have x1:=K0.cell 1
 have hI:=idxI_any 199 #[.pointer (some ⟨w.heap.size+1,0,none⟩)] (enters_of Tryz.func199 (by kernel_rfl) rfl) (fun c=>decide (v<c)) n.cuts _ W B (by omega) (hc.below (hb2.mono hB))
  (fun x _ W' hb=>next1_any x v (w.heap.size+1) W' ((K1.below hb).cell 0))
 have hfi:=idx_find (fun c=>decide (v<c)) n.cuts 0;rw[Nat.zero_add,show((0:Nat):Int)=0 from rfl]at hfi;rw[hfi]at hI;have HI:=Lib.hid hI;have HG:Hid (nextG n v=if n.cuts.any (fun c=>decide (v<c))then((n.cuts.findIdx fun c=>decide (v<c):Nat):Int)else(n.kids.length:Int)-1):=rfl;generalize nextG n v=R at*
 clear hc hk hW hb2 K0 K1 hI hfi;generalize(n.cuts.findIdx fun c=>decide (v<c))=fi at*
 generalize n.cuts.any (fun c=>decide (v<c))=an at*
 have f0:(0:Int)<=(fi:Int):=Int.natCast_nonneg _;cases an with| true=>{have HS:=Lib.hid (show(fi:Int)=R by rw[HG.out];rfl);(have hlt:decide ((fi:Int)<0)=false:=by simp);clear HG;go_enter Tryz.func156,Tryz.ntmps156;go_upto_region 1 with(fail);rw[HW.out];go_wp2_with (go_at_call 73;refine HI.out.mono ?_;rintro e w3 ⟨rfl,hb3⟩);go_ret;exact⟨ret_int HS.out,HB2.out.trans (hb3.mono (by omega))⟩}| false=>{have HS:=Lib.hid (show(n.kids.length:Int)-1=R by rw[HG.out];rfl);have hwr:IntKind.i64.wrap ((n.kids.length:Int)-1)=(n.kids.length:Int)-1:=IntWalk.i64_in _ (by omega);clear HG;go_enter Tryz.func156,Tryz.ntmps156;go_upto_region 1 with(fail);rw[HW.out];go_wp2_with (go_at_call 73;refine HI.out.mono ?_;rintro e w3 ⟨rfl,hb3⟩;have x2:=(HK0.out.below hb3).cell 2);go_ret;exact⟨ret_int HS.out,HB2.out.trans (hb3.mono (by omega))⟩}
theorem nextG_eq {n:Dn}(h:n.kids.length=n.cuts.length+1)(v:Int):nextG n v=(nextI n.cuts v:Int):=by
 unfold nextG
 split
 {rfl}
 ·next hn=>
  have:nextI n.cuts v=n.cuts.length:=by{unfold nextI;rw[List.findIdx_eq_length];intro x hx;cases hd:decide (v<x)with| false=>rfl| true=>exact absurd (List.any_eq_true.2 ⟨x,hx,hd⟩) hn}
  rw[this,h];omega
theorem cell_one_dg {w:World}{x:Value}{t:TypeId}:∀j u,[x][j]? =some u->(w.alloc (.cells #[x] t)).cell? ((⟨w.heap.size,0,none⟩:Addr).add j)=some u:=by
 intro j u hj
 match j,hj with| 0,hj=>{simp at hj;subst hj;exact(Blk.new w t #[x]).cell 0}
theorem fleast_any (d:List Fa)(v:Value)(w:World)(B:Nat)(hB:B<=w.heap.size)(hd:DomIn w B d v)(hv:validD d=true):
  Calls Tryz.prog 72 #[v] w fun e w'=>∃u,e=.returned u/\ w'.ownsRow w.heap.size 3 1 u (d.map Fa.lo).length ((d.map Fa.lo).map iW)/\ Below w.heap.size w w':=by
 have HD:=Lib.hid hd;have hdl:=(dom_ok hv).len;obtain⟨_,rfl,hd2⟩:=hd;have HD2:=Lib.hid hd2;obtain⟨ad,cd,rfl,l1,l2,_⟩:=SlIn.shape hd2;unfold maxLen at l2;have HB1:Hid (Below w.heap.size w (w.alloc (.cells #[.slice ad d.length cd] 25))):=(Below.refl _ _).alloc (Nat.le_refl _) _;have HK1:Hid (Blk (w.alloc (.cells #[.slice ad d.length cd] 25)) w.heap.size 25 #[.slice ad d.length cd]):=Blk.new _ _ _;have hs1:(w.alloc (.cells #[.slice ad d.length cd] 25)).heap.size=w.heap.size+1:=by simp
 obtain⟨W,hW⟩:∃W,(w.alloc (.cells #[.slice ad d.length cd] 25))=W:=⟨_,rfl⟩;rw[hW]at HB1 HK1 hs1;have hva:=valid_any d _ W B (by omega) (HD.out.below (HB1.out.mono hB));rw[hv]at hva;have HV:=Lib.hid hva;have HW:=Lib.hid hW;have x0:=HK1.out.cell 0;obtain⟨i0,hi0,hz0,hz1,hz2⟩:=info_parts intInfo3;clear hd2 hW hva hv;go_enter Tryz.func72,Tryz.ntmps72;go_upto_region 1 with(fail);rw[HW.out];go_upto_region 4 with(go_at_call 50;refine HV.out.mono ?_;rintro e w2 ⟨rfl,hb2⟩;have y0:=(HK1.out.below hb2).cell 0;have HB2:=Lib.hid (HB1.out.trans (hb2.mono (by omega)));have hs2:=hb2.size;clear hb2);go_wp2
 go_loopw [3,12] (fun cv iv wr=>∃j:Nat,j<=d.length/\ iv=.int .i64 j/\ Hid (wr.ownsRow w.heap.size 3 1 cv j (((d.take j).map Fa.lo).map iW))/\ Hid (Below w.heap.size w wr)) (fun _ iv _=>d.length-(intOf iv).toNat)
 case atStart=>exact⟨0,by omega,rfl,World.ownsRow_nil _ _ _ _,HB2⟩
 case round=>(obtain⟨j,hj,rfl,ho,hb⟩:=hrel;have hsz:=hb.out.size;obtain⟨ca,cc,hcv⟩:=own_len ho.out;subst hcv;by_cases hlt:j<d.length;{obtain⟨b,o,rfl,hbB,f0,f1,f2,f3,w1,w2',w3,w4⟩:=HD2.out.at j hlt;have q0:=(hb.out.cell (p:=⟨b,o+j*4,none⟩) (by show b<w.heap.size;omega)).trans f0;have q1:=(hb.out.cell (p:=⟨b,o+j*4+1,none⟩) (by show b<w.heap.size;omega)).trans f1;have q2:=(hb.out.cell (p:=⟨b,o+j*4+2,none⟩) (by show b<w.heap.size;omega)).trans f2;have q3:=(hb.out.cell (p:=⟨b,o+j*4+3,none⟩) (by show b<w.heap.size;omega)).trans f3;(have htk:((d.take (j+1)).map Fa.lo).map iW=((d.take j).map Fa.lo).map iW++[iW d[j].lo]:=by rw[List.take_succ_eq_append_getElem hlt,List.map_append,List.map_append];rfl);have HTK:=Lib.hid htk;clear f0 f1 f2 f3 w1 w2' w3 w4 htk;generalize d[j]=fa at*;have HO2:=Lib.hid ((ho.out.alloc (.cells #[.string fa.name,.int .i64 fa.kind,.int .i64 fa.lo,.int .i64 fa.hi] 86)).alloc (.cells #[.int .i64 fa.lo] 3));have hb3:Below w.heap.size w ((wr.alloc (.cells #[.string fa.name,.int .i64 fa.kind,.int .i64 fa.lo,.int .i64 fa.hi] 86)).alloc (.cells #[.int .i64 fa.lo] 3)):=(hb.out.alloc (by omega) _).alloc (by simp;omega) _;have HB3:=Lib.hid hb3;clear hb3;go_wp2_with (at_builtin;refine wpList_append_own_at _ (by rfl) _ _ 27 (by rfl) w.heap.size 3 i0 _ 1 8 Tryz.underlying27 hi0 hz0 hz1 hz2 rfl (by decide) _ j _ (by rfl) HO2.out ⟨wr.heap.size+1,0,none⟩ 1 1 [iW fa.lo] (by rfl) (by rfl) (by have q:=cell_one_dg (w:=wr.alloc (.cells #[.string fa.name,.int .i64 fa.kind,.int .i64 fa.lo,.int .i64 fa.hi] 86)) (x:=iW fa.lo) (t:=3);rw[World.size_alloc]at q;exact q) (by intro u hu;simp at hu;subst hu;rfl) (by unfold maxLen;omega) (by omega) (by simp;omega) ?_;intro v4 w4 hown4 hgrow4 hnil4 hat4;refine Hid.out ?_);refine Lib.hid ?_;obtain⟨g4,cap4,rfl,hg4,hglt4⟩:=hown4.form (by omega);have HOW:Hid (w4.ownsRow w.heap.size 3 1 (.slice (some ⟨g4,0,none⟩) (j+1) cap4) (j+1) (((d.take (j+1)).map Fa.lo).map iW)):=by{show World.ownsRow _ _ _ _ _ _ _;rw[HTK.out];exact hown4};have HB4:Hid (Below w.heap.size w w4):=HB3.out.grown hgrow4 (by have:=HB3.out.size;omega) (fun k hk=>(HO2.out.lt k hk).1);clear hown4 hgrow4 hnil4 hat4;go_wp2;go_roundw;(case rel=>exact⟨j+1,by omega,by go_num,HOW,HB4⟩);case measure=>simp[intOf];omega};{(obtain rfl:j=d.length:=by omega);have HO3:=ho.out;rw[List.take_length]at HO3;have HO4:=Lib.hid HO3;clear HO3 ho;go_wp2;go_ret;exact⟨_,rfl,by rw[List.length_map];exact HO4.out,hb.out⟩})
end Go.Proofs.YtihniipjfdenbaaGreatDoor
