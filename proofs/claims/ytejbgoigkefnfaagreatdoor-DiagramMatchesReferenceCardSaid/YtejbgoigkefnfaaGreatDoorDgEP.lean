/- The walks of slices.Equal at ints, of the closure of diagram.Same, of slices.EqualFunc at nodes, and of diagram.Same. No conditions. -/
import Derived.Test.YtejbgoigkefnfaaGreatDoorAl
import Derived.Test.YtejbgoigkefnfaaGreatDoorDgBN
set_option maxRecDepth 100000
set_option maxHeartbeats 8000000
namespace Go.Proofs.YtejbgoigkefnfaaGreatDoor
open Go.RowKit
theorem vy (hi last:Int)(l:List Int)(j:Nat)(h:j<l.length):mn hi last (l.drop j)=if l[j]<=last\/hi<l[j]then false else mn hi l[j] (l.drop (j+1)):=by
 rw[Qb h,mn]
def Vj (l:List Int)(j:Nat):Option Int:=if j=0 then none else some (l.getD (j-1) 0)
theorem xy (t:List Dn)(fact:Int)(p:Option Int)(l:List Int)(j:Nat)(h:j<l.length):Ui t fact p (l.drop j)=if l[j]<0\/(t.length:Int)<=l[j]\/p=some l[j]\/((t.getD l[j].toNat default).kids≠[]/\ (t.getD l[j].toNat default).fact<=fact)then false else Ui t fact (some l[j]) (l.drop (j+1)):=by
 rw[Qb h,Ui]
theorem fh {α:Type}{l:List α}:(((l.length:Nat):Int)==0)=decide (l=[]):=by cases l<;>simp<;>omega
theorem EH (d:List Fa)(t:List Dn)(n:Dn)(vg vc vk u:Value)(w:World)(B:Nat)(hB:B<=w.heap.size)(hg:oe w B t vg)(hc:IntsIn w B n.Ja vc)(hk:IntsIn w B n.kids vk)(hd:bf w B d u)(hl:n.Ja.length<=1000000):
    Calls Tryz.prog 53 #[vg,.agg #[.int .i64 n.fact,vc,vk,.bool n.leaf],u] w fun e w'=>e=.returned (.bool (Xd d t n))/\ Below w.heap.size w w':=by
  obtain⟨fact,Ja,kids,leaf⟩:=n
  dsimp only at hc hk hl⊢
  have HG:=da hg;have HD:=da hd;have HC:=da hc;have HK:=da hk;obtain⟨_,rfl,hg2⟩:=hg;obtain⟨_,rfl,Tm⟩:=hd;have Uv:=da hg2;have VG:=da Tm;obtain⟨ag,cg,rfl,g1,g2,_⟩:=Xa.shape hg2;obtain⟨ad,cd,rfl,d1,d2,_⟩:=Xa.shape Tm;obtain⟨ac,cc,rfl,c1,c2,_⟩:=Xa.shape hc;obtain⟨ak,ck,rfl,k1,k2,_⟩:=Xa.shape hk;unfold maxLen at g2 d2 c2 k2;have hl:Ja.length<=1000000:=hl;have aE:Below w.heap.size w (((w.alloc (.cells #[.slice ag t.length cg] 34)).alloc (.cells #[.int .i64 fact,.slice ac Ja.length cc,.slice ak kids.length ck,.bool leaf] 56)).alloc (.cells #[.slice ad d.length cd] 27)):=(((za _ _).alloc (ja _) _).alloc la _).alloc (by simp;omega) _;have K0:Bb (((w.alloc (.cells #[.slice ag t.length cg] 34)).alloc (.cells #[.int .i64 fact,.slice ac Ja.length cc,.slice ak kids.length ck,.bool leaf] 56)).alloc (.cells #[.slice ad d.length cd] 27)) w.heap.size 34 #[.slice ag t.length cg]:=((Bb.new w 34 #[.slice ag t.length cg]).alloc _).alloc _
  have K1:Bb (((w.alloc (.cells #[.slice ag t.length cg] 34)).alloc (.cells #[.int .i64 fact,.slice ac Ja.length cc,.slice ak kids.length ck,.bool leaf] 56)).alloc (.cells #[.slice ad d.length cd] 27)) (w.heap.size+1) 56 #[.int .i64 fact,.slice ac Ja.length cc,.slice ak kids.length ck,.bool leaf]:=by{have q:=(Bb.new (w.alloc (.cells #[.slice ag t.length cg] 34)) 56 #[.int .i64 fact,.slice ac Ja.length cc,.slice ak kids.length ck,.bool leaf]).alloc (.cells #[.slice ad d.length cd] 27);simpa only[Ba]using q}
  have K2:Bb (((w.alloc (.cells #[.slice ag t.length cg] 34)).alloc (.cells #[.int .i64 fact,.slice ac Ja.length cc,.slice ak kids.length ck,.bool leaf] 56)).alloc (.cells #[.slice ad d.length cd] 27)) (w.heap.size+2) 27 #[.slice ad d.length cd]:=by{have q:=Bb.new ((w.alloc (.cells #[.slice ag t.length cg] 34)).alloc (.cells #[.int .i64 fact,.slice ac Ja.length cc,.slice ak kids.length ck,.bool leaf] 56)) 27 #[.slice ad d.length cd];simpa only[Ba]using q}
  have XG:((((w.alloc (.cells #[.slice ag t.length cg] 34)).alloc (.cells #[.int .i64 fact,.slice ac Ja.length cc,.slice ak kids.length ck,.bool leaf] 56)).alloc (.cells #[.slice ad d.length cd] 27))).heap.size=w.heap.size+3:=by simp
  obtain⟨W,hW⟩:∃W,(((w.alloc (.cells #[.slice ag t.length cg] 34)).alloc (.cells #[.int .i64 fact,.slice ac Ja.length cc,.slice ak kids.length ck,.bool leaf] 56)).alloc (.cells #[.slice ad d.length cd] 27))=W:=⟨_,rfl⟩;rw[hW]at aE K0 K1 K2 XG;have HW:=da hW;have Qc:=da aE;have Be:=da K0;have Gf:=da K1;have Dj:=da K2;obtain⟨R,hR⟩:∃R,Xd d t ⟨fact,Ja,kids,leaf⟩=R:=⟨_,rfl⟩;rw[hR];have HR:=da hR;have x0:=K0.cell 0;have y0:=K1.cell 0;have y1:=K1.cell 1;have y2:=K1.cell 2;have y3:=K1.cell 3;have z0:=K2.cell 0;have cw:=fh (l:=kids);have bE:=fh (l:=Ja);clear hg2 Tm hc hk hW aE K0 K1 K2 hR;go_enter Tryz.func53,Tryz.ntmps53;go_upto_region 1 with(fail);rw[HW.out];by_cases Ii:kids=[]
  . have e1:((kids.length:Int)==0)=true:=by rw[cw];simpa using Ii
    have HS:=da (show R=(fact==0&& Ja.isEmpty) by rw[<-HR.out];unfold Xd;rw[if_pos Ii]);clear cw Ii;cases a1:(fact==0)with| false=>{go_wp2;go_ret;exact⟨Oa (by rw[HS.out,a1];rfl),Qc.out⟩}| true=>{(have e2:((Ja.length:Int)==0)=Ja.isEmpty:=by rw[bE];cases Ja<;>simp);clear bE;go_wp2;go_ret;exact⟨Oa (by rw[HS.out,a1];rfl),Qc.out⟩}
  . have e1:((kids.length:Int)==0)=false:=by rw[cw];simpa using Ii
    have jA:R=if leaf=true\/fact<0\/(d.length:Int)<=fact\/Ja=[]\/kids.length≠Ja.length+1 then false else mn (Mh d fact.toNat) (Pe d fact.toNat) Ja&& Ui t fact none kids:=by{rw[<-HR.out];unfold Xd;rw[Aa Ii]}
    have Fi:=da jA;clear cw jA;have yh:(leaf=true\/fact<0\/(d.length:Int)<=fact\/Ja=[]\/kids.length≠Ja.length+1)->R=false:=fun h=>by rw[Fi.out,if_pos h]
    cases a1:leaf with
    | true=>{have HS:=da (yh (.inl a1));clear yh Ii bE;subst a1;go_wp2;go_ret;exact⟨Oa HS.out.symm,Qc.out⟩}
    | false=>
      subst a1;cases a2:decide (fact<0)with
      | true=>{have HS:=da (yh (.inr (.inl (by simpa using a2))));clear yh Ii bE;go_wp2;go_ret;exact⟨Oa HS.out.symm,Qc.out⟩}
      | false=>
        cases a3:decide ((d.length:Int)<=fact)with
        | true=>{have HS:=da (yh (.inr (.inr (.inl (by simpa using a3)))));clear yh Ii bE;go_wp2;go_ret;exact⟨Oa HS.out.symm,Qc.out⟩}
        | false=>
          cases a4:((Ja.length:Int)==0)with
          | true=>{have HS:=da (yh (.inr (.inr (.inr (.inl (by rw[bE]at a4;simpa using a4))))));clear yh Ii bE;go_wp2;go_ret;exact⟨Oa HS.out.symm,Qc.out⟩}
          | false=>
            cases a5:((kids.length:Int) !=(Ja.length:Int)+1)with
            | true=>{have LN:kids.length≠Ja.length+1:=by{(have:(kids.length:Int)≠(Ja.length:Int)+1:=by simpa using a5);omega};have HS:=da (yh (.inr (.inr (.inr (.inr LN)))));clear LN;clear yh Ii bE;go_wp2;go_ret;exact⟨Oa HS.out.symm,Qc.out⟩}
            | false=>
              have b2:0<=fact:=by simpa using a2
              obtain⟨i,rfl⟩:∃i:Nat,fact=(i:Int):=⟨fact.toNat,ia⟩
              have hi:i<d.length:=by{(have:¬((d.length:Int)<=(i:Int)):=by simpa using a3);omega}
              have hce:Ja≠[]:=fun e=>by rw[bE,e]at a4;simp at a4
              have dl:kids.length=Ja.length+1:=by{(have:(kids.length:Int)=(Ja.length:Int)+1:=by simpa using a5);omega}
              have hn:¬(false=true\/(i:Int)<0\/(d.length:Int)<=(i:Int)\/Ja=[]\/kids.length≠Ja.length+1):=by
                rintro(h | h | h | h | h)
                . cases h
                . omega
                . omega
                . exact hce h
                . exact h dl
              have HS:=Fi.out;rw[Aa hn,Gb]at HS;obtain⟨db,df,rfl,D_,f0,f1,f2,f3,f4,f5,f6,f7⟩:=VG.out.at i hi;clear f0 f1 f4 f5 f6 f7;have N0:Pe d i=d[i].lo:=by unfold Pe;rw[Eb _ _ _ hi]
              have O0:Mh d i=d[i].hi:=by unfold Mh;rw[Eb _ _ _ hi]
              rw[N0,O0]at HS;generalize d[i].lo=lo at*
              generalize d[i].hi=hx at*
              have q2:=(Qc.out.cell (p:=⟨db,df+i*4+2,none⟩) (by show db<w.heap.size;omega)).trans f2;have q3:=(Qc.out.cell (p:=⟨db,df+i*4+3,none⟩) (by show db<w.heap.size;omega)).trans f3;have HST:=da HS;have M8:Hid (kids.length=Ja.length+1):=dl;have aS:kids.length<=1000001:=by omega
              have hin:(i:Int)<(d.length:Int):=by omega
              have i0:(0:Int)<=(i:Int):=Ab i;clear yh hn bE Ii hce HR Fi f2 f3 N0 O0 dl HS hi;go_wp2
              go_loopw [7,66] (fun lv iv wr=>∃(j:Nat) (last:Int),j<=Ja.length/\ iv=.int .i64 j/\ lv=.int .i64 last/\ Hid (wr=W)/\ Hid (R=(mn hx last (Ja.drop j)&& Ui t i none kids))) (fun _ iv _=>Ja.length-(intOf iv).toNat)
              case atStart=>exact⟨0,lo,ia,rfl,rfl,rfl,HST⟩
              case round=>
                obtain⟨j,last,hj,rfl,rfl,hwr,WK⟩:=hrel;have hwr:=hwr.out;subst hwr;by_cases hlt:j<Ja.length
                . obtain⟨cb,co,rfl,hcB,hcc⟩:=Xa.one HC.out j hlt
                  have FH:=(Qc.out.cell (p:=⟨cb,co+j,none⟩) (by show cb<w.heap.size;omega)).trans hcc;have MN:=vy hx last Ja j hlt;have Ri:=WK.out;rw[MN]at Ri;clear MN hcc;generalize Ja[j]=cj at*
                  by_cases b1:cj<=last
                  . have XK:decide (cj<=last)=true:=by simpa using b1
                    have HS:=da (show R=false by rw[Ri,if_pos (.inl b1)];rfl);clear Ri b1;go_wp2;go_ret;exact⟨Oa HS.out.symm,Qc.out⟩
                  . have XK:decide (cj<=last)=false:=by simpa using b1
                    by_cases b2:hx<cj
                    . have YK:decide (hx<cj)=true:=by simpa using b2
                      have HS:=da (show R=false by rw[Ri,if_pos (.inr b2)];rfl);clear Ri b1 b2;go_wp2;go_ret;exact⟨Oa HS.out.symm,Qc.out⟩
                    . have YK:decide (hx<cj)=false:=by simpa using b2
                      have HS:Hid (R=(mn hx cj (Ja.drop (j+1))&& Ui t i none kids)):=by{show _=_;rw[Ri,Aa ia]}
                      clear Ri b1 b2;go_wp2;go_roundw
                      case rel=>exact⟨j+1,cj,ia,by go_num,rfl,(show True from trivial),HS⟩
                      case measure=>simp[intOf];omega
                . have Ri:=WK.out
                  rw[Ta ia]at Ri;have Lr:Hid (R=Ui t i (Vj kids 0) (kids.drop 0)):=by show _=_;rw[Ri];rfl
                  clear Ri;go_wp2
                  go_loopw [89] (fun iv wq=>∃(m:Nat),m<=kids.length/\ iv=.int .i64 m/\ Hid (Below wr.heap.size wr wq)/\ Hid (R=Ui t i (Vj kids m) (kids.drop m))) (fun iv _=>kids.length-(intOf iv).toNat)
                  case atStart=>exact⟨0,ia,rfl,za _ _,Lr⟩
                  case round=>
                    rename World=>wq
                    obtain⟨m,hm,rfl,hq,WV⟩:=hrel;have Xl:Hid (Below w.heap.size w wq):=Qc.out.trans (hq.out.mono ia);have N8:=hq.out.size;clear x0 y0 y1 y2 y3 z0 Lr WK;have x0:=(Be.out.below hq.out).cell 0;have y0:=(Gf.out.below hq.out).cell 0;have y2:=(Gf.out.below hq.out).cell 2;by_cases NN:m<kids.length
                    . obtain⟨kb,ko,rfl,Ou,hkc⟩:=Xa.one HK.out m NN
                      have bS:=(Xl.out.cell (p:=⟨kb,ko+m,none⟩) (by show kb<w.heap.size;omega)).trans hkc;have MN:=xy t i (Vj kids m) kids m NN;have Gs:Vj kids (m+1)=some kids[m]:=by unfold Vj;rw[Aa ia,Ke,Eb _ _ _ NN]
                      have Ri:=WV.out;rw[MN]at Ri;have ax:=da Gs;generalize kids[m]=k at*
                      have ik:=da Ri;clear MN hkc WV Ri Gs;by_cases b1:k<0
                      . have XK:decide (k<0)=true:=by simpa using b1
                        have HS:=da (show R=false by rw[ik.out,if_pos (.inl b1)]);clear b1
                        (go_wp2;go_quiet(fail);go_wp2;go_ret;exact⟨Oa HS.out.symm,Xl.out.trans (World.Za _ _ _)⟩)
                      . have XK:decide (k<0)=false:=by simpa using b1
                        by_cases b2:(t.length:Int)<=k
                        . have YK:decide ((t.length:Int)<=k)=true:=by simpa using b2
                          have HS:=da (show R=false by rw[ik.out,if_pos (.inr (.inl b2))]);clear b2
                          (go_wp2;go_quiet(fail);go_wp2;go_ret;exact⟨Oa HS.out.symm,Xl.out.trans (World.Za _ _ _)⟩)
                        . have YK:decide ((t.length:Int)<=k)=false:=by simpa using b2
                          have hkn:k.toNat<t.length:=by omega
                          have hk0:(0:Int)<=k:=by omega
                          have hk1:k<(t.length:Int):=by omega
                          obtain⟨gb,go,rfl,vU,vc',vk',n0,n1,n2,n3,Jj,hki⟩:=Uv.out.at k.toNat hkn;obtain⟨ka,kc,rfl,_⟩:=Xa.shape hki;have q0:=(Xl.out.cell (p:=⟨gb,go+k.toNat*4,none⟩) (by show gb<w.heap.size;omega)).trans n0;have q2:=(Xl.out.cell (p:=⟨gb,go+k.toNat*4+2,none⟩) (by show gb<w.heap.size;omega)).trans n2;have qv:=ik.out;rw[Eb _ _ _ hkn]at qv;have LC:((t[k.toNat].kids).length=0↔t[k.toNat].kids=[]):=Uf;clear n0 n1 n2 n3 Jj hki ik b1 b2;generalize t[k.toNat].fact=kf at*
                          generalize t[k.toNat].kids=kk at*
                          generalize kk.length=kl at*
                          by_cases fB:m=0
                          . have aF:decide ((0:Int)<(m:Int))=false:=by simp;omega
                            have hm2:decide (0<m)=false:=by simp;omega
                            have tj:Hid (R=if kk≠[]/\ kf<=(i:Int)then false else Ui t i (some k) (kids.drop (m+1))):=by
                              show _=_
                              rw[qv,show Vj kids m=none by unfold Vj;rw[if_pos fB]];congr 1
                              rw[eq_iff_iff];constructor
                              . rintro(h | h | h | h)
                                . omega
                                . omega
                                . cases h
                                . exact h
                              . intro h;exact .inr (.inr (.inr h))
                            clear qv fB
                            (cases b5:decide (kk=[])with
                              | true=>
                                (have hq1:decide ((0:Int)<(kl:Int))=false:=(by have:kk=[]:=(by simpa using b5);have:kl=0:=LC.2 this;simp;omega)
                                 have GH:decide (0<kl)=false:=(by simpa using hq1)
                                 have HS:=da (show R=_ by rw[tj.out,Aa (fun h=>h.1 (by simpa using b5))])
                                 clear tj
                                 (go_wp2;go_quiet(fail);go_wp2;go_roundw;(case rel=>exact⟨m+1,ia,by go_num,hq.out.trans (World.Za _ _ _),(by show _=_;rw[ax.out];exact HS.out)⟩);(case measure=>simp[intOf];omega)))
                              | false=>
                                (have hq1:decide ((0:Int)<(kl:Int))=true:=(by have:kk≠[]:=(by simpa using b5);have:kl≠0:=fun e=>this (LC.1 e);simp;omega)
                                 have GH:decide (0<kl)=true:=(by simpa using hq1)
                                 cases b6:decide (kf<=(i:Int))with
                                 | true=>
                                   (have HS:=da (show R=false by rw[tj.out,if_pos ⟨by simpa using b5,by simpa using b6⟩])
                                    clear tj
                                    (go_wp2;go_quiet(fail);go_wp2;go_ret;exact⟨Oa HS.out.symm,Xl.out.trans (World.Za _ _ _)⟩))
                                 | false=>
                                   (have HS:=da (show R=_ by rw[tj.out,Aa (fun h=>by have:=h.2;simp at b6;omega)])
                                    clear tj
                                    (go_wp2;go_quiet(fail);go_wp2;go_roundw;(case rel=>exact⟨m+1,ia,by go_num,hq.out.trans (World.Za _ _ _),(by show _=_;rw[ax.out];exact HS.out)⟩);(case measure=>simp[intOf];omega)))))
                          . obtain⟨mp,kE⟩:∃mp,m=mp+1:=⟨m-1,ia⟩
                            have QN:mp<kids.length:=by omega
                            obtain⟨D8,E8,hk',P0,JH⟩:=Xa.one HK.out mp QN;obtain⟨rfl,rfl⟩:kb=D8/\ ko=E8:=by simpa using hk'
                            have E_:=(Xl.out.cell (p:=⟨kb,ko+mp,none⟩) (by show kb<w.heap.size;omega)).trans JH;have hwr:IntKind.i64.wrap ((m:Int)-1)=(mp:Int):=by rw[Bd _ ia];omega
                            have hpv:Vj kids m=some kids[mp]:=by unfold Vj;rw[Aa fB,kE,Ke,Eb _ _ _ QN]
                            have aF:decide ((0:Int)<(m:Int))=true:=by simp;omega
                            have hm2:decide (0<m)=true:=by simp;omega
                            rw[hpv]at qv;clear JH hpv hk' kE;generalize kids[mp]=kp at*
                            cases b4:(kp==k)with
                            | true=>{have HS:=da (show R=false by rw[qv,if_pos (.inr (.inr (.inl (by rw[eq_of_beq b4]))))]);clear qv;(go_wp2;go_quiet(fail);go_wp2;go_ret;exact⟨Oa HS.out.symm,Xl.out.trans (World.Za _ _ _)⟩)}
                            | false=>
                              have tj:Hid (R=if kk≠[]/\ kf<=(i:Int)then false else Ui t i (some k) (kids.drop (m+1))):=by
                                show _=_
                                rw[qv];congr 1
                                rw[eq_iff_iff];constructor
                                . rintro(h | h | h | h)
                                  . omega
                                  . omega
                                  . exfalso
                                    have h:kp=k:=by simpa using h
                                    rw[h]at b4;simp at b4
                                  . exact h
                                . intro h;exact .inr (.inr (.inr h))
                              clear qv
                              (cases b5:decide (kk=[])with
                                | true=>
                                  (have hq1:decide ((0:Int)<(kl:Int))=false:=(by have:kk=[]:=(by simpa using b5);have:kl=0:=LC.2 this;simp;omega)
                                   have GH:decide (0<kl)=false:=(by simpa using hq1)
                                   have HS:=da (show R=_ by rw[tj.out,Aa (fun h=>h.1 (by simpa using b5))])
                                   clear tj
                                   (go_wp2;go_quiet(fail);go_wp2;go_roundw;(case rel=>exact⟨m+1,ia,by go_num,hq.out.trans (World.Za _ _ _),(by show _=_;rw[ax.out];exact HS.out)⟩);(case measure=>simp[intOf];omega)))
                                | false=>
                                  (have hq1:decide ((0:Int)<(kl:Int))=true:=(by have:kk≠[]:=(by simpa using b5);have:kl≠0:=fun e=>this (LC.1 e);simp;omega)
                                   have GH:decide (0<kl)=true:=(by simpa using hq1)
                                   cases b6:decide (kf<=(i:Int))with
                                   | true=>
                                     (have HS:=da (show R=false by rw[tj.out,if_pos ⟨by simpa using b5,by simpa using b6⟩])
                                      clear tj
                                      (go_wp2;go_quiet(fail);go_wp2;go_ret;exact⟨Oa HS.out.symm,Xl.out.trans (World.Za _ _ _)⟩))
                                   | false=>
                                     (have HS:=da (show R=_ by rw[tj.out,Aa (fun h=>by have:=h.2;simp at b6;omega)])
                                      clear tj
                                      (go_wp2;go_quiet(fail);go_wp2;go_roundw;(case rel=>exact⟨m+1,ia,by go_num,hq.out.trans (World.Za _ _ _),(by show _=_;rw[ax.out];exact HS.out)⟩);(case measure=>simp[intOf];omega)))))
                    . have Ri:=WV.out
                      rw[Ta ia]at Ri;have HS:=da (show R=true by rw[Ri];cases Vj kids m<;>rfl);clear Ri;go_wp2;go_ret;exact⟨Oa HS.out.symm,Xl.out⟩
theorem Mr {α:Type}[DecidableEq α](x y:List α)(k:Nat)(h:k<x.length)(h':k<y.length):decide (x.drop k=y.drop k)=(decide (x[k]=y[k])&& decide (x.drop (k+1)=y.drop (k+1))):=by
 have e1:=Qb h;have e2:=Qb h';rw[Nc,ub,decide_eq_true_iff,decide_eq_true_iff,decide_eq_true_iff,e1,e2,List.cons.injEq]
theorem EJ (x y:List Int)(v u:Value)(w:World)(B:Nat)(hB:B<=w.heap.size)(hx:IntsIn w B x v)(hy:IntsIn w B y u):
  Calls Tryz.prog 83 #[v,u] w fun e w'=>e=.returned (.bool (decide (x=y)))/\ Below w.heap.size w w':=by
 have HX:=da hx;have HY:=da hy;obtain⟨a1,c1,rfl,l1,l2,_⟩:=Xa.shape hx;obtain⟨a2,c2,rfl,l3,l4,_⟩:=Xa.shape hy;unfold maxLen at l2 l4;obtain⟨R,hR⟩:∃R,decide (x=y)=R:=⟨_,rfl⟩;rw[hR];clear hx hy;by_cases hl:x.length=y.length
 ·have e1:((x.length:Int) !=(y.length:Int))=false:=by simp[hl]
  have HL:Hid (x.length=y.length):=hl;have HS:Hid (R=decide (x.drop 0=y.drop 0)):=hR.symm;clear hl hR;go_enter Tryz.func83,Tryz.ntmps83;go_wp2
  go_loopw [13] (fun iv wr=>∃k:Nat,k<=x.length/\ iv=.int .i64 k/\ Hid (R=decide (x.drop k=y.drop k))/\ Hid (Below w.heap.size w wr)) (fun iv _=>x.length-(intOf iv).toNat)
  case atStart=>exact⟨0,ia,rfl,HS,za _ _⟩
  case round=>
   obtain⟨k,hk,rfl,Nr,hb⟩:=hrel;clear HS;by_cases hlt:k<x.length
   {(have hlt2:k<y.length:=by have:=HL.out;omega);obtain⟨b,o,rfl,Rj,hc⟩:=Xa.one HX.out k hlt;obtain⟨b',o',rfl,RN,hc'⟩:=Xa.one HY.out k hlt2;have q1:=(hb.out.cell (p:=⟨b,o+k,none⟩) (by show b<w.heap.size;omega)).trans hc;have q2:=(hb.out.cell (p:=⟨b',o'+k,none⟩) (by show b'<w.heap.size;omega)).trans hc';have Ri:=Nr.out;rw[Mr x y k hlt hlt2]at Ri;clear hc hc' Nr;generalize x[k]=p at*;generalize y[k]=q at*;have hs:=hb.out.size;cases e:(p !=q)with| true=>{have HS:=da (show R=false by rw[Ri,Ia (by simpa using e)];rfl);clear Ri;go_wp2;go_quiet(fail);go_wp2;go_ret;exact⟨Oa HS.out.symm,hb.out.trans (World.Za _ _ _)⟩}| false=>{(have HS:Hid (R=decide (x.drop (k+1)=y.drop (k+1))):=by show _=_;rw[Ri,Ma (by simpa using e)];rfl);clear Ri;go_wp2;go_quiet(fail);go_wp2;go_roundw;(case rel=>exact⟨k+1,ia,by go_num,HS,hb.out.trans (World.Za _ _ _)⟩);case measure=>simp[intOf];omega}}
   ·have HS:=da (show R=true by
     have h:=Nr.out
     rw[Ta ia,Ta (by have:=HL.out;omega)]at h
     simpa using h)
    clear Nr;go_wp2;go_ret;exact⟨Oa HS.out.symm,hb.out⟩
 {(have e1:((x.length:Int) !=(y.length:Int))=true:=by rw[bne_iff_ne];omega);have HS:=da (show R=false by rw[<-hR];exact Ia fun e=>hl (by rw[e]));clear hl hR;go_enter Tryz.func83,Tryz.ntmps83;go_wp2;go_ret;exact⟨Oa HS.out.symm,za _ _⟩}
theorem AU (n m:Dn):decide (n=m)=(n.fact==m.fact&& (n.leaf==m.leaf&& (decide (n.Ja=m.Ja)&& decide (n.kids=m.kids)))):=by
 obtain⟨a,b,c,e⟩:=n;obtain⟨a',b',c',e'⟩:=m;rw[Nc];simp only[decide_eq_true_iff,Dn.mk.injEq,ub,Ad];constructor
 {rintro⟨h1,h2,h3,h4⟩;exact⟨h1,h4,h2,h3⟩}
 {rintro⟨h1,h4,h2,h3⟩;exact⟨h1,h2,h3,h4⟩}
theorem ZK (n m:Dn)(vc vk CM aL:Value)(w:World)(B:Nat)(hB:B<=w.heap.size)(h1:IntsIn w B n.Ja vc)(h2:IntsIn w B n.kids vk)(h3:IntsIn w B m.Ja CM)(h4:IntsIn w B m.kids aL):
  Calls Tryz.prog 82 #[.agg #[.int .i64 n.fact,vc,vk,.bool n.leaf],.agg #[.int .i64 m.fact,CM,aL,.bool m.leaf]] w fun e w'=>e=.returned (.bool (decide (n=m)))/\ Below w.heap.size w w':=by
 obtain⟨ac,cc,rfl,_⟩:=Xa.shape h1;obtain⟨ak,ck,rfl,_⟩:=Xa.shape h2;obtain⟨ac2,cc2,rfl,_⟩:=Xa.shape h3;obtain⟨ak2,ck2,rfl,_⟩:=Xa.shape h4;have hR:=AU n m;obtain⟨R,jA⟩:∃R,decide (n=m)=R:=⟨_,rfl⟩;rw[jA]at hR⊢;have ud:Below w.heap.size w ((w.alloc (.cells #[.int .i64 n.fact,.slice ac n.Ja.length cc,.slice ak n.kids.length ck,.bool n.leaf] 56)).alloc (.cells #[.int .i64 m.fact,.slice ac2 m.Ja.length cc2,.slice ak2 m.kids.length ck2,.bool m.leaf] 56)):=((za _ _).alloc (ja _) _).alloc la _;have K0:Bb ((w.alloc (.cells #[.int .i64 n.fact,.slice ac n.Ja.length cc,.slice ak n.kids.length ck,.bool n.leaf] 56)).alloc (.cells #[.int .i64 m.fact,.slice ac2 m.Ja.length cc2,.slice ak2 m.kids.length ck2,.bool m.leaf] 56)) w.heap.size 56 #[.int .i64 n.fact,.slice ac n.Ja.length cc,.slice ak n.kids.length ck,.bool n.leaf]:=(Bb.new w 56 #[.int .i64 n.fact,.slice ac n.Ja.length cc,.slice ak n.kids.length ck,.bool n.leaf]).alloc _
 have K1:Bb ((w.alloc (.cells #[.int .i64 n.fact,.slice ac n.Ja.length cc,.slice ak n.kids.length ck,.bool n.leaf] 56)).alloc (.cells #[.int .i64 m.fact,.slice ac2 m.Ja.length cc2,.slice ak2 m.kids.length ck2,.bool m.leaf] 56)) (w.heap.size+1) 56 #[.int .i64 m.fact,.slice ac2 m.Ja.length cc2,.slice ak2 m.kids.length ck2,.bool m.leaf]:=by{have q:=Bb.new (w.alloc (.cells #[.int .i64 n.fact,.slice ac n.Ja.length cc,.slice ak n.kids.length ck,.bool n.leaf] 56)) 56 #[.int .i64 m.fact,.slice ac2 m.Ja.length cc2,.slice ak2 m.kids.length ck2,.bool m.leaf];simpa only[Ba]using q}
 have qm:(((w.alloc (.cells #[.int .i64 n.fact,.slice ac n.Ja.length cc,.slice ak n.kids.length ck,.bool n.leaf] 56)).alloc (.cells #[.int .i64 m.fact,.slice ac2 m.Ja.length cc2,.slice ak2 m.kids.length ck2,.bool m.leaf] 56))).heap.size=w.heap.size+2:=by simp
 obtain⟨W,hW⟩:∃W,((w.alloc (.cells #[.int .i64 n.fact,.slice ac n.Ja.length cc,.slice ak n.kids.length ck,.bool n.leaf] 56)).alloc (.cells #[.int .i64 m.fact,.slice ac2 m.Ja.length cc2,.slice ak2 m.kids.length ck2,.bool m.leaf] 56))=W:=⟨_,rfl⟩;rw[hW]at ud K0 K1 qm;have HW:=da hW;have Vd:=da ud
 have HE:Hid (∀w',Below w.heap.size w w'->Calls Tryz.prog 83 #[.slice ac n.Ja.length cc,.slice ac2 m.Ja.length cc2] w' fun e w''=>e=.returned (.bool (decide (n.Ja=m.Ja)))/\ Below w'.heap.size w' w''):=fun w' hb=>EJ n.Ja m.Ja _ _ w' B (by have:=hb.size;omega) (h1.below (hb.mono hB)) (h3.below (hb.mono hB))
 have HF:Hid (∀w',Below w.heap.size w w'->Calls Tryz.prog 83 #[.slice ak n.kids.length ck,.slice ak2 m.kids.length ck2] w' fun e w''=>e=.returned (.bool (decide (n.kids=m.kids)))/\ Below w'.heap.size w' w''):=fun w' hb=>EJ n.kids m.kids _ _ w' B (by have:=hb.size;omega) (h2.below (hb.mono hB)) (h4.below (hb.mono hB))
 have Be:=da K0;have Gf:=da K1;have x0:=K0.cell 0;have x1:=K0.cell 1;have x2:=K0.cell 2;have x3:=K0.cell 3;have y0:=K1.cell 0;have y1:=K1.cell 1;have y2:=K1.cell 2;have y3:=K1.cell 3;have HR:=da hR;clear h1 h2 h3 h4 hR jA hW ud K0 K1;go_enter Tryz.func82,Tryz.ntmps82;go_upto_region 1 with(fail);rw[HW.out];cases e1:(n.fact==m.fact)with
 | false=>{have HS:=da (show R=false by rw[HR.out,e1];rfl);go_wp2;go_ret;exact⟨Oa HS.out.symm,Vd.out⟩}
 | true=>
  cases e2:(n.leaf==m.leaf)with
  | false=>{have HS:=da (show R=false by rw[HR.out,e1,e2];rfl);go_wp2;go_ret;exact⟨Oa HS.out.symm,Vd.out⟩}
  | true=>
   have Fi:=da (show R=(decide (n.Ja=m.Ja)&& decide (n.kids=m.kids)) by rw[HR.out,e1,e2];rfl);clear HR;generalize decide (n.Ja=m.Ja)=r1 at*
   generalize decide (n.kids=m.kids)=r2 at*
   cases r1 with
   | false=>{have HS:=da (show R=false by rw[Fi.out];rfl);go_wp2_with (go_at_call 83;refine(HE.out _ Vd.out).mono ?_;rintro e w3 ⟨rfl,Lc⟩;have Qc:=da (Vd.out.trans (Lc.mono ia));clear Lc);go_ret;exact⟨Oa HS.out.symm,Qc.out⟩}
   | true=>
    have HS:=da (show R=r2 by rw[Fi.out];rfl)
    go_wp2_with (first
     | (go_at_call 83;refine(HE.out _ Vd.out).mono ?_;rintro e w3 ⟨rfl,Lc⟩;have Qc:=da (Vd.out.trans (Lc.mono ia));clear x0 x1 x2 x3 y0 y1 y2 y3 HE;have x2:=(Be.out.below Lc).cell 2;have y2:=(Gf.out.below Lc).cell 2;clear Lc)
     | (go_at_call 83;refine(HF.out _ Qc.out).mono ?_;rintro e w4 ⟨rfl,hb4⟩;have Oe:=da (Qc.out.trans (hb4.mono (by have:=Qc.out.size;omega)));clear hb4))
    go_ret;exact⟨Oa HS.out.symm,Oe.out⟩
theorem dS (x y:List Dn)(v u:Value)(w:World)(B:Nat)(hB:B<=w.heap.size)(hx:Xa yo 4 w B x v)(hy:Xa yo 4 w B y u):
  Calls Tryz.prog 81 #[v,u,.func (.func 82) #[] #[]] w fun e w'=>e=.returned (.bool (decide (x=y)))/\ Below w.heap.size w w':=by
 have HX:=da hx;have HY:=da hy;obtain⟨a1,c1,rfl,l1,l2,_⟩:=Xa.shape hx;obtain⟨a2,c2,rfl,l3,l4,_⟩:=Xa.shape hy;unfold maxLen at l2 l4;obtain⟨R,hR⟩:∃R,decide (x=y)=R:=⟨_,rfl⟩;rw[hR];clear hx hy;by_cases hl:x.length=y.length
 ·have e1:((x.length:Int) !=(y.length:Int))=false:=by simp[hl]
  have HL:Hid (x.length=y.length):=hl;have HS:Hid (R=decide (x.drop 0=y.drop 0)):=hR.symm;clear hl hR;go_enter Tryz.func81,Tryz.ntmps81;go_wp2
  go_loopw [17] (fun iv wr=>∃k:Nat,k<=x.length/\ iv=.int .i64 k/\ Hid (R=decide (x.drop k=y.drop k))/\ Hid (Below w.heap.size w wr)) (fun iv _=>x.length-(intOf iv).toNat)
  case atStart=>exact⟨0,ia,rfl,HS,za _ _⟩
  case round=>
   obtain⟨k,hk,rfl,Nr,hb⟩:=hrel;clear HS;by_cases hlt:k<x.length
   {(have hlt2:k<y.length:=by have:=HL.out;omega);obtain⟨b,o,rfl,Rj,vc,vk,n0,n1,n2,n3,Jj,hki⟩:=HX.out.at k hlt;obtain⟨b',o',rfl,RN,CM,aL,m0,m1,m2,m3,Mw,Nw⟩:=HY.out.at k hlt2;have hs:=hb.out.size;have q0:=(hb.out.cell (p:=⟨b,o+k*4,none⟩) (by show b<w.heap.size;omega)).trans n0;have q1:=(hb.out.cell (p:=⟨b,o+k*4+1,none⟩) (by show b<w.heap.size;omega)).trans n1;have q2:=(hb.out.cell (p:=⟨b,o+k*4+2,none⟩) (by show b<w.heap.size;omega)).trans n2;have q3:=(hb.out.cell (p:=⟨b,o+k*4+3,none⟩) (by show b<w.heap.size;omega)).trans n3;have r0:=((hb.out.alloc ia (.cells #[.int .i64 x[k].fact,vc,vk,.bool x[k].leaf] 56)).cell (p:=⟨b',o'+k*4,none⟩) (by show b'<w.heap.size;omega)).trans m0;have r1:=((hb.out.alloc ia (.cells #[.int .i64 x[k].fact,vc,vk,.bool x[k].leaf] 56)).cell (p:=⟨b',o'+k*4+1,none⟩) (by show b'<w.heap.size;omega)).trans m1;have r2:=((hb.out.alloc ia (.cells #[.int .i64 x[k].fact,vc,vk,.bool x[k].leaf] 56)).cell (p:=⟨b',o'+k*4+2,none⟩) (by show b'<w.heap.size;omega)).trans m2;have r3:=((hb.out.alloc ia (.cells #[.int .i64 x[k].fact,vc,vk,.bool x[k].leaf] 56)).cell (p:=⟨b',o'+k*4+3,none⟩) (by show b'<w.heap.size;omega)).trans m3;have s0:=(hb.out.cell (p:=⟨b',o'+k*4,none⟩) (by show b'<w.heap.size;omega)).trans m0;have s1:=(hb.out.cell (p:=⟨b',o'+k*4+1,none⟩) (by show b'<w.heap.size;omega)).trans m1;have s2:=(hb.out.cell (p:=⟨b',o'+k*4+2,none⟩) (by show b'<w.heap.size;omega)).trans m2;have s3:=(hb.out.cell (p:=⟨b',o'+k*4+3,none⟩) (by show b'<w.heap.size;omega)).trans m3;have Ri:=Nr.out;rw[Mr x y k hlt hlt2]at Ri;have HC:=da (fun W (hW:Below w.heap.size w W)=>ZK x[k] y[k] vc vk CM aL W B (by have:=hW.size;omega) (IntsIn.below (hW.mono hB) Jj) (IntsIn.below (hW.mono hB) hki) (IntsIn.below (hW.mono hB) Mw) (IntsIn.below (hW.mono hB) Nw));obtain⟨ac,cc,rfl,_⟩:=Xa.shape Jj;obtain⟨ak,ck,rfl,_⟩:=Xa.shape hki;obtain⟨ac2,cc2,rfl,_⟩:=Xa.shape Mw;obtain⟨ak2,ck2,rfl,_⟩:=Xa.shape Nw;have ik:=da Ri;clear n0 n1 n2 n3 m0 m1 m2 m3 Jj hki Mw Nw Nr Ri;generalize x[k]=p at*;generalize y[k]=q at*;cases e:decide (p=q)with| true=>{(have HS:Hid (R=decide (x.drop (k+1)=y.drop (k+1))):=by show _=_;rw[ik.out,e];rfl);rw[e]at HC;clear ik e;go_wp2_with (go_at_call 82;refine(HC.out _ ?_).mono ?_;(· exact(hb.out.alloc ia _).alloc (by simp;omega) _);rintro e w3 ⟨rfl,Lc⟩;have Qc:=da (((hb.out.alloc ia _).alloc (by simp;omega) _).trans (Lc.mono (by simp;omega)));clear Lc);go_roundw;(case rel=>exact⟨k+1,ia,by go_num,HS,Qc⟩);case measure=>simp[intOf];omega}| false=>{have HS:=da (show R=false by rw[ik.out,e];rfl);rw[e]at HC;clear ik e;go_wp2_with (go_at_call 82;refine(HC.out _ ?_).mono ?_;(· exact(hb.out.alloc ia _).alloc (by simp;omega) _);rintro e w3 ⟨rfl,Lc⟩;have Qc:=da (((hb.out.alloc ia _).alloc (by simp;omega) _).trans (Lc.mono (by simp;omega)));clear Lc);go_ret;exact⟨Oa HS.out.symm,Qc.out⟩}}
   ·have HS:=da (show R=true by
     have h:=Nr.out
     rw[Ta ia,Ta (by have:=HL.out;omega)]at h
     simpa using h)
    clear Nr;go_wp2;go_ret;exact⟨Oa HS.out.symm,hb.out⟩
 {(have e1:((x.length:Int) !=(y.length:Int))=true:=by rw[bne_iff_ne];omega);have HS:=da (show R=false by rw[<-hR];exact Ia fun e=>hl (by rw[e]));clear hl hR;go_enter Tryz.func81,Tryz.ntmps81;go_wp2;go_ret;exact⟨Oa HS.out.symm,za _ _⟩}
theorem iB (x y:List Dn)(v u:Value)(w:World)(B:Nat)(hB:B<=w.heap.size)(hx:oe w B x v)(hy:oe w B y u):
  Calls Tryz.prog 31 #[v,u] w fun e w'=>e=.returned (.bool (decide (x=y)))/\ Below w.heap.size w w':=by
 obtain⟨_,rfl,hx⟩:=hx;obtain⟨_,rfl,hy⟩:=hy;obtain⟨a1,c1,rfl,l1,l2,_⟩:=Xa.shape hx;obtain⟨a2,c2,rfl,l3,l4,_⟩:=Xa.shape hy;have hb:Below w.heap.size w ((w.alloc (.cells #[.slice a1 x.length c1] 34)).alloc (.cells #[.slice a2 y.length c2] 34)):=((za _ _).alloc (ja _) _).alloc la _;have HC:=da (dS x y _ _ _ B (by simp;omega) (Xa.below yo.kept (hb.mono hB) hx) (Xa.below yo.kept (hb.mono hB) hy));have HB:=da hb;clear hx hy hb;go_enter Tryz.func31,Tryz.ntmps31;go_wp2_with (go_at_call 81;refine HC.out.mono ?_;rintro e w3 ⟨rfl,Lc⟩;have Qc:=da (HB.out.trans (Lc.mono (by simp;omega)));clear Lc);go_ret;exact⟨rfl,Qc.out⟩
end Go.Proofs.YtejbgoigkefnfaaGreatDoor
