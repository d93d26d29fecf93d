/- The walk of fact.Least. No conditions. -/
import Derived.Test.YtdipkbobalnilaaGreatDoorAl
import Derived.Test.YtdipkbobalnilaaGreatDoorDgBP
set_option maxRecDepth 100000
set_option maxHeartbeats 8000000
namespace Go.Proofs.YtdipkbobalnilaaGreatDoor
open Tryz
open Go.RowKit
variable{j:Nat}{T:List Dn}
theorem gK(a last:Int)(l:List Int)(j:Nat)(h:j<l.length):Er a last (l.drop j)=if l[j]<=last\/a<l[j]then false else Er a l[j] (l.drop (j+1)):=by
 rw[Gc,Er]
def Lr(l:List Int)(j:Nat):Option Int:=if j=0 then none else some (l.getD (j-1) 0)
theorem iK(t:List Dn)(fact:Int)(p:Option Int)(l:List Int)(j:Nat)(h:j<l.length):Nl t fact p (l.drop j)=if l[j]<0\/(t.length:Int)<=l[j]\/p=some l[j]\/((t.getD l[j].toNat Ka).kids≠[]/\(t.getD l[j].toNat Ka).fact<=fact)then false else Nl t fact (some l[j]) (l.drop (j+1)):=by
 rw[Gc,Nl]
theorem jq{a:Type}{l:List a}:(((l.length:Nat):Int)==0)=decide (l=[]):=by cases l<;>simp<;>omega
theorem jK(d:List Fa)(t:List Dn)(n:Dn)(vg vc vk u:Ea)(w:Ca)(B:Nat)(hB:B<=w.heap.size)(hg:Zd w B t vg)(hc:IntsIn w B n.Sb vc)(hk:IntsIn w B n.kids vk)(hd:jf w B d u)(hl:n.Sb.length<=1000000):
    Db 45 #[vg,.agg #[pa n.fact,vc,vk,.bool n.leaf],u] w λe w'=>e=.returned (.bool (Bf d t n))/\Da w.heap.size w w':=by
  obtain⟨fact,a,kids,leaf⟩:=n
  dsimp only at hc hk hl⊢
  have HG:=la hg;have HD:=la hd;have HC:=la hc;have HK:=la hk;obtain⟨_,rfl,ZT⟩:=hg;obtain⟨_,rfl,EM⟩:=hd;have DA:=la ZT;have LX:=la EM;obtain⟨L,N,rfl,g1,g2,_⟩:=Sa.shape ZT;obtain⟨E,H,rfl,d1,d2,_⟩:=Sa.shape EM;obtain⟨ac,G,rfl,c1,c2,_⟩:=Sa.shape hc;obtain⟨F,I,rfl,k1,k2,_⟩:=Sa.shape hk;unfold maxLen at g2 d2 c2 k2;have hl:=hl;have X:Da _ w (((w.alloc (.cells #[.slice L t.length N] 55)).alloc (.cells #[pa fact,.slice ac a.length G,.slice F kids.length I,.bool leaf] 104)).alloc (.cells #[.slice E d.length H] 24)):=(((za _ _).alloc (wa _) _).alloc Aa _).alloc (by simp;omega) _;have K0:qb (((w.alloc _).alloc (.cells #[pa fact,.slice ac a.length G,.slice F kids.length I,.bool leaf] 104)).alloc (.cells #[.slice E d.length H] 24)) _ 55 _:=((qb.new w 55 #[.slice L t.length N]).alloc _).alloc _
  have T:qb (((w.alloc (.cells #[.slice L t.length N] 55)).alloc (.cells #[pa fact,.slice ac a.length G,.slice F kids.length I,.bool leaf] 104)).alloc (.cells #[.slice E d.length H] 24)) (w.heap.size+1) 104 #[pa fact,.slice ac a.length G,.slice F kids.length I,.bool leaf]:=by{have q:=(qb.new (w.alloc (.cells #[.slice L t.length N] 55)) 104 #[pa fact,.slice ac a.length G,.slice F kids.length I,.bool leaf]).alloc (.cells #[.slice E d.length H] 24);simpa only[Ia]using q}
  have K2:qb (((w.alloc (.cells #[.slice L t.length N] 55)).alloc (.cells #[pa fact,.slice ac a.length G,.slice F kids.length I,.bool leaf] 104)).alloc (.cells #[.slice E d.length H] 24)) (w.heap.size+2) 24 #[.slice E d.length H]:=by{have q:=qb.new ((w.alloc (.cells #[.slice L t.length N] 55)).alloc (.cells #[pa fact,.slice ac a.length G,.slice F kids.length I,.bool leaf] 104)) 24 #[.slice E d.length H];simpa only[Ia]using q}
  have eQ:((((w.alloc (.cells #[.slice L t.length N] 55)).alloc (.cells #[pa fact,.slice ac a.length G,.slice F kids.length I,.bool leaf] 104)).alloc (.cells #[.slice E d.length H] 24))).heap.size=w.heap.size+3:=by simp
  obtain⟨W,hW⟩:∃W,(((w.alloc (.cells #[.slice L t.length N] 55)).alloc (.cells #[pa fact,.slice ac a.length G,.slice F kids.length I,.bool leaf] 104)).alloc (.cells #[.slice E d.length H] 24))=W:=⟨_,rfl⟩;rw[hW]at X K0 T K2 eQ;have HW:=la hW;have g:=la X;have Bt:=la K0;have Zu:=la T;have OT:=la K2;obtain⟨R,hR⟩:∃R,Bf d t ⟨fact,a,kids,leaf⟩=R:=⟨_,rfl⟩;rw[hR];have HR:=la hR;have x0:=K0.cell 0;have y0:=T.cell 0;have y1:=T.cell 1;have y2:=T.cell 2;have y3:=T.cell 3;have z0:=K2.cell 0;have hkz:=jq (l:=kids);have x:=jq (l:=a);clear ZT EM hc hk hW X K0 T K2 hR;go_enter func45,ntmps45;go_upto_region 1 with(fail);rw[HW.o];by_cases s:kids=[]
  . have e1:((kids.length:Int)==0)=true:=by rw[hkz];simpa using s
    have c:=la (show R=(fact==0&& a.isEmpty) by rw[<-HR.o];unfold Bf;rw[Ga s]);cases a1:(fact==0)with| false=>{go_wp2;go_ret;exact⟨Cb (by rw[c.o,a1];rfl),g.o⟩}| true=>{(have e2:((a.length:Int)==0)=a.isEmpty:=by rw[x];cases a<;>simp);clear x;go_wp2;go_ret;exact⟨Cb (by rw[c.o,a1];rfl),g.o⟩}
  . have e1:((kids.length:Int)==0)=false:=by rw[hkz];simpa using s
    have BO:R=if leaf=true\/fact<0\/d.length<=fact\/a=[]\/kids.length≠a.length+1 then false else Er (Hi d fact.toNat) (Fg d fact.toNat) a&& Nl t fact none kids:=by{rw[<-HR.o];unfold Bf;rw[if_neg s]}
    have S:=la BO;clear hkz BO;have b:(leaf=true\/fact<0\/d.length<=fact\/a=[]\/kids.length≠a.length+1)->R=false:=λh=>by rw[S.o,Ga h]
    cases a1:leaf with
    | true=>{have c:=la (b (.inl a1));clear b s x;subst a1;go_wp2;go_ret;exact⟨Cb c.o.symm,g.o⟩}
    | false=>
      subst a1;cases a2:decide (fact<0)with
      | true=>{have c:=la (b (.inr (.inl (by simpa using a2))));go_wp2;go_ret;exact⟨Cb c.o.symm,g.o⟩}
      | false=>
        cases a3:decide ((d.length:Int)<=fact)with
        | true=>{have c:=la (b (.inr (.inr (.inl (by simpa using a3)))));go_wp2;go_ret;exact⟨Cb c.o.symm,g.o⟩}
        | false=>
          cases a4:((a.length:Int)==0)with
          | true=>{have c:=la (b (.inr (.inr (.inr (.inl (by simpa using a4))))));clear b s x;go_wp2;go_ret;exact⟨Cb c.o.symm,g.o⟩}
          | false=>
            cases a5:((kids.length:Int) !=(a.length:Int)+1)with
            | true=>{have adK:kids.length≠a.length+1:=by{(have:kids.length≠(a.length:Int)+1:=by simpa using a5);omega};have c:=la (b (.inr (.inr (.inr (.inr adK)))));clear b s x;go_wp2;go_ret;exact⟨Cb c.o.symm,g.o⟩}
            | false=>
              have b2:0<=fact:=by simpa using a2
              obtain⟨i,rfl⟩:∃i:Nat,fact=i:=⟨fact.toNat,ja⟩
              have hi:i<d.length:=by{(have:¬(d.length<=(i:Int)):=by simpa using a3);omega}
              have hce:a≠[]:=λe=>by rw[x,e]at a4;simp at a4
              have EO:kids.length=a.length+1:=by{(have:kids.length=(a.length:Int)+1:=by simpa using a5);omega}
              have hn:¬(false=true\/(i:Int)<0\/d.length<=(i:Int)\/a=[]\/kids.length≠a.length+1):=by
                rintro(h|h|h|h|h)
                . cases h
                . omega
                . omega
                . exact hce h
                . exact h EO
              have c:=S.o;rw[if_neg hn,Fc]at c;obtain⟨db,df,rfl,hdB,f0,f1,f2,f3,f4,f5,f6,f7⟩:=LX.o.at i hi;clear f0 f1 f4 f5 f6 f7;have elo:Fg d i=d[i].lo:=by unfold Fg;rw[Gd]
              have ehi:Hi d i=d[i].hi:=by unfold Hi;rw[Gd]
              rw[elo,ehi]at c;generalize d[i].lo=lo at*
              generalize d[i].hi=hx at*
              have q2:=(g.o.cell (by show db<w.heap.size;omega)).trans f2;have q3:=(g.o.cell (by show db<w.heap.size;omega)).trans f3;have VD:=la c;have HKL:Hid _:=EO;have anO:kids.length<=1000001:=by omega
              have WT:i<(d.length:Int):=by omega
              have i0:=Xb i;clear b hn x s hce HR S f2 f3 elo ehi EO c hi;go_wp2
              go_loopw [7,66] (λlv iv wr=>∃(j:Nat) (last:Int),j<=a.length/\iv=pa j/\lv=pa last/\Hid (wr=W)/\Hid (R=(Er hx last (a.drop j)&& Nl t i none kids))) (λ_ iv _=>a.length-(intOf iv).toNat)
              case atStart=>exact⟨0,lo,ja,rfl,rfl,rfl,VD⟩
              case round=>
                obtain⟨j,last,hj,rfl,rfl,K,Y⟩:=hrel;have K:=K.o;subst K;by_cases hlt:j<a.length
                . obtain⟨cb,co,rfl,hcB,hcc⟩:=Sa.one HC.o j hlt
                  have acP:=(g.o.cell (by show cb<w.heap.size;omega)).trans hcc;have A:=gK hx last a j hlt;have f:=Y.o;rw[A]at f;clear A hcc;generalize a[j]=O at*
                  by_cases M:O<=last
                  . have U:decide (O<=last)=true:=by simpa using M
                    have c:=la (show R=false by rw[f,Ga ja];rfl);clear f M;go_wp2;go_ret;exact⟨Cb c.o.symm,g.o⟩
                  . have U:decide (O<=last)=false:=by simpa using M
                    by_cases b2:hx<O
                    . have V:decide (hx<O)=true:=by simpa using b2
                      have c:=la (show R=false by rw[f,Ga ja];rfl);clear f M b2;go_wp2;go_ret;exact⟨Cb c.o.symm,g.o⟩
                    . have V:decide (hx<O)=false:=by simpa using b2
                      have c:Hid (R=(Er hx O (a.drop (j+1))&& Nl t i none kids)):=by{show _=_;rw[f,if_neg ja]}
                      go_wp2;go_roundw
                      case rel=>exact⟨_,O,ja,by go_num,rfl,(trivial),c⟩
                      case measure=>simp[intOf];omega
                . have f:=Y.o
                  rw[Bb ja]at f;have S7:Hid (R=Nl t i (Lr kids 0) (kids.drop 0)):=by show _=_;rw[f];rfl
                  clear f;go_wp2
                  go_loopw [89] (λiv wq=>∃(m:Nat),m<=kids.length/\iv=pa m/\Hid (Da wr.heap.size wr wq)/\Hid (R=Nl t i (Lr kids m) (kids.drop m))) (λiv _=>kids.length-(intOf iv).toNat)
                  case atStart=>exact⟨0,ja,rfl,za _ _,S7⟩
                  case round=>
                    rename Ca=>wq
                    obtain⟨m,hm,rfl,J,Z⟩:=hrel;have r:Hid _:=g.o.trans (J.o.mono ja);have hsq:=J.o.size;clear x0 y0 y1 y2 y3 z0 S7 Y;have x0:=(Bt.o.below J.o).cell 0;have y0:=(Zu.o.below J.o).cell 0;have y2:=(Zu.o.below J.o).cell 2;by_cases T7:m<kids.length
                    . obtain⟨kb,ko,rfl,hkB,MQ⟩:=Sa.one HK.o m T7
                      have ads:=(r.o.cell (by show kb<w.heap.size;omega)).trans MQ;have A:=iK t i (Lr kids m) kids m T7;have hnx:Lr kids (m+1)=some kids[m]:=by unfold Lr;rw[if_neg ja,qf,Gd]
                      have f:=Z.o;rw[A]at f;have C:=la hnx;generalize kids[m]=k at*
                      have D:=la f;clear A MQ Z f hnx;by_cases M:k<0
                      . have U:decide (k<0)=true:=by simpa using M
                        have c:=la (show R=false by rw[D.o,Ga ja])
                        (go_wp2;go_quiet(fail);go_wp2;go_ret;exact⟨Cb c.o.symm,r.o.trans (World.Md _ _ _)⟩)
                      . have U:decide (k<0)=false:=by simpa using M
                        by_cases b2:t.length<=k
                        . have V:decide (t.length<=k)=true:=by simpa using b2
                          have c:=la (show R=false by rw[D.o,Ga ja])
                          (go_wp2;go_quiet(fail);go_wp2;go_ret;exact⟨Cb c.o.symm,r.o.trans (World.Md _ _ _)⟩)
                        . have V:decide (t.length<=k)=false:=by simpa using b2
                          have zI:k.toNat<t.length:=by omega
                          have kF:0<=k:=by omega
                          have CZ:k<t.length:=by omega
                          obtain⟨gb,go,rfl,hgB,vc',vk',n0,n1,n2,n3,D7,MO⟩:=DA.o.at _ zI;obtain⟨ka,kc,rfl,_⟩:=Sa.shape MO;have q0:=(r.o.cell (by show gb<w.heap.size;omega)).trans n0;have q2:=(r.o.cell (by show gb<w.heap.size;omega)).trans n2;have v:=D.o;rw[Gd _ _ _ zI]at v;have z:((t[k.toNat].kids).length=0↔t[k.toNat].kids=[]):=Gg;clear n0 n1 n2 n3 D7 MO D M b2;generalize t[k.toNat].fact=kf at*
                          generalize t[k.toNat].kids=kk at*
                          generalize kk.length=Q at*
                          by_cases JI:m=0
                          . have EX:decide (0<(m:Int))=false:=by simp;omega
                            have jL:decide (0<m)=false:=by simp;omega
                            have p:Hid (R=if kk≠[]/\kf<=i then false else Nl t i (some k) (kids.drop (m+1))):=by
                              show _=_
                              rw[v,show Lr kids m=none by unfold Lr;rw[Ga JI]];congr 1
                              rw[eq_iff_iff];constructor
                              . rintro(h|h|h|h)
                                . omega
                                . omega
                                . cases h
                                . exact h
                              . intro h;exact .inr (.inr (.inr h))
                            clear v JI
                            (cases b5:decide (kk=[])with
                              | true=>
                                (have y:decide (0<(Q:Int))=false:=(by have:=(by simpa using b5);have:=z.2 this;simp;omega)
                                 have E7:decide (0<Q)=false:=(by simpa using y)
                                 have c:=la (show R=_ by rw[p.o,if_neg (λh=>h.1 (by simpa using b5))])
                                 (go_wp2;go_quiet(fail);go_wp2;go_roundw;(case rel=>exact⟨m+1,ja,by go_num,J.o.trans (World.Md _ _ _),(by rw[C.o];exact c.o)⟩);(case measure=>simp[intOf];omega)))
                              | false=>
                                (have y:decide (0<(Q:Int))=true:=(by have:kk≠[]:=(by simpa using b5);have:Q≠0:=λe=>this (z.1 e);simp;omega)
                                 have E7:decide _=true:=(by simpa using y)
                                 cases b6:decide (kf<=(i:Int))with
                                 | true=>
                                   (have c:=la (show R=false by rw[p.o,Ga ⟨by simpa using b5,by simpa using b6⟩])
                                    clear p
                                    (go_wp2;go_quiet(fail);go_wp2;go_ret;exact⟨Cb c.o.symm,r.o.trans (World.Md _ _ _)⟩))
                                 | false=>
                                   (have c:=la (show R=_ by rw[p.o,if_neg (λh=>by have:=h.2;simp at b6;omega)])
                                    clear p
                                    (go_wp2;go_quiet(fail);go_wp2;go_roundw;(case rel=>exact⟨m+1,ja,by go_num,J.o.trans (World.Md _ _ _),(by rw[C.o];exact c.o)⟩);(case measure=>simp[intOf];omega)))))
                          . obtain⟨mp,sX⟩:∃mp,m=mp+1:=⟨m-1,ja⟩
                            have adL:mp<kids.length:=by omega
                            obtain⟨kb',ko',hk',anR,P⟩:=Sa.one HK.o mp adL;obtain⟨rfl,rfl⟩:kb=kb'/\ko=ko':=by simpa using hk'
                            have anS:=(r.o.cell (by show kb<w.heap.size;omega)).trans P;have K:IntKind.i64.wrap (m-1)=mp:=by rw[IntWalk.i64_in _ ja];omega
                            have rK:Lr kids m=some kids[mp]:=by unfold Lr;rw[if_neg JI,sX,qf,Gd]
                            have EX:decide (0<(m:Int))=true:=by simp;omega
                            have jL:decide (0<m)=true:=by simp;omega
                            rw[rK]at v;clear P rK hk' sX;generalize kids[mp]=kp at*
                            cases b4:(kp==k)with
                            | true=>{have c:=la (show R=false by rw[v,Ga (.inr (.inr (.inl (by rw[eq_of_beq b4]))))]);(go_wp2;go_quiet(fail);go_wp2;go_ret;exact⟨Cb c.o.symm,r.o.trans (World.Md _ _ _)⟩)}
                            | false=>
                              have p:Hid (R=if kk≠[]/\kf<=i then false else Nl t i (some k) (kids.drop (m+1))):=by
                                show _=_
                                rw[v];congr 1
                                rw[eq_iff_iff];constructor
                                . rintro(h|h|h|h)
                                  . omega
                                  . omega
                                  . exfalso
                                    have h:kp=k:=by simpa using h
                                    rw[h]at b4;simp at b4
                                  . exact h
                                . intro h;exact .inr (.inr (.inr h))
                              clear v
                              (cases b5:decide (kk=[])with
                                | true=>
                                  (have y:decide (0<(Q:Int))=false:=(by have:=(by simpa using b5);have:=z.2 this;simp;omega)
                                   have E7:decide (0<Q)=false:=(by simpa using y)
                                   have c:=la (show R=_ by rw[p.o,if_neg (λh=>h.1 (by simpa using b5))])
                                   clear p
                                   (go_wp2;go_quiet(fail);go_wp2;go_roundw;(case rel=>exact⟨m+1,ja,by go_num,J.o.trans (World.Md _ _ _),(by rw[C.o];exact c.o)⟩);(case measure=>simp[intOf];omega)))
                                | false=>
                                  (have y:decide (0<(Q:Int))=true:=(by have:kk≠[]:=(by simpa using b5);have:Q≠0:=λe=>this (z.1 e);simp;omega)
                                   have E7:decide _=true:=(by simpa using y)
                                   cases b6:decide (kf<=(i:Int))with
                                   | true=>
                                     (have c:=la (show R=false by rw[p.o,Ga ⟨by simpa using b5,by simpa using b6⟩])
                                      clear p
                                      (go_wp2;go_quiet(fail);go_wp2;go_ret;exact⟨Cb c.o.symm,r.o.trans (World.Md _ _ _)⟩))
                                   | false=>
                                     (have c:=la (show R=_ by rw[p.o,if_neg (λh=>by have:=h.2;simp at b6;omega)])
                                      clear p
                                      (go_wp2;go_quiet(fail);go_wp2;go_roundw;(case rel=>exact⟨m+1,ja,by go_num,J.o.trans (World.Md _ _ _),(by rw[C.o];exact c.o)⟩);(case measure=>simp[intOf];omega)))))
                    . have f:=Z.o
                      rw[Bb ja]at f;have c:=la (show R=true by rw[f];cases Lr kids m<;>rfl);go_wp2;go_ret;exact⟨Cb c.o.symm,r.o⟩
theorem FL{a:Type}[DecidableEq a](x y:List a)(k:Nat)(h:k<x.length)(b:k<y.length):decide (x.drop k=y.drop k)=(decide (x[k]=y[k])&& decide (x.drop (k+1)=y.drop (k+1))):=by
 grind [List.drop_eq_getElem_cons]
theorem GL(x y:List Int)(v u:Ea)(w:Ca)(B:Nat)(M:B<=w.heap.size)(l:IntsIn w B x v)(m:IntsIn w B y u):
  Db 92 #[v,u] w λe H=>e=.returned (.bool (decide (x=y)))/\Da w.heap.size w H:=by
 have t:=la l;have z:=la m;obtain⟨I,K,rfl,P,F,_⟩:=Sa.shape l;obtain⟨J,L,rfl,Q,G,_⟩:=Sa.shape m;unfold maxLen at F G;obtain⟨R,i⟩:∃R,decide (x=y)=R:=⟨_,rfl⟩;rw[i];clear l m;by_cases j:x.length=y.length
 ·have C:(x.length !=(y.length:Int))=false:=by simp[j]
  have r:Hid _:=j;have c:Hid (R=decide (x.drop 0=y.drop 0)):=i.symm;clear j i;go_enter func92,ntmps92;go_wp2
  go_loopw [13] (λn wr=>∃k:Nat,k<=x.length/\n=pa k/\Hid (R=decide (x.drop k=y.drop k))/\Hid (Da w.heap.size w wr)) (λn _=>x.length-(intOf n).toNat)
  case atStart=>exact⟨0,ja,rfl,c,za _ _⟩
  case round=>
   obtain⟨k,N,rfl,g,f⟩:=hrel;clear c;by_cases hlt:k<x.length
   {(have d:k<y.length:=by have:=r.o;omega);obtain⟨b,o,rfl,D,E⟩:=Sa.one t.o k hlt;obtain⟨A,S,rfl,s,hc'⟩:=Sa.one z.o k d;have T:=(f.o.cell (by show b<w.heap.size;omega)).trans E;have U:=(f.o.cell (by show A<w.heap.size;omega)).trans hc';have a:=g.o;rw[FL x y k hlt d]at a;generalize x[k]=p at*;generalize y[k]=q at*;have O:=f.o.size;cases e:(p !=q)with| true=>{have c:=la (show R=false by rw[a,Za (by simpa using e)];rfl);clear a;go_wp2;go_quiet(fail);go_wp2;go_ret;exact⟨Cb c.o.symm,f.o.trans (World.Md _ _ _)⟩}| false=>{(have c:Hid (R=decide (x.drop (k+1)=y.drop (k+1))):=by show _=_;rw[a,Hb (by simpa using e)];rfl);clear a;go_wp2;go_quiet(fail);go_wp2;go_roundw;(case rel=>exact⟨_,ja,by go_num,c,f.o.trans (World.Md _ _ _)⟩);case measure=>simp[intOf];omega}}
   ·have c:=la (show R=true by
     have h:=g.o
     rw[Bb ja,Bb (by have:=r.o;omega)]at h
     simpa using h)
    go_wp2;go_ret;exact⟨Cb c.o.symm,f.o⟩
 {(have C:(x.length !=(y.length:Int))=true:=by rw[bne_iff_ne];omega);have c:=la (show R=false by rw[<-i];exact Za λe=>j (by rw[e]));go_enter func92,ntmps92;go_wp2;go_ret;exact⟨Cb c.o.symm,za _ _⟩}
theorem U7(n m:Dn):decide (n=m)=(n.fact==m.fact&& (n.leaf==m.leaf&& (decide (n.Sb=m.Sb)&& decide (n.kids=m.kids)))):=by
 obtain⟨a,b,c,e⟩:=n;obtain⟨d,f,g,h⟩:=m
 grind
theorem nN(n m:Dn)(S T z A:Ea)(w:Ca)(B:Nat)(D:B<=w.heap.size)(J:IntsIn w B n.Sb S)(K:IntsIn w B n.kids T)(L:IntsIn w B m.Sb z)(M:IntsIn w B m.kids A):
  Db 91 #[.agg #[pa n.fact,S,T,.bool n.leaf],.agg #[pa m.fact,z,A,.bool m.leaf]] w λe g=>e=.returned (.bool (decide (n=m)))/\Da w.heap.size w g:=by
 obtain⟨ac,r,rfl,_⟩:=Sa.shape J;obtain⟨p,s,rfl,_⟩:=Sa.shape K;obtain⟨a,c,rfl,_⟩:=Sa.shape L;obtain⟨b,d,rfl,_⟩:=Sa.shape M;have N:=U7 n m;obtain⟨R,x⟩:∃R,decide (n=m)=R:=⟨_,rfl⟩;rw[x]at N⊢;have u:Da _ w ((w.alloc (.cells #[pa n.fact,.slice ac n.Sb.length r,.slice p n.kids.length s,.bool n.leaf] 104)).alloc (.cells #[pa m.fact,.slice a m.Sb.length c,.slice b m.kids.length d,.bool m.leaf] 104)):=((za _ _).alloc (wa _) _).alloc Aa _;have k:qb ((w.alloc _).alloc (.cells #[pa m.fact,.slice a m.Sb.length c,.slice b m.kids.length d,.bool m.leaf] 104)) _ 104 _:=(qb.new w 104 #[pa n.fact,.slice ac n.Sb.length r,.slice p n.kids.length s,.bool n.leaf]).alloc _
 have l:qb ((w.alloc (.cells #[pa n.fact,.slice ac n.Sb.length r,.slice p n.kids.length s,.bool n.leaf] 104)).alloc (.cells #[pa m.fact,.slice a m.Sb.length c,.slice b m.kids.length d,.bool m.leaf] 104)) (w.heap.size+1) 104 #[pa m.fact,.slice a m.Sb.length c,.slice b m.kids.length d,.bool m.leaf]:=by{have q:=qb.new (w.alloc (.cells #[pa n.fact,.slice ac n.Sb.length r,.slice p n.kids.length s,.bool n.leaf] 104)) 104 #[pa m.fact,.slice a m.Sb.length c,.slice b m.kids.length d,.bool m.leaf];simpa only[Ia]using q}
 have P:(((w.alloc (.cells #[pa n.fact,.slice ac n.Sb.length r,.slice p n.kids.length s,.bool n.leaf] 104)).alloc (.cells #[pa m.fact,.slice a m.Sb.length c,.slice b m.kids.length d,.bool m.leaf] 104))).heap.size=w.heap.size+2:=by simp
 obtain⟨W,O⟩:∃W,((w.alloc (.cells #[pa n.fact,.slice ac n.Sb.length r,.slice p n.kids.length s,.bool n.leaf] 104)).alloc (.cells #[pa m.fact,.slice a m.Sb.length c,.slice b m.kids.length d,.bool m.leaf] 104))=W:=⟨_,rfl⟩;rw[O]at u k l P;have X:=la O;have h:=la u
 have F:Hid (∀g,Da w.heap.size w g->Db 92 #[.slice ac n.Sb.length r,.slice a m.Sb.length c] g λe w''=>e=.returned (.bool (decide (n.Sb=m.Sb)))/\Da g.heap.size g w''):=λg t=>GL _ _ _ _ g B (by have:=t.size;omega) (J.below (t.mono D)) (L.below (t.mono D))
 have V:Hid (∀g,Da w.heap.size w g->Db 92 #[.slice p n.kids.length s,.slice b m.kids.length d] g λe w''=>e=.returned (.bool (decide (n.kids=m.kids)))/\Da g.heap.size g w''):=λg t=>GL _ _ _ _ g B (by have:=t.size;omega) (K.below (t.mono D)) (M.below (t.mono D))
 have G:=la k;have H:=la l;have x0:=k.cell 0;have x1:=k.cell 1;have x2:=k.cell 2;have x3:=k.cell 3;have y0:=l.cell 0;have y1:=l.cell 1;have U:=l.cell 2;have y3:=l.cell 3;have C:=la N;clear J K L M N x O u k l;go_enter func91,ntmps91;go_upto_region 1 with(fail);rw[X.o];cases I:(n.fact==m.fact)with
 | false=>{have j:=la (show R=false by rw[C.o,I];rfl);go_wp2;go_ret;exact⟨Cb j.o.symm,h.o⟩}
 | true=>
  cases Q:(n.leaf==m.leaf)with
  | false=>{have j:=la (show R=false by rw[C.o,I,Q];rfl);go_wp2;go_ret;exact⟨Cb j.o.symm,h.o⟩}
  | true=>
   have v:=la (show R=(decide (n.Sb=m.Sb)&& decide (n.kids=m.kids)) by rw[C.o,I,Q];rfl);clear C;generalize decide (n.Sb=m.Sb)=Y at*
   generalize decide (n.kids=m.kids)=Z at*
   cases Y with
   | false=>{have j:=la (show R=false by rw[v.o];rfl);go_wp2_with (go_at_call 92;refine(F.o _ h.o).mono ?_;rintro e w3 ⟨rfl,f⟩;have i:=la (h.o.trans (f.mono ja));clear f);go_ret;exact⟨Cb j.o.symm,i.o⟩}
   | true=>
    have j:=la (show R=Z by rw[v.o];rfl)
    go_wp2_with (first
     | (go_at_call 92;refine(F.o _ h.o).mono ?_;rintro e w3 ⟨rfl,f⟩;have i:=la (h.o.trans (f.mono ja));clear x0 x1 x2 x3 y0 y1 U y3 F;have x2:=(G.o.below f).cell 2;have U:=(H.o.below f).cell 2;clear f)
     | (go_at_call 92;refine(V.o _ i.o).mono ?_;rintro e w4 ⟨rfl,y⟩;have E:=la (i.o.trans (y.mono (by have:=i.o.size;omega)));clear y))
    go_ret;exact⟨Cb j.o.symm,E.o⟩
theorem oV(x y:List Dn)(v u:Ea)(w:Ca)(B:Nat)(E:B<=w.heap.size)(H:Sa br 4 w B x v)(I:Sa br 4 w B y u):
  Db 90 #[v,u,.func (.func 91) #[] #[]] w λe w'=>e=.returned (.bool (decide (x=y)))/\Da w.heap.size w w':=by
 have Y:=la H;have Z:=la I;obtain⟨a1,c1,rfl,l1,l2,_⟩:=Sa.shape H;obtain⟨a2,c2,rfl,l3,l4,_⟩:=Sa.shape I;unfold maxLen at l2 l4;obtain⟨R,F⟩:∃R,decide (x=y)=R:=⟨_,rfl⟩;rw[F];clear H I;by_cases G:x.length=y.length
 ·have e1:(x.length !=(y.length:Int))=false:=by simp[G]
  have Q:Hid _:=G;have g:Hid (R=decide (x.drop 0=y.drop 0)):=F.symm;clear G F;go_enter func90,ntmps90;go_wp2
  go_loopw [17] (λJ wr=>∃k:Nat,k<=x.length/\J=pa k/\Hid (R=decide (x.drop k=y.drop k))/\Hid (Da w.heap.size w wr)) (λJ _=>x.length-(intOf J).toNat)
  case atStart=>exact⟨0,ja,rfl,g,za _ _⟩
  case round=>
   obtain⟨k,hk,rfl,r,a⟩:=hrel;clear g;by_cases hlt:k<x.length
   {(have l:k<y.length:=by have:=Q.o;omega);obtain⟨b,o,rfl,Tn,A,C,T,U,V,X,s,t⟩:=Y.o.at k hlt;obtain⟨j,o',rfl,S,O,P,K,L,M,N,d,f⟩:=Z.o.at k l;have hs:=a.o.size;have q0:=(a.o.cell (by show b<w.heap.size;omega)).trans T;have q1:=(a.o.cell (by show b<w.heap.size;omega)).trans U;have q2:=(a.o.cell (by show b<w.heap.size;omega)).trans V;have q3:=(a.o.cell (by show b<w.heap.size;omega)).trans X;have r0:=((a.o.alloc ja (.cells #[pa x[k].fact,A,C,.bool x[k].leaf] 104)).cell (by show j<w.heap.size;omega)).trans K;have r1:=((a.o.alloc ja (.cells #[pa x[k].fact,A,C,.bool x[k].leaf] 104)).cell (by show j<w.heap.size;omega)).trans L;have r2:=((a.o.alloc ja (.cells #[pa x[k].fact,A,C,.bool x[k].leaf] 104)).cell (by show j<w.heap.size;omega)).trans M;have r3:=((a.o.alloc ja (.cells #[pa x[k].fact,A,C,.bool x[k].leaf] 104)).cell (by show j<w.heap.size;omega)).trans N;have s0:=(a.o.cell (by show j<w.heap.size;omega)).trans K;have s1:=(a.o.cell (by show j<w.heap.size;omega)).trans L;have s2:=(a.o.cell (by show j<w.heap.size;omega)).trans M;have s3:=(a.o.cell (by show j<w.heap.size;omega)).trans N;have n:=r.o;rw[FL x y k hlt l]at n;have D:=la (λW (z:Da _ w W)=>nN _ _ A C O P W B (by have:=z.size;omega) (IntsIn.below (z.mono E) s) (IntsIn.below (z.mono E) t) (IntsIn.below (z.mono E) d) (IntsIn.below (z.mono E) f));obtain⟨ac,cc,rfl,_⟩:=Sa.shape s;obtain⟨ak,ck,rfl,_⟩:=Sa.shape t;obtain⟨ac2,cc2,rfl,_⟩:=Sa.shape d;obtain⟨ak2,ck2,rfl,_⟩:=Sa.shape f;have i:=la n;clear T U V X K L M N s t d f r n;generalize x[k]=p at*;generalize y[k]=q at*;cases e:decide (p=q)with| true=>{(have g:Hid (R=decide (x.drop (k+1)=y.drop (k+1))):=by show _=_;rw[i.o,e];rfl);rw[e]at D;clear i e;go_wp2_with (go_at_call 91;refine(D.o _ ?_).mono ?_;(· exact(a.o.alloc ja _).alloc (by simp;omega) _);rintro e w3 ⟨rfl,c⟩;have m:=la (((a.o.alloc ja _).alloc (by simp;omega) _).trans (c.mono (by simp;omega)));clear c);go_roundw;(case rel=>exact⟨_,ja,by go_num,g,m⟩);case measure=>simp[intOf];omega}| false=>{have g:=la (show R=false by rw[i.o,e];rfl);rw[e]at D;clear i e;go_wp2_with (go_at_call 91;refine(D.o _ ?_).mono ?_;(· exact(a.o.alloc ja _).alloc (by simp;omega) _);rintro e w3 ⟨rfl,c⟩;have m:=la (((a.o.alloc ja _).alloc (by simp;omega) _).trans (c.mono (by simp;omega)));clear c);go_ret;exact⟨Cb g.o.symm,m.o⟩}}
   ·have g:=la (show R=true by
     have h:=r.o
     rw[Bb ja,Bb (by have:=Q.o;omega)]at h
     simpa using h)
    go_wp2;go_ret;exact⟨Cb g.o.symm,a.o⟩
 {(have e1:(x.length !=(y.length:Int))=true:=by rw[bne_iff_ne];omega);have g:=la (show R=false by rw[<-F];exact Za λe=>G (by rw[e]));go_enter func90,ntmps90;go_wp2;go_ret;exact⟨Cb g.o.symm,za _ _⟩}
theorem oN(x y:List Dn)(v u:Ea)(w:Ca)(B:Nat)(g:B<=w.heap.size)(b:Zd w B x v)(c:Zd w B y u):
  Db 50 #[v,u] w λe n=>e=.returned (.bool (decide (x=y)))/\Da w.heap.size w n:=by
 obtain⟨_,rfl,b⟩:=b;obtain⟨_,rfl,c⟩:=c;obtain⟨j,l,rfl,p,q,_⟩:=Sa.shape b;obtain⟨k,m,rfl,r,s,_⟩:=Sa.shape c;have f:Da _ w ((w.alloc (.cells #[.slice j x.length l] 55)).alloc (.cells #[.slice k y.length m] 55)):=((za _ _).alloc (wa _) _).alloc Aa _;have i:=la (oV x y _ _ _ B (by simp;omega) (Sa.below br.kept (f.mono g) b) (Sa.below br.kept (f.mono g) c));have h:=la f;go_enter func50,ntmps50;go_wp2_with (go_at_call 90;refine i.o.mono ?_;rintro e t ⟨rfl,a⟩;have d:=la (h.o.trans (a.mono (by simp;omega)));clear a);go_ret;exact⟨rfl,d.o⟩
theorem Az{a:Type}(p:a->Bool):∀(l:List a) (k:Nat),decide (0<=idxFrom p l (k:Int))=l.any p
 | [],k=>by simp[idxFrom]
 | x::l,k=>by{rw[idxFrom,List.any_cons];cases h:p x with| true=>simp| false=>{exact Az p l _}}
theorem kK(d:List Fa)(t:List Dn)(n:Dn)(h:Option Addr)(l:Nat)(g:Option Addr)(k:Nat)(u v:Ea)(q p:Nat)(w:Ca)(B:Nat)(c:B<=w.heap.size)(D:Zd w B t (.agg #[.slice h t.length l]))(r:IntsIn w B n.Sb u)(s:IntsIn w B n.kids v)
  (hd:jf w B d (.agg #[.slice g d.length k])) (F:n.Sb.length<=1000000) (z:w.cell? (Ya q)=some (.slice h t.length l)) (A:w.cell? (Ya p)=some (.slice g d.length k)):
  Db 44 #[.agg #[pa n.fact,u,v,.bool n.leaf],Ma q,Ma p] w λe G=>e=.returned (.bool (!Bf d t n))/\Da w.heap.size w G:=by
 obtain⟨ac,j,rfl,_⟩:=Sa.shape r;obtain⟨i,m,rfl,_⟩:=Sa.shape s;have a:Da _ w (w.alloc (.cells #[pa n.fact,.slice ac n.Sb.length j,.slice i n.kids.length m,.bool n.leaf] 104)):=(za _ _).alloc (wa _) _;have y:=la (jK d t n _ _ _ _ _ B (by simp;omega) (D.below (a.mono c)) (r.below (a.mono c)) (s.below (a.mono c)) (hd.below (a.mono c)) F);have E:=Kb _ _ z;have C:=Kb _ _ A;have x:=la a;have I:=(qb.new w 104 #[pa n.fact,.slice ac n.Sb.length j,.slice i n.kids.length m,.bool n.leaf]).cell 0;generalize Bf d t n=R at*
 cases R
 all_goals
  go_enter func44,ntmps44;go_wp2_with (go_at_call 45;refine y.o.mono ?_;rintro e H ⟨rfl,b⟩;have f:=la (x.o.trans (b.mono Aa));clear b);go_ret;exact⟨rfl,f.o⟩
theorem kR(d:List Fa)(t:List Dn)(u:Option Addr)(v:Nat)(J:Option Addr)(K:Nat)(D C:Nat)(w:Ca)(B:Nat)(y:B<=w.heap.size)(F:Zd w B t (.agg #[.slice u t.length v]))
  (hd:jf w B d (.agg #[.slice J d.length K])) (O:∀n∈t,n.Sb.length<=1000000) (M:w.cell? (Ya D)=some (.slice u t.length v)) (N:w.cell? (Ya C)=some (.slice J d.length K)):
  Db 85 #[.slice u t.length v,(.func (.func 44) #[] #[.pointer (some ⟨D,0,none⟩),.pointer (some ⟨C,0,none⟩)])] w λe w'=>e=.returned (pa (idxFrom (λn=> !Bf d t n) t 0))/\Da w.heap.size w w':=by
 have V:=la F;have U:=la hd;have W:=la O;have r:Hid (Sa br 4 w B t (.slice u t.length v)):=by obtain⟨_,e,h⟩:=F;cases e;exact h
 obtain⟨_,_,X,l1,Z,_⟩:=r.o;obtain⟨rfl,rfl⟩:u=_/\v=_:=by simpa using X
 unfold maxLen at Z;have I:Hid (idxFrom (λn=> !Bf d t n) t 0=idxFrom (λn=> !Bf d t n) (t.drop 0) (0:Nat)):=rfl;generalize idxFrom (λn=> !Bf d t n) t 0=R at*
 have G:=Kb _ _ M;have E:=Kb _ _ N;clear F hd O;go_enter func85,ntmps85;go_wp2
 go_loopw [8] (λi wr=>∃k:Nat,k<=t.length/\i=pa k/\Hid (R=idxFrom (λn=> !Bf d t n) (t.drop k) k)/\Hid (Da w.heap.size w wr)) (λi _=>t.length-(intOf i).toNat)
 case atStart=>exact⟨0,ja,rfl,I,za _ _⟩
 case round=>
  obtain⟨k,hk,rfl,l,a⟩:=hrel;have hsz:=a.o.size;by_cases hlt:k<t.length
  ·have H:=la (λz A (q:IntsIn w B _ z) (q':IntsIn w B _ A)=>kK d t t[k] _ _ _ _ z A D C wr B ja (V.o.below (a.o.mono y)) (q.below (a.o.mono y)) (q'.below (a.o.mono y)) (U.o.below (a.o.mono y)) (W.o _ (Oa _))
    ((a.o.cell G).trans M) ((a.o.cell E).trans N))
   obtain⟨b,o,rfl,Y,z,A,P,Q,S,T,j,m⟩:=r.o.at k hlt;have q0:=(a.o.cell (by show b<w.heap.size;omega)).trans P;have q1:=(a.o.cell (by show b<w.heap.size;omega)).trans Q;have q2:=(a.o.cell (by show b<w.heap.size;omega)).trans S;have q3:=(a.o.cell (by show b<w.heap.size;omega)).trans T;have p:=la (H.o z A j m);have c:=l.o;rw[ph _ t k hlt]at c;obtain⟨ac,cc,rfl,_⟩:=Sa.shape j;obtain⟨ak,ck,rfl,_⟩:=Sa.shape m;have f:=la c;clear P Q S T j m H c l I;generalize Bf d t _=pb at*
   generalize t[k]=x at*
   cases pb with| false=>{have s:=la (show(k:Int)=R by rw[f.o];rfl);clear f;go_wp2_with (go_at_call 44;refine p.o.mono ?_;rintro e w2 ⟨rfl,g⟩);go_ret;exact⟨vf s.o,a.o.trans (g.mono hsz)⟩}| true=>{(have s:Hid (R=idxFrom (λn=> !Bf d t n) (t.drop (k+1)) (k+1:Nat)):=by show _=_;rw[f.o];rfl);clear f;go_wp2_with (go_at_call 44;refine p.o.mono ?_;rintro e w2 ⟨rfl,g⟩);go_roundw;(case rel=>exact⟨_,ja,by go_num,s,a.o.trans (g.mono hsz)⟩);case measure=>simp[intOf];omega}
  ·have s:=la (show(-1:Int)=R by
    have L:=l.o
    rw[Bb ja]at L
    exact L.symm)
   go_wp2;go_ret;exact⟨vf s.o,a.o⟩
theorem mR(d:List Fa)(t:List Dn)(a:Option Addr)(b:Nat)(c:Option Addr)(f:Nat)(h g:Nat)(w:Ca)(B:Nat)(s:B<=w.heap.size)(m:Zd w B t (.agg #[.slice a t.length b]))
  (hd:jf w B d (.agg #[.slice c d.length f])) (p:∀n∈t,n.Sb.length<=1000000) (k:w.cell? (Ya h)=some (.slice a t.length b)) (l:w.cell? (Ya g)=some (.slice c d.length f)):
  Db 47 #[.slice a t.length b,(.func (.func 44) #[] #[.pointer (some ⟨h,0,none⟩),.pointer (some ⟨g,0,none⟩)])] w λe u=>e=.returned (.bool (!t.all (Bf d t)))/\Da w.heap.size w u:=by
 have r:=la (kR d t a b c f h g w B s m hd p k l);have j:=la (Az (λn=> !Bf d t n) t 0);have q:Hid (t.any (λn=> !Bf d t n)= !t.all (Bf d t)):=by show _=_;rw[List.not_all_eq_any_not]
 have e:((0:Nat):Int)=0:=rfl;rw[e]at j;clear m hd p k l e;generalize idxFrom (λn=> !Bf d t n) t 0=R at*
 go_enter func47,ntmps47;go_wp2_with (go_at_call 85;refine r.o.mono ?_;rintro e v ⟨rfl,i⟩);go_ret;exact⟨Cb (by rw[j.o,q.o]),i⟩
structure VaS (w6 : Ca) (K : Nat) (t : List Dn) (wr : Ca) : Prop where
 is:Zh wr K K [] t
 VB:re K [] w6 wr
theorem nR(h:j<T.length)(a:T[j]∉T.take j):me (T.take j) T[j]=(T.take (j+1),j):=by
 grind [me,List.take_succ_eq_append_getElem]
theorem pV(h:j<T.length)(a:T[j]∈T.take j):(me (T.take j) T[j]).2<j:=by
 grind [me,List.length_take]
theorem lK(h:j<T.length)(a:(T.take j).Nodup)(b:T[j]∉T.take j):(T.take (j+1)).Nodup:=by
 grind [List.take_succ_eq_append_getElem]
theorem ds(d:List Fa)(t:List Dn)(vg u:Ea)(w:Ca)(B:Nat)(hB:B<=w.heap.size)(hg:Zd w B t vg)(hd:jf w B d u)(X:∀n∈t,zx n)(hT:Jh w.heap.size w):
  Db 19 #[vg,u] w λe k=>e=.returned (.bool (Fh d t))/\Da w.heap.size w k:=by
 have HG:=la hg;have HD:=la hd;obtain⟨_,rfl,ZT⟩:=hg;obtain⟨_,rfl,EM⟩:=hd;have DA:=la ZT;obtain⟨F,G,rfl,l1,l2,_⟩:=Sa.shape ZT;obtain⟨J,K,rfl,_⟩:=Sa.shape EM;unfold maxLen at l2;have M:Da _ w ((w.alloc (.cells #[.slice F t.length G] 55)).alloc (.cells #[.slice J d.length K] 24)):=((za _ _).alloc (wa _) _).alloc Aa _;have K0:qb ((w.alloc _).alloc (.cells #[.slice J d.length K] 24)) _ 55 _:=(qb.new w 55 #[.slice F t.length G]).alloc _
 have K1:qb ((w.alloc (.cells #[.slice F t.length G] 55)).alloc (.cells #[.slice J d.length K] 24)) (w.heap.size+1) 24 #[.slice J d.length K]:=by{have q:=qb.new (w.alloc (.cells #[.slice F t.length G] 55)) 24 #[.slice J d.length K];simpa only[Ia]using q}
 have Qu:(((w.alloc (.cells #[.slice F t.length G] 55)).alloc (.cells #[.slice J d.length K] 24))).heap.size=w.heap.size+2:=by simp
 obtain⟨W,hW⟩:∃W,((w.alloc (.cells #[.slice F t.length G] 55)).alloc (.cells #[.slice J d.length K] 24))=W:=⟨_,rfl⟩;rw[hW]at M K0 K1 Qu;have HW:=la hW;have v:=la M;have h:=la K0;have Zu:=la K1;have H:=K0.cell 0;have y0:=K1.cell 0;have H64:=la X;have HT:=la hT;have HV:=la (Lj d _ W B ja (HD.o.below (M.mono hB)))
 have HH:Hid (∀k,qb k w.heap.size 55 #[.slice F t.length G]->qb k (w.heap.size+1) 24 #[.slice J d.length K]->Da w.heap.size w k->
   Db 47 #[.slice F t.length G,(.func (.func 44) #[] #[.pointer (some ⟨w.heap.size,0,none⟩),.pointer (some ⟨w.heap.size+1,0,none⟩)])] k λe w''=>e=.returned (.bool (!t.all (Bf d t)))/\Da k.heap.size k w''):=λk q0 q1 hb=>
  mR d t F G J K w.heap.size (w.heap.size+1) k B (by have:=hb.size;omega) (HG.o.below (hb.mono hB)) (HD.o.below (hb.mono hB)) (λn hn=>(X n hn).lc) (q0.cell 0) (q1.cell 0)
 obtain⟨R,hR⟩:∃R,Fh d t=R:=⟨_,rfl⟩;rw[hR];have TY:R=(gf d&& !t.isEmpty&& decide _&& t.all _&& decide _&& decide _):=hR.symm;have HR:=la TY;clear ZT EM hW M K0 K1 X hT hR TY;go_enter func19,ntmps19;go_upto_region 1 with(fail);rw[HW.o];cases e1:gf d with
 | false=>{have z:=la (show R=false by rw[HR.o,e1];rfl);go_wp2_with (go_at_call 46;refine HV.o.mono ?_;rintro e w4 ⟨rfl,a⟩;have H:=(h.o.below a).cell 0;have c:=la (v.o.trans (a.mono ja));clear a);go_ret;exact⟨Cb z.o.symm,c.o⟩}
 | true=>
  rw[e1]at HV;cases e2:((t.length:Int)==0)with
  | true=>{have z:=la (show R=false by rw[HR.o,e1];have ht:=(by simpa using e2);rw[ht];rfl);go_wp2_with (go_at_call 46;refine HV.o.mono ?_;rintro e w4 ⟨rfl,a⟩;have H:=(h.o.below a).cell 0;have c:=la (v.o.trans (a.mono ja));clear a);go_ret;exact⟨Cb z.o.symm,c.o⟩}
  | false=>
   cases e3:decide ((20000:Int)<(t.length:Int))with
   | true=>
    have z:=la (show R=false by
     have:¬t.length<=20000:=by simp at e3;omega
     rw[HR.o,Za this];simp)
    go_wp2_with (go_at_call 46;refine HV.o.mono ?_;rintro e w4 ⟨rfl,a⟩;have H:=(h.o.below a).cell 0;have c:=la (v.o.trans (a.mono ja));clear a);go_ret;exact⟨Cb z.o.symm,c.o⟩
   | false=>
    have IL:t.length<=20000:=by simp at e3;omega
    have hne:t≠[]:=λe=>by rw[jq,e]at e2;simp at e2
    cases e4:t.all (Bf d t)with
    | false=>{have z:=la (show R=false by rw[HR.o,e4];simp);go_wp2_with (first|(go_at_call 46;refine HV.o.mono ?_;rintro e w4 ⟨rfl,a⟩;have H:=(h.o.below a).cell 0;have i:=la (h.o.below a);have U:=la (Zu.o.below a);have c:=la (v.o.trans (a.mono ja));have FI:=a.size;clear a)|(go_at_call 47;refine(HH.o _ i.o U.o c.o).mono ?_;rintro e E ⟨rfl,f⟩;clear H;have H:=(i.o.below f).cell 0;have Z6:=la (i.o.below f);have T:=la (c.o.trans (f.mono ja));have LD:=f.size;clear f));go_ret;exact⟨Cb z.o.symm,T.o⟩}
    | true=>
     have hTB:=(kC d t).1 e4;have uZ:=la hTB;have HDK:=la (eh e1);have oE:=List.length_pos_iff.2 hne
     have JL:Hid (R=(decide t.Nodup&& decide (ue t (Mc t (d.length+1) [] 0)=t))):=by{show _=_;rw[HR.o,e1,e4,Hb IL,show t.isEmpty=false by simpa using hne];rfl}
     rw[e4]at HH;clear hne e4 hTB HR;go_upto_region 5 with(first|(go_at_call 46;refine HV.o.mono ?_;rintro e w4 ⟨rfl,a⟩;have H:=(h.o.below a).cell 0;have i:=la (h.o.below a);have U:=la (Zu.o.below a);have c:=la (v.o.trans (a.mono ja));have FI:=a.size;clear a)|(go_at_call 47;refine(HH.o _ i.o U.o c.o).mono ?_;rintro e E ⟨rfl,f⟩;clear H;have H:=(i.o.below f).cell 0;have Z6:=la (i.o.below f);have T:=la (c.o.trans (f.mono ja));have LD:=f.size;clear f));have anV:w.heap.size+2<=E.heap.size:=by omega
     have JI:Zh _ _ E.heap.size [] []:=⟨wa _,⟨_,none,[],qb.new _ _ _,Ec _ _ _ _,rfl,Aa,.inl ⟨rfl,rfl⟩⟩,Aa⟩;have N:Da _ E (E.alloc (.cells #[Ua,.map none] 114)):=(za _ _).alloc (wa _) _;have aX:((E.alloc (.cells #[Ua,.map none] 114))).heap.size=E.heap.size+1:=by simp
     have V:=la (Z6.o.below N);have x6:=V.o.cell 0;obtain⟨S,hw6⟩:∃S,(E.alloc (.cells #[Ua,.map none] 114))=S:=⟨_,rfl⟩;rw[hw6]at JI N aX V x6;have I:=la (T.o.trans (N.mono ja));have C5:Hid (Jh E.heap.size S):=λk hb=>HT.o k (I.o.trans (hb.mono ja))
     have V7:Hid (VaS S _ (t.take 0) S):=⟨JI,re.refl _ _ _⟩;have O:Hid ((t.take 0).Nodup):=by show List.Nodup _;simp
     have HW6:=la hw6;clear JI N hw6 H;rw[HW6.o];go_wp2
     go_loopw [38] (λiv wr=>∃j:Nat,j<=t.length/\iv=pa j/\Hid (VaS S E.heap.size (t.take j) wr)/\Hid ((t.take j).Nodup)) (λiv _=>t.length-(intOf iv).toNat)
     case atStart=>exact⟨0,ja,rfl,V7,O⟩
     case round=>
      obtain⟨j,hj,rfl,hv,oR⟩:=hrel;clear V7 O x6;have mF:=hv.o.VB.size;have P:=hv.o.VB.below ja;have g:Hid _:=I.o.trans (P.mono ja);by_cases hlt:j<t.length
      ·obtain⟨b,o,rfl,Tn,vc,vk,n0,n1,n2,n3,Z,MO⟩:=DA.o.at j hlt
       have q0:=(g.o.cell (by show b<w.heap.size;omega)).trans n0;have q1:=(g.o.cell (by show b<w.heap.size;omega)).trans n1;have q2:=(g.o.cell (by show b<w.heap.size;omega)).trans n2;have q3:=(g.o.cell (by show b<w.heap.size;omega)).trans n3;have C:re _ [] S (wr.alloc (.cells #[pa t[j].fact,vc,vk,.bool t[j].leaf] 104)):=hv.o.VB.alloc _;have MX:Da _ wr (wr.alloc (.cells #[pa t[j].fact,vc,vk,.bool t[j].leaf] 104)):=(za _ _).alloc (wa _) _
       have D:=Jp _ _ [] _ _ vc vk _ (hv.o.is.below MX (wa _)) (Wf.ul (Z.below (I.o.mono hB)) ja ja C Aa) (Wf.ul (MO.below (I.o.mono hB)) ja ja C Aa)
        (by rw[de];omega) (H64.o _ (Oa _)) (C5.o.on (C.below ja))
       have HN:=la D;have HMT:=la C;obtain⟨ac,cc,rfl,_⟩:=Sa.shape Z;obtain⟨ak,ck,rfl,_⟩:=Sa.shape MO;clear n0 n1 n2 n3 Z MO D C MX;by_cases hx:t[j]∈t.take j
       ·have hq:=pV hlt hx
        have z:=la (show R=false by
         have:¬t.Nodup:=λhn=>by{have m:=hn.sublist (List.take_sublist (j+1) t);rw[Ta hlt,Ge]at m;exact m.2.2 _ hx _ Aa rfl}
         rw[JL.o,Za this];rfl)
        clear hx;generalize me _ _=A at*
        generalize t[j]=x at*
        have hne:(A.2 !=(j:Int))=true:=by rw[bne_iff_ne];omega
        go_wp2_with (go_at_call 48;refine HN.o.mono ?_;rintro e w7 ⟨rfl,L,m⟩;have TP:=la (m.s.below (by have:=HMT.o.size;omega));clear L m);go_ret;exact⟨Cb z.o.symm,g.o.trans (((za _ _).alloc ja _).trans (TP.o.mono ja))⟩
       {have hq:=nR hlt hx;rw[hq]at HN;have Z2:=la (lK hlt oR.o hx);clear hx hq;generalize t[j]=x at*;go_wp2_with (go_at_call 48;refine HN.o.mono ?_;rintro e w7 ⟨rfl,L,m⟩;have HV7:Hid (VaS S _ (t.take _) w7):=⟨L,HMT.o.trans m.s⟩;clear L m);go_roundw;(case rel=>exact⟨_,ja,by go_num,HV7,Z2⟩);case measure=>simp[intOf];omega}
      ·have QD:j=t.length:=by omega
       have hmi:=hv.o.is;have Q:=oR.o;rw[QD,Ub]at hmi Q;have z:Hid (R=decide (ue t (Mc t (d.length+1) [] 0)=t)):=by show _=_;rw[JL.o,Hb Q];rfl
       have UG:=jR t _ _ [] 0 wr hmi uZ.o oE IL (λn hn=>by have:=(Tm HDK.o uZ.o n hn).1;omega);rw[show((0:Nat):Int)=0 from rfl]at UG
       have JP:Hid (Db 49 #[Ma E.heap.size,pa 0] wr λe l=>∃(p:Option Addr) (r:Nat),e=.returned (.tuple #[.agg #[.slice p (ue t (Mc t (d.length+1) [] 0)).length r],pa 0])/\Hid (Zd l l.heap.size (ue t (Mc t (d.length+1) [] 0)) (.agg #[.slice p (ue t (Mc t (d.length+1) [] 0)).length r]))/\Hid (Da wr.heap.size wr l)):=by{refine UG.mono ?_;rintro e l ⟨_,rfl,⟨u,rfl,L⟩,m⟩;obtain⟨p,r,rfl,_⟩:=Sa.shape L;exact⟨p,r,rfl,⟨_,rfl,L⟩,m⟩}
       have HSM:Hid (∀l p r,Hid (Zd l l.heap.size (ue t (Mc t (d.length+1) [] 0)) (.agg #[.slice p (ue t (Mc t (d.length+1) [] 0)).length r]))->Hid (Da wr.heap.size wr l)->Db 50 #[.agg #[.slice p (ue t (Mc t (d.length+1) [] 0)).length r],.agg #[.slice F t.length G]] (l.alloc (.cells #[.slice p (ue t (Mc t (d.length+1) [] 0)).length r] 55)) λe k=>e=.returned (.bool R)/\Da l.heap.size l k):=by{intro l p r L m;have hz:=m.o.size;have Y:Da _ l (l.alloc (.cells #[.slice p (ue t (Mc t (d.length+1) [] 0)).length r] 55)):=(za _ _).alloc (wa _) _;have q:=oN _ t _ _ _ _ Aa (L.o.below Y) (((HG.o.below ((g.o.trans (m.o.mono ja)).mono hB)).mono ja).below Y);rw[<-z.o]at q;refine q.mono ?_;rintro e k ⟨rfl,h3⟩;exact⟨rfl,Y.trans (h3.mono Aa)⟩}
       have HYR:Hid (qb wr _ 55 _):=(P.block _ ja).trans V.o;generalize ue t _=ft at*
       go_wp2_with (first
        | (go_at_call 49;refine JP.o.mono ?_;rintro e w8 ⟨p,r,rfl,HU8,y⟩;have y8:=((HYR.o.below y.o).alloc (.cells #[.slice p ft.length r] 55)).cell 0;have KP:=y.o.size;have hsy:=(HYR.o.below y.o).lt)
        | (go_at_call 50;refine(HSM.o _ _ _ HU8 y).mono ?_;rintro e w9 ⟨rfl,pR⟩))
       go_ret;exact⟨rfl,g.o.trans ((y.o.trans (pR.mono ja)).mono ja)⟩
theorem lz{a:Type}(p:a->Bool):∀(l:List a) (k:Nat),idxFrom p l (k:Int)=if l.any p then((k+l.findIdx p:Nat):Int)else-1
 | [],k=>by simp[idxFrom]
 | x::l,k=>by{rw[idxFrom,List.any_cons,List.findIdx_cons];cases h:p x with| true=>simp| false=>{rw[if_neg Aa,Bool.false_or];have b:=lz p l (k+1);have e:(k+1:Nat)=(k:Int)+1:=rfl;rw[<-e,b];(split);{simp only[cond_false];congr 1;omega};{rfl}}}
theorem vG(g:Nat)(u:Array Ea)(J:∀args w,(callFunc g args).run prog w=.ok (.enter g args) w)(p:Int->Bool)(l:List Int)(v:Ea)(w:Ca)(B:Nat)(K:B<=w.heap.size)(m:IntsIn w B l v)
  (t:∀x∈l,∀W,Da w.heap.size w W->Db g (#[pa x]++u) W λe A=>e=.returned (.bool (p x))/\Da W.heap.size W A):
  Db 42 #[v,.func (.func g) #[] u] w λe F=>e=.returned (pa (idxFrom p l 0))/\Da w.heap.size w F:=by
 have y:=la m;have z:=la t;obtain⟨H,I,rfl,M,D,_⟩:=Sa.shape m;unfold maxLen at D;have q:Hid (idxFrom p l 0=idxFrom p (l.drop 0) (0:Nat)):=rfl;generalize idxFrom p l 0=R at*
 clear m t;go_enter func42,ntmps42;go_wp2
 go_loopw [8] (λi wr=>∃k:Nat,k<=l.length/\i=pa k/\Hid (R=idxFrom p (l.drop k) k)/\Hid (Da w.heap.size w wr)) (λi _=>l.length-(intOf i).toNat)
 case atStart=>exact⟨0,ja,rfl,q,za _ _⟩
 case round=>
  obtain⟨k,L,rfl,f,h⟩:=hrel;have hsz:=h.o.size;by_cases hlt:k<l.length
  {obtain⟨b,o,rfl,C,s⟩:=Sa.one y.o k hlt;have N:=(h.o.cell (by show b<w.heap.size;omega)).trans s;have a:=f.o;rw[ph _ l k hlt]at a;have n:=la (z.o l[k] (Oa _) wr h.o);have c:=la a;clear s a f q;generalize l[k]=x at*;generalize p x=E at*;cases E with| true=>{have j:=la (show(k:Int)=R by rw[c.o];rfl);clear c;go_wp2_with (go_at_fn g;refine n.o.mono ?_;rintro e G ⟨rfl,d⟩);go_ret;exact⟨vf j.o,h.o.trans (d.mono hsz)⟩}| false=>{(have j:Hid (R=idxFrom p (l.drop (k+1)) (k+1:Nat)):=by show _=_;rw[c.o];rfl);clear c;go_wp2_with (go_at_fn g;refine n.o.mono ?_;rintro e G ⟨rfl,d⟩);go_roundw;(case rel=>exact⟨_,ja,by go_num,j,h.o.trans (d.mono hsz)⟩);case measure=>simp[intOf];omega}}
  ·have j:=la (show(-1:Int)=R by
    have r:=f.o
    rw[Bb ja]at r
    exact r.symm)
   go_wp2;go_ret;exact⟨vf j.o,h.o⟩
theorem pN(c v:Int)(b:Nat)(w:Ca)(d:w.cell? (Ya b)=some (pa v)):
  Db 93 #[pa c,Ma b] w λe a=>e=.returned (.bool (decide (v<c)))/\Da w.heap.size w a:=by
 go_enter func93,ntmps93;go_wp2;go_ret;exact⟨rfl,za _ _⟩
def Mr(n:Dn)(v:Int):Int:=if n.Sb.any (λc=>decide (v<c))then(Ie n.Sb v:Int)else(n.kids.length:Int)-1
theorem VF(n:Dn)(v:Int)(D E:Ea)(w:Ca)(B:Nat)(H:B<=w.heap.size)(u:IntsIn w B n.Sb D)(C:IntsIn w B n.kids E):
  Db 51 #[.agg #[pa n.fact,D,E,.bool n.leaf],pa v] w λe L=>e=.returned (pa (Mr n v))/\Da w.heap.size w L:=by
 obtain⟨ac,g,rfl,_⟩:=Sa.shape u;obtain⟨f,h,rfl,O,K,_⟩:=Sa.shape C;unfold maxLen at K;have a:Da _ w ((w.alloc (.cells #[pa n.fact,.slice ac n.Sb.length g,.slice f n.kids.length h,.bool n.leaf] 104)).alloc (.cells #[pa v] 3)):=((za _ _).alloc (wa _) _).alloc Aa _;have k:qb ((w.alloc _).alloc (.cells #[pa v] 3)) _ 104 _:=(qb.new w 104 #[pa n.fact,.slice ac n.Sb.length g,.slice f n.kids.length h,.bool n.leaf]).alloc _
 have l:qb ((w.alloc (.cells #[pa n.fact,.slice ac n.Sb.length g,.slice f n.kids.length h,.bool n.leaf] 104)).alloc (.cells #[pa v] 3)) (w.heap.size+1) 3 #[pa v]:=by{have q:=qb.new (w.alloc (.cells #[pa n.fact,.slice ac n.Sb.length g,.slice f n.kids.length h,.bool n.leaf] 104)) 3 #[pa v];simpa only[Ia]using q}
 have y:(((w.alloc (.cells #[pa n.fact,.slice ac n.Sb.length g,.slice f n.kids.length h,.bool n.leaf] 104)).alloc (.cells #[pa v] 3))).heap.size=w.heap.size+2:=by simp
 obtain⟨W,t⟩:∃W,((w.alloc (.cells #[pa n.fact,.slice ac n.Sb.length g,.slice f n.kids.length h,.bool n.leaf] 104)).alloc (.cells #[pa v] 3))=W:=⟨_,rfl⟩;rw[t]at a k l y;have A:=la t;have m:=la k;have F:=la l;have i:=la a;have x1:=k.cell 1
 have s:=vG 93 #[.pointer _] (enters_of func93 Ha rfl) (λc=>decide _) _ _ W B ja (u.below (a.mono H))
  (λx _ G I=>pN x v _ G ((l.below I).cell 0))
 have d:=lz (λc=>decide (v<c)) n.Sb 0;rw[Vb,show((0:Nat):Int)=0 from rfl]at d;rw[d]at s;have z:=la s;have j:Hid (Mr n v=if n.Sb.any (λc=>decide _)then((n.Sb.findIdx λc=>decide (v<c)):Int)else n.kids.length-1):=rfl;generalize Mr n v=R at*
 clear u C t a k l s d;generalize(n.Sb.findIdx λc=>decide (v<c))=r at*
 generalize n.Sb.any (λc=>decide (v<c))=an at*
 have N:0<=(r:Int):=Xb _;cases an with| true=>{have p:=la (show(r:Int)=R by rw[j.o];rfl);(have hlt:decide ((r:Int)<0)=false:=Aa);clear j;go_enter func51,ntmps51;go_upto_region 1 with(fail);rw[A.o];go_wp2_with (go_at_call 42;refine z.o.mono ?_;rintro e M ⟨rfl,b⟩);go_ret;exact⟨vf p.o,i.o.trans (b.mono ja)⟩}| false=>{have p:=la (show(n.kids.length:Int)-1=R by rw[j.o];rfl);have J:IntKind.i64.wrap _=n.kids.length-1:=IntWalk.i64_in _ ja;clear j;go_enter func51,ntmps51;go_upto_region 1 with(fail);rw[A.o];go_wp2_with (go_at_call 42;refine z.o.mono ?_;rintro e M ⟨rfl,b⟩;have x2:=(m.o.below b).cell 2);go_ret;exact⟨vf p.o,i.o.trans (b.mono ja)⟩}
theorem XF{n:Dn}(h:n.kids.length=n.Sb.length+1)(v:Int):Mr n v=(Ie n.Sb v:Int):=by
 grind [Mr,Ie]
theorem um{w:Ca}{x:Ea}{t:TypeId}:∀j u,[x][j]? =some u->(w.alloc (.cells #[x] t)).cell? ((Ya w.heap.size:Addr).add j)=some u:=by
 intro j u a
 match j,a with| 0,a=>{simp at a;subst a;exact(qb.new w t _).cell 0}
theorem MJ(d:List Fa)(v:Ea)(w:Ca)(B:Nat)(hB:B<=w.heap.size)(hd:jf w B d v)(P:gf d=true):
  Db 41 #[v] w λe w'=>∃u,e=.returned u/\w'.ownsRow w.heap.size 3 1 u (d.map Fa.lo).length ((d.map Fa.lo).map iW)/\Da w.heap.size w w':=by
 have HD:=la hd;have yM:=(eh P).len;obtain⟨_,rfl,m⟩:=hd;have G:=la m;obtain⟨C,D,rfl,l1,l2,_⟩:=Sa.shape m;unfold maxLen at l2;have h:Hid (Da _ w (w.alloc (.cells #[.slice C d.length D] 24))):=(za _ _).alloc (wa _) _;have i:Hid (qb _ w.heap.size 24 #[.slice C d.length D]):=qb.new _ _ _;have O:(w.alloc (.cells #[.slice C d.length D] 24)).heap.size=w.heap.size+1:=by simp
 obtain⟨W,J⟩:∃W,(w.alloc (.cells #[.slice C d.length D] 24))=W:=⟨_,rfl⟩;rw[J]at h i O;have n:=Lj d _ W B ja (HD.o.below (h.o.mono hB));rw[P]at n;have HV:=la n;have HW:=la J;have x0:=i.o.cell 0;obtain⟨i0,L,Q,R,S⟩:=info_parts Hl;clear m J n P;go_enter func41,ntmps41;go_upto_region 1 with(fail);rw[HW.o];go_upto_region 4 with(go_at_call 46;refine HV.o.mono ?_;rintro e w2 ⟨rfl,f⟩;have y0:=(i.o.below f).cell 0;have E:=la (h.o.trans (f.mono ja));have Qu:=f.size;clear f);go_wp2
 go_loopw [3,12] (λcv T wr=>∃j:Nat,j<=d.length/\T=pa j/\Hid (wr.ownsRow w.heap.size 3 1 cv j (((d.take j).map Fa.lo).map iW))/\Hid (Da w.heap.size w wr)) (λ_ T _=>d.length-(intOf T).toNat)
 case atStart=>exact⟨0,ja,rfl,Ec _ _ _ _,E⟩
 case round=>(obtain⟨j,hj,rfl,N,l⟩:=hrel;have hsz:=l.o.size;obtain⟨ca,cc,hcv⟩:=Xd N.o;subst hcv;by_cases hlt:j<d.length;{obtain⟨b,o,rfl,Tn,X,Y,Z,f3,w1,U,w3,V⟩:=G.o.at j hlt;have q0:=(l.o.cell (by show b<w.heap.size;omega)).trans X;have q1:=(l.o.cell (by show b<w.heap.size;omega)).trans Y;have q2:=(l.o.cell (by show b<w.heap.size;omega)).trans Z;have q3:=(l.o.cell (by show b<w.heap.size;omega)).trans f3;(have A:((d.take (j+1)).map Fa.lo).map iW=((d.take j).map Fa.lo).map iW++[iW d[j].lo]:=by rw[Ta hlt,Pb,Pb];rfl);have I:=la A;clear X Y Z f3 w1 U w3 V A;generalize d[j]=a at*;have r:=la ((N.o.alloc (.cells #[.string a.name,pa a.kind,pa a.lo,pa a.hi] 120)).alloc (.cells #[pa a.lo] 3));have z:Da _ w ((wr.alloc (.cells #[.string a.name,pa a.kind,pa a.lo,pa a.hi] 120)).alloc (.cells #[pa a.lo] 3)):=(l.o.alloc ja _).alloc (by simp;omega) _;have p:=la z;clear z;go_wp2_with (at_builtin;refine wpList_append_own_at _ Ra _ _ 29 Ra _ 3 i0 _ 1 8 Tryz.underlying29 L Q R S rfl Ba _ j _ Ra r.o _ 1 1 [iW _] Ra Ra (by have q:=um (w:=wr.alloc (.cells #[.string a.name,pa a.kind,pa a.lo,pa a.hi] 120)) (x:=iW a.lo) (t:=3);rw[Ia]at q;exact q) (by intro u hu;simp at hu;subst hu;rfl) (by unfold maxLen;omega) ja (by simp;omega) ?_;intro v4 V c g M O7;refine Hid.o ?_);refine la ?_;obtain⟨g4,y,rfl,hg4,K⟩:=c.form ja;have HOW:Hid (V.ownsRow w.heap.size 3 1 (.slice (Nb g4) (j+1) y) (j+1) (((d.take (j+1)).map Fa.lo).map iW)):=by{show World.ownsRow _ _ _ _ _ _ _;rw[I.o];exact c};have F:Hid _:=p.o.grown g (by have:=p.o.size;omega) (λk hk=>(r.o.lt k hk).1);go_wp2;go_roundw;(case rel=>exact⟨_,ja,by go_num,HOW,F⟩);case measure=>simp[intOf];omega};{(obtain rfl:j=d.length:=ja);have s:=N.o;rw[Ub]at s;have H:=la s;go_wp2;go_ret;exact⟨_,rfl,by rw[Va];exact H.o,l.o⟩})
end Go.Proofs.YtdipkbobalnilaaGreatDoor
