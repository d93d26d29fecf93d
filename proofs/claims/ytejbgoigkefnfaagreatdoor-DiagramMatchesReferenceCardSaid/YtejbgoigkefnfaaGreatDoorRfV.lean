/- The walk of pandectref11.Valid. Bounds on the nodes' rows. -/
import Derived.Test.YtejbgoigkefnfaaGreatDoorAl
import Derived.Test.YtejbgoigkefnfaaGreatDoorDgLs
import Derived.Test.YtejbgoigkefnfaaGreatDoorRfH
import Derived.Test.YtejbgoigkefnfaaGreatDoorDgRefS
import Derived.Test.YtejbgoigkefnfaaGreatDoorRef
set_option maxRecDepth 100000
set_option maxHeartbeats 8000000
namespace Go.Proofs.YtejbgoigkefnfaaGreatDoor
section
variable {nf : Nat} {lo hi : Nat -> Int} {t : List Dn} {M : Nat -> (Nat -> Int) -> Bool}
theorem iJ (hT:Lg nf lo hi t):ue t (List.range t.length)=t:=by
 unfold ue;refine se la fun i h1 h2=>?_
 rw[Gd,Yf,Eb _ _ _ h2];have hp:=hT i h2;rw[Eb _ _ _ h2]at hp
 have hk:t[i].kids.map (fun x=>(((List.range t.length).idxOf x.toNat:Nat):Int))=t[i].kids:=by
  have e:t[i].kids.map (fun x=>(((List.range t.length).idxOf x.toNat:Nat):Int))=t[i].kids.map id:=by
   refine Ye fun k hk=>?_
   obtain⟨b1,b2,_⟩:=(hp.inner (Vc hk)).2.2.2.2.2.2.2 k hk;have hm:k.toNat∈List.range t.length:=List.mem_range.2 b2;have h3:=Dd (Ub hm);rw[Yf]at h3;rw[h3]
   show((k.toNat:Nat):Int)=k
   omega
  rw[e,List.map_id]
 rw[hk]
theorem oM (g:Te nf lo hi t M)(hpos:0<t.length):ue t (Yb t (nf+1) [] 0)=t↔Yb t (nf+1) [] 0=List.range t.length:=by
 constructor
 {intro h;have ho:=(Hl g.table hpos (f:=nf+1) ia).1;obtain⟨o,hoo⟩:∃o,Yb t (nf+1) [] 0=o:=⟨_,rfl⟩;rw[hoo]at h ho⊢;have hl:o.length=t.length:=by{have:=congrArg List.length h;rwa[pj]at this};(have g':=Ir g ho;rw[h]at g';refine se (by simp[hl]) fun i h1 h2=>?_);rw[Yf];(have hi:i<t.length:=ia);(have:=g.one hi (ho.inside _ (Ga h1)) fun c fc=>by{have q:=Ut g g' _ i hi (ja _) c fc;rw[q];show M (o.getD i 0) c=_;rw[Eb _ _ _ h1]});exact this.symm}
 {intro h;rw[h];exact iJ g.table}
def po {α:Type}(F:Nat->Option α):Nat->Nat->Option α
 | 0,_=>none
 | n+1,i=>match F i with| some v=>some v| none=>po F n (i+1)
theorem vC {α:Type}{F:Nat->Option α}{v:α}:∀(n i k:Nat),i<=k->k<i+n->(∀j,i<=j->j<k->F j=none)->F k=some v->po F n i=some v
 | 0,i,k,h1,h2,_,_=>by omega
 | n+1,i,k,h1,h2,h3,h4=>by{unfold po;by_cases e:i=k;{subst e;rw[h4]};{rw[h3 i (ja _) ia];exact vC n (i+1) k ia ia (fun j hj hk=>h3 j ia hk) h4}}
def lR (t:List Dn):Nat->Nat->List Int->Option (List Int)
 | 0,_,_=>none
 | f+1,x,c=>
  if(t.getD x default).kids=[]then if(t.getD x default).leaf=true then some c else none
  else po (fun i=>lR t f ((t.getD x default).kids.getD i 0).toNat (if 0<i then c.set (t.getD x default).fact.toNat ((t.getD x default).Ja.getD (i-1) 0)else c)) (t.getD x default).kids.length 0
theorem V6 (g:Te nf lo hi t M):∀(f x:Nat) (l:List Int),x<t.length->nf-Fb nf (t.getD x default)<f->l.length=nf->
  (Xk (t.getD x default)=true->∃l',lR t f x l=some l'/\ l'.length=nf/\ Wk l'=(ij t f x (Wk l)).1/\ (t.getD (ij t f x (Wk l)).2 default).leaf=true)/\ (Xk (t.getD x default)=false->lR t f x l=none):=by
 intro f
 induction f with
 | zero=>intro x l _ h;omega
 | succ f ih=>
  intro x l hx hf hl;unfold lR ij;by_cases hk:(t.getD x default).kids=[]
  {rw[if_pos hk,if_pos hk];constructor;{intro hv;have:(t.getD x default).leaf=true:=by{unfold Xk at hv;rw[hk]at hv;simpa using hv};rw[if_pos this];exact⟨l,rfl,hl,rfl,this⟩};{intro hv;rw[Aa (by rw[(ul hv).2];simp)]}}
  ·rw[Aa hk,Aa hk]
   refine⟨fun _=>?_,fun hv=>absurd (ul hv).1 hk⟩;have xV:=My g hx hk;have hr:Fb nf (t.getD x default)=(t.getD x default).fact.toNat:=by unfold Fb;rw[Aa hk]
   have hin:=(g.table x hx).inner hk;have j4:=hin.2.2.1
   have X6:∀j,j<(t.getD x default).kids.length->((t.getD x default).kids.getD j 0).toNat<t.length/\ nf-Fb nf (t.getD ((t.getD x default).kids.getD j 0).toNat default)<f:=fun j hj=>by{(have hm:(t.getD x default).kids.getD j 0∈(t.getD x default).kids:=by rw[Eb _ _ _ hj];exact Ga _);obtain⟨_,b2,b3⟩:=hin.2.2.2.2.2.2.2 _ hm;exact⟨b2,ia⟩}
   have lY:∀j,(if 0<j then l.set (t.getD x default).fact.toNat ((t.getD x default).Ja.getD (j-1) 0)else l).length=nf/\
     Wk (if 0<j then l.set (t.getD x default).fact.toNat ((t.getD x default).Ja.getD (j-1) 0)else l)=(if 0<j then Yl (Wk l) (t.getD x default).fact.toNat ((t.getD x default).Ja.getD (j-1) 0)else Wk l):=fun j=>by
    by_cases hj:0<j
    {rw[if_pos hj,if_pos hj];exact⟨by rw[vf,hl],tF _ _ _ (by rw[hl];exact j4)⟩}
    {rw[Aa hj,Aa hj];exact⟨hl,rfl⟩}
   obtain⟨b1,b2⟩:=X6 _ xV
   have Y6:Xk (t.getD ((t.getD x default).kids.getD (Ch t (t.getD x default)) 0).toNat default)=true:=by{rw[Eb _ _ _ xV];exact Xh (w:=xV)}
   obtain⟨l',e1,e2,e3,e4⟩:=(ih _ (if 0<Ch t (t.getD x default)then l.set (t.getD x default).fact.toNat ((t.getD x default).Ja.getD (Ch t (t.getD x default)-1) 0)else l) b1 b2 (lY _).1).1 Y6;rw[(lY _).2]at e3 e4;refine⟨l',?_,e2,e3,e4⟩;refine vC _ 0 (Ch t (t.getD x default)) (xb _) ia (fun j _ hj=>?_) e1;obtain⟨c1,c2⟩:=X6 j ia;refine(ih _ _ c1 c2 (lY j).1).2 ?_;have cR:j<(t.getD x default).kids.length:=by omega
   rw[Eb _ _ _ cR];have:=oh (p:=fun k:Int=>Xk (t.getD k.toNat default)) hj
   simpa using this
end
theorem pM {d:List Fa}{t:List Dn}(h:te d t):Xg d t=lR t (d.length+1) 0 (d.map Fa.lo):=by
 have hk:=V6 h.dh (d.length+1) 0 (d.map Fa.lo) h.pos ia la;rw[LJ]at hk;unfold Xg bI;rw[if_pos (Nh.2 h)];cases hv:Xk (t.getD 0 default)with| true=>{obtain⟨l',e1,e2,e3,e4⟩:=hk.1 hv;rw[if_pos e4,e1, <-KB e2 e3]}| false=>{rw[hk.2 hv];unfold ij;rw[if_pos (ul hv).1,Aa];show ¬(t.getD 0 default).leaf=true;rw[(ul hv).2];simp}
open Go.RowKit
def fq (lo:Int)(l:List Int):Nat->Int
 | 0=>lo
 | j+1=>l.getD j 0
theorem EG (d:List Fa)(t:List Dn)(n:Dn)(vg vc vk u:Value)(w:World)(B:Nat)(hB:B<=w.heap.size)(hg:oe w B t vg)(hc:IntsIn w B n.Ja vc)(hk:IntsIn w B n.kids vk)(hd:bf w B d u)(hl:n.Ja.length<=1000000):
    Calls Tryz.prog 78 #[vg,.agg #[.int .i64 n.fact,vc,vk,.bool n.leaf],u] w fun e w'=>e=.returned (.bool (Xd d t n))/\ Below w.heap.size w w':=by
  obtain⟨fact,Ja,kids,leaf⟩:=n
  dsimp only at hc hk hl⊢
  have HG:=da hg;have HD:=da hd;have HC:=da hc;have HK:=da hk;obtain⟨_,rfl,hg2⟩:=hg;obtain⟨_,rfl,Tm⟩:=hd;have Uv:=da hg2;have VG:=da Tm;obtain⟨ag,cg,rfl,g1,g2,_⟩:=Xa.shape hg2;obtain⟨ad,cd,rfl,d1,d2,_⟩:=Xa.shape Tm;obtain⟨ac,cc,rfl,c1,c2,_⟩:=Xa.shape hc;obtain⟨ak,ck,rfl,k1,k2,_⟩:=Xa.shape hk;unfold maxLen at g2 d2 c2 k2;have hl:Ja.length<=1000000:=hl;have aE:Below w.heap.size w (((w.alloc (.cells #[.slice ag t.length cg] 34)).alloc (.cells #[.int .i64 fact,.slice ac Ja.length cc,.slice ak kids.length ck,.bool leaf] 56)).alloc (.cells #[.slice ad d.length cd] 27)):=(((za _ _).alloc (ja _) _).alloc la _).alloc (by simp;omega) _;have K0:Bb (((w.alloc (.cells #[.slice ag t.length cg] 34)).alloc (.cells #[.int .i64 fact,.slice ac Ja.length cc,.slice ak kids.length ck,.bool leaf] 56)).alloc (.cells #[.slice ad d.length cd] 27)) w.heap.size 34 #[.slice ag t.length cg]:=((Bb.new w 34 #[.slice ag t.length cg]).alloc _).alloc _
  have K1:Bb (((w.alloc (.cells #[.slice ag t.length cg] 34)).alloc (.cells #[.int .i64 fact,.slice ac Ja.length cc,.slice ak kids.length ck,.bool leaf] 56)).alloc (.cells #[.slice ad d.length cd] 27)) (w.heap.size+1) 56 #[.int .i64 fact,.slice ac Ja.length cc,.slice ak kids.length ck,.bool leaf]:=by{have q:=(Bb.new (w.alloc (.cells #[.slice ag t.length cg] 34)) 56 #[.int .i64 fact,.slice ac Ja.length cc,.slice ak kids.length ck,.bool leaf]).alloc (.cells #[.slice ad d.length cd] 27);simpa only[Ba]using q}
  have K2:Bb (((w.alloc (.cells #[.slice ag t.length cg] 34)).alloc (.cells #[.int .i64 fact,.slice ac Ja.length cc,.slice ak kids.length ck,.bool leaf] 56)).alloc (.cells #[.slice ad d.length cd] 27)) (w.heap.size+2) 27 #[.slice ad d.length cd]:=by{have q:=Bb.new ((w.alloc (.cells #[.slice ag t.length cg] 34)).alloc (.cells #[.int .i64 fact,.slice ac Ja.length cc,.slice ak kids.length ck,.bool leaf] 56)) 27 #[.slice ad d.length cd];simpa only[Ba]using q}
  have XG:((((w.alloc (.cells #[.slice ag t.length cg] 34)).alloc (.cells #[.int .i64 fact,.slice ac Ja.length cc,.slice ak kids.length ck,.bool leaf] 56)).alloc (.cells #[.slice ad d.length cd] 27))).heap.size=w.heap.size+3:=by simp
  obtain⟨W,hW⟩:∃W,(((w.alloc (.cells #[.slice ag t.length cg] 34)).alloc (.cells #[.int .i64 fact,.slice ac Ja.length cc,.slice ak kids.length ck,.bool leaf] 56)).alloc (.cells #[.slice ad d.length cd] 27))=W:=⟨_,rfl⟩;rw[hW]at aE K0 K1 K2 XG;have HW:=da hW;have Qc:=da aE;have Be:=da K0;have Gf:=da K1;have Dj:=da K2;obtain⟨R,hR⟩:∃R,Xd d t ⟨fact,Ja,kids,leaf⟩=R:=⟨_,rfl⟩;rw[hR];have HR:=da hR;have x0:=K0.cell 0;have y0:=K1.cell 0;have y1:=K1.cell 1;have y2:=K1.cell 2;have y3:=K1.cell 3;have z0:=K2.cell 0;have cw:=fh (l:=kids);have bE:=fh (l:=Ja);clear hg2 Tm hc hk hW aE K0 K1 K2 hR;go_enter Tryz.func78,Tryz.ntmps78;go_upto_region 1 with(fail);rw[HW.out];by_cases Ii:kids=[]
  . have e1:((kids.length:Int)==0)=true:=by rw[cw];simpa using Ii
    have HS:=da (show R=Sz ⟨fact,Ja,kids,leaf⟩ by rw[<-HR.out];unfold Xd Sz;rw[if_pos Ii];subst Ii;cases(fact==0)<;>cases Ja.isEmpty<;>rfl);have HLF:Hid (Calls Tryz.prog 120 #[.agg #[.int .i64 fact,.slice ac Ja.length cc,.slice ak kids.length ck,.bool leaf]] W fun e w'=>e=.returned (.bool (Sz ⟨fact,Ja,kids,leaf⟩))/\ Below W.heap.size W w'):=lM ⟨fact,Ja,kids,leaf⟩ _ _ W B ia (IntsIn.below (Qc.out.mono hB) HC.out) (IntsIn.below (Qc.out.mono hB) HK.out);clear cw Ii bE;go_wp2_with (go_at_call 120;refine HLF.out.mono ?_;rintro e w5 ⟨rfl,fe⟩;have Jf:=da fe;clear fe);go_ret;exact⟨Oa HS.out.symm,Qc.out.trans (Jf.out.mono Qc.out.size)⟩
  . have e1:((kids.length:Int)==0)=false:=by rw[cw];simpa using Ii
    have jA:R=if leaf=true\/fact<0\/(d.length:Int)<=fact\/Ja=[]\/kids.length≠Ja.length+1 then false else mn (Mh d fact.toNat) (Pe d fact.toNat) Ja&& Ui t fact none kids:=by{rw[<-HR.out];unfold Xd;rw[Aa Ii]}
    have Fi:=da jA;clear cw jA;have yh:(leaf=true\/fact<0\/(d.length:Int)<=fact\/Ja=[]\/kids.length≠Ja.length+1)->R=false:=fun h=>by rw[Fi.out,if_pos h]
    cases a1:leaf with
    | true=>{have HS:=da (yh (.inl a1));clear yh Ii bE;subst a1;go_wp2;go_ret;exact⟨Oa HS.out.symm,Qc.out⟩}
    | false=>
      subst a1;cases a2:decide (fact<0)with
      | true=>{have HS:=da (yh (.inr (.inl (by simpa using a2))));clear yh Ii bE;go_wp2;go_ret;exact⟨Oa HS.out.symm,Qc.out⟩}
      | false=>
        cases a3:decide ((d.length:Int)<=fact)with
        | true=>{have HS:=da (yh (.inr (.inr (.inl (by simpa using a3)))));clear yh Ii bE;go_wp2;go_ret;exact⟨Oa HS.out.symm,Qc.out⟩}
        | false=>
          cases a4:decide ((Ja.length:Int)<1)with
          | true=>{have HS:=da (yh (.inr (.inr (.inr (.inl (by have h:(Ja.length:Int)<1:=(by simpa using a4);exact List.length_eq_zero_iff.1 ia))))));clear yh Ii bE;go_wp2;go_ret;exact⟨Oa HS.out.symm,Qc.out⟩}
          | false=>
            cases a5:((kids.length:Int) !=(Ja.length:Int)+1)with
            | true=>{have LN:kids.length≠Ja.length+1:=by{(have:(kids.length:Int)≠(Ja.length:Int)+1:=by simpa using a5);omega};have HS:=da (yh (.inr (.inr (.inr (.inr LN)))));clear LN;clear yh Ii bE;go_wp2;go_ret;exact⟨Oa HS.out.symm,Qc.out⟩}
            | false=>
              have b2:0<=fact:=by simpa using a2
              obtain⟨i,rfl⟩:∃i:Nat,fact=(i:Int):=⟨fact.toNat,ia⟩
              have hi:i<d.length:=by{(have:¬((d.length:Int)<=(i:Int)):=by simpa using a3);omega}
              have hce:Ja≠[]:=fun e=>by rw[e]at a4;simp at a4
              have dl:kids.length=Ja.length+1:=by{(have:(kids.length:Int)=(Ja.length:Int)+1:=by simpa using a5);omega}
              have hn:¬(false=true\/(i:Int)<0\/(d.length:Int)<=(i:Int)\/Ja=[]\/kids.length≠Ja.length+1):=by
                rintro(h | h | h | h | h)
                . cases h
                . omega
                . omega
                . exact hce h
                . exact h dl
              have HS:=Fi.out;rw[Aa hn,Gb]at HS;obtain⟨db,df,rfl,D_,f0,f1,f2,f3,f4,f5,f6,f7⟩:=VG.out.at i hi;clear f0 f1 f4 f5 f6 f7;have N0:Pe d i=d[i].lo:=by unfold Pe;rw[Eb _ _ _ hi]
              have O0:Mh d i=d[i].hi:=by unfold Mh;rw[Eb _ _ _ hi]
              rw[N0,O0]at HS;generalize d[i].lo=lo at*
              generalize d[i].hi=hx at*
              have yK:=da f2;have HF3:=da f3;have HST:=da HS;have M8:Hid (kids.length=Ja.length+1):=dl;have aS:kids.length<=1000001:=by omega
              have hin:(i:Int)<(d.length:Int):=by omega
              have i0:(0:Int)<=(i:Int):=Ab i;clear yh hn bE Ii hce HR Fi f2 f3 N0 O0 dl HS hi;have OY:fq lo Ja 0=lo:=rfl;have lN:Hid (R=(mn hx (fq lo Ja 0) (Ja.drop 0)&& Ui t i none kids)):=HST.out;clear OY HST;go_wp2
              go_loopw [7] (fun iv wr=>∃(j:Nat),j<=Ja.length/\ iv=.int .i64 j/\ Hid (Below W.heap.size W wr)/\ Hid (lo<=fq lo Ja j)/\ Hid (R=(mn hx (fq lo Ja j) (Ja.drop j)&& Ui t i none kids))) (fun iv _=>Ja.length-(intOf iv).toNat)
              case atStart=>exact⟨0,ia,rfl,za _ _,Jc _,lN⟩
              case round=>
                obtain⟨j,hj,rfl,hwr,hlo,WK⟩:=hrel;have Xl:Hid (Below w.heap.size w wr):=Qc.out.trans (hwr.out.mono ia);have N8:=hwr.out.size;clear x0 y0 y1 y2 y3 z0 lN;have x0:=(Be.out.below hwr.out).cell 0;have y0:=(Gf.out.below hwr.out).cell 0;have y1:=(Gf.out.below hwr.out).cell 1;have y2:=(Gf.out.below hwr.out).cell 2;have z0:=(Dj.out.below hwr.out).cell 0;by_cases hlt:j<Ja.length
                . obtain⟨cb,co,rfl,hcB,hcc⟩:=Xa.one HC.out j hlt
                  have FH:=(Xl.out.cell (p:=⟨cb,co+j,none⟩) (by show cb<w.heap.size;omega)).trans hcc;have GH:=(Xl.out.cell (p:=⟨db,df+i*4+2,none⟩) (by show db<w.heap.size;omega)).trans yK.out;have hq3:=(Xl.out.cell (p:=⟨db,df+i*4+3,none⟩) (by show db<w.heap.size;omega)).trans HF3.out;have MN:=vy hx (fq lo Ja j) Ja j hlt;have jP:fq lo Ja (j+1)=Ja[j]:=by show(Ja.getD j 0)=_;rw[Eb _ _ _ hlt]
                  have AZ:=da jP;have Ri:=WK.out;rw[MN]at Ri;have ik:=da Ri;have JQ:=hlo.out
                  have hpv:0<j->∃cp,fq lo Ja j=cp/\ wr.cell? ⟨cb,co+(j-1),none⟩=some (.int .i64 cp):=fun h0=>by{(have hp:j-1<Ja.length:=ia);obtain⟨cb',co',hk',P0,JH⟩:=Xa.one HC.out (j-1) hp;(obtain⟨rfl,rfl⟩:cb=cb'/\ co=co':=by simpa using hk');refine⟨Ja[j-1],?_,(Xl.out.cell (p:=⟨cb,co+(j-1),none⟩) (by show cb<w.heap.size;omega)).trans JH⟩;obtain⟨jp,rfl⟩:∃jp,j=jp+1:=⟨j-1,ia⟩;show Ja.getD jp 0=_;rw[Eb _ _ _ ia];rfl}
                  have HPV:=da hpv;clear MN hcc jP Ri WK hpv hlo;generalize Ja[j]=cj at*
                  by_cases b1:cj<=lo
                  . have XK:decide (cj<=lo)=true:=by simpa using b1
                    have HS:=da (show R=false by rw[ik.out,if_pos (.inl ia)];rfl);clear b1 JQ
                    (go_wp2;go_quiet(fail);go_wp2;go_ret;exact⟨Oa HS.out.symm,Xl.out.trans (World.Za _ _ _)⟩)
                  . have XK:decide (cj<=lo)=false:=by simpa using b1
                    by_cases b2:hx<cj
                    . have YK:decide (hx<cj)=true:=by simpa using b2
                      have HS:=da (show R=false by rw[ik.out,if_pos (.inr b2)];rfl);clear b1 b2 JQ
                      (go_wp2;go_quiet(fail);go_wp2;go_ret;exact⟨Oa HS.out.symm,Xl.out.trans (World.Za _ _ _)⟩)
                    . have YK:decide (hx<cj)=false:=by simpa using b2
                      by_cases BZ:j=0
                      . have aF:decide ((0:Int)<(j:Int))=false:=by simp;omega
                        have hm2:decide (0<j)=false:=by simp;omega
                        have EV:Hid (lo<=fq lo Ja (j+1)):=by show lo<=_;rw[AZ.out];omega
                        have HS:Hid (R=(mn hx (fq lo Ja (j+1)) (Ja.drop (j+1))&& Ui t i none kids)):=by{show _=_;rw[ik.out,Aa (by rw[show fq lo Ja j=lo by rw[BZ];rfl];omega),AZ.out]}
                        clear b1 b2 JQ BZ
                        (go_wp2;go_quiet(fail);go_wp2;go_roundw;(case rel=>exact⟨j+1,ia,by go_num,hwr.out.trans (World.Za _ _ _),EV,HS⟩);(case measure=>simp[intOf];omega))
                      . obtain⟨cp,hcp,hpc⟩:=HPV.out ia
                        obtain⟨jp,u'⟩:∃jp,j=jp+1:=⟨j-1,ia⟩;rw[show j-1=jp by omega]at hpc;have hwp:IntKind.i64.wrap ((j:Int)-1)=(jp:Int):=by rw[Bd _ ia];omega
                        have aF:decide ((0:Int)<(j:Int))=true:=by simp;omega
                        have hm2:decide (0<j)=true:=by simp;omega
                        have akq:(jp:Int)<(Ja.length:Int):=by omega
                        have akr:(0:Int)<=(jp:Int):=by omega
                        clear u';by_cases b3:cj<=cp
                        . have j5:decide (cj<=cp)=true:=by simpa using b3
                          have HS:=da (show R=false by rw[ik.out,if_pos (.inl ia)];rfl);clear b1 b2 b3 JQ hcp BZ
                          (go_wp2;go_quiet(fail);go_wp2;go_ret;exact⟨Oa HS.out.symm,Xl.out.trans (World.Za _ _ _)⟩)
                        . have j5:decide (cj<=cp)=false:=by simpa using b3
                          have EV:Hid (lo<=fq lo Ja (j+1)):=by show lo<=_;rw[AZ.out];omega
                          have HS:Hid (R=(mn hx (fq lo Ja (j+1)) (Ja.drop (j+1))&& Ui t i none kids)):=by{show _=_;rw[ik.out,Aa ia,AZ.out]}
                          clear b1 b2 b3 JQ hcp BZ
                          (go_wp2;go_quiet(fail);go_wp2;go_roundw;(case rel=>exact⟨j+1,ia,by go_num,hwr.out.trans (World.Za _ _ _),EV,HS⟩);(case measure=>simp[intOf];omega))
                . have Ri:=WK.out
                  rw[Ta ia]at Ri;have Lr:Hid (R=Ui t i (Vj kids 0) (kids.drop 0)):=by show _=_;rw[Ri];rfl
                  have U0:=da Xl.out;clear Ri Xl WK;go_wp2
                  go_loopw [8] (fun iv wq=>∃(m:Nat),m<=kids.length/\ iv=.int .i64 m/\ Hid (Below W.heap.size W wq)/\ Hid (R=Ui t i (Vj kids m) (kids.drop m))) (fun iv _=>kids.length-(intOf iv).toNat)
                  case atStart=>exact⟨0,ia,rfl,hwr,Lr⟩
                  case round=>
                    rename World=>wq
                    obtain⟨m,hm,rfl,hq,WV⟩:=hrel;have Xl:Hid (Below w.heap.size w wq):=Qc.out.trans (hq.out.mono ia);have N8:=hq.out.size;clear x0 y0 y1 y2 z0 Lr;have x0:=(Be.out.below hq.out).cell 0;have y0:=(Gf.out.below hq.out).cell 0;have y2:=(Gf.out.below hq.out).cell 2;by_cases NN:m<kids.length
                    . obtain⟨kb,ko,rfl,Ou,hkc⟩:=Xa.one HK.out m NN
                      have bS:=(Xl.out.cell (p:=⟨kb,ko+m,none⟩) (by show kb<w.heap.size;omega)).trans hkc;have MN:=xy t i (Vj kids m) kids m NN;have Gs:Vj kids (m+1)=some kids[m]:=by unfold Vj;rw[Aa ia,Ke,Eb _ _ _ NN]
                      have Ri:=WV.out;rw[MN]at Ri;have ax:=da Gs;generalize kids[m]=k at*
                      have ik:=da Ri;clear MN hkc WV Ri Gs;by_cases b1:k<0
                      . have XK:decide (k<0)=true:=by simpa using b1
                        have HS:=da (show R=false by rw[ik.out,if_pos (.inl b1)]);clear b1
                        (go_wp2;go_quiet(fail);go_wp2;go_ret;exact⟨Oa HS.out.symm,Xl.out.trans (World.Za _ _ _)⟩)
                      . have XK:decide (k<0)=false:=by simpa using b1
                        by_cases b2:(t.length:Int)<=k
                        . have YK:decide ((t.length:Int)<=k)=true:=by simpa using b2
                          have HS:=da (show R=false by rw[ik.out,if_pos (.inr (.inl b2))]);clear b2
                          (go_wp2;go_quiet(fail);go_wp2;go_ret;exact⟨Oa HS.out.symm,Xl.out.trans (World.Za _ _ _)⟩)
                        . have YK:decide ((t.length:Int)<=k)=false:=by simpa using b2
                          have hkn:k.toNat<t.length:=by omega
                          have hk0:(0:Int)<=k:=by omega
                          have hk1:k<(t.length:Int):=by omega
                          obtain⟨gb,go,rfl,vU,vc',vk',n0,n1,n2,n3,Jj,hki⟩:=Uv.out.at k.toNat hkn;obtain⟨ka,kc,rfl,_⟩:=Xa.shape hki;have q0:=(Xl.out.cell (p:=⟨gb,go+k.toNat*4,none⟩) (by show gb<w.heap.size;omega)).trans n0;have q2:=(Xl.out.cell (p:=⟨gb,go+k.toNat*4+2,none⟩) (by show gb<w.heap.size;omega)).trans n2;have qv:=ik.out;rw[Eb _ _ _ hkn]at qv;have LC:((t[k.toNat].kids).length=0↔t[k.toNat].kids=[]):=Uf;clear n0 n1 n2 n3 Jj hki ik b1 b2;generalize t[k.toNat].fact=kf at*
                          generalize t[k.toNat].kids=kk at*
                          generalize kk.length=kl at*
                          by_cases fB:m=0
                          . have aF:decide ((0:Int)<(m:Int))=false:=by simp;omega
                            have hm2:decide (0<m)=false:=by simp;omega
                            have tj:Hid (R=if kk≠[]/\ kf<=(i:Int)then false else Ui t i (some k) (kids.drop (m+1))):=by
                              show _=_
                              rw[qv,show Vj kids m=none by unfold Vj;rw[if_pos fB]];congr 1
                              rw[eq_iff_iff];constructor
                              . rintro(h | h | h | h)
                                . omega
                                . omega
                                . cases h
                                . exact h
                              . intro h;exact .inr (.inr (.inr h))
                            clear qv fB
                            (cases b5:decide (kk=[])with
                              | true=>
                                (have hq1:decide ((0:Int)<(kl:Int))=false:=(by have:kk=[]:=(by simpa using b5);have:kl=0:=LC.2 this;simp;omega)
                                 have GH:decide (0<kl)=false:=(by simpa using hq1)
                                 have HS:=da (show R=_ by rw[tj.out,Aa (fun h=>h.1 (by simpa using b5))])
                                 clear tj
                                 (go_wp2;go_quiet(fail);go_wp2;go_roundw;(case rel=>exact⟨m+1,ia,by go_num,hq.out.trans (World.Za _ _ _),(by show _=_;rw[ax.out];exact HS.out)⟩);(case measure=>simp[intOf];omega)))
                              | false=>
                                (have hq1:decide ((0:Int)<(kl:Int))=true:=(by have:kk≠[]:=(by simpa using b5);have:kl≠0:=fun e=>this (LC.1 e);simp;omega)
                                 have GH:decide (0<kl)=true:=(by simpa using hq1)
                                 cases b6:decide (kf<=(i:Int))with
                                 | true=>
                                   (have HS:=da (show R=false by rw[tj.out,if_pos ⟨by simpa using b5,by simpa using b6⟩])
                                    clear tj
                                    (go_wp2;go_quiet(fail);go_wp2;go_ret;exact⟨Oa HS.out.symm,Xl.out.trans (World.Za _ _ _)⟩))
                                 | false=>
                                   (have HS:=da (show R=_ by rw[tj.out,Aa (fun h=>by have:=h.2;simp at b6;omega)])
                                    clear tj
                                    (go_wp2;go_quiet(fail);go_wp2;go_roundw;(case rel=>exact⟨m+1,ia,by go_num,hq.out.trans (World.Za _ _ _),(by show _=_;rw[ax.out];exact HS.out)⟩);(case measure=>simp[intOf];omega)))))
                          . obtain⟨mp,kE⟩:∃mp,m=mp+1:=⟨m-1,ia⟩
                            have QN:mp<kids.length:=by omega
                            obtain⟨D8,E8,hk',P0,JH⟩:=Xa.one HK.out mp QN;obtain⟨rfl,rfl⟩:kb=D8/\ ko=E8:=by simpa using hk'
                            have E_:=(Xl.out.cell (p:=⟨kb,ko+mp,none⟩) (by show kb<w.heap.size;omega)).trans JH;have hwr:IntKind.i64.wrap ((m:Int)-1)=(mp:Int):=by rw[Bd _ ia];omega
                            have hpv:Vj kids m=some kids[mp]:=by unfold Vj;rw[Aa fB,kE,Ke,Eb _ _ _ QN]
                            have aF:decide ((0:Int)<(m:Int))=true:=by simp;omega
                            have hm2:decide (0<m)=true:=by simp;omega
                            rw[hpv]at qv;clear JH hpv hk' kE;generalize kids[mp]=kp at*
                            cases b4:(k==kp)with
                            | true=>{have HS:=da (show R=false by rw[qv,if_pos (.inr (.inr (.inl (by rw[eq_of_beq b4]))))]);clear qv;(go_wp2;go_quiet(fail);go_wp2;go_ret;exact⟨Oa HS.out.symm,Xl.out.trans (World.Za _ _ _)⟩)}
                            | false=>
                              have tj:Hid (R=if kk≠[]/\ kf<=(i:Int)then false else Ui t i (some k) (kids.drop (m+1))):=by
                                show _=_
                                rw[qv];congr 1
                                rw[eq_iff_iff];constructor
                                . rintro(h | h | h | h)
                                  . omega
                                  . omega
                                  . exfalso
                                    have h:kp=k:=by simpa using h
                                    rw[h]at b4;simp at b4
                                  . exact h
                                . intro h;exact .inr (.inr (.inr h))
                              clear qv
                              (cases b5:decide (kk=[])with
                                | true=>
                                  (have hq1:decide ((0:Int)<(kl:Int))=false:=(by have:kk=[]:=(by simpa using b5);have:kl=0:=LC.2 this;simp;omega)
                                   have GH:decide (0<kl)=false:=(by simpa using hq1)
                                   have HS:=da (show R=_ by rw[tj.out,Aa (fun h=>h.1 (by simpa using b5))])
                                   clear tj
                                   (go_wp2;go_quiet(fail);go_wp2;go_roundw;(case rel=>exact⟨m+1,ia,by go_num,hq.out.trans (World.Za _ _ _),(by show _=_;rw[ax.out];exact HS.out)⟩);(case measure=>simp[intOf];omega)))
                                | false=>
                                  (have hq1:decide ((0:Int)<(kl:Int))=true:=(by have:kk≠[]:=(by simpa using b5);have:kl≠0:=fun e=>this (LC.1 e);simp;omega)
                                   have GH:decide (0<kl)=true:=(by simpa using hq1)
                                   cases b6:decide (kf<=(i:Int))with
                                   | true=>
                                     (have HS:=da (show R=false by rw[tj.out,if_pos ⟨by simpa using b5,by simpa using b6⟩])
                                      clear tj
                                      (go_wp2;go_quiet(fail);go_wp2;go_ret;exact⟨Oa HS.out.symm,Xl.out.trans (World.Za _ _ _)⟩))
                                   | false=>
                                     (have HS:=da (show R=_ by rw[tj.out,Aa (fun h=>by have:=h.2;simp at b6;omega)])
                                      clear tj
                                      (go_wp2;go_quiet(fail);go_wp2;go_roundw;(case rel=>exact⟨m+1,ia,by go_num,hq.out.trans (World.Za _ _ _),(by show _=_;rw[ax.out];exact HS.out)⟩);(case measure=>simp[intOf];omega)))))
                    . have Ri:=WV.out
                      rw[Ta ia]at Ri;have HS:=da (show R=true by rw[Ri];cases Vj kids m<;>rfl);clear Ri;go_wp2;go_ret;exact⟨Oa HS.out.symm,Xl.out⟩
theorem Yp (d:List Fa)(t:List Dn)(vg u:Value)(w:World)(B:Nat)(hB:B<=w.heap.size)(hg:oe w B t vg)(hd:bf w B d u)(jP:∀n∈t,n.Ja.length<=1000000):
  Calls Tryz.prog 29 #[vg,u] w fun e w'=>e=.returned (.bool (Re d t))/\ Below w.heap.size w w':=by
 have HG:=da hg;have HD:=da hd;obtain⟨_,rfl,hg2⟩:=hg;obtain⟨_,rfl,Tm⟩:=hd;have Uv:=da hg2;obtain⟨ag,cg,rfl,l1,l2,_⟩:=Xa.shape hg2;obtain⟨ad,cd,rfl,_⟩:=Xa.shape Tm;unfold maxLen at l2;have ud:Below w.heap.size w ((w.alloc (.cells #[.slice ag t.length cg] 34)).alloc (.cells #[.slice ad d.length cd] 27)):=((za _ _).alloc (ja _) _).alloc la _;have K0:Bb ((w.alloc (.cells #[.slice ag t.length cg] 34)).alloc (.cells #[.slice ad d.length cd] 27)) w.heap.size 34 #[.slice ag t.length cg]:=(Bb.new w 34 #[.slice ag t.length cg]).alloc _
 have K1:Bb ((w.alloc (.cells #[.slice ag t.length cg] 34)).alloc (.cells #[.slice ad d.length cd] 27)) (w.heap.size+1) 27 #[.slice ad d.length cd]:=by{have q:=Bb.new (w.alloc (.cells #[.slice ag t.length cg] 34)) 27 #[.slice ad d.length cd];simpa only[Ba]using q}
 have qm:w.heap.size+2<=(((w.alloc (.cells #[.slice ag t.length cg] 34)).alloc (.cells #[.slice ad d.length cd] 27))).heap.size:=by simp
 obtain⟨W,hW⟩:∃W,((w.alloc (.cells #[.slice ag t.length cg] 34)).alloc (.cells #[.slice ad d.length cd] 27))=W:=⟨_,rfl⟩;rw[hW]at ud K0 K1 qm;have HW:=da hW;have Vd:=da ud;have Be:=da K0;have Gf:=da K1;have x0:=K0.cell 0;have y0:=K1.cell 0;have AZ:=da jP;have HV:=da (Fu d _ W B ia (HD.out.below (ud.mono hB)));obtain⟨R,hR⟩:∃R,Re d t=R:=⟨_,rfl⟩;rw[hR];have X4:R=(Hf d&& !t.isEmpty&& decide (t.length<=20000)&& t.all (Xd d t)&& decide t.Nodup&& decide (ue t (Yb t (d.length+1) [] 0)=t)):=hR.symm;have HR:=da X4;clear hg2 Tm hW ud K0 K1 jP hR X4;go_enter Tryz.func29,Tryz.ntmps29;go_upto_region 1 with(fail);rw[HW.out];cases e1:Hf d with
 | false=>{have HS:=da (show R=false by rw[HR.out,e1];rfl);rw[e1]at HV;go_wp2_with (go_at_call 65;refine HV.out.mono ?_;rintro e w4 ⟨rfl,hb4⟩;have Nt:=da hb4;clear x0 y0;have x0:=(Be.out.below Nt.out).cell 0;have y0:=(Gf.out.below Nt.out).cell 0;clear hb4);go_ret;exact⟨Oa HS.out.symm,Vd.out.trans (Nt.out.mono Vd.out.size)⟩}
 | true=>
  rw[e1]at HV;cases e2:decide ((t.length:Int)<1)with
  | true=>
   have HS:=da (show R=false by
    have h:(t.length:Int)<1:=by simpa using e2
    have ht:t=[]:=List.length_eq_zero_iff.1 ia
    rw[HR.out,e1,ht];rfl)
   go_wp2_with (go_at_call 65;refine HV.out.mono ?_;rintro e w4 ⟨rfl,hb4⟩;have Nt:=da hb4;clear x0 y0;have x0:=(Be.out.below Nt.out).cell 0;have y0:=(Gf.out.below Nt.out).cell 0;clear hb4);go_ret;exact⟨Oa HS.out.symm,Vd.out.trans (Nt.out.mono Vd.out.size)⟩
  | false=>
   cases e3:decide ((20000:Int)<(t.length:Int))with
   | true=>
    have HS:=da (show R=false by
     have:¬t.length<=20000:=by simp at e3;omega
     rw[HR.out,Ia this];simp)
    go_wp2_with (go_at_call 65;refine HV.out.mono ?_;rintro e w4 ⟨rfl,hb4⟩;have Nt:=da hb4;clear x0 y0;have x0:=(Be.out.below Nt.out).cell 0;have y0:=(Gf.out.below Nt.out).cell 0;clear hb4);go_ret;exact⟨Oa HS.out.symm,Vd.out.trans (Nt.out.mono Vd.out.size)⟩
   | false=>
    have FM:t.length<=20000:=by simp at e3;omega
    have hpos:0<t.length:=by simp at e2;omega
    have Fi:Hid (R=(t.all (Xd d t)&& decide t.Nodup&& decide (ue t (Yb t (d.length+1) [] 0)=t))):=by{show _=_;rw[HR.out,e1,Ma FM,show t.isEmpty=false by simpa using List.length_pos_iff.1 hpos];rfl}
    have HDK:=da (mg e1);clear HR e1;go_upto_region 3 with(go_at_call 65;refine HV.out.mono ?_;rintro e w4 ⟨rfl,hb4⟩;have Nt:=da hb4;clear x0 y0;have x0:=(Be.out.below Nt.out).cell 0;have y0:=(Gf.out.below Nt.out).cell 0;clear hb4);have aks:=Nt;clear x0 y0;go_wp2
    go_loopw [5] (fun iv wr=>∃j:Nat,j<=t.length/\ iv=.int .i64 j/\ Hid (Below W.heap.size W wr)/\ Hid (∀i (h:i<t.length),i<j->Xd d t t[i]=true)) (fun iv _=>t.length-(intOf iv).toNat)
    case atStart=>exact⟨0,ia,rfl,Nt,fun i _ h=>absurd h (Ib i)⟩
    case round=>
     obtain⟨j,hj,rfl,hb,OS⟩:=hrel;have x0:=(Be.out.below hb.out).cell 0;have zj:Hid (Below w.heap.size w wr):=Vd.out.trans (hb.out.mono Vd.out.size);by_cases hlt:j<t.length
     ·obtain⟨gb,go,rfl,vU,vc,vk,n0,n1,n2,n3,Jj,hki⟩:=Uv.out.at j hlt
      obtain⟨mc,El,rfl,_⟩:=Xa.shape Jj;obtain⟨mk,Tl,rfl,_⟩:=Xa.shape hki;have Z6:=AZ.out t[j] (Ga _)
      have HNJ:=da (show ∀i (h:i<t.length),i<j+1->Xd d t t[j]=true->Xd d t t[i]=true from fun i h hi hp=>by
       by_cases e:i=j
       {subst e;exact hp}
       ·exact OS.out i h ia)
      have HRF:=da (show Xd d t t[j]=false->R=false from fun hp=>by
       have:t.all (Xd d t)=false:=Bool.eq_false_iff.2 fun h=>by{have:=(List.all_eq_true.1 h) t[j] (Ga _);rw[hp]at this;cases this}
       rw[Fi.out,this];rfl)
      generalize t[j]=n at*
      have Og:Hid (∀w',Hid (Below W.heap.size W w')->(w'.cell? ⟨w.heap.size,0,none⟩=some (.slice (some ⟨gb,go,none⟩) t.length cg)/\ w'.cell? ⟨w.heap.size+1,0,none⟩=some (.slice ad d.length cd)/\ w'.cell? ⟨gb,go+j*4,none⟩=some (.int .i64 n.fact)/\ w'.cell? ⟨gb,go+j*4+1,none⟩=some (.slice mc n.Ja.length El)/\ w'.cell? ⟨gb,go+j*4+2,none⟩=some (.slice mk n.kids.length Tl)/\ w'.cell? ⟨gb,go+j*4+3,none⟩=some (.bool n.leaf))/\ Hid (Below W.heap.size W w')):=fun w' hb'=>by{have Zd:=Vd.out.trans (hb'.out.mono Vd.out.size);(have c:∀i,w'.cell? ⟨gb,i,none⟩=w.cell? ⟨gb,i,none⟩:=fun i=>Zd.cell (p:=⟨gb,i,none⟩) (by show gb<w.heap.size;omega));exact⟨⟨(Be.out.below hb'.out).cell 0,(Gf.out.below hb'.out).cell 0,(c _).trans n0,(c _).trans n1,(c _).trans n2,(c _).trans n3⟩,hb'⟩}
      obtain⟨pb,hpb⟩:∃pb,Xd d t n=pb:=⟨_,rfl⟩
      have j7:Hid (∀w',Hid (Below W.heap.size W w')->Calls Tryz.prog 78 #[.agg #[.slice (some ⟨gb,go,none⟩) t.length cg],.agg #[.int .i64 n.fact,.slice mc n.Ja.length El,.slice mk n.kids.length Tl,.bool n.leaf],.agg #[.slice ad d.length cd]] w' fun e w''=>e=.returned (.bool pb)/\ Hid (Below W.heap.size W w'')):=fun w' hb'=>by{have Zd:=Vd.out.trans (hb'.out.mono Vd.out.size);refine(EG d t n _ _ _ _ w' B (by have:=Zd.size;omega) (HG.out.below (Zd.mono hB)) (IntsIn.below (Zd.mono hB) Jj) (IntsIn.below (Zd.mono hB) hki) (HD.out.below (Zd.mono hB)) Z6).mono ?_;rintro e w'' ⟨rfl,h⟩;exact⟨by rw[hpb],hb'.out.trans (h.mono hb'.out.size)⟩}
      rw[hpb]at HNJ HRF;have Yi:Hid (Below W.heap.size W wr.drew):=hb.out.drew;clear n0 n1 n2 n3 Jj hki hpb Z6 OS;go_upto_region 6 with(fail)
      go_region_held3 (fun w'=>(w'.cell? ⟨w.heap.size,0,none⟩=some (.slice (some ⟨gb,go,none⟩) t.length cg)/\ w'.cell? ⟨w.heap.size+1,0,none⟩=some (.slice ad d.length cd)/\ w'.cell? ⟨gb,go+j*4,none⟩=some (.int .i64 n.fact)/\ w'.cell? ⟨gb,go+j*4+1,none⟩=some (.slice mc n.Ja.length El)/\ w'.cell? ⟨gb,go+j*4+2,none⟩=some (.slice mk n.kids.length Tl)/\ w'.cell? ⟨gb,go+j*4+3,none⟩=some (.bool n.leaf))/\ Hid (Below W.heap.size W w'))
       (exact Og.out _ Da)
       ((go_at_call 78;refine(j7.out _ Da).mono ?_;rintro e w5 ⟨rfl,Jf⟩))
      clear Og j7 Yi x0;cases pb with| false=>{have HS:=da (HRF.out rfl);go_wp2;go_ret;exact⟨Oa HS.out.symm,Vd.out.trans (Jf.out.mono Vd.out.size)⟩}| true=>{(have AV:Hid (∀i (h:i<t.length),i<j+1->Xd d t t[i]=true):=fun i h hi=>HNJ.out i h hi rfl);clear HNJ HRF;go_wp2;go_roundw;(case rel=>exact⟨j+1,ia,by go_num,Jf,AV⟩);case measure=>simp[intOf];omega}
     ·have e4:t.all (Xd d t)=true:=List.all_eq_true.2 fun n hn=>by
       obtain⟨i,hi,rfl⟩:=zb hn;exact OS.out i hi ia
      have Zv:=da ((nv d t).1 e4)
      have Ss:Hid (R=(decide t.Nodup&& decide (ue t (Yb t (d.length+1) [] 0)=t))):=by{show _=_;rw[Fi.out,e4];rfl}
      clear Fi e4 OS zj;go_wp2
      go_loopw [6] (fun iv wr=>∃j:Nat,j<=t.length/\ iv=.int .i64 j/\ Hid (Below W.heap.size W wr)/\ Hid ((t.take j).Nodup)) (fun iv _=>t.length-(intOf iv).toNat)
      case atStart=>exact⟨0,ia,rfl,hb,by show List.Nodup _;simp⟩
      case round=>
       rename World=>wq
       obtain⟨j,hj,rfl,ud,hnd⟩:=hrel;clear x0;have x0:=(Be.out.below ud.out).cell 0;by_cases hlt:j<t.length
       ·go_wp2
        go_loopw [7] (fun iv wy=>∃k:Nat,k<=j/\ iv=.int .i64 k/\ Hid (Below W.heap.size W wy)/\ Hid (∀m (h:m<t.length),m<k->t[m]≠t[j])) (fun iv _=>j-(intOf iv).toNat)
        case atStart=>exact⟨0,ia,rfl,ud,fun m _ h=>absurd h (Ib m)⟩
        case round=>
         rename World=>wy
         obtain⟨k,hk,rfl,Lc,hno⟩:=hrel;by_cases hkj:k<j
         ·have hkt:k<t.length:=by omega
          obtain⟨gb,go,rfl,vU,vc,vk,n0,n1,n2,n3,Jj,hki⟩:=Uv.out.at j hlt;obtain⟨gb',go',he,_,CM,aL,o0,o1,o2,o3,Mw,Nw⟩:=Uv.out.at k hkt;obtain⟨rfl,rfl⟩:gb=gb'/\ go=go':=by simpa using he
          obtain⟨mc,El,rfl,_⟩:=Xa.shape Jj;obtain⟨mk,Tl,rfl,_⟩:=Xa.shape hki;obtain⟨oc,occ,rfl,_⟩:=Xa.shape Mw;obtain⟨ok,okc,rfl,_⟩:=Xa.shape Nw
          have HEN:=da (show t[j]=t[k]->R=false from fun h=>by
           have:¬t.Nodup:=fun hn=>by{have:=(List.getElem_inj hn).1 h;omega}
           rw[Ss.out,Ia this];rfl)
          have CZ:=da (show ¬t[j]=t[k]->∀m (h:m<t.length),m<k+1->t[m]≠t[j]from fun hn m h hm=>by
           by_cases e:m=k
           {subst e;exact fun e2=>hn e2.symm}
           ·exact hno.out m h ia)
          have BU:=da (show ∀m (h:m<t.length),m<k->t[m]≠t[j]from hno.out);obtain⟨n,hn⟩:∃n,t[j]=n:=⟨_,rfl⟩;obtain⟨q,hq⟩:∃q,t[k]=q:=⟨_,rfl⟩;rw[hn]at n0 n1 n2 n3 Jj hki;rw[hq]at o0 o1 o2 o3 Mw Nw;rw[hn,hq]at HEN;have HNM:=da (show ¬n=q->∀m (h:m<t.length),m<k+1->t[m]≠t[j]from fun h=>CZ.out (by rw[hn,hq];exact h))
          have Og:Hid (∀w',Hid (Below W.heap.size W w')->(w'.cell? ⟨w.heap.size,0,none⟩=some (.slice (some ⟨gb,go,none⟩) t.length cg)/\ w'.cell? ⟨gb,go+j*4,none⟩=some (.int .i64 n.fact)/\ w'.cell? ⟨gb,go+j*4+1,none⟩=some (.slice mc n.Ja.length El)/\ w'.cell? ⟨gb,go+j*4+2,none⟩=some (.slice mk n.kids.length Tl)/\ w'.cell? ⟨gb,go+j*4+3,none⟩=some (.bool n.leaf)/\ w'.cell? ⟨gb,go+k*4,none⟩=some (.int .i64 q.fact)/\ w'.cell? ⟨gb,go+k*4+1,none⟩=some (.slice oc q.Ja.length occ)/\ w'.cell? ⟨gb,go+k*4+2,none⟩=some (.slice ok q.kids.length okc)/\ w'.cell? ⟨gb,go+k*4+3,none⟩=some (.bool q.leaf))/\ Hid (Below W.heap.size W w')):=fun w' hb'=>by{have Zd:=Vd.out.trans (hb'.out.mono Vd.out.size);(have c:∀i,w'.cell? ⟨gb,i,none⟩=w.cell? ⟨gb,i,none⟩:=fun i=>Zd.cell (p:=⟨gb,i,none⟩) (by show gb<w.heap.size;omega));exact⟨⟨(Be.out.below hb'.out).cell 0,(c _).trans n0,(c _).trans n1,(c _).trans n2,(c _).trans n3,(c _).trans o0,(c _).trans o1,(c _).trans o2,(c _).trans o3⟩,hb'⟩}
          obtain⟨pb,hpb⟩:∃pb,decide (n=q)=pb:=⟨_,rfl⟩
          have j7:Hid (∀w',Hid (Below W.heap.size W w')->Calls Tryz.prog 77 #[.agg #[.int .i64 n.fact,.slice mc n.Ja.length El,.slice mk n.kids.length Tl,.bool n.leaf],.agg #[.int .i64 q.fact,.slice oc q.Ja.length occ,.slice ok q.kids.length okc,.bool q.leaf]] w' fun e w''=>e=.returned (.bool pb)/\ Hid (Below W.heap.size W w'')):=fun w' hb'=>by{have Zd:=Vd.out.trans (hb'.out.mono Vd.out.size);refine(Up n q _ _ _ _ w' B (by have:=Zd.size;omega) (IntsIn.below (Zd.mono hB) Jj) (IntsIn.below (Zd.mono hB) hki) (IntsIn.below (Zd.mono hB) Mw) (IntsIn.below (Zd.mono hB) Nw)).mono ?_;rintro e w'' ⟨rfl,h⟩;exact⟨by rw[hpb],hb'.out.trans (h.mono hb'.out.size)⟩}
          have Yi:Hid (Below W.heap.size W wy.drew):=Lc.out.drew;have q7:=da hpb;have akv:(k:Int)<(j:Int):=by omega
          clear n0 n1 n2 n3 Jj hki o0 o1 o2 o3 Mw Nw he hpb hno hn hq x0;have x0:=(Be.out.below Lc.out).cell 0;go_upto_region 14 with(fail)
          go_region_held3 (fun w'=>(w'.cell? ⟨w.heap.size,0,none⟩=some (.slice (some ⟨gb,go,none⟩) t.length cg)/\ w'.cell? ⟨gb,go+j*4,none⟩=some (.int .i64 n.fact)/\ w'.cell? ⟨gb,go+j*4+1,none⟩=some (.slice mc n.Ja.length El)/\ w'.cell? ⟨gb,go+j*4+2,none⟩=some (.slice mk n.kids.length Tl)/\ w'.cell? ⟨gb,go+j*4+3,none⟩=some (.bool n.leaf)/\ w'.cell? ⟨gb,go+k*4,none⟩=some (.int .i64 q.fact)/\ w'.cell? ⟨gb,go+k*4+1,none⟩=some (.slice oc q.Ja.length occ)/\ w'.cell? ⟨gb,go+k*4+2,none⟩=some (.slice ok q.kids.length okc)/\ w'.cell? ⟨gb,go+k*4+3,none⟩=some (.bool q.leaf))/\ Hid (Below W.heap.size W w'))
           (exact Og.out _ Da)
           ((go_at_call 77;refine(j7.out _ Da).mono ?_;rintro e w5 ⟨rfl,Jf⟩))
          clear Og j7 Yi x0;cases pb with| true=>{have HS:=da (HEN.out (by simpa using q7.out));go_wp2;go_ret;exact⟨Oa HS.out.symm,Vd.out.trans (Jf.out.mono Vd.out.size)⟩}| false=>{have AV:=da (HNM.out (by simpa using q7.out));clear HEN CZ BU HNM;go_wp2;go_roundw;(case rel=>exact⟨k+1,ia,by go_num,Jf,AV⟩);case measure=>simp[intOf];omega}
         ·have Ii:k=j:=by omega
          have acK:Hid ((t.take (j+1)).Nodup):=Cz hlt hnd.out (fun hm=>by
           obtain⟨i,hi,e⟩:=zb hm
           rw[Bc]at hi
           rw[List.getElem_take]at e
           exact hno.out i ia ia e)
          clear hno x0;go_wp2;go_roundw
          case rel=>exact⟨j+1,ia,by go_num,Lc,acK⟩
          case measure=>simp[intOf];omega
       ·have Mk:j=t.length:=by omega
        have YF:=hnd.out;rw[Mk,Jb]at YF;have qV:=uy Zv.out YF (qy HDK.out);have hoi:=oM qV hpos
        have qv:Hid (R=decide (Yb t (d.length+1) [] 0=List.range t.length)):=by{show _=_;rw[Ss.out,Ma YF];show decide _=_;exact decide_eq_decide.2 hoi}
        obtain⟨o,ho⟩:∃o,Yb t (d.length+1) [] 0=o:=⟨_,rfl⟩
        have HVI:Hid (Calls Tryz.prog 79 #[.slice ag t.length cg,.int .i64 0,.slice none 0 0] wq fun e W'=>∃v',e=.returned v'/\ W'.ownsRow wq.heap.size 3 1 v' o.length ((oI o).map iW)/\ Below wq.heap.size wq W'):=by{have Zd:=Vd.out.trans (ud.out.mono Vd.out.size);have q:=Dt (base:=wq.heap.size) (by have:=Zd.size;omega) (ja _) (Xa.below yo.kept (Zd.mono hB) Uv.out) Zv.out ia (d.length+1) 0 [] (.slice none 0 0) wq hpos ia ie la (za _ _) (ic _ _ _ _);rw[ho]at q;exact q}
        rw[ho]at qv
        have J4:o.length<=20000:=by{have zP:=(Ro Zv.out (d.length+1) [] 0 hpos ia ie la).1;rw[ho]at zP;have:=Xc zP.nodup (l₂:=List.range t.length) (fun y hy=>List.mem_range.2 (zP.inside y hy));rw[Pd]at this;omega}
        clear YF hoi ho qV hnd;go_upto_region 17 with(go_at_call 79;refine HVI.out.mono ?_;rintro e w2 ⟨v2,rfl,jV,TB⟩;have bK:=da jV;have Qc:=da TB;clear jV TB);obtain⟨va,vc,e⟩:=Wd (show w2.ownsRow wq.heap.size 3 1 v2 (oI o).length ((oI o).map iW) by rw[Rz];exact bK.out);rw[Rz]at e;subst e;have Oe:Hid (Below W.heap.size W w2):=ud.out.trans (Qc.out.mono ud.out.size);clear x0 HVI;have x0:=(Be.out.below Oe.out).cell 0;go_wp2
        go_loopw [9] (fun iv wy=>∃k:Nat,k<=o.length/\ iv=.int .i64 k/\ wy=w2/\ Hid (∀m (h:m<o.length),m<k->o[m]=m)) (fun iv _=>o.length-(intOf iv).toNat)
        case atStart=>exact⟨0,ia,rfl,rfl,fun m _ h=>absurd h (Ib m)⟩
        case round=>
         rename World=>wy
         obtain⟨k,hk,rfl,rfl,hno⟩:=hrel;by_cases hko:k<o.length
         ·obtain⟨g,gc,e,KA,hg2⟩:=bK.out.form ia
          cases e
          have hc:wy.cell? ⟨g,k,none⟩=some (.int .i64 ((o[k]:Nat):Int)):=by{have q:=bK.out.cellAt k ia;rw[q,Kb];unfold oI;rw[Kb,Pa hko];rfl}
          by_cases hkk:o[k]=k
          {(have hd:(((o[k]:Nat):Int) !=(k:Int))=false:=by rw[hkk];simp);(have HN:Hid (∀m (h:m<o.length),m<k+1->o[m]=m):=fun m h hm=>by{by_cases e:m=k;{subst e;exact hkk};{exact hno.out m h ia}});clear hno hkk;generalize o[k]=y at*;go_wp2;go_roundw;(case rel=>exact⟨k+1,ia,by go_num,trivial,HN⟩);case measure=>simp[intOf];omega}
          ·have hd:(((o[k]:Nat):Int) !=(k:Int))=true:=by rw[bne_iff_ne];intro h;exact hkk ia
           have HS:=da (show R=false by
            have:¬o=List.range t.length:=fun e=>by{apply hkk;(have q:o[k]? =(List.range t.length)[k]? :=by rw[e]);(have EY:k<t.length:=by have:=congrArg List.length e;rw[Pd]at this;omega);rw[Pa hko,List.getElem?_range EY]at q;exact Zg q}
            rw[qv.out,Ia this])
           clear hno hkk;generalize o[k]=y at*
           go_wp2;go_ret;exact⟨Oa HS.out.symm,Vd.out.trans (Oe.out.mono Vd.out.size)⟩
         ·have HS:=da (show R=(((o.length:Nat):Int)==((t.length:Nat):Int)) by
           rw[qv.out,Nc]
           simp only[decide_eq_true_eq,Ad]
           constructor
           {intro e;have:=congrArg List.length e;rw[Pd]at this;omega}
           ·intro e
            refine se (by rw[Pd];omega) fun i h1 h2=>?_
            rw[Yf]
            exact hno.out i h1 ia)
          clear hno;go_wp2;go_ret;exact⟨Oa HS.out.symm,Vd.out.trans (Oe.out.mono Vd.out.size)⟩
end Go.Proofs.YtejbgoigkefnfaaGreatDoor
