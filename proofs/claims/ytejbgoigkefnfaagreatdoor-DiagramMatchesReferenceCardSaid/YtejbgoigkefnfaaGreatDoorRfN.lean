/- Plain: the reference builds the same diagram, cell by cell. No program is walked. -/
import Derived.Test.YtejbgoigkefnfaaGreatDoorAl
import Derived.Test.YtejbgoigkefnfaaGreatDoorDgAnP
set_option maxRecDepth 100000
set_option maxHeartbeats 4000000
namespace Go.Proofs.YtejbgoigkefnfaaGreatDoor
open Go.RowKit
def eA (l:List ByteArray)(s:ByteArray):Bool:=l.any fun x=>Ni x s
theorem DQ (l:List ByteArray)(s:ByteArray)(k:Nat)(h:k<l.length):eA (l.take (k+1)) s=(eA (l.take k) s || Ni l[k] s):=by
 unfold eA;rw[Ka h,List.any_append,Tg,List.any_nil,Bool.or_false]
theorem fJ (l:List ByteArray)(s:ByteArray)(v:Value)(w:World)(base:Nat)(hl:w.ownsRow base 9 1 v l.length (l.map Value.string))(hn:l.length<=1000000):
  Calls Tryz.prog 113 #[v,.string s] w fun e w'=>e=.returned (.bool (eA l s))/\ w'=w:=by
 obtain⟨oa,oc,hv⟩:=Wd hl;subst hv;have HL:=da hl;clear hl;go_enter Tryz.func113,Tryz.ntmps113;go_wp2
 go_loopw [5] (fun i wr=>∃k:Nat,k<=l.length/\ i=.int .i64 k/\ wr=w/\ Hid (eA (l.take k) s=false)) (fun i _=>l.length-(intOf i).toNat)
 case atStart=>exact⟨0,ia,rfl,rfl,rfl⟩
 case round=>(obtain⟨k,hk,rfl,rfl,hin⟩:=hrel;by_cases hlt:k<l.length;{obtain⟨g,gc,e,_,_⟩:=HL.out.form ia;(cases e);have hc:wr.cell? ⟨g,k,none⟩=some (.string l[k]):=by{have q:=HL.out.cellAt k ia;rw[Kb,Pa hlt]at q;simpa using q};have hs:=DQ l s k hlt;rw[hin.out,Sh]at hs;cases he:(l[k].toList==s.toList)with| true=>{have HS:Hid (eA l s=true):=by{show List.any _ _=true;rw[Qf];exact⟨l[k],Ga _,he⟩};clear hs;generalize l[k]=lk at*;go_wp2;go_ret;exact⟨Oa HS.out.symm,rfl⟩}| false=>{(have HS:Hid (eA (l.take (k+1)) s=false):=by rw[hs];exact he);clear hs;generalize l[k]=lk at*;go_wp2;go_roundw;(case rel=>exact⟨k+1,ia,by go_num,trivial,HS⟩);case measure=>simp[intOf];omega}};{(have HS:Hid (eA l s=false):=by have:=hin.out;rwa[Ac ia]at this);clear hin;go_wp2;go_ret;exact⟨Oa HS.out.symm,rfl⟩})
mutual
def Ix :Fo->List ByteArray->List ByteArray
 | .mk op s _ _ ks,l=>WT ks (if op=3/\ eA l s=false then l++[s]else l)
def WT :List Fo->List ByteArray->List ByteArray
 | [],l=>l
 | k::ks,l=>WT ks (Ix k l)
end
theorem DG :∀(ks:List Fo) (l:List ByteArray),WT ks l=ks.foldl (fun l k=>Ix k l) l
 | [],_=>rfl
 | k::ks,l=>by rw[WT,Ud,DG ks]
theorem iY :∀(N:Nat) (f:Fo),f.size<=N->∀l,(Ix f l).length<=l.length+f.size:=by
 intro N
 induction N with| zero=>intro f h;obtain⟨op,s,c,n,ks⟩:=f;rw[Fo.size]at h;omega| succ N ih=>{intro f h l;obtain⟨op,s,c,n,ks⟩:=f;have hk:=Ak op c n s ks;have hL:∀(q:List Fo),(∀k∈q,k∈ks)->∀l,(WT q l).length<=l.length+Fo.Tc q:=by{intro q;induction q with| nil=>intro _ l;exact ja _| cons a q ihq=>{intro hm l;rw[WT,Fo.Tc];have h1:=ihq (fun k hk=>hm k (La _ hk)) (Ix a l);have h2:=ih a (by have:=hk a (hm a (Na ..));omega) l;omega}};rw[Ix,Fo.size];have h3:=hL ks (fun _ h=>h) (if op=3/\ eA l s=false then l++[s]else l);(split at h3);{rw[if_pos Da];rw[Ea,Hb]at h3;omega};{rw[Aa Da];omega}}
structure gJ (base : Nat) (w : World) (ob : Option Nat) (l : List ByteArray) (u : Value) (W : World) : Prop where
 own:W.ownsRow base 9 1 u l.length (l.map Value.string)
 gr:w.grownBy W ob
 ob:u.ownBlock=ob\/∀g,u.ownBlock=some g->w.heap.size<=g
theorem gJ.trans {base:Nat}{w W W2:World}{ob:Option Nat}{l l2:List ByteArray}{u v:Value}(h:gJ base w ob l u W)(k:gJ base W u.ownBlock l2 v W2):gJ base w ob l2 v W2:=by
 refine⟨k.own,⟨k.gr.os.trans h.gr.os,k.gr.tape.trans h.gr.tape,k.gr.output.trans h.gr.output,Wa h.gr.size k.gr.size,fun i hi hne=>?_⟩,?_⟩
 {refine(k.gr.block i (Wb hi h.gr.size) ?_).trans (h.gr.block i hi hne);(rcases h.ob with q | q);{rw[q];exact hne};{intro e;have:=q i e.symm;omega}}
 {(rcases k.ob with q | q);{rw[q];exact h.ob};{exact .inr fun g e=>Wa h.gr.size (q g e)}}
theorem gJ.alloc {base:Nat}{w W:World}{ob:Option Nat}{l:List ByteArray}{u:Value}{o:Obj}(h:gJ base (w.alloc o) ob l u W):gJ base w ob l u W:=
 ⟨h.own,(World.grownBy_alloc w o ob).trans h.gr,h.ob.imp id fun q g e=>by have:=q g e;simp at this;omega⟩
theorem gJ.jY {base:Nat}{w w1 W:World}{ob:Option Nat}{l:List ByteArray}{u:Value}(h:gJ base w1 ob l u W)(hb:Below w.heap.size w w1)(_:∀g,ob=some g->base<=g):gJ base w ob l u W:=
 ⟨h.own,World.grownBy.trans ⟨hb.os,hb.tape,hb.output,hb.size,fun i hi _=>hb.block i hi⟩ h.gr,h.ob.imp id fun q g e=>Wa hb.size (q g e)⟩
abbrev TdW (base B:Nat)(f:Fo):Prop:=
 ∀(v lv:Value) (l:List ByteArray) (w:World),base<=w.heap.size->f.In w B v->w.ownsRow base 9 1 lv l.length (l.map Value.string)->l.length+f.size<=9000->
  Calls Tryz.prog 67 #[v,lv] w fun e w'=>∃u,e=.returned u/\ gJ base w lv.ownBlock (Ix f l) u w'
theorem EQ :(Tryz.prog.info? 9).map (fun i=>(i.zero,i.size,i.bytes))=some (some (.string ByteArray.empty),1,16):=by kernel_rfl
theorem OD {w:World}{base n c:Nat}{ty:TypeId}{v:Value}{l:List ByteArray}{s:ByteArray}{ad:Addr}(hown:w.ownsRow base 9 1 v n (l.map Value.string))(hc:w.cell? ad=some (.string s))(hlen:n<=9000)(hb:base<=w.heap.size):
  ∃v' w',(Builtin.append_ #[88,88] ty #[v,.slice (some ad) 1 c]).run Tryz.prog w=.ok v' w'/\ w'.ownsRow base 9 1 v' (n+1) ((l++[s]).map Value.string)/\ w.grownBy w' v.ownBlock/\ (v'.ownBlock=v.ownBlock\/v'.ownBlock=some w.heap.size):=by
 obtain⟨i9,hi9,hx9,hy9,Z5⟩:=info_parts EQ
 have hn:∀j u,([s].map Value.string)[j]? =some u->w.cell? (ad.add j)=some u:=by
  intro j u hj
  match j,hj with| 0,hj=>{simp at hj;subst hj;simpa[Addr.add]using hc}
 obtain⟨v',w',h1,h2,h3,_,h5⟩:=run_append_own_at (P:=Tryz.prog) w base 88 ty 9 i9 _ 1 16 Tryz.underlying88 hi9 hx9 hy9 Z5 rfl pa v n _ hown ad 1 c ([s].map Value.string) la hn (fun u hu=>by obtain⟨s,_,rfl⟩:=List.mem_map.1 hu;rfl) (by unfold maxLen;omega) ia hb;exact⟨v',w',h1,by rw[Lb];exact h2,h3,h5⟩
theorem Vw {ops:Array Oper}{rest:List Oper}{o:Oper}{a:Act}{Q:Exit->Act->World->Prop}{w:World}(hg:o.guard=none)(x y:Operand)(ho:o.op=.call {callee:=.builtin .append,args:=#[x,y],argTypes:=#[88,88]})
  (base:Nat) (v:Value) (n:Nat) (l:List ByteArray) (hv:a.eval x=v) (hown:w.ownsRow base 9 1 v n (l.map Value.string)) (s:ByteArray) (ad:Addr) (c:Nat) (hy:a.eval y=.slice (some ad) 1 c)
  (hc:w.cell? ad=some (.string s)) (hlen:n<=9000) (hb:base<=w.heap.size)
  (hK:∀v' w',w'.ownsRow base 9 1 v' (n+1) ((l++[s]).map Value.string)->w.grownBy w' v.ownBlock->(v'.ownBlock=v.ownBlock\/v'.ownBlock=some w.heap.size)->wpList Tryz.prog ops Q rest (a.put o.dst v') w'):wpList Tryz.prog ops Q (o::rest) a w:=by
 refine wpList_plain hg fun K' hK'=>?_
 obtain⟨v',w',hr,h2,h3,h4⟩:=OD (ty:=o.type) (c:=c) hown hc hlen hb;unfold Oper.wp execOp;simp only[ho,resolve,invoke,builtin,Sem.run_bind,Sem.run_pure,Result.andThen_ok,Hg,Va,Rf,hv,hy,hr];exact hK' _ _ (hK v' w' h2 h3 h4)
theorem XT (base B:Nat)(hBb:B<=base)(op c n:Int)(s:ByteArray)(ks:List Fo)(IH:∀k∈ks,TdW base B k):TdW base B (.mk op s c n ks):=by
 intro v lv l w hb hf hl hlen;obtain⟨ao,cap,rfl,h1,h2,h3,h4,h5,h6,h7⟩:=hf;unfold maxLen at h6;have K0:=Bb.new w 24 #[.int .i64 op,.string s,.int .i64 c,.int .i64 n,.slice ao ks.length cap];have hsL:Fo.Tc ks+1<=(Fo.mk op s c n ks).size:=by rw[Fo.size];omega
 have Ff:Below w.heap.size w (w.alloc (.cells #[.int .i64 op,.string s,.int .i64 c,.int .i64 n,.slice ao ks.length cap] 24)):=(za _ _).alloc (ja _) _;have Ve:=da Ff;have Be:=da K0;have H7:=da h7;have Gt:=da IH;have x0:=K0.cell 0;have x1:=K0.cell 1;have x4:=K0.cell 4;have OH:((w.alloc (.cells #[.int .i64 op,.string s,.int .i64 c,.int .i64 n,.slice ao ks.length cap] 24))).ownsRow base 9 1 lv l.length (l.map Value.string):=Nd hl Ff;have jQ:∀g,lv.ownBlock=some g->g<w.heap.size:=fun g e=>(hl.lt g e).2
 have P6:∀g,lv.ownBlock=some g->base<=g:=fun g e=>(Ie hl g e).1
 have hW1:((w.alloc (.cells #[.int .i64 op,.string s,.int .i64 c,.int .i64 n,.slice ao ks.length cap] 24))).heap.size=w.heap.size+1:=by simp
 obtain⟨R,hR⟩:∃R,Ix (.mk op s c n ks) l=R:=⟨_,rfl⟩;obtain⟨L,hL⟩:∃L,(if op=3/\ eA l s=false then l++[s]else l)=L:=⟨_,rfl⟩;have HR:Hid (R=WT ks L):=by show _=_;rw[<-hR,Ix,hL]
 have M3:L.length<=l.length+1:=by rw[<-hL];split<;>simp
 rw[hR];have Kn:=da (fun q=>fJ l s lv (w.alloc (.cells #[.int .i64 op,.string s,.int .i64 c,.int .i64 n,.slice ao ks.length cap] 24)) base OH q);have xR:=da OH;obtain⟨oa,oc,hv⟩:=Wd hl;subst hv;have HLT:=da jQ;have yW:=da P6;clear hl OH Ff K0 h7 IH hR h1 h2 h3 h4 jQ P6;go_enter Tryz.func67,Tryz.ntmps67;go_upto_region 1 with(fail);obtain⟨w1,hw1⟩:∃w1,(w.alloc (.cells #[.int .i64 op,.string s,.int .i64 c,.int .i64 n,.slice ao ks.length cap] 24))=w1:=⟨_,rfl⟩;rw[hw1]at Be Ve xR Kn hW1 x0 x1 x4⊢;clear hw1;obtain⟨bs,nB⟩:∃bs,eA l s=bs:=⟨_,rfl⟩;rw[nB]at hL;have ow:=da (Kn.out ia);rw[nB]at ow;clear nB Kn;have HGS:Hid (gJ base w1 (Value.slice oa l.length oc).ownBlock l (.slice oa l.length oc) w1):=⟨xR.out,⟨rfl,rfl,rfl,ja _,fun _ _ _=>rfl⟩,.inl rfl⟩
 go_cut[15] (fun s15 wx=>s15=.bool ((op==3)&& !bs)/\ wx=w1)
 case first=>(cases e1:(op==3)with| false=>{go_wp2;go_meet;exact⟨by rw[e1];rfl,rfl⟩}| true=>{go_wp2_with (fail);refine ow.out.mono ?_;rintro e w5 ⟨rfl,rfl⟩;go_wp2;go_meet;exact⟨by rw[e1];rfl,rfl⟩})
 case rest=>
  obtain⟨rfl,Xy⟩:=hcut;rw[Xy];clear Xy
  go_upto_if 15 with(fail)
  go_cut[1] (fun s1 wx=>∃ua uc,s1=.slice ua L.length uc/\ Hid (gJ base w1 (Value.slice oa l.length oc).ownBlock L (.slice ua L.length uc) wx))
  case first=>(cases e1:((op==3)&& !bs)with| false=>{have h:L=l:=by{rw[<-hL,Aa (fun h=>?_)];rw[h.1,h.2]at e1;cases e1};subst h;clear hL;go_wp2;go_meet;exact⟨_,_,rfl,HGS⟩}| true=>{have h:L=l++[s]:=by{rw[ub,Ad,sg]at e1;rw[<-hL,if_pos e1]};clear hL M3;subst h;have HL2:Hid ((w1.alloc (.cells #[.string s] 9)).ownsRow base 9 1 (.slice oa l.length oc) l.length (l.map Value.string)):=Nd xR.out ((za _ _).alloc (ja _) _);go_wp2_with (at_builtin;refine Vw Ha _ _ Ha base (.slice oa l.length oc) l.length l Ha HL2.out s ⟨w.heap.size+1,0,none⟩ 1 Ha (by rw[<-hW1];exact(Bb.new w1 9 #[.string s]).cell 0) ia (by simp;omega) ?_;intro v5 w5 OJ yp hn5;have Bv:=da OJ;have dx:=da yp;have HN5:=da hn5;clear OJ yp hn5);go_meet;(have zF:w5.ownsRow base 9 1 v5 (l++[s]).length ((l++[s]).map Value.string):=by rw[Ea,Hb];exact Bv.out);obtain⟨ua,uc,e⟩:=Wd zF;refine⟨ua,uc,e,?_⟩;rw[<-e];refine⟨zF,(World.grownBy_alloc w1 _ _).trans dx.out,HN5.out.imp id fun h g e2=>?_⟩;rw[h]at e2;(cases e2);simp})
  case rest=>
   obtain⟨ua,uc,rfl,HG0⟩:=hcut
   have DS:∀g,(Value.slice oa l.length oc).ownBlock=some g->g<w1.heap.size/\ some w.heap.size≠some g:=fun g e=>by{have:=HLT.out g e;exact⟨ia,fun e2=>by cases e2;omega⟩}
   have zT:Hid (some w.heap.size≠(Value.slice oa l.length oc).ownBlock):=fun e=>(DS _ e.symm).2 rfl
   have Lr:Hid (L=(ks.take 0).foldl (fun l k=>Ix k l) L):=rfl;clear DS;go_wp2
   go_loopw [1,5] (fun lv iv wr=>∃(j:Nat) (T:List ByteArray) (va:Option Addr) (vc:Nat),j<=ks.length/\ iv=.int .i64 j/\ lv=.slice va T.length vc/\ Hid (T=(ks.take j).foldl (fun l k=>Ix k l) L)/\ T.length<=L.length+Fo.Tc (ks.take j)/\ Hid (gJ base w1 (Value.slice oa l.length oc).ownBlock T (.slice va T.length vc) wr)) (fun _ iv _=>ks.length-(intOf iv).toNat)
   case atStart=>exact⟨0,L,_,_,ia,rfl,rfl,Lr,ia,HG0⟩
   case round=>
    obtain⟨j,T,va,vc,hj,rfl,rfl,hT,OM,hG⟩:=hrel;clear Lr HG0;have Zd:Below base w wr:=(Ve.out.mono hb).grown hG.out.gr ia yW.out;have c4:=(Bb.grown Be.out hG.out.gr zT.out).cell 4;have NA:=hG.out.gr.size;by_cases hlt:j<ks.length
    ·obtain⟨b,off,rfl,Rj,hL⟩:=H7.out (by intro h;simp[h]at hlt)
     obtain⟨ka,kc,g0,g1,g2,g3,g4,gk⟩:=Fo.Qk.get ks off j hlt (Fo.Qk.below (Zd.mono hBb) Rj ks off hL);have Zp:=Fo.Nj ks j hlt;have hst:=Fo.Oj ks (j+1);have aH:=iY _ ks[j] (ja _) T;have Fk:Ix ks[j] T=(ks.take (j+1)).foldl (fun l k=>Ix k l) L:=by rw[Ka hlt,Od, <-hT.out];rfl
     have HC:=da ((Gt.out ks[j] (Ga _) _ _ T wr ia gk hG.out.own ia).mono (R':=fun e w'=>∃ua uc,e=.returned (.slice ua (Ix ks[j] T).length uc)/\ Hid (gJ base wr (Value.slice va T.length vc).ownBlock (Ix ks[j] T) (.slice ua (Ix ks[j] T).length uc) w')) (by
      rintro e w' ⟨u,rfl,hg⟩
      obtain⟨ua,uc,rfl⟩:=Wd hg.own
      exact⟨ua,uc,rfl,hg⟩))
     obtain⟨T2,cH⟩:∃T2,Ix ks[j] T=T2:=⟨_,rfl⟩;rw[cH]at HC Fk aH;have Kt:=da Fk;clear Fk cH hL hT gk;generalize ks[j]=kk at*
     go_wp2_with (go_at_call 67;refine HC.out.mono ?_;rintro e w5 ⟨ua5,uc5,rfl,dx⟩);go_roundw
     case rel=>exact⟨j+1,T2,ua5,uc5,ia,by go_num,rfl,Kt,ia,hG.out.trans dx.out⟩
     case measure=>simp[intOf];omega
    {(have Mk:j=ks.length:=ia);have mI:=hT.out;rw[Mk,Jb, <-DG, <-HR.out]at mI;have KW:=da mI;clear mI Mk hT;go_wp2;go_ret;rw[<-KW.out];exact⟨_,rfl,hG.out.jY Ve.out yW.out⟩}
theorem cY (base B:Nat)(hBb:B<=base):∀(N:Nat) (f:Fo),f.size<=N->TdW base B f:=by
 intro N
 induction N with| zero=>intro f h;obtain⟨op,s,c,n,ks⟩:=f;rw[Fo.size]at h;omega| succ N ih=>{intro f h;obtain⟨op,s,c,n,ks⟩:=f;have hk:=Ak op c n s ks;exact XT base B hBb op c n s ks (fun k hm=>ih k (by have:=hk k hm;omega))}
section
variable {d : List Fa}
theorem iV (hd:Ih d){f:Fo}(hw:Kj d f){i:Nat}(hi:i<d.length):ew d[i] f=gl d i f:=by
 have e1:Zr d i=d[i].name:=by unfold Zr;rw[Eb _ _ _ hi]
 have e2:Pe d i=d[i].lo:=by unfold Pe;rw[Eb _ _ _ hi]
 have e3:Mh d i=d[i].hi:=by unfold Mh;rw[Eb _ _ _ hi]
 have hlh:=(hd.Fq i hi).2.1;obtain⟨ss,g1,g2,g3⟩:=th (Zr d i) hlh f;obtain⟨p1,p2⟩:=dD d[i].name d[i].lo d[i].hi (jd f) [d[i].lo] (CF f.size f (ja _) hw) la;have h2:gl d i f=Pe d i::ss:=by unfold gl;rw[g1]
 have p3:=Sp _ _ g2;have nd1:(ew d[i] f).Nodup:=List.nodup_iff_pairwise_ne.2 (p1.imp fun h=>by omega)
 have nd2:(gl d i f).Nodup:=by{rw[h2];exact List.nodup_iff_pairwise_ne.2 (p3.imp fun h=>by omega)}
 refine List.Perm.eq_of_pairwise (le:=fun a b=>a<b) (fun a b _ _ h1 h2=>by omega) p1 (by rw[h2];exact p3) ((yg nd1 nd2).2 fun x=>?_)
 show x∈Nl d[i].name d[i].lo d[i].hi [d[i].lo] (jd f)↔x∈gl d i f
 rw[p2 x,h2,g3 x,Kq,e1,e2,e3,Nb];rw[e2,e3]at hlh;constructor
 {rintro(h | ⟨h,h1⟩);{exact⟨ia,.inl h⟩};{exact⟨h,.inr h1⟩}}
 {rintro⟨h,h1⟩;exact h1.elim .inl fun h1=>.inr ⟨h,h1⟩}
def Xm (d:List Fa)(f:Fo):Nat->List Int->List Dn->List Dn×Nat
 | 0,cs,t=>Md t ⟨0,[],[],um d cs [] f⟩
 | k+1,cs,t=>
  let r:=(ew (d.getD cs.length default) f).foldl (fun(p:List Dn×List Int) s=>((Xm d f k (cs++[s]) p.1).1,p.2++[((Xm d f k (cs++[s]) p.1).2:Int)])) (t,[])
  Mc r.1 cs.length (ew (d.getD cs.length default) f) r.2
def CR (cs:List Int)(c:Nat->Int):Nat->Int:=fun j=>if j<cs.length then cs.getD j 0 else c j
def ID (b:Nat->Nat):Nat->Nat->Nat
 | 0,_=>1
 | k+1,i=>1+b i*ID b k (i+1)
abbrev mK (d:List Fa)(f:Fo)(m:List Dn)(cs:List Int)(k:Nat):Prop:=Vn d.length (Pe d) (Mh d) (fun(s:List Int) c=>ve d (CR s c) f) m cs.length cs k
structure Q6 (d : List Fa) (f : Fo) (k : Nat) (cs : List Int) (t : List Dn) (r : List Dn × Nat) : Prop where
 made:Made d.length (Pe d) (Mh d) r.1
 node:mK d f r.1 cs r.2
 more:∃u,r.1=t++u
 Yw:r.1.length<=t.length+ID (Co d f) k cs.length
def z6 (d:List Fa)(cs:List Int):Prop:=∀j,j<cs.length->Pe d j<=cs.getD j 0/\ cs.getD j 0<=Mh d j
theorem Hu {cs:List Int}(h:z6 d cs){s:Int}(h1:Pe d cs.length<=s)(h2:s<=Mh d cs.length):z6 d (cs++[s]):=by
 intro j hj;rw[Ea,Hb]at hj;rcases Kc j cs.length with q | q
 {rw[Cf _ _ _ q];exact h j q}
 {(have:j=cs.length:=ia);subst this;rw[pd];exact⟨h1,h2⟩}
theorem QD {cs:List Int}(h:z6 d cs){c:Nat->Int}(fc:ee d.length (Pe d) (Mh d) c):ee d.length (Pe d) (Mh d) (CR cs c):=by
 intro j hj;unfold CR
 split
 {exact h j Da}
 {exact fc j hj}
theorem iK {f:Fo}{k:Nat}{cs:List Int}(ih:∀s t,Pe d cs.length<=s->s<=Mh d cs.length->Made d.length (Pe d) (Mh d) t->Q6 d f k (cs++[s]) t (Xm d f k (cs++[s]) t)):
  ∀(l:List Int),(∀s∈l,Pe d cs.length<=s/\ s<=Mh d cs.length)->∀(p:List Dn×List Int) (pre:List Int),Made d.length (Pe d) (Mh d) p.1->p.2.length=pre.length->
   (∀j,j<p.2.length->0<=p.2.getD j 0/\ mK d f p.1 (cs++[pre.getD j 0]) (p.2.getD j 0).toNat)->
   let r:=l.foldl (fun(p:List Dn×List Int) s=>((Xm d f k (cs++[s]) p.1).1,p.2++[((Xm d f k (cs++[s]) p.1).2:Int)])) p
   Made d.length (Pe d) (Mh d) r.1/\ r.2.length=(pre++l).length/\ (∀j,j<r.2.length->0<=r.2.getD j 0/\ mK d f r.1 (cs++[(pre++l).getD j 0]) (r.2.getD j 0).toNat)/\ (∃u,r.1=p.1++u)/\
    r.1.length<=p.1.length+l.length*ID (Co d f) k (cs.length+1):=by
 intro l
 induction l with
 | nil=>intro _ p pre h1 h2 h3;exact⟨h1,by simpa using h2,by simpa using h3,⟨[],la⟩,la⟩
 | cons v l ihl=>
  intro hl p pre h1 h2 h3;have hv:=hl v (Na ..);have hr:=ih v p.1 hv.1 hv.2 h1;obtain⟨u,hu⟩:=hr.more;have hfw:=hr.Yw;rw[Ea,Hb]at hfw
  have hn:=ihl (fun w hw=>hl w (La _ hw)) ((Xm d f k (cs++[v]) p.1).1,p.2++[((Xm d f k (cs++[v]) p.1).2:Int)]) (pre++[v]) hr.made (by simp[h2]) (by
   intro j hj
   have hj:j<(p.2++[((Xm d f k (cs++[v]) p.1).2:Int)]).length:=hj
   rw[Ea]at hj
   rcases Kc j p.2.length with WG | WG
   {have:=h3 j WG;rw[Cf _ _ _ WG,Cf _ _ _ ia];refine⟨this.1,?_⟩;show mK d f (Xm d f k (cs++[v]) p.1).1 _ _;rw[hu];exact this.2.more u}
   ·have Mk:j=p.2.length:=by simp at hj;omega
    subst Mk
    rw[pd,h2,pd]
    exact⟨Ab _,by rw[Gb];exact hr.node⟩)
  rw[Ud];rw[Ua]at hn;obtain⟨n1,n2,n3,⟨w,n4⟩,n5⟩:=hn;refine⟨n1,n2,n3,⟨u++w,by rw[n4];show(Xm d f k (cs++[v]) p.1).1++w=_;rw[hu,Ua]⟩,?_⟩;rw[ib,Ee,Wg];have n5:_<=(Xm d f k (cs++[v]) p.1).1.length+l.length*ID (Co d f) k (cs.length+1):=n5;omega
theorem nQ (hd:Ih d){f:Fo}(hw:Kj d f):∀(k:Nat) (cs:List Int) (t:List Dn),cs.length+k=d.length->z6 d cs->Made d.length (Pe d) (Mh d) t->Q6 d f k cs t (Xm d f k cs t):=by
 have hcell:=JC hd hw;intro k
 induction k with
 | zero=>{intro cs t hk hin hm;rw[Xm];have ho:Fs d.length (Pe d) (Mh d) t ⟨0,[],[],um d cs [] f⟩:=⟨fun _=>⟨rfl,rfl⟩,fun h=>absurd rfl h⟩;obtain⟨h1,h2,h3,u,h4⟩:=Ao hm ho;refine⟨h1,⟨h2,?_,?_⟩,⟨u,h4⟩,?_⟩;{rw[h3];unfold Fb;rw[if_pos rfl];omega};{intro c fc;rw[h1.reads _ h2 c fc,h3];show um d cs [] f=ve d (CR cs c) f;rw[KN d cs f.size f (ja _)];refine hcell.same _ _ (fun j hj=>hin j ia) (QD hin fc) (fun j hj=>?_);unfold CR;rw[if_pos ia]};{unfold Md ID;(split);{exact Nat.le_add_right _ _};{rw[Ea];exact ja _}}}
 | succ k ih=>
  intro cs t hk hin hm;have hi:cs.length<d.length:=by omega
  have hS:ew (d.getD cs.length default) f=Pe d cs.length::Wv d f cs.length:=by rw[Eb _ _ _ hi,iV hd hw hi,Vu hd f hi]
  have hch:=hcell.chain cs.length hi;have hlh:=(hd.Fq cs.length hi).2.1
  have Gl:∀s∈Pe d cs.length::Wv d f cs.length,Pe d cs.length<=s/\ s<=Mh d cs.length:=fun s hs=>by{(rcases List.mem_cons.1 hs with rfl | hs);{exact⟨Jc _,hlh⟩};{have:=Tj _ _ hch s hs;exact⟨ia,this.2⟩}}
  have Zp:Co d f cs.length=(Wv d f cs.length).length+1:=by unfold Co;rw[Vu hd f hi];rfl
  have FQ:=iK (d:=d) (f:=f) (k:=k) (cs:=cs) (fun s t h1 h2 ht=>ih (cs++[s]) t (by rw[Ea,Hb];omega) (Hu hin h1 h2) ht) _ Gl (t,[]) [] hm rfl (fun j hj=>absurd hj (Ib j));rw[Xm,hS];revert FQ;generalize(Pe d cs.length::Wv d f cs.length).foldl (fun(p:List Dn×List Int) s=>((Xm d f k (cs++[s]) p.1).1,p.2++[((Xm d f k (cs++[s]) p.1).2:Int)])) (t,[])=r;intro FQ;obtain⟨k1,k2,k3,⟨u,k4⟩,k5⟩:=FQ;rw[Ya]at k2;simp only[Ya]at k3;obtain⟨rm,rk⟩:=r;simp only at k1 k2 k3 k4 k5;obtain⟨k0,ks,rfl⟩:∃k0 ks,rk=k0::ks:=by cases rk with | nil=>simp at k2 | cons p q=>exact⟨p,q,rfl⟩
  have hl:ks.length=(Wv d f cs.length).length:=by simpa using k2
  have hkk:∀k∈k0::ks,0<=k/\ k.toNat<rm.length/\ cs.length<Fb d.length (rm.getD k.toNat default):=by{intro k hm;obtain⟨j,hj,rfl⟩:=List.mem_iff_getElem.1 hm;have h1:=k3 j hj;rw[Eb _ _ _ hj]at h1;have h2:=h1.2.Xx;rw[Ea,Hb]at h2;exact⟨h1.1,h1.2.lt,ia⟩}
  have hF:∀c,ee d.length (Pe d) (Mh d) c->ve d (CR cs c) f=ve d (CR (cs++[(Pe d cs.length::Wv d f cs.length).getD (Yd (Wv d f cs.length) (c cs.length)) 0]) c) f:=by{intro c fc;have hlt:Yd (Wv d f cs.length) (c cs.length)<(Pe d cs.length::Wv d f cs.length).length:=by{have:=aj (Wv d f cs.length) (c cs.length);rw[ib];omega};have hs:=Gl ((Pe d cs.length::Wv d f cs.length).getD (Yd (Wv d f cs.length) (c cs.length)) 0) (by rw[Eb _ _ _ hlt];exact Ga _);refine hcell.same _ _ (QD hin fc) (QD (Hu hin hs.1 hs.2) fc) (fun j hj=>?_);unfold CR;rw[Ea,Hb];(rcases Ue j cs.length with q | q | q);{rw[if_pos q,if_pos ia,Cf _ _ _ q]};{subst q;rw[Aa ia,if_pos ia,pd];exact(Vy hch (fc _ hj).1 (fun c hc=>La _ hc)).symm};{rw[Aa ia,Aa ia]}}
  have ng:=Fl k1 hi (Pe d cs.length) k0 (Wv d f cs.length) ks hl hch hkk;have mA:=br k1 hi k0 (Wv d f cs.length) ks hl hch hkk (F:=fun c=>ve d (CR cs c) f) (G:=fun v c=>ve d (CR (cs++[v]) c) f) (fun j hj c fc=>(k3 j hj).2.means c fc) hF;obtain⟨q1,q2,⟨w,q3⟩,q4,_⟩:=ng;refine⟨q1,⟨q2,q4,mA⟩,⟨u++w,by show(Mc rm _ _ _).1=_;rw[q3,k4,Ua]⟩,?_⟩;rw[ID,Zp];rw[ib]at k5
  have:(Mc rm cs.length (Pe d cs.length::Wv d f cs.length) (k0::ks)).1.length<=rm.length+1:=by{unfold Mc Md;simp only[];(split);{exact Nat.le_succ _};{(split);{exact Nat.le_succ _};{rw[Ea];exact ja _}}}
  show(Mc rm cs.length (Pe d cs.length::Wv d f cs.length) (k0::ks)).1.length<=_
  omega
theorem nK (hd:Ih d)(f:Fo):∀(n i:Nat),i+n<=d.length->yi (Co d f) i<=yi (Co d f) (i+n)
 | 0,i,_=>ja _
 | n+1,i,h=>by{have h1:=nK hd f n i ia;have h2:=gy hd f (i:=i+n) ia;show _<=yi (Co d f) (i+n)*Co d f (i+n);exact Wa h1 (Nat.le_mul_of_pos_right _ h2)}
theorem AQ (hd:Ih d)(f:Fo):∀(k i:Nat),i+k=d.length->yi (Co d f) i*ID (Co d f) k i<=(k+1)*ol d f
 | 0,i,h=>by{(have:i=d.length:=ia);subst this;unfold ID ol;omega}
 | k+1,i,h=>by{have ih:=AQ hd f k (i+1) ia;rw[ID,Nat.mul_add,Nat.mul_one, <-Nat.mul_assoc];rw[yi]at ih;have h1:yi (Co d f) i<=ol d f:=by{have:=nK hd f (d.length-i) i ia;rwa[Nat.add_sub_cancel' ia]at this};rw[Ee (k+1) 1,Wg];omega}
theorem zQ (hv:Hf d=true){f:Fo}(hw:Kj d f)(hb:Gp d f)(hc:ol d f<=400):Made d.length (Pe d) (Mh d) (Xm d f d.length [] []).1/\ (Xm d f d.length [] []).2<(Xm d f d.length [] []).1.length/\ (Xm d f d.length [] []).1.length<=24400/\
  ue (Xm d f d.length [] []).1 (Yb (Xm d f d.length [] []).1 (d.length+1) [] (Xm d f d.length [] []).2)=vh d f:=by
 have hd:=mg hv;have h:=nQ hd hw d.length [] [] la (fun j hj=>absurd hj (Ib j)) Made.nil;have hcl:=AQ hd f d.length 0 ia;have hfw:=h.Yw;have hl:=hd.len;refine⟨h.made,h.node.lt,?_,?_⟩
 {(have h1:ID (Co d f) d.length 0<=(d.length+1)*ol d f:=by simpa[yi]using hcl);have h2:(d.length+1)*ol d f<=61*400:=Ci ia hc;have hfw:_<=0+ID (Co d f) d.length 0:=hfw;omega}
 {refine Hp (h.made.dh (qy hd)) (hb.inv.made.dh (qy hd)) h.node.lt hb.root.lt (fun c fc=>?_) _;rw[h.node.means c fc,hb.root.means c fc];obtain⟨vs,_,_,hv⟩:=(Jr hw).from_;rw[hv c fc];congr 1}
theorem YT (l:List ByteArray)(s:ByteArray):eA l s=true↔s∈l:=by
 unfold eA;rw[Qf];constructor
 {rintro⟨x,hx,he⟩;rw[Xs]at he;exact he▸hx}
 {intro h;exact⟨s,h,Xs.2 rfl⟩}
theorem Uz (s:ByteArray)(v:Bool):∀l:List (ByteArray×Bool),(ins l s v).map (·.1)=if eA (l.map (·.1)) s=false then l.map (·.1)++[s]else l.map (·.1)
 | []=>by simp[ins,eA]
 | (a,x)::l=>by{rw[ins];(split);{rename_i he;(have:s=a:=by simpa using he);subst this;rw[Aa (by rw[(YT _ _).2 (List.mem_map.2 ⟨(s,x),Na ..,rfl⟩)];decide)];rfl};{rename_i he;(have hne:s≠a:=by simpa using he);rw[Va,Va,Uz s v l];have:eA (a::l.map (·.1)) s=eA (l.map (·.1)) s:=by{unfold eA;rw[Tg];have:Ni a s=false:=by{rw[<-Bool.not_eq_true,Xs];exact fun e=>hne e.symm};rw[this,Sh]};rw[this];split<;>rfl}}
theorem ZT :∀(N:Nat) (f:Fo),f.size<=N->∀l:List (ByteArray×Bool),(zk f l).map (·.1)=Ix f (l.map (·.1)):=by
 intro N
 induction N with| zero=>intro f h;obtain⟨op,s,c,n,ks⟩:=f;rw[Fo.size]at h;omega| succ N ih=>{intro f h l;obtain⟨op,s,c,n,ks⟩:=f;have hk:=Ak op c n s ks;have hL:∀(q:List Fo),(∀k∈q,k∈ks)->∀l:List (ByteArray×Bool),(ML q l).map (·.1)=WT q (l.map (·.1)):=by{intro q;induction q with| nil=>intro _ l;rfl| cons a q ihq=>{intro hm l;rw[ML,WT, <-ih a (by have:=hk a (hm a (Na ..));omega) l];exact ihq (fun k hk=>hm k (La _ hk)) _}};rw[zk,Ix,hL ks fun _ h=>h];congr 1;by_cases h3:op=3;{rw[if_pos h3,Uz];by_cases h4:eA (l.map (·.1)) s=false;{rw[if_pos h4,if_pos ⟨h3,h4⟩]};{rw[Aa h4,Aa fun h=>h4 h.2]}};{rw[Aa h3,Aa fun h=>h3 h.1]}}
theorem yQ (f:Fo):(Ix f []).length=(zk f []).length:=by
 have h:=congrArg List.length (ZT f.size f (ja _) []);rw[Sa]at h;rw[h]
 rfl
end
end Go.Proofs.YtejbgoigkefnfaaGreatDoor
