/- The walks of norm.Applies and Circles. A bound on the number of provisions and on the conditions' sizes. -/
import Derived.Test.YtdipkbobalnilaaGreatDoorAl
import Derived.Test.YtdipkbobalnilaaGreatDoorGrA
set_option maxRecDepth 100000
set_option maxHeartbeats 8000000
namespace Go.Proofs.YtdipkbobalnilaaGreatDoor
open Tryz
open Go.RowKit Tj
variable{j:Nat}{D:List Fa}{C:List Int}{Q:List Nat}{P:List Pv}
def DY(c:Ca)(b mk n:Nat)(a:Nat->Bool)(d:Nat->Nat)(N:Nat):Prop:=
 ∀i W,d i<N->i<n->Kn c mk b a W->Db 39 #[Ma b,pa (i:Int)] W λe f=>e=.returned (.bool (a i))/\Kn c mk b a f
theorem vD(u:Ca)(B m Z bb mk:Nat)(d:List Fa)(k:List Pv)(c:List Int)(rows:List (List Nat))(ad:Option Addr)(cd:Nat)(ap:Option Addr)(cp:Nat)(ac:Option Addr)(cc:Nat)(E:pF u B m Z bb mk d k c rows ad cd ap cp ac cc)
  (hsz:∀p∈k,p.cond.size<=1000000) (a:Nat->Bool) (H:∀i (h:i<k.length),a i=(Fm k[i].cond d c []&& !(rows.getD i []).any a)) (rk:Nat->Nat) (Y:∀x,x<k.length->∀y∈rows.getD x [],rk y<rk x) (N:Nat) (IH:DY u m mk k.length a rk N):DY u m mk k.length a rk (N+1):=by
 intro i W hN hi R;obtain⟨T,U,ak,ck,rv,rc,rfl,C,q,j⟩:=E.cells (apf:=a) i hi;obtain⟨l,A,hl⟩:=R.map;have X:=af vj.key Tryz.underlying61 Om A i;obtain⟨s1,s2⟩:=(show mk<m/\m<u.heap.size from⟨E.mlt,E.alt⟩);have t:∀g,Kn u mk m a g->g.cell? _=some _:=λg h=>(World.cell?_of_block h.ask).trans E.a2
 have x2:=t W R;have V:=la t;cases z:l.lookup (i:Int)with
 | some b=>{rw[z]at X;have Q:=la (hl i b z);have HK:=la R;clear R A hl j q C E H IH t z;go_enter func39,ntmps39;go_wp2;go_ret;exact⟨Cb Q.o,HK.o⟩}
 | none=>
  rw[z]at X;have hrv:=Sa.shape C;obtain⟨_,_,e0,h5,h6,_⟩:=hrv;rw[Value.slice.injEq]at e0;obtain⟨rfl,QI,rfl⟩:=e0;clear QI;rw[Va]at h5
  have HH:Hid (∀W,Kn u mk m a W->Db 80 #[.agg #[pa k[i].cond.op,.string k[i].cond.name,pa k[i].cond.cmp,pa k[i].cond.n,.slice ak k[i].cond.kids.length ck],.agg #[.slice ad d.length cd],.slice ac c.length cc,Ua] W λe g=>e=.returned (.bool (Fm k[i].cond d c []))/\Da W.heap.size W g):=by{intro W h;have hs:=h.mm.size;have hB:=E.hB;have hb:=h.mm.mono hB;exact SI _ d c [] _ _ _ _ W B (hsz _ (Oa _)) ja (Fo.In.below hb _ _ q) (E.dom.below hb) (E.cas.below hb) ⟨none,0,rfl,wa _,ja,λh=>absurd rfl h⟩}
  have HC:Hid (∀W,Kn u mk m a W->Db 81 #[.slice rv (rows.getD i []).length rc,.func (.func 39) #[.pointer (some ⟨m,0,none⟩)] #[]] W λe g=>e=.returned (.bool ((rows.getD i []).any a))/\Kn u mk m a g):=by
   intro W h
   have h9:=xx ((rows.getD i []).map λx:Nat=>x) 39 _ (λx=>a x.toNat) _ mk rv rc W (enters_of func39 Ha rfl) h6 (by rw[Va];exact h5)
    (λW' h'=>by rw[Va];exact C.below h'.mm)
    (λW' x hx h'=>by
     obtain⟨y,hy,rfl⟩:=List.mem_map.1 hx
     have:=Y i hi y hy
     exact IH y W' ja (E.x_ i y hy) h') h
   rw[Va,List.any_map]at h9;exact h9
  have hv:=H i hi;have i0:0<=(i:Int):=Xb _;have i1:i<(k.length:Int):=by omega
  have v:=la j;have HK:Hid _:=R;clear A hl j q C E H IH t z R Y hsz;generalize Fm _ d c []=hp at*
  generalize(rows.getD i []).any a=an at*
  generalize(rows.getD i []).length=rl at*
  generalize k[i].cond=f at*
  have D:Hid _:=HK.o.drew s1 s2;have Q:=la hv;clear hv;cases hp with
  | false=>{go_enter func39,ntmps39;go_upto_region 4 with(fail);go_cut[7] (λx7 wx=>x7=.bool false/\Hid (Kn u mk m a wx));(case first=>(refine wp_region_held_drew (S:=(λg=>(g.cell? _=some _/\g.cell? _=some _/\g.cell? _=some _/\g.cell? _=some _/\g.cell? _=some _/\g.cell? _=some _/\g.cell? _=some _/\g.cell? _=some _/\g.cell? _=some _/\g.cell? _=some _/\g.cell? _=some _)/\Hid _)) Ha ⟨v.o _ D.o,D⟩ (λMb=>?_);refine tp 0 ?_;refine tk 1 ?v1 ?y1 ?_;(case y1=>(intro w Be;(try dsimp only at Be);go_simp;try with_reducible rfl));refine tp 2 ?_;refine tk 3 ?v3 ?y3 ?_;(case y3=>(intro w Be;(try dsimp only at Be);go_simp;try with_reducible rfl));refine tk 4 ?v4 ?y4 ?_;(case y4=>(intro w Be;(try dsimp only at Be);go_simp;try with_reducible rfl));refine tp 5 ?_;refine tp 6 ?_;refine tk 7 ?v7 ?y7 ?_;(case y7=>(intro w Be;(try dsimp only at Be);go_simp;try with_reducible rfl));refine tp 8 ?_;refine tk 9 ?v9 ?y9 ?_;(case y9=>(intro w Be;(try dsimp only at Be);go_simp;try with_reducible rfl));refine tp 10 ?_;refine tk 11 ?v11 ?y11 ?_;(case y11=>(intro w Be;(try dsimp only at Be);go_simp;try with_reducible rfl));refine tp 12 ?_;refine tk 13 ?v13 ?j5 ?_;(case j5=>(intro w Be;(try dsimp only at Be);go_simp;try with_reducible rfl));refine tp 14 ?_;refine tk 15 ?v15 ?y15 ?_;(case y15=>(intro w Be;(try dsimp only at Be);go_simp;try with_reducible rfl));refine tk 16 ?v16 ?y16 ?_;(case y16=>(intro w Be;(try dsimp only at Be);go_simp;try with_reducible rfl));refine tp 17 ?_;refine tp 18 ?_;refine tk 19 ?v19 ?y19 ?_;(case y19=>(intro w Be;(try dsimp only at Be);go_simp;try with_reducible rfl));refine tp 20 ?_;refine tk 21 ?v21 ?y21 ?_;(case y21=>(intro w Be;(try dsimp only at Be);go_simp;try with_reducible rfl));refine tp 22 ?_;refine tk 23 ?v23 ?y23 ?_;(case y23=>(intro w Be;(try dsimp only at Be);go_simp;try with_reducible rfl));refine tr 24 (λK hK=>?_);go_simp;(go_at_call 80;refine(HH.o _ D.o).mono ?_;rintro e w4 ⟨rfl,I⟩;have s:Hid _:=D.o.below s1 s2 I);refine hK.o _ _ ?_ (λMb=>?_);{exact⟨v.o _ s.o,s⟩};clear hK K;refine tp 25 ?_;refine tu 26 ?_;refine tu 27 ?_;refine tu 28 ?_;refine tu 29 ?_;refine tu 30 ?_;refine tu 31 ?_;refine tu 32 ?_;refine tu 33 ?_;refine tu 34 ?_;refine tu 35 ?_;refine tu 36 ?_;refine tu 37 ?_;refine tu 38 ?_;refine tu 39 ?_;refine tp 40 ?_;refine tp 41 ?_;refine wpAnyH_done Ha ?_ _;go_wp2;go_meet;exact⟨rfl,s⟩));case rest=>(obtain⟨rfl,r⟩:=hcut;obtain⟨l4,M,L⟩:=r.o.map;have y2:=V.o _ r.o;obtain⟨w5,hrun,O,P⟩:=run_store vj.key Tryz.underlying61 M i false;have G:=la (r.o.put s1 L i _ (by rw[Q.o];rfl) O P);go_wp2;go_ret;exact⟨Cb (by rw[Q.o];rfl),G.o⟩)}
  | true=>
   go_enter func39,ntmps39;go_upto_region 4 with(fail)
   go_cut[7] (λx7 wx=>x7=.bool (!an)/\Hid (Kn u mk m a wx))
   case first=>
    go_region_held3 (λg=>(g.cell? (Ya m)=some (Ma Z)/\g.cell? (Ja m 1)=some (.slice ac c.length cc)/\g.cell? (Ya Z)=some (.slice ad d.length cd)/\g.cell? (Ja Z 1)=some (.slice (fe T U) k.length cp)/\g.cell? (Ja Z 4)=some (.slice (Nb bb) k.length k.length)/\g.cell? (Ja bb i)=some (.slice rv rl rc)/\g.cell? (Ja T (U+i*23+5))=some (pa f.op)/\g.cell? (Ja T (U+i*23+6))=some (.string f.name)/\g.cell? (Ja T (U+i*23+7))=some (pa f.cmp)/\g.cell? (Ja T (U+i*23+8))=some (pa f.n)/\g.cell? (Ja T (U+i*23+9))=some (.slice ak f.kids.length ck))/\Hid (Kn u mk m a g))
     (first
      | exact⟨v.o _ D.o,D⟩
      | exact⟨v.o _ s.o,s⟩
      | exact⟨v.o _ J.o,J⟩)
     (first
      | (go_at_call 80;refine(HH.o _ D.o).mono ?_;rintro e w4 ⟨rfl,I⟩;have s:Hid (Kn u mk m a w4):=D.o.below s1 s2 I)
      | (go_at_call 81;refine(HC.o _ s.o).mono ?_;rintro e w5 ⟨rfl,F⟩;have J:=la F;clear F))
    go_wp2;go_meet;exact⟨rfl,J⟩
   case rest=>(obtain⟨rfl,r⟩:=hcut;obtain⟨l4,M,L⟩:=r.o.map;have y2:=V.o _ r.o;obtain⟨w5,hrun,O,P⟩:=run_store vj.key Tryz.underlying61 M i (!an);have G:=la (r.o.put s1 L i _ (by rw[Q.o];rfl) O P);go_wp2;go_ret;exact⟨Cb (by rw[Q.o];rfl),G.o⟩)
def EY(d:List Fa)(a:List Pv)(c:List Int)(i:Nat):Bool:=match a[i]? with|some p=>Fm p.cond d c [] | none=>false
def Jw(d:List Fa)(a:List Pv)(c:List Int)(rows:List (List Nat))(i:Nat):Bool:=y_ (EY d a c) rows a.length i
theorem bP{rows:List (List Nat)}(a:∀k,∀x∈rows.getD k [],x<P.length)(d:Uh (eB (Sn rows)) P.length=[])(i:Nat)(e:i<P.length):
  Jw D P C rows i=(Fm P[i].cond D C []&& !(rows.getD i []).any (Jw D P C rows)):=by
 obtain⟨f,b,c⟩:=Wx (G:=Sn rows) a d;have h:=FY (h:=EY D P C) a f b c i e
 grind [Jw,EY]
theorem qF(f:Ca)(B b s m mk:Nat)(d:List Fa)(a:List Pv)(c:List Int)(rows:List (List Nat))(k:Option Addr)(o:Nat)(l:Option Addr)(q:Nat)(ac:Option Addr)(n:Nat)(E:pF f B b s m mk d a c rows k o l q ac n)
  (hsz:∀p∈a,p.cond.size<=1000000) (r:Uh (eB (Sn rows)) a.length=[]) (i:Nat) (W:Ca) (g:i<a.length) (u:Kn f mk b (Jw d a c rows) W):
  Db 39 #[Ma b,pa (i:Int)] W λe w=>e=.returned (.bool (Jw d a c rows i))/\Kn f mk b (Jw d a c rows) w:=by
 obtain⟨j,x,t⟩:=Wx (G:=Sn rows) E.x_ r
 have all:∀N,DY f b mk a.length (Jw d a c rows) j N:=λN=>by{induction N with| zero=>intro i W h;omega| succ N v=>exact vD f B b s m mk d a c rows k o l q ac n E hsz _ (λi g=>bP E.x_ r i g) j t N v}
 exact all (j i+1) i W ja g u
theorem rF:(prog.info? 9).map (λi=>(i.zero,i.size,i.bytes))=some (some (.string ByteArray.empty),1,16):=by kernel_rfl
def IA(a:List Pv)(j:Nat):Na:=(a.map Pv.id).getD j Ka
theorem Xx(h:j<P.length):IA P j=P[j].id:=by grind [IA]
def wj(d:List Fa)(a:List Pv)(c:List Int):List Na:=((List.range a.length).filter (Jw d a c (rowsOf a))).map (IA a)
theorem sF{W:Ca}{base:Nat}{v:Ea}{l:List Na}(h:W.ownsRow base 9 1 v l.length (l.map Value.string))(n:W.heap.size<=j):Sc W j l v:=by
 rcases h.2 with⟨rfl,b⟩|⟨g,cap,a,rfl,_,o,c,d,k,f⟩
 {have:=List.length_eq_zero_iff.1 b;subst this;exact⟨none,0,rfl,ja,ja,λe=>absurd rfl e⟩}
 ·refine⟨_,cap,rfl,c,d,λ_=>⟨g,0,rfl,?_,λi p=>?_⟩⟩
  ·grind
  ·have m:(a.toList.take (l.length*1))[i]? =(l.map Value.string)[i]? :=by rw[f]
   show W.cell? _=some _
   grind [World.cell?]
theorem EB{d:List Fa}{ps:List Pv}{c:List Int}(h:Pm d ps c=0):zT ps=true/\Vh d c=true/\ps.any (tF d)=false/\Uh (eB (Sn (rowsOf ps))) ps.length=[]:=by
 grind [Pm]
theorem Vs(p:Nat->Bool)(k:Nat):(List.range (k+1)).filter p=(List.range k).filter p++if p k then[k]else[]:=by
 grind [List.range_succ]
theorem cP{wr c d:Ca}{i base e size n:Nat}{l:Nat->Bool}{v:Ea}{f:List Ea}(h:wr.ownsRow base e size v n f)(a:Da wr.heap.size wr c)(b:Kn c j i l d)(q:j<base):d.ownsRow base e size v n f:=by
 have o:=h.kept (row:=none) ⟨a.os,a.tape,a.output,a.size,λk b _=>a.block k b⟩ (by
  grind)
 apply o.kept b.gr
 rcases h.2 with⟨rfl,_⟩|⟨g,cap,m,rfl,p,_⟩
 all_goals grind [Value.ownBlock]
theorem TI{w:Ca}{e size n:Nat}{v:Ea}{f:List Ea}(h:w.ownsRow j e size v n f):∀b,v.ownBlock=some b->j<=b:=by
 intro b a;rcases h.2 with⟨rfl,_⟩|⟨g,cap,c,rfl,d,_⟩
 {cases a}
 {cases a;exact d}
theorem dP(d:List Fa)(f:List Pv)(c:List Int)(v cv:Ea)(w:Ca)(B:Nat)(hn:f.length<=1000)(hB:B<=w.heap.size)(hl:ur w B d f v)(hex:∀p∈f,p.except.length<=40)(hsz:∀p∈f,p.cond.size<=1000000)(hc:IntsIn w B c cv):
  Db 14 #[v,cv] w λe w'=>∃u,e=.returned (.tuple #[u,pa (Pm d f c)])/\Da w.heap.size w w'/\Sc w' w'.heap.size (if Pm d f c=0 then wj d f c else[]) u:=by
 have S:=hl;obtain⟨u1,u2,G,ns,cs,rfl,hd,hp⟩:=hl;obtain⟨ad,cd,rfl,d1,d2,_⟩:=Sa.shape hd;obtain⟨ap,cp,rfl,p1,p2,_⟩:=Sa.shape hp;have P:=hc;obtain⟨ac,cc,rfl,c1,c2,_⟩:=Sa.shape hc;unfold maxLen at p2;have C:Da _ w (w.alloc (.cells #[.slice ad d.length cd,.slice ap f.length cp,.slice G ns cs] 28)):=(za _ _).alloc (wa _) _;have X:=qb.new w 28 #[.slice ad d.length cd,.slice ap f.length cp,.slice G ns cs];have x0:(w.alloc _).cell? _=some (.slice ad _ cd):=X.cell 0;have x1:(w.alloc _).cell? _=some (.slice ap _ cp):=X.cell 1;have x2:(w.alloc _).cell? _=some (.slice G ns cs):=X.cell 2;have t:=la (eP d f c _ _ _ B hn (by simp;omega) (S.below (C.mono hB)) hex hsz (P.below (C.mono hB)));have E:=la C;have HP:=la hp;have gM:=la hsz;have L:=la (λh=>EB (d:=d) (ps:=f) (c:=c) h);clear S hd hp hc P C X hex hsz;by_cases I:Pm d f c=0
 ·rw[Ga I]
  have HZ:=la (L.o I);rw[I]at t⊢;clear L I;obtain⟨i0,Kw,QI,jF,ez⟩:=info_parts rF;go_enter func14,ntmps14;go_wp2_with (go_at_call 38;refine t.o.mono ?_;rintro e U ⟨q,rfl,g,hq⟩;obtain⟨ab,nb,bb,mk,mb,ad',cd',ap',cp',ac',cc',rfl,hE,YK,hK,_⟩:=hq rfl;have z:=la g;have HE:=la hE;have HK:=la (hK (Jw d f c (rowsOf f)));have y1:=(g.cell Aa).trans x1;have J:=hE.mlt;have K:=hE.alt;simp at YK;clear g hq hE hK)
  go_loopw [8,23] (λvo iv wr=>∃k:Nat,k<=f.length/\iv=pa k/\Hid (wr.ownsRow U.heap.size 9 1 vo ((List.range k).filter (Jw d f c (rowsOf f))).length (((List.range k).filter (Jw d f c (rowsOf f))).map λj=>.string (IA f j)))/\Hid (Kn U mk ab (Jw d f c (rowsOf f)) wr)) (λ_ iv _=>f.length-(intOf iv).toNat)
  case atStart=>exact⟨0,ja,rfl,⟨rfl,.inl ⟨rfl,rfl⟩⟩,HK⟩
  case round=>
   obtain⟨k,hk,rfl,r,l⟩:=hrel;by_cases hlt:k<f.length
   ·have b0:=(E.o.trans (z.o.mono Aa)).trans (l.o.mm.mono ja)
    have T:=l.o.mm.size;have hid:=Xx hlt;have Q:=Vs (Jw d f c (rowsOf f)) k
    have z_:((List.range k).filter (Jw d f c (rowsOf f))).length<=1000:=by{have:=ve (Jw d f c (rowsOf f)) (List.range k);rw[Jd]at this;omega}
    have y:=la (λW h=>qF W B ab nb bb mk d f c _ ad' cd' ap' cp' ac' cc' (HE.o.move h) gM.o HZ.o.2.2.2 k W hlt h.base);obtain⟨b,off,rfl,Tn,Z,ck,Y,ce,hr,hf,he,uU⟩:=Sa.at (HP.o.below jm.kept (b0.mono hB)) k hlt;generalize f[k]=p at*
    have M:=la hr;have vU:=la hid;have s:=la Q;have V:=r;clear hr hf he uU b0 hid Q r;cases N:Jw d f c (rowsOf f) k with
    | false=>
     rw[N]at y s;have HF:Hid ((List.range (k+1)).filter (Jw d f c (rowsOf f))=(List.range k).filter (Jw d f c (rowsOf f))):=by show _=_;rw[s.o];simp
     clear s
     go_wp2_with (first
      | ((with_reducible show wpList _ _ _ (⟨_,Op.load 38 (.tmp 26),_,_,_,_⟩::_) _ _);refine Lc rfl (.tmp 26) rfl rfl p Z ck Y ce M.o Tryz.underlying38 rfl Pv.Dg ?_)
      | ((with_reducible show wpList _ _ _ (⟨_,Op.store 38 (.tmp 10) (.tmp 27),_,_,_,_⟩::_) _ _);refine Vc rfl (.tmp 10) (.tmp 27) rfl p Z ck Y ce rfl rfl ?Sj Pv.Dg ?_;(case Sj=>rfl);intro W1 g Un m Mu;have D:=m 0 _ rfl;have fP:=la m;clear m)
      | (go_at_call 39;refine(y.o _ (l.o.below J K g)).mono ?_;rintro e w2 ⟨rfl,i⟩;have A:=la (cP V.o g i ja);have F:=la ((l.o.below J K g).trans i);clear i))
     go_roundw
     case rel=>exact⟨k+1,ja,by go_num,by rw[HF.o];exact A,F⟩
     case measure=>simp[intOf];omega
    | true=>
     rw[N]at y s;have HF:Hid ((List.range (k+1)).filter (Jw d f c (rowsOf f))=(List.range k).filter (Jw d f c (rowsOf f))++[k]):=by show _=_;rw[s.o];simp
     clear s;generalize BT:(List.range k).filter _=fl at*
     go_wp2_with (first
      | ((with_reducible show wpList _ _ _ (⟨_,Op.load 38 (.tmp 26),_,_,_,_⟩::_) _ _);refine Lc rfl (.tmp 26) rfl rfl p Z ck Y ce M.o Tryz.underlying38 rfl Pv.Dg ?_)
      | ((with_reducible show wpList _ _ _ (⟨_,Op.store 38 (.tmp 10) (.tmp 27),_,_,_,_⟩::_) _ _);refine Vc rfl (.tmp 10) (.tmp 27) rfl p Z ck Y ce rfl rfl ?Sj Pv.Dg ?_;(case Sj=>rfl);intro W1 g Un m Mu;have D:=m 0 _ rfl;have fP:=la m;clear m)
      | (go_at_call 39;refine(y.o _ (l.o.below J K g)).mono ?_;rintro e w2 ⟨rfl,i⟩;have A:=la (cP V.o g i ja);have F:=la ((l.o.below J K g).trans i);have z0:=(World.cell?_of_block (w:=W1) (a:=Ya wr.heap.size) (i.gr.block wr.heap.size ja (by simp;omega))).trans D;have abn:=i.gr.size;clear i)
      | (at_builtin;go_loud (refine wpList_append_own_at _ rfl _ _ 33 rfl U.heap.size 9 i0 _ 1 16 Tryz.underlying33 Kw QI jF ez rfl Ba _ fl.length _ rfl (A.o.alloc _) (Ya w2.heap.size) 1 1 [.string p.id] rfl rfl (cell_one_new _ _ _) (by simp[Value.oneCell']) (by unfold maxLen;omega) ja (by simp;omega) ?_;intro v9 w9 x n H O;have I2:=la ((F.o.below J K ((za _ _).alloc (wa _) (.cells #[.string p.id] 9))).grown J K n (TI A.o));have gP:=la x;clear x n H O)))
     go_roundw
     case rel=>(refine⟨k+1,ja,by go_num,?_,I2⟩;show World.ownsRow _ _ _ _ _ _ _;rw[HF.o,Qa,Pb,Eb,sd,vU.o];exact gP.o)
     case measure=>simp[intOf];omega
   {(have R:k=f.length:=ja);subst R;have V:=r;clear r hk hlt;go_wp2;go_ret2;refine⟨_,rfl,(E.o.trans (z.o.mono Aa)).trans (l.o.mm.mono ja),?_⟩;refine sF (base:=U.heap.size) ?_ ja;unfold wj;rw[Va,Ze];exact V.o}
 {rw[if_neg I];(have e0:(Pm d f c !=0)=true:=by simpa using I);generalize Pm d f c=er at*;go_enter func14,ntmps14;go_wp2_with (go_at_call 38;refine t.o.mono ?_;rintro e U ⟨q,rfl,g,_⟩;have z:=la g;clear g);go_ret2;exact⟨_,rfl,E.o.trans (z.o.mono Aa),none,0,rfl,wa _,ja,λh=>absurd rfl h⟩}
def Ii(a:List Pv):List (List Na):=if zT a=true then(Uh (eB (Sn (rowsOf a))) a.length).map λl=>l.map (IA a)else[]
structure vr (W : Ca) (base : Nat) (ls : List (List Na)) (u : Ea) (vals : List Ea) : Prop where
 own:W.ownsRow base 33 1 u vals.length vals
 len:vals.length=ls.length
 rows:∀k,k<ls.length->W.ownsRow base 9 1 (vals.getD k undef) (ls.getD k []).length ((ls.getD k []).map Value.string)
theorem vr.below{W c:Ca}{g:List (List Na)}{u:Ea}{vals:List Ea}(h:vr W j g u vals)(a:Da W.heap.size W c):vr c j g u vals:=by
 have d:W.grownBy c none:=⟨a.os,a.tape,a.output,a.size,λk b _=>a.block k b⟩
 have f:∀ {e n:Nat} {v:Ea} {i:List Ea},W.ownsRow j e 1 v n i->v.ownBlock=none\/v.ownBlock≠none:=λh=>by
  grind
 exact⟨h.own.kept d (f h.own),h.len,λk b=>(h.rows k b).kept d (f (h.rows k b))⟩
theorem vr.push{W n d:Ca}{a:List (List Na)}{u r v:Ea}{vals:List Ea}{l:List Na}(h:vr W j a u vals)(s:W.ownsRow j 9 1 v l.length (l.map Value.string))(b:Da W.heap.size W n)
  (q:d.ownsRow j 33 1 r (vals.length+1) (vals++[v])) (p:n.grownBy d u.ownBlock):vr d j (a++[l]) r (vals++[v]):=by
 have i:=h.below b
 have c:=s.kept (row:=none) ⟨b.os,b.tape,b.output,b.size,λk m _=>b.block k m⟩ (by
  grind)
 refine⟨by grind,by rw[Qa,Qa,h.len];rfl,λk m=>?_⟩;rw[Qa,Yd]at m;have t:=h.len;by_cases e:k<a.length
 {have o:=i.rows k e;(have f:(vals++[v]).getD k undef=vals.getD k undef:=by grind);(have g:(a++[l]).getD k []=a.getD k []:=by grind);rw[f,g];exact o.kept p (wi o i.own Ba)}
 {(obtain rfl:k=a.length:=ja);(have f:(vals++[v]).getD a.length undef=v:=by grind);(have g:(a++[l]).getD a.length []=l:=by grind);rw[f,g];exact c.kept p (wi c i.own Ba)}
theorem vr.A5{W:Ca}{b:List (List Na)}{u:Ea}{vals:List Ea}(h:vr W j b u vals):ZK W W.heap.size b u:=by
 have m:=h.len;rcases h.own.2 with⟨rfl,n⟩|⟨g,cap,a,rfl,_,k,o,c,p,d⟩
 {have:b=[]:=List.length_eq_zero_iff.1 ja;subst this;exact⟨none,0,rfl,ja,ja,λe=>absurd rfl e⟩}
 ·refine⟨_,cap,by rw[m],ja,c,λ_=>⟨g,0,rfl,(Array.getElem?_eq_some_iff.1 k).1,λi l=>?_⟩⟩
  have f:(a.toList.take (vals.length*1))[i]? =vals[i]? :=by rw[d]
  rw[Ue ja,Xa (show i<vals.length by omega)]at f;refine⟨vals[i],?_,?_⟩
  ·grind [World.cell?]
  ·have q:=h.rows i l
   grind [sF]
theorem iM{W:Ca}{b2 e size n:Nat}{v:Ea}{b:List Ea}(h:W.ownsRow j e size v n b)(k:b2<=j):W.ownsRow b2 e size v n b:=by
 refine⟨h.1,?_⟩;rcases h.2 with c|⟨g,cap,a,d,i,f⟩
 {exact .inl c}
 {exact .inr ⟨g,cap,a,d,ja,f⟩}
theorem jM(e:Nat->Nat->Bool)(n:Nat):(Uh e n).length<=n:=by
 grind [Uh]
theorem kM{e:Nat->Nat->Bool}(h:Q∈Uh e j):Q.length<=j/\∀x∈Q,x<j:=by
 grind [Uh]
theorem iP:(prog.info? 33).map (λi=>(i.zero,i.size,i.bytes))=some (some Ua,1,24):=by kernel_rfl
theorem jP(d:List Fa)(c:List Pv)(v:Ea)(w:Ca)(B:Nat)(hn:c.length<=1000)(hB:B<=w.heap.size)(hl:ur w B d c v)(hex:∀p∈c,p.except.length<=40):
  Db 31 #[v] w λe Y=>∃u,e=.returned u/\Da w.heap.size w Y/\ZK Y Y.heap.size (Ii c) u:=by
 have QW:=hl;obtain⟨u1,u2,U,ns,cs,rfl,hd,hp⟩:=hl;obtain⟨ad,cd,rfl,d1,d2,_⟩:=Sa.shape hd;obtain⟨ap,cp,rfl,p1,p2,_⟩:=Sa.shape hp;unfold maxLen at p2;have V:Da _ w (w.alloc (.cells #[.slice ad d.length cd,.slice ap c.length cp,.slice U ns cs] 28)):=(za _ _).alloc (wa _) _;have K0:=qb.new w 28 #[.slice ad d.length cd,.slice ap c.length cp,.slice U ns cs];have x0:(w.alloc _).cell? _=some (.slice ad _ cd):=K0.cell 0;have x1:(w.alloc _).cell? _=some (.slice ap _ cp):=K0.cell 1;have x2:(w.alloc _).cell? _=some (.slice U ns cs):=K0.cell 2;have HOF:=la (kP d c _ _ B hn (by simp;omega) (QW.below (V.mono hB)) hex);have vO:=la V;have HP:=la hp;have D:decide _=zT c:=rfl;cases f:zT c with
 | false=>{(have I:Ii c=[]:=by unfold Ii;rw[f];rfl);rw[I];rw[f]at D;have S:=la D;go_enter func31,ntmps31;go_wp2_with (go_at_call 60;refine HOF.o.mono ?_;rintro e w1 ⟨Z,u1,u2,u3,ok,m,rfl,f,s,q⟩;injection m with m;injection m with m;injection m with v1 m;injection m with v2 m;injection m with v3 m;subst v1;subst v2;subst v3;clear m;have M:=la s;have F:=la (vO.o.trans (q.mono Aa));have X:=q.size;simp at X;rw[S.o]at f;subst f;clear s q);go_ret;exact⟨_,rfl,F.o,none,0,rfl,wa _,ja,λh=>absurd rfl h⟩}
 | true=>
  have I:Ii c=(Uh (eB (Sn (rowsOf c))) c.length).map λl=>l.map (IA c):=by unfold Ii;rw[f];rfl
  rw[I];rw[f]at D;have S:=la D
  have GY:Hid (∀(Z:Nat) W,LZ W Z c.length (rowsOf c)->Db 61 #[Ma Z] W λe Y=>∃v,e=.returned v/\KL Y Y.heap.size ((Uh (eB (Sn (rowsOf c))) c.length).map λl=>l.map λx:Nat=>(x:Int)) v/\Da W.heap.size W Y):=
   λZ W h=>ry _ Z _ W hn (GB ((Ws c).1 f)) h
  have akW:=jM (eB (Sn (rowsOf c))) c.length;have DT:=la (λl (h:l∈Uh (eB (Sn (rowsOf c))) c.length)=>kM h);generalize Uh _ _=G at*
  clear QW hd hp V K0 D f I hex;obtain⟨i0,Kw,QI,jF,ez⟩:=info_parts rF;obtain⟨i1,B5,lM,hw1,RW⟩:=info_parts iP;go_enter func31,ntmps31
  go_wp2_with (first
   | (go_at_call 60;refine HOF.o.mono ?_;rintro e w1 ⟨Z,u1,u2,u3,ok,m,rfl,f,s,q⟩;injection m with m;injection m with m;injection m with v1 m;injection m with v2 m;injection m with v3 m;subst v1;subst v2;subst v3;clear m;have M:=la s;have F:=la (vO.o.trans (q.mono Aa));have lP:=la q;have X:=q.size;simp only[Ia]at X;have y1:=(q.cell (p:=Ja w.heap.size 1) Aa).trans x1;rw[S.o]at f;subst f;clear s q)
   | (go_at_call 61;refine(GY.o _ _ (uy M.o (Ui c) (za _ _))).mono ?_;rintro e w4 ⟨gv,rfl,J,H⟩;obtain⟨ga,gc,rfl,g1,g2,_⟩:=Sa.shape J;rw[Va]at g1 J;rw[Va];have zN:=la J;have Lk:=la H;have hz4:=H.size;have y4:=(H.cell (p:=Ja w.heap.size 1) (by simp;omega)).trans y1;clear H J))
  unfold maxLen at g2
  go_loopw [5,21] (λuo iv wr=>∃(k:Nat) (vals:List Ea),k<=G.length/\iv=pa k/\Hid (vr wr w4.heap.size ((G.take k).map λl=>l.map (IA c)) uo vals)/\Hid (Da w4.heap.size w4 wr)) (λ_ iv _=>G.length-(intOf iv).toNat)
  case atStart=>exact⟨0,[],ja,rfl,⟨⟨rfl,.inl ⟨rfl,rfl⟩⟩,rfl,λk hk=>by cases hk⟩,za _ _⟩
  case round=>((rename Ca=>wq);obtain⟨k,vals,hk,rfl,t,r⟩:=hrel;by_cases hlt:k<G.length;{obtain⟨gb,go,ga2,gc2,rfl,aL,A,hgi⟩:=Sa.row (Sa.below (TW.kept (Ad.kept _) 1) r.o zN.o) k (by rw[Va];exact hlt);have hcm:=DT.o _ (Oa hlt);have htk:=Ta hlt;(have A_:wq.cell? (Ja gb (go+k))=some (.slice ga2 (G[k]).length gc2):=by simpa using A);(have O:IntsIn wq w4.heap.size ((G[k]).map λx:Nat=>x) (.slice ga2 (G[k]).length gc2):=by simpa using hgi);clear A hgi;generalize G[k]=g at*;obtain⟨akY,N⟩:=hcm;have y5:=(r.o.cell (by simp;omega)).trans y4;have hrs:=r.o.size;have kF:0<=(k:Int):=Xb _;have HGI:=la O;have abp:=la N;have C5:=la htk;have HR:=t;have Q:=r;(have wU:vals.length=k:=by have:=t.o.len;rw[Va,de]at this;omega);have IY:=la (HP.o.below jm.kept (((F.o.trans (Lk.o.mono ja)).trans (r.o.mono ja)).mono hB));clear O N htk t r;go_wp2;go_loopw [8,27] (λio jv wr=>∃j:Nat,j<=g.length/\jv=pa j/\Hid (wr.ownsRow wq.heap.size 9 1 io j (((g.take j).map (IA c)).map Value.string))/\Hid (Da wq.heap.size wq wr)) (λ_ jv _=>g.length-(intOf jv).toNat);(case atStart=>exact⟨0,ja,rfl,⟨rfl,.inl ⟨rfl,rfl⟩⟩,za _ _⟩);case round=>(obtain⟨j,hj,rfl,K,n⟩:=hrel;by_cases L:j<g.length;{obtain⟨eb,eo,rfl,heb,D5⟩:=Sa.one (HGI.o.below (n.o.mono hrs)) j (by rw[Va];exact L);rw[Sd]at D5;have J2:=abp.o _ (Oa L);have htj:=Ta L;generalize g[j]=y at*;have hid:=Xx J2;obtain⟨b,off,rfl,Tn,ak,ck,ae,ce,hr,hf,he,uU⟩:=Sa.at (IY.o.below jm.kept (n.o.mono ja)) y J2;generalize c[y]=p at*;have hr0:=hr 0 _ rfl;rw[Qg]at hr0;have y6:=(n.o.cell (by simp;omega)).trans y5;have y0i:0<=(y:Int):=Xb _;(have y1i:y<(c.length:Int):=ja);have hss:=n.o.size;have C:=K;have R:=n;have vU:=la hid;have HTJ:=la htj;clear hr hf he uU hid htj K n;go_wp2_with (at_builtin;refine wpList_append_own_at _ rfl _ _ 33 rfl wq.heap.size 9 i0 _ 1 16 Tryz.underlying33 Kw QI jF ez rfl Ba _ j _ rfl (C.o.alloc _) (Ya wr.heap.size) 1 1 [.string p.id] rfl rfl (cell_one_new _ _ _) (by simp[Value.oneCell']) (by unfold maxLen;omega) ja (by simp;omega) ?_;intro v9 w9 i a z E;have P:=la ((R.o.trans ((za _ _).alloc ja (.cells _ 9))).grown a (by simp;omega) (λb e=>TI C.o b e));have gP:=la i;clear i a z E);go_roundw;(case rel=>(refine⟨j+1,ja,by go_num,?_,P⟩;show World.ownsRow _ _ _ _ _ _ _;rw[HTJ.o,Pb,Pb,Eb,sd,Eb,sd,vU.o];exact gP.o));case measure=>simp[intOf];omega};{(have hjn:j=g.length:=ja);subst hjn;have C:Hid (wr.ownsRow w4.heap.size 9 1 u8 (g.map (IA c)).length ((g.map (IA c)).map Value.string)):=by{have h:=K.o;rw[Ub]at h;rw[Va];exact iM h hrs};have R:=n;have T:=la (HR.o.below n.o);have hss:=n.o.size;clear K n hj L;obtain⟨ua,un,uc,rfl⟩:∃ua un uc,u8=.slice ua un uc:=by{(rcases C.o.2 with⟨h0,_⟩|⟨g',cap,Aq,h0,_⟩);{exact⟨_,_,_,h0⟩};{exact⟨_,_,_,h0⟩}};go_wp2_with (at_builtin;refine wpList_append_own_at _ rfl _ _ 79 rfl w4.heap.size 33 i1 _ 1 24 Tryz.underlying79 B5 lM hw1 RW rfl Ba _ vals.length vals rfl (T.o.own.alloc _) (Ya wr.heap.size) 1 1 [.slice ua un uc] rfl rfl (cell_one_new _ _ _) (by simp[Value.oneCell']) (by unfold maxLen;omega) ja (by simp;omega) ?_;intro v9 w9 i a z E;have ET:=la (vr.push T.o C.o ((za _ _).alloc (wa _) _) i a);have P:=la (((Q.o.trans (R.o.mono ja)).trans ((za _ _).alloc ja (.cells _ 33))).grown a (by simp;omega) (λb e=>TI T.o.own b e));clear i a z E);go_roundw;(case rel=>exact⟨k+1,_,ja,by go_num,by rw[C5.o,Pb];exact ET,P⟩);case measure=>simp[intOf];omega})};{(have zI:k=G.length:=ja);subst zI;have HR:=t;have Q:=r;clear t r hk hlt;go_wp2;go_ret;refine⟨_,rfl,(F.o.trans (Lk.o.mono ja)).trans (Q.o.mono ja),?_⟩;have h:=HR.o.A5;rw[Ub]at h;exact h})
end Go.Proofs.YtdipkbobalnilaaGreatDoor
