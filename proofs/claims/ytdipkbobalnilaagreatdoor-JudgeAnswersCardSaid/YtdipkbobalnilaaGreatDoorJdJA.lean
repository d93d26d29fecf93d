/- The walk of the divider's method parts. Bounds on the provisions. -/
import Derived.Test.YtdipkbobalnilaaGreatDoorAl
import Derived.Test.YtdipkbobalnilaaGreatDoorJdDA
import Derived.Test.YtdipkbobalnilaaGreatDoorJdQA
set_option maxRecDepth 100000
set_option maxHeartbeats 8000000
namespace Go.Proofs.YtdipkbobalnilaaGreatDoor
open Tryz
variable{j:Nat}{T:List Dn}{Z:Int}{E:TypeId}{M N:Oper}
section
open Go.RowKit
def th(ps:List Pv)(i:Nat):List Nat:=(List.range ps.length).filter λk=>match ps[k]? with|some p=>xi p.except (qj ps i)|none=>false
def rH(ps:List Pv)(i k:Nat):List Nat:=(List.range k).filter λk=>match ps[k]? with|some p=>xi p.except (qj ps i)|none=>false
theorem EN{ps:List Pv}{k:Nat}(h:k<ps.length):rH ps j (k+1)=rH ps j k++if xi ps[k].except (qj ps j)=true then[k]else[]:=by
 grind [rH,List.range_succ]
theorem SL(d:List Fa)(Zx:Nat->Zo->List Dn×Zo):∀(l:List Nat) (k:Nat) (r:List Dn×Zo),Pz d Zx (l++[k]) r=Pz d Zx [k] (Pz d Zx l r)
 | [],_,_=>rfl
 | x::l,k,r=>by exact SL d Zx l k _
theorem ZR:∀w,(zeroValue 55).run prog w=.ok (.agg #[Ua]) w:=Tryz.zeroValue55
theorem S8.key:KeyLaw (Value.int .i64) prog 3:=tE Tryz.underlying3
theorem Tz{W:Ca}{d:List Fa}{v:Ea}(h:bi W d Z T v):
  Db 34 #[v] W λr w'=>∃(a:Option Addr) (n c:Nat),r=.returned (.agg #[.slice a n c])/\Hid (bi w' d Z (Hd T) (.agg #[.slice a n c]))/\Hid (Da W.heap.size W w'):=by
 have k:∀T,(Hd T).length=T.length:=λT=>by grind [Hd]
 by_cases j:Z=0
 {obtain⟨e,b⟩:=h.dg j;refine(mz (Zl b) e).mono ?_;rintro r w' ⟨a,c,rfl,f,i⟩;exact⟨a,_,c,rfl,bi.ok f (Xh b).1,i⟩}
 {obtain⟨g,e,b⟩:=h.any;refine(mz e b).mono ?_;rintro r w' ⟨a,c,rfl,f,i⟩;exact⟨a,_,c,rfl,bi.err ⟨_,by grind,f⟩ j,i⟩}
variable {B A K : Nat} {d : List Fa} {ps : List Pv} {a0 a1 a2 : Option Addr} {k0 k1 n2 k2 : Nat}
def aec(B A K:Nat)(d:List Fa)(ps:List Pv)(a0 a1 a2:Option Addr)(k0 k1 n2 k2:Nat)(b:Nat->Nat)(f:Nat):Prop:=
 ∀(i:Nat) (st:Zo) (w:Ca),i<ps.length->b i<f->Ix B A K d ps a0 a1 a2 k0 k1 n2 k2 st w->
  Db 63 #[Ma A,pa i] w λr w'=>∃(a:Option Addr) (n c:Nat),r=.returned (.agg #[.slice a n c])/\Hid (Vj A K d ps a0 a1 a2 k0 k1 n2 k2 (Yf d (pd ps) (th ps) f i st).2 w w')/\Hid (bi w' d (Yf d (pd ps) (th ps) f i st).2.2 (Yf d (pd ps) (th ps) f i st).1 (.agg #[.slice a n c]))/\Hid ((Yf d (pd ps) (th ps) f i st).2.2=0->st.2=0)
theorem sH(d:List Fa)(f:Fo):(Nc d f).1.length<=1000000:=by
 grind [Nc,Zl,yi]
theorem Wj{d:List Fa}{e:Int}{a b:List Dn}(h:(uh d e a b).2=0):e=0:=(TL h).1
theorem Uz(W:Ca)(o a:Obj):Da W.heap.size W ((W.alloc o).alloc a):=((za _ _).alloc ja _).alloc Aa _
theorem Vj.Ey{st:Zo}{w W W':Ca}(h:Vj A K d ps a0 a1 a2 k0 k1 n2 k2 st w W)(hne:A≠K){v:Ea}(g:bi W d st.2 T v){l:List (Int×Ea)}(m:Wb (Value.int .i64) (λv:Ea=>v) W K l)(hd:∀j:Nat,(l.lookup (j:Int)).isSome=(st.1.lookup j).isSome)(z:∀k v,l.lookup k=some v->Ij W v)
  (s:st.2=0->∀(j:Nat) T v,st.1.lookup j=some T->l.lookup (j:Int)=some v->Zd W W.heap.size T v/\Qc d T) (o:Bq K W W') (n:Wb (Value.int .i64) (λv:Ea=>v) W' K (ins l (j:Int) v)):
  Vj A K d ps a0 a1 a2 k0 k1 n2 k2 (ins st.1 j T,st.2) w W'/\bi W' d st.2 T v:=by
 have b:=Te.wo o;have any:∀ {v},Ij W v->Ij W' v:=λ⟨T,q,r⟩=>⟨T,q,(r.Zw m b).mono b.size⟩
 refine⟨⟨h.step.trans (.MR b),λt=>(h.same t).trans b,(o.block A hne).trans h.box,_,n,λa=>?_,λk u c=>?_,λf a p u i c=>?_⟩,λf=>⟨((g.dg f).1.Zw m b).mono b.size,(g.dg f).2⟩,any g.any⟩
 ·grind [Jn,Qq]
 ·rw[Jn]at c
  split at c
  {cases c;exact any g.any}
  grind
 {rw[Jn]at c;rw[Qq]at i;by_cases e:a=j;{subst e;rw[Ga rfl]at c i;(cases c;cases i);exact⟨((g.dg f).1.Zw m b).mono b.size,(g.dg f).2⟩};{rw[if_neg ja]at c;rw[if_neg e]at i;obtain⟨x,y⟩:=s f a p u i c;exact⟨(x.Zw m b).mono b.size,y⟩}}
theorem cB(hn:ps.length<=1000)(hsz:∀p∈ps,p.cond.size<=1000000)(ρ:Nat->Nat)(fY:∀i k,i<ps.length->k∈th ps i->ρ k<ρ i):∀f,aec B A K d ps a0 a1 a2 k0 k1 n2 k2 ρ f:=by
  intro f
  induction f with
  | zero=>intro i st w _ h;exact absurd h ja
  | succ f IH=>
  intro i st w hi hr hS;have N:=Uz w (.cells #[Ua] 55) (.cells #[Ua] 55);have XW:=hS.below ((za _ w).alloc (wa _) (.cells #[Ua] 55));obtain⟨l,JI,Q,P,E⟩:=hS.Vf.map;have Yr:=af S8.key Tryz.underlying82 ZR (JI.alloc (.cells #[Ua] 55)) i;have x0:=XW.box.cell 0;have x1:=XW.box.cell 1;have x3:=XW.box.cell 3;have x4:=XW.box.cell 4;have r4:=(qb.new w 55 #[Ua]).cell 0;have hAl:=hS.X3;have T6:=hS.Vf.lt;have hBA:=hS.hA;have QV:=hS.hK;have hAK:=hS.ne;have J:=Q i;have HS:=la hS;have CI:=la IH;have HR:=la fY;have HHI:=la hr;clear IH fY XW hS hr;cases hl:l.lookup (i:Int)with
  | some v=>{rw[hl]at Yr J;obtain⟨g,hg⟩:∃g,st.1.lookup i=some g:=Option.isSome_iff_exists.1 J.symm;(have W:Yf d (pd ps) (th ps) (f+1) i st=(g,st):=by rw[Yf,hg]);rw[W];have hv:bi w d _ g v:=⟨λR=>E R i g v hg hl,P _ _ hl⟩;obtain⟨a,n,c,rfl⟩:=hv.shape;have HV:=la hv;clear JI Q P E hl hv J;go_enter func63,ntmps63;go_wp2;have hcs:=((qb.new w 55 #[.slice a n c]).alloc (.cells #[.slice a n c] 55)).cell 0;refine Fb (by simp[results,go_sem];try rfl) rfl ?_;have t:=Uz w (.cells #[.slice a n c] 55) (.cells #[.slice a n c] 55);exact⟨_,_,_,rfl,HS.o.refl t,HV.o.below t,la trivial⟩}
  | none=>
    rw[hl]at Yr J;have hg:st.1.lookup i=none:=by cases h:st.1.lookup i with|none=>rfl|some g=>rw[h]at J;cases J
    by_cases R:st.2=0
    . obtain⟨RR,GI⟩:∃RR,Nc d (pd ps i)=RR:=⟨_,rfl⟩
      obtain⟨XX,hXX⟩:∃XX,Pz d (Yf d (pd ps) (th ps) f) (th ps i) (RR.1,(st.1,RR.2))=XX:=⟨_,rfl⟩;have W:Yf d (pd ps) (th ps) (f+1) i st=(XX.1,(ins XX.2.1 i XX.1,XX.2.2)):=by rw[Yf,hg];rw[Ga R,GI,hXX]
      rw[W];have HXX:=la hXX;have lP:=la (λh=>(yi (d:=d) (f:=pd ps i) h).1);have HLN:=la (sH d (pd ps i));rw[GI]at lP HLN;obtain⟨T,V⟩:=RR;have e:=tH hi;have Y2:=hsz _ (Oa hi);have QP:=HS.o.below N;obtain⟨a1',k1',fK,_⟩:=Sa.shape HS.o.VO;cases fK
      obtain⟨b,off,hbo,Tn,ak,ck,ae,ce,C,hf,_,_⟩:=Sa.at HS.o.VO i hi;subst hbo;have e5:=C 5 _ rfl;have e6:=C 6 _ rfl;have e7:=C 7 _ rfl;have e8:=C 8 _ rfl;have e9:=C 9 _ rfl;have T8:=C 0 _ rfl;obtain⟨D,UL⟩:∃D,((w.alloc (.cells #[Ua] 55)).alloc (.cells #[Ua] 55))=D:=⟨_,rfl⟩;rw[UL]at N QP;have EZ:=la UL;have TY:Hid (qb D w.heap.size 55 #[Ua]):=by rw[<-UL];exact(qb.new w _ _).alloc _
      have aoz:w.heap.size+2<=D.heap.size:=by rw[<-UL];simp
      have MI:B<=w.heap.size:=by omega
      have OD:Hid (∀w',Da D.heap.size D w'->(w'.cell? (Ya A)=some (.slice a0 d.length k0)/\w'.cell? (Ja A 1)=some (.slice (fe b off) ps.length k1)/\w'.cell? (Ja b (off+i*23+5))=some (pa ps[i].cond.op)/\w'.cell? (Ja b (off+i*23+6))=some (.string ps[i].cond.name)/\w'.cell? (Ja b (off+i*23+7))=some (pa ps[i].cond.cmp)/\w'.cell? (Ja b (off+i*23+8))=some (pa ps[i].cond.n)/\w'.cell? (Ja b (off+i*23+9))=some (.slice ak ps[i].cond.kids.length ck))/\Hid (Da D.heap.size D w')):=by{intro w' t;have UQ:=(N.mono MI).trans (t.mono ja);(have k:=λo=>UQ.cell (p:=Ja b o) Tn);have hcb:=QP.box.below t;exact⟨⟨hcb.cell 0,hcb.cell 1,(k _).trans e5,(k _).trans e6,(k _).trans e7,(k _).trans e8,(k _).trans e9⟩,t⟩}
      have QZ:Hid (∀w',Hid (Da D.heap.size D w')->Db 62 #[.agg #[pa ps[i].cond.op,.string ps[i].cond.name,pa ps[i].cond.cmp,pa ps[i].cond.n,.slice ak ps[i].cond.kids.length ck],.agg #[.slice a0 d.length k0]] w' λe w''=>
          ∃(a:Option Addr) (k:Nat),e=.returned (.tuple #[.agg #[.slice a T.length k],pa V])/\Hid (Zd w'' w''.heap.size T (.agg #[.slice a T.length k]))/\Hid (Da w'.heap.size w' w'')/\Hid (Da D.heap.size D w'')):=by
        intro w' t;have UQ:=(N.mono MI).trans (t.o.mono ja);have hs:=UQ.size;have hS3:=QP.below t.o;have q:=us _ d _ _ w' B Y2 ja (Fo.In.below UQ _ _ hf) ⟨_,rfl,hS3.dom⟩ (λw'' h=>hS3.Cq w'' (h.mono ja));rw[<-e,GI,e]at q;refine q.mono ?_;rintro e w'' ⟨g,rfl,⟨u,rfl,h1⟩,h2⟩;obtain⟨a,k,rfl,_⟩:=Sa.shape h1;exact⟨a,k,rfl,⟨_,rfl,h1⟩,h2,t.o.trans (h2.mono t.o.size)⟩
      have U8:Hid (w.cell? (Ja b (off+i*23))=some (.string (qj ps i))):=by rw[Mk hi];exact T8
      have WW:=la QP;have OA:=la N;have Kw:0<=(i:Int):=Xb _;have B5:i<(ps.length:Int):=by omega
      clear JI Q P E hl J hg W hXX GI hf C e5 e6 e7 e8 e9 T8 N QP UL Y2 e;generalize ps[i].cond=fo at*
      go_enter func63,ntmps63;go_upto_region 4 with(fail);rw[EZ.o]
      go_cut[7,8] (λs7 s8 wx=>∃(X:Nat) (a:Option Addr) (k:Nat),s7=Ma X/\s8=pa V/\Hid (zF wx X T a k)/\Hid (Da D.heap.size D wx)/\Hid (D.heap.size<=X))
      case first=>
        refine wp_region_held_drew (S:=λw'=>Hid _) Ha (la ((za D.heap.size D).drew)) (λMb=>?_);refine tp 0 ?_;refine tp 1 ?_;refine tp 2 ?_;refine tp 3 ?_;refine tk 4 ?v4 ?y4 ?_
        case y4=>(intro w9 Be;obtain⟨⟨y0,y1,y2,y3,y4,y5,y6⟩, -⟩:=OD.o w9 Be.o;go_simp;try with_reducible rfl)
        refine tp 5 ?_;refine tp 6 ?_;refine tp 7 ?_;refine tk 8 ?v8 ?y8 ?_
        case y8=>(intro w9 Be;obtain⟨⟨y0,y1,y2,y3,y4,y5,y6⟩, -⟩:=OD.o w9 Be.o;go_simp;try with_reducible rfl)
        refine tp 9 ?_;refine tp 10 ?_;refine tp 11 ?_;refine tp 12 ?_;refine tk 13 ?v13 ?j5 ?_
        case j5=>(intro w9 Be;obtain⟨⟨y0,y1,y2,y3,y4,y5,y6⟩, -⟩:=OD.o w9 Be.o;go_simp;try with_reducible rfl)
        refine tt 14 18 (λK m=>?_) (λK m=>?_)
        rotate_left
        (go_simp;(refine m.o _ _ ?_ (λMb=>?_)); · exact yj ja)
        (clear m;have aS:Hid (qb (D.drew.alloc (.cells #[Ua] 55)) D.heap.size _ _):=qb.new _ _ _;refine tr 14 (λK m=>?_))
        all_goals
          go_simp
          (go_at_call 62;refine(QZ.o _ La).mono ?_;rintro e w8 ⟨a8,k8,rfl,HD8,UX,Wu⟩)
          (refine m.o _ _ ?_ (λMb=>?_))
          . exact Wu
          clear m;refine tp 15 ?_;refine tp 16 ?_;refine tp 17 ?_
          first
            | (have HN:=la (aS.o.below UX.o)
               have n0:=HN.o.cell 0
               have g0:=HN.o.frozen 0)
            | (refine tr 18 (λK m=>?_)
               go_simp
               (refine m.o _ _ ?_ (λMb=>?_))
               . exact yj Wu
               clear m)
          refine tr 19 (λK m=>?_)
          go_simp
          (refine m.o _ _ ?_ (λMb=>?_))
          . first
              | exact Ik Wu (la (wa _))
              | exact yj Wu
          clear m;refine tp 20 ?_;refine wpAnyH_done Ha ?_ _;go_wp2;go_meet
          first
            | exact⟨_,_,_,rfl,rfl,Yn HN HD8,Mb,la (wa _)⟩
            | exact⟨_,_,_,rfl,rfl,Xk HD8,Mb,la Wu.o.size⟩
      case rest=>
        obtain⟨X,a,k,rfl,rfl,HV,HB,iU⟩:=hcut;rename Ca=>wx
        have H:=la (WW.o.below HB.o);have hsz:=HB.o.size;have hXx:=iU.o;have Ou:=H.o.box;have y1:=Ou.cell 3;have yf:=Ou.frozen 3;have hKs:=H.o.Vf.lt;have FN:=la (((HS.o.refl OA.o).more HB.o).trans (H.o.put R V) (λ_=>R));have KX:Hid (qb (wx.setCell _ (pa V)) X 55 _):=(heap_setCell_other wx (Ja A 3) X _ (by show X≠A;omega)).trans HV.o.box;have KR:Hid (qb (wx.setCell _ (pa V)) _ 55 _):=(heap_setCell_other wx (Ja A 3) _ _ (by show w.heap.size≠A;omega)).trans (TY.o.below HB.o)
        have HE:Hid (bi (wx.setCell (Ja A 3) (pa V)) d V T (.agg #[.slice a T.length k])):=by
          by_cases h0:V=0
          . subst h0
            have q:bi wx d st.2 T _:=bi.ok HV.o.dg (lP.o rfl);exact q.step H.o (H.o.put R 0) (λ_=>R)
          . refine bi.err ?_ h0
            have q:Ij wx _:=⟨T,HLN.o,HV.o.dg⟩;exact q.PL (bu ja (H.o.put R V).box H.o.Vf (H.o.put R V).step)
        go_upto_region 6 with(fail);clear y1 yf Ou x0 x1 x3 x4 r4;generalize World.setCell wx _ _=WZ at*
        have x1:=FN.o.box.cell 1;go_upto_region 7 with(fail);generalize T.length=TN at*
        go_loopw [58] (λiv wr=>∃(k:Nat) (r:List Dn×Zo) (a:Option Addr) (n c:Nat),k<=ps.length/\iv=pa k/\Hid (Pz d (Yf d (pd ps) (th ps) f) (rH ps i k) (T,(st.1,V))=r)/\Hid (Vj A K d ps a0 (fe b off) a2 k0 k1 n2 k2 r.2 w wr)/\Hid (qb wr X 55 #[.slice a n c])/\Hid (qb wr w.heap.size 55 #[Ua])/\Hid (bi wr d r.2.2 r.1 (.agg #[.slice a n c]))) (λiv _=>ps.length-(intOf iv).toNat)
        case atStart=>exact⟨0,_,a,TN,k,ja,rfl,rfl,FN,KX,KR,HE⟩
        case round=>
          obtain⟨j,r,xa,xn,xc,hj,rfl,HRj,M,U,HRr,HEr⟩:=hrel;have RV:=la (HS.o.step M.o);have mF:=M.o.step.size;have hXl:=U.o.lt;clear FN KX KR HE x1;by_cases hlt:j<ps.length
          . obtain⟨b2,aoA,aee,aoB,ak2,ck2,ae,ce,C,_,hex,_⟩:=Sa.at RV.o.VO j hlt
            cases aee
            have j4:=la (λst8 w8 hS8 (F:xi _ _=true)=>CI.o j st8 w8 hlt (by
              have:=HR.o i j hi (List.mem_filter.2 ⟨List.mem_range.2 hlt,by rw[Xa hlt];exact F⟩)
              have:=HHI.o
              omega) hS8)
            have SV:Hid (rH ps i _=rH ps i j++if xi _ _=true then[j]else[]):=EN hlt;have V8:=((M.o.step.below MI hBA QV).cell Tn).trans U8.o;generalize ps[j]=p at*
            have KO:=la C;have NI:Hid (∀W',Da wr.heap.size wr W'->Db 29 #[.slice ae p.except.length ce,.string (qj ps i)] W' λe w'=>e=.returned (.bool (p.except.any λx=>Lh (qj ps i) x))/\W'=w'):=λW' t=>yg _ (qj ps i) _ W' wr.heap.size (Sa.below (Ad.kept _) t (Sa.mono (Ad.mono _) ja hex))
            have F:(p.except.any λx=>Lh (qj ps i) x)=xi p.except (qj ps i):=by{unfold xi;congr 1;funext x;unfold Lh;rw[Rc,Pc,Pc];exact eq_comm}
            rw[F]at NI;generalize qj ps i=q at*
            clear C hex F;go_upto_region 9 with(first|((with_reducible show wpList _ _ _ (⟨_,Op.load 38 (.tmp 61),_,_,_,_⟩::_) _ _);refine Lc rfl (.tmp 61) rfl rfl p ak2 ck2 ae ce KO.o Tryz.underlying38 rfl Pv.Dg ?_)|(((with_reducible show wpList _ _ _ (⟨_,Op.store 38 (.tmp 10) (.tmp 62),_,_,_,_⟩::_) _ _);refine Vc rfl (.tmp 10) (.tmp 62) rfl p ak2 ck2 ae ce rfl rfl ?Sj Pv.Dg ?_;(case Sj=>rfl);intro W1 km Un Pu Mu;have FD:=Pu 0 _ rfl;have zP:=Pu 10 _ rfl;have fP:=la Pu;clear Pu)));have FO:=la (RV.o.below km);have O:Hid (∀w',Da W1.heap.size W1 w'->w'.cell? (Ja wr.heap.size 10)=some (.slice ae p.except.length ce)/\w'.cell? (Ja A 1)=some (.slice (fe b off) ps.length k1)/\w'.cell? (Ja b (off+i*23))=some (.string q)):=λw' t=>⟨(t.cell (p:=Ja _ 10) (by show wr.heap.size<_;omega)).trans zP,(FO.o.box.below t).cell 1,(t.cell (by show b<_;omega)).trans ((km.cell (by show b<_;omega)).trans V8)⟩
            have vp:=la km;clear FD zP km V8 Mu fP;simp only[Act.put]
            go_cut[74] (λs74 wx=>s74=.bool (xi p.except q)/\Hid (Da W1.heap.size W1 wx))
            case first=>
              refine wp_region_held_drew (S:=λw'=>Hid _) Ha (la ((za W1.heap.size W1).drew)) (λMb=>?_);refine tp 0 ?_;refine tk 1 ?v1 ?y1 ?_
              case y1=>(intro w9 Be;obtain⟨y0,y1,y2⟩:=O.o w9 Be.o;go_simp;try with_reducible rfl)
              refine tp 2 ?_;refine tp 3 ?_;refine tp 4 ?_;refine tp 5 ?_;refine tk 6 ?v6 ?y6 ?_
              case y6=>(intro w9 Be;obtain⟨y0,y1,y2⟩:=O.o w9 Be.o;go_simp;try with_reducible rfl)
              refine tp 7 ?_;refine tp 8 ?_;refine tp 9 ?_;refine tk 10 ?v10 ?RU ?_
              case RU=>(intro w9 Be;obtain⟨y0,y1,y2⟩:=O.o w9 Be.o;go_simp;try with_reducible rfl)
              refine tr 11 (λK m=>?_)
              go_simp
              (go_at_call 29;refine(NI.o _ (vp.o.trans (Mb.o.mono ja))).mono ?_;rintro e w8 ⟨rfl,rfl⟩)
              (refine m.o _ _ ?_ (λMb=>?_))
              . exact Mb
              clear m;refine wpAnyH_done Ha ?_ _;go_wp2;go_meet;exact⟨rfl,Mb⟩
            case rest=>
              obtain⟨rfl,B_⟩:=hcut;rename Ca=>wC
              have z:Hid _:=vp.o.trans (B_.o.mono vp.o.size);have UZ:=la (RV.o.below z.o);have hsC:=z.o.size;clear B_ FO O vp Un;cases F:xi p.except q with
              | false=>{rw[F]at SV;(have HF:Hid (Pz d (Yf d (pd ps) (th ps) f) (rH ps i (j+1)) (T,(st.1,V))=r):=by show _=_;rw[SV.o];simpa using HRj.o);go_wp2;go_roundw;(case rel=>exact⟨_,r,xa,xn,xc,ja,by go_num,HF,la (M.o.more z.o),la (U.o.below z.o),la (HRr.o.below z.o),la (HEr.o.below z.o)⟩);case measure=>simp[intOf];omega}
              | true=>
                rw[F]at SV;have VZ:=la (j4.o r.2 wC UZ.o F)
                have HF:Hid (Pz d (Yf d (pd ps) (th ps) f) (rH ps i (j+1)) (T,(st.1,V))=Pz d (Yf d (pd ps) (th ps) f) [j] r):=by{show _=_;rw[SV.o,Ga rfl,SL,HRj.o]}
                obtain⟨AJ,XZ⟩:∃AJ,Yf d (pd ps) (th ps) f j r.2=AJ:=⟨_,rfl⟩;have BT:Pz d (Yf d (pd ps) (th ps) f) [j] r=((uh d AJ.2.2 r.1 (Hd AJ.1)).1,(AJ.2.1,(uh d AJ.2.2 r.1 (Hd AJ.1)).2)):=by rw[<-XZ];rfl
                rw[BT]at HF;rw[XZ]at VZ;clear F SV BT XZ j4 NI;go_upto_region 11 with(go_at_call 63;refine VZ.o.mono ?_;rintro e w8 ⟨W,wK,Y,rfl,L,X8,Z8⟩);obtain⟨H0,m8,e8⟩:=AJ;have y:Da _ w8 (w8.alloc (.cells #[.slice W wK Y] 55)):=(za _ _).alloc (wa _) _;have h8s:=L.o.step.size;have KH:=qb.new w8 55 #[.slice W wK Y];have hHW:w8.heap.size<(w8.alloc (.cells #[.slice W wK Y] 55)).heap.size:=by simp
                obtain⟨s,bS⟩:∃s,w8.alloc (.cells #[.slice W wK Y] 55)=s:=⟨_,rfl⟩;rw[bS]at y KH hHW⊢;have GO:=la ((UZ.o.step L.o).below y);have HKH:=la KH;have b9:Hid (qb s X 55 _):=(L.o.step.Pd (U.o.below z.o) ja ja).below y;have j9:Hid (qb s _ 55 _):=(L.o.step.Pd (HRr.o.below z.o) ja ja).below y;have aeh:=la (X8.o.below y);have HEX:Hid (bi s d e8 r.1 _):=((HEr.o.below z.o).step UZ.o L.o Z8.o).below y;have kU:=la (((M.o.more z.o).trans L.o Z8.o).more y);have o9:Hid (∀w',Ff A K s w'->w'.cell? _=some (.slice xa xn xc)/\w'.cell? _=some (.slice W wK Y)):=λw' t=>⟨(t.Pd b9.o ja ja).cell 0,(t.Pd HKH.o ja ja).cell 0⟩
                have HNT:Hid (∀w',Da s.heap.size s w'->Db 34 #[.agg #[.slice W wK Y]] w' λr w''=>∃(a:Option Addr) (n c:Nat),r=.returned (.agg #[.slice a n c])/\Hid (bi w'' d e8 (Hd H0) (.agg #[.slice a n c]))/\Hid (Da s.heap.size s w'')):=λw' t=>(Tz (aeh.o.below t)).mono λr w'' ⟨a,n,c,h1,h2,h3⟩=>⟨a,n,c,h1,h2,t.trans (h3.o.mono t.size)⟩
                have cS:Hid (∀w' (na:Option Addr) (nn nc:Nat),Da s.heap.size s w'->bi w' d e8 (Hd H0) (.agg #[.slice na nn nc])->Db 35 #[Ma A,.agg #[.slice xa xn xc],.agg #[.slice na nn nc]] w' λr' w''=>∃(a:Option Addr) (n c:Nat),r'=.returned (.agg #[.slice a n c])/\Hid (Vj A K d ps a0 (fe b off) a2 k0 k1 n2 k2 (m8,(uh d e8 r.1 (Hd H0)).2) s w'')/\Hid (bi w'' d (uh d e8 r.1 (Hd H0)).2 (uh d e8 r.1 (Hd H0)).1 (.agg #[.slice a n c]))):=by{intro w' na nn nc t hE;refine(Nv (st:=(m8,e8)) (GO.o.below t) (HEX.o.below t) hE).mono ?_;rintro r' w'' ⟨a,n,c,rfl,h1,h2⟩;exact⟨a,n,c,rfl,(GO.o.refl t).trans h1 (λh=>Wj h),h2⟩}
                have HZE:=la (λh=>Wj (d:=d) (e:=e8) (a:=r.1) (b:=Hd H0) h);generalize uh d e8 r.1 _=AR at*
                clear y KH bS VZ X8 L U HRr HEr;obtain⟨y1,y2⟩:=o9.o _ (Ff.jc (za _ s).drew);refine wp_region_held_drew (S:=λw'=>Hid _) Ha (la (kU.o.step.trans (Ff.jc (za _ s).drew))) (λMb=>?_);refine tp 0 ?_;refine tt 1 2 (λK m=>?_) (λK m=>?_)
                rotate_left
                (go_simp;(refine m.o _ _ ?_ (λMb=>?_)); · exact Mb)
                (clear m;refine tt 1 3 (λK m=>?_) (λK m=>?_))
                (go_simp;(refine m.o _ _ ?_ (λMb=>?_)); · exact Mb)
                (clear m;refine tr 3 (λK m=>?_))
                rotate_left
                have aS:0=0:=rfl
                rotate_left
                (go_simp;(refine m.o _ _ ?_ (λMb=>?_)); · exact Mb)
                (clear m;refine tr 2 (λK m=>?_))
                (go_simp;(refine m.o _ _ ?_ (λMb=>?_)); · exact Mb)
                (clear m;refine tr 3 (λK m=>?_))
                all_goals
                  go_simp
                  (go_at_call 34;refine(HNT.o _ (za _ s).drew).mono ?_;rintro e ZP ⟨na,nn,nc,rfl,aej,dB⟩)
                  (refine m.o _ _ ?_ (λMb=>?_))
                  . exact la (kU.o.step.trans (Ff.jc dB.o))
                  clear m
                  try
                    clear aS;have y1:=(o9.o _ (Ff.jc dB.o)).1;refine tr 1 (λK m=>?_)
                    go_simp
                    (refine m.o _ _ ?_ (λMb=>?_))
                    . exact Mb
                    clear m
                  refine tr 4 (λK m=>?_)
                  go_simp
                  (go_at_call 35;refine(cS.o _ _ _ _ dB.o aej.o).mono ?_;rintro e A4 ⟨ya,yn,yc,rfl,G,aek⟩)
                  (refine m.o _ _ ?_ (λMb=>?_))
                  . exact la (kU.o.step.trans G.o.step)
                  clear m;have I:Hid (qb A4 X 55 _):=G.o.step.Pd b9.o ja ja;have uH:Hid (qb A4 _ 55 _):=G.o.step.Pd j9.o ja ja;have cz:=I.o.cell 0;have fz:=I.o.frozen 0;refine tr 5 (λK m=>?_)
                  go_simp
                  (refine m.o _ _ ?_ (λMb=>?_))
                  . exact la ((kU.o.step.trans G.o.step).put ja 0 _)
                  clear m;refine wpAnyH_done Ha ?_ _;have WO:=la ((kU.o.trans G.o HZE.o).var I.o ja ja ja (.slice ya yn yc));have HEF:=la (aek.o.set I.o (.slice ya yn yc));have HXF:=la (I.o.set 0 (.slice ya yn yc));have rS:Hid (qb (A4.setCell _ (.slice ya yn yc)) _ 55 _):=(heap_setCell_other A4 (Ya X) _ _ (by show w.heap.size≠X;omega)).trans uH.o;have HF:Hid (Pz d _ _ _=(AR.1,(m8,AR.2))):=HF;clear cz fz;generalize A4.setCell _ _=WF at*
                  go_wp2;go_roundw
                  case rel=>exact⟨_,_,ya,yn,yc,ja,by go_num,HF,WO,HXF,rS,HEF⟩
                  case measure=>simp[intOf];omega
          . obtain rfl:j=ps.length:=by omega
            obtain rfl:XX=r:=HXX.o.symm.trans HRj.o;have Z:Da wr.heap.size wr _:=(za _ _).drew;obtain⟨l,hm,q1,q2,q3⟩:=(M.o.more Z).Vf.map;obtain⟨Wm,hrun,O5,hu⟩:=run_store S8.key Tryz.underlying82 hm i (.agg #[.slice xa xn xc]);have HL:=la ((M.o.more Z).Ey hAK (HEr.o.below Z) hm q1 q2 q3 hu O5);have KX:Hid (qb Wm X 55 _):=(hu.block X (by have:=hm.lt;omega)).trans (U.o.below Z);have KR:Hid (qb Wm _ 55 _):=(hu.block _ ja).trans (HRr.o.below Z);have x4:=RV.o.box.cell 4;have c0:=U.o.cell 0;have d0:=KX.o.cell 0;have d1:=KR.o.cell 0;have d2:=KR.o.frozen 0;have HE0:=la R;clear hm O5 hu q1 q2 q3 Z R CI HR HRj HXX;go_upto_region 13 with(fail)
            go_region
            generalize wr.drew=wd at*
            go_wp2;have hcs:=(KR.o.set 0 (.slice xa xn xc)).cell 0;refine Fb (by simp[results,go_sem,hcs];try rfl) rfl ?_;have h1:=HL.o.1.var KR.o ja ja ja (.slice xa xn xc);have h2:=HL.o.2.set KR.o (.slice xa xn xc);exact⟨xa,xn,xc,rfl,h1,h2,λ_=>HE0.o⟩
    . have e1:(st.2 !=0)=true:=by simpa using R
      have W:Yf d (pd ps) (th ps) (f+1) i st=([],st):=by rw[Yf,hg];rw[if_neg R]
      rw[W];clear JI Q P E hl J;go_enter func63,ntmps63;go_wp2;have hcs:=((qb.new w 55 #[Ua]).alloc (.cells #[Ua] 55)).cell 0;refine Fb (by simp[results,go_sem];try rfl) rfl ?_;exact⟨_,_,_,rfl,HS.o.refl N,bi.err (Ij.nil _) R,la trivial⟩
end
open Go.RowKit
theorem fB{w:Ca}{base size n:Nat}{h:TypeId}{i:TypeInfo}{v:Ea}{k:List Ea}(e:prog.underlying E=some (.slice j))(d:prog.info? j=some i)(a:w.ownsRow base j size v n k)(c:Nat):
  (Builtin.append_ #[E,E] h #[v,.slice none 0 c]).run prog w=.ok v w:=by
 rcases a.2 with⟨rfl,rfl⟩|⟨g,cap,f,rfl,_,_,b,_⟩
 {simp[Builtin.append_,run_underlying e,sizeOf,typeInfo,d,Builtin.lenOf,Builtin.firstCells]}
 {simp[Builtin.append_,run_underlying e,sizeOf,typeInfo,d,Builtin.lenOf,Builtin.firstCells,b,storeCells]}
theorem Pr{w:Ca}{base c:Nat}{ty:TypeId}{v:Ea}{l m:List Na}{g:Option Addr}(d:w.ownsRow base 9 1 v j (l.map Value.string))(q:m=[]\/∃b,g=some b/\∀a u,(m.map Value.string)[a]? =some u->w.cell? (b.add a)=some u)
  (hlen:j+m.length<=10000) (p:base<=w.heap.size):
  ∃e w',(Builtin.append_ #[33,33] ty #[v,.slice g m.length c]).run prog w=.ok e w'/\w'.ownsRow base 9 1 e (j+m.length) ((l++m).map Value.string)/\w.grownBy w' v.ownBlock:=by
 obtain⟨t,x,f,i,k,n,h⟩:=Ln
 have key:∀b,(∀a u,(m.map Value.string)[a]? =some u->w.cell? (b.add a)=some u)->∃e w',(Builtin.append_ #[33,33] ty #[v,.slice (some b) m.length c]).run prog w=.ok e w'/\w'.ownsRow base 9 1 e (j+m.length) ((l++m).map Value.string)/\w.grownBy w' v.ownBlock:=λb o=>by
  obtain⟨e,w',y,z,A,_,_⟩:=run_append_own_at w base 33 ty 9 t x 1 16 Tryz.underlying33 f k i h n Ba v j _ d b m.length c _ Aa o (λu r=>by obtain⟨s,_,rfl⟩:=List.mem_map.1 r;rfl) (by unfold maxLen;omega) ja p
  grind
 rcases q with rfl|⟨b,rfl,o⟩
 ·cases g with
  | some b=>simp_all
  | none=>exact⟨v,w,fB Tryz.underlying33 f d c,by grind,⟨rfl,rfl,rfl,ja,λ_ _ _=>rfl⟩⟩
 simp_all
theorem Nj{ops:Array Oper}{rest:List Oper}{o:Oper}{a:Act}{w:Ca}{Q:Exit->Act->Ca->Prop}(e:o.guard=none)(x y:Operand)(r:o.op=.call {callee:=.builtin .append,args:=#[x,y],argTypes:=#[33,33]})
  (base:Nat) (v:Ea) (l m:List Na) (n:Nat) (g:Option Addr) (c:Nat) (t:a.eval x=v) (z:a.eval y=.slice g m.length c) (b:w.ownsRow base 9 1 v n (l.map Value.string)) (q:m=[]\/∃f,g=some f/\∀j u,(m.map Value.string)[j]? =some u->w.cell? (f.add j)=some u) (hlen:n+m.length<=10000) (p:base<=w.heap.size)
  (k:∀d w',w'.ownsRow base 9 1 d (n+m.length) ((l++m).map Value.string)->w.grownBy w' v.ownBlock->wpList prog ops Q rest (a.put o.dst d) w'):wpList prog ops Q (o::rest) a w:=by
 refine wpList_plain e λK hK'=>?_
 obtain⟨d,w',s,h,i⟩:=Pr (ty:=o.type) (c:=c) b q hlen p;unfold Oper.wp execOp;simp only[r,resolve,invoke,builtin,Sem.run_bind,Sem.run_pure,Result.andThen_ok,Le,Eb,sd,t,z,s];exact hK' _ _ (k d w' h i)
theorem Sv{W:Ca}{B:Nat}{l:List Na}{c:Option Addr}(h:Sc W B l (.slice c l.length j)):l=[]\/∃b,c=some b/\∀a u,(l.map Value.string)[a]? =some u->W.cell? (b.add a)=some u:=by
 by_cases e:l=[]
 {exact .inl e}
 ·obtain⟨d,cap',g,_,_,f⟩:=h
  grind [Addr.add_mid,Ad]
theorem xK(l:List Na)(f:Option Addr)(cap:Nat)(w:Ca)(hlen:l.length<=1000)(h:Sc w w.heap.size l (.slice f l.length cap)):
  Db 65 #[.slice f l.length cap] w λe w'=>∃p,e=.returned p/\w'.ownsRow w.heap.size 9 1 p l.length (l.map Value.string)/\Da w.heap.size w w':=by
 have x:=λw=>Lib.run_eql_slice_nil w 33 9 f l.length cap 0 0 Tryz.underlying33
 have s:Hid ((w.alloc _).ownsRow _ 9 1 _ 0 (([]).map Value.string)):=⟨rfl,.inr ⟨_,0,#[],rfl,wa _,heap_alloc_new _ _,wa _,Lb _,rfl,rfl⟩⟩;have n:Da _ w (w.alloc (.cells #[] 9)):=(za _ w).alloc (wa _) _;have t:=la (Sv (Sa.below (Ad.kept _) n h));cases f with| none=>{have i:l=[]:=by{obtain⟨_,_,m,_,_,u⟩:=h;apply Classical.byContradiction;intro e;obtain⟨b,off,v,_⟩:=u e;simp only[Value.slice.injEq]at m;rw[v]at m;exact absurd m.1 Aa};have r:=la i;clear i h;go_enter func65,ntmps65;go_wp2;go_ret;have i:=r.o;subst i;exact⟨_,rfl,Ec _ _ _ _,za _ _⟩}| some a=>{clear h;go_enter func65,ntmps65;go_wp2_with (at_builtin;go_loud (refine Nj rfl _ _ rfl _ _ [] l 0 _ cap rfl rfl s.o t.o ja Aa ?_;intro y z d c;have j:Hid _:=n.grown c Aa (λg e=>by cases e;exact wa _);have k:=la d;clear d c));go_ret;have q:=k.o;rw[Vb,Tb]at q;exact⟨_,rfl,q,j.o⟩}
def IE(u:Ea):Prop:=∃a n c,u=.slice a n c
structure yK (b : Nat) (W W' : Ca) : Prop where
 sl:∀o u,W.cell? (Ja b o)=some u->IE u
 size:W.heap.size<=W'.heap.size
 ul:∀k,k<W.heap.size->k≠b->W'.heap[k]? =W.heap[k]?
section
variable {b : Nat} {W W' : Ca}
theorem yK.cell(h:yK b W W'){a o:Nat}{u:Ea}(c:W.cell? (Ja a o)=some u)(hne:a≠b):W'.cell? (Ja a o)=some u:=
 (World.cell?_of_block (h.ul a (Kb _ _ c) hne)).trans c
theorem Sa.imp{a:Type}{R:Cf a}{B:Nat}{l:List a}{v:Ea}(h:Sa R j W B l v)(f:∀x b off,R W B x b off->R W' B x b off):Sa R j W' B l v:=by
 obtain⟨c,cap,rfl,d,e,g⟩:=h;refine⟨c,cap,rfl,d,e,λhne=>?_⟩;obtain⟨b,off,rfl,hlt,k⟩:=g hne;exact⟨b,off,rfl,hlt,λi m=>f _ _ _ (k i m)⟩
theorem yK.one{c:Type}(h:yK b W W'){enc:c->Ea}(e:∀x,¬IE (enc x)){B:Nat}{l:List c}{v:Ea}(d:Sa (Ad enc) 1 W B l v):Sa (Ad enc) 1 W' B l v:=
 d.imp λx f off a=>h.cell a (by rintro rfl;exact e x (h.sl _ _ a))
theorem yK.strs(h:yK b W W'){l:List Na}{v:Ea}{B:Nat}(a:Sc W B l v):Sc W' B l v:=h.one (λx ⟨_,_,_,e⟩=>by cases e) a
theorem yK.dg(h:yK b W W'){l:List Dn}{v:Ea}{B:Nat}(a:Zd W B l v):Zd W' B l v:=by
 obtain⟨u,rfl,a⟩:=a;refine⟨u,rfl,a.imp ?_⟩;rintro x c off ⟨i,j,d,f,g,c3,k1,k2⟩;have hne:c≠b:=by rintro rfl;obtain⟨_,_,_,e⟩:=h.sl _ _ c3;cases e
 exact⟨i,j,h.cell d hne,h.cell f hne,h.cell g hne,h.cell c3 hne,h.one (λx ⟨_,_,_,e⟩=>by cases e) k1,h.one (λx ⟨_,_,_,e⟩=>by cases e) k2⟩
theorem yK.dge(h:yK b W W'){d:List Fa}{v:Ea}(hd:bi W d Z T v):bi W' d Z T v:=by
 refine⟨λa=>⟨(h.dg (hd.dg a).1).mono h.size,(hd.dg a).2⟩,?_⟩;obtain⟨g,c,e⟩:=hd.any;exact⟨g,c,(h.dg e).mono h.size⟩
end
structure Rn where
 p:Part
 a:Option Addr
 n:Nat
 c:Nat
 ia:Option Addr
 ic:Nat
def Rn.cells(x:Rn):List Ea:=[.slice x.a x.n x.c,.slice x.ia x.p.2.length x.ic]
structure Rn.Ok (W : Ca) (d : List Fa) (ps : List Pv) (e : Int) (x : Rn) : Prop where
 dg:bi W d e x.p.1 (.agg #[.slice x.a x.n x.c])
 ids:Sc W W.heap.size (x.p.2.map (qj ps)) (.slice x.ia (x.p.2.map (qj ps)).length x.ic)
theorem Rn.Ok.below{W W':Ca}{d:List Fa}{ps:List Pv}{e:Int}{x:Rn}(h:x.Ok W d ps e)(a:Da W.heap.size W W'):x.Ok W' d ps e:=⟨h.dg.below a,Sa.mono (Ad.mono _) a.size (Sa.below (Ad.kept _) a h.ids)⟩
theorem Rn.Ok.slb{b:Nat}{W W':Ca}{d:List Fa}{ps:List Pv}{x:Rn}(h:x.Ok W d ps Z)(a:yK b W W'):x.Ok W' d ps Z:=⟨a.dge h.dg,Sa.mono (Ad.mono _) a.size (a.strs h.ids)⟩
section
variable {B A K : Nat} {d : List Fa} {ps : List Pv} {a0 a1 a2 : Option Addr} {k0 k1 n2 k2 : Nat} {st KI : Zo} {W W' : Ca}
theorem VL(hs:Ix B A K d ps a0 a1 a2 k0 k1 n2 k2 st W)(k:Vj A K d ps a0 a1 a2 k0 k1 n2 k2 KI W W'){l:List Na}{v:Ea}(h:Sc W W.heap.size l v):Sc W' W'.heap.size l v:=by
 refine Sa.mono (Ad.mono _) k.step.size (h.imp ?_);intro x b off (a:W.cell? _=_);refine(k.step.cell (Kb _ _ a) ?_ ?_).trans a
 ·rintro rfl
  rw[hs.box.cell]at a
  match off with| 0|1|2|3|4=>simp at a| off+5=>simp at a
 {rintro rfl;exact hs.Vf.NR _ _ a}
theorem Rn.Ok.step(hs:Ix B A K d ps a0 a1 a2 k0 k1 n2 k2 st W)(k:Vj A K d ps a0 a1 a2 k0 k1 n2 k2 KI W W')(a:KI.2=0->st.2=0){x:Rn}(h:x.Ok W d ps st.2):x.Ok W' d ps KI.2:=⟨h.dg.step hs k a,VL hs k h.ids⟩
structure Eg (W : Ca) (base : Nat) (d : List Fa) (ps : List Pv) (e : Int) (v : Ea) (xs : List Rn) : Prop where
 own:W.ownsRow base 89 2 v xs.length (xs.flatMap Rn.cells)
 sl:∀g,v.ownBlock=some g->∀o u,W.cell? (Ja g o)=some u->IE u
 ok:∀x∈xs,x.Ok W d ps e
theorem Eg.nil(W:Ca)(base:Nat)(e:Int):Eg W base d ps e Ua []:=⟨Ec _ _ _ _,λg h=>(by cases h),λx h=>(by cases h)⟩
theorem Eg.block{base:Nat}{e:Int}{v:Ea}{c:List Rn}(h:Eg W base d ps Z v c)(j:∀g f,v.ownBlock=some g->qb W g 89 f->W'.heap[g]? =W.heap[g]?)(k:∀x∈c,x.Ok W' d ps e):Eg W' base d ps e v c:=by
 have q:∀g,v.ownBlock=some g->W'.heap[g]? =W.heap[g]? :=λg a=>by{(rcases h.own.2 with⟨rfl,_⟩|⟨l,cap,b,rfl,_,i,_⟩);{cases a};{(cases a);exact j _ b rfl i}}
 exact⟨lh h.own q,λg a o u m=>h.sl g a o u (by grind [World.cell?_of_block]),k⟩
theorem Eg.below{base:Nat}{e:Int}{v:Ea}{b:List Rn}(h:Eg W base d ps e v b)(a:Da W.heap.size W W'):Eg W' base d ps e v b:=h.block (λg _ _ c=>a.block g c.lt) λx f=>(h.ok x f).below a
theorem Eg.step{base:Nat}{v:Ea}{i:List Rn}(h:Eg W base d ps st.2 v i)(hs:Ix B A K d ps a0 a1 a2 k0 k1 n2 k2 st W)(k:Vj A K d ps a0 a1 a2 k0 k1 n2 k2 KI W W')(j:KI.2=0->st.2=0):Eg W' base d ps KI.2 v i:=by
 refine h.block (λg n _ b=>?_) λx m=>(h.ok x m).step hs k j
 refine k.step.ul g b.lt ?_ ?_
 {intro a;have q:=hs.box;rw[<-a]at q;have e:=Qe ((show W.heap[g]? =_ from b).symm.trans q);simp at e}
 {intro a;obtain⟨l,⟨o,c,f,_⟩,_⟩:=hs.Vf.map;rw[<-a]at f;have e:=Qe ((show W.heap[g]? =_ from b).symm.trans f);simp at e}
theorem YZ:∃i z,prog.info? 89=some i/\i.size=2/\i.zero=some z/\z.cells=#[Ua,Ua]/\i.bytes=48:=by
 have h:(prog.info? 89).map (λi=>(i.size,i.zero.map (·.cells),i.bytes))=some (2,some #[Ua,Ua],48):=by kernel_rfl
 grind [Option.map_eq_some_iff]
theorem dS:∀(a:List Rn) (i j:Nat) (b:i<a.length),j<2->(a.flatMap Rn.cells)[i*2+j]? =a[i].cells[j]?
 | x::a,0,j,_,c=>by{rw[Bc,te (by show _<2;omega)];simp}
 | x::a,i+1,j,b,c=>by{rw[Bc,Td (by show 2<=_;omega),show(i+1)*2+j-x.cells.length=i*2+j by show _-2=_;omega,dS a i j (by simpa using b) c];simp}
theorem iB(w:Ca)(base:Nat)(K:TypeId)(v:Ea)(l:List Rn)(h:Eg w base d ps Z v l)(x:Rn)(hx:x.Ok w d ps Z)(B:Addr)(c:Nat)(N:∀j u,x.cells[j]? =some u->w.cell? (B.add j)=some u)(X:l.length+1<=1000000)(t:base<=w.heap.size):
  ∃f w',(Builtin.append_ #[85,85] K #[v,.slice (some B) 1 c]).run prog w=.ok f w'/\Eg w' base d ps Z f (l++[x])/\w.grownBy w' v.ownBlock/\(∀b,v.ownBlock=some b->yK b w w'):=by
 obtain⟨i,z,M,C,T,I,E⟩:=YZ;have hm:1000064<=maxLen:=by unfold maxLen;omega
 have U:∀u∈x.cells,u.oneCell'=true:=by intro u hu;unfold Rn.cells at hu;simp at hu;rcases hu with rfl|rfl<;>rfl
 have A:∀u∈x.cells,IE u:=by intro u hu;unfold Rn.cells at hu;simp at hu;rcases hu with rfl|rfl<;>exact⟨_,_,_,rfl⟩
 have J:∀m,∀u∈(Builtin.zeroCells z.cells m).toList,IE u:=by{intro m u hu;rw[I]at hu;simp only[Builtin.zeroCells]at hu;simp at hu;obtain⟨a,_,rfl⟩:=hu;rcases(show a % 2=0\/a % 2=1 by omega)with q|q<;>simp only[q]<;>exact⟨_,_,_,rfl⟩}
 obtain⟨f,w',O,W,n,h4,h5⟩:=run_append_own_at w base 85 K 89 i z 2 48 Tryz.underlying85 M T C E (by rw[I];rfl) Ba v _ _ h.own B 1 c _ rfl N U ja ja t
 have Q:w'.ownsRow base 89 2 f (l++[x]).length ((l++[x]).flatMap Rn.cells):=by{rw[Qa,qd,Bc,List.flatMap_nil,ud];exact W}
 have hold:∀y∈l++[x],y.Ok w d ps Z:=λy hy=>by{(rcases List.mem_append.1 hy with hy|hy);{exact h.ok y hy};{rw[List.mem_singleton.1 hy];exact hx}}
 have H:∀b,v.ownBlock=some b->yK b w w':=λb E=>⟨h.sl b E,n.size,λk R hne=>n.block k R (by rw[E];simpa using hne)⟩
 refine⟨f,w',O,⟨Q,?_,?_⟩,n,H⟩
 ·have key:∀g P,f.ownBlock=some g->w'.heap[g]? =some (.cells P 89 (0,0))->(∀u∈P.toList,IE u)->∀g,f.ownBlock=some g->∀o u,w'.cell? (Ja g o)=some u->IE u:=by
   intro g P Y hcs D g' G o u hu;rw[Y]at G;cases G
   rw[qb.cell hcs]at hu;exact D u (Array.mem_toList_iff.2 (Array.mem_of_getElem? hu))
  have S:∀u∈l.flatMap Rn.cells,IE u:=by{intro u hu;obtain⟨y,_,hu⟩:=List.mem_flatMap.1 hu;unfold Rn.cells at hu;simp at hu;rcases hu with rfl|rfl<;>exact⟨_,_,_,rfl⟩}
  rcases h.own.2 with⟨rfl,h0⟩|⟨L,cap,r,rfl,tS,s,k1,k2,k3,k4⟩
  {have e:=run_append_nil w 85 K 89 i z Tryz.underlying85 M T B 1 c _ (by rw[C];rfl) N Ba Ba ja;rw[O]at e;(obtain⟨rfl,rfl⟩:f=_/\w'=_:=by injection e with a b;exact⟨a,b⟩);(refine key _ _ rfl (heap_alloc_new _ _) λu hu=>?_);rw[Array.toList_append]at hu;(rcases List.mem_append.1 hu with hu|hu);{exact A u hu};{exact J _ u hu}}
  {by_cases hroom:l.length+1<=cap;{have e:=run_append_room w 85 K 89 i Tryz.underlying85 M L _ cap r s B 1 c _ (by rw[C];rfl) N U hroom (by rw[C,k3];show l.length*2+2<=_;omega);rw[O]at e;(obtain⟨rfl,rfl⟩:f=_/\w'=_:=by injection e with a b;exact⟨a,b⟩);(have p:∀u∈r.toList,IE u:=λu hu=>by{obtain⟨o,ho,rfl⟩:=Zc hu;exact h.sl L rfl o _ (by rw[qb.cell s, <-Qf,Xa])});(refine key _ _ rfl (setRow_heap w L r _ 89 _ s) λu hu=>?_);(rcases List.mem_append.1 hu with hu|hu);{(rcases List.mem_append.1 hu with hu|hu);{exact p u (List.mem_of_mem_take hu)};{exact A u hu}};{exact p u (List.mem_of_mem_drop hu)}};{have F:Builtin.nextslicecap (l.length+1) cap*i.bytes<=281474976710656:=growslice_fits ja (by rw[E];omega);have e:=run_append_grow w 85 K 89 i z Tryz.underlying85 M T _ _ cap _ (by rw[C];exact h.own.1) (h.own.cells (g:=L) rfl) B 1 c _ (by rw[C];rfl) N ja ja F;rw[O]at e;(obtain⟨rfl,rfl⟩:f=_/\w'=_:=by injection e with a b;exact⟨a,b⟩);(refine key _ _ rfl (heap_alloc_new _ _) λu hu=>?_);rw[Array.toList_append,Array.toList_append]at hu;(rcases List.mem_append.1 hu with hu|hu);{(rcases List.mem_append.1 hu with hu|hu);{exact S u hu};{exact A u hu}};{exact J _ u hu}}}
 {intro y hy;cases V:v.ownBlock with| some b=>exact(hold y hy).slb (H b V)| none=>exact(hold y hy).below ⟨n.os,n.tape,n.output,n.size,λk R=>n.block k R (by rw[V];simp)⟩}
end
section
section
variable {P : Program} {ops : Array Oper} {Q : Exit -> Act -> Ca -> Prop} {md : Region.Mode} {S : Ca -> Prop} {o : Oper} {fuel : Nat} {l l' : Array Bool} {a : Act} {w : Ca}
theorem t3(i j k:Nat){e f:Array Bool}(h:∀b:Act->Ca->Prop,Shut (∀a w,S w->(S w->wpAnyH P md ops Q S fuel l' a w)->b a w)->if Region.wanted o (yielded ops a.tmps)=true then Oper.wp P o a w b Q else b (a.put o.dst undef) w)
  (g:∀b:Act->Ca->Prop,Shut (∀a w,S w->(S w->wpAnyH P md ops Q S fuel e a w)->b a w)->if Region.wanted M (yielded ops a.tmps)=true then Oper.wp P M a w b Q else b (a.put M.dst undef) w)
  (m:∀b:Act->Ca->Prop,Shut (∀a w,S w->(S w->wpAnyH P md ops Q S fuel f a w)->b a w)->if Region.wanted N (yielded ops a.tmps)=true then Oper.wp P N a w b Q else b (a.put N.dst undef) w)
  (n:ops[i]? =some o:=by simp only[Hc,Dc,pc];rfl) (p:ops[j]? =some M:=by simp only[Hc,Dc,pc];rfl) (q:ops[k]? =some N:=by simp only[Hc,Dc,pc];rfl) (r:l.setIfInBounds i true=l':=by(try simp only[sA,sB,sC]);rfl) (c:l.setIfInBounds j true=e:=by(try simp only[sA,sB,sC]);rfl) (d:l.setIfInBounds k true=f:=by(try simp only[sA,sB,sC]);rfl) (s:Region.ready md ops l=[i,j,k]:=by kernel_rfl):wpAnyH P md ops Q S (fuel+1) l a w:=
 wpAnyH_ready s Aa (AllReadyH.cons n (r▸h) (AllReadyH.cons p (c▸g) (AllReadyH.cons q (d▸m) AllReadyH.nil)))
end
structure Vr (W wc : Ca) (b : Nat) (v : Ea) : Prop where
 box:qb wc b 55 #[v]
 ge:W.heap.size<=b
variable {A K : Nat} {d : List Fa} {ps : List Pv} {a0 a1 a2 : Option Addr} {k0 k1 n2 k2 : Nat} {st : Zo} {W wc w9 : Ca} {b : Nat} {v : Ea}
theorem Vr.below(h:Hid (Vr W wc b v))(a:Hid (Da wc.heap.size wc w9)):Hid (Vr W w9 b v):=⟨h.o.box.below a.o,h.o.ge⟩
theorem Vr.Hj(h:Hid (Vr W wc b v))(hs:Ff A K wc w9)(a:A<W.heap.size)(c:K<W.heap.size):Hid (Vr W w9 b v):=
 ⟨hs.Pd h.o.box (by have:=h.o.ge;omega) (by have:=h.o.ge;omega),h.o.ge⟩
theorem ll{Kp X:Act->Ca->Prop}{a:Act}(e:Shut (∀a w,Hid (Ff A K W w)->(Hid (Ff A K W w)->X a w)->Kp a w))(b:Hid (Vj A K d ps a0 a1 a2 k0 k1 n2 k2 st W wc))
  (h:∀w9,Hid (Vj A K d ps a0 a1 a2 k0 k1 n2 k2 st W w9)->Hid (Vr W w9 wc.heap.size Ua)->Hid (Da wc.heap.size wc w9)->Hid (Ff A K W w9)->X a w9):Kp a (wc.alloc (.cells #[Ua] 55)):=by
 have c:Da _ wc (wc.alloc (.cells #[Ua] 55)):=(za _ _).alloc (wa _) _;exact e.o _ _ (b.o.more c).step (h _ (b.o.more c) ⟨qb.new _ _ _,b.o.step.size⟩ c)
theorem aac{Kp X:Act->Ca->Prop}{a:Act}{u1:Option Addr}{u3:Nat}(l:Shut (∀a w,Hid (Ff A K W w)->(Hid (Ff A K W w)->X a w)->Kp a w))(k:Hid (Vj A K d ps a0 a1 a2 k0 k1 n2 k2 st W wc))(c:Hid (Vr W wc b (.slice u1 j u3)))(m:A<W.heap.size)(n:K<W.heap.size)
  (h:∀w9,Hid (Vj A K d ps a0 a1 a2 k0 k1 n2 k2 st W w9)->Hid (Vr W w9 b v)->(∀f g,f≠b->Hid (Vr W wc f g)->Hid (Vr W w9 f g))->(∀e t u,Hid (bi wc d e t u)->Hid (bi w9 d e t u))->Hid (Ff A K W w9)->X a w9):Kp a (wc.setCell (Ya b) v):=by
 have q:=k.o.var c.o.box c.o.ge (by have:=c.o.ge;omega) (by have:=c.o.ge;omega) v;exact l.o _ _ q.step (h _ q ⟨c.o.box.set 0 v,c.o.ge⟩ (λf g hne i=>⟨(heap_setCell_other wc _ f v hne).trans i.o.box,i.o.ge⟩) λe t u hd=>hd.o.set c.o.box v)
section
variable {Kp X : Act -> Ca -> Prop} {S : Ca -> Prop} {a : Act} {wc : Ca}
theorem Sz{b:Array Ea}(d:Shut (∀a w,S w->(S w->X a w)->Kp a w))(e:∀w9,Hid (Da wc.heap.size wc w9)->S w9)
  (h:∀w9,Hid (Da wc.heap.size wc w9)->Hid (qb w9 wc.heap.size E b)->S w9->X a w9):Kp a (wc.alloc (.cells b E)):=by
 have c:Da _ wc (wc.alloc (.cells b E)):=(za _ _).alloc (wa _) _;exact d.o _ _ (e _ c) (h _ c (qb.new _ _ _))
end
theorem ny{w:Ca}{b:Nat}{a:Array Ea}(h:qb w b E a):∀j u,a[j]? =some u->w.cell? ((Ya b:Addr).add j)=some u:=λj u c=>by
 rw[Addr.add_mid,Vb,h.cell];exact c
theorem Eg.mono{w:Ca}{B:Nat}{v:Ea}{a:List Rn}(h:Eg w B d ps Z v a)(b:j<=B):Eg w j d ps Z v a:=⟨Wp h.own b,h.sl,h.ok⟩
def Gr(base:Nat)(o:Option Nat)(w w':Ca):Prop:=w.grownBy w' o/\base<=w.heap.size/\∀b,o=some b->base<=b/\yK b w w'/\∃a,qb w b 89 a
section
variable {base : Nat} {o : Option Nat} {w w' : Ca}
theorem Gr.mm(h:Gr base o w w'):Da base w w':=by
 obtain⟨a,c,d⟩:=h;exact(za base w).grown a c λb e=>(d b e).1
theorem Gr.or(h:Gr base o w w'):Da w.heap.size w w'\/∃b,yK b w w'/\(∃c,qb w b 89 c)/\w.grownBy w' (some b):=by
 obtain⟨a,e,f⟩:=h;cases o with| none=>exact .inl ⟨a.os,a.tape,a.output,a.size,λk d=>a.block k d Aa⟩| some b=>grind
theorem Gr.dg(h:Gr base o w w'){l:List Dn}{v:Ea}(a:Zd w w.heap.size l v):Zd w' w'.heap.size l v:=by
 rcases h.or with q|⟨b,q,_,_⟩
 {exact(a.below q).mono q.size}
 {exact(q.dg a).mono q.size}
theorem Gr.dge(h:Gr base o w w'){e:Int}{t:List Dn}{v:Ea}(hd:bi w d e t v):bi w' d e t v:=by
 rcases h.or with q|⟨b,q,_,_⟩
 {exact hd.below q}
 {exact q.dge hd}
theorem Gr.strs(h:Gr base o w w'){l:List Na}{v:Ea}(a:Sc w w.heap.size l v):Sc w' w'.heap.size l v:=by
 rcases h.or with q|⟨b,q,_,_⟩
 {exact Sa.mono (Ad.mono _) q.size (Sa.below (Ad.kept _) q a)}
 {exact Sa.mono (Ad.mono _) q.size (q.strs a)}
theorem Gr.Pd(h:Gr base o w w'){b:Nat}{c:Array Ea}(a:qb w b E c)(i:E≠89):qb w' b E c:=by
 rcases h.or with q|⟨g,_,⟨d,f⟩,q⟩
 {exact a.below q}
 ·refine(q.block b a.lt ?_).trans a
  intro e;cases e
  have e:=Qe ((show w.heap[b]? =_ from f).symm.trans a)
  grind
theorem Gr.ne(h:Gr base o w w'){b:Nat}{a:Array Ea}(c:qb w b E a)(hne:∀g,o=some g->g≠b):qb w' b E a:=
 (h.1.block b c.lt λe=>hne b e.symm rfl).trans c
theorem Gr.dvp(h:Gr W.heap.size o w w')(c:Vj A K d ps a0 a1 a2 k0 k1 n2 k2 st W w)(x:A<W.heap.size)(y:K<W.heap.size):Vj A K d ps a0 a1 a2 k0 k1 n2 k2 st W w':=by
 have a:=h.mm;have q:=ub c.step.size a.size;refine⟨⟨a.os.trans c.step.os,a.tape.trans c.step.tape,a.output.trans c.step.output,q,λb e j u=>(a.block b e).trans (c.step.ul b e j u)⟩,λz=>⟨a.os.trans c.step.os,a.tape.trans c.step.tape,a.output.trans c.step.output,q,λb e j=>(a.block b e).trans ((c.same z).ul b e j)⟩,(a.block A x).trans c.box,?_⟩;obtain⟨l,⟨t,s,B,m⟩,C,D,r⟩:=c.Vf.map;refine⟨l,⟨t,s,(a.block K y).trans B,m⟩,C,λk v f=>?_,λn i g v p f=>⟨h.dg (r n i g v p f).1,(r n i g v p f).2⟩⟩;obtain⟨g,E,F⟩:=D k v f;exact⟨g,E,h.dg F⟩
theorem Gr.cell(h:Gr base o w w'){b o:Nat}{s:Na}(a:w.cell? (Ja b o)=some (.string s)):w'.cell? (Ja b o)=some (.string s):=by
 rcases h.or with q|⟨c,q,_,_⟩
 {exact(q.cell (Kb _ _ a)).trans a}
 {exact q.cell a (by rintro rfl;obtain⟨_,_,_,e⟩:=q.sl _ _ a;cases e)}
theorem eS(m:TypeId){v:Ea}{g:List Rn}(h:Eg w base d ps Z v g)(x:Rn)(t:x.Ok w d ps Z)(i:Addr)(c:Nat)(r:∀j u,x.cells[j]? =some u->w.cell? (i.add j)=some u)(l:g.length+1<=1000000)(a:base<=w.heap.size):
  ∃f w',(Builtin.append_ #[85,85] m #[v,.slice (some i) 1 c]).run prog w=.ok f w'/\Eg w' base d ps Z f (g++[x])/\Gr base v.ownBlock w w':=by
 obtain⟨f,w',s,n,o,p⟩:=iB w base m v g h x t i c r l a;refine⟨f,w',s,n,o,a,λb e=>⟨(h.own.lt b e).1,p b e,?_⟩⟩;rcases h.own.2 with⟨rfl,_⟩|⟨y,cap,k,rfl,_,q,_⟩
 {cases e}
 {(cases e);exact⟨k,q⟩}
theorem GN{ops:Array Oper}{rest:List Oper}{a:Act}{Q:Exit->Act->Ca->Prop}(k:M.guard=none)(s y:Operand)(q:M.op=.call {callee:=.builtin .append,args:=#[s,y],argTypes:=#[85,85]})
  {e:Int} {v:Ea} {l:List Rn} (hs:a.eval s=v) (h:Eg w base d ps e v l) (x:Rn) (t:x.Ok w d ps e) (g:Addr) (c:Nat) (z:a.eval y=.slice (some g) 1 c) (p:∀j u,x.cells[j]? =some u->w.cell? (g.add j)=some u) (i:l.length+1<=1000000) (b:base<=w.heap.size)
  (o:∀f w',Eg w' base d ps e f (l++[x])->Gr base v.ownBlock w w'->wpList prog ops Q rest (a.put M.dst f) w'):wpList prog ops Q (M::rest) a w:=by
 refine wpList_plain k λK hK'=>?_
 obtain⟨f,w',r,m,n⟩:=eS M.type h x t g c p i b;unfold Oper.wp execOp;simp only[q,resolve,invoke,builtin,Sem.run_bind,Sem.run_pure,Result.andThen_ok,Le,Eb,sd,hs,z,r];exact hK' _ _ (o f w' m n)
end
end
section
def Ri:Fo:=.mk 1 ⟨#[]⟩ 0 0 []
def Jz(ps:List Pv)(q:Na)(i:Nat):Bool:=match ps[i]? with|some p=>Ek q p|none=>false
def Og(ps:List Pv)(q:Na)(k:Nat):List Nat:=(List.range k).filter (Jz ps q)
theorem vH{ps:List Pv}{q:Na}(h:j<ps.length):Og ps q (j+1)=Og ps q j++if Ek q ps[j]=true then[j]else[]:=by
 unfold Og;have e:Jz ps q j=Ek q ps[j]:=by unfold Jz;rw[Xa h]
 rw[Nk,yd,Jc,Jf,e]
theorem Po{d:List Fa}{C:Nat->Fo}{E:Nat->List Nat}{n:Nat}:∀(R S:List Nat) (r:List Part×Zo),Of d C E n (R++S) r=Of d C E n S (Of d C E n R r)
 | [],_,_=>rfl
 | i::R,S,r=>by rw[Cc,Of,Of,Po R S]
theorem Eg.at{W:Ca}{base n s j:Nat}{d:List Fa}{ps:List Pv}{e:Int}{k:Option Addr}{b:List Rn}(h:Eg W base d ps e (.slice k n s) b)(q:j<b.length):∃g,k=some ⟨g,0,none⟩/\W.cell? (Ja g (j*2))=some (.slice b[j].a b[j].n b[j].c)/\W.cell? (Ja g (j*2+1))=some (.slice b[j].ia b[j].p.2.length b[j].ic):=by
 rcases h.own.2 with⟨_,t⟩|⟨g,cap,l,f,_,m,u,v,w,r⟩
 {omega}
 {simp only[Value.slice.injEq]at f;obtain⟨rfl,_,_⟩:=f;(have key:∀i,i<2->W.cell? (Ja g (j*2+i))=b[j].cells[i]? :=λi o=>by{rw[qb.cell m, <-dS b j i q o, <-r,Ue ja,Qf]});exact⟨g,rfl,key 0 ja,key 1 ja⟩}
theorem Vz{d:List Fa}{C:Nat->Fo}{E:Nat->List Nat}{i:Nat}{r:List Part×Zo}{b:List (Nat×List Dn)}{a:List Part×Int}(c:Yf d C E j i r.2=(T,(b,Z)))(e:Gn d T i Z r.1 []=a):Of d C E j [i] r=if a.2=0/\1000<a.1.length then([],(b,2))else(a.1,(b,a.2)):=by
 rw[Of,Of,c];simp only;rw[e]
theorem JE{ps:List Pv}{q:Na}{n:Nat}(h:j<=n):∃R,Og ps q n=Og ps q j++R:=by
 unfold Og;refine⟨((List.range n).drop j).filter (Jz ps q),?_⟩;rw[<-yd];congr 1
 conv=>lhs;rw[<-bh j (List.range n)]
 rw[List.take_range,Nat.min_eq_left h]
theorem TC{d:List Fa}{C:Nat->Fo}{E:Nat->List Nat}{f k:Nat}{ps:List Pv}{q:Na}{a:List Part×Zo}{st:Zo}(h:Of d C E f (Og ps q k) a=([],st))(c:st.2≠0)(e:k<=j):Of d C E f (Og ps q j) a=([],st):=by
 obtain⟨R,b⟩:=JE (ps:=ps) (q:=q) e;rw[b,Po,h,cm c]
variable {B A K : Nat} {d : List Fa} {ps : List Pv} {a0 a1 a2 : Option Addr} {k0 k1 n2 k2 : Nat} {st : Zo} {w : Ca}
theorem JN(hS:Ix B A K d ps a0 a1 a2 k0 k1 n2 k2 st w)(h0:st.2=0)(hn:ps.length<=1000)(hsz:∀p∈ps,p.cond.size<=1000000)(f:Nat)(ρ:Nat->Nat)(fY:∀i k,i<ps.length->k∈th ps i->ρ k<ρ i)(hf:∀i,i<ps.length->ρ i<f)(q:Na)(tm:(Nc d Ri).2=0):
  Db 32 #[Ma A,.string q] w λe w'=>∃(v:Ea) (xs:List Rn),e=.returned v/\xs.map (·.p)=(Of d (pd ps) (th ps) f (Og ps q ps.length) ([((Nc d Ri).1,[])],st)).1/\xs.length<=1000/\(∀x∈xs,x.p.2.length<=ps.length)/\
   Vj A K d ps a0 a1 a2 k0 k1 n2 k2 (Of d (pd ps) (th ps) f (Og ps q ps.length) ([((Nc d Ri).1,[])],st)).2 w w'/\Eg w' w.heap.size d ps (Of d (pd ps) (th ps) f (Og ps q ps.length) ([((Nc d Ri).1,[])],st)).2.2 v xs:=by
 obtain⟨ap,kp,rK,_⟩:=Sa.shape hS.VO;cases rK
 have hAl:=hS.X3;have T6:=hS.Vf.lt;have hBA:=hS.hA;have QV:=hS.hK;have hAK:=hS.ne;have MI:B<=w.heap.size:=by omega
 have HS:=la hS;have aem:=la (cB (B:=B) (A:=A) (K:=K) (d:=d) (ps:=ps) (a0:=a0) (a1:=a1) (a2:=a2) (k0:=k0) (k1:=k1) (n2:=n2) (k2:=k2) hn hsz ρ fY f);have HF:=la hf;have lP:=(yi tm).1
 have QZ:Hid (Db 62 #[.agg #[pa 1,.string ⟨#[]⟩,pa 0,pa 0,Ua],.agg #[.slice a0 d.length k0]] w λe w''=>
   ∃(a:Option Addr) (k:Nat),e=.returned (.tuple #[.agg #[.slice a (Nc d Ri).1.length k],pa 0])/\Hid (Zd w'' w''.heap.size (Nc d Ri).1 (.agg #[.slice a (Nc d Ri).1.length k]))/\Hid (Da w.heap.size w w'')):=by
  have qi:Ri.In w w.heap.size (.agg #[pa 1,.string ⟨#[]⟩,pa 0,pa 0,Ua]):=by{unfold Ri;exact⟨none,0,rfl,⟨ja,ja⟩,⟨ja,ja⟩,⟨ja,ja⟩,Lb _,Lb _,Lb _,λh=>absurd rfl h⟩}
  have q:=us Ri d _ _ w w.heap.size Ba (wa _) qi ⟨_,rfl,Sa.mono Jk.mono MI hS.dom⟩ (λw'' h=>hS.Cq w'' (h.mono ja));rw[tm]at q;refine q.mono ?_;rintro e w'' ⟨g,rfl,⟨u,rfl,h1⟩,h2⟩;obtain⟨a,k,rfl,_⟩:=Sa.shape h1;exact⟨a,k,rfl,⟨_,rfl,h1⟩,h2⟩
 have L1:=la lP;obtain⟨T,hT⟩:∃T,(Nc d Ri).1=T:=⟨_,rfl⟩;rw[hT]at QZ L1⊢;have x0:=hS.box.cell 0;clear hS lP tm hT hsz fY hf;go_enter func32,ntmps32;go_upto_region 2 with(go_at_call 62;refine QZ.o.mono ?_;rintro e w1 ⟨ta,lU,rfl,QO,vp⟩);go_upto_region 3 with(fail);have Am:Da w1.heap.size w1 ((w1.alloc (.cells #[.slice ta T.length lU] 55)).alloc (.cells #[.slice ta T.length lU,Ua] 89)):=((za _ _).alloc (wa _) _).alloc Aa _;have K1:=qb.new (w1.alloc (.cells #[.slice ta T.length lU] 55)) 89 #[.slice ta T.length lU,Ua];rw[Ia]at K1;have hU:=la ((HS.o.refl vp.o).more Am)
 have A9:Hid (Eg ((w1.alloc (.cells #[.slice ta T.length lU] 55)).alloc (.cells #[.slice ta T.length lU,Ua] 89)) w.heap.size d ps st.2 (.slice (Nb (w1.heap.size+1)) 1 1) [⟨(T,[]),ta,T.length,lU,none,0⟩]):=by
  have Sj:=vp.o.size;refine⟨⟨rfl,.inr ⟨_,1,_,rfl,ja,K1,wa _,by unfold maxLen;omega,rfl,rfl⟩⟩,λg hg o u hu=>?_,λx hx=>?_⟩
  ·cases hg
   rw[qb.cell K1]at hu
   match o with| 0|1=>simp at hu;subst hu;exact⟨_,_,_,rfl⟩| o+2=>simp at hu
  {obtain rfl:=List.mem_singleton.1 hx;exact⟨bi.ok ((QO.o.below Am).mono Am.size) L1.o,none,0,rfl,wa _,Lb _,λh=>absurd rfl h⟩}
 have Qu:=hU.o.step.size;generalize(w1.alloc (.cells #[.slice ta T.length lU] 55)).alloc (.cells #[.slice ta T.length lU,Ua] 89)=W2 at*
 have x1:=hU.o.box.cell 1;clear x0 Am K1 QZ QO;go_upto_region 4 with(fail);clear x1;generalize w1.heap.size+1=g1 at*
 clear vp
 go_loopw [7,35] (λvv iv wr=>∃(k:Nat) (r:List Part×Zo) (xs:List Rn),k<=ps.length/\iv=pa k/\Hid (Of d (pd ps) (th ps) f (Og ps q k) ([(T,[])],st)=r)/\Hid (xs.map (·.p)=r.1)/\xs.length<=1000/\Hid (∀x∈xs,x.p.2.length<=k)/\Hid (Vj A K d ps a0 a1 a2 k0 k1 n2 k2 r.2 w wr)/\Hid (Eg wr w.heap.size d ps r.2.2 vv xs)) (λ_ iv _=>ps.length-(intOf iv).toNat)
 case atStart=>exact⟨0,([(T,[])],st),[⟨(T,[]),ta,T.length,lU,none,0⟩],Lb _,rfl,rfl,rfl,Aa,λx hx=>(by obtain rfl:=List.mem_singleton.1 hx;exact Lb _),hU,A9⟩
 case round=>
  obtain⟨k,r,xs,hk,rfl,HR,HX,FF,B9,F,KN⟩:=hrel;obtain⟨va,vc,rfl⟩:=Xd KN.o.own;have RV:=la (HS.o.step F.o);have mF:=F.o.step.size;clear hU A9 L1;by_cases hlt:k<ps.length
  ·obtain⟨b,off,rfl,Tn,ak,ck,ae,ce,hrr,_,hex,_⟩:=Sa.at RV.o.VO k hlt
   have j4:=la (λ(w8:Ca) (hS8:Ix B A K d ps a0 (fe b off) a2 k0 k1 n2 k2 r.2 w8)=>aem.o k r.2 w8 hlt (HF.o k hlt) hS8);have C9:=la (vH (q:=q) hlt);have vU:Hid (qj ps k=ps[k].id):=Mk hlt;generalize ps[k]=p at*
   have KO:=la hrr;clear hrr hex;cases DM:Ek q p with
   | false=>
    rw[DM]at C9;have JL:Hid (Of d (pd ps) (th ps) f (Og ps q (k+1)) ([(T,[])],st)=r):=by show _=_;rw[C9.o];simpa using HR.o
    have hnr:(¬p.kind=2)\/p.kind=2/\(p.name.toList==q.toList)=false:=by{unfold Ek at DM;by_cases h2:p.kind=2;{rw[Hb h2,tf]at DM;refine .inr ⟨h2,?_⟩;exact DM};{exact .inl h2}}
    rcases hnr with t1|⟨t1,t2⟩
    all_goals
     go_wp2_with (first|((with_reducible show wpList _ _ _ (⟨_,Op.load 38 (.tmp 38),_,_,_,_⟩::_) _ _);refine Lc rfl (.tmp 38) rfl rfl p ak ck ae ce KO.o Tryz.underlying38 rfl Pv.Dg ?_)|(((with_reducible show wpList _ _ _ (⟨_,Op.store 38 (.tmp 9) (.tmp 39),_,_,_,_⟩::_) _ _);refine Vc rfl (.tmp 9) (.tmp 39) rfl p ak ck ae ce rfl rfl ?Sj Pv.Dg ?_;(case Sj=>rfl);intro W1 km Un Pu Mu;have FD:=Pu 0 _ rfl;have aeo:=Pu 2 _ rfl;have aep:=Pu 3 _ rfl;have fP:=la Pu;clear Pu)))
     all_goals
     go_roundw
     case rel=>exact⟨k+1,r,xs,ja,by go_num,JL,HX,FF,la (λx hx=>Nat.le_succ_of_le (B9.o x hx)),la (F.o.more km),la (KN.o.below km)⟩
     case measure=>simp[intOf];omega
   | true=>
    rw[DM]at C9;unfold Ek at DM;have h2:p.kind=2:=by simpa using(Bool.and_eq_true_iff.1 DM).1
    have t2:(p.name.toList==q.toList)=true:=(Bool.and_eq_true_iff.1 DM).2;clear DM;obtain⟨AJ,XZ⟩:∃AJ,Yf d (pd ps) (th ps) f k r.2=AJ:=⟨_,rfl⟩;rw[XZ]at j4;have HAJ:=la XZ;obtain⟨H0,m8,e8⟩:=AJ;clear XZ;go_upto_region 8 with(first|((with_reducible show wpList _ _ _ (⟨_,Op.load 38 (.tmp 38),_,_,_,_⟩::_) _ _);refine Lc rfl (.tmp 38) rfl rfl p ak ck ae ce KO.o Tryz.underlying38 rfl Pv.Dg ?_)|(((with_reducible show wpList _ _ _ (⟨_,Op.store 38 (.tmp 9) (.tmp 39),_,_,_,_⟩::_) _ _);refine Vc rfl (.tmp 9) (.tmp 39) rfl p ak ck ae ce rfl rfl ?Sj Pv.Dg ?_;(case Sj=>rfl);intro W1 km Un Pu Mu;have FD:=Pu 0 _ rfl;have aeo:=Pu 2 _ rfl;have aep:=Pu 3 _ rfl;have fP:=la Pu;clear Pu))|(go_at_call 63;refine(j4.o _ (RV.o.below km)).mono ?_;rintro e w8 ⟨ha,wK,EA,rfl,O,X8,Z8⟩));go_upto_region 10 with(fail);have LN:Da w8.heap.size w8 (w8.alloc (.cells #[.slice ha wK EA] 55)):=(za _ _).alloc (wa _) _;have h8s:=O.o.step.size;have h1s:=km.size;have KH:=qb.new w8 55 #[.slice ha wK EA];obtain⟨fS,bS⟩:∃fS,w8.alloc (.cells #[.slice ha wK EA] 55)=fS:=⟨_,rfl⟩;rw[bS]at LN KH⊢;have kU:=la (((F.o.more km).trans O.o Z8.o).more LN);have GO:=la (HS.o.step kU.o);have j9:=la ((((KN.o.below km).step (RV.o.below km) O.o Z8.o)).below LN);have HHA:=la (X8.o.below LN);have HKH:=la KH;have hsA:=kU.o.step.size;have hlA:=KH.lt;have D9:fS.cell? (Ya wr.heap.size)=some (.string p.id):=(LN.cell (p:=Ya wr.heap.size) (by show wr.heap.size<_;omega)).trans ((O.o.step.cell ja ja ja).trans FD);have CR:=la D9;obtain⟨CT,hCT⟩:∃CT,Gn d H0 k e8 r.1 []=CT:=⟨_,rfl⟩;have NI:=la hCT;have hA1:wr.heap.size<fS.heap.size:=by omega
    have hwb:w.heap.size<=wr.heap.size:=mF;have hw8:w.heap.size<=w8.heap.size:=by omega
    clear LN KH bS X8 O j4 KN RV FD D9 hCT km fP Mu h8s h1s Un
    go_loopw [11,54] (λov jv wx=>∃(j:Nat) (ys:List Rn),j<=xs.length/\jv=pa j/\Hid (Gn d H0 k e8 (r.1.drop j) (ys.map (·.p))=CT)/\ys.length<=2*j/\Hid (j≠0->e8=0)/\Hid (∀y∈ys,y.p.2.length<=k+1)/\Hid (Vj A K d ps a0 (fe b off) a2 k0 k1 n2 k2 (m8,e8) fS wx)/\Hid (Eg wx fS.heap.size d ps e8 ov ys)) (λ_ jv _=>xs.length-(intOf jv).toNat)
    case atStart=>exact⟨0,[],Lb _,rfl,NI,wa _,λh=>absurd rfl h,λy h=>(by cases h),GO.o.refl (za _ _),Eg.nil _ _ _⟩
    case round=>
     obtain⟨j,ys,hj,rfl,gS,J2,K',HYL,ZZ,E9⟩:=hrel;obtain⟨ya,yc,rfl⟩:=Xd E9.o.own;rename Ca=>wx
     have F9:=la (GO.o.step ZZ.o);have j0:=la (j9.o.step GO.o ZZ.o id);by_cases YI:j<xs.length
     ·obtain⟨g,rfl,c0,c1⟩:=j0.o.at YI
      have gY:=la (j0.o.ok xs[j] (Oa YI));have hle:=B9.o xs[j] (Oa YI);have iY:r.1.drop j=xs[j].p::r.1.drop (j+1):=by rw[<-HX.o, <-nh, <-nh,Gc YI,Eb]
      rw[iY,Gn]at gS;clear iY;generalize xs[j]=x at*
      go_upto_region 12 with(fail);have Ou:Da wx.heap.size wx (wx.alloc (.cells #[.slice x.a x.n x.c,.slice x.ia x.p.2.length x.ic] 89)):=(za _ _).alloc (wa _) _;have KX:=qb.new wx 89 #[.slice x.a x.n x.c,.slice x.ia x.p.2.length x.ic];have N6:=ZZ.o.step.size;obtain⟨W,hW⟩:∃W,wx.alloc (.cells #[.slice x.a x.n x.c,.slice x.ia x.p.2.length x.ic] 89)=W:=⟨_,rfl⟩;rw[hW]at Ou KX⊢;have bJ:=la (F9.o.below Ou);have IY:=la (ZZ.o.more Ou);have HOW:=la (gY.o.below Ou);have xO:=la KX;have hlW:=KX.lt;have B4:A<W.heap.size:=by omega
      have QU:K<W.heap.size:=by omega
      have HHW:Hid (bi W d e8 H0 (.agg #[.slice ha wK EA])):=(HHA.o.step GO.o ZZ.o id).below Ou;have G9:Hid (qb W w8.heap.size 55 #[.slice ha wK EA]):=(ZZ.o.step.Pd HKH.o ja ja).below Ou;have HYW:=la (E9.o.below Ou);have P:Hid (∀w',Ff A K W w'->w'.cell? (Ya wx.heap.size)=some (.slice x.a x.n x.c)/\w'.cell? (Ya w8.heap.size)=some (.slice ha wK EA)):=λw' hb=>⟨(hb.Pd xO.o ja ja).cell 0,(hb.Pd G9.o ja ja).cell 0⟩
      have wO:=la (λh=>Wj (d:=d) (e:=e8) (a:=x.p.1) (b:=H0) h)
      have HA1:Hid (∀wc,Hid (Vj A K d ps a0 (fe b off) a2 k0 k1 n2 k2 (m8,e8) W wc)->Db 35 #[Ma A,.agg #[.slice x.a x.n x.c],.agg #[.slice ha wK EA]] wc λr' w''=>∃(a:Option Addr) (n c:Nat),r'=.returned (.agg #[.slice a n c])/\Hid (Vj A K d ps a0 (fe b off) a2 k0 k1 n2 k2 (m8,(uh d e8 x.p.1 H0).2) W w'')/\Hid (bi w'' d (uh d e8 x.p.1 H0).2 (uh d e8 x.p.1 H0).1 (.agg #[.slice a n c]))/\Ff A K wc w''):=by{intro wc hp;refine(Nv (st:=(m8,e8)) (bJ.o.step hp.o) (HOW.o.dg.step bJ.o hp.o id) (HHW.o.step bJ.o hp.o id)).mono ?_;rintro r' w'' ⟨a,n,c,rfl,h1,h2⟩;exact⟨a,n,c,rfl,hp.o.trans h1 (λh=>wO.o h),h2,h1.step⟩}
      obtain⟨R1,hR1⟩:∃R1,uh d e8 x.p.1 H0=R1:=⟨_,rfl⟩;rw[hR1]at HA1 wO gS;obtain⟨T1,e1⟩:=R1;have A0:=la (λh=>Wj (d:=d) (e:=e1) (a:=x.p.1) (b:=Hd H0) h)
      have HNT:Hid (∀wc,Hid (Vj A K d ps a0 (fe b off) a2 k0 k1 n2 k2 (m8,e1) W wc)->Db 34 #[.agg #[.slice ha wK EA]] wc λr' w''=>∃(a:Option Addr) (n c:Nat),r'=.returned (.agg #[.slice a n c])/\Hid (Vj A K d ps a0 (fe b off) a2 k0 k1 n2 k2 (m8,e1) W w'')/\Hid (bi w'' d e1 (Hd H0) (.agg #[.slice a n c]))/\Hid (Da wc.heap.size wc w'')):=by{intro wc hp;have q:bi wc d e1 H0 (.agg #[.slice ha wK EA]):=HHW.o.step bJ.o hp.o wO.o;refine(Tz q).mono ?_;rintro r' w'' ⟨a,n,c,rfl,h1,h2⟩;exact⟨a,n,c,rfl,hp.o.more h2.o,h1,h2⟩}
      have TV:Hid (∀wc (na:Option Addr) (nn nc:Nat),Hid (Vj A K d ps a0 (fe b off) a2 k0 k1 n2 k2 (m8,e1) W wc)->Hid (bi wc d e1 (Hd H0) (.agg #[.slice na nn nc]))->Db 35 #[Ma A,.agg #[.slice x.a x.n x.c],.agg #[.slice na nn nc]] wc λr' w''=>∃(a:Option Addr) (n c:Nat),r'=.returned (.agg #[.slice a n c])/\Hid (Vj A K d ps a0 (fe b off) a2 k0 k1 n2 k2 (m8,(uh d e1 x.p.1 (Hd H0)).2) W w'')/\Hid (bi w'' d (uh d e1 x.p.1 (Hd H0)).2 (uh d e1 x.p.1 (Hd H0)).1 (.agg #[.slice a n c]))/\(∀u,Hid (bi wc d e1 T1 u)->Hid (bi w'' d (uh d e1 x.p.1 (Hd H0)).2 T1 u))/\Ff A K wc w''):=by{intro wc na nn nc hp hd;have hs:Ix B A K d ps a0 (fe b off) a2 k0 k1 n2 k2 (m8,e1) wc:=bJ.o.step hp.o;have q:bi wc d e1 x.p.1 (.agg #[.slice x.a x.n x.c]):=HOW.o.dg.step bJ.o hp.o wO.o;refine(Nv (st:=(m8,e1)) hs q hd.o).mono ?_;rintro r' w'' ⟨a,n,c,rfl,h1,h2⟩;exact⟨a,n,c,rfl,hp.o.trans h1 (λh=>A0.o h),h2,λu hu=>bi.step (st:=(m8,e1)) hu.o hs h1 (λh=>A0.o h),h1.step⟩}
      obtain⟨R2,BO⟩:∃R2,uh d e1 x.p.1 (Hd H0)=R2:=⟨_,rfl⟩;simp only at gS;rw[BO]at TV A0 gS;obtain⟨T2,e2⟩:=R2;simp only at gS;have uH:=la (And.intro hR1 BO);have HYx:=E9;clear Ou KX hW c0 c1 hR1 BO gY E9 j0 F9
      go_cut[14,15] (λs14 s15 wF=>∃(X Y:Nat) (jY:Option Addr) (kY lY:Nat) (V:Option Addr) (XO Z:Nat),s14=Ma X/\s15=Ma Y/\Hid (Vr W wF X (.slice jY kY lY))/\Hid (Vr W wF Y (.slice V XO Z))/\Hid (bi wF d e2 T1 (.agg #[.slice jY kY lY]))/\Hid (bi wF d e2 T2 (.agg #[.slice V XO Z]))/\Hid (Vj A K d ps a0 (fe b off) a2 k0 k1 n2 k2 (m8,e2) W wF))
      case first=>
       have F:Hid (Vj A K d ps a0 (fe b off) a2 k0 k1 n2 k2 (m8,e8) W W.drew):=bJ.o.refl (za _ _).drew;refine wp_region_held_drew (S:=λw':Ca=>Hid (Ff A K W w')) Ha (la F.o.step) (λMb=>?_);generalize W.drew=w0 at*
       refine tp 0 ?_;refine tp 1 ?_;refine tk 2 ?v2 ?y2 ?_
       case y2=>(intro w9 Be;obtain⟨y0,y1⟩:=P.o w9 Be.o;go_simp;try with_reducible rfl)
       refine tk 3 ?v3 ?y3 ?_
       case y3=>(intro w9 Be;obtain⟨y0,y1⟩:=P.o w9 Be.o;go_simp;try with_reducible rfl)
       refine tp 5 ?_;refine tp 6 ?_;refine tk 7 ?v7 ?y7 ?_
       case y7=>(intro w9 Be;obtain⟨y0,y1⟩:=P.o w9 Be.o;go_simp;try with_reducible rfl)
       refine tk 8 ?v8 ?y8 ?_
       case y8=>(intro w9 Be;obtain⟨y0,y1⟩:=P.o w9 Be.o;go_simp;try with_reducible rfl)
       all_goals first
       | (have q1:=C;have q2:=D;clear q1 q2;refine tr 4 (λG z=>?_))
       | (have q1:=C;clear q1;refine tt 4 12 (λG z=>?_) (λG z=>?_);rotate_left;(go_simp;refine ll z F ?_;intro w9 t E l Mb;(try have L:=C.o.box.lt);(try have L:=D.o.box.lt);(try have C:=Vr.below C l);(try have D:=Vr.below D l);(try have H:=la (H.o.below l.o));(try have J:=la (J.o.below l.o));(try have I:=la (I.o.below l.o));have D:=E;have F:=t;clear z t l E);refine tr 4 (λG z=>?_))
       | (have q2:=D;clear q2;refine tt 4 11 (λG z=>?_) (λG z=>?_);rotate_left;(go_simp;refine ll z F ?_;intro w9 t E l Mb;(try have L:=C.o.box.lt);(try have L:=D.o.box.lt);(try have C:=Vr.below C l);(try have D:=Vr.below D l);(try have H:=la (H.o.below l.o));(try have J:=la (J.o.below l.o));(try have I:=la (I.o.below l.o));have C:=E;have F:=t;clear z t l E);refine tr 4 (λG z=>?_))
       | (refine t3 4 11 12 (λG z=>?_) (λG z=>?_) (λG z=>?_);rotate_left;(go_simp;refine ll z F ?_;intro w9 t E l Mb;(try have L:=C.o.box.lt);(try have L:=D.o.box.lt);(try have C:=Vr.below C l);(try have D:=Vr.below D l);(try have H:=la (H.o.below l.o));(try have J:=la (J.o.below l.o));(try have I:=la (I.o.below l.o));have C:=E;have F:=t;clear z t l E);refine tt 4 12 (λG z=>?_) (λG z=>?_);rotate_left;(go_simp;refine ll z F ?_;intro w9 t E l Mb;(try have L:=C.o.box.lt);(try have L:=D.o.box.lt);(try have C:=Vr.below C l);(try have D:=Vr.below D l);(try have H:=la (H.o.below l.o));(try have J:=la (J.o.below l.o));(try have I:=la (I.o.below l.o));have D:=E;have F:=t;clear z t l E);refine tr 4 (λG z=>?_);rotate_left;(go_simp;refine ll z F ?_;intro w9 t E l Mb;(try have L:=C.o.box.lt);(try have L:=D.o.box.lt);(try have C:=Vr.below C l);(try have D:=Vr.below D l);(try have H:=la (H.o.below l.o));(try have J:=la (J.o.below l.o));(try have I:=la (I.o.below l.o));have D:=E;have F:=t;clear z t l E);refine tt 4 11 (λG z=>?_) (λG z=>?_);rotate_left;(go_simp;refine ll z F ?_;intro w9 t E l Mb;(try have L:=C.o.box.lt);(try have L:=D.o.box.lt);(try have C:=Vr.below C l);(try have D:=Vr.below D l);(try have H:=la (H.o.below l.o));(try have J:=la (J.o.below l.o));(try have I:=la (I.o.below l.o));have C:=E;have F:=t;clear z t l E);refine tr 4 (λG z=>?_))
       all_goals
        go_simp
        (go_at_call 35;refine(HA1.o _ F).mono ?_;rintro e w8 ⟨jY,kY,lY,rfl,O,H,DI⟩)
        refine z.o _ _ (la O.o.step) (λMb=>?_)
        ((try have C:=Vr.Hj C DI B4 QU);(try have D:=Vr.Hj D DI B4 QU))
        have F:=O;clear z O DI
       all_goals first
       | (have q1:=C;have q2:=D;clear q1 q2;refine tr 9 (λG z=>?_))
       | (have q1:=C;clear q1;refine tt 9 12 (λG z=>?_) (λG z=>?_);rotate_left;(go_simp;refine ll z F ?_;intro w9 t E l Mb;(try have L:=C.o.box.lt);(try have L:=D.o.box.lt);(try have C:=Vr.below C l);(try have D:=Vr.below D l);(try have H:=la (H.o.below l.o));(try have J:=la (J.o.below l.o));(try have I:=la (I.o.below l.o));have D:=E;have F:=t;clear z t l E);refine tr 9 (λG z=>?_))
       | (have q2:=D;clear q2;refine tt 9 11 (λG z=>?_) (λG z=>?_);rotate_left;(go_simp;refine ll z F ?_;intro w9 t E l Mb;(try have L:=C.o.box.lt);(try have L:=D.o.box.lt);(try have C:=Vr.below C l);(try have D:=Vr.below D l);(try have H:=la (H.o.below l.o));(try have J:=la (J.o.below l.o));(try have I:=la (I.o.below l.o));have C:=E;have F:=t;clear z t l E);refine tr 9 (λG z=>?_))
       | (refine t3 9 11 12 (λG z=>?_) (λG z=>?_) (λG z=>?_);rotate_left;(go_simp;refine ll z F ?_;intro w9 t E l Mb;(try have L:=C.o.box.lt);(try have L:=D.o.box.lt);(try have C:=Vr.below C l);(try have D:=Vr.below D l);(try have H:=la (H.o.below l.o));(try have J:=la (J.o.below l.o));(try have I:=la (I.o.below l.o));have C:=E;have F:=t;clear z t l E);refine tt 9 12 (λG z=>?_) (λG z=>?_);rotate_left;(go_simp;refine ll z F ?_;intro w9 t E l Mb;(try have L:=C.o.box.lt);(try have L:=D.o.box.lt);(try have C:=Vr.below C l);(try have D:=Vr.below D l);(try have H:=la (H.o.below l.o));(try have J:=la (J.o.below l.o));(try have I:=la (I.o.below l.o));have D:=E;have F:=t;clear z t l E);refine tr 9 (λG z=>?_);rotate_left;(go_simp;refine ll z F ?_;intro w9 t E l Mb;(try have L:=C.o.box.lt);(try have L:=D.o.box.lt);(try have C:=Vr.below C l);(try have D:=Vr.below D l);(try have H:=la (H.o.below l.o));(try have J:=la (J.o.below l.o));(try have I:=la (I.o.below l.o));have D:=E;have F:=t;clear z t l E);refine tt 9 11 (λG z=>?_) (λG z=>?_);rotate_left;(go_simp;refine ll z F ?_;intro w9 t E l Mb;(try have L:=C.o.box.lt);(try have L:=D.o.box.lt);(try have C:=Vr.below C l);(try have D:=Vr.below D l);(try have H:=la (H.o.below l.o));(try have J:=la (J.o.below l.o));(try have I:=la (I.o.below l.o));have C:=E;have F:=t;clear z t l E);refine tr 9 (λG z=>?_))
       all_goals
        go_simp
        (go_at_call 34;refine(HNT.o _ F).mono ?_;rintro e w8 ⟨na,nn,nc,rfl,O,J,Wu⟩)
        refine z.o _ _ (la O.o.step) (λMb=>?_)
        (try have C:=Vr.below C Wu)
        (try have D:=Vr.below D Wu)
        have H:=la (H.o.below Wu.o);have F:=O;clear z O Wu
       all_goals first
       | (have q1:=C;have q2:=D;clear q1 q2;refine tr 10 (λG z=>?_))
       | (have q1:=C;clear q1;refine tt 10 12 (λG z=>?_) (λG z=>?_);rotate_left;(go_simp;refine ll z F ?_;intro w9 t E l Mb;(try have L:=C.o.box.lt);(try have L:=D.o.box.lt);(try have C:=Vr.below C l);(try have D:=Vr.below D l);(try have H:=la (H.o.below l.o));(try have J:=la (J.o.below l.o));(try have I:=la (I.o.below l.o));have D:=E;have F:=t;clear z t l E);refine tr 10 (λG z=>?_))
       | (have q2:=D;clear q2;refine tt 10 11 (λG z=>?_) (λG z=>?_);rotate_left;(go_simp;refine ll z F ?_;intro w9 t E l Mb;(try have L:=C.o.box.lt);(try have L:=D.o.box.lt);(try have C:=Vr.below C l);(try have D:=Vr.below D l);(try have H:=la (H.o.below l.o));(try have J:=la (J.o.below l.o));(try have I:=la (I.o.below l.o));have C:=E;have F:=t;clear z t l E);refine tr 10 (λG z=>?_))
       | (refine t3 10 11 12 (λG z=>?_) (λG z=>?_) (λG z=>?_);rotate_left;(go_simp;refine ll z F ?_;intro w9 t E l Mb;(try have L:=C.o.box.lt);(try have L:=D.o.box.lt);(try have C:=Vr.below C l);(try have D:=Vr.below D l);(try have H:=la (H.o.below l.o));(try have J:=la (J.o.below l.o));(try have I:=la (I.o.below l.o));have C:=E;have F:=t;clear z t l E);refine tt 10 12 (λG z=>?_) (λG z=>?_);rotate_left;(go_simp;refine ll z F ?_;intro w9 t E l Mb;(try have L:=C.o.box.lt);(try have L:=D.o.box.lt);(try have C:=Vr.below C l);(try have D:=Vr.below D l);(try have H:=la (H.o.below l.o));(try have J:=la (J.o.below l.o));(try have I:=la (I.o.below l.o));have D:=E;have F:=t;clear z t l E);refine tr 10 (λG z=>?_);rotate_left;(go_simp;refine ll z F ?_;intro w9 t E l Mb;(try have L:=C.o.box.lt);(try have L:=D.o.box.lt);(try have C:=Vr.below C l);(try have D:=Vr.below D l);(try have H:=la (H.o.below l.o));(try have J:=la (J.o.below l.o));(try have I:=la (I.o.below l.o));have D:=E;have F:=t;clear z t l E);refine tt 10 11 (λG z=>?_) (λG z=>?_);rotate_left;(go_simp;refine ll z F ?_;intro w9 t E l Mb;(try have L:=C.o.box.lt);(try have L:=D.o.box.lt);(try have C:=Vr.below C l);(try have D:=Vr.below D l);(try have H:=la (H.o.below l.o));(try have J:=la (J.o.below l.o));(try have I:=la (I.o.below l.o));have C:=E;have F:=t;clear z t l E);refine tr 10 (λG z=>?_))
       all_goals
        go_simp
        (go_at_call 35;refine(TV.o _ _ _ _ F J).mono ?_;rintro e w8 ⟨V,XO,Z,rfl,O,I,C4,DI⟩)
        refine z.o _ _ (la O.o.step) (λMb=>?_)
        ((try have C:=Vr.Hj C DI B4 QU);(try have D:=Vr.Hj D DI B4 QU))
        have H:=C4 _ H;have F:=O;clear z O DI C4 J
       all_goals first
       | (have q1:=C;have q2:=D;clear q1 q2;refine tr 13 (λG z=>?_))
       | (have q1:=C;clear q1;refine tr 12 (λG z=>?_);(go_simp;refine ll z F ?_;intro w9 t E l Mb;(try have L:=C.o.box.lt);(try have L:=D.o.box.lt);(try have C:=Vr.below C l);(try have D:=Vr.below D l);(try have H:=la (H.o.below l.o));(try have J:=la (J.o.below l.o));(try have I:=la (I.o.below l.o));have D:=E;have F:=t;clear z t l E);refine tr 13 (λG z=>?_))
       | (have q2:=D;clear q2;refine tr 11 (λG z=>?_);(go_simp;refine ll z F ?_;intro w9 t E l Mb;(try have L:=C.o.box.lt);(try have L:=D.o.box.lt);(try have C:=Vr.below C l);(try have D:=Vr.below D l);(try have H:=la (H.o.below l.o));(try have J:=la (J.o.below l.o));(try have I:=la (I.o.below l.o));have C:=E;have F:=t;clear z t l E);refine tr 13 (λG z=>?_))
       | (refine tt 11 12 (λG z=>?_) (λG z=>?_);(go_simp;refine ll z F ?_;intro w9 t E l Mb;(try have L:=C.o.box.lt);(try have L:=D.o.box.lt);(try have C:=Vr.below C l);(try have D:=Vr.below D l);(try have H:=la (H.o.below l.o));(try have J:=la (J.o.below l.o));(try have I:=la (I.o.below l.o));have C:=E;have F:=t;clear z t l E);refine tr 12 (λG z=>?_);(go_simp;refine ll z F ?_;intro w9 t E l Mb;(try have L:=C.o.box.lt);(try have L:=D.o.box.lt);(try have C:=Vr.below C l);(try have D:=Vr.below D l);(try have H:=la (H.o.below l.o));(try have J:=la (J.o.below l.o));(try have I:=la (I.o.below l.o));have D:=E;have F:=t;clear z t l E);refine tr 13 (λG z=>?_);rotate_left;(go_simp;refine ll z F ?_;intro w9 t E l Mb;(try have L:=C.o.box.lt);(try have L:=D.o.box.lt);(try have C:=Vr.below C l);(try have D:=Vr.below D l);(try have H:=la (H.o.below l.o));(try have J:=la (J.o.below l.o));(try have I:=la (I.o.below l.o));have D:=E;have F:=t;clear z t l E);refine tr 11 (λG z=>?_);(go_simp;refine ll z F ?_;intro w9 t E l Mb;(try have L:=C.o.box.lt);(try have L:=D.o.box.lt);(try have C:=Vr.below C l);(try have D:=Vr.below D l);(try have H:=la (H.o.below l.o));(try have J:=la (J.o.below l.o));(try have I:=la (I.o.below l.o));have C:=E;have F:=t;clear z t l E);refine tr 13 (λG z=>?_))
       all_goals
        (have cz:=C.o.box.cell 0;have fz:=C.o.box.frozen 0;go_simp;refine aac z F C B4 QU ?_;intro w9 t E H9 C0 Mb;(try have D:=H9 _ _ ja D);have H:=C0 _ _ _ H;have I:=C0 _ _ _ I;have C:=E;have F:=t;clear z cz fz t H9 C0 E)
        refine tr 14 (λG z=>?_)
        (have cz:=D.o.box.cell 0;have fz:=D.o.box.frozen 0;go_simp;refine aac z F D B4 QU ?_;intro w9 t E H9 C0 Mb;(try have C:=H9 _ _ ja C);have H:=C0 _ _ _ H;have I:=C0 _ _ _ I;have D:=E;have F:=t;clear z cz fz t H9 C0 E)
        refine wpAnyH_done Ha ?_ _;go_wp2;go_meet;exact⟨_,_,_,_,_,_,_,_,rfl,rfl,C,D,H,I,F⟩
      case rest=>
       obtain⟨X,Y,jY,kY,lY,V,XO,Z,rfl,rfl,nP,XA,QO,LX,WO⟩:=hcut;rename Ca=>wF
       have x3:=WO.o.box.cell 3;by_cases FZ:e2=0
       ·subst FZ
        obtain rfl:e1=0:=A0.o rfl;obtain rfl:e8=0:=wO.o rfl;have VV:=uH.o;rw[Mn,Mn]at VV
        have tZ:Hid (Gn d H0 k 0 (r.1.drop (j+1)) (ys.map (·.p)++((if(Ld d T1).isSome=true then[(T1,x.p.2++[k])]else[])++(if(Ld d T2).isSome=true then[(T2,x.p.2)]else[])))=CT):=by{have hc:=gS.o;rw[Ga rfl]at hc;unfold Qz at hc;rw[VV.1,VV.2]at hc;exact hc}
        obtain⟨s1,Sj⟩:∃s,(Ld d T1).isSome=s:=⟨_,rfl⟩;obtain⟨s2,Qu⟩:∃s,(Ld d T2).isSome=s:=⟨_,rfl⟩;rw[Sj,Qu]at tZ;have I9:Qc d T2:=(LX.o.dg rfl).2;have HSM:Hid (∀wc v,Hid (Vj A K d ps a0 (fe b off) a2 k0 k1 n2 k2 (m8,0) fS wc)->Hid (bi wc d 0 T2 v)->Db 64 #[Ma A,v] wc λr' w'=>r'=.returned (.bool s2)/\Hid (Da wc.heap.size wc w')):=λwc v hp h1=>(Nz (GO.o.step hp.o) (h1.o.dg rfl).1 I9).mono λr' w' h=>⟨by rw[h.1,Qu],h.2⟩
        have HPG:Hid (Vj A K d ps a0 (fe b off) a2 k0 k1 n2 k2 (m8,0) fS wF):=IY.o.trans WO.o (λ_=>rfl);have HYG:Hid (Eg wF fS.heap.size d ps 0 (.slice ya ys.length yc) ys):=HYW.o.step bJ.o WO.o (λ_=>rfl);have lP:Hid (qb wF wx.heap.size 89 #[.slice x.a x.n x.c,.slice x.ia x.p.2.length x.ic]):=WO.o.step.Pd xO.o ja ja;have NA:Hid (Sc wF wF.heap.size (x.p.2.map (qj ps)) (.slice x.ia (x.p.2.map (qj ps)).length x.ic)):=VL bJ.o WO.o HOW.o.ids;have K_:Hid (wF.cell? (Ya wr.heap.size)=some (.string p.id)):=(HPG.o.step.cell ja ja ja).trans CR.o;have FO:Hid (Db 64 #[Ma A,.agg #[.slice jY kY lY]] wF λr' w'=>r'=.returned (.bool s1)/\Hid (Da wF.heap.size wF w')):=(Nz (GO.o.step HPG.o) (QO.o.dg rfl).1 (QO.o.dg rfl).2).mono λr' w' h=>⟨by rw[h.1,Sj],h.2⟩
        clear Sj Qu I9;have hgx:∀g,(Value.slice ya ys.length yc).ownBlock=some g->g≠wx.heap.size:=λg hg=>Nat.ne_of_lt ((HYx.o.own.lt g hg).2)
        have hF1:=WO.o.step.size;have aeu:Hid (qj ps k=p.id):=vU;clear gS uH VV IY HYW xO HOW HA1 TV HNT wO A0 HHW G9 P bJ WO;have c1:=nP.o.box.cell 0
        go_upto_if 76 with(go_at_call 64;refine FO.o.mono ?_;rintro e M ⟨rfl,N⟩)
        have HPH:=la (HPG.o.more N.o);have HYH:=la (HYG.o.below N.o);have HDH:=la (QO.o.below N.o);have D0:=la (LX.o.below N.o);have HVH:=la (XA.o.box.below N.o);have HXH:=la (nP.o.box.below N.o);have J9:=la (lP.o.below N.o);have WV:Hid (Sc M M.heap.size (x.p.2.map (qj ps)) (.slice x.ia (x.p.2.map (qj ps)).length x.ic)):=Sa.mono (Ad.mono _) N.o.size (Sa.below (Ad.kept _) N.o NA.o);have hcp:wr.heap.size<wF.heap.size:=Kb _ _ K_.o;have HCH:Hid (M.cell? (Ya wr.heap.size)=some (.string p.id)):=(N.o.cell (p:=Ya wr.heap.size) hcp).trans K_.o;have h15:=N.o.size
        go_cut[11] (λs11 wz=>∃(ga:Option Addr) (gc:Nat) (iS:List Rn),s11=.slice ga iS.length gc/\Hid (iS.map (·.p)=ys.map (·.p)++if s1=true then[(T1,x.p.2++[k])]else[])/\iS.length<=ys.length+1/\Hid (∀y∈iS,y.p.2.length<=k+1)/\Hid (Eg wz fS.heap.size d ps 0 (.slice ga iS.length gc) iS)/\Hid (Vj A K d ps a0 (fe b off) a2 k0 k1 n2 k2 (m8,0) fS wz)/\Hid (qb wz Y 55 #[.slice V XO Z])/\Hid (bi wz d 0 T2 (.agg #[.slice V XO Z]))/\Hid (qb wz wx.heap.size 89 #[.slice x.a x.n x.c,.slice x.ia x.p.2.length x.ic])/\Hid (Sc wz wz.heap.size (x.p.2.map (qj ps)) (.slice x.ia (x.p.2.map (qj ps)).length x.ic)))
        case first=>
         cases s1 with
         | false=>{go_wp2;go_meet;exact⟨ya,yc,ys,rfl,by show _=_;simp,jh _,HYL,HYH,HPH,HVH,D0,J9,WV⟩}
         | true=>
          go_upto_region 16 with(fail)
          have pL:Hid (∀wc,Hid (Da M.heap.size M wc)->Db 65 #[.slice x.ia x.p.2.length x.ic] wc λr' w''=>∃(va:Option Addr) (vc:Nat),r'=.returned (.slice va x.p.2.length vc)/\Hid (w''.ownsRow M.heap.size 9 1 (.slice va x.p.2.length vc) x.p.2.length ((x.p.2.map (qj ps)).map Value.string))/\Hid (Da wc.heap.size wc w'')/\Hid (Da M.heap.size M w'')):=by{intro wc hb;have hb:=hb.o;have q:=xK (x.p.2.map (qj ps)) x.ia x.ic wc (by rw[Va];omega) (Sa.mono (Ad.mono _) hb.size (Sa.below (Ad.kept _) hb WV.o));rw[Va]at q;refine q.mono ?_;rintro r' w'' ⟨v',rfl,ho,h2⟩;obtain⟨va,vc,rfl⟩:=Xd ho;exact⟨va,vc,rfl,Wp ho hb.size,h2,hb.trans (h2.mono hb.size)⟩}
          have P:Hid (∀w',Da M.heap.size M w'->(qb w' X 55 #[.slice jY kY lY]/\qb w' wx.heap.size 89 #[.slice x.a x.n x.c,.slice x.ia x.p.2.length x.ic]/\w'.cell? (Ya wr.heap.size)=some (.string p.id))):=λw' hb=>⟨HXH.o.below hb,J9.o.below hb,(hb.cell (p:=Ya wr.heap.size) (by show wr.heap.size<_;omega)).trans HCH.o⟩
          refine wp_region_held_drew (S:=λw':Ca=>Hid (qb w' X 55 #[.slice jY kY lY]/\qb w' wx.heap.size 89 #[.slice x.a x.n x.c,.slice x.ia x.p.2.length x.ic]/\w'.cell? (Ya wr.heap.size)=some (.string p.id))) Ha (la (P.o _ (za _ _).drew)) (λMb=>?_);have K9:Hid (Da M.heap.size M M.drew):=(za _ _).drew;generalize M.drew=w0 at*
          refine tp 0 ?_;refine tk 1 ?p1 ?q1 ?_
          case q1=>(intro w9 Be;have y0:=Be.o.1.cell 0;have y1:=Be.o.2.1.cell 1;have y2:=Be.o.2.2;go_simp;try with_reducible rfl)
          refine tp 2 ?_;refine tk 3 ?p3 ?q3 ?_
          case q3=>(intro w9 Be;have y0:=Be.o.1.cell 0;have y1:=Be.o.2.1.cell 1;have y2:=Be.o.2.2;go_simp;try with_reducible rfl)
          refine tp 5 ?_;refine tk 6 ?p6 ?q6 ?_
          case q6=>(intro w9 Be;have y0:=Be.o.1.cell 0;have y1:=Be.o.2.1.cell 1;have y2:=Be.o.2.2;go_simp;try with_reducible rfl)
          refine tt 4 7 (λG z=>?_) (λG z=>?_)
          (go_simp;go_at_call 65;refine(pL.o _ K9).mono ?_;rintro e w4 ⟨da,dc,rfl,P3,Lk,jS⟩;refine z.o _ _ (la (P.o _ jS.o)) (λMb=>?_);clear z;refine tr 7 (λG z=>?_);go_simp;refine Sz z (λw9 h=>la (P.o _ (jS.o.trans (h.o.mono jS.o.size)))) ?_;intro w9 l HN9 Mb;have dr:Hid (Da M.heap.size M w9):=jS.o.trans (l.o.mono jS.o.size);have D4:=la (Wd P3.o l.o))
          rotate_left
          (go_simp;refine Sz z (λw9 h=>la (P.o _ (K9.o.trans (h.o.mono K9.o.size)))) ?_;intro w9 l HN8 Mb;clear z;refine tr 4 (λG z=>?_);go_simp;go_at_call 65;refine(pL.o _ (la (K9.o.trans (l.o.mono K9.o.size)))).mono ?_;rintro e w4 ⟨da,dc,rfl,D4,Lk,dr⟩;refine z.o _ _ (la (P.o _ dr.o)) (λMb=>?_);have HN9:=la (HN8.o.below Lk.o))
          all_goals
           clear z;refine tr 8 (λG z=>?_);obtain⟨v5,w5,hr5,E4,yX⟩:=Pr (ty:=33) (c:=1) (m:=[p.id]) D4.o (.inr ⟨_,rfl,λj u hj=>ny HN9.o j u (by simpa using hj)⟩) (by simp;omega) dr.o.size;have Mw:Hid (Da M.heap.size M w5):=dr.o.grown yX dr.o.size (λg e=>(D4.o.lt g e).1);obtain⟨ea,ec,rfl⟩:=Xd E4;have F3:=la E4;clear yX E4;refine Rp rfl _ _ _ rfl _ _ rfl rfl _ _ hr5 ?_;simp only[Act.put,sA,sB,sC];refine z.o _ _ (la (P.o _ Mw.o)) (λMb=>?_);clear z hr5;refine tp 9 ?_;refine tr 10 (λG z=>?_)
           go_simp
           refine Sz z (λw9 h=>la (P.o _ (Mw.o.trans (h.o.mono Mw.o.size)))) ?_;intro wA SZ P8 Mb;clear z;have R:Hid (Da M.heap.size M wA):=Mw.o.trans (SZ.o.mono Mw.o.size);have h7:=R.o.size;refine tr 11 (λG z=>?_)
           have zK:Sc wA wA.heap.size ((x.p.2++[k]).map (qj ps)) (.slice ea ((x.p.2++[k]).map (qj ps)).length ec):=by{(have hl:(x.p.2++[k]).map (qj ps)=x.p.2.map (qj ps)++[p.id]:=by rw[Pb,Eb,sd,aeu.o]);(have e:(x.p.2.map (qj ps)++[p.id]).length=x.p.2.length+[p.id].length:=Aa);rw[hl,e];exact yl (Wd F3.o SZ.o) e.symm}
           obtain⟨v6,w6,hr6,F4,U⟩:=eS 85 (HYH.o.below R.o) ⟨(T1,x.p.2++[k]),jY,kY,lY,ea,ec⟩ ⟨HDH.o.below R.o,zK⟩ (Ya w5.heap.size) 1 (λj u hj=>ny P8.o j u (by rw[<-hj];simp[Rn.cells])) ja ja;obtain⟨ga,gc,rfl⟩:=Xd F4.own;refine Rp rfl _ _ _ rfl _ _ rfl rfl _ _ hr6 ?_;simp only[Act.put,sA,sB,sC];refine z.o _ _ (la ⟨U.Pd (HXH.o.below R.o) Ba,U.ne (J9.o.below R.o) hgx,U.cell (P.o _ R.o).2.2⟩) (λMb=>?_);clear z hr6 zK;have F4:=la F4;have U:=la U;refine tp 12 ?_;refine wpAnyH_done Ha ?_ _;go_wp2;go_meet;refine⟨ga,gc,_,Aa,?_,?_,?_,F4,U.o.dvp (HPH.o.more R.o) ja ja,U.o.Pd (HVH.o.below R.o) Ba,U.o.dge (D0.o.below R.o),U.o.ne (J9.o.below R.o) hgx,U.o.strs (Sa.mono (Ad.mono _) R.o.size (Sa.below (Ad.kept _) R.o WV.o))⟩
           {show _=_;simp}
           {simp}
           {intro y hy;(rcases List.mem_append.1 hy with hy|hy);{exact HYL.o y hy};{rw[List.mem_singleton.1 hy];simp;omega}}
        case rest=>
         obtain⟨ga,gc,iS,rfl,uX,aoT,L9,HRZ,FN,HVZ,HDZ,WX,HIZ⟩:=hcut;rename Ca=>wz
         have c1:=HVZ.o.cell 0;have WW:=la (HSM.o wz _ FN HDZ);have X_:Hid (j+1≠0->(0:Int)=0):=λ_=>rfl
         have aoV:=FN.o.step.size;clear HSM HPG HYG lP NA K_ QO LX nP XA HPH HYH HDH HVH HXH J9 WV D0 HCH hcp h15 hF1 x3 hgx;cases s2 with
         | false=>{have HCF:Hid (Gn d H0 k 0 (r.1.drop (j+1)) (iS.map (·.p))=CT):=by{show _=_;rw[uX.o, <-tZ.o];simp};go_wp2_with (go_at_call 64;refine WW.o.mono ?_;rintro e M9 ⟨rfl,Q⟩);go_roundw;(case rel=>exact⟨j+1,iS,ja,by go_num,HCF,ja,X_,L9,la (FN.o.more Q.o),la (HRZ.o.below Q.o)⟩);case measure=>simp[intOf];omega}
         | true=>
          have HCF:Hid (Gn d H0 k 0 (r.1.drop (j+1)) ((iS++[(⟨(T2,x.p.2),V,XO,Z,x.ia,x.ic⟩:Rn)]).map (·.p))=CT):=by{show _=_;rw[Pb,uX.o, <-tZ.o];simp}
          have HYF:Hid (∀y∈iS++[(⟨(T2,x.p.2),V,XO,Z,x.ia,x.ic⟩:Rn)],y.p.2.length<=k+1):=by{intro y hy;(rcases List.mem_append.1 hy with hy|hy);{exact L9.o y hy};{rw[List.mem_singleton.1 hy];exact Nat.le_succ_of_le hle}}
          go_wp2_with (first
           | (go_at_call 64;refine WW.o.mono ?_;rintro e M9 ⟨rfl,Q⟩;have d1:=(HVZ.o.below Q.o).cell 0;have d2:=(WX.o.below Q.o).cell 1;have kS:Hid (Da wz.heap.size wz (M9.alloc (.cells #[.slice V XO Z,.slice x.ia x.p.2.length x.ic] 89))):=Q.o.alloc Q.o.size _;have aeB:Hid (qb (M9.alloc (.cells #[.slice V XO Z,.slice x.ia x.p.2.length x.ic] 89)) M9.heap.size 89 #[.slice V XO Z,.slice x.ia x.p.2.length x.ic]):=qb.new _ _ _;have aoX:=Q.o.size)
           | (at_builtin;go_loud (refine GN rfl (.tmp 92) (.tmp 97) rfl rfl (HRZ.o.below kS.o) ⟨(T2,x.p.2),V,XO,Z,x.ia,x.ic⟩ ⟨HDZ.o.below kS.o,Sa.mono (Ad.mono _) kS.o.size (Sa.below (Ad.kept _) kS.o HIZ.o)⟩ (Ya M9.heap.size) 1 rfl (λj u hj=>ny aeB.o j u (by rw[<-hj];simp[Rn.cells])) ja (by simp;omega) ?_;intro v6 w6 N9 O9;have F4:=la N9;have U:=la O9;clear N9 O9)))
          go_roundw
          case rel=>exact⟨j+1,_,ja,by go_num,HCF,by simp;omega,X_,HYF,la (U.o.dvp (FN.o.more kS.o) ja ja),F4⟩
          case measure=>simp[intOf];omega
       {(have hze:(e2 !=0)=true:=by simp[FZ]);have VD:Hid (Of d (pd ps) (th ps) f (Og ps q ps.length) ([(T,[])],st)=([],(m8,e2))):=by{refine TC (k:=k+1) ?_ FZ hlt;rw[C9.o,Ga trivial,Po,HR.o,Vz HAJ.o NI.o];have hc:=gS.o;rw[if_neg FZ]at hc;rw[<-hc,if_neg (λh=>FZ h.1)]};have FN:Hid (Vj A K d ps a0 (fe b off) a2 k0 k1 n2 k2 (m8,e2) w wF):=kU.o.trans (IY.o.trans WO.o (λh=>wO.o (A0.o h))) (λh=>wO.o (A0.o h));clear gS FZ;go_wp2;go_ret;rw[VD.o];exact⟨_,rfl,[],rfl,Aa,λx hx=>(by cases hx),FN.o,Eg.nil _ _ _⟩}
     {(obtain rfl:j=xs.length:=ja);(have yM:r.1.drop xs.length=[]:=by rw[<-HX.o];simp);(have hce:CT=(ys.map (·.p),e8):=by rw[<-gS.o,yM,Gn]);have G4:Hid (Of d (pd ps) (th ps) f (Og ps q (k+1)) ([(T,[])],st)=if e8=0/\1000<(ys.map (·.p)).length then([],(m8,2))else(ys.map (·.p),(m8,e8))):=by{show _=_;rw[C9.o,Ga trivial,Po,HR.o,Vz HAJ.o NI.o,hce]};have FN:Hid (Vj A K d ps a0 (fe b off) a2 k0 k1 n2 k2 (m8,e8) w wx):=kU.o.trans ZZ.o id;clear hce yM gS NI;by_cases P9:1000<ys.length;{obtain rfl:e8=0:=K'.o ja;have VD:Hid (Of d (pd ps) (th ps) f (Og ps q ps.length) ([(T,[])],st)=([],(m8,2))):=TC (k:=k+1) (G4.o.trans (Ga ⟨rfl,by rw[Va];exact P9⟩)) (by show(2:Int)≠0;decide) hlt;have IY:Hid (Vj A K d ps a0 (fe b off) a2 k0 k1 n2 k2 (m8,2) w (wx.setCell (Ja A 3) (pa 2))):=FN.o.trans (F9.o.put rfl 2) (λ_=>rfl);have x3:=F9.o.box.cell 3;have xf:=F9.o.box.frozen 3;clear G4;go_wp2;go_ret;rw[VD.o];exact⟨_,rfl,[],rfl,Aa,λx hx=>(by cases hx),IY.o,Eg.nil _ _ _⟩};{have XV:Hid (Of d (pd ps) (th ps) f (Og ps q (k+1)) ([(T,[])],st)=(ys.map (·.p),(m8,e8))):=G4.o.trans (if_neg (λh=>P9 (by rw[Va]at h;exact h.2)));have HYR:Hid (Eg wx w.heap.size d ps e8 (.slice ya ys.length yc) ys):=E9.o.mono ja;clear G4;go_wp2;go_roundw;(case rel=>exact⟨k+1,_,ys,ja,by go_num,XV,la rfl,ja,HYL,FN,HYR⟩);case measure=>simp[intOf];omega}}
  {(obtain rfl:k=ps.length:=ja);go_wp2;go_ret;rw[HR.o];exact⟨_,xs,rfl,HX.o,FF,B9.o,F.o,KN.o⟩}
end
end Go.Proofs.YtdipkbobalnilaaGreatDoor
