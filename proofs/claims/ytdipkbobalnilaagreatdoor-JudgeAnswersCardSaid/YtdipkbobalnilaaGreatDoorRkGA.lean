/- The walk of Best's closure: whether one of those asked for prevails over another one. Bounds on the provisions. -/
import Derived.Test.YtdipkbobalnilaaGreatDoorAl
import Derived.Test.YtdipkbobalnilaaGreatDoorRkAA
set_option maxRecDepth 100000
set_option maxHeartbeats 4000000
namespace Go.Proofs.YtdipkbobalnilaaGreatDoor
open Tryz
open Go.RowKit
variable{j:Nat}{E:TypeId}
def px(a:Na):List Pv->Int->Int
 | [],_=> -1
 | p::l,k=>if Lh p.id a=true then k else px a l (k+1)
theorem VJ(d:List Fa)(ps:List Pv)(ts:List Int)(c:Na)(v:Ea)(w:Ca)(N:ps.length<=1000)(E:Gj w w.heap.size d ps ts v):
  Db 15 #[v,.string c] w λe G=>e=.returned (pa (px c ps 0))/\Da w.heap.size w G:=by
 obtain⟨u1,u2,u3,rfl,hd,s,z⟩:=E;obtain⟨h,j,rfl,_⟩:=Sa.shape hd;obtain⟨i,l,rfl,_⟩:=Sa.shape s;obtain⟨at_,m,rfl,_⟩:=Sa.shape z;have a:Hid (Da _ w (w.alloc (.cells #[.slice h d.length j,.slice i ps.length l,.slice at_ ts.length m] 28))):=(za _ _).alloc (wa _) _;have H:=(qb.new w 28 #[.slice h d.length j,.slice i ps.length l,.slice at_ ts.length m]).cell 1;have y:=la (s.below jm.kept a.o);obtain⟨R,q⟩:∃R,px c ps 0=R:=⟨_,rfl⟩;rw[q];have A:=la q;obtain⟨W,r⟩:∃W,(w.alloc (.cells #[.slice h d.length j,.slice i ps.length l,.slice at_ ts.length m] 28))=W:=⟨_,rfl⟩;rw[r]at a H y;have B:=la r;clear hd s z q r;go_enter func15,ntmps15;go_upto_region 1 with(fail);rw[B.o];go_wp2
 go_loopw [5] (λu wr=>∃k:Nat,k<=ps.length/\u=pa k/\wr=W/\Hid (R=px c (ps.drop k) k)) (λu _=>ps.length-(intOf u).toNat)
 case atStart=>exact⟨0,ja,rfl,rfl,A.o.symm⟩
 case round=>
  obtain⟨k,M,rfl,t,x⟩:=hrel;subst t;by_cases hlt:k<ps.length
  {obtain⟨b,off,rfl,D,J,L,I,K,F,_⟩:=Sa.at y.o k hlt;have C:=F 0 _ rfl;rw[Qg]at C;have n:=x.o;rw[Gc hlt,px]at n;generalize ps[k]=p at*;cases g:Lh p.id c with| true=>{(have f:Hid (R=k):=by show _=_;rw[n,Ga g]);unfold Lh at g;go_wp2;go_ret;exact⟨by rw[f.o];rfl,a.o⟩}| false=>{(have f:Hid (R=px c (ps.drop (k+1)) (k+1:Nat)):=by show _=_;rw[n,if_neg (by rw[g];simp)];rfl);unfold Lh at g;go_wp2;go_roundw;(case rel=>exact⟨_,ja,by go_num,by trivial,f⟩);case measure=>simp[intOf];omega}}
  ·have f:Hid (R= -1):=by
    show _=_
    rw[x.o,Bb ja];rfl
   go_wp2;go_ret;exact⟨by rw[f.o];rfl,a.o⟩
theorem eI{W:Ca}{l:List (Na×Bool)}(h:Wb Value.string Value.bool W j l)(k:Na)(a:l.lookup k≠some true):(Instr.lookup 169 (.map (some j)) (.string k) false).run prog W=.ok (.bool false) W:=by
 have q:=zk CL.key Tryz.underlying169 Om h k;cases b:l.lookup k with| none=>grind| some x=>{simp_all}
theorem WE(d:List Fa)(ps:List Pv)(ts:List Int)(v:Ea)(w:Ca)(B:Nat)(hn:ps.length<=1000)(hB:B<=w.heap.size)(hl:Gj w B d ps ts v)(hsz:∀p∈ps,p.cond.size<=1000000):
  Db 128 #[v] w λe w'=>e=.returned (.bool (Ef d ps ts.length))/\Da w.heap.size w w':=by
 obtain⟨u1,u2,u3,rfl,hd,hp,ht⟩:=hl;obtain⟨ad,cd,rfl,d1,d2,_⟩:=Sa.shape hd;obtain⟨ap,cp,rfl,p1,p2,_⟩:=Sa.shape hp;obtain⟨at_,ct,rfl,t1,t2,_⟩:=Sa.shape ht;unfold maxLen at p2;have y:Hid (Da _ w (w.alloc (.cells #[.slice ad d.length cd,.slice ap ps.length cp,.slice at_ ts.length ct] 28))):=(za _ _).alloc (wa _) _;have J:=la (qb.new w 28 #[.slice ad d.length cd,.slice ap ps.length cp,.slice at_ ts.length ct]);have x0:=J.o.cell 0;have x1:=J.o.cell 1;have x2:=J.o.cell 2;have HP:=la hp;have M:Hid (jf w B d _):=⟨_,rfl,hd⟩;have t:=la (Lj d _ _ B (by simp;omega) (M.o.below (y.o.mono hB)));have gM:=la hsz;obtain⟨R,hR⟩:∃R,Ef d ps ts.length=R:=⟨_,rfl⟩;rw[hR];have HR:Hid _:=hR;have CX:decide (2000<(ps.length:Int))=false:=Za ja;clear hd hp ht hsz hR;cases hv:gf d with
 | false=>{rw[hv]at t;(have Q:Hid (R=false):=by show _=_;rw[<-HR.o];unfold Ef;rw[hv];rfl);go_enter func128,ntmps128;go_wp2_with (go_at_call 46;refine t.o.mono ?_;rintro e x ⟨rfl,f⟩;have q:=la (y.o.trans (f.mono Aa));have j:=la (J.o.below f);have z0:=j.o.cell 0;have z1:=j.o.cell 1;have z2:=j.o.cell 2;have BA:w.heap.size<x.heap.size:=(by have:=f.size;simp at this;omega);clear f);go_ret;exact⟨Cb Q.o.symm,q.o⟩}
 | true=>
  rw[hv]at t;by_cases H:ts.length=ps.length
  ·have gt:(ts.length !=(ps.length:Int))=false:=by simp;omega
   have Q:Hid (R=fI d [] ps):=by{show _=_;rw[<-HR.o];unfold Ef;rw[hv,Hb (show ps.length<=2000 by omega),Hb H];simp}
   clear HR H;go_enter func128,ntmps128;have zO:=@run_makeMap prog;go_wp2_with (go_at_call 46;refine t.o.mono ?_;rintro e x ⟨rfl,f⟩;have q:=la (y.o.trans (f.mono Aa));have j:=la (J.o.below f);have z0:=j.o.cell 0;have z1:=j.o.cell 1;have z2:=j.o.cell 2;have BA:w.heap.size<x.heap.size:=(by have:=f.size;simp at this;omega);clear f);have Y:=Wb.made (ek:=Value.string) (ev:=Value.bool) x;have Jq:=la (q.o.alloc ja (.map #[] 0));have K3:=la (j.o.alloc (.map #[] 0));have LY:x.heap.size<(x.alloc (.map #[] 0)).heap.size:=by simp
   clear z0 z1 z2
   go_loopw [29] (λiv wr=>∃(k:Nat) (m:List _),k<=ps.length/\iv=pa k/\Hid (R=fI d m (ps.drop k))/\Hid (Wb Value.string Value.bool wr x.heap.size m)/\Hid (Da w.heap.size w wr)/\x.heap.size<wr.heap.size/\Hid (qb wr w.heap.size 28 #[.slice ad d.length cd,.slice ap ps.length cp,.slice at_ ts.length ct])) (λiv _=>ps.length-(intOf iv).toNat)
   case atStart=>exact⟨0,[],ja,rfl,Q,Y,Jq,LY,K3⟩
   case round=>
    obtain⟨k,m,hk,rfl,HI,HM,l,hsw,O⟩:=hrel;have y0:=O.o.cell 0;have y1:=O.o.cell 1;have y2:=O.o.cell 2;clear Y;by_cases hlt:k<ps.length
    ·obtain⟨b,off,rfl,Tn,E,F,K,L,hr,hf,he,uU⟩:=Sa.at (HP.o.below jm.kept (l.o.mono hB)) k hlt
     have hI:=HI.o;rw[Gc hlt]at hI;have UW:=gM.o _ (Oa hlt);generalize ps[k]=p at*
     have r:Hid _:=hI;clear hI;unfold fI at r;have D:=la hr
     have C:Hid (∀W',Da wr.heap.size wr W'->Db 78 #[.agg #[pa p.cond.op,.string p.cond.name,pa p.cond.cmp,pa p.cond.n,.slice E p.cond.kids.length F],.agg #[.slice ad d.length cd],Ua] W' λe w''=>e=.returned (pa (se p.cond d (λ_=>false)))/\Hid (Da W'.heap.size W' w'')):=λW' z=>by{have Z:=l.o.trans (z.mono l.o.size);exact Xr _ d [] _ _ _ W' B UW (by have:=Z.size;omega) (Fo.In.below (z.mono (by have:=l.o.size;omega)) _ _ hf) (M.o.below (Z.mono hB)) ⟨none,0,rfl,wa _,ja,λh=>absurd rfl h⟩}
     clear hr hf he uU UW;have i:=hsw;by_cases z:m.lookup p.id=some true
     ·have s:Hid (R=false):=by show _=_;rw[r.o,Ga (.inl z)]
      go_wp2_with (first
       | ((with_reducible show wpList _ _ _ (⟨_,Op.load 38 (.tmp 31),_,_,_,_⟩::_) _ _);refine Lc rfl (.tmp 31) rfl rfl p E F K L D.o Tryz.underlying38 rfl Pv.Dg ?_)
       | (((with_reducible show wpList _ _ _ (⟨_,Op.store 38 (.tmp 5) (.tmp 32),_,_,_,_⟩::_) _ _);refine Vc rfl (.tmp 5) (.tmp 32) rfl p E F K L rfl rfl ?Sj Pv.Dg ?_;(case Sj=>rfl);intro W1 c Un a Mu;have u:=a 0 _ rfl;have P:=la a;clear a);have G:=zk CL.key Tryz.underlying169 Om (HM.o.below c i) p.id;rw[z]at G))
      go_ret;exact⟨Cb s.o.symm,l.o.trans (c.mono ja)⟩
     ·by_cases hE:se p.cond d (λ_=>false)=0
      ·have N:Hid (R=fI d (ins m p.id true) (ps.drop (k+1))):=by show _=_;rw[r.o,if_neg (by simp[z,hE])]
       rw[hE]at C;clear r
       go_wp2_with (first
        | ((with_reducible show wpList _ _ _ (⟨_,Op.load 38 (.tmp 31),_,_,_,_⟩::_) _ _);refine Lc rfl (.tmp 31) rfl rfl p E F K L D.o Tryz.underlying38 rfl Pv.Dg ?_)
        | (((with_reducible show wpList _ _ _ (⟨_,Op.store 38 (.tmp 5) (.tmp 32),_,_,_,_⟩::_) _ _);refine Vc rfl (.tmp 5) (.tmp 32) rfl p E F K L rfl rfl ?Sj Pv.Dg ?_;(case Sj=>rfl);intro W1 c Un a Mu;have u:=a 0 _ rfl;have T:=a 5 _ rfl;have U:=a 6 _ rfl;have V:=a 7 _ rfl;have W:=a 8 _ rfl;have X:=a 9 _ rfl;have P:=la a;clear a);have G:=eI (HM.o.below c i) p.id z;have S:=la (O.o.below c);have v0:=S.o.cell 0;have v1:=S.o.cell 1;have KT:=la (HM.o.below c i);have A:=C.o _ c;clear y0 y1 y2)
        | (go_at_call 78;refine A.mono ?_;rintro e w3 ⟨rfl,g⟩;have q0:=(g.o.cell (p:=Ya wr.heap.size) (by show wr.heap.size<W1.heap.size;omega)).trans u;have L_:=la (KT.o.below g.o ja);have K3:=la (S.o.below g.o))
        | ((with_reducible show wpList _ _ _ (⟨_,Op.mapUpdate 169 _ _ _,_,_,_,_⟩::_) _ _);refine Io rfl (.tmp 45) (.tmp 47) (.const (.bool true)) rfl CL.key Tryz.underlying169 L_.o p.id true rfl rfl rfl ?_;intro W4 hm4 I))
       have Lk:=la (((l.o.trans (c.mono l.o.size)).trans (g.o.mono (by have:=c.size;have:=l.o.size;omega))).trans (I.below ja));have mU:=la (show qb W4 _ 28 _ from(I.block _ ja).trans K3.o);have FI:x.heap.size<W4.heap.size:=by rw[I.size];have:=g.o.size;omega
       have HM4:=la hm4;go_roundw
       case rel=>exact⟨_,_,ja,by go_num,N,HM4,Lk,FI,mU⟩
       case measure=>simp[intOf];omega
      ·have s:Hid (R=false):=by show _=_;rw[r.o,Ga ja]
       have gE:(se p.cond d (λ_=>false) !=0)=true:=by simpa using hE
       go_wp2_with (first
        | ((with_reducible show wpList _ _ _ (⟨_,Op.load 38 (.tmp 31),_,_,_,_⟩::_) _ _);refine Lc rfl (.tmp 31) rfl rfl p E F K L D.o Tryz.underlying38 rfl Pv.Dg ?_)
        | (((with_reducible show wpList _ _ _ (⟨_,Op.store 38 (.tmp 5) (.tmp 32),_,_,_,_⟩::_) _ _);refine Vc rfl (.tmp 5) (.tmp 32) rfl p E F K L rfl rfl ?Sj Pv.Dg ?_;(case Sj=>rfl);intro W1 c Un a Mu;have u:=a 0 _ rfl;have T:=a 5 _ rfl;have U:=a 6 _ rfl;have V:=a 7 _ rfl;have W:=a 8 _ rfl;have X:=a 9 _ rfl;have P:=la a;clear a);have G:=eI (HM.o.below c i) p.id z;have S:=la (O.o.below c);have v0:=S.o.cell 0;have A:=C.o _ c;clear y0 y1 y2)
        | (go_at_call 78;refine A.mono ?_;rintro e w3 ⟨rfl,g⟩))
       go_ret;exact⟨Cb s.o.symm,(l.o.trans (c.mono ja)).trans (g.o.mono (by have:=c.size;have:=l.o.size;omega))⟩
    ·have s:Hid (R=true):=by
      show _=_
      rw[HI.o,Bb ja];rfl
     go_wp2;go_ret;exact⟨Cb s.o.symm,l.o⟩
  {(have gt:(ts.length !=(ps.length:Int))=true:=by simp;omega);have Q:Hid (R=false):=by{show _=_;rw[<-HR.o];unfold Ef;rw[Za H];simp};go_enter func128,ntmps128;go_wp2_with (go_at_call 46;refine t.o.mono ?_;rintro e x ⟨rfl,f⟩;have q:=la (y.o.trans (f.mono Aa));have j:=la (J.o.below f);have z0:=j.o.cell 0;have z1:=j.o.cell 1;have z2:=j.o.cell 2;have BA:w.heap.size<x.heap.size:=(by have:=f.size;simp at this;omega);clear f);go_ret;exact⟨Cb Q.o.symm,q.o⟩}
def Bi(ps:List Pv)(l:List Int):Bool:=l.all λi=>decide (0<=i)&& decide (i<(ps.length:Int))
structure J1 (w' : Ca) (B : Nat) (d : List Fa) (ps : List Pv) (ts : List Int) (x : Option Addr) : Prop where
 is:∃CB KB c0 c1 c2,x=some ⟨CB,0,none⟩/\pU w' B CB KB d ps ts c0 c1 c2/\fp w' KB d ps w'
theorem aT(d:List Fa)(ps:List Pv)(ts:List Int)(l:List Int)(v u:Ea)(w:Ca)(B:Nat)(hn:ps.length<=1000)(A:B<=w.heap.size)(hl:Gj w B d ps ts v)(T:IntsIn w w.heap.size l u)(XT:l.length<=1000)(hsz:∀p∈ps,p.cond.size<=1000000)(Z:Jh B w):
  Db 82 #[v,u] w λe w'=>∃x:Option Addr,e=.returned (.tuple #[.pointer x,pa (if Ef d ps ts.length=true/\Bi ps l=true then 0 else 1)])/\Da w.heap.size w w'/\(Ef d ps ts.length=true/\Bi ps l=true->Hid (J1 w' B d ps ts x)):=by
 have HL:=la hl;obtain⟨u1,u2,u3,rfl,hd,S,y⟩:=hl;obtain⟨M,O,rfl,d1,d2,_⟩:=Sa.shape hd;obtain⟨N,P,rfl,p1,p2,_⟩:=Sa.shape S;obtain⟨at_,Q,rfl,t1,t2,_⟩:=Sa.shape y;obtain⟨ai,ci,rfl,i1,i2,_⟩:=Sa.shape T;have r:Hid (Da _ w (w.alloc (.cells #[.slice M d.length O,.slice N ps.length P,.slice at_ ts.length Q] 28))):=(za _ _).alloc (wa _) _;have D:=la (qb.new w 28 #[.slice M d.length O,.slice N ps.length P,.slice at_ ts.length Q]);have x0:=D.o.cell 0;have x1:=D.o.cell 1;have x2:=D.o.cell 2;have HU:=la T;have HD:=la hd;have HP:=la S;have J:=la y;have HT:=la Z;have a:=la (λ(_:Unit)=>WE d ps ts _ _ B hn (by simp;omega) (HL.o.below (r.o.mono A)) hsz);have a:=la (λ(_:Nat)=>a.o ());obtain⟨E,t⟩:∃E:Prop,(Ef d ps ts.length=true/\Bi ps l=true)=E:=⟨_,rfl⟩;obtain⟨F,s⟩:∃F:Int,(if Ef d ps ts.length=true/\Bi ps l=true then 0 else 1)=F:=⟨_,rfl⟩;rw[s,t];have g:=la s;have n:=la t;clear hd S y T hsz Z s t;cases f:Ef d ps ts.length with
 | false=>{rw[f]at a;have a:=la (a.o 0);(have H:Hid (F=1):=by show _=_;rw[<-g.o,f];simp);(have HN:Hid (¬E):=by show ¬E;rw[<-n.o,f];simp);go_enter func82,ntmps82;go_wp2_with (go_at_call 128;refine a.o.mono ?_;rintro e W ⟨rfl,c⟩;have b:=la (r.o.trans (c.mono Aa)));go_ret2;exact⟨_,by rw[H.o];rfl,b.o,λh=>absurd h HN.o⟩}
 | true=>
  rw[f]at a;rw[f]at g n;have a:=la (a.o 0);clear f;go_enter func82,ntmps82;go_wp2_with (go_at_call 128;refine a.o.mono ?_;rintro e W ⟨rfl,c⟩;have b:=la (r.o.trans (c.mono Aa));have L:=la (D.o.below c);have BA:w.heap.size<W.heap.size:=(by have:=c.size;simp at this;omega));have K:=la (Sa.below (Ad.kept _) b.o HU.o);have z0:=L.o.cell 0;have z1:=L.o.cell 1;have z2:=L.o.cell 2;clear c x0 x1 x2
  go_loopw [7,13] (λs7 V wr=>∃k:Nat,k<=l.length/\V=pa k/\wr=W/\Hid ((l.take k).all (λi=>decide (0<=i)&& decide (i<ps.length))=true)) (λ_ V _=>l.length-(intOf V).toNat)
  case atStart=>exact⟨0,ja,rfl,rfl,rfl⟩
  case round=>
   obtain⟨k,hk,rfl,U,C⟩:=hrel;subst U;by_cases hlt:k<l.length
   {obtain⟨ib,io,rfl,_,q1⟩:=Sa.one K.o k hlt;have y:=Ta hlt;generalize hx:l[k]=x at*;have I:=la y;(have q:Hid (x∈l):=by rw[<-hx];exact Oa hlt);clear y hx;by_cases X:x<0;{have g0:=Hb X;have j:Hid (Bi ps l=false):=by{cases h:Bi ps l with| false=>exact rfl| true=>have:=List.all_eq_true.1 h x q.o;simp at this;omega};go_wp2;go_ret2;exact⟨_,by rw[<-g.o,j.o];rfl,b.o,λh=>by rw[<-n.o,j.o]at h;cases h.2⟩};{have g0:=Za X;by_cases Y:ps.length<=x;{have g1:=Hb Y;have j:Hid (Bi ps l=false):=by{cases h:Bi ps l with| false=>exact rfl| true=>have:=List.all_eq_true.1 h x q.o;simp at this;omega};go_wp2;go_ret2;exact⟨_,by rw[<-g.o,j.o];rfl,b.o,λh=>by rw[<-n.o,j.o]at h;cases h.2⟩};{have g1:=Za Y;have G:Hid ((l.take (k+1)).all (λi=>decide (0<=i)&& decide (i<ps.length))=true):=by{show _=_;rw[I.o,List.all_append,C.o];simp;omega};go_wp2;go_roundw;(case rel=>exact⟨_,ja,by go_num,by trivial,G⟩);case measure=>simp[intOf];omega}}}
   ·have z:Hid (Bi ps l=true):=by
     have:=C.o;rw[Kc ja]at this;exact this
    have zO:=@run_makeMap prog;go_wp2;go_ret2;have R:Da _ wr ((wr.alloc (.map #[] 0)).alloc (.cells #[.slice M d.length O,.slice N ps.length P,.slice at_ ts.length Q,.map (some wr.heap.size)] 208)):=Xq _ _ _;have m:=b.o.trans (R.mono b.o.size);have Qu:=b.o.size;refine⟨_,by rw[<-g.o,z.o];rfl,m,λ_=>⟨_,_,_,_,_,rfl,⟨(ID wr _ _ _).o,HD.o.below Jk.kept (m.mono A),HP.o.below jm.kept (m.mono A),J.o.below (Ad.kept _) (m.mono A),ja,ja,ja,by simp;omega,HT.o.on (m.mono A)⟩,fp.first ((Wb.made wr).alloc _) rfl⟩⟩
def Oo(ps:List Pv)(ids:List Na)(i:Nat):Bool:=match ps[i]? with|some p=>xi ids p.id|none=>false
def qj(ps:List Pv)(i:Nat):Na:=match ps[i]? with|some p=>p.id|none=>We
def RL(ps:List Pv)(ids:List Na):Bool:=ids.all λs=>ps.any λp=>Lh p.id s
def Dk(d:List Fa)(ps:List Pv)(ts:List Int)(ids:List Na):List Nat×Int:=
 Sk (Hn d (pd ps) (Jj ps) (Dj ts)) (Oo ps ids) ps.length (List.range ps.length) []
def Je(d:List Fa)(ps:List Pv)(ts:List Int)(ids:List Na):List Na×Int:=
 if Ef d ps ts.length=true then(if RL ps ids=true then((Dk d ps ts ids).1.map (qj ps),(Dk d ps ts ids).2)else([],11))else([],1)
theorem XE{ps:List Pv}{ids:List Na}(h:j<ps.length):Oo ps ids j=xi ids ps[j].id:=by grind [Oo]
theorem Mk{ps:List Pv}(h:j<ps.length):qj ps j=ps[j].id:=by grind [qj]
theorem ml{a b:Na}:Lh a b=true↔a=b:=by
 grind [Lh,Hp]
theorem eO{ps:List Pv}(c:ps.Pairwise λp q=>p.id≠q.id)(a:j<ps.length):∀k,k<=j->px ps[j].id (ps.drop k) k=j:=by
 intro k b
 induction hd:j-k generalizing k with
 | zero=>
  grind [List.drop_eq_getElem_cons,px,ml]
 | succ n d=>
  grind [List.drop_eq_getElem_cons,px,List.pairwise_iff_getElem,ml]
theorem rW{ps:List Pv}(b:ps.Pairwise λp q=>p.id≠q.id)(a:j<ps.length):px ps[j].id ps 0=j:=eO b a 0 ja
theorem ly{l:List Na}{s:Na}:xi l s=true↔s∈l:=by
 grind [xi,ml]
structure U' (d : List Fa) (ps : List Pv) (ts : List Int) (ids : List Na) (l : List Nat) : Prop where
 eq:(Je d ps ts ids).1=l.map (qj ps)
 ne:ps.Pairwise λp q=>p.id≠q.id
 inside:∀i∈l,i<ps.length/\xi ids (qj ps i)=true
 order:l.Pairwise (· < ·)
 none:∀i∈l,∀s∈ids,cM d ps ts (px s ps 0) i=false
 over:∀s∈ids,xi (l.map (qj ps)) s=true\/∃i∈l,cM d ps ts i (px s ps 0)=true
 some:l=[]↔ids=[]
theorem mA{d:List Fa}{ps:List Pv}{ts:List Int}{b:Nat}(g:Ef d ps ts.length=true)(a:j<ps.length)(c:b<ps.length):
  cM d ps ts j b=true↔(Hn d (pd ps) (Jj ps) (Dj ts) j b).2=0/\0<(Hn d (pd ps) (Jj ps) (Dj ts) j b).1:=by
 have f:YE ps j b=true:=by grind [YE]
 have e:sW d ps ts j b=Hn d (pd ps) (Jj ps) (Dj ts) j b:=by
  grind [sW]
 grind [cM,TK]
theorem DH{d:List Fa}{ps:List Pv}{ts:List Int}{ids:List Na}(h:(Je d ps ts ids).2=0):∃l,U' d ps ts ids l:=by
 unfold Je at h
 split at h
 ·next F=>
  split at h
  ·next w=>
   have E:=Dw F;have k:=tW h;have I:(Je d ps ts ids).1=(Dk d ps ts ids).1.map (qj ps):=by grind [Je]
   have c:∀s∈ids,∃j,j<ps.length/\qj ps j=s/\px s ps 0=j:=λs t=>by{have:=List.all_eq_true.1 w s t;rw[Ye]at this;obtain⟨p,y,z⟩:=this;obtain⟨j,f,rfl⟩:=List.mem_iff_getElem.1 y;have e:=ml.1 z;exact⟨j,f,by rw[Mk f,e],by rw[<-e];exact rW E.ids f⟩}
   have o:∀j (f:j<ps.length),qj ps j∈ids->Oo ps ids j=true:=λj f L=>by
    grind [XE,ly,Mk]
   have r:∀i∈(Dk d ps ts ids).1,i<ps.length/\xi ids (qj ps i)=true:=λi v=>by
    obtain⟨G,H,_⟩:=(k.mem i).1 v
    grind [XE,Mk]
   refine⟨_,I,E.ids,r,k.order,λi v s t=>?_,λs t=>?_,?_⟩
   ·obtain⟨j,f,C,u⟩:=c s t
    obtain⟨G,H,J⟩:=(k.mem i).1 v
    grind [mA,oy,gI]
   ·obtain⟨j,f,C,u⟩:=c s t
    rw[u]
    have g:j∈(List.range ps.length).filter (Oo ps ids):=by
     grind
    obtain⟨b,a,Am,m⟩:=iI (d:=d) (P:=pd ps) (R:=Jj ps) (T:=Dj ts) _ g;rw[Qp,Sh]at a;have q:b∈(Dk d ps ts ids).1:=(k.mem b).2 ⟨a.1,a.2,λx B A hne n=>m x (by grind) ((oy (k.err b a.1 a.2 x B A hne)).1 n)⟩;rcases Am with rfl|Am
    ·grind [ly]
    {right;(have hne:j≠b:=λe=>by grind);refine⟨b,q,(mA F a.1 f).2 ?_⟩;have D:=k.err j f (o j f (by grind)) b a.1 a.2 hne;exact⟨D,(oy D).2 Am⟩}
   ·constructor
    ·intro K
     cases ids with
     | nil=>rfl
     | cons s ids=>
      exfalso
      obtain⟨j,f,C,u⟩:=c s (Wa ..)
      have g:j∈(List.range ps.length).filter (Oo ps (s::ids)):=by
       grind
      obtain⟨b,a,Am,m⟩:=iI (d:=d) (P:=pd ps) (R:=Jj ps) (T:=Dj ts) _ g;rw[Qp,Sh]at a;have q:b∈(Dk d ps ts _).1:=(k.mem b).2 ⟨a.1,a.2,λx B A hne n=>m x (by grind) ((oy (k.err b a.1 a.2 x B A hne)).1 n)⟩
      grind
    ·rintro rfl
     cases e:(Dk d ps ts []).1 with
     | nil=>rfl
     | cons i l=>
      grind [ly]
  {cases h}
 {cases h}
section
def Pn(q:List Bool):Array Ea:=(q.map Value.bool).toArray
theorem Ew{W:Ca}{q:List Bool}(h:qb W j E (Pn q))(i:Nat)(a:i<q.length):W.cell? (Ja j i)=some (.bool (q.getD i false)):=by
 rw[h.cell]
 grind [Pn]
theorem fO(n:Nat):madeCells #[Value.bool false] n=Pn (List.replicate n false):=by
 refine Array.ext (by simp[size_madeCells,Pn]) λi a b=>?_
 grind [madeCells,Pn]
theorem UK(q:List Bool)(i:Nat):(Pn q).setIfInBounds i (.bool true)=Pn (q.set i true):=by
 grind [Pn]
structure Cp (W : Ca) (AB RB XB CB : Nat) (q : List Bool) : Prop where
 box:qb W AB 180 #[.slice (Nb RB) q.length q.length]
 row:qb W RB 4 (Pn q)
 Em:qb W XB 165 #[Ma CB]
variable {w0 W W' : Ca} {B CB KB AB RB XB : Nat} {d : List Fa} {ps : List Pv} {ts : List Int} {c0 c1 c2 : Ea} {q : List Bool}
theorem Cp.step{l:List (Int×Ea)}(h:Cp W AB RB XB CB q)(j:Wb (Value.int .i64) (λv:Ea=>v) W KB l)(a:Te KB W W'):Cp W' AB RB XB CB q:=by
 have d:∀ {b:Nat} {t:TypeId} {f:Array Ea},qb W b t f->b≠KB:=λ{b t f} i e=>by{subst e;obtain⟨k,c,g,_⟩:=j;rw[i]at g;cases g}
 exact⟨a.Pd h.box (d h.box),a.Pd h.row (d h.row),a.Pd h.Em (d h.Em)⟩
theorem Cp.below(h:Cp W AB RB XB CB q)(a:Da W.heap.size W W'):Cp W' AB RB XB CB q:=⟨h.box.below a,h.row.below a,h.Em.below a⟩
theorem jI(O:pU w0 B CB KB d ps ts c0 c1 c2)(P:fp w0 KB d ps W)(G:Cp W AB RB XB CB q)(J:q.length=ps.length)(hn:ps.length<=1000)(a:Nat)(ha:a<ps.length)(C:ts.length=ps.length)(hsz:∀p∈ps,p.cond.size<=1000000):
  Db 96 #[pa a,Ma AB,Ma XB] W λe W'=>
   e=.returned (.tuple #[.bool (ji (Hn d (pd ps) (Jj ps) (Dj ts)) (λi=>q.getD i false) a (List.range ps.length) false).1,pa (ji (Hn d (pd ps) (Jj ps) (Dj ts)) (λi=>q.getD i false) a (List.range ps.length) false).2])/\Hid (fp w0 KB d ps W')/\Hid (Te KB W W'):=by
 have Z:=la (λb hb w (h:fp w0 KB d ps w)=>dO O h b a hb ha C hsz);generalize Hn d _ _ _=z at*
 obtain⟨y,v⟩:∃y,ji z (λi=>q.getD i false) a (List.range ps.length) false=y:=⟨_,rfl⟩;rw[v];have E:=la v;have Y:=la P;have V:=la G;have N:=la J;have T:=G.box.cell 0;have hal:(a:Int)<=1000:=by omega
 rw[J]at T;clear v O P G J C hsz;go_enter func96,ntmps96;go_wp2
 go_loopw [4,11] (λsv K wr=>∃(k:Nat) (u:Bool),k<=ps.length/\K=pa k/\sv=.bool u/\Hid (y=ji z (λi=>q.getD i false) a ((List.range ps.length).drop k) u)/\Hid (fp w0 KB d ps wr)/\Hid (Te KB W wr)/\Hid (Cp wr AB RB XB CB q)) (λ_ K _=>ps.length-(intOf K).toNat)
 case atStart=>exact⟨0,false,ja,rfl,rfl,E.o.symm,Y,la (Te.jc (za _ _)),V⟩
 case round=>
  obtain⟨k,u,hk,rfl,rfl,D,s,j,c⟩:=hrel;have y0:=c.o.box.cell 0;rw[N.o]at y0;clear T;by_cases hlt:k<ps.length
  {have m:=D.o;rw[Gc (by rw[Jd];exact hlt),List.getElem_range,ji]at m;have y1:=Ew c.o.row k (by rw[N.o];exact hlt);have y2:=c.o.Em.cell 0;have kF:0<=(k:Int):=Xb _;(have CZ:k<(ps.length:Int):=ja);obtain⟨L,A⟩:∃L,q.getD k false=L:=⟨_,rfl⟩;rw[A]at y1 m;clear A;cases L with| false=>{(have g:Hid (y=ji z (λi=>q.getD i false) a ((List.range ps.length).drop (k+1)) u):=by show _=_;rw[m,if_neg (λh=>by cases h.1)]);go_wp2;go_roundw;(case rel=>exact⟨_,u,ja,by go_num,rfl,g,s,j,c⟩);case measure=>simp[intOf];omega}| true=>{by_cases x:a=k;{(have g:Hid (y=ji z (λi=>q.getD i false) a ((List.range ps.length).drop (k+1)) u):=by show _=_;rw[m,if_neg (λh=>h.2 x)]);(have gk:(a==(k:Int))=true:=by simp;omega);go_wp2;go_roundw;(case rel=>exact⟨_,u,ja,by go_num,rfl,g,s,j,c⟩);case measure=>simp[intOf];omega};{(have gk:(a==(k:Int))=false:=by simp;omega);rw[Ga ⟨rfl,x⟩]at m;have t:=la (Z.o k hlt wr s.o);obtain⟨X,Q⟩:∃X,z k a=X:=⟨_,rfl⟩;rw[Q]at m t;obtain⟨xn,U⟩:=X;simp only at m t;obtain⟨l,R,_⟩:=s.o.map;have M:=la R;clear Q D x R;by_cases H:U=0;{subst H;rw[Ga rfl]at m;obtain⟨F,I⟩:∃F,decide (0<xn)=F:=⟨_,rfl⟩;rw[I]at m;have g:Hid _:=m;cases u with| true=>{go_wp2_with (go_at_call 83;refine t.o.mono ?_;rintro e S ⟨rfl,r,f⟩);go_roundw;(case rel=>exact⟨k+1,true,ja,by go_num,rfl,by rw[g.o];rfl,r,la (j.o.trans f.o),la (c.o.step M.o f.o)⟩);case measure=>simp[intOf];omega}| false=>{go_wp2_with (go_at_call 83;refine t.o.mono ?_;rintro e S ⟨rfl,r,f⟩);go_roundw;(case rel=>exact⟨k+1,F,ja,by go_num,Aa,by rw[g.o];rfl,r,la (j.o.trans f.o),la (c.o.step M.o f.o)⟩);case measure=>simp[intOf];omega}};{rw[if_neg H]at m;have n:Hid _:=m;(have gE:(U !=0)=true:=by simpa using H);go_wp2_with (go_at_call 83;refine t.o.mono ?_;rintro e S ⟨rfl,r,f⟩);go_ret2;exact⟨by rw[n.o];rfl,r,la (j.o.trans f.o)⟩}}}}
  ·have n:Hid (y=(u,0)):=by
    show _=_
    rw[D.o,Bb (by rw[Jd];omega)];rfl
   go_wp2;go_ret2;exact⟨by rw[n.o];rfl,s,j⟩
end
end Go.Proofs.YtdipkbobalnilaaGreatDoor
