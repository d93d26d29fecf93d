/- The walk of Answer$1: a rule of the question that applies. No conditions. -/
import Derived.Test.YtdipkbobalnilaaGreatDoorAl
import Derived.Test.YtdipkbobalnilaaGreatDoorRkYA
import Derived.Test.YtdipkbobalnilaaGreatDoorJdPA
import Derived.Test.YtdipkbobalnilaaGreatDoorVisA
set_option maxRecDepth 100000
set_option maxHeartbeats 4000000
namespace Go.Proofs.YtdipkbobalnilaaGreatDoor
open Tryz
open Go.RowKit
variable{j:Nat}{Z:Int}{E:TypeId}{A:Option Addr}
theorem Ln:∃i z,prog.info? 9=some i/\i.size=1/\i.zero=some z/\z.cells.size=1/\i.bytes=16:=by
 have h:(prog.info? 9).map (λi=>(i.size,i.zero.map (·.cells.size),i.bytes))=some (1,some 1,16):=by kernel_rfl
 grind [Option.map_eq_some_iff]
theorem ZV(w:Ca)(t:TypeId)(a:List Ea):∀j u,a[j]? =some u->(w.alloc (.cells a.toArray t)).cell? ((Ya w.heap.size:Addr).add j)=some u:=λj u h=>by
 grind [Addr.add_mid,World.cell?_alloc_new]
theorem yl{W:Ca}{n:Nat}{v:Ea}{l:List Na}(h:W.ownsRow j 9 1 v n (l.map Value.string))(k:n=l.length):Sc W W.heap.size l v:=by
 subst k;rcases h.2 with⟨rfl,b⟩|⟨g,cap,a,rfl,_,e,c,d,m,o⟩
 {obtain rfl:=List.length_eq_zero_iff.1 b;exact⟨none,0,rfl,ja,ja,λh=>absurd rfl h⟩}
 {refine⟨_,_,rfl,c,d,λhne=>⟨g,0,rfl,(Array.getElem?_eq_some_iff.1 e).1,λi f=>?_⟩⟩;show W.cell? _=_;rw[Vb,oh,h.cellAt i ja,gd,Xa f];rfl}
def oq(out:List Na)(p:Pv):List Na:=if p.kind=2/\xi out p.name=false then out++[p.name]else out
theorem WC:∀(a:List Pv) (out:List Na),(a.foldl oq out).length<=out.length+a.length
 | [],out=>by simp
 | p::a,out=>by{rw[Nd];have h:=WC a (oq out p);(have b:(oq out p).length<=out.length+1:=by unfold oq;split<;>simp);rw[Qb];omega}
theorem bA{c a:Type}(f:a->c->a)(b:a)(l:List c)(k:Nat)(h:k<l.length):(l.take (k+1)).foldl f b=f ((l.take k).foldl f b) l[k]:=by
 grind [List.take_succ_eq_append_getElem]
theorem aB(d:List Fa)(f:List Pv)(X:List Int)(v:Ea)(w:Ca)(hn:f.length<=1000)(hl:Gj w w.heap.size d f X v):
  Db 13 #[v] w λe V=>∃r,e=.returned r/\Da w.heap.size w V/\Sc V V.heap.size (f.foldl oq []) r:=by
 obtain⟨u1,u2,u3,rfl,hd,hp,ht⟩:=hl;obtain⟨ad,cd,rfl,_⟩:=Sa.shape hd;obtain⟨ap,cp,rfl,_⟩:=Sa.shape hp;obtain⟨at_,ct,rfl,_⟩:=Sa.shape ht;obtain⟨i0,z0,Kw,CO,yx,U,tm⟩:=Ln;have n:Hid (Da _ w (w.alloc (.cells #[.slice ad d.length cd,.slice ap f.length cp,.slice at_ X.length ct] 28))):=(za _ _).alloc (wa _) _;have y1:=(qb.new w 28 #[.slice ad d.length cd,.slice ap f.length cp,.slice at_ X.length ct]).cell 1;have HP:=la (hp.below jm.kept n.o);obtain⟨W,hW⟩:∃W,(w.alloc (.cells #[.slice ad d.length cd,.slice ap f.length cp,.slice at_ X.length ct] 28))=W:=⟨_,rfl⟩;rw[hW]at n y1 HP;have HW:=la hW;clear hd hp ht hW;go_enter func13,ntmps13;go_upto_region 1 with(fail);rw[HW.o];go_wp2
 go_loopw [3,9] (λov iv wr=>∃(k:Nat) (out:List Na),k<=f.length/\iv=pa k/\Hid (out=(f.take k).foldl oq [])/\Hid (wr.ownsRow W.heap.size 9 1 ov out.length (out.map Value.string))/\Hid (Da W.heap.size W wr)) (λ_ iv _=>f.length-(intOf iv).toNat)
 case atStart=>exact⟨0,[],ja,rfl,rfl,Ec _ _ _ _,za _ _⟩
 case round=>
  obtain⟨k,out,hk,rfl,HX,A,z⟩:=hrel;obtain⟨va,vc,rfl⟩:=Xd A.o;have Q:=n.o.size;have P5:=z.o.size
  have U3:out.length<=1000:=by{have:=WC (f.take k) [];rw[<-HX.o,de]at this;simp at this;omega}
  by_cases hlt:k<f.length
  ·obtain⟨b,off,rfl,Tn,I,K,H,J,hr,_⟩:=Sa.at (HP.o.below jm.kept (z.o.mono Q)) k hlt
   have t:Hid ((f.take (k+1)).foldl oq []=oq out f[k]):=by show _=_;rw[bA, <-HX.o]
   generalize f[k]=p at*
   have E:=la hr;clear hr;have i:Hid (∀O,Da wr.heap.size wr O->Db 29 #[.slice va out.length vc,.string p.name] O λe V=>e=.returned (.bool (out.any λx=>Lh p.name x))/\O=V):=λO L=>yg out p.name _ O _ (yl (Wd A.o L) rfl)
   have S:(out.any λx=>Lh p.name x)=xi out p.name:=by{unfold xi;congr 1;funext x;unfold Lh;rw[Rc,Pc,Pc];exact eq_comm}
   rw[S]at i;by_cases m:p.kind=2
   ·have t1:(p.kind==2)=true:=by simp[m]
    cases L:xi out p.name with
    | true=>
     rw[L]at i;have l:Hid (out=(f.take (k+1)).foldl oq []):=by show _=_;rw[t.o];unfold oq;rw[if_neg (by rw[L];simp)]
     go_wp2_with (first
      | ((with_reducible show wpList _ _ _ (⟨_,Op.load 38 (.tmp 11),_,_,_,_⟩::_) _ _);refine Lc rfl (.tmp 11) rfl rfl p I K H J E.o Tryz.underlying38 rfl Pv.Dg ?_)
      | (((with_reducible show wpList _ _ _ (⟨_,Op.store 38 (.tmp 5) (.tmp 12),_,_,_,_⟩::_) _ _);refine Vc rfl (.tmp 5) (.tmp 12) rfl p I K H J rfl rfl ?Sj Pv.Dg ?_;(case Sj=>rfl);intro P c G a R;have B:=a 2 _ rfl;have D:=a 3 _ rfl;have N:=la a;clear a);have s:=la (Wd A.o c))
      | (go_at_call 29;refine(i.o _ La).mono ?_;rintro e w4 ⟨rfl,rfl⟩))
     go_roundw
     case rel=>exact⟨_,out,ja,by go_num,l,s,la (z.o.trans (c.mono ja))⟩
     case measure=>simp[intOf];omega
    | false=>
     rw[L]at i;have l:Hid (out++[p.name]=(f.take (k+1)).foldl oq []):=by show _=_;rw[t.o];unfold oq;rw[Ga ⟨m,L⟩]
     clear t m S
     go_wp2_with (first
      | ((with_reducible show wpList _ _ _ (⟨_,Op.load 38 (.tmp 11),_,_,_,_⟩::_) _ _);refine Lc rfl (.tmp 11) rfl rfl p I K H J E.o Tryz.underlying38 rfl Pv.Dg ?_)
      | (((with_reducible show wpList _ _ _ (⟨_,Op.store 38 (.tmp 5) (.tmp 12),_,_,_,_⟩::_) _ _);refine Vc rfl (.tmp 5) (.tmp 12) rfl p I K H J rfl rfl ?Sj Pv.Dg ?_;(case Sj=>rfl);intro P c G a R;have B:=a 2 _ rfl;have D:=a 3 _ rfl;have N:=la a;clear a);have s:=la (Wd A.o c);have M:Hid (Da wr.heap.size wr (P.alloc (.cells #[.string p.name] 9))):=c.alloc c.size _;have j9:=la (Wd A.o M.o);have Y:Hid (∀j u,([.string p.name]:List Ea)[j]? =some u->(P.alloc (.cells #[.string p.name] 9)).cell? ((Ya (wr.heap.size+1):Addr).add j)=some u):=(by have q:=ZV P 9 [.string p.name];rw[G]at q;exact q))
      | (go_at_call 29;refine(i.o _ La).mono ?_;rintro e w4 ⟨rfl,rfl⟩)
      | (at_builtin;go_loud (refine wpList_append_own_at _ rfl (.tmp 23) (.tmp 26) 33 rfl W.heap.size 9 i0 z0 1 16 Tryz.underlying33 Kw yx CO tm U Ba (.slice va out.length vc) _ _ rfl j9.o (Ya (wr.heap.size+1)) 1 1 [.string p.name] rfl rfl Y.o (by intro u hu;simp at hu;subst hu;rfl) (by unfold maxLen;omega) ja (by have:=c.size;simp;omega) ?_;intro v9 w9 F y WL aW)))
     have C:=(z.o.trans (M.o.mono z.o.size)).grown y (by have:=z.o.size;have:=c.size;simp;omega) (λg e=>(A.o.lt g e).1)
     have Z:Hid (w9.ownsRow W.heap.size 9 1 v9 (out++[p.name]).length ((out++[p.name]).map Value.string)):=by{show World.ownsRow _ _ _ _ _ _ _;rw[Qa,Pb];exact F}
     go_roundw
     case rel=>exact⟨_,_,ja,by go_num,l,Z,la C⟩
     case measure=>simp[intOf];omega
   ·have t1:(p.kind==2)=false:=by simpa using m
    have l:Hid (out=(f.take (k+1)).foldl oq []):=by show _=_;rw[t.o];unfold oq;rw[if_neg (λh=>m h.1)]
    go_wp2_with (first
     | ((with_reducible show wpList _ _ _ (⟨_,Op.load 38 (.tmp 11),_,_,_,_⟩::_) _ _);refine Lc rfl (.tmp 11) rfl rfl p I K H J E.o Tryz.underlying38 rfl Pv.Dg ?_)
     | (((with_reducible show wpList _ _ _ (⟨_,Op.store 38 (.tmp 5) (.tmp 12),_,_,_,_⟩::_) _ _);refine Vc rfl (.tmp 5) (.tmp 12) rfl p I K H J rfl rfl ?Sj Pv.Dg ?_;(case Sj=>rfl);intro P c G a R;have B:=a 2 _ rfl;have D:=a 3 _ rfl;have N:=la a;clear a);have s:=la (Wd A.o c)))
    go_roundw
    case rel=>exact⟨_,out,ja,by go_num,l,s,la (z.o.trans (c.mono ja))⟩
    case measure=>simp[intOf];omega
  {(have YO:Hid (out=f.foldl oq []):=by have:=HX.o;rw[Kc ja]at this;exact this);go_wp2;go_ret;exact⟨_,rfl,n.o.trans (z.o.mono Q),by rw[<-YO.o];exact yl A.o rfl⟩}
theorem LH(ids:List Na)(v:Ea)(i:Nat)(T:Array Ea)(P:Na->Bool)(w:Ca)(B:Nat)(V:B<=w.heap.size)(hn:ids.length<=1000)(eg:∀args w,(callFunc i args).run prog w=.ok (.enter i args) w)(J:Sc w B ids v)
  (Q:∀q s,Da w.heap.size w q->Db i (#[.string s]++T) q λe G=>e=.returned (.bool (P s))/\Da q.heap.size q G):
  Db 58 #[v,.func (.func i) #[] T] w λe O=>∃r,e=.returned r/\Da w.heap.size w O/\Sc O O.heap.size (ids.filter P) r:=by
 obtain⟨ap,cp,rfl,p1,p2,_⟩:=Sa.shape J;obtain⟨Z,z0,I,L,M,n,H⟩:=Ln;have U:=la J;have y:=la Q;clear J Q;go_enter func58,ntmps58;go_wp2
 go_loopw [5,10] (λov N wr=>∃(k:Nat) (out:List Na),k<=ids.length/\N=pa k/\Hid (out=(ids.take k).filter P)/\Hid (wr.ownsRow w.heap.size 9 1 ov out.length (out.map Value.string))/\Hid (Da w.heap.size w wr)) (λ_ N _=>ids.length-(intOf N).toNat)
 case atStart=>exact⟨0,[],ja,rfl,rfl,Ec _ _ _ _,za _ _⟩
 case round=>
  obtain⟨k,out,hk,rfl,E,l,d⟩:=hrel;obtain⟨va,vc,rfl⟩:=Xd l.o;have Y:=d.o.size
  have X:out.length<=1000:=by{have:=ve P (ids.take k);rw[<-E.o,de]at this;omega}
  by_cases hlt:k<ids.length
  ·obtain⟨b,off,rfl,W,hs⟩:=Sa.one (Sc.below (d.o.mono V) U.o) k hlt
   have m:Hid ((ids.take (k+1)).filter P=out++if P ids[k]=true then[ids[k]]else[]):=by{show _=_;rw[Ta,yd, <-E.o,Jc,Jf]}
   have p:=la (y.o wr ids[k] d.o);generalize ids[k]=s at*
   cases t:P s with
   | false=>{rw[t]at p;(have f:Hid (out=(ids.take (k+1)).filter P):=by show _=_;rw[m.o,if_neg (by rw[t];simp),ud]);go_wp2_with (go_at_fn i;refine p.o.mono ?_;rintro e x ⟨rfl,a⟩);go_roundw;(case rel=>exact⟨_,out,ja,by go_num,f,la (Wd l.o a),la (d.o.trans (a.mono ja))⟩);case measure=>simp[intOf];omega}
   | true=>
    rw[t]at p;have f:Hid (out++[s]=(ids.take (k+1)).filter P):=by show _=_;rw[m.o,Ga t]
    go_wp2_with (first
     | (go_at_fn i;refine p.o.mono ?_;rintro e x ⟨rfl,a⟩;have j:Hid (Da wr.heap.size wr (x.alloc (.cells #[.string s] 9))):=a.alloc a.size _;have D:=la (Wd l.o j.o);have z:=la (ZV x 9 [.string s]))
     | (at_builtin;go_loud (refine wpList_append_own_at _ rfl (.tmp 17) (.tmp 19) 33 rfl w.heap.size 9 Z z0 1 16 Tryz.underlying33 I M L H n Ba (.slice va out.length vc) _ _ rfl D.o (Ya x.heap.size) 1 1 [.string s] rfl rfl z.o (by intro u S;simp at S;subst S;rfl) (by unfold maxLen;omega) ja (by have:=a.size;simp;omega) ?_;intro v9 w9 h c K R)))
    have C:=(d.o.trans (j.o.mono d.o.size)).grown c (by have:=d.o.size;have:=a.size;simp;omega) (λg e=>(l.o.lt g e).1)
    have A:Hid (w9.ownsRow w.heap.size 9 1 v9 (out++[s]).length ((out++[s]).map Value.string)):=by{show World.ownsRow _ _ _ _ _ _ _;rw[Qa,Pb];exact h}
    go_roundw
    case rel=>exact⟨_,_,ja,by go_num,f,A,la C⟩
    case measure=>simp[intOf];omega
  {(have F:Hid (out=ids.filter P):=by have:=E.o;rw[Kc ja]at this;exact this);go_wp2;go_ret;exact⟨_,rfl,d.o,by rw[<-F.o];exact yl l.o rfl⟩}
theorem vS(l:List Na)(s:Na)(K:Nat)(v:Ea)(w:Ca)(i:w.cell? (Ya K)=some v)(a:Sc w w.heap.size l v):
  Db 59 #[.string s,Ma K] w λe f=>e=.returned (.bool (!l.any λx=>Lh s x))/\Da w.heap.size w f:=by
 obtain⟨g,h,rfl,_⟩:=Sa.shape a;have b:=la (λc d=>yg l s _ c _ (Sc.below d a));go_enter func59,ntmps59;go_wp2_with (go_at_call 29;refine(b.o _ (za _ _)).mono ?_;rintro e j ⟨rfl,rfl⟩);go_ret;exact⟨rfl,za _ _⟩
theorem ju(d:List Fa)(b:List Pv)(c:List Int)(v:Ea)(w:Ca)(y:b.length<=1000)(r:Gj w w.heap.size d b c v)(hsz:∀p∈b,p.cond.size<=1000000)(u:Jh w.heap.size w):
  Db 26 #[v] w λe j=>e=.returned (.bool ((Je d b c []).2==0))/\Da w.heap.size w j:=by
 have s:=la r;obtain⟨u1,u2,u3,rfl,hd,z,A⟩:=r;obtain⟨k,m,rfl,_⟩:=Sa.shape hd;obtain⟨l,n,rfl,_⟩:=Sa.shape z;obtain⟨at_,q,rfl,_⟩:=Sa.shape A;have a:Hid (Da _ w (w.alloc (.cells #[.slice k d.length m,.slice l b.length n,.slice at_ c.length q] 28))):=(za _ _).alloc (wa _) _;have g:=qb.new w 28 #[.slice k d.length m,.slice l b.length n,.slice at_ c.length q];have D:=g.cell 0;have F:=g.cell 1;have G:=g.cell 2;have f:=la (MH d b c [] _ Ua _ y ((s.o.below a.o).mono a.o.size) ⟨none,0,rfl,wa _,Lb _,λh=>absurd rfl h⟩ hsz (λj h=>u j (a.o.trans (h.mono a.o.size))));obtain⟨E,t⟩:∃E,(Je d b c []).2=E:=⟨_,rfl⟩;rw[t]at f⊢;go_enter func26,ntmps26;go_wp2_with (go_at_call 56;refine f.o.mono ?_;rintro e C ⟨x,rfl,i,B⟩);go_ret;exact⟨rfl,a.o.trans (i.mono a.o.size)⟩
def Qh(W:Ca)(B:Nat)(a:Jo)(v:Ea):Prop:=∃(b c:Ea),v=.agg #[pa a.state,pa a.value,b,c]/\Sc W B a.by_ b/\Sc W B a.over c
theorem Qh.nil(W:Ca)(B:Nat):Qh W B Qi (.agg #[pa 0,pa 0,Ua,Ua]):=
 ⟨_,_,rfl,⟨none,0,rfl,Lb _,ja,λh=>absurd rfl h⟩,⟨none,0,rfl,Lb _,ja,λh=>absurd rfl h⟩⟩
theorem qb.four{w:Ca}{a b c c3:Ea}(h:qb w j E #[a,b,c,c3]):(w.cell? (Ya j)=some a/\w.cell? (Ja j 1)=some b/\w.cell? (Ja j 2)=some c/\w.cell? (Ja j 3)=some c3)/\w.frozen? (Ya j)=false/\w.frozen? (Ja j 1)=false/\w.frozen? (Ja j 2)=false/\w.frozen? (Ja j 3)=false:=
 ⟨⟨h.cell 0,h.cell 1,h.cell 2,h.cell 3⟩,h.frozen 0,h.frozen 1,h.frozen 2,h.frozen 3⟩
theorem Oj{W d:Ca}{l:List Na}{v:Ea}{b:Nat}{e:Array Ea}(h:Sc W j l v)(o:qb W b E e)(r:∀(i:Nat) (s:Na),e[i]? ≠some (.string s))(hs:∀k,k<W.heap.size->k≠b->d.heap[k]? =W.heap[k]?):Sc d j l v:=by
 obtain⟨f,cap,rfl,g,m,n⟩:=h;refine⟨f,cap,rfl,g,m,λhne=>?_⟩;obtain⟨a,off,rfl,hlt,hcc⟩:=n hne;refine⟨a,off,rfl,hlt,λi p=>?_⟩;have q:W.cell? _=some _:=hcc i p;have c:a≠b:=by rintro rfl;rw[o.cell]at q;grind
 exact(World.cell?_of_block (hs a (Kb _ _ q) c)).trans q
theorem dm(W:Ca)(b:Nat)(a c d e:Ea):∀k,k<W.heap.size->k≠b->((((W.setCell (Ya b) a).setCell (Ja b 1) c).setCell (Ja b 2) d).setCell (Ja b 3) e).heap[k]? =W.heap[k]? :=λk _ h=>by
 grind [heap_setCell_other]
theorem cj{b:Int}{y:Option Addr}{m c k:Nat}:∀(i:Nat) (s:Na),(#[Value.int .i64 Z,pa b,.slice A j c,.slice y m k])[i]? ≠some (.string s):=by
 grind
theorem cA{w c e:Ca}{row:Option Nat}(h:w.grownBy c row)(a:Da c.heap.size c e):w.grownBy e row:=
 ⟨a.os.trans h.os,a.tape.trans h.tape,a.output.trans h.output,ub h.size a.size,λb d f=>(a.block b (Zb d h.size)).trans (h.block b d f)⟩
theorem Xz(d:List Fa)(c:List Pv)(C:List Int)(ids:List Na)(v u:Ea)(w:Ca)(hn:c.length<=1000)(CX:ids.length<=1000)(hl:Gj w w.heap.size d c C v)(hu:Sc w w.heap.size ids u)(hsz:∀p∈c,p.cond.size<=1000000)(hT:Jh w.heap.size w):
    Db 30 #[v,u] w λe i=>∃x,e=.returned (.tuple #[x,pa (Rh d c C ids).2])/\Da w.heap.size w i/\Qh i i.heap.size (Rh d c C ids).1 x:=by
  have HL:=la hl;obtain⟨u1,u2,u3,rfl,hd,hp,ht⟩:=hl;obtain⟨ad,cd,rfl,_⟩:=Sa.shape hd;obtain⟨ap,cp,rfl,_⟩:=Sa.shape hp;obtain⟨at_,ct,rfl,_⟩:=Sa.shape ht;have HU:=la hu;obtain⟨ai,ci,rfl,_⟩:=Sa.shape hu;have f:Hid (Da _ w ((w.alloc (.cells #[.slice ad d.length cd,.slice ap c.length cp,.slice at_ C.length ct] 28)).alloc (.cells #[pa 0,pa 0,Ua,Ua] 42))):=(((za _ _).alloc (wa _) _).alloc Aa _);have K0:=(qb.new w 28 #[.slice ad d.length cd,.slice ap c.length cp,.slice at_ C.length ct]).alloc (.cells #[pa 0,pa 0,Ua,Ua] 42)
  have K1:qb ((w.alloc (.cells #[.slice ad d.length cd,.slice ap c.length cp,.slice at_ C.length ct] 28)).alloc (.cells #[pa 0,pa 0,Ua,Ua] 42)) (w.heap.size+1) 42 #[pa 0,pa 0,Ua,Ua]:=by{have q:=qb.new (w.alloc (.cells #[.slice ad d.length cd,.slice ap c.length cp,.slice at_ C.length ct] 28)) 42 #[pa 0,pa 0,Ua,Ua];simpa only[Ia]using q}
  have HP:=la (hp.below jm.kept f.o);obtain⟨W,hW⟩:∃W,((w.alloc (.cells #[.slice ad d.length cd,.slice ap c.length cp,.slice at_ C.length ct] 28)).alloc (.cells #[pa 0,pa 0,Ua,Ua] 42))=W:=⟨_,rfl⟩;rw[hW]at f K0 K1 HP;have HW:=la hW;have N:=f.o.size;have J3:=la (MH d c C ids _ _ W hn ((HL.o.below f.o).mono N) (Sa.mono (Ad.mono _) N (Sa.below (Ad.kept _) f.o hu)) hsz (λi h=>hT i (f.o.trans (h.mono N))));have HUW:=la (Sa.below (Ad.kept _) f.o hu);obtain⟨G,hBB⟩:∃G,Je d c C ids=G:=⟨_,rfl⟩;obtain⟨AA,F0⟩:∃AA,Rh d c C ids=AA:=⟨_,rfl⟩
  have I:Hid (AA=if G.2=0 then(⟨(c.foldl (Tk G.1) (0,0)).1,(c.foldl (Tk G.1) (0,0)).2,G.1,ids.filter λs=> !xi G.1 s⟩,0)else(Qi,G.2)):=by{show _=_;rw[<-F0, <-hBB];rfl}
  rw[hBB]at J3;rw[F0];have UL:=K1.lt;have Bt:=la K0;have Zu:=la K1;have x0:=K0.cell 0;have x1:=K0.cell 1;have x2:=K0.cell 2;obtain⟨a,er⟩:=G;clear hd hp ht hu hW K0 K1 F0 hBB;go_enter func30,ntmps30;go_upto_region 1 with(fail);rw[HW.o];go_upto_region 2 with(go_at_call 56;refine J3.o.mono ?_;rintro e T ⟨x,rfl,jy,hx4⟩;obtain⟨D,E,rfl,_⟩:=Sa.shape hx4;have V9:=la hx4;have Lk:=la jy;clear hx4 jy);have hQ:=qb.new T 33 #[.slice D a.length E];have N7:=Lk.o;have FI:=N7.size;have j:Hid (Da _ W (T.alloc (.cells #[.slice D a.length E] 33))):=N7.alloc FI _;have hQW:T.heap.size<(T.alloc (.cells #[.slice D a.length E] 33)).heap.size:=by simp
  obtain⟨g,M⟩:∃g,T.alloc (.cells #[.slice D a.length E] 33)=g:=⟨_,rfl⟩;rw[M]at hQ j hQW
  have Y:Hid (Sc g g.heap.size a (.slice D a.length E)):=by{have q:=Sa.mono (Ad.mono _) (jh _) (Sa.below (Ad.kept _) ((za _ T).alloc (wa _) (.cells #[.slice D a.length E] 33)) V9.o);rw[M]at q;exact Sa.mono (Ad.mono _) ja q}
  have X:=la M;generalize hQQ:T.heap.size=Q at*
  have HQ:=la hQ;clear M hQQ hQ;by_cases he:er=0
  . have e1:(er !=0)=false:=by simp[he]
    have OD:Hid (∀i,Hid _->i.cell? (Ya Q)=some (.slice D a.length E)/\Hid (Da g.heap.size g i)):=λi h=>⟨(HQ.o.below h.o).cell 0,h⟩
    have O3:Hid (∀i,Hid (Da g.heap.size g i)->Db 58 #[.slice ai ids.length ci,.func (.func 59) #[] #[.pointer (some ⟨Q,0,none⟩)]] i λe w''=>∃(z:Option Addr) (A:Nat),e=.returned (.slice z (ids.filter λs=> !xi a s).length A)/\Hid (Sc w'' w''.heap.size (ids.filter λs=> !xi a s) (.slice z (ids.filter λs=> !xi a s).length A))/\Hid (Da g.heap.size g w'')/\Hid (Da i.heap.size i w'')):=by
      intro i O;have m:=j.o.trans (O.o.mono j.o.size);have aeK:Da w.heap.size W i:=⟨m.os,m.tape,m.output,m.size,λb h=>m.block b ja⟩;refine(LH ids _ _ _ (λs=> !xi a s) i _ ja CX (enters_of func59 Ha rfl) (Sa.mono (Ad.mono _) (ub N m.size) (Sa.below (Ad.kept _) aeK HUW.o)) λZ s AI=>?_).mono ?_
      . have Am:=O.o.trans (AI.mono O.o.size)
        refine(vS a s Q _ Z ((HQ.o.below Am).cell 0) (Sa.mono (Ad.mono _) Am.size (Sa.below (Ad.kept _) Am Y.o))).mono ?_;rintro e w'' ⟨rfl,R⟩;refine⟨?_,R⟩;congr 3
        unfold xi;congr 1
        funext x;unfold Lh;rw[Rc,Pc,Pc];exact eq_comm
      . rintro e w'' ⟨r,rfl,h1,R⟩
        obtain⟨z,A,rfl,_⟩:=Sa.shape R;exact⟨z,A,rfl,R,O.o.trans (h1.mono O.o.size),h1⟩
    have hA:=I.o;rw[Ga he]at hA;have HA':=la hA;clear hA I;subst he;generalize(ids.filter λs=> !xi a s)=ov at*
    go_upto_region 4 with(fail);rw[X.o];clear X
    go_cut[8] (λs8 wx=>∃(F:Nat) (z:Option Addr) (A:Nat),s8=Ma F/\Hid (qb wx F 42 #[pa 0,pa 0,.slice D a.length E,.slice z ov.length A])/\Hid (Sc wx wx.heap.size ov (.slice z ov.length A))/\Hid (Da g.heap.size g wx)/\Hid (g.heap.size<=F))
    case first=>
      refine wp_region_held_drew (S:=λi=>Hid _) Ha (la ((za g.heap.size g).drew)) (λMb=>?_);refine tk 0 ?v0 ?y0 ?_
      case y0=>(intro w9 Be;obtain⟨y0, -⟩:=OD.o w9 Be;go_simp;try with_reducible rfl)
      refine tp 1 ?_;refine tp 2 ?_;refine tt 3 5 (λK n=>?_) (λK n=>?_)
      rotate_left
      (go_simp;refine n.o _ _ ?_ (λMb=>?_); · exact yj ja)
      (clear n K;have aS:Hid (qb (g.drew.alloc (.cells #[pa 0,pa 0,Ua,Ua] 42)) g.heap.size _ _):=qb.new _ _ _;refine tr 3 (λK n=>?_))
      all_goals
        go_simp
        (go_at_call 58;refine(O3.o _ La).mono ?_;rintro e w8 ⟨z,A,rfl,UT,t,UX⟩)
        refine n.o _ _ ?_ (λMb=>?_)
        . exact t
        clear n K;refine tp 4 ?_
        first
          | (have HN:=aS.o.below UX.o
             obtain⟨⟨n0,n1,n2,n3⟩,g0,g1,g2,g3⟩:=HN.four
             have HNN:=la HN
             clear HN)
          | (refine tr 5 (λK n=>?_)
             go_simp
             refine n.o _ _ ?_ (λMb=>?_)
             . exact yj t
             clear n K)
        refine tr 6 (λK n=>?_)
        go_simp
        refine n.o _ _ ?_ (λMb=>?_)
        . first
            | exact((((t.o.setCell (p:=Ya g.heap.size) (wa _) _).setCell (p:=Ja g.heap.size 1) (wa _) _).setCell (p:=Ja g.heap.size 2) (wa _) _).setCell (p:=Ja g.heap.size 3) (wa _) _)
            | exact yj t
        clear n K;refine wpAnyH_done Ha ?_ _;go_wp2;go_meet
        first
          | exact⟨_,_,_,rfl,la ((((HNN.o.set 0 _).set 1 _).set 2 _).set 3 _),la (by simp only[Yb];exact Oj UT.o HNN.o cj (dm _ _ _ _ _ _)),Mb,la (wa _)⟩
          | exact⟨_,_,_,rfl,la (qb.new w8 _ _),la (Sa.mono (Ad.mono _) Aa (Sa.below (Ad.kept _) ((za w8.heap.size w8).alloc (wa _) _) UT.o)),Mb,la t.o.size⟩
    case rest=>
      obtain⟨F,z,A,rfl,L,hO9,B,hL9⟩:=hcut;have l:Hid _:=j.o.trans (B.o.mono j.o.size);have HQ9:=la (HQ.o.below B.o);have iU:Hid (Sc wc _ a _):=Sa.mono (Ad.mono _) B.o.size (Sa.below (Ad.kept _) B.o Y.o);have I2:=la (Bt.o.below l.o);have F_:=la (Zu.o.below l.o);have y1:=I2.o.cell 1;have cZ:=l.o.size;have hAB:=hL9.o;have apv:=L.o.lt;clear B hL9 x0 x1 x2 OD O3 HQ Y V9;go_wp2
      go_loopw [29] (λiv wr=>∃(k:Nat) (s1 s2:Int),k<=c.length/\iv=pa k/\Hid ((c.take k).foldl (Tk a) (0,0)=(s1,s2))/\Hid (qb wr F 42 #[pa s1,pa s2,.slice D a.length E,.slice z ov.length A])/\Hid (wc.grownBy wr (some F))) (λiv _=>c.length-(intOf iv).toNat)
      case atStart=>exact⟨0,0,0,ja,rfl,rfl,L,World.grownBy.refl _ _⟩
      case round=>
        obtain⟨k,s1,s2,hk,rfl,HF,HA,y⟩:=hrel;have mF:=y.o.size;have nY:Hid (Da w.heap.size W wr):=⟨y.o.os.trans l.o.os,y.o.tape.trans l.o.tape,y.o.output.trans l.o.output,ja,λb h=>(y.o.block b ja (λe=>by cases e;omega)).trans (l.o.block b ja)⟩;have HQr:Hid (qb wr Q 33 _):=qb.grown HQ9.o y.o (λe=>by cases e;omega);have HKr:Hid (qb wr _ 28 _):=qb.grown I2.o y.o (λe=>by cases e;omega);have J:Hid (qb wr _ 42 _):=qb.grown F_.o y.o (λe=>by cases e;omega);have HXr:Hid (Sc wr _ a _):=Sa.mono (Ad.mono _) mF (Oj iU.o L.o cj (λb h1 R=>y.o.block b h1 (λe=>R (by cases e;rfl))));by_cases hlt:k<c.length
        . obtain⟨b,off,rfl,Tn,ak,ck,ae,ce,hr,_⟩:=Sa.at (HP.o.below jm.kept nY.o) k hlt
          have U:Hid ((c.take (k+1)).foldl (Tk a) (0,0)=Tk a (s1,s2) c[k]):=by show _=_;rw[bA,HF.o]
          generalize c[k]=p at*
          have KO:=la hr;have NI:Hid (∀Z,Da wr.heap.size wr Z->Db 29 #[.slice D a.length E,.string p.id] Z λe i=>e=.returned (.bool (a.any λx=>Lh p.id x))/\Z=i):=λZ O=>yg a p.id _ Z _ (Sa.below (Ad.kept _) O HXr.o)
          have WT:(a.any λx=>Lh p.id x)=xi a p.id:=by{unfold xi;congr 1;funext x;unfold Lh;rw[Rc,Pc,Pc];exact eq_comm}
          rw[WT]at NI;clear hr WT;go_upto_region 7 with(fail);go_wp2_with (first|((with_reducible show wpList _ _ _ (⟨_,Op.load 38 (.tmp 31),_,_,_,_⟩::_) _ _);refine Lc rfl (.tmp 31) rfl rfl p ak ck ae ce KO.o Tryz.underlying38 rfl Pv.Dg ?_)|(((with_reducible show wpList _ _ _ (⟨_,Op.store 38 (.tmp 10) (.tmp 32),_,_,_,_⟩::_) _ _);refine Vc rfl (.tmp 10) (.tmp 32) rfl p ak ck ae ce rfl rfl ?Sj Pv.Dg ?_;(case Sj=>rfl);intro W1 km Un P Mu;have FD:=P 0 _ rfl;have apx:=P 4 _ rfl;have fP:=la P;clear P);have H:=la (HA.o.below km);obtain⟨⟨c0,c1,c2,c3⟩,f0,f1,f2,f3⟩:=H.o.four;have V:=la (cA y.o km);have q6:=(HQr.o.below km).cell 0)|(go_at_call 29;refine(NI.o _ La).mono ?_;rintro e T ⟨rfl,rfl⟩))
          all_goals(try go_region)
          all_goals(try go_wp2)
          all_goals refine⟨?_,by simp[intOf];omega⟩
          all_goals first
            | exact⟨k+1,s1,s2,ja,by go_num,(by show _=_;rw[U.o];unfold Tk;simp_all),H,V⟩
            | exact⟨k+1,2,0,ja,by go_num,(by show _=_;rw[U.o];unfold Tk;simp_all),la ((H.o.set 0 _).set 1 _),la ((V.o.trans (sg _ F 0 _)).trans (sg _ F 1 _))⟩
            | exact⟨k+1,1,p.value,ja,by go_num,(by show _=_;rw[U.o];unfold Tk;simp_all),la ((H.o.set 0 _).set 1 _),la (cA ((V.o.trans (sg _ F 0 _)).trans (sg _ F 1 _)) ((za _ _).drew))⟩
        . have YO:Hid (AA=(⟨s1,s2,a,ov⟩,0)):=by
            have q:=HF.o;rw[Kc ja]at q
            show _=_
            rw[HA'.o,q]
          obtain⟨⟨c0,c1,c2,c3⟩, -⟩:=HA.o.four;obtain⟨⟨d0,d1,d2,d3⟩,g0,g1,g2,g3⟩:=J.o.four;have HOr:Hid (Sc wr _ ov _):=Sa.mono (Ad.mono _) mF (Oj hO9.o L.o cj (λb h1 R=>y.o.block b h1 (λe=>R (by cases e;rfl))));clear HF;go_wp2;have hcs:=(((J.o.set 0 (pa s1)).set 1 (pa s2)).set 2 (.slice D a.length E)).set 3 (.slice z ov.length A);obtain⟨⟨q0,q1,q2,q3⟩, -⟩:=qb.four hcs;refine Fb (by simp[results,go_sem,q0,q1,q2,q3];try rfl) rfl ?_;rw[YO.o];refine⟨_,rfl,(((((f.o.trans (nY.o.mono ja)).setCell (by show w.heap.size<=w.heap.size+1;omega) _).setCell (by show w.heap.size<=w.heap.size+1;omega) _).setCell (by show w.heap.size<=w.heap.size+1;omega) _).setCell (by show w.heap.size<=w.heap.size+1;omega) _),_,_,rfl,?_,?_⟩
          . simp;exact Oj HXr.o J.o cj (dm _ _ _ _ _ _)
          . simp;exact Oj HOr.o J.o cj (dm _ _ _ _ _ _)
  . have e1:(er !=0)=true:=by simpa using he
    have hA:AA=(Qi,er):=by rw[I.o];exact if_neg he
    subst hA;have hy:=Zu.o.below j.o;have hy2:=hy.four;have HY:=la hy;obtain⟨⟨c0,c1,c2,c3⟩,f0,f1,f2,f3⟩:=hy2;clear I hy;go_upto_region 3 with(fail);rw[X.o];go_wp2;have hcs:=(((HY.o.set 0 (pa 0)).set 1 (pa 0)).set 2 Ua).set 3 Ua;obtain⟨⟨q0,q1,q2,q3⟩, -⟩:=qb.four hcs;refine Fb (by simp[results,go_sem,q0,q1,q2,q3];try rfl) rfl ?_;refine⟨_,rfl,?_,Qh.nil _ _⟩;have O:=f.o.trans (j.o.mono f.o.size);exact(((O.setCell (by show w.heap.size<=w.heap.size+1;omega) _).setCell (by show w.heap.size<=w.heap.size+1;omega) _).setCell (by show w.heap.size<=w.heap.size+1;omega) _).setCell (by show w.heap.size<=w.heap.size+1;omega) _
theorem aeL{w b:Ca}{o:Nat}{l:List Ea}(h:w.rangeAt j o l)(c:Da w.heap.size w b)(hlt:j<w.heap.size):b.rangeAt j o l:=λa v d=>by
 rw[c.cell hlt];exact h a v d
theorem AK(m:List Pv)(v:Ea)(z:Nat)(lb:Array Ea)(P:Pv->Bool)(w:Ca)(B:Nat)(hB:B<=w.heap.size)(hn:m.length<=1000)(eg:∀args w,(callFunc z args).run prog w=.ok (.enter z args) w)(hl:Sa jm 23 w B m v)
  (hI:∀q (x:gx),Da w.heap.size w q->x.Ok q B->Db z (#[.agg x.cells.toArray]++lb) q λe y=>e=.returned (.bool (P x.p))/\Da q.heap.size q y):
  Db 27 #[v,.func (.func z) #[] lb] w λe w'=>∃r,e=.returned r/\Da w.heap.size w w'/\Sa jm 23 w' w'.heap.size (m.filter P) r:=by
 obtain⟨ap,cp,rfl,p1,p2,_⟩:=Sa.shape hl;obtain⟨i0,z0,Kw,CO,yx,M,tm⟩:=ZL;have HP:=la hl;have S:=la hI;clear hl hI;go_enter func27,ntmps27;go_wp2
 go_loopw [5,10] (λov iv wr=>∃(k:Nat) (n:List gx),k<=m.length/\iv=pa k/\Hid (n.map gx.p=(m.take k).filter P)/\Hid (∀x∈n,x.Ok wr B)/\Hid (wr.ownsRow w.heap.size 38 23 ov n.length (n.flatMap gx.cells))/\Hid (Da w.heap.size w wr)) (λ_ iv _=>m.length-(intOf iv).toNat)
 case atStart=>exact⟨0,[],ja,rfl,rfl,λx hx=>(by cases hx),Ec _ _ _ _,za _ _⟩
 case round=>
  obtain⟨k,n,hk,rfl,Y,U,O,E⟩:=hrel;obtain⟨va,vc,rfl⟩:=Xd O.o;have D:=E.o.size
  have U3:n.length<=1000:=by{have h:=congrArg List.length Y.o;have:=ve P (m.take k);rw[<-h,Va,de]at this;omega}
  by_cases hlt:k<m.length
  ·obtain⟨b,off,rfl,Tn,d,i,c,f,hr,L⟩:=Sa.at (HP.o.below jm.kept (E.o.mono hB)) k hlt
   have J:Hid ((m.take (k+1)).filter P=n.map gx.p++if P m[k]=true then[m[k]]else[]):=by{show _=_;rw[Ta,yd, <-Y.o,Jc,Jf]}
   generalize m[k]=p at*
   have G:Hid (gx.Ok wr B ⟨p,d,i,c,f⟩):=L;have I:=la hr;have N:Hid (∀q,Da _ wr q->Calls _ z (#[.agg (Cl p d i c f).toArray]++lb) q λe y=>e=.returned (.bool (P p))/\Da _ q y):=λq hb=>S.o q _ (E.o.trans (hb.mono D)) (G.o.up (hb.mono ja))
   clear hr L;cases Q:P p with
   | false=>
    rw[Q]at N;have u:Hid (n.map gx.p=(m.take (k+1)).filter P):=by show _=_;rw[J.o,if_neg (by rw[Q];simp),ud]
    go_wp2_with (first
     | ((with_reducible show wpList _ _ _ (⟨_,Op.load 38 (.tmp 12),_,_,_,_⟩::_) _ _);refine Lc rfl (.tmp 12) rfl rfl p d i c f I.o Tryz.underlying38 rfl Pv.Dg ?_)
     | (((with_reducible show wpList _ _ _ (⟨_,Op.store 38 (.tmp 7) (.tmp 13),_,_,_,_⟩::_) _ _);refine Vc rfl (.tmp 7) (.tmp 13) rfl p d i c f rfl rfl ?Sj Pv.Dg ?_;(case Sj=>rfl);intro W1 a Un l Mu;have K:=l 0 _ rfl;have s:=la l;clear l))
     | ((with_reducible show wpList _ _ _ (⟨_,Op.load 38 (.tmp 7),_,_,_,_⟩::_) _ _);refine Lc rfl (.tmp 7) rfl rfl p d i c f s.o Tryz.underlying38 rfl Pv.Dg ?_)
     | (go_at_fn z;refine(N.o _ a).mono ?_;rintro e R ⟨rfl,j⟩))
    have C:=a.trans (j.mono a.size);go_roundw
    case rel=>exact⟨_,n,ja,by go_num,u,λx hx=>(U.o x hx).up (C.mono ja),la (Wd O.o C),la (E.o.trans (C.mono D))⟩
    case measure=>simp[intOf];omega
   | true=>
    rw[Q]at N;have u:Hid ((n++[(⟨p,d,i,c,f⟩:gx)]).map gx.p=(m.take (k+1)).filter P):=by show _=_;rw[J.o,Ga Q,Pb];rfl
    go_wp2_with (first
     | ((with_reducible show wpList _ _ _ (⟨_,Op.load 38 (.tmp 12),_,_,_,_⟩::_) _ _);refine Lc rfl (.tmp 12) rfl rfl p d i c f I.o Tryz.underlying38 rfl Pv.Dg ?_)
     | (((with_reducible show wpList _ _ _ (⟨_,Op.store 38 (.tmp 7) (.tmp 13),_,_,_,_⟩::_) _ _);refine Vc rfl (.tmp 7) (.tmp 13) rfl p d i c f rfl rfl ?Sj Pv.Dg ?_;(case Sj=>rfl);intro W1 a Un l Mu;have K:=l 0 _ rfl;have s:=la l;clear l))
     | (go_at_fn z;refine(N.o _ a).mono ?_;rintro e R ⟨rfl,j⟩;have W:=la (aeL s.o j ja))
     | ((with_reducible show wpList _ _ _ (⟨_,Op.load 38 (.tmp 7),_,_,_,_⟩::_) _ _);refine Lc rfl (.tmp 7) rfl rfl p d i c f W.o Tryz.underlying38 rfl Pv.Dg ?_)
     | ((with_reducible show wpList _ _ _ (⟨_,Op.load 38 (.tmp 7),_,_,_,_⟩::_) _ _);refine Lc rfl (.tmp 7) rfl rfl p d i c f s.o Tryz.underlying38 rfl Pv.Dg ?_)
     | (((with_reducible show wpList _ _ _ (⟨_,Op.buildSlice 25 1 #[(0,.tmp 18)],_,_,_,_⟩::_) _ _);refine Kx rfl (.tmp 18) rfl p d i c f rfl ?_);have F:Hid (Da wr.heap.size wr (R.alloc (.cells (Cl p d i c f).toArray 38))):=((a.trans (j.mono a.size)).alloc (by have:=a.size;have:=j.size;omega) _);have H:=la (Wd O.o F.o);have T:=la (ZV R 38 (Cl p d i c f)))
     | (at_builtin;go_loud (refine wpList_append_own_at _ rfl (.tmp 17) (.tmp 19) 25 rfl w.heap.size 38 i0 z0 23 312 Tryz.underlying25 Kw yx CO tm M Ba (.slice va n.length vc) _ _ rfl H.o (Ya R.heap.size) 1 1 (Cl p d i c f) rfl rfl T.o (xS _ _ _ _ _) (by unfold maxLen;omega) ja (by have:=a.size;have:=j.size;simp;omega) ?_;intro v9 w9 A t WL aW)))
    have C:=(F.o.mono D).grown t (by have:=a.size;have:=j.size;simp;omega) (λg e=>(H.o.lt g e).1)
    have V:Hid (∀x∈n++[(⟨p,d,i,c,f⟩)],x.Ok w9 B):=λx hx=>by{(rcases List.mem_append.1 hx with hx|hx);{exact(U.o x hx).up (C.mono hB)};{(have:x=⟨p,d,i,c,f⟩:=by simpa using hx);subst this;exact G.o.up (C.mono hB)}}
    have X:Hid (w9.ownsRow w.heap.size 38 23 v9 (n++[(⟨p,d,i,c,f⟩:gx)]).length ((n++[(⟨p,d,i,c,f⟩:gx)]).flatMap gx.cells)):=by{show World.ownsRow _ _ _ _ _ _ _;rw[Qa,qd,Bc,List.flatMap_nil,ud];exact A}
    go_roundw
    case rel=>exact⟨_,_,ja,by go_num,u,V,X,la (E.o.trans C)⟩
    case measure=>simp[intOf];omega
  {(have Z:Hid (n.map gx.p=m.filter P):=by have:=Y.o;rw[Kc ja]at this;exact this);go_wp2;go_ret;exact⟨_,rfl,E.o,by rw[<-Z.o];exact gW O.o ja λx hx=>(U.o x hx).mono ja⟩}
theorem xH(p:Pv)(g:Option Addr)(i:Nat)(f:Option Addr)(h:Nat)(q:Na)(l:List Na)(Q K:Nat)(v:Ea)(w:Ca)(t:w.cell? (Ya Q)=some (.string q))(k:Q<w.heap.size)(s:w.cell? (Ya K)=some v)(j:K<w.heap.size)(m:Sc w w.heap.size l v):
  Db 28 #[.agg (Cl p g i f h).toArray,Ma Q,Ma K] w λe n=>e=.returned (.bool (Ek q p&& xi l p.id))/\Da w.heap.size w n:=by
 obtain⟨A,B,rfl,_⟩:=Sa.shape m;have a:Hid (Da _ w (w.alloc (.cells (Cl p g i f h).toArray 38))):=(za _ _).alloc (wa _) _;have d:=qb.new w 38 (Cl p g i f h).toArray;have C:((w.alloc _)).cell? _=some (.string _):=d.cell 0;have D:((w.alloc _)).cell? _=some (.int _ _):=d.cell 2;have E:((w.alloc _)).cell? _=some (.string _):=d.cell 3;have G:=(a.o.cell k).trans t;have H:=(a.o.cell j).trans s;have b:Hid (Calls _ 29 _ _ λe n=>e=.returned _/\(w.alloc _)=n):=yg l p.id _ _ _ (Sc.below a.o m)
 have c:(l.any λx=>Lh p.id x)=xi l p.id:=by{unfold xi;congr 1;funext x;unfold Lh;rw[Rc,Pc,Pc];exact eq_comm}
 rw[c]at b
 have r:Hid ((Ek q p&& xi l p.id)=(p.kind==2&& (p.name.toList==q.toList)&& xi l p.id)):=by{show _=_;congr 1}
 generalize(Ek q p&& xi l _)=R at*
 clear m c t s d;cases u:(p.kind==2)<;>cases y:(p.name.toList==q.toList)<;>cases z:xi l p.id
 all_goals
  rw[u,y,z]at r;go_enter func28,ntmps28;go_wp2_with (go_at_call 29;refine b.o.mono ?_;rintro e F ⟨rfl,rfl⟩);go_ret;exact⟨Cb r.o.symm,a.o⟩
end Go.Proofs.YtdipkbobalnilaaGreatDoor
