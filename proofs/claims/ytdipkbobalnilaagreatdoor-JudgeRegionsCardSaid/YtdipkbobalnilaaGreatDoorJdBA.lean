/- The contracts of JudgeRegions' loop: what a region's diagram and answer say. No conditions. -/
import Derived.Test.YtdipkbobalnilaaGreatDoorAl
import Derived.Test.YtdipkbobalnilaaGreatDoorJdHA
import Derived.Test.YtdipkbobalnilaaGreatDoorJdSA
import Derived.Test.YtdipkbobalnilaaGreatDoorJdFA
namespace Go.Proofs.YtdipkbobalnilaaGreatDoor
open Tryz
open Go.RowKit
variable{j:Nat}{Z:Int}{C:List Int}
structure GA (w W : Ca) (b : Nat) (d : List Fa) (ps : List Pv) (ts : List Int) (v : Ea) (cs : Array Ea) : Prop where
 box:qb W b 28 cs
 law:Gj W W.heap.size d ps ts v
 Cq:Jh W.heap.size W
 low:Da w.heap.size w W
structure Yo (W : Ca) (Y : Nat) (a : Jo) (ba : Option Addr) (bc : Nat) (oa : Option Addr) (oc : Nat) : Prop where
 box:qb W Y 42 #[pa a.state,pa a.value,.slice ba a.xh.length bc,.slice oa a.over.length oc]
 xE:Qh W W.heap.size a (.agg #[pa a.state,pa a.value,.slice ba a.xh.length bc,.slice oa a.over.length oc])
section
variable {w W W' : Ca} {b Y : Nat} {d : List Fa} {ps : List Pv} {ts : List Int} {v : Ea} {cs : Array Ea} {a : Jo} {ba oa : Option Addr} {bc oc : Nat}
theorem GA.step(h:GA w W b d ps ts v cs)(a:Da W.heap.size W W'):GA w W' b d ps ts v cs:=
 ⟨h.box.below a,(h.law.below a).mono a.size,λw' c=>h.Cq w' (a.trans (c.mono a.size)),h.low.trans (a.mono h.low.size)⟩
theorem wN(e:Gj w w.heap.size d ps ts v)(c:Jh w.heap.size w):Hid (GA w (w.alloc (.cells cs 28)) w.heap.size d ps ts v cs):=by
 have a:Da _ w (w.alloc (.cells cs 28)):=(za _ _).alloc (wa _) _;exact⟨qb.new w _ _,(e.below a).mono a.size,λw' b=>c w' (a.trans (b.mono a.size)),a⟩
theorem Yo.step(h:Hid (Yo W Y a ba bc oa oc))(b:Da W.heap.size W W'):Hid (Yo W' Y a ba bc oa oc):=⟨h.o.box.below b,h.o.xE.grow b⟩
theorem uV(h:Qh W W.heap.size a (.agg #[pa a.state,pa a.value,.slice ba a.xh.length bc,.slice oa a.over.length oc])):Hid (Yo (W.alloc (.cells #[pa a.state,pa a.value,.slice ba a.xh.length bc,.slice oa a.over.length oc] 42)) W.heap.size a ba bc oa oc):=⟨qb.new _ _ _,h.grow ((za _ _).alloc ja _)⟩
theorem Ko(h:Hid (Qh W W.heap.size a (.agg #[pa a.state,pa a.value,.slice ba a.xh.length bc,.slice oa a.over.length oc]))):Hid (Yo (W.alloc (.cells #[pa a.state,pa a.value,.slice ba a.xh.length bc,.slice oa a.over.length oc] 42)) W.heap.size a ba bc oa oc)/\Hid (Da W.heap.size W (W.alloc (.cells #[pa a.state,pa a.value,.slice ba a.xh.length bc,.slice oa a.over.length oc] 42))):=⟨uV h.o,(za _ _).alloc ja _⟩
structure V3 (ps : List Pv) : Prop where
 len:ps.length<=1000
 ex:∀p∈ps,p.except.length<=40
 cond:∀p∈ps,p.cond.size<=1000000
 id:∀p∈ps,p.id.size<=1000000
 val:∀p∈ps,Wh p.value
theorem Is(h:Hid (GA w W b d ps ts v cs))(hs:Hid (V3 ps))(q:Na){c:List Int}{cv:Ea}(l:Hid (Ob W W.heap.size c cv))(k:Df d ps ts q c=(a,Z)):
  Db 8 #[v,.string q,cv] W λe W'=>∃(ba:Option Addr) (bc:Nat) (oa:Option Addr) (oc:Nat),e=.returned (.tuple #[.agg #[pa a.state,pa a.value,.slice ba a.xh.length bc,.slice oa a.over.length oc],pa Z])/\Hid (GA w W' b d ps ts v cs)/\Hid (Qh W' W'.heap.size a (.agg #[pa a.state,pa a.value,.slice ba a.xh.length bc,.slice oa a.over.length oc]))/\Hid (Da W.heap.size W W'):=by
 refine(yE d ps ts q c v cv W hs.o.len h.o.law l.o hs.o.ex hs.o.cond h.o.Cq).mono ?_;rintro e w' ⟨_,rfl,f,g⟩;rw[k]at g⊢;obtain⟨m,n,rfl,i,j⟩:=g;obtain⟨ba,bc,rfl,_⟩:=Sa.shape i;obtain⟨oa,oc,rfl,_⟩:=Sa.shape j;exact⟨ba,bc,oa,oc,rfl,h.o.step f,⟨_,_,rfl,i,j⟩,f⟩
theorem Bk(h:Hid (GA w W b d ps ts v cs))(hs:Hid (V3 ps))(q:Na)(x y:Int)(k:Df d ps ts q [x,y]=(a,Z)):
  Db 8 #[v,.string q,.slice (Nb W.heap.size) 2 2] (W.alloc (.cells #[pa x,pa y] 3)) λe W'=>∃(ba:Option Addr) (bc:Nat) (oa:Option Addr) (oc:Nat),e=.returned (.tuple #[.agg #[pa a.state,pa a.value,.slice ba a.xh.length bc,.slice oa a.over.length oc],pa Z])/\Hid (GA w W' b d ps ts v cs)/\Hid (Qh W' W'.heap.size a (.agg #[pa a.state,pa a.value,.slice ba a.xh.length bc,.slice oa a.over.length oc]))/\Hid (Da W.heap.size W W'):=by
 have c:Da _ W (W.alloc (.cells #[pa x,pa y] 3)):=(za _ _).alloc (wa _) _;have K:=qb.new W 3 #[pa x,pa y];refine(Is (h.o.step c) hs q ⟨_,2,rfl,wa _,Ba,λ_=>⟨_,0,rfl,K.lt,λi l=>?_⟩⟩ k).mono ?_
 ·match i,l with
  | 0,_=>exact K.cell 0
  | 1,_=>exact K.cell 1
 {rintro e w' ⟨ba,bc,oa,oc,rfl,f,g,j⟩;exact⟨ba,bc,oa,oc,rfl,f,g,c.trans (j.o.mono c.size)⟩}
theorem Yw(h:Hid (GA w W b d ps ts v cs))(hs:Hid (V3 ps))(q:Na)(g:(Je d ps ts []).2=0->Ii ps=[]->zE d ps)(hne:(bj d ps ts q).2=0->(bj d ps ts q).1≠[]){i:List Fx}(j:bj d ps ts q=(i,Z)):
  Db 9 #[v,.string q] W λe W'=>∃(a:Option Addr) (c:Nat) (ys:List Uj),e=.returned (.tuple #[.slice a ys.length c,pa Z])/\Hid (GA w W' b d ps ts v cs)/\Hid (uR W W' d (i,Z) (.slice a ys.length c) ys):=by
 refine(cH d ps ts q v W hs.o.len h.o.law hs.o.ex hs.o.cond hs.o.id hs.o.val g hne h.o.Cq).mono ?_;rintro e w' ⟨u,ys,rfl,f⟩;rw[j]at f⊢;obtain⟨a,c,rfl⟩:=Xd f.row.own;exact⟨a,c,ys,rfl,h.o.step f.below,f⟩
theorem vR{w:Ca}{s:Na}{b:Nat}(h:qb w b 9 #[.string s]):Sc w w.heap.size [s] (.slice (Nb b) 1 1):=⟨_,1,rfl,wa _,Ba,λ_=>⟨b,0,rfl,h.lt,λi a=>by
 obtain rfl:i=0:=by simpa using a
 exact h.cell 0⟩⟩
theorem xR{w:Ca}:Sc w w.heap.size [] Ua:=⟨none,0,rfl,wa _,ja,λh=>absurd rfl h⟩
theorem Gz(h:Hid (Yo W Y a ba bc oa oc)){x:Jo}{u:Ea}(b:Da W.heap.size W W')(d:Qh W' W'.heap.size x u)(hs:Gx a x=true):Db 10 #[.agg #[pa a.state,pa a.value,.slice ba a.xh.length bc,.slice oa a.over.length oc],u] W' λe w'=>e=.returned (.bool true)/\Hid (Da W.heap.size W w'):=by
 refine(MC a x _ u W' (h.o.xE.grow b) d).mono ?_;rintro e w' ⟨rfl,c⟩;exact⟨by rw[hs],b.trans (c.mono b.size)⟩
theorem C8(h:Hid (Yo W Y a ba bc oa oc))(i j:Int)(b c:Na)(hs:Gx a ⟨i,j,[b],[c]⟩=true):
  Db 10 #[.agg #[pa a.state,pa a.value,.slice ba a.xh.length bc,.slice oa a.over.length oc],.agg #[pa i,pa j,.slice (Nb W.heap.size) 1 1,.slice (Nb (W.heap.size+1)) 1 1]] ((W.alloc (.cells #[.string b] 9)).alloc (.cells #[.string c] 9)) λe w'=>e=.returned (.bool true)/\Hid (Da W.heap.size W w'):=by
 have d:Da _ W (W.alloc (.cells #[.string b] 9)):=(za _ _).alloc (wa _) _;have f:Da _ _ ((W.alloc (.cells #[.string b] 9)).alloc (.cells #[.string c] 9)):=(za _ _).alloc (wa _) _;have k:(W.alloc (.cells #[.string b] 9)).heap.size=W.heap.size+1:=Ia _ _;have g:=(qb.new W 9 _).below f;have b2:=qb.new (W.alloc (.cells #[.string b] 9)) 9 #[.string c];rw[k]at b2;exact Gz h (d.trans (f.mono d.size)) ⟨_,_,rfl,vR g,vR b2⟩ hs
theorem PX(h:Hid (Yo W Y a ba bc oa oc))(i j:Int)(b:Na)(hs:Gx a ⟨i,j,[b],[]⟩=true):
  Db 10 #[.agg #[pa a.state,pa a.value,.slice ba a.xh.length bc,.slice oa a.over.length oc],.agg #[pa i,pa j,.slice (Nb W.heap.size) 1 1,Ua]] (W.alloc (.cells #[.string b] 9)) λe w'=>e=.returned (.bool true)/\Hid (Da W.heap.size W w'):=
 Gz h ((za _ _).alloc ja _) ⟨_,_,rfl,vR (qb.new W 9 _),xR⟩ hs
theorem D8(h:Hid (Yo W Y a ba bc oa oc))(i j:Int)(hs:Gx a ⟨i,j,[],[]⟩=true):
  Db 10 #[.agg #[pa a.state,pa a.value,.slice ba a.xh.length bc,.slice oa a.over.length oc],.agg #[pa i,pa j,Ua,Ua]] W λe w'=>e=.returned (.bool true)/\Hid (Da W.heap.size W w'):=
 Gz h (za _ _) ⟨_,_,rfl,xR,xR⟩ hs
theorem xN(h:Hid (GA w W b d ps ts v cs))(hs:Hid (V3 ps)){L:List Na}(i:ps.foldl pi []=L):Db 13 #[v] W λe W'=>∃(a:Option Addr) (c:Nat),e=.returned (.slice a L.length c)/\Hid (Sc W' W'.heap.size L (.slice a L.length c))/\Hid (GA w W' b d ps ts v cs):=by
 refine(aB d ps ts v W hs.o.len h.o.law).mono ?_;rintro e w' ⟨r,rfl,g,f⟩;rw[i]at f;obtain⟨a,c,rfl,_⟩:=Sa.shape f;exact⟨a,c,rfl,f,h.o.step g⟩
theorem NZ{a b:Na}{u:Ea}(h:Hid (Sc W W.heap.size [a,b] u)):Db 17 #[u,.slice (Nb W.heap.size) 2 2] (W.alloc (.cells #[.string a,.string b] 9)) λe w'=>e=.returned (.bool true)/\Hid (Da W.heap.size W w'):=by
 have c:Da _ W (W.alloc (.cells #[.string a,.string b] 9)):=(za _ _).alloc (wa _) _;have K:=qb.new W 9 #[.string a,.string b]
 have f:Sc _ _ [a,b] (.slice _ 2 2):=⟨_,2,rfl,wa _,Ba,λ_=>⟨_,0,rfl,K.lt,λi d=>by
  match i,d with
  | 0,_=>exact K.cell 0
  | 1,_=>exact K.cell 1⟩⟩
 refine(Js _ _ _ _ _ _ (Sa.mono (Ad.mono _) c.size (Sc.below c h.o)) f).mono ?_;rintro e w' ⟨rfl,n,rfl⟩;refine⟨by rw[show gi [a,b] [a,b]=true by simp[gi,Lh]],c.trans ?_⟩;exact(World.Md _ _ _).mono c.size
end
theorem szX:V3 Kh:=by
 refine⟨Ba,?_,?_,?_,?_⟩
 all_goals
  intro p a;simp only[Kh,uf,List.not_mem_nil,or_false]at a;rcases a with rfl|rfl|rfl
  all_goals first
   | decide
   | (unfold Wh;decide)
set_option maxRecDepth 100000 in
set_option maxHeartbeats 8000000 in
theorem oK(w:Ca)(hT:Jh w.heap.size w):Db 6 #[] w λe w'=>e=.returned (.bool true)/\Da w.heap.size w w':=by
 have HT:=la hT;have z:=la szX;obtain⟨r1,r2⟩:=E8;have O:Hid (bj dJ Kh jr Cj=([(F8,QX),(G8,RX),(H8,SX),(I8,Qi)],0)):=Prod.ext r2 r1;have N:Hid ((bj dJ Kh jr Cj).2=0->(bj dJ Kh jr Cj).1≠[]):=λ_=>by rw[r2];exact List.cons_ne_nil _ _
 obtain⟨t1,t2,t3,t4,t5⟩:=OZ;have T1:=la t1;have T2:=la t2;have T3:=la t3;have T4:=la t4;have T5:=la t5;clear hT r1 r2 t1 t2 t3 t4 t5;go_enter func6,ntmps6;go_upto_region 2 with(go_at_call 23;refine(dH _).mono ?_;rintro e A ⟨v,rfl,I,J⟩;have D:=la J;obtain⟨u1,u2,u3,rfl,hd,hp,ht⟩:=J;obtain⟨ad,cd,rfl,_⟩:=Sa.shape hd;obtain⟨ap,cp,rfl,_⟩:=Sa.shape hp;obtain⟨at_,ct,rfl,_⟩:=Sa.shape ht;have m:=la I;clear hd hp ht I);have t:Da _ A (A.alloc (.cells #[.slice ad dJ.length cd,.slice ap Kh.length cp,.slice at_ jr.length ct] 28)):=(za _ _).alloc (wa _) _;have u:=m.o.trans (t.mono m.o.size);have b:Hid (GA w _ _ dJ Kh jr _ #[.slice ad dJ.length cd,.slice ap Kh.length cp,.slice at_ jr.length ct]):=⟨qb.new A _ _,(D.o.below t).mono t.size,λw' h'=>HT.o w' (u.trans (h'.mono u.size)),u⟩;clear t u D HT m;generalize A.alloc _=W at*
 (have i:=b.o.box.cell 0;have j:=b.o.box.cell 1;have k:=b.o.box.cell 2)
 go_upto_region 3 with(go_at_call 8;refine(Bk b z Cj 1 0 T1.o).mono ?_;rintro e A ⟨ba1,bc1,oa1,oc1,rfl,h,l,m⟩);obtain⟨c,d⟩:=Ko l;have b:=la (h.o.step d.o);clear h l m d i j k;generalize X:A.alloc _=W1 at*
 clear X
 (have i:=b.o.box.cell 0;have j:=b.o.box.cell 1;have k:=b.o.box.cell 2)
 go_upto_region 4 with(go_at_call 8;refine(Bk b z Cj 3 0 T2.o).mono ?_;rintro e w2 ⟨ba2,bc2,oa2,oc2,rfl,h,l,C⟩;have c:=Yo.step c C.o);obtain⟨a,d⟩:=Ko l;have c:=Yo.step c d.o;have b:=la (h.o.step d.o);clear h l C d i j k;generalize Y:w2.alloc _=W2 at*
 clear Y
 (have i:=b.o.box.cell 0;have j:=b.o.box.cell 1;have k:=b.o.box.cell 2)
 go_upto_region 5 with(go_at_call 8;refine(Bk b z Cj 3 1 T3.o).mono ?_;rintro e w3 ⟨ba3,bc3,oa3,oc3,rfl,h,l,x⟩;have c:=Yo.step c x.o;have a:=Yo.step a x.o);obtain⟨f,d⟩:=Ko l;have c:=Yo.step c d.o;have a:=Yo.step a d.o;have b:=la (h.o.step d.o);clear h l x d i j k;generalize Z:w3.alloc _=W3 at*
 clear Z
 (have i:=b.o.box.cell 0;have j:=b.o.box.cell 1;have k:=b.o.box.cell 2)
 go_upto_region 6 with(go_at_call 8;refine(Bk b z Cj 1 1 T4.o).mono ?_;rintro e w4 ⟨ba4,bc4,oa4,oc4,rfl,h,l,r⟩;have c:=Yo.step c r.o;have a:=Yo.step a r.o;have f:=Yo.step f r.o);obtain⟨g,d⟩:=Ko l;have c:=Yo.step c d.o;have a:=Yo.step a d.o;have f:=Yo.step f d.o;have b:=la (h.o.step d.o);clear h l r d i j k;generalize hW4:w4.alloc _=W4 at*
 clear hW4
 (have i:=b.o.box.cell 0;have j:=b.o.box.cell 1;have k:=b.o.box.cell 2)
 go_upto_region 7 with(go_at_call 9;refine(Yw b z Cj (λ_ _=>vV) N.o O.o).mono ?_;rintro e w5 ⟨ar,cr,ys,rfl,b,y⟩;have n:=y.o.below;have c:=Yo.step c n;have a:=Yo.step a n;have f:=Yo.step f n;have g:=Yo.step g n;clear i j k;(have i:=b.o.box.cell 0;have j:=b.o.box.cell 1;have k:=b.o.box.cell 2))
 have K:ys.length=4:=by{have q:=(y.o.ok rfl).1.length_eq;rw[Va]at q;exact q}
 rw[K];clear y n K;go_upto_region 8 with(go_at_call 8;refine(Bk b z Cj 10 0 T5.o).mono ?_;rintro e w6 ⟨ba5,bc5,oa5,oc5,rfl,h,l,p⟩;have c:=Yo.step c p.o;have a:=Yo.step a p.o;have f:=Yo.step f p.o;have g:=Yo.step g p.o);obtain⟨L,d⟩:=Ko l;have c:=Yo.step c d.o;have a:=Yo.step a d.o;have f:=Yo.step f d.o;have g:=Yo.step g d.o;have b:=la (h.o.step d.o);clear h l p d L i j k;generalize hW6:w6.alloc _=W6 at*
 clear hW6
 (have i:=b.o.box.cell 0;have j:=b.o.box.cell 1;have k:=b.o.box.cell 2)
 have c10:=c.o.box.cell 0;have c11:=c.o.box.cell 1;have c12:=c.o.box.cell 2;have c13:=c.o.box.cell 3
 (have P:=a.o.box.cell 0;have Q:=a.o.box.cell 1;have c22:=a.o.box.cell 2;have R:=a.o.box.cell 3)
 (have S:=f.o.box.cell 0;have T:=f.o.box.cell 1;have U:=f.o.box.cell 2;have V:=f.o.box.cell 3)
 (have E:=g.o.box.cell 0;have F:=g.o.box.cell 1;have G:=g.o.box.cell 2;have H:=g.o.box.cell 3)
 go_upto_region 9 with(go_at_call 10;(first|with_reducible refine(C8 c _ _ _ _ ?hs).mono ?_|with_reducible refine(PX a _ _ _ ?hs).mono ?_|with_reducible refine(D8 f _ _ ?hs).mono ?_);(case hs=>kernel_rfl);rintro e w7 ⟨rfl,s⟩;have a:=Yo.step a s.o;have f:=Yo.step f s.o;have g:=Yo.step g s.o;have b:=la (b.o.step s.o);(have P:=a.o.box.cell 0;have Q:=a.o.box.cell 1;have c22:=a.o.box.cell 2;have R:=a.o.box.cell 3);(have S:=f.o.box.cell 0;have T:=f.o.box.cell 1;have U:=f.o.box.cell 2;have V:=f.o.box.cell 3);(have E:=g.o.box.cell 0;have F:=g.o.box.cell 1;have G:=g.o.box.cell 2;have H:=g.o.box.cell 3);(have i:=b.o.box.cell 0;have j:=b.o.box.cell 1;have k:=b.o.box.cell 2))
 (have E:=g.o.box.cell 0;have F:=g.o.box.cell 1;have G:=g.o.box.cell 2;have H:=g.o.box.cell 3)
 (have i:=b.o.box.cell 0;have j:=b.o.box.cell 1;have k:=b.o.box.cell 2)
 clear c a f
 go_wp2_with (first
  | (go_at_call 10;with_reducible refine(PX g _ _ _ ?hs).mono ?_;(case hs=>kernel_rfl);rintro e w8 ⟨rfl,M⟩;have b:=la (b.o.step M.o);(have i:=b.o.box.cell 0;have j:=b.o.box.cell 1;have k:=b.o.box.cell 2))
  | (go_at_call 13;refine(xN b z wV).mono ?_;rintro e w9 ⟨qa,qc,rfl,HQ,b⟩)
  | (go_at_call 17;refine(NZ HQ).mono ?_;rintro e eJ ⟨rfl,B⟩))
 go_ret;exact⟨rfl,b.o.low.trans (B.o.mono b.o.low.size)⟩
section
variable {d : List Fa} {F : (Nat -> Int)-> Jo × Int} {regs : List Fx}
theorem eH{r s:Fx}(i:Qc d r.1)(hs:Qc d s.1)(h:∀c,Gi d c->Uc d r.1 0 c=true->Uc d s.1 0 c=false){q:List Int}(f:Ld d r.1=some C)(g:Ld d s.1=some q):C≠q:=λe=>by
 subst e;obtain⟨_,_,b,j,_⟩:=Yi i f;obtain⟨_,_,_,a,_⟩:=Yi hs g;rw[h _ b j]at a;cases a
theorem Hz:∀ {l:List Fx} {c:Nat->Int},Gi d c->(l.Pairwise λr s=>∀c,Gi d c->Uc d r.1 0 c=true->Uc d s.1 0 c=false)->(∃r∈l,Uc d r.1 0 c=true)->(l.filter λr=>Uc d r.1 0 c).length=1
 | [],_,_,_,h=>by obtain⟨_,h,_⟩:=h;cases h
 | r::l,c,e,i,h=>by{obtain⟨f,g⟩:=List.pairwise_cons.1 i;cases a:Uc d r.1 0 c with| true=>{(have:(l.filter λr=>Uc d r.1 0 c)=[]:=List.filter_eq_nil_iff.2 λs hs=>by rw[f s hs c e a];simp);rw[Jc,a,Ga rfl,this];rfl}| false=>{rw[Jc,a,if_neg Aa];refine Hz e g ?_;obtain⟨s,hs,b⟩:=h;(rcases List.mem_cons.1 hs with rfl|hs);{rw[a]at b;cases b};{exact⟨s,hs,b⟩}}}
theorem Ks.least(h:Ks d F regs){r:Fx}(a:r∈regs):∃p,Ld d r.1=some p/\p.length=d.length/\Gi d (λi=>p.getD i 0)/\F (λi=>p.getD i 0)=(r.2,0):=by
 obtain⟨p,c⟩:=Option.isSome_iff_exists.1 (h.ok.some r a);obtain⟨_,e,b,f,_⟩:=Yi (h.ok.valid r a) c;exact⟨p,c,e,b,h.xE r a _ b f⟩
end
open Tj
theorem xV(d:List Fa)(i:Nat):YM d Ri i<=1:=by
 unfold YM vm Zk;rw[show ah _ Ri=[]from rfl,List.mergeSort_singleton,Jc,Jf]
 split
 {exact wa _}
 {exact Lb _}
theorem fH{b:Nat->Nat}(h:∀i,b i<=1):∀n,Xo b n<=1
 | 0=>wa _
 | n+1=>by exact Nat.mul_le_mul (fH h n) (h n)
theorem ML{d:List Fa}(b:gf d=true):(Nc d Ri).2=0:=by
 have a:se Ri d (λ_=>false)=0:=by{unfold se;rw[if_neg Ba];(have e:Th (Fo.mk 1 ⟨#[]⟩ 0 0 [])=true:=by kernel_rfl);simp[Ri,ch,Ig,bf,Jg,e,Fo.op]}
 have c:=built (eh b) (jk a) (ub (fH (xV d) _) Ba);rw[Ut b a c];unfold ZD;rw[if_neg (by rw[b,a];simp),if_neg (by exact Od _)]
theorem oq{ps:List Pv}(d:(ps.map Pv.id).Nodup)(c:j<ps.length):Sn (rowsOf ps) j=th ps j:=by
 unfold Sn th;rw[Fz d j c];refine List.filter_congr λa b=>?_
 have b:=List.mem_range.1 b;simp[b,qj,c]
theorem En{d:List Fa}{ps:List Pv}(h:Ef d ps j=true):gf d=true/\(ps.map Pv.id).Nodup:=by
 unfold Ef at h;simp only[Ib]at h;refine⟨h.1.1.1,?_⟩;have:=(Vt d ps [] h.2).2;rw[List.Nodup,List.pairwise_map];exact this
theorem Cm{d:List Fa}{ps:List Pv}{ts:List Int}{ids:List Na}(h:(Je d ps ts ids).2=0):Ef d ps ts.length=true:=by
 unfold Je at h
 split at h
 {next a=>exact a}
 {cases h}
theorem yR{d:List Fa}{ps:List Pv}{ts:List Int}(h:(Je d ps ts []).2=0)(b:Ii ps=[]):zE d ps:=by
 obtain⟨m,c⟩:=En (Cm h);refine⟨ML m,?_⟩;unfold Ii at b;rw[Ga ((Ws ps).2 c),List.map_eq_nil_iff]at b
 have l:∀x,∀y∈Sn (rowsOf ps) x,y<ps.length:=λx y a=>by{by_cases n:x<ps.length;{rw[oq c n]at a;exact List.mem_range.1 (List.mem_filter.1 a).1};{unfold Sn at a;rw[zc,Pf (by rw[Ui];omega)]at a;cases a}}
 obtain⟨o,f,g⟩:=Wx l b;exact⟨o,λi k e j=>g i e k (by rw[oq c e];exact j),λi _=>by have:=f i;omega⟩
mutual
theorem gH{d:List Fa}{c c':Nat->Int}(h:∀i,i<d.length->c i=c' i):∀f,Gk d f->Fe d c f=Fe d c' f
 | .mk j s m n g,hw=>by{rw[Gk]at hw;rw[Fe,Fe];(rcases hw with⟨l,_,_,_,rfl⟩|⟨rfl,_,_,_,⟨k,b,e⟩,rfl⟩|⟨o,_,_,_,hw⟩);{rw[if_neg ja,if_neg ja,if_neg ja,if_neg ja,if_neg ja,if_neg ja,if_neg ja,if_neg ja]};{rw[Ga rfl,Ga rfl,b,Fc,h k e]};{(have a:j≠3:=ja);rw[NC h g hw,if_neg a,if_neg a]}}
theorem NC{d:List Fa}{c b:Nat->Int}(h:∀i,i<d.length->c i=b i):∀a,YT d a->Bm d c a=Bm d b a
 | [],_=>rfl
 | k::a,hw=>by{rw[Bm,Bm,gH h k hw.1,NC h a hw.2]}
end
def Hx(d:List Fa)(c:Nat->Int):List Int:=(List.range d.length).map c
theorem NL{d:List Fa}{c:Nat->Int}(h:j<d.length):(Hx d c).getD j 0=c j:=by
 unfold Hx;simp[h]
theorem zR{d:List Fa}{c:Nat->Int}(b:gf d=true)(h:Gi d c):Vh d (Hx d c)=true:=
 Qp.2 ⟨b,by unfold Hx;simp,λi a=>by
  show Fg d i<=(Hx d c).getD i 0/\(Hx d c).getD i 0<=Hi d i
  rw[NL a]
  exact h i a⟩
def aJ(d:List Fa)(ps:List Pv)(i:Nat)(c:Nat->Int):Bool:=if i<ps.length then Jw d ps (Hx d c) (rowsOf ps) i else Fe d c (pd ps i)&& (th ps i).all λk=> !Jw d ps (Hx d c) (rowsOf ps) k
theorem BR{d:List Fa}{ps:List Pv}(h:j<ps.length)(c:Nat->Int):aJ d ps j c=Jw d ps (Hx d c) (rowsOf ps) j:=Ga h
theorem OL{ps:List Pv}(b:(ps.map Pv.id).Nodup):∀x,∀y∈(rowsOf ps).getD x [],y<ps.length:=λx y a=>by
 by_cases c:x<ps.length
 {have:=oq b c;unfold Sn at this;rw[this]at a;exact List.mem_range.1 (List.mem_filter.1 a).1}
 {rw[zc,Pf (by rw[Ui];omega)]at a;cases a}
theorem Lv{ps:List Pv}(b:(ps.map Pv.id).Nodup)(a:Ii ps=[]):Uh (eB (Sn (rowsOf ps))) ps.length=[]:=by
 unfold Ii at a
 rwa[Ga ((Ws ps).2 b),List.map_eq_nil_iff]at a
theorem Wt{d:List Fa}{ps:List Pv}(h:Ef d ps j=true):∀p∈ps,se p.cond d (λ_=>false)=0:=by
 unfold Ef at h;simp only[Ib]at h;exact λp a=>((Vt d ps [] h.2).1 p a).1
theorem J8{d:List Fa}{ps:List Pv}(h:Ef d ps j=true)(n:Ii ps=[])(i:Nat)(c:Nat->Int)(m:Gi d c):aJ d ps i c=(Fe d c (pd ps i)&& (th ps i).all λk=> !aJ d ps k c):=by
 obtain⟨p,g⟩:=En h
 have e:((th ps i).all λk=> !aJ d ps k c)=(th ps i).all λk=> !Jw d ps (Hx d c) (rowsOf ps) k:=by{rw[Rc,ee,ee];(refine forall_congr' λk=>forall_congr' λf=>?_);rw[BR (List.mem_range.1 (List.mem_filter.1 f).1)]}
 rw[e];by_cases b:i<ps.length
 {have l:=oq g b;unfold Sn at l;rw[BR b,bP (OL g) (Lv g n) i b,l];have f:=Wt h _ (Oa b);rw[pJ f (zR p m),gH (c':=c) (λa o=>NL o) _ (jk f)];unfold pd;rw[Xa b];congr 1;rw[List.any_eq_not_all_not,Bool.not_not]}
 {unfold aJ;rw[if_neg b]}
theorem yN{d:List Fa}{ps:List Pv}{ts:List Int}{q:Na}(h:(Je d ps ts []).2=0)(l:Ii ps=[])(u:(kr d ps q).2.2=0):jl d (aJ d ps) (Og ps q ps.length) (kr d ps q).1:=by
 have n:=Cm h;obtain⟨p,f⟩:=En n;obtain⟨r,j,t⟩:=Wx (G:=Sn _) (OL f) (Lv f l)
 have w:∀i k,k∈th ps i->(if k<ps.length then r k else ps.length+1)<(if i<ps.length then r i else ps.length+1):=λi k m=>by{have e:=List.mem_range.1 (List.mem_filter.1 m).1;rw[Ga e];by_cases a:i<ps.length;{rw[Ga a];exact t i a k (by rw[oq f a];exact m)};{rw[if_neg a];have:=j k;omega}}
 have b:=yi (ML p)
 have x:jl d (aJ d ps) [] [((Nc d Ri).1,[])]:=by{(have o:∀c,Gi d c->Uc d (Nc d Ri).1 0 c=true:=λc s=>by rw[b.2.2 c s];rfl);exact zN b.1 o (kl b.1 (o _ λi a=>⟨ja,((eh p).Uu i a).2.1⟩))}
 exact iH _ [] _ (λi a=>CR (J8 n l) _ w _ i (by
  have a:=List.mem_range.1 (List.mem_filter.1 a).1
  have:=j i
  rw[Ga a]
  omega)) x (λi g v=>by cases v) u rfl
theorem Xt{d:List Fa}{ps:List Pv}{ts:List Int}{q:Na}(a:(bj d ps ts q).2=0):gf d=true/\Ii ps=[]/\(Je d ps ts []).2=0/\Ks d (λc=>zp d ps ts ((Og ps q ps.length).filter λi=>aJ d ps i c)) (bj d ps ts q).1:=by
 unfold bj at a⊢;by_cases b:(Je d ps ts []).2=0
 {rw[Ga b]at a⊢;by_cases e:Ii ps=[];{rw[Ga e]at a⊢;by_cases f:(kr d ps q).2.2=0;{rw[Ga f]at a⊢;exact⟨(En (Cm b)).1,e,b,DR (yN b e f) a⟩};{rw[if_neg f]at a;exact absurd a f}};{rw[if_neg e]at a;cases a}}
 {rw[if_neg b]at a;cases a}
theorem ER{d:List Fa}(b:gf d=true):Gi d (Fg d):=λi a=>⟨ja,((eh b).Uu i a).2.1⟩
theorem PZ{d:List Fa}{ps:List Pv}{ts:List Int}{q:Na}(b:(bj d ps ts q).2=0):(bj d ps ts q).1≠[]:=by
 obtain⟨c,_,_,h⟩:=Xt b;obtain⟨r,a,_⟩:=h.all _ (ER c);intro e;rw[e]at a;cases a
theorem Iz{a d:Type}(P:a->Bool)(f:a->d):∀(l:List a) (g:Nat->d) (Q:Nat->Bool),(∀i (h:i<l.length),g i=f l[i]/\Q i=P l[i])->(l.filter P).map f=((List.range l.length).filter Q).map g
 | [],_,_,_=>rfl
 | x::l,g,Q,h=>by{(have c:=Iz P f l (g∘Nat.succ) (Q∘Nat.succ) λi j=>h (i+1) (by simpa using j));obtain⟨b,e⟩:=h 0 Aa;rw[Qb,List.range_succ_eq_map,Jc,Jc,e,List.filter_map];simp at b⊢;(split);{rw[Eb,Eb,b,c,Ze]};{rw[c,Ze]}}
theorem pK{d:List Fa}{ps:List Pv}{c:List Int}(k:(ps.map Pv.id).Nodup)(f:j<ps.length):xi (wj d ps c) ps[j].id=Jw d ps c (rowsOf ps) j:=by
 rw[Rc,ly];unfold wj;rw[List.mem_map];constructor
 {rintro⟨a,b,e⟩;obtain⟨g,i⟩:=List.mem_filter.1 b;have b:=List.mem_range.1 g;rw[Xx b]at e;have:=(List.getElem_inj k (h₀:=by simpa using b) (h₁:=by simpa using f)).1 (by simpa using e);exact this▸i}
 {exact λh=>⟨j,List.mem_filter.2 ⟨List.mem_range.2 f,h⟩,Xx f⟩}
theorem AN{d:List Fa}{ps:List Pv}{c:List Int}(q:Na)(b:(ps.map Pv.id).Nodup):bB ps q (wj d ps c)=((Og ps q ps.length).filter λi=>Jw d ps c (rowsOf ps) i).map (qj ps):=by
 unfold bB Og;rw[List.filter_filter];refine Iz _ _ ps _ _ λi a=>⟨Mk a,?_⟩
 unfold Jz;rw[Xa,pK b a,Bool.and_comm]
theorem Kz{d:List Fa}{ps:List Pv}{ts:List Int}{c:List Int}{q:Na}(h:(Je d ps ts []).2=0)(l:Ii ps=[])(e:Vh d c=true):
  Df d ps ts q c=zp d ps ts ((Og ps q ps.length).filter λi=>aJ d ps i λi=>c.getD i 0):=by
 have f:=Cm h;obtain⟨r,a⟩:=En f
 have n:Hx d (λi=>c.getD i 0)=c:=by{unfold Hx;(refine oh (by simp[(Qp.1 e).2.1]) λi o g=>?_);simp[g]}
 have j:Pm d ps c=0:=by{(have k:ps.any (tF d)=false:=List.any_eq_false.2 λp b=>by unfold tF;simp[Wt f p b]);unfold Pm;rw[Ga ⟨(Ws ps).2 a,e,k⟩,Ga (Lv a l)]}
 unfold Df zp;rw[Ga h,Ga j,AN q a];congr 2
 refine List.filter_congr λi m=>?_
 rw[BR (List.mem_range.1 (List.mem_filter.1 m).1),n]
theorem jH{d:List Fa}{ps:List Pv}{ts:List Int}{c:List Int}{q:Na}(h:(Je d ps ts []).2=0)(_:Ii ps=[])(a:(Df d ps ts q c).2=0):Vh d c=true:=by
 unfold Df at a;rw[Ga h]at a;by_cases b:Pm d ps c=0
 {exact(EB b).2.1}
 {rw[if_neg b]at a;exact absurd a b}
theorem AE{d:List Fa}{ps:List Pv}{ts:List Int}{c:List Int}{q:Na}(k:(bj d ps ts q).2=0)(f:Vh d c=true):
  (Df d ps ts q c).2=0/\((bj d ps ts q).1.filter λr=>Uc d r.1 0 λi=>c.getD i 0).length=1/\∀r∈(bj d ps ts q).1,(Uc d r.1 0 λi=>c.getD i 0)=true->r.2=(Df d ps ts q c).1:=by
 obtain⟨l,j,g,h⟩:=Xt k;have a:=(Qp.1 f).2.2;rw[Kz g j f];obtain⟨r,b,e⟩:=h.all _ a;refine⟨by rw[h.xE r b _ a e],Hz a h.ok.apart ⟨r,b,e⟩,λr b e=>?_⟩;rw[h.xE r b _ a e]
theorem qq{d:List Fa}{ps:List Pv}{ts:List Int}{q:Na}(j:(bj d ps ts q).2=0){r:Fx}(a:r∈(bj d ps ts q).1):
  Qc d r.1/\∃p,Ld d r.1=some p/\Df d ps ts q p=(r.2,0):=by
 obtain⟨k,i,g,h⟩:=Xt j;obtain⟨p,b,c,e,f⟩:=h.least a;refine⟨h.ok.valid r a,p,b,?_⟩;rw[Kz g i (Qp.2 ⟨k,c,e⟩),f]
section
variable {w W W' : Ca} {b : Nat} {d : List Fa} {ps : List Pv} {ts : List Int} {v : Ea} {cs : Array Ea}
theorem FR(h:Hid (GA w W b d ps ts v cs)):Db 6 #[] W λe W'=>e=.returned (.bool true)/\Hid (GA w W' b d ps ts v cs):=
 (oK W h.o.Cq).mono λ_ _ ⟨c,a⟩=>⟨c,h.o.step a⟩
theorem yV(h:Hid (GA w W b d ps ts v cs))(n:Int)(a:0<=n)(c:n<=1000):Db 7 #[v,pa n] W λe W'=>K8 d ps ts n e/\Hid (GA w W' b d ps ts v cs):=
 (BN d ps ts n v W a c h.o.law).mono λ_ _ ⟨g,f⟩=>⟨g,h.o.step f⟩
theorem zV(i:Z<=1000)(h:TX d ps ts Z)(f:∀p∈ps,Wh p.value):Hid (V3 ps):=by
 have b:=h.Ar;unfold lr at b;simp at b;obtain⟨⟨g,_⟩,c⟩:=b;have e:=c;refine⟨ja,λp a=>?_,λp a=>ub (kH h.Ar p a) Ba,λp a=>?_,f⟩
 all_goals
  have:=e p a;unfold Mv at this;simp only[Ib,decide_eq_true_eq]at this;omega
end
def Yt(c:List Int)(x:Uj):Bool:=Kt x.r.1 c x.r.1.length 0
structure JrF (d : List Fa) (ps : List Pv) (ts : List Int) (q : Na) (c : List Int) (AA : Jo) (ea : Int) (ys : List Uj) : Prop where
 least:∀x∈ys,Ld d x.r.1=some (gh d x.r.1)/\Df d ps ts q (gh d x.r.1)=(x.r.2,0)/\Qc d x.r.1
 less:∀i k,(hi:i<k)->(hk:k<ys.length)->Aj (gh d ys[i].r.1) (gh d ys[k].r.1)=true
 diff:∀i k,(hi:i<k)->(hk:k<ys.length)->Gx ys[i].r.2 ys[k].r.2=false
 fits:Vh d c=decide (ea=0)
 holds:ea=0->∀x∈ys,Yt c x=true->Gx x.r.2 AA=true
 one:ea=0->(ys.filter (Yt c)).length=1
theorem GR{d:List Fa}{ps:List Pv}{ts:List Int}{q:Na}{c:List Int}{AA:Jo}{v:List Fx}{ys:List Uj}(o:bj d ps ts q=(v,0))(s:Df d ps ts q c=(AA,Z))(t:(ys.map (·.r)).Perm v)(hs:Zt d ys):JrF d ps ts q c AA Z ys:=by
 have f:(bj d ps ts q).2=0:=by rw[o]
 obtain⟨K,D,C,h⟩:=Xt f;rw[o]at h;have A:=h.perm t.symm;have m:∀x∈ys,x.r∈(bj d ps ts q).1:=λx a=>by rw[o];exact t.mem_iff.1 (List.mem_map.2 ⟨x,a,rfl⟩)
 have l:∀x∈ys,Ld d x.r.1=some (gh d x.r.1):=λx a=>by{obtain⟨_,p,j,_⟩:=qq f (m x a);rw[gh,j];rfl}
 have hw:Vh d c=true->∀x∈ys,Yt c x=Uc d x.r.1 0 λi=>c.getD i 0:=λb x a=>by{have V:=(qq f (m x a)).1;have F:=Qp.1 b;rw[<-rJ V F.2.1 F.2.2];exact uC (λk g=>V.lens k g) c _ _}
 have b:Vh d c=decide (Z=0):=by{rw[Rc,decide_eq_true_eq];refine⟨λb=>?_,λe=>jH (q:=q) C D (by rw[s];exact e)⟩;have:=(AE f b).1;rwa[s]at this}
 refine⟨λx a=>?_,λi k n g=>?_,λi k n g=>?_,b,λe x a E=>?_,λe=>?_⟩
 {obtain⟨V,p,j,B⟩:=qq f (m x a);have e:=l x a;rw[j,Yg]at e;exact⟨l x a,e▸B,V⟩}
 {have a:=Oa (show i<ys.length by omega);have u:=Oa g;have I:=List.pairwise_iff_getElem.1 hs i k ja g n;have z:=List.pairwise_iff_getElem.1 A.ok.apart i k (by simp;omega) (by simpa using g) n;simp only[Sd]at z;have w:=(qq f (m _ a)).1;have y:=(qq f (m _ u)).1;have J:=eH w y z (l _ a) (l _ u);obtain⟨_,G,_⟩:=Yi w (l _ a);obtain⟨_,H,_⟩:=Yi y (l _ u);refine(lH _ _ (G.trans H.symm)).2 ?_;exact Decidable.byContradiction λh=>J (List.le_antisymm I h)}
 {have:=List.pairwise_iff_getElem.1 A.ok.diff i k (by simp;omega) (by simpa using g) n;simp only[Sd]at this;exact Bool.eq_false_iff.2 λe=>this ((Lz _ _).1 e)}
 {(have b:Vh d c=true:=by rw[b,e];rfl);have:=(AE f b).2.2 _ (m x a) ((hw b x a).symm.trans E);rw[s]at this;exact(Lz _ _).2 this}
 {(have b:Vh d c=true:=by rw[b,e];rfl);have j:=(AE f b).2.1;rw[o]at j;rw[<-j, <-(t.filter _).length_eq,List.filter_map,Va];exact congrArg List.length (List.filter_congr λx a=>hw b x a)}
theorem AV{c:List Int}{ys:List Uj}(a:j<ys.length):((ys.take (j+1)).filter (Yt c)).length=((ys.take j).filter (Yt c)).length+if Yt c ys[j]=true then 1 else 0:=by
 rw[Ta a,yd,Qa,Jc]
 split<;>rfl
section
variable {w W w' : Ca} {b : Nat} {d : List Fa} {ps : List Pv} {ts : List Int} {u1 u2 u3 : Ea} {cs : Array Ea} {x y : Uj} {g : Option Nat}
theorem qK(h:Hid (GA w W b d ps ts (.agg #[u1,u2,u3]) cs)):jf W W.heap.size d (.agg #[u1]):=by
 obtain⟨_,_,_,e,hd,_⟩:=h.o.law;simp only[Value.agg.injEq,Array.mk.injEq,List.cons.injEq,and_true]at e;obtain⟨rfl,_⟩:=e;exact⟨_,rfl,hd⟩
theorem IR(h:Hid (GA w W b d ps ts (.agg #[u1,u2,u3]) cs))(l:Hid (x.Ok W g d))(p:Ld d x.r.1=some (gh d x.r.1))(f:Hid (Da W.heap.size W w')):
  Db 18 #[.agg #[.slice x.a x.n x.c],.agg #[u1]] w' λe v=>∃(i:Option Addr) (j:Nat),e=.returned (.tuple #[.slice i (gh d x.r.1).length j,.bool true])/\Hid (Ob v v.heap.size (gh d x.r.1) (.slice i (gh d x.r.1).length j))/\Hid (Da W.heap.size W v):=by
 refine(Ul d x.r.1 _ _ w' W.heap.size f.o.size (l.o.dg.dg.below f.o) ((qK h).below f.o) (Oi l.o.valid) λv q=>h.o.Cq v (f.o.trans (q.mono f.o.size))).mono ?_;rintro e v ⟨cv,rfl,k,m⟩;rw[p]at k⊢;obtain⟨i,j,rfl,_⟩:=Sa.shape k;exact⟨i,j,rfl,k,f.o.trans (m.mono f.o.size)⟩
theorem mH(h:Hid (GA w W b d ps ts (.agg #[u1,u2,u3]) cs))(i:Hid (x.Ok W g d))(f:Hid (Da W.heap.size W w')):
  Db 19 #[.agg #[.slice x.a x.n x.c],.agg #[u1]] w' λe v=>e=.returned (.bool true)/\Hid (Da W.heap.size W v):=by
 refine(ds d x.r.1 _ _ w' W.heap.size f.o.size (i.o.dg.dg.below f.o) ((qK h).below f.o) (Oi i.o.valid) λv k=>h.o.Cq v (f.o.trans (k.mono f.o.size))).mono ?_;rintro e v ⟨rfl,j⟩;exact⟨by rw[Gh.2 i.o.valid],f.o.trans (j.mono f.o.size)⟩
theorem BV{ys:List Int}{v u:Ea}(d:Hid (Ob W W.heap.size C v))(f:Hid (Ob W W.heap.size ys u))(c:Aj C ys=true)(a:Hid (Da W.heap.size W w')):
  Db 20 #[v,u] w' λe v=>e=.returned (.bool true)/\Hid (Da W.heap.size W v):=by
 refine(nH C ys v u w' W.heap.size a.o.size (Ob.below a.o d.o) (Ob.below a.o f.o)).mono ?_;rintro e v ⟨rfl,b⟩;exact⟨by rw[c],a.o.trans (b.mono a.o.size)⟩
theorem BE{p q:Jo}{v u:Ea}{R:Bool}(d:Hid (Qh W W.heap.size p v))(f:Hid (Qh W W.heap.size q u))(c:Gx p q=R)(a:Hid (Da W.heap.size W w')):
  Db 10 #[v,u] w' λe v=>e=.returned (.bool R)/\Hid (Da W.heap.size W v):=by
 refine(MC p q v u w' (d.o.grow a.o) (f.o.grow a.o)).mono ?_;rintro e v ⟨rfl,b⟩;exact⟨by rw[c],a.o.trans (b.mono a.o.size)⟩
theorem JR{c:List Int}{u:Ea}(i:Hid (x.Ok W g d))(h:Hid (Ob W W.heap.size c u))(b:Hid (Da W.heap.size W w')):
  Db 21 #[.agg #[.slice x.a x.n x.c],u] w' λe v=>e=.returned (.bool (Yt c x))/\Hid (Da W.heap.size W v):=by
 refine(rK x.r.1 c _ u w' W.heap.size b.o.size (i.o.dg.dg.below b.o) (Ob.below b.o h.o)).mono ?_;rintro e v ⟨rfl,f⟩;exact⟨rfl,b.o.trans (f.mono b.o.size)⟩
theorem CV{c:List Int}{u:Ea}(h:Hid (GA w W b d ps ts (.agg #[u1,u2,u3]) cs))(g:Hid (Ob W W.heap.size c u))(a:Hid (Da W.heap.size W w')):
  Db 22 #[.agg #[u1],u] w' λe v=>e=.returned (.bool (Vh d c))/\Hid (Da W.heap.size W v):=by
 refine(Tt d c _ u w' W.heap.size a.o.size ((qK h).below a.o) (Ob.below a.o g.o)).mono ?_;rintro e v ⟨rfl,f⟩;exact⟨rfl,a.o.trans (f.mono a.o.size)⟩
theorem OC{base vc:Nat}{va:Option Addr}{ys:List Uj}(h:Hid (mf W base d (.slice va ys.length vc) ys))(k:j<ys.length):∃G,va=some ⟨G,0,none⟩/\Hid (∀w',Hid (Da W.heap.size W w')->w'.cell? (Ja G (j*5))=some (.slice ys[j].a ys[j].n ys[j].c)/\w'.cell? (Ja G (j*5+1))=some (pa ys[j].r.2.state)/\w'.cell? (Ja G (j*5+2))=some (pa ys[j].r.2.value)/\w'.cell? (Ja G (j*5+3))=some (.slice ys[j].ba ys[j].r.2.xh.length ys[j].bc)/\w'.cell? (Ja G (j*5+4))=some (.slice ys[j].oa ys[j].r.2.over.length ys[j].oc)):=by
 obtain⟨G,rfl,_,f,_,e⟩:=h.o.at k;have q:∀w',Hid (Da W.heap.size W w')->∀i,i<5->w'.cell? (Ja G (j*5+i))=ys[j].cells[i]? :=λw' b i g=>(b.o.cell (p:=Ja G (j*5+i)) f).trans (e i g)
 exact⟨G,rfl,λw' b=>⟨q w' b 0 ja,q w' b 1 ja,q w' b 2 ja,q w' b 3 ja,q w' b 4 ja⟩⟩
structure LR (w W : Ca) (b : Nat) (d : List Fa) (ps : List Pv) (ts : List Int) (u1 u2 u3 : Ea) (cs : Array Ea) (c : List Int) (cv : Ea) (Y : Nat) (AA : Jo) (ba : Option Addr) (bc : Nat) (oa : Option Addr) (oc : Nat) (base : Nat) (va : Option Addr) (vc : Nat) (ys : List Uj) : Prop where
 law:Hid (GA w W b d ps ts (.agg #[u1,u2,u3]) cs)
 row:Hid (mf W base d (.slice va ys.length vc) ys)
 xE:Hid (Yo W Y AA ba bc oa oc)
 cse:Hid (Ob W W.heap.size c cv)
section
variable {c : List Int} {cv : Ea} {Y bc oc base vc : Nat} {AA : Jo} {ba oa va : Option Addr} {ys : List Uj}
theorem LR.step(h:Hid (LR w W b d ps ts u1 u2 u3 cs c cv Y AA ba bc oa oc base va vc ys))(a:Hid (Da W.heap.size W w')):Hid (LR w w' b d ps ts u1 u2 u3 cs c cv Y AA ba bc oa oc base va vc ys):=
 ⟨h.o.law.o.step a.o,h.o.row.o.below a.o,Yo.step h.o.xE a.o,Sa.mono (Ad.mono _) a.o.size (Ob.below a.o h.o.cse.o)⟩
end
theorem Oq{v:Ea}(h:Hid (Ob W W.heap.size C v))(a:Hid (Da W.heap.size W w')):Hid (Ob w' w'.heap.size C v):=Sa.mono (Ad.mono _) a.o.size (Ob.below a.o h.o)
theorem CE{P:Ca->Prop}(h:Hid (∀w',Hid (Da W.heap.size W w')->P w'))(a:Hid (Da W.heap.size W w')):Hid (∀v,Hid (Da w'.heap.size w' v)->P v):=λv b=>h.o v (a.o.trans (b.o.mono a.o.size))
end
end Go.Proofs.YtdipkbobalnilaaGreatDoor
