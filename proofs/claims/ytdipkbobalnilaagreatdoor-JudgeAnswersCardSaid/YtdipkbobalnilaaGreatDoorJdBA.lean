/- The contracts of law16.JudgeAnswers: its rows and its map in memory. No conditions. -/
import Derived.Test.YtdipkbobalnilaaGreatDoorAl
import Derived.Test.YtdipkbobalnilaaGreatDoorJdHA
import Derived.Test.YtdipkbobalnilaaGreatDoorJdSA
import Derived.Test.YtdipkbobalnilaaGreatDoorJdFA
set_option maxRecDepth 100000
set_option maxHeartbeats 8000000
namespace Go.Proofs.YtdipkbobalnilaaGreatDoor
open Tryz
open Go.RowKit
variable{j:Nat}{Z:Int}{C:List Int}{Q:List Nat}
structure GA (w W : Ca) (b : Nat) (d : List Fa) (ps : List Pv) (ts : List Int) (v : Ea) (cs : Array Ea) : Prop where
 box:qb W b 28 cs
 law:Gj W W.heap.size d ps ts v
 Cq:Jh W.heap.size W
 low:Da w.heap.size w W
structure Yo (W : Ca) (Y : Nat) (a : Jo) (ba : Option Addr) (bc : Nat) (oa : Option Addr) (oc : Nat) : Prop where
 box:qb W Y 42 #[pa a.state,pa a.value,.slice ba a.by_.length bc,.slice oa a.over.length oc]
 xE:Qh W W.heap.size a (.agg #[pa a.state,pa a.value,.slice ba a.by_.length bc,.slice oa a.over.length oc])
section
variable {w W W' : Ca} {b Y : Nat} {d : List Fa} {ps : List Pv} {ts : List Int} {v : Ea} {cs : Array Ea} {a : Jo} {ba oa : Option Addr} {bc oc : Nat}
theorem GA.step(h:GA w W b d ps ts v cs)(a:Da W.heap.size W W'):GA w W' b d ps ts v cs:=
 ⟨h.box.below a,(h.law.below a).mono a.size,λe c=>h.Cq e (a.trans (c.mono a.size)),h.low.trans (a.mono h.low.size)⟩
theorem wN(e:Gj w w.heap.size d ps ts v)(c:Jh w.heap.size w):Hid (GA w (w.alloc (.cells cs 28)) w.heap.size d ps ts v cs):=by
 have a:Da _ w (w.alloc (.cells cs 28)):=(za _ _).alloc (wa _) _;exact⟨qb.new w _ _,(e.below a).mono a.size,λf b=>c f (a.trans (b.mono a.size)),a⟩
theorem Yo.step(h:Hid (Yo W Y a ba bc oa oc))(b:Da W.heap.size W W'):Hid (Yo W' Y a ba bc oa oc):=⟨h.o.box.below b,h.o.xE.grow b⟩
theorem uV(h:Qh W W.heap.size a (.agg #[pa a.state,pa a.value,.slice ba a.by_.length bc,.slice oa a.over.length oc])):Hid (Yo (W.alloc (.cells #[pa a.state,pa a.value,.slice ba a.by_.length bc,.slice oa a.over.length oc] 42)) W.heap.size a ba bc oa oc):=⟨qb.new _ _ _,h.grow ((za _ _).alloc ja _)⟩
theorem Ko(h:Hid (Qh W W.heap.size a (.agg #[pa a.state,pa a.value,.slice ba a.by_.length bc,.slice oa a.over.length oc]))):Hid (Yo (W.alloc (.cells #[pa a.state,pa a.value,.slice ba a.by_.length bc,.slice oa a.over.length oc] 42)) W.heap.size a ba bc oa oc)/\Hid (Da W.heap.size W (W.alloc (.cells #[pa a.state,pa a.value,.slice ba a.by_.length bc,.slice oa a.over.length oc] 42))):=⟨uV h.o,(za _ _).alloc ja _⟩
structure V3 (ps : List Pv) : Prop where
 len:ps.length<=1000
 ex:∀p∈ps,p.except.length<=40
 cond:∀p∈ps,p.cond.size<=1000000
 id:∀p∈ps,p.id.size<=1000000
 val:∀p∈ps,Wh p.value
theorem Is(h:Hid (GA w W b d ps ts v cs))(hs:Hid (V3 ps))(q:Na){c:Ea}(l:Hid (IntsIn W W.heap.size C c))(k:Df d ps ts q C=(a,Z)):
  Db 8 #[v,.string q,c] W λe W'=>∃(ba:Option Addr) (bc:Nat) (oa:Option Addr) (oc:Nat),e=.returned (.tuple #[.agg #[pa a.state,pa a.value,.slice ba a.by_.length bc,.slice oa a.over.length oc],pa Z])/\Hid (GA w W' b d ps ts v cs)/\Hid (Qh W' W'.heap.size a (.agg #[pa a.state,pa a.value,.slice ba a.by_.length bc,.slice oa a.over.length oc]))/\Hid (Da W.heap.size W W'):=by
 refine(yE d ps ts q C v c W hs.o.len h.o.law l.o hs.o.ex hs.o.cond h.o.Cq).mono ?_;rintro e p ⟨_,rfl,f,g⟩;rw[k]at g⊢;obtain⟨m,n,rfl,i,j⟩:=g;obtain⟨ba,bc,rfl,_⟩:=Sa.shape i;obtain⟨oa,oc,rfl,_⟩:=Sa.shape j;exact⟨ba,bc,oa,oc,rfl,h.o.step f,⟨_,_,rfl,i,j⟩,f⟩
theorem Bk(h:Hid (GA w W b d ps ts v cs))(hs:Hid (V3 ps))(q:Na)(x y:Int)(k:Df d ps ts q [x,y]=(a,Z)):
  Db 8 #[v,.string q,.slice (Nb W.heap.size) 2 2] (W.alloc (.cells #[pa x,pa y] 3)) λe W'=>∃(ba:Option Addr) (bc:Nat) (oa:Option Addr) (oc:Nat),e=.returned (.tuple #[.agg #[pa a.state,pa a.value,.slice ba a.by_.length bc,.slice oa a.over.length oc],pa Z])/\Hid (GA w W' b d ps ts v cs)/\Hid (Qh W' W'.heap.size a (.agg #[pa a.state,pa a.value,.slice ba a.by_.length bc,.slice oa a.over.length oc]))/\Hid (Da W.heap.size W W'):=by
 have c:Da _ W (W.alloc (.cells #[pa x,pa y] 3)):=(za _ _).alloc (wa _) _;have K:=qb.new W 3 #[pa x,pa y];refine(Is (h.o.step c) hs q ⟨_,2,rfl,wa _,Ba,λ_=>⟨_,0,rfl,K.lt,λi l=>?_⟩⟩ k).mono ?_
 ·match i,l with
  | 0,_=>exact K.cell 0
  | 1,_=>exact K.cell 1
 {rintro e m ⟨ba,bc,oa,oc,rfl,f,g,j⟩;exact⟨ba,bc,oa,oc,rfl,f,g,c.trans (j.o.mono c.size)⟩}
theorem Yw(h:Hid (GA w W b d ps ts v cs))(hs:Hid (V3 ps))(q:Na)(i:(Je d ps ts []).2=0->Ii ps=[]->zE d ps)(hne:(bj d ps ts q).2=0->(bj d ps ts q).1≠[]){j:List Fx}(k:bj d ps ts q=(j,Z)):
  Db 9 #[v,.string q] W λe W'=>∃(a:Option Addr) (c:Nat) (f:List Uj),e=.returned (.tuple #[.slice a f.length c,pa Z])/\Hid (GA w W' b d ps ts v cs)/\Hid (uR W W' d (j,Z) (.slice a f.length c) f):=by
 refine(cH d ps ts q v W hs.o.len h.o.law hs.o.ex hs.o.cond hs.o.id hs.o.val i hne h.o.Cq).mono ?_;rintro e l ⟨u,f,rfl,g⟩;rw[k]at g⊢;obtain⟨a,c,rfl⟩:=Xd g.row.own;exact⟨a,c,f,rfl,h.o.step g.below,g⟩
theorem vR{w:Ca}{s:Na}{b:Nat}(h:qb w b 9 #[.string s]):Sc w w.heap.size [s] (.slice (Nb b) 1 1):=⟨_,1,rfl,wa _,Ba,λ_=>⟨b,0,rfl,h.lt,λi a=>by
 obtain rfl:i=0:=by simpa using a
 exact h.cell 0⟩⟩
theorem xR{w:Ca}:Sc w w.heap.size [] Ua:=⟨none,0,rfl,wa _,ja,λh=>absurd rfl h⟩
theorem Gz(h:Hid (Yo W Y a ba bc oa oc)){x:Jo}{u:Ea}(b:Da W.heap.size W W')(f:Qh W' W'.heap.size x u)(hs:Gx a x=true):Db 10 #[.agg #[pa a.state,pa a.value,.slice ba a.by_.length bc,.slice oa a.over.length oc],u] W' λe c=>e=.returned (.bool true)/\Hid (Da W.heap.size W c):=by
 refine(MC a x _ u W' (h.o.xE.grow b) f).mono ?_;rintro e c ⟨rfl,d⟩;exact⟨by rw[hs],b.trans (d.mono b.size)⟩
theorem C8(h:Hid (Yo W Y a ba bc oa oc))(i j:Int)(b c:Na)(hs:Gx a ⟨i,j,[b],[c]⟩=true):
  Db 10 #[.agg #[pa a.state,pa a.value,.slice ba a.by_.length bc,.slice oa a.over.length oc],.agg #[pa i,pa j,.slice (Nb W.heap.size) 1 1,.slice (Nb (W.heap.size+1)) 1 1]] ((W.alloc (.cells #[.string b] 9)).alloc (.cells #[.string c] 9)) λe l=>e=.returned (.bool true)/\Hid (Da W.heap.size W l):=by
 have d:Da _ W (W.alloc (.cells #[.string b] 9)):=(za _ _).alloc (wa _) _;have f:Da _ _ ((W.alloc (.cells #[.string b] 9)).alloc (.cells #[.string c] 9)):=(za _ _).alloc (wa _) _;have k:(W.alloc (.cells #[.string b] 9)).heap.size=W.heap.size+1:=Ia _ _;have g:=(qb.new W 9 _).below f;have b2:=qb.new (W.alloc (.cells #[.string b] 9)) 9 #[.string c];rw[k]at b2;exact Gz h (d.trans (f.mono d.size)) ⟨_,_,rfl,vR g,vR b2⟩ hs
theorem PX(h:Hid (Yo W Y a ba bc oa oc))(i j:Int)(b:Na)(hs:Gx a ⟨i,j,[b],[]⟩=true):
  Db 10 #[.agg #[pa a.state,pa a.value,.slice ba a.by_.length bc,.slice oa a.over.length oc],.agg #[pa i,pa j,.slice (Nb W.heap.size) 1 1,Ua]] (W.alloc (.cells #[.string b] 9)) λe c=>e=.returned (.bool true)/\Hid (Da W.heap.size W c):=
 Gz h ((za _ _).alloc ja _) ⟨_,_,rfl,vR (qb.new W 9 _),xR⟩ hs
theorem D8(h:Hid (Yo W Y a ba bc oa oc))(i j:Int)(hs:Gx a ⟨i,j,[],[]⟩=true):
  Db 10 #[.agg #[pa a.state,pa a.value,.slice ba a.by_.length bc,.slice oa a.over.length oc],.agg #[pa i,pa j,Ua,Ua]] W λe b=>e=.returned (.bool true)/\Hid (Da W.heap.size W b):=
 Gz h (za _ _) ⟨_,_,rfl,xR,xR⟩ hs
theorem xN(h:Hid (GA w W b d ps ts v cs))(hs:Hid (V3 ps)){L:List Na}(i:ps.foldl oq []=L):Db 13 #[v] W λe W'=>∃(a:Option Addr) (c:Nat),e=.returned (.slice a L.length c)/\Hid (Sc W' W'.heap.size L (.slice a L.length c))/\Hid (GA w W' b d ps ts v cs):=by
 refine(aB d ps ts v W hs.o.len h.o.law).mono ?_;rintro e j ⟨r,rfl,g,f⟩;rw[i]at f;obtain⟨a,c,rfl,_⟩:=Sa.shape f;exact⟨a,c,rfl,f,h.o.step g⟩
theorem NZ{a b:Na}{u:Ea}(h:Hid (Sc W W.heap.size [a,b] u)):Db 17 #[u,.slice (Nb W.heap.size) 2 2] (W.alloc (.cells #[.string a,.string b] 9)) λe d=>e=.returned (.bool true)/\Hid (Da W.heap.size W d):=by
 have c:Da _ W (W.alloc (.cells #[.string a,.string b] 9)):=(za _ _).alloc (wa _) _;have K:=qb.new W 9 #[.string a,.string b]
 have g:Sc _ _ [a,b] (.slice _ 2 2):=⟨_,2,rfl,wa _,Ba,λ_=>⟨_,0,rfl,K.lt,λi f=>by
  match i,f with
  | 0,_=>exact K.cell 0
  | 1,_=>exact K.cell 1⟩⟩
 refine(Js _ _ _ _ _ _ (Sa.mono (Ad.mono _) c.size (Sc.below c h.o)) g).mono ?_;rintro e d ⟨rfl,n,rfl⟩;refine⟨by rw[show gi [a,b] [a,b]=true by simp[gi,Lh]],c.trans ?_⟩;exact(World.Md _ _ _).mono c.size
end
theorem szX:V3 Kh:=by
 refine⟨Ba,?_,?_,?_,?_⟩
 all_goals
  intro p a;simp only[Kh,uf,List.not_mem_nil,or_false]at a;rcases a with rfl|rfl|rfl
  all_goals first
   | decide
   | (unfold Wh;decide)
theorem oK(w:Ca)(hT:Jh w.heap.size w):Db 6 #[] w λe w'=>e=.returned (.bool true)/\Da w.heap.size w w':=by
 have HT:=la hT;have z:=la szX;obtain⟨r1,r2⟩:=E8;have O:Hid (bj dJ Kh jr Cj=([(F8,QX),(G8,RX),(H8,SX),(I8,Qi)],0)):=Prod.ext r2 r1;have N:Hid ((bj dJ Kh jr Cj).2=0->(bj dJ Kh jr Cj).1≠[]):=λ_=>by rw[r2];exact List.cons_ne_nil _ _
 obtain⟨t1,t2,t3,t4,t5⟩:=OZ;have T1:=la t1;have T2:=la t2;have T3:=la t3;have T4:=la t4;have T5:=la t5;clear hT r1 r2 t1 t2 t3 t4 t5;go_enter func6,ntmps6;go_upto_region 2 with(go_at_call 23;refine(dH _).mono ?_;rintro e A ⟨v,rfl,I,J⟩;have D:=la J;obtain⟨u1,u2,u3,rfl,hd,hp,ht⟩:=J;obtain⟨ad,cd,rfl,_⟩:=Sa.shape hd;obtain⟨ap,cp,rfl,_⟩:=Sa.shape hp;obtain⟨at_,ct,rfl,_⟩:=Sa.shape ht;have m:=la I;clear hd hp ht I);have t:Da _ A (A.alloc (.cells #[.slice ad dJ.length cd,.slice ap Kh.length cp,.slice at_ jr.length ct] 28)):=(za _ _).alloc (wa _) _;have u:=m.o.trans (t.mono m.o.size);have b:Hid (GA w _ _ dJ Kh jr _ #[.slice ad dJ.length cd,.slice ap Kh.length cp,.slice at_ jr.length ct]):=⟨qb.new A _ _,(D.o.below t).mono t.size,λw' h'=>HT.o w' (u.trans (h'.mono u.size)),u⟩;clear t u D HT m;generalize A.alloc _=W at*
 (have i:=b.o.box.cell 0;have j:=b.o.box.cell 1;have k:=b.o.box.cell 2)
 go_upto_region 3 with(go_at_call 8;refine(Bk b z Cj 1 0 T1.o).mono ?_;rintro e A ⟨ba1,bc1,oa1,oc1,rfl,h,l,m⟩);obtain⟨c,d⟩:=Ko l;have b:=la (h.o.step d.o);clear h l m d i j k;generalize X:A.alloc _=W1 at*
 clear X
 (have i:=b.o.box.cell 0;have j:=b.o.box.cell 1;have k:=b.o.box.cell 2)
 go_upto_region 4 with(go_at_call 8;refine(Bk b z Cj 3 0 T2.o).mono ?_;rintro e w2 ⟨ba2,bc2,oa2,oc2,rfl,h,l,C⟩;have c:=Yo.step c C.o);obtain⟨a,d⟩:=Ko l;have c:=Yo.step c d.o;have b:=la (h.o.step d.o);clear h l C d i j k;generalize Y:w2.alloc _=W2 at*
 clear Y
 (have i:=b.o.box.cell 0;have j:=b.o.box.cell 1;have k:=b.o.box.cell 2)
 go_upto_region 5 with(go_at_call 8;refine(Bk b z Cj 3 1 T3.o).mono ?_;rintro e w3 ⟨ba3,bc3,oa3,oc3,rfl,h,l,x⟩;have c:=Yo.step c x.o;have a:=Yo.step a x.o);obtain⟨f,d⟩:=Ko l;have c:=Yo.step c d.o;have a:=Yo.step a d.o;have b:=la (h.o.step d.o);clear h l x d i j k;generalize Z:w3.alloc _=W3 at*
 clear Z
 (have i:=b.o.box.cell 0;have j:=b.o.box.cell 1;have k:=b.o.box.cell 2)
 go_upto_region 6 with(go_at_call 8;refine(Bk b z Cj 1 1 T4.o).mono ?_;rintro e w4 ⟨ba4,bc4,oa4,oc4,rfl,h,l,r⟩;have c:=Yo.step c r.o;have a:=Yo.step a r.o;have f:=Yo.step f r.o);obtain⟨g,d⟩:=Ko l;have c:=Yo.step c d.o;have a:=Yo.step a d.o;have f:=Yo.step f d.o;have b:=la (h.o.step d.o);clear h l r d i j k;generalize hW4:w4.alloc _=W4 at*
 clear hW4
 (have i:=b.o.box.cell 0;have j:=b.o.box.cell 1;have k:=b.o.box.cell 2)
 go_upto_region 7 with(go_at_call 9;refine(Yw b z Cj (λ_ _=>vV) N.o O.o).mono ?_;rintro e w5 ⟨ar,cr,ys,rfl,b,y⟩;have n:=y.o.below;have c:=Yo.step c n;have a:=Yo.step a n;have f:=Yo.step f n;have g:=Yo.step g n;clear i j k;(have i:=b.o.box.cell 0;have j:=b.o.box.cell 1;have k:=b.o.box.cell 2))
 have K:ys.length=4:=by{have q:=(y.o.ok rfl).1.length_eq;rw[Va]at q;exact q}
 rw[K];clear y n K;go_upto_region 8 with(go_at_call 8;refine(Bk b z Cj 10 0 T5.o).mono ?_;rintro e w6 ⟨ba5,bc5,oa5,oc5,rfl,h,l,p⟩;have c:=Yo.step c p.o;have a:=Yo.step a p.o;have f:=Yo.step f p.o;have g:=Yo.step g p.o);obtain⟨L,d⟩:=Ko l;have c:=Yo.step c d.o;have a:=Yo.step a d.o;have f:=Yo.step f d.o;have g:=Yo.step g d.o;have b:=la (h.o.step d.o);clear h l p d L i j k;generalize hW6:w6.alloc _=W6 at*
 clear hW6
 (have i:=b.o.box.cell 0;have j:=b.o.box.cell 1;have k:=b.o.box.cell 2)
 have c10:=c.o.box.cell 0;have c11:=c.o.box.cell 1;have c12:=c.o.box.cell 2;have c13:=c.o.box.cell 3
 (have P:=a.o.box.cell 0;have Q:=a.o.box.cell 1;have c22:=a.o.box.cell 2;have R:=a.o.box.cell 3)
 (have S:=f.o.box.cell 0;have T:=f.o.box.cell 1;have U:=f.o.box.cell 2;have V:=f.o.box.cell 3)
 (have E:=g.o.box.cell 0;have F:=g.o.box.cell 1;have G:=g.o.box.cell 2;have H:=g.o.box.cell 3)
 go_upto_region 9 with(go_at_call 10;(first|with_reducible refine(C8 c _ _ _ _ ?hs).mono ?_|with_reducible refine(PX a _ _ _ ?hs).mono ?_|with_reducible refine(D8 f _ _ ?hs).mono ?_);(case hs=>kernel_rfl);rintro e w7 ⟨rfl,s⟩;have a:=Yo.step a s.o;have f:=Yo.step f s.o;have g:=Yo.step g s.o;have b:=la (b.o.step s.o);(have P:=a.o.box.cell 0;have Q:=a.o.box.cell 1;have c22:=a.o.box.cell 2;have R:=a.o.box.cell 3);(have S:=f.o.box.cell 0;have T:=f.o.box.cell 1;have U:=f.o.box.cell 2;have V:=f.o.box.cell 3);(have E:=g.o.box.cell 0;have F:=g.o.box.cell 1;have G:=g.o.box.cell 2;have H:=g.o.box.cell 3);(have i:=b.o.box.cell 0;have j:=b.o.box.cell 1;have k:=b.o.box.cell 2))
 (have E:=g.o.box.cell 0;have F:=g.o.box.cell 1;have G:=g.o.box.cell 2;have H:=g.o.box.cell 3)
 (have i:=b.o.box.cell 0;have j:=b.o.box.cell 1;have k:=b.o.box.cell 2)
 clear c a f
 go_wp2_with (first
  | (go_at_call 10;with_reducible refine(PX g _ _ _ ?hs).mono ?_;(case hs=>kernel_rfl);rintro e w8 ⟨rfl,M⟩;have b:=la (b.o.step M.o);(have i:=b.o.box.cell 0;have j:=b.o.box.cell 1;have k:=b.o.box.cell 2))
  | (go_at_call 13;refine(xN b z wV).mono ?_;rintro e w9 ⟨qa,qc,rfl,HQ,b⟩)
  | (go_at_call 17;refine(NZ HQ).mono ?_;rintro e eJ ⟨rfl,B⟩))
 go_ret;exact⟨rfl,b.o.low.trans (B.o.mono b.o.low.size)⟩
section
variable {d : List Fa} {F : (Nat -> Int)-> Jo × Int} {regs : List Fx}
theorem Ks.least(h:Ks d F regs){r:Fx}(a:r∈regs):∃p,Ld d r.1=some p/\p.length=d.length/\Gi d (λi=>p.getD i 0)/\F (λi=>p.getD i 0)=(r.2,0):=by
 obtain⟨p,c⟩:=Option.isSome_iff_exists.1 (h.ok.some r a);obtain⟨_,e,b,f,_⟩:=Yi (h.ok.valid r a) c;exact⟨p,c,e,b,h.xE r a _ b f⟩
end
open Tj
theorem En{d:List Fa}{ps:List Pv}(h:Ef d ps j=true):gf d=true/\(ps.map Pv.id).Nodup:=by
 unfold Ef at h;simp only[Ib]at h;refine⟨h.1.1.1,?_⟩;have:=(Vt d ps [] h.2).2;rw[List.Nodup,List.pairwise_map];exact this
theorem Cm{d:List Fa}{ps:List Pv}{ts:List Int}{ids:List Na}(h:(Je d ps ts ids).2=0):Ef d ps ts.length=true:=by
 unfold Je at h
 split at h
 {next a=>exact a}
 {cases h}
mutual
theorem gH{d:List Fa}{c a:Nat->Int}(h:∀i,i<d.length->c i=a i):∀f,Gk d f->Fe d c f=Fe d a f
 | .mk l s m n j,hw=>by{rw[Gk]at hw;rw[Fe,Fe];(rcases hw with⟨o,_,_,_,rfl⟩|⟨rfl,_,_,_,⟨k,e,g⟩,rfl⟩|⟨p,_,_,_,hw⟩);{rw[if_neg ja,if_neg ja,if_neg ja,if_neg ja,if_neg ja,if_neg ja,if_neg ja,if_neg ja]};{rw[Ga rfl,Ga rfl,e,Fc,h k g]};{(have b:l≠3:=ja);rw[NC h j hw,if_neg b,if_neg b]}}
theorem NC{d:List Fa}{c b:Nat->Int}(h:∀i,i<d.length->c i=b i):∀a,YT d a->Bm d c a=Bm d b a
 | [],_=>rfl
 | k::a,hw=>by{rw[Bm,Bm,gH h k hw.1,NC h a hw.2]}
end
theorem Iz{a d:Type}(P:a->Bool)(f:a->d):∀(l:List a) (g:Nat->d) (Q:Nat->Bool),(∀i (h:i<l.length),g i=f l[i]/\Q i=P l[i])->(l.filter P).map f=((List.range l.length).filter Q).map g
 | [],_,_,_=>rfl
 | x::l,g,Q,h=>by{(have c:=Iz P f l (g∘Nat.succ) (Q∘Nat.succ) λi j=>h (i+1) (by simpa using j));obtain⟨b,e⟩:=h 0 Aa;rw[Qb,List.range_succ_eq_map,Jc,Jc,e,List.filter_map];simp at b⊢;(split);{rw[Eb,Eb,b,c,Ze]};{rw[c,Ze]}}
theorem pK{d:List Fa}{ps:List Pv}(i:(ps.map Pv.id).Nodup)(c:j<ps.length):xi (wj d ps C) ps[j].id=Jw d ps C (rowsOf ps) j:=by
 rw[Rc,ly];unfold wj;rw[List.mem_map];constructor
 {rintro⟨a,b,e⟩;obtain⟨f,g⟩:=List.mem_filter.1 b;have b:=List.mem_range.1 f;rw[Xx b]at e;have:=(List.getElem_inj i (h₀:=by simpa using b) (h₁:=by simpa using c)).1 (by simpa using e);exact this▸g}
 {exact λh=>⟨j,List.mem_filter.2 ⟨List.mem_range.2 c,h⟩,Xx c⟩}
theorem AN{d:List Fa}{ps:List Pv}(q:Na)(b:(ps.map Pv.id).Nodup):bB ps q (wj d ps C)=((Og ps q ps.length).filter λi=>Jw d ps C (rowsOf ps) i).map (qj ps):=by
 unfold bB Og;rw[Zg];refine Iz _ _ ps _ _ λi a=>⟨Mk a,?_⟩
 unfold Jz;rw[Xa,pK b a,Bool.and_comm]
section
variable {w W W' : Ca} {b : Nat} {d : List Fa} {ps : List Pv} {ts : List Int} {v : Ea} {cs : Array Ea}
theorem FR(h:Hid (GA w W b d ps ts v cs)):Db 6 #[] W λe W'=>e=.returned (.bool true)/\Hid (GA w W' b d ps ts v cs):=
 (oK W h.o.Cq).mono λ_ _ ⟨c,a⟩=>⟨c,h.o.step a⟩
theorem yV(h:Hid (GA w W b d ps ts v cs))(n:Int)(a:0<=n)(c:n<=1000):Db 7 #[v,pa n] W λe W'=>K8 d ps ts n e/\Hid (GA w W' b d ps ts v cs):=
 (BN d ps ts n v W a c h.o.law).mono λ_ _ ⟨g,f⟩=>⟨g,h.o.step f⟩
theorem zV(i:Z<=1000)(h:TX d ps ts Z)(f:∀p∈ps,Wh p.value):Hid (V3 ps):=by
 have b:=h.Ar;unfold lr at b;simp at b;obtain⟨⟨g,_⟩,c⟩:=b;have e:=c;refine⟨ja,λp a=>?_,λp a=>ub (kH h.Ar p a) Ba,λp a=>?_,f⟩
 all_goals
  have:=e p a;unfold Mv at this;simp only[Ib,decide_eq_true_eq]at this;omega
end
def vw(ps:List Pv)(k:Nat):Int:=match ps[k]? with|some p=>p.value|none=>0
structure dW (d : List Fa) (ps : List Pv) (ts : List Int) (q : Na) (c : List Int) (a : Jo) (L : List Nat) : Prop where
 ask:Pm d ps c=0
 ids:wj d ps c=L.map (qj ps)
 at_:∀k∈L,k<ps.length/\px (qj ps k) ps 0=(k:Int)
 err:∀n∈L,∀k∈L,Jz ps q n=true->Jz ps q k=true->n≠k->(TK d ps ts n k).2=0
 win:∀n∈L,∀k∈L,Jz ps q n=true->Jz ps q k=true->n≠k->xi a.by_ (qj ps k)=true->(TK d ps ts n k).1=false
 adO:∀k∈L,Jz ps q k=true->xi a.by_ (qj ps k)=false->∃n∈L,Jz ps q n=true/\n≠k/\(TK d ps ts n k).1=true/\xi a.by_ (qj ps n)=true
 by_:a.by_=((L.filter (Jz ps q)).filter λk=>xi a.by_ (qj ps k)).map (qj ps)
 over:a.over=((L.filter (Jz ps q)).filter λk=> !xi a.by_ (qj ps k)).map (qj ps)
 pY:(a.state,a.value)=aA (((L.filter (Jz ps q)).filter λk=>xi a.by_ (qj ps k)).map (vw ps)) (0,0)
theorem AH{d:List Fa}{ps:List Pv}{ts:List Int}{q:Na}{a:Jo}(h:Df d ps ts q C=(a,0)):∃L,dW d ps ts q C a L:=by
 unfold Df at h;by_cases b:(Je d ps ts []).2=0
 {rw[Ga b]at h;by_cases f:Pm d ps C=0;{rw[Ga f]at h;have I:=Cm b;have hP:=Dw I;obtain⟨hv,Q⟩:=En I;(have V:(Rh d ps ts (bB ps q (wj d ps C))).2=0:=by rw[h]);obtain⟨M,B,J,K⟩:=uS V;rw[h]at B J K;have t:wj d ps C=((List.range ps.length).filter (Jw d ps C (rowsOf ps))).map (qj ps):=by{unfold wj;(refine Ch λk c=>?_);have c:=List.mem_range.1 (List.mem_filter.1 c).1;rw[Xx c,Mk c]};obtain⟨L,D⟩:∃L,(List.range ps.length).filter (Jw d ps C (rowsOf ps))=L:=⟨_,rfl⟩;rw[D]at t;(have hlt:∀k∈L,k<ps.length:=λk c=>by rw[<-D]at c;exact List.mem_range.1 (List.mem_filter.1 c).1);have F:bB ps q (wj d ps C)=(L.filter (Jz ps q)).map (qj ps):=by{rw[AN q Q];unfold Og;rw[<-D,Zg,Zg];refine congrArg (List.map _) (List.filter_congr λk c=>?_);rw[Bool.and_comm]};rw[F]at M B J K;(have m:∀k,k<ps.length->(Oo ps ((L.filter (Jz ps q)).map (qj ps)) k=true↔k∈L/\Jz ps q k=true):=λk c=>by{rw[XE c, <-Mk c,ly,List.mem_map];constructor;{rintro⟨j,H,e⟩;obtain⟨S,Z⟩:=List.mem_filter.1 H;have E:=hlt j S;rw[Mk E,Mk c]at e;have:j=k:=(List.getElem_inj Q (h₀:=by simpa using E) (h₁:=by simpa using c)).1 (by simpa using e);exact this▸⟨S,Z⟩};{exact λ⟨b,f⟩=>⟨k,List.mem_filter.2 ⟨b,f⟩,rfl⟩}});obtain⟨l,z⟩:=DH M;have O:a.by_=l.map (qj ps):=B.trans z.eq;(have inj:∀i k,i<ps.length->k<ps.length->qj ps i=qj ps k->i=k:=λi k g c e=>by{rw[Mk g,Mk c]at e;exact(List.getElem_inj Q (h₀:=by simpa using g) (h₁:=by simpa using c)).1 (by simpa using e)});(have r:∀i∈l,i<ps.length/\i∈L/\Jz ps q i=true:=λi g=>by{obtain⟨b,f⟩:=z.inside i g;have:=(m i b).1 (by rw[XE b, <-Mk b];exact f);exact⟨b,this⟩});(have p:∀k,k<ps.length->(xi a.by_ (qj ps k)=true↔k∈l):=λk c=>by{rw[O,ly,List.mem_map];exact⟨λ⟨j,H,e⟩=>inj j k (r j H).1 c e▸H,λh=>⟨k,h,rfl⟩⟩});(have v:∀k,k<ps.length->px (qj ps k) ps 0=(k:Int):=λk c=>by rw[Mk c];exact rW z.ne c);(have u:∀k∈L,Jz ps q k=true->qj ps k∈(L.filter (Jz ps q)).map (qj ps):=λk b f=>List.mem_map.2 ⟨k,List.mem_filter.2 ⟨b,f⟩,rfl⟩);(have s:∀n∈L,∀k∈L,Jz ps q n=true->Jz ps q k=true->n≠k->(TK d ps ts n k).2=0:=λn b k f A R hne=>by{(have g:YE ps n k=true:=by have:=hlt n b;have:=hlt k f;grind [YE]);have o:=M;unfold Je at o;rw[Ga I]at o;(split at o);{have:=(tW o).err k (hlt k f) ((m k (hlt k f)).2 ⟨f,R⟩) n (hlt n b) ((m n (hlt n b)).2 ⟨b,A⟩) (Ne.symm hne);unfold TK sW;rw[Ga ⟨I,g⟩];simpa using this};{cases o}});(have G:(List.range ps.length).filter (λk=>xi a.by_ (qj ps k))=(L.filter (Jz ps q)).filter λk=>xi a.by_ (qj ps k):=by{rw[<-D,Zg,Zg];(refine List.filter_congr λk c=>?_);have c:=List.mem_range.1 c;cases N:xi a.by_ (qj ps k)with| false=>simp| true=>{obtain⟨_,b,f⟩:=r k ((p k c).1 N);rw[<-D]at b;have:=(List.mem_filter.1 b).2;simp[f,this]}});(have P:l=(List.range ps.length).filter λk=>xi a.by_ (qj ps k):=by{(have T:=(xh (n:=ps.length)).filter λk=>xi a.by_ (qj ps k));refine((List.perm_ext_iff_of_nodup (z.order.imp Nat.ne_of_lt) (T.imp Nat.ne_of_lt)).2 λk=>?_).eq_of_pairwise (λx y _ _ b f=>by omega) z.order T;rw[Qp,Sh];exact⟨λh=>⟨(r k h).1,(p k (r k h).1).2 h⟩,λh=>(p k h.1).1 h.2⟩});refine⟨L,f,t,λk c=>⟨hlt k c,v k (hlt k c)⟩,s,λn b k f A R hne hw=>?_,λk b A hw=>?_,by rw[<-G, <-P];exact O,?_,?_⟩;{have:=z.none k ((p k (hlt k f)).1 hw) _ (u n b A);rw[v n (hlt n b)]at this;have U:=s n b k f A R hne;unfold cM at this;rw[U]at this;simpa using this};{(rcases z.over _ (u k b A)with h|⟨i,g,h⟩);{rw[<-O,hw]at h;cases h};{rw[v k (hlt k b)]at h;obtain⟨W,X,Y⟩:=r i g;have w:=(p i W).2 g;unfold cM at h;refine⟨i,X,Y,λe=>?_,(Ib _ _▸h).1,w⟩;rw[e,hw]at w;cases w}};{rw[J,List.filter_map,B];rfl};{rw[K, <-G,B];refine congrArg (λx=>aA x (0,0)) (Iz _ _ ps _ _ λi g=>⟨?_,?_⟩);{unfold vw;rw[Xa g]};{rw[Mk g]}}};{rw[if_neg f]at h;exact absurd (congrArg Prod.snd h) f}}
 {rw[if_neg b]at h;exact absurd (congrArg Prod.snd h) Aa}
def aJ(d:List Fa)(ps:List Pv)(ts:List Int)(q:Na)(I n:Nat):Bool:=Jz ps q n&& (decide (n≠I)&& (TK d ps ts n I).1)
def mQ(d:List Fa)(ps:List Pv)(ts:List Int)(q:Na)(a:List Na)(I n:Nat):Bool:=aJ d ps ts q I n&& xi a (qj ps n)
theorem PZ{d:List Fa}{ps:List Pv}{ts:List Int}{q:Na}{by_:List Na}{N:Nat}(h:¬(Jz ps q N=true/\N≠j)):aJ d ps ts q j N=false/\mQ d ps ts q by_ j N=false:=by
 grind [aJ,mQ]
theorem DK{q:Na}{p:Pv}{I:Nat}(h:¬(Ek q p=true/\j≠I)):(p.kind !=2)=true\/((p.kind !=2)=false/\(p.name.toList==q.toList)=false)\/((p.kind !=2)=false/\(p.name.toList==q.toList)=true/\decide (j=I)=true/\((j:Int)==(I:Int))=true):=by
 unfold Ek Lh at h
 grind
theorem oJ{m:Nat}(h:Q.take (m+1)=Q.take m++[j])(G:Nat->Bool):(Q.take (m+1)).any G=((Q.take m).any G || G j):=by
 rw[h,List.any_append]
 simp
theorem bR{d:List Fa}{ps:List Pv}{ts:List Int}{q:Na}{a:Jo}(h:dW d ps ts q C a Q)(i:j∈Q)(k:Jz ps q j=true):
  Q.any (aJ d ps ts q j)= !xi a.by_ (qj ps j)/\Q.any (mQ d ps ts q a.by_ j)= !xi a.by_ (qj ps j):=by
 cases e:xi a.by_ (qj ps j)with| true=>{(have c:∀n∈Q,aJ d ps ts q j n=false:=λn b=>by{unfold aJ;cases g:Jz ps q n with| false=>rfl| true=>{by_cases f:n=j;{simp[f]};{rw[h.win n b j i g k f e];simp}}});refine⟨List.any_eq_false.2 λn b=>by simp[c n b],List.any_eq_false.2 λn b=>by simp[mQ,c n b]⟩}| false=>{obtain⟨n,b,g,f,l,m⟩:=h.adO j i k e;(have c:aJ d ps ts q j n=true:=by unfold aJ;simp[g,f,l]);exact⟨List.any_eq_true.2 ⟨n,b,c⟩,List.any_eq_true.2 ⟨n,b,by unfold mQ;rw[c,m];rfl⟩⟩}
theorem pJ{P:Nat->Bool}{I:Nat}(h:Q.take (j+1)=Q.take j++[I])(a:P I=true)(G:Nat->Bool):((Q.take (j+1)).filter P).filter G=((Q.take j).filter P).filter G++if G I=true then[I]else[]:=by
 rw[h,yd,yd];simp[a,List.filter_cons]
theorem ML{d:List Fa}{ps:List Pv}{ts:List Int}{q:Na}{a:Jo}(h:dW d ps ts q C a Q)(i:j∈Q)(l:Jz ps q j=true)(b:xi a.by_ (qj ps j)=true)(f:a.state=1):vw ps j=a.value:=by
 obtain⟨c,e⟩:=Prod.ext_iff.1 h.pY;have g:=(OC (((Q.filter (Jz ps q)).filter λk=>xi a.by_ (qj ps k)).map (vw ps))).2.1 (by rw[<-c];exact f) (vw ps j) (List.mem_map.2 ⟨j,List.mem_filter.2 ⟨List.mem_filter.2 ⟨i,l⟩,b⟩,rfl⟩);rw[g];exact e.symm
theorem qR{d:List Fa}{ps:List Pv}{ts:List Int}{q:Na}{a:Jo}(h:dW d ps ts q C a Q)(g:(Qs (((Q.filter (Jz ps q)).filter λk=>xi a.by_ (qj ps k)).map (vw ps))).length=j):
  (j=0/\a.state=0/\a.value=0)\/(j=1/\a.state=1)\/(1<j/\a.state=2/\a.value=0):=by
 obtain⟨b,c⟩:=Prod.ext_iff.1 h.pY;obtain⟨e,_,f⟩:=OC (((Q.filter (Jz ps q)).filter λk=>xi a.by_ (qj ps k)).map (vw ps));rw[<-b,g]at e;rw[<-b, <-c]at f;simp only at e f;clear b c g h
 grind
theorem yR{d:List Fa}{ps:List Pv}{ts:List Int}{q:Na}{a:Jo}(h:dW d ps ts q C a Q):Q.length<=ps.length:=by
 have h:=congrArg List.length h.ids;rw[Va]at h;rw[<-h];unfold wj;rw[Va];exact ub (ve _ _) (by rw[Jd];exact wa _)
theorem Kt(ps:List Pv)(a b:Int):Bi ps [a,b]=YE ps a b:=by
 unfold Bi YE;simp[Bool.and_assoc]
theorem rJ(w:Ca)(a b:Int):IntsIn (w.alloc (.cells #[pa a,pa b] 3)) (w.alloc (.cells #[pa a,pa b] 3)).heap.size [a,b] (.slice (Nb w.heap.size) 2 2):=by
 refine⟨_,2,rfl,wa _,Ba,λ_=>⟨w.heap.size,0,rfl,Aa,λi c=>?_⟩⟩;have K:=qb.new w 3 #[pa a,pa b]
 match i,c with| 0,_=>exact K.cell 0| 1,_=>exact K.cell 1
theorem NL(d:List Fa)(ps:List Pv)(ts:List Int)(a b:Int)(v:Ea)(w:Ca)(P:ps.length<=1000)(H:Gj w w.heap.size d ps ts v)(hsz:∀p∈ps,p.cond.size<=1000000)(G:Jh w.heap.size w):
  Db 40 #[v,pa a,pa b] w λe T=>e=.returned (.tuple #[pa (sW d ps ts a b).1,pa (sW d ps ts a b).2])/\Da w.heap.size w T:=by
 have N:=la H;obtain⟨u1,u2,u3,rfl,hd,J,K⟩:=H;obtain⟨m,q,rfl,_⟩:=Sa.shape hd;obtain⟨n,r,rfl,_⟩:=Sa.shape J;obtain⟨at_,s,rfl,_⟩:=Sa.shape K;have c:Hid (Da w.heap.size w ((w.alloc (.cells #[.slice m d.length q,.slice n ps.length r,.slice at_ ts.length s] 28)).alloc (.cells #[pa a,pa b] 3))):=Xq _ _ _;have f:=la (aT d ps ts [a,b] _ _ ((w.alloc (.cells #[.slice m d.length q,.slice n ps.length r,.slice at_ ts.length s] 28)).alloc (.cells #[pa a,pa b] 3)) w.heap.size P c.o.size (N.o.below c.o) (rJ _ a b) Aa hsz (G.on c.o));have x0:=((qb.new w 28 #[.slice m d.length q,.slice n ps.length r,.slice at_ ts.length s]).alloc (.cells #[pa a,pa b] 3)).cell 0;have y0:=(qb.new w 28 #[.slice m d.length q,.slice n ps.length r,.slice at_ ts.length s]).cell 0;have y1:=(qb.new w 28 #[.slice m d.length q,.slice n ps.length r,.slice at_ ts.length s]).cell 1;have y2:=(qb.new w 28 #[.slice m d.length q,.slice n ps.length r,.slice at_ ts.length s]).cell 2;obtain⟨R,E⟩:∃R,sW d ps ts a b=R:=⟨_,rfl⟩;rw[E];have y:Hid (sW d ps ts a b=R):=E;have C:=la hsz;rw[Ia]at f;clear hd J K hsz G E;by_cases g:Ef d ps ts.length=true/\Bi ps [a,b]=true
 {rw[Ga g]at f;have i:=la g;clear g;go_enter func40,ntmps40;go_upto_region 4 with(go_at_call 82;refine f.o.mono ?_;rintro e U ⟨x,rfl,k,I⟩;obtain⟨V,W,X,Y,Z,rfl,A,F⟩:=(I i.o).o.is);have l:=i.o.2;rw[Kt]at l;unfold YE at l;simp only[Ib,decide_eq_true_eq]at l;obtain⟨⟨⟨L,Q⟩,M⟩,S⟩:=l;have u:=Dw i.o.1;have D:=la (dO A F a.toNat b.toNat ja ja u.days C.o);rw[Int.toNat_of_nonneg L,Int.toNat_of_nonneg M]at D;have j:Hid (R=Hn d (pd ps) (Jj ps) (Dj ts) a.toNat b.toNat):=by{show _=_;rw[<-y.o];unfold sW;rw[Ga ⟨i.o.1,by rw[<-Kt];exact i.o.2⟩]};rw[<-j.o]at D;have z:=la A.QV;have t:=la (c.o.trans (k.mono c.o.size));clear A F I u L Q M S j y f k;go_wp2_with (go_at_call 83;refine D.o.mono ?_;rintro e w4 ⟨rfl,O,B⟩);go_ret2;exact⟨rfl,t.o.trans (B.o.below t.o.size z.o)⟩}
 {rw[if_neg g]at f;have j:Hid (R=(0,1)):=by{show _=_;rw[<-y.o];unfold sW;rw[if_neg (λh=>g ⟨h.1,by rw[Kt];exact h.2⟩)]};clear g y;go_enter func40,ntmps40;go_wp2_with (go_at_call 82;refine f.o.mono ?_;rintro e U ⟨x,rfl,k,_⟩);go_ret2;exact⟨by rw[j.o];rfl,c.o.trans (k.mono c.o.size)⟩}
theorem jH(d:List Fa)(ps:List Pv)(ts:List Int)(a b:Int)(v:Ea)(w:Ca)(y:ps.length<=1000)(s:Gj w w.heap.size d ps ts v)(hsz:∀p∈ps,p.cond.size<=1000000)(r:Jh w.heap.size w):
  Db 16 #[v,pa a,pa b] w λe m=>e=.returned (.tuple #[.bool (TK d ps ts a b).1,pa (TK d ps ts a b).2])/\Da w.heap.size w m:=by
 have x:=la s;obtain⟨u1,u2,u3,rfl,hd,t,u⟩:=s;obtain⟨f,i,rfl,_⟩:=Sa.shape hd;obtain⟨g,j,rfl,_⟩:=Sa.shape t;obtain⟨at_,k,rfl,_⟩:=Sa.shape u;have c:Hid (Da w.heap.size w (w.alloc (.cells #[.slice f d.length i,.slice g ps.length j,.slice at_ ts.length k] 28))):=(za _ _).alloc (wa _) _;have q:=la (NL d ps ts a b _ (w.alloc (.cells #[.slice f d.length i,.slice g ps.length j,.slice at_ ts.length k] 28)) y ((x.o.below c.o).mono c.o.size) hsz (λm h=>r m (c.o.trans (h.mono c.o.size))));have B:=(qb.new w 28 #[.slice f d.length i,.slice g ps.length j,.slice at_ ts.length k]).cell 0;have C:=(qb.new w 28 #[.slice f d.length i,.slice g ps.length j,.slice at_ ts.length k]).cell 1;have D:=(qb.new w 28 #[.slice f d.length i,.slice g ps.length j,.slice at_ ts.length k]).cell 2;unfold TK;clear hd t u hsz r;generalize sW d ps ts a b=R at*
 obtain⟨n,z⟩:=R;simp only at q⊢;go_enter func16,ntmps16;go_wp2_with (go_at_call 40;refine q.o.mono ?_;rintro e A ⟨rfl,l⟩);go_ret2;exact⟨rfl,c.o.trans (l.mono c.o.size)⟩
section
variable {w W W' : Ca} {b : Nat} {d : List Fa} {ps : List Pv} {ts : List Int} {v : Ea} {cs : Array Ea}
theorem AE(h:Hid (GA w W b d ps ts v cs))(hs:Hid (V3 ps)){c:Ea}(j:Hid (IntsIn W W.heap.size C c))(g:Pm d ps C=0):
  Db 14 #[v,c] W λe W'=>∃(a:Option Addr) (n:Nat),e=.returned (.tuple #[.slice a (wj d ps C).length n,pa 0])/\Hid (Sc W' W'.heap.size (wj d ps C) (.slice a (wj d ps C).length n))/\Hid (Da W.heap.size W W'):=by
 refine(dP d ps C v c W W.heap.size hs.o.len (wa _) (wH h.o.law) hs.o.ex hs.o.cond j.o).mono ?_;rintro e k ⟨u,rfl,i,f⟩;rw[Ga g]at f;rw[g];obtain⟨a,n,rfl,_⟩:=Sa.shape f;exact⟨a,n,rfl,f,i⟩
theorem BE(h:Hid (GA w W b d ps ts v cs))(hs:Hid (V3 ps)){s:Na}(g:px s ps 0=Z)(a:Hid (Da W.heap.size W W')):Db 15 #[v,.string s] W' λe c=>e=.returned (pa Z)/\Hid (Da W.heap.size W c):=by
 refine(VJ d ps ts s v W' hs.o.len (h.o.step a.o).law).mono ?_;rintro e c ⟨rfl,f⟩;exact⟨by rw[g],a.o.trans (f.mono a.o.size)⟩
theorem lH(h:Hid (GA w W b d ps ts v cs))(hs:Hid (V3 ps))(i j:Int){x:Bool}(k:TK d ps ts i j=(x,Z))(a:Hid (Da W.heap.size W W')):Db 16 #[v,pa i,pa j] W' λe f=>e=.returned (.tuple #[.bool x,pa Z])/\Hid (Da W.heap.size W f):=by
 have c:=h.o.step a.o;refine(jH d ps ts i j v W' hs.o.len c.law hs.o.cond c.Cq).mono ?_;rintro e f ⟨rfl,g⟩;exact⟨by rw[k],a.o.trans (g.mono a.o.size)⟩
theorem zR{l:List Na}{u:Ea}(b:Hid (Sc W W.heap.size l u))(s:Na)(a:Hid (Da W.heap.size W W')):Db 12 #[u,.string s] W' λe c=>e=.returned (.bool (xi l s))/\W'=c:=
 OL l s u W' W.heap.size (Sa.below (Ad.kept _) a.o b.o)
theorem xq{l m:List Na}{v u:Ea}(f:Hid (Sc W W.heap.size l v))(d:Hid (Sc W W.heap.size m u))(c:gi l m=true)(a:Hid (Da W.heap.size W W')):Db 17 #[v,u] W' λe b=>e=.returned (.bool true)/\Hid (Da W.heap.size W b):=by
 refine(Js l m v u W' W.heap.size (Sa.below (Ad.kept _) a.o f.o) (Sa.below (Ad.kept _) a.o d.o)).mono ?_;rintro e b ⟨rfl,n,rfl⟩;exact⟨by rw[c],a.o.trans (World.Md _ _ _)⟩
structure Wy (W : Ca) (B : Nat) (l m : List Na) (bv ov : Ea) (M : Nat) (vs : List (Int × Bool)) : Prop where
 r1:W.ownsRow B 9 1 bv l.length (l.map Value.string)
 r2:W.ownsRow B 9 1 ov m.length (m.map Value.string)
 map:Wb (Value.int .i64) Value.bool W M vs
 ge:B<=M
 ne:∀g,bv.ownBlock=some g->ov.ownBlock≠some g
section
variable {B M : Nat} {l m : List Na} {bv ov : Ea} {vs : List (Int × Bool)}
theorem Wy.below(h:Hid (Wy W B l m bv ov M vs))(a:Hid (Da W.heap.size W W')):Hid (Wy W' B l m bv ov M vs):=
 ⟨Wd h.o.r1 a.o,Wd h.o.r2 a.o,h.o.map.below a.o h.o.map.lt,h.o.ge,h.o.ne⟩
theorem Sx{w:Ca}{u:Ea}{i:List Ea}(h:w.ownsRow B 9 1 u j i)(f:Wb (Value.int .i64) Value.bool w M vs):some M≠u.ownBlock:=λe=>by
 obtain⟨k,c,d,_⟩:=f;rcases h.2 with⟨rfl,_⟩|⟨g,cap,b,rfl,_,a,_⟩
 {cases e}
 {(cases e);rw[d]at a;cases a}
theorem kB{w a:Ca}{u u2:Ea}{b:List Ea}(h:w.ownsRow B 9 1 u j b)(d:w.grownBy a u2.ownBlock)(hne:∀g,u.ownBlock=some g->u2.ownBlock≠some g):a.ownsRow B 9 1 u j b:=
 lh h λg e=>d.block g (h.lt g e).2 λc=>hne g e c.symm
theorem Wy.acS{s:Na}{a:Ea}(h:Hid (Wy W B l m bv ov M vs))(i:W'.ownsRow B 9 1 a (l.length+1) (l.map Value.string++[.string s]))(f:W.grownBy W' bv.ownBlock)(d:a.ownBlock=bv.ownBlock\/a.ownBlock=some W.heap.size):Hid (Wy W' B (l++[s]) m a ov M vs):=
 ⟨by rw[Qa,Pb];exact i,kB h.o.r2 f λg e b=>h.o.ne g b e,h.o.map.grown f (Sx h.o.r1 h.o.map),h.o.ge,λg e b=>by
  rcases d with c|c
  {exact h.o.ne g (c.symm.trans e) b}
  ·have:=(h.o.r2.lt g b).2
   rw[c,Yg]at e
   omega⟩
theorem Wy.acT{s:Na}{a:Ea}(h:Hid (Wy W B l m bv ov M vs))(i:W'.ownsRow B 9 1 a (m.length+1) (m.map Value.string++[.string s]))(f:W.grownBy W' ov.ownBlock)(c:a.ownBlock=ov.ownBlock\/a.ownBlock=some W.heap.size):Hid (Wy W' B l (m++[s]) bv a M vs):=
 ⟨kB h.o.r1 f h.o.ne,by rw[Qa,Pb];exact i,h.o.map.grown f (Sx h.o.r2 h.o.map),h.o.ge,λg e d=>by
  rcases c with b|b
  {exact h.o.ne g e (b.symm.trans d)}
  ·have:=(h.o.r1.lt g e).2
   rw[b,Yg]at d
   omega⟩
theorem Wy.put(h:Hid (Wy W B l m bv ov M vs))(b:Wb (Value.int .i64) Value.bool W' M (ins vs Z true))(a:Bq M W W'):Hid (Wy W' B l m bv ov M (ins vs Z true)):=
 ⟨lh h.o.r1 λg e=>a.block g λq=>Sx h.o.r1 h.o.map (q▸e.symm),lh h.o.r2 λg e=>a.block g λq=>Sx h.o.r2 h.o.map (q▸e.symm),b,h.o.ge,h.o.ne⟩
end
end
end Go.Proofs.YtdipkbobalnilaaGreatDoor
