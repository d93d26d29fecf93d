/- The walks of the divider's methods and and some. No conditions. -/
import Derived.Test.YtdipkbobalnilaaGreatDoorAl
import Derived.Test.YtdipkbobalnilaaGreatDoorJdPA
set_option maxRecDepth 100000
set_option maxHeartbeats 4000000
namespace Go.Proofs.YtdipkbobalnilaaGreatDoor
open Tryz
open Go.RowKit
variable{j:Nat}{T:List Dn}{Z:Int}{E:TypeId}{C:List Int}{Q:List Nat}
structure Ff (A K : Nat) (W W' : Ca) : Prop where
 os:W'.os=W.os
 tape:W'.tape=W.tape
 output:W'.output=W.output
 size:W.heap.size<=W'.heap.size
 ul:∀b,b<W.heap.size->b≠A->b≠K->W'.heap[b]? =W.heap[b]?
section
variable {A K : Nat} {W W' fU : Ca}
theorem Ff.jc(h:Da W.heap.size W W'):Ff A K W W':=⟨h.os,h.tape,h.output,h.size,λb a _ _=>h.block b a⟩
theorem Ff.MR(h:Te K W W'):Ff A K W W':=⟨h.os,h.tape,h.output,h.size,λb c _ a=>h.ul b c a⟩
theorem Ff.trans(h:Ff A K W W')(k:Ff A K W' fU):Ff A K W fU:=⟨k.os.trans h.os,k.tape.trans h.tape,k.output.trans h.output,ub h.size k.size,λb d a c=>(k.ul b (Zb d h.size) a c).trans (h.ul b d a c)⟩
theorem Ff.below(h:Ff A K W W'){B:Nat}(c:B<=W.heap.size)(a:B<=A)(d:B<=K):Da B W W':=⟨h.os,h.tape,h.output,h.size,λb e=>h.ul b ja ja ja⟩
theorem Ff.put(h:Ff A K W W')(d:W.heap.size<=j\/j=A)(i:Nat)(v:Ea):Ff A K W (W'.setCell (Ja j i) v):=
 ⟨h.os,h.tape,h.output,by rw[Yb];exact h.size,λx c a b=>(heap_setCell_other W' _ x v (by show x≠j;omega)).trans (h.ul x c a b)⟩
theorem Ff.Pd(h:Ff A K W W'){a:Array Ea}(b:qb W j E a)(c:j≠A)(d:j≠K):qb W' j E a:=(h.ul j b.lt c d).trans b
theorem Ff.cell(h:Ff A K W W'){b o:Nat}(d:b<W.heap.size)(a:b≠A)(c:b≠K):W'.cell? (Ja b o)=W.cell? (Ja b o):=by simp only[World.cell?,h.ul b d a c]
theorem PC{a:Type}{R:Cf a}{k:Nat}{w:Ca}{B b off:Nat}(h:∀i,i<j->∃x,R w B x b (off+i*k)):∃l:List a,l.length=j/\∀(i:Nat) (h:i<l.length),R w B l[i] b (off+i*k):=
 ⟨List.ofFn λi=>(h i.1 i.2).choose,List.length_ofFn,λi c=>by
  rw[List.getElem_ofFn]
  exact(h i (by simpa using c)).choose_spec⟩
structure QC (A K : Nat) (W W' : Ca) : Prop where
 Hj:Ff A K W W'
 int:∀o x,W.cell? (Ja A o)=some (pa x)->∃x',W'.cell? (Ja A o)=some (pa x')
 bool:∀o x,W.cell? (Ja A o)≠some (.bool x)
 map:∀o v,W.cell? (Ja K o)≠some v
theorem QC.ints(h:QC A K W W'){B:Nat}(s:B<=W.heap.size){v:Ea}(q:IntsIn W B C v):∃c:List Int,c.length=C.length/\IntsIn W' B c v:=by
 obtain⟨j,cap,rfl,r,f,m⟩:=q;by_cases hne:C=[]
 {exact⟨[],by rw[hne],j,cap,by rw[hne],Aa,f,λo=>absurd rfl o⟩}
 {obtain⟨b,off,rfl,hlt,n⟩:=m hne;(obtain⟨c,d,l⟩:=PC (R:=Ad (Value.int .i64)) (k:=1) (w:=W') (B:=B) (b:=b) (off:=off) λi p=>by{have a:W.cell? _=some _:=n i p;by_cases g:b=A;{subst g;exact h.int _ _ a};{exact⟨_,(h.Hj.cell ja g λe=>h.map _ _ (by rw[<-e];exact a)).trans a⟩}});exact⟨c,d,_,cap,by rw[d],ja,f,λ_=>⟨b,off,rfl,hlt,l⟩⟩}
theorem QC.nodes(h:QC A K W W'){B:Nat}(j:B<=W.heap.size){v:Ea}(t:Sa br 4 W B T v):∃e:List Dn,e.length=T.length/\Sa br 4 W' B e v:=by
 obtain⟨k,cap,rfl,D,g,p⟩:=t;by_cases hne:T=[]
 {exact⟨[],by rw[hne],k,cap,by rw[hne],Aa,g,λr=>absurd rfl r⟩}
 {obtain⟨b,off,rfl,hlt,q⟩:=p hne;(obtain⟨e,f,o⟩:=PC (R:=br) λi s=>by{obtain⟨z,C,l,m,n,c3,k1,k2⟩:=q i s;(have c:b≠A:=λc=>h.bool _ _ (by rw[<-c];exact c3));(have d:b≠K:=λc=>h.map _ _ (by rw[<-c];exact c3));obtain⟨u,_,x⟩:=h.ints j k1;obtain⟨w,_,y⟩:=h.ints j k2;(have a:b<W.heap.size:=ja);exact⟨⟨_,u,w,_⟩,z,C,(h.Hj.cell a c d).trans l,(h.Hj.cell a c d).trans m,(h.Hj.cell a c d).trans n,(h.Hj.cell a c d).trans c3,x,y⟩});exact⟨e,f,_,cap,by rw[f],ja,g,λ_=>⟨b,off,rfl,hlt,o⟩⟩}
end
def Ij(W:Ca)(v:Ea):Prop:=∃g:List Dn,g.length<=1000000/\Zd W W.heap.size g v
theorem Ij.below{W W':Ca}{v:Ea}(h:Ij W v)(a:Da W.heap.size W W'):Ij W' v:=by
 obtain⟨g,b,c⟩:=h;exact⟨g,b,(c.below a).mono a.size⟩
theorem Ij.PL{W W':Ca}{A K:Nat}{v:Ea}(h:Ij W v)(hs:QC A K W W'):Ij W' v:=by
 obtain⟨g,e,u,rfl,c⟩:=h;obtain⟨b,d,a⟩:=hs.nodes ja c;exact⟨b,ja,u,rfl,Sa.mono br.mono hs.Hj.size a⟩
theorem Ij.nil(W:Ca):Ij W (.agg #[Ua]):=⟨[],Aa,Zd.nil _ _⟩
structure bi (W : Ca) (d : List Fa) (e : Int) (t : List Dn) (v : Ea) : Prop where
 dg:e=0->Zd W W.heap.size t v/\Qc d t
 any:Ij W v
theorem bi.below{W W':Ca}{d:List Fa}{e:Int}{t:List Dn}{v:Ea}(h:bi W d e t v)(a:Da W.heap.size W W'):bi W' d e t v:=
 ⟨λb=>⟨((h.dg b).1.below a).mono a.size,(h.dg b).2⟩,h.any.below a⟩
theorem bi.shape{W:Ca}{d:List Fa}{e:Int}{t:List Dn}{v:Ea}(h:bi W d e t v):∃(a:Option Addr) (n c:Nat),v=.agg #[.slice a n c]:=by
 obtain⟨g,_,u,rfl,b⟩:=h.any
 grind [Sa.shape]
theorem bi.err{W:Ca}{d:List Fa}{v:Ea}(h:Ij W v)(a:Z≠0):bi W d Z T v:=⟨λh=>absurd h a,h⟩
theorem Zl{d:List Fa}(h:Qc d T):T.length<=1000000:=by have:=h.Ar;omega
theorem bi.ok{W:Ca}{d:List Fa}{v:Ea}(h:Zd W W.heap.size T v)(a:Qc d T):bi W d Z T v:=⟨λ_=>⟨h,a⟩,T,Zl a,h⟩
abbrev DV(W:Ca)(A:Nat)(a b c:Ea)(e:Int)(K:Nat):Prop:=qb W A 84 #[a,b,c,pa e,.map (some K)]
structure Im (W : Ca) (K : Nat) (d : List Fa) (st : Zo) : Prop where
 map:∃l:List (Int×Ea),Wb (Value.int .i64) (λv:Ea=>v) W K l/\(∀i:Nat,(l.lookup (i:Int)).isSome=(st.1.lookup i).isSome)/\(∀k v,l.lookup k=some v->Ij W v)/\(st.2=0->∀(i:Nat) g v,st.1.lookup i=some g->l.lookup (i:Int)=some v->Zd W W.heap.size g v/\Qc d g)
theorem Im.lt{W:Ca}{K:Nat}{d:List Fa}{st:Zo}(h:Im W K d st):K<W.heap.size:=by obtain⟨l,h,_⟩:=h.map;exact h.lt
theorem Im.below{W W':Ca}{K:Nat}{d:List Fa}{st:Zo}(h:Im W K d st)(a:Da W.heap.size W W'):Im W' K d st:=by
 obtain⟨l,c,m,n,e⟩:=h.map;exact⟨l,c.below a c.lt,m,λk v b=>(n k v b).below a,λf i g v j b=>⟨((e f i g v j b).1.below a).mono a.size,(e f i g v j b).2⟩⟩
theorem Im.NR{W:Ca}{K:Nat}{d:List Fa}{st:Zo}(h:Im W K d st):∀o v,W.cell? (Ja K o)≠some v:=λo v b=>by
 obtain⟨l,a,_⟩:=h.map
 grind [Ck]
theorem bu{W W':Ca}{A K:Nat}{d:List Fa}{st:Zo}{a0 a1 a2:Option Addr}{f n2 k0 k1 k2:Nat}{c:Int}(e:DV W A (.slice a0 j k0) (.slice a1 f k1) (.slice a2 n2 k2) Z K)(b:DV W' A (.slice a0 j k0) (.slice a1 f k1) (.slice a2 n2 k2) c K)(g:Im W K d st)(hs:Ff A K W W'):QC A K W W':=by
 refine⟨hs,λo x a=>?_,λo x a=>?_,g.NR⟩
 ·rw[e.cell]at a
  match o with| 0|1|2|4=>simp at a| 3=>exact⟨c,by rw[b.cell];rfl⟩| o+5=>simp at a
 ·rw[e.cell]at a
  match o with| 0|1|2|3|4=>simp at a| o+5=>simp at a
structure Ix (B A K : Nat) (d : List Fa) (ps : List Pv) (a0 a1 a2 : Option Addr) (k0 k1 n2 k2 : Nat) (st : Zo) (W : Ca) : Prop where
 box:DV W A (.slice a0 d.length k0) (.slice a1 ps.length k1) (.slice a2 n2 k2) st.2 K
 Vf:Im W K d st
 dom:Sa Jk 4 W B d (.slice a0 d.length k0)
 VO:Sa jm 23 W B ps (.slice a1 ps.length k1)
 hA:B<=A
 hK:B<=K
 ne:A≠K
 Cq:Jh B W
structure Vj (A K : Nat) (d : List Fa) (ps : List Pv) (a0 a1 a2 : Option Addr) (k0 k1 n2 k2 : Nat) (st : Zo) (W W' : Ca) : Prop where
 step:Ff A K W W'
 same:st.2=0->Te K W W'
 box:DV W' A (.slice a0 d.length k0) (.slice a1 ps.length k1) (.slice a2 n2 k2) st.2 K
 Vf:Im W' K d st
section
variable {B A K : Nat} {d : List Fa} {ps : List Pv} {a0 a1 a2 : Option Addr} {k0 k1 n2 k2 : Nat} {st KI : Zo} {W W' fU : Ca}
theorem Ix.X3(h:Ix B A K d ps a0 a1 a2 k0 k1 n2 k2 st W):A<W.heap.size:=h.box.lt
theorem Ix.refl(h:Ix B A K d ps a0 a1 a2 k0 k1 n2 k2 st W)(a:Da W.heap.size W W'):Vj A K d ps a0 a1 a2 k0 k1 n2 k2 st W W':=
 ⟨.jc a,λ_=>.jc a,h.box.below a,h.Vf.below a⟩
theorem Vj.trans(h:Vj A K d ps a0 a1 a2 k0 k1 n2 k2 st W W')(k:Vj A K d ps a0 a1 a2 k0 k1 n2 k2 KI W' fU)(b:KI.2=0->st.2=0):Vj A K d ps a0 a1 a2 k0 k1 n2 k2 KI W fU:=
 ⟨h.step.trans k.step,λa=>(h.same (b a)).trans (k.same a),k.box,k.Vf⟩
theorem Vj.more(h:Vj A K d ps a0 a1 a2 k0 k1 n2 k2 st W W')(a:Da W'.heap.size W' fU):Vj A K d ps a0 a1 a2 k0 k1 n2 k2 st W fU:=
 ⟨h.step.trans (.jc a),λb=>(h.same b).trans (.jc a),h.box.below a,h.Vf.below a⟩
theorem Ix.step(h:Ix B A K d ps a0 a1 a2 k0 k1 n2 k2 st W)(k:Vj A K d ps a0 a1 a2 k0 k1 n2 k2 KI W W'):Ix B A K d ps a0 a1 a2 k0 k1 n2 k2 KI W':=by
 have c:=h.X3;have hA':=h.hA;have a:=k.step.below ja h.hA h.hK;exact⟨k.box,k.Vf,h.dom.below Jk.kept a,h.VO.below jm.kept a,h.hA,h.hK,h.ne,λb hw=>h.Cq b (a.trans hw)⟩
theorem Ix.below(h:Ix B A K d ps a0 a1 a2 k0 k1 n2 k2 st W)(a:Da W.heap.size W W'):Ix B A K d ps a0 a1 a2 k0 k1 n2 k2 st W':=h.step (h.refl a)
theorem bi.step{t:List Dn}{v:Ea}(h:bi W d st.2 t v)(hs:Ix B A K d ps a0 a1 a2 k0 k1 n2 k2 st W)(k:Vj A K d ps a0 a1 a2 k0 k1 n2 k2 KI W W')(e:KI.2=0->st.2=0):bi W' d KI.2 t v:=by
 refine⟨λa=>?_,h.any.PL (bu hs.box k.box hs.Vf k.step)⟩;obtain⟨b,c⟩:=h.dg (e a);obtain⟨l,f,_⟩:=hs.Vf.map;exact⟨(b.Zw f (k.same a)).mono (k.same a).size,c⟩
theorem DV.set(h:DV W A (.slice a0 d.length k0) (.slice a1 ps.length k1) (.slice a2 n2 k2) st.2 K)(e:Int):DV (W.setCell (Ja A 3) (pa e)) A (.slice a0 d.length k0) (.slice a1 ps.length k1) (.slice a2 n2 k2) e K:=qb.set h 3 _
theorem RC{b:Array Ea}{i:Nat}{v:Ea}(h:qb W j E b)(g:b[i]? =some v):W.setCell (Ja j i) v=W:=by
 have e:(W.setCell (Ja j i) v).heap=W.heap:=by
  apply Array.ext_getElem?
  intro a;by_cases f:a=j
  {subst f;have q:=h.set i v;have d:b.setIfInBounds i v=b:=by{apply Array.ext_getElem?;intro k;rw[Array.getElem?_setIfInBounds];(split);{next c=>subst c;split<;>simp_all};{rfl}};rw[d]at q;exact Eq.trans q h.symm}
  grind [heap_setCell_other]
 cases W
 grind [World.setCell]
theorem Ix.put(h:Ix B A K d ps a0 a1 a2 k0 k1 n2 k2 st W)(g:st.2=0)(e:Int):Vj A K d ps a0 a1 a2 k0 k1 n2 k2 (st.1,e) W (W.setCell (Ja A 3) (pa e)):=by
 by_cases f:e=0
 {subst f;have a:=h.box;rw[g]at a;have b:=RC a (i:=3) (v:=.int _ 0) rfl;rw[b];have q:=h.refl (za _ _);obtain⟨m,e⟩:=st;obtain rfl:e=0:=g;exact q}
 {have j:Ff A K W (W.setCell _ (pa e)):=(Ff.jc (za _ _)).put (.inr rfl) 3 _;have a:=DV.set h.box e;have hsp:=bu h.box a h.Vf j;obtain⟨l,p,r,s,w⟩:=h.Vf.map;refine⟨j,λb=>absurd b f,a,l,?_,r,λk v o=>(s k v o).PL hsp,λb=>absurd b f⟩;obtain⟨n,c,t,u⟩:=p;exact⟨n,c,(heap_setCell_other W _ K _ (λe=>h.ne e.symm)).trans t,u⟩}
theorem bi.set{b:Nat}{t:TypeId}{a:Option Addr}{n c:Nat}{e:Int}{g:List Dn}{v:Ea}(h:bi W d e g v)(f:qb W b t #[.slice a n c])(u:Ea):bi (W.setCell (Ya b) u) d e g v:=by
 refine⟨λi=>⟨by rw[Yb];exact(h.dg i).1.set f u,(h.dg i).2⟩,?_⟩;obtain⟨g,j,k⟩:=h.any;exact⟨g,j,by rw[Yb];exact k.set f u⟩
theorem Vj.var(h:Vj A K d ps a0 a1 a2 k0 k1 n2 k2 st W W'){a:Option Addr}{n c:Nat}(m:qb W' j E #[.slice a n c])(x:W.heap.size<=j)(t:j≠A)(w:j≠K)(u:Ea):Vj A K d ps a0 a1 a2 k0 k1 n2 k2 st W (W'.setCell (Ya j) u):=by
 refine⟨h.step.put ja 0 u,λy=>(h.same y).put x u,(heap_setCell_other W' _ A u (λe=>t e.symm)).trans h.box,?_⟩;obtain⟨l,⟨s,r,z,f⟩,B,C,q⟩:=h.Vf.map;refine⟨l,⟨s,r,(heap_setCell_other W' _ K u (λe=>w e.symm)).trans z,f⟩,B,λk v b=>?_,λo i g v p b=>?_⟩
 {obtain⟨g,D,F⟩:=C k v b;exact⟨g,D,by rw[Yb];exact F.set m u⟩}
 {exact⟨by rw[Yb];exact(q o i g v p b).1.set m u,(q o i g v p b).2⟩}
end
section
theorem VA.mono(S:List Nat):(VA S).SG:=by
 rintro w B e x b o d ⟨a,c⟩;exact⟨br.mono _ _ _ _ _ _ d a,c⟩
theorem Rg.below{w a:Ca}{B:Nat}{S:List Nat}{g:List Dn}{v:Ea}(h:Rg w B S g v)(b:Da B w a):Rg a B S g v:=by
 obtain⟨u,rfl,h⟩:=h;exact⟨u,rfl,h.below (VA.kept S) b⟩
theorem Rg.mono{w:Ca}{B a:Nat}{S:List Nat}{g:List Dn}{v:Ea}(h:Rg w B S g v)(b:B<=a):Rg w a S g v:=by
 obtain⟨u,rfl,h⟩:=h;exact⟨u,rfl,h.mono (VA.mono S) b⟩
def Bo(w a:Ca):Prop:=∀b o x,w.cell? (Ja b o)=some (.bool x)->a.heap[b]? =w.heap[b]?
theorem Bo.cell{w c:Ca}(h:Bo w c){b o a:Nat}{x:Bool}{u:Ea}(d:w.cell? (Ja b o)=some (.bool x))(e:w.cell? (Ja b a)=some u):c.cell? (Ja b a)=some u:=
 (World.cell?_of_block (h b o x d)).trans e
theorem Bo.trans{w c w'':Ca}(h:Bo w c)(k:Bo c w''):Bo w w'':=λb o x a=>(k b o x (h.cell a a)).trans (h b o x a)
theorem Bo.jc{w a:Ca}(h:Da w.heap.size w a):Bo w a:=λb _ _ c=>h.block b (Kb _ _ c)
theorem Bo.set{w:Ca}{a:Array Ea}(c:qb w j E a)(e:∀(i:Nat) x,a[i]? ≠some (.bool x))(i:Nat)(v:Ea):Bo w (w.setCell (Ja j i) v):=λb o x d=>heap_setCell_other w _ b v (by
 rintro rfl
 rw[c.cell]at d
 grind)
theorem Rg.bo{w b:Ca}{B:Nat}{v:Ea}(h:Rg w B Q T v)(c:Bo w b)(hd:Zd b j T v):Rg b j Q T v:=by
 obtain⟨_,rfl,g,cap,rfl,q,r,s⟩:=h;obtain⟨_,e,k,cap',o,_,_,a⟩:=hd;cases e
 cases o
 refine⟨_,rfl,g,cap,rfl,q,r,λhne=>?_⟩;obtain⟨l,off,rfl,_,t⟩:=s hne;obtain⟨b2,f,p,hlt,hc'⟩:=a hne;cases p
 refine⟨l,off,rfl,hlt,λi d=>?_⟩;obtain⟨⟨_,_,_,_,_,c3,_⟩,u,x,y,m,n,a1,a2⟩:=t i d;exact⟨hc' i d,u,x,y,c.cell c3 m,c.cell c3 n,a1,a2⟩
theorem CN(d:List Fa)(a b:List Dn):(Ae d a b).1.length<=1000000:=by
 by_cases h:(Ae d a b).2=0
 {exact Zl (Ai h).2.2.1}
 grind [Ae]
variable {B A K : Nat} {d : List Fa} {ps : List Pv} {a0 a1 a2 : Option Addr} {k0 k1 n2 k2 : Nat} {st : Zo} {w : Ca}
theorem Mz(hS:Ix B A K d ps a0 a1 a2 k0 k1 n2 k2 st w){j:List Dn}{vx vy:Ea}(hx:bi w d st.2 T vx)(hy:bi w d st.2 j vy):
    Db 35 #[Ma A,vx,vy] w λr g=>∃(a:Option Addr) (n c:Nat),r=.returned (.agg #[.slice a n c])/\Vj A K d ps a0 a1 a2 k0 k1 n2 k2 (st.1,(uh d st.2 T j).2) w g/\bi g d (uh d st.2 T j).2 (uh d st.2 T j).1 (.agg #[.slice a n c])/\((uh d st.2 T j).2=0->Rg g g.heap.size (List.range w.heap.size) (uh d st.2 T j).1 (.agg #[.slice a n c])/\Da w.heap.size w g):=by
  obtain⟨G,I,H,rfl⟩:=hx.shape;obtain⟨C,E,D,rfl⟩:=hy.shape;have t:Da _ w (((w.alloc (.cells #[.slice G I H] 55)).alloc (.cells #[.slice C E D] 55)).alloc (.cells #[Ua] 55)):=(((za _ _).alloc (wa _) _).alloc Aa _).alloc (by simp;omega) _;have K0:qb (((w.alloc _).alloc (.cells #[.slice C E D] 55)).alloc (.cells #[Ua] 55)) _ 55 _:=((qb.new w 55 #[.slice G I H]).alloc _).alloc _
  have K1:qb (((w.alloc (.cells #[.slice G I H] 55)).alloc (.cells #[.slice C E D] 55)).alloc (.cells #[Ua] 55)) (w.heap.size+1) 55 #[.slice C E D]:=by{have q:=(qb.new (w.alloc (.cells #[.slice G I H] 55)) 55 #[.slice C E D]).alloc (.cells #[Ua] 55);simpa only[Ia]using q}
  have K2:qb (((w.alloc (.cells #[.slice G I H] 55)).alloc (.cells #[.slice C E D] 55)).alloc (.cells #[Ua] 55)) (w.heap.size+1+1) 55 #[Ua]:=by{have q:=qb.new ((w.alloc (.cells #[.slice G I H] 55)).alloc (.cells #[.slice C E D] 55)) 55 #[Ua];simpa only[Ia]using q}
  have z3:w.heap.size+3<=((((w.alloc (.cells #[.slice G I H] 55)).alloc (.cells #[.slice C E D] 55)).alloc (.cells #[Ua] 55))).heap.size:=by simp
  obtain⟨p,U⟩:∃p,(((w.alloc (.cells #[.slice G I H] 55)).alloc (.cells #[.slice C E D] 55)).alloc (.cells #[Ua] 55))=p:=⟨_,rfl⟩;rw[U]at t K0 K1 K2 z3;have R:=hS.below t;have x3:=R.box.cell 3;have r0:=K2.cell 0;have rf:=K2.frozen 0;have hAl:=hS.X3;have T6:=hS.Vf.lt;have Z:=la U;have HS:=la hS;have O:=la R;have L:=la t;have Bt:=la K0;have Zu:=la K1;have M:=la K2;have HX:=la (hx.below t);have HY:=la (hy.below t);clear U t K0 K1 K2 hS R hx hy;by_cases s:st.2=0
  . have ea:uh d st.2 T j=Ae d T j:=by unfold uh;rw[Ga s]
    rw[ea];have HLN:=la (CN d T j);have HVL:=la (λh=>(Ai (d:=d) (a:=T) (b:=j) h).2.2.1)
    have QZ:Hid (∀g,Hid (Da p.heap.size p g)->Db 72 #[.agg #[.slice G I H],.agg #[.slice C E D],.agg #[.slice a0 d.length k0]] g λe w''=>
        ∃(a:Option Addr) (k:Nat),e=.returned (.tuple #[.agg #[.slice a (Ae d T j).1.length k],pa (Ae d T j).2])/\Hid (Zd w'' w''.heap.size (Ae d T j).1 (.agg #[.slice a (Ae d T j).1.length k]))/\Hid (Da g.heap.size g w'')/\Hid (Da p.heap.size p w'')/\Hid (Rg w'' w''.heap.size (List.range w.heap.size) (Ae d T j).1 (.agg #[.slice a (Ae d T j).1.length k]))):=by
      intro g F;obtain⟨q1,q2⟩:=(HX.o.below F.o).dg s;obtain⟨q3,q4⟩:=(HY.o.below F.o).dg s;have J:=O.o.below F.o;have MI:B<=g.heap.size:=by have:=J.hA;have:=J.X3;omega
      refine(EF (List.range w.heap.size) q1 q3 ⟨_,rfl,Sa.mono Jk.mono MI J.dom⟩ (λw'' h=>J.Cq w'' (h.mono MI)) (Oi q2) (Oi q4) (λb hm=>by have:=List.mem_range.1 hm;have:=F.o.size;omega)).mono ?_;rintro e w'' ⟨a,k,rfl,h1,h2⟩;exact⟨a,k,rfl,h1.dg,h2,F.o.trans (h2.mono F.o.size),h1⟩
    have N:Hid (∀g,Da p.heap.size p g->g.cell? (Ya w.heap.size)=some (.slice G I H)/\g.cell? (Ya (w.heap.size+1))=some (.slice C E D)/\g.cell? (Ya A)=some (.slice a0 d.length k0)):=λg F=>⟨(Bt.o.below F).cell 0,(Zu.o.below F).cell 0,(O.o.box.below F).cell 0⟩
    generalize Ae d T j=RR at*
    obtain⟨f,u⟩:=RR;go_enter func35,ntmps35;go_upto_region 1 with(fail);rw[Z.o];go_upto_region 3 with(fail)
    go_cut[7,8] (λs7 s8 l=>∃(X:Nat) (a:Option Addr) (k:Nat),s7=Ma X/\s8=pa u/\Hid (zF l X f a k)/\Hid (Da p.heap.size p l)/\Hid (p.heap.size<=X)/\Hid (Rg l l.heap.size (List.range w.heap.size) f (.agg #[.slice a f.length k])))
    case first=>
      refine wp_region_held_drew (S:=λg=>Hid _) Ha (la ((za p.heap.size p).drew)) (λMb=>?_);refine tk 0 ?v0 ?y0 ?_
      case y0=>(intro w9 Be;obtain⟨y0,y1,y2⟩:=N.o w9 Be.o;go_simp;try with_reducible rfl)
      refine tk 1 ?v1 ?y1 ?_
      case y1=>(intro w9 Be;obtain⟨y0,y1,y2⟩:=N.o w9 Be.o;go_simp;try with_reducible rfl)
      refine tp 2 ?_;refine tp 3 ?_;refine tp 4 ?_;refine tp 5 ?_;refine tk 6 ?v6 ?y6 ?_
      case y6=>(intro w9 Be;obtain⟨y0,y1,y2⟩:=N.o w9 Be.o;go_simp;try with_reducible rfl)
      refine tt 7 11 (λK v=>?_) (λK v=>?_)
      rotate_left
      (go_simp;(refine v.o _ _ ?_ (λMb=>?_)); · exact yj ja)
      (clear v;have V:Hid (qb (p.drew.alloc (.cells #[Ua] 55)) p.heap.size _ _):=qb.new _ _ _;refine tr 7 (λK v=>?_))
      all_goals
        go_simp
        (go_at_call 72;refine(QZ.o _ La).mono ?_;rintro e w8 ⟨a8,k8,rfl,Y,UX,y,W⟩)
        (refine v.o _ _ ?_ (λMb=>?_))
        . exact y
        clear v;refine tp 8 ?_;refine tp 9 ?_;refine tp 10 ?_
        first
          | (have HN:=la (V.o.below UX.o)
             have n0:=HN.o.cell 0
             have g0:=HN.o.frozen 0)
          | (refine tr 11 (λK v=>?_)
             go_simp
             (refine v.o _ _ ?_ (λMb=>?_))
             . exact yj y
             clear v)
        refine tr 12 (λK v=>?_)
        go_simp
        (refine v.o _ _ ?_ (λMb=>?_))
        . first
            | exact Ik y (la (wa _))
            | exact yj y
        clear v;refine tp 13 ?_;refine wpAnyH_done Ha ?_ _;go_wp2;go_meet
        first
          | exact⟨_,_,_,rfl,rfl,Yn HN Y,Mb,la (wa _),by show Rg _ _ _ _ _;rw[Yb];exact W.o.set HN.o _⟩
          | exact⟨_,_,_,rfl,rfl,Xk Y,Mb,la y.o.size,la ((W.o.below ((za _ _).alloc (wa _) _)).mono Aa)⟩
    case rest=>
      obtain⟨X,a,k,rfl,rfl,HV,HB,iU,HAV⟩:=hcut;rename Ca=>l
      have m:=la (O.o.below HB.o);have hXx:=iU.o;have z:=m.o.box;have y1:=z.cell 3;have yf:=z.frozen 3;have HP:=la (((HS.o.refl L.o).more HB.o).trans (m.o.put s u) (λ_=>s));go_upto_region 5 with(fail);have KX:Hid (qb (l.setCell _ (pa u)) X 55 _):=(heap_setCell_other l (Ja A 3) X _ (by show X≠A;omega)).trans HV.o.box;have P:Hid (qb (l.setCell _ (pa u)) _ 55 _):=(heap_setCell_other l (Ja A 3) _ _ (by show w.heap.size+1+1≠A;omega)).trans (M.o.below HB.o)
      have HE:Hid (bi (l.setCell (Ja A 3) (pa u)) d u f (.agg #[.slice a f.length k])):=by
        by_cases Q:u=0
        . subst Q
          have q:bi l d st.2 f _:=bi.ok HV.o.dg (HVL.o rfl);exact q.step m.o (m.o.put s 0) (λ_=>s)
        . refine bi.err ?_ Q
          have q:Ij l _:=⟨f,HLN.o,HV.o.dg⟩;exact q.PL (bu ja (m.o.put s u).box m.o.Vf (m.o.put s u).step)
      have HBO:Hid (Bo l (l.setCell _ (pa u))):=Bo.set z (λi x=>by
        match i with
        | 0|1|2|3|4=>simp
        | i+5=>simp) 3 _
      have WX:Hid (u=0->Da w.heap.size w (l.setCell (Ja A 3) (pa u))):=λQ=>by{subst Q;rw[RC z (by rw[s];rfl)];exact L.o.trans (HB.o.mono ja)}
      have q0:=KX.o.cell 0;have q1:=P.o.cell 0;have q2:=P.o.frozen 0;clear y1 yf z x3 r0 rf;generalize World.setCell l _ _=WZ at*
      go_wp2;have hcs:=(P.o.set 0 (.slice a f.length k)).cell 0;refine Fb (by simp[results,go_sem,hcs];try rfl) rfl ?_;exact⟨a,_,k,rfl,HP.o.var P.o ja ja ja _,HE.o.set P.o _,λQ=>⟨HAV.o.bo (HBO.o.trans (Bo.set P.o (λi x=>by match i with|0=>simp|i+1=>simp) 0 _)) ((HE.o.set P.o _).dg Q).1,(WX.o Q).setCell (by show w.heap.size<=w.heap.size+1+1;omega) _⟩⟩
  . have e1:(st.2 !=0)=true:=by simpa using s
    have ea:uh d st.2 T j=([],st.2):=by unfold uh;rw[if_neg s]
    rw[ea];go_enter func35,ntmps35;go_upto_region 1 with(fail);rw[Z.o];go_wp2;have hcs:=(M.o.set 0 Ua).cell 0;refine Fb (by simp[results,go_sem,hcs];try rfl) rfl ?_;refine⟨none,0,0,rfl,?_,bi.err (Ij.nil _) s,λh=>absurd h s⟩;exact(HS.o.refl L.o).var M.o ja ja ja _
theorem Nv(k:Ix B A K d ps a0 a1 a2 k0 k1 n2 k2 st w){b:List Dn}{e f:Ea}(l:bi w d st.2 T e)(m:bi w d st.2 b f):
  Db 35 #[Ma A,e,f] w λr g=>∃(a:Option Addr) (n c:Nat),r=.returned (.agg #[.slice a n c])/\Vj A K d ps a0 a1 a2 k0 k1 n2 k2 (st.1,(uh d st.2 T b).2) w g/\bi g d (uh d st.2 T b).2 (uh d st.2 T b).1 (.agg #[.slice a n c]):=
 (Mz k l m).mono λ_ _ ⟨a,n,c,h,i,j,_⟩=>⟨a,n,c,h,i,j⟩
theorem Rg.less{w:Ca}{B:Nat}{f:List Nat}{v:Ea}(h:Rg w B Q T v)(hs:∀b∈f,b∈Q):Rg w B f T v:=by
 obtain⟨u,rfl,g,cap,rfl,o,p,q⟩:=h;refine⟨_,rfl,g,cap,rfl,o,p,λhne=>?_⟩;obtain⟨b,off,rfl,hlt,r⟩:=q hne;refine⟨b,off,rfl,hlt,λi s=>?_⟩;obtain⟨t,x,y,z,j,k,l,m⟩:=r i s;exact⟨t,λd=>x (hs b d),y,z,j,k,λhne a n c e d=>l hne a n c e (hs _ d),λhne a n c e d=>m hne a n c e (hs _ d)⟩
theorem Rg.ul{w:Ca}{B:Nat}{v:Ea}(h:Zd w B T v)(hs:∀b∈Q,B<=b):Rg w B Q T v:=by
 obtain⟨u,rfl,g,cap,rfl,j,k,m⟩:=h;refine⟨_,rfl,g,cap,rfl,j,k,λhne=>?_⟩;obtain⟨b,off,rfl,hlt,d⟩:=m hne;refine⟨b,off,rfl,hlt,λi f=>⟨d i f,λp=>by grind,?_⟩⟩;obtain⟨y,z,r,s,t,c3,k1,k2⟩:=d i f
 have key:∀ {l:List Int} {v:Ea},IntsIn w B l v->Av Q l v:=λo hne a n c e p=>by
  obtain⟨_,_,x,_,_,q⟩:=o
  grind
 grind
theorem Nz(E:Ix B A K d ps a0 a1 a2 k0 k1 n2 k2 st w){v:Ea}(I:Zd w w.heap.size T v)(H:Qc d T):
  Db 64 #[Ma A,v] w λr b=>r=.returned (.bool (Ld d T).isSome)/\Da w.heap.size w b:=by
 obtain⟨_,rfl,j⟩:=I;obtain⟨q,s,rfl,_⟩:=Sa.shape j;have a:Da _ w (w.alloc (.cells #[.slice q T.length s] 55)):=(za _ _).alloc (wa _) _;have z:=qb.new w 55 #[.slice q T.length s];obtain⟨c,i⟩:∃c,w.alloc (.cells #[.slice q T.length s] 55)=c:=⟨_,rfl⟩;rw[i]at a z;have n:=la (E.below a);have y:Hid (Zd c _ T _):=((show Zd w _ T _ from⟨_,rfl,j⟩).below a).mono a.size;have u:=la z;have x:=la i;have k:=la a
 have G:Hid (∀b,Hid (Da c.heap.size c b)->Db 18 #[.agg #[.slice q T.length s],.agg #[.slice a0 d.length k0]] b λe w''=>∃t,e=.returned (.tuple #[t,.bool (Ld d T).isSome])/\Hid (Da c.heap.size c w'')):=by{intro b g;have f:=n.o.below g.o;(have p:B<=b.heap.size:=by have:=f.hA;have:=f.X3;omega);refine(Ul d T _ _ b _ ja ((y.o.below g.o).mono g.o.size) ⟨_,rfl,Sa.mono Jk.mono p f.dom⟩ (Oi H) (λw'' h=>f.Cq w'' (h.mono p))).mono ?_;rintro e w'' ⟨t,rfl,_,h⟩;exact⟨t,rfl,g.o.trans (h.mono g.o.size)⟩}
 have m:Hid (∀b,Da _ c b->b.cell? _=some (.slice q _ s)/\b.cell? _=some (.slice a0 _ k0)):=λb g=>⟨(u.o.below g).cell 0,(n.o.box.below g).cell 0⟩
 generalize(Ld d T).isSome=R at*
 clear i a z E j;go_enter func64,ntmps64;go_upto_region 1 with(fail);rw[x.o];refine wp_region_held_drew (S:=λb=>Hid _) Ha (la ((za c.heap.size c).drew)) (λMb=>?_);refine tk 0 ?v0 ?y0 ?_
 case y0=>(intro C Be;obtain⟨F,J⟩:=m.o C Be.o;go_simp;try with_reducible rfl)
 refine tp 1 ?_;refine tp 2 ?_;refine tp 3 ?_;refine tp 4 ?_;refine tk 5 ?v5 ?y5 ?_
 case y5=>(intro C Be;obtain⟨F,J⟩:=m.o C Be.o;go_simp;try with_reducible rfl)
 refine tr 6 (λK D=>?_)
 go_simp
 (go_at_call 18;refine(G.o _ La).mono ?_;rintro e L ⟨t,rfl,l⟩)
 (refine D.o _ _ ?_ (λMb=>?_))
 {exact l}
 clear D;refine tp 7 ?_;refine tp 8 ?_;refine tp 9 ?_;refine tp 10 ?_;refine tp 11 ?_;refine wpAnyH_done Ha ?_ _;go_wp2;go_ret;exact⟨rfl,k.o.trans (l.o.mono k.o.size)⟩
end
end Go.Proofs.YtdipkbobalnilaaGreatDoor
