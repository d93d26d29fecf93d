/- The walk of Not: the opposite of a diagram. A bound on the table. -/
import Derived.Test.YtdipkbobalnilaaGreatDoorAl
import Derived.Test.YtdipkbobalnilaaGreatDoorDgAV
set_option maxRecDepth 100000
set_option maxHeartbeats 4000000
namespace Go.Proofs.YtdipkbobalnilaaGreatDoor
open Tryz
open Go.RowKit
variable{T:List Dn}{Q:List Nat}{A:Option Addr}
theorem xC{a:Type}{P:Nat->a->Prop}:∀(n:Nat),(∀i,i<n->∃z,P i z)->∃l:List a,l.length=n/\∀i (h:i<l.length),P i l[i]
 | 0,_=>⟨[],rfl,λi h=>by cases h⟩
 | n+1,h=>by
  obtain⟨l,c,d⟩:=xC n (λi b=>h i ja);obtain⟨z,e⟩:=h n ja;refine⟨l++[z],by simp[c],λi b=>?_⟩
  grind
def Ph.In(w:Ca)(B:Nat)(x:Ph):Prop:=IntsIn w B x.n.Sb x.vc/\IntsIn w B x.n.kids x.vk
theorem Vl:∀(xs:List Ph) (k j:Nat) (b:k<xs.length),j<4->(xs.flatMap Ph.cells)[k*4+j]? =xs[k].cells[j]?
 | x::xs,0,j,_,a=>by
  grind [Ph.cells]
 | x::xs,k+1,j,b,a=>by{rw[Bc,Td (by simp[Ph.cells];omega)];have:=Vl xs k j (by simpa using b) a;rw[show(k+1)*4+j-x.cells.length=k*4+j by simp[Ph.cells];omega,this];rfl}
theorem Dv(xs:List Ph):(xs.flatMap Ph.cells).length=xs.length*4:=by
 induction xs with| nil=>rfl| cons x xs a=>grind [List.length_cons,Ph.cells]
theorem VA.kept(S:List Nat):(VA S).Kept:=by
 rintro w k B x b o a hlt ⟨g,h,i,j,e,f,c,d⟩;exact⟨br.kept _ _ _ _ _ _ a hlt g,h,i,j,by rw[a.cell (by exact hlt)];exact e,by rw[a.cell (by exact hlt)];exact f,c,d⟩
theorem Zd.av{w:Ca}{B:Nat}{g:List Dn}{v:Ea}(h:Zd w B g v):Rg w B [] g v:=by
 obtain⟨u,rfl,d,cap,rfl,j,k,l⟩:=h;refine⟨_,rfl,d,cap,rfl,j,k,λhne=>?_⟩;obtain⟨b,off,rfl,hlt,a⟩:=l hne;refine⟨b,off,rfl,hlt,λi c=>⟨a i c,Aa,?_⟩⟩;obtain⟨m,n,o,e,f,c3,_⟩:=a i c;exact⟨m,n,e,f,λ_ _ _ _ _=>Aa,λ_ _ _ _ _=>Aa⟩
theorem NQ{w:Ca}{B:Nat}{m:Nat}(h:Sa br 4 w B T (.slice A T.length m)):∃xs:List Ph,xs.map (·.n)=T/\(∀x∈xs,x.In w B)/\(∀S,Sa (VA S) 4 w B T (.slice A T.length m)->∀x∈xs,Av S x.n.Sb x.vc/\Av S x.n.kids x.vk)/\
  ∀a,A=some a->T≠[]->∀j u,(xs.flatMap Ph.cells)[j]? =some u->a.spot=none/\a.block<B/\w.cell? (Ja a.block (a.off+j))=some u:=by
 obtain⟨_,_,e,_,_,C⟩:=h;cases e
 by_cases hne:T=[]
 {simp_all}
 ·obtain⟨b,off,rfl,H,I⟩:=C hne
  obtain⟨xs,J,K⟩:=xC (P:=λi (z:Ph)=>∀g,z.n=T[i]/\z.In w B/\∀j,j<4->w.cell? (Ja b (off+i*4+j))=z.cells[j]?) _ (λi g=>by
   obtain⟨r,s,t,k,l,c3,D,E⟩:=I i g
   refine⟨⟨_,r,s⟩,λ_=>⟨rfl,⟨D,E⟩,λj o=>?_⟩⟩
   match j,o with
   | 0,_=>exact t
   | 1,_=>exact k
   | 2,_=>exact l
   | 3,_=>exact c3)
  refine⟨xs,?_,λx c=>?_,λS F x c=>?_,λa G _ j u p=>?_⟩
  ·apply List.ext_getElem (by simp[J])
   grind
  ·grind [List.getElem_of_mem]
  ·obtain⟨i,g,rfl⟩:=Zc c
   obtain⟨_,_,e,_,_,d⟩:=F;cases e
   obtain⟨b2,q,v,_,f⟩:=d hne;cases v
   obtain⟨_,_,r,s,k,l,L,M⟩:=f i ja
   grind [Ph.cells]
  {(cases G);(have o:j<xs.length*4:=by grind [Dv]);(have hd:j=j / 4*4+j % 4:=ja);refine⟨rfl,H,?_⟩;have y:=(K (j / 4) ja ja).2.2 (j % 4) ja;rw[hd,Vl xs _ _ ja ja]at p;rw[hd, <-Nat.add_assoc];exact y.trans p}
theorem dN{W:Ca}{b:Nat}{v:Ea}{xs:List Ph}(h:W.ownsRow b 104 4 v xs.length (xs.flatMap Ph.cells))(q:∀x∈xs,x.In W W.heap.size):∃a c,v=.slice a (xs.map (·.n)).length c/\Zd W W.heap.size (xs.map (·.n)) (.agg #[.slice a (xs.map (·.n)).length c]):=by
 obtain⟨a,c,rfl⟩:=Xd h;refine⟨a,c,Aa,_,rfl,?_⟩;rcases h.2 with⟨e,p⟩|⟨g,cap,k,e,r,l,s,m,t,u⟩
 {obtain rfl:=List.length_eq_zero_iff.1 p;(cases e);exact⟨none,0,rfl,wa _,ja,λh=>absurd rfl h⟩}
 {(cases e);refine⟨_,_,rfl,by grind,m,λhne=>⟨g,0,rfl,zf l,λi w=>?_⟩⟩;(have d:i<xs.length:=by grind);(have key:∀j,j<4->W.cell? (Ja g (0+i*4+j))=xs[i].cells[j]? :=λj o=>by{rw[Vb,h.cellAt _ ja,Vl xs i j d o]});have f:=q _ (Oa d);rw[Sd];exact⟨_,_,key 0 ja,key 1 ja,key 2 ja,key 3 ja,f.1,f.2⟩}
theorem NJ{W:Ca}{b:Nat}{v:Ea}{xs:List Ph}(h:W.ownsRow b 104 4 v xs.length (xs.flatMap Ph.cells))(y:∀x∈xs,x.In W W.heap.size)(J:∀k∈Q,k<b)(r:∀x∈xs,Av Q x.n.Sb x.vc/\Av Q x.n.kids x.vk):∃a c,v=.slice a (xs.map (·.n)).length c/\Rg W W.heap.size Q (xs.map (·.n)) (.agg #[.slice a (xs.map (·.n)).length c]):=by
 obtain⟨a,c,m,_,e,o,cap,l,z,A,B⟩:=dN h y;cases e
 refine⟨a,c,m,_,rfl,o,cap,l,z,A,λhne=>?_⟩;obtain⟨g,off,q,hlt,s⟩:=B hne;subst q;simp at l;obtain⟨rfl,rfl⟩:=l;rcases h.2 with⟨e,L⟩|⟨C,cap',p,e,D,E,F,G,H,I⟩
 ·grind
 {rw[m]at e;simp only[Value.slice.injEq,Yg,Addr.mk.injEq]at e;obtain⟨⟨rfl,rfl,_⟩,_,rfl⟩:=e;refine⟨g,0,rfl,hlt,λi t=>⟨s i t,λK=>by grind,?_⟩⟩;(have d:i<xs.length:=ja);(have w:v=.slice (Nb g) xs.length c:=by rw[m];simp);subst w;(have key:∀j,j<4->W.cell? (Ja g (0+i*4+j))=xs[i].cells[j]? :=λj u=>by{rw[Vb,h.cellAt _ ja,Vl xs i j d u]});have f:=r _ (Oa d);rw[Sd];exact⟨_,_,key 1 ja,key 2 ja,f.1,f.2⟩}
theorem OJ{r:Nat}(w:Ca)(B:Nat)(hB:B<=w.heap.size)(hlen:T.length<=2000000)(U:Sa br 4 w B T (.slice A T.length r)):
  Db 71 #[.slice A T.length r] w λe W=>∃(Q:Ea) (xs:List Ph),e=.returned Q/\xs.map (·.n)=T/\(∀x∈xs,x.In w B)/\(∀S,Sa (VA S) 4 w B T (.slice A T.length r)->∀x∈xs,Av S x.n.Sb x.vc/\Av S x.n.kids x.vk)/\W.ownsRow w.heap.size 104 4 Q xs.length (xs.flatMap Ph.cells)/\Da w.heap.size w W:=by
 obtain⟨xs,f,g,z,m⟩:=NQ U;have q:=la z;clear z;obtain⟨_,_,e,h1,h2,J⟩:=U;cases e
 have h:xs.length=T.length:=by rw[<-f];simp
 obtain⟨i0,L,N,O,P⟩:=info_parts dz;have hq:=λw=>Lib.run_eql_slice_nil w 53 104 A T.length r 0 0 Tryz.underlying53
 have X:Hid ((w.alloc _).ownsRow _ 104 4 _ 0 []):=⟨rfl,.inr ⟨_,0,#[],rfl,wa _,heap_alloc_new _ _,wa _,Lb _,rfl,rfl⟩⟩;cases A with| none=>{have C:T=[]:=by{apply Classical.byContradiction;intro e;obtain⟨b,off,ha,_⟩:=J e;cases ha};have F:=la C;clear C J;have p:=la f;have i:=la g;clear f g m;go_enter func71,ntmps71;go_wp2;go_ret;have C:=F.o;subst C;obtain rfl:xs=[]:=List.length_eq_zero_iff.1 h;exact⟨_,[],rfl,rfl,i.o,q.o,Ec _ _ _ _,za _ _⟩}| some a=>{have c:∀j u,(xs.flatMap Ph.cells)[j]? =some u->(w.alloc (.cells #[] 104)).cell? (a.add j)=some u:=by{intro j u M;have hne:T≠[]:=by{intro e;have:=List.length_eq_zero_iff.1 (by rw[h,e];rfl);rw[this]at M;simp at M};obtain⟨I,R,Z⟩:=m a rfl hne j u M;have t:a.add j=⟨a.block,a.off+j,none⟩:=by{obtain⟨b,o,s⟩:=a;subst I;unfold Addr.add;split<;>simp_all};rw[t,World.cell?_of_block (a:=Ja a.block _) (Bd w _ a.block ja)];exact Z};have F:=la c;have p:=la f;have i:=la g;have v:=Dv xs;(have E:Hid ((xs.flatMap Ph.cells).length=T.length*4):=by show _=_;rw[v,h]);have H:Hid _:=h.symm;(have G:Hid (∀u∈xs.flatMap Ph.cells,Value.oneCell' u=true):=λu D=>by{obtain⟨y,hy,D⟩:=List.mem_flatMap.1 D;obtain⟨⟨_,_,I,_⟩,⟨_,_,R,_⟩⟩:=g y hy;simp only[Ph.cells,uf,List.not_mem_nil,or_false]at D;(rcases D with rfl|rfl|rfl|rfl);{rfl};{rw[I];rfl};{rw[R];rfl};{rfl}});clear J c f g m v h;go_enter func71,ntmps71;go_wp2_with (at_builtin;refine wpList_append_own_at _ rfl _ _ 53 rfl _ 104 i0 _ 4 64 Tryz.underlying53 L N O P rfl Ba _ _ _ rfl X.o a _ r _ rfl E.o F.o G.o ja ja Aa ?_;intro Q w1 d l V lF;refine Hid.o ?_);refine la ?_;have K:=((za _ w).alloc (wa _) (.cells #[] 104)).grown l Aa (λk e=>by cases e;exact wa _);rw[Vb,Tb]at d;have Y:=la d;go_wp2;go_ret;exact⟨_,xs,rfl,p.o,i.o,q.o,(by rw[<-H.o];exact Y.o),K⟩}
section
def Ph.eN(x:Ph):Ph:=⟨Lt x.n,x.vc,x.vk⟩
def ir(j:Nat)(xs:List Ph):List Ph:=(xs.take j).map Ph.eN++xs.drop j
theorem wG(j:Nat)(xs:List Ph):(ir j xs).length=xs.length:=by grind [ir]
theorem pE{j:Nat}{xs:List Ph}(h:j<xs.length):ir j xs=(xs.take j).map Ph.eN++xs[j]::xs.drop (j+1):=by grind [ir,List.drop_eq_getElem_cons]
theorem yC{j:Nat}{xs:List Ph}(h:j<xs.length):ir (j+1) xs=(xs.take j).map Ph.eN++xs[j].eN::xs.drop (j+1):=by
 grind [ir,List.take_succ_eq_append_getElem]
theorem OQ{j:Nat}{xs:List Ph}(h:j<xs.length):(ir j xs)[j]'(by rw[wG];exact h)=xs[j]:=by
 grind [pE]
theorem fN{j:Nat}{xs:List Ph}(h:j<xs.length)(b:xs[j].n.kids=[]):((ir j xs).flatMap Ph.cells).set (j*4+3) (.bool (!xs[j].n.leaf))=(ir (j+1) xs).flatMap Ph.cells:=by
 rw[pE h,yC h,qd,qd,Bc,Bc];have a:(((xs.take j).map Ph.eN).flatMap Ph.cells).length=j*4:=by grind [Dv]
 rw[List.set_append_right _ _ ja,a,show j*4+3-j*4=3 by omega]
 grind [Ph.eN,Ph.cells,Lt]
theorem gN{x:Ph}(a:x.n.kids≠[]):x.eN=x:=by
 obtain⟨n,b,c⟩:=x;unfold Ph.eN Lt
 simp_all
theorem QJ{j:Nat}{xs:List Ph}(h:j<xs.length)(a:xs[j].n.kids≠[]):ir (j+1) xs=ir j xs:=by rw[pE h,yC h,gN a]
theorem QQ{xs:List Ph}:ir xs.length xs=xs.map Ph.eN:=by unfold ir;simp
theorem iN{xs:List Ph}:ir 0 xs=xs:=by unfold ir;simp
structure jN (w W : Ca) (xs : List Ph) (g cap b3 j : Nat) : Prop where
 below:Da w.heap.size w W
 row:W.ownsRow (w.heap.size+2) 104 4 (.slice (Nb g) xs.length cap) xs.length ((ir j xs).flatMap Ph.cells)
 box:qb W b3 55 #[.slice (Nb g) xs.length cap]
 OO:qb W (w.heap.size+1) 55 #[Ua]
 ins:∀x∈xs,x.In W w.heap.size
variable {w W W' : Ca} {xs : List Ph} {g cap b3 j : Nat}
theorem jN.step(h:jN w W xs g cap b3 j)(a:Da W.heap.size W W'):jN w W' xs g cap b3 j:=
 ⟨h.below.trans (a.mono h.below.size),Wd h.row a,h.box.below a,h.OO.below a,λx b=>⟨IntsIn.below (a.mono h.below.size) (h.ins x b).1,IntsIn.below (a.mono h.below.size) (h.ins x b).2⟩⟩
theorem jN.put(h:jN w W xs g cap b3 j)(i:j<xs.length)(k:xs[j].n.kids=[])(d:b3≠g):jN w (W.setCell (Ja g (j*4+3)) (.bool (!xs[j].n.leaf))) xs g cap b3 (j+1):=by
 have m:=h.row.lt g rfl;have l:=h.row.stored (j*4+3) (.bool (!xs[j].n.leaf));have q:=l.1;rw[fN i k]at q
 have far:∀ {b:Nat} {c:Array Ea},qb W b 55 c->g≠b->qb (W.setCell (Ja g (j*4+3)) (.bool (!xs[j].n.leaf))) b 55 c:=λ{b c} a hne=>by
  show(W.heap.modify g _)[b]? =_
  rw[Array.getElem?_modify,if_neg hne];exact a
 have a:Da _ W (W.setCell _ (.bool (!xs[j].n.leaf))):=((za w.heap.size W)).setCell (p:=Ja g (j*4+3)) (by grind) _;exact⟨h.below.setCell (by grind) _,q,far h.box (λe=>d e.symm),far h.OO ja,λx f=>⟨IntsIn.below a (h.ins x f).1,IntsIn.below a (h.ins x f).2⟩⟩
theorem jN.at(h:jN w W xs g cap b3 j)(b:j<xs.length)(i:Nat)(a:i<4):W.cell? (Ja g (j*4+i))=xs[j].cells[i]? :=by
 rw[h.row.cellAt _ ja,Vl _ j i (by rw[wG];exact b) a,OQ]
theorem kN{w W:Ca}{xs:List Ph}{g cap b3 j:Nat}(a:j<xs.length)(b:xs[j].n.kids≠[])(h:jN w W xs g cap b3 j):jN w W xs g cap b3 (j+1):=⟨h.below,by rw[QJ a b];exact h.row,h.box,h.OO,h.ins⟩
theorem xG{b r:Nat}{v:Ea}{n c:Nat}(h:W.ownsRow b 104 4 v xs.length ((xs.map Ph.eN).flatMap Ph.cells))(d:∀x∈xs,x.In W W.heap.size)(q:xs.map (·.n)=T)(l:∀k∈Q,k<b)(m:∀x∈xs,Av Q x.n.Sb x.vc/\Av Q x.n.kids x.vk)(p:qb W r 55 #[.slice A n c])(u:Ea):
  ∃a c,v=.slice a (Hd T).length c/\Rg (W.setCell (Ya r) u) (W.setCell (Ya r) u).heap.size Q (Hd T) (.agg #[.slice a (Hd T).length c]):=by
 have o:(xs.map Ph.eN).map (·.n)=Hd T:=by{rw[<-q,Ze];unfold Hd;rw[Ze];rfl}
 have j:W.ownsRow b 104 4 v (xs.map Ph.eN).length ((xs.map Ph.eN).flatMap Ph.cells):=by grind
 obtain⟨a,c,g,i⟩:=NJ j (λx e=>by
  obtain⟨y,f,rfl⟩:=List.mem_map.1 e
  exact d y f) l (λx e=>by
  obtain⟨y,f,rfl⟩:=List.mem_map.1 e
  exact m y f)
 rw[o]at g i;exact⟨a,c,g,by rw[Yb];exact i.set p u⟩
theorem yG{S:List Nat}(d:∀b∈S,b<w.heap.size){vg:Ea}(hlen:T.length<=1000000)(hg:Rg w w.heap.size S T vg):
  Db 34 #[vg] w λe L=>∃(a:Option Addr) (c:Nat),e=.returned (.agg #[.slice a (Hd T).length c])/\Rg L L.heap.size S (Hd T) (.agg #[.slice a (Hd T).length c])/\Da w.heap.size w L:=by
 have O:=la d;obtain⟨_,rfl,F⟩:=hg;obtain⟨_,e,u⟩:=(show Rg w _ S T _ from⟨_,rfl,F⟩).dg;cases e
 clear d;have HG:=la u;obtain⟨a,c,rfl,l1,l2,_⟩:=Sa.shape u;unfold maxLen at l2;have m:Da _ w ((w.alloc (.cells #[.slice a T.length c] 55)).alloc (.cells #[Ua] 55)):=((za _ _).alloc (wa _) _).alloc Aa _;have HK:Hid (qb ((w.alloc _).alloc (.cells #[Ua] 55)) _ 55 _):=(qb.new w 55 #[.slice a T.length c]).alloc _
 have HR:Hid (qb ((w.alloc (.cells #[.slice a T.length c] 55)).alloc (.cells #[Ua] 55)) (w.heap.size+1) 55 #[Ua]):=by{have q:=qb.new (w.alloc (.cells #[.slice a T.length c] 55)) 55 #[Ua];rw[Ia]at q;exact q}
 have Q:(((w.alloc (.cells #[.slice a T.length c] 55)).alloc (.cells #[Ua] 55))).heap.size=w.heap.size+2:=by simp
 obtain⟨W,hW⟩:∃W,((w.alloc (.cells #[.slice a T.length c] 55)).alloc (.cells #[Ua] 55))=W:=⟨_,rfl⟩;rw[hW]at m HK HR Q;have HW:=la hW;have y:=la m
 have HC:Hid (Calls _ 71 _ W λe L=>∃(Z:Ea) (xs:List Ph),e=.returned Z/\xs.map _=T/\(∀x∈xs,x.In W _)/\Hid _/\L.ownsRow _ 104 4 Z _ _/\Da _ W L):=
  (OJ W _ m.size ja (Sa.below br.kept m u)).mono λe L ⟨Z,xs,q1,q2,q3,q4,q5⟩=>⟨Z,xs,q1,q2,q3,q4 S (Sa.below (VA.kept S) m F),q5⟩
 have x0:=HK.o.cell 0;clear u F hW m;go_enter func34,ntmps34;go_upto_region 1 with(fail);rw[HW.o];go_upto_region 2 with(go_at_call 71;refine HC.o.mono ?_;rintro e v ⟨v1,xs,rfl,I,J,HAV,i,h⟩;obtain⟨M,t,rfl⟩:=Xd i);have s:=la (y.o.trans (h.mono y.o.size));have N:=la (HR.o.below h);have C:=la I;have D:Hid (∀x∈xs,x.In v _):=λx r=>⟨IntsIn.below (h.mono y.o.size) (J x r).1,IntsIn.below (h.mono y.o.size) (J x r).2⟩
 have HZ:=la h.size;have p:Da _ v (v.alloc (.cells #[.slice M xs.length t] 55)):=(za _ _).alloc (wa _) _;have A:Hid _:=s.o.trans (p.mono s.o.size);have l:=la (N.o.below p);have Y:Hid ((v.alloc _).ownsRow _ 104 4 _ _ _):=Wd i p;have B:Hid (qb _ v.heap.size 55 #[.slice M xs.length t]):=qb.new _ _ _;have P:Hid (∀x∈xs,x.In _ _):=λx r=>⟨IntsIn.below (p.mono s.o.size) (D.o x r).1,IntsIn.below (p.mono s.o.size) (D.o x r).2⟩
 have HLT:Hid (∀k,(Value.slice M xs.length t).ownBlock=some k->k<v.heap.size):=λk f=>(i.lt k f).2
 have FF:T.length=xs.length:=by rw[<-I];simp
 have hlx:xs.length<=1000000:=by omega
 have Un:w.heap.size+2<=v.heap.size:=by have:=h.size;omega
 have LY:(v.alloc (.cells #[.slice M xs.length t] 55)).heap.size=v.heap.size+1:=by simp
 clear I J i h p D N s HC HK HR HW x0 HG FF l1 l2;generalize v.alloc _=W3 at*
 generalize v.heap.size=b3 at*
 have z0:=B.o.cell 0;by_cases hne:xs.length=0
 {obtain rfl:xs=[]:=List.length_eq_zero_iff.1 hne;have n0:=l.o.cell 0;have f0:=l.o.frozen 0;go_wp2;go_loopw [13] (λX wr=>X=pa 0/\Hid (wr=W3)) (λ_ _=>0);(case atStart=>exact⟨rfl,rfl⟩);case round=>(obtain⟨rfl,I7⟩:=hrel;obtain rfl:=I7.o;go_wp2;have hcs:=(l.o.set 0 (.slice M 0 t)).cell 0;refine Fb (by simp[results,go_sem,hcs];try rfl) rfl ?_;obtain⟨a1,c1,e1,e2⟩:=xG Y.o (λx r=>by cases r) C.o (λk f=>by have:=O.o k f;omega) (λx r=>by cases r) l.o (.slice M 0 t);exact⟨a1,c1,by rw[<-e1];rfl,e2,A.o.setCell (by show w.heap.size<=w.heap.size+1;omega) _⟩)}
 {obtain⟨g,cap,R,eX,u⟩:=Y.o.form ja;simp at R;obtain⟨rfl,rfl⟩:=R;(have hn3:b3≠g:=by have:=HLT.o g rfl;omega);have z:Hid (jN w W3 xs g t b3 0):=⟨A.o,by rw[iN, <-Q];exact Y.o,B.o,l.o,P.o⟩;have HN3:=la hn3;go_wp2;go_loopw [13] (λX wr=>∃j:Nat,j<=xs.length/\X=pa j/\Hid (jN w wr xs g t b3 j)) (λX _=>xs.length-(intOf X).toNat);(case atStart=>exact⟨0,ja,rfl,z⟩);case round=>(obtain⟨j,hj,rfl,d⟩:=hrel;clear z Y B z0;have z0:=d.o.box.cell 0;by_cases hlt:j<xs.length;{have k0:=d.o.at hlt 0 ja;have k1:=d.o.at hlt 1 ja;have k2:=d.o.at hlt 2 ja;have k3:=d.o.at hlt 3 ja;have G:=d.o.ins _ (Oa hlt);obtain⟨ac,cc,U,_⟩:=Sa.shape G.1;obtain⟨ak,ck,V,_⟩:=Sa.shape G.2;have fz:=d.o.row.frozenAt (j*4+3);(have K:xs[j].cells=[pa xs[j].n.fact,.slice ac xs[j].n.Sb.length cc,.slice ak xs[j].n.kids.length ck,.bool xs[j].n.leaf]:=by unfold Ph.cells;rw[U,V]);rw[K]at k0 k1 k2 k3;simp only[pc,Dc,Qg]at k0 k1 k2 k3;have HP:=la (λf W' (E:Da _ wr W')=>jN.put (d.o.step E) hlt f HN3.o);have HQ:=la (λf W' (E:Da _ wr W')=>kN hlt f (d.o.step E));(have j6:Hid (∀W',Da wr.heap.size wr W'->W'.cell? (Ya b3)=some (.slice (Nb g) xs.length t)/\W'.frozen? (Ja g (j*4+3))=false/\W'.cell? (Ja g (j*4+3))=some (.bool xs[j].n.leaf)):=λW' E=>⟨(d.o.step E).box.cell 0,(d.o.step E).row.frozenAt (j*4+3),by rw[(d.o.step E).at hlt 3 ja,K];rfl⟩);clear G U V K d C P l A;generalize xs[j]=x at*;by_cases f:x.n.kids=[];{(have H:x.n.kids.length=0:=by rw[f];rfl);have K7:=la (HP.o f);rw[H]at k2;clear HP HQ f H;obtain⟨z1,fz1,cz1⟩:=j6.o (wr.alloc (.cells #[pa x.n.fact,.slice ac x.n.Sb.length cc,.slice ak 0 ck,.bool x.n.leaf] 104)) ((za _ _).alloc ja _);go_wp2;go_roundw;(case rel=>exact⟨_,ja,by go_num,K7.o _ ((za _ _).alloc ja _)⟩);case measure=>simp[intOf];omega};{(have H:x.n.kids.length≠0:=λe=>f (List.length_eq_zero_iff.1 e));have G5:=la (HQ.o f);(have CZ:((x.n.kids.length:Int)==0)=false:=by simpa using f);go_wp2;go_roundw;(case rel=>exact⟨_,ja,by go_num,G5.o _ ((za _ _).alloc ja _)⟩);case measure=>simp[intOf];omega}};{(obtain rfl:j=xs.length:=ja);have n0:=d.o.OO.cell 0;have f0:=d.o.OO.frozen 0;have z:=d;have hsz:=d.o.below.size;clear d;go_wp2;have hcs:=(z.o.OO.set 0 (.slice (Nb g) xs.length t)).cell 0;refine Fb (by simp[results,go_sem,hcs];try rfl) rfl ?_;have hr:=z.o.row;rw[QQ]at hr;obtain⟨a1,c1,e1,e2⟩:=xG hr (λx r=>⟨Sa.mono (Ad.mono _) hsz (z.o.ins x r).1,Sa.mono (Ad.mono _) hsz (z.o.ins x r).2⟩) C.o (λk f=>by have:=O.o k f;omega) HAV.o z.o.OO (.slice (Nb g) xs.length t);exact⟨a1,c1,by rw[<-e1],e2,z.o.below.setCell (by show w.heap.size<=w.heap.size+1;omega) _⟩})}
theorem mz{d:Ea}{w:Ca}(hlen:T.length<=1000000)(i:Zd w w.heap.size T d):
  Db 34 #[d] w λe b=>∃(a:Option Addr) (c:Nat),e=.returned (.agg #[.slice a (Hd T).length c])/\Zd b b.heap.size (Hd T) (.agg #[.slice a (Hd T).length c])/\Da w.heap.size w b:=
 (yG Aa hlen i.av).mono λ_ _ ⟨a,c,f,g,h⟩=>⟨a,c,f,g.dg,h⟩
end
end Go.Proofs.YtdipkbobalnilaaGreatDoor
