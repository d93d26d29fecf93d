/- Rows of the call's own: a slice built of one element of many cells; what a row keeps; formulas below a greater bound. No conditions. -/
import Derived.Test.YtdipkbobalnilaaGreatDoorAl
import Derived.Test.YtdipkbobalnilaaGreatDoorLexA
import Derived.Sort.CutIn
namespace Go.Proofs.YtdipkbobalnilaaGreatDoor
variable{j:Nat}{E:TypeId}
section
open Go.RowKit
attribute [local go_sem] Oper.semAt_some
def qb(W:Ca)(B:Nat)(t:TypeId)(a:Array Ea):Prop:=W.heap[B]? =some (.cells a t (0,0))
theorem qb.lt{W:Ca}{a:Array Ea}(h:qb W j E a):j<W.heap.size:=(Array.getElem?_eq_some_iff.1 h).1
theorem qb.cell{W:Ca}{B:Nat}{t:TypeId}{a:Array Ea}(h:qb W B t a)(i:Nat):W.cell? (Ja B i)=a[i]? :=by simp[World.cell?,show W.heap[B]? =_ from h]
theorem qb.frozen{W:Ca}{B:Nat}{t:TypeId}{a:Array Ea}(h:qb W B t a)(i:Nat):W.frozen? (Ja B i)=false:=by simp[World.frozen?,show W.heap[B]? =_ from h]
theorem qb.new(W:Ca)(t:TypeId)(a:Array Ea):qb (W.alloc (.cells a t)) W.heap.size t a:=World.alloc_heap_new W _
theorem qb.below{W a:Ca}{B:Nat}{b:Array Ea}(h:qb W B E b)(c:Da W.heap.size W a):qb a B E b:=(c.block B h.lt).trans h
theorem qb.alloc{W:Ca}{B:Nat}{t:TypeId}{a:Array Ea}(h:qb W B t a)(o:Obj):qb (W.alloc o) B t a:=h.below ((za _ _).alloc ja _)
theorem qb.set{W:Ca}{a:Array Ea}(h:qb W j E a)(i:Nat)(v:Ea):qb (W.setCell (Ja j i) v) j E (a.setIfInBounds i v):=by
 obtain⟨hlt,b⟩:=Array.getElem?_eq_some_iff.1 h
 show(W.heap.modify j _)[j]? =_
 grind
structure Fd where
 kind:Nat
 text:Na
 n:Nat
 at_:Nat
 err:Nat
def Fd.cells(x:Fd):Array Ea:=#[pa x.kind,.string x.text,pa x.n,pa x.at_,pa x.err]
def rB(s:Na):Fd:=⟨1,s,0,0,0⟩
def I1(s:Na)(x:Fd):Prop:=x.kind=1->x.err=0->x.text=s->Oe s=true
abbrev oU(s:Na):={x:Fd // I1 s x}
theorem VK(s:Na)(i:Nat)(h:i<s.size):Cu s i=Oq s[i].toNat:=by grind [Cu]
theorem jT(s:Na)(i:Nat)(h:¬i<s.size):Cu s i=0:=by grind [Cu]
theorem kT(c:Nat)(h:c<256):(okB 0 c=decide (Oq c=3))/\∀k,k≠0->okB k c=decide (Oq c=3\/Oq c=4\/Oq c=5):=by
 have a:∀c:Fin 256,okB 0 c.1=decide (Oq c.1=3)/\okB 1 c.1=decide (Oq c.1=3\/Oq c.1=4\/Oq c.1=5):=by decide+kernel
 refine⟨(a ⟨c,h⟩).1,λk b=>?_⟩;rw[<-(a ⟨c,h⟩).2];unfold okB;simp[b]
theorem P1(c:Nat)(h:c<256):Oq c<=8:=by
 have a:∀c:Fin 256,Oq c.1<=8:=by decide+kernel
 exact a ⟨c,h⟩
theorem WK(s:Na)(i:Nat):Cu s i<=8:=by
 grind [Cu,P1,UInt8.toNat_lt]
abbrev Y'(n:Nat):Prop:=n=3\/n=4\/n=5
theorem oO(s:Na)(k:Nat)(c:k<=s.size):Tl (s.data.toList.drop k) k=true↔∀i,k<=i->i<s.size->(i=0->Cu s i=3)/\Y' (Cu s i):=by
 obtain⟨d,hd⟩:∃d,s.size-k=d:=⟨_,rfl⟩
 induction d generalizing k with
 | zero=>
  rw[Bb (by simp;omega),Tl]
  grind
 | succ d a=>
  have hlt:k<s.size:=by omega
  rw[jA s k hlt,Ib,a _ ja ja];have b:=kT s[k].toNat (UInt8.toNat_lt _)
  grind [VK]
theorem Qj(s:Na):Oe s=true↔0<s.size/\s.size<=24/\Cu s 0=3/\∀i,i<s.size->Y' (Cu s i):=by
 unfold Oe;rw[Ib,Ib,zo];have:=oO s 0 (Lb _)
 grind
theorem yB(s:Na)(k k':Nat)(h:k'<=s.size)(a:s.extract k k'=s)(hs:0<s.size):k=0/\k'=s.size:=by
 grind [ByteArray.size_extract]
end
open Go.RowKit
theorem qI:∀(cells:List Ea) (pre:List Ea) (a:List Ea),a.length=cells.length->
  (cells.zipIdx pre.length).foldl (λ(b:Array Ea) (x:Ea×Nat)=>b.setIfInBounds (0+x.2) x.1) (pre++a).toArray=(pre++cells).toArray
 | [],pre,a,h=>by{simp_all}
 | c::cells,pre,z::a,h=>by{rw[List.zipIdx_cons,Nd];have e:(pre++z::a).toArray.setIfInBounds (0+pre.length) c=((pre++[c])++a).toArray:=by{simp};(have d:pre.length+1=(pre++[c]).length:=Aa);rw[e,d,qI cells _ a (by simpa using h),Ic];rfl}
theorem Ql{P:Program}{e:TypeId}{i:TypeInfo}{z:Ea}(cells:List Ea)(f:P.underlying E=some (.slice e))(b:P.info? e=some i)(hs:i.size=cells.length)(g:i.zero=some z)(j:z.cells.size=cells.length)
  (k:0<cells.length) (l:cells.length<=1000) (w:Ca):
  (Instr.buildSlice E 1 #[(0,.agg cells.toArray)]).run P w=.ok (.slice (Nb w.heap.size) 1 1) (w.alloc (.cells cells.toArray e)):=by
 have c:P.cellsOf e=cells.length:=by grind [Program.cellsOf]
 unfold Instr.buildSlice
 have a:Instr.fill (λi=>some (i*cells.length,cells.length)) ((Array.range cells.length).map (z.cells[· % z.cells.size]!)) [(0,.agg cells.toArray)]=some cells.toArray:=by
  have d:((Array.range cells.length).map (z.cells[· % z.cells.size]!)).toList.length=cells.length:=by simp
  have h:=qI cells [] _ d;rw[Tb,Tb,Array.toArray_toList]at h;have e:(Value.agg cells.toArray).cells=cells.toArray:=rfl
  grind [Instr.fill]
 simp only[Sem.run_bind,run_underlying f,Result.andThen_ok,Nat.one_mul];rw[run_sizeOf w b,c];simp only[Result.andThen_ok];rw[if_neg ja,if_neg ja];simp[zeroValue,typeInfo,b,g,a,newRow,newObj]
 rfl
mutual
theorem Fo.In.mono{w:Ca}{B a:Nat}(p:B<=a):∀(f:Fo) (v:Ea),f.In w B v->f.In w a v
 | .mk t s c n r,v=>by{rintro⟨d,cap,q,e,g,h,i,j,k,l⟩;refine⟨d,cap,q,e,g,h,i,j,k,λhne=>?_⟩;obtain⟨b,off,o,hlt,m⟩:=l hne;exact⟨b,off,o,ja,Fo.Vk.mono p r off m⟩}
theorem Fo.Vk.mono{w:Ca}{B d b:Nat}(e:B<=d):∀(a:List Fo) (off:Nat),Fo.Vk w B a b off->Fo.Vk w d a b off
 | [],_=>λ_=>trivial
 | k::a,off=>by{rintro⟨⟨l,m,n,o,p,f,g,h,c3,i,j⟩,c⟩;exact⟨⟨l,m,n,o,p,f,g,h,c3,i,Fo.In.mono e k _ j⟩,Fo.Vk.mono e a _ c⟩}
end
theorem qb.grown{W a:Ca}{b:Array Ea}(h:qb W j E b){row:Option Nat}(c:W.grownBy a row)(hne:some j≠row):qb a j E b:=(c.block j h.lt hne).trans h
theorem pe{W:Ca}{e size:Nat}{v:Ea}{n:Nat}{c:List Ea}(h:W.ownsRow j e size v n c){b:Nat}(d:b<j):v.ownBlock=none\/v.ownBlock≠some b:=by
 rcases h.2 with⟨rfl,_⟩|⟨g,cap,a,rfl,f,_⟩
 all_goals grind [Value.ownBlock]
theorem wi{W:Ca}{b2 c d n o l m:Nat}{a e:Ea}{x1 x2:List Ea}(h:W.ownsRow j c n a l x1)(i:W.ownsRow b2 d o e m x2)(q:c≠d):a.ownBlock=none\/a.ownBlock≠e.ownBlock:=by
 rcases h.2 with⟨rfl,_⟩|⟨g,cap,f,rfl,_,r,_⟩
 {exact .inl rfl}
 {right;(rcases i.2 with⟨rfl,_⟩|⟨p,cap',b,rfl,_,k,_⟩);all_goals grind [Value.ownBlock]}
theorem lh{W b:Ca}{e size n:Nat}{v:Ea}{c:List Ea}(h:W.ownsRow j e size v n c)(l:∀g,v.ownBlock=some g->b.heap[g]? =W.heap[g]?):b.ownsRow j e size v n c:=by
 refine⟨h.1,?_⟩;rcases h.2 with d|⟨g,cap,a,rfl,f,i,k⟩
 {exact .inl d}
 {exact .inr ⟨g,cap,a,rfl,f,(l g rfl).trans i,k⟩}
theorem Wd{W a:Ca}{e size n:Nat}{v:Ea}{b:List Ea}(h:W.ownsRow j e size v n b)(c:Da W.heap.size W a):a.ownsRow j e size v n b:=
 lh h λg d=>c.block g (h.lt g d).2
theorem Zi{W:Ca}{e size n:Nat}{v:Ea}{b:List Ea}(h:W.ownsRow j e size v n b)(a:Addr)(u:Ea)(hne:∀g,v.ownBlock=some g->g≠a.block):(W.setCell a u).ownsRow j e size v n b:=
 lh h λg c=>Oc _ _ _ g (hne g c)
end Go.Proofs.YtdipkbobalnilaaGreatDoor
