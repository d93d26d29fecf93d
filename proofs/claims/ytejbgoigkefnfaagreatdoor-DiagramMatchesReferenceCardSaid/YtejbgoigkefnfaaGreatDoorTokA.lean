/- Rows of the call's own: a slice built of one element of many cells; what a row keeps; formulas below a greater bound. No conditions. -/
import Derived.Test.YtejbgoigkefnfaaGreatDoorAl
import Derived.Test.YtejbgoigkefnfaaGreatDoorLexA
import Derived.Sort.CutIn
namespace Go.Proofs.YtejbgoigkefnfaaGreatDoor
section
open Go.RowKit
attribute [local go_sem] Oper.semAt_some
def Bb (W:World)(B:Nat)(t:TypeId)(cs:Array Value):Prop:=W.heap[B]? =some (.cells cs t (0,0))
theorem Bb.lt {W:World}{B:Nat}{t:TypeId}{cs:Array Value}(h:Bb W B t cs):B<W.heap.size:=(Array.getElem?_eq_some_iff.1 h).1
theorem Bb.cell {W:World}{B:Nat}{t:TypeId}{cs:Array Value}(h:Bb W B t cs)(i:Nat):W.cell? ⟨B,i,none⟩=cs[i]? :=by simp[World.cell?,show W.heap[B]? =_ from h]
theorem Bb.frozen {W:World}{B:Nat}{t:TypeId}{cs:Array Value}(h:Bb W B t cs)(i:Nat):W.frozen? ⟨B,i,none⟩=false:=by simp[World.frozen?,show W.heap[B]? =_ from h]
theorem Bb.new (W:World)(t:TypeId)(cs:Array Value):Bb (W.alloc (.cells cs t)) W.heap.size t cs:=World.alloc_heap_new W _
theorem Bb.below {W W':World}{B:Nat}{t:TypeId}{cs:Array Value}(h:Bb W B t cs)(hb:Below W.heap.size W W'):Bb W' B t cs:=(hb.block B h.lt).trans h
theorem Bb.alloc {W:World}{B:Nat}{t:TypeId}{cs:Array Value}(h:Bb W B t cs)(o:Obj):Bb (W.alloc o) B t cs:=h.below ((za _ _).alloc (ja _) _)
theorem Bb.set {W:World}{B:Nat}{t:TypeId}{cs:Array Value}(h:Bb W B t cs)(i:Nat)(v:Value):Bb (W.setCell ⟨B,i,none⟩ v) B t (cs.setIfInBounds i v):=by
 obtain⟨hlt,hk⟩:=Array.getElem?_eq_some_iff.1 h
 show(W.heap.modify B _)[B]? =_
 rw[Kg (by rw[Array.size_modify];exact hlt),Array.getElem_modify_self,hk]
 rfl
structure Fd where
 kind:Nat
 text:ByteArray
 n:Nat
 at_:Nat
 err:Nat
def Fd.cells (x:Fd):Array Value:=#[.int .i64 x.kind,.string x.text,.int .i64 x.n,.int .i64 x.at_,.int .i64 x.err]
def xA (s:ByteArray):Fd:=⟨1,s,0,0,0⟩
def QX (s:ByteArray)(x:Fd):Prop:=x.kind=1->x.err=0->x.text=s->Hd s=true
abbrev aQ (s:ByteArray):={x:Fd // QX s x}
theorem kJ (s:ByteArray)(i:Nat)(h:i<s.size):Du s i=mm s[i].toNat:=by unfold Du;rw[dif_pos h]
theorem VQ (s:ByteArray)(i:Nat)(h:¬i<s.size):Du s i=0:=by unfold Du;rw[dif_neg h]
theorem WQ (c:Nat)(h:c<256):(okB 0 c=decide (mm c=3))/\ ∀k,k≠0->okB k c=decide (mm c=3\/mm c=4\/mm c=5):=by
 have h0:∀c:Fin 256,okB 0 c.1=decide (mm c.1=3)/\ okB 1 c.1=decide (mm c.1=3\/mm c.1=4\/mm c.1=5):=by decide+kernel
 refine⟨(h0 ⟨c,h⟩).1,fun k hk=>?_⟩;rw[<-(h0 ⟨c,h⟩).2];unfold okB;simp[hk]
theorem vY (c:Nat)(h:c<256):mm c<=8:=by
 have h0:∀c:Fin 256,mm c.1<=8:=by decide+kernel
 exact h0 ⟨c,h⟩
theorem lJ (s:ByteArray)(i:Nat):Du s i<=8:=by
 unfold Du
 split
 {exact vY _ (UInt8.toNat_lt _)}
 {omega}
abbrev I7 (n:Nat):Prop:=n=3\/n=4\/n=5
theorem uM (s:ByteArray)(k:Nat)(hk:k<=s.size):Vi (s.data.toList.drop k) k=true↔∀i,k<=i->i<s.size->(i=0->Du s i=3)/\ I7 (Du s i):=by
 obtain⟨d,hd⟩:∃d,s.size-k=d:=⟨_,rfl⟩
 induction d generalizing k with| zero=>{rw[Ta (by simp;omega),Vi];exact⟨fun _ i h1 h2=>ia,fun _=>rfl⟩}| succ d ih=>{(have hlt:k<s.size:=ia);rw[zt s k hlt,ub,ih (k+1) ia ia];have hc:=WQ s[k].toNat (UInt8.toNat_lt _);have ha:=kJ s k hlt;constructor;{rintro⟨h1,h2⟩ i hi1 hi2;by_cases hik:i=k;{subst hik;by_cases h0:i=0;{subst h0;rw[hc.1]at h1;have:=Fc h1;rw[ha];exact⟨fun _=>this,.inl this⟩};{rw[hc.2 i h0]at h1;rw[ha];exact⟨fun h=>absurd h h0,Fc h1⟩}};{exact h2 i ia hi2}};{intro h;refine⟨?_,fun i h1 h2=>h i ia h2⟩;obtain⟨h3,h4⟩:=h k (ja _) hlt;rw[ha]at h3 h4;by_cases h0:k=0;{subst h0;rw[hc.1];exact Ma (h3 rfl)};{rw[hc.2 k h0];exact Ma (show mm s[k].toNat=3\/mm s[k].toNat=4\/mm s[k].toNat=5 from h4)}}}
theorem Dg (s:ByteArray):Hd s=true↔0<s.size/\ s.size<=24/\ Du s 0=3/\ ∀i,i<s.size->I7 (Du s i):=by
 unfold Hd;rw[ub,ub,Bk];have:=uM s 0 (xb _);rw[Sd]at this;rw[this];constructor
 {rintro⟨⟨h1,h2⟩,h3⟩;have h4:0<s.size:=by{(have P8:decide (s.size=0)=false:=by simpa using h2);have:=re P8;omega};exact⟨h4,Fc h3,(h1 0 (ja _) h4).1 rfl,fun i hi=>(h1 i (xb _) hi).2⟩}
 {rintro⟨h1,h2,h3,h4⟩;exact⟨⟨fun i _ hi=>⟨fun h0=>by rw[h0];exact h3,h4 i hi⟩,by rw[Ia ia];rfl⟩,Ma h2⟩}
theorem DA (s:ByteArray)(k k':Nat)(h:k'<=s.size)(he:s.extract k k'=s)(hs:0<s.size):k=0/\ k'=s.size:=by
 have:=congrArg ByteArray.size he;rw[qh]at this;omega
end
open Go.RowKit
theorem MG :∀(cells:List Value) (pre:List Value) (zs:List Value),zs.length=cells.length->
  (cells.zipIdx pre.length).foldl (fun(cs:Array Value) (x:Value×Nat)=>cs.setIfInBounds (0+x.2) x.1) (pre++zs).toArray=(pre++cells).toArray
 | [],pre,zs,h=>by{obtain rfl:=List.length_eq_zero_iff.1 h;rfl}
 | c::cells,pre,z::zs,h=>by{rw[List.zipIdx_cons,Ud];have e:(pre++z::zs).toArray.setIfInBounds (0+pre.length) c=((pre++[c])++zs).toArray:=by{simp[List.set_append_right]};(have e2:pre.length+1=(pre++[c]).length:=la);show List.foldl _ ((pre++z::zs).toArray.setIfInBounds (0+pre.length) c) _=_;rw[e,e2,MG cells (pre++[c]) zs (by simpa using h),Ua];rfl}
theorem dt {P:Program}{t e:TypeId}{i:TypeInfo}{z:Value}(cells:List Value)(ht:P.underlying t=some (.slice e))(hi:P.info? e=some i)(hs:i.size=cells.length)(hz:i.zero=some z)(hzs:z.cells.size=cells.length)
  (h0:0<cells.length) (hm:cells.length<=1000) (w:World):
  (Instr.buildSlice t 1 #[(0,.agg cells.toArray)]).run P w=.ok (.slice (some ⟨w.heap.size,0,none⟩) 1 1) (w.alloc (.cells cells.toArray e)):=by
 have hc:P.cellsOf e=cells.length:=by unfold Program.cellsOf;rw[hi];exact hs
 unfold Instr.buildSlice
 have xV:Instr.fill (fun i=>some (i*cells.length,cells.length)) ((Array.range cells.length).map (z.cells[· % z.cells.size]!)) [(0,.agg cells.toArray)]=some cells.toArray:=by{(have hl:((Array.range cells.length).map (z.cells[· % z.cells.size]!)).toList.length=cells.length:=la);have h:=MG cells [] ((Array.range cells.length).map (z.cells[· % z.cells.size]!)).toList hl;rw[Ya,Ya,Array.toArray_toList]at h;unfold Instr.fill;have e:(Value.agg cells.toArray).cells=cells.toArray:=rfl;simp only[e,Se,Af,Array.size_map,Array.size_range];rw[Aa la];unfold Instr.fill;(have e3:cells.toArray.zipIdx=(cells.zipIdx 0).toArray:=la);rw[e3];congr 1;rw[List.foldl_toArray'];{exact h};{simp}}
 simp only[Sem.run_bind,run_underlying ht,Result.andThen_ok,Wg];rw[run_sizeOf w hi,hc];simp only[Result.andThen_ok];rw[Aa ia,Aa ia];simp[zeroValue,typeInfo,hi,hz,xV,newRow,newObj]
 rfl
mutual
theorem Fo.In.mono {w:World}{B B':Nat}(hb:B<=B'):∀(f:Fo) (v:Value),f.In w B v->f.In w B' v
 | .mk op nm c n ks,v=>by{rintro⟨ao,cap,hv,h1,h2,h3,h4,h5,h6,h7⟩;refine⟨ao,cap,hv,h1,h2,h3,h4,h5,h6,fun hne=>?_⟩;obtain⟨b,off,ha,hlt,hL⟩:=h7 hne;exact⟨b,off,ha,ia,Fo.Qk.mono hb ks off hL⟩}
theorem Fo.Qk.mono {w:World}{B B' b:Nat}(hb:B<=B'):∀(ks:List Fo) (off:Nat),Fo.Qk w B ks b off->Fo.Qk w B' ks b off
 | [],_=>fun _=>trivial
 | k::ks,off=>by{rintro⟨⟨v0,v1,v2,v3,v4,c0,c1,c2,c3,c4,hk⟩,Qv⟩;exact⟨⟨v0,v1,v2,v3,v4,c0,c1,c2,c3,c4,Fo.In.mono hb k _ hk⟩,Fo.Qk.mono hb ks (off+5) Qv⟩}
end
theorem Bb.grown {W W':World}{b:Nat}{t:TypeId}{cs:Array Value}(h:Bb W b t cs){row:Option Nat}(hg:W.grownBy W' row)(hne:some b≠row):Bb W' b t cs:=(hg.block b h.lt hne).trans h
theorem xi {W W':World}{base e size n:Nat}{v:Value}{xs:List Value}(h:W.ownsRow base e size v n xs)(hb:∀g,v.ownBlock=some g->W'.heap[g]? =W.heap[g]?):W'.ownsRow base e size v n xs:=by
 refine⟨h.1,?_⟩;rcases h.2 with h0 | ⟨g,cap,cur,rfl,h1,h2,h3⟩
 {exact .inl h0}
 {exact .inr ⟨g,cap,cur,rfl,h1,(hb g rfl).trans h2,h3⟩}
theorem Nd {W W':World}{base e size n:Nat}{v:Value}{xs:List Value}(h:W.ownsRow base e size v n xs)(hb:Below W.heap.size W W'):W'.ownsRow base e size v n xs:=
 xi h fun g hg=>hb.block g (h.lt g hg).2
theorem Kf {W:World}{base e size n:Nat}{v:Value}{xs:List Value}(h:W.ownsRow base e size v n xs)(a:Addr)(u:Value)(hne:∀g,v.ownBlock=some g->g≠a.block):(W.setCell a u).ownsRow base e size v n xs:=
 xi h fun g hg=>Gc _ _ _ g (hne g hg)
end Go.Proofs.YtejbgoigkefnfaaGreatDoor
