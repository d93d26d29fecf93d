/- Rows of the call's own: a slice built of one element of many cells; what a row keeps; formulas below a greater bound. No conditions. -/
import Derived.Test.YtihniipjfdenbaaGreatDoorLexA
import Derived.Sort.CutIn
namespace Go.Proofs.YtihniipjfdenbaaGreatDoor
section
open Go.RowKit
attribute [local go_sem] Oper.semAt_some
def Blk (W:World)(B:Nat)(t:TypeId)(cs:Array Value):Prop:=W.heap[B]? =some (.cells cs t (0,0))
theorem Blk.lt {W:World}{B:Nat}{t:TypeId}{cs:Array Value}(h:Blk W B t cs):B<W.heap.size:=(Array.getElem?_eq_some_iff.1 h).1
theorem Blk.cell {W:World}{B:Nat}{t:TypeId}{cs:Array Value}(h:Blk W B t cs)(i:Nat):W.cell? ⟨B,i,none⟩=cs[i]? :=by simp[World.cell?,show W.heap[B]? =_ from h]
theorem Blk.frozen {W:World}{B:Nat}{t:TypeId}{cs:Array Value}(h:Blk W B t cs)(i:Nat):W.frozen? ⟨B,i,none⟩=false:=by simp[World.frozen?,show W.heap[B]? =_ from h]
theorem Blk.new (W:World)(t:TypeId)(cs:Array Value):Blk (W.alloc (.cells cs t)) W.heap.size t cs:=World.alloc_heap_new W _
theorem Blk.below {W W':World}{B:Nat}{t:TypeId}{cs:Array Value}(h:Blk W B t cs)(hb:Below W.heap.size W W'):Blk W' B t cs:=(hb.block B h.lt).trans h
theorem Blk.alloc {W:World}{B:Nat}{t:TypeId}{cs:Array Value}(h:Blk W B t cs)(o:Obj):Blk (W.alloc o) B t cs:=h.below ((Below.refl _ _).alloc (Nat.le_refl _) _)
theorem Blk.set {W:World}{B:Nat}{t:TypeId}{cs:Array Value}(h:Blk W B t cs)(i:Nat)(v:Value):Blk (W.setCell ⟨B,i,none⟩ v) B t (cs.setIfInBounds i v):=by
 obtain⟨hlt,hk⟩:=Array.getElem?_eq_some_iff.1 h
 show(W.heap.modify B _)[B]? =_
 rw[Array.getElem?_eq_getElem (by rw[Array.size_modify];exact hlt),Array.getElem_modify_self,hk]
 rfl
structure Fd where
 kind:Nat
 text:ByteArray
 n:Nat
 at_:Nat
 err:Nat
def Fd.cells (x:Fd):Array Value:=#[.int .i64 x.kind,.string x.text,.int .i64 x.n,.int .i64 x.at_,.int .i64 x.err]
def tokF (s:ByteArray):Fd:=⟨1,s,0,0,0⟩
def FdOk (s:ByteArray)(x:Fd):Prop:=x.kind=1->x.err=0->x.text=s->nameB s=true
abbrev FdS (s:ByteArray):={x:Fd // FdOk s x}
theorem atC_lt (s:ByteArray)(i:Nat)(h:i<s.size):atC s i=clsB s[i].toNat:=by unfold atC;rw[dif_pos h]
theorem atC_ge (s:ByteArray)(i:Nat)(h:¬i<s.size):atC s i=0:=by unfold atC;rw[dif_neg h]
theorem cls_word (c:Nat)(h:c<256):(okB 0 c=decide (clsB c=3))/\ ∀k,k≠0->okB k c=decide (clsB c=3\/clsB c=4\/clsB c=5):=by
 have h0:∀c:Fin 256,okB 0 c.1=decide (clsB c.1=3)/\ okB 1 c.1=decide (clsB c.1=3\/clsB c.1=4\/clsB c.1=5):=by decide+kernel
 refine⟨(h0 ⟨c,h⟩).1,fun k hk=>?_⟩;rw[<-(h0 ⟨c,h⟩).2];unfold okB;simp[hk]
theorem cls_le (c:Nat)(h:c<256):clsB c<=8:=by
 have h0:∀c:Fin 256,clsB c.1<=8:=by decide+kernel
 exact h0 ⟨c,h⟩
theorem atC_le (s:ByteArray)(i:Nat):atC s i<=8:=by
 unfold atC
 split
 {exact cls_le _ (UInt8.toNat_lt _)}
 {omega}
abbrev isW (n:Nat):Prop:=n=3\/n=4\/n=5
theorem okAll_iff (s:ByteArray)(k:Nat)(hk:k<=s.size):okAll (s.data.toList.drop k) k=true↔∀i,k<=i->i<s.size->(i=0->atC s i=3)/\ isW (atC s i):=by
 obtain⟨d,hd⟩:∃d,s.size-k=d:=⟨_,rfl⟩
 induction d generalizing k with| zero=>{rw[List.drop_of_length_le (by simp;omega),okAll];exact⟨fun _ i h1 h2=>by omega,fun _=>rfl⟩}| succ d ih=>{(have hlt:k<s.size:=by omega);rw[okAll_drop s k hlt,Bool.and_eq_true,ih (k+1) (by omega) (by omega)];have hc:=cls_word s[k].toNat (UInt8.toNat_lt _);have ha:=atC_lt s k hlt;constructor;{rintro⟨h1,h2⟩ i hi1 hi2;by_cases hik:i=k;{subst hik;by_cases h0:i=0;{subst h0;rw[hc.1]at h1;have:=of_decide_eq_true h1;rw[ha];exact⟨fun _=>this,.inl this⟩};{rw[hc.2 i h0]at h1;rw[ha];exact⟨fun h=>absurd h h0,of_decide_eq_true h1⟩}};{exact h2 i (by omega) hi2}};{intro h;refine⟨?_,fun i h1 h2=>h i (by omega) h2⟩;obtain⟨h3,h4⟩:=h k (Nat.le_refl _) hlt;rw[ha]at h3 h4;by_cases h0:k=0;{subst h0;rw[hc.1];exact decide_eq_true (h3 rfl)};{rw[hc.2 k h0];exact decide_eq_true (show clsB s[k].toNat=3\/clsB s[k].toNat=4\/clsB s[k].toNat=5 from h4)}}}
theorem nameB_iff (s:ByteArray):nameB s=true↔0<s.size/\ s.size<=24/\ atC s 0=3/\ ∀i,i<s.size->isW (atC s i):=by
 unfold nameB;rw[Bool.and_eq_true,Bool.and_eq_true,isEmpty_size];have:=okAll_iff s 0 (Nat.zero_le _);rw[List.drop_zero]at this;rw[this];constructor
 {rintro⟨⟨h1,h2⟩,h3⟩;have h4:0<s.size:=by{(have h2':decide (s.size=0)=false:=by simpa using h2);have:=of_decide_eq_false h2';omega};exact⟨h4,of_decide_eq_true h3,(h1 0 (Nat.le_refl _) h4).1 rfl,fun i hi=>(h1 i (Nat.zero_le _) hi).2⟩}
 {rintro⟨h1,h2,h3,h4⟩;exact⟨⟨fun i _ hi=>⟨fun h0=>by rw[h0];exact h3,h4 i hi⟩,by rw[decide_eq_false (by omega)];rfl⟩,decide_eq_true h2⟩}
theorem extract_whole (s:ByteArray)(k k':Nat)(h:k'<=s.size)(he:s.extract k k'=s)(hs:0<s.size):k=0/\ k'=s.size:=by
 have:=congrArg ByteArray.size he;rw[ByteArray.size_extract]at this;omega
end
open Go.RowKit
theorem fill_all :∀(cells:List Value) (pre:List Value) (zs:List Value),zs.length=cells.length->
  (cells.zipIdx pre.length).foldl (fun(cs:Array Value) (x:Value×Nat)=>cs.setIfInBounds (0+x.2) x.1) (pre++zs).toArray=(pre++cells).toArray
 | [],pre,zs,h=>by{obtain rfl:=List.length_eq_zero_iff.1 h;rfl}
 | c::cells,pre,z::zs,h=>by{rw[List.zipIdx_cons,List.foldl_cons];have e:(pre++z::zs).toArray.setIfInBounds (0+pre.length) c=((pre++[c])++zs).toArray:=by{simp[List.set_append_right]};(have e2:pre.length+1=(pre++[c]).length:=by simp);show List.foldl _ ((pre++z::zs).toArray.setIfInBounds (0+pre.length) c) _=_;rw[e,e2,fill_all cells (pre++[c]) zs (by simpa using h),List.append_assoc];rfl}
theorem run_buildSlice_one {P:Program}{t e:TypeId}{i:TypeInfo}{z:Value}(cells:List Value)(ht:P.underlying t=some (.slice e))(hi:P.info? e=some i)(hs:i.size=cells.length)(hz:i.zero=some z)(hzs:z.cells.size=cells.length)
  (h0:0<cells.length) (hm:cells.length<=1000) (w:World):
  (Instr.buildSlice t 1 #[(0,.agg cells.toArray)]).run P w=.ok (.slice (some ⟨w.heap.size,0,none⟩) 1 1) (w.alloc (.cells cells.toArray e)):=by
 have hc:P.cellsOf e=cells.length:=by unfold Program.cellsOf;rw[hi];exact hs
 unfold Instr.buildSlice
 have hfl:Instr.fill (fun i=>some (i*cells.length,cells.length)) ((Array.range cells.length).map (z.cells[· % z.cells.size]!)) [(0,.agg cells.toArray)]=some cells.toArray:=by{(have hl:((Array.range cells.length).map (z.cells[· % z.cells.size]!)).toList.length=cells.length:=by simp);have h:=fill_all cells [] ((Array.range cells.length).map (z.cells[· % z.cells.size]!)).toList hl;rw[List.nil_append,List.nil_append,Array.toArray_toList]at h;unfold Instr.fill;have e:(Value.agg cells.toArray).cells=cells.toArray:=rfl;simp only[e,Nat.zero_mul,List.size_toArray,Array.size_map,Array.size_range];rw[if_neg (by simp)];unfold Instr.fill;(have e3:cells.toArray.zipIdx=(cells.zipIdx 0).toArray:=by simp);rw[e3];congr 1;rw[List.foldl_toArray'];{exact h};{simp}}
 simp only[Sem.run_bind,run_underlying ht,Result.andThen_ok,Nat.one_mul];rw[run_sizeOf w hi,hc];simp only[Result.andThen_ok];rw[if_neg (by omega),if_neg (by omega)];simp[zeroValue,typeInfo,hi,hz,hfl,newRow,newObj]
 rfl
mutual
theorem Fo.In.mono {w:World}{B B':Nat}(hb:B<=B'):∀(f:Fo) (v:Value),f.In w B v->f.In w B' v
 | .mk op nm c n ks,v=>by{rintro⟨ao,cap,hv,h1,h2,h3,h4,h5,h6,h7⟩;refine⟨ao,cap,hv,h1,h2,h3,h4,h5,h6,fun hne=>?_⟩;obtain⟨b,off,ha,hlt,hL⟩:=h7 hne;exact⟨b,off,ha,by omega,Fo.InL.mono hb ks off hL⟩}
theorem Fo.InL.mono {w:World}{B B' b:Nat}(hb:B<=B'):∀(ks:List Fo) (off:Nat),Fo.InL w B ks b off->Fo.InL w B' ks b off
 | [],_=>fun _=>trivial
 | k::ks,off=>by{rintro⟨⟨v0,v1,v2,v3,v4,c0,c1,c2,c3,c4,hk⟩,hks⟩;exact⟨⟨v0,v1,v2,v3,v4,c0,c1,c2,c3,c4,Fo.In.mono hb k _ hk⟩,Fo.InL.mono hb ks (off+5) hks⟩}
end
theorem Blk.grown {W W':World}{b:Nat}{t:TypeId}{cs:Array Value}(h:Blk W b t cs){row:Option Nat}(hg:W.grownBy W' row)(hne:some b≠row):Blk W' b t cs:=(hg.block b h.lt hne).trans h
theorem own_block {W W':World}{base e size n:Nat}{v:Value}{xs:List Value}(h:W.ownsRow base e size v n xs)(hb:∀g,v.ownBlock=some g->W'.heap[g]? =W.heap[g]?):W'.ownsRow base e size v n xs:=by
 refine⟨h.1,?_⟩;rcases h.2 with h0 | ⟨g,cap,cur,rfl,h1,h2,h3⟩
 {exact .inl h0}
 {exact .inr ⟨g,cap,cur,rfl,h1,(hb g rfl).trans h2,h3⟩}
theorem own_shape {W:World}{base e size n:Nat}{v:Value}{xs:List Value}(h:W.ownsRow base e size v n xs):∃a m c,v=.slice a m c:=by
 rcases h.2 with⟨rfl,_⟩ | ⟨g,cap,cur,rfl,_⟩
 {exact⟨_,_,_,rfl⟩}
 {exact⟨_,_,_,rfl⟩}
theorem own_under {W W':World}{base e size n:Nat}{v:Value}{xs:List Value}(h:W.ownsRow base e size v n xs)(hb:Below W.heap.size W W'):W'.ownsRow base e size v n xs:=
 own_block h fun g hg=>hb.block g (h.lt g hg).2
theorem own_struck {W:World}{base e size n:Nat}{v:Value}{xs:List Value}(h:W.ownsRow base e size v n xs)(a:Addr)(u:Value)(hne:∀g,v.ownBlock=some g->g≠a.block):(W.setCell a u).ownsRow base e size v n xs:=
 own_block h fun g hg=>Below.heap_setCell _ _ _ g (hne g hg)
theorem range_block {W W':World}{b o:Nat}{cells:List Value}(h:W.rangeAt b o cells)(hb:W'.heap[b]? =W.heap[b]?):W'.rangeAt b o cells:=fun j v hj=>by
 rw[World.cell?_of_block (a:=⟨b,o+j,none⟩) hb];exact h j v hj
end Go.Proofs.YtihniipjfdenbaaGreatDoor
