/- The walk of (*maker).inner: the place of the node that asks a fact. A bound on the table. -/
import Derived.Test.YtihniipjfdenbaaGreatDoorDgIN
namespace Go.Proofs.YtihniipjfdenbaaGreatDoor
open Go.RowKit
abbrev iW (x:Int):Value:=.int .i64 x
theorem intInfo3 :(Tryz.prog.info? 3).map (fun i=>(i.zero,i.size,i.bytes))=some (some (.int .i64 0),1,8):=by kernel_rfl
def IntsA (W:World)(base:Nat)(v:Value)(xs:List Int)(ob:Option Nat):Prop:=
 (W.ownsRow base 3 1 v xs.length (xs.map iW)/\ ob=v.ownBlock)\/(∃kb off x,v=.slice (some ⟨kb,off,none⟩) 1 1/\ xs=[x]/\ kb<base/\ W.cell? ⟨kb,off,none⟩=some (.int .i64 x)/\ ob=none)
theorem IntsA.ob {W:World}{base:Nat}{v:Value}{xs:List Int}{ob:Option Nat}(h:IntsA W base v xs ob):∀g,ob=some g->base<=g/\ g<W.heap.size/\ ∃cs,W.heap[g]? =some (.cells cs 3 (0,0)):=by
 intro g hg;rcases h with⟨h,rfl⟩ | ⟨_,_,_,_,_,_,_,rfl⟩
 {(rcases h.2 with⟨rfl,_⟩ | ⟨g',cap,cur,rfl,h1,h2,_⟩);{simp[Value.ownBlock]at hg};{(have:g'=g:=by simpa[Value.ownBlock]using hg);subst this;exact⟨h1,heap_lt h2,cur,h2⟩}}
 {cases hg}
theorem IntsA.kept {W W':World}{base:Nat}{v:Value}{xs:List Int}{ob:Option Nat}(h:IntsA W base v xs ob)(hb:∀b,b<W.heap.size->b<base\/some b=ob->W'.heap[b]? =W.heap[b]?)(hB:base<=W.heap.size):IntsA W' base v xs ob:=by
 rcases h with⟨h,rfl⟩ | ⟨kb,off,x,e1,e2,e3,e4,e5⟩
 {exact .inl ⟨own_block h fun g hg=>hb g (h.lt g hg).2 (.inr hg.symm),rfl⟩}
 {exact .inr ⟨kb,off,x,e1,e2,e3,(World.cell?_of_block (a:=⟨kb,off,none⟩) (hb kb (by omega) (.inl e3))).trans e4,e5⟩}
theorem IntsA.below {W W':World}{base:Nat}{v:Value}{xs:List Int}{ob:Option Nat}(h:IntsA W base v xs ob)(hb:Below W.heap.size W W')(hB:base<=W.heap.size):IntsA W' base v xs ob:=
 h.kept (fun b hlt _=>hb.block b hlt) hB
theorem IntsA.last {W:World}{base:Nat}{v:Value}{pre:List Int}{a:Int}{ob:Option Nat}(h:IntsA W base v (pre++[a]) ob):∃b off cap,v=.slice (some ⟨b,off,none⟩) (pre.length+1) cap/\ W.cell? ⟨b,off+pre.length,none⟩=some (.int .i64 a):=by
 rcases h with⟨h,_⟩ | ⟨kb,off,x,e1,e2,_,e4,_⟩
 {rw[List.length_append,List.length_singleton]at h;obtain⟨g,cap,rfl,_,_⟩:=h.form (by omega);refine⟨g,0,cap,rfl,?_⟩;rw[Nat.zero_add,h.cellAt _ (by omega)];simp}
 ·have hp:pre=[]:=by
   have:=congrArg List.length e2;simp at this;exact this
  subst hp;simp at e2;subst e2;exact⟨kb,off,1,e1,e4⟩
theorem IntsA.len {W:World}{base:Nat}{v:Value}{xs:List Int}{ob:Option Nat}(h:IntsA W base v xs ob):∃a cap,v=.slice a xs.length cap:=by
 rcases h with⟨h,_⟩ | ⟨kb,off,x,e1,e2,_,e4,_⟩
 {exact own_len h}
 {rw[e2];exact⟨_,_,e1⟩}
theorem own_mono {W:World}{base base' e size n:Nat}{v:Value}{xs:List Value}(h:W.ownsRow base e size v n xs)(hb:base'<=base):W.ownsRow base' e size v n xs:=
 ⟨h.1,h.2.imp id fun⟨g,cap,cur,h1,h2,h3⟩=>⟨g,cap,cur,h1,by omega,h3⟩⟩
theorem run_appI {W:World}{base:Nat}{v:Value}{xs:List Int}{ob:Option Nat}(h:IntsA W base v xs ob)(hB:base<=W.heap.size)(hl:xs.length<=2000000)(ad:Addr)(x:Int)(hc:W.cell? ad=some (.int .i64 x))(ty:TypeId):
  ∃g cap w',(Builtin.append_ #[26,26] ty #[v,.slice (some ad) 1 1]).run Tryz.prog W=.ok (.slice (some ⟨g,0,none⟩) (xs.length+1) cap) w'/\
   w'.ownsRow base 3 1 (.slice (some ⟨g,0,none⟩) (xs.length+1) cap) (xs++[x]).length ((xs++[x]).map iW)/\ W.grownBy w' ob/\ (ob=some g\/g=W.heap.size)/\ g<w'.heap.size:=by
 obtain⟨i0,b0,b1,b2,b3⟩:=info_parts intInfo3
 have hn:∀j u,[iW x][j]? =some u->W.cell? (ad.add j)=some u:=by
  intro j u hj
  match j,hj with| 0,hj=>simp at hj;subst hj;simpa[Addr.add]using hc
 rcases h with⟨h,rfl⟩ | ⟨kb,off,y,rfl,rfl,e3,e4,rfl⟩
 {obtain⟨g,cap,w',r1,r2,r3,r4,r5⟩:=run_append_lies (P:=Tryz.prog) W 26 ty base 3 i0 _ 1 8 Tryz.underlying26 b0 b1 b2 b3 rfl (by decide) v xs.length _ h ad 1 1 [iW x] rfl hn (by intro u hu;simp at hu;subst hu;rfl) (by decide) (by unfold maxLen;omega) (by omega) hB W.heap.size rfl;exact⟨g,cap,w',r1,by rw[List.length_append,List.map_append];exact r2,r3,r4,r5⟩}
 ·obtain⟨v',w',r1,r2,r3⟩:=run_append_arg_grows (P:=Tryz.prog) W 26 ty 3 i0 _ 1 8 Tryz.underlying26 b0 b1 b2 b3 rfl (by decide) ⟨kb,off,none⟩ 1 1 [iW y] rfl (by
   intro j u hj
   match j,hj with
   | 0,hj=>simp at hj;subst hj;simpa[Addr.add]using e4) ad 1 1 [iW x] rfl hn (by decide) (by decide) (by decide)
  obtain⟨g,cap,rfl,hg,hlt⟩:=r2.form (by decide);have hge:W.heap.size<=g:=hg
  have hgw:g=W.heap.size:=by
   have hr:=run_append_grow (P:=Tryz.prog) W 26 ty 3 i0 _ Tryz.underlying26 b0 b1 ⟨kb,off,none⟩ 1 1 [iW y] (by rw[b2];rfl) (by
    intro j u hj
    match j,hj with
    | 0,hj=>simp at hj;subst hj;simpa[Addr.add]using e4) ad 1 1 [iW x] (by rw[b2];rfl) hn (by decide) (by decide) (growslice_fits (by omega) (by omega))
   have e:=(Result.ok.inj (r1.symm.trans hr)).1;have e2:=(Value.slice.inj e).1;exact congrArg Addr.block (Option.some.inj e2)
  exact⟨g,cap,w',r1,own_mono r2 hB,r3,.inr hgw,hlt⟩
structure InS (w W : World) (nb : Nat) (i : Int) (cs ks : List Int) (vc vk : Value) (oc ok : Option Nat) : Prop where
 blk:Blk W nb 106 #[.int .i64 i,vc,vk,.bool false]
 cuts:W.ownsRow w.heap.size 3 1 vc cs.length (cs.map iW)/\ oc=vc.ownBlock
 kids:IntsA W w.heap.size vk ks ok
 below:Below w.heap.size w W
 dis:∀g,ok=some g->oc≠some g
 ge:w.heap.size<=nb
structure InM (w W Wc w1 : World) (nb : Nat) (i : Int) (cs ks : List Int) (vc vk : Value) (ok : Option Nat) (s : Int) (g cap : Nat) : Prop where
 blk:Blk w1 nb 106 #[.int .i64 i,vc,vk,.bool false]
 cuts:w1.ownsRow w.heap.size 3 1 (.slice (some ⟨g,0,none⟩) (cs.length+1) cap) (cs++[s]).length ((cs++[s]).map iW)
 kids:IntsA w1 w.heap.size vk ks ok
 below:Below w.heap.size w w1
 dis:ok≠some g
 ge:w.heap.size<=nb
 keep:∀b,W.heap.size<=b->b<Wc.heap.size->w1.heap[b]? =Wc.heap[b]?
 size:Wc.heap.size<=w1.heap.size
 size0:W.heap.size<=Wc.heap.size
structure InE (w w2 : World) (nb : Nat) (i : Int) (cs ks : List Int) (vc vk : Value) (s k : Int) (g cap g2 cap2 : Nat) : Prop where
 blk:Blk w2 nb 106 #[.int .i64 i,vc,vk,.bool false]
 cuts:w2.ownsRow w.heap.size 3 1 (.slice (some ⟨g,0,none⟩) (cs.length+1) cap) (cs++[s]).length ((cs++[s]).map iW)
 kids:w2.ownsRow w.heap.size 3 1 (.slice (some ⟨g2,0,none⟩) (ks.length+1) cap2) (ks++[k]).length ((ks++[k]).map iW)
 below:Below w.heap.size w w2
 dis:g2≠g
 ge:w.heap.size<=nb
theorem blk_ne {W:World}{nb g:Nat}{cs cs':Array Value}(h:Blk W nb 106 cs)(h':W.heap[g]? =some (.cells cs' 3 (0,0))):nb≠g:=by
 rintro rfl;have h:W.heap[nb]? =_:=h;rw[h']at h
 injection h with h
 injection h with _ h _
 exact absurd h (by decide)
theorem InS.app1 {w W Wc:World}{nb:Nat}{i:Int}{cs ks:List Int}{vc vk:Value}{oc ok:Option Nat}(h:InS w W nb i cs ks vc vk oc ok)(hb:Below W.heap.size W Wc)(hl:cs.length<=2000000)(ad:Addr)(s:Int)(hc:Wc.cell? ad=some (.int .i64 s))(ty:TypeId):
  ∃g cap w1,(Builtin.append_ #[26,26] ty #[vc,.slice (some ad) 1 1]).run Tryz.prog Wc=.ok (.slice (some ⟨g,0,none⟩) (cs.length+1) cap) w1/\ InM w W Wc w1 nb i cs ks vc vk ok s g cap:=by
 have hB:=h.below.size;have hci:IntsA W w.heap.size vc cs oc:=.inl h.cuts;have hcu:=hci.below hb hB;obtain⟨g,cap,w1,r1,r2,r3,r4,r5⟩:=run_appI hcu (by have:=hb.size;omega) hl ad s hc ty;have hsz:=hb.size;have hblk:Blk Wc nb 106 #[.int .i64 i,vc,vk,.bool false]:=(hb.block nb h.blk.lt).trans h.blk
 have hoc:∀b,oc=some b->w.heap.size<=b/\ b<W.heap.size:=fun b e=>by{obtain⟨h1,h2,_⟩:=hci.ob b e;exact⟨h1,h2⟩}
 have hok:∀b,ok=some b->w.heap.size<=b/\ b<W.heap.size:=fun b e=>by{obtain⟨h1,h2,_⟩:=h.kids.ob b e;exact⟨h1,h2⟩}
 refine⟨g,cap,w1,r1,⟨Blk.grown hblk r3 fun e=>?_,r2,(h.kids.below hb hB).kept (fun b hlt hc=>r3.block b hlt fun e=>?_) (by omega),(h.below.trans (hb.mono hB)).grown r3 (by omega) (fun b e=>(hoc b e).1),fun e=>?_,h.ge,fun b h1 h2=>r3.block b h2 fun e=>?_,r3.size,hsz⟩⟩
 {obtain⟨_,_,cs',h1⟩:=hcu.ob nb e.symm;exact blk_ne hblk h1 rfl}
 {(rcases hc with hc | hc);{have:=hoc b e.symm;omega};{exact h.dis b hc.symm e.symm}}
 {(rcases r4 with r4 | r4);{exact h.dis g e r4};{have:=hok g e;omega}}
 {have:=hoc b e.symm;omega}
theorem InM.app2 {w W Wc w1 W2:World}{nb:Nat}{i:Int}{cs ks:List Int}{vc vk:Value}{ok:Option Nat}{s:Int}{g cap:Nat}(h:InM w W Wc w1 nb i cs ks vc vk ok s g cap)(hb:Below w1.heap.size w1 W2)(hl:ks.length<=2000000)(ad:Addr)(k:Int)(hc:W2.cell? ad=some (.int .i64 k))(ty:TypeId):
  ∃g2 cap2 w2,(Builtin.append_ #[26,26] ty #[vk,.slice (some ad) 1 1]).run Tryz.prog W2=.ok (.slice (some ⟨g2,0,none⟩) (ks.length+1) cap2) w2/\ InE w w2 nb i cs ks vc vk s k g cap g2 cap2:=by
 have hB:=h.below.size;have hcu:=h.kids.below hb hB;obtain⟨g2,cap2,w2,r1,r2,r3,r4,r5⟩:=run_appI hcu (by have:=hb.size;omega) hl ad k hc ty;have hsz:=hb.size;have hblk:Blk W2 nb 106 #[.int .i64 i,vc,vk,.bool false]:=(hb.block nb h.blk.lt).trans h.blk;have hg:=h.cuts.lt g rfl
 have hok:∀b,ok=some b->w.heap.size<=b/\ b<w1.heap.size:=fun b e=>by{obtain⟨h1,h2,_⟩:=h.kids.ob b e;exact⟨h1,h2⟩}
 refine⟨g2,cap2,w2,r1,⟨Blk.grown hblk r3 fun e=>?_,(own_under h.cuts hb).kept r3 (.inr fun e=>?_),r2,(h.below.trans (hb.mono hB)).grown r3 (by omega) (fun b e=>(hok b e).1),?_,h.ge⟩⟩
 {obtain⟨_,_,cs',h1⟩:=hcu.ob nb e.symm;exact blk_ne hblk h1 rfl}
 {exact h.dis e.symm}
 {rintro rfl;(rcases r4 with r4 | r4);{exact h.dis r4};{omega}}
theorem InE.fin {w w2:World}{nb:Nat}{i:Int}{cs ks:List Int}{vc vk:Value}{s k:Int}{g cap g2 cap2:Nat}(h:InE w w2 nb i cs ks vc vk s k g cap g2 cap2):
  InS w ((w2.setCell ⟨nb,1,none⟩ (.slice (some ⟨g,0,none⟩) (cs.length+1) cap)).setCell ⟨nb,2,none⟩ (.slice (some ⟨g2,0,none⟩) (ks.length+1) cap2)) nb i (cs++[s]) (ks++[k]) (.slice (some ⟨g,0,none⟩) (cs.length+1) cap) (.slice (some ⟨g2,0,none⟩) (ks.length+1) cap2) (some g) (some g2):=by
 have hne:∀ {v:Value} {n:Nat} {l:List Value},w2.ownsRow w.heap.size 3 1 v n l->v.ownBlock=none\/v.ownBlock≠some nb:=by{intro v n l hr;(rcases hr.2 with⟨rfl,_⟩ | ⟨g',c,cur,rfl,_,hgb,_⟩);{exact .inl rfl};{right;intro e;(have:g'=nb:=by simpa[Value.ownBlock]using e);exact blk_ne h.blk hgb this.symm}}
 have k1:=grown_set w2 nb 1 (.slice (some ⟨g,0,none⟩) (cs.length+1) cap);have k2:=grown_set (w2.setCell ⟨nb,1,none⟩ (.slice (some ⟨g,0,none⟩) (cs.length+1) cap)) nb 2 (.slice (some ⟨g2,0,none⟩) (ks.length+1) cap2);refine⟨(h.blk.set 1 _).set 2 _,⟨?_,rfl⟩,.inl ⟨?_,rfl⟩,((h.below.setCell (p:=⟨nb,1,none⟩) h.ge _).setCell (p:=⟨nb,2,none⟩) h.ge _),?_,h.ge⟩
 {exact(h.cuts.kept k1 (hne h.cuts)).kept k2 (hne h.cuts)}
 {exact(h.kids.kept k1 (hne h.kids)).kept k2 (hne h.kids)}
 {intro g' e e';(cases e;cases e');exact h.dis rfl}
theorem step_run {P:Program}{ops:Array Oper}{o:Oper}{a:Act}{w:World}{K:Act->World->Prop}{Q:Exit->Act->World->Prop}{E:Prop}(hgd:o.guard=none)(s x:Operand)(t:TypeId)
  (ho:o.op=.call {callee:=.builtin .append,args:=#[s,x],argTypes:=#[t,t]}) (v u:Value) (hs:a.eval s=v) (hx:a.eval x=u) (r:Value) (w':World)
  (hr:(Builtin.append_ #[t,t] o.type #[v,u]).run P w=.ok r w') (h:K (a.put o.dst r) w'):
  if Region.wanted o (yielded ops a.tmps)=true then Oper.wp P o a w K Q else E:=by
 have hw:Region.wanted o (yielded ops a.tmps)=true:=by simp[Region.wanted,hgd]
 rw[if_pos hw];unfold Oper.wp execOp;simp only[ho,resolve,invoke,builtin,Sem.run_bind,Sem.run_pure,Result.andThen_ok,List.map_toArray,List.map_cons,List.map_nil,hs,hx,hr];exact h
theorem InS.step1 {w W Wc:World}{nb:Nat}{i:Int}{cs ks:List Int}{vc vk:Value}{oc ok:Option Nat}(h:InS w W nb i cs ks vc vk oc ok){ops:Array Oper}{o:Oper}{a:Act}{K:Act->World->Prop}{Q:Exit->Act->World->Prop}{E:Prop}
  (hgd:o.guard=none) (s x:Operand) (ho:o.op=.call {callee:=.builtin .append,args:=#[s,x],argTypes:=#[26,26]}) (hs:a.eval s=vc) (ad:Addr) (hx:a.eval x=.slice (some ad) 1 1) (hb:Below W.heap.size W Wc) (hl:cs.length<=2000000) (sv:Int) (hc:Wc.cell? ad=some (.int .i64 sv))
  (hK:∀g cap w1,InM w W Wc w1 nb i cs ks vc vk ok sv g cap->K (a.put o.dst (.slice (some ⟨g,0,none⟩) (cs.length+1) cap)) w1):
  if Region.wanted o (yielded ops a.tmps)=true then Oper.wp Tryz.prog o a Wc K Q else E:=by
 obtain⟨g,cap,w1,r1,hM⟩:=h.app1 hb hl ad sv hc o.type;exact step_run hgd s x _ ho _ _ hs hx _ _ r1 (hK g cap w1 hM)
theorem InM.step2 {w W Wc w1 W2:World}{nb:Nat}{i:Int}{cs ks:List Int}{vc vk:Value}{ok:Option Nat}{sv:Int}{g cap:Nat}(h:InM w W Wc w1 nb i cs ks vc vk ok sv g cap){ops:Array Oper}{o:Oper}{a:Act}{K:Act->World->Prop}{Q:Exit->Act->World->Prop}{E:Prop}
  (hgd:o.guard=none) (s x:Operand) (ho:o.op=.call {callee:=.builtin .append,args:=#[s,x],argTypes:=#[26,26]}) (hs:a.eval s=vk) (ad:Addr) (hx:a.eval x=.slice (some ad) 1 1) (hb:Below w1.heap.size w1 W2) (hl:ks.length<=2000000) (k:Int) (hc:W2.cell? ad=some (.int .i64 k))
  (hK:∀g2 cap2 w2,InE w w2 nb i cs ks vc vk sv k g cap g2 cap2->K (a.put o.dst (.slice (some ⟨g2,0,none⟩) (ks.length+1) cap2)) w2):
  if Region.wanted o (yielded ops a.tmps)=true then Oper.wp Tryz.prog o a W2 K Q else E:=by
 obtain⟨g2,cap2,w2,r1,hE⟩:=h.app2 hb hl ad k hc o.type;exact step_run hgd s x _ ho _ _ hs hx _ _ r1 (hK g2 cap2 w2 hE)
theorem own_intsF {W:World}{base H:Nat}{S:List Nat}{v:Value}{l:List Int}(h:W.ownsRow base 3 1 v l.length (l.map iW))(hS:∀b∈S,b<base)(_hH:H<=base):IntsF W H S l v:=by
 rcases h.2 with⟨rfl,h0⟩ | ⟨g,cap,cur,rfl,h1,h2,h3,h4,h5,h6⟩
 {have:l=[]:=List.length_eq_zero_iff.1 h0;subst this;exact IntsF.nil _ _ _}
 {refine⟨⟨some ⟨g,0,none⟩,cap,rfl,h3,h4,fun _=>⟨g,0,rfl,heap_lt h2,fun i hi=>?_⟩⟩,fun _ a n c e=>?_⟩;{show W.cell? ⟨g,0+i*1,none⟩=some (.int .i64 l[i]);rw[Nat.zero_add,Nat.mul_one,h.cellAt _ (by omega)];simp[iW]};{(cases e);exact⟨heap_lt h2,.inr ⟨fun hm=>by have:=hS _ hm;show False;simp only at this;omega,_,h2,rfl⟩⟩}}
open Go
section
variable {P : Program} {ops : Array Oper} {Q : Exit -> Act -> World -> Prop} {md : Region.Mode} {S : World -> Prop} {T : Nat}
def wpAnyT (P:Program)(md:Region.Mode)(ops:Array Oper)(Q:Exit->Act->World->Prop)(S:World->Prop)(T:Nat):Nat->Array Bool->Act->World->Prop
 | 0,listed,a,w=>Region.ready md ops listed=[]/\ Q .normal a w
 | fuel+1,listed,a,w=>
  (Region.ready md ops listed=[]->Q .normal a w)/\
  ∀i∈Region.ready md ops listed,wpOp P ops Q i (fun a' w'=>((listed.setIfInBounds i true).getD T true=false->S w')/\ wpAnyT P md ops Q S T fuel (listed.setIfInBounds i true) a' w') a w
theorem wpAny_ofT :∀(fuel:Nat) (listed:Array Bool) (a:Act) (w:World),wpAnyT P md ops Q S T fuel listed a w->wpAny P md ops Q fuel listed a w
 | 0,_,_,_,h=>h
 | fuel+1,_,_,_,h=>⟨h.1,fun i hi=>wpOp_mono (fun a' w' h'=>wpAny_ofT fuel _ a' w' h'.2) (h.2 i hi)⟩
theorem wpAnyT_first {i:Nat}{oi:Oper}{v:Value}(hi:ops[i]? =some oi)(hsel:∀(j:Nat) (o:Oper) cs b,ops[j]? =some o->o.op≠ .select cs b)
  (hQ:∀c a w,Q (.panic c) (a.put oi.dst v) w->Q (.panic c) a w) (hiT:i≠T) (hTi:∀o,ops[T]? =some o->∃e∈o.after,Region.binds md e=true/\ e.on=i):
  ∀(fuel:Nat) (listed:Array Bool) (a:Act) (w:World),
   (∀j oj,ops[j]? =some oj->j≠i->listed.getD j true=false->(∀e∈oj.after,Region.binds md e=true->e.on≠i)->oi.apart ops oj=true)->
   i∈Region.ready md ops listed->YieldsIf P ops S oi v a->S w->listed.getD T true=false->
   wpAnyT P md ops Q S T fuel (listed.setIfInBounds i true) (a.put oi.dst v) w->wpAnyT P md ops Q S T (fuel+1) listed a w:=by
 intro fuel
 induction fuel with
 | zero=>{intro listed a w _ hr hy hS hT H;refine⟨fun h=>(by rw[h]at hr;cases hr),fun j hj=>?_⟩;by_cases hji:j=i;{subst hji;exact hy.wpOp hi hS ⟨fun _=>hS,H⟩};{have:=ready_mono hj hji;rw[H.1]at this;cases this}}
 | succ fuel ih=>
  intro listed a w hfree hr hy hS hT H;refine⟨fun h=>(by rw[h]at hr;cases hr),fun j hj=>?_⟩;by_cases hji:j=i
  {subst hji;exact hy.wpOp hi hS ⟨fun _=>hS,H⟩}
  ·have h1:=H.2 j (ready_mono hj hji)
   obtain⟨hjun,oj,hoj,hall⟩:=mem_ready.1 hj
   have hnot:∀e∈oj.after,Region.binds md e=true->e.on≠i:=fun e he hb heq=>by{have h1:=hall e he hb;have h0:=(mem_ready.1 hr).1;rw[heq]at h1;(rcases Nat.lt_or_ge i listed.size with h' | h');{simp[h']at h0 h1;rw[h0]at h1;cases h1};{simp[Array.getElem?_eq_none h']at h1}}
   have hjT:j≠T:=by{rintro rfl;obtain⟨e,he,hb,heq⟩:=hTi oj hoj;exact hnot e he hb heq}
   have h2:=wpOp_putIf hoj (hfree j oj hoj hji hjun hnot) (fun cs b=>hsel i oi cs b hi) (fun cs b=>hsel j oj cs b hoj) hQ hy h1
   have hfree':∀k ok,ops[k]? =some ok->k≠i->(listed.setIfInBounds j true).getD k true=false->
     (∀e∈ok.after,Region.binds md e=true->e.on≠i)->oi.apart ops ok=true:=fun k ok hk hki hun hno=>by
    refine hfree k ok hk hki ?_ hno;by_cases hjk:j=k
    {subst hjk;exact hjun}
    {rw[getD_set_ne true hjk]at hun;exact hun}
   have hT2:(listed.setIfInBounds j true).getD T true=false:=by rw[getD_set_ne true hjT];exact hT
   have hT3:((listed.setIfInBounds i true).setIfInBounds j true).getD T true=false:=by rw[getD_set_ne true hjT,getD_set_ne true hiT];exact hT
   refine wpOp_mono (fun a' w' h3=>⟨fun _=>h3.2.1 hT3,ih (listed.setIfInBounds j true) a' w' hfree' (ready_mono hr (Ne.symm hji)) h3.1 (h3.2.1 hT3) hT2 ?_⟩) h2;rw[Array.setIfInBounds_comm _ _ hji];exact h3.2.2
theorem wpAnyT_first0 {i:Nat}{oi:Oper}{v:Value}(hi:ops[i]? =some oi)(hsel:∀(j:Nat) (o:Oper) cs b,ops[j]? =some o->o.op≠ .select cs b)
  (hQ:∀c a w,Q (.panic c) (a.put oi.dst v) w->Q (.panic c) a w) (hiT:i≠T):
  ∀(fuel:Nat) (listed:Array Bool) (a:Act) (w:World),
   (∀j oj,ops[j]? =some oj->j≠i->listed.getD j true=false->(∀e∈oj.after,Region.binds md e=true->e.on≠i)->oi.apart ops oj=true)->
   i∈Region.ready md ops listed->YieldsIf P ops (fun _=>True) oi v a->(listed.getD T true=false->S w)->
   wpAnyT P md ops Q S T fuel (listed.setIfInBounds i true) (a.put oi.dst v) w->wpAnyT P md ops Q S T (fuel+1) listed a w:=by
 intro fuel
 induction fuel with
 | zero=>{intro listed a w _ hr hy hS H;refine⟨fun h=>(by rw[h]at hr;cases hr),fun j hj=>?_⟩;by_cases hji:j=i;{subst hji;exact hy.wpOp hi trivial ⟨fun e=>hS (by rw[getD_set_ne true hiT]at e;exact e),H⟩};{have:=ready_mono hj hji;rw[H.1]at this;cases this}}
 | succ fuel ih=>
  intro listed a w hfree hr hy hS H;refine⟨fun h=>(by rw[h]at hr;cases hr),fun j hj=>?_⟩;by_cases hji:j=i
  {subst hji;exact hy.wpOp hi trivial ⟨fun e=>hS (by rw[getD_set_ne true hiT]at e;exact e),H⟩}
  ·have h1:=H.2 j (ready_mono hj hji)
   obtain⟨hjun,oj,hoj,hall⟩:=mem_ready.1 hj
   have hnot:∀e∈oj.after,Region.binds md e=true->e.on≠i:=fun e he hb heq=>by{have h1:=hall e he hb;have h0:=(mem_ready.1 hr).1;rw[heq]at h1;(rcases Nat.lt_or_ge i listed.size with h' | h');{simp[h']at h0 h1;rw[h0]at h1;cases h1};{simp[Array.getElem?_eq_none h']at h1}}
   have h2:=wpOp_putIf hoj (hfree j oj hoj hji hjun hnot) (fun cs b=>hsel i oi cs b hi) (fun cs b=>hsel j oj cs b hoj) hQ hy h1
   have hfree':∀k ok,ops[k]? =some ok->k≠i->(listed.setIfInBounds j true).getD k true=false->
     (∀e∈ok.after,Region.binds md e=true->e.on≠i)->oi.apart ops ok=true:=fun k ok hk hki hun hno=>by
    refine hfree k ok hk hki ?_ hno;by_cases hjk:j=k
    {subst hjk;exact hjun}
    {rw[getD_set_ne true hjk]at hun;exact hun}
   have key:∀w':World,(((listed.setIfInBounds i true).setIfInBounds j true).getD T true=false->S w')->((listed.setIfInBounds j true).getD T true=false->S w'):=fun w' h e=>h (by
    rw[Array.setIfInBounds_comm _ _ (Ne.symm hji),getD_set_ne true hiT];exact e)
   refine wpOp_mono (fun a' w' h3=>⟨key w' h3.2.1,ih (listed.setIfInBounds j true) a' w' hfree' (ready_mono hr (Ne.symm hji)) h3.1 (key w' h3.2.1) ?_⟩) h2;rw[Array.setIfInBounds_comm _ _ hji];exact h3.2.2
theorem wpAnyT_take0 {i:Nat}{oi:Oper}{v:Value}{fuel:Nat}{listed:Array Bool}{a:Act}{w:World}(hi:ops[i]? =some oi)
  (hs:Region.noSelect ops=true) (hf:Region.free md ops listed i=true) (hr:(Region.ready md ops listed).contains i=true) (hiT:(i !=T)=true)
  (hQ:∀c a w,Q (.panic c) (a.put oi.dst v) w->Q (.panic c) a w) (hy:YieldsIf P ops (fun _=>True) oi v a) (hS:listed.getD T true=false->S w)
  (h:wpAnyT P md ops Q S T fuel (listed.setIfInBounds i true) (a.put oi.dst v) w):wpAnyT P md ops Q S T (fuel+1) listed a w:=
 wpAnyT_first0 hi (Region.noSelect_spec hs) hQ (by simpa using hiT) fuel listed a w (Region.free_spec hi hf) (by simpa using hr) hy hS h
def waitsFor (md:Region.Mode)(ops:Array Oper)(T i:Nat):Bool:=(i !=T)&& (match ops[T]? with | some o=>o.after.any (fun e=>Region.binds md e&& e.on==i) | none=>true)
theorem wpAnyT_take {i:Nat}{oi:Oper}{v:Value}{fuel:Nat}{listed:Array Bool}{a:Act}{w:World}(hi:ops[i]? =some oi)
  (hs:Region.noSelect ops=true) (hf:Region.free md ops listed i=true) (hr:(Region.ready md ops listed).contains i=true) (hw:waitsFor md ops T i=true) (hT:listed.getD T true=false)
  (hQ:∀c a w,Q (.panic c) (a.put oi.dst v) w->Q (.panic c) a w) (hy:YieldsIf P ops S oi v a) (hS:S w)
  (h:wpAnyT P md ops Q S T fuel (listed.setIfInBounds i true) (a.put oi.dst v) w):wpAnyT P md ops Q S T (fuel+1) listed a w:=by
 unfold waitsFor at hw;rw[Bool.and_eq_true]at hw;refine wpAnyT_first hi (Region.noSelect_spec hs) hQ (by simpa using hw.1) (fun o ho=>?_) fuel listed a w (Region.free_spec hi hf) (by simpa using hr) hy hS hT h;have h2:=hw.2;rw[ho]at h2;simp only[Array.any_eq_true]at h2;obtain⟨k,hk,h3⟩:=h2;rw[Bool.and_eq_true]at h3;exact⟨_,Array.getElem_mem hk,h3.1,by simpa using h3.2⟩
def AllReadyT (P:Program)(md:Region.Mode)(ops:Array Oper)(Q:Exit->Act->World->Prop)(S:World->Prop)(T:Nat)(fuel:Nat)(listed:Array Bool)(a:Act)(w:World)(rs:List Nat):Prop:=
 ∀i∈rs,wpOp P ops Q i (fun a' w'=>((listed.setIfInBounds i true).getD T true=false->S w')/\ wpAnyT P md ops Q S T fuel (listed.setIfInBounds i true) a' w') a w
theorem AllReadyT.nil {fuel:Nat}{listed:Array Bool}{a:Act}{w:World}:AllReadyT P md ops Q S T fuel listed a w []:=fun _ h=>by cases h
theorem AllReadyT.cons {fuel:Nat}{listed:Array Bool}{a:Act}{w:World}{i:Nat}{o:Oper}{rs:List Nat}(ho:ops[i]? =some o)
  (h:∀K':Act->World->Prop,Shut (∀a w,S w->(S w->wpAnyT P md ops Q S T fuel (listed.setIfInBounds i true) a w)->K' a w)->if Region.wanted o (yielded ops a.tmps)=true then Oper.wp P o a w K' Q else K' (a.put o.dst undef) w)
  (hs:AllReadyT P md ops Q S T fuel listed a w rs):AllReadyT P md ops Q S T fuel listed a w (i::rs):=fun j hj=>by
 rcases List.mem_cons.1 hj with rfl | hj
 {exact wpOp_step ho (fun K' hK=>h K' (fun a w hS hW=>hK a w ⟨fun _=>hS,hW hS⟩))}
 {exact hs j hj}
theorem AllReadyT.late {fuel:Nat}{listed:Array Bool}{a:Act}{w:World}{i:Nat}{o:Oper}{rs:List Nat}(ho:ops[i]? =some o)(hT:(listed.setIfInBounds i true).getD T true=true)
  (h:∀K':Act->World->Prop,Shut (∀a w,wpAnyT P md ops Q S T fuel (listed.setIfInBounds i true) a w->K' a w)->if Region.wanted o (yielded ops a.tmps)=true then Oper.wp P o a w K' Q else K' (a.put o.dst undef) w)
  (hs:AllReadyT P md ops Q S T fuel listed a w rs):AllReadyT P md ops Q S T fuel listed a w (i::rs):=fun j hj=>by
 rcases List.mem_cons.1 hj with rfl | hj
 {exact wpOp_step ho (fun K' hK=>h K' (fun a w hW=>hK a w ⟨fun e=>(by rw[hT]at e;cases e),hW⟩))}
 {exact hs j hj}
theorem wpAnyT_ready {rs:List Nat}{fuel:Nat}{listed:Array Bool}{a:Act}{w:World}(hr:Region.ready md ops listed=rs)(hne:rs≠[])
  (h:AllReadyT P md ops Q S T fuel listed a w rs):wpAnyT P md ops Q S T (fuel+1) listed a w:=⟨fun h0=>absurd (hr▸h0) hne,hr▸h⟩
theorem wpAnyT_done {listed:Array Bool}{a:Act}{w:World}(hr:Region.ready md ops listed=[])(h:Q .normal a w):
  ∀fuel,wpAnyT P md ops Q S T fuel listed a w
 | 0=>⟨hr,h⟩
 | _+1=>⟨fun _=>h,by rw[hr];simp⟩
theorem wp_region_T {id:Nat}{a:Act}{w:World}(T:Nat)(S:World->Prop)(hm:P.follows .mixedOrders=true)(hS:S w.drew)
  (h:S w.drew->wpAnyT P .any ops Q S T ops.size (Array.replicate ops.size false) a w.drew):(Code.region id ops true).wp P Q a w:=
 wp_region_any hm (wpAny_ofT _ _ _ _ (h hS))
theorem xp (i:Nat){o:Oper}{v:Value}{fuel:Nat}{l l':Array Bool}{a a':Act}{w:World}(h:wpAnyT P md ops Q S T fuel l' a' w)
  (hi:ops[i]? =some o:=by simp only[List.getElem?_toArray,List.getElem?_cons_succ,List.getElem?_cons_zero];rfl) (hy:∀w,True->(execOp a.eval o).run P w=.ok (.value v) w:=by intro _ _;go_simp;try with_reducible rfl) (ha:a.put o.dst v=a':=by(try simp only[Act.put,sA,sB,sC]);rfl) (hl:l.setIfInBounds i true=l':=by(try simp only[sA,sB,sC]);rfl) (hs:Region.noSelect ops=true:=by kernel_rfl) (hf:Region.free md ops l i=true:=by kernel_rfl) (hr:(Region.ready md ops l).contains i=true:=by kernel_rfl)
  (hT:(i !=T)=true:=by rfl) (hQ:∀c a w,Q (.panic c) (a.put o.dst v) w->Q (.panic c) a w:=by exact fun _ _ _ h=>h) (hw:Region.wanted o (yielded ops a.tmps)=true:=by rfl) (hS:l.getD T true=false->S w:=by first | exact fun _=>(by assumption) | exact fun e=>(by cases e)):wpAnyT P md ops Q S T (fuel+1) l a w:=
 wpAnyT_take0 hi hs hf hr hT hQ (Or.inl ⟨hw,hy⟩) hS (ha▸hl▸h)
theorem xk (i:Nat)(v:Value){o:Oper}{fuel:Nat}{l l':Array Bool}{a a':Act}{w:World}(hy:∀w,S w->(execOp a.eval o).run P w=.ok (.value v) w)(h:wpAnyT P md ops Q S T fuel l' a' w)
  (hi:ops[i]? =some o:=by simp only[List.getElem?_toArray,List.getElem?_cons_succ,List.getElem?_cons_zero];rfl) (ha:a.put o.dst v=a':=by(try simp only[Act.put,sA,sB,sC]);rfl) (hl:l.setIfInBounds i true=l':=by(try simp only[sA,sB,sC]);rfl) (hs:Region.noSelect ops=true:=by kernel_rfl) (hf:Region.free md ops l i=true:=by kernel_rfl) (hr:(Region.ready md ops l).contains i=true:=by kernel_rfl)
  (hT:waitsFor md ops T i=true:=by kernel_rfl) (hU:l.getD T true=false:=by kernel_rfl) (hQ:∀c a w,Q (.panic c) (a.put o.dst v) w->Q (.panic c) a w:=by exact fun _ _ _ h=>h) (hw:Region.wanted o (yielded ops a.tmps)=true:=by rfl) (hS:S w:=by assumption):wpAnyT P md ops Q S T (fuel+1) l a w:=
 wpAnyT_take hi hs hf hr hT hU hQ (Or.inl ⟨hw,hy⟩) hS (ha▸hl▸h)
theorem xr (i:Nat){o:Oper}{fuel:Nat}{l l':Array Bool}{a:Act}{w:World}(h:∀K':Act->World->Prop,Shut (∀a w,S w->(S w->wpAnyT P md ops Q S T fuel l' a w)->K' a w)->if Region.wanted o (yielded ops a.tmps)=true then Oper.wp P o a w K' Q else K' (a.put o.dst undef) w)
  (hi:ops[i]? =some o:=by simp only[List.getElem?_toArray,List.getElem?_cons_succ,List.getElem?_cons_zero];rfl) (hl:l.setIfInBounds i true=l':=by(try simp only[sA,sB,sC]);rfl) (hr:Region.ready md ops l=[i]:=by kernel_rfl):wpAnyT P md ops Q S T (fuel+1) l a w:=
 wpAnyT_ready hr (by simp) (AllReadyT.cons hi (hl▸h) AllReadyT.nil)
theorem xl (i:Nat){o:Oper}{fuel:Nat}{l l':Array Bool}{a:Act}{w:World}(h:∀K':Act->World->Prop,Shut (∀a w,wpAnyT P md ops Q S T fuel l' a w->K' a w)->if Region.wanted o (yielded ops a.tmps)=true then Oper.wp P o a w K' Q else K' (a.put o.dst undef) w)
  (hi:ops[i]? =some o:=by simp only[List.getElem?_toArray,List.getElem?_cons_succ,List.getElem?_cons_zero];rfl) (hT:(l.setIfInBounds i true).getD T true=true:=by kernel_rfl) (hl:l.setIfInBounds i true=l':=by(try simp only[sA,sB,sC]);rfl) (hr:Region.ready md ops l=[i]:=by kernel_rfl):wpAnyT P md ops Q S T (fuel+1) l a w:=
 wpAnyT_ready hr (by simp) (AllReadyT.late hi hT (hl▸h) AllReadyT.nil)
end
theorem dedI_first (s k:Int)(l:List (Int×Int)):dedI k ((s,k)::l)=dedI k l:=by rw[dedI,if_pos rfl]
theorem dedI_le :∀(l:List (Int×Int)) (a:Int),(dedI a l).1.length<=l.length
 | [],_=>Nat.le_refl _
 | (s,k)::l,a=>by{unfold dedI;(split);{have:=dedI_le l a;simp;omega};{have:=dedI_le l k;simp;omega}}
set_option maxRecDepth 100000 in
set_option maxHeartbeats 4000000 in
theorem inner_any (H mb:Nat)(S:List Nat)(t:List Dn)(i:Nat)(starts kids:List Int)(vs vk:Value)(W:World)(hm:MkIs W H mb S t)(hs:IntsIn W W.heap.size starts vs)(hk:IntsIn W W.heap.size kids vk)(hS:∀b∈S,b<W.heap.size)
  (hl:t.length<=900000) (hne:kids≠[]) (hlen:starts.length=kids.length) (lk:kids.length<=1000001) (hi:i<=1000000) (h1:∀x∈starts,W64 x) (h2:∀x∈kids,W64 x) (h0:0<=kids.getD 0 0) (hT:TabH H W):
  Calls Tryz.prog 110 #[.pointer (some ⟨mb,0,none⟩),.int .i64 i,vs,vk] W fun e W'=>e=.returned (.int .i64 (innerD t i starts kids).2)/\ MkIs W' H mb S (innerD t i starts kids).1/\ Stp H mb W W':=by
 obtain⟨asl,cs0,rfl,s1,s2,_⟩:=SlIn.shape hs
 obtain⟨kb,koff,ck,rfl,hkb,k1,k2⟩:∃kb koff ck,vk=.slice (some ⟨kb,koff,none⟩) kids.length ck/\ kb<W.heap.size/\ kids.length<=ck/\ ck<=maxLen:=by{obtain⟨ao,cap,rfl,a1,a2,a3⟩:=SlIn.shape hk;obtain⟨b,off,rfl,hb⟩:=a3 hne;exact⟨b,off,cap,rfl,hb,a1,a2⟩}
 unfold maxLen at s2 k2;have hmbW:mb<W.heap.size:=by obtain⟨_,⟨v,mo,xs,hb,_⟩,_⟩:=hm;exact hb.lt
 have hHs:H<=W.heap.size:=by obtain⟨hge,⟨v,mo,xs,hb,_⟩,_⟩:=hm;have:=hb.lt;omega
 obtain⟨k0,kr,rfl⟩:∃k0 kr,kids=k0::kr:=by cases kids with | nil=>exact absurd rfl hne | cons a l=>exact⟨a,l,rfl⟩
 obtain⟨s0,sr,rfl⟩:∃s0 sr,starts=s0::sr:=by cases starts with | nil=>simp at hlen | cons a l=>exact⟨a,l,rfl⟩
 have hk0:W.cell? ⟨kb,koff,none⟩=some (.int .i64 k0):=by{obtain⟨b,off,e,_,hc⟩:=SlIn.one hk 0 (by simp);(cases e);simpa using hc}
 have HIN0:Hid (InS W (W.alloc (.cells #[.int .i64 i,.slice none 0 0,.slice (some ⟨kb,koff,none⟩) 1 1,.bool false] 106)) W.heap.size i [] [k0] (.slice none 0 0) (.slice (some ⟨kb,koff,none⟩) 1 1) none none):=
  ⟨Blk.new _ _ _,⟨World.ownsRow_nil _ _ _ _,rfl⟩,.inr ⟨kb,koff,k0,rfl,rfl,hkb,by
   rw[World.cell?_of_block (w:=W) (a:=⟨kb,koff,none⟩) (Below.heap_alloc W _ kb hkb)];exact hk0,rfl⟩,(Below.refl _ _).alloc (Nat.le_refl _) _,fun g e=>(by cases e),Nat.le_refl _⟩
 obtain⟨F,hF⟩:∃F,F=((dedI k0 ((s0::sr).zip (k0::kr))).1,k0::(dedI k0 ((s0::sr).zip (k0::kr))).2):=⟨_,rfl⟩
 have HF0:Hid (F=([]++(dedI k0 (((s0::sr).zip (k0::kr)).drop 0)).1,([]++[k0])++(dedI k0 (((s0::sr).zip (k0::kr)).drop 0)).2)):=by{show _=_;rw[hF];rfl}
 have HD:Hid (innerD t i (s0::sr) (k0::kr)=if F.2=[k0]then(t,k0.toNat)else addD t ⟨i,F.1,F.2,false⟩):=by{show _=_;rw[hF,List.zip_cons_cons,dedI_first];unfold innerD;simp only[List.tail_cons,List.getD_cons_zero,List.cons.injEq,true_and]}
 have HFK:Hid (∃l,F.2=k0::l):=⟨_,by rw[hF]⟩
 have HFL:Hid (F.1.length<=1000000/\ F.2.length<=1000001):=by{have q:=dedI_le (sr.zip kr) k0;have q2:=dedI_len (sr.zip kr) k0;rw[List.length_zip]at q;simp only[List.length_cons]at lk;rw[hF,List.zip_cons_cons,dedI_first];exact⟨by show(dedI k0 (sr.zip kr)).1.length<=_;omega,by show(k0::(dedI k0 (sr.zip kr)).2).length<=_;simp only[List.length_cons];omega⟩}
 clear hF;have HS1:=Lib.hid hs;have HK1:=Lib.hid hk;have H1:=Lib.hid h1;have H2:=Lib.hid h2;have HM:=Lib.hid hm;have HT:=Lib.hid hT;have HSS:=Lib.hid hS;clear hs hk h1 h2 hm hT hS hne;generalize innerD t i (s0::sr) (k0::kr)=R at*
 rw[List.getD_cons_zero]at h0;generalize hkids:k0::kr=kids at*
 generalize hstarts:s0::sr=starts at*
 have hpos:0<kids.length:=by rw[<-hkids];simp
 have HKE:=Lib.hid hkids;have hcnt:1<=kids.length:=hpos;clear hkids hstarts;go_enter Tryz.func110,Tryz.ntmps110;go_wp2
 go_loopw [18] (fun ix wr=>∃(j:Nat) (cs pre:List Int) (a:Int) (vc vk:Value) (oc ok:Option Nat),j<=kids.length/\ ix=.int .i64 j/\ Hid (InS W wr W.heap.size i cs (pre++[a]) vc vk oc ok)/\ cs.length<=j/\ pre.length<=j/\
  Hid (F=(cs++(dedI a ((starts.zip kids).drop j)).1,(pre++[a])++(dedI a ((starts.zip kids).drop j)).2))/\ Hid ((∀x∈cs,W64 x)/\ ∀x∈pre++[a],W64 x)) (fun ix _=>kids.length-(intOf ix).toNat)
 case atStart=>exact⟨0,[],[],k0,_,_,_,_,by omega,rfl,HIN0,by simp,by simp,HF0,by simp,by intro x hx;simp at hx;subst hx;exact H2.out x (by rw[<-HKE.out];simp)⟩
 case round=>
  obtain⟨j,cs,pre,a,vc,vk,oc,ok,hj,rfl,hIN,hcl,hpl,hF,h64⟩:=hrel;clear HIN0 HF0
  have hpl2:pre.length<=1000000:=by{have q:=HFL.out.2;rw[hF.out]at q;simp only[List.length_append,List.length_cons,List.length_nil]at q;omega}
  have hcl2:cs.length<=1000000:=by{have q:=HFL.out.1;rw[hF.out]at q;simp only[List.length_append]at q;omega}
  have hbw:=hIN.out.below.size;obtain⟨va,vcap,hvc⟩:=own_len hIN.out.cuts.1;obtain⟨lb,lo,lcap,hvk,hlast⟩:=hIN.out.kids.last;have n1:=hIN.out.blk.cell 1;have n2:=hIN.out.blk.cell 2;have z1:=hIN.out.blk.frozen 1;have z2:=hIN.out.blk.frozen 2;have hnlt:=hIN.out.blk.lt;by_cases hlt:j<kids.length
  {obtain⟨b,off,e,hbB,hcc⟩:=SlIn.one HK1.out j hlt;have hcc2:=(hIN.out.below.cell (p:=⟨b,off+j,none⟩) hbB).trans hcc;(cases e);(have hslt:j<starts.length:=by omega);obtain⟨sb,so,e,hsB,hsc⟩:=SlIn.one HS1.out j hslt;have hsc2:=(hIN.out.below.cell (p:=⟨sb,so+j,none⟩) hsB).trans hsc;(cases e);(have hz:j<(starts.zip kids).length:=by rw[List.length_zip];omega);have hdrop:(starts.zip kids).drop j=(starts[j],kids[j])::(starts.zip kids).drop (j+1):=by{rw[List.drop_eq_getElem_cons hz,List.getElem_zip]};have hx1:=H1.out starts[j] (List.getElem_mem _);have hx2:=H2.out kids[j] (List.getElem_mem _);have HF:=hF.out;rw[hdrop,dedI]at HF;generalize starts[j]=sv at*;generalize kids[j]=kv at*;subst hvc hvk;clear hcc hF hz hdrop;(have hsb2:sb<wr.heap.size:=by omega);(have hkb2:kb<wr.heap.size:=by omega);by_cases hkv:kv=a;{rw[if_pos hkv]at HF;have HF2:=Lib.hid HF;subst hkv;clear HF z1 z2;go_wp2;go_roundw;(case rel=>exact⟨j+1,cs,pre,kv,_,_,_,_,by omega,by go_num,hIN,by omega,by omega,HF2,h64⟩);case measure=>simp[intOf];omega};{rw[if_neg hkv]at HF;(have hne:(kv==a)=false:=by simpa using hkv);have HF2:=Lib.hid HF;clear HF;go_upto_region 6 with(fail);refine wp_region_T 14 (fun w':World=>w'.cell? ⟨W.heap.size,1,none⟩=some (.slice va cs.length vcap)/\ w'.cell? ⟨W.heap.size,2,none⟩=some (.slice (some ⟨lb,lo,none⟩) (pre.length+1) lcap)/\ w'.cell? ⟨sb,so+j,none⟩=some (.int .i64 sv)) (by kernel_rfl) ⟨n1,n2,hsc2⟩ (fun hHeld=>?_);refine xp 0 ?_;refine xp 2 ?_;refine xp 3 ?_;refine xp 8 ?_;refine xp 10 ?_;refine xk 1 ?v1 ?y1 ?_;(case y1=>(intro w9 hSw;obtain⟨q1,q2,q3⟩:=hSw;go_simp;try with_reducible rfl));refine xp 4 ?_;refine xk 9 ?v9 ?y9 ?_;(case y9=>(intro w9 hSw;obtain⟨q1,q2,q3⟩:=hSw;go_simp;try with_reducible rfl));refine xk 5 ?v5 ?y5 ?_;(case y5=>(intro w9 hSw;obtain⟨q1,q2,q3⟩:=hSw;go_simp;try with_reducible rfl));refine wpAnyT_ready (rs:=[6,11]) (by kernel_rfl) (by simp) ?_;refine AllReadyT.cons (o:=⟨some 39,.buildSlice 26 1 #[(0,.tmp 38)],26, "diagram.go:63",#[⟨5,.data⟩],none⟩) rfl (fun K hK=>?_) (AllReadyT.cons (o:=⟨some 44,.buildSlice 26 1 #[(0,.tmp 43)],26, "diagram.go:63",#[⟨10,.data⟩],none⟩) rfl (fun K hK=>?_) AllReadyT.nil);{skip;go_simp;refine hK.out _ _ ?_ (fun hHeld=>?_);{(first | exact⟨by assumption,by assumption,by assumption⟩ | go_keep)};clear hK K;(try simp only[Act.put,sA,sB,sC]);refine wpAnyT_ready (rs:=[7,11]) (by kernel_rfl) (by simp) ?_;refine AllReadyT.cons (o:=⟨some 40,.call {callee:=.builtin .append,args:=#[.tmp 34,.tmp 39],argTypes:=#[26,26]},26, "diagram.go:63",#[⟨1,.data⟩,⟨6,.data⟩],none⟩) rfl (fun K hK=>?_) (AllReadyT.cons (o:=⟨some 44,.buildSlice 26 1 #[(0,.tmp 43)],26, "diagram.go:63",#[⟨10,.data⟩],none⟩) rfl (fun K hK=>?_) AllReadyT.nil);{skip;(refine hIN.out.step1 (by rfl) _ _ (by rfl) (by rfl) _ (by rfl) (by first | exact((Below.refl _ _).drew).alloc (Nat.le_refl _) _ | exact(((Below.refl _ _).drew).alloc (Nat.le_refl _) _).alloc (by simp) _) (by omega) sv (by first | exact(Blk.new _ _ _).cell 0 | exact(Blk.alloc (Blk.new _ _ _) _).cell 0 | (have q:=(Blk.new (wr.alloc (.cells #[.int .i64 kv] 3)) 3 #[.int .i64 sv]).cell 0;simp only[World.size_alloc]at q;exact q)) ?_;intro g1 cap1 w1 hM1;have m1:=hM1.blk.cell 1;have m2:=hM1.blk.cell 2;have m3:=(hM1.below.cell (p:=⟨sb,so+j,none⟩) hsB).trans hsc;have hl1:=hM1.blk.lt;have hl1b:sb<w1.heap.size:=by have:=hM1.below.size;omega);refine hK.out _ _ ?_ (fun hHeld=>?_);{(first | exact⟨by assumption,by assumption,by assumption⟩ | go_keep)};clear hK K;(try simp only[Act.put,sA,sB,sC]);refine xp 13 ?_;refine xr 11 (fun K hK=>?_);go_simp;refine hK.out _ _ ?_ (fun hHeld=>?_);{(first | exact⟨by assumption,by assumption,by assumption⟩ | go_keep)};clear hK K;(try simp only[Act.put,sA,sB,sC]);refine xr 12 (fun K hK=>?_);(refine hM1.step2 (by rfl) _ _ (by rfl) (by rfl) _ (by rfl) (by first | exact Below.refl _ _ | exact(Below.refl _ _).alloc (Nat.le_refl _) _) (by rw[List.length_append,List.length_singleton];omega) kv (by first | exact(Blk.new _ _ _).cell 0 | exact(World.cell?_of_block (hM1.keep _ (by simp<;>omega) (by simp<;>omega))).trans (by first | exact(Blk.new _ _ _).cell 0 | exact(Blk.alloc (Blk.new _ _ _) _).cell 0 | (have q:=(Blk.new (wr.alloc (.cells #[.int .i64 sv] 3)) 3 #[.int .i64 kv]).cell 0;simp only[World.size_alloc]at q;exact q))) ?_;intro g2 cap2 w2 hE;have e1:=hE.blk.cell 1;have e2:=hE.blk.cell 2;have e3:=(hE.below.cell (p:=⟨sb,so+j,none⟩) hsB).trans hsc;have y1:=hE.blk.frozen 1;have y2:=hE.blk.frozen 2;have hl2:=hE.blk.lt);refine hK.out _ _ ?_ (fun hHeld=>?_);{(first | exact⟨by assumption,by assumption,by assumption⟩ | go_keep)};clear hK K;(try simp only[Act.put,sA,sB,sC]);refine xl 14 (fun K hK=>?_);go_simp;refine hK.out _ _ ?_;clear hK K;(try simp only[Act.put,sA,sB,sC]);refine xp 15 ?_;refine xl 16 (fun K hK=>?_);go_simp;refine hK.out _ _ ?_;clear hK K;(try simp only[Act.put,sA,sB,sC]);refine wpAnyT_done (by kernel_rfl) ?_ _;(go_wp2;go_roundw;(case rel=>exact⟨_,_,_,⟨j+1,by omega,by go_num,cs++[sv],pre++[a],kv,⟨_,_,_,_,Lib.hid (by simpa using hE.fin)⟩,by simp;omega,by simp;omega,(by show _=_;rw[HF2.out];simp),(by intro x hx;rcases List.mem_append.1 hx with hx | hx;exact h64.out.1 x hx;rw[List.mem_singleton]at hx;rw[hx];exact hx1),(by intro x hx;rcases hx with hx | hx;exact h64.out.2 x hx;rw[hx];exact hx2)⟩,rfl,rfl,by go_num⟩);(case measure=>simp[intOf];omega))};{skip;go_simp;refine hK.out _ _ ?_ (fun hHeld=>?_);{(first | exact⟨by assumption,by assumption,by assumption⟩ | go_keep)};clear hK K;(try simp only[Act.put,sA,sB,sC]);refine xr 7 (fun K hK=>?_);(refine hIN.out.step1 (by rfl) _ _ (by rfl) (by rfl) _ (by rfl) (by first | exact((Below.refl _ _).drew).alloc (Nat.le_refl _) _ | exact(((Below.refl _ _).drew).alloc (Nat.le_refl _) _).alloc (by simp) _) (by omega) sv (by first | exact(Blk.new _ _ _).cell 0 | exact(Blk.alloc (Blk.new _ _ _) _).cell 0 | (have q:=(Blk.new (wr.alloc (.cells #[.int .i64 kv] 3)) 3 #[.int .i64 sv]).cell 0;simp only[World.size_alloc]at q;exact q)) ?_;intro g1 cap1 w1 hM1;have m1:=hM1.blk.cell 1;have m2:=hM1.blk.cell 2;have m3:=(hM1.below.cell (p:=⟨sb,so+j,none⟩) hsB).trans hsc;have hl1:=hM1.blk.lt;have hl1b:sb<w1.heap.size:=by have:=hM1.below.size;omega);refine hK.out _ _ ?_ (fun hHeld=>?_);{(first | exact⟨by assumption,by assumption,by assumption⟩ | go_keep)};clear hK K;(try simp only[Act.put,sA,sB,sC]);refine xp 13 ?_;refine xr 12 (fun K hK=>?_);(refine hM1.step2 (by rfl) _ _ (by rfl) (by rfl) _ (by rfl) (by first | exact Below.refl _ _ | exact(Below.refl _ _).alloc (Nat.le_refl _) _) (by rw[List.length_append,List.length_singleton];omega) kv (by first | exact(Blk.new _ _ _).cell 0 | exact(World.cell?_of_block (hM1.keep _ (by simp<;>omega) (by simp<;>omega))).trans (by first | exact(Blk.new _ _ _).cell 0 | exact(Blk.alloc (Blk.new _ _ _) _).cell 0 | (have q:=(Blk.new (wr.alloc (.cells #[.int .i64 sv] 3)) 3 #[.int .i64 kv]).cell 0;simp only[World.size_alloc]at q;exact q))) ?_;intro g2 cap2 w2 hE;have e1:=hE.blk.cell 1;have e2:=hE.blk.cell 2;have e3:=(hE.below.cell (p:=⟨sb,so+j,none⟩) hsB).trans hsc;have y1:=hE.blk.frozen 1;have y2:=hE.blk.frozen 2;have hl2:=hE.blk.lt);refine hK.out _ _ ?_ (fun hHeld=>?_);{(first | exact⟨by assumption,by assumption,by assumption⟩ | go_keep)};clear hK K;(try simp only[Act.put,sA,sB,sC]);refine xl 14 (fun K hK=>?_);go_simp;refine hK.out _ _ ?_;clear hK K;(try simp only[Act.put,sA,sB,sC]);refine xp 15 ?_;refine xl 16 (fun K hK=>?_);go_simp;refine hK.out _ _ ?_;clear hK K;(try simp only[Act.put,sA,sB,sC]);refine wpAnyT_done (by kernel_rfl) ?_ _;(go_wp2;go_roundw;(case rel=>exact⟨_,_,_,⟨j+1,by omega,by go_num,cs++[sv],pre++[a],kv,⟨_,_,_,_,Lib.hid (by simpa using hE.fin)⟩,by simp;omega,by simp;omega,(by show _=_;rw[HF2.out];simp),(by intro x hx;rcases List.mem_append.1 hx with hx | hx;exact h64.out.1 x hx;rw[List.mem_singleton]at hx;rw[hx];exact hx1),(by intro x hx;rcases hx with hx | hx;exact h64.out.2 x hx;rw[hx];exact hx2)⟩,rfl,rfl,by go_num⟩);(case measure=>simp[intOf];omega))}};{skip;go_simp;refine hK.out _ _ ?_ (fun hHeld=>?_);{(first | exact⟨by assumption,by assumption,by assumption⟩ | go_keep)};clear hK K;(try simp only[Act.put,sA,sB,sC]);refine xr 6 (fun K hK=>?_);go_simp;refine hK.out _ _ ?_ (fun hHeld=>?_);{(first | exact⟨by assumption,by assumption,by assumption⟩ | go_keep)};clear hK K;(try simp only[Act.put,sA,sB,sC]);refine xr 7 (fun K hK=>?_);(refine hIN.out.step1 (by rfl) _ _ (by rfl) (by rfl) _ (by rfl) (by first | exact((Below.refl _ _).drew).alloc (Nat.le_refl _) _ | exact(((Below.refl _ _).drew).alloc (Nat.le_refl _) _).alloc (by simp) _) (by omega) sv (by first | exact(Blk.new _ _ _).cell 0 | exact(Blk.alloc (Blk.new _ _ _) _).cell 0 | (have q:=(Blk.new (wr.alloc (.cells #[.int .i64 kv] 3)) 3 #[.int .i64 sv]).cell 0;simp only[World.size_alloc]at q;exact q)) ?_;intro g1 cap1 w1 hM1;have m1:=hM1.blk.cell 1;have m2:=hM1.blk.cell 2;have m3:=(hM1.below.cell (p:=⟨sb,so+j,none⟩) hsB).trans hsc;have hl1:=hM1.blk.lt;have hl1b:sb<w1.heap.size:=by have:=hM1.below.size;omega);refine hK.out _ _ ?_ (fun hHeld=>?_);{(first | exact⟨by assumption,by assumption,by assumption⟩ | go_keep)};clear hK K;(try simp only[Act.put,sA,sB,sC]);refine xp 13 ?_;refine xr 12 (fun K hK=>?_);(refine hM1.step2 (by rfl) _ _ (by rfl) (by rfl) _ (by rfl) (by first | exact Below.refl _ _ | exact(Below.refl _ _).alloc (Nat.le_refl _) _) (by rw[List.length_append,List.length_singleton];omega) kv (by first | exact(Blk.new _ _ _).cell 0 | exact(World.cell?_of_block (hM1.keep _ (by simp<;>omega) (by simp<;>omega))).trans (by first | exact(Blk.new _ _ _).cell 0 | exact(Blk.alloc (Blk.new _ _ _) _).cell 0 | (have q:=(Blk.new (wr.alloc (.cells #[.int .i64 sv] 3)) 3 #[.int .i64 kv]).cell 0;simp only[World.size_alloc]at q;exact q))) ?_;intro g2 cap2 w2 hE;have e1:=hE.blk.cell 1;have e2:=hE.blk.cell 2;have e3:=(hE.below.cell (p:=⟨sb,so+j,none⟩) hsB).trans hsc;have y1:=hE.blk.frozen 1;have y2:=hE.blk.frozen 2;have hl2:=hE.blk.lt);refine hK.out _ _ ?_ (fun hHeld=>?_);{(first | exact⟨by assumption,by assumption,by assumption⟩ | go_keep)};clear hK K;(try simp only[Act.put,sA,sB,sC]);refine xl 14 (fun K hK=>?_);go_simp;refine hK.out _ _ ?_;clear hK K;(try simp only[Act.put,sA,sB,sC]);refine xp 15 ?_;refine xl 16 (fun K hK=>?_);go_simp;refine hK.out _ _ ?_;clear hK K;(try simp only[Act.put,sA,sB,sC]);refine wpAnyT_done (by kernel_rfl) ?_ _;(go_wp2;go_roundw;(case rel=>exact⟨_,_,_,⟨j+1,by omega,by go_num,cs++[sv],pre++[a],kv,⟨_,_,_,_,Lib.hid (by simpa using hE.fin)⟩,by simp;omega,by simp;omega,(by show _=_;rw[HF2.out];simp),(by intro x hx;rcases List.mem_append.1 hx with hx | hx;exact h64.out.1 x hx;rw[List.mem_singleton]at hx;rw[hx];exact hx1),(by intro x hx;rcases hx with hx | hx;exact h64.out.2 x hx;rw[hx];exact hx2)⟩,rfl,rfl,by go_num⟩);(case measure=>simp[intOf];omega))}}}
  ·have hje:j=kids.length:=by omega
   have hdz:(starts.zip kids).drop j=[]:=List.drop_of_length_le (by rw[List.length_zip];omega);have HF:=hF.out;rw[hdz]at HF;simp only[dedI,List.append_nil]at HF;rw[HF]at HD;subst hvc hvk;have hb:=hIN.out.below;have HB:=Lib.hid hb;have hS1:MkS H S W wr:=MkS.of_below hb (Nat.le_refl _);cases hp:pre with
   | nil=>{subst hp;have hd2:=HD.out;simp only[List.nil_append]at hd2;have hka:k0=a:=by{obtain⟨l,h⟩:=HFK.out;rw[HF]at h;simp at h;exact h.1.symm};subst hka;rw[if_pos rfl]at hd2;have HD2:=Lib.hid hd2;obtain⟨b,off,e,hbB,hcc⟩:=SlIn.one HK1.out 0 (by omega);(have hk00:kids[0]=k0:=by simp[<-HKE.out]);rw[hk00]at hcc;have hcc2:=(hb.cell (p:=⟨b,off+0,none⟩) hbB).trans hcc;(cases e);rw[Nat.add_zero]at hcc2;have HMW:=Lib.hid (HM.out.below hb (Nat.le_refl _));have HKS:=Lib.hid (Stp.of_below (H:=H) (mb:=mb) hb hmbW);clear hd2 HF hF HD hcc hb hIN h64 hk00 hlast;go_wp2;go_ret;rw[HD2.out];exact⟨ret_int (Int.toNat_of_nonneg h0).symm,HMW.out,HKS.out⟩}
   | cons p ps=>
    have hd2:=HD.out;rw[if_neg (by rw[hp];simp)]at hd2;have HD2:=Lib.hid hd2;have hne1:((pre.length:Int)+1==1)=false:=by rw[hp];simp;omega
    have hcf:IntsF wr H S cs (.slice va cs.length vcap):=own_intsF hIN.out.cuts.1 HSS.out hHs
    have hkf:IntsF wr H S (pre++[a]) (.slice (some ⟨lb,lo,none⟩) (pre.length+1) lcap):=by{(rcases hIN.out.kids with⟨ho,_⟩ | ⟨_,_,x,_,e2,_⟩);{exact own_intsF ho HSS.out hHs};{have:=congrArg List.length e2;rw[hp]at this;simp at this}}
    have HN:=Lib.hid (node_any H mb S t ⟨i,cs,pre++[a],false⟩ _ _ wr (HM.out.below hb (Nat.le_refl _)) hcf hkf hl
     ⟨⟨by show(-9223372036854775808:Int)<=(i:Int);omega,by show(i:Int)<=9223372036854775807;omega⟩,h64.out.1,h64.out.2,by show cs.length<=_;omega,by show(pre++[a]).length<=_;rw[List.length_append,List.length_singleton];omega⟩ (HT.out.step hHs hS1))
    have n0:=hIN.out.blk.cell 0;have n3:=hIN.out.blk.cell 3;have HKS:=Lib.hid (Stp.of_below (H:=H) (mb:=mb) hb hmbW);clear hd2 HF hF HD hb hIN h64 hlast hp hcf hkf hS1 hdz;go_wp2_with (go_at_call 106;refine HN.out.mono ?_;rintro e w3 ⟨rfl,h3⟩;have H3:=Lib.hid h3;clear h3);go_ret;rw[HD2.out];exact⟨rfl,H3.out.1,HKS.out.trans H3.out.2⟩
end Go.Proofs.YtihniipjfdenbaaGreatDoor
