/- The walk of (*maker).inner: the place of the node that asks a fact. A bound on the table. -/
import Derived.Test.YtdipkbobalnilaaGreatDoorAl
import Derived.Test.YtdipkbobalnilaaGreatDoorDgIN
namespace Go.Proofs.YtdipkbobalnilaaGreatDoor
open Tryz
open Go.RowKit
variable{j:Nat}{Z:Int}{C:List Int}{K L:Act}{M:Oper}
abbrev iW(x:Int):Ea:=pa x
theorem Hl:(prog.info? 3).map (λi=>(i.zero,i.size,i.bytes))=some (some (pa 0),1,8):=by kernel_rfl
def Qk(W:Ca)(base:Nat)(v:Ea)(b:List Int)(c:Option Nat):Prop:=
 (W.ownsRow base 3 1 v b.length (b.map iW)/\c=v.ownBlock)\/(∃a off x,v=.slice (fe a off) 1 1/\b=[x]/\a<base/\W.cell? (Ja a off)=some (pa x)/\c=none)
theorem Qk.ob{W:Ca}{base:Nat}{v:Ea}{e:List Int}{a:Option Nat}(h:Qk W base v e a):∀g,a=some g->base<=g/\g<W.heap.size/\∃b,W.heap[g]? =some (.cells b 3 (0,0)):=by
 intro g d;rcases h with⟨h,rfl⟩|⟨_,_,_,_,_,_,_,rfl⟩
 {(rcases h.2 with⟨rfl,_⟩|⟨f,cap,c,rfl,i,j,_⟩);all_goals grind [Value.ownBlock]}
 {cases d}
theorem Qk.kept{W c:Ca}{v:Ea}{a:Option Nat}(h:Qk W j v C a)(d:∀b,b<W.heap.size->b<j\/some b=a->c.heap[b]? =W.heap[b]?)(o:j<=W.heap.size):Qk c j v C a:=by
 rcases h with⟨h,rfl⟩|⟨f,off,x,i,k,l,m,n⟩
 {exact .inl ⟨lh h λg e=>d g (h.lt g e).2 (.inr e.symm),rfl⟩}
 {exact .inr ⟨f,off,x,i,k,l,(World.cell?_of_block (d f ja ja)).trans m,n⟩}
theorem Qk.below{W a:Ca}{v:Ea}{c:Option Nat}(h:Qk W j v C c)(e:Da W.heap.size W a)(d:j<=W.heap.size):Qk a j v C c:=
 h.kept (λb hlt _=>e.block b hlt) d
theorem Qk.last{W:Ca}{v:Ea}{d:Option Nat}(h:Qk W j v (C++[Z]) d):∃b off cap,v=.slice (fe b off) (C.length+1) cap/\W.cell? (Ja b (off+C.length))=some (pa Z):=by
 rcases h with⟨h,_⟩|⟨i,off,x,e,a,_,f,_⟩
 {rw[Qa,Yd]at h;obtain⟨g,cap,rfl,_,_⟩:=h.form ja;refine⟨g,0,cap,rfl,?_⟩;rw[Vb,h.cellAt _ ja];simp}
 ·have c:C=[]:=by
   have:=congrArg List.length a;simp at this;exact this
  subst c
  grind
theorem Qk.len{W:Ca}{v:Ea}{b:Option Nat}(h:Qk W j v C b):∃a cap,v=.slice a C.length cap:=by
 rcases h with⟨h,_⟩|⟨f,off,x,c,d,_,e,_⟩
 {exact Xd h}
 simp_all
theorem Wp{W:Ca}{a e size n:Nat}{v:Ea}{c:List Ea}(h:W.ownsRow j e size v n c)(k:a<=j):W.ownsRow a e size v n c:=
 ⟨h.1,h.2.imp id λ⟨g,cap,b,d,i,f⟩=>⟨g,cap,b,d,ja,f⟩⟩
theorem Yy{W:Ca}{v:Ea}{l:Option Nat}(h:Qk W j v C l)(q:j<=W.heap.size)(D:C.length<=2000000)(b:Addr)(x:Int)(A:W.cell? b=some (pa x))(d:TypeId):
  ∃g cap c,(Builtin.append_ #[26,26] d #[v,.slice (some b) 1 1]).run prog W=.ok (.slice (Nb g) (C.length+1) cap) c/\
   c.ownsRow j 3 1 (.slice (Nb g) (C.length+1) cap) (C++[x]).length ((C++[x]).map iW)/\W.grownBy c l/\(l=some g\/g=W.heap.size)/\g<c.heap.size:=by
 obtain⟨k,e,f,b2,m⟩:=info_parts Hl
 have i:∀a u,[iW x][a]? =some u->W.cell? (b.add a)=some u:=by
  grind [Addr.add]
 rcases h with⟨h,rfl⟩|⟨o,off,y,rfl,rfl,w,z,rfl⟩
 ·obtain⟨g,cap,c,s,p,t,F,G⟩:=run_append_lies W 26 d j 3 k _ 1 8 Tryz.underlying26 e f b2 m rfl Ba v _ _ h b 1 1 _ rfl i (by intro u n;simp at n;subst n;rfl) Ba (by unfold maxLen;omega) ja q _ rfl
  grind
 ·obtain⟨H,c,s,p,t⟩:=run_append_arg_grows W 26 d 3 k _ 1 8 Tryz.underlying26 e f b2 m rfl Ba (Ja o off) 1 1 [iW y] rfl (by
   grind [Addr.add]) b 1 1 _ rfl i Ba Ba Ba
  obtain⟨g,cap,rfl,B,hlt⟩:=p.form Ba
  have r:g=W.heap.size:=by
   have E:=run_append_grow W 26 d 3 k _ Tryz.underlying26 e f (Ja o off) 1 1 [iW y] (by rw[b2];rfl) (by
    grind [Addr.add]) b 1 1 _ (by rw[b2];rfl) i Ba Ba (growslice_fits ja ja)
   grind
  grind [Wp]
structure BZ (w W : Ca) (nb : Nat) (i : Int) (cs ks : List Int) (vc vk : Ea) (oc ok : Option Nat) : Prop where
 Pd:qb W nb 104 #[pa i,vc,vk,.bool false]
 Sb:W.ownsRow w.heap.size 3 1 vc cs.length (cs.map iW)/\oc=vc.ownBlock
 kids:Qk W w.heap.size vk ks ok
 below:Da w.heap.size w W
 yO:∀g,ok=some g->oc≠some g
 ge:w.heap.size<=nb
structure N3 (w W Wc w1 : Ca) (nb : Nat) (i : Int) (cs ks : List Int) (vc vk : Ea) (ok : Option Nat) (s : Int) (g cap : Nat) : Prop where
 Pd:qb w1 nb 104 #[pa i,vc,vk,.bool false]
 Sb:w1.ownsRow w.heap.size 3 1 (.slice (Nb g) (cs.length+1) cap) (cs++[s]).length ((cs++[s]).map iW)
 kids:Qk w1 w.heap.size vk ks ok
 below:Da w.heap.size w w1
 yO:ok≠some g
 ge:w.heap.size<=nb
 keep:∀b,W.heap.size<=b->b<Wc.heap.size->w1.heap[b]? =Wc.heap[b]?
 size:Wc.heap.size<=w1.heap.size
 xL:W.heap.size<=Wc.heap.size
structure InE (w w2 : Ca) (nb : Nat) (i : Int) (cs ks : List Int) (vc vk : Ea) (s k : Int) (g cap g2 acR : Nat) : Prop where
 Pd:qb w2 nb 104 #[pa i,vc,vk,.bool false]
 Sb:w2.ownsRow w.heap.size 3 1 (.slice (Nb g) (cs.length+1) cap) (cs++[s]).length ((cs++[s]).map iW)
 kids:w2.ownsRow w.heap.size 3 1 (.slice (Nb g2) (ks.length+1) acR) (ks++[k]).length ((ks++[k]).map iW)
 below:Da w.heap.size w w2
 yO:g2≠g
 ge:w.heap.size<=nb
theorem FJ{W:Ca}{g:Nat}{b a:Array Ea}(h:qb W j 104 b)(c:W.heap[g]? =some (.cells a 3 (0,0))):j≠g:=by
 rintro rfl;have h:W.heap[j]? =_:=h
 grind
theorem BZ.acS{w W d:Ca}{x:List Int}{m z:Ea}{u v:Option Nat}(h:BZ w W j Z C x m z u v)(a:Da W.heap.size W d)(B:C.length<=2000000)(o:Addr)(s:Int)(c:d.cell? o=some (pa s))(y:TypeId):
  ∃g cap n,(Builtin.append_ #[26,26] y #[m,.slice (some o) 1 1]).run prog d=.ok (.slice (Nb g) (C.length+1) cap) n/\N3 w W d n j Z C x m z v s g cap:=by
 have r:=h.below.size;have f:Qk W _ m C u:=.inl h.Sb;have i:=f.below a r;obtain⟨g,cap,n,E,F,k,l,G⟩:=Yy i (by have:=a.size;omega) B o s c y;have hsz:=a.size;have hblk:qb d j 104 _:=(a.block j h.Pd.lt).trans h.Pd
 have t:∀b,u=some b->w.heap.size<=b/\b<W.heap.size:=λb e=>by{obtain⟨p,q,_⟩:=f.ob b e;omega}
 have D:∀b,v=some b->w.heap.size<=b/\b<W.heap.size:=λb e=>by{obtain⟨p,q,_⟩:=h.kids.ob b e;omega}
 refine⟨g,cap,n,E,⟨qb.grown hblk k λe=>?_,F,(h.kids.below a r).kept (λb hlt c=>k.block b hlt λe=>?_) ja,(h.below.trans (a.mono r)).grown k ja (λb e=>(t b e).1),λe=>?_,h.ge,λb p q=>k.block b q λe=>?_,k.size,hsz⟩⟩
 ·obtain⟨_,_,A,p⟩:=i.ob j e.symm
  grind [FJ]
 ·rcases c with c|c
  ·grind
  {exact h.yO b c.symm e.symm}
 ·rcases l with l|l
  {exact h.yO g e l}
  grind
 grind
theorem N3.acT{w W z n f:Ca}{l:List Int}{y t:Ea}{v:Option Nat}{s:Int}{g cap:Nat}(h:N3 w W z n j Z C l y t v s g cap)(c:Da n.heap.size n f)(E:l.length<=2000000)(p:Addr)(k:Int)(D:f.cell? p=some (pa k))(x:TypeId):
  ∃i a o,(Builtin.append_ #[26,26] x #[t,.slice (some p) 1 1]).run prog f=.ok (.slice (Nb i) (l.length+1) a) o/\InE w o j Z C l y t s k g cap i a:=by
 have u:=h.below.size;have d:=h.kids.below c u;obtain⟨i,a,o,F,G,r,m,J⟩:=Yy d (by have:=c.size;omega) E p k D x;have hsz:=c.size;have hblk:qb f j 104 _:=(c.block j h.Pd.lt).trans h.Pd;have I:=h.Sb.lt g rfl
 have q:∀b,v=some b->w.heap.size<=b/\b<n.heap.size:=λb e=>by{obtain⟨B,H,_⟩:=h.kids.ob b e;omega}
 refine⟨i,a,o,F,⟨qb.grown hblk r λe=>?_,(Wd h.Sb c).kept r (.inr λe=>?_),G,(h.below.trans (c.mono u)).grown r ja (λb e=>(q b e).1),?_,h.ge⟩⟩
 ·obtain⟨_,_,A,B⟩:=d.ob j e.symm
  grind [FJ]
 {exact h.yO e.symm}
 {rintro rfl;(rcases m with m|m);{exact h.yO m};{omega}}
theorem InE.fin{w f:Ca}{d:List Int}{u x:Ea}{s k:Int}{g cap b a:Nat}(h:InE w f j Z C d u x s k g cap b a):
  BZ w ((f.setCell (Ja j 1) (.slice (Nb g) (C.length+1) cap)).setCell (Ja j 2) (.slice (Nb b) (d.length+1) a)) j Z (C++[s]) (d++[k]) (.slice (Nb g) (C.length+1) cap) (.slice (Nb b) (d.length+1) a) (some g) (some b):=by
 have hne:∀ {v:Ea} {n:Nat} {l:List Ea},f.ownsRow w.heap.size 3 1 v n l->v.ownBlock=none\/v.ownBlock≠some j:=by{intro v n l t;(rcases t.2 with⟨rfl,_⟩|⟨m,c,q,rfl,_,i,_⟩);{exact .inl rfl};{right;intro e;(have:m=j:=by grind [Value.ownBlock]);exact FJ h.Pd i ja}}
 have o:=sg f j 1 (.slice (Nb g) (C.length+1) cap);have p:=sg (f.setCell (Ja j 1) (.slice (Nb g) (C.length+1) cap)) j 2 (.slice (Nb b) (d.length+1) a);refine⟨(h.Pd.set 1 _).set 2 _,⟨?_,rfl⟩,.inl ⟨?_,rfl⟩,((h.below.setCell h.ge _).setCell h.ge _),?_,h.ge⟩
 {exact(h.Sb.kept o (hne h.Sb)).kept p (hne h.Sb)}
 {exact(h.kids.kept o (hne h.kids)).kept p (hne h.kids)}
 {intro m e r;(cases e;cases r);exact h.yO rfl}
theorem Rp{P:Program}{ops:Array Oper}{w:Ca}{a:Act->Ca->Prop}{Q:Exit->Act->Ca->Prop}{E:Prop}(b:M.guard=none)(s x:Operand)(t:TypeId)
  (d:M.op=.call {callee:=.builtin .append,args:=#[s,x],argTypes:=#[t,t]}) (v u:Ea) (hs:K.eval s=v) (f:K.eval x=u) (r:Ea) (c:Ca)
  (e:(Builtin.append_ #[t,t] M.type #[v,u]).run P w=.ok r c) (h:a (K.put M.dst r) c):
  if Region.wanted M (yielded ops K.tmps)=true then Oper.wp P M K w a Q else E:=by
 have hw:Region.wanted M (yielded ops K.tmps)=true:=by simp[Region.wanted,b]
 rw[Ga hw];unfold Oper.wp execOp;simp only[d,resolve,invoke,builtin,Sem.run_bind,Sem.run_pure,Result.andThen_ok,Le,Eb,sd,hs,f,e];exact h
theorem BZ.step1{w W b:Ca}{k:List Int}{i m:Ea}{v l:Option Nat}(h:BZ w W j Z C k i m v l){ops:Array Oper}{a:Act->Ca->Prop}{Q:Exit->Act->Ca->Prop}{E:Prop}
  (e:M.guard=none) (s x:Operand) (t:M.op=.call {callee:=.builtin .append,args:=#[s,x],argTypes:=#[26,26]}) (hs:K.eval s=i) (d:Addr) (u:K.eval x=.slice (some d) 1 1) (p:Da W.heap.size W b) (r:C.length<=2000000) (f:Int) (q:b.cell? d=some (pa f))
  (n:∀g cap c,N3 w W b c j Z C k i m l f g cap->a (K.put M.dst (.slice (Nb g) (C.length+1) cap)) c):
  if Region.wanted M (yielded ops K.tmps)=true then Oper.wp prog M K b a Q else E:=by
 obtain⟨g,cap,c,y,o⟩:=h.acS p r d f q M.type;exact Rp e s x _ t _ _ hs u _ _ y (n g cap c o)
theorem N3.step2{w W q n f:Ca}{d:List Int}{p m:Ea}{B:Option Nat}{o:Int}{g cap:Nat}(h:N3 w W q n j Z C d p m B o g cap){ops:Array Oper}{a:Act->Ca->Prop}{Q:Exit->Act->Ca->Prop}{E:Prop}
  (l:M.guard=none) (s x:Operand) (z:M.op=.call {callee:=.builtin .append,args:=#[s,x],argTypes:=#[26,26]}) (hs:K.eval s=m) (i:Addr) (A:K.eval x=.slice (some i) 1 1) (u:Da n.heap.size n f) (y:d.length<=2000000) (k:Int) (v:f.cell? i=some (pa k))
  (t:∀c b e,InE w e j Z C d p m o k g cap c b->a (K.put M.dst (.slice (Nb c) (d.length+1) b)) e):
  if Region.wanted M (yielded ops K.tmps)=true then Oper.wp prog M K f a Q else E:=by
 obtain⟨c,b,e,D,r⟩:=h.acT u y i k v M.type;exact Rp l s x _ z _ _ hs A _ _ D (t c b e r)
theorem rC{W:Ca}{H:Nat}{S:List Nat}{v:Ea}(h:W.ownsRow j 3 1 v C.length (C.map iW))(r:∀b∈S,b<j)(_hH:H<=j):Wf W H S C v:=by
 rcases h.2 with⟨rfl,m⟩|⟨g,cap,f,rfl,o,d,k,l,p,q⟩
 ·grind [Wf.nil]
 {refine⟨⟨_,cap,rfl,k,l,λ_=>⟨g,0,rfl,zf d,λi s=>?_⟩⟩,λ_ a n c e=>?_⟩;{show W.cell? _=some _;rw[Vb,oh,h.cellAt _ ja];simp};{(cases e);exact⟨zf d,λt=>by grind,.inr ⟨_,d,rfl⟩⟩}}
open Go
section
variable {P : Program} {ops : Array Oper} {Q : Exit -> Act -> Ca -> Prop} {md : Region.Mode} {S : Ca -> Prop} {T : Nat}
def Ng(P:Program)(md:Region.Mode)(ops:Array Oper)(Q:Exit->Act->Ca->Prop)(S:Ca->Prop)(T:Nat):Nat->Array Bool->Act->Ca->Prop
 | 0,listed,a,w=>Region.ready md ops listed=[]/\Q .normal a w
 | fuel+1,listed,a,w=>
  (Region.ready md ops listed=[]->Q .normal a w)/\
  ∀i∈Region.ready md ops listed,wpOp P ops Q i (λc b=>((listed.setIfInBounds i true).getD T true=false->S b)/\Ng P md ops Q S T fuel (listed.setIfInBounds i true) c b) a w
theorem tC:∀(fuel:Nat) (listed:Array Bool) (a:Act) (w:Ca),Ng P md ops Q S T fuel listed a w->wpAny P md ops Q fuel listed a w
 | 0,_,_,_,h=>h
 | fuel+1,_,_,_,h=>⟨h.1,λi d=>wpOp_mono (λb e c=>tC fuel _ b e c.2) (h.2 i d)⟩
theorem lE{v:Ea}(E:ops[j]? =some M)(l:∀(d:Nat) (o:Oper) p b,ops[d]? =some o->o.op≠ .select p b)
  (R:∀c a w,Q (.panic c) (a.put M.dst v) w->Q (.panic c) a w) (F:j≠T) (U:∀o,ops[T]? =some o->∃e∈o.after,Region.binds md e=true/\e.on=j):
  ∀(fuel:Nat) (listed:Array Bool) (a:Act) (w:Ca),
   (∀d n,ops[d]? =some n->d≠j->listed.getD d true=false->(∀e∈n.after,Region.binds md e=true->e.on≠j)->M.apart ops n=true)->
   j∈Region.ready md ops listed->YieldsIf P ops S M v a->S w->listed.getD T true=false->
   Ng P md ops Q S T fuel (listed.setIfInBounds j true) (a.put M.dst v) w->Ng P md ops Q S T (fuel+1) listed a w:=by
 intro fuel
 induction fuel with
 | zero=>{intro listed a w _ K B q C H;refine⟨λh=>(by grind),λd A=>?_⟩;by_cases f:d=j;{subst f;exact B.wpOp E q ⟨λ_=>q,H⟩};{have:=ready_mono A f;rw[H.1]at this;cases this}}
 | succ fuel W=>
  intro listed a w g K B q C H;refine⟨λh=>(by grind),λd A=>?_⟩;by_cases f:d=j
  {subst f;exact B.wpOp E q ⟨λ_=>q,H⟩}
  ·have N:=H.2 d (ready_mono A f)
   obtain⟨t,n,m,J⟩:=mem_ready.1 A
   have u:∀e∈n.after,Region.binds md e=true->e.on≠j:=λe Z Y heq=>by
    grind [mem_ready]
   have s:d≠T:=by
    grind
   have O:=wpOp_putIf m (g d n m f t u) (λp b=>l j M p b E) (λp b=>l d n p b m) R B N
   have i:∀k y,ops[k]? =some y->k≠j->(listed.setIfInBounds d true).getD k true=false->
     (∀e∈y.after,Region.binds md e=true->e.on≠j)->M.apart ops y=true:=λk y V I x hno=>by
    refine g k y V I ?_ hno;by_cases G:d=k
    ·grind
    {rw[getD_set_ne true G]at x;exact x}
   have D:(listed.setIfInBounds d true).getD T true=false:=by rw[getD_set_ne true s];exact C
   have r:((listed.setIfInBounds j true).setIfInBounds d true).getD T true=false:=by rw[getD_set_ne true s,getD_set_ne true F];exact C
   refine wpOp_mono (λL X z=>⟨λ_=>z.2.1 r,W _ L X i (ready_mono K ja) z.1 (z.2.1 r) D ?_⟩) O;rw[ug _ _ f];exact z.2.2
theorem UA{v:Ea}(A:ops[j]? =some M)(l:∀(d:Nat) (o:Oper) q b,ops[d]? =some o->o.op≠ .select q b)
  (J:∀c a w,Q (.panic c) (a.put M.dst v) w->Q (.panic c) a w) (B:j≠T):
  ∀(fuel:Nat) (listed:Array Bool) (a:Act) (w:Ca),
   (∀d n,ops[d]? =some n->d≠j->listed.getD d true=false->(∀e∈n.after,Region.binds md e=true->e.on≠j)->M.apart ops n=true)->
   j∈Region.ready md ops listed->YieldsIf P ops (λ_=>True) M v a->(listed.getD T true=false->S w)->
   Ng P md ops Q S T fuel (listed.setIfInBounds j true) (a.put M.dst v) w->Ng P md ops Q S T (fuel+1) listed a w:=by
 intro fuel
 induction fuel with
 | zero=>{intro listed a w _ E y z H;refine⟨λh=>(by grind),λd x=>?_⟩;by_cases f:d=j;{subst f;exact y.wpOp A trivial ⟨λe=>z (by simp_all),H⟩};{have:=ready_mono x f;rw[H.1]at this;cases this}}
 | succ fuel O=>
  intro listed a w g E y z H;refine⟨λh=>(by grind),λd x=>?_⟩;by_cases f:d=j
  {subst f;exact y.wpOp A trivial ⟨λe=>z (by simp_all),H⟩}
  ·have G:=H.2 d (ready_mono x f)
   obtain⟨r,n,m,D⟩:=mem_ready.1 x
   have s:∀e∈n.after,Region.binds md e=true->e.on≠j:=λe U R heq=>by
    grind [mem_ready]
   have I:=wpOp_putIf m (g d n m f r s) (λq b=>l j M q b A) (λq b=>l d n q b m) J y G
   have i:∀k t,ops[k]? =some t->k≠j->(listed.setIfInBounds d true).getD k true=false->
     (∀e∈t.after,Region.binds md e=true->e.on≠j)->M.apart ops t=true:=λk t L C N hno=>by
    refine g k t L C ?_ hno;by_cases K:d=k
    ·grind
    simp_all
   have key:∀p,(((listed.setIfInBounds j true).setIfInBounds d true).getD T true=false->S p)->((listed.setIfInBounds d true).getD T true=false->S p):=λp h e=>h (by
    rw[ug _ _ ja,getD_set_ne true B];exact e)
   refine wpOp_mono (λF p u=>⟨key p u.2.1,O _ F p i (ready_mono E ja) u.1 (key p u.2.1) ?_⟩) I;rw[ug _ _ f];exact u.2.2
theorem mE{v:Ea}{fuel:Nat}{listed:Array Bool}{w:Ca}(a:ops[j]? =some M)
  (hs:Region.noSelect ops=true) (e:Region.free md ops listed j=true) (i:(Region.ready md ops listed).contains j=true) (f:(j !=T)=true)
  (b:∀c K w,Q (.panic c) (K.put M.dst v) w->Q (.panic c) K w) (g:YieldsIf P ops (λ_=>True) M v K) (d:listed.getD T true=false->S w)
  (h:Ng P md ops Q S T fuel (listed.setIfInBounds j true) (K.put M.dst v) w):Ng P md ops Q S T (fuel+1) listed K w:=
 UA a (Region.noSelect_spec hs) b (by grind) fuel listed K w (Region.free_spec a e) (by grind) g d h
def waitsFor(md:Region.Mode)(ops:Array Oper)(T i:Nat):Bool:=(i !=T)&& (match ops[T]? with|some o=>o.after.any (λe=>Region.binds md e&& e.on==i)|none=>true)
theorem sG{v:Ea}{fuel:Nat}{listed:Array Bool}{w:Ca}(a:ops[j]? =some M)
  (hs:Region.noSelect ops=true) (f:Region.free md ops listed j=true) (k:(Region.ready md ops listed).contains j=true) (hw:waitsFor md ops T j=true) (e:listed.getD T true=false)
  (b:∀c K w,Q (.panic c) (K.put M.dst v) w->Q (.panic c) K w) (g:YieldsIf P ops S M v K) (d:S w)
  (h:Ng P md ops Q S T fuel (listed.setIfInBounds j true) (K.put M.dst v) w):Ng P md ops Q S T (fuel+1) listed K w:=by
 unfold waitsFor at hw;refine lE a (Region.noSelect_spec hs) b (by grind) (λo i=>?_) fuel listed K w (Region.free_spec a f) (by grind) g d e h
 grind
def Pe(P:Program)(md:Region.Mode)(ops:Array Oper)(Q:Exit->Act->Ca->Prop)(S:Ca->Prop)(T:Nat)(fuel:Nat)(listed:Array Bool)(a:Act)(w:Ca)(d:List Nat):Prop:=
 ∀i∈d,wpOp P ops Q i (λc b=>((listed.setIfInBounds i true).getD T true=false->S b)/\Ng P md ops Q S T fuel (listed.setIfInBounds i true) c b) a w
theorem Pe.nil{listed:Array Bool}{w:Ca}:Pe P md ops Q S T j listed K w []:=λ_ h=>by cases h
theorem Pe.cons{fuel:Nat}{listed:Array Bool}{a:Act}{w:Ca}{i:Nat}{o:Oper}{e:List Nat}(k:ops[i]? =some o)
  (h:∀b:Act->Ca->Prop,Shut (∀a w,S w->(S w->Ng P md ops Q S T fuel (listed.setIfInBounds i true) a w)->b a w)->if Region.wanted o (yielded ops a.tmps)=true then Oper.wp P o a w b Q else b (a.put o.dst undef) w)
  (hs:Pe P md ops Q S T fuel listed a w e):Pe P md ops Q S T fuel listed a w (i::e):=λj c=>by
 rcases List.mem_cons.1 c with rfl|c
 {exact wpOp_step k (λb f=>h b (λa w d g=>f a w ⟨λ_=>d,g d⟩))}
 {exact hs j c}
theorem Pe.late{listed:Array Bool}{w:Ca}{i:Nat}{d:List Nat}(k:ops[i]? =some M)(l:(listed.setIfInBounds i true).getD T true=true)
  (h:∀b:Act->Ca->Prop,Shut (∀K w,Ng P md ops Q S T j (listed.setIfInBounds i true) K w->b K w)->if Region.wanted M (yielded ops K.tmps)=true then Oper.wp P M K w b Q else b (K.put M.dst undef) w)
  (hs:Pe P md ops Q S T j listed K w d):Pe P md ops Q S T j listed K w (i::d):=λa c=>by
 rcases List.mem_cons.1 c with rfl|c
 {exact wpOp_step k (λb f=>h b (λK w g=>f K w ⟨λe=>(by grind),g⟩))}
 {exact hs a c}
theorem il{rs:List Nat}{listed:Array Bool}{w:Ca}(a:Region.ready md ops listed=rs)(hne:rs≠[])
  (h:Pe P md ops Q S T j listed K w rs):Ng P md ops Q S T (j+1) listed K w:=⟨λb=>absurd (a▸b) hne,a▸h⟩
theorem sk{listed:Array Bool}{w:Ca}(a:Region.ready md ops listed=[])(h:Q .normal K w):
  ∀fuel,Ng P md ops Q S T fuel listed K w
 | 0=>⟨a,h⟩
 | _+1=>⟨λ_=>h,by rw[a];simp⟩
theorem Xp{w:Ca}(T:Nat)(S:Ca->Prop)(b:P.follows .mixedOrders=true)(a:S w.drew)
  (h:S w.drew->Ng P .any ops Q S T ops.size (Kf ops.size false) K w.drew):(Code.region j ops true).wp P Q K w:=
 wp_region_any b (tC _ _ _ _ (h a))
theorem xp(i:Nat){v:Ea}{l a:Array Bool}{w:Ca}(h:Ng P md ops Q S T j a L w)
  (m:ops[i]? =some M:=by simp only[Hc,Dc,pc];rfl) (p:∀w,True->(execOp K.eval M).run P w=.ok (.value v) w:=by intro _ _;go_simp;try with_reducible rfl) (g:K.put M.dst v=L:=by(try simp only[Act.put,sA,sB,sC]);rfl) (n:l.setIfInBounds i true=a:=by(try simp only[sA,sB,sC]);rfl) (hs:Region.noSelect ops=true:=by kernel_rfl) (k:Region.free md ops l i=true:=by kernel_rfl) (o:(Region.ready md ops l).contains i=true:=by kernel_rfl)
  (f:(i !=T)=true:=by rfl) (b:∀c K w,Q (.panic c) (K.put M.dst v) w->Q (.panic c) K w:=by exact λ_ _ _ h=>h) (hw:Region.wanted M (yielded ops K.tmps)=true:=by rfl) (d:l.getD T true=false->S w:=by first|exact λ_=>La|exact λe=>(by cases e)):Ng P md ops Q S T (j+1) l K w:=
 mE m hs k o f b (Or.inl ⟨hw,p⟩) d (g▸n▸h)
theorem xk(i:Nat)(v:Ea){l a:Array Bool}{w:Ca}(p:∀w,S w->(execOp K.eval M).run P w=.ok (.value v) w)(h:Ng P md ops Q S T j a L w)
  (m:ops[i]? =some M:=by simp only[Hc,Dc,pc];rfl) (g:K.put M.dst v=L:=by(try simp only[Act.put,sA,sB,sC]);rfl) (n:l.setIfInBounds i true=a:=by(try simp only[sA,sB,sC]);rfl) (hs:Region.noSelect ops=true:=by kernel_rfl) (k:Region.free md ops l i=true:=by kernel_rfl) (o:(Region.ready md ops l).contains i=true:=by kernel_rfl)
  (e:waitsFor md ops T i=true:=by kernel_rfl) (f:l.getD T true=false:=by kernel_rfl) (b:∀c K w,Q (.panic c) (K.put M.dst v) w->Q (.panic c) K w:=by exact λ_ _ _ h=>h) (hw:Region.wanted M (yielded ops K.tmps)=true:=by rfl) (d:S w:=by assumption):Ng P md ops Q S T (j+1) l K w:=
 sG m hs k o e f b (Or.inl ⟨hw,p⟩) d (g▸n▸h)
theorem xr(i:Nat){l b:Array Bool}{w:Ca}(h:∀a:Act->Ca->Prop,Shut (∀K w,S w->(S w->Ng P md ops Q S T j b K w)->a K w)->if Region.wanted M (yielded ops K.tmps)=true then Oper.wp P M K w a Q else a (K.put M.dst undef) w)
  (c:ops[i]? =some M:=by simp only[Hc,Dc,pc];rfl) (d:l.setIfInBounds i true=b:=by(try simp only[sA,sB,sC]);rfl) (e:Region.ready md ops l=[i]:=by kernel_rfl):Ng P md ops Q S T (j+1) l K w:=
 il e Aa (Pe.cons c (d▸h) Pe.nil)
theorem xl(i:Nat){l b:Array Bool}{w:Ca}(h:∀a:Act->Ca->Prop,Shut (∀K w,Ng P md ops Q S T j b K w->a K w)->if Region.wanted M (yielded ops K.tmps)=true then Oper.wp P M K w a Q else a (K.put M.dst undef) w)
  (d:ops[i]? =some M:=by simp only[Hc,Dc,pc];rfl) (c:(l.setIfInBounds i true).getD T true=true:=by kernel_rfl) (e:l.setIfInBounds i true=b:=by(try simp only[sA,sB,sC]);rfl) (f:Region.ready md ops l=[i]:=by kernel_rfl):Ng P md ops Q S T (j+1) l K w:=
 il f Aa (Pe.late d c (e▸h) Pe.nil)
end
theorem gz(s k:Int)(l:List (Int×Int)):zi k ((s,k)::l)=zi k l:=by rw[zi,Ga rfl]
theorem nE:∀(l:List (Int×Int)) (a:Int),(zi a l).1.length<=l.length
 | [],_=>wa _
 | (s,k)::l,a=>by{unfold zi;(split);{have:=nE l a;simp;omega};{have:=nE l k;simp;omega}}
set_option maxRecDepth 100000 in
set_option maxHeartbeats 4000000 in
theorem YB(H mb:Nat)(S:List Nat)(t:List Dn)(i:Nat)(c kids:List Int)(vs vk:Ea)(W:Ca)(hm:Zh W H mb S t)(hs:IntsIn W W.heap.size c vs)(hk:IntsIn W W.heap.size kids vk)(hS:∀b∈S,b<W.heap.size)
  (hl:t.length<=900000) (hne:kids≠[]) (hlen:c.length=kids.length) (lk:kids.length<=1000001) (hi:i<=1000000) (h1:∀x∈c,Wh x) (h2:∀x∈kids,Wh x) (h0:0<=kids.getD 0 0) (hT:Jh H W):
  Db 108 #[Ma mb,pa i,vs,vk] W λe W'=>e=.returned (pa (Ob t i c kids).2)/\Zh W' H mb S (Ob t i c kids).1/\Ly H mb W W':=by
 obtain⟨asl,cs0,rfl,s1,s2,_⟩:=Sa.shape hs
 obtain⟨kb,B,ck,rfl,pX,k1,k2⟩:∃kb B ck,vk=.slice (fe kb B) kids.length ck/\kb<W.heap.size/\kids.length<=ck/\ck<=maxLen:=by{obtain⟨ao,cap,rfl,a1,a2,a3⟩:=Sa.shape hk;obtain⟨b,off,rfl,A⟩:=a3 hne;exact⟨b,off,cap,rfl,A,a1,a2⟩}
 unfold maxLen at s2 k2;have X:mb<W.heap.size:=by obtain⟨_,⟨v,mo,xs,A,_⟩,_⟩:=hm;exact A.lt
 have hHs:H<=W.heap.size:=by obtain⟨DX,⟨v,mo,xs,A,_⟩,_⟩:=hm;have:=A.lt;omega
 obtain⟨m,J,rfl⟩:∃m J,kids=m::J:=by cases kids with|nil=>exact absurd rfl hne|cons a l=>exact⟨a,l,rfl⟩
 obtain⟨Z,L,rfl⟩:∃Z L,c=Z::L:=by cases c with|nil=>simp at hlen|cons a l=>exact⟨a,l,rfl⟩
 have kF:W.cell? (Ja kb B)=some (pa m):=by{obtain⟨b,off,e,_,hc⟩:=Sa.one hk 0 Aa;(cases e);simpa using hc}
 have O:Hid (BZ W _ _ i [] _ _ _ none none):=
  ⟨qb.new _ _ _,⟨Ec _ _ _ _,rfl⟩,.inr ⟨kb,B,m,rfl,rfl,pX,by
   rw[World.cell?_of_block (Bd W _ kb pX)];exact kF,rfl⟩,(za _ _).alloc (wa _) _,λg e=>(by cases e),wa _⟩
 obtain⟨F,hF⟩:∃F,F=((zi m ((Z::L).zip (m::J))).1,m::(zi m ((Z::L).zip (m::J))).2):=⟨_,rfl⟩
 have HF0:Hid (F=([]++(zi m (((Z::L).zip (m::J)).drop 0)).1,([]++[m])++(zi m (((Z::L).zip (m::J)).drop 0)).2)):=by{show _=_;rw[hF];rfl}
 have HD:Hid (Ob t i (Z::L) (m::J)=if F.2=[m]then(t,m.toNat)else me t ⟨i,F.1,F.2,false⟩):=by{show _=_;rw[hF,List.zip_cons_cons,gz];unfold Ob;simp}
 have HFK:Hid (∃l,F.2=m::l):=⟨_,by rw[hF]⟩
 have C7:Hid (F.1.length<=1000000/\F.2.length<=1000001):=by{have q:=nE (L.zip J) m;have q2:=Zm (L.zip J) m;rw[List.length_zip]at q;simp only[Qb]at lk;rw[hF,List.zip_cons_cons,gz];exact⟨by show(zi m _).1.length<=_;omega,by simp only[Qb];omega⟩}
 clear hF;have FO:=la hs;have Zu:=la hk;have H1:=la h1;have H2:=la h2;have HM:=la hm;have HT:=la hT;have HSS:=la hS;clear hs hk h1 h2 hm hT hS hne;generalize Ob t i _ _=R at*
 rw[lg]at h0;generalize u:m::J=kids at*
 generalize I:Z::L=c at*
 have oE:0<kids.length:=by rw[<-u];simp
 have HKE:=la u;have amM:1<=kids.length:=oE;clear u I;go_enter func108,ntmps108;go_wp2
 go_loopw [18] (λix wr=>∃(j:Nat) (T pre:List Int) (a:Int) (vc vk:Ea) (oc ok:Option Nat),j<=kids.length/\ix=pa j/\Hid (BZ W wr W.heap.size i T (pre++[a]) vc vk oc ok)/\T.length<=j/\pre.length<=j/\
  Hid (F=(T++(zi a ((c.zip kids).drop j)).1,(pre++[a])++(zi a ((c.zip kids).drop j)).2))/\Hid ((∀x∈T,Wh x)/\∀x∈pre++[a],Wh x)) (λix _=>kids.length-(intOf ix).toNat)
 case atStart=>exact⟨0,[],[],m,_,_,_,_,ja,rfl,O,Aa,Aa,HF0,Aa,by intro x hx;simp at hx;subst hx;exact H2.o x (by rw[<-HKE.o];simp)⟩
 case round=>
  obtain⟨j,T,pre,a,vc,vk,oc,ok,hj,rfl,k,vF,X2,hF,n⟩:=hrel;clear O HF0
  have amN:pre.length<=1000000:=by{have q:=C7.o.2;rw[hF.o]at q;simp only[Qa,Qb,nd]at q;omega}
  have amO:T.length<=1000000:=by{have q:=C7.o.1;rw[hF.o]at q;simp at q;omega}
  obtain⟨va,acV,hvc⟩:=Xd k.o.Sb.1;obtain⟨lb,lo,Y,hvk,G⟩:=k.o.kids.last;have n1:=k.o.Pd.cell 1;have n2:=k.o.Pd.cell 2;have amP:=k.o.Pd.lt;by_cases hlt:j<kids.length
  {obtain⟨b,off,e,Tn,hcc⟩:=Sa.one Zu.o j hlt;have U:=(k.o.below.cell Tn).trans hcc;(cases e);(have acW:j<c.length:=ja);obtain⟨sb,so,e,w,y⟩:=Sa.one FO.o j acW;have acX:=(k.o.below.cell w).trans y;(cases e);(have hz:j<(c.zip kids).length:=by rw[List.length_zip];omega);have E:(c.zip kids).drop j=(c[j],kids[j])::(c.zip kids).drop (j+1):=by{rw[Gc hz,List.getElem_zip]};have jF:=H1.o c[j] (Oa _);have ez:=H2.o kids[j] (Oa _);have C:=hF.o;rw[E,zi]at C;generalize c[j]=N at*;generalize kids[j]=z at*;subst hvc hvk;clear hcc hF hz E;by_cases M:z=a;{rw[Ga M]at C;have D:=la C;subst M;go_wp2;go_roundw;(case rel=>exact⟨_,T,pre,z,_,_,_,_,ja,by go_num,k,ja,ja,D,n⟩);case measure=>simp[intOf];omega};{rw[if_neg M]at C;(have hne:(z==a)=false:=by simpa using M);have D:=la C;clear C;go_upto_region 6 with(fail);refine Xp 14 (λw'=>w'.cell? _=some (.slice va _ acV)/\w'.cell? _=some (.slice _ _ Y)/\w'.cell? _=some _) Ha ⟨n1,n2,acX⟩ (λMb=>?_);refine xp 0 ?_;refine xp 2 ?_;refine xp 3 ?_;refine xp 8 ?_;refine xp 10 ?_;refine xk 1 ?v1 ?y1 ?_;(case y1=>(intro w9 Be;obtain⟨q1,q2,q3⟩:=Be;go_simp;try with_reducible rfl));refine xp 4 ?_;refine xk 9 ?v9 ?y9 ?_;(case y9=>(intro w9 Be;obtain⟨q1,q2,q3⟩:=Be;go_simp;try with_reducible rfl));refine xk 5 ?v5 ?y5 ?_;(case y5=>(intro w9 Be;obtain⟨q1,q2,q3⟩:=Be;go_simp;try with_reducible rfl));refine il (rs:=[6,11]) Ha Aa ?_;refine Pe.cons (o:=⟨some 39,.buildSlice 26 1 #[(0,.tmp 38)],26, "diagram.go:63",#[⟨5,.data⟩],none⟩) rfl (λK d=>?_) (Pe.cons (o:=⟨some 44,.buildSlice 26 1 #[(0,.tmp 43)],26, "diagram.go:63",#[⟨10,.data⟩],none⟩) rfl (λK d=>?_) Pe.nil);{go_simp;refine d.o _ _ ?_ (λMb=>?_);{(first|exact⟨La,La,La⟩|go_keep)};clear d K;(try simp only[Act.put,sA,sB,sC]);refine il (rs:=[7,11]) Ha Aa ?_;refine Pe.cons (o:=⟨some 40,.call {callee:=.builtin .append,args:=#[.tmp 34,.tmp 39],argTypes:=#[26,26]},26, "diagram.go:63",#[⟨1,.data⟩,⟨6,.data⟩],none⟩) rfl (λK d=>?_) (Pe.cons (o:=⟨some 44,.buildSlice 26 1 #[(0,.tmp 43)],26, "diagram.go:63",#[⟨10,.data⟩],none⟩) rfl (λK d=>?_) Pe.nil);{(refine k.o.step1 Ra _ _ Ra Ra _ Ra (by first|exact((za _ _).drew).alloc (wa _) _|exact(((za _ _).drew).alloc (wa _) _).alloc Aa _) ja N (by first|exact(qb.new _ _ _).cell 0|exact(qb.alloc (qb.new _ _ _) _).cell 0|(have q:=(qb.new (wr.alloc (.cells #[pa z] 3)) 3 #[pa N]).cell 0;simp only[Ia]at q;exact q)) ?_;intro g1 P w1 f;have m1:=f.Pd.cell 1;have m2:=f.Pd.cell 2;have m3:=(f.below.cell w).trans y;have dU:=f.Pd.lt);refine d.o _ _ ?_ (λMb=>?_);{(first|exact⟨La,La,La⟩|go_keep)};clear d K;(try simp only[Act.put,sA,sB,sC]);refine xp 13 ?_;refine xr 11 (λK d=>?_);go_simp;refine d.o _ _ ?_ (λMb=>?_);{(first|exact⟨La,La,La⟩|go_keep)};clear d K;(try simp only[Act.put,sA,sB,sC]);refine xr 12 (λK d=>?_);(refine f.step2 Ra _ _ Ra Ra _ Ra (by first|exact za _ _|exact(za _ _).alloc (wa _) _) (by rw[Qa,Yd];omega) z (by first|exact(qb.new _ _ _).cell 0|exact(World.cell?_of_block (f.keep _ (by simp<;>omega) (by simp<;>omega))).trans (by first|exact(qb.new _ _ _).cell 0|exact(qb.alloc (qb.new _ _ _) _).cell 0|(have q:=(qb.new (wr.alloc (.cells #[pa N] 3)) 3 #[pa z]).cell 0;simp only[Ia]at q;exact q))) ?_;intro g2 Q w2 r;have e1:=r.Pd.cell 1;have e2:=r.Pd.cell 2;have e3:=(r.below.cell w).trans y;have y1:=r.Pd.frozen 1;have y2:=r.Pd.frozen 2);refine d.o _ _ ?_ (λMb=>?_);{(first|exact⟨La,La,La⟩|go_keep)};clear d K;(try simp only[Act.put,sA,sB,sC]);refine xl 14 (λK d=>?_);go_simp;refine d.o _ _ ?_;clear d K;(try simp only[Act.put,sA,sB,sC]);refine xp 15 ?_;refine xl 16 (λK d=>?_);go_simp;refine d.o _ _ ?_;clear d K;(try simp only[Act.put,sA,sB,sC]);refine sk Ha ?_ _;(go_wp2;go_roundw;(case rel=>exact⟨_,_,_,⟨j+1,ja,by go_num,_,pre++[a],z,⟨_,_,_,_,la (by simpa using r.fin)⟩,by simp;omega,by simp;omega,(by show _=_;rw[D.o];simp),(by intro x hx;rcases List.mem_append.1 hx with hx|hx;exact n.o.1 x hx;rw[Qd]at hx;rw[hx];exact jF),(by intro x hx;rcases hx with hx|hx;exact n.o.2 x hx;rw[hx];exact ez)⟩,rfl,rfl,by go_num⟩);(case measure=>simp[intOf];omega))};{go_simp;refine d.o _ _ ?_ (λMb=>?_);{(first|exact⟨La,La,La⟩|go_keep)};clear d K;(try simp only[Act.put,sA,sB,sC]);refine xr 7 (λK d=>?_);(refine k.o.step1 Ra _ _ Ra Ra _ Ra (by first|exact((za _ _).drew).alloc (wa _) _|exact(((za _ _).drew).alloc (wa _) _).alloc Aa _) ja N (by first|exact(qb.new _ _ _).cell 0|exact(qb.alloc (qb.new _ _ _) _).cell 0|(have q:=(qb.new (wr.alloc (.cells #[pa z] 3)) 3 #[pa N]).cell 0;simp only[Ia]at q;exact q)) ?_;intro g1 P w1 f;have m1:=f.Pd.cell 1;have m2:=f.Pd.cell 2;have m3:=(f.below.cell w).trans y;have dU:=f.Pd.lt);refine d.o _ _ ?_ (λMb=>?_);{(first|exact⟨La,La,La⟩|go_keep)};clear d K;(try simp only[Act.put,sA,sB,sC]);refine xp 13 ?_;refine xr 12 (λK d=>?_);(refine f.step2 Ra _ _ Ra Ra _ Ra (by first|exact za _ _|exact(za _ _).alloc (wa _) _) (by rw[Qa,Yd];omega) z (by first|exact(qb.new _ _ _).cell 0|exact(World.cell?_of_block (f.keep _ (by simp<;>omega) (by simp<;>omega))).trans (by first|exact(qb.new _ _ _).cell 0|exact(qb.alloc (qb.new _ _ _) _).cell 0|(have q:=(qb.new (wr.alloc (.cells #[pa N] 3)) 3 #[pa z]).cell 0;simp only[Ia]at q;exact q))) ?_;intro g2 Q w2 r;have e1:=r.Pd.cell 1;have e2:=r.Pd.cell 2;have e3:=(r.below.cell w).trans y;have y1:=r.Pd.frozen 1;have y2:=r.Pd.frozen 2);refine d.o _ _ ?_ (λMb=>?_);{(first|exact⟨La,La,La⟩|go_keep)};clear d K;(try simp only[Act.put,sA,sB,sC]);refine xl 14 (λK d=>?_);go_simp;refine d.o _ _ ?_;clear d K;(try simp only[Act.put,sA,sB,sC]);refine xp 15 ?_;refine xl 16 (λK d=>?_);go_simp;refine d.o _ _ ?_;clear d K;(try simp only[Act.put,sA,sB,sC]);refine sk Ha ?_ _;(go_wp2;go_roundw;(case rel=>exact⟨_,_,_,⟨j+1,ja,by go_num,_,pre++[a],z,⟨_,_,_,_,la (by simpa using r.fin)⟩,by simp;omega,by simp;omega,(by show _=_;rw[D.o];simp),(by intro x hx;rcases List.mem_append.1 hx with hx|hx;exact n.o.1 x hx;rw[Qd]at hx;rw[hx];exact jF),(by intro x hx;rcases hx with hx|hx;exact n.o.2 x hx;rw[hx];exact ez)⟩,rfl,rfl,by go_num⟩);(case measure=>simp[intOf];omega))}};{go_simp;refine d.o _ _ ?_ (λMb=>?_);{(first|exact⟨La,La,La⟩|go_keep)};clear d K;(try simp only[Act.put,sA,sB,sC]);refine xr 6 (λK d=>?_);go_simp;refine d.o _ _ ?_ (λMb=>?_);{(first|exact⟨La,La,La⟩|go_keep)};clear d K;(try simp only[Act.put,sA,sB,sC]);refine xr 7 (λK d=>?_);(refine k.o.step1 Ra _ _ Ra Ra _ Ra (by first|exact((za _ _).drew).alloc (wa _) _|exact(((za _ _).drew).alloc (wa _) _).alloc Aa _) ja N (by first|exact(qb.new _ _ _).cell 0|exact(qb.alloc (qb.new _ _ _) _).cell 0|(have q:=(qb.new (wr.alloc (.cells #[pa z] 3)) 3 #[pa N]).cell 0;simp only[Ia]at q;exact q)) ?_;intro g1 P w1 f;have m1:=f.Pd.cell 1;have m2:=f.Pd.cell 2;have m3:=(f.below.cell w).trans y;have dU:=f.Pd.lt);refine d.o _ _ ?_ (λMb=>?_);{(first|exact⟨La,La,La⟩|go_keep)};clear d K;(try simp only[Act.put,sA,sB,sC]);refine xp 13 ?_;refine xr 12 (λK d=>?_);(refine f.step2 Ra _ _ Ra Ra _ Ra (by first|exact za _ _|exact(za _ _).alloc (wa _) _) (by rw[Qa,Yd];omega) z (by first|exact(qb.new _ _ _).cell 0|exact(World.cell?_of_block (f.keep _ (by simp<;>omega) (by simp<;>omega))).trans (by first|exact(qb.new _ _ _).cell 0|exact(qb.alloc (qb.new _ _ _) _).cell 0|(have q:=(qb.new (wr.alloc (.cells #[pa N] 3)) 3 #[pa z]).cell 0;simp only[Ia]at q;exact q))) ?_;intro g2 Q w2 r;have e1:=r.Pd.cell 1;have e2:=r.Pd.cell 2;have e3:=(r.below.cell w).trans y;have y1:=r.Pd.frozen 1;have y2:=r.Pd.frozen 2);refine d.o _ _ ?_ (λMb=>?_);{(first|exact⟨La,La,La⟩|go_keep)};clear d K;(try simp only[Act.put,sA,sB,sC]);refine xl 14 (λK d=>?_);go_simp;refine d.o _ _ ?_;clear d K;(try simp only[Act.put,sA,sB,sC]);refine xp 15 ?_;refine xl 16 (λK d=>?_);go_simp;refine d.o _ _ ?_;clear d K;(try simp only[Act.put,sA,sB,sC]);refine sk Ha ?_ _;(go_wp2;go_roundw;(case rel=>exact⟨_,_,_,⟨j+1,ja,by go_num,_,pre++[a],z,⟨_,_,_,_,la (by simpa using r.fin)⟩,by simp;omega,by simp;omega,(by show _=_;rw[D.o];simp),(by intro x hx;rcases List.mem_append.1 hx with hx|hx;exact n.o.1 x hx;rw[Qd]at hx;rw[hx];exact jF),(by intro x hx;rcases hx with hx|hx;exact n.o.2 x hx;rw[hx];exact ez)⟩,rfl,rfl,by go_num⟩);(case measure=>simp[intOf];omega))}}}
  ·have QD:j=kids.length:=by omega
   have hdz:(c.zip kids).drop j=[]:=Bb (by rw[List.length_zip];omega);have C:=hF.o;rw[hdz]at C;simp only[zi,ud]at C;rw[C]at HD;subst hvc hvk;have A:=k.o.below;have FQ:re H S W wr:=re.jc A (wa _);cases hp:pre with
   | nil=>{subst hp;have s:=HD.o;simp only[Tb]at s;have hka:m=a:=by{obtain⟨l,h⟩:=HFK.o;rw[C]at h;simp at h;exact h.1.symm};subst hka;rw[Ga rfl]at s;have LX:=la s;obtain⟨b,off,e,Tn,hcc⟩:=Sa.one Zu.o 0 ja;(have V:kids[0]=m:=by simp[<-HKE.o]);rw[V]at hcc;have U:=(A.cell Tn).trans hcc;(cases e);rw[Qg]at U;have HMW:=la (HM.o.below A (wa _));have O3:=la (Ly.jc (H:=H) A X);clear s C hF HD hcc A k n V G;go_wp2;go_ret;rw[LX.o];exact⟨vf ja,HMW.o,O3.o⟩}
   | cons p ps=>
    have s:=HD.o;rw[if_neg (by rw[hp];simp)]at s;have LX:=la s;have oQ:((pre.length:Int)+1==1)=false:=by rw[hp];simp;omega
    have hcf:=rC k.o.Sb.1 HSS.o hHs
    have hkf:Wf wr H S (pre++[a]) (.slice (fe lb lo) (pre.length+1) Y):=by{(rcases k.o.kids with⟨ho,_⟩|⟨_,_,x,_,e2,_⟩);{exact rC ho HSS.o hHs};{have:=congrArg List.length e2;rw[hp]at this;simp at this}}
    have HN:=la (Jp H mb S t ⟨i,T,_,false⟩ _ _ wr (HM.o.below A (wa _)) hcf hkf hl
     ⟨⟨by show(-9223372036854775808)<=(i:Int);omega,by show(i:Int)<=9223372036854775807;omega⟩,n.o.1,n.o.2,ja,by rw[Qa,Yd];omega⟩ (HT.o.step hHs FQ))
    have n0:=k.o.Pd.cell 0;have n3:=k.o.Pd.cell 3;have O3:=la (Ly.jc (H:=H) A X);clear s C hF HD A k n G hp hcf hkf FQ hdz;go_wp2_with (go_at_call 48;refine HN.o.mono ?_;rintro e w3 ⟨rfl,h3⟩;have H3:=la h3;clear h3);go_ret;rw[LX.o];exact⟨rfl,H3.o.1,O3.o.trans H3.o.2⟩
end Go.Proofs.YtdipkbobalnilaaGreatDoor
