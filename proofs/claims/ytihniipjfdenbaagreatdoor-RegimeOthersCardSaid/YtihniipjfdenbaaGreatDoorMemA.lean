/- Laws for the walks: a value of many cells stored into the block that was just laid; a lookup in a map of bools. No conditions. -/
import Derived.Test.YtihniipjfdenbaaGreatDoorProg
import Derived.WalkSpells
import Derived.WalkLawsBesides
import Derived.Lib.Hide
import Derived.Deep.MidRow
import Derived.BigQuiet
namespace Go.Proofs.YtihniipjfdenbaaGreatDoor
open Go.RowKit
theorem ret_int {k:IntKind}{a b:Int}(h:a=b):Ending.returned (.int k a)=.returned (.int k b):=by rw[h]
theorem ret_int2 {k k':IntKind}{a b c d:Int}(h:a=b)(h':c=d):Ending.returned (.tuple #[.int k a,.int k' c])=.returned (.tuple #[.int k b,.int k' d]):=by rw[h,h']
theorem ret_bool {a b:Bool}(h:a=b):Ending.returned (.bool a)=.returned (.bool b):=by rw[h]
def eqB (a b:ByteArray):Bool:=a.toList==b.toList
def W64 (n:Int):Prop:= -9223372036854775808<=n/\ n<=9223372036854775807
inductive Fo where
 | mk (op:Int) (name:ByteArray) (cmp n:Int) (kids:List Fo)
 deriving Inhabited
def Fo.op :Fo->Int | .mk op _ _ _ _=>op
def Fo.name :Fo->ByteArray | .mk _ nm _ _ _=>nm
def Fo.cmp :Fo->Int | .mk _ _ c _ _=>c
def Fo.n :Fo->Int | .mk _ _ _ n _=>n
def Fo.kids :Fo->List Fo | .mk _ _ _ _ ks=>ks
mutual
def Fo.In (w:World)(B:Nat):Fo->Value->Prop
 | .mk op nm c n ks,v=>∃(ao:Option Addr) (cap:Nat),v=.agg #[.int .i64 op,.string nm,.int .i64 c,.int .i64 n,.slice ao ks.length cap]/\
   W64 op/\ W64 c/\ W64 n/\ nm.size<=maxLen/\ ks.length<=cap/\ cap<=maxLen/\ (ks≠[]->∃b off,ao=some ⟨b,off,none⟩/\ b<B/\ Fo.InL w B ks b off)
def Fo.InL (w:World)(B:Nat):List Fo->Nat->Nat->Prop
 | [],_,_=>True
 | k::ks,b,off=>(∃v0 v1 v2 v3 v4,w.cell? ⟨b,off,none⟩=some v0/\ w.cell? ⟨b,off+1,none⟩=some v1/\ w.cell? ⟨b,off+2,none⟩=some v2/\
   w.cell? ⟨b,off+3,none⟩=some v3/\ w.cell? ⟨b,off+4,none⟩=some v4/\ Fo.In w B k (.agg #[v0,v1,v2,v3,v4]))/\ Fo.InL w B ks b (off+5)
end
mutual
theorem Fo.In.below {w w':World}{B:Nat}(hb:Below B w w'):∀(f:Fo) (v:Value),f.In w B v->f.In w' B v
 | .mk op nm c n ks,v=>by{rintro⟨ao,cap,hv,h1,h2,h3,h4,h5,h6,h7⟩;refine⟨ao,cap,hv,h1,h2,h3,h4,h5,h6,fun hne=>?_⟩;obtain⟨b,off,ha,hlt,hL⟩:=h7 hne;exact⟨b,off,ha,hlt,Fo.InL.below hb hlt ks off hL⟩}
theorem Fo.InL.below {w w':World}{B b:Nat}(hb:Below B w w')(hlt:b<B):∀(ks:List Fo) (off:Nat),Fo.InL w B ks b off->Fo.InL w' B ks b off
 | [],_=>fun _=>trivial
 | k::ks,off=>by{rintro⟨⟨v0,v1,v2,v3,v4,c0,c1,c2,c3,c4,hk⟩,hks⟩;refine⟨⟨v0,v1,v2,v3,v4,?_,?_,?_,?_,?_,Fo.In.below hb k _ hk⟩,Fo.InL.below hb hlt ks (off+5) hks⟩<;>(rw[hb.cell (by exact hlt)];assumption)}
end
theorem Fo.InL.get {w:World}{B b:Nat}:∀(ks:List Fo) (off i:Nat) (hi:i<ks.length),Fo.InL w B ks b off->
  ∃(ao:Option Addr) (cap:Nat),w.cell? ⟨b,off+i*5,none⟩=some (.int .i64 ks[i].op)/\ w.cell? ⟨b,off+i*5+1,none⟩=some (.string ks[i].name)/\
   w.cell? ⟨b,off+i*5+2,none⟩=some (.int .i64 ks[i].cmp)/\ w.cell? ⟨b,off+i*5+3,none⟩=some (.int .i64 ks[i].n)/\
   w.cell? ⟨b,off+i*5+4,none⟩=some (.slice ao ks[i].kids.length cap)/\
   ks[i].In w B (.agg #[.int .i64 ks[i].op,.string ks[i].name,.int .i64 ks[i].cmp,.int .i64 ks[i].n,.slice ao ks[i].kids.length cap])
 | k::ks,off,0,_=>by{rintro⟨⟨v0,v1,v2,v3,v4,c0,c1,c2,c3,c4,hk⟩,_⟩;obtain⟨op,nm,c,n,kk⟩:=k;have hk':=hk;obtain⟨ao,cap,hv,_⟩:=hk;simp only[Value.agg.injEq,Array.mk.injEq,List.cons.injEq,and_true]at hv;obtain⟨rfl,rfl,rfl,rfl,rfl⟩:=hv;exact⟨ao,cap,by simpa[Fo.op,Fo.name,Fo.cmp,Fo.n,Fo.kids]using c0,by simpa[Fo.op,Fo.name,Fo.cmp,Fo.n,Fo.kids]using c1,by simpa[Fo.op,Fo.name,Fo.cmp,Fo.n,Fo.kids]using c2,by simpa[Fo.op,Fo.name,Fo.cmp,Fo.n,Fo.kids]using c3,by simpa[Fo.op,Fo.name,Fo.cmp,Fo.n,Fo.kids]using c4,by simpa[Fo.op,Fo.name,Fo.cmp,Fo.n,Fo.kids]using hk'⟩}
 | k::ks,off,i+1,hi=>by{rintro⟨_,hks⟩;have:=Fo.InL.get ks (off+5) i (by simpa using hi) hks;simpa[Nat.add_mul,Nat.add_assoc,Nat.add_comm,Nat.add_left_comm]using this}
theorem Fo.In.shape {w:World}{B:Nat}{f:Fo}{v:Value}(h:f.In w B v):
  ∃(ao:Option Addr) (cap:Nat),v=.agg #[.int .i64 f.op,.string f.name,.int .i64 f.cmp,.int .i64 f.n,.slice ao f.kids.length cap]:=by
 obtain⟨op,nm,c,n,ks⟩:=f;obtain⟨ao,cap,rfl,_⟩:=h;exact⟨ao,cap,rfl⟩
mutual
def Fo.size :Fo->Nat
 | .mk _ _ _ _ ks=>Fo.sizeL ks+1
def Fo.sizeL :List Fo->Nat
 | []=>0
 | k::ks=>k.size+Fo.sizeL ks
end
theorem Fo.size_pos (f:Fo):1<=f.size:=by cases f;simp[Fo.size]
theorem Fo.size_get :∀(ks:List Fo) (i:Nat) (h:i<ks.length),ks[i].size<=Fo.sizeL ks
 | k::ks,0,_=>by simp[Fo.sizeL]
 | k::ks,i+1,h=>by{have:=Fo.size_get ks i (by simpa using h);simp[Fo.sizeL];omega}
mutual
def countF :Fo->Int->Int
 | .mk _ _ _ _ ks,most=>countL ks most 1
def countL :List Fo->Int->Int->Int
 | [],_,n=>n
 | k::ks,most,n=>if n<=most then countL ks most (n+countF k (most-n))else n
end
abbrev CellRel (α:Type):=World->Nat->α->Nat->Nat->Prop
def CellRel.Kept {α:Type}(R:CellRel α):Prop:=∀(w w':World) (B:Nat) (x:α) (b o:Nat),Below B w w'->b<B->R w B x b o->R w' B x b o
def SlIn {α:Type}(R:CellRel α)(k:Nat)(w:World)(B:Nat)(l:List α)(v:Value):Prop:=
 ∃(ao:Option Addr) (cap:Nat),v=.slice ao l.length cap/\ l.length<=cap/\ cap<=maxLen/\
  (l≠[]->∃b off,ao=some ⟨b,off,none⟩/\ b<B/\ ∀(i:Nat) (h:i<l.length),R w B l[i] b (off+i*k))
theorem SlIn.below {α:Type}{R:CellRel α}(hR:R.Kept){k:Nat}{w w':World}{B:Nat}(hb:Below B w w'){l:List α}{v:Value}(h:SlIn R k w B l v):SlIn R k w' B l v:=by
 obtain⟨ao,cap,h1,h2,h3,h4⟩:=h;refine⟨ao,cap,h1,h2,h3,fun hne=>?_⟩;obtain⟨b,off,ha,hlt,hc⟩:=h4 hne;exact⟨b,off,ha,hlt,fun i hi=>hR _ _ _ _ _ _ hb hlt (hc i hi)⟩
def CellRel.Mono {α:Type}(R:CellRel α):Prop:=∀(w:World) (B B':Nat) (x:α) (b o:Nat),B<=B'->R w B x b o->R w B' x b o
theorem SlIn.mono {α:Type}{R:CellRel α}(hR:R.Mono){k:Nat}{w:World}{B B':Nat}(hb:B<=B'){l:List α}{v:Value}(h:SlIn R k w B l v):SlIn R k w B' l v:=by
 obtain⟨ao,cap,h1,h2,h3,h4⟩:=h;refine⟨ao,cap,h1,h2,h3,fun hne=>?_⟩;obtain⟨b,off,ha,hlt,hc⟩:=h4 hne;exact⟨b,off,ha,by omega,fun i hi=>hR _ _ _ _ _ _ hb (hc i hi)⟩
def OneR {α:Type}(enc:α->Value):CellRel α:=fun w _ x b o=>w.cell? ⟨b,o,none⟩=some (enc x)
theorem OneR.kept {α:Type}(enc:α->Value):(OneR enc).Kept:=fun _ _ _ _ b o hb hlt h=>by
 show _=_;rw[hb.cell (p:=⟨b,o,none⟩) hlt];exact h
theorem OneR.mono {α:Type}(enc:α->Value):(OneR enc).Mono:=fun _ _ _ _ _ _ _ h=>h
abbrev StrsIn (w:World)(B:Nat)(l:List ByteArray)(v:Value):Prop:=SlIn (OneR Value.string) 1 w B l v
abbrev IntsIn (w:World)(B:Nat)(l:List Int)(v:Value):Prop:=SlIn (OneR (Value.int .i64)) 1 w B l v
theorem StrsIn.below {w w':World}{B:Nat}(hb:Below B w w'){l:List ByteArray}{v:Value}(h:StrsIn w B l v):StrsIn w' B l v:=SlIn.below (OneR.kept _) hb h
theorem IntsIn.below {w w':World}{B:Nat}(hb:Below B w w'){l:List Int}{v:Value}(h:IntsIn w B l v):IntsIn w' B l v:=SlIn.below (OneR.kept _) hb h
def SlR {α:Type}(R:CellRel α)(k:Nat):CellRel (List α):=fun w B l b o=>∃v,w.cell? ⟨b,o,none⟩=some v/\ SlIn R k w B l v
theorem SlR.kept {α:Type}{R:CellRel α}(hR:R.Kept)(k:Nat):(SlR R k).Kept:=by
 rintro w w' B x b o hb hlt ⟨v,hc,hv⟩;exact⟨v,by rw[hb.cell (p:=⟨b,o,none⟩) hlt];exact hc,hv.below hR hb⟩
theorem SlR.mono {α:Type}{R:CellRel α}(hR:R.Mono)(k:Nat):(SlR R k).Mono:=by
 rintro w B B' x b o hb ⟨v,hc,hv⟩;exact⟨v,hc,hv.mono hR hb⟩
structure Fa where
 name:ByteArray
 kind:Int
 lo:Int
 hi:Int
 deriving Inhabited
def FaR :CellRel Fa:=fun w _ x b o=>w.cell? ⟨b,o,none⟩=some (.string x.name)/\ w.cell? ⟨b,o+1,none⟩=some (.int .i64 x.kind)/\
 w.cell? ⟨b,o+2,none⟩=some (.int .i64 x.lo)/\ w.cell? ⟨b,o+3,none⟩=some (.int .i64 x.hi)/\ x.name.size<=maxLen/\ W64 x.kind/\ W64 x.lo/\ W64 x.hi
theorem FaR.kept :FaR.Kept:=by
 rintro w w' B x b o hb hlt ⟨h0,h1,h2,h3,r⟩;refine⟨?_,?_,?_,?_,r⟩<;>(rw[hb.cell (by exact hlt)];assumption)
theorem FaR.mono :FaR.Mono:=fun _ _ _ _ _ _ _ h=>h
def DomIn (w:World)(B:Nat)(d:List Fa)(v:Value):Prop:=∃u,v=.agg #[u]/\ SlIn FaR 4 w B d u
structure St where
 op:Int
 name:ByteArray
 day:Int
 ao:Option Addr
 n:Nat
 cap:Nat
structure Pv where
 id:ByteArray
 rank:Int
 kind:Int
 name:ByteArray
 value:Int
 cond:Fo
 except:List ByteArray
 s1:St
 s2:St
 s3:St
def pvC (x:Pv)(ak:Option Addr)(ck:Nat)(ae:Option Addr)(ce:Nat):List Value:=
  [.string x.id,.int .i64 x.rank,.int .i64 x.kind,.string x.name,.int .i64 x.value,
   .int .i64 x.cond.op,.string x.cond.name,.int .i64 x.cond.cmp,.int .i64 x.cond.n,.slice ak x.cond.kids.length ck,.slice ae x.except.length ce,
   .int .i64 x.s1.op,.string x.s1.name,.int .i64 x.s1.day,.slice x.s1.ao x.s1.n x.s1.cap,
   .int .i64 x.s2.op,.string x.s2.name,.int .i64 x.s2.day,.slice x.s2.ao x.s2.n x.s2.cap,
   .int .i64 x.s3.op,.string x.s3.name,.int .i64 x.s3.day,.slice x.s3.ao x.s3.n x.s3.cap]
def PvR :CellRel Pv:=fun w B x b o=>∃(ak:Option Addr) (ck:Nat) (ae:Option Addr) (ce:Nat),w.rangeAt b o (pvC x ak ck ae ce)/\
 x.cond.In w B (.agg #[.int .i64 x.cond.op,.string x.cond.name,.int .i64 x.cond.cmp,.int .i64 x.cond.n,.slice ak x.cond.kids.length ck])/\ StrsIn w B x.except (.slice ae x.except.length ce)/\
 x.id.size<=maxLen/\ x.name.size<=maxLen
theorem PvR.kept :PvR.Kept:=by
 rintro w w' B x b o hb hlt ⟨ak,ck,ae,ce,hr,hf,he,r⟩;exact⟨ak,ck,ae,ce,fun j v hv=>by rw[hb.cell (p:=⟨b,o+j,none⟩) hlt];exact hr j v hv,hf.below hb,he.below hb,r⟩
def LawIn (w:World)(B:Nat)(d:List Fa)(ps:List Pv)(v:Value):Prop:=
 ∃u1 u2 asn ns cs,v=.agg #[u1,u2,.slice asn ns cs]/\ SlIn FaR 4 w B d u1/\ SlIn PvR 23 w B ps u2
theorem LawIn.below {w w':World}{B:Nat}(hb:Below B w w'){d:List Fa}{ps:List Pv}{v:Value}(h:LawIn w B d ps v):LawIn w' B d ps v:=by
 obtain⟨u1,u2,asn,ns,cs,rfl,h1,h2⟩:=h;exact⟨u1,u2,asn,ns,cs,rfl,h1.below FaR.kept hb,h2.below PvR.kept hb⟩
theorem DomIn.below {w w':World}{B:Nat}(hb:Below B w w'){d:List Fa}{v:Value}(h:DomIn w B d v):DomIn w' B d v:=by
 obtain⟨u,rfl,h1⟩:=h;exact⟨u,rfl,h1.below FaR.kept hb⟩
theorem SlIn.shape {α:Type}{R:CellRel α}{k:Nat}{w:World}{B:Nat}{l:List α}{v:Value}(h:SlIn R k w B l v):
  ∃(ao:Option Addr) (cap:Nat),v=.slice ao l.length cap/\ l.length<=cap/\ cap<=maxLen/\ (l≠[]->∃b off,ao=some ⟨b,off,none⟩/\ b<B):=by
 obtain⟨ao,cap,h1,h2,h3,h4⟩:=h;exact⟨ao,cap,h1,h2,h3,fun hne=>let⟨b,off,ha,hlt,_⟩:=h4 hne;⟨b,off,ha,hlt⟩⟩
theorem SlIn.get {α:Type}{R:CellRel α}{k:Nat}{w:World}{B:Nat}{l:List α}{a:Addr}{n cap:Nat}(h:SlIn R k w B l (.slice (some a) n cap))(i:Nat)(hi:i<l.length):
  a.spot=none/\ a.block<B/\ R w B l[i] a.block (a.off+i*k):=by
 obtain⟨ao,cap',h1,h2,h3,h4⟩:=h;obtain⟨b,off,ha,hlt,hc⟩:=h4 (by intro e;simp[e]at hi);simp only[Value.slice.injEq]at h1;obtain⟨rfl,rfl,rfl⟩:=h1;cases ha
 exact⟨rfl,hlt,hc i hi⟩
theorem SlIn.one {α:Type}{enc:α->Value}{w:World}{B:Nat}{l:List α}{ao:Option Addr}{n cap:Nat}(h:SlIn (OneR enc) 1 w B l (.slice ao n cap))(k:Nat)(hk:k<l.length):
  ∃b off,ao=some ⟨b,off,none⟩/\ b<B/\ w.cell? ⟨b,off+k,none⟩=some (enc l[k]):=by
 obtain⟨_,_,h1,_,_,h4⟩:=h;obtain⟨b,off,ha,hlt',hc⟩:=h4 (by intro e;simp[e]at hk);simp only[Value.slice.injEq]at h1;exact⟨b,off,by rw[h1.1,ha],hlt',by simpa[OneR]using hc k hk⟩
theorem SlIn.row {α:Type}{R:CellRel α}{j:Nat}{w:World}{B:Nat}{l:List (List α)}{ao:Option Addr}{n cap:Nat}(h:SlIn (SlR R j) 1 w B l (.slice ao n cap))(k:Nat)(hk:k<l.length):
  ∃b off ao' cap',ao=some ⟨b,off,none⟩/\ b<B/\ w.cell? ⟨b,off+k,none⟩=some (.slice ao' l[k].length cap')/\ SlIn R j w B l[k] (.slice ao' l[k].length cap'):=by
 obtain⟨_,_,h1,_,_,h4⟩:=h;obtain⟨b,off,ha,hlt',hc⟩:=h4 (by intro e;simp[e]at hk);simp only[Value.slice.injEq]at h1;obtain⟨v,hv,hs⟩:=hc k hk;obtain⟨ao',cap',rfl,_⟩:=SlIn.shape hs;exact⟨b,off,ao',cap',by rw[h1.1,ha],hlt',by simpa using hv,hs⟩
theorem World.drewN_below (B:Nat)(w:World)(n:Nat):Below B w (w.drewN n):=⟨rfl,rfl,rfl,Nat.le_refl _,fun _ _=>rfl⟩
theorem SlIn.at {α:Type}{R:CellRel α}{j:Nat}{w:World}{B:Nat}{l:List α}{ao:Option Addr}{n cap:Nat}(h:SlIn R j w B l (.slice ao n cap))(k:Nat)(hk:k<l.length):
  ∃b off,ao=some ⟨b,off,none⟩/\ b<B/\ R w B l[k] b (off+k*j):=by
 obtain⟨_,_,h1,_,_,h4⟩:=h;obtain⟨b,off,ha,hlt',hc⟩:=h4 (by intro e;simp[e]at hk);simp only[Value.slice.injEq]at h1;exact⟨b,off,by rw[h1.1,ha],hlt',hc k hk⟩
theorem wpList_store_new {P:Program}{ops:Array Oper}{rest:List Oper}{o:Oper}{a:Act}{Q:Exit->Act->World->Prop}{w:World}{zs:Array Value}{ty:TypeId}
  (hg:o.guard=none) (x y:Operand) (ho:o.op=.store ty x y) (cells:List Value) (hx:a.eval x=.pointer (some ⟨w.heap.size,0,none⟩)) (hy:a.eval y=.agg cells.toArray)
  (hs:zs.size=cells.length) (hi:(P.info? ty).map (·.size)=some cells.length) (h1:cells.toArray.all (·.oneCell')=true)
  (h:∀W',Below w.heap.size w W'->W'.heap.size=w.heap.size+1->W'.rangeAt w.heap.size 0 cells->(∀j,W'.frozen? ⟨w.heap.size,j,none⟩=false)->wpList P ops Q rest (a.put o.dst undef) W'):
  wpList P ops Q (o::rest) a (w.alloc (.cells zs ty)):=by
 have ht:(w.alloc (.cells zs ty)).there w.heap.size 0 cells.length:=fun j hj=>by{refine⟨?_,World.frozen?_alloc_new w zs ty _⟩;rw[World.cell?_alloc_new];rw[Array.getElem?_eq_getElem (by omega)];rfl}
 refine wpList_store_mid hg ty x y ho w.heap.size 0 cells.toArray hx hy (by simpa using ht) (by simpa using hi) h1 ?_;refine h _ ?_ ?_ ?_ ?_
 ·have:∀(vs:List Value) (o:Nat) (W:World),Below w.heap.size w W->Below w.heap.size w (W.setCells w.heap.size o vs):=by
   intro vs
   induction vs with| nil=>intro _ _ h;exact h| cons v vs ih=>intro o W h;exact ih _ _ (h.setCell (Nat.le_refl _) _)
  exact this _ _ _ ((Below.refl _ _).alloc (Nat.le_refl _) _)
 ·have:∀(vs:List Value) (o:Nat) (W:World),(W.setCells w.heap.size o vs).heap.size=W.heap.size:=by
   intro vs
   induction vs with| nil=>intro _ _;rfl| cons v vs ih=>intro o W;rw[World.setCells,ih];simp[World.setCell]
  rw[this];simp
 {simpa using World.rangeAt_setCells_same (w.alloc (.cells zs ty)) w.heap.size 0 cells ht}
 {intro j;rw[World.frozen?_setCells];exact World.frozen?_alloc_new w zs ty _}
end Go.Proofs.YtihniipjfdenbaaGreatDoor
