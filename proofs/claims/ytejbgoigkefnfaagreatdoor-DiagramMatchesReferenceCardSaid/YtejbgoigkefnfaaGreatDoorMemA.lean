/- Laws for the walks: a value of many cells stored into the block that was just laid; a lookup in a map of bools. No conditions. -/
import Derived.Test.YtejbgoigkefnfaaGreatDoorAl
import Derived.Test.YtejbgoigkefnfaaGreatDoorProg
import Derived.WalkSpells
import Derived.WalkLawsBesides
import Derived.Lib.Hide
import Derived.Deep.MidRow
import Derived.BigQuiet
namespace Go.Proofs.YtejbgoigkefnfaaGreatDoor
open Go.RowKit
theorem ke {k:IntKind}{a b:Int}(h:a=b):Ending.returned (.int k a)=.returned (.int k b):=by rw[h]
theorem jG {k k':IntKind}{a b c d:Int}(h:a=b)(h':c=d):Ending.returned (.tuple #[.int k a,.int k' c])=.returned (.tuple #[.int k b,.int k' d]):=by rw[h,h']
theorem Oa {a b:Bool}(h:a=b):Ending.returned (.bool a)=.returned (.bool b):=by rw[h]
def Ni (a b:ByteArray):Bool:=a.toList==b.toList
def yj (n:Int):Prop:= -9223372036854775808<=n/\ n<=9223372036854775807
inductive Fo where
 | mk (op:Int) (name:ByteArray) (cmp n:Int) (kids:List Fo)
 deriving Inhabited
def Fo.op :Fo->Int | .mk op _ _ _ _=>op
def Fo.name :Fo->ByteArray | .mk _ nm _ _ _=>nm
def Fo.cmp :Fo->Int | .mk _ _ c _ _=>c
def Fo.n :Fo->Int | .mk _ _ _ n _=>n
def Fo.kids :Fo->List Fo | .mk _ _ _ _ ks=>ks
mutual
def Fo.In (w:World)(B:Nat):Fo->Value->Prop
 | .mk op nm c n ks,v=>∃(ao:Option Addr) (cap:Nat),v=.agg #[.int .i64 op,.string nm,.int .i64 c,.int .i64 n,.slice ao ks.length cap]/\
   yj op/\ yj c/\ yj n/\ nm.size<=maxLen/\ ks.length<=cap/\ cap<=maxLen/\ (ks≠[]->∃b off,ao=some ⟨b,off,none⟩/\ b<B/\ Fo.Qk w B ks b off)
def Fo.Qk (w:World)(B:Nat):List Fo->Nat->Nat->Prop
 | [],_,_=>True
 | k::ks,b,off=>(∃v0 v1 v2 v3 v4,w.cell? ⟨b,off,none⟩=some v0/\ w.cell? ⟨b,off+1,none⟩=some v1/\ w.cell? ⟨b,off+2,none⟩=some v2/\
   w.cell? ⟨b,off+3,none⟩=some v3/\ w.cell? ⟨b,off+4,none⟩=some v4/\ Fo.In w B k (.agg #[v0,v1,v2,v3,v4]))/\ Fo.Qk w B ks b (off+5)
end
mutual
theorem Fo.In.below {w w':World}{B:Nat}(hb:Below B w w'):∀(f:Fo) (v:Value),f.In w B v->f.In w' B v
 | .mk op nm c n ks,v=>by{rintro⟨ao,cap,hv,h1,h2,h3,h4,h5,h6,h7⟩;refine⟨ao,cap,hv,h1,h2,h3,h4,h5,h6,fun hne=>?_⟩;obtain⟨b,off,ha,hlt,hL⟩:=h7 hne;exact⟨b,off,ha,hlt,Fo.Qk.below hb hlt ks off hL⟩}
theorem Fo.Qk.below {w w':World}{B b:Nat}(hb:Below B w w')(hlt:b<B):∀(ks:List Fo) (off:Nat),Fo.Qk w B ks b off->Fo.Qk w' B ks b off
 | [],_=>fun _=>trivial
 | k::ks,off=>by{rintro⟨⟨v0,v1,v2,v3,v4,c0,c1,c2,c3,c4,hk⟩,Qv⟩;refine⟨⟨v0,v1,v2,v3,v4,?_,?_,?_,?_,?_,Fo.In.below hb k _ hk⟩,Fo.Qk.below hb hlt ks (off+5) Qv⟩<;>(rw[hb.cell (by exact hlt)];assumption)}
end
theorem Fo.Qk.get {w:World}{B b:Nat}:∀(ks:List Fo) (off i:Nat) (hi:i<ks.length),Fo.Qk w B ks b off->
  ∃(ao:Option Addr) (cap:Nat),w.cell? ⟨b,off+i*5,none⟩=some (.int .i64 ks[i].op)/\ w.cell? ⟨b,off+i*5+1,none⟩=some (.string ks[i].name)/\
   w.cell? ⟨b,off+i*5+2,none⟩=some (.int .i64 ks[i].cmp)/\ w.cell? ⟨b,off+i*5+3,none⟩=some (.int .i64 ks[i].n)/\
   w.cell? ⟨b,off+i*5+4,none⟩=some (.slice ao ks[i].kids.length cap)/\
   ks[i].In w B (.agg #[.int .i64 ks[i].op,.string ks[i].name,.int .i64 ks[i].cmp,.int .i64 ks[i].n,.slice ao ks[i].kids.length cap])
 | k::ks,off,0,_=>by{rintro⟨⟨v0,v1,v2,v3,v4,c0,c1,c2,c3,c4,hk⟩,_⟩;obtain⟨op,nm,c,n,kk⟩:=k;have hk':=hk;obtain⟨ao,cap,hv,_⟩:=hk;simp only[Value.agg.injEq,Array.mk.injEq,List.cons.injEq,and_true]at hv;obtain⟨rfl,rfl,rfl,rfl,rfl⟩:=hv;exact⟨ao,cap,by simpa[Fo.op,Fo.name,Fo.cmp,Fo.n,Fo.kids]using c0,by simpa[Fo.op,Fo.name,Fo.cmp,Fo.n,Fo.kids]using c1,by simpa[Fo.op,Fo.name,Fo.cmp,Fo.n,Fo.kids]using c2,by simpa[Fo.op,Fo.name,Fo.cmp,Fo.n,Fo.kids]using c3,by simpa[Fo.op,Fo.name,Fo.cmp,Fo.n,Fo.kids]using c4,by simpa[Fo.op,Fo.name,Fo.cmp,Fo.n,Fo.kids]using hk'⟩}
 | k::ks,off,i+1,hi=>by{rintro⟨_,Qv⟩;have:=Fo.Qk.get ks (off+5) i (by simpa using hi) Qv;simpa[Nat.add_mul,Nat.add_assoc,Nat.add_comm,Nat.add_left_comm]using this}
theorem Fo.In.shape {w:World}{B:Nat}{f:Fo}{v:Value}(h:f.In w B v):
  ∃(ao:Option Addr) (cap:Nat),v=.agg #[.int .i64 f.op,.string f.name,.int .i64 f.cmp,.int .i64 f.n,.slice ao f.kids.length cap]:=by
 obtain⟨op,nm,c,n,ks⟩:=f;obtain⟨ao,cap,rfl,_⟩:=h;exact⟨ao,cap,rfl⟩
mutual
def Fo.size :Fo->Nat
 | .mk _ _ _ _ ks=>Fo.Tc ks+1
def Fo.Tc :List Fo->Nat
 | []=>0
 | k::ks=>k.size+Fo.Tc ks
end
theorem Fo.size_pos (f:Fo):1<=f.size:=by cases f;simp[Fo.size]
theorem Fo.fg :∀(ks:List Fo) (i:Nat) (h:i<ks.length),ks[i].size<=Fo.Tc ks
 | k::ks,0,_=>by simp[Fo.Tc]
 | k::ks,i+1,h=>by{have:=Fo.fg ks i (by simpa using h);simp[Fo.Tc];omega}
mutual
def Si :Fo->Int->Int
 | .mk _ _ _ _ ks,most=>Ti ks most 1
def Ti :List Fo->Int->Int->Int
 | [],_,n=>n
 | k::ks,most,n=>if n<=most then Ti ks most (n+Si k (most-n))else n
end
abbrev pg (α:Type):=World->Nat->α->Nat->Nat->Prop
def pg.Kept {α:Type}(R:pg α):Prop:=∀(w w':World) (B:Nat) (x:α) (b o:Nat),Below B w w'->b<B->R w B x b o->R w' B x b o
def Xa {α:Type}(R:pg α)(k:Nat)(w:World)(B:Nat)(l:List α)(v:Value):Prop:=
 ∃(ao:Option Addr) (cap:Nat),v=.slice ao l.length cap/\ l.length<=cap/\ cap<=maxLen/\
  (l≠[]->∃b off,ao=some ⟨b,off,none⟩/\ b<B/\ ∀(i:Nat) (h:i<l.length),R w B l[i] b (off+i*k))
theorem Xa.below {α:Type}{R:pg α}(hR:R.Kept){k:Nat}{w w':World}{B:Nat}(hb:Below B w w'){l:List α}{v:Value}(h:Xa R k w B l v):Xa R k w' B l v:=by
 obtain⟨ao,cap,h1,h2,h3,h4⟩:=h;refine⟨ao,cap,h1,h2,h3,fun hne=>?_⟩;obtain⟨b,off,ha,hlt,hc⟩:=h4 hne;exact⟨b,off,ha,hlt,fun i hi=>hR _ _ _ _ _ _ hb hlt (hc i hi)⟩
def pg.QL {α:Type}(R:pg α):Prop:=∀(w:World) (B B':Nat) (x:α) (b o:Nat),B<=B'->R w B x b o->R w B' x b o
theorem Xa.mono {α:Type}{R:pg α}(hR:R.QL){k:Nat}{w:World}{B B':Nat}(hb:B<=B'){l:List α}{v:Value}(h:Xa R k w B l v):Xa R k w B' l v:=by
 obtain⟨ao,cap,h1,h2,h3,h4⟩:=h;refine⟨ao,cap,h1,h2,h3,fun hne=>?_⟩;obtain⟨b,off,ha,hlt,hc⟩:=h4 hne;exact⟨b,off,ha,ia,fun i hi=>hR _ _ _ _ _ _ hb (hc i hi)⟩
def bm {α:Type}(enc:α->Value):pg α:=fun w _ x b o=>w.cell? ⟨b,o,none⟩=some (enc x)
theorem bm.kept {α:Type}(enc:α->Value):(bm enc).Kept:=fun _ _ _ _ b o hb hlt h=>by
 show _=_;rw[hb.cell (p:=⟨b,o,none⟩) hlt];exact h
theorem bm.mono {α:Type}(enc:α->Value):(bm enc).QL:=fun _ _ _ _ _ _ _ h=>h
abbrev jr (w:World)(B:Nat)(l:List ByteArray)(v:Value):Prop:=Xa (bm Value.string) 1 w B l v
abbrev IntsIn (w:World)(B:Nat)(l:List Int)(v:Value):Prop:=Xa (bm (Value.int .i64)) 1 w B l v
theorem jr.below {w w':World}{B:Nat}(hb:Below B w w'){l:List ByteArray}{v:Value}(h:jr w B l v):jr w' B l v:=Xa.below (bm.kept _) hb h
theorem IntsIn.below {w w':World}{B:Nat}(hb:Below B w w'){l:List Int}{v:Value}(h:IntsIn w B l v):IntsIn w' B l v:=Xa.below (bm.kept _) hb h
def U5 {α:Type}(R:pg α)(k:Nat):pg (List α):=fun w B l b o=>∃v,w.cell? ⟨b,o,none⟩=some v/\ Xa R k w B l v
theorem U5.kept {α:Type}{R:pg α}(hR:R.Kept)(k:Nat):(U5 R k).Kept:=by
 rintro w w' B x b o hb hlt ⟨v,hc,hv⟩;exact⟨v,by rw[hb.cell (p:=⟨b,o,none⟩) hlt];exact hc,hv.below hR hb⟩
theorem U5.mono {α:Type}{R:pg α}(hR:R.QL)(k:Nat):(U5 R k).QL:=by
 rintro w B B' x b o hb ⟨v,hc,hv⟩;exact⟨v,hc,hv.mono hR hb⟩
structure Fa where
 name:ByteArray
 kind:Int
 lo:Int
 hi:Int
 deriving Inhabited
def Iw :pg Fa:=fun w _ x b o=>w.cell? ⟨b,o,none⟩=some (.string x.name)/\ w.cell? ⟨b,o+1,none⟩=some (.int .i64 x.kind)/\
 w.cell? ⟨b,o+2,none⟩=some (.int .i64 x.lo)/\ w.cell? ⟨b,o+3,none⟩=some (.int .i64 x.hi)/\ x.name.size<=maxLen/\ yj x.kind/\ yj x.lo/\ yj x.hi
theorem Iw.kept :Iw.Kept:=by
 rintro w w' B x b o hb hlt ⟨h0,h1,h2,h3,r⟩;refine⟨?_,?_,?_,?_,r⟩<;>(rw[hb.cell (by exact hlt)];assumption)
theorem Iw.mono :Iw.QL:=fun _ _ _ _ _ _ _ h=>h
def bf (w:World)(B:Nat)(d:List Fa)(v:Value):Prop:=∃u,v=.agg #[u]/\ Xa Iw 4 w B d u
structure St where
 op:Int
 name:ByteArray
 day:Int
 ao:Option Addr
 n:Nat
 cap:Nat
structure Pv where
 id:ByteArray
 Xx:Int
 kind:Int
 name:ByteArray
 value:Int
 cond:Fo
 except:List ByteArray
 s1:St
 s2:St
 s3:St
def pvC (x:Pv)(ak:Option Addr)(ck:Nat)(ae:Option Addr)(ce:Nat):List Value:=
  [.string x.id,.int .i64 x.Xx,.int .i64 x.kind,.string x.name,.int .i64 x.value,
   .int .i64 x.cond.op,.string x.cond.name,.int .i64 x.cond.cmp,.int .i64 x.cond.n,.slice ak x.cond.kids.length ck,.slice ae x.except.length ce,
   .int .i64 x.s1.op,.string x.s1.name,.int .i64 x.s1.day,.slice x.s1.ao x.s1.n x.s1.cap,
   .int .i64 x.s2.op,.string x.s2.name,.int .i64 x.s2.day,.slice x.s2.ao x.s2.n x.s2.cap,
   .int .i64 x.s3.op,.string x.s3.name,.int .i64 x.s3.day,.slice x.s3.ao x.s3.n x.s3.cap]
def L9 :pg Pv:=fun w B x b o=>∃(ak:Option Addr) (ck:Nat) (ae:Option Addr) (ce:Nat),w.rangeAt b o (pvC x ak ck ae ce)/\
 x.cond.In w B (.agg #[.int .i64 x.cond.op,.string x.cond.name,.int .i64 x.cond.cmp,.int .i64 x.cond.n,.slice ak x.cond.kids.length ck])/\ jr w B x.except (.slice ae x.except.length ce)/\
 x.id.size<=maxLen/\ x.name.size<=maxLen
theorem L9.kept :L9.Kept:=by
 rintro w w' B x b o hb hlt ⟨ak,ck,ae,ce,hr,hf,he,r⟩;exact⟨ak,ck,ae,ce,fun j v hv=>by rw[hb.cell (p:=⟨b,o+j,none⟩) hlt];exact hr j v hv,hf.below hb,he.below hb,r⟩
def bQ (w:World)(B:Nat)(d:List Fa)(ps:List Pv)(v:Value):Prop:=
 ∃u1 u2 asn ns cs,v=.agg #[u1,u2,.slice asn ns cs]/\ Xa Iw 4 w B d u1/\ Xa L9 23 w B ps u2
theorem bQ.below {w w':World}{B:Nat}(hb:Below B w w'){d:List Fa}{ps:List Pv}{v:Value}(h:bQ w B d ps v):bQ w' B d ps v:=by
 obtain⟨u1,u2,asn,ns,cs,rfl,h1,h2⟩:=h;exact⟨u1,u2,asn,ns,cs,rfl,h1.below Iw.kept hb,h2.below L9.kept hb⟩
theorem bf.below {w w':World}{B:Nat}(hb:Below B w w'){d:List Fa}{v:Value}(h:bf w B d v):bf w' B d v:=by
 obtain⟨u,rfl,h1⟩:=h;exact⟨u,rfl,h1.below Iw.kept hb⟩
theorem Xa.shape {α:Type}{R:pg α}{k:Nat}{w:World}{B:Nat}{l:List α}{v:Value}(h:Xa R k w B l v):
  ∃(ao:Option Addr) (cap:Nat),v=.slice ao l.length cap/\ l.length<=cap/\ cap<=maxLen/\ (l≠[]->∃b off,ao=some ⟨b,off,none⟩/\ b<B):=by
 obtain⟨ao,cap,h1,h2,h3,h4⟩:=h;exact⟨ao,cap,h1,h2,h3,fun hne=>let⟨b,off,ha,hlt,_⟩:=h4 hne;⟨b,off,ha,hlt⟩⟩
theorem Xa.get {α:Type}{R:pg α}{k:Nat}{w:World}{B:Nat}{l:List α}{a:Addr}{n cap:Nat}(h:Xa R k w B l (.slice (some a) n cap))(i:Nat)(hi:i<l.length):
  a.spot=none/\ a.block<B/\ R w B l[i] a.block (a.off+i*k):=by
 obtain⟨ao,cap',h1,h2,h3,h4⟩:=h;obtain⟨b,off,ha,hlt,hc⟩:=h4 (by intro e;simp[e]at hi);simp only[Value.slice.injEq]at h1;obtain⟨rfl,rfl,rfl⟩:=h1;cases ha
 exact⟨rfl,hlt,hc i hi⟩
theorem Xa.one {α:Type}{enc:α->Value}{w:World}{B:Nat}{l:List α}{ao:Option Addr}{n cap:Nat}(h:Xa (bm enc) 1 w B l (.slice ao n cap))(k:Nat)(hk:k<l.length):
  ∃b off,ao=some ⟨b,off,none⟩/\ b<B/\ w.cell? ⟨b,off+k,none⟩=some (enc l[k]):=by
 obtain⟨_,_,h1,_,_,h4⟩:=h;obtain⟨b,off,ha,cQ,hc⟩:=h4 (by intro e;simp[e]at hk);simp only[Value.slice.injEq]at h1;exact⟨b,off,by rw[h1.1,ha],cQ,by simpa[bm]using hc k hk⟩
theorem Xa.row {α:Type}{R:pg α}{j:Nat}{w:World}{B:Nat}{l:List (List α)}{ao:Option Addr}{n cap:Nat}(h:Xa (U5 R j) 1 w B l (.slice ao n cap))(k:Nat)(hk:k<l.length):
  ∃b off M9 cap',ao=some ⟨b,off,none⟩/\ b<B/\ w.cell? ⟨b,off+k,none⟩=some (.slice M9 l[k].length cap')/\ Xa R j w B l[k] (.slice M9 l[k].length cap'):=by
 obtain⟨_,_,h1,_,_,h4⟩:=h;obtain⟨b,off,ha,cQ,hc⟩:=h4 (by intro e;simp[e]at hk);simp only[Value.slice.injEq]at h1;obtain⟨v,hv,hs⟩:=hc k hk;obtain⟨M9,cap',rfl,_⟩:=Xa.shape hs;exact⟨b,off,M9,cap',by rw[h1.1,ha],cQ,by simpa using hv,hs⟩
theorem World.Za (B:Nat)(w:World)(n:Nat):Below B w (w.drewN n):=⟨rfl,rfl,rfl,ja _,fun _ _=>rfl⟩
theorem qG {α:Type}(p:α->Bool)(l:List α)(k:Nat)(h:k<l.length):(l.take (k+1)).all p=((l.take k).all p&& p l[k]):=by
 rw[Ka h,qi,Ld,List.all_nil,Bool.and_true]
theorem Xa.at {α:Type}{R:pg α}{j:Nat}{w:World}{B:Nat}{l:List α}{ao:Option Addr}{n cap:Nat}(h:Xa R j w B l (.slice ao n cap))(k:Nat)(hk:k<l.length):
  ∃b off,ao=some ⟨b,off,none⟩/\ b<B/\ R w B l[k] b (off+k*j):=by
 obtain⟨_,_,h1,_,_,h4⟩:=h;obtain⟨b,off,ha,cQ,hc⟩:=h4 (by intro e;simp[e]at hk);simp only[Value.slice.injEq]at h1;exact⟨b,off,by rw[h1.1,ha],cQ,hc k hk⟩
end Go.Proofs.YtejbgoigkefnfaaGreatDoor
