/- A formula that Small allows has as few nodes. No program is walked. -/
import Derived.Test.YtdipkbobalnilaaGreatDoorAl
import Derived.Test.YtdipkbobalnilaaGreatDoorProg
import Derived.WalkSpells
import Derived.WalkLawsBesides
import Derived.Lib.Hide
import Derived.Deep.MidRow
import Derived.BigQuiet
set_option maxRecDepth 100000
set_option maxHeartbeats 400000
namespace Go.Proofs.YtdipkbobalnilaaGreatDoor
open Tryz
open Go.RowKit
variable{j:Nat}{Z:Int}{E:TypeId}{A:Option Addr}{K:Act}{M:Oper}
theorem vf{k:IntKind}{b:Int}(h:Z=b):Ending.returned (.int k Z)=.returned (.int k b):=by rw[h]
theorem rR{k k':IntKind}{b c d:Int}(h:Z=b)(a:c=d):Ending.returned (.tuple #[.int k Z,.int k' c])=.returned (.tuple #[.int k b,.int k' d]):=by rw[h,a]
theorem Cb{a b:Bool}(h:a=b):Ending.returned (.bool a)=.returned (.bool b):=by rw[h]
def Lh(a b:Na):Bool:=a.toList==b.toList
def Wh(n:Int):Prop:= -9223372036854775808<=n/\n<=9223372036854775807
inductive Fo where
 | mk (op:Int) (name:Na) (cmp n:Int) (kids:List Fo)
 deriving Inhabited
def Fo.op:Fo->Int | .mk a _ _ _ _=>a
def Fo.name:Fo->Na | .mk _ a _ _ _=>a
def Fo.cmp:Fo->Int | .mk _ _ c _ _=>c
def Fo.n:Fo->Int | .mk _ _ _ n _=>n
def Fo.kids:Fo->List Fo | .mk _ _ _ _ a=>a
mutual
def Fo.In(w:Ca)(B:Nat):Fo->Ea->Prop
 | .mk f e c n a,v=>∃(d:Option Addr) (cap:Nat),v=.agg #[pa f,.string e,pa c,pa n,.slice d a.length cap]/\
   Wh f/\Wh c/\Wh n/\e.size<=maxLen/\a.length<=cap/\cap<=maxLen/\(a≠[]->∃b off,d=some ⟨b,off,none⟩/\b<B/\Fo.Vk w B a b off)
def Fo.Vk(w:Ca)(B:Nat):List Fo->Nat->Nat->Prop
 | [],_,_=>True
 | k::ks,b,off=>(∃a c d e f,w.cell? (Ja b off)=some a/\w.cell? (Ja b (off+1))=some c/\w.cell? (Ja b (off+2))=some d/\
   w.cell? (Ja b (off+3))=some e/\w.cell? (Ja b (off+4))=some f/\Fo.In w B k (.agg #[a,c,d,e,f]))/\Fo.Vk w B ks b (off+5)
end
mutual
theorem Fo.In.below{w a:Ca}{B:Nat}(p:Da B w a):∀(f:Fo) (v:Ea),f.In w B v->f.In a B v
 | .mk t s c n r,v=>by{rintro⟨d,cap,q,e,g,h,i,j,k,l⟩;refine⟨d,cap,q,e,g,h,i,j,k,λhne=>?_⟩;obtain⟨b,off,o,hlt,m⟩:=l hne;exact⟨b,off,o,hlt,Fo.Vk.below p hlt r off m⟩}
theorem Fo.Vk.below{w e:Ca}{B b:Nat}(c:Da B w e)(hlt:b<B):∀(a:List Fo) (off:Nat),Fo.Vk w B a b off->Fo.Vk e B a b off
 | [],_=>λ_=>trivial
 | k::a,off=>by{rintro⟨⟨g,h,i,j,l,m,n,o,c3,p,f⟩,d⟩;refine⟨⟨g,h,i,j,l,?_,?_,?_,?_,?_,Fo.In.below c k _ f⟩,Fo.Vk.below c hlt a (off+5) d⟩<;>(rw[c.cell (by exact hlt)];assumption)}
end
theorem Fo.Vk.get{w:Ca}{B b:Nat}:∀(a:List Fo) (off i:Nat) (g:i<a.length),Fo.Vk w B a b off->
  ∃(d:Option Addr) (cap:Nat),w.cell? (Ja b (off+i*5))=some (pa a[i].op)/\w.cell? (Ja b (off+i*5+1))=some (.string a[i].name)/\
   w.cell? (Ja b (off+i*5+2))=some (pa a[i].cmp)/\w.cell? (Ja b (off+i*5+3))=some (pa a[i].n)/\
   w.cell? (Ja b (off+i*5+4))=some (.slice d a[i].kids.length cap)/\
   a[i].In w B (.agg #[pa a[i].op,.string a[i].name,pa a[i].cmp,pa a[i].n,.slice d a[i].kids.length cap])
 | k::a,off,0,_=>by
  rintro⟨⟨t,u,v,x,y,j,l,m,c3,o,f⟩,_⟩;obtain⟨s,r,c,n,q⟩:=k;have h:=f;obtain⟨d,cap,p,_⟩:=f
  grind [Fo.op,Fo.name,Fo.cmp,Fo.n,Fo.kids]
 | k::a,off,i+1,g=>by
  rintro⟨_,e⟩;have:=Fo.Vk.get a (off+5) i (by grind) e
  grind
theorem Fo.In.shape{w:Ca}{f:Fo}{v:Ea}(h:f.In w j v):
  ∃(a:Option Addr) (cap:Nat),v=.agg #[pa f.op,.string f.name,pa f.cmp,pa f.n,.slice a f.kids.length cap]:=by
 obtain⟨e,d,c,n,b⟩:=f;obtain⟨a,cap,rfl,_⟩:=h;exact⟨a,cap,rfl⟩
mutual
def Fo.size:Fo->Nat
 | .mk _ _ _ _ a=>Fo.Cd a+1
def Fo.Cd:List Fo->Nat
 | []=>0
 | k::ks=>k.size+Fo.Cd ks
end
theorem Fo.size_pos(f:Fo):1<=f.size:=by cases f;simp[Fo.size]
theorem Fo.Eh:∀(a:List Fo) (i:Nat) (h:i<a.length),a[i].size<=Fo.Cd a
 | k::a,0,_=>by simp[Fo.Cd]
 | k::a,i+1,h=>by{have:=Fo.Eh a i (by simpa using h);simp[Fo.Cd];omega}
mutual
def gj:Fo->Int->Int
 | .mk _ _ _ _ a,most=>di a most 1
def di:List Fo->Int->Int->Int
 | [],_,n=>n
 | k::ks,most,n=>if n<=most then di ks most (n+gj k (most-n))else n
end
abbrev Cf(a:Type):=Ca->Nat->a->Nat->Nat->Prop
def Cf.Kept{c:Type}(R:Cf c):Prop:=∀(w a:Ca) (B:Nat) (x:c) (b o:Nat),Da B w a->b<B->R w B x b o->R a B x b o
def Sa{c:Type}(R:Cf c)(k:Nat)(w:Ca)(B:Nat)(l:List c)(v:Ea):Prop:=
 ∃(a:Option Addr) (cap:Nat),v=.slice a l.length cap/\l.length<=cap/\cap<=maxLen/\
  (l≠[]->∃b off,a=some ⟨b,off,none⟩/\b<B/\∀(i:Nat) (h:i<l.length),R w B l[i] b (off+i*k))
theorem Sa.below{a:Type}{R:Cf a}(m:R.Kept){w c:Ca}{B:Nat}(o:Da B w c){l:List a}{v:Ea}(h:Sa R j w B l v):Sa R j c B l v:=by
 obtain⟨d,cap,e,f,g,k⟩:=h;refine⟨d,cap,e,f,g,λhne=>?_⟩;obtain⟨b,off,n,hlt,p⟩:=k hne;exact⟨b,off,n,hlt,λi q=>m _ _ _ _ _ _ o hlt (p i q)⟩
def Cf.SG{c:Type}(R:Cf c):Prop:=∀(w:Ca) (B a:Nat) (x:c) (b o:Nat),B<=a->R w B x b o->R w a x b o
theorem Sa.mono{a:Type}{R:Cf a}(m:R.SG){w:Ca}{B c:Nat}(o:B<=c){l:List a}{v:Ea}(h:Sa R j w B l v):Sa R j w c l v:=by
 obtain⟨d,cap,e,f,g,k⟩:=h;refine⟨d,cap,e,f,g,λhne=>?_⟩;obtain⟨b,off,n,hlt,p⟩:=k hne;exact⟨b,off,n,ja,λi q=>m _ _ _ _ _ _ o (p i q)⟩
def Ad{a:Type}(enc:a->Ea):Cf a:=λw _ x b o=>w.cell? (Ja b o)=some (enc x)
theorem Ad.kept{c:Type}(enc:c->Ea):(Ad enc).Kept:=λ_ _ _ _ b o a hlt h=>by
 show _=_;rw[a.cell hlt];exact h
theorem Ad.mono{a:Type}(enc:a->Ea):(Ad enc).SG:=λ_ _ _ _ _ _ _ h=>h
abbrev Sc(w:Ca)(B:Nat)(l:List Na)(v:Ea):Prop:=Sa (Ad Value.string) 1 w B l v
abbrev IntsIn(w:Ca)(B:Nat)(l:List Int)(v:Ea):Prop:=Sa (Ad (Value.int .i64)) 1 w B l v
theorem Sc.below{w a:Ca}{B:Nat}(b:Da B w a){l:List Na}{v:Ea}(h:Sc w B l v):Sc a B l v:=Sa.below (Ad.kept _) b h
theorem IntsIn.below{w a:Ca}{B:Nat}(b:Da B w a){l:List Int}{v:Ea}(h:IntsIn w B l v):IntsIn a B l v:=Sa.below (Ad.kept _) b h
def TW{a:Type}(R:Cf a)(k:Nat):Cf (List a):=λw B l b o=>∃v,w.cell? (Ja b o)=some v/\Sa R k w B l v
theorem TW.kept{f:Type}{R:Cf f}(c:R.Kept)(k:Nat):(TW R k).Kept:=by
 rintro w g B x b o a hlt ⟨v,d,e⟩;exact⟨v,by rw[a.cell hlt];exact d,e.below c a⟩
theorem TW.mono{f:Type}{R:Cf f}(a:R.SG)(k:Nat):(TW R k).SG:=by
 rintro w B g x b o c ⟨v,d,e⟩;exact⟨v,d,e.mono a c⟩
abbrev ZK(w:Ca)(B:Nat)(l:List (List Na))(v:Ea):Prop:=Sa (TW (Ad Value.string) 1) 1 w B l v
abbrev KL(w:Ca)(B:Nat)(l:List (List Int))(v:Ea):Prop:=Sa (TW (Ad (Value.int .i64)) 1) 1 w B l v
structure Fa where
 name:Na
 kind:Int
 lo:Int
 hi:Int
 deriving Inhabited
def Jk:Cf Fa:=λw _ x b o=>w.cell? (Ja b o)=some (.string x.name)/\w.cell? (Ja b (o+1))=some (pa x.kind)/\
 w.cell? (Ja b (o+2))=some (pa x.lo)/\w.cell? (Ja b (o+3))=some (pa x.hi)/\x.name.size<=maxLen/\Wh x.kind/\Wh x.lo/\Wh x.hi
theorem Jk.kept:Jk.Kept:=by
 rintro w g B x b o a hlt ⟨c,d,e,f,r⟩;refine⟨?_,?_,?_,?_,r⟩<;>(rw[a.cell (by exact hlt)];assumption)
theorem Jk.mono:Jk.SG:=λ_ _ _ _ _ _ _ h=>h
def jf(w:Ca)(B:Nat)(d:List Fa)(v:Ea):Prop:=∃u,v=.agg #[u]/\Sa Jk 4 w B d u
structure St where
 op:Int
 name:Na
 day:Int
 ao:Option Addr
 n:Nat
 cap:Nat
structure Pv where
 id:Na
 oo:Int
 kind:Int
 name:Na
 value:Int
 cond:Fo
 except:List Na
 s1:St
 s2:St
 s3:St
def Cl(x:Pv)(b:Option Addr)(d:Nat)(a:Option Addr)(c:Nat):List Ea:=
  [.string x.id,pa x.oo,pa x.kind,.string x.name,pa x.value,
   pa x.cond.op,.string x.cond.name,pa x.cond.cmp,pa x.cond.n,.slice b x.cond.kids.length d,.slice a x.except.length c,
   pa x.s1.op,.string x.s1.name,pa x.s1.day,.slice x.s1.ao x.s1.n x.s1.cap,
   pa x.s2.op,.string x.s2.name,pa x.s2.day,.slice x.s2.ao x.s2.n x.s2.cap,
   pa x.s3.op,.string x.s3.name,pa x.s3.day,.slice x.s3.ao x.s3.n x.s3.cap]
theorem Du(x:Pv)(b:Option Addr)(d:Nat)(a:Option Addr)(c:Nat):(Cl x b d a c).length=23:=rfl
theorem Tq(x:Pv)(c:Option Addr)(e:Nat)(b:Option Addr)(d:Nat):(Cl x c e b d).toArray.all (·.oneCell')=true:=by
 refine all_oneCell_toArray λv a=>?_
 simp only[Cl,uf,List.not_mem_nil,or_false]at a;rcases a with rfl|rfl|rfl|rfl|rfl|rfl|rfl|rfl|rfl|rfl|rfl|rfl|rfl|rfl|rfl|rfl|rfl|rfl|rfl|rfl|rfl|rfl|rfl<;>rfl
def jm:Cf Pv:=λw B x b o=>∃(c:Option Addr) (e:Nat) (a:Option Addr) (d:Nat),w.rangeAt b o (Cl x c e a d)/\
 x.cond.In w B (.agg #[pa x.cond.op,.string x.cond.name,pa x.cond.cmp,pa x.cond.n,.slice c x.cond.kids.length e])/\Sc w B x.except (.slice a x.except.length d)/\
 x.id.size<=maxLen/\x.name.size<=maxLen
theorem jm.kept:jm.Kept:=by
 rintro w l B x b o a hlt ⟨d,f,c,e,i,h,g,r⟩;exact⟨d,f,c,e,λj v k=>by rw[a.cell hlt];exact i j v k,h.below a,g.below a,r⟩
def ur(w:Ca)(B:Nat)(d:List Fa)(e:List Pv)(v:Ea):Prop:=
 ∃u1 u2 a c b,v=.agg #[u1,u2,.slice a c b]/\Sa Jk 4 w B d u1/\Sa jm 23 w B e u2
theorem ur.below{w e:Ca}{B:Nat}(b:Da B w e){d:List Fa}{c:List Pv}{v:Ea}(h:ur w B d c v):ur e B d c v:=by
 obtain⟨u1,u2,a,j,f,rfl,g,i⟩:=h;exact⟨u1,u2,a,j,f,rfl,g.below Jk.kept b,i.below jm.kept b⟩
theorem jf.below{w a:Ca}{B:Nat}(c:Da B w a){d:List Fa}{v:Ea}(h:jf w B d v):jf a B d v:=by
 obtain⟨u,rfl,b⟩:=h;exact⟨u,rfl,b.below Jk.kept c⟩
theorem Sa.shape{a:Type}{R:Cf a}{w:Ca}{B:Nat}{l:List a}{v:Ea}(h:Sa R j w B l v):
  ∃(c:Option Addr) (cap:Nat),v=.slice c l.length cap/\l.length<=cap/\cap<=maxLen/\(l≠[]->∃b off,c=some ⟨b,off,none⟩/\b<B):=by
 obtain⟨c,cap,d,e,f,g⟩:=h
 grind
theorem Sa.get{c:Type}{R:Cf c}{w:Ca}{B:Nat}{l:List c}{a:Addr}{n cap:Nat}(h:Sa R j w B l (.slice (some a) n cap))(i:Nat)(p:i<l.length):
  a.spot=none/\a.block<B/\R w B l[i] a.block (a.off+i*j):=by
 obtain⟨e,cap',f,g,k,d⟩:=h;obtain⟨b,off,m,hlt,o⟩:=d (by grind)
 grind
theorem Sa.one{a:Type}{enc:a->Ea}{w:Ca}{l:List a}{n cap:Nat}(h:Sa (Ad enc) 1 w j l (.slice A n cap))(k:Nat)(i:k<l.length):
  ∃b off,A=some ⟨b,off,none⟩/\b<j/\w.cell? (Ja b (off+k))=some (enc l[k]):=by
 obtain⟨_,_,e,_,_,d⟩:=h;obtain⟨b,off,f,c,g⟩:=d (by grind)
 grind [Ad]
theorem Sa.row{a:Type}{R:Cf a}{w:Ca}{B:Nat}{l:List (List a)}{n cap:Nat}(h:Sa (TW R j) 1 w B l (.slice A n cap))(k:Nat)(g:k<l.length):
  ∃b off c cap',A=some ⟨b,off,none⟩/\b<B/\w.cell? (Ja b (off+k))=some (.slice c l[k].length cap')/\Sa R j w B l[k] (.slice c l[k].length cap'):=by
 obtain⟨_,_,i,_,_,e⟩:=h;obtain⟨b,off,m,d,f⟩:=e (by grind);obtain⟨v,p,o⟩:=f k g
 grind [Sa.shape]
theorem World.Md(B:Nat)(w:Ca)(n:Nat):Da B w (w.drewN n):=⟨rfl,rfl,rfl,wa _,λ_ _=>rfl⟩
theorem cI{a:Type}(p:a->Bool)(l:List a)(k:Nat)(h:k<l.length):(l.take (k+1)).all p=((l.take k).all p&& p l[k]):=by
 grind [List.take_succ_eq_append_getElem]
theorem all_false{a:Type}{p:a->Bool}{l:List a}(h:j<l.length)(b:p l[j]=false):l.all p=false:=by
 grind
theorem Sa.at{a:Type}{R:Cf a}{w:Ca}{B:Nat}{l:List a}{n cap:Nat}(h:Sa R j w B l (.slice A n cap))(k:Nat)(i:k<l.length):
  ∃b off,A=some ⟨b,off,none⟩/\b<B/\R w B l[k] b (off+k*j):=by
 obtain⟨_,_,e,_,_,d⟩:=h;obtain⟨b,off,f,c,g⟩:=d (by grind)
 grind
theorem Bw{P:Program}{ops:Array Oper}{rest:List Oper}{Q:Exit->Act->Ca->Prop}{w:Ca}{c:Array Ea}
  (f:M.guard=none) (x y:Operand) (g:M.op=.store E x y) (cells:List Ea) (i:K.eval x=Ma w.heap.size) (k:K.eval y=.agg cells.toArray)
  (hs:c.size=cells.length) (l:(P.info? E).map (·.size)=some cells.length) (e:cells.toArray.all (·.oneCell')=true)
  (h:∀b,Da w.heap.size w b->b.heap.size=w.heap.size+1->b.rangeAt w.heap.size 0 cells->(∀j,b.frozen? (Ja w.heap.size j)=false)->wpList P ops Q rest (K.put M.dst undef) b):
  wpList P ops Q (M::rest) K (w.alloc (.cells c E)):=by
 have n:(w.alloc (.cells c E)).there w.heap.size 0 cells.length:=λj m=>by{simp_all}
 apply wpList_store_mid f E x y g _ 0 _ i k ja ja e
 refine h _ ?_ ?_ ?_ ?_
 ·have:∀(a:List Ea) (M:Nat) (W:Ca),Da w.heap.size w W->Da w.heap.size w (W.setCells w.heap.size M a):=by
   intro a
   induction a with| nil=>intro _ _ h;exact h| cons v a d=>intro M W h;exact d _ _ (h.setCell (wa _) _)
  exact this _ _ _ ((za _ _).alloc ja _)
 ·have:∀(a:List Ea) (M:Nat) (W:Ca),(W.setCells w.heap.size M a).heap.size=W.heap.size:=by
   intro a
   induction a with| nil=>intro _ _;rfl| cons v a d=>grind [World.setCells,World.setCell]
  simp_all
 all_goals grind [World.rangeAt_setCells_same,World.frozen?_setCells,World.frozen?_alloc_new]
theorem Vc{P:Program}{ops:Array Oper}{rest:List Oper}{Q:Exit->Act->Ca->Prop}{w:Ca}{f:Array Ea}
  (g:M.guard=none) (x y:Operand) (k:M.op=.store E x y) (p:Pv) (c:Option Addr) (e:Nat) (b:Option Addr) (d:Nat)
  (l:K.eval x=Ma w.heap.size) (m:K.eval y=.agg (Cl p c e b d).toArray)
  (hs:f.size=23) (i:(P.info? E).map (·.size)=some 23)
  (h:∀a,Da w.heap.size w a->a.heap.size=w.heap.size+1->a.rangeAt w.heap.size 0 (Cl p c e b d)->(∀j,a.frozen? (Ja w.heap.size j)=false)->wpList P ops Q rest (K.put M.dst undef) a):
  wpList P ops Q (M::rest) K (w.alloc (.cells f E)):=
 Bw g x y k _ l m (by rw[hs,Du]) (by rw[i,Du]) (Tq _ _ _ _ _) h
theorem Lc{P:Program}{ops:Array Oper}{rest:List Oper}{w:Ca}{Q:Exit->Act->Ca->Prop}(a:M.guard=none)(x:Operand)(k:M.op=.load E x)
  {b o:Nat} (m:K.eval x=aP b o) (p:Pv) (e:Option Addr) (g:Nat) (c:Option Addr) (f:Nat) {d:TypeDesc} (i:w.rangeAt b o (Cl p e g c f))
  (l:P.underlying E=some d) (hd:d.isRow=true) (j:(P.info? E).map (·.size)=some 23)
  (h:wpList P ops Q rest (K.put M.dst (.agg (Cl p e g c f).toArray)) w):wpList P ops Q (M::rest) K w:=
 wpList_load_mid a E x k b o m _ d i l hd (by rw[j,Du]) h
def xi(l:List Na)(s:Na):Bool:=l.any λx=>Lh x s
def gi:List Na->List Na->Bool
 | [],[]=>true
 | a::l,b::m=>Lh a b&& gi l m
 | _,_=>false
theorem YS(l:List Na)(s:Na)(k:Nat)(h:k<l.length):xi (l.take (k+1)) s=(xi (l.take k) s || Lh l[k] s):=by
 grind [xi,List.take_succ_eq_append_getElem]
theorem dA:∀(l m:List Na),l.length≠m.length->gi l m=false
 | [],[],h=>absurd rfl h
 | [],b::m,_=>rfl
 | a::l,[],_=>rfl
 | a::l,b::m,h=>by simp only[gi,dA l m (by simpa using h),Bool.and_false]
theorem EK(l m:List Na)(k:Nat)(h:k<l.length)(a:k<m.length):gi (l.drop k) (m.drop k)=(Lh l[k] m[k]&& gi (l.drop (k+1)) (m.drop (k+1))):=by
 grind [List.drop_eq_getElem_cons,gi]
mutual
theorem Uq:∀(f:Fo) (most:Int),0<=most->1<=gj f most/\gj f most<=most+1
 | .mk _ _ _ _ a,most,h=>by simpa[gj]using gD a most 1 ja ja ja
theorem gD:∀(a:List Fo) (most n:Int),0<=most->1<=n->n<=most+1->1<=di a most n/\di a most n<=most+1
 | [],most,n,_,b,c=>⟨b,c⟩
 | k::a,most,n,d,b,c=>by{unfold di;(split);{have:=Uq k (most-n) ja;exact gD a most _ d ja ja};{exact⟨b,c⟩}}
end
theorem lx(a:List Fo)(k:Nat)(h:k<a.length)(most n:Int):
  di (a.drop k) most n=if n<=most then di (a.drop (k+1)) most (n+gj a[k] (most-n))else n:=by
 rw[Gc,di]
theorem cO(N:Nat):∀(f:Fo) (most:Int) (v:Ea) (w:Ca) (B:Nat),f.size<=N->0<=most->most<=1000000->B<=w.heap.size->f.In w B v->
  Db 94 #[v,pa most] w λe D=>e=.returned (pa (gj f most))/\Da w.heap.size w D:=by
 induction N with
 | zero=>intro f _ _ _ _ h;have:=f.size_pos;omega
 | succ N C=>
 intro j most v w B O S y M Q;obtain⟨W,V,c,n,a⟩:=j;obtain⟨G,cap,rfl,H,I,J,K,h5,L,z⟩:=Q;have F:Hid _:=C;clear C H I J K;unfold maxLen at L;have s:Hid (di a most 1=gj (.mk W V c n a) most):=by rw[gj];rfl
 generalize gj _ most=R at*
 have r:=la z;clear z;go_enter func94,ntmps94;go_wp2
 go_loopw [5,6] (λn i wr=>∃(k:Nat) (m:Int),k<=a.length/\i=pa k/\n=pa m/\1<=m/\m<=most+1/\Da w.heap.size w wr/\
  wr.cell? (Ja w.heap.size 4)=some (.slice G a.length cap)/\w.heap.size<wr.heap.size/\Hid (di (a.drop k) most m=R)) (λn i _=>a.length-(intOf i).toNat)
 case atStart=>(exact⟨0,1,ja,rfl,rfl,ja,ja,(za _ _).alloc ja _,by go_simp,Aa,by simpa[Hid]using s⟩)
 case round=>
  obtain⟨k,m,hk,rfl,rfl,y,T,q,x,hsz,l⟩:=hrel;by_cases hlt:k<a.length
  {by_cases d:m<=most;{obtain⟨b,off,rfl,u,A⟩:=r.o (by intro h;simp[h]at hlt);obtain⟨ka,kc,X,Y,Z,g3,g4,gk⟩:=Fo.Vk.get a off k hlt (Fo.Vk.below (q.mono M) u a off A);have P:=Uq a[k] (most-m) ja;have U:=Fo.Eh a k hlt;rw[Fo.size]at O;have E:=la gk;clear gk A r s;rw[Hid,lx a k hlt,Ga d]at l;have p:=la l;go_wp2_with (go_at_call 94;refine(F.o _ _ _ _ B ja ja ja ja E.o).mono ?_;rintro e D ⟨rfl,g⟩);go_roundw;(case rel=>(exact⟨_,_,ja,by go_num,rfl,ja,ja,q.trans (g.mono ja),(g.cell ja).trans x,by have:=g.size;omega,p⟩));case measure=>simp[intOf];omega};{rw[Hid,lx a k hlt,if_neg d]at l;have p:=la l;(have hd:decide (m<=most)=false:=by simpa using d);clear l r s d;go_wp2;go_ret;exact⟨vf p.o,q⟩}}
  ·have t:m=R:=by
    have:k=a.length:=by omega
    subst this
    simpa[Hid,di]using l
   have p:=la t;go_wp2;go_ret;exact⟨vf p.o,q⟩
def Cw(f:Fo)(most:Int):Bool:=decide (gj f most<=most)
theorem iD(f:Fo)(most:Int)(v:Ea)(w:Ca)(B:Nat)(b:0<=most)(c:most<=1000000)(j:B<=w.heap.size)(d:f.In w B v):
  Db 53 #[v,pa most] w λe g=>e=.returned (.bool (Cw f most))/\Da w.heap.size w g:=by
 obtain⟨i,cap,rfl⟩:=d.shape;have h:=la d;go_enter func53,ntmps53;go_wp2_with (go_at_call 94;refine(cO _ f most _ _ B (wa _) b c ?_ ?_).mono ?_;(simp;omega);exact Fo.In.below ((za _ _).alloc ja _) _ _ h.o;rintro e g ⟨rfl,a⟩);go_ret;exact⟨rfl,((za _ _).alloc ja _).trans (a.mono Aa)⟩
def Mv(p:Pv):Bool:=Cw p.cond 250&& decide (p.except.length<=30)&& decide (p.id.size<=100)&& decide (p.name.size<=100)&& p.except.all λs=>decide (s.size<=100)
def lr(d:List Fa)(a:List Pv)(n:Int):Bool:=decide ((a.length:Int)<=n)&& decide (d.length<=70)&& a.all Mv
theorem Pv.Dg:(prog.info? 38).map (·.size)=some 23:=by kernel_rfl
theorem VE(p:Pv)(h:(30:Int)<p.except.length\/(100:Int)<p.id.size\/(100:Int)<p.name.size):Mv p=false:=by
 grind [Mv]
theorem ZS(p:Pv)(hs:Cw p.cond 250=true)(a:(p.except.length:Int)<=30)(b:(p.id.size:Int)<=100)(c:(p.name.size:Int)<=100):
  Mv p=p.except.all λs=>decide (s.size<=100):=by
 grind [Mv]
theorem LV(d:List Fa)(g:List Pv)(n:Int)(v:Ea)(w:Ca)(B:Nat)(hn0:0<=n)(CJ:n<=1000)(hB:B<=w.heap.size)(hl:ur w B d g v):
  Db 24 #[v,pa n] w λe w'=>e=.returned (.bool (lr d g n))/\Da w.heap.size w w':=by
 obtain⟨u1,u2,asn,ns,cs,rfl,hd,hp⟩:=hl;obtain⟨ad,cd,rfl,d1,d2,_⟩:=Sa.shape hd;obtain⟨ap,cp,rfl,p1,p2,_⟩:=Sa.shape hp;unfold maxLen at d2 p2;have HP:=la hp;clear hd hp;by_cases U:g.length<=n
 ·have Z:decide (n<g.length)=false:=by simpa using U
  by_cases h2:d.length<=70
  ·have h2d:decide (70<(d.length:Int))=false:=by simp;omega
   have G:Hid (lr d g n=g.all Mv):=by show _=_;unfold lr;simp[U,h2]
   generalize lr d g n=R at*
   go_enter func24,ntmps24;go_wp2
   go_loopw [5] (λi wr=>∃k:Nat,k<=g.length/\i=pa k/\Hid ((g.take k).all Mv=true)/\Da w.heap.size w wr/\w.heap.size<wr.heap.size/\
    wr.cell? (Ja w.heap.size 1)=some (.slice ap g.length cp)) (λi _=>g.length-(intOf i).toNat)
   case atStart=>exact⟨0,ja,rfl,rfl,(za _ _).alloc ja _,Aa,by go_simp⟩
   case round=>
    obtain⟨k,hk,rfl,D,C,hsz,M⟩:=hrel;by_cases hlt:k<g.length
    ·obtain⟨b,off,rfl,Tn,Q,T,P,S,hr,hf,he,hz⟩:=Sa.at (HP.o.below jm.kept (C.mono hB)) k hlt
     have F:=cI Mv g k hlt;rw[D.o,tf]at F;have hno:Mv g[k]=false->R=false:=λh=>by rw[G.o];exact all_false hlt h
     generalize O:g[k]=p at*
     have I:=la hno;have HT:=la F;have HPK:=la O;have HF:=la hf;have HE:=la he;have HZ:=la hz;have K:=la hr;clear hno F O hf he hz D hr;cases hs:Cw p.cond 250 with
     | false=>
      have m:=la (I.o (by unfold Mv;simp[hs]))
      go_wp2_with (first
       | ((with_reducible show wpList _ _ _ (⟨_,Op.load 38 (.tmp 30),_,_,_,_⟩::_) _ _);refine Lc rfl (.tmp 30) rfl rfl p Q T P S K.o Tryz.underlying38 rfl Pv.Dg ?_)
       | ((with_reducible show wpList _ _ _ (⟨_,Op.store 38 (.tmp 6) (.tmp 31),_,_,_,_⟩::_) _ _);refine Vc rfl (.tmp 6) (.tmp 31) rfl p Q T P S rfl rfl ?Sj Pv.Dg ?_;(case Sj=>rfl);intro W1 f Un a Mu;have q:=a 0 _ rfl;have r:=a 3 _ rfl;have t:=a 5 _ rfl;have u:=a 6 _ rfl;have x:=a 7 _ rfl;have y:=a 8 _ rfl;have z:=a 9 _ rfl;have l:=a 10 _ rfl;have J:=la a;clear a)
       | (go_at_call 53;refine(iD p.cond 250 _ _ B ja ja ?_ ?_).mono ?_;(omega);exact Fo.In.below (f.mono ja) _ _ HF.o;rintro e w2 ⟨rfl,c⟩))
      go_ret;exact⟨Cb m.o.symm,(C.trans (f.mono ja)).trans (c.mono ja)⟩
     | true=>
      have HA:=la (ZS p hs)
      go_wp2_with (first
       | ((with_reducible show wpList _ _ _ (⟨_,Op.load 38 (.tmp 30),_,_,_,_⟩::_) _ _);refine Lc rfl (.tmp 30) rfl rfl p Q T P S K.o Tryz.underlying38 rfl Pv.Dg ?_)
       | ((with_reducible show wpList _ _ _ (⟨_,Op.store 38 (.tmp 6) (.tmp 31),_,_,_,_⟩::_) _ _);refine Vc rfl (.tmp 6) (.tmp 31) rfl p Q T P S rfl rfl ?Sj Pv.Dg ?_;(case Sj=>rfl);intro W1 f Un a Mu;have q:=a 0 _ rfl;have r:=a 3 _ rfl;have t:=a 5 _ rfl;have u:=a 6 _ rfl;have x:=a 7 _ rfl;have y:=a 8 _ rfl;have z:=a 9 _ rfl;have l:=a 10 _ rfl;have J:=la a;clear a)
       | (go_at_call 53;refine(iD p.cond 250 _ _ B ja ja ?_ ?_).mono ?_;(omega);exact Fo.In.below (f.mono ja) _ _ HF.o;rintro e w2 ⟨rfl,c⟩;have q10:=(c.cell (p:=Ja wr.heap.size 10) (by simp;omega)).trans l;have q0:=(c.cell (p:=Ya wr.heap.size) (by simp;omega)).trans q;have q3:=(c.cell (p:=Ja wr.heap.size 3) (by simp;omega)).trans r;have BA:=c.size))
      {have m:=la (I.o (VE p ja));go_ret;exact⟨Cb m.o.symm,(C.trans (f.mono ja)).trans (c.mono ja)⟩}
      ·have H:=la (HA.o ja ja ja)
       have V:=la (Sc.below ((f.mono ja).trans (c.mono ja)) HE.o);have L:=la ((C.trans (f.mono ja)).trans (c.mono ja));have Y:=(c.cell (by simp;omega)).trans ((f.cell ja).trans M);have hlen:p.except.length<=30:=by omega
       clear f c HE HA q r t u x y z l q0 q3 J M
       go_loop [7] (λi=>∃j:Nat,j<=p.except.length/\i=pa j/\Hid ((p.except.take j).all (λs=>decide (s.size<=100))=true)) (λi=>p.except.length-(intOf i).toNat)
       case atStart=>exact⟨0,ja,rfl,rfl⟩
       case round=>
        obtain⟨j,hj,rfl,N⟩:=hrel;by_cases E:j<p.except.length
        {obtain⟨b3,o3,rfl,jB,H'⟩:=Sa.one V.o j E;have ht:=cI (λs=>decide (s.size<=100)) _ j E;rw[N.o,tf]at ht;have W:=la ht;clear ht;by_cases A:p.except[j].size<=100;{(have g4:decide (100<(p.except[j].size:Int))=false:=by simp;omega);(have X:Hid ((p.except.take (j+1)).all (λs=>decide (s.size<=100))=true):=by have:=W.o;show _=_;rw[this];simpa using A);go_wp2;go_round;(case rel=>exact⟨_,ja,by go_num,X⟩);case measure=>simp[intOf];omega};{(have g4:100<(p.except[j].size:Int):=ja);have m:=la (I.o (by rw[H.o];exact all_false E (by simpa using A)));go_wp2;go_ret;exact⟨Cb m.o.symm,L.o⟩}}
        ·have HY:Hid (Mv p=true):=by
          have:=N.o;rw[Kc ja]at this
          show _=_
          rw[H.o,this]
         go_wp2;go_roundw
         case rel=>exact⟨k+1,ja,by go_num,by have h:=HT.o;rw[HY.o]at h;exact h,L.o,ja,Y⟩
         case measure=>simp[intOf];omega
      {have m:=la (I.o (VE p ja));go_ret;exact⟨Cb m.o.symm,(C.trans (f.mono ja)).trans (c.mono ja)⟩}
      {have m:=la (I.o (VE p ja));go_ret;exact⟨Cb m.o.symm,(C.trans (f.mono ja)).trans (c.mono ja)⟩}
    ·have m:Hid (R=true):=by
      have:=D.o;rw[Kc ja]at this
      show _=_
      rw[G.o,this]
     go_wp2;go_ret;exact⟨Cb m.o.symm,C⟩
  {(have h2d:decide (70<(d.length:Int))=true:=by simp;omega);(have G:Hid (lr d g n=false):=by show _=_;unfold lr;simp[h2]);generalize lr d g n=R at*;go_enter func24,ntmps24;go_wp2;go_ret;exact⟨Cb G.o.symm,(za _ _).alloc ja _⟩}
 {(have Z:decide (n<g.length)=true:=by simpa using U);(have G:Hid (lr d g n=false):=by show _=_;unfold lr;simp[U]);generalize lr d g n=R at*;go_enter func24,ntmps24;go_wp2;go_ret;exact⟨Cb G.o.symm,(za _ _).alloc ja _⟩}
theorem jD:∀(a:List Fo) (most n:Int),0<=most->1<=n->n<=most+1->n<=di a most n
 | [],most,n,_,_,_=>by rw[di];omega
 | k::a,most,n,b,c,d=>by{rw[di];(split);{have:=Uq k (most-n) ja;have:=jD a most (n+gj k (most-n)) b ja ja;omega};{omega}}
mutual
theorem kD:∀(f:Fo) (most:Int),0<=most->gj f most<=most->gj f most=(f.size:Int)
 | .mk _ _ _ _ a,most,b,h=>by{rw[gj]at h⊢;rw[lD a most 1 ja ja ja h,Fo.size];omega}
theorem lD:∀(a:List Fo) (most n:Int),0<=most->1<=n->n<=most+1->di a most n<=most->di a most n=n+(Fo.Cd a:Int)
 | [],most,n,_,_,_,_=>by rw[di,Fo.Cd];omega
 | k::a,most,n,c,e,f,h=>by{rw[di]at h⊢;by_cases b:n<=most;{rw[Ga b]at h⊢;have g:=Uq k (most-n) ja;have i:=jD a most (n+gj k (most-n)) ja ja ja;have d:=kD k (most-n) ja ja;rw[lD a most _ c ja ja h,d,Fo.Cd];omega};{rw[if_neg b]at h;omega}}
end
theorem pH{f:Fo}(h:Cw f j=true):f.size<=j:=by
 grind [Cw,kD]
end Go.Proofs.YtdipkbobalnilaaGreatDoor
