/- The walk of And's recursion. Bounds on the table. -/
import Derived.Test.YtdipkbobalnilaaGreatDoorAl
import Derived.Test.YtdipkbobalnilaaGreatDoorDgAX
set_option maxRecDepth 100000
set_option maxHeartbeats 4000000
namespace Go.Proofs.YtdipkbobalnilaaGreatDoor
open Tryz
open Go.RowKit
variable{j:Nat}{T:List Dn}{D:List Fa}{C:List Int}{A:Option Addr}{g G:Nat->Int}{L:Act}{M:Oper}
def Su(l:List Int)(n:Int):Nat:=l.findIdx λx=>decide (n<=x)
def Zj(l:List Int)(n b a:Int):List Int:=
 if n<b\/a<n then l else if Su l n<l.length/\l.getD (Su l n) 0=n then l else l.take (Su l n)++[n]++l.drop (Su l n)
theorem pt(l:List Int)(n b a:Int):(Zj l n b a).length<=l.length+1/\l.length<=(Zj l n b a).length:=by
 grind [Zj]
theorem JD{w:Ca}{n c:Nat}{ty:TypeId}{v:Ea}{m:List Int}{e:Addr}(b:w.ownsRow j 3 1 v n (C.map iW))(k:∀a u,(m.map iW)[a]? =some u->w.cell? (e.add a)=some u)(hlen:n+m.length<=4000000)(i:j<=w.heap.size):
  ∃v' d,(Builtin.append_ #[26,26] ty #[v,.slice (some e) m.length c]).run prog w=.ok v' d/\d.ownsRow j 3 1 v' (n+m.length) ((C++m).map iW)/\w.grownBy d v.ownBlock:=by
 obtain⟨o,f,g,b2,h⟩:=info_parts Hl;obtain⟨v',d,p,q,r,_,_⟩:=run_append_own_at w j 26 ty 3 o _ 1 8 Tryz.underlying26 f g b2 h rfl Ba v n _ b e m.length c _ Aa k (λu l=>by obtain⟨s,_,rfl⟩:=List.mem_map.1 l;rfl) (by unfold maxLen;omega) ja i
 grind
theorem Me{ops:Array Oper}{rest:List Oper}{Q:Exit->Act->Ca->Prop}{w:Ca}(o:M.guard=none)(x y:Operand)(q:M.op=.call {callee:=.builtin .append,args:=#[x,y],argTypes:=#[26,26]})
  (base:Nat) (v:Ea) (n:Nat) (l:List Int) (s:L.eval x=v) (a:w.ownsRow base 3 1 v n (l.map iW)) (m:List Int) (d:Nat) (e:m.length=d) (f:Addr) (c:Nat) (t:L.eval y=.slice (some f) d c)
  (p:∀j u,(m.map iW)[j]? =some u->w.cell? (f.add j)=some u) (hlen:n+d<=4000000) (k:base<=w.heap.size)
  (i:∀v' b,b.ownsRow base 3 1 v' (n+d) ((l++m).map iW)->w.grownBy b v.ownBlock->wpList prog ops Q rest (L.put M.dst v') b):wpList prog ops Q (M::rest) L w:=by
 subst e;refine wpList_plain o λz hK'=>?_
 obtain⟨v',b,r,g,h⟩:=JD (ty:=M.type) (c:=c) a p hlen k;unfold Oper.wp execOp;simp only[q,resolve,invoke,builtin,Sem.run_bind,Sem.run_pure,Result.andThen_ok,Le,Eb,sd,s,t,r];exact hK' _ _ (i v' b g h)
def IF(W:Ca)(base:Nat)(v:Ea):Prop:=∀a n c,v=.slice (some a) n c->base<=a.block/\∃b,W.heap[a.block]? =some (.cells b 3 (0,0))
theorem IF.below{W b:Ca}{v:Ea}(h:IF W j v)(i:Da W.heap.size W b):IF b j v:=λa n c e=>by
 obtain⟨g,f,d⟩:=h a n c e;exact⟨g,f,(i.block _ (Array.getElem?_eq_some_iff.1 d).1).trans d⟩
theorem Cy{W:Ca}{b n:Nat}{v:Ea}{i:List Ea}(h:W.ownsRow b 3 1 v n i)(o:j<=b):IF W j v:=λa m c e=>by
 rcases h.2 with⟨f,_⟩|⟨g,cap,d,f,k,l,_⟩
 all_goals grind
theorem DU(l:List Int)(n Z O:Int)(v:Ea)(w:Ca)(hne:l≠[])(hl:IntsIn w w.heap.size l v)(hlen:l.length<=1000000):
  Db 131 #[v,pa n,pa Z,pa O] w λe Q=>∃u,e=.returned u/\IntsIn Q Q.heap.size (Zj l n Z O) u/\Da w.heap.size w Q/\∀base,base<=w.heap.size->IF w base v->IF Q base u:=by
 have Y:=la hl;obtain⟨ao,cap,rfl,l1,l2,l3⟩:=Sa.shape hl;obtain⟨b,off,rfl,Tn⟩:=l3 hne;unfold maxLen at l2;obtain⟨R,hR⟩:∃R,Zj l n Z O=R:=⟨_,rfl⟩;rw[hR];by_cases g1:n<Z
 {(have g1d:decide (n<Z)=true:=by simpa using g1);(have H:R=l:=by rw[<-hR];unfold Zj;rw[Ga ja]);subst H;go_enter func131,ntmps131;go_wp2;go_ret;exact⟨_,rfl,Y.o,za _ _,λ_ _ h=>h⟩}
 ·have g1d:decide (n<Z)=false:=by simpa using g1
  by_cases g2:O<n
  {(have g2d:decide (O<n)=true:=by simpa using g2);(have H:R=l:=by rw[<-hR];unfold Zj;rw[Ga ja]);subst H;go_enter func131,ntmps131;go_wp2;go_ret;exact⟨_,rfl,Y.o,za _ _,λ_ _ h=>h⟩}
  ·have g2d:decide (O<n)=false:=by simpa using g2
   have BO:R=if Su l n<l.length/\l.getD (Su l n) 0=n then l else l.take (Su l n)++[n]++l.drop (Su l n):=by{rw[<-hR];unfold Zj;rw[if_neg ja]}
   have EO:Su l n<=l.length:=List.findIdx_le_length
   have J:Hid (∀j,(h:j<l.length)->j<Su l n->l[j]<n):=λj h hj=>by{have:=List.not_of_lt_findIdx hj;simp at this;exact this}
   have I:Hid (∀h,n<=l[Su l n]):=λh=>by{have q:=List.findIdx_getElem (w:=h);have q2:decide (n<=l[Su l n])=true:=q;simpa using q2}
   have N:=la BO;clear hR BO g1 g2 hl l3;generalize Su l n=kx at*
   go_enter func131,ntmps131;go_wp2
   go_loopw [9] (λkv wr=>∃k:Nat,k<=kx/\kv=pa k/\Hid (wr=w)) (λkv _=>kx-(intOf kv).toNat)
   case atStart=>exact⟨0,ja,rfl,rfl⟩
   case round=>
    obtain⟨k,hk,rfl,X⟩:=hrel;have X:=X.o;subst X;by_cases hlt:k<kx
    {(have P:k<l.length:=ja);have hx:=J.o k P hlt;obtain⟨b',o',e,_,hc⟩:=Sa.one Y.o k P;(obtain⟨rfl,rfl⟩:b=b'/\off=o':=by simpa using e);(have hxd:decide (l[k]<n)=true:=by simpa using hx);clear e hx;generalize l[k]=x at*;go_wp2;go_roundw;(case rel=>exact⟨k+1,ja,by go_num,(trivial)⟩);case measure=>simp[intOf];omega}
    ·have JY:k=kx:=by omega
     subst JY;have W:(l.take k).length=k:=by rw[de];omega
     have V:(l.drop k).length=l.length-k:=List.length_drop
     have K:∀i u,(l.map iW)[i]? =some u->wr.cell? (Ja b (off+i))=some u:=λi u D=>by{rw[gd]at D;obtain⟨z,hz,rfl⟩:=Option.map_eq_some_iff.1 D;obtain⟨O,rfl⟩:=List.getElem?_eq_some_iff.1 hz;obtain⟨b',o',e,_,hc⟩:=Sa.one Y.o i O;(obtain⟨rfl,rfl⟩:b=b'/\off=o':=by simpa using e);exact hc}
     have M:Hid (Da _ wr (wr.alloc (.cells #[] 3))):=(za _ _).alloc (wa _) _
     have E:Hid ((wr.alloc _).ownsRow _ 3 1 _ 0 (([]).map iW)):=
      ⟨rfl,.inr ⟨_,0,#[],rfl,wa _,World.alloc_heap_new _ _,wa _,Lb _,rfl,Aa⟩⟩
     have S:Hid (∀j u,((l.take k).map iW)[j]? =some u->(wr.alloc (.cells #[] 3)).cell? ((Ja b off:Addr).add j)=some u):=λj u D=>by{have:(l.map iW)[j]? =some u:=by{rw[List.map_take]at D;rw[List.getElem?_take]at D;(split at D);{exact D};{cases D}};rw[Addr.add_mid];exact(M.o.cell Tn).trans (K j u this)}
     have V5:Hid (∀Q,Da wr.heap.size wr Q->∀j u,((l.drop k).map iW)[j]? =some u->Q.cell? ((Ja b (off+k):Addr).add j)=some u):=λQ AI j u D=>by{rw[nh,List.getElem?_drop]at D;rw[Addr.add_mid,Nat.add_assoc];exact(AI.cell Tn).trans (K _ u D)}
     clear K;have G:¬(k<l.length/\l.getD k 0=n)->R=l.take k++[n]++l.drop k:=λh=>by rw[N.o,if_neg h]
     by_cases h1:k<l.length
     {have hx:=I.o h1;obtain⟨b',o',e,_,hc⟩:=Sa.one Y.o k h1;(obtain⟨rfl,rfl⟩:b=b'/\off=o':=by simpa using e);(have hxd:decide (l[k]<n)=false:=by simp;omega);have T:l.getD k 0=l[k]:=Gd _ _ _ h1;rw[T]at G;have HRB:=la G;have U:=N.o;rw[T]at U;have HR3:=la U;clear e hx T G U N I J;generalize l[k]=x at*;cases e3:(x==n)with| true=>{(have H:R=l:=by rw[HR3.o,Ga ⟨h1,by simpa using e3⟩]);subst H;go_wp2;go_ret;exact⟨_,rfl,Y.o,za _ _,λ_ _ h=>h⟩}| false=>{have HS:Hid _:=HRB.o (λh=>by rw[h.2]at e3;simp at e3);go_wp2_with (first|(at_builtin;refine Me Ra _ _ Ra wr.heap.size _ 0 [] Ra E.o (l.take k) k W (Ja b off) _ Ra S.o ja Aa ?_;intro v5 L A r;have d:=la A;have c:Hid (Da wr.heap.size wr L):=M.o.grown r Aa (λg p=>(Yh E.o g p).1);have LD:=c.o.size;clear A r)|(at_builtin;refine Me Ra _ _ Ra wr.heap.size _ _ _ Ra (d.o.alloc _) [n] 1 Ra (Ya L.heap.size) _ Ra (um (w:=L) (x:=iW n) (t:=3)) ja (by simp;omega) ?_;intro v6 w6 B s;have f:=la B;have a:Hid (Da wr.heap.size wr w6):=(c.o.alloc ja _).grown s (by simp;omega) (λg p=>(d.o.lt g p).1);have aX:=a.o.size;clear B s)|(at_builtin;refine Me Ra _ _ Ra wr.heap.size _ _ _ Ra f.o (l.drop k) (l.length-k) V (Ja b (off+k)) _ Ra (V5.o w6 a.o) ja ja ?_;intro v7 w7 C y;have m:=la C;have F:Hid (Da wr.heap.size wr w7):=a.o.grown y ja (λg p=>(Yh f.o g p).1);clear C y));(go_ret;exact⟨_,rfl,(by rw[HS.o];have q:=m.o;rw[show 0+k+1+(l.length-k)=(l.take k++[n]++l.drop k).length by simp;omega,Tb]at q;exact Ki q),F.o,λ_ hb _=>Cy m.o hb⟩)}}
     {have HS:Hid _:=G (λh=>h1 h.1);clear G N I J;by_cases Q2:k<cap;{go_wp2_with (first|(at_builtin;refine Me Ra _ _ Ra wr.heap.size _ 0 [] Ra E.o (l.take k) k W (Ja b off) _ Ra S.o ja Aa ?_;intro v5 L A r;have d:=la A;have c:Hid (Da wr.heap.size wr L):=M.o.grown r Aa (λg p=>(Yh E.o g p).1);have LD:=c.o.size;clear A r)|(at_builtin;refine Me Ra _ _ Ra wr.heap.size _ _ _ Ra (d.o.alloc _) [n] 1 Ra (Ya L.heap.size) _ Ra (um (w:=L) (x:=iW n) (t:=3)) ja (by simp;omega) ?_;intro v6 w6 B s;have f:=la B;have a:Hid (Da wr.heap.size wr w6):=(c.o.alloc ja _).grown s (by simp;omega) (λg p=>(d.o.lt g p).1);have aX:=a.o.size;clear B s)|(at_builtin;refine Me Ra _ _ Ra wr.heap.size _ _ _ Ra f.o (l.drop k) (l.length-k) V (Ja b (off+k)) _ Ra (V5.o w6 a.o) ja ja ?_;intro v7 w7 C y;have m:=la C;have F:Hid (Da wr.heap.size wr w7):=a.o.grown y ja (λg p=>(Yh f.o g p).1);clear C y));(go_ret;exact⟨_,rfl,(by rw[HS.o];have q:=m.o;rw[show 0+k+1+(l.length-k)=(l.take k++[n]++l.drop k).length by simp;omega,Tb]at q;exact Ki q),F.o,λ_ hb _=>Cy m.o hb⟩)};{(have alx:cap-k=0:=ja);have hdn:l.drop k=[]:=List.drop_eq_nil_of_le ja;go_wp2_with (first|(at_builtin;refine Me Ra _ _ Ra wr.heap.size _ 0 [] Ra E.o (l.take k) k W (Ja b off) _ Ra S.o ja Aa ?_;intro v5 L A r;have d:=la A;have c:Hid (Da wr.heap.size wr L):=M.o.grown r Aa (λg p=>(Yh E.o g p).1);have LD:=c.o.size;clear A r)|(at_builtin;refine Me Ra _ _ Ra wr.heap.size _ _ _ Ra (d.o.alloc _) [n] 1 Ra (Ya L.heap.size) _ Ra (um (w:=L) (x:=iW n) (t:=3)) ja (by simp;omega) ?_;intro v6 w6 B s;have f:=la B;have a:Hid (Da wr.heap.size wr w6):=(c.o.alloc ja _).grown s (by simp;omega) (λg p=>(d.o.lt g p).1);have aX:=a.o.size;clear B s)|(at_builtin;refine Me Ra _ _ Ra wr.heap.size _ _ _ Ra f.o (l.drop k) (l.length-k) V (Ja b off) _ Ra (λj u D=>by rw[hdn]at D;simp at D) ja ja ?_;intro v7 w7 C y;have m:=la C;have F:Hid (Da wr.heap.size wr w7):=a.o.grown y ja (λg p=>(Yh f.o g p).1);clear C y));(go_ret;exact⟨_,rfl,(by rw[HS.o];have q:=m.o;rw[show 0+k+1+(l.length-k)=(l.take k++[n]++l.drop k).length by simp;omega,Tb]at q;exact Ki q),F.o,λ_ hb _=>Cy m.o hb⟩)}}
structure js (base : Nat) (W : Ca) (l : List Int) (v : Ea) : Prop where
 ge:base<=W.heap.size
 ints:IntsIn W W.heap.size l v
 sol:IF W base v
theorem MP(base:Nat)(l:List Int)(n c b:Int)(v:Ea)(w:Ca)(hne:l≠[])(a:js base w l v)(hlen:l.length<=1000000):
  Db 131 #[v,pa n,pa c,pa b] w λe d=>∃u,e=.returned u/\js base d (Zj l n c b) u/\Da w.heap.size w d:=by
 refine(DU l n c b v w hne a.ints hlen).mono ?_;rintro e d ⟨u,rfl,g,f,h⟩;exact⟨u,rfl,⟨ub a.ge f.size,g,h base a.ge a.sol⟩,f⟩
theorem Hz{w0 W:Ca}{K:Nat}{S:List Nat}{a:Mf}(c:Dq w0 K S T a W)(x y:Nat):
  (Instr.lookup 193 (.map (some (K+2))) (.agg #[pa (x:Int),pa (y:Int)]) true).run prog W=.ok (match a.lookup (x,y)with|some k=>.tuple #[pa (k:Int),.bool true] | none=>.tuple #[pa 0,.bool false]) W:=by
 obtain⟨e,d,b⟩:=c.Vf;have q:=AM Tryz.underlying193 Fq d (x,y);rw[b]at q;cases h:a.lookup (x,y)with| some k=>rw[h]at q;exact q| none=>rw[h]at q;exact q
theorem DP{w0:Ca}{K d f:Nat}{S:List Nat}{p:List Dn}{q r s:Ea}(i:BU w0 K j d f D T p q r s)(x y:Nat)(m:List Dn)(a:Mf)(k:Nat)(n:a.lookup (x,y)=some k)(W:Ca)(b:Dq w0 K S m a W):
  Db 112 #[pa x,pa y,Ma (K+3),Ma j,Ma d,Ma f,Ma (K+1),Ma (K+4)] W λe g=>e=.returned (pa k)/\Dq w0 K S m a g/\re K [] W g:=by
 have l:=(b.Pd i.dv ⟨Ba,Ba⟩).cell 0;have c:=Hz b x y;rw[n]at c;have h:=la b;go_enter func112,ntmps112;go_wp2;go_ret;exact⟨rfl,h.o,re.refl _ _ _⟩
theorem Dy{b:Nat->Nat}{n:Dn}(h:Gq D.length g G j b n):JF D n=(Rb D.length n:Nat):=by
 unfold JF Rb;by_cases a:n.kids=[]
 ·grind
 {rw[if_neg a,if_neg a];have:=(h.inner a).2.1;omega}
def Um(d:List Fa)(a b:List Dn)(f:Nat)(m:List Dn)(c:Mf)(x y:Nat)(l:List Int):(List Dn×Mf)×List Int:=l.foldl (TB d.length a b (sJ d.length (Fg d) a b) 20000 f x y) ((m,c),[])
theorem KF{a:List Dn}{f:Nat}{m:List Dn}{b:Mf}{y:Nat}(c:b.lookup (j,y)=none)(h:Tc D.length T a j y=D.length\/20000<m.length):
  Yj D T a (f+1) m b j y=(((me m ⟨0,[],[],(T.getD j Ka).leaf&& (a.getD y Ka).leaf⟩).1,b),(me m ⟨0,[],[],(T.getD j Ka).leaf&& (a.getD y Ka).leaf⟩).2):=by
 grind [Yj,ei]
theorem LF{a:List Dn}{f:Nat}{m:List Dn}{b:Mf}{y:Nat}(c:b.lookup (j,y)=none)(h:¬(Tc D.length T a j y=D.length\/20000<m.length)):
  Yj D T a (f+1) m b j y=(((Ob (Um D T a f m b j y (sJ D.length (Fg D) T a j y)).1.1 (Tc D.length T a j y) (sJ D.length (Fg D) T a j y) (Um D T a f m b j y (sJ D.length (Fg D) T a j y)).2).1,
   ((j,y),(Ob (Um D T a f m b j y (sJ D.length (Fg D) T a j y)).1.1 (Tc D.length T a j y) (sJ D.length (Fg D) T a j y) (Um D T a f m b j y (sJ D.length (Fg D) T a j y)).2).2)::(Um D T a f m b j y (sJ D.length (Fg D) T a j y)).1.2),
   (Ob (Um D T a f m b j y (sJ D.length (Fg D) T a j y)).1.1 (Tc D.length T a j y) (sJ D.length (Fg D) T a j y) (Um D T a f m b j y (sJ D.length (Fg D) T a j y)).2).2):=by
 conv=>lhs;unfold Yj ei
 rw[c];rw[if_neg h]
 rfl
theorem cJ{d:List Fa}{ta tb:List Dn}{f:Nat}{m:List Dn}{dn:Mf}{x y:Nat}(l:List Int)(k:Nat)(a:k<l.length):Um d ta tb f m dn x y (l.take (k+1))=TB d.length ta tb (sJ d.length (Fg d) ta tb) 20000 f x y (Um d ta tb f m dn x y (l.take k)) l[k]:=by
 grind [Um,List.take_succ_eq_append_getElem]
theorem dZ{b:Nat->Nat}{n:Dn}(h:Gq D.length g G j b n):Rb D.length n<=D.length:=by
 unfold Rb;by_cases a:n.kids=[]
 ·grind
 {rw[if_neg a];exact Dh (h.inner a).2.2.1}
theorem MF(l:List Int):(qt l).length<=l.length:=by
 cases l with| nil=>exact wa _| cons a l=>grind [Hq,qt]
theorem MD(b:Prop)[Decidable b](l:List Int):(if b then l else[]).length<=l.length:=by
 grind
def NF(a:Nat)(b:Int)(i:Nat)(p q:Dn)(j:Nat):List Int:=b::((if 0<j/\Rb a p=i then p.Sb else[])++(if 1<j/\Rb a q=i then q.Sb else[]))
theorem BM{p q:Dn}{ak b ak2:Option Addr}{ck c ck2:Nat}(P:Dn->Option Addr->Nat->Prop)(l:P p A j)(m:P q b c)(d:Nat)(g:Int)(i:Nat):∀a,a<2->∃(n:Dn) (e k:Option Addr) (f o:Nat),
  (∀(wr:Ca) (R:Nat),qb wr R 104 #[pa p.fact,.slice A p.Sb.length j,.slice ak p.kids.length ck,.bool p.leaf,pa q.fact,.slice b q.Sb.length c,.slice ak2 q.kids.length ck2,.bool q.leaf]->wr.cell? (Ja R (a*4))=some (pa n.fact)/\wr.cell? (Ja R (a*4+1))=some (.slice e n.Sb.length f)/\wr.cell? (Ja R (a*4+2))=some (.slice k n.kids.length o)/\wr.cell? (Ja R (a*4+3))=some (.bool n.leaf))/\
  P n e f/\NF d g i p q (a+1)=NF d g i p q a++(if Rb d n=i then n.Sb else[])
 | 0,_=>⟨p,A,ak,j,ck,λ_ _ h=>⟨h.cell 0,h.cell 1,h.cell 2,h.cell 3⟩,l,by unfold NF;simp⟩
 | 1,_=>⟨q,b,ak2,c,ck2,λ_ _ h=>⟨h.cell 4,h.cell 5,h.cell 6,h.cell 7⟩,m,by unfold NF;simp⟩
 | n+2,h=>by omega
theorem EU{a:List Dn}{y i:Nat}{p q:Dn}(c:T.getD j Ka=p)(d:a.getD y Ka=q)(b:Tc D.length T a j y=i):sJ D.length (Fg D) T a j y=qt ((NF D.length (Fg D i) i p q 2).mergeSort λj y=>decide (j<=y)):=by
 grind [sJ,NF]
structure abN (w0 : Ca) (K : Nat) (d : List Fa) (n : Dn) (a : Option Addr) (k : Nat) : Prop where
 Sb:IntsIn w0 K n.Sb (.slice a n.Sb.length k)
 ask:JF d n=(Rb d.length n:Nat)
 Ar:n.Sb.length<=1000000
 some:Rb d.length n<d.length->n.Sb≠[]
theorem cX{w0:Ca}{K:Nat}(hd:Di D)(c:Lg D.length (Fg D) (Hi D) T)(b:j<T.length){k:Nat}(d:IntsIn w0 K T[j].Sb (.slice A T[j].Sb.length k)):abN w0 K D T[j] A k:=by
 have a:=c j b;rw[Gd _ _ _ b]at a;refine⟨d,Dy a,(Tm hd c _ (Oa b)).2,λh=>?_⟩;unfold Rb at h;by_cases e:T[j].kids=[]
 ·grind
 {exact(a.inner e).2.2.2.1}
structure FU (w3 wr : Ca) (cs : Array Ea) (ls : List Int) (sl : Ea) : Prop where
 below:Da w3.heap.size w3 wr
 row:wr.ownsRow w3.heap.size 3 1 sl ls.length (ls.map iW)
 nodes:qb wr (w3.heap.size+1) 104 cs
theorem FU.step{e wr d:Ca}{b:Array Ea}{c:Ea}(h:FU e wr b C c)(a:Da wr.heap.size wr d):FU e d b C c:=⟨h.below.trans (a.mono h.below.size),Wd h.row a,h.nodes.below a⟩
theorem FU.Zx{b k c:Ca}{d:Array Ea}{a:List Int}{i j:Ea}(h:FU b k d C i)(l:c.ownsRow b.heap.size 3 1 j (C.length+a.length) ((C++a).map iW))(f:k.grownBy c i.ownBlock):FU b c d (C++a) j:=
 ⟨h.below.grown f h.below.size (λg e=>(Yh h.row g e).1),by grind,h.nodes.grown f (λe=>int_ne Ba h.nodes h.row _ e.symm rfl)⟩
theorem CM(b:Ca)(a:Int)(c:Array Ea):FU b ((b.alloc (.cells #[pa a] 3)).alloc (.cells c 104)) c [a] (.slice (Nb b.heap.size) 1 1):=by
 refine⟨((za _ _).alloc ja _).alloc Aa _,⟨rfl,.inr ⟨_,1,#[.int _ a],rfl,ja,?_,wa _,Ba,rfl,rfl⟩⟩,?_⟩
 all_goals grind [Below.heap_alloc,World.alloc_heap_new,qb.new,World.size_alloc]
structure AnN (W wx : Ca) (bp bq : Nat) (np nq : Array Ea) : Prop where
 below:Da W.heap.size W wx
 p:qb wx bp 104 np
 q:qb wx bq 104 nq
 lp:W.heap.size<=bp
 lq:W.heap.size<=bq
theorem gL(W:Ca)(a nq:Array Ea):Hid (AnN W ((W.alloc (.cells a 104)).alloc (.cells nq 104)).drew W.heap.size (W.heap.size+1) a nq):=by
 refine⟨(((za _ _).alloc ja _).alloc Aa _).drew,(qb.new W 104 a).alloc _,?_,ja,ja⟩;have q:=qb.new (W.alloc (.cells a 104)) 104 nq;rw[Ia]at q;exact q
theorem GU(W:Ca)(a nq:Array Ea):Hid (AnN W ((W.alloc (.cells nq 104)).alloc (.cells a 104)).drew (W.heap.size+1) W.heap.size a nq):=by
 have q:=(gL W nq a).o;exact⟨q.below,q.q,q.p,q.lq,q.lp⟩
theorem NP{b:List Dn}(h:Qc D T)(i:Qc D b){f:Nat}{m:List Dn}{c:Mf}{y:Nat}(k:QA D.length (Fg D) (Hi D) T b (Uc D T) (Uc D b) 20000 m c)(e:j<T.length)(g:y<b.length)(d:Tc D.length T b j y<D.length)(n:D.length-Tc D.length T b j y<f+1)(l:List Int):
  UB D.length (Fg D) (Hi D) T b (Uc D T) (Uc D b) 20000 f m j y l (Um D T b f m c j y l):=by
 have q:=Tu h.yh i.yh (S:=sJ _ _ T b) (CF h.yh i.yh (λj y e g o=>fL h.yh i.yh e g o) f) e g d n (m:=m) l [] ((m,c),[]) ⟨k,rfl,λa p=>absurd p (Od a),⟨[],Aa⟩,by grind⟩;exact q
theorem OP{a:List Dn}(e:Qc D T)(l:Qc D a){y:Nat}(h:j<T.length)(i:y<a.length)(b:Tc D.length T a j y<D.length):0<(sJ D.length (Fg D) T a j y).length/\(sJ D.length (Fg D) T a j y).length<=1000001/\∀v∈sJ D.length (Fg D) T a j y,0<=v/\v<=1000000:=by
 have g:=(eh e.dom).Uu _ b;obtain⟨k,f,d,_⟩:=fL e.yh l.yh h i b;have m:=Vu k _ d g.2.1;rw[f];refine⟨Aa,by simp;omega,λv c=>?_⟩;rcases List.mem_cons.1 c with rfl|c
 {omega}
 {have:=Vm _ _ d v c;omega}
def YW(w0:Ca)(K i j k:Nat)(d:List Fa)(a c:List Dn)(f:Nat):Prop:=
 ∀(S:List Nat) (m:List Dn) (g:Mf) (x y:Nat) (W:Ca),(∀b∈S,b<W.heap.size)->QA d.length (Fg d) (Hi d) a c (Uc d a) (Uc d c) 20000 m g->sj m<=20100->x<a.length->y<c.length->d.length-Tc d.length a c x y<f->Dq w0 K S m g W->
  Db 112 #[pa x,pa y,Ma (K+3),Ma i,Ma j,Ma k,Ma (K+1),Ma (K+4)] W λe h=>e=.returned (pa (Yj d a c f m g x y).2)/\Dq w0 K S (Yj d a c f m g x y).1.1 (Yj d a c f m g x y).1.2 h/\re K [] W h
structure eZ (w0 : Ca) (K : Nat) (S : List Nat) (w6 : Ca) (r : (List Dn × Mf) × List Int) (kv : Ea) (wr : Ca) : Prop where
 st:Dq w0 K (Mg kv++S) r.1.1 r.1.2 wr
 VB:re K [] w6 wr
 own:wr.ownsRow w6.heap.size 3 1 kv r.2.length (r.2.map iW)
section
variable {w0 w6 wr w8 eJ : Ca} {K : Nat} {S : List Nat} {r : (List Dn × Mf) × List Int} {r' : List Dn × Mf} {kv v' : Ea}
theorem eZ.fJ(h:eZ w0 K S w6 r kv wr)(a:Dq w0 K (Mg kv++S) r'.1 r'.2 w8/\re K [] wr w8)(o:Obj):(w8.alloc o).ownsRow w6.heap.size 3 1 kv r.2.length (r.2.map iW):=
 vt h.own (a.2.alloc o) ⟨Ba,Ba⟩ Aa
theorem eZ.Zx(h:eZ w0 K S w6 r kv wr)(i:K+5<=w0.heap.size)(hw:w0.heap.size<=w6.heap.size)(c:Dq w0 K (Mg kv++S) r'.1 r'.2 w8/\re K [] wr w8){o:Obj}(j:(w8.alloc o).grownBy eJ kv.ownBlock){g:Nat}(l:v'.ownBlock=some g)(d:kv.ownBlock=some g\/g=(w8.alloc o).heap.size)
  {k:Int} (a:eJ.ownsRow w6.heap.size 3 1 v' (r.2++[k]).length ((r.2++[k]).map iW)):eZ w0 K S w6 (r',r.2++[k]) v' eJ:=by
 obtain⟨m,n⟩:=(c.1.below ((za _ _).alloc ja o)).Zx i (h.fJ c o) hw j l d;refine⟨m,?_,a⟩;refine(((h.VB.trans (c.2.alloc o)).more Aa).trans n).less λb f hlt=>?_
 have e:kv.ownBlock=some b:=by unfold Mg at f;simpa using f
 have:=(Yh h.own b e).1;omega
end
theorem EP{w0:Ca}{K PB PD:Nat}{d:List Dn}{va vb vd:Ea}(V:BU w0 K j PB PD D T d va vb vd)(gA:Qc D T)(gB:Qc D d)(f:Nat)(hf9:f<=90)(IH:YW w0 K j PB PD D T d f)
  (S:List Nat) (m:List Dn) (dn:Mf) (x y:Nat) (W:Ca) (QP:∀b∈S,b<W.heap.size) (hI:QA D.length (Fg D) (Hi D) T d (Uc D T) (Uc D d) 20000 m dn) (hmi:sj m<=20100) (hx:x<T.length) (hy:y<d.length) (hfu:D.length-Tc D.length T d x y<f+1) (hk:dn.lookup (x,y)=none) (hS:Dq w0 K S m dn W):
  Db 112 #[pa x,pa y,Ma (K+3),Ma j,Ma PB,Ma PD,Ma (K+1),Ma (K+4)] W λe W'=>e=.returned (pa (Yj D T d (f+1) m dn x y).2)/\Dq w0 K S (Yj D T d (f+1) m dn x y).1.1 (Yj D T d (f+1) m dn x y).1.2 W'/\re K [] W W':=by
 have GF:m.length<=30000:=by have:=Gl hI.made;omega
 have hdv:=(hS.Pd V.dv ⟨Ba,Ba⟩).cell 0;have Yr:=Hz hS x y;rw[hk]at Yr;have hsz:=hS.size;have G_:=V.size;have M:=hS.Hj.below ja;obtain⟨ag,cg,dX,_⟩:=Sa.shape V.ga;obtain⟨bg,dg,PT,_⟩:=Sa.shape V.gb;subst dX;subst PT;obtain⟨gb,go,rfl,aL,vpc,vpk,n0,n1,n2,n3,H_,hpk⟩:=V.ga.at x hx;obtain⟨w,ho,rfl,U2,vqc,vqk,m0,m1,m2,m3,I_,X5⟩:=V.gb.at y hy;obtain⟨_,_,e1,al1,al2,_⟩:=Sa.shape V.ga;obtain⟨_,_,e2,bl1,bl2,_⟩:=Sa.shape V.gb;cases e1
 cases e2
 unfold maxLen at al2 bl2;obtain⟨ac,cc,rfl,c1,c2,_⟩:=Sa.shape H_;obtain⟨ak,ck,rfl,k1,k2,_⟩:=Sa.shape hpk;obtain⟨F,I,rfl,c3,c4,_⟩:=Sa.shape I_;obtain⟨C,E,rfl,k3,k4,_⟩:=Sa.shape X5;have hpa:=(hS.Pd V.ab ⟨Ba,Ba⟩).cell 0;have hpb:=(hS.Pd V.bb ⟨Ba,Ba⟩).cell 0;have n0':=(M.cell aL).trans n0;have n1':=(M.cell aL).trans n1;have n2':=(M.cell aL).trans n2;have n3':=(M.cell aL).trans n3;have m0':=(M.cell U2).trans m0;have m1':=(M.cell U2).trans m1;have m2':=(M.cell U2).trans m2;have m3':=(M.cell U2).trans m3;have lPA:j<W.heap.size:=by have:=V.lta;omega
 have lPB:PB<W.heap.size:=by have:=V.ltb;omega
 have lga:gb<W.heap.size:=by omega
 have lgb:w<W.heap.size:=by omega
 have FF:x<(T.length:Int):=by omega
 have J2:y<(d.length:Int):=by omega
 have hgp:T.getD x Ka=T[x]:=Gd _ _ _ hx;have J_:d.getD y Ka=d[y]:=Gd _ _ _ hy;have pp:=gA.table x hx;have pq:=gB.table y hy;rw[hgp]at pp;rw[J_]at pq;have HE:=la V;have HS:=la hS;have K_:=la H_;have xV:=la I_;have HNP:=la (cX (eh gA.dom) gA.table hx H_);have HNQ:=la (cX (eh gB.dom) gB.table hy I_);generalize hp:T[x]=p at*
 generalize hq:d[y]=q at*
 have PP:=la pp;have PQ:=la pq;have HGP:=la hgp;have fZ:=la J_;obtain⟨GG,RP⟩:∃GG,Yj D T d (f+1) m dn x y=GG:=⟨_,rfl⟩;rw[RP];have Y5:=la RP;have HK:=la hk;have abW:=la hI;have CI:=la IH;have Z5:=la hfu;have j6:=la QP;clear hI IH hfu QP;clear RP V hS hk n0 n1 n2 n3 m0 m1 m2 m3 H_ hpk I_ X5 hp hq pp pq hgp J_ M;go_enter func112,ntmps112;go_upto_region 4 with(fail)
 go_cut[13,14] (λs13 s14 wx=>∃bp bq,s13=Ma bp/\s14=Ma bq/\Hid (AnN W wx bp bq #[pa p.fact,.slice ac p.Sb.length cc,.slice ak p.kids.length ck,.bool p.leaf] #[pa q.fact,.slice F q.Sb.length I,.slice C q.kids.length E,.bool q.leaf]))
 case first=>
  go_region
  all_goals
   go_wp2;go_meet;exact⟨_,_,rfl,rfl,by first|exact gL W _ _|exact GU W _ _⟩
 case rest=>
  obtain⟨bp,bq,rfl,rfl,hN⟩:=hcut;have FO:=la (HS.o.below hN.o.below);have KT:Hid (re K [] W wc):=re.jc hN.o.below (wa _);obtain⟨ad,cd,hvd,d1,d2,_⟩:=Sa.shape HE.o.dom;subst hvd;unfold maxLen at d2;have hsc:=hN.o.below.size;have hpd:=FO.o.Pd HE.o.db ⟨Ba,Ba⟩;have yM:=(eh gA.dom).len
  have IU:Hid (∀c,Db 113 #[.agg #[pa p.fact,.slice ac p.Sb.length cc,.slice ak p.kids.length ck,.bool p.leaf],.agg #[.slice ad D.length cd]] c λe w''=>e=.returned (pa (Rb D.length p:Nat))/\Hid (Da c.heap.size c w'')):=λc=>by{have h:=ND p D ac ak ad cc ck cd c;rw[Dy PP.o]at h;exact h}
  have HAQ:Hid (∀c,Db 113 #[.agg #[pa q.fact,.slice F q.Sb.length I,.slice C q.kids.length E,.bool q.leaf],.agg #[.slice ad D.length cd]] c λe w''=>e=.returned (pa (Rb D.length q:Nat))/\Hid (Da c.heap.size c w'')):=λc=>by{have h:=ND q D F C ad I E cd c;rw[Dy PQ.o]at h;exact h}
  have hi:Tc D.length T d x y=min (Rb D.length p) (Rb D.length q):=by unfold Tc;rw[HGP.o,fZ.o]
  have B:=la hi;have HPD:=la hpd
  have OD:Hid (∀c,Hid (Da wc.heap.size wc c)->(c.cell? (Ya bp)=some (pa p.fact)/\c.cell? (Ja bp 1)=some (.slice ac p.Sb.length cc)/\c.cell? (Ja bp 2)=some (.slice ak p.kids.length ck)/\c.cell? (Ja bp 3)=some (.bool p.leaf)/\c.cell? (Ya bq)=some (pa q.fact)/\c.cell? (Ja bq 1)=some (.slice F q.Sb.length I)/\c.cell? (Ja bq 2)=some (.slice C q.kids.length E)/\c.cell? (Ja bq 3)=some (.bool q.leaf)/\c.cell? (Ya PD)=some (.slice ad D.length cd))/\Hid (Da wc.heap.size wc c)):=λc w=>by{have k1:=hN.o.p.below w.o;have k2:=hN.o.q.below w.o;have k3:=HPD.o.below w.o;exact⟨⟨k1.cell 0,k1.cell 1,k1.cell 2,k1.cell 3,k2.cell 0,k2.cell 1,k2.cell 2,k2.cell 3,k3.cell 0⟩,w⟩}
  have iL:Hid (Da wc.heap.size wc _):=(za _ _).drew;obtain⟨rp,hrp⟩:∃rp,Rb D.length p=rp:=⟨_,rfl⟩;obtain⟨rq,DM⟩:∃rq,Rb D.length q=rq:=⟨_,rfl⟩;rw[hrp]at IU B;rw[DM]at HAQ B;have HRP:=la hrp;have HRQ:=la DM;clear hi hpd hdv Yr hpa hpb n0' n1' n2' n3' m0' m1' m2' m3' hrp DM;go_upto_region 5 with(fail)
  go_region_held3 (λc=>(c.cell? (Ya bp)=some (pa p.fact)/\c.cell? (Ja bp 1)=some (.slice ac p.Sb.length cc)/\c.cell? (Ja bp 2)=some (.slice ak p.kids.length ck)/\c.cell? (Ja bp 3)=some (.bool p.leaf)/\c.cell? (Ya bq)=some (pa q.fact)/\c.cell? (Ja bq 1)=some (.slice F q.Sb.length I)/\c.cell? (Ja bq 2)=some (.slice C q.kids.length E)/\c.cell? (Ja bq 3)=some (.bool q.leaf)/\c.cell? (Ya PD)=some (.slice ad D.length cd))/\Hid (Da wc.heap.size wc c))
   (exact OD.o _ La)
   (first
    | (go_at_call_of 113 ac;refine(IU.o _).mono ?_;rintro e w2 ⟨rfl,k6⟩;have OA:Hid (Da wc.heap.size wc w2):=(show Hid (Da wc.heap.size wc _) by assumption).o.trans (k6.o.mono (show Hid (Da wc.heap.size wc _) by assumption).o.size))
    | (go_at_call_of 113 F;refine(HAQ.o _).mono ?_;rintro e w3 ⟨rfl,o6⟩;have O:Hid (Da wc.heap.size wc w3):=(show Hid (Da wc.heap.size wc _) by assumption).o.trans (o6.o.mono (show Hid (Da wc.heap.size wc _) by assumption).o.size)))
  go_split_ands;obtain⟨i,hi⟩:∃i,min rp rq=i:=⟨_,rfl⟩;rw[hi]at B;have gZ:min (rp:Int) rq=i:=by omega
  rw[gZ];have H:=la (FO.o.below O.o);have L_:Hid _:=KT.o.trans (re.jc O.o (wa _));have r6:=(H.o.Pd HE.o.mv ⟨Ba,Ba⟩).cell 0;obtain⟨_,⟨mv,mo,xs,g1,g2,g3,_⟩,_⟩:=H.o.is;obtain⟨ma,mc,IP⟩:=Xd g2;have M_:xs.length=m.length:=by rw[<-g3,Va]
  subst IP;have YK:=g1.cell 0;rw[M_]at YK;have A6:=la hi;clear g1 g2 g3 M_ gZ hi IU HAQ iL OA k6 o6;by_cases Z:i=D.length\/20000<m.length
  ·have V2:=la (KF (f:=f) HK.o (Z.imp (λh=>B.o.trans h) id))
   have B6:=la (show(⟨0,[],[],(T.getD x Ka).leaf&& (d.getD y Ka).leaf⟩:Dn)=⟨0,[],[],p.leaf&& q.leaf⟩ by rw[HGP.o,fZ.o]);obtain⟨bl,CA⟩:∃bl,(p.leaf&& q.leaf)=bl:=⟨_,rfl⟩;have HN:=la (Jp K K S m ⟨0,[],[],bl⟩ _ _ _ H.o.is (Wf.nil _ _ _) (Wf.nil _ _ _) ja ⟨⟨by show(-9223372036854775808)<=0;decide,by show 0<=9223372036854775807;decide⟩,Aa,Aa,Aa,Aa⟩ (HE.o.Cq.on (H.o.Hj.below ja)))
   have DA:Hid (GG=(((me m ⟨0,[],[],bl⟩).1,dn),(me m ⟨0,[],[],bl⟩).2)):=by{show _=_;rw[<-Y5.o,V2.o,B6.o,CA]}
   have EM:(i==(D.length:Int))=true\/((i==(D.length:Int))=false/\decide (20000<(m.length:Int))=true):=by{by_cases h:i=D.length;{left;simp[h]};{right;exact⟨by simpa using(by omega:¬(i:Int)=D.length),by simp;omega⟩}}
   clear V2 Y5 B6 Z;generalize(me m _).2=r2 at*
   generalize(me m _).1=r1 at*
   rcases EM with EM|⟨EM,hd3⟩
   all_goals
    cases X2:p.leaf
    all_goals
     rw[X2]at CA;simp only[Bool.false_and,tf]at CA;subst CA;go_wp2_with (go_at_call 48;refine HN.o.mono ?_;rintro e w4 ⟨rfl,h2,h3⟩;have H2:=la (H.o.step h3 h2);have HM:=la (L_.o.trans h3.s);clear h2 h3);go_ret;rw[DA.o];exact⟨rfl,H2.o,HM.o⟩
  ·have JU:i<D.length:=by
    have h1:=dZ PP.o;rw[HRP.o]at h1;have h2:=A6.o;omega
   have jL:m.length<=20000:=by omega
   have V2:=la (LF (f:=f) HK.o (λh=>Z (h.imp (λh=>B.o.symm.trans h) id)));have hie:(i==(D.length:Int))=false:=by simpa using(by omega:¬(i:Int)=D.length)
   have hdd:decide (20000<(m.length:Int))=false:=by simp;omega
   obtain⟨db,df,rfl,C6,f0,f1,f2,f3,_⟩:=HE.o.dom.at i JU;have D6:D[i].lo=Fg D i:=by unfold Fg;rw[Gd]
   rw[D6]at f2;have VW:=((H.o.Hj.below ja).cell C6).trans f2;have alT:i<(D.length:Int):=by omega
   have lPD:=Zb HPD.o.lt O.o.size;obtain⟨lo,QT⟩:∃lo,Fg D i=lo:=⟨_,rfl⟩;rw[QT]at VW;have HLO:=la QT;clear Z f0 f1 f2 f3 D6 QT;have Y2:=Zb hN.o.p.lt O.o.size;have hqs:=Zb hN.o.q.lt O.o.size;go_upto_region 8 with(fail);clear r6 YK hie hdd;go_upto_region 10 with(fail);have KU:=CM w3 lo #[pa p.fact,.slice ac p.Sb.length cc,.slice ak p.kids.length ck,.bool p.leaf,pa q.fact,.slice F q.Sb.length I,.slice C q.kids.length E,.bool q.leaf];obtain⟨W5,hW5⟩:∃W5,((w3.alloc (.cells #[pa lo] 3)).alloc (.cells #[pa p.fact,.slice ac p.Sb.length cc,.slice ak p.kids.length ck,.bool p.leaf,pa q.fact,.slice F q.Sb.length I,.slice C q.kids.length E,.bool q.leaf] 104))=W5:=⟨_,rfl⟩;rw[hW5]at KU⊢;have E6:=la KU;have Z2:=la (BM (ak:=ak) (ck:=ck) (ak2:=C) (ck2:=E) _ HNP.o HNQ.o D.length lo i);clear hW5 KU VW C6
   go_loopw [16,84] (λsl iv wr=>∃a:Nat,a<=2/\iv=pa a/\Hid (FU w3 wr #[pa p.fact,.slice ac p.Sb.length cc,.slice ak p.kids.length ck,.bool p.leaf,pa q.fact,.slice F q.Sb.length I,.slice C q.kids.length E,.bool q.leaf] (NF D.length lo i p q a) sl)) (λ_ iv _=>2-(intOf iv).toNat)
   case atStart=>exact⟨0,ja,rfl,by simpa[NF]using E6⟩
   case round=>
    obtain⟨a,hj,rfl,hL⟩:=hrel;obtain⟨sa,sc,SP⟩:=Xd hL.o.row;subst SP;clear E6;have alW:=(HPD.o.below (O.o.trans (hL.o.below.mono O.o.size))).cell 0;have alX:=Zb lPD hL.o.below.size;by_cases hlt:a<2
    {obtain⟨n,a1,a2,k1,k2,hc,hn,A⟩:=Z2.o a hlt;obtain⟨c0,c1',c2',c3'⟩:=hc wr _ hL.o.nodes;have HNO:=la hn;have F6:=la A;(have abY:(a:Int)<2:=ja);have lR:=hL.o.nodes.lt;have G6:=la (λc=>ND n D a1 a2 (fe db df) k1 k2 cd c);have HRN:=la hn.ask;have alY:(NF D.length lo i p q a).length+n.Sb.length<=3000001:=by{have h1:=HNP.o.Ar;have h2:=HNQ.o.Ar;have h3:=hn.Ar;have h4:(NF D.length lo i p q a).length<=1+p.Sb.length+q.Sb.length:=by{unfold NF;have q1:=MD (0<a/\Rb D.length p=i) p.Sb;have q2:=MD (1<a/\Rb D.length q=i) q.Sb;rw[Qb,Qa];omega};omega};have h3z:=hL.o.below.size;have HCC:Hid (∀c,Da w3.heap.size w3 c->∀cb co,a1=some ⟨cb,co,none⟩->∀jj u,(n.Sb.map iW)[jj]? =some u->c.cell? (Addr.add (Ja cb co) jj)=some u):=by{intro c w cb co e jj u hu;rw[gd]at hu;obtain⟨z,hz,rfl⟩:=Option.map_eq_some_iff.1 hu;obtain⟨YI,rfl⟩:=List.getElem?_eq_some_iff.1 hz;obtain⟨b',o',e',hbK,hcell⟩:=Sa.one HNO.o.Sb jj YI;rw[e]at e';(cases e');have ace:=(H.o.Hj.below ja).trans (w.mono (by have:=H.o.size;omega));have q:=(ace.cell hbK).trans hcell;rw[Addr.add];(split);{next hz=>subst hz;exact q};{exact q}};(have Mw:∀w6,Da (wr.heap.size+1) (wr.alloc (.cells #[pa n.fact,.slice a1 n.Sb.length k1,.slice a2 n.kids.length k2,.bool n.leaf] 104)) w6->FU w3 w6 #[pa p.fact,.slice ac p.Sb.length cc,.slice ak p.kids.length ck,.bool p.leaf,pa q.fact,.slice F q.Sb.length I,.slice C q.kids.length E,.bool q.leaf] (NF D.length lo i p q a) (.slice sa (NF D.length lo i p q a).length sc)/\w6.cell? (Ja wr.heap.size 1)=some (.slice a1 n.Sb.length k1):=λw6 w=>by{refine⟨hL.o.step (((za _ _).alloc ja _).trans (w.mono ja)),?_⟩;exact((qb.new wr 104 _).below (w.mono Aa)).cell 1});have Mw:=la Mw;clear hL;generalize NF _ lo i p q a=ls at*;by_cases N_:Rb D.length n=i;{(have iZ:(Rb D.length n:Nat)==(i:Int):=by simp[N_]);have hcn:=hn.some ja;obtain⟨cb,co,rfl⟩:∃cb co,a1=some ⟨cb,co,none⟩:=by{obtain⟨cb,co,e,_⟩:=Sa.one hn.Sb 0 (List.length_pos_iff.2 hcn);exact⟨cb,co,e⟩};rw[Ga N_]at A;have jZ:=la A;clear A hn N_ hcn;go_upto_region 13 with(go_at_call 113;refine(G6.o _).mono ?_;rintro e w6 ⟨rfl,I6⟩;rw[HRN.o];obtain⟨J6,z1⟩:=Mw.o w6 (by simpa using I6);have j3:=la J6;clear J6 I6);have h6z:=j3.o.below.size;have acf:=la (HCC.o w6 j3.o.below cb co rfl);go_wp2_with (at_builtin;apply Me Ra _ _ Ra _ _ _ ls Ra j3.o.row _ _ rfl _ _ Ra acf.o ja ja;intro v7 w7 LU kL;have T9:=la (j3.o.Zx LU kL);clear LU kL);go_roundw;(case rel=>exact⟨a+1,ja,by go_num,by rw[jZ.o];exact T9⟩);case measure=>simp[intOf];omega};{(have iZ:((Rb D.length n:Nat)==(i:Int))=false:=by simpa using ja);rw[if_neg N_,ud]at A;have jZ:=la A;go_wp2_with (go_at_call 113;refine(G6.o _).mono ?_;rintro e w6 ⟨rfl,I6⟩;rw[HRN.o];obtain⟨J6,z1⟩:=Mw.o w6 (by simpa using I6);have j3:=la J6;clear J6 I6);go_roundw;(case rel=>exact⟨a+1,ja,by go_num,by rw[jZ.o];exact j3⟩);case measure=>simp[intOf];omega}}
    ·obtain rfl:a=2:=by omega
     have A:=EU HGP.o fZ.o (B.o);rw[HLO.o]at A;have Q:=hL.o.row
     have h2l:(NF D.length lo i p q 2).length<=3000001:=by{have h1:=HNP.o.Ar;have h2:=HNQ.o.Ar;unfold NF;have q1:=MD (0<2/\Rb D.length p=i) p.Sb;have q2:=MD (1<2/\Rb D.length q=i) q.Sb;rw[Qb,Qa];omega}
     have h2p:0<(NF D.length lo i p q 2).length:=by unfold NF;simp
     have hLB:=la hL.o.below;have P:Tc D.length T d x y<D.length:=by rw[B.o];exact JU
     obtain⟨s1,s2,s3⟩:=OP gA gB hx hy P;have HFO:=la (λl=>NP gA gB abW.o hx hy P Z5.o l);rw[B.o]at V2;obtain⟨L,hLL⟩:∃L,sJ D.length (Fg D) T d x y=L:=⟨_,rfl⟩;rw[hLL]at A s1 s2 s3 V2;have HLL:=la hLL;clear hL hLL P;generalize NF _ lo i p q 2=zs at*
     obtain⟨g,aci,e,hg,eX⟩:=Q.form h2p;cases e
     have fX:=la (Tryz.slices_Sort_int g 0 sc zs wr (Xm Q) eX ja);have SP:(zs.mergeSort λx y=>decide (x<=y)).length=zs.length:=Ci _;have gX:=la (λn os=>PF (Lib.ownsRow_putRow (q:=n) Q SP (wa _)) os);generalize(zs.mergeSort λx y=>decide (x<=y))=ys at*
     have uC:=mL Q;clear Q;go_upto_region 16 with(go_at_call 100;refine fX.o.mono ?_;rintro e w7 ⟨rfl,n7,os7,hw7⟩;have HW7:=la hw7;clear hw7);have kL:wr.grownBy w7 (some g):=by rw[HW7.o];exact WB _ _
     have R:w7.ownsRow w3.heap.size 3 1 (.slice (Nb g) ys.length sc) ys.length (ys.map iW):=by{have q:=gX.o n7 os7;rw[Kc ja, <-HW7.o]at q;rw[SP];exact q}
     have N:=Tryz.slices_Compact_int g 0 sc ys w7 (Xm R) ja ja;rw[nL, <-A]at N;have iX:=la (λq=>Lib.ownsRow_putRow (q:=q) (ys:=L++List.replicate (zs.length-L.length) 0) R (by have:=MF ys;rw[<-A]at this;simp;omega) (by have:=MF ys;rw[<-A]at this;omega));rw[SP]at N;have jX:=la N;have TP:=la (hLB.o.grown kL hLB.o.size (λk e=>by cases e;exact hg));have O_:=s2;clear N A SP R HW7 gX fX uC kL Z2;go_upto_region 17 with(go_at_call 114;refine jX.o.mono ?_;rintro e w8 ⟨rfl,n8,hw8⟩;have K6:=la hw8;clear hw8);have oL:w7.grownBy w8 (some g):=by rw[K6.o];exact Zn _
     have kX:w8.ownsRow w3.heap.size 3 1 (.slice (Nb g) L.length sc) L.length (L.map iW):=by{have q:=iX.o n8;rw[<-K6.o,List.take_left]at q;exact q}
     have UT:=la kX;have Wu:=la (TP.o.grown oL TP.o.size (λk e=>by cases e;exact hg));have DI:=la (H.o.below Wu.o);have VT:Hid _:=L_.o.trans (re.jc Wu.o (wa _));have KP:=Wu.o.size;have HSR:=la s3;have KU:Hid (eZ w0 K S w8 ((m,dn),[]) Ua w8):=⟨DI.o,re.refl _ _ _,rfl,.inl ⟨rfl,rfl⟩⟩;clear kX K6 iX jX oL hg eX s2 s3;go_upto_region 19 with(fail);have amg:L.length<=9223372036854775807:=by omega
     go_loopw [19,104] (λkv iv wr=>∃(a:Nat) (r:(List Dn×Mf)×List Int),a<=L.length/\iv=pa a/\Hid (r=Um D T d f m dn x y (L.take a))/\Hid (eZ w0 K S w8 r kv wr)) (λ_ iv _=>L.length-(intOf iv).toNat)
     case atStart=>exact⟨0,_,ja,rfl,rfl,KU⟩
     case round=>
      obtain⟨a,r,hj,rfl,hr,t⟩:=hrel;obtain⟨A3,B3,hkv⟩:=Xd t.o.own;subst hkv;have J:=HFO.o (L.take a);rw[<-hr.o]at J;have NT:r.2.length=a:=by have:=J.len;rw[de]at this;omega
      have UY:=la NT;have iZ:r.2.length<=2000000:=by omega
      have mF:=t.o.VB.size
      have Y:∀b∈Mg (.slice A3 r.2.length B3)++S,b<wr.heap.size:=λb w=>by{(rcases List.mem_append.1 w with w|w);{(have e:(Value.slice A3 r.2.length B3).ownBlock=some b:=by unfold Mg at w;simpa using w);obtain⟨_,cs,h4⟩:=Yh t.o.own b e;exact zf h4};{have:=j6.o b w;have:=O.o.size;omega}}
      clear KU NT;by_cases hlt:a<L.length
      ·have vF:wr.cell? (Ja g a)=some (pa L[a]):=by
        have q:=(vt UT.o t.o.VB ⟨Ba,Ba⟩ Aa).cellAt a ja;rw[gd,Xa hlt]at q;exact q
       have U:=cJ (d:=D) (ta:=T) (tb:=d) (f:=f) (m:=m) (dn:=dn) (x:=x) (y:=y) L a hlt;rw[<-hr.o]at U;generalize L[a]=v at*
       have amh:i<=1000000:=by omega
       have hzw:w0.heap.size<=w8.heap.size:=DI.o.size;have sA:=Li gA.yh hx JU (by rw[<-B.o];exact qe _ _) v;have sB:=Li gB.yh hy JU (by rw[<-B.o];exact Zf _ _) v;have P_:i<Tc D.length T d (oe T x i v) (oe d y i v):=by show i<min _ _;omega
       have hle:Tc D.length T d (oe T x i v) (oe d y i v)<=D.length:=ub (qe _ _) (Ug gA.table sA.1);have L6:D.length-Tc D.length T d (oe T x i v) (oe d y i v)<f:=by have:=Z5.o;rw[B.o]at this;omega
       have Q_:re K [] w0 wr:=DI.o.Hj.trans t.o.VB;have R_:Da wr.heap.size wr wr.drew:=(za _ _).drew;have P:re K [] w0 wr.drew:=Q_.trans (re.jc R_ (wa _));have YY:∀c,re K [] w0 c->Da K w0 c:=λc h=>h.below ja
       have lX:Hid (re K [] w0 wr.drew):=P
       have GO:Hid (Db 115 #[.agg #[.slice (fe gb go) T.length cg],pa (x:Int),pa (i:Int),pa v] wr.drew λe c=>e=.returned (pa ((oe T x i v:Nat):Int))/\Hid (Da wr.heap.size wr c)/\Hid (re K [] w0 c)):=by{refine(QF T x i v _ _ wr.drew K (by show K<=wr.heap.size;omega) (Sa.below br.kept (YY _ P) HE.o.ga) hx (λhne=>⟨((gA.table x hx).inner hne).2.2.2.2.1,λk hk=>(((gA.table x hx).inner hne).2.2.2.2.2.2.2 k hk).1⟩)).mono ?_;rintro e c ⟨rfl,w⟩;exact⟨rfl,R_.trans w,P.trans (re.jc w (wa _))⟩}
       have M6:Hid (∀w7,Hid (Da wr.heap.size wr w7)->Db 115 #[.agg #[.slice (fe w ho) d.length dg],pa (y:Int),pa (i:Int),pa v] w7 λe c=>e=.returned (pa ((oe d y i v:Nat):Int))/\Hid (Da wr.heap.size wr c)/\Hid (re K [] w0 c)):=by{intro w7 h7;have hm7:re K [] w0 w7:=Q_.trans (re.jc h7.o (wa _));refine(QF d y i v _ _ w7 K (by have:=h7.o.size;omega) (Sa.below br.kept (YY _ hm7) HE.o.gb) hy (λhne=>⟨((gB.table y hy).inner hne).2.2.2.2.1,λk hk=>(((gB.table y hy).inner hne).2.2.2.2.2.2.2 k hk).1⟩)).mono ?_;rintro e c ⟨rfl,w⟩;exact⟨rfl,h7.o.trans (w.mono h7.o.size),hm7.trans (re.jc w (wa _))⟩}
       have RF:Um D T d f m dn x y (L.take (a+1))=((Yj D T d f r.1.1 r.1.2 (oe T x i v) (oe d y i v)).1,r.2++[((Yj D T d f r.1.1 r.1.2 (oe T x i v) (oe d y i v)).2:Int)]):=by{rw[U];unfold TB;rw[B.o];rfl}
       have hq:=λw8 (h8:Da wr.heap.size wr w8)=>CI.o (Mg (.slice A3 r.2.length B3)++S) r.1.1 r.1.2 (oe T x i v) (oe d y i v) w8 (λb w=>by have:=Y b w;have:=h8.size;omega) J.inv (by have:=J.Ar;omega) sA.1 sB.1 L6 (t.o.st.below h8)
       obtain⟨sx,N6⟩:∃sx,oe T x i v=sx:=⟨_,rfl⟩;obtain⟨sy,hsy⟩:∃sy,oe d y i v=sy:=⟨_,rfl⟩;rw[N6]at RF hq GO;rw[hsy]at RF hq M6;obtain⟨G,hG⟩:∃G,Yj D T d f r.1.1 r.1.2 sx sy=G:=⟨_,rfl⟩;rw[hG]at RF hq;obtain⟨rr,kn⟩:=G;have O6:=la RF.symm
       have HBO:Hid (∀w8,Hid (Da wr.heap.size wr w8)->Db 112 #[pa (sx:Int),pa (sy:Int),Ma (K+3),Ma j,Ma PB,Ma PD,Ma (K+1),Ma (K+4)] w8 λe w9=>e=.returned (pa kn)/\Hid (Dq w0 K (Mg (.slice A3 r.2.length B3)++S) rr.1 rr.2 w9/\re K [] wr w9)/\Hid (re K [] w0 w9)):=by{intro w8 h8;refine(hq w8 h8.o).mono ?_;rintro e w9 ⟨rfl,h1,h2⟩;have h3:re K [] wr w9:=(re.jc h8.o (wa _)).trans h2;exact⟨rfl,⟨h1,h3⟩,Q_.trans h3⟩}
       have pL:Hid (∀c,re K [] w0 c->c.cell? (Ya (K+4))=some (.func (.func 112) #[] #[Ma (K+3),Ma j,Ma PB,Ma PD,Ma (K+1),.pointer (some ⟨K+4,0,none⟩)])/\c.cell? (Ya j)=some (.slice (fe gb go) T.length cg)/\c.cell? (Ya PB)=some (.slice (fe w ho) d.length dg)):=λc hm=>by{have k1:qb c (K+4) 194 _:=hm.keep _ _ HE.o.bv (.inr ⟨rfl,Aa⟩);have k2:qb c j 55 _:=hm.keep _ _ HE.o.ab (.inr ⟨rfl,Aa⟩);have k3:qb c PB 55 _:=hm.keep _ _ HE.o.bb (.inr ⟨rfl,Aa⟩);exact⟨k1.cell 0,k2.cell 0,k3.cell 0⟩}
       have ami:r.2.length<=2000000:=iZ;clear RF hq hG N6 hsy U sA sB P_ hle L6 Q_ R_ P YY J Y;go_upto_region 21 with(fail);refine wp_region_held_drew (S:=(λc:Ca=>Hid (re K [] w0 c))) Ha lX (λMb=>?_);refine tp 0 ?_;refine tk 1 ?v1 ?y1 ?_
       case y1=>(intro w9 Be;obtain⟨y0,y1,y2⟩:=pL.o w9 Be.o;go_simp;try with_reducible rfl)
       refine tk 2 ?v2 ?y2 ?_
       case y2=>(intro w9 Be;obtain⟨y0,y1,y2⟩:=pL.o w9 Be.o;go_simp;try with_reducible rfl)
       refine tp 3 ?_;refine tp 4 ?_;refine tp 5 ?_;refine tk 7 ?v7 ?y7 ?_
       case y7=>(intro w9 Be;obtain⟨y0,y1,y2⟩:=pL.o w9 Be.o;go_simp;try with_reducible rfl)
       refine tp 8 ?_;refine tp 9 ?_;refine tp 10 ?_;refine tr 6 (λK X=>?_)
       (go_simp;go_at_call 115;refine GO.o.mono ?_;rintro e w7 ⟨rfl,TP,mX⟩)
       refine X.o _ _ ?_ (λMb=>?_)
       {exact mX}
       clear X K
       try simp only[Act.put,sA,sB,sC]
       refine tr 11 (λK X=>?_)
       (go_simp;go_at_call 115;refine(M6.o w7 TP).mono ?_;rintro e wb ⟨rfl,AV,HMb⟩)
       refine X.o _ _ ?_ (λMb=>?_)
       {exact HMb}
       clear X K
       try simp only[Act.put,sA,sB,sC]
       refine tr 12 (λK X=>?_)
       (go_simp;go_at_call 112;refine(HBO.o wb AV).mono ?_;rintro e w9 ⟨rfl,P6,VP⟩)
       refine X.o _ _ ?_ (λMb=>?_)
       {exact VP}
       clear X K
       try simp only[Act.put,sA,sB,sC]
       refine tr 13 (λK X=>?_)
       go_simp
       refine X.o _ _ ?_ (λMb=>?_)
       {exact VP.o.alloc _}
       clear X K
       try simp only[Act.put,sA,sB,sC]
       refine tr 14 (λK X=>?_)
       (refine SF (xs:=r.2) (t.o.fJ P6.o _) Ra _ _ Ra Ra (Ya w9.heap.size) Ra (by have:=P6.o.2.size;rw[Ia];omega) ja (kn:Int) ((qb.new _ _ _).cell 0) ?_;intro g10 c10 eJ h10 MU kZ;have XP:=la (t.o.Zx G_ ja P6.o MU rfl kZ h10))
       refine X.o _ _ ?_ (λMb=>?_)
       {exact(DI.o.Hj.trans XP.o.VB)}
       clear X K
       try simp only[Act.put,sA,sB,sC]
       refine tp 15 ?_;refine wpAnyH_done Ha ?_ _;go_wp2;go_roundw
       case rel=>exact⟨a+1,(rr,r.2++[(kn:Int)]),ja,by go_num,O6,XP⟩
       case measure=>simp[intOf];omega
      ·have QD:a=L.length:=by omega
       have hrg:=hr.o;rw[QD,Ub]at hrg;have YP:=Y5.o.symm.trans V2.o;rw[<-hrg]at YP;obtain⟨q9,hq9⟩:∃q9,Ob r.1.1 i L r.2=q9:=⟨_,rfl⟩;rw[hq9]at YP;have fZ:=la YP;have nX:L.length=r.2.length:=by have:=UY.o;omega
       have acs:r.1.1.length<=30000:=by have:=Gl J.inv.made;have:=J.Ar;omega
       have JY:∀z∈r.2,0<=z/\z<=30000:=λz hz=>by{obtain⟨k,hk,rfl⟩:=Zc hz;have:=J.kids k hk;rw[Gd _ _ _ hk]at this;omega}
       have oE:0<r.2.length:=by omega
       have WT:=YB K K (Mg (.slice A3 r.2.length B3)++S) r.1.1 i L r.2 (.slice (Nb g) L.length sc) (.slice A3 r.2.length B3) wr t.o.st.is (Ki (vt UT.o t.o.VB ⟨Ba,Ba⟩ Aa)) (Ki t.o.own) Y
        ja (λe=>by rw[e]at oE;simp at oE) nX ja ja (λz hz=>by have:=HSR.o z hz;exact⟨ja,ja⟩) (λz hz=>by have:=JY z hz;exact⟨ja,ja⟩)
        (by
         rw[Gd _ _ _ oE]
         exact(JY _ (Oa _)).1) (HE.o.Cq.on (t.o.st.Hj.below ja))
       rw[hq9]at WT;have HQ:=la WT;have Q6:=(t.o.st.Pd HE.o.mv ⟨Ba,Ba⟩).cell 0;have lX:Hid (re K [] W wr):=VT.o.trans t.o.VB;clear WT YP hrg hq9 J nX Y QD JY oE acs;go_upto_region 24 with(go_at_call 108;refine HQ.o.mono ?_;rintro e ZP ⟨rfl,h2,h3⟩;have lZ:=la (t.o.st.step h3 h2);have UF:=la h3.s;clear h2 h3);have acu:=(lZ.o.Pd HE.o.dv ⟨Ba,Ba⟩).cell 0;obtain⟨mp2,jL,NU⟩:=lZ.o.Vf;obtain⟨W2,ZB,C3,JO⟩:=gJ Tryz.underlying193 jL (x,y) (q9.2:Int);have oX:(Instr.mapUpdate 193 (.map (some (K+2))) (.agg #[pa (x:Int),pa (y:Int)]) (pa (q9.2:Int))).run prog ZP=.ok () W2:=ZB;have R6:=la (lZ.o.Ey NU JO C3 jL);clear NU C3 JO Q6 jL ZB;go_wp2;go_ret;rw[fZ.o];exact⟨rfl,R6.o.1.less (λk hk=>we _ hk),(lX.o.trans UF.o).trans R6.o.2⟩
end Go.Proofs.YtdipkbobalnilaaGreatDoor
