/- The walk of Build's recursion: a text that the memo knows, whatever the limit. Bounds on the table. -/
import Derived.Test.YtdipkbobalnilaaGreatDoorAl
import Derived.Test.YtdipkbobalnilaaGreatDoorDgAX
set_option maxRecDepth 100000
set_option maxHeartbeats 4000000
namespace Go.Proofs.YtdipkbobalnilaaGreatDoor
open Tryz
variable{j:Nat}{E:TypeId}{F:Fo}
section
variable {nf : Nat} {lo hi : Nat -> Int} {σ κ : Type} [BEq κ] [LawfulBEq κ]
def Nh(nf:Nat)(a:σ->Option Bool)(S:Nat->σ->List Int)(b:Nat->σ->Int->σ)(key:Nat->σ->κ)(L:Nat):Nat->Bool->List Dn->List (κ×Nat)->Nat->σ->((List Dn×List (κ×Nat))×Bool)×Nat
 | 0,fu,m,dn,_,_=>(((m,dn),fu),0)
 | f+1,fu,m,dn,i,s=>
  match a s with
  | some d=>((((me m ⟨0,[],[],d⟩).1,dn),fu),(me m ⟨0,[],[],d⟩).2)
  | none=>
   if(fu || decide (L<m.length))=true\/i=nf then((((me m ⟨0,[],[],false⟩).1,dn),fu || decide (L<m.length)),(me m ⟨0,[],[],false⟩).2)
   else match dn.lookup (key i s)with
   | some k=>(((m,dn),false),k)
   | none=>
    let r:=(S i s).foldl (λ(c:((List Dn×List (κ×Nat))×Bool)×List Int) v=>
     let r:=Nh nf a S b key L f c.1.2 c.1.1.1 c.1.1.2 (i+1) (b i s v)
     (r.1,c.2++[(r.2:Int)])) (((m,dn),false),[])
    let q:=Ob r.1.1.1 i (S i s) r.2
    (((q.1,(key i s,q.2)::r.1.1.2),r.1.2),q.2)
def Rl(nf:Nat)(c:σ->Option Bool)(S:Nat->σ->List Int)(a:Nat->σ->Int->σ)(key:Nat->σ->κ)(L f i:Nat)(s:σ)(b:((List Dn×List (κ×Nat))×Bool)×List Int)(v:Int):((List Dn×List (κ×Nat))×Bool)×List Int:=
 ((Nh nf c S a key L f b.1.2 b.1.1.1 b.1.1.2 (i+1) (a i s v)).1,b.2++[((Nh nf c S a key L f b.1.2 b.1.1.1 b.1.1.2 (i+1) (a i s v)).2:Int)])
structure wQ (nf : Nat) (lo hi : Nat -> Int) (key : Nat -> σ -> κ) (R : Nat -> σ -> Prop) (m : List Dn) (dn : List (κ × Nat)) : Prop where
 made:Made nf lo hi m
 Vf:∀i s k,R i s->dn.lookup (key i s)=some k->k<m.length/\i<=Rb nf (m.getD k Ka)
structure jG (nf : Nat) (lo hi : Nat -> Int) (key : Nat -> σ -> κ) (R : Nat -> σ -> Prop) (L f : Nat) (m : List Dn) (i : Nat) (r : ((List Dn × List (κ × Nat)) × Bool) × Nat) : Prop where
 inv:wQ nf lo hi key R r.1.1.1 r.1.1.2
 lt:r.2<r.1.1.1.length
 oo:i<=Rb nf (r.1.1.1.getD r.2 Ka)
 grow:∃u,r.1.1.1=m++u
 Ar:sj r.1.1.1<=max (sj m) (L+f)
structure xQ (nf : Nat) (lo hi : Nat -> Int) (key : Nat -> σ -> κ) (R : Nat -> σ -> Prop) (L f : Nat) (m : List Dn) (i n : Nat) (r : ((List Dn × List (κ × Nat)) × Bool) × List Int) : Prop where
 inv:wQ nf lo hi key R r.1.1.1 r.1.1.2
 len:r.2.length=n
 kids:∀k∈r.2,0<=k/\k.toNat<r.1.1.1.length/\i<Rb nf (r.1.1.1.getD k.toNat Ka)
 grow:∃u,r.1.1.1=m++u
 Ar:sj r.1.1.1<=max (sj m) (L+f)
omit [LawfulBEq κ] in
theorem AX{key:Nat->σ->κ}{R:Nat->σ->Prop}{m:List Dn}{dn:List (κ×Nat)}(e:wQ nf lo hi key R m dn)(b:j<=nf)(L f:Nat)(fu a:Bool):
  jG nf lo hi key R L f m j ((((me m ⟨0,[],[],a⟩).1,dn),fu),(me m ⟨0,[],[],a⟩).2):=by
 have n:Br nf lo hi m ⟨0,[],[],a⟩:=⟨λ_=>⟨rfl,rfl⟩,λh=>absurd rfl h⟩;obtain⟨g,i,k,u,d⟩:=Ym e.made n;have c:=Gy m ⟨0,[],[],a⟩;rw[Ga rfl]at c;refine⟨⟨g,λp s k' o l=>?_⟩,i,?_,⟨u,d⟩,?_⟩
 {obtain⟨q,r⟩:=e.Vf p s k' o l;rw[d,aC q,Qa];exact⟨ja,r⟩}
 {show j<=Rb nf ((me m _).1.getD _ Ka);rw[k];unfold Rb;exact b}
 {show sj (me m _).1<=_;omega}
theorem uJ{a:σ->Option Bool}{S:Nat->σ->List Int}{b:Nat->σ->Int->σ}{key:Nat->σ->κ}{R:Nat->σ->Prop}
    (L:∀i s,R i s->i<=nf)
    (C:∀i s e x,R i s->R e x->key i s=key e x->i=e)
    (K:∀i s v,R i s->a s=none->i<nf->v∈S i s->R (i+1) (b i s v))
    (hS:∀i s,R i s->a s=none->i<nf->∃y,S i s=lo i::y/\He (hi i) (lo i) y):
    ∀(f:Nat) (fu:Bool) (m:List Dn) (dn:List (κ×Nat)) (i:Nat) (s:σ),wQ nf lo hi key R m dn->R i s->nf-i<f->
    jG nf lo hi key R j f m i (Nh nf a S b key j f fu m dn i s):=by
  intro f
  induction f with
  | zero=>omega
  | succ f ih=>
    intro fu m dn i s J A hf;have WT:=L i s A;unfold Nh;cases U:a s with
    | some bl=>grind [AX]
    | none=>
      dsimp only
      by_cases O:(fu || decide (j<m.length))=true\/i=nf
      . grind [AX]
      . rw[if_neg O]
        have hL:m.length<=j:=by
          grind
        have t:i<nf:=by{omega}
        cases P:dn.lookup (key i s)with
        | some k=>{obtain⟨I,F⟩:=J.Vf i s k A P;exact⟨J,I,F,⟨[],Aa⟩,by grind⟩}
        | none=>
          dsimp only
          obtain⟨y,M,hch⟩:=hS i s A U t
          have E:∀(l:List Int),(∀v∈l,v∈S i s)->∀(z:((List Dn×List (κ×Nat))×Bool)×List Int) (n:Nat),xQ nf lo hi key R j f m i n z->
              xQ nf lo hi key R j f m i (n+l.length) (l.foldl (Rl nf a S b key j f i s) z):=by
            intro l
            induction l with
            | nil=>grind
            | cons v l ihl=>
              intro H z n h;have D:=ih z.1.2 _ _ _ _ h.inv (K i s v A U t (H v (Wa ..))) ja;obtain⟨u,hu⟩:=D.grow;obtain⟨u0,hu0⟩:=h.grow;rw[Nd,Qb,show n+(l.length+1)=(n+1)+l.length by omega];refine ihl (λw hw=>H w (Pa _ hw)) _ _ ⟨D.inv,by show(z.2++[_]).length=_;rw[Qa,h.len];rfl,?_,⟨u0++u,by show(Nh nf a S b key j f _ _ _ _ _).1.1.1=_;grind⟩,?_⟩
              . intro k d
                show 0<=k/\k.toNat<(Nh nf a S b key j f _ _ _ _ _).1.1.1.length/\i<Rb nf ((Nh nf a S b key j f _ _ _ _ _).1.1.1.getD _ Ka)
                have d:k∈z.2++[((Nh nf a S b key j f _ _ _ _ _).2:Int)]:=d;rcases List.mem_append.1 d with h1|h1
                . obtain⟨I,F,X⟩:=h.kids k h1
                  grind
                . rw[Qd]at h1
                  subst h1;exact⟨ja,D.lt,D.oo⟩
              . have h1:=D.Ar
                have h2:=h.Ar
                show sj (Nh nf a S b key j f _ _ _ _ _).1.1.1<=_
                omega
          have d:=E _ (λ_ h=>h) (((m,dn),false),[]) 0 ⟨J,rfl,λk d=>(by cases d),⟨[],Aa⟩,by grind⟩;revert d
          show xQ nf lo hi key R j f m i _ _->
            jG nf lo hi key R j _ m i
              ((((Ob (List.foldl (Rl nf a S b key j f i s) _ _).1.1.1 i _ (List.foldl (Rl nf a S b key j f i s) _ _).2).1,
                (key i s,(Ob (List.foldl (Rl nf a S b key j f i s) _ _).1.1.1 i _ (List.foldl (Rl nf a S b key j f i s) _ _).2).2)::(List.foldl (Rl nf a S b key j f i s) _ _).1.1.2),
                (List.foldl (Rl nf a S b key j f i s) _ _).1.2),(Ob (List.foldl (Rl nf a S b key j f i s) _ _).1.1.1 i _ (List.foldl (Rl nf a S b key j f i s) _ _).2).2)
          generalize List.foldl _ _ _=r;intro d;obtain⟨Q,T,W,⟨u,k4⟩,k5⟩:=d;obtain⟨⟨⟨G,rd⟩,rb⟩,Z⟩:=r;simp only at Q T W k4 k5;rw[M]at T⊢;obtain⟨o,g,rfl⟩:∃o g,Z=o::g:=by cases Z with|nil=>simp at T|cons p q=>grind
          have H:g.length=y.length:=by grind
          obtain⟨I,F,⟨w,X⟩,Y,_⟩:=bk Q.made t (lo i) o y g H hch W;have V:=Hy G i (lo i::y) (o::g);have GF:=rL m;refine⟨⟨I,?_⟩,F,Y,⟨u++w,by grind⟩,?_⟩
          . intro e x k' B c
            show k'<(Ob G i _ (o::g)).1.length/\e<=Rb nf ((Ob G i _ (o::g)).1.getD k' Ka)
            have c:List.lookup _ ((key i s,(Ob G i _ (o::g)).2)::rd)=some k':=c;rw[Ab]at c;by_cases N:key e x=key i s
            . rw[N]at c
              simp only[beq_self_eq_true]at c
              injection c with e3
              subst e3;have e1:=C e x i s B A N;subst e1;exact⟨F,Y⟩
            . have:(key e x==key i s)=false:=by simpa using N
              rw[this]at c;obtain⟨g1,g2⟩:=Q.Vf e x k' B c;rw[X,aC g1,Qa];exact⟨ja,g2⟩
          . show sj (Ob G i _ (o::g)).1<=_
            omega
theorem Wo{d:Type}[BEq d]{b:σ->Option Bool}{S:Nat->σ->List Int}{a:Nat->σ->Int->σ}{key:Nat->σ->d}{L f i:Nat}{s:σ}
  (j:∀(fu:Bool) (m:List Dn) (dn:List (d×Nat)) (i:Nat) (s:σ),(Nh nf b S a key L f fu m dn i s).1.2=false->fu=false/\∀e,L<=e->mi nf b S a key e f m dn i s=((Nh nf b S a key L f fu m dn i s).1.1,(Nh nf b S a key L f fu m dn i s).2)):
  ∀(l:List Int) (c:((List Dn×List (d×Nat))×Bool)×List Int),(l.foldl (Rl nf b S a key L f i s) c).1.2=false->c.1.2=false/\∀e,L<=e->
   l.foldl (λ(c:(List Dn×List (d×Nat))×List Int) v=>
     let r:=mi nf b S a key e f c.1.1 c.1.2 (i+1) (a i s v)
     (r.1,c.2++[(r.2:Int)])) (c.1.1,c.2)=((l.foldl (Rl nf b S a key L f i s) c).1.1,(l.foldl (Rl nf b S a key L f i s) c).2)
 | [],c,h=>⟨h,λ_ _=>rfl⟩
 | v::l,c,h=>by{rw[Nd]at h⊢;obtain⟨k,n⟩:=Wo j l _ h;obtain⟨o,p⟩:=j _ _ _ _ _ k;refine⟨o,λe g=>?_⟩;rw[Nd];rw[p e g];exact n e g}
theorem vJ{c:Type}[BEq c]{a:σ->Option Bool}{S:Nat->σ->List Int}{b:Nat->σ->Int->σ}{key:Nat->σ->c}:
  ∀(f:Nat) (fu:Bool) (m:List Dn) (dn:List (c×Nat)) (i:Nat) (s:σ),(Nh nf a S b key j f fu m dn i s).1.2=false->fu=false/\∀d,j<=d->mi nf a S b key d f m dn i s=((Nh nf a S b key j f fu m dn i s).1.1,(Nh nf a S b key j f fu m dn i s).2):=by
 intro f
 induction f with
 | zero=>intro fu m dn i s h;exact⟨h,λ_ _=>rfl⟩
 | succ f r=>
  intro fu m dn i s;unfold Nh mi;cases u:a s with
  | some t=>grind
  | none=>
   dsimp only
   by_cases e:(fu || decide (j<m.length))=true\/i=nf
   ·grind
   {rw[if_neg e];(have g:(fu || decide (j<m.length))=false:=by grind);obtain⟨l,n⟩:=Bool.or_eq_false_iff.1 g;(have n:¬j<m.length:=by grind);cases p:dn.lookup (key i s)with| some k=>grind| none=>{dsimp only;intro h;obtain⟨_,q⟩:=Wo r _ _ h;refine⟨l,λd o=>?_⟩;rw[if_neg ja];rw[q d o];rfl}}
end
section
open Go.RowKit
structure Ax (w0 : Ca) (K DB : Nat) (d : List Fa) (fv : Ea) (fu : Bool) : Prop where
 mv:qb w0 (K+1) 110 #[Ma K]
 dv:qb w0 (K+3) 87 #[.map (some (K+2))]
 fb:qb w0 (K+4) 4 #[.bool fu]
 gv:qb w0 (K+5) 178 #[.func (.func 104) #[] #[Ma (K+1),Ma (K+4),Ma DB,.pointer (some ⟨K+3,0,none⟩),Ma (K+5)]]
 db:qb w0 DB 24 #[fv]
 lt:DB<K
 dom:Sa Jk 4 w0 K d fv
 Cq:Jh K w0
 size:K+6<=w0.heap.size
variable {w0 W W' : Ca} {K DB : Nat} {S S' : List Nat} {d : List Fa} {fv : Ea} {m m' : List Dn} {dn : List (Na × Nat)} {fu : Bool}
theorem Ht{W:Ca}{c:Nat}{a:Array Ea}(h:qb W j E a)(hne:j≠c)(i:Nat)(v:Ea):qb (W.setCell (Ja c i) v) j E a:=
 (heap_setCell_other W _ j v hne).trans h
theorem Xt{W:Ca}{u:Ea}(h:qb W j E #[u])(v:Ea):qb (W.setCell (Ya j) v) j E #[v]:=by
 show(W.setCell _ v).heap[j]? =_
 rw[heap_setCell_same W j 0 _ _ v h]
 rfl
def Kl(W:Ca)(K:Nat):Ca:=W.setCell (Ya (K+4)) (.bool true)
theorem Ax.full(h:Ax w0 K DB d fv fu):Ax (Kl w0 K) K DB d fv true:=by
 have a:Da K w0 (Kl w0 K):=(za K w0).setCell (by grind) _;have hlt:=h.lt;exact⟨Ht h.mv ja _ _,Ht h.dv ja _ _,Xt h.fb _,Ht h.gv ja _ _,Ht h.db ja _ _,hlt,h.dom.below Jk.kept a,h.Cq.on a,by show K+6<=(w0.setCell _ _).heap.size;rw[Yb];exact h.size⟩
theorem Yk.full(h:Yk w0 K S m dn W)(j:qb w0 (K+4) 4 #[.bool fu])(i:K+4∈S):Yk (Kl w0 K) K S m dn (Kl W K)/\re K [K+4] W (Kl W K):=by
 have g:=h.Pd j ⟨Ba,Ba⟩
 have n:∀ {S:List Nat},K+4∈S->re K S W (Kl W K):=λi=>
  ⟨rfl,rfl,rfl,by show _<=(W.setCell _ _).heap.size;simp_all,λb o a k=>by
   refine(heap_setCell_other W _ b _ ?_).trans a
   grind⟩
 have l:∀b o,W.heap[b]? =some o->fi o=false->b<W.heap.size->(Kl W K).heap[b]? =some o:=λb o d f _=>by
  refine(heap_setCell_other W _ b _ ?_).trans d;rintro rfl;rw[g]at d
  grind [fi]
 refine⟨⟨?_,h.is.keep (n i) l,?_,?_⟩,n Aa⟩
 ·refine⟨h.Hj.os,h.Hj.tape,h.Hj.output,?_,λb o a k=>?_⟩
  ·show(w0.setCell _ _).heap.size<=(W.setCell _ _).heap.size
   rw[Yb,Yb];exact h.Hj.size
  {by_cases e:b=K+4;{subst e;rw[show(Kl w0 K).heap[K+4]? =_ from Xt j _]at a;(cases a);exact Xt g _};{rw[show(Kl w0 K).heap[b]? =w0.heap[b]? from heap_setCell_other w0 _ b _ e]at a;rw[show(Kl W K).heap[b]? =W.heap[b]? from heap_setCell_other W _ b _ e];exact h.Hj.keep b o a k}}
 {rw[show(Kl W K).cell? _=W.cell? _ from World.cell?_of_block (heap_setCell_other W _ K _ (by grind))];exact h.own}
 {obtain⟨r,⟨p,c,d,f⟩,q⟩:=h.Vf;exact⟨r,⟨p,c,l _ _ d rfl (zf d),f⟩,q⟩}
def jJ(w0:Ca)(K:Nat)(fu:Bool):Ca:=if fu then Kl w0 K else w0
theorem Ax.bw(h:Ax w0 K DB d fv false):∀fu,Ax (jJ w0 K fu) K DB d fv fu
 | false=>h
 | true=>h.full
theorem RD(w0:Ca)(K:Nat)(fu:Bool):(jJ w0 K fu).heap.size=w0.heap.size:=by
 cases fu
 {rfl}
 ·show(w0.setCell _ _).heap.size=_;simp_all
def Vg(d:List Fa)(f:Nat)(fu:Bool)(m:List Dn)(dn:List (Na×Nat))(i:Nat)(s:Fo):((List Dn×List (Na×Nat))×Bool)×Nat:=Nh d.length Fj (vm d) (yo d) ik 20000 f fu m dn i s
def OM(d:List Fa)(a:Fo)(m:List Dn)(dn:List (Na×Nat)):Prop:=wQ d.length (Fg d) (Hi d) ik (Kk d a) m dn
theorem Tw(hd:Di d)(f:Nat)(fu:Bool)(m:List Dn)(dn:List (Na×Nat))(i:Nat)(s:Fo)(c:OM d F m dn)(e:Kk d F i s)(h:d.length-i<f):
  jG d.length (Fg d) (Hi d) ik (Kk d F) 20000 f m i (Vg d f fu m dn i s):=
 uJ (R:=Kk d F) (λi s a=>a.le) (λi s l k a b g=>(It (Uw d _ s (wa _) a.wf) (Uw d _ k (wa _) b.wf) g).1) (λi s v a _ hi j=>xo hd a hi j)
  (λi s a _ hi=>by grind [rn]) f fu m dn i s c e h
end
section
variable {d : List Fa}
def Oy(d:List Fa)(f i:Nat)(s:Fo)(a:((List Dn×List (Na×Nat))×Bool)×List Int)(v:Int):((List Dn×List (Na×Nat))×Bool)×List Int:=
 ((Vg d f a.1.2 a.1.1.1 a.1.1.2 (i+1) (yo d i s v)).1,a.2++[((Vg d f a.1.2 a.1.1.1 a.1.1.2 (i+1) (yo d i s v)).2:Int)])
def Vi(d:List Fa)(f:Nat)(m:List Dn)(dn:List (Na×Nat))(i:Nat)(s:Fo)(l:List Int):((List Dn×List (Na×Nat))×Bool)×List Int:=l.foldl (Oy d f i s) (((m,dn),false),[])
theorem WD(f:Nat){fu:Bool}{m:List Dn}{dn:List (Na×Nat)}{a:Bool}(b:Fj F=some a):Vg d (f+1) fu m dn j F=((((me m ⟨0,[],[],a⟩).1,dn),fu),(me m ⟨0,[],[],a⟩).2):=by
 grind [Vg,Nh]
theorem SA(f:Nat){fu:Bool}{m:List Dn}{dn:List (Na×Nat)}(a:Fj F=none)(h:(fu || decide (20000<m.length))=true):Vg d (f+1) fu m dn j F=((((me m ⟨0,[],[],false⟩).1,dn),true),(me m ⟨0,[],[],false⟩).2):=by
 grind [Vg,Nh]
theorem XD(f:Nat){m:List Dn}{dn:List (Na×Nat)}{k:Nat}(a:Fj F=none)(c:m.length<=20000)(hi:j<d.length)(b:dn.lookup (ik j F)=some k):Vg d (f+1) false m dn j F=(((m,dn),false),k):=by
 grind [Vg,Nh]
theorem SD(f:Nat){m:List Dn}{dn:List (Na×Nat)}(b:Fj F=none)(e:m.length<=20000)(hi:j<d.length)(c:dn.lookup (ik j F)=none):
  Vg d (f+1) false m dn j F=((((Ob (Vi d f m dn j F (vm d j F)).1.1.1 j (vm d j F) (Vi d f m dn j F (vm d j F)).2).1,
   (ik j F,(Ob (Vi d f m dn j F (vm d j F)).1.1.1 j (vm d j F) (Vi d f m dn j F (vm d j F)).2).2)::(Vi d f m dn j F (vm d j F)).1.1.2),(Vi d f m dn j F (vm d j F)).1.2),(Ob (Vi d f m dn j F (vm d j F)).1.1.1 j (vm d j F) (Vi d f m dn j F (vm d j F)).2).2):=by
 have a:decide (20000<m.length)=false:=by grind
 conv=>lhs;unfold Vg Nh
 rw[b];rw[a,if_neg (by simp;omega),c]
 rfl
theorem Ow(f:Nat)(m:List Dn)(dn:List (Na×Nat))(i:Nat)(s:Fo)(l:List Int)(k:Nat)(a:k<l.length):Vi d f m dn i s (l.take (k+1))=Oy d f i s (Vi d f m dn i s (l.take k)) l[k]:=by
 grind [Vi,List.take_succ_eq_append_getElem]
structure wJ (d : List Fa) (f0 : Fo) (n : Nat) (r : ((List Dn × List (Na × Nat)) × Bool) × List Int) : Prop where
 inv:OM d f0 r.1.1.1 r.1.1.2
 Ar:sj r.1.1.1<=20070
 len:r.2.length=n
 kids:∀x∈r.2,0<=x/\x<=20100
theorem wJ.small{r:((List Dn×List (Na×Nat))×Bool)×List Int}(h:wJ d F j r):r.1.1.1.length<=20072:=by
 have:=Gl h.inv.made;have:=h.Ar;omega
theorem cQ(hd:Di d){f:Nat}{m:List Dn}{dn:List (Na×Nat)}{s:Fo}
  (l:OM d F m dn) (o:sj m<=20070) (q:f<=70) (n:Kk d F j s) (hi:j<d.length) (p:d.length-(j+1)<f):
  ∀k,k<=(vm d j s).length->wJ d F k (Vi d f m dn j s ((vm d j s).take k)):=by
 intro k
 induction k with
 | zero=>intro _;exact⟨l,o,rfl,λx c=>by cases c⟩
 | succ k e=>
  intro y;have a:k<(vm d j s).length:=by omega
  rw[Ow f m dn j s _ k a];have t:=Oa a;obtain⟨h,u,i,w⟩:=e ja;clear e;generalize(vm d j s)[k]=v at*
  generalize Vi d f m dn j s _=r at*
  have g:=Tw hd f r.1.2 _ _ _ _ h (xo hd n hi t) p;have b:=g.Ar;have hlen:=Gl g.inv.made;have hlt:=g.lt;refine⟨g.inv,by show sj (Vg d f _ _ _ _ _).1.1.1<=_;omega,by simp[Oy,i],λx c=>?_⟩
  grind [Oy]
end
section
variable {d : List Fa}
def nk(d:List Fa)(f:Fo):((List Dn×List (Na×Nat))×Bool)×Nat:=Vg d (d.length+1) false [] [] 0 (Sg We 0 f)
def Wi(d:List Fa)(f:Fo):List Nat:=Mc (nk d f).1.1.1 (d.length+1) [] (nk d f).2
def Nc(d:List Fa)(f:Fo):List Dn×Int:=
 if gf d=false\/se f d (λ_=>false)≠0 then([],1)else if 24<(dl f []).length then([],2)
 else if(nk d f).1.2=true\/20000<(Wi d f).length then([],2)else(ue (nk d f).1.1.1 (Wi d f),0)
theorem Py(a:Fo):OM d a [] []:=⟨Made.nil,λ_ _ _ _ h=>by cases h⟩
theorem Qy(hd:Di d){f:Fo}(hw:Gk d f):jG d.length (Fg d) (Hi d) ik (Kk d f) 20000 (d.length+1) [] 0 (nk d f):=
 Tw hd _ false [] [] 0 _ (Py f) (Mj hw) ja
theorem ZF(hd:Di d){f:Fo}(hw:Gk d f):(nk d f).1.1.1.length<=20072:=by
 have h:=Qy hd hw;have a:=Gl h.inv.made;have b:=h.Ar;have c:=hd.len
 grind [sj]
theorem kG(hd:Di d){f:Fo}(hw:Gk d f)(h:(nk d f).1.2=false):
  jn d.length (Fg d) (Hi d) (λs c=>Fe d c s) ik (Kk d f) (nk d f).1.1.1 (nk d f).1.1.2/\xm d.length (Fg d) (Hi d) (λs c=>Fe d c s) (nk d f).1.1.1 0 (Sg We 0 f) (nk d f).2:=by
 obtain⟨_,q⟩:=vJ _ false [] [] 0 _ h;have q:=q (max _ (cellsD d f+2)) (Nat.le_max_left _ _)
 have g:=dE (L:=max 20000 _) (giv:=yo d)
  (λm dn e=>ub (jC hd e) (Nat.le_max_right _ _)) (λi s o a j c _=>eE a.wf j c) (λs a=>cy a) (λi s a=>a.le)
  (λi s t n a b k=>by
   obtain⟨p,r⟩:=It (Uw d _ s (wa _) a.wf) (Uw d _ n (wa _) b.wf) k
   grind)
  (λi s v a _ hi l=>xo hd a hi l) (λi s a _ hi=>rn hd a hi) (d.length+1) [] [] 0 _ (wv f) (Mj hw) ja
 rw[q]at g;exact⟨g.1,g.2.1⟩
theorem yi{f:Fo}(h:(Nc d f).2=0):Qc d (Nc d f).1/\Gk d f/\∀c,od d.length (Fg d) (Hi d) c->Uc d (Nc d f).1 0 c=Fe d c f:=by
 unfold Nc at h⊢
 split at h
 {cases h}
 ·next a=>
  rw[if_neg a]
  split at h
  {cases h}
  ·next j=>
   rw[if_neg j]
   split at h
   {cases h}
   ·next e=>
    rw[if_neg e];clear h;obtain⟨a,b⟩:=not_or.1 a;have a:gf d=true:=by grind
    have b:se f d (λ_=>false)=0:=by omega
    have hw:=jk b;obtain⟨p,q⟩:=not_or.1 e;have hd:=eh a;obtain⟨o,m⟩:=kG hd hw (by grind);have g:=o.made.yh (yv hd);have n:=m.lt;obtain⟨r,u,s⟩:=lj g.table n (f:=d.length+1) ja;have hlen:(ue (nk d f).1.1.1 (Wi d f)).length=(Wi d f).length:=by grind [ue]
    have i:=Kq g r;have k:Qc d (ue _ (Wi d f)):=⟨a,by grind [Wi],ja,i.table,i.nodup,Bs g n ja⟩;refine⟨k,hw,λc l=>?_⟩;rw[(Et k.yh i _ 0 k.pos (wa _) c l)];rw[s]
    show qg _ (nk d f).2 c=_
    rw[m.Lp c l];obtain⟨t,_,_,a⟩:=(Mj hw).from_
    grind
end
open Go.RowKit
theorem QM{w0:Ca}{K DB:Nat}{S:List Nat}{d:List Fa}{fv:Ea}{fu:Bool}(g:Ax w0 K DB d fv fu)(i:Nat)(s:Fo)(c:Bool)(b:Fj s=some c)(m:List Dn)(dn:List (Na×Nat))(y:m.length<=900000)(v:Ea)(W:Ca)
  (p:Yk w0 K S m dn W) (q:s.Fk W (ms W K S) v):
  Db 104 #[v,pa i,Ma (K+1),Ma (K+4),Ma DB,Ma (K+3),Ma (K+5)] W λe W'=>e=.returned (pa (me m ⟨0,[],[],c⟩).2)/\Yk w0 K S (me m ⟨0,[],[],c⟩).1 dn W'/\re K [] W W':=by
 obtain⟨w,cap,rfl,_⟩:=q.shape;have hsz:=p.size;have A:=g.size;have a:=p.below ((za _ _).alloc (wa _) (.cells #[pa s.op,.string s.name,pa s.cmp,pa s.n,.slice w s.kids.length cap] 32))
 have j:(s.op==1)=c/\(s.op==2)= !c:=by{unfold Fj at b;by_cases k:s.op=1;{rw[Ga k]at b;cases b;rw[k];exact⟨rfl,rfl⟩};{rw[if_neg k]at b;by_cases f:s.op=2;{rw[Ga f]at b;cases b;rw[f];exact⟨rfl,rfl⟩};{rw[if_neg f]at b;cases b}}}
 obtain⟨B,C⟩:=j;have z:=(a.Pd g.mv ⟨Ba,Ba⟩).cell 0;have u:=la (Jp K K S m ⟨0,[],[],c⟩ _ _ _ a.is (Wf.nil _ _ _) (Wf.nil _ _ _) y ⟨⟨by show(-9223372036854775808)<=0;decide,by show 0<=9223372036854775807;decide⟩,Aa,Aa,Aa,Aa⟩ (g.Cq.on (a.Hj.below ja)));have h:=la a;have x:K+1<W.heap.size:=by omega
 clear p q a g b;generalize(me m _).2=E at*
 generalize(me m _).1=D at*
 cases c
 all_goals
  go_enter func104,ntmps104;go_wp2_with (go_at_call 48;refine u.o.mono ?_;rintro e F ⟨rfl,f,l⟩;have r:=la (h.o.step l f);have t:=la ((re.jc ((za _ W).alloc (wa _) _) (wa _)).trans l.s);clear f l);go_ret;exact⟨rfl,r.o,t.o⟩
theorem mJ{w0:Ca}{K DB:Nat}{S:List Nat}{d:List Fa}{fv:Ea}{fu:Bool}(j:Ax w0 K DB d fv fu)(B:K+4∈S)(i:Nat)(s:Fo)(H:Fj s=none)(m:List Dn)(dn:List (Na×Nat))(P:m.length<=900000)(u:(fu || decide (20000<m.length))=true)(v:Ea)(W:Ca)
  (t:Yk w0 K S m dn W) (I:s.Fk W (ms W K S) v):
  Db 104 #[v,pa i,Ma (K+1),Ma (K+4),Ma DB,Ma (K+3),Ma (K+5)] W λe W'=>e=.returned (pa (me m ⟨0,[],[],false⟩).2)/\Yk (Kl w0 K) K S (me m ⟨0,[],[],false⟩).1 dn W'/\re K [K+4] W W':=by
 obtain⟨y,cap,T,_⟩:=I.shape;subst T;have hsz:=t.size;have R:=j.size;have f:=t.below ((za _ _).alloc (wa _) (.cells #[pa s.op,.string s.name,pa s.cmp,pa s.n,.slice y s.kids.length cap] 32));obtain⟨U,V⟩:=Xu.1 H;have Z:(s.op==1)=false:=by simpa using U
 have e2:(s.op==2)=false:=by simpa using V
 have Q:=(f.Pd j.mv ⟨Ba,Ba⟩).cell 0;have b:=f.Pd j.fb ⟨Ba,Ba⟩;have N:=b.cell 0;have O:=b.frozen 0;obtain⟨_,⟨mv,mo,Y,E,F,G,_⟩,_⟩:=f.is;obtain⟨ma,mc,w⟩:=Xd F;have x:Y.length=m.length:=by rw[<-G,Va]
 subst w;have C:=E.cell 0;rw[x]at C;have J:=((Xt (t.Pd j.fb ⟨Ba,Ba⟩) (.bool true)).alloc (.cells #[pa s.op,.string s.name,pa s.cmp,pa s.n,.slice y s.kids.length cap] 32)).cell 0;obtain⟨g,r⟩:=t.full j.fb B;have a:=g.below ((za _ _).alloc (wa _) (.cells #[pa s.op,.string s.name,pa s.cmp,pa s.n,.slice y s.kids.length cap] 32));have k:=j.full;have L:=(a.Pd k.mv ⟨Ba,Ba⟩).cell 0;have D:=la (Jp K K S m ⟨0,[],[],false⟩ _ _ _ a.is (Wf.nil _ _ _) (Wf.nil _ _ _) P ⟨⟨Ba,Ba⟩,Aa,Aa,Aa,Aa⟩ (k.Cq.on (a.Hj.below (by show K<=(w0.setCell _ _).heap.size;rw[Yb];omega))));have p:=la a;have l:=la (r.alloc (.cells #[pa s.op,.string s.name,pa s.cmp,pa s.n,.slice y s.kids.length cap] 32));have M:K+4<W.heap.size:=by omega
 have c:fu=false->decide (20000<(m.length:Int))=true:=by{intro e;subst e;(have:20000<m.length:=by simpa using u);simp;omega}
 clear t I f j H a r g k u E F G x b;generalize(me m _).2=r2 at*
 generalize(me m _).1=r1 at*
 unfold Kl at*
 cases fu
 {have hdd:=c rfl;clear c;go_enter func104,ntmps104;go_upto_region 4 with(fail);go_wp2_with (go_at_call 48;refine D.o.mono ?_;rintro e X ⟨rfl,q,h⟩;have z:=la (p.o.step h q);have A:=la (l.o.trans (h.s.more Aa));clear q h);go_ret;exact⟨rfl,z.o,A.o⟩}
 {clear c;go_enter func104,ntmps104;go_upto_region 4 with(fail);go_wp2_with (go_at_call 48;refine D.o.mono ?_;rintro e X ⟨rfl,q,h⟩;have z:=la (p.o.step h q);have A:=la (l.o.trans (h.s.more Aa));clear q h);go_ret;exact⟨rfl,z.o,A.o⟩}
open Go.Sort (grow)
theorem RM{w0:Ca}{K DB:Nat}{S:List Nat}{d:List Fa}{fv:Ea}(j:Ax w0 K DB d fv false)(i:Nat)(hi:i<d.length)(yM:d.length<=60)(s:Fo)(hc:Fj s=none)(hw:Gk d s)(M:(kg s).length<=1000000)(m:List Dn)(dn:List (Na×Nat))(hl:m.length<=20000)(k:Nat)(hk:dn.lookup (ik i s)=some k)(v:Ea)(W:Ca)
  (hS:Yk w0 K S m dn W) (hf:s.Fk W (ms W K S) v):
  Db 104 #[v,pa i,Ma (K+1),Ma (K+4),Ma DB,Ma (K+3),Ma (K+5)] W λe W'=>e=.returned (pa k)/\Yk w0 K S m dn W'/\re K [] W W':=by
 obtain⟨r,cap,U,_⟩:=hf.shape;subst U;have hsz:=hS.size;have G_:=j.size;have a:=hS.below ((za _ _).alloc (wa _) (.cells #[pa s.op,.string s.name,pa s.cmp,pa s.n,.slice r s.kids.length cap] 32));obtain⟨n1,n2⟩:=Xu.1 hc;have e1:(s.op==1)=false:=by simpa using n1
 have e2:(s.op==2)=false:=by simpa using n2
 have r6:=(a.Pd j.mv ⟨Ba,Ba⟩).cell 0;have c:=a.Pd j.fb ⟨Ba,Ba⟩;have JT:=c.cell 0;have pZ:=c.frozen 0;obtain⟨ad,cd,J,_⟩:=Sa.shape j.dom;have I:=(a.Pd j.db ⟨Ba,Ba⟩).cell 0;rw[J]at I;obtain⟨_,⟨mv,mo,xs,g1,g2,g3,_⟩,_⟩:=a.is;obtain⟨ma,mc,P⟩:=Xd g2;have Q:xs.length=m.length:=by rw[<-g3,Va]
 subst P;have N:=g1.cell 0;rw[Q]at N;have acA:(i==(d.length:Int))=false:=by simp;omega
 have hKb:=j.lt;have hd:decide (20000<(m.length:Int))=false:=by simp;omega
 have g:=zt c;have f:=la g;have L:s.In ((W.alloc (.cells #[pa s.op,.string s.name,pa s.cmp,pa s.n,.slice r s.kids.length cap] 32)).alloc (.cells #[.pointer none,Ua] 141)) (W.alloc (.cells #[pa s.op,.string s.name,pa s.cmp,pa s.n,.slice r s.kids.length cap] 32)).heap.size _:=Fo.In.mono Aa s _ (Fo.In.below (((za _ W).alloc (wa _) _).alloc Aa _) s _ (Fo.Fk.back (λb h=>h.1) _ _ hf));have hsp:=(dC d _ _ _ s (wa _) hw _ [] _ L (UD _) (λA T=>j.Cq A ((a.Hj.below ja).trans (((za _ _).alloc (by simp;omega) _).trans (T.mono (by simp;omega))))) Aa (by simp;omega));rw[Ia]at hsp;have G:=la hsp;have F:=la a;have HE:=la j;have x0:=((qb.new W 32 #[pa s.op,.string s.name,pa s.cmp,pa s.n,.slice r s.kids.length cap]).alloc (.cells #[.pointer none,Ua] 141)).cell 0;have x1:=((qb.new W 32 #[pa s.op,.string s.name,pa s.cmp,pa s.n,.slice r s.kids.length cap]).alloc (.cells #[.pointer none,Ua] 141)).cell 1;have x2:=((qb.new W 32 #[pa s.op,.string s.name,pa s.cmp,pa s.n,.slice r s.kids.length cap]).alloc (.cells #[.pointer none,Ua] 141)).cell 2;have x3:=((qb.new W 32 #[pa s.op,.string s.name,pa s.cmp,pa s.n,.slice r s.kids.length cap]).alloc (.cells #[.pointer none,Ua] 141)).cell 3;have x4:=((qb.new W 32 #[pa s.op,.string s.name,pa s.cmp,pa s.n,.slice r s.kids.length cap]).alloc (.cells #[.pointer none,Ua] 141)).cell 4;have QU:K+6<=W.heap.size:=by omega
 clear hsp hS hf a j hc n1 n2 c g1 g2 g3 g L J Q hw;go_enter func104,ntmps104;go_upto_region 4 with(fail);rw[f.o];go_upto_region 7 with(fail);clear r6 JT pZ I N;go_upto_region 8 with(go_at_call 105;refine G.o.mono ?_;rintro e u ⟨rfl,h1,R,h3⟩;have H3:=la h1;have C:=la R;clear h1 R h3);have w:=((za _ _).alloc (wa _) _).trans (by rw[Ia];exact C.o);have Y:=la (F.o.below w);have eQ:W.heap.size+2<=u.heap.size:=by have:=C.o.size;simpa using this
 have E:Hid (Db 68 #[pa i] u λe A=>∃y:Na,e=.returned (.string y)/\y.size<=21/\Hid (y=⟨(Lib.itoa i).toArray⟩)/\Hid (Da u.heap.size u A)):=by{refine(Tryz.strconv_Itoa i ja ja u ((HE.o.Cq.on (Y.o.Hj.below ja)).here)).mono ?_;rintro e A ⟨rfl,nq,os,rfl⟩;refine⟨_,rfl,?_,rfl,Jl u nq os⟩;have:=Lib.itoa_length_le i ja ja;simpa[ByteArray.size]using this}
 have p:Hid (∀B,Da u.heap.size u B->Db 70 #[Ma (W.heap.size+1)] B λe A=>∃z:Na,e=.returned (.string z)/\z.size<=1000000/\Hid (z=⟨(kg s).toArray⟩)/\Hid (Da (W.heap.size+1) B A)):=λB T=>by{have CA:=ql H3.o T;have q:=Tryz.Builder_String_any_k _ _ _ B CA (by have:=T.size;omega);refine q.mono ?_;rintro e A ⟨rfl,_,R,_⟩;exact⟨_,rfl,by simpa[ByteArray.size]using M,rfl,R⟩}
 clear G f M yM;go_upto_region 9 with(first|(go_at_call 68;refine E.o.mono ?_;rintro e B ⟨y,rfl,hsI,S_,D⟩)|(go_at_call 70;refine(p.o _ D.o).mono ?_;rintro e w5 ⟨z,rfl,hsT,T_,V⟩));have x:=(w.trans (D.o.mono (by rw[Ia];omega))).trans (by rw[Ia];exact V.o);have l:=F.o.below x;have hdv:=(l.Pd HE.o.dv ⟨Ba,Ba⟩).cell 0;obtain⟨mp,hm,O⟩:=l.Vf;have Yr:=af Cr.key Tryz.underlying87 Fq hm (y++z);have t:y++z=ik i s:=by rw[S_.o,T_.o,ByteArray.mk_append_mk];rfl
 have U:mp.lookup (y++z)=some (k:Int):=by rw[O,t,hk];rfl
 rw[U]at Yr;have Z:=la l;have X:=la ((re.jc (H:=K) (S:=[]) ((za _ W).alloc (wa _) _) (wa _)).trans (re.jc x (wa _)));clear l hm O U t x w p E x0 x1 x2 x3 x4;go_wp2;go_ret;exact⟨rfl,Z.o,X.o⟩
end Go.Proofs.YtdipkbobalnilaaGreatDoor
