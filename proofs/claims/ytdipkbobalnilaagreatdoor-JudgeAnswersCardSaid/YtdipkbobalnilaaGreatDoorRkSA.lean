/- The walks of the court: the diagram of a provision, whether one holds alone, special, why. A bound on the conditions' sizes. -/
import Derived.Test.YtdipkbobalnilaaGreatDoorAl
import Derived.Test.YtdipkbobalnilaaGreatDoorRkPA
import Derived.Test.YtdipkbobalnilaaGreatDoorDgBB
import Derived.Test.YtdipkbobalnilaaGreatDoorDgNt
namespace Go.Proofs.YtdipkbobalnilaaGreatDoor
open Tryz
variable{j:Nat}{T:List Dn}{E:TypeId}{A:Option Addr}
section
open Go.RowKit
structure pU (w0 : Ca) (B CB KB : Nat) (d : List Fa) (ps : List Pv) (ts : List Int) (c0 c1 c2 : Ea) : Prop where
 Pd:qb w0 CB 208 #[c0,c1,c2,.map (some KB)]
 dom:Sa Jk 4 w0 B d c0
 VO:Sa jm 23 w0 B ps c1
 tms:Sa (Ad (Value.int .i64)) 1 w0 B ts c2
 hB:B<=CB
 QV:B<=KB
 ne:CB≠KB
 ltK:KB<w0.heap.size
 Cq:Jh B w0
theorem pU.lt{w0:Ca}{B CB KB:Nat}{d:List Fa}{ps:List Pv}{ts:List Int}{c0 c1 c2:Ea}(h:pU w0 B CB KB d ps ts c0 c1 c2):CB<w0.heap.size:=h.Pd.lt
structure fp (w0 : Ca) (KB : Nat) (d : List Fa) (ps : List Pv) (W : Ca) : Prop where
 os:W.os=w0.os
 tape:W.tape=w0.tape
 output:W.output=w0.output
 size:w0.heap.size<=W.heap.size
 ul:∀b,b<w0.heap.size->b≠KB->W.heap[b]? =w0.heap[b]?
 map:∃l:List (Int×Ea),Wb (Value.int .i64) (λv:Ea=>v) W KB l/\∀k v,l.lookup k=some v->(Nc d (pd ps k.toNat)).2=0/\Zd W W.heap.size (Nc d (pd ps k.toNat)).1 v
variable {w0 W W' : Ca} {B CB KB : Nat} {d : List Fa} {ps : List Pv} {ts : List Int} {c0 c1 c2 : Ea}
theorem fp.below(h:fp w0 KB d ps W)(a:B<=w0.heap.size)(c:B<=KB):Da B w0 W:=⟨h.os,h.tape,h.output,h.size,λb e=>h.ul b ja ja⟩
theorem fp.more(h:fp w0 KB d ps W)(a:Da W.heap.size W W'):fp w0 KB d ps W':=by
 obtain⟨l,f,g⟩:=h.map;refine⟨a.os.trans h.os,a.tape.trans h.tape,a.output.trans h.output,ub h.size a.size,λb c e=>(a.block b (by have:=h.size;omega)).trans (h.ul b c e),l,f.below a f.lt,λk v i=>?_⟩;obtain⟨c,e⟩:=g k v i;exact⟨c,(e.below a).mono a.size⟩
theorem Ck{l:List (Int×Ea)}(h:Wb (Value.int .i64) (λv:Ea=>v) W KB l){o:Nat}{x:Ea}(d:W.cell? (Ja j o)=some x):j≠KB:=by
 rintro rfl;obtain⟨a,c,b,_⟩:=h
 grind [World.cell?]
theorem kI{l:List (Int×Ea)}(h:Wb (Value.int .i64) (λv:Ea=>v) W KB l)(j:Bq KB W W'){B:Nat}{l:List Int}{v:Ea}(a:IntsIn W B l v):IntsIn W' B l v:=by
 obtain⟨d,cap,rfl,e,f,g⟩:=a;refine⟨d,cap,rfl,e,f,λhne=>?_⟩;obtain⟨b,off,rfl,hlt,c⟩:=g hne;exact⟨b,off,rfl,hlt,λi a=>(j.cell (p:=Ja b _) (Ck h (c i a))).trans (c i a)⟩
theorem Zd.Lw{l:List (Int×Ea)}(h:Wb (Value.int .i64) (λv:Ea=>v) W KB l)(b:Bq KB W W'){B:Nat}{v:Ea}(hd:Zd W B T v):Zd W' B T v:=by
 obtain⟨_,rfl,f,cap,rfl,n,o,p⟩:=hd;refine⟨_,rfl,f,cap,rfl,n,o,λhne=>?_⟩;obtain⟨g,off,rfl,hlt,q⟩:=p hne;refine⟨g,off,rfl,hlt,λi r=>?_⟩;obtain⟨s,t,e,j,k,m,c,d⟩:=q i r;have a:=Ck h e;exact⟨s,t,(b.cell a).trans e,(b.cell a).trans j,(b.cell a).trans k,(b.cell a).trans m,kI h b c,kI h b d⟩
structure Te (KB : Nat) (W W' : Ca) : Prop where
 os:W'.os=W.os
 tape:W'.tape=W.tape
 output:W'.output=W.output
 size:W.heap.size<=W'.heap.size
 ul:∀b,b<W.heap.size->b≠KB->W'.heap[b]? =W.heap[b]?
theorem Te.jc(h:Da W.heap.size W W'):Te KB W W':=⟨h.os,h.tape,h.output,h.size,λb a _=>h.block b a⟩
theorem Te.wo(h:Bq KB W W'):Te KB W W':=⟨h.os,h.tape,h.output,De h.size.symm,λb _ hne=>h.block b hne⟩
theorem Te.trans{a:Ca}(h:Te KB W W')(k:Te KB W' a):Te KB W a:=
 ⟨k.os.trans h.os,k.tape.trans h.tape,k.output.trans h.output,ub h.size k.size,λb c hne=>(k.ul b (Zb c h.size) hne).trans (h.ul b c hne)⟩
theorem Te.put(h:Te KB W W')(a:W.heap.size<=j)(u:Ea):Te KB W (W'.setCell (Ya j) u):=
 ⟨h.os,h.tape,h.output,by rw[Yb];exact h.size,λx b hne=>(heap_setCell_other W' _ x u (by grind)).trans (h.ul x b hne)⟩
theorem Te.below(h:Te KB W W')(a:B<=W.heap.size)(c:B<=KB):Da B W W':=⟨h.os,h.tape,h.output,h.size,λb d=>h.ul b ja ja⟩
theorem Te.Pd(h:Te KB W W'){a:Array Ea}(b:qb W j E a)(hne:j≠KB):qb W' j E a:=(h.ul j b.lt hne).trans b
theorem nD{l:List (Int×Ea)}(h:Wb (Value.int .i64) (λv:Ea=>v) W KB l)(j:Te KB W W'){B:Nat}{l:List Int}{v:Ea}(a:IntsIn W B l v):IntsIn W' B l v:=by
 obtain⟨d,cap,rfl,e,f,g⟩:=a;refine⟨d,cap,rfl,e,f,λhne=>?_⟩;obtain⟨c,off,rfl,hlt,b⟩:=g hne;exact⟨c,off,rfl,hlt,λi a=>(World.cell?_of_block (j.ul c (Kb _ _ (b i a)) (Ck h (b i a)))).trans (b i a)⟩
theorem Zd.Zw{l:List (Int×Ea)}(h:Wb (Value.int .i64) (λv:Ea=>v) W KB l)(f:Te KB W W'){B:Nat}{v:Ea}(hd:Zd W B T v):Zd W' B T v:=by
 obtain⟨_,rfl,g,cap,rfl,p,q,r⟩:=hd;refine⟨_,rfl,g,cap,rfl,p,q,λhne=>?_⟩;obtain⟨b,off,rfl,hlt,s⟩:=r hne;refine⟨b,off,rfl,hlt,λi t=>?_⟩;obtain⟨u,w,c,j,m,n,d,e⟩:=s i t;have k:=λo=>World.cell?_of_block (a:=Ja b o) (f.ul b (Kb _ _ c) (Ck h c))
 exact⟨u,w,(k _).trans c,(k _).trans j,(k _).trans m,(k _).trans n,nD h f d,nD h f e⟩
theorem zF.Zw{l:List (Int×Ea)}(h:Wb (Value.int .i64) (λv:Ea=>v) W KB l)(d:Te KB W W'){b:Nat}{t:List Dn}{a:Option Addr}{c:Nat}(e:zF W b t a c)(hne:b≠KB):zF W' b t a c:=
 ⟨d.Pd e.box hne,(e.dg.Zw h d).mono d.size⟩
theorem Jn{f:Type}(k:Int)(v:f)(j:Int):∀l:List (Int×f),(ins l k v).lookup j=if j=k then some v else l.lookup j
 | []=>by
  grind [ins]
 | (a,x)::l=>by{rw[ins];by_cases c:k=a;{subst c;rw[Ga Aa,Ab,Ab];by_cases h:j=k;{subst h;simp};{(have:(j==k)=false:=by simpa using h);rw[this,if_neg h]}};{(have d:(k==a)=false:=by simpa using c);rw[d,if_neg Aa,Ab,Ab,Jn];by_cases h:j=a;{subst h;(have b:¬j=k:=λe=>c e.symm);simp[b]};{(have:(j==a)=false:=by simpa using h);rw[this]}}}
theorem fp.Ey(h:fp w0 KB d ps W){l:List (Int×Ea)}(j:Wb (Value.int .i64) (λv:Ea=>v) W KB l)(n:∀k v,l.lookup k=some v->(Nc d (pd ps k.toNat)).2=0/\Zd W W.heap.size (Nc d (pd ps k.toNat)).1 v)
  {i:Int} {v:Ea} (c:Bq KB W W') (o:Wb (Value.int .i64) (λv:Ea=>v) W' KB (ins l i v)) (m:(Nc d (pd ps i.toNat)).2=0) (p:Zd W W.heap.size (Nc d (pd ps i.toNat)).1 v):fp w0 KB d ps W':=by
 refine⟨c.os.trans h.os,c.tape.trans h.tape,c.output.trans h.output,by rw[c.size];exact h.size,λb g f=>(c.block b f).trans (h.ul b g f),_,o,λk u a=>?_⟩;rw[Jn]at a;rw[c.size];by_cases e:k=i
 {subst e;rw[Ga rfl]at a;(cases a);exact⟨m,p.Lw j c⟩}
 {rw[if_neg e]at a;obtain⟨g,f⟩:=n k u a;exact⟨g,f.Lw j c⟩}
theorem fp.put(h:fp w0 KB d ps W){n c:Nat}(o:qb W j E #[.slice A n c])(p:w0.heap.size<=j)(hne:j≠KB)(u:Ea):fp w0 KB d ps (W.setCell (Ya j) u):=by
 obtain⟨l,⟨g,f,i,m⟩,q⟩:=h.map;refine⟨h.os,h.tape,h.output,by rw[Yb];exact h.size,λx a b=>(heap_setCell_other W _ x u (by grind)).trans (h.ul x a b),l,⟨g,f,(heap_setCell_other W _ KB u (λe=>hne e.symm)).trans i,m⟩,λk v r=>?_⟩;obtain⟨a,b⟩:=q k v r;exact⟨a,by rw[Yb];exact b.set o u⟩
theorem fp.first{l:List (Int×Ea)}(a:Wb (Value.int .i64) (λv:Ea=>v) w0 KB l)(b:l=[]):fp w0 KB d ps w0:=⟨rfl,rfl,rfl,ja,λ_ _ _=>rfl,l,a,λk v h=>by grind⟩
theorem fp.Em(a:pU w0 B CB KB d ps ts c0 c1 c2)(h:fp w0 KB d ps W):qb W CB 208 #[c0,c1,c2,.map (some KB)]:=(h.ul CB a.lt a.ne).trans a.Pd
theorem fp.base(a:pU w0 B CB KB d ps ts c0 c1 c2)(h:fp w0 KB d ps W):Da B w0 W:=h.below (by have:=a.lt;have:=a.hB;omega) a.QV
end
section
open Go.RowKit
theorem vW:∀w,(zeroValue 55).run prog w=.ok (.agg #[Ua]) w:=Tryz.zeroValue55
theorem vY.key:KeyLaw (Value.int .i64) prog 3:=tE Tryz.underlying3
theorem Xq(W:Ca)(o a:Obj):Da W.heap.size W ((W.alloc o).alloc a):=((za _ _).alloc ja _).alloc Aa _
theorem Ed(W:Ca)(o:Obj):Hid (Da W.heap.size W (W.drew.alloc o)):=((za _ _).drew).alloc (wa _) o
theorem Xc{W w:Ca}(h:Hid (Da W.heap.size W w))(o:Obj):Hid (Da W.heap.size W (w.alloc o)):=h.o.alloc h.o.size o
variable {w0 W : Ca} {B CB KB : Nat} {d : List Fa} {ps : List Pv} {ts : List Int} {c0 c1 c2 : Ea}
set_option maxRecDepth 100000 in
set_option maxHeartbeats 4000000 in
theorem Sr(hE:pU w0 B CB KB d ps ts c0 c1 c2)(V:fp w0 KB d ps W)(i:Nat)(hi:i<ps.length)(hsz:ps[i].cond.size<=1000000):
  Db 190 #[Ma CB,pa i] W λe W'=>∃(a:Option Addr) (k:Nat),e=.returned (.tuple #[.agg #[.slice a (Nc d (pd ps i)).1.length k],pa (Nc d (pd ps i)).2])/\
   Hid (Zd W' W'.heap.size (Nc d (pd ps i)).1 (.agg #[.slice a (Nc d (pd ps i)).1.length k]))/\Hid (fp w0 KB d ps W')/\Hid (Te KB W W'):=by
 have FQ:=V.more ((za _ W).alloc (wa _) (.cells #[Ua] 55));obtain⟨l,JI,zI⟩:=V.map;have hm:=JI.alloc (.cells #[Ua] 55);have R:=af vY.key Tryz.underlying82 vW hm i;have t:=FQ.Em hE;have x0:=t.cell 0;have x1:=t.cell 1;have x3:=t.cell 3;have r4:=(qb.new W 55 #[Ua]).cell 0;have e:=tH hi;have E:=la hE;have J:=la V;have HKN:=la zI;have HCB:=la t;have QU:KB<W.heap.size:=by have:=hE.ltK;have:=V.size;omega
 have hCW:CB<W.heap.size:=by have:=hE.lt;have:=V.size;omega
 clear hE V FQ hm zI t JI;cases hl:l.lookup (i:Int)with
 | some v=>{rw[hl]at R;obtain⟨q1,q2⟩:=HKN.o _ _ hl;rw[Fc]at q1 q2;have O:=la q2;obtain⟨u,rfl,q3⟩:=q2;obtain⟨a,k,rfl,_⟩:=Sa.shape q3;rw[q1];clear q3 q1 hl;generalize(Nc d _).1=T at*;go_enter func190,ntmps190;go_wp2;have hcs:=((qb.new W 55 #[.slice a T.length k]).alloc (.cells #[.slice a T.length k] 55)).cell 0;refine Fb (by simp[results,go_sem];try rfl) rfl ?_;have z:=Xq W (.cells #[.slice a T.length k] 55) (.cells #[.slice a T.length k] 55);exact⟨_,_,rfl,(O.o.below z).mono z.size,J.o.more z,Te.jc z⟩}
 | none=>
  rw[hl]at R;obtain⟨ap,cp,fK,_⟩:=Sa.shape E.o.VO;obtain⟨ad,cd,gU,_⟩:=Sa.shape E.o.dom;subst fK;subst gU;obtain⟨b,off,rfl,Tn,ak,ck,ae,ce,Y,hf,he,uU⟩:=Sa.at (E.o.VO.below jm.kept (J.o.base E.o)) i hi;rw[e];have e5:=Y 5 _ rfl;have e6:=Y 6 _ rfl;have e7:=Y 7 _ rfl;have e8:=Y 8 _ rfl;have e9:=Y 9 _ rfl;obtain⟨c,Q⟩:∃c,((W.alloc (.cells #[Ua] 55)).alloc (.cells #[Ua] 55))=c:=⟨_,rfl⟩;have q:=Xq W (.cells #[Ua] 55) (.cells #[Ua] 55);rw[Q]at q;have P:=la Q;have L:B<=W.heap.size:=by have:=E.o.hB;omega
  have I:Hid (∀r,Da c.heap.size c r->(r.cell? (Ya CB)=some (.slice ad d.length cd)/\r.cell? (Ja CB 1)=some (.slice (fe b off) ps.length cp)/\r.cell? (Ja b (off+i*23+5))=some (pa ps[i].cond.op)/\r.cell? (Ja b (off+i*23+6))=some (.string ps[i].cond.name)/\r.cell? (Ja b (off+i*23+7))=some (pa ps[i].cond.cmp)/\r.cell? (Ja b (off+i*23+8))=some (pa ps[i].cond.n)/\r.cell? (Ja b (off+i*23+9))=some (.slice ak ps[i].cond.kids.length ck))/\Hid (Da c.heap.size c r)):=by{intro r z;have x:=(q.mono L).trans (z.mono (by have:=q.size;omega));(have k:=λo=>x.cell (p:=Ja b o) Tn);have t:=(J.o.more (q.trans (z.mono q.size))).Em E.o;exact⟨⟨t.cell 0,t.cell 1,(k _).trans e5,(k _).trans e6,(k _).trans e7,(k _).trans e8,(k _).trans e9⟩,z⟩}
  have N:Hid (∀r,Hid (Da c.heap.size c r)->Db 62 #[.agg #[pa ps[i].cond.op,.string ps[i].cond.name,pa ps[i].cond.cmp,pa ps[i].cond.n,.slice ak ps[i].cond.kids.length ck],.agg #[.slice ad d.length cd]] r λe w''=>
    ∃(a:Option Addr) (k:Nat),e=.returned (.tuple #[.agg #[.slice a (Nc d ps[i].cond).1.length k],pa (Nc d ps[i].cond).2])/\Hid (Zd w'' w''.heap.size (Nc d ps[i].cond).1 (.agg #[.slice a (Nc d ps[i].cond).1.length k]))/\Hid (Da r.heap.size r w'')/\Hid (Da c.heap.size c w'')):=by
   intro r z;have x:=(q.mono L).trans (z.o.mono (by have:=q.size;omega));have hs:=x.size;refine(us _ d _ _ r B hsz ja (Fo.In.below x _ _ hf) ⟨_,rfl,(E.o.dom.below Jk.kept (J.o.base E.o)).below Jk.kept x⟩ (λw'' h=>E.o.Cq w'' ((J.o.base E.o).trans (x.trans (h.mono ja))))).mono ?_;rintro e w'' ⟨g,rfl,⟨u,rfl,h1⟩,h2⟩;obtain⟨a,k,rfl,_⟩:=Sa.shape h1;exact⟨a,k,rfl,⟨_,rfl,h1⟩,h2,z.o.trans (h2.mono z.o.size)⟩
  clear Y hf he uU e5 e6 e7 e8 e9;generalize ps[i]=p at*
  have w:=la q;clear Q q;go_enter func190,ntmps190;go_upto_region 4 with(fail);rw[P.o]
  go_cut[8,9] (λs8 s9 wx=>∃(X:Nat) (a:Option Addr) (k:Nat),s8=Ma X/\s9=pa (Nc d p.cond).2/\Hid (zF wx X (Nc d p.cond).1 a k)/\Hid (Da c.heap.size c wx)/\Hid (c.heap.size<=X))
  case first=>(refine wp_region_held_drew (S:=(λr=>Hid _)) Ha (la ((za c.heap.size c).drew)) (λMb=>?_);refine tp 0 ?_;refine tp 5 ?_;refine tp 9 ?_;refine tk 1 ?v1 ?y1 ?_;(case y1=>(intro M Be;go_simp;try with_reducible rfl));refine tk 10 ?v10 ?RU ?_;(case RU=>(intro M Be;go_simp;try with_reducible rfl));refine tp 2 ?_;refine tp 11 ?_;refine tp 3 ?_;refine tp 12 ?_;refine tk 4 ?v4 ?y4 ?_;(case y4=>(intro M Be;obtain⟨⟨y0,y1,y2,y3,y4,y5,y6⟩,_⟩:=I.o M Be.o;go_simp;try with_reducible rfl));refine tk 13 ?v13 ?j5 ?_;(case j5=>(intro M Be;obtain⟨⟨y0,y1,y2,y3,y4,y5,y6⟩,_⟩:=I.o M Be.o;go_simp;try with_reducible rfl));refine tk 6 ?v6 ?y6 ?_;(case y6=>(intro M Be;go_simp;try with_reducible rfl));refine tp 7 ?_;refine tk 8 ?v8 ?y8 ?_;(case y8=>(intro M Be;obtain⟨⟨y0,y1,y2,y3,y4,y5,y6⟩,_⟩:=I.o M Be.o;go_simp;try with_reducible rfl));refine tt 14 18 (λK s=>?_) (λK s=>?_);{(go_simp;go_at_call 62;refine(N.o _ (by first|assumption|exact la ((za _ _).drew)|exact Ed _ _|exact Xc La _)).mono ?_;rintro e w8 ⟨a8,k8,rfl,D,C,f⟩;first|(have j:Hid (qb w8 c.heap.size _ _):=Yx C.o;have m:Hid (c.heap.size<=c.heap.size):=wa _)|(have j:Hid (qb w8 c.drew.heap.size _ _):=Zr C.o;have m:Hid (c.heap.size<=c.drew.heap.size):=(za c.heap.size c).drew.size)|have A:(0:Nat)=0:=rfl);refine s.o _ _ ?_ (λMb=>?_);{exact f};clear s K;(try simp only[Act.put,sA,sB,sC]);refine tp 15 ?_;refine tp 16 ?_;refine tp 17 ?_;refine tr 18 (λK s=>?_);go_simp;refine s.o _ _ ?_ (λMb=>?_);{first|exact Xc f _|exact(by first|assumption|exact la ((za _ _).drew)|exact Ed _ _|exact Xc La _)};clear s K;(try simp only[Act.put,sA,sB,sC]);refine tr 19 (λK s=>?_);(first|(have zz:(0:Nat)=0:=A;clear zz;go_simp)|(have cz:=j.o.cell 0;have fz:=j.o.frozen 0;go_simp));refine s.o _ _ ?_ (λMb=>?_);{first|exact Ik f m|exact Xc f _};clear s K;(try simp only[Act.put,sA,sB,sC]);refine tp 20 ?_;refine wpAnyH_done Ha ?_ _;(go_wp2;go_meet;first|exact⟨_,_,_,rfl,rfl,Yn j D,Ik f m,m⟩|exact⟨_,_,_,rfl,rfl,Xk D,Xc f _,la f.o.size⟩)};{go_simp;refine s.o _ _ ?_ (λMb=>?_);{first|exact Xc f _|exact(by first|assumption|exact la ((za _ _).drew)|exact Ed _ _|exact Xc La _)};clear s K;(try simp only[Act.put,sA,sB,sC]);refine tr 14 (λK s=>?_);(go_simp;go_at_call 62;refine(N.o _ (by first|assumption|exact la ((za _ _).drew)|exact Ed _ _|exact Xc La _)).mono ?_;rintro e w8 ⟨a8,k8,rfl,D,C,f⟩;first|(have j:Hid (qb w8 c.heap.size _ _):=Yx C.o;have m:Hid (c.heap.size<=c.heap.size):=wa _)|(have j:Hid (qb w8 c.drew.heap.size _ _):=Zr C.o;have m:Hid (c.heap.size<=c.drew.heap.size):=(za c.heap.size c).drew.size)|have A:(0:Nat)=0:=rfl);refine s.o _ _ ?_ (λMb=>?_);{exact f};clear s K;(try simp only[Act.put,sA,sB,sC]);refine tp 15 ?_;refine tp 16 ?_;refine tp 17 ?_;refine tr 19 (λK s=>?_);(first|(have zz:(0:Nat)=0:=A;clear zz;go_simp)|(have cz:=j.o.cell 0;have fz:=j.o.frozen 0;go_simp));refine s.o _ _ ?_ (λMb=>?_);{first|exact Ik f m|exact Xc f _};clear s K;(try simp only[Act.put,sA,sB,sC]);refine tp 20 ?_;refine wpAnyH_done Ha ?_ _;(go_wp2;go_meet;first|exact⟨_,_,_,rfl,rfl,Yn j D,Ik f m,m⟩|exact⟨_,_,_,rfl,rfl,Xk D,Xc f _,la f.o.size⟩)})
  case rest=>
   obtain⟨X,a,k,rfl,rfl,O,H,HLX⟩:=hcut;have Q5:c.heap.size=W.heap.size+2:=by rw[<-P.o];simp
   have R4:Hid (qb c W.heap.size 55 #[Ua]):=by rw[<-P.o];exact(qb.new W 55 _).alloc _
   have R5:=la (R4.o.below H.o);have r5:=R5.o.cell 0;have s5:=R5.o.frozen 0;have z8:=O.o.box.cell 0;have Z:=la (J.o.more (w.o.trans (H.o.mono w.o.size)));clear R hl r4 x0 x1 x3 I N;by_cases hz:(Nc d p.cond).2=0
   ·rw[hz]
    have hsd:=Z.o.more ((za _ wc).drew);obtain⟨l2,U,EI⟩:=hsd.map;have x3:=(Z.o.Em E.o).cell 3;obtain⟨W3,oX,C3,y⟩:=run_store vY.key Tryz.underlying82 U i (.agg #[.slice a (Nc d p.cond).1.length k]);have HL:=la (hsd.Ey U EI y C3 (by rw[Fc,e];exact hz) (by rw[Fc,e];exact(O.o.dg.below ((za _ wc).drew)).mono (by exact((za wc.heap.size wc).drew).size)));have G:=(za wc.heap.size wc).drew;have eQ:wc.heap.size<=W3.heap.size:=by rw[y.size];exact G.size
    have R7:=la (show Zd W3 _ _ _ from((O.o.dg.below G).Lw U y).mono eQ);have Jq:Hid (qb W3 X 55 _):=(y.block X (by have:=HLX.o;omega)).trans (O.o.box.below G);have F:Hid (qb W3 _ 55 _):=(y.block _ ja).trans (R5.o.below G);have uL:=la (((Te.jc (w.o.trans (H.o.mono w.o.size))).trans (Te.jc G)).trans (Te.wo y));go_upto_region 6 with(fail)
    go_region
    all_goals
     have z9:=Jq.o.cell 0;have s9:=F.o.frozen 0;have r9:=F.o.cell 0;go_wp2;have hcs:=(F.o.set 0 (.slice a (Nc d p.cond).1.length k)).cell 0;refine Fb (by simp[results,go_sem,hcs];try rfl) rfl ?_;exact⟨_,_,by rw[hz],by rw[Yb];exact la (R7.o.set F.o _),HL.o.put F.o (by have:=J.o.size;omega) ja _,uL.o.put ja _⟩
   {(have BA:((Nc d p.cond).2==0)=false:=by simpa using hz);go_wp2;have hcs:=(R5.o.set 0 (.slice a (Nc d p.cond).1.length k)).cell 0;refine Fb (by simp[results,go_sem,hcs];try rfl) rfl ?_;have hbf:Da _ W (wc.setCell (Ya W.heap.size) (.slice a (Nc d p.cond).1.length k)):=(w.o.trans (H.o.mono w.o.size)).setCell (wa _) _;exact⟨_,_,rfl,by rw[Yb];exact la (O.o.dg.set R5.o _),J.o.more hbf,Te.jc hbf⟩}
end
end Go.Proofs.YtdipkbobalnilaaGreatDoor
