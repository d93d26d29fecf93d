/- The walk of Build's recursion: a text that the memo knows. Bounds on the table. -/
import Derived.Test.YtdipkbobalnilaaGreatDoorAl
import Derived.Test.YtdipkbobalnilaaGreatDoorDgSN
import Derived.Test.YtdipkbobalnilaaGreatDoorShelfC
import Derived.Lib.OwnBridge
set_option maxRecDepth 100000
set_option maxHeartbeats 4000000
namespace Go.Proofs.YtdipkbobalnilaaGreatDoor
open Tryz
variable{j:Nat}{E:TypeId}{C:List Int}
section
open Go.RowKit
open Go.Sort (grow)
theorem Ww(z:List Int):∀(l pre:List Int) (a:Int),z=pre++a::l->(((List.range' (pre.length+1) l.length).filter (Lib.keeps z.toArray)).map (z.toArray[·]!))=ln a l
 | [],pre,a,_=>by simp[ln]
 | b::l,pre,a,c=>by{have d:=Ww z l (pre++[a]) b (by rw[c];simp);(have i:(pre++[a]).length=pre.length+1:=Aa);rw[i]at d;have f:z.toArray[pre.length]! =a:=by{rw[c,getElem!_pos _ _ Aa];simp};have e:z.toArray[pre.length+1]! =b:=by{rw[c,getElem!_pos _ _ Aa];simp};have g:Lib.keeps z.toArray (pre.length+1)= !decide (b=a):=by{unfold Lib.keeps;simp only[qf,f,e];by_cases h:b=a<;>simp};rw[Qb,List.range'_succ,Jc,g,ln];by_cases h:b=a;{subst h;simpa using d};{simp only[h,decide_false,Bool.not_false,if_true,if_false,Eb,e,d]}}
theorem nL(z:List Int):Lib.compact z=qt z:=by
 cases z with
 | nil=>rfl
 | cons a l=>
  have:=Ww (a::l) l [] a rfl;unfold Lib.compact Lib.compactUpTo
  grind [List.range_eq_range',List.range'_succ,Lib.keeps,qt]
theorem PF{W:Ca}{e size n:Nat}{v:Ea}{a:List Ea}(h:W.ownsRow j e size v n a)(c:Array Obj):(grow W c).ownsRow j e size v n a:=
 Wd h ⟨rfl,rfl,rfl,Aa,λb d=>by grind [grow]⟩
theorem DC(a:Fa)(b:Nat)(n:Int)(W:Ca)(c:W.cell? (Ja b 2)=some (pa a.lo))(d:W.cell? (Ja b 3)=some (pa a.hi)):
  FnGives prog 137 #[Ma b] #[pa n] (.bool (decide (n<a.lo) || decide (a.hi<n))) W:=by
 show Calls _ 137 #[.int _ n,.pointer _] W _
 by_cases h:n<a.lo
 {go_enter func137,ntmps137;go_wp2;go_ret;(have e:(decide (n<a.lo) || decide (a.hi<n))=true:=by simp[h]);rw[e];exact⟨rfl,0,rfl⟩}
 {go_enter func137,ntmps137;go_wp2;go_ret;(have e:(decide (n<a.lo) || decide (a.hi<n))=decide (a.hi<n):=by rw[Za ja];rfl);rw[e];exact⟨rfl,0,rfl⟩}
theorem aK(W:Ca)(f:Fo)(b:Option Addr)(cap:Nat)(a:Fa):∃w0,w0=((((W.alloc (.cells #[pa f.op,.string f.name,pa f.cmp,pa f.n,.slice b f.kids.length cap] 32)).alloc (.cells #[.string a.name,pa a.kind,pa a.lo,pa a.hi] 120)).alloc (.cells #[pa a.lo] 3)).alloc (.cells #[.slice (Nb (W.heap.size+1+1)) 1 1] 26)).alloc (.cells #[.func (.func 135) #[] #[.pointer (some ⟨W.heap.size+1,0,none⟩),.pointer (some ⟨W.heap.size+1+1+1,0,none⟩),Ma (W.heap.size+1+1+1+1)]] 217)/\
  VQ w0 (W.heap.size+1) (W.heap.size+2) a/\II w0 (W.heap.size+2) [a.lo] w0/\Da W.heap.size W w0/\w0.heap.size=W.heap.size+5/\qb w0 W.heap.size 32 #[pa f.op,.string f.name,pa f.cmp,pa f.n,.slice b f.kids.length cap]:=by
 refine⟨_,rfl,?_,?_,?_,Aa,?_⟩
 ·refine⟨?_,?_,ja,Aa⟩
  {have q:=(((qb.new (W.alloc (.cells #[pa f.op,.string f.name,pa f.cmp,pa f.n,.slice b f.kids.length cap] 32)) 120 #[.string a.name,pa a.kind,pa a.lo,pa a.hi]).alloc (.cells #[pa a.lo] 3)).alloc (.cells #[.slice (Nb (W.heap.size+1+1)) 1 1] 26)).alloc (.cells #[.func (.func 135) #[] #[.pointer (some ⟨W.heap.size+1,0,none⟩),.pointer (some ⟨W.heap.size+1+1+1,0,none⟩),Ma (W.heap.size+1+1+1+1)]] 217);simp_all}
  grind [qb.new,World.size_alloc]
 ·refine⟨rfl,rfl,rfl,ja,λ_ _ _ _=>rfl,.slice (Nb (W.heap.size+1+1)) 1 1,?_,?_,λg e=>by cases e;grind⟩
  {have q:=(qb.new (((W.alloc (.cells #[pa f.op,.string f.name,pa f.cmp,pa f.n,.slice b f.kids.length cap] 32)).alloc (.cells #[.string a.name,pa a.kind,pa a.lo,pa a.hi] 120)).alloc (.cells #[pa a.lo] 3)) 26 #[.slice (Nb (W.heap.size+1+1)) 1 1]).alloc (.cells #[.func (.func 135) #[] #[.pointer (some ⟨W.heap.size+1,0,none⟩),.pointer (some ⟨W.heap.size+1+1+1,0,none⟩),Ma (W.heap.size+1+1+1+1)]] 217);simp_all}
  ·have q:=World.alloc_heap_new ((W.alloc (.cells #[pa f.op,.string f.name,pa f.cmp,pa f.n,.slice b f.kids.length cap] 32)).alloc (.cells #[.string a.name,pa a.kind,pa a.lo,pa a.hi] 120)) (.cells #[pa a.lo] 3)
   simp only[Ia]at q;refine⟨rfl,.inr ⟨_,1,#[.int _ _],rfl,ja,?_,wa _,Ba,rfl,rfl⟩⟩
   grind [Below.heap_alloc]
 {exact(((((za _ _).alloc ja _).alloc Aa _).alloc (by simp;omega) _).alloc (by simp;omega) _).alloc (by simp;omega) _}
 {exact((((qb.new W _ _).alloc _).alloc _).alloc _).alloc _}
theorem Xm{W:Ca}{g n cap:Nat}(h:W.ownsRow j 3 1 (.slice (Nb g) n cap) n (C.map iW)):Sort.Holds (Value.int .i64) W g 0 C.toArray:=by
 obtain⟨b,a,e,_,_,_,_,_,q⟩:=Lib.holds_of_ownsRow h Aa
 grind
theorem WB{w:Ca}{q:Nat}(d:Array Int)(a:Array Obj):w.grownBy (grow (Sort.putRow (Value.int .i64) (Sort.ahead w q) j 0 d) a) (some j):=by
 refine⟨rfl,rfl,rfl,by simp_all,λk b hne=>?_⟩
 grind [grow,Sort.putRow,Sort.mapBlock,Sort.ahead]
theorem Zn{w:Ca}{q:Nat}(d:Array Int):w.grownBy (Sort.putRow (Value.int .i64) (Sort.ahead w q) j 0 d) (some j):=by
 refine⟨rfl,rfl,rfl,by simp_all,λk a hne=>?_⟩
 grind [Sort.putRow,Sort.mapBlock,Sort.ahead]
theorem mL{W:Ca}{e size n g cap:Nat}{b:List Ea}(h:W.ownsRow j e size (.slice (Nb g) n cap) n b):n<=cap/\cap<=maxLen:=by
 rcases h.2 with⟨e,_⟩|⟨c,cap',a,e,_,_,d,f,_⟩
 all_goals grind
attribute [local go_sem] kh
theorem lJ(d:List Fa)(a:Fa)(f:Fo)(hw:Gk d f)(hsz:f.size<=100000)(v:Ea)(W:Ca)(hf:f.In W W.heap.size v):
  Db 106 #[v,.agg #[.string a.name,pa a.kind,pa a.lo,pa a.hi]] W λe W'=>∃u,e=.returned u/\W'.ownsRow W.heap.size 3 1 u (Zk a.name a.lo a.hi f).length ((Zk a.name a.lo a.hi f).map iW)/\Da W.heap.size W W':=by
 obtain⟨ao,cap,hv⟩:=hf.shape;subst hv;obtain⟨w0,lM,hE,J,P,CO,r⟩:=aK W f ao cap a;have HI:=la (YQ d W.heap.size w0 (W.heap.size+1) (W.heap.size+2) a hE ja f.size f (wa _) hw _ [a.lo] w0 J (Fo.In.below P _ _ hf) (by simp;omega));have HE:=la hE;have iL:=la P;have Y:=la lM;have k0:=r.cell 0;have k1:=r.cell 1;have k2:=r.cell 2;have k3:=r.cell 3;have k4:=r.cell 4;have kf:=hE.fn.cell 0;have hnl:=tv a.name f;clear hf hE J P r;go_enter func106,ntmps106;go_upto_region 4 with(fail);rw[<-Y.o];clear lM Y;go_upto_region 5 with(go_at_call 135;refine HI.o.mono ?_;rintro e w1 ⟨rfl,FQ⟩;have B:=la FQ;clear FQ);have Sj:=B.o.size;obtain⟨vo,G,l,hvt⟩:=B.o.ord;have hzl:([a.lo]++ah a.name f).length<=300000:=by simp;omega
 obtain⟨g,b,rfl,hg,eX⟩:=l.form Aa;have hgn:=ZJ G l g rfl;have Q:=B.o.Pd HE.o.fact ja ja;have hgf:=int_ne Ba Q l g rfl;have c1:w1.cell? (Ya (W.heap.size+3))=_:=G.cell 0
 have VD:Hid (Zk a.name a.lo a.hi f=Lib.compact (((([a.lo]++ah a.name f)).mergeSort λx y=>decide (x<=y)).filter λn=> !(decide (n<a.lo) || decide (a.hi<n)))):=by{show _=_;rw[nL];rfl}
 generalize[a.lo]++ah a.name f=I at*
 have FT:=iL.o.trans ((B.o.below ja).mono ja);have C:=la (Tryz.slices_Sort_int g 0 b I w1 (Xm l) eX ja);have SP:(I.mergeSort λx y=>decide (x<=y)).length=I.length:=Ci _;have c:=λn os=>PF (Lib.ownsRow_putRow (q:=n) (ys:=I.mergeSort λx y=>decide (x<=y)) l SP (wa _)) os
 generalize(I.mergeSort λx y=>decide (x<=y))=H at*
 have uC:=mL l;have HVB:=la G;have HFX:=la Q;have vp:=la FT;have A:=la c;clear G l hvt Q FT c HI B k0 k1 k2 k3 k4 kf;go_upto_region 6 with(go_at_call 100;refine C.o.mono ?_;rintro e S ⟨rfl,n2,os2,RW⟩;have N:=la RW;clear RW);have F:w1.grownBy S (some g):=by rw[N.o];exact WB _ _
 have c:S.ownsRow (W.heap.size+2) 3 1 (.slice (Nb g) I.length b) I.length (H.map iW):=by{have q:=A.o n2 os2;rw[Kc ja, <-N.o]at q;exact q}
 have E:=HVB.o.grown F (λe=>hgn (by cases e;rfl));have i:=HFX.o.grown F (λe=>hgf (by cases e;rfl));have U:=la (vp.o.grown F ja (λk e=>by cases e;omega));have c2:S.cell? (Ya (W.heap.size+3))=_:=E.cell 0;have eg:∀args w,(callFunc 137 args).run prog w=.ok (.enter 137 args) w:=enters_of func137 Ha rfl
 have D:PredOver prog 137 #[Ma (W.heap.size+1)] (Value.int .i64) (λn=>decide (n<a.lo) || decide (a.hi<n)) g 0 H.toArray.size S:=λn os dk x _=>by{(have hh:∀j u,S.cell? (Ja (W.heap.size+1) j)=some u->(sortWorld (Value.int .i64) S g 0 n dk os).cell? (Ja (W.heap.size+1) j)=some u:=λj u h=>by{unfold sortWorld;rw[Sort.cell?_grow _ _ _ (by show W.heap.size+1<(Sort.putRow _ _ _ _ _).heap.size;rw[Sort.size_putRow];exact i.lt),Sort.cell?_putRow_other _ _ g 0 _ _ (Or.inl (by show W.heap.size+1≠g;omega))];exact h});exact DC a (W.heap.size+1) x _ (hh 2 _ (i.cell 2)) (hh 3 _ (i.cell 3))}
 have z:=Tryz.slices_DeleteFunc (Value.int .i64) (λ_=>rfl) (λn=>decide (n<a.lo) || decide (a.hi<n)) 137 #[Ma (W.heap.size+1)] eg 0 Tryz.zeroValue3 g 0 b H.toArray S
  (λW' x hb=>DC a (W.heap.size+1) x W' ((hb.cell (p:=Ja (W.heap.size+1) 2) i.lt).trans (i.cell 2)) ((hb.cell (p:=Ja (W.heap.size+1) 3) i.lt).trans (i.cell 3))) D (Xm c) (by simp;omega) (by simp;omega)
 rw[show H.toArray.size=I.length by simp[SP]]at z;simp only at z;have z_:=ve (λn=> !(decide (n<a.lo) || decide (a.hi<n))) H;generalize H.filter (λn=> !(decide (n<a.lo) || decide (a.hi<n)))=s at*
 have X:=la z;have m:=λq=>Lib.ownsRow_putRow (q:=q) (ys:=s++List.replicate (I.length-s.length) 0) (k:=s.length) c (by simp;omega) ja
 have L:=la m;have XA:=la E;clear z m c E i D eg N C A F c1;go_upto_region 7 with(go_at_call 136;refine X.o.mono ?_;rintro e T ⟨rfl,n3,R⟩;have O:=la R;have hv3:qb T (W.heap.size+2+1) 26 _:=XA.o.grown (row:=some g) (by rw[R];exact Zn _) (λe=>hgn (by cases e;rfl));have c3:T.cell? (Ya (W.heap.size+3))=_:=hv3.cell 0;have z3:T.frozen? (Ya (W.heap.size+3))=false:=hv3.frozen 0;clear R)
 have m:T.ownsRow (W.heap.size+2) 3 1 (.slice (Nb g) s.length b) s.length (s.map iW):=by{have q:=L.o n3;rw[<-O.o,List.take_left]at q;exact q}
 have Jq:=la (U.o.grown (w':=T) (row:=some g) (by rw[O.o];exact Zn _) (by have:=U.o.size;omega) (λk e=>by cases e;omega));have t:=Zi m (Ya (W.heap.size+3)) (.slice (Nb g) s.length b) (λg' e=>by cases e;show g≠W.heap.size+3;omega);have N7:=Jq.o.setCell (p:=Ya (W.heap.size+3)) (by show W.heap.size<=W.heap.size+3;omega) (.slice (Nb g) s.length b)
 have FI:(T.setCell (Ya (W.heap.size+3)) (.slice (Nb g) s.length b)).cell? (Ya (W.heap.size+3))=some (.slice (Nb g) s.length b):=by{rw[World.cell?_setCell_same' _ _ _ (by rw[c3];rfl)]}
 simp only[Nat.reduceAdd,Nat.add_assoc];generalize T.setCell (Ya (W.heap.size+3)) (.slice (Nb g) s.length b)=w4 at*
 have K:=la (Tryz.slices_Compact_int g 0 b s w4 (Xm t) ja ja);have vF:=Lib.compact_length_le s;have M:=la (λq=>Lib.ownsRow_putRow (q:=q) (ys:=Lib.compact s++List.replicate (s.length-(Lib.compact s).length) 0) (k:=(Lib.compact s).length) t (by simp;omega) ja);have V:=la N7;clear m t N7 c3 z3 c2 O;go_wp2_with (go_at_call 114;refine K.o.mono ?_;rintro e w5 ⟨rfl,n5,xX⟩;have Z:=la xX;clear xX);go_ret;refine⟨_,rfl,?_,?_⟩
 {rw[VD.o,Z.o];have q:=M.o n5;rw[List.take_left]at q;exact OG q ja}
 {exact V.o.grown (w':=w5) (row:=some g) (by rw[Z.o];exact Zn _) (by have:=V.o.size;omega) (λk e=>by cases e;omega)}
end
open Go.RowKit
mutual
def dl:Fo->List (Na×Bool)->List (Na×Bool)
 | .mk b s _ _ a,l=>ZQ a (if b=3 then ins l s true else l)
def ZQ:List Fo->List (Na×Bool)->List (Na×Bool)
 | [],l=>l
 | k::ks,l=>ZQ ks (dl k l)
end
theorem EC:∀(a:List Fo) (l:List (Na×Bool)),ZQ a l=a.foldl (λl k=>dl k l) l
 | [],_=>rfl
 | k::a,l=>by rw[ZQ,Nd,EC]
theorem CL.key:KeyLaw Value.string prog 9:=DJ Tryz.underlying9
structure nJ (w0 : Ca) (mb : Nat) (l : List (Na × Bool)) (W : Ca) : Prop where
 os:W.os=w0.os
 tape:W.tape=w0.tape
 output:W.output=w0.output
 size:w0.heap.size<=W.heap.size
 ul:∀b,b<w0.heap.size->b≠mb->W.heap[b]? =w0.heap[b]?
 map:Wb Value.string Value.bool W mb l
theorem nJ.below{w0 W:Ca}{B:Nat}{l:List (Na×Bool)}(h:nJ w0 j l W)(hs:B<=w0.heap.size)(c:B<=j):Da B w0 W:=⟨h.os,h.tape,h.output,h.size,λb a=>h.ul b ja ja⟩
theorem nJ.more{w0 W W':Ca}{l:List (Na×Bool)}(h:nJ w0 j l W)(a:Da W.heap.size W W'):nJ w0 j l W':=
 ⟨a.os.trans h.os,a.tape.trans h.tape,a.output.trans h.output,ub h.size a.size,λb c d=>(a.block b (by have:=h.size;omega)).trans (h.ul b c d),h.map.below a h.map.lt⟩
theorem nJ.Lw{w0 W W':Ca}{l c:List (Na×Bool)}(h:nJ w0 j l W)(a:Bq j W W')(e:Wb Value.string Value.bool W' j c):nJ w0 j c W':=
 ⟨a.os.trans h.os,a.tape.trans h.tape,a.output.trans h.output,by rw[a.size];exact h.size,λb f d=>(a.block b d).trans (h.ul b f d),e⟩
abbrev GZ(B:Nat)(w0:Ca)(a:Nat)(f:Fo):Prop:=
 ∀(v:Ea) (l:List (Na×Bool)) (W:Ca),nJ w0 a l W->f.In w0 B v->
  Db 103 #[v,.map (some a)] W λe W'=>e=.returned (.map (some a))/\nJ w0 a (dl f l) W'
theorem aR(B:Nat)(w0:Ca)(y:Nat)(hB:B<=y)(D:B<=w0.heap.size)(m c n:Int)(s:Na)(a:List Fo)(IH:∀k∈a,GZ B w0 y k):GZ B w0 y (.mk m s c n a):=by
 intro v l W J hf;obtain⟨ao,cap,rfl,w1,w2,w3,w4,k1,k2,hk⟩:=hf;have hsz:=J.size;have HK:=la hk;have A:=la IH;unfold maxLen at k2;have h:=J.more ((za _ _).alloc (wa _) (.cells #[pa m,.string s,pa c,pa n,.slice ao a.length cap] 32));have G:=qb.new W 32 #[pa m,.string s,pa c,pa n,.slice ao a.length cap];have hmW:=J.map.lt;obtain⟨W2,w,F,i⟩:=run_store CL.key Tryz.underlying169 h.map s true;have H:=(i.block _ ja).trans G;have y4:=qb.cell H 4;have r:Hid (nJ w0 y ((a.take 0).foldl (λl k=>dl k l) _) W2):=h.Lw i F;have p:Hid (nJ w0 y ((a.take 0).foldl (λl k=>dl k l) l) _):=h;have I:=la (show dl (.mk m s c n a) l=a.foldl (λl k=>dl k l) (if m=3 then ins l s true else l) by rw[dl,EC]);have T:W.heap.size<W2.heap.size:=by rw[i.size];simp
 generalize dl _ l=TF at*
 clear hk IH J h G H F i;by_cases z:m=3
 ·have S:(m==3)=true:=by rw[z];rfl
  have u:=la (show TF=a.foldl (λl k=>dl k l) (ins l s true) by rw[I.o,Ga z]);generalize ins l s true=Z at*
  clear z I p;go_enter func103,ntmps103;go_wp2
  go_loopw [16] (λx wr=>∃(j:Nat),j<=a.length/\x=pa j/\Hid (nJ w0 y ((a.take j).foldl (λl k=>dl k l) Z) wr)) (λx _=>a.length-(intOf x).toNat)
  case atStart=>exact⟨0,ja,rfl,r⟩
  case round=>
   obtain⟨j,hj,rfl,g⟩:=hrel;clear r;by_cases hlt:j<a.length
   ·obtain⟨X,off,rfl,d,R⟩:=HK.o (by intro e;rw[e]at hlt;simp at hlt)
    have b:=g.o.below D hB;have U:=g.o.size;obtain⟨V,Y,N,O,P,c3,Q,f⟩:=Fo.Vk.get a off j hlt R;have d0:=(b.cell d).trans N;have d1:=(b.cell d).trans O;have d2:=(b.cell d).trans P;have d3:=(b.cell d).trans c3;have d4:=(b.cell d).trans Q;have L:=la (A.o _ (Oa _) _ _ _ (g.o.more ((za _ wr).alloc (wa _) (.cells #[pa a[j].op,.string a[j].name,pa a[j].cmp,pa a[j].n,.slice V a[j].kids.length Y] 32))) f)
    have t:=la (show(a.take (j+1)).foldl (λl k=>dl k l) Z=dl a[j] ((a.take j).foldl (λl k=>dl k l) Z) by
     rw[Ta hlt,Wg];rfl)
    have E:X<wr.heap.size:=by omega
    go_wp2_with (go_at_call 103;refine L.o.mono ?_;rintro e w5 ⟨rfl,C⟩;have K:=la C;clear C);go_roundw
    case rel=>exact⟨j+1,ja,by go_num,by rw[t.o];exact K⟩
    case measure=>simp[intOf];omega
   {(obtain rfl:j=a.length:=ja);have q:=g.o;rw[Ub]at q;have M:=la q;go_wp2;go_ret;rw[u.o];exact⟨rfl,M.o⟩}
 ·have S:(m==3)=false:=by simpa using z
  have u:=la (show TF=a.foldl (λl k=>dl k l) l by rw[I.o,if_neg z]);clear z I r w y4 T;go_enter func103,ntmps103;go_wp2
  go_loopw [16] (λx wr=>∃(j:Nat),j<=a.length/\x=pa j/\Hid (nJ w0 y ((a.take j).foldl (λl k=>dl k l) l) wr)) (λx _=>a.length-(intOf x).toNat)
  case atStart=>exact⟨0,ja,rfl,p⟩
  case round=>
   obtain⟨j,hj,rfl,g⟩:=hrel;clear p;by_cases hlt:j<a.length
   ·obtain⟨X,off,rfl,d,R⟩:=HK.o (by intro e;rw[e]at hlt;simp at hlt)
    have b:=g.o.below D hB;have U:=g.o.size;obtain⟨V,Y,N,O,P,c3,Q,f⟩:=Fo.Vk.get a off j hlt R;have d0:=(b.cell d).trans N;have d1:=(b.cell d).trans O;have d2:=(b.cell d).trans P;have d3:=(b.cell d).trans c3;have d4:=(b.cell d).trans Q;have L:=la (A.o _ (Oa _) _ _ _ (g.o.more ((za _ wr).alloc (wa _) (.cells #[pa a[j].op,.string a[j].name,pa a[j].cmp,pa a[j].n,.slice V a[j].kids.length Y] 32))) f)
    have t:=la (show(a.take (j+1)).foldl (λl k=>dl k l) l=dl a[j] ((a.take j).foldl (λl k=>dl k l) l) by
     rw[Ta hlt,Wg];rfl)
    have E:X<wr.heap.size:=by omega
    go_wp2_with (go_at_call 103;refine L.o.mono ?_;rintro e w5 ⟨rfl,C⟩;have K:=la C;clear C);go_roundw
    case rel=>exact⟨j+1,ja,by go_num,by rw[t.o];exact K⟩
    case measure=>simp[intOf];omega
   {(obtain rfl:j=a.length:=ja);have q:=g.o;rw[Ub]at q;have M:=la q;go_wp2;go_ret;rw[u.o];exact⟨rfl,M.o⟩}
theorem TU(_d:List Fa)(B:Nat)(w0:Ca)(b:Nat)(g:B<=b)(e:B<=w0.heap.size):∀(N:Nat) (f:Fo),f.size<=N->GZ B w0 b f:=by
 intro N
 induction N with
 | zero=>intro f h;obtain⟨d,s,c,n,a⟩:=f;grind [Fo.size]
 | succ N j=>
  intro f h;obtain⟨d,s,c,n,a⟩:=f;have i:=en d c n s a
  grind [aR]
section
theorem gq{f:Type}(k:Na)(v:f)(j:Na):∀l:List (Na×f),(ins l k v).lookup j=if j=k then some v else l.lookup j
 | []=>by
  grind [ins]
 | (a,x)::l=>by{rw[ins];by_cases c:k=a;{subst c;rw[Ga Aa,Ab,Ab];by_cases h:j=k;{subst h;simp};{(have:(j==k)=false:=by simpa using h);rw[this,if_neg h]}};{(have d:(k==a)=false:=by simpa using c);rw[d,if_neg Aa,Ab,Ab,gq];by_cases h:j=a;{subst h;(have b:¬j=k:=λe=>c e.symm);simp[b]};{(have:(j==a)=false:=by simpa using h);rw[this]}}}
structure Y6 (w0 : Ca) (K DB : Nat) (d : List Fa) (fv : Ea) : Prop where
 mv:qb w0 (K+1) 110 #[Ma K]
 dv:qb w0 (K+3) 87 #[.map (some (K+2))]
 fb:qb w0 (K+4) 4 #[.bool false]
 gv:qb w0 (K+5) 178 #[.func (.func 104) #[] #[Ma (K+1),Ma (K+4),Ma DB,.pointer (some ⟨K+3,0,none⟩),Ma (K+5)]]
 db:qb w0 DB 24 #[fv]
 lt:DB<K
 dom:Sa Jk 4 w0 K d fv
 Cq:Jh K w0
 size:K+6<=w0.heap.size
structure Yk (w0 : Ca) (K : Nat) (S : List Nat) (m : List Dn) (dn : List (Na × Nat)) (W : Ca) : Prop where
 Hj:re K [] w0 W
 is:Zh W K K S m
 own:W.cell? (Ja K 1)≠some (.map (some (K+2)))
 Vf:∃mp,Wb Value.string (Value.int .i64) W (K+2) mp/\∀k,mp.lookup k=(dn.lookup k).map (λ(n:Nat)=>(n:Int))
variable {w0 W W' : Ca} {K DB : Nat} {S S' : List Nat} {d : List Fa} {fv : Ea} {m m' : List Dn} {dn : List (Na × Nat)}
theorem Yk.Pd(h:Yk w0 K S m dn W){a:Array Ea}(b:qb w0 j E a)(c:(E==104)=false/\(E==114)=false):qb W j E a:=
 h.Hj.keep j _ b (.inr ⟨by grind [fi],Aa⟩)
theorem Yk.size(h:Yk w0 K S m dn W):w0.heap.size<=W.heap.size:=h.Hj.size
theorem Yk.lt(h:Yk w0 K S m dn W):K<W.heap.size:=by obtain⟨_,⟨v,b,c,a,_⟩,_⟩:=h.is;exact a.lt
theorem Yk.step(h:Yk w0 K S m dn W)(hs:Ly K K W W')(f:Zh W' K K S m'):Yk w0 K S m' dn W':=by
 obtain⟨g,⟨a,c,b,d⟩,e⟩:=h.Vf;obtain⟨i,j⟩:=hs.k _ a c b h.own;exact⟨h.Hj.trans hs.s,f,j,g,⟨a,c,i,d⟩,e⟩
theorem Yk.below(h:Yk w0 K S m dn W)(a:Da W.heap.size W W'):Yk w0 K S m dn W':=
 h.step (Ly.jc a h.lt) (h.is.below a ja)
theorem Yk.less(h:Yk w0 K S m dn W)(hs:∀k∈S',k∈S):Yk w0 K S' m dn W:=⟨h.Hj,h.is.less hs,h.own,h.Vf⟩
theorem Yk.Ey(h:Yk w0 K S m dn W){q:List (Na×Int)}(n:∀k,q.lookup k=(dn.lookup k).map (λ(j:Nat)=>(j:Int))){key:Na}(b:Bq (K+2) W W')(E:Wb Value.string (Value.int .i64) W' (K+2) (ins q key (j:Int)))
  (l:Wb Value.string (Value.int .i64) W (K+2) q):Yk w0 K S m ((key,j)::dn) W'/\re K [] W W':=by
 have a:=qG l;have o:re K [] W W':=re.wo b ⟨ja,.inr a⟩;have p:re K S W W':=o.more Aa;obtain⟨f,⟨v,G,J,t,u,B,C,d⟩,hlen⟩:=h.is;have hne:K≠K+2:=by omega
 have e:qb W' K 114 _:=(b.block K hne).trans t;refine⟨⟨h.Hj.trans o,⟨f,⟨v,G,J,e,lh u (λg M=>b.block g ?_),B,λx F=>(C x F).step p,?_⟩,hlen⟩,?_,_,E,?_⟩,o⟩
 {rintro rfl;(rcases u.2 with⟨rfl,_⟩|⟨L,cap,w,rfl,_,D,_⟩);all_goals grind [Value.ownBlock,Cv]}
 {(rcases d with d|⟨r,s,y,z⟩);{exact .inl d};{refine .inr ⟨r,s,y,?_⟩;obtain⟨A,c,H,I⟩:=z;refine⟨A,c,(b.block r ?_).trans H,I⟩;rintro rfl;exact h.own (by rw[t.cell,s];rfl)}}
 {rw[b.cell hne];exact h.own}
 {intro k;rw[gq,Ab];by_cases i:k=key;{subst i;simp};{(have:(k==key)=false:=by simpa using i);rw[this,if_neg i];exact n k}}
def Mg(v:Ea):List Nat:=v.ownBlock.toList
theorem Yh{W:Ca}{e size n:Nat}{v:Ea}{c:List Ea}(h:W.ownsRow j e size v n c):∀g,v.ownBlock=some g->j<=g/\∃a,W.heap[g]? =some (.cells a e (0,0)):=by
 intro g k;rcases h.2 with⟨rfl,_⟩|⟨d,cap,b,rfl,f,i,_⟩
 all_goals grind [Value.ownBlock]
theorem vt{e size n:Nat}{v:Ea}{c:List Ea}(h:W.ownsRow j e size v n c)(hs:re K S W W')(i:(e==104)=false/\(e==114)=false)(d:∀g,v.ownBlock=some g->g∉S):W'.ownsRow j e size v n c:=
 lh h λg b=>by{obtain⟨_,f,a⟩:=Yh h g b;rw[a];exact hs.keep g _ a (.inr ⟨by grind [fi],d g b⟩)}
theorem Yk.Zx{n:Nat}{d t:Ea}{A:List Ea}(h:Yk w0 K (Mg d++S) m dn W)(B:K+6<=w0.heap.size)(y:W.ownsRow j 3 1 d n A)(i:w0.heap.size<=j)(r:W.grownBy W' d.ownBlock){g:Nat}(C:t.ownBlock=some g)(q:d.ownBlock=some g\/g=W.heap.size):
  Yk w0 K (Mg t++S) m dn W'/\re K (Mg d) W W':=by
 have v:=Yh y;have a:re K (Mg d) W W':=re.bn r λb e=>⟨by grind,.inl (by grind [Mg])⟩
 have l:∀b o,W.heap[b]? =some o->fi o=false->b<W.heap.size->W'.heap[b]? =some o:=λb o f u p=>by
  refine(r.block b p λe=>?_).trans f
  grind [fi]
 have s:Mg t=[g]:=by grind [Mg]
 refine⟨⟨?_,?_,?_,?_⟩,a⟩
 ·refine((h.Hj.more Aa).trans a).less λb x hlt=>?_
  grind [Mg]
 ·rw[s]
  rcases q with e|e
  {(have:Mg d=[g]:=by grind [Mg]);rw[<-this];exact h.is.keep (a.more λb i=>Hg _ i) l}
  ·refine(h.is.fresh (k:=g) ja (a.more λb i=>Hg _ i) l).less λk l=>?_
   grind
 {(have:=r.block K h.lt λe=>by grind);rw[World.cell?_of_block this];exact h.own}
 {obtain⟨z,⟨w,c,f,u⟩,p⟩:=h.Vf;exact⟨z,⟨w,c,l _ _ f rfl (zf f),u⟩,p⟩}
theorem zt{W:Ca}{v:Ea}(h:qb W j E #[v]):W.setCell (Ya j) v=W:=by
 have e:(W.setCell (Ya j) v).heap=W.heap:=by
  apply Array.ext_getElem?
  intro i;by_cases a:i=j
  {subst a;rw[heap_setCell_same W i 0 _ _ v h,h];rfl}
  grind [heap_setCell_other]
 show({W with heap:=(W.setCell (Ya j) v).heap})=W
 rw[e]
theorem rX{f:Fo}{v:Ea}(a:f.Fk W (ms W j S) v)(hs:re j S W W'):f.Fk W' (ms W' j S) v:=Fo.Fk.step (λ_ h=>h.heap hs) (λ_ h=>h.step hs) _ _ a
theorem sZ{f:Fo}{v:Ea}(a:f.Fk W (ms W j S) v)(hs:∀b∈S',b∈S\/W.heap.size<=b):f.Fk W (ms W j S') v:=Fo.Fk.step (λ_ _=>rfl) (λb h=>⟨h.1,λe=>(hs b e).elim h.2.1 (λq=>by have:=h.1;omega),h.2.2⟩) _ _ a
theorem tX{f:Fo}{v:Ea}(i:∀b∈S,b<W.heap.size)(a:Da W.heap.size W W')(c:f.Fk W' (PN (ms W j S) W W') v):f.Fk W' (ms W' j S) v:=
 Fo.Fk.step (λ_ _=>rfl) (λb h=>by
  rcases h with h|⟨d,g,h⟩
  {exact h.step (re.jc a ja)}
  ·exact⟨zf h,λe=>by grind,.inr ⟨_,h,rfl⟩⟩) _ _ c
end
open Go.Sort (grow)
theorem UD(W:Ca):BL W.heap.size W.heap.size [] (W.alloc (.cells #[.pointer none,Ua] 141)):=
 .inl ⟨ja,_,World.alloc_heap_new W _,⟨ja,.inl ⟨rfl,rfl⟩⟩,by simp[Value.ownBlock]⟩
end Go.Proofs.YtdipkbobalnilaaGreatDoor
