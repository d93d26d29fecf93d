/- A formula in memory whose blocks have a property: what a step that keeps those blocks leaves; rows of formulas of the call's own. No conditions. -/
import Derived.Test.YtdipkbobalnilaaGreatDoorAl
import Derived.Test.YtdipkbobalnilaaGreatDoorDgIW
import Derived.Handy
set_option maxRecDepth 100000
set_option maxHeartbeats 4000000
namespace Go.Proofs.YtdipkbobalnilaaGreatDoor
open Tryz
open Go.RowKit
variable{j:Nat}{T:List Dn}{Z:Int}{E:TypeId}{Q:List Nat}{g G:Nat->Int}
abbrev eR(x:Nat):Ea:=pa (x:Int)
def Jv(o:List Nat):List (Int×Int):=o.zipIdx.map λp=>((p.1:Int),(p.2:Int))
theorem RG(o:List Nat)(x:Nat):Jv (o++[x])=Jv o++[((x:Int),(o.length:Int))]:=by
 grind [Jv]
theorem Rt(x:Nat):∀(o:List Nat) (k:Nat),((o.zipIdx k).map λp=>((p.1:Int),(p.2:Int))).lookup (x:Int)=if x∈o then some ((k+o.idxOf x:Nat):Int)else none
 | [],_=>by simp
 | y::o,k=>by{rw[List.zipIdx_cons,Eb,Ab];by_cases h:x=y;{subst h;simp};{(have b:(x==(y:Int))=false:=by simp;omega);(have c:(y==x)=false:=by rw[beq_eq_false_iff_ne];exact λe=>h e.symm);dsimp only;rw[b];dsimp only;rw[Rt];by_cases a:x∈o;{rw[Ga a,Ga (Pa _ a),zh,c];simp only[cond_false];congr 2;omega};{rw[if_neg a,if_neg (by simp[h,a])]}}}
theorem iq(o:List Nat)(x:Nat):(Jv o).lookup (x:Int)=if x∈o then some ((o.idxOf x:Nat):Int)else none:=by
 have:=Rt x o 0;rw[Vb]at this;exact this
structure IZ (w0 : Ca) (H0 mb : Nat) : Prop where
 m:qb w0 H0 110 #[Ma mb]
 p:qb w0 (H0+3) 173 #[.map (some (H0+2))]
 v:qb w0 (H0+5) 174 #[.func (.func 88) #[] #[Ma (H0+3),Ma (H0+4),Ma H0,.pointer (some ⟨H0+5,0,none⟩)]]
 size:H0+6<=w0.heap.size
structure fR (w0 : Ca) (H0 : Nat) (o : List Nat) (W : Ca) : Prop where
 os:W.os=w0.os
 tape:W.tape=w0.tape
 output:W.output=w0.output
 size:w0.heap.size<=W.heap.size
 ul:∀b,b<w0.heap.size->b≠H0+2->b≠H0+4->W.heap[b]? =w0.heap[b]?
 map:Wb (Value.int .i64) (Value.int .i64) W (H0+2) (Jv o)
 ord:∃v,qb W (H0+4) 26 #[v]/\W.ownsRow w0.heap.size 3 1 v o.length (o.map eR)
theorem fR.below{a W:Ca}(h:fR a j Q W)(hs:j+6<=a.heap.size):Da (j+2) a W:=
 ⟨h.os,h.tape,h.output,h.size,λb c=>h.ul b ja ja ja⟩
theorem yz:∀w,(zeroValue 3).run prog w=.ok (pa 0) w:=Tryz.zeroValue3
theorem gR.key:KeyLaw (Value.int .i64) prog 3:=tE Tryz.underlying3
theorem fR.push{i W p W2 w3:Ca}{o:List Nat}{x:Nat}{v:Ea}(hs:j+6<=i.heap.size)(h:fR i j o W)(D:x∉o)(A:qb W (j+4) 26 #[v])(m:W.ownsRow i.heap.size 3 1 v o.length (o.map eR))
  (z:Wb (Value.int .i64) (Value.int .i64) p (j+2) (ins (Jv o) (x:Int) (o.length:Int))) (n:Bq (j+2) W p) (d:Da p.heap.size p W2) {g cap:Nat}
  (l:w3.ownsRow i.heap.size 3 1 (.slice (Nb g) (o.length+1) cap) (o.length+1) (o.map eR++[eR x])) (f:W2.grownBy w3 v.ownBlock):
  fR i j (o++[x]) (w3.setCell (Ya (j+4)) (.slice (Nb g) (o.length+1) cap)):=by
 have B:=λb e=>(m.lt b e).1
 have hsz:=h.size;have s:=n.size;have t:=d.size
 have k:∀b,b<i.heap.size->b≠j+2->w3.heap[b]? =W.heap[b]? :=λb a hne=>by{rw[f.block b ja (λe=>by grind),d.block b ja,n.block b hne]}
 refine⟨(((f.os.trans d.os).trans n.os).trans h.os),((f.tape.trans d.tape).trans n.tape).trans h.tape,((f.output.trans d.output).trans n.output).trans h.output,by have:=f.size;simp;omega,λb a q r=>?_,?_,⟨.slice (Nb g) (o.length+1) cap,?_,?_⟩⟩
 {rw[Oc _ _ _ b (λe=>r e),k b a q,h.ul b a q r]}
 ·obtain⟨w,c,u,C⟩:=z
  refine⟨w,c,?_,?_⟩
  {rw[Oc _ _ _ _ (by grind),f.block _ ja (λe=>by grind),d.block _ ja];exact u}
  grind [RG,Il,iq]
 {have:qb w3 _ 26 _:=(k _ ja ja).trans A;exact this.set 0 _}
 {rw[Qa,Pb];exact Zi l _ _ λy e=>by have:=(l.lt y e).1;grind}
theorem Zh.node{W:Ca}{m:Nat}(h:Zh W j m Q T)(k:Nat)(r:k<T.length):∃g cap u w t,W.cell? (Ya m)=some (.slice (Nb g) T.length cap)/\W.cell? (Ja m 1)=some t/\j<=g/\g<W.heap.size/\m<W.heap.size/\T.length<=cap/\cap<=maxLen/\
  W.cell? (Ja g (k*4))=some (pa (T.getD k Ka).fact)/\W.cell? (Ja g (k*4+1))=some u/\W.cell? (Ja g (k*4+2))=some w/\W.cell? (Ja g (k*4+3))=some (.bool (T.getD k Ka).leaf)/\Wf W j Q (T.getD k Ka).Sb u/\Wf W j Q (T.getD k Ka).kids w:=by
 obtain⟨B,⟨v,t,b,o,f,E,z,F⟩,G⟩:=h;have q:b.length=T.length:=by grind
 rw[q]at f;obtain⟨g,cap,rfl,A,d⟩:=f.form ja
 have c:T.length<=cap/\cap<=maxLen:=by{(rcases f.2 with⟨e,_⟩|⟨D,cap',y,e,_,_,I,J,_⟩);all_goals grind}
 have p:k<b.length:=by omega
 have s:=z _ (Oa p)
 have l:b[k].n=T.getD k Ka:=by
  grind
 have i:∀a,a<4->W.cell? (Ja g (k*4+a))=b[k].cells[a]? :=λa H=>by
  rw[f.cellAt _ ja]
  have flat:∀(b:List Ph) (k:Nat) (r:k<b.length),(b.flatMap Ph.cells)[k*4+a]? =b[k].cells[a]? :=by{intro b;induction b with| nil=>grind| cons x b C=>{intro k r;cases k with| zero=>rw[Bc,te (by show _<4;omega)];simp| succ k=>{rw[Bc,Td (by show 4<=_;omega),show(k+1)*4+a-x.cells.length=k*4+a by show _-4=_;omega,C k (by grind)];simp}}}
  grind
 refine⟨g,cap,b[k].vc,b[k].vk,_,o.cell 0,o.cell 1,A,d,o.lt,c.1,c.2,?_,?_,?_,?_,?_,?_⟩
 {rw[<-l];exact i 0 ja}
 {exact i 1 ja}
 {exact i 2 ja}
 {rw[<-l];exact i 3 ja}
 {rw[<-l];exact s.Sb}
 {rw[<-l];exact s.kids}
abbrev JZ(c:Ca)(a:Nat)(b:Nat)(t:List Dn)(f:Nat):Prop:=
 ∀(x:Nat) (o:List Nat) (W:Ca),x<t.length->b-Rb b (t.getD x Ka)<f->o.Nodup->(∀y∈o,y<t.length)->fR c a o W->
  Db 88 #[pa (x:Int),Ma (a+3),Ma (a+4),Ma a,Ma (a+5)] W λe d=>e=.returned (.tuple #[])/\fR c a (Mc t f o x) d
theorem fR.Pd{d W:Ca}(h:fR d j Q W){b:Nat}{a:Array Ea}(c:qb d b E a)(e:b≠j+2)(f:b≠j+4):qb W b E a:=(h.ul b c.lt e f).trans c
theorem dK(w00 w0:Ca)(H w mb:Nat)(S:List Nat)(hE:IZ w0 w mb)(h00:w00.heap.size=w)(hm:Zh w00 H mb S T)(tm:Da w w00 w0)(hmb:w0.heap.size=w+6)
  (hT:Lg j g G T) (hl:T.length<=900000) (f:Nat) (IH:JZ w0 w j T f):JZ w0 w j T (f+1):=by
 intro x o W hx hf Y V hst;obtain⟨v,E,h⟩:=hst.ord;have hsz:=hst.size;have b1:=(hst.Pd hE.m ja ja).cell 0;have b2:=(hst.Pd hE.p ja ja).cell 0;have b3:=(hst.Pd hE.v ja ja).cell 0;have b4:=E.cell 0;have X:=af gR.key Tryz.underlying173 yz hst.map x;rw[iq]at X
 have U3:o.length<=T.length:=by{have:=Ac Y (λy L=>List.mem_range.2 (V y L));rwa[Jd]at this}
 by_cases q:x∈o
 {rw[Ga q]at X;have HV:=la (show Mc T (f+1) o x=o by rw[Mc,Ga q]);have HS:=la hst;clear hst E h q IH;go_enter func88,ntmps88;go_wp2;apply Fb (results_none rfl _ _ _) rfl;rw[HV.o];exact⟨rfl,HS.o⟩}
 ·rw[if_neg q]at X
  have HV:=la (show Mc T (f+1) o x=((T.getD x Ka).kids).foldl (λo k=>Mc T f o k.toNat) (o++[x]) by rw[Mc,if_neg q]);obtain⟨i0,Kw,yx,Un,BA⟩:=info_parts Hl;obtain⟨W1,IX,EX,t⟩:=run_store gR.key Tryz.underlying173 hst.map x o.length;obtain⟨va,N,hvs⟩:=Xd h;have anw:=De t.size.symm;have c4:=(t.cell (by show w+4≠_;omega)).trans b4;have K:qb W1 _ 26 _:=(t.block _ ja).trans E;have z4:=K.frozen 0;have D:=lh h λc hg=>t.block c (by have:=(h.lt c hg).1;omega)
  have P:=la (λ(W2 w3) hb c cap C hg=>hst.push (W2:=W2) (w3:=w3) (g:=c) (cap:=cap) ja q E h EX t hb C hg);have z:=la D
  have HNI:=la (show(o++[x]).Nodup/\∀y∈o++[x],y<T.length from⟨by
   rw[Ge]
   exact⟨Y,Aa,λa ha b hb e=>by rw[Qd]at hb;subst hb;subst e;exact q ha⟩,λy L=>by
   rcases List.mem_append.1 L with L|L
   {exact V y L}
   ·rw[Qd]at L;rw[L];exact hx⟩)
  subst hvs;obtain⟨c,cap,vc,vk,mo,e0,_,_,adp,anx,JX,U,_,_,e2,_,_,l⟩:=hm.node x hx
  have hkd:∀k∈(T.getD x Ka).kids,k.toNat<T.length/\j-Rb j (T.getD k.toNat Ka)<f/\0<=k:=by{intro k J;have hne:=zd J;have h1:=((hT x hx).inner hne).2.2.2.2.2.2.2 k J;(have h3:Rb j (T.getD x Ka)=(T.getD x Ka).fact.toNat:=by unfold Rb;rw[if_neg hne]);have h4:=Ug hT h1.2.1;exact⟨h1.2.1,ja,h1.1⟩}
  have EO:(T.getD x Ka).kids.length<=maxLen:=by{obtain⟨ao,cp,_,q1,q2,_⟩:=Sa.shape l.1;omega}
  have HKD:=la hkd;have HKI:=la l;obtain⟨ka,kc,hvk,kl1,kl2,_⟩:=Sa.shape l.1;subst hvk;have CI:=la IH;have HE:=la hE;have O:=la tm;generalize(T.getD x Ka).kids=kids at*
  unfold maxLen at EO kl2 U;clear hst E h EX t K D Y V q hm l hkd IH hE tm;have hT0:=hT;clear hT;go_enter func88,ntmps88;go_wp2_with (at_builtin;refine wpList_append_own_at _ Ra _ _ 26 Ra _ 3 i0 _ 1 8 Tryz.underlying26 Kw yx Un BA rfl Ba _ _ _ Ra (z.o.alloc _) _ 1 1 [eR x] Ra Ra (cell_one_new _ _ _) (by intro u hu;simp at hu;subst hu;rfl) (by unfold maxLen;omega) ja (by simp;omega) ?_;intro v4 w4 s i Z O7;refine Hid.o ?_);refine la ?_;obtain⟨g4,adr,rfl,hg4,aih⟩:=s.form ja;have I:∀e:some (w+4)=(Value.slice va o.length N).ownBlock,False:=λe=>by have:=(z.o.lt _ e.symm).1;omega
  have R:=i.block _ (by rw[Ia];omega) I;have c4b:w4.cell? _=some (.slice va _ N):=(World.cell?_of_block R).trans ((World.cell?_of_block (Bd W1 _ (w+4) ja)).trans c4);have z4b:=(sf R).trans ((sf (Bd W1 _ (w+4) ja)).trans z4);have A:=la (P.o _ w4 ((za _ _).alloc (wa _) _) g4 adr s i);have Q:=A.o.below ja;go_upto_region 4 with(fail);have d1:=(A.o.Pd HE.o.m ja ja).cell 0;have d3:=(A.o.Pd HE.o.v ja ja).cell 0;have d4:=((O.o.trans (Q.mono ja)).cell (by show mb<_;omega)).trans e0;have d5:=((O.o.trans (Q.mono ja)).cell (by show c<_;omega)).trans e2;clear s i Z O7 Q I R c4b z4b;generalize w4.setCell _ _=w5 at*
  have QI:0<=(x:Int):=Xb _;have jF:x<(T.length:Int):=by omega
  go_wp2
  go_loopw [35] (λix wr=>∃(d:Nat) (M:List Nat),d<=kids.length/\ix=pa d/\Hid (M=(kids.take d).foldl (λo k=>Mc T f o k.toNat) (o++[x]))/\Hid (fR w0 w M wr)/\Hid (M.Nodup/\∀y∈M,y<T.length)) (λix _=>kids.length-(intOf ix).toNat)
  case atStart=>exact⟨0,_,ja,rfl,rfl,A,HNI⟩
  case round=>(obtain⟨d,M,hj,rfl,C,B,n⟩:=hrel;clear A HNI d1 d3 d4 d5;have c1':=(B.o.Pd HE.o.v ja ja).cell 0;by_cases hlt:d<kids.length;{have Am:=B.o.below ja;obtain⟨kb,ko,rfl,pX,MQ⟩:=Sa.one HKI.o.1 d hlt;have ads:=((O.o.trans (Am.mono ja)).cell (by show kb<_;omega)).trans MQ;have J:=HKD.o kids[d] (Oa _);have r:(kids.take (d+1)).foldl (λo k=>Mc T f o k.toNat) (o++[x])=Mc T f M kids[d].toNat:=by{rw[Ta hlt,Wg, <-C.o];rfl};generalize kids[d]=kv at*;obtain⟨kn,rfl⟩:∃kn:Nat,kv=kn:=⟨kv.toNat,ja⟩;rw[Fc]at J r;have HF:=la r;have HI:=la (CI.o kn M wr J.1 J.2.1 n.o.1 n.o.2 B.o);have F:=la (cn hT0 f M kn J.1 J.2.1 n.o.1 n.o.2).1;clear MQ r Am B n C;go_wp2_with (go_at_call 88;refine HI.o.mono ?_;rintro e w6 ⟨rfl,hS6⟩;have V_:=la hS6;clear hS6);go_roundw;(case rel=>exact⟨d+1,_,ja,by go_num,by rw[HF.o];rfl,V_,⟨F.o.nodup,F.o.inside⟩⟩);case measure=>simp[intOf];omega};{(have QD:d=kids.length:=ja);have HO:=C.o;rw[QD,Ub, <-HV.o]at HO;have HO2:=la HO;go_wp2;go_end0;rw[<-HO2.o];exact⟨rfl,B.o⟩})
theorem eK(l:List Int)(v:Ea)(w:Ca)(hlen:l.length<=2000000)(L:IntsIn w w.heap.size l v):
  Db 89 #[v] w λe F=>∃B,e=.returned B/\F.ownsRow w.heap.size 3 1 B l.length (l.map iW)/\Da w.heap.size w F:=by
 obtain⟨C,cap,rfl,O,P,n⟩:=L;obtain⟨N,t,x,z,A⟩:=info_parts Hl;have Q:=λw=>Lib.run_eql_slice_nil w 26 3 C l.length cap 0 0 Tryz.underlying26
 have G:Hid ((w.alloc _).ownsRow _ 3 1 _ 0 []):=⟨rfl,.inr ⟨_,0,#[],rfl,wa _,heap_alloc_new _ _,wa _,Lb _,rfl,rfl⟩⟩;cases C with| none=>{have p:l=[]:=by{apply Classical.byContradiction;intro e;obtain⟨b,off,r,_⟩:=n e;cases r};have q:=la p;clear p n;go_enter func89,ntmps89;go_wp2;go_ret;have p:=q.o;subst p;exact⟨_,rfl,Ec _ _ _ _,za _ _⟩}| some a=>{have c:∀j u,(l.map iW)[j]? =some u->(w.alloc (.cells #[] 3)).cell? (a.add j)=some u:=by{intro j u m;rw[gd]at m;have g:j<l.length:=by{(rcases td j l.length with h|h);{exact h};{rw[Pf h]at m;cases m}};rw[Xa g]at m;obtain⟨b,off,r,J,K⟩:=n (by intro e;simp[e]at g);(cases r);have D:w.cell? _=some _:=K j g;rw[oh]at D;(have i:(Ja b off:Addr).add j=⟨b,off+j,none⟩:=by unfold Addr.add;split<;>simp_all);rw[i,World.cell?_of_block (Bd w _ b J),D];exact m};have q:=la c;clear n c;go_enter func89,ntmps89;go_wp2_with (at_builtin;refine wpList_append_own_at _ rfl _ _ 26 rfl _ 3 N _ 1 8 Tryz.underlying26 t x z A rfl Ba _ _ _ rfl G.o a _ cap _ rfl Aa q.o (by intro u M;obtain⟨y,_,rfl⟩:=List.mem_map.1 M;rfl) ja ja Aa ?_;intro B R d f E I;refine Hid.o ?_);refine la ?_;have s:=((za _ w).alloc (wa _) (.cells #[] 3)).grown f Aa (λk e=>by cases e;exact wa _);rw[Vb,Tb]at d;have H:=la d;go_wp2;go_ret;exact⟨_,rfl,H.o,s⟩}
section
def br:Cf Dn:=λw B x b o=>∃a c,w.cell? (Ja b o)=some (pa x.fact)/\w.cell? (Ja b (o+1))=some a/\w.cell? (Ja b (o+2))=some c/\w.cell? (Ja b (o+3))=some (.bool x.leaf)/\IntsIn w B x.Sb a/\IntsIn w B x.kids c
theorem br.kept:br.Kept:=by
 rintro w k B x b o a hlt ⟨e,f,g,h,i,j,c,d⟩;refine⟨e,f,?_,?_,?_,?_,c.below a,d.below a⟩<;>(rw[a.cell (by exact hlt)];assumption)
theorem br.mono:br.SG:=by
 rintro w B k x b o a ⟨i,j,c,d,e,f,g,h⟩;exact⟨i,j,c,d,e,f,Sa.mono (Ad.mono _) a g,Sa.mono (Ad.mono _) a h⟩
def Zd(w:Ca)(B:Nat)(g:List Dn)(v:Ea):Prop:=∃u,v=.agg #[u]/\Sa br 4 w B g u
theorem Zd.below{w a:Ca}{B:Nat}(c:Da B w a){g:List Dn}{v:Ea}(h:Zd w B g v):Zd a B g v:=by
 obtain⟨u,rfl,b⟩:=h;exact⟨u,rfl,b.below br.kept c⟩
theorem Zd.mono{w:Ca}{B a:Nat}(c:B<=a){g:List Dn}{v:Ea}(h:Zd w B g v):Zd w a g v:=by
 obtain⟨u,rfl,b⟩:=h;exact⟨u,rfl,b.mono br.mono c⟩
theorem kh{P:Program}{w:Ca}{a:Addr}{m:Mode}(f:Fn)(x y:Array Ea):(store a (.func f x y) m).run P w=stored P w a (.func f x y) m:=Go.run_store P w a _ m rfl
theorem tL(W:Ca)(b:Nat):∃a,a=(((((W.alloc (.cells #[Ma b] 110)).alloc (.cells #[Ua] 55)).alloc (.map #[] 0)).alloc (.cells #[.map (some (W.heap.size+1+1))] 173)).alloc (.cells #[Ua] 26)).alloc (.cells #[.func (.func 88) #[] #[.pointer (some ⟨W.heap.size+1+1+1,0,none⟩),.pointer (some ⟨W.heap.size+1+1+1+1,0,none⟩),Ma W.heap.size,Ma (W.heap.size+1+1+1+1+1)]] 174)/\
  IZ a W.heap.size b/\fR a W.heap.size [] a/\Da W.heap.size W a/\a.heap.size=W.heap.size+6/\qb a (W.heap.size+1) 55 #[Ua]:=by
 refine⟨_,rfl,?_,?_,?_,Aa,?_⟩
 ·exact⟨((((((qb.new W _ _).alloc _).alloc _).alloc _).alloc _).alloc _),(by
   have q:=((qb.new (((W.alloc (.cells #[Ma b] 110)).alloc (.cells #[Ua] 55)).alloc (.map #[] 0)) 173 #[.map (some (W.heap.size+1+1))]).alloc (.cells #[Ua] 26)).alloc (.cells #[.func (.func 88) #[] #[.pointer (some ⟨W.heap.size+1+1+1,0,none⟩),.pointer (some ⟨W.heap.size+1+1+1+1,0,none⟩),Ma W.heap.size,Ma (W.heap.size+1+1+1+1+1)]] 174)
   simp_all),(by
   grind [qb.new,World.size_alloc]),Aa⟩
 ·refine⟨rfl,rfl,rfl,ja,λ_ _ _ _=>rfl,⟨#[],0,?_,rfl⟩,_,?_,Ec _ _ _ _⟩
  ·grind [World.alloc_heap_new,World.size_alloc,Below.heap_alloc]
  {have q:=(qb.new ((((W.alloc (.cells #[Ma b] 110)).alloc (.cells #[Ua] 55)).alloc (.map #[] 0)).alloc (.cells #[.map (some (W.heap.size+1+1))] 173)) 26 #[Ua]).alloc (.cells #[.func (.func 88) #[] #[.pointer (some ⟨W.heap.size+1+1+1,0,none⟩),.pointer (some ⟨W.heap.size+1+1+1+1,0,none⟩),Ma W.heap.size,Ma (W.heap.size+1+1+1+1+1)]] 174);simp_all}
 {exact((((((za _ _).alloc ja _).alloc Aa _).alloc (by simp;omega) _).alloc (by simp;omega) _).alloc (by simp;omega) _).alloc (by simp;omega) _}
 {have q:=((((qb.new (W.alloc (.cells #[Ma b] 110)) 55 #[Ua]).alloc (.map #[] 0)).alloc (.cells #[.map (some (W.heap.size+1+1))] 173)).alloc (.cells #[Ua] 26)).alloc (.cells #[.func (.func 88) #[] #[.pointer (some ⟨W.heap.size+1+1+1,0,none⟩),.pointer (some ⟨W.heap.size+1+1+1+1,0,none⟩),Ma W.heap.size,Ma (W.heap.size+1+1+1+1+1)]] 174);simp_all}
theorem qs{m:Nat}{p n:Nat->Int}{t:List Dn}(a c:Ca)(H b h:Nat)(S:List Nat)(i:IZ c b h)(d:a.heap.size=b)(l:Zh a H h S t)(e:Da b a c)(g:c.heap.size=b+6)
  (j:Lg m p n t) (k:t.length<=900000):∀f,JZ c b m t f
 | 0=>λx o W r q=>by omega
 | f+1=>dK a c H b h S i d l e g j k f (qs a c H b h S i d l e g j k f)
def Av(S:List Nat)(l:List Int)(v:Ea):Prop:=l≠[]->∀a n c,v=.slice (some a) n c->a.block∉S
def VA(S:List Nat):Cf Dn:=λw B x b o=>br w B x b o/\b∉S/\∃a c,w.cell? (Ja b (o+1))=some a/\w.cell? (Ja b (o+2))=some c/\Av S x.Sb a/\Av S x.kids c
def Rg(w:Ca)(B:Nat)(S:List Nat)(g:List Dn)(v:Ea):Prop:=∃u,v=.agg #[u]/\Sa (VA S) 4 w B g u
theorem Rg.dg{w:Ca}{v:Ea}(h:Rg w j Q T v):Zd w j T v:=by
 obtain⟨u,rfl,a,cap,rfl,c,d,e⟩:=h;refine⟨_,rfl,a,cap,rfl,c,d,λhne=>?_⟩;obtain⟨b,off,rfl,hlt,f⟩:=e hne;exact⟨b,off,rfl,hlt,λi g=>(f i g).1⟩
structure KZ (S : List Nat) (w1 : Ca) (B R : Nat) (d : List Dn) (n j : Nat) (W : Ca) : Prop where
 Hj:re R [] w1 W
 row:∃xs:List Ea,W.ownsRow R 104 4 (.slice (Nb R) n n) n xs/\∀i,i<j->∃vc vk,xs[i*4]? =some (pa (d.getD i Ka).fact)/\xs[i*4+1]? =some vc/\xs[i*4+2]? =some vk/\xs[i*4+3]? =some (.bool (d.getD i Ka).leaf)/\
  (IntsIn w1 B (d.getD i Ka).Sb vc/\Av S (d.getD i Ka).Sb vc)/\W.ownsRow w1.heap.size 3 1 vk (d.getD i Ka).kids.length ((d.getD i Ka).kids.map iW)
theorem OG{W:Ca}{b e k n:Nat}{v:Ea}{c:List Ea}(h:W.ownsRow j e k v n c)(l:b<=j):W.ownsRow b e k v n c:=
 ⟨h.1,h.2.imp id λ⟨g,cap,a,d,i,f⟩=>⟨g,cap,a,d,ja,f⟩⟩
theorem KZ.put{c W f:Ca}{R:Nat}{n a:Nat}(h:KZ Q c j R T n a W)(q:Da W.heap.size W f)(V:a<n)(P:R<c.heap.size){x:Dn}(Z:T.getD a Ka=x){d p:Ea}
  (S:IntsIn c j x.Sb d/\Av Q x.Sb d) (X:f.ownsRow c.heap.size 3 1 p x.kids.length (x.kids.map iW)):
  KZ Q c j R T n (a+1) ((((f.setCell (Ja R (a*4)) (pa x.fact)).setCell (Ja R (a*4+1)) d).setCell (Ja R (a*4+2)) p).setCell (Ja R (a*4+3)) (.bool x.leaf)):=by
 obtain⟨xs,A,G⟩:=h.row;have B:=Wd A q;have t:=B.stored (a*4) (pa x.fact);have u:=t.1.stored (a*4+1) d;have y:=u.1.stored (a*4+2) p;have C:=y.1.stored (a*4+3) (.bool x.leaf);have Y:=A.1
 have k:∀ {w D:Ca} {l:List Ea},w.ownsRow R 104 4 (.slice (Nb R) n n) n l->w.grownBy D (some R)->re R [] w D:=λhw r=>re.bn r λb e=>by{cases e;exact⟨ja,.inr λo H=>(rG hw R rfl).2 o H⟩}
 have keep:∀(v:Ea) (m:Nat) (z:List Ea),f.ownsRow c.heap.size 3 1 v m z->((((f.setCell (Ja R (a*4)) (pa x.fact)).setCell (Ja R (a*4+1)) d).setCell (Ja R (a*4+2)) p).setCell (Ja R (a*4+3)) (.bool x.leaf)).ownsRow c.heap.size 3 1 v m z:=λv m z I=>by
  have ne:∀g,v.ownBlock=some g->g≠R:=λg r=>by have:=(I.lt g r).1;omega
  grind [Zi]
 refine⟨((((h.Hj.trans (re.jc q ja)).trans (k B t.2)).trans (k t.1 u.2)).trans (k u.1 y.2)).trans (k y.1 C.2),_,C.1,λi U=>?_⟩;by_cases s:i<a
 ·obtain⟨J,K,L,M,N,O,E,F⟩:=G i s
  refine⟨J,K,?_,?_,?_,?_,E,keep _ _ _ (Wd F q)⟩
  ·grind
  all_goals grind
 ·obtain rfl:i=a:=by omega
  grind [List.getElem?_set_self]
theorem Ki{W:Ca}{v:Ea}{l:List Int}(h:W.ownsRow j 3 1 v l.length (l.map iW)):IntsIn W W.heap.size l v:=by
 obtain⟨a,c,rfl⟩:=Xd h;rcases h.2 with⟨e,n⟩|⟨g,cap,b,e,o,d,f,k,p,q⟩
 {obtain rfl:=List.length_eq_zero_iff.1 n;(cases e);exact⟨none,0,rfl,ja,ja,λh=>absurd rfl h⟩}
 {(cases e);refine⟨_,_,rfl,f,k,λhne=>⟨g,0,rfl,zf d,λi m=>?_⟩⟩;show W.cell? _=_;rw[Vb,oh,h.cellAt i ja,gd,Xa m];rfl}
theorem KZ.done{v W:Ca}{R:Nat}{n:Nat}(h:KZ Q v j R T n n W)(I:∀b∈Q,b<R)(G:T.length=n)(r:n<=maxLen)(H:R<v.heap.size)(p:Nat)(J:p<R)(l:j<=p)(u:Ea):
  Rg (W.setCell (Ya p) u) (W.setCell (Ya p) u).heap.size Q T (.agg #[.slice (Nb R) n n]):=by
 obtain⟨L,C,D⟩:=h.row;have K:=h.Hj.size;have hlt:=(C.lt R rfl).2;have f:=Zi C (Ya p) u (λg m=>by cases m;grind);refine⟨_,rfl,_,n,by rw[G],ja,r,λ_=>⟨R,0,rfl,by simp_all,λi F=>?_⟩⟩;obtain⟨s,t,w,x,y,z,k,d⟩:=D i ja;have o:=Gd T i Ka F;simp only[o]at w x y z k d;have E:Da j v (W.setCell (Ya p) u):=((h.Hj.below ja).mono ja).setCell l u;have A:(W.setCell (Ya p) u).cell? (Ja R (0+i*4+1))=some s:=by rw[Vb,f.cellAt _ ja];exact x
 have B:(W.setCell (Ya p) u).cell? (Ja R (0+i*4+2))=some t:=by rw[Vb,f.cellAt _ ja];exact y
 refine⟨⟨s,t,?_,A,B,?_,Sa.mono (Ad.mono _) (by simp;omega) (Sa.below (Ad.kept _) E k.1),Ki (Zi d _ _ λg m=>by have:=(d.lt g m).1;grind)⟩,λr=>by grind,s,t,A,B,k.2,λ_ a n c e r=>?_⟩
 {rw[Vb,f.cellAt _ ja];exact w}
 {rw[Vb,f.cellAt _ ja];exact z}
 ·have q:=(d.lt _ (by rw[e];rfl)).1
  grind
attribute [local go_sem] kh
theorem JC(t:List Dn)(H mb:Nat)(S:List Nat)(x:Nat)(W:Ca)(hm:Zh W H mb S t)(hT:Lg j g G t)(hx:x<t.length)(hl:t.length<=900000)(ho:(Mc t (j+1) [] x).length<=20000)(pX:∀n∈t,n.kids.length<=2000000)(hSW:∀b∈S,b<W.heap.size):
  Db 49 #[Ma mb,pa (x:Int)] W λe W'=>∃u,e=.returned (.tuple #[u,pa 0])/\Rg W' W'.heap.size S (ue t (Mc t (j+1) [] x)) u/\Da W.heap.size W W':=by
 have bJ:=la hSW;clear hSW;have zO:=@run_makeMap prog;obtain⟨w0,lM,hE,CV,tm,CO,hD⟩:=tL W mb;have HI:=la (qs W w0 H _ mb S hE rfl hm tm CO hT ja (j+1) x [] w0 hx ja Kd Aa CV);have hvo:=cn hT (j+1) [] x hx ja Kd Aa;have HV:=la hvo;have adu:=la pX;have HT:=la hT;have hv1:=hE.v.cell 0;have HE:=la hE;have HD:=la hD;have iL:=la tm;have DO:=la lM;have HM:=la hm;generalize Mc t _ [] x=o at*
 clear hm hT pX hE CV tm hD hvo;go_enter func49,ntmps49;go_upto_region 5 with(fail);rw[<-DO.o];clear lM DO;have anF:W.heap.size+6<=w0.heap.size:=by omega
 clear CO;go_upto_region 6 with(go_at_call 88;refine HI.o.mono ?_;rintro e w ⟨rfl,FQ⟩;have r:=la FQ;clear FQ);have Sj:=r.o.size;obtain⟨vo,PT,L⟩:=r.o.ord;have P7:=ej HV.o.2;obtain⟨ob,anG,rfl,hob,adv⟩:=L.form P7;have c1:=PT.cell 0;have vp:=la (iL.o.trans ((r.o.below ja).mono ja));have QO:=la (r.o.Pd HD.o ja ja);have Q7:=(r.o.Pd HD.o ja ja).frozen 0;have V:=(r.o.Pd HD.o ja ja).cell 0;have Y:=(r.o.Pd HE.o.m ja ja).cell 0;have Z:=(r.o.Pd HE.o.p ja ja).cell 0;obtain⟨i0,Kw,yx,Un,BA⟩:=info_parts dz;obtain⟨w2,hrun,s,D⟩:=run_make_full w _ 53 104 i0 _ 4 Tryz.underlying53 Kw yx Un .i64 .i64 o.length (by rw[BA];omega) (by unfold maxLen;omega) (wa _);have Am:Da _ w w2:=⟨D.os,D.tape,D.output,D.size,λb hb=>D.block b hb Aa⟩;have TG:w.heap.size<w2.heap.size:=(s.lt _ rfl).2;have adw:=la r.o.map;have adx:=la L;obtain⟨R,E⟩:∃R,R=w2.alloc (.cells #[.slice (Nb w.heap.size) o.length o.length] 55):=⟨_,rfl⟩;have B7:R.heap.size=w2.heap.size+1:=by rw[E];simp
 have HF0:Hid (KZ S R W.heap.size _ (ue t o) _ 0 R):=⟨re.refl _ _ _,_,(by rw[E];exact s.alloc _),λi G=>ja⟩;have O:Hid (Da w.heap.size w R):=by rw[E];exact Am.alloc ja _
 have R7:Hid (qb R w2.heap.size 55 #[.slice (Nb w.heap.size) o.length o.length]):=by rw[E];exact qb.new _ _ _
 have HW3:=la E;have M:w.heap.size<R.heap.size:=by omega
 clear PT L Kw yx Un BA r hv1 HE HD iL D Am s E B7;go_upto_region 9 with(fail);rw[<-HW3.o];have c3:=(O.o.cell (by show W.heap.size+4<w.heap.size;omega)).trans c1;clear HW3 hrun TG;go_wp2
 go_loopw [29] (λix wr=>∃(f:Nat),f<=o.length/\ix=pa f/\Hid (KZ S R W.heap.size w.heap.size (ue t o) o.length f wr)) (λix _=>o.length-(intOf ix).toNat)
 case atStart=>exact⟨0,ja,rfl,HF0⟩
 case round=>((rename Ca=>wR);obtain⟨f,hj,rfl,hF⟩:=hrel;have I7:=hF.o.Hj.size;have A:=O.o.trans (hF.o.Hj.below ja);have hdd:wR.cell? _=some (.slice _ _ _):=(World.cell?_of_block (a:=Ya w2.heap.size) ((hF.o.Hj.keep _ _ R7.o (.inr ⟨rfl,Aa⟩)).trans R7.o.symm)).trans (R7.o.cell 0);have jL:=(A.cell (by show W.heap.size<w.heap.size;omega)).trans Y;have hp1:=Z;have adz:=V;have adA:=Q7;clear Y Z c1 V c3 Q7;by_cases hlt:f<o.length;{have hoj:=(A.cell adv).trans (adx.o.cellAt f ja);rw[gd,Xa hlt]at hoj;have A7:=HV.o.1.inside o[f] (Oa _);(have U:=λk (J:k∈(t.getD o[f] Ka).kids)=>And.intro (((HT.o _ A7).inner (zd J)).2.2.2.2.2.2.2 k J).1 (HV.o.1.closed _ (Oa _) Aa k J));(have X:=Mq (t:=t) hlt;obtain⟨d,aci,vc,vk,mo,q1,_,_,Q,ZT,hg3,_,q2,q3,q4,q5,qc,qk⟩:=HM.o.node _ A7;generalize o[f]=oj at*);have B:=vp.o.trans (A.mono ja);have hmt:=(B.cell ZT).trans q1;have hn0:=(B.cell Q).trans q2;have CJ:=(B.cell Q).trans q3;have CX:=(B.cell Q).trans q4;have hn3:=(B.cell Q).trans q5;have adC:(t.getD oj Ka).kids.length<=2000000:=by{rw[Gd _ _ _ A7];exact adu.o _ (Oa _)};generalize t.getD oj Ka=l at*;have xV:=la (Sa.below (Ad.kept _) (vp.o.trans (O.o.mono ja)) qc.1);(have HQA:Hid (Av S _ vc):=λhne a n c e=>(qc.2 hne a n c e).2.1);have HQK:=la (Sa.below (Ad.kept _) B qk.1);have adE:=la U;have HKL:=la (show l.kids.length<=2000000 from adC);have adF:=la X;obtain⟨ca,cc,rfl,_,_,_⟩:=Sa.shape qc.1;obtain⟨ka,kc,rfl,_,_,_⟩:=Sa.shape qk.1;clear q1 q2 q3 q4 q5 qc qk B A U X;simp at hoj;(have EO:l.kids.length<=2000000:=by have:=HKL.o;omega);go_upto_region 13 with(fail);have pL:=la (eK _ _ (wR.alloc (.cells #[pa l.fact,.slice ca l.Sb.length cc,.slice ka l.kids.length kc,.bool l.leaf] 104)) EO ((HQK.o.below (Ad.kept _) (((za _ _).alloc (wa _) _).mono ja)).mono (Ad.mono _) (by rw[Ia];omega)));go_upto_region 14 with(go_at_call 89;refine pL.o.mono ?_;rintro e w4 ⟨v4,rfl,h4,jy⟩;have H4:=la h4;have Lk:=la jy;obtain⟨N,h,hv4⟩:=Xd h4;subst hv4;have n4:=((qb.new wR 104 _).below jy);have n42:=n4.cell 2;have z42:=n4.frozen 2;have N4:=la n4;clear h4 jy n4);have N5:=la (N4.o.set 2 (.slice N l.kids.length h));have n52:=N5.o.cell 2;(have H4b:w4.ownsRow (wR.heap.size+1) 3 1 (.slice N l.kids.length h) l.kids.length (l.kids.map iW):=by have q:=H4.o;rwa[Ia]at q);have H5:=la (Zi H4b (Ja wR.heap.size 2) (.slice N l.kids.length h) (λd hg=>by have:=(H4b.lt d hg).1;show d≠wR.heap.size;omega));(have FI:wR.heap.size+1<=w4.heap.size:=by have:=Lk.o.size;rwa[Ia]at this);have Mw:Hid (Da _ wR (w4.setCell (Ja wR.heap.size 2) (.slice N l.kids.length h))):=(((za _ _).alloc (wa _) _).trans (Lk.o.mono (by rw[Ia];omega))).setCell (wa _) _;have dr:Hid (Da _ w (w4.setCell (Ja wR.heap.size 2) (.slice N l.kids.length h))):=((O.o.trans (hF.o.Hj.below ja)).trans ((((za _ _).alloc ja _).trans (Lk.o.mono (by simp;omega))).setCell (by show w.heap.size<=wR.heap.size;omega) _));(have LD:(w4.setCell (Ja wR.heap.size 2) (.slice N l.kids.length h)).heap.size=w4.heap.size:=Aa);clear H4b;generalize w4.setCell _ _=w5 at*;clear n42 z42 hn0 CJ CX hn3 hmt hoj jL;go_wp2;go_loopw [49] (λix F=>∃(i:Nat),i<=l.kids.length/\ix=pa i/\Hid (w5.grownBy F (Value.slice N l.kids.length h).ownBlock/\F.ownsRow (wR.heap.size+1) 3 1 (.slice N l.kids.length h) l.kids.length (((l.kids.take i).map λk=>iW (o.idxOf k.toNat:Nat))++(l.kids.drop i).map iW))) (λix _=>l.kids.length-(intOf ix).toNat);(case atStart=>exact⟨0,ja,rfl,⟨World.grownBy.refl _ _,by simpa using H5.o⟩⟩);case round=>((rename Ca=>F);obtain⟨i,G,rfl,y⟩:=hrel;have hsi:=y.o.1.size;have hbi:=dr.o.grown y.o.1 ja (λk J=>by have:=(H5.o.lt k J).1;omega);have hni:F.cell? _=some (.slice N _ h):=(y.o.1.cell n52 (λe=>by have:wR.heap.size+1<=wR.heap.size:=(H5.o.lt _ e.symm).1;omega));by_cases JU:i<l.kids.length;{have hpi:=(hbi.cell (by show W.heap.size+3<w.heap.size;omega)).trans hp1;obtain⟨vb,vc2,dX,PT,anN⟩:=y.o.2.form ja;(obtain⟨rfl,rfl⟩:N=some ⟨vb,0,none⟩/\h=vc2:=by simpa using dX);have MO:=y.o.2.cellAt i ja;have pZ:=y.o.2.frozenAt i;have C:=Gc JU;(have nH:(l.kids.take i).length=i:=by rw[de];omega);rw[Td (by rw[Va];omega),Va,nH,Nat.sub_self,C,Eb,pc]at MO;have J:=adE.o l.kids[i] (Oa _);have hst:=(World.ownsRow.drew y.o.2).stored i (iW (o.idxOf l.kids[i].toNat:Nat));have P:Hid (w5.grownBy (F.drew.setCell (Ja vb i) (iW (o.idxOf l.kids[i].toNat:Nat))) (Value.slice (Nb vb) l.kids.length h).ownBlock/\(F.drew.setCell (Ja vb i) (iW (o.idxOf l.kids[i].toNat:Nat))).ownsRow (wR.heap.size+1) 3 1 (.slice (Nb vb) l.kids.length h) l.kids.length (((l.kids.take (i+1)).map λk=>iW (o.idxOf k.toNat:Nat))++(l.kids.drop (i+1)).map iW)):=by{refine⟨World.grownBy.trans (b:=F.drew) ⟨y.o.1.os,y.o.1.tape,y.o.1.output,y.o.1.size,y.o.1.block⟩ hst.2,?_⟩;have:=hst.1;rw[C,Eb,List.set_append_right _ _ (by rw[Va];omega),Va,nH,Nat.sub_self,List.set_cons_zero]at this;rw[Ta JU,Pb,Ic];exact this};have Yr:=zk gR.key Tryz.underlying173 yz (adw.o.below hbi.drew ja) (l.kids[i]);generalize l.kids[i]=kv at*;obtain⟨kn,rfl⟩:∃kn:Nat,kv=kn:=⟨kv.toNat,ja⟩;rw[Fc]at P J;rw[iq,Ga J.2]at Yr;clear y dX hst C nH J;go_upto_region 17 with(fail);refine Xp 11 (λw'=>w'=F.drew) Ha rfl (λMb=>?_);refine xp 0 ?_;refine xp 2 ?_;refine xk 3 ?v3 ?y3 ?_;(case y3=>(intro T Be;rw[show T=F.drew from Be];go_simp;try with_reducible rfl));refine xp 4 ?_;refine xp 6 ?_;refine xk 1 ?v1 ?y1 ?_;(case y1=>(intro T Be;rw[show T=F.drew from Be];go_simp;try with_reducible rfl));refine xk 5 ?v5 ?y5 ?_;(case y5=>(intro T Be;rw[show T=F.drew from Be];go_simp;try with_reducible rfl));refine xp 7 ?_;refine xk 8 ?v8 ?y8 ?_;(case y8=>(intro T Be;rw[show T=F.drew from Be];go_simp;try with_reducible rfl));refine xk 9 ?v9 ?y9 ?_;(case y9=>(intro T Be;rw[show T=F.drew from Be];go_simp;try with_reducible rfl));refine xp 10 ?_;refine xl 11 (λK hK=>?_);(have hq:=Mb;go_simp);refine hK.o _ _ ?_;clear hK K;(try simp only[Act.put,sA,sB,sC]);refine sk Ha ?_ _;(go_wp2;go_roundw;(case rel=>exact⟨_,ja,by go_num,P⟩);(case measure=>simp[intOf];omega))};{(obtain rfl:i=l.kids.length:=ja);obtain⟨xs,s,_⟩:=hF.o.row;have I:=Mw.o.grown y.o.1 ja (λk J=>by have:=(H5.o.lt k J).1;omega);have z:=la (Wd s I);have FF:=s.1;have s0:=z.o.cellAt (f*4) ja;have s1:=z.o.cellAt (f*4+1) ja;have s2:=z.o.cellAt (f*4+2) ja;have s3:=z.o.cellAt (f*4+3) ja;rw[Xa ja]at s0 s1 s2 s3;have f0:=z.o.frozenAt (f*4);have f1:=z.o.frozenAt (f*4+1);have f2:=z.o.frozenAt (f*4+2);have f3:=z.o.frozenAt (f*4+3);(have hNb:some wR.heap.size≠(Value.slice N l.kids.length h).ownBlock:=λe=>by have:=(H5.o.lt _ e.symm).1;omega);have k0:=y.o.1.cell (N5.o.cell 0) hNb;have k1:=y.o.1.cell (N5.o.cell 1) hNb;have k3:=y.o.1.cell (N5.o.cell 3) hNb;have hq:=y.o.2;rw[Ub,List.drop_length,sd,ud]at hq;have P:=la (hF.o.put I hlt M adF.o ⟨xV.o,HQA.o⟩ (by rw[Va,Ze];exact OG hq ja));have hdi:=(I.cell (Kb _ _ hdd)).trans hdd;go_wp2;go_roundw;(case rel=>exact⟨_,ja,by go_num,P⟩);case measure=>simp[intOf];omega})};{(obtain rfl:f=o.length:=ja);have HD:=la (hF.o.done (λb hb=>by have:=bJ.o b hb;omega) (zn t o) (by unfold maxLen;omega) M (W.heap.size+1) ja ja (.slice (Nb w.heap.size) o.length o.length));have vO:=la (((vp.o.trans (A.mono ja)).setCell (p:=Ya _) (by show W.heap.size<=W.heap.size+1;omega) (.slice (Nb w.heap.size) o.length o.length)));have fK:=(A.cell (by show W.heap.size+1<w.heap.size;omega)).trans adz;have Un:=(A.frozen (by show W.heap.size+1<w.heap.size;omega)).trans adA;have hcs:(wR.setCell (Ya (W.heap.size+1)) (.slice (Nb w.heap.size) o.length o.length)).cell? (Ya (W.heap.size+1))=some (.slice (Nb w.heap.size) o.length o.length):=by{have hblk:=((A.block (W.heap.size+1) ja).trans QO.o);exact(qb.set hblk 0 _).cell 0};go_upto_region 22 with(fail);refine Fb (by simp[results,go_sem,hcs];try rfl) rfl ?_;exact⟨_,rfl,HD.o,vO.o⟩})
theorem iR{W:Ca}{b:Nat}(h:Zh W j b Q T):Zh W j b [] T:=by
 obtain⟨d,⟨v,f,m,g,i,k,c,l⟩,e⟩:=h;exact⟨d,⟨v,f,m,g,i,k,λx a=>⟨(c x a).Sb.less Aa,(c x a).kids.less Aa⟩,l⟩,e⟩
theorem aG(t:List Dn)(H c:Nat)(S:List Nat)(x:Nat)(W:Ca)(l:Zh W H c S t)(i:Lg j g G t)(o:x<t.length)(k:t.length<=900000)(m:(Mc t (j+1) [] x).length<=20000)(b:∀n∈t,n.kids.length<=2000000):
  Db 49 #[Ma c,pa (x:Int)] W λe a=>∃u,e=.returned (.tuple #[u,pa 0])/\Zd a a.heap.size (ue t (Mc t (j+1) [] x)) u/\Da W.heap.size W a:=
 (JC t H c [] x W (iR l) i o k m b Aa).mono λ_ _ ⟨u,d,f,h⟩=>⟨u,d,f.dg,h⟩
theorem zM(t:List Dn)(H h:Nat)(S:List Nat)(x:Nat)(W:Ca)(l:Zh W H h S t)(i:Lg j g G t)(k:x<t.length)(o:t.length<=20000)(f:∀n∈t,n.kids.length<=2000000)(d:∀b∈S,b<W.heap.size):
  Db 49 #[Ma h,pa (x:Int)] W λe c=>∃u,e=.returned (.tuple #[u,pa 0])/\Rg c c.heap.size S (ue t (Mc t (j+1) [] x)) u/\Da W.heap.size W c:=by
 have a:=cn i (j+1) [] x k ja Kd Aa;have:=Ac a.1.nodup (λy m=>List.mem_range.2 (a.1.inside y m));rw[Jd]at this;exact JC t H h S x W l i k ja ja f d
theorem jR(t:List Dn)(H d:Nat)(S:List Nat)(x:Nat)(W:Ca)(i:Zh W H d S t)(f:Lg j g G t)(h:x<t.length)(l:t.length<=20000)(c:∀n∈t,n.kids.length<=2000000):
  Db 49 #[Ma d,pa (x:Int)] W λe b=>∃u,e=.returned (.tuple #[u,pa 0])/\Zd b b.heap.size (ue t (Mc t (j+1) [] x)) u/\Da W.heap.size W b:=by
 have a:=cn f (j+1) [] x h ja Kd Aa;have:=Ac a.1.nodup (λy k=>List.mem_range.2 (a.1.inside y k));rw[Jd]at this;exact aG t H d S x W i f h ja ja c
end
mutual
def Fo.Fk(w:Ca)(P:Nat->Prop):Fo->Ea->Prop
 | .mk f e c n a,v=>∃(d:Option Addr) (cap:Nat),v=.agg #[pa f,.string e,pa c,pa n,.slice d a.length cap]/\
   Wh f/\Wh c/\Wh n/\e.size<=maxLen/\a.length<=cap/\cap<=maxLen/\(a≠[]->∃b off,d=some ⟨b,off,none⟩/\P b/\Fo.Co w P a b off)
def Fo.Co(w:Ca)(P:Nat->Prop):List Fo->Nat->Nat->Prop
 | [],_,_=>True
 | k::ks,b,off=>(∃a c d e f,w.cell? (Ja b off)=some a/\w.cell? (Ja b (off+1))=some c/\w.cell? (Ja b (off+2))=some d/\
   w.cell? (Ja b (off+3))=some e/\w.cell? (Ja b (off+4))=some f/\Fo.Fk w P k (.agg #[a,c,d,e,f]))/\Fo.Co w P ks b (off+5)
end
def rQ(P:Nat->Prop)(w a:Ca):Prop:=∀b,P b->a.heap[b]? =w.heap[b]?
mutual
theorem Fo.Fk.step{w d:Ca}{P Q:Nat->Prop}(q:rQ P w d)(a:∀b,P b->Q b):∀(f:Fo) (v:Ea),f.Fk w P v->f.Fk d Q v
 | .mk u t c n s,v=>by{rintro⟨e,cap,r,g,h,i,j,k,l,m⟩;refine⟨e,cap,r,g,h,i,j,k,l,λhne=>?_⟩;obtain⟨b,off,p,hlt,o⟩:=m hne;exact⟨b,off,p,a b hlt,Fo.Co.step q a hlt s off o⟩}
theorem Fo.Co.step{w h:Ca}{P Q:Nat->Prop}{b:Nat}(e:rQ P w h)(g:∀b,P b->Q b)(hlt:P b):∀(d:List Fo) (off:Nat),Fo.Co w P d b off->Fo.Co h Q d b off
 | [],_=>λ_=>trivial
 | k::d,off=>by{rintro⟨⟨p,q,r,s,t,i,j,l,c3,m,n⟩,f⟩;(have c:=λo=>World.cell?_of_block (a:=Ja b o) (e b hlt));exact⟨⟨p,q,r,s,t,(c _).trans i,(c _).trans j,(c _).trans l,(c _).trans c3,(c _).trans m,Fo.Fk.step e g k _ n⟩,Fo.Co.step e g hlt d _ f⟩}
end
mutual
theorem Fo.In.a7{w:Ca}{B:Nat}:∀(f:Fo) (v:Ea),f.In w B v->f.Fk w (· <B) v
 | .mk r q c n p,v=>by{rintro⟨a,cap,o,d,e,g,h,i,j,k⟩;refine⟨a,cap,o,d,e,g,h,i,j,λhne=>?_⟩;obtain⟨b,off,m,hlt,l⟩:=k hne;exact⟨b,off,m,hlt,Fo.Vk.a7 p b off l⟩}
theorem Fo.Vk.a7{w:Ca}{B:Nat}:∀(a:List Fo) (b off:Nat),Fo.Vk w B a b off->Fo.Co w (· <B) a b off
 | [],_,_=>λ_=>trivial
 | k::a,b,off=>by{rintro⟨⟨i,j,l,m,n,d,e,f,c3,g,h⟩,c⟩;exact⟨⟨i,j,l,m,n,d,e,f,c3,g,Fo.In.a7 k _ h⟩,Fo.Vk.a7 a b _ c⟩}
end
mutual
theorem Fo.Fk.back{w:Ca}{P:Nat->Prop}{B:Nat}(a:∀b,P b->b<B):∀(f:Fo) (v:Ea),f.Fk w P v->f.In w B v
 | .mk s r c n q,v=>by{rintro⟨d,cap,p,e,g,h,i,j,k,l⟩;refine⟨d,cap,p,e,g,h,i,j,k,λhne=>?_⟩;obtain⟨b,off,o,hlt,m⟩:=l hne;exact⟨b,off,o,a b hlt,Fo.Co.back a q b off m⟩}
theorem Fo.Co.back{w:Ca}{P:Nat->Prop}{B:Nat}(d:∀b,P b->b<B):∀(a:List Fo) (b off:Nat),Fo.Co w P a b off->Fo.Vk w B a b off
 | [],_,_=>λ_=>trivial
 | k::a,b,off=>by{rintro⟨⟨j,l,m,n,o,e,f,g,c3,h,i⟩,c⟩;exact⟨⟨j,l,m,n,o,e,f,g,c3,h,Fo.Fk.back d k _ i⟩,Fo.Co.back d a b _ c⟩}
end
theorem Fo.Co.get{w:Ca}{P:Nat->Prop}{b:Nat}:∀(a:List Fo) (off i:Nat) (p:i<a.length),Fo.Co w P a b off->
  ∃(d:Option Addr) (cap:Nat),w.cell? (Ja b (off+i*5))=some (pa a[i].op)/\w.cell? (Ja b (off+i*5+1))=some (.string a[i].name)/\
   w.cell? (Ja b (off+i*5+2))=some (pa a[i].cmp)/\w.cell? (Ja b (off+i*5+3))=some (pa a[i].n)/\
   w.cell? (Ja b (off+i*5+4))=some (.slice d a[i].kids.length cap)/\
   a[i].Fk w P (.agg #[pa a[i].op,.string a[i].name,pa a[i].cmp,pa a[i].n,.slice d a[i].kids.length cap])
 | k::a,off,0,_=>by{rintro⟨⟨t,u,v,x,y,j,l,m,c3,o,h⟩,_⟩;obtain⟨s,r,c,n,q⟩:=k;have f:=h;obtain⟨d,cap,e,_⟩:=h;obtain⟨rfl,rfl,rfl,rfl,rfl⟩:=e;exact⟨d,cap,j,l,m,c3,o,f⟩}
 | k::a,off,i+1,p=>by
  rintro⟨_,g⟩;have:=Fo.Co.get a (off+5) i (by grind) g
  grind
structure Cs where
 f:Fo
 ao:Option Addr
 cap:Nat
def Cs.cells(x:Cs):List Ea:=[pa x.f.op,.string x.f.name,pa x.f.cmp,pa x.f.n,.slice x.ao x.f.kids.length x.cap]
def Cs.Ok(W:Ca)(P:Nat->Prop)(x:Cs):Prop:=x.f.Fk W P (.agg x.cells.toArray)
theorem Cs.Ok.step{w a:Ca}{P Q:Nat->Prop}(c:rQ P w a)(d:∀b,P b->Q b){x:Cs}(h:x.Ok w P):x.Ok a Q:=Fo.Fk.step c d _ _ h
theorem Xw{W:Ca}{g:Nat}{P:Nat->Prop}:∀(b:List Cs) (off:Nat),(∀i (d:i<b.length),∀j,j<5->W.cell? (Ja g (off+i*5+j))=b[i].cells[j]?)->(∀x∈b,x.Ok W P)->Fo.Co W P (b.map (·.f)) g off
 | [],_,_,_=>trivial
 | x::b,off,c,e=>by{have a:=c 0 Aa;simp at a;refine⟨⟨_,_,_,_,_,a 0 ja,a 1 ja,a 2 ja,a 3 ja,a 4 ja,e x (Wa ..)⟩,Xw b _ (λi d j h=>?_) (λy k=>e y (Pa _ k))⟩;have:=c (i+1) (by simpa using d) j h;rw[Jb]at this;rw[<-this];congr 2;omega}
theorem EL:∀(a:List Cs) (i j:Nat) (c:i<a.length),j<5->(a.flatMap Cs.cells)[i*5+j]? =a[i].cells[j]?
 | x::a,0,j,_,b=>by{rw[Bc,te (by show _<5;omega)];simp}
 | x::a,i+1,j,c,b=>by{rw[Bc,Td (by show 5<=_;omega),show(i+1)*5+j-x.cells.length=i*5+j by show _-5=_;omega,EL a i j (by grind) b];simp}
theorem zZ{W:Ca}{v:Ea}{b:List Cs}(h:W.ownsRow j 32 5 v b.length (b.flatMap Cs.cells)){P:Nat->Prop}(r:∀g,v.ownBlock=some g->P g)(s:∀x∈b,x.Ok W P){c n:Int}{d:Na}
  (k:Wh Z) (l:Wh c) (m:Wh n) (o:d.size<=maxLen):(Fo.mk Z d c n (b.map (·.f))).Fk W P (.agg #[pa Z,.string d,pa c,pa n,v]):=by
 rcases h.2 with⟨rfl,q⟩|⟨g,cap,p,rfl,_,u,z,t,A,B⟩
 {have:=List.length_eq_zero_iff.1 q;subst this;exact⟨none,0,rfl,k,l,m,o,Lb _,ja,λe=>absurd rfl e⟩}
 ·refine⟨_,cap,by grind,k,l,m,o,by grind,t,λ_=>⟨g,0,rfl,r g rfl,Xw b 0 (λi w a y=>?_) s⟩⟩
  rw[Vb,h.cellAt _ ja]
  grind [EL]
theorem Fo.Fk.shape{w:Ca}{P:Nat->Prop}{f:Fo}{v:Ea}(h:f.Fk w P v):∃(a:Option Addr) (cap:Nat),v=.agg #[pa f.op,.string f.name,pa f.cmp,pa f.n,.slice a f.kids.length cap]/\f.kids.length<=cap/\cap<=maxLen/\Wh f.op/\Wh f.cmp/\Wh f.n/\f.name.size<=maxLen/\
  (f.kids≠[]->∃b off,a=some ⟨b,off,none⟩/\P b/\Fo.Co w P f.kids b off):=by
 obtain⟨p,o,c,n,m⟩:=f;obtain⟨a,cap,rfl,d,e,g,i,j,k,l⟩:=h;exact⟨a,cap,rfl,j,k,d,e,g,i,l⟩
end Go.Proofs.YtdipkbobalnilaaGreatDoor
