/- The walk of rank.Best. Bounds on the provisions and the Ids. -/
import Derived.Test.YtdipkbobalnilaaGreatDoorAl
import Derived.Test.YtdipkbobalnilaaGreatDoorRkGA
namespace Go.Proofs.YtdipkbobalnilaaGreatDoor
open Tryz
variable{j:Nat}{T:List Dn}{E:TypeId}{C:List Int}{K:Act}{M:Oper}
section
open Go.RowKit
def Lm(a:List Na):Array Ea:=(a.map Value.string).toArray
structure Ag (w : Ca) (base : Nat) (v : Ea) (l : List Na) : Prop where
 is:(v=Ua/\l=[])\/∃g cs cap,v=.slice (Nb g) l.length cap/\base<=g/\w.heap[g]? =some (.cells (Lm cs) 9 (0,0))/\cs.length=cap/\l.length<=cap/\cap<=maxLen/\cs.take l.length=l
theorem Ag.nil(w:Ca)(base:Nat):Ag w base Ua []:=⟨.inl ⟨rfl,rfl⟩⟩
theorem Ag.kept{w b:Ca}{base:Nat}{v:Ea}{l:List Na}(h:Ag w base v l){row:Option Nat}(i:w.grownBy b row)(hne:v.ownBlock=none\/v.ownBlock≠row):Ag b base v l:=by
 rcases h.is with h|⟨g,c,cap,rfl,d,a,f⟩
 {exact⟨.inl h⟩}
 ·refine⟨.inr ⟨g,c,cap,rfl,d,?_,f⟩⟩
  rw[i.block g (Array.getElem?_eq_some_iff.1 a).1 (λe=>by
   rcases hne with h|h
   {cases h}
   ·exact h (by rw[<-e];rfl))]
  exact a
theorem Ag.shape{w:Ca}{base:Nat}{v:Ea}{l:List Na}(h:Ag w base v l):∃a c,v=.slice a l.length c:=by
 rcases h.is with⟨rfl,rfl⟩|⟨g,b,cap,rfl,_⟩
 all_goals grind
theorem Ag.ge{w:Ca}{base:Nat}{v:Ea}{l:List Na}(h:Ag w base v l):∀b,v.ownBlock=some b->base<=b:=by
 rcases h.is with⟨rfl,rfl⟩|⟨g,d,cap,rfl,c,_⟩
 {intro b a;cases a}
 {intro b a;cases a;exact c}
theorem Ag.block{w:Ca}{base:Nat}{v:Ea}{l:List Na}(h:Ag w base v l)(b:v.ownBlock=some j):∃a,w.heap[j]? =some (.cells (Lm a) 9 (0,0)):=by
 rcases h.is with⟨rfl,rfl⟩|⟨g,a,cap,rfl,c,d,_⟩
 {cases b}
 {cases b;grind}
theorem Ag.strs{w:Ca}{base:Nat}{v:Ea}{l:List Na}(h:Ag w base v l):Sc w w.heap.size l v:=by
 rcases h.is with⟨rfl,rfl⟩|⟨g,a,cap,rfl,f,b,j,c,k,m⟩
 {exact⟨none,0,rfl,wa _,ja,λh=>absurd rfl h⟩}
 ·refine⟨_,cap,rfl,c,ja,λ_=>⟨g,0,rfl,(Array.getElem?_eq_some_iff.1 b).1,λi n=>?_⟩⟩
  have e:a[i]? =some l[i]:=by
   grind
  have d:w.cell? (Ja g (0+i*1))=some (.string l[i]):=by
   grind [World.cell?,Lm]
  exact d
theorem wY(n:Nat):Builtin.zeroCells #[Value.string ⟨#[]⟩] n=Lm (List.replicate n ⟨#[]⟩):=by
 refine Array.ext (by simp[size_zeroCells,Lm]) λi a b=>?_
 grind [Builtin.zeroCells,Lm]
section
variable {base : Nat} {i : TypeInfo}
theorem oA(w:Ca)(base:Nat)(i:TypeInfo)(t:prog.info? 9=some i)(z:i.zero=some (.string ⟨#[]⟩))(hs:i.size=1)(I:i.bytes=16)(r:TypeId)(v:Ea)(l:List Na)(h:Ag w base v l)(s:Na)(d:Addr)(c:Nat)(K:w.cell? d=some (.string s))
  (E:l.length+1<=1000000) (b:base<=w.heap.size):
  ∃A x,(Builtin.append_ #[33,33] r #[v,.slice (some d) 1 c]).run prog w=.ok A x/\Ag x base A (l++[s])/\w.grownBy x v.ownBlock:=by
 have a:∀j u,[Value.string s][j]? =some u->w.cell? (d.add j)=some u:=λj u p=>by
  match j,p with
  | 0,p=>
   have:d.add 0=d:=by cases d;rfl
   grind
  | j+1,p=>simp at p
 have J:1000064<=maxLen:=by unfold maxLen;omega
 rcases h.is with⟨rfl,rfl⟩|⟨g,m,cap,rfl,B,y,C,G,D,H⟩
 ·have f:=run_append_nil w 33 r 9 i _ Tryz.underlying33 t z d 1 c _ (by rw[hs];rfl) a Ba Ba ja
  have o:=grownCap_ge w 1 0 9;have hle:=grownCap_le_maxLen w 1 0 9 ja;refine⟨_,_,f,⟨.inr ⟨_,s::List.replicate (grownCap w 1 0 9-1) ⟨#[]⟩,_,rfl,b,?_,by simp;omega,o,hle,rfl⟩⟩,⟨rfl,rfl,rfl,Aa,λk q _=>heap_alloc_old _ _ q⟩⟩
  rw[show(#[Value.string s]:Array Ea)++Builtin.zeroCells (Value.string ⟨#[]⟩).cells (grownCap w 1 0 9-1)=Lm (s::List.replicate (grownCap w 1 0 9-1) ⟨#[]⟩) by
   rw[show(Value.string _).cells=#[Value.string _]from rfl,wY]
   simp[Lm]]
  exact heap_alloc_new _ _
 ·have F:(Lm m).size=cap:=by simp[Lm,C]
  by_cases hroom:l.length+1<=cap
  {have f:=run_append_room w 33 r 9 i Tryz.underlying33 t g _ cap _ y d 1 c _ (by rw[hs];rfl) a (by simp[Value.oneCell']) hroom (by grind);have e:((Lm m).toList.take (l.length*i.size)++[Value.string s]++(Lm m).toList.drop (l.length*i.size+[Value.string s].length)).toArray=Lm (m.take l.length++[s]++m.drop (l.length+1)):=by{rw[hs];simp[Lm,List.map_drop]};rw[e]at f;refine⟨_,_,f,⟨.inr ⟨g,_,cap,by grind,B,setRow_heap w g _ _ 9 _ y,?_,by grind,D,?_⟩⟩,⟨rfl,rfl,rfl,Aa,λk _ q=>setRow_other w g k _ (λe=>q (by simp[Value.ownBlock,e]))⟩⟩;all_goals grind}
  ·have holds:∀j u,(l.map Value.string)[j]? =some u->w.cell? ((Ya g:Addr).add j)=some u:=λj u p=>by
    grind [Addr.add_mid,World.cell?,Lm]
   have n:Builtin.nextslicecap (l.length+1) cap*i.bytes<=281474976710656:=growslice_fits ja (by grind);have f:=run_append_grow w 33 r 9 i _ Tryz.underlying33 t z _ _ cap _ (by rw[hs];simp) holds d 1 c _ (by rw[hs];rfl) a ja ja n;have o:=grownCap_ge w (l.length+1) cap 9;have hle:=grownCap_le_maxLen w (l.length+1) cap 9 ja;refine⟨_,_,f,⟨.inr ⟨_,l++[s]++List.replicate (grownCap w (l.length+1) cap 9-(l.length+1)) ⟨#[]⟩,_,by grind,b,?_,by simp;omega,by grind,hle,?_⟩⟩,⟨rfl,rfl,rfl,Aa,λk q _=>heap_alloc_old _ _ q⟩⟩
   ·rw[show(l.map Value.string).toArray++#[Value.string s]++Builtin.zeroCells (Value.string ⟨#[]⟩).cells (grownCap w (l.length+1) cap 9-(l.length+1))=Lm (l++[s]++List.replicate (grownCap w (l.length+1) cap 9-(l.length+1)) ⟨#[]⟩) by
     rw[show(Value.string _).cells=#[Value.string _]from rfl,wY]
     simp[Lm]]
    exact heap_alloc_new _ _
   grind
theorem Fu{ops:Array Oper}{rest:List Oper}{w:Ca}{Q:Exit->Act->Ca->Prop}(j:M.guard=none)(k x:Operand)
  (t:M.op=.call {callee:=.builtin .append,args:=#[k,x],argTypes:=#[33,33]})
  (base:Nat) (i:TypeInfo) (q:prog.info? 9=some i) (A:i.zero=some (.string ⟨#[]⟩)) (hs:i.size=1) (p:i.bytes=16) (v:Ea) (l:List Na) (y:K.eval k=v) (h:Ag w base v l) (s:Na) (f:Addr) (c:Nat) (z:K.eval x=.slice (some f) 1 c) (r:w.cell? f=some (.string s))
  (g:l.length+1<=1000000) (b:base<=w.heap.size)
  (o:∀e d,Ag d base e (l++[s])->w.grownBy d v.ownBlock->wpList prog ops Q rest (K.put M.dst e) d):wpList prog ops Q (M::rest) K w:=by
 refine wpList_plain j λa hK'=>?_
 obtain⟨e,d,u,m,n⟩:=oA w base i q A hs p M.type v l h s f c r g b;unfold Oper.wp execOp;simp only[t,resolve,invoke,builtin,Sem.run_bind,Sem.run_pure,Result.andThen_ok,Le,Eb,sd,y,z,u];exact hK' _ _ (o e d m n)
end
theorem pA{W W':Ca}{B:Nat}{v:Ea}{f:List Na}(h:IntsIn W B C v)(n:W.heap[j]? =some (.cells (Lm f) 9 (0,0)))(_:B<=W.heap.size)(m:W.grownBy W' (some j)):IntsIn W' B C v:=by
 obtain⟨d,cap,rfl,g,k,l⟩:=h;refine⟨d,cap,rfl,g,k,λhne=>?_⟩;obtain⟨a,off,rfl,hlt,b⟩:=l hne;refine⟨a,off,rfl,hlt,λi c=>?_⟩;refine m.cell (b i c) λe=>?_
 have e:a=j:=by simpa using e
 subst e;have:W.cell? _=some _:=b i c
 grind [World.cell?,Lm]
theorem Zd.cT{W W':Ca}{B:Nat}{v:Ea}{n:List Na}(h:Zd W B T v)(l:W.heap[j]? =some (.cells (Lm n) 9 (0,0)))(k:B<=W.heap.size)(a:W.grownBy W' (some j)):Zd W' B T v:=by
 obtain⟨_,rfl,m,cap,rfl,s,t,u⟩:=h;refine⟨_,rfl,m,cap,rfl,s,t,λhne=>?_⟩;obtain⟨d,off,rfl,hlt,w⟩:=u hne;refine⟨d,off,rfl,hlt,λi x=>?_⟩;obtain⟨y,z,o,p,q,r,f,g⟩:=w i x
 have b:d≠j:=λe=>by
  grind [World.cell?,Lm]
 have c:some d≠some j:=λe=>b (by simpa using e)
 exact⟨y,z,a.cell o c,a.cell p c,a.cell q c,a.cell r c,pA f l k a,pA g l k a⟩
variable {w0 W W' : Ca} {B CB KB : Nat} {d : List Fa} {ps : List Pv} {ts : List Int} {c0 c1 c2 : Ea}
theorem fp.cT(h:fp w0 KB d ps W){base:Nat}{v:Ea}{l:List Na}(i:Ag W base v l)(n:w0.heap.size<=base)(a:W.grownBy W' v.ownBlock):fp w0 KB d ps W':=by
 obtain⟨m,r,s⟩:=h.map;have hlt:∀b,b<w0.heap.size->some b≠v.ownBlock:=λb u e=>by have:=i.ge b e.symm;omega
 have x:Wb (Value.int .i64) (λv=>v) W' KB m:=by
  obtain⟨q,c,j,t⟩:=r;refine⟨q,c,(a.block KB (Array.getElem?_eq_some_iff.1 j).1 λe=>?_).trans j,t⟩;obtain⟨p,o⟩:=i.block e.symm
  grind
 refine⟨a.os.trans h.os,a.tape.trans h.tape,a.output.trans h.output,ub h.size a.size,λb f g=>(a.block b (by have:=h.size;omega) (hlt b f)).trans (h.ul b f g),m,x,λk y w=>?_⟩;obtain⟨f,g⟩:=s k y w;refine⟨f,?_⟩;cases e:v.ownBlock with| none=>{rw[e]at a;exact(g.below ⟨a.os,a.tape,a.output,a.size,λb n=>a.block b n Aa⟩).mono a.size}| some b=>{rw[e]at a;obtain⟨p,o⟩:=i.block e;exact(g.cT o ja a).mono a.size}
end
open Go.RowKit
theorem kO(n:Nat)(h:n<=10000)(w:Ca):(Instr.makeSlice 180 (pa (n:Int)) (pa (n:Int))).run prog w=.ok (.slice (Nb w.heap.size) n n) (w.alloc (.cells (Pn (List.replicate n false)) 4)):=by
 rw[<-fO];exact run_make_row' 180 4 _ 1 Tryz.underlying180 Ha rfl _ _ n ja ja w
structure ZE (ps : List Pv) (k : Nat) (m : List (Na × Int)) : Prop where
 got:∀s j,m.lookup s=some j->∃i:Nat,i<k/\j=i/\qj ps i=s
 all:∀i,i<k->m.lookup (qj ps i)≠none
theorem ZE.zero(ps:List Pv):ZE ps 0 []:=⟨λs j h=>by simp at h,λi h=>ja⟩
theorem ZE.push{ps:List Pv}{m:List (Na×Int)}(h:ZE ps j m):ZE ps (j+1) (ins m (qj ps j) (j:Int)):=by
 refine⟨λs a b=>?_,λi g=>?_⟩
 ·rw[gq]at b
  by_cases e:s=qj ps j
  ·grind
  ·rw[if_neg e]at b
   obtain⟨i,c,d,f⟩:=h.got s a b
   grind
 ·rw[gq]
  by_cases e:qj ps i=qj ps j
  ·grind
  ·rw[if_neg e]
   refine h.all i ?_
   grind
structure lI (ps : List Pv) (ids : List Na) (j : Nat) (q : List Bool) : Prop where
 len:q.length=ps.length
 val:∀i,i<ps.length->q.getD i false=xi (ids.take j) (qj ps i)
theorem lI.zero(ps:List Pv)(ids:List Na):lI ps ids 0 (List.replicate ps.length false):=⟨Aa,λi a=>by grind [xi]⟩
theorem lI.push{ps:List Pv}{ids:List Na}{q:List Bool}(f:ps.Pairwise λp q=>p.id≠q.id)(h:lI ps ids j q)(c:j<ids.length){i:Nat}(b:i<ps.length)(a:qj ps i=ids[j]):lI ps ids (j+1) (q.set i true):=by
 refine⟨by simp[h.len],λx d=>?_⟩;rw[YS _ _ _ c,zc,List.getElem?_set];by_cases e:i=x
 {subst e;rw[Ga rfl,Ga (by rw[h.len];exact b),ml.2 a.symm];simp}
 ·rw[if_neg e, <-zc,h.val x d]
  grind [ml,Mk,List.pairwise_iff_getElem]
theorem Cp.set{W:Ca}{c a d CB:Nat}{q:List Bool}(h:Cp W c a d CB q)(g:c≠a)(j:d≠a)(i:Nat):Cp (W.setCell (Ja a i) (.bool true)) c a d CB (q.set i true):=by
 have other:∀ {b:Nat} {t:TypeId} {f:Array Ea},b≠a->qb W b t f->qb (W.setCell (Ja a i) (.bool true)) b t f:=λ{b t f} hne k=>by
  show(W.heap.modify a _)[b]? =_
  rw[Array.getElem?_modify,if_neg (λe=>hne e.symm)];exact k
 refine⟨?_,?_,?_⟩
 {rw[Cg];exact other g h.box}
 ·have:=h.row.set i (.bool true)
  grind [UK]
 {exact other j h.Em}
theorem N1{ps:List Pv}{ids:List Na}{m:List (Na×Int)}(h:ZE ps ps.length m){s:Na}(hs:s∈ids)(e:m.lookup s=none):RL ps ids=false:=by
 rw[Tf];intro a;have:=List.all_eq_true.1 a s hs;rw[Ye]at this;obtain⟨p,c,d⟩:=this;obtain⟨i,b,rfl⟩:=List.mem_iff_getElem.1 c;have:=h.all i b
 grind [Mk,ml]
theorem wW{ps:List Pv}{ids:List Na}(h:∀s∈ids,∃i:Nat,i<ps.length/\qj ps i=s):RL ps ids=true:=by
 refine List.all_eq_true.2 λs a=>?_
 grind [ml,Mk]
theorem afJ{ps:List Pv}{ids:List Na}{q:List Bool}(h:lI ps ids ids.length q):(λi=>q.getD i false)=Oo ps ids:=by
 funext i;by_cases a:i<ps.length
 {rw[h.val i a,Ub,XE,Mk a]}
 {unfold Oo;rw[Pf ja];simp[List.getD_eq_getElem?_getD,List.getElem?_eq_none (show q.length<=i by rw[h.len];omega)]}
theorem qA{W:Ca}{KB:Nat}{b:Array Ea}{l:List (Int×Ea)}(d:qb W j E b)(f:Wb (Value.int .i64) (λv:Ea=>v) W KB l):j≠KB:=λe=>by
 subst e;obtain⟨g,c,a,_⟩:=f;rw[d]at a;cases a
theorem mI(v:Ea):v.ownBlock=none\/v.ownBlock≠none:=by grind
theorem oD{W W':Ca}{KB base:Nat}{v:Ea}{l:List Na}(h:Ag W base v l)(a:Te KB W W')(hlt:KB<base):Ag W' base v l:=by
 apply h.kept ⟨a.os,a.tape,a.output,a.size,λb c hne=>a.ul b c (λe=>hne (by rw[e]))⟩
 cases e:v.ownBlock with
 | none=>grind
 | some b=>exact .inr (λd=>by
   have f:b=KB:=by grind
   have:=h.ge b e
   omega)
theorem Cp.grown{W W':Ca}{a b c CB base:Nat}{q:List Bool}{v:Ea}{l:List Na}(h:Cp W a b c CB q)(f:Ag W base v l)(g:a<base)(i:b<base)(j:c<base)(d:W.grownBy W' v.ownBlock):Cp W' a b c CB q:=
 ⟨h.box.grown d (λe=>by have:=f.ge _ e.symm;omega),h.row.grown d (λe=>by have:=f.ge _ e.symm;omega),h.Em.grown d (λe=>by have:=f.ge _ e.symm;omega)⟩
theorem mO{w W W':Ca}{B base:Nat}{v:Ea}{l:List Na}(h:Da B w W)(f:B<=W.heap.size)(c:Ag W base v l)(d:B<=base)(a:W.grownBy W' v.ownBlock):Da B w W':=
 h.trans ⟨a.os,a.tape,a.output,a.size,λb g=>a.block b ja (λe=>by have:=c.ge _ e.symm;omega)⟩
theorem xW:(prog.info? 9).map (λi=>(i.zero,i.size,i.bytes))=some (some (.string ByteArray.empty),1,16):=by kernel_rfl
set_option maxRecDepth 100000 in
set_option maxHeartbeats 8000000 in
theorem MH(d:List Fa)(ps:List Pv)(ts:List Int)(ids:List Na)(v u:Ea)(w:Ca)(hn:ps.length<=1000)(hl:Gj w w.heap.size d ps ts v)(hu:Sc w w.heap.size ids u)(hsz:∀p∈ps,p.cond.size<=1000000)(hT:Jh w.heap.size w):
  Db 56 #[v,u] w λe w'=>∃x,e=.returned (.tuple #[x,pa (Je d ps ts ids).2])/\Da w.heap.size w w'/\Sc w' w'.heap.size (Je d ps ts ids).1 x:=by
 have HL:=la hl;obtain⟨u1,u2,u3,rfl,hd,hp,ht⟩:=hl;obtain⟨ad,cd,rfl,_⟩:=Sa.shape hd;obtain⟨ap,cp,rfl,p1,p2,_⟩:=Sa.shape hp;obtain⟨at_,ct,rfl,_⟩:=Sa.shape ht;obtain⟨ai,ci,rfl,i1,i2,_⟩:=Sa.shape hu;unfold maxLen at i2;have t:Hid (Da _ w (w.alloc (.cells #[.slice ad d.length cd,.slice ap ps.length cp,.slice at_ ts.length ct] 28))):=(za _ _).alloc (wa _) _;have K:=la (aT d ps ts [] _ Ua _ _ hn t.o.size (HL.o.below t.o) ⟨none,0,rfl,wa _,Lb _,λh=>absurd rfl h⟩ Aa hsz (hT.on t.o));have K0:=la (qb.new w 28 #[.slice ad d.length cd,.slice ap ps.length cp,.slice at_ ts.length ct]);have y0:=K0.o.cell 0;have y1:=K0.o.cell 1;have y2:=K0.o.cell 2;have HU:=la hu;have HP:=la hp;have gM:=la hsz;obtain⟨R,hR⟩:∃R,Je d ps ts ids=R:=⟨_,rfl⟩;rw[hR];have HR:=la hR;clear hd hp ht hu hsz hT hR;by_cases C:Ef d ps ts.length=true
 ·rw[Ga ⟨C,rfl⟩]at K
  have J:=la C;clear C;obtain⟨i0,Kw,QI,jF,ez⟩:=info_parts xW;go_enter func56,ntmps56;go_upto_region 2 with(go_at_call 82;refine K.o.mono ?_;rintro e Q ⟨x,rfl,M,ho⟩;obtain⟨CB,KB,c0,c1,c2,rfl,S,S7⟩:=(ho ⟨J.o,rfl⟩).o.is);have HE:=la S;have hKB:=S.ltK;have QV:=S.QV;have Jq:=la (t.o.trans (M.mono t.o.size));have uL:=la (K0.o.below (M.mono Aa));have HXB:=la (qb.new Q 165 #[Ma CB]);obtain⟨D,hw4⟩:∃D,Q.alloc (.cells #[Ma CB] 165)=D:=⟨_,rfl⟩;rw[hw4]at HXB⊢;have jy:Da Q.heap.size Q D:=by rw[<-hw4];exact(za _ _).alloc ja _
  have FI:Q.heap.size<D.heap.size:=by rw[<-hw4];simp
  have Lk:=la (Jq.o.trans (jy.mono Jq.o.size));have HS4:=la (S7.more jy);have mU:=la (uL.o.below jy);clear ho M S S7 K uL K0 hw4 jy y0 y1 y2;have hz4:w.heap.size<D.heap.size:=by omega
  have z1:=mU.o.cell 1;have zO:=@run_makeMap prog;have HM0:=la (Wb.made (ek:=Value.string) (ev:=Value.int .i64) D);have U4:Hid (Da _ D (D.alloc (.map #[] 0))):=(za _ _).alloc (wa _) _;go_wp2
  go_loopw [33] (λP wr=>∃(k:Nat) (m:List _),k<=ps.length/\P=pa k/\Hid (ZE ps k m)/\Hid (Wb Value.string (Value.int .i64) wr D.heap.size m)/\Hid (Da D.heap.size D wr)/\D.heap.size<wr.heap.size) (λP _=>ps.length-(intOf P).toNat)
  case atStart=>exact⟨0,[],ja,rfl,ZE.zero ps,HM0,U4,Aa⟩
  case round=>
   rename Ca=>wA
   obtain⟨k,m,hk,rfl,qU,HM,E,hsA⟩:=hrel;have T:=la (show qb wA _ 28 _ from(E.o.block _ mU.o.lt).trans mU.o);have a0:=T.o.cell 0;have a1:=T.o.cell 1;have a2:=T.o.cell 2;clear z1 HM0 U4;have V':=la (Lk.o.trans (E.o.mono ja));by_cases hlt:k<ps.length
   ·obtain⟨b,off,rfl,Tn,ak,ck,ae,ce,hr,_⟩:=Sa.at (HP.o.below jm.kept V'.o) k hlt
    have vU:=la (Mk hlt);generalize ps[k]=p at*
    have KO:=la hr;clear hr
    go_wp2_with (first
     | ((with_reducible show wpList _ _ _ (⟨_,Op.load 38 (.tmp 36),_,_,_,_⟩::_) _ _);refine Lc rfl (.tmp 36) rfl rfl p ak ck ae ce KO.o Tryz.underlying38 rfl Pv.Dg ?_)
     | (((with_reducible show wpList _ _ _ (⟨_,Op.store 38 (.tmp 10) (.tmp 37),_,_,_,_⟩::_) _ _);refine Vc rfl (.tmp 10) (.tmp 37) rfl p ak ck ae ce rfl rfl ?Sj Pv.Dg ?_;(case Sj=>rfl);intro W1 km Un Pu Mu;have FD:=Pu 0 _ rfl;have fP:=la Pu;clear Pu);have KT:=la (HM.o.below km hsA))
     | ((with_reducible show wpList _ _ _ (⟨_,Op.mapUpdate 87 _ _ _,_,_,_,_⟩::_) _ _);refine Io rfl (.tmp 38) (.tmp 40) (.tmp 41) rfl Cr.key Tryz.underlying87 KT.o p.id ((k:Nat):Int) rfl rfl rfl ?_;intro W4 hm4 Q3))
    have dr:=la ((E.o.trans (km.mono ja)).trans (Q3.below (wa _)));have LD:D.heap.size<W4.heap.size:=by rw[Q3.size];have:=km.size;omega
    have HM5:=la hm4
    have J':Hid (ZE ps (k+1) (ins m p.id (k:Nat))):=by{have:=qU.o.push;rw[vU.o]at this;exact this}
    go_roundw
    case rel=>exact⟨_,_,ja,by go_num,J',HM5,dr,LD⟩
    case measure=>simp[intOf];omega
   ·have zI:k=ps.length:=by omega
    subst zI;have YK:=λw=>kO ps.length ja w
    have zX:Hid (Da _ wA ((wA.alloc (.cells (Pn (List.replicate ps.length false)) 4)).alloc (.cells #[.slice (Nb wA.heap.size) ps.length ps.length] 180))):=Xq _ _ _
    have HA0:Hid (Cp ((wA.alloc (.cells (Pn (List.replicate ps.length false)) 4)).alloc (.cells #[.slice (Nb wA.heap.size) ps.length ps.length] 180)) (wA.heap.size+1) wA.heap.size Q.heap.size CB (List.replicate ps.length false)):=by{refine⟨?_,(qb.new wA 4 _).alloc _,qb.below ((E.o.block _ ja).trans HXB.o) zX.o⟩;rw[List.length_replicate];have:=qb.new (wA.alloc (.cells (Pn (List.replicate ps.length false)) 4)) 180 #[.slice (Nb wA.heap.size) ps.length ps.length];rwa[Ia]at this}
    go_wp2
    go_loopw [49] (λP wr=>∃(j:Nat) (q:List Bool),j<=ids.length/\P=pa j/\Hid (lI ps ids j q)/\Hid (Cp wr (wA.heap.size+1) wA.heap.size Q.heap.size CB q)/\Hid (Da wA.heap.size wA wr)/\Hid (∀s∈ids.take j,∃i:Nat,i<ps.length/\qj ps i=s)) (λP _=>ids.length-(intOf P).toNat)
    case atStart=>exact⟨0,_,ja,rfl,lI.zero ps ids,HA0,zX,λs hs=>by cases hs⟩
    case round=>
     rename Ca=>wB
     obtain⟨j,q,hj,rfl,HAI,B,F,HAL⟩:=hrel;have L:=la HAI.o.len;have b0:=B.o.box.cell 0;rw[L.o]at b0;have hsB:=B.o.box.lt;have HMB:=la (HM.o.below F.o hsA);have HLB:=la (V'.o.trans (F.o.mono ja));have HUB:=la (Sa.below (Ad.kept _) HLB.o HU.o);clear a0 a1 a2 HA0 zX YK zO;by_cases hlt:j<ids.length
     {obtain⟨ib,io,rfl,_,q1⟩:=Sa.one HUB.o j hlt;have C5:Hid _:=Ta hlt;have afN:Hid _:=Oa hlt;have HPU:=la (λi hi he=>HAI.o.push (Dw J.o).ids hlt (i:=i) hi he);generalize ids[j]=s at*;have Yr:=af Cr.key Tryz.underlying87 Tryz.zeroValue3 HMB.o s;cases N:m.lookup s with| none=>{have HNO:=la (N1 qU.o afN.o N);have c:Hid (R=([],11)):=by{show _=_;rw[<-HR.o];unfold Je;rw[Ga J.o,if_neg (by rw[HNO.o];simp)]};rw[N]at Yr;clear N;go_wp2;go_ret2;refine⟨_,by rw[c.o];rfl,HLB.o,?_⟩;rw[c.o];exact⟨none,0,rfl,wa _,ja,λh=>absurd rfl h⟩}| some jj=>{obtain⟨i,hi,rfl,he⟩:=qU.o.got s jj N;have HE5:=la he;have afO:0<=(i:Int):=Xb _;(have afP:i<(ps.length:Int):=ja);have b1:=Ew B.o.row i (by rw[L.o];exact hi);have fz:=B.o.row.frozen i;have afQ:=la (B.o.set ja ja i);have afR:Hid (Da _ wA (wB.setCell _ (.bool true))):=F.o.setCell (p:=Ja wA.heap.size i) (wa _) _;(have afS:Hid (∀s∈ids.take (j+1),∃i:Nat,i<ps.length/\qj ps i=s):=λx hx=>by{rw[C5.o,Hf]at hx;(rcases hx with hx|hx);{exact HAL.o x hx};{exact⟨i,hi,by rw[HE5.o];exact(List.mem_singleton.1 hx).symm⟩}});rw[N]at Yr;go_wp2;go_roundw;(case rel=>exact⟨_,_,ja,by go_num,HPU.o i hi HE5.o,afQ,afR,afS⟩);case measure=>simp[intOf];omega}}
     ·have hjn:j=ids.length:=by omega
      subst hjn;have X':Hid _:=wW λs hs=>HAL.o s (by rw[Ub];exact hs)
      have HRI:Hid (R=((Dk d ps ts ids).1.map (qj ps),(Dk d ps ts ids).2)):=by{show _=_;rw[<-HR.o];unfold Je;rw[Ga J.o,Ga X'.o]}
      have X2:=Dw J.o;have HBT:=la (λa ha wx hs (hA:Cp wx (wA.heap.size+1) wA.heap.size Q.heap.size CB q)=>jI HE.o hs hA L.o hn a ha X2.days gM.o)
      have HBI:Hid (Dk d ps ts ids=Sk (Hn d (pd ps) (Jj ps) (Dj ts)) (λi=>q.getD i false) ps.length (List.range ps.length) []):=by{show _=_;rw[afJ HAI.o];rfl}
      generalize Dk d ps ts ids=RI at*
      generalize Hn d _ _ _=WY at*
      have j6:Hid _:=HS4.o.more ((E.o.trans (F.o.mono ja)));clear X2 HR X' HAL HUB HMB;go_wp2
      go_loopw [17,68] (λsv P wr=>∃(k:Nat) (out:List Nat),k<=ps.length/\P=pa k/\Hid (RI=Sk WY (λi=>q.getD i false) ps.length ((List.range ps.length).drop k) out)/\Hid (Ag wr wB.heap.size sv (out.map (qj ps)))/\Hid (fp Q KB d ps wr)/\Hid (Cp wr (wA.heap.size+1) wA.heap.size Q.heap.size CB q)/\Hid (Da w.heap.size w wr)/\out.length<=k/\wB.heap.size<=wr.heap.size/\Hid (qb wr w.heap.size 28 #[.slice ad d.length cd,.slice ap ps.length cp,.slice at_ ts.length ct])) (λ_ P _=>ps.length-(intOf P).toNat)
      case atStart=>exact⟨0,[],ja,rfl,HBI,Ag.nil _ _,j6,B,HLB,wa _,ja,la ((F.o.block _ ja).trans T.o)⟩
      case round=>
       rename Ca=>wC
       obtain⟨k,out,hk,rfl,HI,r,UZ,A,l,U3,hsC,g⟩:=hrel;have c_0:=A.o.box.cell 0;rw[L.o]at c_0;have l0:=g.o.cell 0;have l1:=g.o.cell 1;have l2:=g.o.cell 2;obtain⟨ax,cx,hsv⟩:=r.o.shape;rw[Va]at hsv;clear b0;by_cases hlt:k<ps.length
       ·have y:=HI.o
        rw[Gc (by rw[Jd];exact hlt),List.getElem_range,Sk]at y;have c_1:=Ew A.o.row k (by rw[L.o];exact hlt);have kF:0<=(k:Int):=Xb _;have CZ:k<(ps.length:Int):=by omega
        obtain⟨qk,X5⟩:∃qk,q.getD k false=qk:=⟨_,rfl⟩;rw[X5]at c_1 y;clear X5;subst hsv;cases qk with
        | false=>{(have I:Hid (RI=Sk WY (λi=>q.getD i false) ps.length ((List.range ps.length).drop (k+1)) out):=by show _=_;rw[y,if_neg Aa]);go_wp2;go_roundw;(case rel=>exact⟨_,out,ja,by go_num,I,r,UZ,A,l,ja,hsC,g⟩);case measure=>simp[intOf];omega}
        | true=>
         rw[Ga rfl]at y;have G:=la (HBT.o k hlt wC UZ.o A.o);obtain⟨X,hX⟩:∃X,ji WY (λi=>q.getD i false) k (List.range ps.length) false=X:=⟨_,rfl⟩;rw[hX]at y G;obtain⟨bb,er⟩:=X;simp only at y G;obtain⟨lm,T7,_⟩:=UZ.o.map;have V:=la T7;clear hX HI T7;by_cases he:er=0
         ·subst he
          rw[Ga rfl]at y;cases bb with
          | true=>{have I:Hid (RI=Sk WY (λi=>q.getD i false) _ _ out):=y;clear y;go_wp2_with (go_at_call 96;refine G.o.mono ?_;rintro e wD ⟨rfl,Z,f⟩);have Y:=la (oD r.o f.o ja);have P4:=la (A.o.step V.o f.o);have n:=la (l.o.trans (f.o.below l.o.size QV));have U:=la (f.o.Pd g.o (qA g.o V.o));have hsD:=f.o.size;go_roundw;(case rel=>exact⟨_,out,ja,by go_num,I,Y,Z,P4,n,ja,ja,U⟩);case measure=>simp[intOf];omega}
          | false=>
           have I:Hid (RI=Sk WY (λi=>q.getD i false) _ _ (out++[k])):=y;clear y;obtain⟨b,off,rfl,Tn,ak,ck,ae,ce,hr,_⟩:=Sa.at HP.o k hlt;have e0:=hr 0 _ rfl;rw[Qg]at e0;have vU:=la (Mk hlt);generalize ps[k]=p at*
           clear hr
           go_wp2_with (first
            | (go_at_call 96;refine G.o.mono ?_;rintro e wD ⟨rfl,Z,f⟩;have Y:=la (oD r.o f.o ja);have P4:=la (A.o.step V.o f.o);have n:=la (l.o.trans (f.o.below l.o.size QV));have U:=la (f.o.Pd g.o (qA g.o V.o));have hsD:=f.o.size;have m1:=U.o.cell 1;have e1:=(n.o.cell (p:=Ja b (off+k*23)) Tn).trans e0)
            | (at_builtin;go_loud (refine Fu rfl (.tmp 87) (.tmp 94) rfl wB.heap.size i0 Kw QI jF ez _ (out.map (qj ps)) rfl (Y.o.kept (World.grownBy_alloc _ _ none) (mI _)) p.id (Ya wD.heap.size) 1 rfl (qb.new wD 9 #[.string p.id] |>.cell 0) (by rw[Va];omega) (by simp;omega) ?_;intro v9 w9 O z;have ET:=la O;have H:=la z;clear O z)))
           have W:=la (Y.o.kept (World.grownBy_alloc wD (.cells #[.string p.id] 9) none) (mI _));have hbA:Da _ wD (wD.alloc (.cells #[.string p.id] 9)):=(za _ _).alloc (wa _) _;have P6:=la ((Z.o.more hbA).cT W.o ja H.o);have Y3:=la ((P4.o.below hbA).grown W.o ja ja ja H.o);have vK:=la (mO (n.o.trans (hbA.mono n.o.size)) (by have:=n.o.size;simp;omega) W.o ja H.o);have I2:=la ((U.o.below hbA).grown H.o (λe=>by have:=W.o.ge _ e.symm;omega));have cZ:wB.heap.size<=w9.heap.size:=by have:=H.o.size;simp at this;omega
           have HW9:Hid (Ag w9 wB.heap.size v9 ((out++[k]).map (qj ps))):=by{have:=ET.o;rw[Pb,Eb,sd,vU.o];exact this}
           go_roundw
           case rel=>exact⟨_,_,ja,by go_num,I,HW9,P6,Y3,vK,by simp;omega,cZ,I2⟩
           case measure=>simp[intOf];omega
         {rw[if_neg he]at y;(have c:Hid (R=([],er)):=by show _=_;rw[HRI.o,y];rfl);(have gE:(er !=0)=true:=by simpa using he);clear y he;go_wp2_with (go_at_call 96;refine G.o.mono ?_;rintro e wD ⟨rfl,Z,f⟩;have n:=la (l.o.trans (f.o.below l.o.size QV)));go_ret2;refine⟨_,by rw[c.o];rfl,n.o,?_⟩;rw[c.o];exact⟨none,0,rfl,wa _,ja,λh=>absurd rfl h⟩}
       ·have c:Hid (R=(out.map (qj ps),0)):=by
         show _=_
         rw[HRI.o,HI.o,Bb (by rw[Jd];omega)];rfl
        subst hsv;go_wp2;go_ret2;refine⟨_,by rw[c.o];rfl,l.o,?_⟩;rw[c.o];exact r.o.strs
 {rw[if_neg (λh=>C h.1)]at K;have c:Hid (R=([],1)):=by{show _=_;rw[<-HR.o];unfold Je;rw[if_neg C]};clear C;go_enter func56,ntmps56;go_wp2_with (go_at_call 82;refine K.o.mono ?_;rintro e Q ⟨x,rfl,M,_⟩);go_ret2;have nF:=t.o.trans (M.mono t.o.size);refine⟨_,by rw[c.o];rfl,nF.alloc nF.size _,?_⟩;rw[c.o];exact⟨none,0,rfl,wa _,ja,λh=>absurd rfl h⟩}
end Go.Proofs.YtdipkbobalnilaaGreatDoor
