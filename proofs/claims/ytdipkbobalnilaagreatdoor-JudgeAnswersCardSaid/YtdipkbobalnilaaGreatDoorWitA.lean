/- The arguments opened: laws. No conditions. -/
import Derived.Test.YtdipkbobalnilaaGreatDoorAl
import Derived.Test.YtdipkbobalnilaaGreatDoorMemA
import Derived.ProofKit
import Derived.OpenShut
import Derived.Deep.Slices
import Derived.Test.YtdipkbobalnilaaGreatDoorTie
import Derived.Test.YtdipkbobalnilaaGreatDoorCards
import Derived.LaidMore
set_option maxRecDepth 100000
namespace Go.Proofs.YtdipkbobalnilaaGreatDoor
open Go.Proofs.Tryz
open Go.RowKit Go.ChangeShapes Go.ChangeMaps
variable{j:Nat}{Z:Int}{E:TypeId}
theorem okWide_struct{P:Program}{w:Ca}{r:Reach}{v:Ea}{b:Array Field}(c:P.underlying E=some (.struct b))(hval:Value.okWide P w r j E v):∃l:List Ea,v=.agg l.toArray:=by
 unfold Value.okWide at hval;rw[c]at hval;obtain⟨a,h,_⟩:=hval;exact⟨a.toList,by rw[h]⟩
theorem okWide_slice{P:Program}{w:Ca}{r:Reach}{e:TypeId}{v:Ea}(a:P.underlying E=some (.slice e))(hval:Value.okWide P w r j E v):v.cells.toList=[v]:=by
 unfold Value.okWide at hval;rw[a]at hval;cases v with| agg b=>simp[Cell.okWide,Cell.ok,a]at hval| _=>rfl
section
variable {H : Type} {enc : TypeId × Ea -> H} {W : Ca} {sp : Nat -> Bool} {hd : Bool}
theorem Ku{c:Type}{P:Nat->c->Prop}:∀(n:Nat),(∀i,i<n->∃z,P i z)->∃l:List c,l.length=n/\∀i (h:i<l.length),P i l[i]
 | 0,_=>⟨[],rfl,λi h=>by cases h⟩
 | n+1,h=>by{obtain⟨l,b,d⟩:=Ku n (λi a=>h i ja);obtain⟨z,f⟩:=h n ja;refine⟨l++[z],by simp[b],λi a=>?_⟩;by_cases e:i<l.length;{rw[wg e];exact d i e};{(have:i=l.length:=by simp at a;omega);subst this;rw[List.getElem_append_right (wa _)];simpa[b]using f}}
theorem ui{a:Type}{l:List a}(h:l.length=j+1):∃v m,l=v::m/\m.length=j:=by
 cases l with| nil=>cases h| cons v m=>exact⟨v,m,rfl,by simpa using h⟩
theorem agC{i:Type}{d:List i}(e:d.length=3):∃a b c,d=[a,b,c]:=by
 obtain⟨a,j,rfl,f⟩:=ui e;obtain⟨b,k,rfl,g⟩:=ui f;obtain⟨c,l,rfl,h⟩:=ui g;obtain rfl:=List.length_eq_zero_iff.1 h;exact⟨a,b,c,rfl⟩
theorem agD{k:Type}{e:List k}(f:e.length=4):∃a b c d,e=[a,b,c,d]:=by
 obtain⟨a,l,rfl,g⟩:=ui f;obtain⟨b,m,rfl,h⟩:=ui g;obtain⟨c,n,rfl,i⟩:=ui h;obtain⟨d,o,rfl,j⟩:=ui i;obtain rfl:=List.length_eq_zero_iff.1 j;exact⟨a,b,c,d,rfl⟩
theorem v_{m:Type}{f:List m}(g:f.length=5):∃a b c d e,f=[a,b,c,d,e]:=by
 obtain⟨a,n,rfl,h⟩:=ui g;obtain⟨b,o,rfl,i⟩:=ui h;obtain⟨c,p,rfl,j⟩:=ui i;obtain⟨d,q,rfl,k⟩:=ui j;obtain⟨e,r,rfl,l⟩:=ui k;obtain rfl:=List.length_eq_zero_iff.1 l;exact⟨a,b,c,d,e,rfl⟩
theorem Zq(a:Addr)(n:Nat):(a.add n).block=a.block:=by unfold Addr.add;split<;>rfl
theorem fM(a:Addr)(n:Nat):(a.add n).off=a.off+n:=by unfold Addr.add;split<;>simp_all
theorem pS(a:Addr)(h:a.spot=none)(n:Nat):a.add n=⟨a.block,a.off+n,none⟩:=by
 obtain⟨b,o,s⟩:=a;simp only at h;subst h;unfold Addr.add
 split<;>simp_all
theorem ux{a:Addr}{c:List Ea}(h:W.cells? 0 a j=some c)(m:0<j):a.spot=none/\a.block<W.heap.size/\c.length=j/\W.rangeAt a.block a.off c:=by
 unfold World.cells? at h;rw[Ga (Lb _)]at h;have k:c.length=j:=by simpa using mapM_some_length h
 have e:∀i (f:i<j),W.cell? (a.add i)=c[i]? :=λi f=>mapM_some_get h i i (by simp[f])
 have d:W.cell? a=some c[0]:=by{have:=e 0 m;rwa[Xa ja,show a.add 0=a by simp[Addr.add]]at this}
 have l:a.spot=none:=World.cell?_spot d;refine⟨l,?_,k,λb v g=>?_⟩
 {exact Kb _ _ d}
 {(have hj':b<j:=by rw[<-k];exact(List.getElem?_eq_some_iff.1 g).1);rw[<-pS a l,e b hj',g]}
theorem py{c:Type}{R:Cf c}{e:TypeId}{fuel:Nat}{v:Ea}{x:DataW H×List MemPlace}(J:prog.underlying E=some (.slice e))(G:prog.cellsOf e=j)(C:0<j)(h:DataW.trod enc prog W 0 sp hd fuel E [v]=some x)
  (F:∀n m y b o,n<fuel->DataW.trod enc prog W 0 sp hd n e m=some y->b<W.heap.size->W.rangeAt b o m->m.length=j->∃z,R W W.heap.size z b o):∃l,Sa R j W W.heap.size l v:=by
 rcases DataW.trod_slice J h with⟨d,_⟩|⟨a,len,cap,elems,rest,n,N,d,_,_,O,I,hlen,q,_⟩
 {simp only[List.cons.injEq,and_true]at d;subst d;exact⟨[],none,0,rfl,wa _,Lb _,λe=>absurd rfl e⟩}
 {simp only[List.cons.injEq,and_true]at d;subst d;have key:∀i,i<len->(a.add (i*j)).spot=none/\a.block<W.heap.size/\∃z,R W W.heap.size z a.block (a.off+i*j):=by{intro i f;have g:=q i f;rw[Xa ja]at g;obtain⟨p,A,D⟩:=Option.bind_eq_some_iff.1 g;rw[G]at A;obtain⟨L,w,M,B⟩:=ux A C;rw[Zq]at w;rw[Zq,fM]at B;exact⟨L,w,F n p _ a.block (a.off+i*j) ja D w B M⟩};obtain⟨l,t,r⟩:=Ku len (λi f=>(key i f).2.2);refine⟨l,some a,cap,by rw[t],ja,I,λhne=>?_⟩;have k:0<len:=by{(rcases Nat.eq_zero_or_pos len with h|h);{exact absurd (List.length_eq_zero_iff.1 ja) hne};{exact h}};obtain⟨u,K,_⟩:=key 0 k;rw[Nat.zero_mul,show a.add 0=a by simp[Addr.add]]at u;refine⟨a.block,a.off,?_,K,λi f=>r i f⟩;obtain⟨b,o,s⟩:=a;simp only at u;rw[u]}
theorem agE(h:(Lit.int .i64 Z).wf=true):Wh Z:=bounds_i64 h
theorem c3:prog.cellsOf 3=1:=by kernel_rfl
theorem c9:prog.cellsOf 9=1:=by kernel_rfl
theorem c24:prog.cellsOf 32=5:=by kernel_rfl
theorem c22:prog.cellsOf 30=1:=by kernel_rfl
theorem c27:prog.cellsOf 24=1:=by kernel_rfl
theorem c25:prog.cellsOf 22=1:=by kernel_rfl
theorem agG:prog.cellsOf 120=4:=by kernel_rfl
theorem c54:prog.cellsOf 33=1:=by kernel_rfl
theorem c28:prog.cellsOf 26=1:=by kernel_rfl
theorem im{v:Ea}{y:Option (DataW H×List MemPlace)}(h:DataW.trod enc prog W 0 sp hd j 3 [v]=y)(b:y.isSome=true):∃n,v=pa n/\Wh n:=by
 obtain⟨x,rfl⟩:=Option.isSome_iff_exists.1 b;obtain⟨n,a,_,hw⟩:=DataW.trod_int Tryz.underlying3 h;exact⟨n,by simpa using a,agE hw⟩
theorem zA{v:Ea}{y:Option (DataW H×List MemPlace)}(h:DataW.trod enc prog W 0 sp hd j 9 [v]=y)(b:y.isSome=true):∃s,v=.string s/\s.size<=maxLen:=by
 obtain⟨x,rfl⟩:=Option.isSome_iff_exists.1 b;obtain⟨s,a,_,hw⟩:=DataW.trod_string Tryz.underlying9 h;exact⟨s,by simpa using a,hw⟩
theorem Gf{a:Type}{b:List a}{i:Nat}(h:b.length=j)(c:i<j):(b[i]?).isSome=true:=by rw[Xa ja];rfl
theorem gF{v:Ea}{y:Option (DataW H×List MemPlace)}(h:DataW.trod enc prog W 0 sp hd j 33 [v]=y)(a:y.isSome=true):∃l,Sc W W.heap.size l v:=by
 obtain⟨x,rfl⟩:=Option.isSome_iff_exists.1 a;refine py Tryz.underlying33 c9 Ba h (λn d y b o _ a e c f=>?_);obtain⟨s,rfl,_⟩:=DataW.trod_string Tryz.underlying9 a;exact⟨s,c 0 _ rfl⟩
theorem Lu(d:prog.underlying E=some (.slice 3)){v:Ea}{y:Option (DataW H×List MemPlace)}(h:DataW.trod enc prog W 0 sp hd j E [v]=y)(a:y.isSome=true):∃l,IntsIn W W.heap.size l v:=by
 obtain⟨x,rfl⟩:=Option.isSome_iff_exists.1 a;refine py d c3 Ba h (λn e y b o _ a f c g=>?_);obtain⟨s,rfl,_⟩:=DataW.trod_int Tryz.underlying3 a;exact⟨s,c 0 _ rfl⟩
theorem xT{B b:Nat}:∀(n off:Nat),(∀i,i<n->∃(f:Fo) (a c d e g:Ea),W.cell? (Ja b (off+i*5))=some a/\W.cell? (Ja b (off+i*5+1))=some c/\W.cell? (Ja b (off+i*5+2))=some d/\W.cell? (Ja b (off+i*5+3))=some e/\
  W.cell? (Ja b (off+i*5+4))=some g/\f.In W B (.agg #[a,c,d,e,g]))->∃p:List Fo,p.length=n/\Fo.Vk W B p b off
 | 0,off,_=>⟨[],rfl,trivial⟩
 | n+1,off,h=>by
  obtain⟨p,s,r⟩:=xT n (off+5) (λi t=>by
   obtain⟨f,a,c,d,e,g,j,k,l,m,o,q⟩:=h (i+1) ja
   rw[show off+(i+1)*5=off+5+i*5 by omega]at j k l m o
   exact⟨f,a,c,d,e,g,j,k,l,m,o,q⟩)
  obtain⟨f,a,c,d,e,g,j,k,l,m,o,q⟩:=h 0 ja;rw[Nat.zero_mul,Qg]at j k l m o;exact⟨f::p,by simp[s],⟨a,c,d,e,g,j,k,l,m,o,q⟩,r⟩
theorem OW(N:Nat):∀(fuel:Nat) (r:List Ea) (x:DataW H×List MemPlace),fuel<N->DataW.trod enc prog W 0 sp hd fuel 32 r=some x->∃f:Fo,f.In W W.heap.size (.agg r.toArray):=by
 induction N with
 | zero=>intro fuel _ _ h;omega
 | succ N ih=>
 intro fuel r x hN h;obtain⟨T,n,hf,_,hlen,c,p⟩:=DataW.trod_struct Tryz.underlying32 h;rw[c24]at hlen;have c:T.length=5:=c;obtain⟨E,F,G,I,q,rfl⟩:=v_ hlen
 ·skip
  have u:=p 0 _ rfl;have v:=p 1 _ rfl;have w:=p 2 _ rfl;have y:=p 3 _ rfl;have d:=p 4 _ rfl;simp only[Gb,zb]at u;simp only[Gb,zb,Jb]at v;simp only[Gb,zb,Jb]at w;simp only[Gb,zb,Jb]at y;simp only[Gb,zb,Jb]at d;rw[c3]at u w y;rw[c9]at v;rw[c22]at d;obtain⟨R,rfl,M⟩:=im u (Gf c Ba);obtain⟨L,rfl,O⟩:=zA v (Gf c Ba);obtain⟨J,rfl,P⟩:=im w (Gf c Ba);obtain⟨m,rfl,Q⟩:=im y (Gf c Ba);rw[Xa ja]at d
  replace d:DataW.trod enc prog W 0 sp hd n 30 [q]=some T[4]:=d
  rcases DataW.trod_slice Tryz.underlying30 d with⟨j,_⟩|⟨a,len,cap,elems,rest,n',X,j,_,_,hl,Z,hlen,z,_⟩
  {simp only[List.cons.injEq,and_true]at j;subst j;exact⟨.mk R L J m [],none,0,rfl,M,P,Q,O,wa _,Lb _,λe=>absurd rfl e⟩}
  ·simp only[List.cons.injEq,and_true]at j
   subst j
   have key:∀i,i<len->(a.add (i*5)).spot=none/\a.block<W.heap.size/\∃(f:Fo) (E F G I q:Ea),W.cell? (Ja a.block (a.off+i*5))=some E/\W.cell? (Ja a.block (a.off+i*5+1))=some F/\W.cell? (Ja a.block (a.off+i*5+2))=some G/\W.cell? (Ja a.block (a.off+i*5+3))=some I/\
     W.cell? (Ja a.block (a.off+i*5+4))=some q/\f.In W W.heap.size (.agg #[E,F,G,I,q]):=by
    intro i C;have k:=z i C;rw[Xa ja]at k;obtain⟨t,K,U⟩:=Option.bind_eq_some_iff.1 k;rw[c24]at K;obtain⟨s1,S,s3,g⟩:=ux K Ba;rw[Zq]at S;rw[Zq,fM]at g;refine⟨s1,S,?_⟩;obtain⟨f,A⟩:=ih n' t _ ja U;obtain⟨u0,u1,u2,u3,u4,rfl⟩:=v_ s3;exact⟨f,u0,u1,u2,u3,u4,g 0 _ rfl,g 1 _ rfl,g 2 _ rfl,g 3 _ rfl,g 4 _ rfl,A⟩
   obtain⟨ks,Y,V⟩:=xT (W:=W) (B:=W.heap.size) (b:=a.block) len a.off (λi C=>(key i C).2.2);refine⟨.mk R L J m ks,some a,cap,by rw[Y],M,P,Q,O,ja,Z,λhne=>?_⟩
   have l:0<len:=by{(rcases Nat.eq_zero_or_pos len with h|h);{exact absurd (List.length_eq_zero_iff.1 ja) hne};{exact h}}
   obtain⟨D,k2,_⟩:=key 0 l;rw[Nat.zero_mul,show a.add 0=a by simp[Addr.add]]at D;refine⟨a.block,a.off,?_,k2,V⟩;obtain⟨b,o,s⟩:=a;simp only at D;rw[D]
theorem PW{v:Ea}{y:Option (DataW H×List MemPlace)}(h:DataW.trod enc prog W 0 sp hd j 22 [v]=y)(m:y.isSome=true):∃d,Sa Jk 4 W W.heap.size d v:=by
 obtain⟨x,rfl⟩:=Option.isSome_iff_exists.1 m;refine py Tryz.underlying22 agG Ba h (λn B y b o _ m C c q=>?_);obtain⟨A,n,D,_,_,a,e⟩:=DataW.trod_struct Tryz.underlying120 m;have a:A.length=4:=a;obtain⟨E,F,G,I,rfl⟩:=agD q
 {skip;have f:=e 0 _ rfl;have g:=e 1 _ rfl;have i:=e 2 _ rfl;have l:=e 3 _ rfl;simp only[Gb,zb]at f;simp only[Gb,zb,Jb]at g;simp only[Gb,zb,Jb]at i;simp only[Gb,zb,Jb]at l;rw[c3]at g i l;rw[c9]at f;obtain⟨s,rfl,t⟩:=zA f (Gf a Ba);obtain⟨k,rfl,u⟩:=im g (Gf a Ba);obtain⟨r,rfl,w⟩:=im i (Gf a Ba);obtain⟨p,rfl,z⟩:=im l (Gf a Ba);exact⟨⟨s,k,r,p⟩,c 0 _ rfl,c 1 _ rfl,c 2 _ rfl,c 3 _ rfl,t,u,w,z⟩}
theorem QS{r:Reach}{v:Ea}{d:DataW H}{b:List MemPlace}(hval:Value.okWide prog W r j 29 v)(h:DataW.Trod enc prog W 0 sp hd 29 v d b):∃c,IntsIn W W.heap.size c v:=by
 obtain⟨fuel,a⟩:=h;rw[okWide_slice Tryz.underlying29 hval]at a;exact Lu Tryz.underlying29 a rfl
theorem LK{r:Reach}{v:Ea}{d:DataW H}{b:List MemPlace}(hval:Value.okWide prog W r j 9 v)(h:DataW.Trod enc prog W 0 sp hd 9 v d b):∃s:Na,v=.string s/\s.size<=maxLen:=by
 obtain⟨s,e,_,_,a⟩:=open_string Tryz.underlying9 hval h;exact⟨s,e,a⟩
end
open Go Go.RowKit Go.ChangeShapes
theorem own:ownKnob prog.godebug=none:=by kernel_rfl
theorem laidOut:laidOutB prog=true:=by kernel_rfl
def iA:List (String×DataW Unit):=[("math/bits.deBruijn32tab",Rows.laid_math_bits_deBruijn32tab),("math/bits.deBruijn64tab",Rows.laid_math_bits_deBruijn64tab),("internal/strconv.uint64pow10",Rows.laid_internal_strconv_uint64pow10),("strconv.ErrRange",Rows.laid_strconv_ErrRange),("strconv.ErrSyntax",Rows.laid_strconv_ErrSyntax)]
theorem RS(a:Os)(args:Array Ea):laidMetH prog iA ((World.doorLaid prog 2000 a).forCall (λ_ _=>0) ⟨#[],args,[]⟩).memory:=
 laidMetH_of_parts3 (fuel:=8) (laidMet_of_run' 8 Ha Ha) Ha Ha
open Go
theorem Y0:mapsRowed prog=true:=by kernel_rfl
theorem Z0:(prog.stops==[])=true:=by kernel_rfl
theorem j1:(prog.stopKnobs==[])=true:=by kernel_rfl
theorem A1:prog.stopsHeard=true:=by kernel_rfl
theorem B1:prog.mayEnter=true:=by kernel_rfl
theorem C1:true=prog.looks []:=by kernel_rfl
theorem fj{a b:Bool}(h:a=true)(k:b=true):(a&& b)=true:=by rw[h,k];rfl
open Go.RowKit Go.ChangeShapes Go.ChangeMaps
section
variable {H : Type} {enc : TypeId × Ea -> H} {W : Ca} {sp : Nat -> Bool} {hd : Bool}
theorem w_{W:Type}{y:List W}(z:y.length=23):∃o p q r s t u v w x v10 v11 v12 v13 v14 v15 v16 v17 v18 v19 v20 v21 v22,y=[o,p,q,r,s,t,u,v,w,x,v10,v11,v12,v13,v14,v15,v16,v17,v18,v19,v20,v21,v22]:=by
 obtain⟨o,X,rfl,A⟩:=ui z;obtain⟨p,Y,rfl,B⟩:=ui A;obtain⟨q,Z,rfl,C⟩:=ui B;obtain⟨r,l4,rfl,D⟩:=ui C;obtain⟨s,l5,rfl,E⟩:=ui D;obtain⟨t,l6,rfl,F⟩:=ui E;obtain⟨u,l7,rfl,G⟩:=ui F;obtain⟨v,l8,rfl,H⟩:=ui G;obtain⟨w,l9,rfl,I⟩:=ui H;obtain⟨x,l10,rfl,a⟩:=ui I;obtain⟨v10,J,rfl,b⟩:=ui a;obtain⟨v11,K,rfl,c⟩:=ui b;obtain⟨v12,L,rfl,d⟩:=ui c;obtain⟨v13,M,rfl,e⟩:=ui d;obtain⟨v14,N,rfl,f⟩:=ui e;obtain⟨v15,O,rfl,g⟩:=ui f;obtain⟨v16,P,rfl,h⟩:=ui g;obtain⟨v17,Q,rfl,i⟩:=ui h;obtain⟨v18,R,rfl,j⟩:=ui i;obtain⟨v19,S,rfl,k⟩:=ui j;obtain⟨v20,T,rfl,l⟩:=ui k;obtain⟨v21,U,rfl,m⟩:=ui l;obtain⟨v22,V,rfl,n⟩:=ui m;obtain rfl:=List.length_eq_zero_iff.1 n;exact⟨o,p,q,r,s,t,u,v,w,x,v10,v11,v12,v13,v14,v15,v16,v17,v18,v19,v20,v21,v22,rfl⟩
theorem c50:prog.cellsOf 25=1:=by kernel_rfl
theorem c67:prog.cellsOf 38=23:=by kernel_rfl
theorem c65:prog.cellsOf 36=4:=by kernel_rfl
theorem c63:prog.cellsOf 34=1:=by kernel_rfl
theorem c52:prog.cellsOf 28=3:=by kernel_rfl
theorem iF{p q r k:Ea}{y:Option (DataW H×List MemPlace)}(h:DataW.trod enc prog W 0 sp hd j 36 [p,q,r,k]=y)(v:y.isSome=true):∃s:St,p=pa s.op/\q=.string s.name/\r=pa s.day/\k=.slice s.ao s.n s.cap:=by
 obtain⟨x,rfl⟩:=Option.isSome_iff_exists.1 v;obtain⟨t,n,w,_,_,b,e⟩:=DataW.trod_struct Tryz.underlying36 h;have b:t.length=4:=b;have f:=e 0 _ rfl;have g:=e 1 _ rfl;have i:=e 2 _ rfl;have c:=e 3 _ rfl;simp only[Gb,zb]at f;simp only[Gb,zb,Jb]at g;simp only[Gb,zb,Jb]at i;simp only[Gb,zb,Jb]at c;rw[c3]at f i;rw[c9]at g;rw[c63]at c;obtain⟨o,rfl,_⟩:=im f (Gf b Ba);obtain⟨m,rfl,_⟩:=zA g (Gf b Ba);obtain⟨l,rfl,_⟩:=im i (Gf b Ba);rw[Xa ja]at c
 replace c:DataW.trod enc prog W 0 sp hd n 34 [k]=some t[3]:=c
 rcases DataW.trod_slice Tryz.underlying34 c with⟨d,_⟩|⟨a,len,cap,elems,rest,z,u,d,_⟩
 {simp only[List.cons.injEq,and_true]at d;subst d;exact⟨⟨o,m,l,none,0,0⟩,rfl,rfl,rfl,rfl⟩}
 {simp only[List.cons.injEq,and_true]at d;subst d;exact⟨⟨o,m,l,some a,len,cap⟩,rfl,rfl,rfl,rfl⟩}
theorem yT{v:Ea}{y:Option (DataW H×List MemPlace)}(h:DataW.trod enc prog W 0 sp hd j 25 [v]=y)(E:y.isSome=true):∃e,Sa jm 23 W W.heap.size e v/\∀p∈e,Wh p.value:=by
 obtain⟨x,rfl⟩:=Option.isSome_iff_exists.1 E
 have q:∃e,Sa (λw B p b o=>jm w B p b o/\Wh p.value) 23 W W.heap.size e v:=by{refine py Tryz.underlying25 c67 Ba h (λn cs y b o _ E hb X U=>?_);obtain⟨xs,n,hf,_,_,c,d⟩:=DataW.trod_struct Tryz.underlying38 E;have c:xs.length=10:=c;obtain⟨v0,v1,v2,v3,v4,v5,v6,v7,v8,v9,v10,v11,v12,v13,v14,v15,v16,v17,v18,v19,v20,v21,v22,rfl⟩:=w_ U;{skip;have m:=d 0 _ rfl;have r:=d 1 _ rfl;have s:=d 2 _ rfl;have t:=d 3 _ rfl;have u:=d 4 _ rfl;have k:=d 5 _ rfl;have z:=d 6 _ rfl;have A:=d 7 _ rfl;have C:=d 8 _ rfl;have D:=d 9 _ rfl;simp only[Gb,zb]at m;simp only[Gb,zb,Jb]at r;simp only[Gb,zb,Jb]at s;simp only[Gb,zb,Jb]at t;simp only[Gb,zb,Jb]at u;simp only[Gb,zb,Jb]at k;simp only[Gb,zb,Jb]at z;simp only[Gb,zb,Jb]at A;simp only[Gb,zb,Jb]at C;simp only[Gb,zb,Jb]at D;rw[c9]at m t;rw[c3]at r s u;rw[c24]at k;rw[c54]at z;rw[c65]at A C D;obtain⟨Y,rfl,o0⟩:=zA m (Gf c Ba);obtain⟨rk,rfl,_⟩:=im r (Gf c Ba);obtain⟨Z,rfl,_⟩:=im s (Gf c Ba);obtain⟨nm,rfl,o3⟩:=zA t (Gf c Ba);obtain⟨vl,rfl,w4⟩:=im u (Gf c Ba);rw[Xa ja]at k;obtain⟨f,g⟩:=OW (n+1) n [v5,v6,v7,v8,v9] _ ja k;obtain⟨M,P,K⟩:=g.shape;simp only[Value.agg.injEq,ep,List.cons.injEq,and_true]at K;obtain⟨rfl,rfl,rfl,rfl,rfl⟩:=K;obtain⟨Q,hex⟩:=gF z (Gf c Ba);obtain⟨L,O,rfl,_⟩:=Sa.shape hex;obtain⟨s1,rfl,rfl,rfl,rfl⟩:=iF A (Gf c Ba);obtain⟨s2,rfl,rfl,rfl,rfl⟩:=iF C (Gf c Ba);obtain⟨s3,rfl,rfl,rfl,rfl⟩:=iF D (Gf c Ba);exact⟨⟨Y,rk,Z,nm,vl,f,Q,s1,s2,s3⟩,⟨M,P,L,O,X,g,hex,o0,o3⟩,w4⟩}}
 obtain⟨e,N,cap,rfl,R,S,I⟩:=q;refine⟨e,⟨N,cap,rfl,R,S,λhne=>?_⟩,λp V=>?_⟩
 {obtain⟨b,o,F,G,l⟩:=I hne;exact⟨b,o,F,G,λi T=>(l i T).1⟩}
 {obtain⟨a,J,rfl⟩:=Zc V;obtain⟨b,o,F,G,l⟩:=I (by rintro rfl;cases J);exact(l a J).2}
end
def afl:Ea:=.agg #[Ua,Ua,Ua]
end Go.Proofs.YtdipkbobalnilaaGreatDoor
