/- How the maker of chapter 11 lies in memory: what a step keeps, rows that stand, nodes, the table of nodes with its map. No conditions. -/
import Derived.Test.YtdipkbobalnilaaGreatDoorAl
import Derived.Test.YtdipkbobalnilaaGreatDoorDgPl
import Derived.Lib.ItoaLen
import Derived.Deep.RegionHeld3
import Derived.Test.YtdipkbobalnilaaGreatDoorTokA
import Derived.Deep.AppendLies
namespace Go.Proofs.YtdipkbobalnilaaGreatDoor
open Go.Lib
variable{j:Nat}{T:List Dn}{Z:Int}{F:Fo}{M:Oper}
def Kz(c:UInt8):Bool:=c==45 || (decide (48<=c.toNat)&& decide (c.toNat<=57))
def Hr(c:UInt8):Bool:=decide (48<=c.toNat)&& decide (c.toNat<=57)
theorem PG(u j:Nat):Hr (dg u j)=true:=by
 grind [Hr,dg,UInt8.toNat_ofNat']
theorem Gs(u:Nat):(decDigits u).all Hr=true:=by
 grind [decDigits_eq,PG]
theorem Xl(n:Int):(itoa n).all Kz=true:=by
 grind [Hr,Kz,itoa,Gs]
theorem Nq{p:UInt8->Bool}:∀ {a a':List UInt8} {c b:UInt8} {r f:List UInt8},a.all p=true->a'.all p=true->p c=false->p b=false->a++c::r=a'++b::f->a=a'/\c=b/\r=f
 | [],[],_,_,_,_,_,_,_,_,h=>by
  grind
 | [],x::a',c,_,_,_,_,e,g,_,h=>by
  grind
 | x::a,[],_,b,_,_,d,_,_,i,h=>by
  grind
 | x::a,y::a',c,b,r,f,d,e,g,i,h=>by{simp at h;rw[List.all_cons,Ib]at d e;obtain⟨j,k,l⟩:=Nq d.2 e.2 g i h.2;exact⟨by rw[h.1,j],k,l⟩}
theorem ofNat_inj{a:Nat}(b:a<10)(c:j<10)(h:UInt8.ofNat (48+a)=UInt8.ofNat (48+j)):a=j:=by
 grind [UInt8.toNat_ofNat']
theorem An(h:j<10):decDigits j=[UInt8.ofNat (48+j)]:=by
 rw[decDigits];simp[h]
theorem iy(h:¬j<10):decDigits j=decDigits (j / 10)++[UInt8.ofNat (48+j % 10)]:=by
 grind [decDigits]
theorem rE:∀(N u v:Nat),u<=N->decDigits u=decDigits v->u=v
 | N,u,v,f,h=>by{by_cases c:u<10;{by_cases b:v<10;{rw[An c,An b]at h;exact ofNat_inj c b (by simpa using h)};{rw[An c,iy b]at h;have a:=congrArg List.length h;rw[Qa,decDigits_length]at a;have:=nDigits_pos (v / 10);simp at a;omega}};{by_cases b:v<10;{rw[An b,iy c]at h;have a:=congrArg List.length h;rw[Qa,decDigits_length]at a;have:=nDigits_pos (u / 10);simp at a;omega};{rw[iy c,iy b]at h;have a:=List.append_inj' h rfl;cases N with| zero=>omega| succ N=>{have d:=rE N (u / 10) (v / 10) ja a.1;have e:=ofNat_inj (Nat.mod_lt u Ba) (Nat.mod_lt v Ba) (by simpa using a.2);omega}}}}
theorem Bn{a:Int}(h:itoa a=itoa Z):a=Z:=by
 have key:∀(u:Nat) (l:List UInt8),decDigits u≠45::l:=by{intro u l e;have:=Gs u;rw[e,List.all_cons]at this;exact absurd (Bool.and_eq_true_iff.1 this).1 Ba}
 unfold itoa at h
 split at h<;>split at h
 {have:=rE _ _ _ (wa _) (List.cons.inj h).2;omega}
 ·grind
 ·grind
 {have:=rE _ _ _ (wa _) h;omega}
def Oh(l:List Int):List UInt8:=l.flatMap λk=>itoa k++[44]
def Vp(n:Dn):List UInt8:=(if n.leaf then 49 else 48)::itoa n.fact++58::Oh n.Sb++58::Oh n.kids
def fh(n:Dn):Na:=⟨(Vp n).toArray⟩
theorem DL(k:Int):∃c l,itoa k=c::l/\Kz c=true:=by
 have h:=Xl k;cases e:itoa k with
 | nil=>
  grind [itoa,decDigits_length,nDigits_pos]
 | cons c l=>
  grind
theorem uz:∀ {l l':List Int} {r r':List UInt8},(∀c∈r.head?,Kz c=false)->(∀c∈r'.head?,Kz c=false)->Oh l++r=Oh l'++r'->l=l'/\r=r'
 | [],[],_,_,_,_,h=>⟨rfl,h⟩
 | [],k::l',r,r',a,_,h=>by
  exfalso
  obtain⟨c,m,e,j⟩:=DL k
  grind [Oh]
 | k::l,[],r,r',_,b,h=>by
  exfalso
  obtain⟨c,m,e,j⟩:=DL k
  grind [Oh]
 | k::l,k'::l',r,r',a,b,h=>by{rw[Oh,Oh,Bc,Bc]at h;simp at h;obtain⟨d,_,f⟩:=Nq (Xl k) (Xl k') Ba Ba h;obtain⟨g,i⟩:=uz a b f;exact⟨by rw[Bn d,g],i⟩}
theorem bK{n m:Dn}(h:Vp n=Vp m):n=m:=by
 unfold Vp at h;simp at h;obtain⟨p,h⟩:=h;obtain⟨f,_,g⟩:=Nq (Xl _) (Xl _) Ba Ba h;obtain⟨k,e⟩:=uz (by intro c d;simp at d;subst d;decide) (by intro c d;simp at d;subst d;decide) g;obtain⟨_,e⟩:=List.cons.inj e;obtain⟨o,_⟩:=uz (r:=[]) (r':=[]) Aa Aa (by simpa using e);have f:=Bn f;obtain⟨a,b,c,l⟩:=n;obtain⟨a',i,j,l'⟩:=m
 grind
theorem cK{n m:Dn}(h:fh n=fh m):n=m:=by
 grind [fh,bK]
mutual
def kg:Fo->List UInt8
 | .mk d b c n a=>itoa d++b.toList++44::itoa c++44::itoa n++40::je a++[41]
def je:List Fo->List UInt8
 | []=>[]
 | k::ks=>kg k++je ks
end
def Up(a:Na):Prop:=(∀c∈a.toList,c≠44)/\∀c∈a.toList.head?,Hr c=false
mutual
def Jt:Fo->Prop
 | .mk a c _ _ b=>(1<=a/\a<=7)/\Up c/\Kr b
def Kr:List Fo->Prop
 | []=>True
 | k::ks=>Jt k/\Kr ks
end
theorem nC:∀a,Kr a↔∀k∈a,Jt k
 | []=>by simp[Kr]
 | k::a=>by simp[Kr,nC a]
theorem Cn(h:1<=Z/\Z<=7):itoa Z=[UInt8.ofNat (48+Z.toNat)]:=by
 grind [itoa,An]
theorem QG{a:Na}(h:Up a)(r:List UInt8):∃c q,a.toList++44::r=c::q/\Hr c=false:=by
 cases e:a.toList with| nil=>exact⟨44,r,rfl,Ba⟩| cons c l=>exact⟨c,_,rfl,h.2 c (by rw[e];rfl)⟩
theorem cR{d b:Na}(h:Up d)(k:Up b){r g:List UInt8}(e:d.toList++44::r=b.toList++44::g):d=b/\r=g:=by
 obtain⟨i,_,j⟩:=Nq (p:=λc=>c !=44) (by rw[ee];intro c f;simpa using h.1 c f) (by rw[ee];intro c f;simpa using k.1 c f) Ba Ba e;refine⟨?_,j⟩;rw[Vd,Vd]at i;cases d with|mk a=>simp_all
theorem sE{a:Int}{c:UInt8}{r d:List UInt8}(b:Kz c=false)(h:itoa a++c::r=itoa Z++c::d):a=Z/\r=d:=by
 obtain⟨e,_,f⟩:=Nq (Xl a) (Xl Z) b b h;exact⟨Bn e,f⟩
theorem vz{f:Fo}(h:Jt f):∃c q,kg f=c::q/\Hr c=true:=by
 obtain⟨b,e,c,n,d⟩:=f;rw[Jt]at h;rw[kg,Cn h.1];have a:=PG b.toNat 0;unfold dg at a;rw[Nat.pow_zero,Nat.div_one,Nat.mod_eq_of_lt ja]at a
 simp_all
mutual
theorem GC:∀ {f b:Fo} {r r':List UInt8},Jt f->Jt b->kg f++r=kg b++r'->f=b/\r=r'
 | .mk q v c n t,.mk d p s u o,r,r',h,a,e=>by{rw[Jt]at h a;rw[kg,kg,Cn h.1,Cn a.1]at e;simp only[Ic,Cc,Tb,List.cons.injEq]at e;obtain⟨g,e⟩:=e;have g:=ofNat_inj ja ja g;obtain⟨i,e⟩:=cR h.2.1 a.2.1 e;obtain⟨j,e⟩:=sE Ba e;obtain⟨k,e⟩:=sE Ba e;obtain⟨l,m⟩:=xz h.2.2 a.2.2 e;(have:q=d:=ja);exact⟨by rw[this,i,j,k,l],m⟩}
theorem xz:∀ {d a:List Fo} {r i:List UInt8},Kr d->Kr a->je d++41::r=je a++41::i->d=a/\r=i
 | [],[],_,_,_,_,e=>by{rw[je]at e;simp at e;exact⟨rfl,e⟩}
 | [],k::d,_,_,_,b,e=>by{rw[Kr]at b;obtain⟨c,q,f,g⟩:=vz b.1;rw[je,je,f]at e;simp only[Tb,Cc,List.cons.injEq]at e;rw[<-e.1]at g;exact absurd g Ba}
 | k::d,[],_,_,h,_,e=>by{rw[Kr]at h;obtain⟨c,q,f,g⟩:=vz h.1;rw[je,je,f]at e;simp only[Tb,Cc,List.cons.injEq]at e;rw[e.1]at g;exact absurd g Ba}
 | k::d,k'::a,r,i,h,b,e=>by{rw[Kr]at h b;rw[je,je]at e;simp at e;obtain⟨f,j⟩:=GC h.1 b.1 e;obtain⟨l,m⟩:=xz h.2 b.2 j;exact⟨by rw[f,l],m⟩}
end
def mV(i:Nat)(f:Fo):List UInt8:=itoa i++kg f
def ik(i:Nat)(f:Fo):Na:=⟨(mV i f).toArray⟩
theorem dR{i:Nat}{f:Fo}(h:Jt f)(g:Jt F)(e:mV j f=mV i F):j=i/\f=F:=by
 have u:=e;obtain⟨E,J,c,n,B⟩:=f;obtain⟨m,D,t,C,l⟩:=F;have A:=h;have k:=g;rw[Jt]at h g;unfold mV at e;rw[kg,kg]at e;simp at e;obtain⟨a,q,w,y⟩:=QG h.2.1 (itoa c++44::(itoa n++40::(je B++[41])));obtain⟨b,p,x,z⟩:=QG g.2.1 (itoa t++44::(itoa C++40::(je l++[41])));rw[w,x, <-Ic, <-Ic]at e
 have hd:∀(d:Nat) (o:Int),1<=o/\o<=7->(itoa d++itoa o).all Hr=true:=by
  grind [itoa_nonneg,Gs,Cn]
 obtain⟨s,_,_⟩:=Nq (hd j E h.1) (hd i m g.1) y z e;rw[Cn h.1,Cn g.1]at s;have G:=(List.append_inj' s rfl).1;have v:j=i:=by grind [Bn]
 subst v;have H:=List.append_cancel_left u;obtain⟨I,_⟩:=GC (r:=[]) (r':=[]) A k (by grind)
 grind
theorem It{a:Nat}{f:Fo}(h:Jt f)(b:Jt F)(e:ik j f=ik a F):j=a/\f=F:=by
 grind [ik,dR]
open Go
theorem sA{b:Type _}(l:List b)(i:Nat)(a:b):l.toArray.setIfInBounds i a=(l.set i a).toArray:=List.setIfInBounds_toArray ..
theorem sB{b:Type _}(x:b)(l:List b)(a:b):(x::l).set 0 a=a::l:=List.set_cons_zero ..
theorem sC{b:Type _}(x:b)(l:List b)(n:Nat)(a:b):(x::l).set (n+1) a=x::l.set n a:=List.set_cons_succ ..
section
variable {P : Program} {ops : Array Oper} {Q : Exit -> Act -> Ca -> Prop} {md : Region.Mode} {S : Ca -> Prop} {o : Oper} {fuel : Nat} {l l' : Array Bool} {a a' : Act} {w : Ca}
theorem tk(i:Nat)(v:Ea)(m:∀w,S w->(execOp a.eval o).run P w=.ok (.value v) w)(h:wpAnyH P md ops Q S fuel l' a' w)
  (g:ops[i]? =some o:=by simp only[Hc,Dc,pc];rfl) (e:a.put o.dst v=a':=by(try simp only[Act.put,sA,sB,sC]);rfl) (j:l.setIfInBounds i true=l':=by(try simp only[sA,sB,sC]);rfl) (hs:Region.noSelect ops=true:=by kernel_rfl) (f:Region.free md ops l i=true:=by kernel_rfl) (k:(Region.ready md ops l).contains i=true:=by kernel_rfl)
  (b:∀c a w,Q (.panic c) (a.put o.dst v) w->Q (.panic c) a w:=by exact λ_ _ _ h=>h) (hw:Region.wanted o (yielded ops a.tmps)=true:=by rfl) (d:S w:=by assumption):wpAnyH P md ops Q S (fuel+1) l a w:=
 wpAnyH_take g hs f k b (Or.inl ⟨hw,m⟩) d (e▸j▸h)
theorem tp(i:Nat){v:Ea}(h:wpAnyH P md ops Q S fuel l' a' w)
  (g:ops[i]? =some o:=by simp only[Hc,Dc,pc];rfl) (m:∀w,S w->(execOp a.eval o).run P w=.ok (.value v) w:=by intro _ _;go_simp;try with_reducible rfl) (e:a.put o.dst v=a':=by(try simp only[Act.put,sA,sB,sC]);rfl) (j:l.setIfInBounds i true=l':=by(try simp only[sA,sB,sC]);rfl) (hs:Region.noSelect ops=true:=by kernel_rfl) (f:Region.free md ops l i=true:=by kernel_rfl) (k:(Region.ready md ops l).contains i=true:=by kernel_rfl)
  (b:∀c a w,Q (.panic c) (a.put o.dst v) w->Q (.panic c) a w:=by exact λ_ _ _ h=>h) (hw:Region.wanted o (yielded ops a.tmps)=true:=by rfl) (d:S w:=by assumption):wpAnyH P md ops Q S (fuel+1) l a w:=
 tk i v m h g e j hs f k b hw d
theorem tr(i:Nat)(h:∀b:Act->Ca->Prop,Shut (∀a w,S w->(S w->wpAnyH P md ops Q S fuel l' a w)->b a w)->if Region.wanted o (yielded ops a.tmps)=true then Oper.wp P o a w b Q else b (a.put o.dst undef) w)
  (c:ops[i]? =some o:=by simp only[Hc,Dc,pc];rfl) (d:l.setIfInBounds i true=l':=by(try simp only[sA,sB,sC]);rfl) (e:Region.ready md ops l=[i]:=by kernel_rfl):wpAnyH P md ops Q S (fuel+1) l a w:=
 wpAnyH_ready e Aa (AllReadyH.cons c (d▸h) AllReadyH.nil)
theorem tu(i:Nat)(h:wpAnyH P md ops Q S fuel l' a' w)
  (g:ops[i]? =some o:=by simp only[Hc,Dc,pc];rfl) (e:a.put o.dst undef=a':=by(try simp only[Act.put,sA,sB,sC]);rfl) (j:l.setIfInBounds i true=l':=by(try simp only[sA,sB,sC]);rfl) (hs:Region.noSelect ops=true:=by kernel_rfl) (f:Region.free md ops l i=true:=by kernel_rfl) (k:(Region.ready md ops l).contains i=true:=by kernel_rfl)
  (b:∀c a w,Q (.panic c) (a.put o.dst undef) w->Q (.panic c) a w:=by exact λ_ _ _ h=>h) (hw:Region.wanted o (yielded ops a.tmps)=false:=by rfl) (d:S w:=by assumption):wpAnyH P md ops Q S (fuel+1) l a w:=
 wpAnyH_take g hs f k b (Or.inr ⟨hw,rfl⟩) d (e▸j▸h)
theorem tt(i j:Nat){d:Array Bool}(h:∀b:Act->Ca->Prop,Shut (∀a w,S w->(S w->wpAnyH P md ops Q S fuel l' a w)->b a w)->if Region.wanted o (yielded ops a.tmps)=true then Oper.wp P o a w b Q else b (a.put o.dst undef) w)
  (e:∀b:Act->Ca->Prop,Shut (∀a w,S w->(S w->wpAnyH P md ops Q S fuel d a w)->b a w)->if Region.wanted M (yielded ops a.tmps)=true then Oper.wp P M a w b Q else b (a.put M.dst undef) w)
  (f:ops[i]? =some o:=by simp only[Hc,Dc,pc];rfl) (g:ops[j]? =some M:=by simp only[Hc,Dc,pc];rfl) (k:l.setIfInBounds i true=l':=by(try simp only[sA,sB,sC]);rfl) (c:l.setIfInBounds j true=d:=by(try simp only[sA,sB,sC]);rfl) (m:Region.ready md ops l=[i,j]:=by kernel_rfl):wpAnyH P md ops Q S (fuel+1) l a w:=
 wpAnyH_ready m Aa (AllReadyH.cons f (k▸h) (AllReadyH.cons g (c▸e) AllReadyH.nil))
end
section
open Go.RowKit
def fi:Obj->Bool
 | .cells _ t _=> !(t==104)&& !(t==114)
 | _=>false
structure re (H : Nat) (S : List Nat) (W W' : Ca) : Prop where
 os:W'.os=W.os
 tape:W'.tape=W.tape
 output:W'.output=W.output
 size:W.heap.size<=W'.heap.size
 keep:∀b o,W.heap[b]? =some o->(b<H\/(fi o=true/\b∉S))->W'.heap[b]? =some o
def ms(W:Ca)(H:Nat)(S:List Nat)(b:Nat):Prop:=b<W.heap.size/\b∉S/\(b<H\/∃o,W.heap[b]? =some o/\fi o=true)
variable {H : Nat} {S S' : List Nat} {W W' fU : Ca}
theorem IC{W:Ca}{b:Nat}(h:b<W.heap.size):∃o,W.heap[b]? =some o:=⟨_,fg h⟩
theorem zf{W:Ca}{o:Obj}(h:W.heap[j]? =some o):j<W.heap.size:=(Array.getElem?_eq_some_iff.1 h).1
theorem re.refl(H:Nat)(S:List Nat)(W:Ca):re H S W W:=⟨rfl,rfl,rfl,ja,λ_ _ h _=>h⟩
theorem re.trans(h:re H S W W')(k:re H S W' fU):re H S W fU:=
 ⟨k.os.trans h.os,k.tape.trans h.tape,k.output.trans h.output,ub h.size k.size,λb o c a=>k.keep b o (h.keep b o c a) a⟩
theorem re.more(h:re H S W W')(hs:∀b∈S,b∈S'):re H S' W W':=
 ⟨h.os,h.tape,h.output,h.size,λb o c a=>h.keep b o c (a.imp id λa=>⟨a.1,λe=>a.2 (hs b e)⟩)⟩
theorem re.less(h:re H S' W W')(hs:∀b∈S',b<W.heap.size->b∈S):re H S W W':=
 ⟨h.os,h.tape,h.output,h.size,λb o c a=>h.keep b o c (a.imp id λa=>⟨a.1,λe=>a.2 (hs b e (zf c))⟩)⟩
theorem re.jc(h:Da j W W')(c:W.heap.size<=j):re H S W W':=
 ⟨h.os,h.tape,h.output,h.size,λb _ a _=>(h.block b (Zb (zf a) c)).trans a⟩
theorem re.below(h:re H S W W')(c:H<=W.heap.size):Da H W W':=
 ⟨h.os,h.tape,h.output,h.size,λb d=>by
  obtain⟨o,a⟩:=IC (W:=W) (b:=b) ja
  rw[h.keep b o a ja,a]⟩
theorem re.bn{row:Option Nat}(h:W.grownBy W' row)(f:∀b,row=some b->H<=b/\(b∈S\/∀o,W.heap[b]? =some o->fi o=false)):re H S W W':=
 ⟨h.os,h.tape,h.output,h.size,λb o d a=>by
  refine(h.block b (zf d) λe=>?_).trans d
  obtain⟨g,c⟩:=f b e.symm
  rcases a with a|a
  {omega}
  ·rcases c with c|c
   {exact a.2 c}
   ·rw[c o d]at a;exact absurd a.1 Ba⟩
theorem re.wo(h:Bq j W W')(a:H<=j/\(j∈S\/∀o,W.heap[j]? =some o->fi o=false)):re H S W W':=
 re.bn ⟨h.os,h.tape,h.output,De h.size.symm,λk _ hne=>h.block k (λe=>hne (by rw[e]))⟩ (λb e=>by cases e;exact a)
theorem re.alloc(h:re H S W W')(o:Obj):re H S W (W'.alloc o):=h.trans (re.jc ((za _ W').alloc ja o) (wa _))
theorem re.drewN(h:re H S W W')(n:Nat):re H S W (W'.drewN n):=h.trans (re.jc (World.Md _ W' n) (wa _))
theorem ms.heap{b:Nat}(h:ms W H S b)(hs:re H S W W'):W'.heap[b]? =W.heap[b]? :=by
 obtain⟨o,a⟩:=IC h.1;rw[a];refine hs.keep b o a (h.2.2.imp id λe=>⟨?_,h.2.1⟩);obtain⟨f,c,d⟩:=e;rw[a]at c;cases c;exact d
theorem ms.step(h:ms W H S j)(hs:re H S W W'):ms W' H S j:=by
 refine⟨Zb h.1 hs.size,h.2.1,h.2.2.imp id λa=>?_⟩;rw[h.heap hs];exact a
theorem ms.cell{b i:Nat}(h:ms W H S b)(hs:re H S W W'):W'.cell? (Ja b i)=W.cell? (Ja b i):=World.cell?_of_block (h.heap hs)
theorem ms.open_(h:ms W H S j){k:Nat}(_hk:H<=k)(hne:j≠k):ms W H (k::S) j:=
 ⟨h.1,λe=>(List.mem_cons.1 e).elim hne h.2.1,h.2.2⟩
theorem ms.less(h:ms W H S j)(hs:∀k∈S',k∈S):ms W H S' j:=⟨h.1,λe=>h.2.1 (hs _ e),h.2.2⟩
def Wf(W:Ca)(H:Nat)(S:List Nat)(l:List Int)(v:Ea):Prop:=IntsIn W W.heap.size l v/\(l≠[]->∀a n c,v=.slice (some a) n c->ms W H S a.block)
theorem Wf.step{l:List Int}{v:Ea}(h:Wf W H S l v)(hs:re H S W W'):Wf W' H S l v:=by
 obtain⟨⟨f,cap,rfl,g,j,k⟩,d⟩:=h;refine⟨⟨f,cap,rfl,g,j,λhne=>?_⟩,λhne a n c e=>(d hne a n c e).step hs⟩;obtain⟨b,off,rfl,m,o⟩:=k hne;have p:=d hne _ _ _ rfl;refine⟨b,off,rfl,Zb m hs.size,λi q=>?_⟩
 show W'.cell? _=_
 rw[ms.cell (b:=b) p hs];exact o i q
theorem Wf.open_{l:List Int}{v:Ea}(h:Wf W H S l v){k:Nat}(d:H<=k)(hne:l≠[]->∀a n c,v=.slice (some a) n c->a.block≠k):Wf W H (k::S) l v:=
 ⟨h.1,λb a n c e=>(h.2 b a n c e).open_ d (hne b a n c e)⟩
theorem Wf.less{l:List Int}{v:Ea}(h:Wf W H S l v)(hs:∀k∈S',k∈S):Wf W H S' l v:=⟨h.1,λb a n c e=>(h.2 b a n c e).less hs⟩
theorem Wf.nil(W:Ca)(H:Nat)(S:List Nat):Wf W H S [] Ua:=⟨⟨none,0,rfl,wa _,ja,λh=>absurd rfl h⟩,λh=>absurd rfl h⟩
theorem Wf.ul{w:Ca}{l:List Int}{v:Ea}(h:IntsIn w j l v)(s:j<=H)(hw:H<=w.heap.size)(hs:re H S w W)(o:∀b∈S,H<=b):Wf W H S l v:=by
 obtain⟨g,cap,rfl,k,m,f⟩:=h;have d:=hs.below hw;refine⟨⟨g,cap,rfl,k,m,λhne=>?_⟩,λhne a n c e=>?_⟩
 {obtain⟨b,off,rfl,p,q⟩:=f hne;refine⟨b,off,rfl,by have:=hs.size;omega,λi r=>?_⟩;show W.cell? _=_;rw[d.cell (by show b<H;omega)];exact q i r}
 {obtain⟨b,off,rfl,p,_⟩:=f hne;(cases e);exact⟨by show b<_;have:=hs.size;omega,λe=>by have:=o b e;omega,.inl (by show b<H;omega)⟩}
structure Ph where
 n:Dn
 vc:Ea
 vk:Ea
def Ph.cells(x:Ph):List Ea:=[pa x.n.fact,x.vc,x.vk,.bool x.n.leaf]
structure Ph.Ok (W : Ca) (H : Nat) (S : List Nat) (x : Ph) : Prop where
 Sb:Wf W H S x.n.Sb x.vc
 kids:Wf W H S x.n.kids x.vk
theorem Ph.Ok.step{x:Ph}(h:x.Ok W H S)(hs:re H S W W'):x.Ok W' H S:=⟨h.Sb.step hs,h.kids.step hs⟩
def Ir(t:List Dn):List (Na×Int):=t.zipIdx.map λp=>(fh p.1,(p.2:Int))
theorem EJ(t:List Dn)(n:Dn):Ir (t++[n])=Ir t++[(fh n,(t.length:Int))]:=by
 grind [Ir]
theorem Qt(n:Dn):∀(t:List Dn) (k:Nat),((t.zipIdx k).map λp=>(fh p.1,(p.2:Int))).lookup (fh n)=if n∈t then some ((k+t.idxOf n:Nat):Int)else none
 | [],_=>by simp
 | m::t,k=>by
  rw[List.zipIdx_cons,Eb,Ab];by_cases h:n=m
  {subst h;simp}
  ·have b:(fh n==fh m)=false:=by
    rw[beq_eq_false_iff_ne];exact λe=>h (cK e)
   have c:(m==n)=false:=by rw[beq_eq_false_iff_ne];exact λe=>h e.symm
   dsimp only
   rw[b]
   dsimp only
   rw[Qt];by_cases a:n∈t
   {rw[Ga a,Ga (Pa _ a),zh,c];simp only[cond_false];congr 2;omega}
   {rw[if_neg a,if_neg (by simp[h,a])]}
theorem qC(t:List Dn)(n:Dn):(Ir t).lookup (fh n)=if n∈t then some ((t.idxOf n:Nat):Int)else none:=by
 have:=Qt n t 0;rw[Vb]at this;exact this
structure Zh (W : Ca) (H mb : Nat) (S : List Nat) (t : List Dn) : Prop where
 ge:H<=mb
 mem:∃(v:Ea) (mo:Option Nat) (xs:List Ph),qb W mb 114 #[v,.map mo]/\W.ownsRow H 104 4 v xs.length (xs.flatMap Ph.cells)/\xs.map (·.n)=t/\(∀x∈xs,x.Ok W H S)/\
  ((mo=none/\t=[])\/∃ab,mo=some ab/\H<=ab/\Wb Value.string (Value.int .i64) W ab (Ir t))
 small:t.length<=1000000
theorem Zh.keep(h:Zh W H j S T)(hs:re H S W W')(l:∀b o,W.heap[b]? =some o->fi o=false->b<W.heap.size->W'.heap[b]? =some o):Zh W' H j S T:=by
 obtain⟨d,⟨v,z,A,i,k,r,s,t⟩,u⟩:=h;refine⟨d,⟨v,z,A,l _ _ i (by simp[fi]) i.lt,lh k λg C=>?_,r,λx y=>(s x y).step hs,t.imp id ?_⟩,u⟩
 {(rcases k.2 with⟨rfl,_⟩|⟨B,cap,p,rfl,_,w,_⟩);all_goals grind [Value.ownBlock,fi]}
 {rintro⟨n,e,a,q,c,m,f⟩;exact⟨n,e,a,q,c,l _ _ m rfl (zf m),f⟩}
theorem Zh.below(h:Zh W H j S T){n:Nat}(a:Da n W W')(c:W.heap.size<=n):Zh W' H j S T:=
 h.keep (re.jc a c) λb o d _ hlt=>(a.block b ja).trans d
theorem Zh.fresh(h:Zh W H j S T){k:Nat}(Q:W.heap.size<=k)(hs:re H S W W')(f:∀b o,W.heap[b]? =some o->fi o=false->b<W.heap.size->W'.heap[b]? =some o):Zh W' H j (k::S) T:=by
 obtain⟨q,⟨v,J,R,t,M,N,O,C⟩,D⟩:=h.keep hs f;obtain⟨_,⟨y,m,r,p,s,A,B,L⟩,_⟩:=h
 have e:v=y/\J=m:=by{have:=f _ _ p (by simp[fi]) p.lt;have d:W'.heap[j]? =_:=t;rw[this]at d;injection d with d;injection d with d _ _;simp at d;exact⟨d.1.symm,d.2.symm⟩}
 have E:H<=W.heap.size:=by have:=p.lt;omega
 refine⟨q,⟨y,m,r,by rw[<-e.1, <-e.2];exact t,lh s λg P=>?_,A,λx I=>?_,?_⟩,D⟩
 {(rcases s.2 with⟨rfl,_⟩|⟨K,cap,z,rfl,_,F,_⟩);all_goals grind [Value.ownBlock,fi]}
 {have i:=B x I;(have w:∀ {l:List Int} {v:Ea},Wf W H S l v->Wf W' H (k::S) l v:=λu=>(u.step hs).open_ ja λG a n c e=>by{have:=(u.2 G a n c e).1;omega});exact⟨w i.Sb,w i.kids⟩}
 {rw[<-e.2];exact C}
theorem Zh.less{d:Nat}{t:List Dn}(h:Zh W H d S t)(hs:∀k∈S',k∈S):Zh W H d S' t:=by
 obtain⟨a,⟨v,l,m,e,f,g,b,i⟩,j⟩:=h;exact⟨a,⟨v,l,m,e,f,g,λx c=>⟨(b x c).Sb.less hs,(b x c).kids.less hs⟩,i⟩,j⟩
end
end Go.Proofs.YtdipkbobalnilaaGreatDoor
