/- The walks of pandectref16.Same and SameRegions. A bound on the number of regions. -/
import Derived.Test.YtdipkbobalnilaaGreatDoorAl
import Derived.Test.YtdipkbobalnilaaGreatDoorJdXA
set_option maxRecDepth 100000
set_option maxHeartbeats 4000000
namespace Go.Proofs.YtdipkbobalnilaaGreatDoor
open Tryz
open Go.RowKit
variable{D:List Fa}
theorem OL(l:List Na)(s:Na)(v:Ea)(w:Ca)(B:Nat)(h:Sc w B l v):
  Db 12 #[v,.string s] w λe y=>e=.returned (.bool (xi l s))/\w=y:=by
 obtain⟨q,cap,rfl,f,r,t⟩:=Sa.shape h;unfold maxLen at r;clear t;have p:=la h;clear h;go_enter func12,ntmps12;go_wp2
 go_loop [5] (λi=>∃k:Nat,k<=l.length/\i=pa k/\Hid (xi (l.take k) s=false)) (λi=>l.length-(intOf i).toNat)
 case atStart=>exact⟨0,ja,rfl,rfl⟩
 case round=>
  obtain⟨k,A,rfl,c⟩:=hrel;by_cases hlt:k<l.length
  ·obtain⟨b,off,rfl,z,j⟩:∃b off,q=some ⟨b,off,none⟩/\b<B/\w.cell? (Ja b (off+k))=some (.string l[k]):=by
    obtain⟨_,_,f,_,_,u⟩:=p.o;obtain⟨b,off,x,d,j⟩:=u (by intro e;simp[e]at hlt);simp only[Value.slice.injEq]at f;exact⟨b,off,by rw[f.1,x],d,by simpa[Ad]using j k hlt⟩
   have n:=YS l s k hlt;rw[c.o,Bool.false_or]at n;by_cases m:(l[k].toList==s.toList)=true
   ·have a:Hid (xi l s=true):=by
     show List.any _ _=true
     rw[Ye];exact⟨_,Oa _,m⟩
    go_wp2;go_ret;exact⟨Cb a.o.symm,rfl⟩
   {(have g:(l[k].toList==s.toList)=false:=by simpa using m);(have a:Hid (xi (l.take (k+1)) s=false):=by rw[n];exact g);go_wp2;go_round;(case rel=>exact⟨_,ja,by go_num,a⟩);case measure=>simp[intOf];omega}
  {(have a:Hid (xi l s=false):=by have:=c.o;rwa[Kc ja]at this);go_wp2;go_ret;exact⟨Cb a.o.symm,rfl⟩}
theorem Js(l m:List Na)(v u:Ea)(w:Ca)(B:Nat)(p:Sc w B l v)(q:Sc w B m u):
  Db 17 #[v,u] w λe E=>e=.returned (.bool (gi l m))/\∃n,E=w.drewN n:=by
 obtain⟨F,cap,rfl,I,A,_⟩:=Sa.shape p;obtain⟨H,cap',rfl,z,h,_⟩:=Sa.shape q;unfold maxLen at A h;have x:=la p;have y:=la q;clear p q;by_cases hlen:l.length=m.length
 ·have hd:((l.length:Int) !=m.length)=false:=by simp[hlen]
  have r:=la hlen;clear hlen;go_enter func17,ntmps17;go_wp2
  go_loopw [5] (λi wr=>∃k n:Nat,k<=l.length/\i=pa k/\Hid (gi (l.drop k) (m.drop k)=gi l m)/\wr=w.drewN n) (λi _=>l.length-(intOf i).toNat)
  case atStart=>exact⟨0,0,ja,rfl,rfl,rfl⟩
  case round=>
   obtain⟨k,n,L,rfl,a,rfl⟩:=hrel;by_cases hlt:k<l.length
   {(have c:k<m.length:=by have:=r.o;omega);obtain⟨b,off,rfl,J,K⟩:=Sa.one x.o k hlt;obtain⟨G,t,rfl,C,hc'⟩:=Sa.one y.o k c;have g:=EK l m k hlt c;rw[a.o]at g;by_cases f:(l[k].toList==m[k].toList)=true;{(have d:Hid (gi (l.drop (k+1)) (m.drop (k+1))=gi l m):=by rw[g];unfold Lh;rw[f,tf];rfl);(have j:(l[k].toList !=m[k].toList)=false:=by simpa using f);clear g a;go_wp2;go_quiet(fail);go_wp2;go_roundw;(case rel=>exact⟨_,_,ja,by go_num,d,rfl⟩);case measure=>simp[intOf];omega};{(have d:Hid (gi l m=false):=by rw[g];unfold Lh;rw[Bool.eq_false_iff.2 f,Bool.false_and];rfl);(have j:(l[k].toList !=m[k].toList)=true:=by simpa using f);(have D:(l[k].toList==m[k].toList)=false:=by simpa using f);clear g a f;go_wp2;go_quiet(fail);go_wp2;go_ret;exact⟨Cb d.o.symm,n+nq,Aa⟩}}
   ·have d:Hid (gi l m=true):=by
     have s:=a.o;rw[Bb ja,Bb (by have:=r.o;omega)]at s;exact s.symm
    go_wp2;go_ret;exact⟨Cb d.o.symm,_,rfl⟩
 {have d:=la (dA l m hlen);(have hd:((l.length:Int) !=m.length)=true:=by rw[bne_iff_ne];omega);go_enter func17,ntmps17;go_wp2;go_ret;exact⟨Cb d.o.symm,0,rfl⟩}
def Gx(a b:Jo):Bool:=a.state==b.state&& (a.value==b.value&& (gi a.by_ b.by_&& gi a.over b.over))
theorem Uv:∀a b:List Na,gi a b=true↔a=b
 | [],[]=>by simp[gi]
 | [],_::_=>by simp[gi]
 | _::_,[]=>by simp[gi]
 | x::a,y::b=>by rw[gi,Ib,Uv,ml,List.cons.injEq]
theorem Lz(a b:Jo):Gx a b=true↔a=b:=by
 unfold Gx;rw[Ib,Ib,Ib,Uv,Uv,Pc,Pc];obtain⟨s,v,p,o⟩:=a;obtain⟨e,f,d,c⟩:=b
 simp
theorem MC(a b:Jo)(V X:Ea)(w:Ca)(ha:Qh w w.heap.size a V)(hb:Qh w w.heap.size b X):
  Db 10 #[V,X] w λe D=>e=.returned (.bool (Gx a b))/\Da w.heap.size w D:=by
 obtain⟨v1,v2,rfl,L,M⟩:=ha;obtain⟨v3,v4,rfl,N,O⟩:=hb;unfold Gx;obtain⟨c,l,S,R⟩:=a;obtain⟨i,k,U,T⟩:=b
 dsimp only at*
 have J:∀W,Da _ w W->Calls _ 17 _ W λe D=>e=.returned _/\Hid (Da W.heap.size W D):=λW h=>(Js _ _ _ _ W _ (L.below h) (N.below h)).mono λ_ _ ⟨q,n,r⟩=>⟨q,r▸World.Md _ _ _⟩
 have K:∀W,Da _ w W->Calls _ 17 _ W λe D=>e=.returned _/\Hid (Da W.heap.size W D):=λW h=>(Js _ _ _ _ W _ (M.below h) (O.below h)).mono λ_ _ ⟨q,n,r⟩=>⟨q,r▸World.Md _ _ _⟩
 obtain⟨s,A,rfl,_⟩:=Sa.shape L;obtain⟨x,C,rfl,_⟩:=Sa.shape M;obtain⟨t,f,rfl,_⟩:=Sa.shape N;obtain⟨y,g,rfl,_⟩:=Sa.shape O;clear L M N O;generalize gi S U=Q at*
 generalize gi R T=s4 at*
 generalize S.length=an at*
 generalize U.length=v at*
 generalize R.length=z at*
 generalize T.length=u at*
 have J:=la J;have K:=la K;have p:Da _ w ((w.alloc (.cells #[pa c,pa l,.slice s an A,.slice x z C] 42)).alloc (.cells #[pa i,pa k,.slice t v f,.slice y u g] 42)):=((za _ _).alloc (wa _) _).alloc Aa _;have E:qb ((w.alloc _).alloc (.cells #[pa i,pa k,.slice t v f,.slice y u g] 42)) _ 42 _:=(qb.new w 42 #[pa c,pa l,.slice s an A,.slice x z C]).alloc _
 have F:qb ((w.alloc (.cells #[pa c,pa l,.slice s an A,.slice x z C] 42)).alloc (.cells #[pa i,pa k,.slice t v f,.slice y u g] 42)) (w.heap.size+1) 42 #[pa i,pa k,.slice t v f,.slice y u g]:=by{have q:=qb.new (w.alloc (.cells #[pa c,pa l,.slice s an A,.slice x z C] 42)) 42 #[pa i,pa k,.slice t v f,.slice y u g];simpa only[Ia]using q}
 obtain⟨W,P⟩:∃W,((w.alloc (.cells #[pa c,pa l,.slice s an A,.slice x z C] 42)).alloc (.cells #[pa i,pa k,.slice t v f,.slice y u g] 42))=W:=⟨_,rfl⟩;rw[P]at p E F;have HW:=la P;have j:=la p;have H:=la E;have I:=la F;obtain⟨⟨Y,x1,x2,x3⟩, -, -, -, -⟩:=E.four;obtain⟨⟨Z,y1,y2,y3⟩, -, -, -, -⟩:=F.four;clear P p E F
 have cs:((c==i)=false)\/((c==i)=true/\(l==k)=false)\/((c==i)=true/\(l==k)=true/\Q=false)\/((c==i)=true/\(l==k)=true/\Q=true):=by{cases c==i<;>cases l==k<;>cases Q<;>simp}
 rcases cs with m|⟨m,B⟩|⟨m,B,rfl⟩|⟨m,B,rfl⟩
 all_goals
  go_enter func10,ntmps10;go_upto_region 1 with(fail);rw[HW.o]
  go_wp2_with (first
   | (go_at_call_of 17 s;refine(J.o W j.o).mono ?_;rintro e w5 ⟨rfl,d⟩;clear Y x1 x2 x3 Z y1 y2 y3;obtain⟨⟨Y,x1,x2,x3⟩, -, -, -, -⟩:=(H.o.below d.o).four;obtain⟨⟨Z,y1,y2,y3⟩, -, -, -, -⟩:=(I.o.below d.o).four)
   | (go_at_call_of 17 x;refine(K.o _ (j.o.trans (d.o.mono j.o.size))).mono ?_;rintro e w6 ⟨rfl,G⟩))
  go_ret
  first
   | exact⟨by rw[m];rfl,j.o⟩
   | exact⟨by rw[m,B];rfl,j.o⟩
   | exact⟨by rw[m,B];rfl,j.o.trans (d.o.mono j.o.size)⟩
   | exact⟨by rw[m,B];rfl,(j.o.trans (d.o.mono j.o.size)).trans (G.o.mono (ub j.o.size d.o.size))⟩
theorem Uj.Ok.xE{W:Ca}{g:Option Nat}{x:Uj}(h:x.Ok W g D):Qh W W.heap.size x.r.2 (.agg #[pa x.r.2.state,pa x.r.2.value,.slice x.ba x.r.2.by_.length x.bc,.slice x.oa x.r.2.over.length x.oc]):=⟨_,_,rfl,h.by_,h.over⟩
end Go.Proofs.YtdipkbobalnilaaGreatDoor
