/- The walk of pandectref16.Few: what it says of the sizes of a law. A bound on n. -/
import Derived.Test.YtdipkbobalnilaaGreatDoorAl
import Derived.Test.YtdipkbobalnilaaGreatDoorRkPA
set_option maxRecDepth 100000
set_option maxHeartbeats 4000000
namespace Go.Proofs.YtdipkbobalnilaaGreatDoor
open Tryz
open Go.RowKit
variable{j:Nat}{Z:Int}{D:List Fa}{E:TypeId}{P:List Pv}
def qm(c:Na)(b a:Int):List Int->List (Na×Int×Int)->List Int
 | l,[]=>l
 | l,t::ts=>qm c b a (if Lh t.1 c then Zj (Zj l t.2.2 b a) (wrap64 (t.2.2+1)) b a else l) ts
theorem eu(e:Na)(d c:Int):∀(a b:List (Na×Int×Int)) (l:List Int),qm e d c l (a++b)=qm e d c (qm e d c l a) b
 | [],_,_=>rfl
 | t::a,b,l=>by rw[Cc,qm,qm,eu]
theorem iu(d:Na)(c b:Int):∀(a:List (Na×Int×Int)) (l:List Int),(qm d c b l a).length<=l.length+2*a.length/\l.length<=(qm d c b l a).length
 | [],l=>by simp[qm]
 | t::a,l=>by{rw[qm];have e:=iu d c b a (if Lh t.1 d then Zj (Zj l t.2.2 c b) (wrap64 (t.2.2+1)) c b else l);have f:=pt l t.2.2 c b;have g:=pt (Zj l t.2.2 c b) (wrap64 (t.2.2+1)) c b;simp;(split at e);{rw[Ga La];omega};{rw[if_neg La];omega}}
theorem sq(c:List Fo)(k:Nat)(h:k<c.length):Dd (c.take (k+1))=Dd (c.take k)++Ud c[k]:=by
 have Zx:∀(a b:List Fo),Dd (a++b)=Dd a++Dd b:=by{intro a;induction a with| nil=>intro b;rfl| cons x a d=>grind [Dd]}
 grind [List.take_succ_eq_append_getElem,Dd]
theorem Lo:∀a:List Fo,(Dd a).length<=Fo.Cd a
 | []=>Lb _
 | k::a=>by{rw[Dd,Qa,Fo.Cd];have:=Iv _ k (wa _);have:=Lo a;omega}
abbrev TsW(base B:Nat)(d:Na)(b a:Int)(f:Fo):Prop:=
 ∀(v c:Ea) (l:List Int) (w:Ca),B<=w.heap.size->f.In w B v->js base w l c->l≠[]->l.length+2*f.size<=900000->
  Db 95 #[v,.string d,pa b,pa a,c] w λe g=>∃u,e=.returned u/\js base g (qm d b a l (Ud f)) u/\Da w.heap.size w g
theorem EV(base B:Nat)(g:Na)(f d:Int)(y c n:Int)(s:Na)(a:List Fo)(IH:∀k∈a,TsW base B g f d k):TsW base B g f d (.mk y s c n a):=by
 intro v lv l w hB hf hl hne hlen;obtain⟨ao,cap,rfl,O,h2,h3,h4,h5,h6,h7⟩:=hf;unfold maxLen at h6;have Y:Da _ w (w.alloc (.cells #[pa y,.string s,pa c,pa n,.slice ao a.length cap] 32)):=(za _ _).alloc (wa _) _;have K0:=qb.new w 32 #[pa y,.string s,pa c,pa n,.slice ao a.length cap];have hsz:=Fo.size_pos (.mk y s c n a);have hsL:Fo.Cd a+1<=(Fo.mk y s c n a).size:=by rw[Fo.size];omega
 have vp:=la Y;have Bt:=la K0;have H7:=la h7;have CI:=la IH;have x0:=K0.cell 0;have x1:=K0.cell 1;have x3:=K0.cell 3;have x4:=K0.cell 4;have dU:js base _ l lv:=⟨ub hl.ge Y.size,(hl.ints.below Y).mono (Ad.mono _) Aa,hl.sol.below Y⟩;have t:((w.alloc (.cells #[pa y,.string s,pa c,pa n,.slice ao a.length cap] 32))).heap.size=w.heap.size+1:=by simp
 obtain⟨a0,c0,BR,_⟩:=Sa.shape hl.ints
 have PR:Hid (∀(l:List Int) (v:Ea) (x:Int) (E:Ca),l≠[]->l.length<=1000000->js base E l v->Db 131 #[v,pa x,pa f,pa d] E λe w''=>∃(C:Option Addr) (D:Nat),e=.returned (.slice C (Zj l x f d).length D)/\Hid (js base w'' (Zj l x f d) (.slice C (Zj l x f d).length D))/\Hid (Da E.heap.size E w'')):=λl v x E q1 q2 q3=>by{refine(MP base l x f d v E q1 q3 q2).mono ?_;rintro e w'' ⟨u,rfl,r1,r2⟩;obtain⟨C,D,rfl,_⟩:=Sa.shape r1.ints;exact⟨C,D,rfl,r1,r2⟩}
 have i:Hid (qm g f d l (Ud (.mk y s c n a))=qm g f d (if y=3/\Lh s g=true then Zj (Zj l n f d) (wrap64 (n+1)) f d else l) (Dd a)):=by{show _=_;rw[Ud,eu];congr 1;by_cases h3:y=3;{rw[Ga h3,qm,qm];by_cases he:Lh s g=true;{rw[Ga he,Ga ⟨h3,he⟩]};{rw[if_neg he,if_neg (λh=>he h.2)]}};{rw[if_neg h3,qm,if_neg (λh=>h3 h.1)]}}
 obtain⟨R,hR⟩:∃R,qm g f d l (Ud (.mk y s c n a))=R:=⟨_,rfl⟩;rw[hR]at i⊢;have aiB:=List.length_pos_iff.2 hne;have YX:=la dU;subst BR;have L8:=la hne;clear hl dU Y K0 h7 IH hR O h2 h3 h4 hne
 have QR:((y==3)=true/\(s.toList==g.toList)=true)\/((y==3)=true/\(s.toList==g.toList)=false)\/(y==3)=false:=by{cases y==3<;>cases s.toList==g.toList<;>simp}
 rcases QR with⟨e1,e2⟩|⟨e1,e2⟩|e1
 {(have HS:Hid (R=qm g f d (Zj (Zj l n f d) (wrap64 (n+1)) f d) (Dd a)):=by show _=_;rw[i.o,Ga ⟨by simpa using e1,e2⟩]);have M8:=pt l n f d;have N8:=pt (Zj l n f d) (wrap64 (n+1)) f d;(have oQ:Zj l n f d≠[]:=λe=>by{have h:=M8.2;rw[e]at h;have h:l.length<=0:=h;omega});(have SR:Zj (Zj l n f d) (wrap64 (n+1)) f d≠[]:=λe=>by{have h:=N8.2;rw[e]at h;have h:(Zj l n f d).length<=0:=h;omega});clear i;go_enter func95,ntmps95;go_upto_region 3 with(go_at_call 131;refine(PR.o l _ _ _ L8.o ja YX.o).mono ?_;rintro e w3 ⟨C,D,rfl,HI3,Jq⟩;have x32:=(Bt.o.below Jq.o).cell 3);clear x0 x1 x3;go_upto_region 4 with(go_at_call 131;refine(PR.o _ _ _ _ oQ ja HI3.o).mono ?_;rintro e w4 ⟨z,A,rfl,F,Lk⟩);have eQ:=Jq.o.size;rw[t]at eQ;have K:Hid (Da (w.heap.size+1) _ w4):=(Jq.o.mono ja).trans (Lk.o.mono ja);have G:Hid ((Zj (Zj l n f d) (wrap64 (n+1)) f d).length+2*Fo.Cd a<=900000/\Zj _ _ f d≠[]):=⟨ja,SR⟩;clear M8 N8 oQ SR x32 HI3 x4 Jq Lk eQ w3;generalize Zj _ _ f d=L at*;(rename Ca=>w2);have H:Hid (L=qm g f d L (Dd (a.take 0))):=rfl;go_wp2;go_loopw [4,11] (λlv iv wr=>∃(j:Nat) (T:List Int) (C:Option Addr) (D:Nat),j<=a.length/\iv=pa j/\lv=.slice C T.length D/\Hid (T=qm g f d L (Dd (a.take j)))/\Hid (js base wr T (.slice C T.length D))/\Hid (Da (w.heap.size+1) (w.alloc (.cells #[pa y,.string s,pa c,pa n,.slice ao a.length cap] 32)) wr)) (λ_ iv _=>a.length-(intOf iv).toNat);(case atStart=>exact⟨0,L,_,_,ja,rfl,rfl,H,F,K⟩);case round=>(obtain⟨j,T,C,D,hj,rfl,rfl,M,X,N⟩:=hrel;clear H F;have mF:=N.o.size;rw[t]at mF;have J:=vp.o.trans (N.o.mono ja);have c4:=(Bt.o.below (by rw[t];exact N.o)).cell 4;by_cases hlt:j<a.length;{obtain⟨b,off,rfl,Z,hL⟩:=H7.o (by intro h;simp[h]at hlt);obtain⟨ka,kc,g0,g1,g2,g3,g4,gk⟩:=Fo.Vk.get a off j hlt (Fo.Vk.below (J.mono hB) Z a off hL);have r:=iu g f d (Dd (a.take j)) L;rw[<-M.o]at r;have nH:=Lo (a.take j);have RF:=Fo.Al a j hlt;have hst:=Fo.Bl a (j+1);(have m:qm g f d T (Ud a[j])=qm g f d L (Dd (a.take (j+1))):=by rw[sq,eu, <-M.o]);(have p:T≠[]:=λe=>by{have O:=r.2;rw[e]at O;have O:(L).length<=0:=O;exact G.o.2 (List.length_eq_zero_iff.1 ja)});have W:=CI.o _ (Oa _) _ _ T wr ja gk X.o p (by have:=G.o.1;omega);rw[m]at W;have HC:Hid (Db 95 #[.agg #[pa a[j].op,.string a[j].name,pa a[j].cmp,pa a[j].n,.slice ka a[j].kids.length kc],.string g,pa f,pa d,.slice C T.length D] wr λe E=>∃(z:Option Addr) (A:Nat),e=.returned (.slice z (qm g f d L (Dd (a.take (j+1)))).length A)/\Hid (js base E (qm g f d L (Dd (a.take (j+1)))) (.slice z (qm g f d L (Dd (a.take (j+1)))).length A))/\Hid (Da wr.heap.size wr E)):=by{refine W.mono ?_;rintro e E ⟨u,rfl,r1,r2⟩;obtain⟨z,A,rfl,_⟩:=Sa.shape r1.ints;exact⟨z,A,rfl,r1,r2⟩};obtain⟨V,q⟩:∃V,qm g f d L (Dd (a.take (j+1)))=V:=⟨_,rfl⟩;rw[q]at HC;have S:Hid _:=q.symm;clear r nH RF hst m p W hL gk X M q;generalize a[j]=kk at*;go_wp2_with (go_at_call 95;refine HC.o.mono ?_;rintro e w5 ⟨z,A,rfl,Q,P⟩);go_roundw;(case rel=>exact⟨_,V,z,A,ja,by go_num,rfl,S,Q,N.o.trans (P.o.mono ja)⟩);case measure=>simp[intOf];omega};{(have QD:j=a.length:=ja);have I:=M.o;rw[QD,Ub, <-HS.o]at I;have U:=la I;go_wp2;go_ret;exact⟨_,rfl,by rw[<-U.o];exact X.o,J⟩})}
 {(have HS:Hid (R=qm g f d l (Dd a)):=by show _=_;rw[i.o,if_neg (λh=>by have:=h.2;unfold Lh at this;rw[e2]at this;cases this)]);have K:Hid (Da (w.heap.size+1) _ (w.alloc (.cells #[pa y,.string s,pa c,pa n,.slice ao a.length cap] 32))):=za _ _;have G:Hid (l.length+2*Fo.Cd a<=900000/\l≠[]):=⟨ja,L8.o⟩;have F:=YX;clear i;go_enter func95,ntmps95;go_upto_region 4 with(fail);(have Qu:w.heap.size+1<=((w.alloc (.cells #[pa y,.string s,pa c,pa n,.slice ao a.length cap] 32))).heap.size:=by first|(rw[t];exact wa _)|(have:=K.o.size;rw[t]at this;exact this));have H:Hid (l=qm g f d l (Dd (a.take 0))):=rfl;go_wp2;go_loopw [4,11] (λlv iv wr=>∃(j:Nat) (T:List Int) (C:Option Addr) (D:Nat),j<=a.length/\iv=pa j/\lv=.slice C T.length D/\Hid (T=qm g f d l (Dd (a.take j)))/\Hid (js base wr T (.slice C T.length D))/\Hid (Da (w.heap.size+1) (w.alloc (.cells #[pa y,.string s,pa c,pa n,.slice ao a.length cap] 32)) wr)) (λ_ iv _=>a.length-(intOf iv).toNat);(case atStart=>exact⟨0,l,_,_,ja,rfl,rfl,H,F,K⟩);case round=>(obtain⟨j,T,C,D,hj,rfl,rfl,M,X,N⟩:=hrel;clear H F;have mF:=N.o.size;rw[t]at mF;have J:=vp.o.trans (N.o.mono ja);have c4:=(Bt.o.below (by rw[t];exact N.o)).cell 4;by_cases hlt:j<a.length;{obtain⟨b,off,rfl,Z,hL⟩:=H7.o (by intro h;simp[h]at hlt);obtain⟨ka,kc,g0,g1,g2,g3,g4,gk⟩:=Fo.Vk.get a off j hlt (Fo.Vk.below (J.mono hB) Z a off hL);have r:=iu g f d (Dd (a.take j)) l;rw[<-M.o]at r;have nH:=Lo (a.take j);have RF:=Fo.Al a j hlt;have hst:=Fo.Bl a (j+1);(have m:qm g f d T (Ud a[j])=qm g f d l (Dd (a.take (j+1))):=by rw[sq,eu, <-M.o]);(have p:T≠[]:=λe=>by{have O:=r.2;rw[e]at O;have O:(l).length<=0:=O;exact G.o.2 ja});have W:=CI.o _ (Oa _) _ _ T wr ja gk X.o p (by have:=G.o.1;omega);rw[m]at W;have HC:Hid (Db 95 #[.agg #[pa a[j].op,.string a[j].name,pa a[j].cmp,pa a[j].n,.slice ka a[j].kids.length kc],.string g,pa f,pa d,.slice C T.length D] wr λe E=>∃(z:Option Addr) (A:Nat),e=.returned (.slice z (qm g f d l (Dd (a.take (j+1)))).length A)/\Hid (js base E (qm g f d l (Dd (a.take (j+1)))) (.slice z (qm g f d l (Dd (a.take (j+1)))).length A))/\Hid (Da wr.heap.size wr E)):=by{refine W.mono ?_;rintro e E ⟨u,rfl,r1,r2⟩;obtain⟨z,A,rfl,_⟩:=Sa.shape r1.ints;exact⟨z,A,rfl,r1,r2⟩};obtain⟨V,q⟩:∃V,qm g f d l (Dd (a.take (j+1)))=V:=⟨_,rfl⟩;rw[q]at HC;have S:Hid _:=q.symm;clear r nH RF hst m p W hL gk X M q;generalize a[j]=kk at*;go_wp2_with (go_at_call 95;refine HC.o.mono ?_;rintro e w5 ⟨z,A,rfl,Q,P⟩);go_roundw;(case rel=>exact⟨_,V,z,A,ja,by go_num,rfl,S,Q,N.o.trans (P.o.mono ja)⟩);case measure=>simp[intOf];omega};{(have QD:j=a.length:=ja);have I:=M.o;rw[QD,Ub, <-HS.o]at I;have U:=la I;go_wp2;go_ret;exact⟨_,rfl,by rw[<-U.o];exact X.o,J⟩})}
 {(have HS:Hid (R=qm g f d l (Dd a)):=by show _=_;rw[i.o,if_neg (λh=>by have:=h.1;subst this;simp at e1)]);have K:Hid (Da (w.heap.size+1) _ (w.alloc (.cells #[pa y,.string s,pa c,pa n,.slice ao a.length cap] 32))):=za _ _;have G:Hid (l.length+2*Fo.Cd a<=900000/\l≠[]):=⟨ja,L8.o⟩;have F:=YX;clear i;go_enter func95,ntmps95;go_upto_region 4 with(fail);(have Qu:w.heap.size+1<=((w.alloc (.cells #[pa y,.string s,pa c,pa n,.slice ao a.length cap] 32))).heap.size:=by first|(rw[t];exact wa _)|(have:=K.o.size;rw[t]at this;exact this));have H:Hid (l=qm g f d l (Dd (a.take 0))):=rfl;go_wp2;go_loopw [4,11] (λlv iv wr=>∃(j:Nat) (T:List Int) (C:Option Addr) (D:Nat),j<=a.length/\iv=pa j/\lv=.slice C T.length D/\Hid (T=qm g f d l (Dd (a.take j)))/\Hid (js base wr T (.slice C T.length D))/\Hid (Da (w.heap.size+1) (w.alloc (.cells #[pa y,.string s,pa c,pa n,.slice ao a.length cap] 32)) wr)) (λ_ iv _=>a.length-(intOf iv).toNat);(case atStart=>exact⟨0,l,_,_,ja,rfl,rfl,H,F,K⟩);case round=>(obtain⟨j,T,C,D,hj,rfl,rfl,M,X,N⟩:=hrel;clear H F;have mF:=N.o.size;rw[t]at mF;have J:=vp.o.trans (N.o.mono ja);have c4:=(Bt.o.below (by rw[t];exact N.o)).cell 4;by_cases hlt:j<a.length;{obtain⟨b,off,rfl,Z,hL⟩:=H7.o (by intro h;simp[h]at hlt);obtain⟨ka,kc,g0,g1,g2,g3,g4,gk⟩:=Fo.Vk.get a off j hlt (Fo.Vk.below (J.mono hB) Z a off hL);have r:=iu g f d (Dd (a.take j)) l;rw[<-M.o]at r;have nH:=Lo (a.take j);have RF:=Fo.Al a j hlt;have hst:=Fo.Bl a (j+1);(have m:qm g f d T (Ud a[j])=qm g f d l (Dd (a.take (j+1))):=by rw[sq,eu, <-M.o]);(have p:T≠[]:=λe=>by{have O:=r.2;rw[e]at O;have O:(l).length<=0:=O;exact G.o.2 ja});have W:=CI.o _ (Oa _) _ _ T wr ja gk X.o p (by have:=G.o.1;omega);rw[m]at W;have HC:Hid (Db 95 #[.agg #[pa a[j].op,.string a[j].name,pa a[j].cmp,pa a[j].n,.slice ka a[j].kids.length kc],.string g,pa f,pa d,.slice C T.length D] wr λe E=>∃(z:Option Addr) (A:Nat),e=.returned (.slice z (qm g f d l (Dd (a.take (j+1)))).length A)/\Hid (js base E (qm g f d l (Dd (a.take (j+1)))) (.slice z (qm g f d l (Dd (a.take (j+1)))).length A))/\Hid (Da wr.heap.size wr E)):=by{refine W.mono ?_;rintro e E ⟨u,rfl,r1,r2⟩;obtain⟨z,A,rfl,_⟩:=Sa.shape r1.ints;exact⟨z,A,rfl,r1,r2⟩};obtain⟨V,q⟩:∃V,qm g f d l (Dd (a.take (j+1)))=V:=⟨_,rfl⟩;rw[q]at HC;have S:Hid _:=q.symm;clear r nH RF hst m p W hL gk X M q;generalize a[j]=kk at*;go_wp2_with (go_at_call 95;refine HC.o.mono ?_;rintro e w5 ⟨z,A,rfl,Q,P⟩);go_roundw;(case rel=>exact⟨_,V,z,A,ja,by go_num,rfl,S,Q,N.o.trans (P.o.mono ja)⟩);case measure=>simp[intOf];omega};{(have QD:j=a.length:=ja);have I:=M.o;rw[QD,Ub, <-HS.o]at I;have U:=la I;go_wp2;go_ret;exact⟨_,rfl,by rw[<-U.o];exact X.o,J⟩})}
theorem RZ(base B:Nat)(d:Na)(b a:Int):∀(N:Nat) (f:Fo),f.size<=N->TsW base B d b a f:=by
 intro N
 induction N with
 | zero=>intro f h;have:=f.size_pos;omega
 | succ N e=>
  intro f h;obtain⟨i,s,c,n,g⟩:=f
  grind [EV,List.getElem_of_mem,Fo.Eh,Fo.size]
def TR(a:Fa)(f:Fo):List Int:=qm a.name a.lo a.hi [a.lo] (Ud f)
theorem FV(b:Fa)(f:Fo)(v:Ea)(w:Ca)(B:Nat)(D:B<=w.heap.size)(z:f.In w B v)(H:f.size<=100000):
  Db 54 #[v,.agg #[.string b.name,pa b.kind,pa b.lo,pa b.hi]] w λe k=>∃(h:Option Addr) (j:Nat),e=.returned (.slice h (TR b f).length j)/\Hid (js w.heap.size k (TR b f) (.slice h (TR b f).length j))/\Hid (Da w.heap.size w k):=by
 obtain⟨d,cap,rfl⟩:=z.shape;have x:Da _ w ((w.alloc (.cells #[pa f.op,.string f.name,pa f.cmp,pa f.n,.slice d f.kids.length cap] 32)).alloc (.cells #[.string b.name,pa b.kind,pa b.lo,pa b.hi] 120)):=((za _ _).alloc (wa _) _).alloc Aa _;have g:Da _ w (((w.alloc _).alloc _).alloc (.cells #[pa b.lo] 3)):=x.alloc (by simp;omega) _;have l:qb ((w.alloc _).alloc (.cells #[.string b.name,pa b.kind,pa b.lo,pa b.hi] 120)) _ 32 _:=(qb.new w 32 #[pa f.op,.string f.name,pa f.cmp,pa f.n,.slice d f.kids.length cap]).alloc _
 have t:qb ((w.alloc (.cells #[pa f.op,.string f.name,pa f.cmp,pa f.n,.slice d f.kids.length cap] 32)).alloc (.cells #[.string b.name,pa b.kind,pa b.lo,pa b.hi] 120)) (w.heap.size+1) 120 #[.string b.name,pa b.kind,pa b.lo,pa b.hi]:=by{have q:=qb.new (w.alloc (.cells #[pa f.op,.string f.name,pa f.cmp,pa f.n,.slice d f.kids.length cap] 32)) 120 #[.string b.name,pa b.kind,pa b.lo,pa b.hi];simpa only[Ia]using q}
 have m:IntsIn (((w.alloc (.cells #[pa f.op,.string f.name,pa f.cmp,pa f.n,.slice d f.kids.length cap] 32)).alloc (.cells #[.string b.name,pa b.kind,pa b.lo,pa b.hi] 120)).alloc (.cells #[pa b.lo] 3)) ((((w.alloc (.cells #[pa f.op,.string f.name,pa f.cmp,pa f.n,.slice d f.kids.length cap] 32)).alloc (.cells #[.string b.name,pa b.kind,pa b.lo,pa b.hi] 120)).alloc (.cells #[pa b.lo] 3))).heap.size [b.lo] (.slice (Nb (w.heap.size+1+1)) 1 1):=by{refine⟨_,1,rfl,wa _,Ba,λ_=>⟨_,0,rfl,Aa,λi F=>?_⟩⟩;(have y:i=0:=by simpa using F);subst y;have q:=(qb.new ((w.alloc (.cells #[pa f.op,.string f.name,pa f.cmp,pa f.n,.slice d f.kids.length cap] 32)).alloc (.cells #[.string b.name,pa b.kind,pa b.lo,pa b.hi] 120)) 3 #[pa b.lo]).cell 0;simp only[Ia]at q;exact q}
 have p:IF (((w.alloc (.cells #[pa f.op,.string f.name,pa f.cmp,pa f.n,.slice d f.kids.length cap] 32)).alloc (.cells #[.string b.name,pa b.kind,pa b.lo,pa b.hi] 120)).alloc (.cells #[pa b.lo] 3)) w.heap.size (.slice (Nb (w.heap.size+1+1)) 1 1):=λa n c e=>by{(cases e);have q:=qb.new ((w.alloc (.cells #[pa f.op,.string f.name,pa f.cmp,pa f.n,.slice d f.kids.length cap] 32)).alloc (.cells #[.string b.name,pa b.kind,pa b.lo,pa b.hi] 120)) 3 #[pa b.lo];simp at q;exact⟨by show _<=w.heap.size+1+1;omega,_,q⟩}
 have E:=RZ _ B b.name b.lo b.hi _ f (wa _) _ _ _ _ (by simp;omega) (Fo.In.below (g.mono D) _ _ z) ⟨g.size,m,p⟩ Aa (by simp;omega)
 have C:Hid (Db 95 #[.agg #[pa f.op,.string f.name,pa f.cmp,pa f.n,.slice d f.kids.length cap],.string b.name,pa b.lo,pa b.hi,.slice (Nb (w.heap.size+1+1)) 1 1] (((w.alloc (.cells #[pa f.op,.string f.name,pa f.cmp,pa f.n,.slice d f.kids.length cap] 32)).alloc (.cells #[.string b.name,pa b.kind,pa b.lo,pa b.hi] 120)).alloc (.cells #[pa b.lo] 3)) λe k=>∃(h:Option Addr) (j:Nat),e=.returned (.slice h (TR b f).length j)/\Hid (js w.heap.size k (TR b f) (.slice h (TR b f).length j))/\Hid (Da w.heap.size w k)):=by{refine E.mono ?_;rintro e k ⟨u,rfl,A,G⟩;obtain⟨h,j,rfl,_⟩:=Sa.shape A.ints;exact⟨h,j,rfl,A,g.trans (G.mono (by simp;omega))⟩}
 have L:=l.cell 0;have x1:=l.cell 1;have x2:=l.cell 2;have x3:=l.cell 3;have x4:=l.cell 4;have M:=t.cell 0;have N:=t.cell 2;have O:=t.cell 3;generalize TR b f=T at*
 go_enter func54,ntmps54;go_wp2_with (go_at_call 95;refine C.o.mono ?_;rintro e K ⟨I,J,rfl,s,r⟩);go_ret;exact⟨_,_,rfl,s,r⟩
theorem GV(a:Fa)(f:Fo):(TR a f).length<=2*f.size+1/\1<=(TR a f).length:=by
 have b:=iu a.name a.lo a.hi (Ud f) [a.lo];have c:=Iv _ f (wa _)
 grind [TR]
def IsB(e:Ending):Prop:=∃b:Bool,e=.returned (.bool b)
theorem IV(l:List Int)(n:Int)(v:Ea)(w:Ca)(B:Nat)(a:IntsIn w B l v):
  Db 55 #[v,pa n] w λe g=>IsB e/\w=g:=by
 obtain⟨h,cap,rfl,j,f,_⟩:=Sa.shape a;unfold maxLen at f;have d:=la a;clear a;go_enter func55,ntmps55;go_wp2
 go_loopw [5] (λi wr=>∃k:Nat,k<=l.length/\i=pa k/\Hid (w=wr)) (λi _=>l.length-(intOf i).toNat)
 case atStart=>exact⟨0,ja,rfl,rfl⟩
 case round=>(obtain⟨k,q,rfl,hw⟩:=hrel;have hw:=hw.o;subst hw;by_cases hlt:k<l.length;{obtain⟨b,off,rfl,m,p⟩:=Sa.one d.o k hlt;generalize l[k]=x at*;by_cases c:x=n;{subst c;go_wp2;go_ret;exact⟨⟨_,rfl⟩,rfl⟩};{(have hd:(x==n)=false:=by simpa using c);go_wp2;go_roundw;(case rel=>exact⟨k+1,ja,by go_num,la trivial⟩);case measure=>simp[intOf];omega}};{go_wp2;go_ret;exact⟨⟨_,rfl⟩,rfl⟩})
theorem UR{w:Ca}{b:Array Ea}(h:qb w j E b):∀a u,b[a]? =some u->w.cell? ((Ya j:Addr).add a)=some u:=λa u c=>by
 rw[Addr.add_mid,Vb,h.cell];exact c
theorem oH(d:List Fa)(A:List Pv)(ts:List Int)(v:Ea)(w:Ca)(hn:A.length<=1000)(hl:Gj w w.heap.size d A ts v)(hsz:∀p∈A,p.cond.size<=250):
  Db 25 #[v,pa 3000] w λe f=>∃m:Int,e=.returned (pa m)/\Da w.heap.size w f:=by
 obtain⟨u1,u2,u3,rfl,hd,hp,ht⟩:=hl;obtain⟨ad,cd,rfl,l1,l2,_⟩:=Sa.shape hd;obtain⟨ap,cp,rfl,l3,l4,_⟩:=Sa.shape hp;obtain⟨at_,ct,rfl,_⟩:=Sa.shape ht;unfold maxLen at l2 l4;have K:Da w.heap.size w (w.alloc (.cells #[.slice ad d.length cd,.slice ap A.length cp,.slice at_ ts.length ct] 28)):=(za _ _).alloc (wa _) _;have K0:=qb.new w 28 #[.slice ad d.length cd,.slice ap A.length cp,.slice at_ ts.length ct];obtain⟨W,hW⟩:∃W,w.alloc (.cells #[.slice ad d.length cd,.slice ap A.length cp,.slice at_ ts.length ct] 28)=W:=⟨_,rfl⟩;rw[hW]at K K0;have Z:=K.size;obtain⟨i0,z0,z1,z2,z3⟩:=info_parts Hl;have HW:=la hW;have P:=la K;have S:=la K0;have HD:=la hd;have HP:=la hp;have gM:=la hsz;have hlW:=K0.lt;clear hd hp ht hW K K0 hsz;go_enter func25,ntmps25;go_upto_region 1 with(fail);rw[HW.o];go_upto_region 3 with(fail)
 go_loopw [5,6] (λnv iv wr=>∃(i:Nat) (m:Int),i<=d.length/\iv=pa i/\nv=pa m/\Hid (Da W.heap.size W wr)) (λ_ iv _=>d.length-(intOf iv).toNat)
 case atStart=>exact⟨0,1,Lb _,rfl,rfl,za _ _⟩
 case round=>
  obtain⟨i,m,hi,rfl,rfl,O⟩:=hrel;have mF:=O.o.size
  skip
  have x0:=(S.o.below O.o).cell 0;have x1:=(S.o.below O.o).cell 1;by_cases hlt:i<d.length
  ·by_cases hm:m<=3000
   ·have X6:decide (m<=3000)=true:=by simpa using hm
    have HBw:Hid (Da w.heap.size w wr):=P.o.trans (O.o.mono Z);obtain⟨b,off,rfl,Tn,f0,f1,f2,f3,_⟩:=Sa.at (HD.o.below Jk.kept HBw.o) i hlt;generalize d[i]=h at*
    clear hm;go_upto_region 8 with(fail);have L:Da wr.heap.size wr (wr.alloc (.cells #[.string h.name,pa h.kind,pa h.lo,pa h.hi] 120)):=(za _ _).alloc (wa _) _;have KX:=qb.new wr 120 #[.string h.name,pa h.kind,pa h.lo,pa h.hi];obtain⟨V,hV⟩:∃V,wr.alloc (.cells #[.string h.name,pa h.kind,pa h.lo,pa h.hi] 120)=V:=⟨_,rfl⟩;rw[hV]at L KX⊢;have O8:Hid (Da w.heap.size w V):=HBw.o.trans (L.mono ja);have t:Hid (Da W.heap.size W V):=O.o.trans (L.mono mF);have xO:=la KX;generalize hX:wr.heap.size=X at*
    clear hV L KX f0 f1 f2 f3 x0 x1
    go_loopw [8,9] (λcv jv k=>∃(j:Nat) (cl:List Int),j<=A.length/\jv=pa j/\cl.length<=j*501/\Hid (k.ownsRow V.heap.size 3 1 cv cl.length (cl.map iW))/\Hid (Da V.heap.size V k)) (λ_ jv _=>A.length-(intOf jv).toNat)
    case atStart=>exact⟨0,[],Lb _,rfl,Lb _,Ec _ _ _ _,za _ _⟩
    case round=>
     obtain⟨j,cl,hj,rfl,vF,E,B⟩:=hrel;rename Ca=>k
     have N6:=B.o.size;obtain⟨ca,cc,rfl⟩:=Xd E.o;have y:Hid (Da w.heap.size w k):=O8.o.trans (B.o.mono (by have:=O8.o.size;omega));have F:=la (S.o.below (t.o.trans (B.o.mono (by have:=t.o.size;omega))));have adY:=la (xO.o.below B.o);have x0:=F.o.cell 0;have x1:=F.o.cell 1;by_cases D3:j<A.length
     ·obtain⟨b2,c,rfl,l,ak,ck,ae,ce,D,hf,_⟩:=Sa.at (HP.o.below jm.kept y.o) j D3
      have hz:=gM.o A[j] (Oa D3);have e5:=D 5 _ rfl;have e6:=D 6 _ rfl;have e7:=D 7 _ rfl;have e8:=D 8 _ rfl;have e9:=D 9 _ rfl;have HF:=la hf;clear D hf;generalize A[j].cond=C at*
      have VD:=la (λ(f:Ca) (AI:Hid (Da k.heap.size k f))=>FV h C _ f w.heap.size (ub y.o.size AI.o.size) (Fo.In.below (AI.o.mono y.o.size) _ _ HF.o) ja);have hst:=(GV h C).1
      have OD:Hid (∀f,Hid (Da k.heap.size k f)->(f.cell? (Ja w.heap.size 1)=some (.slice (fe b2 c) A.length cp)/\f.cell? (Ja b2 (c+j*23+5))=some (pa C.op)/\f.cell? (Ja b2 (c+j*23+6))=some (.string C.name)/\f.cell? (Ja b2 (c+j*23+7))=some (pa C.cmp)/\f.cell? (Ja b2 (c+j*23+8))=some (pa C.n)/\f.cell? (Ja b2 (c+j*23+9))=some (.slice ak C.kids.length ck)/\f.cell? (Ya X)=some (.string h.name)/\f.cell? (Ja X 1)=some (pa h.kind)/\f.cell? (Ja X 2)=some (pa h.lo)/\f.cell? (Ja X 3)=some (pa h.hi))/\Hid (Da k.heap.size k f)):=by{intro f hw;have z:=F.o.below hw.o;have z1:=adY.o.below hw.o;have G:=hw.o.mono y.o.size;exact⟨⟨z.cell 1,(G.cell (p:=Ja b2 _) l).trans e5,(G.cell (p:=Ja b2 _) l).trans e6,(G.cell (p:=Ja b2 _) l).trans e7,(G.cell (p:=Ja b2 _) l).trans e8,(G.cell (p:=Ja b2 _) l).trans e9,z1.cell 0,z1.cell 1,z1.cell 2,z1.cell 3⟩,hw⟩}
      have DO:Hid (Da k.heap.size k k.drew):=(za _ _).drew;have hj0:(0:Int)<=(j:Int):=Xb _;have PO:(j:Int)<(A.length:Int):=by omega
      clear e5 e6 e7 e8 e9 HF;generalize TR h C=T at*
      go_upto_region 10 with(fail);clear x0 x1
      go_region_held3 (λf=>(f.cell? (Ja w.heap.size 1)=some (.slice (fe b2 c) A.length cp)/\f.cell? (Ja b2 (c+j*23+5))=some (pa C.op)/\f.cell? (Ja b2 (c+j*23+6))=some (.string C.name)/\f.cell? (Ja b2 (c+j*23+7))=some (pa C.cmp)/\f.cell? (Ja b2 (c+j*23+8))=some (pa C.n)/\f.cell? (Ja b2 (c+j*23+9))=some (.slice ak C.kids.length ck)/\f.cell? (Ya X)=some (.string h.name)/\f.cell? (Ja X 1)=some (pa h.kind)/\f.cell? (Ja X 2)=some (pa h.lo)/\f.cell? (Ja X 3)=some (pa h.hi))/\Hid (Da k.heap.size k f))
       (exact OD.o _ La)
       ((go_at_call 54;refine(VD.o _ La).mono ?_;rintro e H ⟨ua,uc,rfl,R,Wu⟩;have J:Hid (Da k.heap.size k H):=DO.o.trans (Wu.o.mono (wa _))))
      go_split_ands;have h8s:=J.o.size;have HTI:=la R.o.ints;have HTS:=la R.o.sol;have UX:=la (Wd E.o J.o);have HCB:Hid (∀g,(Value.slice ca cl.length cc).ownBlock=some g->V.heap.size<=g/\(g<k.heap.size\/H.heap.size<=g)):=λg N=>⟨(E.o.lt g N).1,.inl (E.o.lt g N).2⟩
      have M:Hid (Da V.heap.size V H):=B.o.trans (J.o.mono N6);clear J Wu R OD VD DO E;go_upto_region 12 with(fail)
      go_loopw [8,11] (λcv qv r=>∃(q:Nat) (s:List Int),q<=T.length/\qv=pa q/\s.length<=j*501+q/\Hid (r.ownsRow V.heap.size 3 1 cv s.length (s.map iW))/\Hid (∀g,cv.ownBlock=some g->V.heap.size<=g/\(g<k.heap.size\/H.heap.size<=g))/\Hid (Da V.heap.size V r)/\Hid (∀b,k.heap.size<=b->b<H.heap.size->r.heap[b]? =H.heap[b]?)/\H.heap.size<=r.heap.size) (λ_ qv _=>T.length-(intOf qv).toNat)
      case atStart=>exact⟨0,cl,Lb _,rfl,ja,UX,HCB,M,λ_ _ _=>rfl,wa _⟩
      case round=>
       obtain⟨q,s,hq,rfl,yN,HC,HG,I,U,hwy⟩:=hrel;obtain⟨da,dc,rfl⟩:=Xd HC.o;rename Ca=>r
       clear UX HCB M;by_cases hlq:q<T.length
       ·obtain⟨tb,to_,rfl,nH,htc⟩:=Sa.one HTI.o q hlq
        have I3:=(HTS.o _ _ _ rfl).1;simp only at I3;have ht:r.cell? (Ja tb (to_+q))=some (pa T[q]):=(World.cell?_of_block (a:=Ja tb (to_+q)) (U.o tb I3 nH)).trans htc;clear htc;generalize T[q]=x at*
        have HH:=la (IV s x (.slice da s.length dc) r r.heap.size (Ki HC.o));have MX:Da V.heap.size V (r.alloc (.cells #[pa x] 3)):=I.o.alloc I.o.size _;have SZ:=la MX;have HCA:=la (HC.o.alloc (.cells #[pa x] 3));have P8:Hid (∀j u,([x].map iW)[j]? =some u->(r.alloc (.cells #[pa x] 3)).cell? ((Ya r.heap.size:Addr).add j)=some u):=λj u hj=>UR (qb.new r 3 #[pa x]) j u (by rw[<-hj];simp[iW])
        have hjb:j*501<=501000:=by omega
        have hlen:s.length+1<=4000000:=by omega
        have Y:V.heap.size<=(r.alloc (.cells #[pa x] 3)).heap.size:=MX.size;clear MX
        go_wp2_with (first
         | (go_at_call 55;refine HH.o.mono ?_;rintro e w9 ⟨⟨bb,rfl⟩,rfl⟩)
         | (at_builtin;go_loud (refine wpList_append_own_at _ rfl (.tmp 59) (.tmp 64) 26 rfl V.heap.size 3 i0 _ 1 8 Tryz.underlying26 z0 z1 z2 z3 rfl Ba (.slice da s.length dc) s.length (s.map iW) rfl HCA.o (Ya r.heap.size) 1 1 ([x].map iW) rfl rfl P8.o (by intro u hu;simp[iW]at hu;subst hu;rfl) (by unfold maxLen;omega) ja Y ?_;intro v9 w9 ho9 JV _ ha9;have gP:=la ho9;have Q:=la JV;have Y3:=la ha9;clear ho9 JV ha9)))
        {(have hz9:r.heap.size<(r.alloc (.cells #[pa x] 3)).heap.size:=Aa);have eU:Hid (Da V.heap.size V w9):=SZ.o.grown Q.o Y (λg N=>(HG.o g N).1);have HO2:Hid (w9.ownsRow V.heap.size 3 1 v9 (s++[x]).length ((s++[x]).map iW)):=by{have:=gP.o;rw[Qa,Pb];exact this};(have DA:Hid (∀g,v9.ownBlock=some g->V.heap.size<=g/\(g<k.heap.size\/H.heap.size<=g)):=λg N=>by{(rcases Y3.o with e|e);{exact HG.o g (by rw[<-e];exact N)};{rw[e]at N;(cases N);exact⟨Y,.inr ja⟩}});(have KV:Hid (∀b,k.heap.size<=b->b<H.heap.size->w9.heap[b]? =H.heap[b]?):=λb h1 h2=>by{refine(Q.o.block b ja λe=>?_).trans ((Bd _ _ _ ja).trans (U.o b h1 h2));have:=(HG.o b e.symm).2;omega});have cZ:(r.alloc (.cells #[pa x] 3)).heap.size<=w9.heap.size:=Q.o.size;exact⟨⟨q+1,s++[x],ja,by go_num,by simp;omega,HO2,DA,eU,KV,ja⟩,by simp[intOf];omega⟩}
        {exact⟨⟨q+1,s,ja,by go_num,ja,HC,HG,I,U,ja⟩,by simp[intOf];omega⟩}
       {go_wp2;exact⟨⟨j+1,s,ja,by go_num,ja,HC,I⟩,by simp[intOf];omega⟩}
     {go_wp2;exact⟨⟨i+1,_,ja,by go_num,rfl,t.o.trans (B.o.mono (by have:=t.o.size;omega))⟩,by simp[intOf];omega⟩}
   {(have X6:decide (m<=3000)=false:=by simpa using hm);clear hm;go_wp2;go_ret;exact⟨_,rfl,P.o.trans (O.o.mono Z)⟩}
  {go_wp2;go_ret;exact⟨_,rfl,P.o.trans (O.o.mono Z)⟩}
structure TX (d : List Fa) (ps : List Pv) (ts : List Int) (n : Int) : Prop where
 Ar:lr d ps n=true
 since:ts.length<=100
def K8(d:List Fa)(a:List Pv)(c:List Int)(n:Int)(e:Ending):Prop:=∃b:Bool,e=.returned (.bool b)/\(b=true->TX d a c n)
theorem kH(h:lr D P Z=true):∀p∈P,p.cond.size<=250:=λp a=>by
 unfold lr at h;rw[Ib,ee]at h;have:=h.2 p a;unfold Mv at this;simp only[Ib]at this;exact pH this.1.1.1.1
theorem BN(d:List Fa)(i:List Pv)(j:List Int)(n:Int)(v:Ea)(w:Ca)(F:0<=n)(G:n<=1000)(J:Gj w w.heap.size d i j v):
  Db 7 #[v,pa n] w λe k=>K8 d i j n e/\Da w.heap.size w k:=by
 have N:=la J;obtain⟨u1,u2,u3,rfl,hd,K,L⟩:=J;obtain⟨y,A,rfl,_⟩:=Sa.shape hd;obtain⟨z,B,rfl,_⟩:=Sa.shape K;obtain⟨at_,C,rfl,_⟩:=Sa.shape L;have g:Da _ w (w.alloc (.cells #[.slice y d.length A,.slice z i.length B,.slice at_ j.length C] 28)):=(za _ _).alloc (wa _) _;have p:=qb.new w 28 #[.slice y d.length A,.slice z i.length B,.slice at_ j.length C];obtain⟨W,D⟩:∃W,w.alloc (.cells #[.slice y d.length A,.slice z i.length B,.slice at_ j.length C] 28)=W:=⟨_,rfl⟩;rw[D]at g p;have f:=g.size;have x:=la D;have l:=la g;have b:=la p;have s:Hid (∀k,Da _ W k->Gj k _ d i j _):=λk h=>(N.o.below (g.trans (h.mono f))).mono (ub f h.size)
 have r:=la (LV d i n _ W _ F G (wa _) ((s.o W (za _ _)).law));have t:=p.cell 0;have x1:=p.cell 1;have x2:=p.cell 2;clear hd K L D g p;cases q:lr d i n with
 | false=>{rw[q]at r;go_enter func7,ntmps7;go_upto_region 1 with(fail);rw[x.o];go_wp2_with (go_at_call 24;refine r.o.mono ?_;rintro e I ⟨rfl,a⟩);go_ret;exact⟨⟨_,rfl,λh=>by cases h⟩,l.o.trans (a.mono f)⟩}
 | true=>
  rw[q]at r
  have O:i.length<=1000:=by{have h:=q;unfold lr at h;simp only[Ib,decide_eq_true_eq]at h;omega}
  have M:=la (λk h=>oH d i j _ k O (s.o k h) (kH q));have u:=la q;clear q;by_cases P:j.length<=100
  ·have H:decide ((j.length:Int)<=100)=true:=by simp;omega
   go_enter func7,ntmps7;go_upto_region 1 with(fail);rw[x.o]
   go_wp2_with (first
    | (go_at_call 24;refine r.o.mono ?_;rintro e I ⟨rfl,a⟩;have c:=la a;clear t x1 x2;have t:=(b.o.below a).cell 0;have x1:=(b.o.below a).cell 1;have x2:=(b.o.below a).cell 2;clear a)
    | (go_at_call 25;refine(M.o I c.o).mono ?_;rintro e Q ⟨m,rfl,E⟩))
   go_ret;exact⟨⟨_,rfl,λ_=>⟨u.o,P⟩⟩,l.o.trans ((c.o.trans (E.mono c.o.size)).mono f)⟩
  {(have H:decide ((j.length:Int)<=100)=false:=by simp;omega);go_enter func7,ntmps7;go_upto_region 1 with(fail);rw[x.o];go_wp2_with (go_at_call 24;refine r.o.mono ?_;rintro e I ⟨rfl,a⟩;have c:=la a;clear t x1 x2;have t:=(b.o.below a).cell 0;have x1:=(b.o.below a).cell 1;have x2:=(b.o.below a).cell 2;clear a);go_ret;exact⟨⟨_,rfl,λh=>by cases h⟩,l.o.trans (c.o.mono f)⟩}
end Go.Proofs.YtdipkbobalnilaaGreatDoor
