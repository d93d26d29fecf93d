/- The walk of the closure of diagram.starts that gathers the numbers of a fact's tests. A bound on the formula's size. -/
import Derived.Test.YtdipkbobalnilaaGreatDoorAl
import Derived.Test.YtdipkbobalnilaaGreatDoorDgGJ
set_option maxRecDepth 100000
set_option maxHeartbeats 4000000
namespace Go.Proofs.YtdipkbobalnilaaGreatDoor
open Tryz
variable{j:Nat}{Z:Int}{E:TypeId}{C:List Int}
section
open Go.RowKit
open Go.Sort (grow)
abbrev BL(B b:Nat)(bs:List UInt8)(w:Ca):Prop:=Lib.IsBuilderF 141 5 B b (Lib.byteCells bs) w
theorem ql{B b:Nat}{bs:List UInt8}{w c:Ca}(h:BL B b bs w)(j:Da w.heap.size w c):BL B b bs c:=by
 have f:∀p,Lib.BuilderAtF 141 5 B b p (Lib.byteCells bs) w->Lib.BuilderAtF 141 5 B b p (Lib.byteCells bs) c:=by{rintro p ⟨o,v,e,i,q⟩;refine⟨o,v,(j.block b (zf e)).trans e,⟨i.1,i.2.imp id ?_⟩,q⟩;rintro⟨g,cap,a,n,k,l,d,m⟩;exact⟨g,cap,a,n,k,l,(j.block g (zf d)).trans d,m⟩}
 exact h.imp (f _) (f _)
structure Us (B b bx : Nat) (cs : Array Ea) (bs : List UInt8) (w0 w : Ca) : Prop where
 TQ:BL B b bs w
 mm:Da B w0 w
 gV:Lib.OthersKept 5 (some b) w0 w
 box:qb w bx 32 cs
 ne:bx≠b
 ge:B<=w.heap.size
variable {B b bx : Nat} {cs : Array Ea} {bs : List UInt8} {w0 w : Ca}
theorem Hv{w a:Ca}{b:Nat}(c:Da w.heap.size w a):Lib.OthersKept 5 (some b) w a:=λk _ h _ _=>(c.block k (zf h)).trans h
theorem Us.below(h:Us B b bx cs bs w0 w){c:Ca}(a:Da w.heap.size w c):Us B b bx cs bs w0 c:=
 ⟨ql h.TQ a,h.mm.trans (a.mono h.ge),h.gV.trans (Hv a),h.box.below a,h.ne,by have:=a.size;have:=h.ge;omega⟩
theorem Us.more(h:Us B b bx cs bs w0 w){w':Ca}{a:List UInt8}(e:BL B b a w')(c:Da B w w')(d:Lib.OthersKept 5 (some b) w w'):Us B b bx cs a w0 w':=
 ⟨e,h.mm.trans c,h.gV.trans d,d bx _ h.box (by have:=h.ne;simp[this]) (sn Ba),h.ne,by have:=c.size;have:=h.ge;omega⟩
theorem Jl(w:Ca)(k:Nat)(a:Array Obj):Da w.heap.size w (grow (w.drewN k) a):=
 (World.Md _ w k).trans ⟨rfl,rfl,rfl,Aa,λb c=>by simp only[grow];rw[Array.getElem?_append_left (by simp_all)]⟩
theorem Us.itoa(h:Us B b bx cs bs w0 w)(d:Lib.TabBelow prog B w0 "internal/strconv.uint64pow10" .u64 Lib.pow10Tab)(n:Int)(a:Wh n):
  Db 68 #[pa n] w λe c=>∃s:Na,e=.returned (.string s)/\Hid (Us B b bx cs bs w0 c)/\s.size<=21/\Hid (s.toList=Lib.itoa n):=by
 refine(Tryz.strconv_Itoa n a.1 a.2 w (d.on h.mm).here).mono ?_;rintro e c ⟨rfl,k,f,rfl⟩;refine⟨_,rfl,h.below (Jl w k f),?_,?_⟩
 ·have:=Lib.itoa_length_le n a.1 a.2
  grind [ByteArray.size]
 {show _=_;simp_all}
theorem Us.str(h:Us B b bx cs bs w0 w)(s:Na)(g:bs.length+s.size<=100000000000):
  Db 67 #[Ma b,.string s] w λe a=>e=.returned (.tuple #[pa s.size,.nilIface])/\Hid (Us B b bx cs (bs++s.toList) w0 a):=by
 refine(Tryz.Builder_WriteString_k B b _ s w h.TQ (by grind [Lib.byteCells]) h.ge).mono ?_;rintro e a ⟨rfl,c,d,f⟩;refine⟨rfl,h.more (.inr ?_) d f⟩;rw[Lib.byteCells_append,Vd];exact c
theorem Us.byte(h:Us B b bx cs bs w0 w)(c:UInt8)(i:bs.length<=100000000000):
  Db 134 #[Ma b,.int .u8 c.toNat] w λe a=>e=.returned .nilIface/\Hid (Us B b bx cs (bs++[c]) w0 a):=by
 refine(Tryz.Builder_WriteByte_k B b _ _ w h.TQ (by grind [Lib.byteCells]) h.ge).mono ?_;rintro e a ⟨rfl,d,f,g⟩;refine⟨rfl,h.more (.inr ?_) f g⟩;rw[Lib.byteCells_append];exact d
theorem jQ(b c n:Int)(a:Na)(d:Wh b)(e:Wh c)(f:Wh n)(h:a.size<=24):(Lib.itoa b++a.toList++44::Lib.itoa c++44::Lib.itoa n++[40]).length<=100:=by
 have g:=Lib.itoa_length_le b d.1 d.2;have i:=Lib.itoa_length_le c e.1 e.2;have j:=Lib.itoa_length_le n f.1 f.2;have k:a.toList.length=a.size:=by rw[Vd];rfl
 grind
theorem M7{a c d e f:Ea}(h:Hid (Us B b bx #[a,c,d,e,f] bs w0 w)):w.cell? (Ya bx)=some a/\w.cell? (Ja bx 1)=some c/\w.cell? (Ja bx 2)=some d/\w.cell? (Ja bx 3)=some e:=
 ⟨h.o.box.cell 0,h.o.box.cell 1,h.o.box.cell 2,h.o.box.cell 3⟩
theorem Us.close(h:Us B b bx cs bs w0 w)(a:bs.length<=100000000000):
  Db 134 #[Ma b,.int .u8 41] w λe c=>e=.returned .nilIface/\Hid (Us B b bx cs (bs++[41]) w0 c):=h.byte 41 a
theorem yk:∀a:List Fo,je a=a.flatMap kg
 | []=>rfl
 | k::a=>by rw[je,Bc,yk]
theorem MG(a:List Fo)(j:Nat)(h:j<a.length):je (a.take (j+1))=je (a.take j)++kg a[j]:=by
 rw[yk,yk,Ta h,qd]
 simp
theorem NG(a:List Fo)(j:Nat):(je (a.take j)).length<=(je a).length:=by
 conv=>rhs;rw[<-bh j a]
 rw[yk,yk,qd,Qa];omega
def wm(b c n:Int)(a:Na):List UInt8:=Lib.itoa b++a.toList++44::Lib.itoa c++44::Lib.itoa n++[40]
theorem head_eq{c n:Int}{d e f g:Na}(i:Hid (e.toList=Lib.itoa Z))(j:Hid (f.toList=Lib.itoa c))(k:Hid (g.toList=Lib.itoa n)):
  (e++d++(⟨#[44]⟩:Na)++f++(⟨#[44]⟩:Na)++g++(⟨#[40]⟩:Na)).toList=wm Z c n d:=by
 have l:∀a b:Na,(a++b).toList=a.toList++b.toList:=λa b=>by simp[ByteArray.toList_eq]
 have h:∀u,(⟨#[u]⟩:Na).toList=[u]:=λu=>by simp_all
 unfold wm;simp only[l,h,i.o,j.o,k.o]
 simp
theorem Ry(d c n:Int)(b:Na)(a:List Fo):kg (.mk d b c n a)=wm d c n b++je a++[41]:=by
 grind [kg,wm]
theorem YJ(B b:Nat)(f c n:Int)(d:Na)(a:List Fo)(hnm:d.size<=24)
  (IH:∀k∈a,∀(v:Ea) (bs:List UInt8) (w:Ca),k.In w B v→BL B b bs w→Lib.TabBelow prog B w "internal/strconv.uint64pow10" .u64 Lib.pow10Tab→B≤w.heap.size→bs.length+(kg k).length≤1000000000→
   Db 105 #[Ma b,v] w λe l=>e=.returned (.tuple #[])/\BL B b (bs++kg k) l/\Da B w l/\Lib.OthersKept 5 (some b) w l)
  (v:Ea) (bs:List UInt8) (w:Ca) (hf:(Fo.mk f d c n a).In w B v) (hb:BL B b bs w) (hT:Lib.TabBelow prog B w "internal/strconv.uint64pow10" .u64 Lib.pow10Tab) (hB:B≤w.heap.size) (hl:bs.length+(kg (.mk f d c n a)).length≤1000000000):
  Db 105 #[Ma b,v] w λe l=>e=.returned (.tuple #[])/\BL B b (bs++kg (.mk f d c n a)) l/\Da B w l/\Lib.OthersKept 5 (some b) w l:=by
 obtain⟨m,cap,rfl,w1,w2,w3,w4,k1,k2,hk⟩:=hf;unfold maxLen at k2;have UQ:b<w.heap.size:=by rcases hb with h|h<;>exact h.lt
 have g:Hid (Us B b _ _ bs _ (w.alloc (.cells #[pa f,.string d,pa c,pa n,.slice m a.length cap] 32))):=
  ⟨ql hb ((za _ _).alloc (wa _) _),za _ _,Lib.OthersKept.refl _ _ _,qb.new _ _ _,ja,by simp;omega⟩
 have U:=la (hT.on ((za _ _).alloc hB (.cells #[pa f,.string d,pa c,pa n,.slice m a.length cap] 32)));have W:=la IH;have HK:=la hk;have HL:=la hl;have CA:bs.length<=1000000000:=by omega
 have n0:=g.o.box.cell 0;have n1:=g.o.box.cell 1;have n2:=g.o.box.cell 2;have n3:=g.o.box.cell 3;clear hb hT IH hk hl;go_enter func105,ntmps105;go_upto_region 1 with(fail);have s:=la (g.o.below ((za _ _).drew));clear g
 have hM:=la (λC (s1 s2 s3) x y z (h:Hid (Us B b _ _ (bs++(s1++d++(⟨#[44]⟩)++s2++(⟨#[44]⟩)++s3++(⟨#[40]⟩)).toList) _ C))=>
  la (show Us B b w.heap.size #[pa f,.string d,pa c,pa n,.slice m a.length cap] (bs++wm f c n d) (w.alloc (.cells #[pa f,.string d,pa c,pa n,.slice m a.length cap] 32)) C from by rw[<-head_eq x y z];exact h.o))
 go_cut[] (λC=>Hid (Us B b w.heap.size #[pa f,.string d,pa c,pa n,.slice m a.length cap] (bs++wm f c n d) (w.alloc (.cells #[pa f,.string d,pa c,pa n,.slice m a.length cap] 32)) C))
 case first=>(refine wp_region_held_drew (S:=(λl=>l.cell? _=some _/\l.cell? _=some _/\l.cell? _=some _/\l.cell? _=some _)) Ha (M7 s) (λMb=>?_);refine tp 0 ?_;refine tp 1 ?_;refine tp 4 ?_;refine tp 8 ?_;refine tp 13 ?_;refine tk 2 ?v2 ?y2 ?_;(case y2=>(intro r Be;obtain⟨y0,y1,V,y3⟩:=Be;go_simp;try with_reducible rfl));refine tk 5 ?v5 ?y5 ?_;(case y5=>(intro r Be;obtain⟨y0,y1,V,y3⟩:=Be;go_simp;try with_reducible rfl));refine tk 9 ?v9 ?y9 ?_;(case y9=>(intro r Be;obtain⟨y0,y1,V,y3⟩:=Be;go_simp;try with_reducible rfl));refine tk 14 ?v14 ?y14 ?_;(case y14=>(intro r Be;obtain⟨y0,y1,V,y3⟩:=Be;go_simp;try with_reducible rfl));refine tr 3 (λK p=>?_);(go_simp;go_at_call 68;refine(Us.itoa s.o U.o _ w1).mono ?_;rintro e w4 ⟨sI1,rfl,G,anl,M⟩);refine p.o _ _ ?_ (λMb=>?_);{exact M7 G};clear p K;refine tk 6 ?v6 ?y6 ?_;(case y6=>(intro r _;go_simp;first|(rw[if_neg (by(try simp only[ye]);have i:∀u:UInt8,(ByteArray.mk #[u]).size=1:=λ_=>rfl;(try simp only[i]);omega)])|rfl));refine tk 7 ?v7 ?y7 ?_;(case y7=>(intro r _;go_simp;first|(rw[if_neg (by(try simp only[ye]);have i:∀u:UInt8,(ByteArray.mk #[u]).size=1:=λ_=>rfl;(try simp only[i]);omega)])|rfl));refine tr 10 (λK p=>?_);(go_simp;go_at_call 68;refine(Us.itoa G.o U.o _ w2).mono ?_;rintro e t ⟨sI2,rfl,H,anm,N⟩);refine p.o _ _ ?_ (λMb=>?_);{exact M7 H};clear p K;refine tk 11 ?v11 ?y11 ?_;(case y11=>(intro r _;go_simp;first|(rw[if_neg (by(try simp only[ye]);have i:∀u:UInt8,(ByteArray.mk #[u]).size=1:=λ_=>rfl;(try simp only[i]);omega)])|rfl));refine tk 12 ?v12 ?y12 ?_;(case y12=>(intro r _;go_simp;first|(rw[if_neg (by(try simp only[ye]);have i:∀u:UInt8,(ByteArray.mk #[u]).size=1:=λ_=>rfl;(try simp only[i]);omega)])|rfl));refine tr 15 (λK p=>?_);(go_simp;go_at_call 68;refine(Us.itoa H.o U.o _ w3).mono ?_;rintro e w6 ⟨sI3,rfl,I,ano,O⟩);refine p.o _ _ ?_ (λMb=>?_);{exact M7 I};clear p K;refine tk 16 ?v16 ?y16 ?_;(case y16=>(intro r _;go_simp;first|(rw[if_neg (by(try simp only[ye]);have i:∀u:UInt8,(ByteArray.mk #[u]).size=1:=λ_=>rfl;(try simp only[i]);omega)])|rfl));refine tk 17 ?v17 ?y17 ?_;(case y17=>(intro r _;go_simp;first|(rw[if_neg (by(try simp only[ye]);have i:∀u:UInt8,(ByteArray.mk #[u]).size=1:=λ_=>rfl;(try simp only[i]);omega)])|rfl));refine tr 18 (λK p=>?_);(go_simp;go_at_call 67;refine(Us.str I.o _ (by simp;have i:∀u,(ByteArray.mk #[u]).size=1:=λ_=>rfl;simp only[i];omega)).mono ?_;rintro e w7 ⟨rfl,J⟩);refine p.o _ _ ?_ (λMb=>?_);{exact M7 J};clear p K;refine wpAnyH_done Ha ?_ _;go_wp2;go_meet;case rel=>exact hM.o _ _ _ _ M N O J)
 case rest=>
  rename Ca=>C
  have Y:=hcut;clear hcut hM;have g4:=Y.o.box.cell 4;have L:Hid (Da B w (w.alloc (.cells #[pa f,.string d,pa c,pa n,.slice m a.length cap] 32))):=(za _ _).alloc hB _
  have E:Hid (Us B b w.heap.size #[pa f,.string d,pa c,pa n,.slice m a.length cap] (bs++wm f c n d++je (a.take 0)) (w.alloc (.cells #[pa f,.string d,pa c,pa n,.slice m a.length cap] 32)) C):=by{show Us _ _ _ _ _ _ _;have q:=Y.o;simpa[je]using q}
  have F:=la (show bs.length+((wm f c n d).length+(je a).length+1)<=1000000000 by
   have q:=HL.o
   rw[Ry]at q
   simp only[Qa,Qb,nd]at q
   omega)
  go_wp2
  go_loopw [28] (λiv wr=>∃(j:Nat),j<=a.length/\iv=pa j/\Hid (Us B b w.heap.size #[pa f,.string d,pa c,pa n,.slice m a.length cap] (bs++wm f c n d++je (a.take j)) (w.alloc (.cells #[pa f,.string d,pa c,pa n,.slice m a.length cap] 32)) wr)) (λiv _=>a.length-(intOf iv).toNat)
  case atStart=>exact⟨0,ja,rfl,E⟩
  case round=>
   obtain⟨j,hj,rfl,A⟩:=hrel;clear E Y g4;have R:=A.o.ge;by_cases hlt:j<a.length
   ·obtain⟨kb,off,rfl,hkB,hL⟩:=HK.o (by intro e;rw[e]at hlt;simp at hlt)
    have Q:=L.o.trans A.o.mm;obtain⟨ka,kc,c0,c1,c2,c3,c4,P⟩:=Fo.Vk.get a off j hlt (Fo.Vk.below Q hkB a off hL);have T:=MG a j hlt;have hst:=NG a (j+1)
    have HI:=la (W.o _ (Oa _) _ _ (wr.alloc (.cells #[pa a[j].op,.string a[j].name,pa a[j].cmp,pa a[j].n,.slice ka a[j].kids.length kc] 32))
     (Fo.In.below ((za _ _).alloc R _) _ _ P) (ql A.o.TQ ((za _ _).alloc (wa _) _)) (U.o.on (A.o.mm.alloc R _)) (by simp;omega) (by
      have q:=F.o
      rw[T]at hst
      simp only[Qa]at hst⊢
      omega))
    have X:=la (λt (x:BL B b ((bs++wm f c n d++je (a.take j))++kg a[j]) t) (y:Da B _ t) (z:Lib.OthersKept 5 _ (wr.alloc (.cells #[.int _ a[j].op,.string a[j].name,.int _ a[j].cmp,.int _ a[j].n,.slice ka a[j].kids.length kc] 32)) t)=>
     (A.o.below ((za wr.heap.size wr).alloc (wa _) (.cells #[pa a[j].op,.string a[j].name,pa a[j].cmp,pa a[j].n,.slice ka a[j].kids.length kc] 32))).more (w':=t) x y z)
    have Z:=la (show bs++wm f c n d++je (a.take j)++kg a[j]=bs++wm f c n d++je (a.take (j+1)) by rw[T];simp);go_wp2_with (go_at_call 105;refine HI.o.mono ?_;rintro e t ⟨rfl,x,y,z⟩;have D:=la (X.o t x y z);clear x y z);go_roundw
    case rel=>exact⟨j+1,ja,by go_num,by rw[<-Z.o];exact D⟩
    case measure=>simp[intOf];omega
   {(obtain rfl:j=a.length:=ja);have hlen:(bs++wm f c n d++je (a.take a.length)).length<=100000000000:=by{have q:=F.o;rw[Ub];simp only[Qa];omega};have HC:=la (A.o.close hlen);have EZ:=la (show Lib.OthersKept 5 (some b) w (w.alloc (.cells #[pa f,.string d,pa c,pa n,.slice m a.length cap] 32))from Hv ((za _ _).alloc (wa _) _));go_wp2_with (go_at_call 134;refine HC.o.mono ?_;rintro e t ⟨rfl,D⟩);go_end0;refine⟨rfl,?_,L.o.trans D.o.mm,EZ.o.trans D.o.gV⟩;have q:=D.o.TQ;rw[Ry];simpa using q}
theorem dC(d:List Fa)(B b:Nat):∀(N:Nat) (f:Fo),f.size≤N→Gk d f→∀(v:Ea) (bs:List UInt8) (w:Ca),f.In w B v→BL B b bs w→Lib.TabBelow prog B w "internal/strconv.uint64pow10" .u64 Lib.pow10Tab→B≤w.heap.size→bs.length+(kg f).length≤1000000000→
   Db 105 #[Ma b,v] w λe i=>e=.returned (.tuple #[])/\BL B b (bs++kg f) i/\Da B w i/\Lib.OthersKept 5 (some b) w i:=by
 intro N
 induction N with
 | zero=>intro f h;obtain⟨g,s,c,n,a⟩:=f;rw[Fo.size]at h;omega
 | succ N r=>
  intro f h hw v bs w o m l j p;obtain⟨g,s,c,n,a⟩:=f;have u:=en g c n s a;rw[Gk]at hw
  have q:s.size<=24:=by
   rcases hw with⟨_,rfl,_⟩|⟨_,_,_,t,_⟩|⟨_,rfl,_⟩
   {decide}
   ·grind [Oe]
   {decide}
  refine YJ B b g c n s a q (λk x=>r k (by grind) ?_) v bs w o m l j p
  grind [Si]
end
open Go.RowKit
structure II (w0 : Ca) (R : Nat) (l : List Int) (W : Ca) : Prop where
 os:W.os=w0.os
 tape:W.tape=w0.tape
 output:W.output=w0.output
 size:w0.heap.size<=W.heap.size
 ul:∀b,b<w0.heap.size->b≠R->b≠R+1->W.heap[b]? =w0.heap[b]?
 ord:∃v,qb W (R+1) 26 #[v]/\W.ownsRow R 3 1 v l.length (l.map iW)/\∀g,v.ownBlock=some g->g=R\/w0.heap.size<=g
structure VQ (w0 : Ca) (FX R : Nat) (fa : Fa) : Prop where
 fact:qb w0 FX 120 #[.string fa.name,pa fa.kind,pa fa.lo,pa fa.hi]
 fn:qb w0 (R+2) 217 #[(.func (.func 135) #[] #[Ma FX,Ma (R+1),Ma (R+2)])]
 lt:FX<R
 size:R+3<=w0.heap.size
theorem II.below{w0 W:Ca}(h:II w0 j C W)(hs:j<=w0.heap.size):Da j w0 W:=⟨h.os,h.tape,h.output,h.size,λb a=>h.ul b ja ja ja⟩
theorem II.Pd{w0 W:Ca}(h:II w0 j C W){b:Nat}{cs:Array Ea}(a:qb w0 b E cs)(c:b≠j)(d:b≠j+1):qb W b E cs:=(h.ul b a.lt c d).trans a
theorem II.more{w0 W c:Ca}(h:II w0 j C W)(a:Da W.heap.size W c):II w0 j C c:=by
 obtain⟨v,d,e,f⟩:=h.ord;exact⟨a.os.trans h.os,a.tape.trans h.tape,a.output.trans h.output,ub h.size a.size,λb g i k=>(a.block b (by have:=h.size;omega)).trans (h.ul b g i k),v,d.below a,Wd e a,f⟩
theorem int_ne{W:Ca}{b t n:Nat}{cs:Array Ea}{i:List Ea}{v:Ea}(k:t≠3)(h:qb W b t cs)(a:W.ownsRow j 3 1 v n i):∀g,v.ownBlock=some g->g≠b:=λg e=>by
 rcases a.2 with⟨rfl,_⟩|⟨c,cap,d,rfl,_,f,_⟩
 {cases e}
 ·have:c=g:=by grind [Value.ownBlock]
  subst this;rintro rfl;have hv':W.heap[c]? =some _:=h
  grind
theorem ZJ{W:Ca}{base:Nat}{v:Ea}(b:qb W (j+1) 26 #[v])(a:W.ownsRow base 3 1 v C.length (C.map iW)):∀g,v.ownBlock=some g->g≠j+1:=int_ne Ba b a
theorem II.push{w0 W w7:Ca}{v v7:Ea}{o:Obj}{x y:Int}(h:II w0 j C W)(hsz:j+3<=w0.heap.size)(k:qb W (j+1) 26 #[v])(c:W.ownsRow j 3 1 v C.length (C.map iW))(t:∀g,v.ownBlock=some g->g=j\/w0.heap.size<=g)
  (r:w7.ownsRow j 3 1 v7 (C.length+2) (C.map iW++[iW x,iW y])) (a:(W.alloc o).grownBy w7 v.ownBlock) (d:v7.ownBlock=v.ownBlock\/v7.ownBlock=some (W.alloc o).heap.size):II w0 j (C++[x,y]) (w7.setCell (Ya (j+1)) v7):=by
 have s:=h.size;have f:=a.size;rw[Ia]at f d;have hne:=ZJ k c
 have i:∀b,b<W.heap.size->(∀g,v.ownBlock=some g->b≠g)->w7.heap[b]? =W.heap[b]? :=λb m n=>by{rw[a.block b (by simp;omega) (λe=>n b e.symm rfl),Bd _ _ _ m]}
 refine⟨a.os.trans h.os,a.tape.trans h.tape,a.output.trans h.output,by simp;omega,λb p q l=>?_,v7,?_,?_,λg e=>?_⟩
 {rw[Oc _ _ _ b l,i b ja (λg e=>by grind),h.ul b p q l]}
 {exact qb.set ((i _ ja (λg e=>(hne g e).symm)).trans k) 0 v7}
 all_goals grind [Zi]
theorem qE(b:Na)(d c n:Int)(s:Na)(a:List Fo):ah b (.mk d s c n a)=(if d=3/\Lh s b=true then[n,n+1]else[])++a.flatMap (ah b):=by
 have f:∀a,((Dd a).filter λt=>Lh t.1 b).flatMap (λt=>[t.2.2,t.2.2+1])=a.flatMap (ah b):=by{intro a;induction a with| nil=>simp[Dd]| cons k a e=>rw[Dd,yd,qd,e,Bc];rfl}
 grind [ah,Ud]
theorem Iv:∀(N:Nat) (f:Fo),f.size<=N->(Ud f).length<=f.size:=by
 intro N
 induction N with
 | zero=>intro f h;obtain⟨d,s,c,n,a⟩:=f;grind [Fo.size]
 | succ N e=>
  intro f h;obtain⟨d,s,c,n,a⟩:=f;rw[Fo.size]at h⊢
  have:∀a,Fo.Cd a<=N->(Dd a).length<=Fo.Cd a:=by
   intro a
   induction a with
   | nil=>intro _;simp[Dd]
   | cons k a b=>
    grind [Fo.Cd,Dd]
  grind [Ud]
theorem tv(b:Na)(f:Fo):(ah b f).length<=2*f.size:=by
 have c:=Iv _ f (wa _)
 have d:∀l:List (Na×Int×Int),(l.flatMap λt=>[t.2.2,t.2.2+1]).length=2*l.length:=by{intro l;induction l with| nil=>rfl| cons a l e=>grind}
 grind [ah]
abbrev WQ(B:Nat)(w0:Ca)(a R:Nat)(c:Fa)(f:Fo):Prop:=
 ∀(v:Ea) (l:List Int) (W:Ca),II w0 R l W->f.In w0 B v->l.length+2*f.size<=900000->
  Db 135 #[v,Ma a,Ma (R+1),Ma (R+2)] W λe b=>e=.returned (.tuple #[])/\II w0 R (l++ah c.name f) b
theorem tz(B:Nat)(w0:Ca)(t R:Nat)(b:Fa)(z:VQ w0 t R b)(V:B<=R)(m c n:Int)(s:Na)(a:List Fo)(y:m≠3)(D:∀k∈a,WQ B w0 t R b k):WQ B w0 t R b (.mk m s c n a):=by
 intro v l W A X M;obtain⟨x,cap,rfl,w1,w2,w3,w4,k1,k2,L⟩:=X;have hsz:=A.size;have hsR:=z.size;have T:=la (show ah b.name (.mk m s c n a)=a.flatMap (ah b.name) by rw[qE,if_neg (λh=>y h.1)];rfl);have U:(m==3)=false:=by simpa using y
 have p:Hid (II w0 R (l++(a.take 0).flatMap (ah b.name)) (W.alloc (.cells #[pa m,.string s,pa c,pa n,.slice x a.length cap] 32))):=by{show II _ _ _ _;have q:=A.more ((za _ _).alloc (wa _) (.cells #[pa m,.string s,pa c,pa n,.slice x a.length cap] 32));simpa using q}
 have Q:=la L;have O:=la z;have u:=la D;have S:=la M;unfold maxLen at k2;have K:W.heap.size<(W.alloc (.cells #[pa m,.string s,pa c,pa n,.slice x a.length cap] 32)).heap.size:=by simp
 clear A L z D M y;go_enter func135,ntmps135;go_wp2
 go_loopw [28] (λC wr=>∃(j:Nat),j<=a.length/\C=pa j/\Hid (II w0 R (l++(a.take j).flatMap (ah b.name)) wr)) (λC _=>a.length-(intOf C).toNat)
 case atStart=>exact⟨0,ja,rfl,p⟩
 case round=>
  obtain⟨j,hj,rfl,r⟩:=hrel;clear p;by_cases hlt:j<a.length
  ·obtain⟨kb,off,rfl,f,J⟩:=Q.o (by intro e;rw[e]at hlt;simp at hlt)
   have d:=(r.o.below ja).mono V;obtain⟨ka,kc,E,F,G,c3,H,g⟩:=Fo.Vk.get a off j hlt J;have d0:=(d.cell f).trans E;have d1:=(d.cell f).trans F;have d2:=(d.cell f).trans G;have d3:=(d.cell f).trans c3;have d4:=(d.cell f).trans H;have i:=r.o.more ((za _ wr).alloc (wa _) (.cells #[pa a[j].op,.string a[j].name,pa a[j].cmp,pa a[j].n,.slice ka a[j].kids.length kc] 32));have Y:=(i.Pd O.o.fn ja ja).cell 0
   have hlen:(l++(a.take j).flatMap (ah b.name)).length+2*a[j].size<=900000:=by{have q:=S.o;rw[Fo.size]at q;have Z:∀(a:List Fo) (j:Nat) (h:j<a.length),((a.take j).flatMap (ah b.name)).length+2*a[j].size<=2*Fo.Cd a:=by{intro a;induction a with| nil=>intro j h;simp at h| cons k a ih=>{intro j h;cases j with| zero=>rw[Fo.Cd];simp;omega| succ j=>{have:=ih j (by simpa using h);have:=tv b.name k;rw[Fo.Cd,List.take_succ_cons,Bc,Qa];simp only[Jb];omega}}};have:=Z a j hlt;rw[Qa];omega}
   have P:=la (u.o _ (Oa _) _ _ _ i g hlen)
   have w:=la (show l++(a.take j).flatMap (ah b.name)++ah b.name a[j]=l++(a.take (j+1)).flatMap (ah b.name) by
    rw[Ta hlt,qd];simp)
   clear g J d r i hlen E F G c3 H;go_wp2_with (go_at_call 135;refine P.o.mono ?_;rintro e w5 ⟨rfl,I⟩;have N:=la I;clear I);go_roundw
   case rel=>exact⟨j+1,ja,by go_num,by rw[<-w.o];exact N⟩
   case measure=>simp[intOf];omega
  {(obtain rfl:j=a.length:=ja);go_wp2;go_end0;rw[T.o];have q:=r.o;rw[Ub]at q;exact⟨rfl,q⟩}
theorem jV(B:Nat)(w0:Ca)(e R:Nat)(a:Fa)(b:VQ w0 e R a)(_hB:B<=R)(c n:Int)(s:Na)(f:Lh s a.name=false):WQ B w0 e R a (.mk 3 s c n []):=by
 intro v l W d m q;obtain⟨j,cap,rfl,x,y,z,A,u,w,_⟩:=m;have hsz:=d.size;have r:=b.size;have p:=b.lt;have i:=la (show ah a.name (.mk 3 s c n [])=[] by rw[qE,if_neg (by simp[f])];rfl);have t:=(d.Pd b.fact ja ja).cell 0;have k:(s.toList==a.name.toList)=false:=f;have h:=la (d.more ((za _ _).alloc (wa _) (.cells #[pa 3,.string s,pa c,pa n,.slice j 0 cap] 32)));have g:e<W.heap.size:=by omega
 clear d b q f;simp only[nd]at*
 go_enter func135,ntmps135;go_wp2
 go_rounds 1
 go_end0
 rw[i.o,ud];exact⟨rfl,h.o⟩
theorem lV(w:Ca)(x y:Ea)(t:TypeId)(b:Nat)(a:w.heap.size=b):∀j u,[x,y][j]? =some u->(w.alloc (.cells #[x,y] t)).cell? ((Ya b:Addr).add j)=some u:=by
 subst a;intro j u c;have:=(qb.new w t #[x,y]).cell j
 grind [Addr.add]
theorem XQ(B:Nat)(w0:Ca)(D R:Nat)(r:Fa)(z:VQ w0 D R r)(_hB:B<=R)(c n:Int)(s:Na)(J:Lh s r.name=true)(hn:0<=n/\n<=1000000):WQ B w0 D R r (.mk 3 s c n []):=by
 intro v l W A hf hl;obtain⟨T,cap,rfl,w1,w2,w3,w4,k1,k2,_⟩:=hf;have hsz:=A.size;have L:=z.size;have hfx:=z.lt;have Z:=la (show ah r.name (.mk 3 s c n [])=[n,n+1] by rw[qE,Ga ⟨rfl,J⟩];rfl);have e0:=(A.Pd z.fact ja ja).cell 0;have FZ:(s.toList==r.name.toList)=true:=J;have U:D<W.heap.size:=by omega
 have i:=A.more ((za _ _).alloc (wa _) (.cells #[pa 3,.string s,pa c,pa n,.slice T 0 cap] 32));obtain⟨vo,f,b,t⟩:=i.ord;obtain⟨va,X,N⟩:=Xd b;have hne:=ZJ f b;have HP:=la (λw C h7 hg I=>i.push (w7:=w) (v7:=C) (o:=.cells #[iW n,iW (n+1)] 3) (x:=n) (y:=n+1) L f b t h7 hg I);subst N;have c4:=f.cell 0;have q:=la (b.alloc (.cells #[iW n,iW (n+1)] 3));have F:=la hne;have k:=(qb.new W 32 #[pa 3,.string s,pa c,pa n,.slice T 0 cap]);have G:=la (int_ne Ba k b);have E:=la (k.alloc (.cells #[iW n,iW (n+1)] 3));have H:=la (f.alloc (.cells #[iW n,iW (n+1)] 3));have BP:l.length<=900000:=by omega
 obtain⟨i0,K,O,P,Q⟩:=info_parts Hl;have hR1:R+1<W.heap.size:=by omega
 clear A z hl J i f b t hne k;simp only[nd]at*
 go_enter func135,ntmps135;go_wp2_with (at_builtin;refine wpList_append_own_at _ Ra _ _ 26 Ra R 3 i0 _ 1 8 Tryz.underlying26 K O P Q rfl Ba _ _ _ Ra q.o _ 2 2 [iW n,iW _] Ra Ra (lV _ _ _ _ _ (Ia _ _)) (by intro u V;simp at V;rcases V with rfl|rfl<;>rfl) (by unfold maxLen;omega) ja (by simp;omega) ?_;intro C w d a m g;refine Hid.o ?_);refine la ?_;have Y:=la (HP.o w C d a g);have j:=H.o.grown a (λe=>F.o _ e.symm rfl);have c7:=j.cell 0;have z7:=j.frozen 0;obtain⟨S,p,M⟩:=Xd d;subst M;have h:=E.o.grown a (λe=>G.o _ e.symm rfl);have x7:=(World.cell?_of_block (Oc w (Ya _) (.slice S (l.length+2) p) W.heap.size (by show W.heap.size≠R+1;omega))).trans (h.cell 4);clear d a m g j h;go_wp2
 go_rounds 1
 go_end0
 rw[Z.o];exact⟨rfl,Y.o⟩
theorem YQ(d:List Fa)(B:Nat)(w0:Ca)(b R:Nat)(a:Fa)(l:VQ w0 b R a)(k:B<=R):∀(N:Nat) (f:Fo),f.size<=N->Gk d f->WQ B w0 b R a f:=by
 intro N
 induction N with
 | zero=>intro f h;obtain⟨g,s,c,n,e⟩:=f;grind [Fo.size]
 | succ N p=>
  intro f h hw;obtain⟨g,s,c,n,e⟩:=f;have o:=en g c n s e;rcases hw with⟨i,rfl,rfl,rfl,rfl⟩|⟨rfl,_,j,_,_,rfl⟩|⟨i,rfl,rfl,rfl,j⟩
  ·grind [tz]
  ·cases m:Lh s a.name with
   | false=>grind [jV]
   | true=>grind [XQ]
  grind [tz,Si]
end Go.Proofs.YtdipkbobalnilaaGreatDoor
