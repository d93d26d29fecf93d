/- The walk of (*maker).node: the place of a node in the table. A bound on the table. -/
import Derived.Test.YtdipkbobalnilaaGreatDoorAl
import Derived.Test.YtdipkbobalnilaaGreatDoorDgTM
import Derived.Test.YtdipkbobalnilaaGreatDoorShelfAB
import Derived.Deep.DeepCutAuto
import Derived.Shelf.AbstractIn
set_option maxRecDepth 100000
set_option maxHeartbeats 4000000
namespace Go.Proofs.YtdipkbobalnilaaGreatDoor
open Tryz
open Go.RowKit
variable{j:Nat}{T:List Dn}{E:TypeId}{Q:List Nat}
theorem YU{a b:Na}(h:a=b):Ending.returned (.string a)=.returned (.string b):=by rw[h]
abbrev acO(w:Ca):Prop:=Lib.TabIs prog w "internal/strconv.uint64pow10" .u64 Lib.pow10Tab
theorem CQ:(prog.info? 5).map (λi=>(i.zero,i.size,i.bytes))=some (some (.int .u8 0),1,1):=by kernel_rfl
theorem Lq:∀(l:List Int),(∀x∈l,Wh x)->(Oh l).length<=22*l.length
 | [],_=>Lb _
 | k::l,h=>by{have c:=Lib.itoa_length_le k (h k Aa).1 (h k Aa).2;(have a:=Lq l λx b=>h x (Pa _ b));rw[Oh,Bc,Qa,Qa];unfold Oh at a;simp only[Qb,nd];omega}
theorem zJ(l:List Int)(k:Nat)(h:k<l.length):Oh (l.take (k+1))=Oh (l.take k)++(Lib.itoa l[k]++[44]):=by
 rw[Ta h];unfold Oh;rw[qd]
 simp
structure bU (w W : Ca) (g : Nat) (rows : Array Ea) (bs : List UInt8) (v : Ea) : Prop where
 own:W.ownsRow w.heap.size 5 1 v bs.length (Lib.byteCells bs)
 below:Da w.heap.size w W
 rows:qb W g 26 rows
theorem sn{b:Array Ea}(h:E≠5):∀c a,(Obj.cells b E (0,0))≠Obj.cells c 5 a:=by
 intro c a e
 injection e with _ d _
 exact h d
theorem bU.num{w W:Ca}{rows:Array Ea}{a:List UInt8}{v:Ea}(h:bU w W j rows a v)(i:Lib.TabBelow prog w.heap.size w "internal/strconv.uint64pow10" .u64 Lib.pow10Tab)(k:Int)(g:Wh k)(m:a.length≤100000000):
  Db 130 #[v,pa k,pa 10] W λe d=>∃b,e=.returned b/\Hid (bU w d j rows (a++Lib.itoa k) b)/\W.heap.size<=d.heap.size:=by
 refine(Tryz.strconv_AppendInt_10 w.heap.size a.length k g.1 g.2 _ _ _ h.own h.below.size ja (i.on h.below)).mono ?_;rintro e n ⟨b,rfl,l,f,c⟩;refine⟨b,rfl,⟨?_,h.below.trans f,c _ _ h.rows Aa (sn Ba)⟩,f.size⟩;rw[Qa,Lib.byteCells_append];exact l
theorem bU.byte{w W d:Ca}{rows:Array Ea}{b:List UInt8}{v i:Ea}(h:bU w W j rows b v)(c:UInt8)(o:Obj)(p:d.ownsRow w.heap.size 5 1 i (b.length+1) (Lib.byteCells b++[.int .u8 c.toNat]))(g:(W.alloc o).grownBy d v.ownBlock):bU w d j rows (b++[c]) i:=by
 refine⟨by rw[Qa,Lib.byteCells_append];exact p,(h.below.alloc h.below.size o).grown g (by rw[Ia];have:=h.below.size;omega) (λk n=>(h.own.lt k n).1),?_⟩;refine qb.grown (qb.alloc h.rows o) g λe=>?_
 have a:=h.rows;rcases h.own.2 with⟨rfl,_⟩|⟨m,cap,l,rfl,_,f,_⟩
 {simp[Value.ownBlock]at e}
 {(have:j=m:=by simpa[Value.ownBlock]using e);subst this;have a:W.heap[j]? =_:=a;rw[f]at a;injection a with a;injection a with _ a _;exact absurd a Ba}
theorem aN(n:Dn)(vc vk:Ea)(w:Ca)(hc:IntsIn w w.heap.size n.Sb vc)(hk:IntsIn w w.heap.size n.kids vk)(X:Wh n.fact)(h1:∀x∈n.Sb,Wh x)(h2:∀x∈n.kids,Wh x)
  (l1:n.Sb.length<=1000000) (l2:n.kids.length<=1000001) (H:acO w):
  Db 87 #[.agg #[pa n.fact,vc,vk,.bool n.leaf]] w λe K=>e=.returned (.string (fh n))/\Da w.heap.size w K:=by
 obtain⟨ac,q,rfl,c1,c2,_⟩:=Sa.shape hc;obtain⟨m,r,rfl,k1,k2,_⟩:=Sa.shape hk;have hT:=la (Lib.tabBelow_of_tabIs H);obtain⟨i0,ib0,ib1,BV,ib3⟩:=info_parts CQ;obtain⟨fact,a,kids,leaf⟩:=n;have HC:=la hc;have HK:=la hk;have H1:=la h1;have H2:=la h2;have lf:=Lib.itoa_length_le fact X.1 X.2;have CJ:=Lq a h1;have CX:=Lq kids h2;clear hc hk h1 h2 H;simp only at HC HK H1 H2 l1 l2 c1 k1 X lf CJ CX
 have HR:Hid (Vp ⟨fact,a,kids,leaf⟩=((if leaf then 49 else 48)::Lib.itoa fact)++([a,kids].take 2).flatMap λl=>58::Oh l):=by{show _=_;unfold Vp;simp}
 have M:Hid (fh ⟨fact,a,kids,leaf⟩=⟨(Vp ⟨fact,a,kids,leaf⟩).toArray⟩):=rfl;generalize fh ⟨fact,a,kids,leaf⟩=R at*
 generalize Vp ⟨fact,a,kids,leaf⟩=RT at*
 have hB0:Da w.heap.size w (w.alloc (.cells #[pa fact,.slice ac a.length q,.slice m kids.length r,.bool leaf] 104)):=(za _ _).alloc (wa _) _;generalize QI:(if leaf=true then(49:UInt8)else 48)=c at*
 have HX:Hid (∀(ci:Int),ci=c.toNat->Db 130 #[.slice (Nb (w.heap.size+1)) 1 1,pa fact,pa 10] ((w.alloc (.cells #[pa fact,.slice ac a.length q,.slice m kids.length r,.bool leaf] 104)).alloc (.cells #[.int .u8 ci] 5)) λe K=>
   ∃v,e=.returned v/\Da w.heap.size w K/\qb K w.heap.size 104 #[pa fact,.slice ac a.length q,.slice m kids.length r,.bool leaf]/\Hid (K.ownsRow w.heap.size 5 1 v (c::Lib.itoa fact).length (Lib.byteCells (c::Lib.itoa fact)))/\w.heap.size+2<=K.heap.size):=by
  intro ci hcc;subst hcc
  have Z:((w.alloc (.cells #[pa fact,.slice ac a.length q,.slice m kids.length r,.bool leaf] 104)).alloc (.cells #[.int .u8 c.toNat] 5)).ownsRow w.heap.size 5 1 (.slice (Nb (w.heap.size+1)) 1 1) 1 [.int .u8 c.toNat]:=by{have:=World.ownsRow_lit (base:=w.heap.size) (e:=5) (size:=1) (w.alloc (.cells #[pa fact,.slice ac a.length q,.slice m kids.length r,.bool leaf] 104)) #[.int .u8 c.toNat] 1 Aa Ba rfl;simpa using this}
  have T:Da w.heap.size w ((w.alloc (.cells #[pa fact,.slice ac a.length q,.slice m kids.length r,.bool leaf] 104)).alloc (.cells #[.int .u8 c.toNat] 5)):=hB0.alloc Aa _;refine(Tryz.strconv_AppendInt_10 w.heap.size 1 fact X.1 X.2 _ _ _ Z (by simp;omega) ja (hT.o.on T)).mono ?_;rintro e K ⟨v,rfl,ho,hb,A7⟩;refine⟨v,rfl,T.trans hb,A7 _ _ (qb.alloc (qb.new w _ _) _) Aa (sn Ba),?_,by have:=hb.size;simp at this;omega⟩;rw[Qb,Nat.add_comm];exact ho
 have HE:Hid (if leaf then(49:Int)=c.toNat else(48:Int)=c.toNat):=by{show if leaf then(49:Int)=c.toNat else(48:Int)=c.toNat;cases leaf<;>(subst QI;rfl)}
 clear QI;cases leaf
 all_goals
  go_enter func87,ntmps87;go_wp2_with (go_at_call 130;refine(HX.o _ HE.o).mono ?_;rintro e L ⟨v1,rfl,U,y,B,Un⟩;refine Hid.o ?_);refine la ?_;have y1:=y.cell 1;have y2:=y.cell 2;have S0:Hid (bU w (L.alloc (.cells #[.slice ac a.length q,.slice m kids.length r] 26)) L.heap.size #[.slice ac a.length q,.slice m kids.length r] (c::Lib.itoa fact) v1):=⟨B.o.alloc _,U.alloc ja _,qb.new _ _ _⟩;have amJ:w.heap.size+2<=L.heap.size:=Un;clear B U y;go_wp2
  go_loopw [3,26] (λv i wr=>∃j:Nat,j<=2/\i=pa j/\Hid (∃G,bU w wr L.heap.size #[.slice ac a.length q,.slice m kids.length r] G v/\G=(c::Lib.itoa fact)++([a,kids].take j).flatMap λl=>58::Oh l)) (λ_ i _=>2-(intOf i).toNat)
  case atStart=>exact⟨0,ja,rfl,_,S0.o,Aa⟩
  case round=>
   rename Ca=>wq
   obtain⟨j,hj,rfl,t⟩:=hrel;clear S0;by_cases hlt:j<2
   ·obtain⟨l,al,N,hcell,J,S,hlen,vF,W,E⟩:∃(l:List Int) (al:Option Addr) (N:Nat),(#[.slice ac a.length q,.slice m kids.length r]:Array Ea)[j]? =some (.slice al l.length N)/\Hid (IntsIn w w.heap.size l (.slice al l.length N))/\Hid (∀x∈l,Wh x)/\l.length<=1000001/\l.length<=N/\N<=maxLen/\
      Hid (([a,kids].take (j+1)).flatMap (λl=>58::Oh l)=([a,kids].take j).flatMap (λl=>58::Oh l)++58::Oh l/\(([a,kids].take j).flatMap λl=>58::Oh l).length<=22000001/\(Oh l).length<=22000022):=by
     rcases(by omega:j=0\/j=1)with rfl|rfl
     {exact⟨a,ac,q,rfl,HC,H1,ja,c1,c2,Aa,Aa,ja⟩}
     {exact⟨kids,m,r,rfl,HK,H2,l2,k1,k2,Aa,by simp;omega,ja⟩}
    unfold maxLen at W;obtain⟨G,F,s⟩:=t.o;have CA:G.length<=22000100:=by rw[s];simp only[Qa,Qb];have:=E.o.2.1;omega
    have x0:wq.cell? (Ja L.heap.size j)=some (.slice al l.length N):=(F.rows.cell j).trans hcell;have M:=la F;have J3:=la s;have hsw:=F.below.size;have BP:=E.o.2.2;clear F s t hcell;go_wp2_with (at_builtin;refine wpList_append_own_at _ rfl _ _ 139 rfl w.heap.size 5 i0 (.int .u8 0) 1 1 Tryz.underlying139 ib0 ib1 BV ib3 rfl Ba _ _ _ rfl (M.o.own.alloc _) (Ya wq.heap.size) 1 1 [.int .u8 58] rfl rfl (cell_one_new _ _ _) (by intro u hu;simp at hu;subst hu;rfl) (by unfold maxLen;omega) ja (by simp;omega) ?_;intro v2 w2 C z _ _;have S2:=la (M.o.byte 58 _ C z);clear C z M;refine Hid.o ?_);refine la ?_;go_wp2
    go_loopw [3,35] (λv i wr=>∃k:Nat,k<=l.length/\i=pa k/\Hid (bU w wr L.heap.size #[.slice ac a.length q,.slice m kids.length r] (G++[58]++Oh (l.take k)) v)) (λ_ i _=>l.length-(intOf i).toNat)
    case atStart=>exact⟨0,ja,rfl,by simpa[Oh]using S2⟩
    case round=>
     obtain⟨k,hk,rfl,t⟩:=hrel;clear S2;by_cases A:k<l.length
     ·obtain⟨b,off,rfl,Tn,hcc⟩:=Sa.one J.o k A
      have acP:=(t.o.below.cell (p:=Ja b (off+k)) Tn).trans hcc;have RF:=zJ l k A;have f:=S.o l[k] (Oa A)
      have X2:(Oh (l.take k)).length<=22000000:=by{have h:=Lq (l.take k) (λx hx=>S.o x (List.mem_of_mem_take hx));rw[de]at h;omega}
      generalize l[k]=x at*
      have O6:=la RF;have hlx:=Lib.itoa_length_le x f.1 f.2;have XT:(G++[58]++Oh (l.take k)).length<=50000000:=by simp only[Qa,Qb,nd];omega
      have Q:=la (t.o.num hT.o x f ja);have mF:=t.o.below.size;clear hcc RF t f
      go_wp2_with (first
       | (go_at_call 130;refine Q.o.mono ?_;rintro e w3 ⟨v3,rfl,I,LY⟩;have B7:w.heap.size<=w3.heap.size:=ja)
       | (at_builtin;refine wpList_append_own_at _ rfl _ _ 139 rfl w.heap.size 5 i0 (.int .u8 0) 1 1 Tryz.underlying139 ib0 ib1 BV ib3 rfl Ba _ _ _ rfl (I.o.own.alloc _) (Ya w3.heap.size) 1 1 [.int .u8 44] rfl rfl (cell_one_new _ _ _) (by intro u hu;simp at hu;subst hu;rfl) (by rw[Qa];unfold maxLen;omega) (by rw[Qa];omega) (by simp;omega) ?_;intro v4 w4 D d _ _;have S4:=la (I.o.byte 44 _ D d);clear D d I))
      go_roundw
      case rel=>exact⟨k+1,ja,by go_num,by rw[O6.o];simpa using S4⟩
      case measure=>simp[intOf];omega
     {(have Y:k=l.length:=ja);have HS:=la (show bU w wr L.heap.size #[.slice ac a.length q,.slice m kids.length r] (G++58::Oh l) _ by have:=t.o;rw[Y,Ub]at this;simpa using this);clear t Y;go_wp2;go_roundw;(case rel=>exact⟨j+1,ja,by go_num,_,HS.o,by rw[J3.o,E.o.1];simp⟩);case measure=>simp[intOf];omega}
   {(have hj2:j=2:=ja);obtain⟨G,F,s⟩:=t.o;(have V:G=RT:=by rw[s,hj2,HR.o]);rw[V]at F;(have hne:RT≠[]:=by rw[HR.o];simp);have O:=la (show R=⟨RT.toArray⟩from M.o);have HB:=la F.below;(rcases F.own.2 with⟨_,c⟩|⟨g,cap,Aq,rfl,_,_,_,_,_,_⟩);{exact absurd (List.length_eq_zero_iff.1 c) hne};{have hcv:=run_convert_bytes_back (P:=prog) wq 139 9 5 (Ya g) cap RT Tryz.underlying139 Tryz.underlying5 Tryz.underlying9 (λj hj=>F.own.cells (g:=g) rfl j _ (by simp[Lib.byteCells,hj]));clear s V F t hne HR M;go_wp2;go_ret;exact⟨YU O.o.symm,HB.o⟩}}
theorem dz:(prog.info? 104).map (λi=>(i.zero,i.size,i.bytes))=some (some (.agg #[pa 0,Ua,Ua,.bool false]),4,64):=by kernel_rfl
theorem Cr.key:KeyLaw Value.string prog 9:=DJ Tryz.underlying9
theorem Fq:∀w,(zeroValue 3).run prog w=.ok (pa 0) w:=Tryz.zeroValue3
structure cU (W : Ca) (H mb : Nat) (S : List Nat) (t : List Dn) (v : Ea) (ab : Nat) (xs : List Ph) : Prop where
 ge:H<=mb
 Pd:qb W mb 114 #[v,.map (some ab)]
 row:W.ownsRow H 104 4 v xs.length (xs.flatMap Ph.cells)
 nodes:xs.map (·.n)=t
 ok:∀x∈xs,x.Ok W H S
 ZU:H<=ab
 map:Wb Value.string (Value.int .i64) W ab (Ir t)
theorem cU.is{W:Ca}{b:Nat}{v:Ea}{a:Nat}{c:List Ph}(h:cU W j b Q T v a c)(d:T.length<=1000000):Zh W j b Q T:=
 ⟨h.ge,⟨v,_,c,h.Pd,h.row,h.nodes,h.ok,.inr ⟨a,rfl,h.ZU,h.map⟩⟩,d⟩
theorem cU.below{W c:Ca}{H b:Nat}{S:List Nat}{t:List Dn}{v:Ea}{d:Nat}{e:List Ph}(h:cU W H b S t v d e){n:Nat}(a:Da n W c)(i:W.heap.size<=n):cU c H b S t v d e:=
 ⟨h.ge,(a.block b (by have:=h.Pd.lt;omega)).trans h.Pd,lh h.row (λg f=>a.block g (by have:=(h.row.lt g f).2;omega)),h.nodes,λx j=>(h.ok x j).step (re.jc a i),h.ZU,h.map.below a (by have:=h.map.lt;omega)⟩
theorem sg(W:Ca)(b i:Nat)(u:Ea):W.grownBy (W.setCell (Ja b i) u) (some b):=
 ⟨rfl,rfl,rfl,Aa,λk _ a=>heap_setCell_other W _ k u (λe=>a (by simp[e]))⟩
theorem jE{W:Ca}{a:Nat}{v:Ea}{n:Nat}{l:List Ea}{c:Array Ea}(f:W.ownsRow j 104 4 v n l)(b:qb W a 114 c):v.ownBlock=none\/v.ownBlock≠some a:=by
 rcases f.2 with⟨rfl,_⟩|⟨g,cap,d,rfl,_,h,_⟩
 {exact .inl rfl}
 ·right
  intro e;have:g=a:=by grind [Value.ownBlock]
  subst this;have b:W.heap[g]? =_:=b
  grind
theorem Xd{W:Ca}{e size n:Nat}{v:Ea}{d:List Ea}(h:W.ownsRow j e size v n d):∃a c,v=.slice a n c:=by
 rcases h.2 with⟨rfl,rfl⟩|⟨g,cap,b,rfl,_⟩
 all_goals grind
theorem kE{W:Ca}{a:Nat}{S:List Nat}{f:Array Ea}(g:qb W a 114 f)(c:j<=a)(i:Nat)(u:Ea):re j S W (W.setCell (Ja a i) u):=
 re.bn (sg W a i u) λb e=>by{(cases e);refine⟨c,.inr λo d=>?_⟩;rw[g]at d;cases d;rfl}
def acQ(e:Nat)(W a:Ca):Prop:=∀b d c,W.heap[b]? =some (.map d c)->W.cell? (Ja e 1)≠some (.map (some b))->a.heap[b]? =some (.map d c)/\a.cell? (Ja e 1)≠some (.map (some b))
structure Ly (H mb : Nat) (W W' : Ca) : Prop where
 s:re H [] W W'
 k:acQ mb W W'
theorem Ly.trans{H d:Nat}{W e a:Ca}(h:Ly H d W e)(k:Ly H d e a):Ly H d W a:=
 ⟨h.s.trans k.s,λb f c j hne=>let⟨g,i⟩:=h.k b f c j hne;k.k b f c g i⟩
theorem Ly.jc{H f:Nat}{W e:Ca}(a:Da W.heap.size W e)(d:f<W.heap.size):Ly H f W e:=
 ⟨re.jc a ja,λb g c h hne=>⟨(a.block b (zf h)).trans h,by rw[a.cell d];exact hne⟩⟩
theorem DQ{W:Ca}{a:Nat}{v:Ea}{f:List Ph}(e:j<=a)(d:qb W a 114 #[v,.map none])(h:W.ownsRow j 104 4 v f.length (f.flatMap Ph.cells))(i:f.map (·.n)=[])(k:∀x∈f,x.Ok W j Q)(o:Obj):
  cU (((W.setCell (Ja a 1) (.map (some (W.heap.size+1)))).alloc o).alloc (.map #[] 0)) j a Q [] v (W.heap.size+1) f/\Ly j a W (((W.setCell (Ja a 1) (.map (some (W.heap.size+1)))).alloc o).alloc (.map #[] 0)):=by
 have r:=kE (S:=Q) d e 1 (.map (some (W.heap.size+1)));have p:=kE (S:=[]) d e 1 (.map (some (W.heap.size+1)));have l:j<=W.heap.size:=by have:=d.lt;omega
 refine⟨⟨e,qb.alloc (qb.alloc (d.set 1 _) _) _,((h.kept (sg W a 1 _) (jE h d)).alloc _).alloc _,i,λx m=>(((k x m).step r).step (re.alloc (re.refl _ _ _) _)).step (re.alloc (re.refl _ _ _) _),ja,?_⟩,(p.alloc _).alloc _,λb s c g _=>?_⟩
 rotate_left
 ·have hlt:=zf g
  have hne:b≠a:=by{rintro rfl;rw[d]at g;cases g}
  refine⟨by grind [Below.heap_alloc,Below.heap_setCell],?_⟩;have q:=(qb.alloc (qb.alloc (d.set 1 (.map (some (W.heap.size+1)))) o) (.map #[] 0)).cell 1
  grind
 have:=Wb.made (ek:=Value.string) (ev:=Value.int .i64) ((W.setCell (Ja a 1) (.map (some (W.heap.size+1)))).alloc o)
 simpa[Ir]using this
theorem qG{W:Ca}{l:List (Na×Int)}(h:Wb Value.string (Value.int .i64) W j l):∀o,W.heap[j]? =some o->fi o=false:=by
 obtain⟨d,c,b,_⟩:=h;intro o a;rw[b]at a;cases a;rfl
theorem rG{W:Ca}{v:Ea}{n:Nat}{l:List Ea}(d:W.ownsRow j 104 4 v n l):∀b,v.ownBlock=some b->j<=b/\∀o,W.heap[b]? =some o->fi o=false:=by
 intro b h;rcases d.2 with⟨rfl,_⟩|⟨g,cap,c,rfl,e,f,_⟩
 ·grind [Value.ownBlock]
 {(have:g=b:=by grind [Value.ownBlock]);subst this;exact⟨e,λo a=>by rw[f]at a;cases a;rfl⟩}
theorem Cv{W:Ca}{a:Nat}{l:List (Na×Int)}(h:Wb Value.string (Value.int .i64) W a l){b:Array Ea}{z:Nat×Nat}(f:W.heap[j]? =some (.cells b E z)):j≠a:=by
 rintro rfl;obtain⟨d,c,e,_⟩:=h
 grind
theorem aV{wc h w1:Ca}{i:Nat}{v:Ea}{d:Nat}{l:List Ph}(f:cU wc j i Q T v d l){x:Ph}(V:x.Ok wc j Q)(hn:x.n∉T)
  (L:Wb Value.string (Value.int .i64) h d (ins (Ir T) (fh x.n) (T.length:Int))) (a:Bq d wc h) (o:Obj) {gg cap:Nat}
  (t:w1.ownsRow j 104 4 (.slice (Nb gg) (l.length+1) cap) (l.length+1) (l.flatMap Ph.cells++x.cells)) (K:(h.alloc o).drew.grownBy w1 v.ownBlock):
  cU (w1.setCell (Ya i) (.slice (Nb gg) (l.length+1) cap)) j i Q (T++[x.n]) (.slice (Nb gg) (l.length+1) cap) d (l++[x])/\Ly j i wc (w1.setCell (Ya i) (.slice (Nb gg) (l.length+1) cap)):=by
 have P:j<=d/\∀o,wc.heap[d]? =some o->fi o=false:=⟨f.ZU,qG f.map⟩;have W:∀Q,re j Q wc h:=λQ=>re.wo a ⟨P.1,.inr P.2⟩
 have R:wc.grownBy h _:=⟨a.os,a.tape,a.output,De a.size.symm,λk _ hne=>a.block k (λe=>hne (by rw[e]))⟩
 have D:v.ownBlock=none\/v.ownBlock≠some d:=by{(rcases f.row.2 with⟨rfl,_⟩|⟨g,c,E,rfl,_,B,_⟩);{exact .inl rfl};{right;intro e;(have:g=d:=by grind [Value.ownBlock]);exact Cv f.map B this}}
 have r:=f.row.kept R D;have G:qb h i 114 _:=(a.block i (Cv f.map f.Pd)).trans f.Pd;have X:∀Q,re j Q h _:=λQ=>re.jc (((za _ h).alloc (wa _) o).drew) (wa _)
 have S:qb ((h.alloc o).drew) i 114 _:=qb.alloc G o;have O:=(r.alloc o).drew
 have Y:∀Q,re j Q ((h.alloc o).drew) w1:=λQ=>re.bn K λb e=>by
  obtain⟨w,A⟩:=rG O b e
  grind
 have m:qb w1 i 114 #[v,.map (some d)]:=by
  grind [qb.grown,jE]
 have Z:∀Q,re j Q w1 (w1.setCell _ (.slice (Nb gg) (l.length+1) cap)):=λQ=>kE m f.ge 0 _
 have p:=λQ=>(((W Q).trans (X Q)).trans (Y Q)).trans (Z Q)
 refine⟨⟨f.ge,m.set 0 _,?_,by rw[Pb,f.nodes];rfl,?_,f.ZU,?_⟩,p [],λb u c F hne=>?_⟩
 ·rw[Qa,qd]
  have:=t.kept (sg w1 i 0 (.slice (Nb gg) (l.length+1) cap)) (jE t m)
  grind
 {intro y z;(rcases List.mem_append.1 z with z|z);{exact(f.ok y z).step (p Q)};{rw[Qd]at z;rw[z];exact V.step (p Q)}}
 ·have M:Wb _ _ ((h.alloc o).drew) d _:=L.alloc o
  have C:some d≠v.ownBlock:=λe=>by
   grind
  have N:Wb Value.string (Value.int .i64) w1 d (ins (Ir T) (fh x.n) T.length):=by{obtain⟨u,c,w,A⟩:=M;exact⟨u,c,(K.block d (zf w) C).trans w,A⟩}
  have U:Wb Value.string (Value.int .i64) (w1.setCell (Ya i) (.slice (Nb gg) (l.length+1) cap)) d (ins (Ir T) (fh x.n) T.length):=by{obtain⟨u,c,w,A⟩:=N;exact⟨u,c,(Oc w1 _ _ d (λe=>by have:=Cv ⟨u,c,w,A⟩ m;grind)).trans w,A⟩}
  grind [EJ,Il,qC]
 ·have H:b≠d:=λe=>hne (by rw[e];exact f.Pd.cell 1)
  have I:b≠i:=by{rintro rfl;rw[f.Pd]at F;cases F}
  have s:((h.alloc o).drew).heap[b]? =some (.map u c):=by
   show(h.alloc o).heap[b]? =_
   rw[Bd _ _ _ (by rw[a.size];grind),a.block b H];exact F
  have J:some b≠v.ownBlock:=λe=>by{(rcases f.row.2 with⟨rfl,_⟩|⟨g,c,E,rfl,_,B,_⟩);all_goals grind [Value.ownBlock]}
  refine⟨by rw[Oc _ _ _ b I,K.block b (zf s) J];exact s,?_⟩;have q:=(m.set 0 (.slice (Nb gg) (l.length+1) cap)).cell 1
  grind
theorem EQ(H j:Nat)(S:List Nat)(t:List Dn)(n:Dn)(vc vk:Ea)(W:Ca)(hm:Zh W H j S t)(hc:Wf W H S n.Sb vc)(D:Wf W H S n.kids vk)(hl:t.length<=900000):
  Db 86 #[Ma j,.string (fh n),.agg #[pa n.fact,vc,vk,.bool n.leaf]] W λe W'=>e=.returned (pa (me t n).2)/\Zh W' H j S (me t n).1/\Ly H j W W':=by
 obtain⟨i0,ib0,ib1,BV,ib3⟩:=info_parts dz;obtain⟨ac,q,rfl,c1,c2,_⟩:=Sa.shape hc.1;obtain⟨p,u,rfl,k1,k2,_⟩:=Sa.shape D.1;obtain⟨P,⟨v,mo,xs,C,h2,h3,h4,Z⟩,h6⟩:=hm;have hlt:=C.lt;have m0:=C.cell 0;have m1:=C.cell 1;have f1:=C.frozen 1;have YK:=@run_makeMap prog;have hq:=λw r=>run_eql_map_nil w 87 9 3 r Tryz.underlying87
 go_enter func86,ntmps86;have X:Hid (∀f,Wb Value.string (Value.int .i64) W f (Ir t)->H<=f->mo=some f->cU W H j S t v f xs):=λf hm ha e=>⟨P,by rw[<-e];exact C,h2,h3,h4,ha,hm⟩
 have H1:=la C;have H2:=la h2;have H4:=la h4;have H5:=la Z;have HC:=la hc;have HK:=la D;clear C h2 h4 Z hc D
 go_upto_if 13 with(fail)
 go_cut[] (λb=>Hid (Ly H j W b/\b.cell? (Ya W.heap.size)=some (pa n.fact)/\b.cell? (Ja W.heap.size 1)=some (.slice ac n.Sb.length q)/\b.cell? (Ja W.heap.size 2)=some (.slice p n.kids.length u)/\b.cell? (Ja W.heap.size 3)=some (.bool n.leaf)/\W.heap.size<b.heap.size/\∃f,cU b H j S t v f xs))
 case first=>
  have H6:=la h6
  have hKs:Hid (∀b,Da _ W b->qb b _ 104 #[.int _ _,.slice ac _ q,.slice p _ u,.bool _]->Ly H j W b/\b.cell? _=some (pa n.fact)/\b.cell? _=some (.slice ac n.Sb.length q)/\b.cell? _=some (.slice p n.kids.length u)/\b.cell? _=some (.bool n.leaf)/\W.heap.size<b.heap.size):=
   λb B D=>⟨Ly.jc B hlt,D.cell 0,D.cell 1,D.cell 2,D.cell 3,D.lt⟩
  cases mo with| none=>{go_wp2;go_meet;(rcases H5.o with⟨_,rfl⟩|⟨f,e,_⟩);{obtain⟨k1,k2⟩:=DQ P H1.o H2.o h3 H4.o (.cells #[pa n.fact,.slice ac n.Sb.length q,.slice p n.kids.length u,.bool n.leaf] 104);have B:qb (((W.setCell (Ja j 1) (.map (some (W.heap.size+1)))).alloc (.cells #[pa n.fact,.slice ac n.Sb.length q,.slice p n.kids.length u,.bool n.leaf] 104)).alloc (.map #[] 0)) W.heap.size 104 #[pa n.fact,.slice ac n.Sb.length q,.slice p n.kids.length u,.bool n.leaf]:=by{have:=qb.alloc (qb.new (W.setCell (Ja j 1) (.map (some (W.heap.size+1)))) 104 #[pa n.fact,.slice ac n.Sb.length q,.slice p n.kids.length u,.bool n.leaf]) (.map #[] 0);simpa using this};exact⟨k2,B.cell 0,B.cell 1,B.cell 2,B.cell 3,B.lt,_,k1⟩};{cases e}}| some f=>{go_wp2;go_meet;(rcases H5.o with⟨e,_⟩|⟨ab',e,Z,h7⟩);{cases e};{(cases e);have B:Da _ W (W.alloc (.cells #[pa n.fact,.slice ac n.Sb.length q,.slice p n.kids.length u,.bool n.leaf] 104)):=(za _ _).alloc (wa _) _;obtain⟨L,M,q2,q3,q4,q5⟩:=hKs.o _ B (qb.new _ _ _);exact⟨L,M,q2,q3,q4,q5,_,(X.o f h7 Z rfl).below B ja⟩}}
 case rest=>
  obtain⟨L,M,q2,q3,q4,q5,f,d⟩:=hcut.o;have O:=Wf.step HC.o (L.s.more Aa);have Q:=Wf.step HK.o (L.s.more Aa);have I:=af Cr.key Tryz.underlying87 Fq d.map (fh n);rw[qC]at I;have m0:=d.Pd.cell 0;have m1:=d.Pd.cell 1;have HQ:=la L;clear H1 H2 H4 H5 HC HK X hcut L f1 hq;by_cases K:n∈t
  {rw[Ga K]at I;have HA:=la (show me t n=(t,t.idxOf n) by unfold me;rw[Ga K]);have X:=la d;go_wp2;go_ret;rw[HA.o];exact⟨rfl,X.o.is h6,HQ.o⟩}
  ·rw[if_neg K]at I
   have HA:=la (show me t n=(t++[n],t.length) by unfold me;rw[if_neg K]);have V:xs.length=t.length:=by rw[<-d.nodes,Va]
   obtain⟨G,ZB,R,a⟩:=run_store Cr.key Tryz.underlying87 d.map (fh n) t.length;have i:qb G j 114 _:=(a.block j (Cv d.map d.Pd)).trans d.Pd;have n0:=i.cell 0;have n1:=i.cell 1;have abY:=i.lt
   have E:W.heap.size≠f:=by{rintro rfl;obtain⟨es,c,C,_⟩:=d.map;simp only[World.cell?,C]at M;cases M}
   have p1:=(a.cell E).trans M;have p2:=(a.cell E).trans q2;have p3:=(a.cell E).trans q3;have p4:=(a.cell E).trans q4;have g1:wc.grownBy G _:=⟨a.os,a.tape,a.output,De a.size.symm,λk _ hne=>a.block k (λe=>hne (by rw[e]))⟩
   have z:=d.row.kept g1 (by
    rcases d.row.2 with⟨rfl,_⟩|⟨g,c,Aq,rfl,_,aL,_⟩
    {exact .inl rfl}
    ·right
     intro e
     have:g=f:=by simpa[Value.ownBlock]using e
     exact Cv d.map aL this)
   have m:=la z;have l:=la (λo Y cap F T hg=>aV (x:=⟨n,_,_⟩) d ⟨O,Q⟩ K R a o (gg:=Y) (cap:=cap) (w1:=F) T hg);obtain⟨va,A,U⟩:=Xd d.row;clear d O Q K R a g1 z M q2 q3 q4;rw[V]at U m l;subst U;clear V;have hH2:H<=G.heap.size:=by omega
   have Lk:Hid (∀F,(G.alloc (.cells #[pa n.fact,.slice ac n.Sb.length q,.slice p n.kids.length u,.bool n.leaf] 104)).drew.grownBy F (Value.slice va t.length A).ownBlock->qb F j 114 #[.slice va t.length A,.map (some f)]):=by{intro F hg;(refine qb.grown (W:=(G.alloc _).drew) (qb.alloc i _) hg λe=>?_);(rcases jE m.o i with h|h);{rw[h]at e;cases e};{exact h e.symm}}
   clear i;go_upto_region 7 with(fail)
   go_region_law (refine step_append_lies _ Ra _ _ _ Ra H 104 i0 _ 4 64 Tryz.underlying53 ib0 ib1 BV ib3 rfl ja (.slice va t.length A) t.length _ Ra ((m.o.alloc _).drew) (Ya G.heap.size) 1 1 (#[pa n.fact,.slice ac n.Sb.length q,.slice p n.kids.length u,.bool n.leaf]).toList Ra Ra (World.news_of_block (cs:=#[pa n.fact,.slice ac n.Sb.length q,.slice p n.kids.length u,.bool n.leaf]) (t:=104) (fr:=(0,0)) (heap_alloc_new G _)) (by simp[Value.oneCell']) ja (by unfold maxLen;omega) ja (by simp;omega) (G.heap.size+1) Aa ?_;intro Y cap F J y lF S5;have N:=Lk.o F y;have s0:=N.cell 0;have z0:=N.frozen 0)
   all_goals
    obtain⟨k1,k2⟩:=l.o _ Y cap F J y;have K1:=la k1;have K2:=la k2;go_wp2;go_ret;rw[HA.o];exact⟨rfl,K1.o.is (by rw[Qa,Yd];omega),HQ.o.trans K2.o⟩
abbrev Jh(H:Nat)(W:Ca):Prop:=Lib.TabBelow prog H W "internal/strconv.uint64pow10" .u64 Lib.pow10Tab
theorem Jh.step{W a:Ca}(h:Jh j W)(b:j<=W.heap.size)(hs:re j Q W a):Jh j a:=h.on (hs.below b)
structure zx (n : Dn) : Prop where
 fact:Wh n.fact
 Sb:∀x∈n.Sb,Wh x
 kids:∀x∈n.kids,Wh x
 lc:n.Sb.length<=1000000
 lk:n.kids.length<=1000001
theorem Jp(H g:Nat)(S:List Nat)(t:List Dn)(n:Dn)(z A:Ea)(W:Ca)(r:Zh W H g S t)(p:Wf W H S n.Sb z)(q:Wf W H S n.kids A)(F:t.length<=900000)(i:zx n)(y:Jh H W):
  Db 48 #[Ma g,.agg #[pa n.fact,z,A,.bool n.leaf]] W λe x=>e=.returned (pa (me t n).2)/\Zh x H g S (me t n).1/\Ly H g W x:=by
 obtain⟨ac,d,rfl,I,J,_⟩:=Sa.shape p.1;obtain⟨c,f,rfl,K,L,_⟩:=Sa.shape q.1;have hlt:g<W.heap.size:=by obtain⟨_,⟨v,M,P,s,_⟩,_⟩:=r;exact s.lt
 have u:H<=W.heap.size:=by have:=r.ge;omega
 have b:Da _ W (W.alloc (.cells #[pa n.fact,.slice ac n.Sb.length d,.slice c n.kids.length f,.bool n.leaf] 104)):=(za _ _).alloc (wa _) _
 have B:Hid (∀a,Da (W.heap.size+1) (W.alloc (.cells #[pa n.fact,.slice ac n.Sb.length d,.slice c n.kids.length f,.bool n.leaf] 104)) a->Db 87 #[.agg #[pa n.fact,.slice ac n.Sb.length d,.slice c n.kids.length f,.bool n.leaf]] a λe w''=>e=.returned (.string (fh n))/\Da a.heap.size a w''):=by{intro a k;have j:re H S W a:=(re.jc b (wa _)).trans (re.jc k Aa);have D:=(p.step j).1;have k':=(q.step j).1;exact aN n _ _ a D k' i.fact i.Sb i.kids i.lc i.lk (y.step u j).here}
 have C:Hid (∀a,Da (W.heap.size+1) (W.alloc (.cells #[pa n.fact,.slice ac n.Sb.length d,.slice c n.kids.length f,.bool n.leaf] 104)) a->Db 86 #[Ma g,.string (fh n),.agg #[pa n.fact,.slice ac n.Sb.length d,.slice c n.kids.length f,.bool n.leaf]] a λe w''=>e=.returned (pa (me t n).2)/\Hid (Zh w'' H g S (me t n).1/\Ly H g W w'')):=by{intro a k;(have j:∀S,re H S W a:=λS=>(re.jc b (wa _)).trans (re.jc k Aa));refine(EQ H g S t n _ _ a ((r.below b ja).below k Aa) (p.step (j S)) (q.step (j S)) F).mono ?_;rintro e w'' ⟨rfl,s,E⟩;exact⟨rfl,s,((Ly.jc b hlt).trans (Ly.jc (k.mono Aa) (by simp;omega))).trans E⟩}
 clear r p q b i y;generalize fh n=text at*
 generalize(me t n).1=N at*
 generalize(me t n).2=k' at*
 go_enter func48,ntmps48;go_wp2
 go_region_with (first
  | (go_at_call 87;refine(B.o _ ((za _ _).drew)).mono ?_;rintro e G ⟨rfl,l⟩;have h:=la (((za (W.heap.size+1) (W.alloc (.cells #[pa n.fact,.slice ac n.Sb.length d,.slice c n.kids.length f,.bool n.leaf] 104))).drew).trans (l.mono Aa));have m:qb G W.heap.size 104 #[pa n.fact,.slice ac n.Sb.length d,.slice c n.kids.length f,.bool n.leaf]:=qb.below (W:=(W.alloc (.cells #[pa n.fact,.slice ac n.Sb.length d,.slice c n.kids.length f,.bool n.leaf] 104))) (qb.new W 104 #[pa n.fact,.slice ac n.Sb.length d,.slice c n.kids.length f,.bool n.leaf]) (h.o.mono Aa);have Q:=m.cell 0;have R:=m.cell 1;have T:=m.cell 2;have U:=m.cell 3;clear l m)
  | (go_at_call 86;refine(C.o _ h.o).mono ?_;rintro e O ⟨rfl,w⟩;clear h))
 all_goals
  go_wp2;go_ret;exact⟨rfl,w.o⟩
end Go.Proofs.YtdipkbobalnilaaGreatDoor
