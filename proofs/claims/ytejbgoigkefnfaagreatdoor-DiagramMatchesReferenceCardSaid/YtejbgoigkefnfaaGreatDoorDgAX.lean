/- The walks of ask and step. No conditions. -/
import Derived.Test.YtejbgoigkefnfaaGreatDoorAl
import Derived.Test.YtejbgoigkefnfaaGreatDoorDgAnP
set_option maxRecDepth 100000
set_option maxHeartbeats 4000000
namespace Go.Proofs.YtejbgoigkefnfaaGreatDoor
open Go.RowKit
def jq (p:Nat×Nat):Value:=.agg #[.int .i64 (p.1:Int),.int .i64 (p.2:Int)]
theorem KK :∃i,Tryz.prog.info? 3=some i:=info_of_underlying Tryz.underlying3
theorem Gr :Tryz.prog.plainKey 3=true:=by kernel_rfl
theorem LK :Tryz.prog.cellsOf 3=1:=by kernel_rfl
theorem MK (w:World)(d:Nat)(p q:Nat×Nat):(Op.equalIn (d+1+1) 110 (jq p) (jq q)).run Tryz.prog w=.ok (p==q) w:=by
 obtain⟨i,hi⟩:=KK;obtain⟨x,y⟩:=p;obtain⟨x',y'⟩:=q
 show(Op.equalIn (d+1+1) 110 (.agg #[.int .i64 (x:Int),.int .i64 (y:Int)]) (.agg #[.int .i64 (x':Int),.int .i64 (y':Int)])).run Tryz.prog w=_
 have h0:(part 3 #[Value.int .i64 (x:Int),.int .i64 (y:Int)] 0).run Tryz.prog w=.ok (.int .i64 (x:Int)) w:=run_part_plain w Gr rfl;have h1:(part 3 #[Value.int .i64 (x:Int),.int .i64 (y:Int)] 1).run Tryz.prog w=.ok (.int .i64 (y:Int)) w:=run_part_plain w Gr rfl;have h2:(part 3 #[Value.int .i64 (x':Int),.int .i64 (y':Int)] 0).run Tryz.prog w=.ok (.int .i64 (x':Int)) w:=run_part_plain w Gr rfl;have h3:(part 3 #[Value.int .i64 (x':Int),.int .i64 (y':Int)] 1).run Tryz.prog w=.ok (.int .i64 (y':Int)) w:=run_part_plain w Gr rfl;have e0:(Op.equalIn (d+1) 3 (.int .i64 (x:Int)) (.int .i64 (x':Int))).run Tryz.prog w=.ok ((x:Int)==(x':Int)) w:=run_equalIn_int w d 3 .i64 .i64 _ _ Tryz.underlying3;have e1:(Op.equalIn (d+1) 3 (.int .i64 (y:Int)) (.int .i64 (y':Int))).run Tryz.prog w=.ok ((y:Int)==(y':Int)) w:=run_equalIn_int w d 3 .i64 .i64 _ _ Tryz.underlying3;rw[run_equalIn_array w (d+1) _ _ Tryz.underlying110 hi,LK,show List.range 2=[0,1]from rfl]
 have r:((x,y)==(x',y'))=(((x:Int)==(x':Int))&& ((y:Int)==(y':Int))):=by
  show((x==x')&& (y==y'))=_
  congr 1
  {rw[Nc,Ad,Ad];omega}
  {rw[Nc,Ad,Ad];omega}
 rw[r];simp only[Op.eqItems,Sem.run_bind,Se,Wg,h0,h2,e0,Result.andThen_ok];cases hx:((x:Int)==(x':Int))with| false=>simp| true=>{cases hy:((y:Int)==(y':Int))with| false=>rw[hy]at e1;simp[h1,h3,e1]| true=>rw[hy]at e1;simp[h1,h3,e1]}
theorem yJ (w:World)(p q:Nat×Nat):(Op.equal 110 (jq p) (jq q)).run Tryz.prog w=.ok (p==q) w:=MK w 9998 p q
theorem Rx (w:World)(e:Bool)(p:Nat×Nat):(Instr.checkKey e 10000 110 (jq p)).run Tryz.prog w=.ok () w:=by kernel_rfl
theorem NK (p:Nat×Nat):Instr.sameBits 10000 (jq p) (jq p)=true:=by
 unfold jq;rw[Instr.sameBits];simp[Instr.sameBits]
section
variable {ν : Type} {ev : ν -> Value}
theorem Tx (w:World)(k:Nat×Nat):∀(l:List ((Nat×Nat)×ν)) (es:List MapEntry) (i:Nat),es.map (fun e=>(e.key,e.val))=l.map (fun p=>(jq p.1,ev p.2))->l.lookup k=none->(Instr.findAsking 110 (jq k) es i).run Tryz.prog w=.ok none w
 | [],[],_,_,_=>by simp[Instr.findAsking]
 | (a,x)::l,e::es,i,h,hl=>by{simp only[Va,List.cons.injEq,Rg]at h;obtain⟨⟨h1,h2⟩,h3⟩:=h;rw[Db]at hl;cases hka:k==a with| true=>rw[hka]at hl;cases hl| false=>{rw[hka]at hl;have he:=yJ w k a;rw[hka]at he;simp[Instr.findAsking,h1,he,Tx w k l es (i+1) h3 hl]}}
 | [],e::es,_,h,_=>by cases h
 | (a,x)::l,[],_,h,_=>by cases h
theorem Ux (w:World)(k:Nat×Nat)(v x:ν):∀(l:List ((Nat×Nat)×ν)) (es:List MapEntry) (i:Nat),es.map (fun e=>(e.key,e.val))=l.map (fun p=>(jq p.1,ev p.2))->l.lookup k=some x->
  ∃j,j<es.length/\ (Instr.findAsking 110 (jq k) es i).run Tryz.prog w=.ok (some (i+j,ev x)) w/\ (es[j]?.map (·.key))=some (jq k)/\
   (es.modify j fun e=>{e with key:=jq k,val:=ev v}).map (fun e=>(e.key,e.val))=(ins l k v).map (fun p=>(jq p.1,ev p.2))
 | [],[],_,_,h=>by cases h
 | (a,y)::l,e::es,i,h,hl=>by{simp only[Va,List.cons.injEq,Rg]at h;obtain⟨⟨h1,h2⟩,h3⟩:=h;rw[Db]at hl;have he:=yJ w k a;cases hka:k==a with| true=>{rw[hka]at hl he;(obtain rfl:y=x:=by simpa using hl);(obtain rfl:k=a:=by simpa using hka);refine⟨0,la,?_,by simp[h1],?_⟩;{simp[Instr.findAsking,h1,he,h2]};{simp[ins,h3]}}| false=>{rw[hka]at hl he;obtain⟨j,r0,r1,r2,r3⟩:=Ux w k v x l es (i+1) h3 hl;refine⟨j+1,by simpa using r0,?_,by simpa using r2,?_⟩;{simp[Instr.findAsking,h1,he,r1];omega};{simp[ins,hka,r3,h1,h2]}}}
 | [],e::es,_,h,_=>by cases h
 | (a,y)::l,[],_,h,_=>by cases h
theorem find_eq (w:World)(x:Value)(es:List MapEntry):(Instr.findKey 110 x es).run Tryz.prog w=(Instr.findAsking 110 x es).run Tryz.prog w:=by
 cases es with| nil=>simp[Instr.findKey,run_underlying Tryz.underlying110,Instr.findNow,Instr.findAsking]| cons e es=>simp[Instr.findKey,run_underlying Tryz.underlying110,Instr.findNow,Instr.sameNow]
variable {T E : TypeId}
theorem AK (ht:Tryz.prog.underlying T=some (.map 110 E)){z:Value}(hz:∀w,(zeroValue E).run Tryz.prog w=.ok z w){w:World}{b:Nat}{l:List ((Nat×Nat)×ν)}(h:We jq ev w b l)(k:Nat×Nat):
  (Instr.lookup T (.map (some b)) (jq k) true).run Tryz.prog w=.ok (match l.lookup k with | some x=>.tuple #[ev x,.bool true] | none=>.tuple #[z,.bool false]) w:=by
 obtain⟨es,c,h1,h2⟩:=h;have hc:=fun e=>Rx w e k
 cases hl:l.lookup k with| none=>{have hf:(Instr.findKey 110 (jq k) es.toList).run Tryz.prog w=.ok none w:=by{rw[find_eq];exact Tx w k l es.toList 0 h2 hl};simp[Instr.lookup,run_underlying ht,ai h1,hc,hf,hz]}| some x=>{obtain⟨j,_,r1,_,_⟩:=Ux w k x x l es.toList 0 h2 hl;have hf:(Instr.findKey 110 (jq k) es.toList).run Tryz.prog w=.ok (some (j,ev x)) w:=by{rw[find_eq,r1,dc]};simp[Instr.lookup,run_underlying ht,ai h1,hc,hf]}
theorem pH (ht:Tryz.prog.underlying T=some (.map 110 E)){w:World}{b:Nat}{l:List ((Nat×Nat)×ν)}(h:We jq ev w b l)(k:Nat×Nat)(v:ν):
  ∃w',(Instr.mapUpdate T (.map (some b)) (jq k) (ev v)).run Tryz.prog w=.ok () w'/\ We jq ev w' b (ins l k v)/\ kA b w w':=by
 have hlt:=h.lt;obtain⟨es,c,h1,h2⟩:=h;have hc:=fun e=>Rx w e k
 have put:∀(es':Array MapEntry) (c':Nat),es'.toList.map (fun e=>(e.key,e.val))=(ins l k v).map (fun p=>(jq p.1,ev p.2))->
   We jq ev {w with heap:=w.heap.setIfInBounds b (.map es' c')} b (ins l k v)/\ kA b w {w with heap:=w.heap.setIfInBounds b (.map es' c')}:=fun es' c' he=>
  ⟨⟨es',c',by simp[hlt],he⟩,⟨rfl,rfl,rfl,la,fun j hj=>by simp[Ne.symm hj]⟩⟩
 cases hl:l.lookup k with| none=>{have hf:(Instr.findKey 110 (jq k) es.toList).run Tryz.prog w=.ok none w:=by{rw[find_eq];exact Tx w k l es.toList 0 h2 hl};refine⟨_,?_,put (es.push {key:=jq k,val:=ev v,born:=c}) (c+1) (by simp[h2,Hq l k v hl])⟩;simp[Instr.mapUpdate,run_underlying ht,ai h1,Fp h1,hc,hf]}| some x=>{obtain⟨j,hj,r1,hkey,hm⟩:=Ux w k v x l es.toList 0 h2 hl;have hf:(Instr.findKey 110 (jq k) es.toList).run Tryz.prog w=.ok (some (j,ev x)) w:=by{rw[find_eq,r1,dc]};(have hkey':(es[j]?.map (·.key))=some (jq k):=by simpa using hkey);refine⟨_,?_,put (es.modify j fun e=>{e with key:=jq k,val:=ev v}) c (by rw[Array.toList_modify];exact hm)⟩;(have hst:(Instr.keyThatStays (jq k) (jq k)).run Tryz.prog w=.ok (jq k) w:=by simp[Instr.keyThatStays,NK]);simp[Instr.mapUpdate,run_underlying ht,ai h1,Fp h1,hc,hf,hkey',hst]}
end
section
theorem UA {ν:Type}(k:Nat×Nat)(v:ν)(j:Nat×Nat):∀l:List ((Nat×Nat)×ν),(ins l k v).lookup j=if j=k then some v else l.lookup j
 | []=>by{rw[ins,Db,List.lookup_nil];by_cases h:j=k;{subst h;simp};{(have:(j==k)=false:=by simpa using h);rw[this,Aa h]}}
 | (a,x)::l=>by{rw[ins];by_cases hk:k=a;{subst hk;rw[if_pos la,Db,Db];by_cases h:j=k;{subst h;simp};{(have:(j==k)=false:=by simpa using h);rw[this,Aa h]}};{(have hka:(k==a)=false:=by simpa using hk);rw[hka,Aa la,Db,Db,UA k v j l];by_cases h:j=a;{subst h;(have hjk:¬j=k:=fun e=>hk e.symm);simp[hjk]};{(have:(j==a)=false:=by simpa using h);rw[this]}}}
theorem OK {W:World}{b:Nat}{l:List ((Nat×Nat)×Int)}(h:We jq (Value.int .i64) W b l):∀o,W.heap[b]? =some o->gi o=false:=by
 obtain⟨es,c,h1,_⟩:=h;intro o ho;rw[h1]at ho;cases ho;rfl
theorem RR {W:World}{b ab:Nat}{l:List ((Nat×Nat)×Int)}(h:We jq (Value.int .i64) W ab l){cs:Array Value}{t:TypeId}{z:Nat×Nat}(hb:W.heap[b]? =some (.cells cs t z)):b≠ab:=by
 rintro rfl;obtain⟨es,c,h1,_⟩:=h;rw[h1]at hb;cases hb
structure DR (w0 : World) (K PA PB PD : Nat) (d : List Fa) (ta tb : List Dn) (va vb vd : Value) : Prop where
 mv:Bb w0 (K+1) 65 #[.pointer (some ⟨K,0,none⟩)]
 dv:Bb w0 (K+3) 108 #[.map (some (K+2))]
 bv:Bb w0 (K+4) 109 #[.func (.func 70) #[] #[.pointer (some ⟨K+3,0,none⟩),.pointer (some ⟨PA,0,none⟩),.pointer (some ⟨PB,0,none⟩),.pointer (some ⟨PD,0,none⟩),.pointer (some ⟨K+1,0,none⟩),.pointer (some ⟨K+4,0,none⟩)]]
 ab:Bb w0 PA 34 #[va]
 bb:Bb w0 PB 34 #[vb]
 db:Bb w0 PD 27 #[vd]
 lta:PA<K
 ltb:PB<K
 ltd:PD<K
 ga:Xa yo 4 w0 K ta va
 gb:Xa yo 4 w0 K tb vb
 dom:Xa Iw 4 w0 K d vd
 Nx:tm K w0
 size:K+5<=w0.heap.size
structure Cr (w0 : World) (K : Nat) (S : List Nat) (m : List Dn) (dn : pe) (W : World) : Prop where
 iq:ld K [] w0 W
 is:Pj W K K S m
 own:W.cell? ⟨K,1,none⟩≠some (.map (some (K+2)))
 Cj:∃mp,We jq (Value.int .i64) W (K+2) mp/\ ∀k,mp.lookup k=(dn.lookup k).map (fun(n:Nat)=>(n:Int))
variable {w0 W W' : World} {K : Nat} {S S' : List Nat} {m m' : List Dn} {dn : pe}
theorem Cr.blk (h:Cr w0 K S m dn W){b:Nat}{t:TypeId}{cs:Array Value}(hb:Bb w0 b t cs)(ht:(t==56)=false/\ (t==70)=false):Bb W b t cs:=
 h.iq.keep b _ hb (.inr ⟨by simp[gi,ht.1,ht.2],la⟩)
theorem Cr.size (h:Cr w0 K S m dn W):w0.heap.size<=W.heap.size:=h.iq.size
theorem Cr.lt (h:Cr w0 K S m dn W):K<W.heap.size:=by obtain⟨_,⟨v,mo,xs,h1,_⟩,_⟩:=h.is;exact h1.lt
theorem Cr.step (h:Cr w0 K S m dn W)(hs:Vx K K W W')(hm:Pj W' K K S m'):Cr w0 K S m' dn W':=by
 obtain⟨mp,⟨es,c,h1,h2⟩,h3⟩:=h.Cj;obtain⟨q1,q2⟩:=hs.k (K+2) es c h1 h.own;exact⟨h.iq.trans hs.s,hm,q2,mp,⟨es,c,q1,h2⟩,h3⟩
theorem Cr.below (h:Cr w0 K S m dn W)(hb:Below W.heap.size W W'):Cr w0 K S m dn W':=
 h.step (Vx.Vb hb h.lt) (h.is.below hb (ja _))
theorem Cr.less (h:Cr w0 K S m dn W)(hs:∀k∈S',k∈S):Cr w0 K S' m dn W:=⟨h.iq,h.is.less hs,h.own,h.Cj⟩
theorem Cr.jN (h:Cr w0 K S m dn W){mp:List ((Nat×Nat)×Int)}(kE:∀k,mp.lookup k=(dn.lookup k).map (fun(n:Nat)=>(n:Int))){key:Nat×Nat}{n:Nat}(hu:kA (K+2) W W')(hm:We jq (Value.int .i64) W' (K+2) (ins mp key (n:Int)))
  (hk0:We jq (Value.int .i64) W (K+2) mp):Cr w0 K S m ((key,n)::dn) W'/\ ld K [] W W':=by
 have nN:=OK hk0;have hs:ld K [] W W':=ld.rH hu ⟨ia,.inr nN⟩;have B8:ld K S W W':=hs.more la;obtain⟨hge,⟨v,mo,xs,h1,h2,h3,h4,h5⟩,hlen⟩:=h.is;have hne:K≠K+2:=by omega
 have hb':Bb W' K 70 #[v,.map mo]:=(hu.block K hne).trans h1;refine⟨⟨h.iq.trans hs,⟨hge,⟨v,mo,xs,hb',xi h2 (fun g hg=>hu.block g ?_),h3,fun x hx=>(h4 x hx).step B8,?_⟩,hlen⟩,?_,_,hm,?_⟩,hs⟩
 {rintro rfl;(rcases h2.2 with⟨rfl,_⟩ | ⟨g',cap,cur,rfl,_,LV,_⟩);{cases hg};{(have:g'=K+2:=by simpa[Value.ownBlock]using hg);subst this;exact RR hk0 LV rfl}}
 {(rcases h5 with h5 | ⟨ab,e1,e2,e3⟩);{exact .inl h5};{refine .inr ⟨ab,e1,e2,?_⟩;obtain⟨es,c,q1,q2⟩:=e3;refine⟨es,c,(hu.block ab ?_).trans q1,q2⟩;rintro rfl;exact h.own (by rw[h1.cell 1,e1];rfl)}}
 {rw[hu.cell (p:=⟨K,1,none⟩) hne];exact h.own}
 {intro k;rw[UA,Db];by_cases hk:k=key;{subst hk;simp};{(have:(k==key)=false:=by simpa using hk);rw[this,Aa hk];exact kE k}}
theorem Cr.Lu {base n:Nat}{kv v':Value}{xs:List Value}(h:Cr w0 K (xe kv++S) m dn W)(hK:K+5<=w0.heap.size)(ho:W.ownsRow base 3 1 kv n xs)(hb:w0.heap.size<=base)(hg:W.grownBy W' kv.ownBlock){g:Nat}(hv:v'.ownBlock=some g)(hat:kv.ownBlock=some g\/g=W.heap.size):
  Cr w0 K (xe v'++S) m dn W'/\ ld K (xe kv) W W':=by
 have hown:=Ie ho;have hs1:ld K (xe kv) W W':=ld.Ej hg fun b e=>⟨by have:=(hown b e).1;omega,.inl (by unfold xe;rw[e];simp)⟩
 have hk:∀b o,W.heap[b]? =some o->gi o=false->b<W.heap.size->W'.heap[b]? =some o:=fun b o h1 h2 h3=>by{refine(hg.block b h3 fun e=>?_).trans h1;obtain⟨_,cs,h4⟩:=hown b e.symm;rw[h1]at h4;(cases h4);simp[gi]at h2}
 have VM:xe v'=[g]:=by unfold xe;rw[hv];rfl
 refine⟨⟨?_,?_,?_,?_⟩,hs1⟩
 {(refine((h.iq.more (S':=xe kv) la).trans hs1).less fun b hb' hlt=>?_);(have e:kv.ownBlock=some b:=by unfold xe at hb';simpa using hb');have:=(hown b e).1;omega}
 {rw[VM];(rcases hat with e | e);{(have:xe kv=[g]:=by unfold xe;rw[e];rfl);rw[<-this];exact h.is.keep (hs1.more fun b hb=>Cd _ hb) hk};{(refine(h.is.fresh (k:=g) ia (hs1.more fun b hb=>Cd _ hb) hk).less fun k hk=>?_);(rcases List.mem_append.1 hk with hk | hk);{simp at hk;simp[hk]};{simp[hk]}}}
 {(have:W'.heap[K]? =W.heap[K]? :=hg.block K h.lt fun e=>by have:=(hown K e.symm).1;omega);rw[World.cell?_of_block (a:=⟨K,1,none⟩) this];exact h.own}
 {obtain⟨mp,⟨es,c,h1,h2⟩,h3⟩:=h.Cj;exact⟨mp,⟨es,c,hk _ _ h1 rfl (je h1),h2⟩,h3⟩}
end
section
variable {nf : Nat} {lo hi : Nat -> Int} {a b : List Dn} {A B : Nat -> (Nat -> Int) -> Bool}
def sk (m:List Dn):Nat:=(m.filter fun n=> !n.kids.isEmpty).length
theorem DE (m u:List Dn):sk (m++u)=sk m+sk u:=by unfold sk;rw[Xf,Ea]
theorem SR (m:List Dn):sk m<=m.length:=tf _ _
theorem EE (m:List Dn)(n:Dn):sk (Md m n).1<=sk m+(if n.kids=[]then 0 else 1):=by
 unfold Md;by_cases h:n∈m
 {rw[if_pos h];show sk m<=_;omega}
 {rw[Aa h];show sk (m++[n])<=_;rw[DE];unfold sk;by_cases hk:n.kids=[];{rw[if_pos hk];simp[hk]};{rw[Aa hk];have:=tf (fun n:Dn=> !n.kids.isEmpty) [n];simp only[Hb]at this;omega}}
theorem sH (m:List Dn)(i:Int)(ss ks:List Int):sk (Mc m i ss ks).1<=sk m+1:=by
 unfold Mc
 dsimp only
 split
 {show sk m<=_;omega}
 {have:=EE m ⟨i,(Hh (ks.getD 0 0) (ss.tail.zip ks.tail)).1,ks.getD 0 0::(Hh (ks.getD 0 0) (ss.tail.zip ks.tail)).2,false⟩;(split at this);{omega};{exact this}}
theorem Mx {m:List Dn}(h:Made nf lo hi m):m.length<=sk m+2:=by
 have e:m.length=(m.filter fun n=> !n.kids.isEmpty).length+(m.filter fun n=>decide (n.kids=[])).length:=by{have:=List.length_eq_countP_add_countP (fun n:Dn=> !n.kids.isEmpty) (l:=m);rw[List.countP_eq_length_filter,List.countP_eq_length_filter]at this;simpa using this}
 have q:(m.filter fun n=>decide (n.kids=[])).length<=[(⟨0,[],[],false⟩:Dn),⟨0,[],[],true⟩].length:=by{(refine Xc (h.nodup.sublist (List.filter_sublist ..)) fun n hn=>?_);obtain⟨h1,h2⟩:=List.mem_filter.1 hn;obtain⟨k,hk,rfl⟩:=zb h1;have hp:=h.table k hk;rw[Eb _ _ _ hk]at hp;(have hz:m[k].kids=[]:=by simpa using h2);have:=hp.leaf hz;(rcases hm:m[k]with⟨f,c,ks,bl⟩);rw[hm]at hz this;simp only at hz this;obtain⟨rfl,rfl⟩:=this;subst hz;cases bl<;>simp}
 unfold sk;simp only[ib,Cc]at q;omega
structure fA (nf : Nat) (lo hi : Nat -> Int) (a b : List Dn) (A B : Nat -> (Nat -> Int) -> Bool) (L : Nat) (m : List Dn) (dn : pe) : Prop where
 made:Made nf lo hi m
 Cj:∀x y k,dn.lookup (x,y)=some k->k<m.length/\ Pb nf a b x y<=Fb nf (m.getD k default)
 inv:m.length<=L->Wx nf lo hi a b A B (fun x y=>x<a.length/\ y<b.length) m dn
theorem yE (L:Nat):fA nf lo hi a b A B L [] []:=⟨Made.nil,fun _ _ _ h=>(by cases h),fun _=>Ts _ _ _⟩
theorem Hr {m:List Dn}{k:Nat}(h:k<m.length)(u:List Dn):(m++u).getD k default=m.getD k default:=by
 rw[Eb _ _ _ (by rw[Ea];omega),Eb _ _ _ h,Qd h]
structure SA (nf : Nat) (lo hi : Nat -> Int) (a b : List Dn) (A B : Nat -> (Nat -> Int) -> Bool) (L f : Nat) (m : List Dn) (x y : Nat) (r : (List Dn × pe) × Nat) : Prop where
 inv:fA nf lo hi a b A B L r.1.1 r.1.2
 lt:r.2<r.1.1.length
 Xx:Pb nf a b x y<=Fb nf (r.1.1.getD r.2 default)
 node:r.1.1.length<=L->Fj nf lo hi a b A B r.1.1 x y r.2
 grow:∃u,r.1.1=m++u
 Yw:sk r.1.1<=max (sk m) (L+f)
def Sv (nf:Nat)(a b:List Dn)(S:Nat->Nat->List Int)(L f x y:Nat)(st:(List Dn×pe)×List Int)(v:Int):(List Dn×pe)×List Int:=
 ((ui nf a b S L f st.1.1 st.1.2 (Rc a x (Pb nf a b x y) v) (Rc b y (Pb nf a b x y) v)).1,st.2++[((ui nf a b S L f st.1.1 st.1.2 (Rc a x (Pb nf a b x y) v) (Rc b y (Pb nf a b x y) v)).2:Int)])
structure IA (nf : Nat) (lo hi : Nat -> Int) (a b : List Dn) (A B : Nat -> (Nat -> Int) -> Bool) (L f : Nat) (m : List Dn) (x y : Nat) (pre : List Int) (r : (List Dn × pe) × List Int) : Prop where
 inv:fA nf lo hi a b A B L r.1.1 r.1.2
 len:r.2.length=pre.length
 kids:∀j,j<r.2.length->0<=r.2.getD j 0/\ (r.2.getD j 0).toNat<r.1.1.length/\ Pb nf a b x y<Fb nf (r.1.1.getD (r.2.getD j 0).toNat default)/\
  (r.1.1.length<=L->Fj nf lo hi a b A B r.1.1 (Rc a x (Pb nf a b x y) (pre.getD j 0)) (Rc b y (Pb nf a b x y) (pre.getD j 0)) (r.2.getD j 0).toNat)
 grow:∃u,r.1.1=m++u
 Yw:sk r.1.1<=max (sk m) (L+f)
theorem tH (ga:Te nf lo hi a A)(gb:Te nf lo hi b B){S:Nat->Nat->List Int}{L f:Nat}
  (ih:∀(m:List Dn) (dn:pe) (x y:Nat),fA nf lo hi a b A B L m dn->x<a.length->y<b.length->nf-Pb nf a b x y<f->SA nf lo hi a b A B L f m x y (ui nf a b S L f m dn x y))
  {x y:Nat} (hx:x<a.length) (hy:y<b.length) (hi':Pb nf a b x y<nf) (hf:nf-Pb nf a b x y<f+1) {m:List Dn} {pre:List Int} {st:(List Dn×pe)×List Int} (h:IA nf lo hi a b A B L f m x y pre st) (v:Int):
  IA nf lo hi a b A B L f m x y (pre++[v]) (Sv nf a b S L f x y st v):=by
 have C8:Pb nf a b x y<=Fb nf (a.getD x default):=Uc _ _;have rJ:Pb nf a b x y<=Fb nf (b.getD y default):=ff _ _;have s1:=Ji ga hx hi' C8 v;have s2:=Ji gb hy hi' rJ v
 have Ew:Pb nf a b x y<Pb nf a b (Rc a x (Pb nf a b x y) v) (Rc b y (Pb nf a b x y) v):=by{show _<min _ _;omega}
 have hr:=ih st.1.1 st.1.2 _ _ h.inv s1.1 s2.1 (by
  have:Pb nf a b (Rc a x (Pb nf a b x y) v) (Rc b y (Pb nf a b x y) v)<=nf:=Wa (Uc _ _) (ig ga.table s1.1)
  omega)
 unfold Sv;generalize ui nf a b S L f st.1.1 st.1.2 (Rc a x (Pb nf a b x y) v) (Rc b y (Pb nf a b x y) v)=r at*
 obtain⟨u,hu⟩:=hr.grow;obtain⟨u0,hu0⟩:=h.grow;have hlen:st.1.1.length<=r.1.1.length:=by rw[hu,Ea];omega
 refine⟨hr.inv,by simp[h.len],fun j hj=>?_,⟨u0++u,by show r.1.1=_;rw[hu,hu0,Ua]⟩,?_⟩
 {have hj:j<(st.2++[(r.2:Int)]).length:=hj;rw[Ea]at hj;(rcases Kc j st.2.length with WG | WG);{obtain⟨k1,k2,k3,k4⟩:=h.kids j WG;show 0<=(st.2++[(r.2:Int)]).getD j 0/\ ((st.2++[(r.2:Int)]).getD j 0).toNat<r.1.1.length/\ Pb nf a b x y<Fb nf (r.1.1.getD ((st.2++[(r.2:Int)]).getD j 0).toNat default)/\ (r.1.1.length<=L->Fj nf lo hi a b A B r.1.1 _ _ ((st.2++[(r.2:Int)]).getD j 0).toNat);rw[Cf _ _ _ WG,Cf _ _ _ (show j<pre.length by have:=h.len;omega)];refine⟨k1,ia,?_,fun hL=>?_⟩;{rw[hu,Hr k2];exact k3};{have q:=(k4 ia).more u;rw[<-hu]at q;exact q}};{(have Mk:j=st.2.length:=by simp at hj;omega);subst Mk;show 0<=(st.2++[(r.2:Int)]).getD st.2.length 0/\ ((st.2++[(r.2:Int)]).getD st.2.length 0).toNat<r.1.1.length/\ Pb nf a b x y<Fb nf (r.1.1.getD ((st.2++[(r.2:Int)]).getD st.2.length 0).toNat default)/\ (r.1.1.length<=L->Fj nf lo hi a b A B r.1.1 _ _ ((st.2++[(r.2:Int)]).getD st.2.length 0).toNat);rw[pd,h.len,pd,Gb];exact⟨Ab _,hr.lt,Wb Ew hr.Xx,hr.node⟩}}
 {have h1:=hr.Yw;have h2:=h.Yw;show sk r.1.1<=_;omega}
theorem Ru (ga:Te nf lo hi a A)(gb:Te nf lo hi b B){S:Nat->Nat->List Int}{L f:Nat}
  (ih:∀(m:List Dn) (dn:pe) (x y:Nat),fA nf lo hi a b A B L m dn->x<a.length->y<b.length->nf-Pb nf a b x y<f->SA nf lo hi a b A B L f m x y (ui nf a b S L f m dn x y))
  {x y:Nat} (hx:x<a.length) (hy:y<b.length) (hi':Pb nf a b x y<nf) (hf:nf-Pb nf a b x y<f+1) {m:List Dn}:∀(l pre:List Int) (st:(List Dn×pe)×List Int),IA nf lo hi a b A B L f m x y pre st->
  IA nf lo hi a b A B L f m x y (pre++l) (l.foldl (Sv nf a b S L f x y) st)
 | [],pre,st,h=>by rw[Yc];exact h
 | v::l,pre,st,h=>by{have q:=Ru ga gb ih hx hy hi' hf l (pre++[v]) _ (tH ga gb ih hx hy hi' hf h v);rw[Ua]at q;exact q}
theorem A0 (ga:Te nf lo hi a A)(gb:Te nf lo hi b B){L f:Nat}{m:List Dn}{dn:pe}{x y:Nat}(hI:fA nf lo hi a b A B L m dn)(hx:x<a.length)(hy:y<b.length)(hend:Pb nf a b x y=nf\/L<m.length):
  SA nf lo hi a b A B L f m x y (((Md m ⟨0,[],[],(a.getD x default).leaf&& (b.getD y default).leaf⟩).1,dn),(Md m ⟨0,[],[],(a.getD x default).leaf&& (b.getD y default).leaf⟩).2):=by
 have hle:Pb nf a b x y<=nf:=Wa (Uc _ _) (ig ga.table hx);have ho:Fs nf lo hi m ⟨0,[],[],(a.getD x default).leaf&& (b.getD y default).leaf⟩:=⟨fun _=>⟨rfl,rfl⟩,fun h=>absurd rfl h⟩;obtain⟨h1,h2,h3,u,h4⟩:=Ao hI.made ho;have hin:=EE m ⟨0,[],[],(a.getD x default).leaf&& (b.getD y default).leaf⟩;rw[if_pos rfl]at hin;have hlen:m.length<=(Md m ⟨0,[],[],(a.getD x default).leaf&& (b.getD y default).leaf⟩).1.length:=by rw[h4,Ea];omega
 have cn:(Md m ⟨0,[],[],(a.getD x default).leaf&& (b.getD y default).leaf⟩).1.length<=L->Fj nf lo hi a b A B (Md m ⟨0,[],[],(a.getD x default).leaf&& (b.getD y default).leaf⟩).1 x y (Md m ⟨0,[],[],(a.getD x default).leaf&& (b.getD y default).leaf⟩).2:=by{intro hL;(have hnf:Pb nf a b x y=nf:=by rcases hend with h | h;exact h;omega);refine⟨h2,?_,?_⟩;{rw[h3];unfold Fb;rw[if_pos rfl];exact hle};{intro c fc;rw[h1.reads _ h2 c fc,h3];have ha:(a.getD x default).kids=[]:=by{apply Classical.byContradiction;intro h;have h5:=((ga.table x hx).inner h).2.2.1;have h6:Pb nf a b x y<=Fb nf (a.getD x default):=Uc _ _;unfold Fb at h6;rw[Aa h]at h6;omega};have hb:(b.getD y default).kids=[]:=by{apply Classical.byContradiction;intro h;have h5:=((gb.table y hy).inner h).2.2.1;have h6:Pb nf a b x y<=Fb nf (b.getD y default):=ff _ _;unfold Fb at h6;rw[Aa h]at h6;omega};rw[ga.reads x hx c fc,gb.reads y hy c fc,if_pos ha,if_pos hb];rfl}}
 refine⟨⟨h1,fun x' y' k hk=>?_,fun hL=>?_⟩,h2,?_,cn,⟨u,h4⟩,by show sk (Md m _).1<=_;omega⟩
 {obtain⟨q1,q2⟩:=hI.Cj x' y' k hk;show k<(Md m _).1.length/\ _<=Fb nf ((Md m _).1.getD k default);refine⟨ia,?_⟩;rw[h4,Hr q1];exact q2}
 {have MY:=hI.inv (by have:(Md m _).1.length<=L:=hL;omega);refine⟨h1,Rt ho hI.made MY.from_ (fun h=>absurd rfl h),?_⟩;intro x' y' k' hl;show Fj nf lo hi a b A B (Md m _).1 x' y' k';rw[h4];exact(MY.Cj x' y' k' hl).more u}
 {show Pb nf a b x y<=Fb nf ((Md m _).1.getD (Md m _).2 default);rw[h3];unfold Fb;rw[if_pos rfl];exact hle}
theorem MV (ga:Te nf lo hi a A)(gb:Te nf lo hi b B){L f:Nat}{m:List Dn}{x y:Nat}(hx:x<a.length)(hy:y<b.length)(hi':Pb nf a b x y<nf)(hm:m.length<=L){ss:List Int}(hch:Xe (hi (Pb nf a b x y)) (lo (Pb nf a b x y)) ss)
  (NV:(a.getD x default).kids≠[]->(a.getD x default).fact=(Pb nf a b x y:Nat)->∀c∈(a.getD x default).Ja,c∈lo (Pb nf a b x y)::ss)
  (IC:(b.getD y default).kids≠[]->(b.getD y default).fact=(Pb nf a b x y:Nat)->∀c∈(b.getD y default).Ja,c∈lo (Pb nf a b x y)::ss)
  {r:(List Dn×pe)×List Int} (hr:IA nf lo hi a b A B L f m x y (lo (Pb nf a b x y)::ss) r):
  SA nf lo hi a b A B L (f+1) m x y (((Mc r.1.1 (Pb nf a b x y) (lo (Pb nf a b x y)::ss) r.2).1,((x,y),(Mc r.1.1 (Pb nf a b x y) (lo (Pb nf a b x y)::ss) r.2).2)::r.1.2),(Mc r.1.1 (Pb nf a b x y) (lo (Pb nf a b x y)::ss) r.2).2):=by
 obtain⟨k1,k2,k3,⟨u,k4⟩,k5⟩:=hr;obtain⟨⟨rm,rd⟩,rk⟩:=r;simp only at k1 k2 k3 k4 k5;obtain⟨k0,ks,rfl⟩:∃k0 ks,rk=k0::ks:=by cases rk with | nil=>simp at k2 | cons p q=>exact⟨p,q,rfl⟩
 have hl:ks.length=ss.length:=by simpa using k2
 have hkk:∀k∈k0::ks,0<=k/\ k.toNat<rm.length/\ Pb nf a b x y<Fb nf (rm.getD k.toNat default):=by{intro k hm;obtain⟨j,hj,rfl⟩:=List.mem_iff_getElem.1 hm;have h1:=k3 j hj;rw[Eb _ _ _ hj]at h1;exact⟨h1.1,h1.2.1,h1.2.2.1⟩}
 have hin:=Fl k1.made hi' (lo (Pb nf a b x y)) k0 ss ks hl hch hkk;have agI:=sH rm (Pb nf a b x y) (lo (Pb nf a b x y)::ss) (k0::ks);have Lx:=SR m;obtain⟨q1,q2,⟨w,q3⟩,q4,_⟩:=hin;have hlen:rm.length<=(Mc rm (Pb nf a b x y) (lo (Pb nf a b x y)::ss) (k0::ks)).1.length:=by rw[q3,Ea];omega
 have mA:(Mc rm (Pb nf a b x y) (lo (Pb nf a b x y)::ss) (k0::ks)).1.length<=L->Fj nf lo hi a b A B (Mc rm (Pb nf a b x y) (lo (Pb nf a b x y)::ss) (k0::ks)).1 x y (Mc rm (Pb nf a b x y) (lo (Pb nf a b x y)::ss) (k0::ks)).2:=fun hL=>⟨q2,q4,Vv ga gb hx hy k1.made hi' k0 ss ks hl hch hkk NV IC (fun j hj c fc=>((k3 j hj).2.2.2 ia).means c fc)⟩
 refine⟨⟨q1,?_,?_⟩,q2,q4,mA,⟨u++w,by show(Mc rm _ _ _).1=_;rw[q3,k4,Ua]⟩,?_⟩
 {intro x' y' k' Zi;show k'<(Mc rm (Pb nf a b x y) (lo (Pb nf a b x y)::ss) (k0::ks)).1.length/\ _<=Fb nf ((Mc rm (Pb nf a b x y) (lo (Pb nf a b x y)::ss) (k0::ks)).1.getD k' default);have Zi:List.lookup (x',y') (((x,y),(Mc rm (Pb nf a b x y) (lo (Pb nf a b x y)::ss) (k0::ks)).2)::rd)=some k':=Zi;rw[Db]at Zi;by_cases he:(x',y')=(x,y);{rw[he]at Zi;simp only[beq_self_eq_true]at Zi;injection he with e1 e2;subst e1 e2;injection Zi with e3;subst e3;exact⟨q2,q4⟩};{(have:((x',y')==(x,y))=false:=by simpa using he);rw[this]at Zi;obtain⟨p1,p2⟩:=k1.Cj x' y' k' Zi;refine⟨ia,?_⟩;rw[q3,Hr p1];exact p2}}
 ·intro hL
  have hL:(Mc rm (Pb nf a b x y) (lo (Pb nf a b x y)::ss) (k0::ks)).1.length<=L:=hL;have MY:=k1.inv ia;have cn:=mA hL;refine⟨q1,?_,?_⟩
  ·show ∀k,k<(Mc rm (Pb nf a b x y) (lo (Pb nf a b x y)::ss) (k0::ks)).1.length->_
   have Uj:=cn.means;unfold Mc at Uj⊢;simp only[]at Uj⊢
   split
   {exact MY.from_}
   ·next hne=>
    rw[Aa hne]at Uj;refine Rt ?_ k1.made MY.from_ (fun _=>⟨x,y,⟨hx,hy⟩,rfl,Uj⟩);have hz1:(ss.zip ks).map Prod.fst=ss:=List.map_fst_zip ia;have hz2:(ss.zip ks).map Prod.snd=ks:=List.map_snd_zip ia;have hdl:=Bo (ss.zip ks) k0;refine⟨fun he=>by simp at he,fun _=>⟨rfl,Ab _,by simpa using hi',?_,by simp[hdl],?_,Iq _ _,?_⟩⟩
    {intro he;apply hne;have he:(Hh k0 (ss.zip ks)).1=[]:=he;rw[he]at hdl;(have:(Hh k0 (ss.zip ks)).2=[]:=by simpa using hdl);exact this}
    {have:=Zk (hi':=hi (Pb nf a b x y)) (ss.zip ks) k0 (lo (Pb nf a b x y)) (by rw[hz1];exact hch);simpa using this}
    {intro k hm;(rcases List.mem_cons.1 hm with hm | hm);{rw[hm];simpa using hkk k0 (Na ..)};{have h5:=Jq (ss.zip ks) k0 k hm;rw[hz2]at h5;simpa using hkk k (La _ h5)}}
  {intro x' y' k' Zi;show Fj nf lo hi a b A B (Mc rm (Pb nf a b x y) (lo (Pb nf a b x y)::ss) (k0::ks)).1 x' y' k';have Zi:List.lookup (x',y') (((x,y),(Mc rm (Pb nf a b x y) (lo (Pb nf a b x y)::ss) (k0::ks)).2)::rd)=some k':=Zi;rw[Db]at Zi;by_cases he:(x',y')=(x,y);{rw[he]at Zi;simp only[beq_self_eq_true]at Zi;injection he with e1 e2;subst e1 e2;injection Zi with e3;subst e3;exact cn};{(have:((x',y')==(x,y))=false:=by simpa using he);rw[this]at Zi;rw[q3];exact(MY.Cj x' y' k' Zi).more w}}
 {show sk (Mc rm (Pb nf a b x y) (lo (Pb nf a b x y)::ss) (k0::ks)).1<=_;omega}
theorem nE (ga:Te nf lo hi a A)(gb:Te nf lo hi b B){S:Nat->Nat->List Int}{L:Nat}
  (hS:∀x y,x<a.length->y<b.length->Pb nf a b x y<nf->∃ss,S x y=lo (Pb nf a b x y)::ss/\ Xe (hi (Pb nf a b x y)) (lo (Pb nf a b x y)) ss/\
   ((a.getD x default).kids≠[]->(a.getD x default).fact=(Pb nf a b x y:Nat)->∀c∈(a.getD x default).Ja,c∈lo (Pb nf a b x y)::ss)/\
   ((b.getD y default).kids≠[]->(b.getD y default).fact=(Pb nf a b x y:Nat)->∀c∈(b.getD y default).Ja,c∈lo (Pb nf a b x y)::ss)):
  ∀(f:Nat) (m:List Dn) (dn:pe) (x y:Nat),fA nf lo hi a b A B L m dn->x<a.length->y<b.length->nf-Pb nf a b x y<f->SA nf lo hi a b A B L f m x y (ui nf a b S L f m dn x y):=by
 intro f
 induction f with| zero=>intro m dn x y _ _ _ h;omega| succ f ih=>{intro m dn x y hI hx hy hf;unfold ui;cases hlk:dn.lookup (x,y)with| some k=>{obtain⟨p1,p2⟩:=hI.Cj x y k hlk;exact⟨hI,p1,p2,fun hL=>(hI.inv hL).Cj x y k hlk,⟨[],la⟩,by show sk m<=_;omega⟩}| none=>{dsimp only;by_cases hend:Pb nf a b x y=nf\/L<m.length;{rw[if_pos hend];exact A0 ga gb hI hx hy hend};{rw[Aa hend];have hle:Pb nf a b x y<=nf:=Wa (Uc _ _) (ig ga.table hx);(have hi':Pb nf a b x y<nf:=ia);obtain⟨ss,uU,hch,NV,IC⟩:=hS x y hx hy hi';have hk:=Ru ga gb ih hx hy hi' hf (m:=m) (S x y) [] ((m,dn),[]) ⟨hI,rfl,fun j hj=>absurd hj (Ib j),⟨[],la⟩,by show sk m<=_;omega⟩;rw[Ya,uU]at hk;have q:=MV ga gb hx hy hi' ia hch NV IC hk;rw[uU];exact q}}}
end
def lE (d:List Fa)(n:Dn):Int:=if n.kids=[]then(d.length:Int)else n.fact
theorem EC (n:Dn)(d:List Fa)(ac ak ad:Option Addr)(cc ck cd:Nat)(w:World):
  Calls Tryz.prog 71 #[.agg #[.int .i64 n.fact,.slice ac n.Ja.length cc,.slice ak n.kids.length ck,.bool n.leaf],.agg #[.slice ad d.length cd]] w fun e w'=>e=.returned (.int .i64 (lE d n))/\ Below w.heap.size w w':=by
 have ud:Below w.heap.size w ((w.alloc (.cells #[.int .i64 n.fact,.slice ac n.Ja.length cc,.slice ak n.kids.length ck,.bool n.leaf] 56)).alloc (.cells #[.slice ad d.length cd] 27)):=((za _ _).alloc (ja _) _).alloc la _;have K0:Bb ((w.alloc (.cells #[.int .i64 n.fact,.slice ac n.Ja.length cc,.slice ak n.kids.length ck,.bool n.leaf] 56)).alloc (.cells #[.slice ad d.length cd] 27)) w.heap.size 56 #[.int .i64 n.fact,.slice ac n.Ja.length cc,.slice ak n.kids.length ck,.bool n.leaf]:=(Bb.new w 56 #[.int .i64 n.fact,.slice ac n.Ja.length cc,.slice ak n.kids.length ck,.bool n.leaf]).alloc _
 have K1:Bb ((w.alloc (.cells #[.int .i64 n.fact,.slice ac n.Ja.length cc,.slice ak n.kids.length ck,.bool n.leaf] 56)).alloc (.cells #[.slice ad d.length cd] 27)) (w.heap.size+1) 27 #[.slice ad d.length cd]:=by{have q:=Bb.new (w.alloc (.cells #[.int .i64 n.fact,.slice ac n.Ja.length cc,.slice ak n.kids.length ck,.bool n.leaf] 56)) 27 #[.slice ad d.length cd];rw[Ba]at q;exact q}
 obtain⟨W,hW⟩:∃W,((w.alloc (.cells #[.int .i64 n.fact,.slice ac n.Ja.length cc,.slice ak n.kids.length ck,.bool n.leaf] 56)).alloc (.cells #[.slice ad d.length cd] 27))=W:=⟨_,rfl⟩;rw[hW]at ud K0 K1;have HW:=da hW;have Vd:=da ud;have x0:=K0.cell 0;have x2:=K0.cell 2;have y0:=K1.cell 0;clear hW ud K0 K1;by_cases hk:n.kids=[]
 {(have h0:n.kids.length=0:=by rw[hk];rfl);have HR:=da (show lE d n=(d.length:Int) by unfold lE;rw[if_pos hk]);rw[h0];rw[h0]at x2 HW;clear hk h0;go_enter Tryz.func71,Tryz.ntmps71;go_upto_region 1 with(fail);rw[HW.out];go_wp2;go_ret;exact⟨by rw[HR.out];rfl,Vd.out⟩}
 {have HR:=da (show lE d n=n.fact by unfold lE;rw[Aa hk]);(have h0:((n.kids.length:Int)==0)=false:=by simpa using hk);clear hk;go_enter Tryz.func71,Tryz.ntmps71;go_upto_region 1 with(fail);rw[HW.out];go_wp2;go_ret;exact⟨by rw[HR.out];rfl,Vd.out⟩}
theorem step_eq {t:List Dn}{x i:Nat}{v:Int}(hx:x<t.length)(hin:(t.getD x default).kids≠[]->(t.getD x default).kids.length=(t.getD x default).Ja.length+1/\ ∀k∈(t.getD x default).kids,0<=k):
  ((Rc t x i v:Nat):Int)=if t[x].kids≠[]/\ t[x].fact=(i:Int)then t[x].kids.getD (Yd t[x].Ja v) 0 else(x:Int):=by
 rw[Eb _ _ _ hx]at hin;unfold Rc wg;rw[Eb _ _ _ hx];by_cases h:t[x].kids≠[]/\ t[x].fact=(i:Int)
 {rw[if_pos h,if_pos h];obtain⟨h1,h2⟩:=hin h.1;(have hl:Yd t[x].Ja v<t[x].kids.length:=by have:=aj t[x].Ja v;omega);have:=h2 _ (Ga hl);rw[Eb _ _ _ hl];omega}
 {rw[Aa h,Aa h]}
theorem vE (t:List Dn)(x i:Nat)(v:Int)(ag:Option Addr)(cg:Nat)(w:World)(B:Nat)(hB:B<=w.heap.size)(hg:Xa yo 4 w B t (.slice ag t.length cg))(hx:x<t.length)
  (hin:(t.getD x default).kids≠[]->(t.getD x default).kids.length=(t.getD x default).Ja.length+1/\ ∀k∈(t.getD x default).kids,0<=k):
  Calls Tryz.prog 74 #[.agg #[.slice ag t.length cg],.int .i64 (x:Int),.int .i64 (i:Int),.int .i64 v] w fun e w'=>e=.returned (.int .i64 ((Rc t x i v:Nat):Int))/\ Below w.heap.size w w':=by
 have v_:=step_eq (v:=v) (i:=i) hx hin;rw[Eb _ _ _ hx]at hin;obtain⟨_,_,e,l1,l2,_⟩:=Xa.shape hg;cases e
 unfold maxLen at l2;obtain⟨gb,go,rfl,vU,vc,vk,n0,n1,n2,n3,Jj,hki⟩:=hg.at x hx;have Gs:=FE t[x] v vc vk;obtain⟨ac,cc,rfl,_⟩:=Xa.shape Jj;obtain⟨ak,ck,rfl,k1,k2,_⟩:=Xa.shape hki;unfold maxLen at k2
 have Tk:t[x].kids≠[]->∃kb ko,ak=some ⟨kb,ko,none⟩/\ kb<B/\ ∀(j:Nat) (h:j<t[x].kids.length),w.cell? ⟨kb,ko+j,none⟩=some (.int .i64 t[x].kids[j]):=fun hne=>by{have h0:0<t[x].kids.length:=List.length_pos_iff.2 hne;obtain⟨kb,ko,e,hb,_⟩:=Xa.one hki 0 h0;refine⟨kb,ko,e,hb,fun j hj=>?_⟩;obtain⟨D8,E8,e',_,hc⟩:=Xa.one hki j hj;rw[e]at e';(cases e');exact hc}
 have Ve:Hid (Below w.heap.size w (w.alloc (.cells #[.slice (some ⟨gb,go,none⟩) t.length cg] 34))):=(za _ _).alloc (ja _) _;have HK:Hid (Bb (w.alloc (.cells #[.slice (some ⟨gb,go,none⟩) t.length cg] 34)) w.heap.size 34 #[.slice (some ⟨gb,go,none⟩) t.length cg]):=Bb.new _ _ _;have hs1:((w.alloc (.cells #[.slice (some ⟨gb,go,none⟩) t.length cg] 34))).heap.size=w.heap.size+1:=by simp
 obtain⟨W,hW⟩:∃W,(w.alloc (.cells #[.slice (some ⟨gb,go,none⟩) t.length cg] 34))=W:=⟨_,rfl⟩;rw[hW]at Ve HK hs1;have HW:=da hW;have x0:=HK.out.cell 0;have m0:=(Ve.out.cell (p:=⟨gb,go+x*4,none⟩) (by show gb<w.heap.size;omega)).trans n0;have m1:=(Ve.out.cell (p:=⟨gb,go+x*4+1,none⟩) (by show gb<w.heap.size;omega)).trans n1;have m2:=(Ve.out.cell (p:=⟨gb,go+x*4+2,none⟩) (by show gb<w.heap.size;omega)).trans n2;have m3:=(Ve.out.cell (p:=⟨gb,go+x*4+3,none⟩) (by show gb<w.heap.size;omega)).trans n3;have xq:(x:Int)<(t.length:Int):=by omega
 have OV:=da Jj;have zJ:=da hki;have Kn:=da hin;have BC:=da Tk;obtain⟨R,hR⟩:∃R:Int,((Rc t x i v:Nat):Int)=R:=⟨_,rfl⟩;rw[hR]at v_⊢;have NY:=da v_;clear hg n0 n1 n2 n3 Jj hki hin Tk hW hR v_;generalize t[x]=n at*
 by_cases hk:n.kids=[]
 {(have h0:n.kids.length=0:=by rw[hk];rfl);have HR:=da (show R=(x:Int) by rw[NY.out,Aa (fun h=>h.1 hk)]);rw[h0]at m2;clear hk h0 NY Gs k1;go_enter Tryz.func74,Tryz.ntmps74;go_upto_region 1 with(fail);rw[HW.out];go_wp2;go_ret;exact⟨by rw[HR.out];rfl,Ve.out.trans (((za _ _).alloc (ja _) _).mono ia)⟩}
 ·have h0:decide ((0:Int)<(n.kids.length:Int))=true:=by have:=List.length_pos_iff.2 hk;simp;omega
  have OY:0<n.kids.length:=List.length_pos_iff.2 hk;by_cases hf:n.fact=(i:Int)
  ·obtain⟨hlen,hpos⟩:=Kn.out hk
   obtain⟨kb,ko,rfl,hkb,hkc⟩:=BC.out hk;have dl:Yd n.Ja v<n.kids.length:=by have:=aj n.Ja v;omega
   have mR:=Yx hlen v;have HR:=da (show R=n.kids[Yd n.Ja v] by rw[NY.out,if_pos ⟨hk,hf⟩,Eb _ _ _ dl]);have C0:(n.fact==(i:Int))=true:=by simpa using hf
   have E0:=hkc (Yd n.Ja v) dl;generalize Yd n.Ja v=kx at*
   have Jn:=(Ve.out.cell (p:=⟨kb,ko+kx,none⟩) (by show kb<w.heap.size;omega)).trans E0;have HX:Hid (Bb (W.alloc (.cells #[.int .i64 n.fact,.slice ac n.Ja.length cc,.slice (some ⟨kb,ko,none⟩) n.kids.length ck,.bool n.leaf] 56)) W.heap.size 56 #[.int .i64 n.fact,.slice ac n.Ja.length cc,.slice (some ⟨kb,ko,none⟩) n.kids.length ck,.bool n.leaf]):=Bb.new _ _ _;have qm:((W.alloc (.cells #[.int .i64 n.fact,.slice ac n.Ja.length cc,.slice (some ⟨kb,ko,none⟩) n.kids.length ck,.bool n.leaf] 56))).heap.size=W.heap.size+1:=by simp
   have Vd:Hid (Below W.heap.size W (W.alloc (.cells #[.int .i64 n.fact,.slice ac n.Ja.length cc,.slice (some ⟨kb,ko,none⟩) n.kids.length ck,.bool n.leaf] 56))):=(za _ _).alloc (ja _) _
   have HN:Hid (∀W',Hid (Below (W.heap.size+1) (W.alloc (.cells #[.int .i64 n.fact,.slice ac n.Ja.length cc,.slice (some ⟨kb,ko,none⟩) n.kids.length ck,.bool n.leaf] 56)) W')->Calls Tryz.prog 55 #[.agg #[.int .i64 n.fact,.slice ac n.Ja.length cc,.slice (some ⟨kb,ko,none⟩) n.kids.length ck,.bool n.leaf],.int .i64 v] W' fun e w'=>e=.returned (.int .i64 (kx:Int))/\ Hid (Below W'.heap.size W' w')):=fun W' hw=>by{have Zd:=(Ve.out.trans (Vd.out.mono ia)).trans (hw.out.mono ia);have q:=Gs W' B (by have:=hw.out.size;omega) (IntsIn.below (Zd.mono hB) OV.out) (IntsIn.below (Zd.mono hB) zJ.out);rw[mR]at q;exact q}
   have Uu:Hid (∀w',Hid (Below (W.heap.size+1) (W.alloc (.cells #[.int .i64 n.fact,.slice ac n.Ja.length cc,.slice (some ⟨kb,ko,none⟩) n.kids.length ck,.bool n.leaf] 56)) w')->(w'.cell? ⟨W.heap.size,0,none⟩=some (.int .i64 n.fact)/\ w'.cell? ⟨W.heap.size,1,none⟩=some (.slice ac n.Ja.length cc)/\ w'.cell? ⟨W.heap.size,2,none⟩=some (.slice (some ⟨kb,ko,none⟩) n.kids.length ck)/\ w'.cell? ⟨W.heap.size,3,none⟩=some (.bool n.leaf)/\ w'.cell? ⟨kb,ko+kx,none⟩=some (.int .i64 n.kids[kx]))/\ Hid (Below (W.heap.size+1) (W.alloc (.cells #[.int .i64 n.fact,.slice ac n.Ja.length cc,.slice (some ⟨kb,ko,none⟩) n.kids.length ck,.bool n.leaf] 56)) w')):=by{intro w' hw;have z:=HX.out.below (by rw[qm];exact hw.out);exact⟨⟨z.cell 0,z.cell 1,z.cell 2,z.cell 3,((Vd.out.trans (hw.out.mono ia)).cell (p:=⟨kb,ko+kx,none⟩) (by show kb<W.heap.size;omega)).trans Jn⟩,hw⟩}
   have HW0:Hid (Below (W.heap.size+1) (W.alloc (.cells #[.int .i64 n.fact,.slice ac n.Ja.length cc,.slice (some ⟨kb,ko,none⟩) n.kids.length ck,.bool n.leaf] 56)) ((W.alloc (.cells #[.int .i64 n.fact,.slice ac n.Ja.length cc,.slice (some ⟨kb,ko,none⟩) n.kids.length ck,.bool n.leaf] 56))).drew):=(za _ _).drew;have agJ:(kx:Int)<(n.kids.length:Int):=by omega
   clear hk NY Gs hf hlen hpos hkc mR E0 BC Kn hs1 qm;go_enter Tryz.func74,Tryz.ntmps74;go_upto_region 1 with(fail);rw[HW.out];go_upto_region 3 with(fail)
   go_region_held3 (fun w'=>(w'.cell? ⟨W.heap.size,0,none⟩=some (.int .i64 n.fact)/\ w'.cell? ⟨W.heap.size,1,none⟩=some (.slice ac n.Ja.length cc)/\ w'.cell? ⟨W.heap.size,2,none⟩=some (.slice (some ⟨kb,ko,none⟩) n.kids.length ck)/\ w'.cell? ⟨W.heap.size,3,none⟩=some (.bool n.leaf)/\ w'.cell? ⟨kb,ko+kx,none⟩=some (.int .i64 n.kids[kx]))/\ Hid (Below (W.heap.size+1) (W.alloc (.cells #[.int .i64 n.fact,.slice ac n.Ja.length cc,.slice (some ⟨kb,ko,none⟩) n.kids.length ck,.bool n.leaf] 56)) w'))
    (exact Uu.out _ Da)
    ((go_at_call 55;refine(HN.out _ Da).mono ?_;rintro e w8 ⟨rfl,ei⟩;have Cp:Hid (Below (W.heap.size+1) (W.alloc (.cells #[.int .i64 n.fact,.slice ac n.Ja.length cc,.slice (some ⟨kb,ko,none⟩) n.kids.length ck,.bool n.leaf] 56)) w8):=HW0.out.trans (ei.out.mono la)))
   go_split_ands;go_wp2;go_ret;exact⟨by rw[HR.out];rfl,(Ve.out.trans (Vd.out.mono Ve.out.size)).trans (Cp.out.mono (by have:=Ve.out.size;omega))⟩
  {have HR:=da (show R=(x:Int) by rw[NY.out,Aa (fun h=>hf h.2)]);(have C0:(n.fact==(i:Int))=false:=by simpa using hf);clear hk NY Gs hf;go_enter Tryz.func74,Tryz.ntmps74;go_upto_region 1 with(fail);rw[HW.out];go_wp2;go_ret;exact⟨by rw[HR.out];rfl,Ve.out.trans (((za _ _).alloc (ja _) _).mono ia)⟩}
end Go.Proofs.YtejbgoigkefnfaaGreatDoor
