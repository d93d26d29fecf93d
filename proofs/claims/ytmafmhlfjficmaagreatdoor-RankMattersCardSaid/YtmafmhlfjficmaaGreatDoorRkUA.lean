/- Plain core of chapter 15: RankMatters. No program. -/
import Derived.Test.YtmafmhlfjficmaaGreatDoorRkGA
import Derived.Test.YtmafmhlfjficmaaGreatDoorRkPA
import Derived.Test.YtmafmhlfjficmaaGreatDoorFewA
namespace Go.Proofs.YtmafmhlfjficmaaGreatDoor
section
open Go.RowKit
def findP (id:ByteArray):List Pv->Int->Int
 | [],_=> -1
 | p::l,k=>if eqB p.id id=true then k else findP id l (k+1)
set_option maxRecDepth 100000 in
set_option maxHeartbeats 4000000 in
theorem find_any (d:List Fa)(ps:List Pv)(ts:List Int)(id:ByteArray)(v:Value)(w:World)(hn:ps.length<=1000)(hl:LawT w w.heap.size d ps ts v):
  Calls Tryz.prog 23 #[v,.string id] w fun e w'=>e=.returned (.int .i64 (findP id ps 0))/\ Below w.heap.size w w':=by
 obtain⟨u1,u2,u3,rfl,hd,hp,ht⟩:=hl;obtain⟨ad,cd,rfl,_⟩:=SlIn.shape hd;obtain⟨ap,cp,rfl,_⟩:=SlIn.shape hp;obtain⟨at_,ct,rfl,_⟩:=SlIn.shape ht;have HB1:Hid (Below w.heap.size w (w.alloc (.cells #[.slice ad d.length cd,.slice ap ps.length cp,.slice at_ ts.length ct] 28))):=(Below.refl _ _).alloc (Nat.le_refl _) _;have y1:=(Blk.new w 28 #[.slice ad d.length cd,.slice ap ps.length cp,.slice at_ ts.length ct]).cell 1;have HP:=Lib.hid (hp.below PvR.kept HB1.out);obtain⟨R,hR⟩:∃R,findP id ps 0=R:=⟨_,rfl⟩;rw[hR];have HR:=Lib.hid hR;obtain⟨W,hW⟩:∃W,(w.alloc (.cells #[.slice ad d.length cd,.slice ap ps.length cp,.slice at_ ts.length ct] 28))=W:=⟨_,rfl⟩;rw[hW]at HB1 y1 HP;have HW:=Lib.hid hW;clear hd hp ht hR hW;go_enter Tryz.func23,Tryz.ntmps23;go_upto_region 1 with(fail);rw[HW.out];go_wp2
 go_loopw [5] (fun iv wr=>∃k:Nat,k<=ps.length/\ iv=.int .i64 k/\ wr=W/\ Hid (R=findP id (ps.drop k) k)) (fun iv _=>ps.length-(intOf iv).toNat)
 case atStart=>exact⟨0,Nat.zero_le _,rfl,rfl,HR.out.symm⟩
 case round=>
  obtain⟨k,hk,rfl,hwr,HI⟩:=hrel;subst hwr;by_cases hlt:k<ps.length
  ·obtain⟨b,off,rfl,hbB,ak,ck,ae,ce,hr,_⟩:=SlIn.at HP.out k hlt
   have e0:=hr 0 (.string ps[k].id) rfl;rw[Nat.add_zero]at e0;have hI:=HI.out;rw[List.drop_eq_getElem_cons hlt,findP]at hI;generalize ps[k]=p at*
   clear hr;cases he:eqB p.id id with
   | true=>
    have HE:Hid (R=(k:Int)):=by show _=_;rw[hI,if_pos he]
    unfold eqB at he;clear hI;go_wp2;go_ret;exact⟨by rw[HE.out];rfl,HB1.out⟩
   | false=>
    have HE:Hid (R=findP id (ps.drop (k+1)) ((k+1:Nat):Int)):=by show _=_;rw[hI,if_neg (by rw[he];simp)];rfl
    unfold eqB at he;clear hI;go_wp2;go_roundw
    case rel=>exact⟨k+1,by omega,by go_num,by trivial,HE⟩
    case measure=>simp[intOf];omega
  ·have HE:Hid (R= -1):=by
    show _=_
    rw[HI.out,List.drop_of_length_le (by omega)];rfl
   go_wp2;go_ret;exact⟨by rw[HE.out];rfl,HB1.out⟩
end
section
def askP (ps:List Pv)(ids:List ByteArray)(i:Nat):Bool:=match ps[i]? with | some p=>inB ids p.id | none=>false
def idP (ps:List Pv)(i:Nat):ByteArray:=match ps[i]? with | some p=>p.id | none=>nilB
def allIn (ps:List Pv)(ids:List ByteArray):Bool:=ids.all fun s=>ps.any fun p=>eqB p.id s
def bestI (d:List Fa)(ps:List Pv)(ts:List Int)(ids:List ByteArray):List Nat×Int:=
 bestW (whyD d (condP ps) (rankP ps) (timeP ts)) (askP ps ids) ps.length (List.range ps.length) []
def bestA (d:List Fa)(ps:List Pv)(ts:List Int)(ids:List ByteArray):List ByteArray×Int:=
 if properL d ps ts.length=true then(if allIn ps ids=true then((bestI d ps ts ids).1.map (idP ps),(bestI d ps ts ids).2)else([],11))else([],1)
theorem askP_at {ps:List Pv}{ids:List ByteArray}{i:Nat}(h:i<ps.length):askP ps ids i=inB ids ps[i].id:=by unfold askP;rw[List.getElem?_eq_getElem h]
theorem idP_at {ps:List Pv}{i:Nat}(h:i<ps.length):idP ps i=ps[i].id:=by unfold idP;rw[List.getElem?_eq_getElem h]
theorem bestA_err {d:List Fa}{ps:List Pv}{ts:List Int}{ids:List ByteArray}(h:(bestA d ps ts ids).2≠0):(bestA d ps ts ids).1=[]:=by
 unfold bestA at h⊢
 split at h
 ·next h1=>
  rw[if_pos h1]
  split at h
  ·next h2=>
   rw[if_pos h2]
   show List.map _ _=_
   unfold bestI;rw[bestW_err _ _ h];rfl
  ·next h2=>rw[if_neg h2]
 ·next h1=>rw[if_neg h1]
theorem eqB_iff {a b:ByteArray}:eqB a b=true↔a=b:=by
 unfold eqB;rw[<-eqB_eq,beq_iff_eq]
theorem find_drop {ps:List Pv}(hp:ps.Pairwise fun p q=>p.id≠q.id){i:Nat}(hi:i<ps.length):∀k,k<=i->findP ps[i].id (ps.drop k) k=i:=by
 intro k hk
 induction hd:i-k generalizing k with
 | zero=>
  have:k=i:=by omega
  subst this;rw[List.drop_eq_getElem_cons hi,findP,if_pos (eqB_iff.2 rfl)]
 | succ n ih=>
  have hlt:k<i:=by omega
  rw[List.drop_eq_getElem_cons (by omega),findP,if_neg (fun h=>List.pairwise_iff_getElem.1 hp k i (by omega) hi hlt (eqB_iff.1 h))];exact ih (k+1) (by omega) (by omega)
theorem find_at {ps:List Pv}(hp:ps.Pairwise fun p q=>p.id≠q.id){i:Nat}(hi:i<ps.length):findP ps[i].id ps 0=i:=find_drop hp hi 0 (Nat.zero_le _)
theorem inB_iff {l:List ByteArray}{s:ByteArray}:inB l s=true↔s∈l:=by
 unfold inB;rw[List.any_eq_true];constructor
 ·rintro⟨x,hx,h⟩;rw[<-eqB_iff.1 h];exact hx
 ·intro h;exact⟨s,h,eqB_iff.2 rfl⟩
structure BestL (d : List Fa) (ps : List Pv) (ts : List Int) (ids : List ByteArray) (l : List Nat) : Prop where
 eq:(bestA d ps ts ids).1=l.map (idP ps)
 ne:ps.Pairwise fun p q=>p.id≠q.id
 inside:∀i∈l,i<ps.length/\ inB ids (idP ps i)=true
 order:l.Pairwise (· < ·)
 none:∀i∈l,∀s∈ids,beatF d ps ts (findP s ps 0) i=false
 over:∀s∈ids,inB (l.map (idP ps)) s=true\/∃i∈l,beatF d ps ts i (findP s ps 0)=true
 some:l=[]↔ids=[]
theorem beats_iff' {d:List Fa}{ps:List Pv}{ts:List Int}{a b:Nat}(hp:properL d ps ts.length=true)(ha:a<ps.length)(hb:b<ps.length):
  beatF d ps ts a b=true↔(whyD d (condP ps) (rankP ps) (timeP ts) a b).2=0/\ 0<(whyD d (condP ps) (rankP ps) (timeP ts) a b).1:=by
 have hi:insideL ps a b=true:=by unfold insideL;simp;omega
 have e:whyA d ps ts a b=whyD d (condP ps) (rankP ps) (timeP ts) a b:=by
  unfold whyA;rw[if_pos ⟨hp,hi⟩];rfl
 unfold beatF beatsA;rw[e,Bool.and_eq_true,beq_iff_eq,decide_eq_true_eq];exact And.comm
theorem best_law {d:List Fa}{ps:List Pv}{ts:List Int}{ids:List ByteArray}(h:(bestA d ps ts ids).2=0):∃l,BestL d ps ts ids l:=by
 unfold bestA at h
 split at h
 ·next hp=>
  split at h
  ·next hin=>
   have hP:=proper_ok hp;have hb:=best_ok h;have he:(bestA d ps ts ids).1=(bestI d ps ts ids).1.map (idP ps):=by unfold bestA;rw[if_pos hp,if_pos hin]
   have hall:∀s∈ids,∃j,j<ps.length/\ idP ps j=s/\ findP s ps 0=j:=fun s hs=>by
    have:=List.all_eq_true.1 hin s hs;rw[List.any_eq_true]at this;obtain⟨p,hp1,hp2⟩:=this;obtain⟨j,hj,rfl⟩:=List.mem_iff_getElem.1 hp1;have e:=eqB_iff.1 hp2;exact⟨j,hj,by rw[idP_at hj,e],by rw[<-e];exact find_at hP.ids hj⟩
   have hask:∀j (hj:j<ps.length),idP ps j∈ids->askP ps ids j=true:=fun j hj hm=>by
    rw[askP_at hj,inB_iff, <-idP_at hj];exact hm
   have hin':∀i∈(bestI d ps ts ids).1,i<ps.length/\ inB ids (idP ps i)=true:=fun i hi=>by
    obtain⟨h1,h2,_⟩:=(hb.mem i).1 hi;refine⟨h1,?_⟩;rw[askP_at h1]at h2;rw[idP_at h1];exact h2
   refine⟨(bestI d ps ts ids).1,he,hP.ids,hin',hb.order,fun i hi s hs=>?_,fun s hs=>?_,?_⟩
   ·obtain⟨j,hj,e1,e2⟩:=hall s hs
    obtain⟨h1,h2,h3⟩:=(hb.mem i).1 hi;rw[e2];cases eb:beatF d ps ts (j:Int) (i:Int)with
    | false=>rfl
    | true=>
     obtain⟨b1,b2⟩:=(beats_iff' hp hj h1).1 eb;by_cases hij:i=j
     ·subst hij
      exact absurd ((why_iff b1).1 b2) (beat_irr _)
     ·exact absurd b2 (h3 j hj (hask j hj (by rw[e1];exact hs)) hij)
   ·obtain⟨j,hj,e1,e2⟩:=hall s hs
    rw[e2]
    have hmem:j∈(List.range ps.length).filter (askP ps ids):=by
     rw[List.mem_filter,List.mem_range];exact⟨hj,hask j hj (by rw[e1];exact hs)⟩
    obtain⟨b,hb1,hb2,hb3⟩:=best_all (d:=d) (P:=condP ps) (R:=rankP ps) (T:=timeP ts) _ hmem;rw[List.mem_filter,List.mem_range]at hb1;have hbm:b∈(bestI d ps ts ids).1:=(hb.mem b).2 ⟨hb1.1,hb1.2,fun x hx hq hne hp'=>hb3 x (by rw[List.mem_filter,List.mem_range];exact⟨hx,hq⟩) ((why_iff (hb.err b hb1.1 hb1.2 x hx hq hne)).1 hp')⟩;rcases hb2 with rfl | hb2
    ·left
     rw[inB_iff,List.mem_map];exact⟨b,hbm,e1⟩
    ·right
     have hne:j≠b:=fun e=>by subst e;exact beat_irr _ hb2
     refine⟨b,hbm,(beats_iff' hp hb1.1 hj).2 ?_⟩;have h0:=hb.err j hj (hask j hj (by rw[e1];exact hs)) b hb1.1 hb1.2 hne;exact⟨h0,(why_iff h0).2 hb2⟩
   ·constructor
    ·intro hl
     cases ids with
     | nil=>rfl
     | cons s ids=>
      exfalso
      obtain⟨j,hj,e1,e2⟩:=hall s (List.mem_cons_self ..)
      have hmem:j∈(List.range ps.length).filter (askP ps (s::ids)):=by
       rw[List.mem_filter,List.mem_range];exact⟨hj,hask j hj (by rw[e1];exact List.mem_cons_self ..)⟩
      obtain⟨b,hb1,hb2,hb3⟩:=best_all (d:=d) (P:=condP ps) (R:=rankP ps) (T:=timeP ts) _ hmem;rw[List.mem_filter,List.mem_range]at hb1;have hbm:b∈(bestI d ps ts (s::ids)).1:=(hb.mem b).2 ⟨hb1.1,hb1.2,fun x hx hq hne hp'=>hb3 x (by rw[List.mem_filter,List.mem_range];exact⟨hx,hq⟩) ((why_iff (hb.err b hb1.1 hb1.2 x hx hq hne)).1 hp')⟩;rw[hl]at hbm;cases hbm
    ·rintro rfl
     cases e:(bestI d ps ts []).1 with
     | nil=>rfl
     | cons i l=>
      have:=(hin' i (by rw[e];exact List.mem_cons_self ..)).2;rw[inB_iff]at this;cases this
  ·cases h
 ·cases h
end
section
def stM :St:=⟨0,⟨#[]⟩,0,none,0,0⟩
def nmM :ByteArray:=⟨#[111,116,104,101,114]⟩
def xB :ByteArray:=⟨#[120]⟩
def pvM (p:Pv):Pv:=⟨p.id,p.rank,1,nmM,0,nnF p.cond,[xB],stM,stM,stM⟩
theorem nn_size (f:Fo):(nnF f).size=f.size+2:=by unfold nnF;simp[Fo.size,Fo.sizeL]
theorem nn_depth (f:Fo):f.depth<=(nnF f).depth:=by unfold nnF;simp[Fo.depth,Fo.depthL];omega
theorem nn_check {d:List Fa}{kn:ByteArray->Bool}{f:Fo}(h:checkF (nnF f) d kn=0):checkF f d kn=0:=by
 unfold checkF at h⊢
 split at h
 ·cases h
 ·next hs=>
  rw[nn_size]at hs;have:=nn_depth f;rw[if_neg (by omega)];unfold nnF at h;simp only[nodesL,nodesLL,List.append_nil,firstErr]at h
  split at h
  ·split at h
   ·exact h
   ·next h2=>exact absurd h h2
  ·next h2=>exact absurd h h2
theorem ok_map {d:List Fa}:∀(l:List Pv) (m:List (ByteArray×Bool)),okRk d m (l.map pvM)=true->okRk d m l=true
 | [],_,_=>rfl
 | p::l,m,h=>by
  rw[List.map_cons,okRk]at h
  split at h
  ·cases h
  ·next hn=>
   obtain⟨n1,n2⟩:=not_or.1 hn;have n2:=nn_check (f:=p.cond) (Classical.not_not.1 n2);rw[okRk,if_neg (by rintro(e | e);exact n1 e;exact e n2)];exact ok_map l _ h
theorem proper_map {d:List Fa}{ps:List Pv}{n:Nat}(h:properL d (ps.map pvM) n=true):properL d ps n=true:=by
 unfold properL at h⊢;rw[List.length_map]at h;simp only[Bool.and_eq_true]at h⊢;exact⟨h.1,ok_map _ _ h.2⟩
theorem condM {ps:List Pv}{i:Nat}(h:i<ps.length):condP (ps.map pvM) i=nnF (condP ps i):=by
 rw[condP_at (by rw[List.length_map];exact h),condP_at h,List.getElem_map];rfl
theorem rankM (ps:List Pv)(i:Nat):rankP (ps.map pvM) i=rankP ps i:=by
 unfold rankP;rw[List.getElem?_map];cases ps[i]? <;>rfl
theorem idM (ps:List Pv)(i:Nat):idP (ps.map pvM) i=idP ps i:=by
 unfold idP;rw[List.getElem?_map];cases ps[i]? <;>rfl
theorem insideM (ps:List Pv)(a b:Int):insideL (ps.map pvM) a b=insideL ps a b:=by unfold insideL;rw[List.length_map]
theorem build_map {d:List Fa}{ps:List Pv}{n i:Nat}(h:properL d (ps.map pvM) n=true)(hi:i<ps.length):buildX d (condP (ps.map pvM) i)=buildX d (condP ps i):=by
 rw[condM hi];have h1:=(proper_ok (proper_map h)).check _ (List.getElem_mem hi);have h2:=(proper_ok h).check (pvM ps[i]) (List.mem_map_of_mem (List.getElem_mem hi));rw[condP_at hi];exact build_nn h1 h2
theorem why_map {d:List Fa}{ps:List Pv}{ts:List Int}{n a b:Nat}(h:properL d (ps.map pvM) n=true)(ha:a<ps.length)(hb:b<ps.length):
  whyD d (condP (ps.map pvM)) (rankP (ps.map pvM)) (timeP ts) a b=whyD d (condP ps) (rankP ps) (timeP ts) a b:=by
 unfold whyD specD aloneD;rw[build_map h ha,build_map h hb,rankM,rankM]
theorem why_same_law {d:List Fa}{ps:List Pv}{ts:List Int}{a b:Int}(h:(whyA d (ps.map pvM) ts a b).2≠1)(hp:properL d (ps.map pvM) ts.length=true):whyA d (ps.map pvM) ts a b=whyA d ps ts a b:=by
 unfold whyA at h⊢;rw[insideM]at h⊢;by_cases hi:insideL ps a b=true
 ·rw[if_pos ⟨hp,hi⟩,if_pos ⟨proper_map hp,hi⟩]
  unfold insideL at hi;simp only[Bool.and_eq_true,decide_eq_true_eq]at hi;exact why_map hp (by omega) (by omega)
 ·rw[if_neg (fun e=>hi e.2)]at h
  exact absurd rfl h
theorem ask_map (ps:List Pv)(ids:List ByteArray)(i:Nat):askP (ps.map pvM) ids.reverse i=askP ps ids i:=by
 unfold askP;rw[List.getElem?_map];cases ps[i]? with
 | none=>rfl
 | some p=>
  show inB ids.reverse p.id=inB ids p.id
  rw[Bool.eq_iff_iff,inB_iff,inB_iff,List.mem_reverse]
theorem all_map (ps:List Pv)(ids:List ByteArray):allIn (ps.map pvM) ids.reverse=allIn ps ids:=by
 unfold allIn;rw[List.all_reverse];congr 1
 funext s;rw[List.any_map]
 rfl
theorem beatW_congr {W W':Nat->Nat->Int×Int}{Q Q':Nat->Bool}{a n:Nat}(hq:∀i,Q i=Q' i)(hw:∀b,b<n->W b a=W' b a):∀(l:List Nat) (is:Bool),(∀b∈l,b<n)->beatW W Q a l is=beatW W' Q' a l is
 | [],_,_=>rfl
 | b::l,is,h=>by
  have ih:=fun is=>beatW_congr (a:=a) hq hw l is fun c hc=>h c (List.mem_cons_of_mem _ hc)
  rw[beatW,beatW,hq,hw b (h b (List.mem_cons_self ..)),ih,ih]
theorem bestW_congr {W W':Nat->Nat->Int×Int}{Q Q':Nat->Bool}{n:Nat}(hq:∀i,Q i=Q' i)(hw:∀a,a<n->∀b,b<n->W b a=W' b a):∀(l out:List Nat),(∀b∈l,b<n)->bestW W Q n l out=bestW W' Q' n l out
 | [],_,_=>rfl
 | a::l,out,h=>by
  have ih:=fun out=>bestW_congr hq hw l out fun c hc=>h c (List.mem_cons_of_mem _ hc)
  rw[bestW,bestW,hq,beatW_congr hq (hw a (h a (List.mem_cons_self ..))) _ _ (fun b hb=>List.mem_range.1 hb),ih,ih]
theorem best_same_law {d:List Fa}{ps:List Pv}{ts:List Int}{ids:List ByteArray}(hp:properL d (ps.map pvM) ts.length=true):bestA d (ps.map pvM) ts ids.reverse=bestA d ps ts ids:=by
 unfold bestA;rw[if_pos hp,if_pos (proper_map hp),all_map]
 have e:bestI d (ps.map pvM) ts ids.reverse=bestI d ps ts ids:=by
  unfold bestI;rw[List.length_map];exact bestW_congr (ask_map ps ids) (fun a ha b hb=>why_map hp hb ha) _ _ fun b hb=>List.mem_range.1 hb
 rw[e]
 split
 ·congr 1
  exact List.map_congr_left fun i _=>idM ps i
 ·rfl
end
end Go.Proofs.YtmafmhlfjficmaaGreatDoor
