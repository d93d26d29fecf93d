/- The walk of rank.Best. Bounds on the provisions and the Ids. -/
import Derived.Test.YtmafmhlfjficmaaGreatDoorRkUA
import Derived.Test.YtmafmhlfjficmaaGreatDoorRkSA
import Derived.Maps.AppendAt
import Derived.Test.YtmafmhlfjficmaaGreatDoorDgIN
set_option maxRecDepth 100000
set_option maxHeartbeats 8000000
namespace Go.Proofs.YtmafmhlfjficmaaGreatDoor
section
open Go.RowKit
def boolC (q:List Bool):Array Value:=(q.map Value.bool).toArray
theorem bool_cell {W:World}{gb:Nat}{t:TypeId}{q:List Bool}(h:Blk W gb t (boolC q))(i:Nat)(hi:i<q.length):W.cell? ⟨gb,i,none⟩=some (.bool (q.getD i false)):=by
 rw[h.cell i];simp[boolC,List.getD_eq_getElem?_getD,hi]
theorem bool_made (n:Nat):madeCells #[Value.bool false] n=boolC (List.replicate n false):=by
 refine Array.ext (by simp[size_madeCells,boolC]) fun i h1 h2=>?_
 have:(madeCells #[Value.bool false] n)[i]? =some (.bool false):=by
  simp[size_madeCells]at h1;simp[madeCells,h1,Nat.mod_one]
 rw[Array.getElem?_eq_getElem h1]at this;rw[Option.some.inj this];simp[boolC]
theorem bool_store (q:List Bool)(i:Nat):(boolC q).setIfInBounds i (.bool true)=boolC (q.set i true):=by
 simp[boolC,List.map_set]
structure AskM (W : World) (AB RB XB CB : Nat) (q : List Bool) : Prop where
 box:Blk W AB 70 #[.slice (some ⟨RB,0,none⟩) q.length q.length]
 row:Blk W RB 4 (boolC q)
 court:Blk W XB 62 #[.pointer (some ⟨CB,0,none⟩)]
variable {w0 W W' : World} {B CB KB AB RB XB : Nat} {d : List Fa} {ps : List Pv} {ts : List Int} {c0 c1 c2 : Value} {q : List Bool}
theorem AskM.step {l:List (Int×Value)}(h:AskM W AB RB XB CB q)(hm:MapIs (Value.int .i64) (fun v:Value=>v) W KB l)(hu:StepK KB W W'):AskM W' AB RB XB CB q:=by
 have ne:∀ {b:Nat} {t:TypeId} {cs:Array Value},Blk W b t cs->b≠KB:=fun{b t cs} hb e=>by
  subst e;obtain⟨es,c,h1,_⟩:=hm;rw[show W.heap[b]? =_ from hb]at h1;cases h1
 exact⟨hu.blk h.box (ne h.box),hu.blk h.row (ne h.row),hu.blk h.court (ne h.court)⟩
theorem AskM.below (h:AskM W AB RB XB CB q)(hb:Below W.heap.size W W'):AskM W' AB RB XB CB q:=⟨h.box.below hb,h.row.below hb,h.court.below hb⟩
theorem best_beaten (hE:CtE w0 B CB KB d ps ts c0 c1 c2)(hS:StK w0 KB d ps W)(hA:AskM W AB RB XB CB q)(hq:q.length=ps.length)(hn:ps.length<=1000)(a:Nat)(ha:a<ps.length)(hts:ts.length=ps.length)(hsz:∀p∈ps,p.cond.size<=1000000):
  Calls Tryz.prog 37 #[.int .i64 a,.pointer (some ⟨AB,0,none⟩),.pointer (some ⟨XB,0,none⟩)] W fun e W'=>
   e=.returned (.tuple #[.bool (beatW (whyD d (condP ps) (rankP ps) (timeP ts)) (fun i=>q.getD i false) a (List.range ps.length) false).1,.int .i64 (beatW (whyD d (condP ps) (rankP ps) (timeP ts)) (fun i=>q.getD i false) a (List.range ps.length) false).2])/\ Hid (StK w0 KB d ps W')/\ Hid (StepK KB W W'):=by
 have HW:=Lib.hid (fun b (hb:b<ps.length) w (h:StK w0 KB d ps w)=>court_why hE h b a hb ha hts hsz);generalize whyD d (condP ps) (rankP ps) (timeP ts)=WY at*
 obtain⟨RR,hRR⟩:∃RR,beatW WY (fun i=>q.getD i false) a (List.range ps.length) false=RR:=⟨_,rfl⟩;rw[hRR];have HRR:=Lib.hid hRR;have HS:=Lib.hid hS;have HA:=Lib.hid hA;have HQ:=Lib.hid hq;have x0:=hA.box.cell 0;have hal:(a:Int)<=1000:=by omega
 rw[hq]at x0;clear hRR hE hS hA hq hts hsz;go_enter Tryz.func37,Tryz.ntmps37;go_wp2
 go_loopw [4,11] (fun sv iv wr=>∃(k:Nat) (is:Bool),k<=ps.length/\ iv=.int .i64 k/\ sv=.bool is/\ Hid (RR=beatW WY (fun i=>q.getD i false) a ((List.range ps.length).drop k) is)/\ Hid (StK w0 KB d ps wr)/\ Hid (StepK KB W wr)/\ Hid (AskM wr AB RB XB CB q)) (fun _ iv _=>ps.length-(intOf iv).toNat)
 case atStart=>exact⟨0,false,Nat.zero_le _,rfl,rfl,HRR.out.symm,HS,Lib.hid (StepK.of_below (Below.refl _ _)),HA⟩
 case round=>
  obtain⟨k,is,hk,rfl,rfl,HI,HSr,HPr,HAr⟩:=hrel;have y0:=HAr.out.box.cell 0;rw[HQ.out]at y0;clear x0;by_cases hlt:k<ps.length
  ·have hI:=HI.out
   rw[List.drop_eq_getElem_cons (by rw[List.length_range];exact hlt),List.getElem_range,beatW]at hI;have y1:=bool_cell HAr.out.row k (by rw[HQ.out];exact hlt);have y2:=HAr.out.court.cell 0;have hk0:(0:Int)<=(k:Int):=Int.natCast_nonneg _;have hk1:(k:Int)<(ps.length:Int):=by omega
   obtain⟨qk,hqk⟩:∃qk,q.getD k false=qk:=⟨_,rfl⟩;rw[hqk]at y1 hI;clear hqk;cases qk with
   | false=>
    have HIN:Hid (RR=beatW WY (fun i=>q.getD i false) a ((List.range ps.length).drop (k+1)) is):=by show _=_;rw[hI,if_neg (fun h=>by cases h.1)]
    clear hI HI;go_wp2;go_roundw
    case rel=>exact⟨k+1,is,by omega,by go_num,rfl,HIN,HSr,HPr,HAr⟩
    case measure=>simp[intOf];omega
   | true=>
    by_cases hak:a=k
    ·have HIN:Hid (RR=beatW WY (fun i=>q.getD i false) a ((List.range ps.length).drop (k+1)) is):=by show _=_;rw[hI,if_neg (fun h=>h.2 hak)]
     have gk:((a:Int)==(k:Int))=true:=by simp;omega
     clear hI HI hak;go_wp2;go_roundw
     case rel=>exact⟨k+1,is,by omega,by go_num,rfl,HIN,HSr,HPr,HAr⟩
     case measure=>simp[intOf];omega
    ·have gk:((a:Int)==(k:Int))=false:=by simp;omega
     rw[if_pos ⟨rfl,hak⟩]at hI;have HWK:=Lib.hid (HW.out k hlt wr HSr.out);obtain⟨X,hX⟩:∃X,WY k a=X:=⟨_,rfl⟩;rw[hX]at hI HWK;obtain⟨xn,xe⟩:=X;simp only at hI HWK;obtain⟨l,hm,_⟩:=HSr.out.map;have HM:=Lib.hid hm;clear hX HI hak hm;by_cases he:xe=0
     ·subst he
      rw[if_pos rfl]at hI;obtain⟨gt,hgt⟩:∃gt,decide ((0:Int)<xn)=gt:=⟨_,rfl⟩;rw[hgt]at hI;have HIN:Hid (RR=beatW WY (fun i=>q.getD i false) a ((List.range ps.length).drop (k+1)) (is || gt)):=hI;clear hI;cases is with
      | true=>
       clear hgt;go_wp2_with (go_at_call 35;refine HWK.out.mono ?_;rintro e w2 ⟨rfl,HS2,HP2⟩);go_roundw
       case rel=>exact⟨k+1,true,by omega,by go_num,rfl,by rw[HIN.out];rfl,HS2,Lib.hid (HPr.out.trans HP2.out),Lib.hid (HAr.out.step HM.out HP2.out)⟩
       case measure=>simp[intOf];omega
      | false=>
       go_wp2_with (go_at_call 35;refine HWK.out.mono ?_;rintro e w2 ⟨rfl,HS2,HP2⟩);go_roundw
       case rel=>exact⟨k+1,gt,by omega,by go_num,by simp,by rw[HIN.out];rfl,HS2,Lib.hid (HPr.out.trans HP2.out),Lib.hid (HAr.out.step HM.out HP2.out)⟩
       case measure=>simp[intOf];omega
     ·rw[if_neg he]at hI
      have HEND:Hid (RR=(false,xe)):=hI;have gE:(xe !=0)=true:=by simpa using he
      clear hI he;go_wp2_with (go_at_call 35;refine HWK.out.mono ?_;rintro e w2 ⟨rfl,HS2,HP2⟩);go_ret2;exact⟨by rw[HEND.out];rfl,HS2,Lib.hid (HPr.out.trans HP2.out)⟩
  ·have HEND:Hid (RR=(is,0)):=by
    show _=_
    rw[HI.out,List.drop_of_length_le (by rw[List.length_range];omega)];rfl
   go_wp2;go_ret2;exact⟨by rw[HEND.out];rfl,HSr,HPr⟩
end
section
open Go.RowKit
def strC (cs:List ByteArray):Array Value:=(cs.map Value.string).toArray
structure StrRow (w : World) (base : Nat) (v : Value) (l : List ByteArray) : Prop where
 is:(v=.slice none 0 0/\ l=[])\/∃g cs cap,v=.slice (some ⟨g,0,none⟩) l.length cap/\ base<=g/\ w.heap[g]? =some (.cells (strC cs) 9 (0,0))/\ cs.length=cap/\ l.length<=cap/\ cap<=maxLen/\ cs.take l.length=l
theorem StrRow.nil (w:World)(base:Nat):StrRow w base (.slice none 0 0) []:=⟨.inl ⟨rfl,rfl⟩⟩
theorem StrRow.kept {w w':World}{base:Nat}{v:Value}{l:List ByteArray}(h:StrRow w base v l){row:Option Nat}(hg:w.grownBy w' row)(hne:v.ownBlock=none\/v.ownBlock≠row):StrRow w' base v l:=by
 rcases h.is with h | ⟨g,cs,cap,rfl,h1,h2,h3⟩
 ·exact⟨.inl h⟩
 ·refine⟨.inr ⟨g,cs,cap,rfl,h1,?_,h3⟩⟩
  rw[hg.block g (Array.getElem?_eq_some_iff.1 h2).1 (fun e=>by
   rcases hne with h | h
   ·cases h
   ·exact h (by rw[<-e];rfl))]
  exact h2
theorem StrRow.shape {w:World}{base:Nat}{v:Value}{l:List ByteArray}(h:StrRow w base v l):∃a c,v=.slice a l.length c:=by
 rcases h.is with⟨rfl,rfl⟩ | ⟨g,cs,cap,rfl,_⟩
 ·exact⟨none,0,rfl⟩
 ·exact⟨_,_,rfl⟩
theorem StrRow.ge {w:World}{base:Nat}{v:Value}{l:List ByteArray}(h:StrRow w base v l):∀b,v.ownBlock=some b->base<=b:=by
 rcases h.is with⟨rfl,rfl⟩ | ⟨g,cs,cap,rfl,h1,_⟩
 ·intro b hb;cases hb
 ·intro b hb;cases hb;exact h1
theorem StrRow.block {w:World}{base:Nat}{v:Value}{l:List ByteArray}(h:StrRow w base v l){b:Nat}(hb:v.ownBlock=some b):∃cs,w.heap[b]? =some (.cells (strC cs) 9 (0,0)):=by
 rcases h.is with⟨rfl,rfl⟩ | ⟨g,cs,cap,rfl,h1,h2,_⟩
 ·cases hb
 ·cases hb;exact⟨cs,h2⟩
theorem StrRow.strs {w:World}{base:Nat}{v:Value}{l:List ByteArray}(h:StrRow w base v l):StrsIn w w.heap.size l v:=by
 rcases h.is with⟨rfl,rfl⟩ | ⟨g,cs,cap,rfl,h1,h2,h3,h4,h5,h6⟩
 ·exact⟨none,0,rfl,Nat.le_refl _,Nat.zero_le _,fun h=>absurd rfl h⟩
 ·refine⟨_,cap,rfl,h4,by omega,fun _=>⟨g,0,rfl,(Array.getElem?_eq_some_iff.1 h2).1,fun i hi=>?_⟩⟩
  have e:cs[i]? =some l[i]:=by
   have:(cs.take l.length)[i]? =some l[i]:=by rw[h6];exact List.getElem?_eq_getElem hi
   rw[List.getElem?_take,if_pos hi]at this;exact this
  have hc:w.cell? ⟨g,0+i*1,none⟩=some (.string l[i]):=by
   simp[World.cell?,h2,strC,e]
  exact hc
theorem zeroC (n:Nat):Builtin.zeroCells #[Value.string ⟨#[]⟩] n=strC (List.replicate n ⟨#[]⟩):=by
 refine Array.ext (by simp[size_zeroCells,strC]) fun i h1 h2=>?_
 simp[Builtin.zeroCells,strC,Nat.mod_one]
section
variable {base : Nat} {i : TypeInfo}
theorem run_append_str (w:World)(base:Nat)(i:TypeInfo)(hi:Tryz.prog.info? 9=some i)(hz:i.zero=some (.string ⟨#[]⟩))(hs:i.size=1)(hb:i.bytes=16)(ty:TypeId)(v:Value)(l:List ByteArray)(h:StrRow w base v l)(s:ByteArray)(ad:Addr)(c:Nat)(hn:w.cell? ad=some (.string s))
  (h63:l.length+1<=1000000) (hbase:base<=w.heap.size):
  ∃v' w',(Builtin.append_ #[29,29] ty #[v,.slice (some ad) 1 c]).run Tryz.prog w=.ok v' w'/\ StrRow w' base v' (l++[s])/\ w.grownBy w' v.ownBlock:=by
 have hnews:∀j u,[Value.string s][j]? =some u->w.cell? (ad.add j)=some u:=fun j u hj=>by
  match j,hj with
  | 0,hj=>
   have:ad.add 0=ad:=by cases ad;rfl
   rw[this];simp at hj;rw[hn,hj]
  | j+1,hj=>simp at hj
 have hm:(1000064:Nat)<=maxLen:=by unfold maxLen;omega
 rcases h.is with⟨rfl,rfl⟩ | ⟨g,cs,cap,rfl,h1,h2,h3,h4,h5,h6⟩
 ·have hr:=run_append_nil (P:=Tryz.prog) w 29 ty 9 i _ Tryz.underlying29 hi hz ad 1 c [.string s] (by rw[hs];rfl) hnews (by decide) (by decide) (by omega)
  have hge:=grownCap_ge w 1 0 9;have hle:=grownCap_le_maxLen w 1 0 9 (by unfold maxLen;omega);refine⟨_,_,hr,⟨.inr ⟨w.heap.size,s::List.replicate (grownCap w 1 0 9-1) ⟨#[]⟩,_,rfl,hbase,?_,by simp;omega,hge,hle,rfl⟩⟩,⟨rfl,rfl,rfl,by simp,fun k hk _=>heap_alloc_old w.drew _ hk⟩⟩
  rw[show(#[Value.string s]:Array Value)++Builtin.zeroCells (Value.string ⟨#[]⟩).cells (grownCap w 1 0 9-1)=strC (s::List.replicate (grownCap w 1 0 9-1) ⟨#[]⟩) by
   rw[show(Value.string ⟨#[]⟩).cells=#[Value.string ⟨#[]⟩]from rfl,zeroC]
   simp[strC]]
  exact heap_alloc_new w.drew _
 ·have hlc:(strC cs).size=cap:=by simp[strC,h3]
  by_cases hroom:l.length+1<=cap
  ·have hr:=run_append_room (P:=Tryz.prog) w 29 ty 9 i Tryz.underlying29 hi g l.length cap _ h2 ad 1 c [.string s] (by rw[hs];rfl) hnews (by simp[Value.oneCell']) hroom (by rw[hs,hlc];simpa using hroom)
   have e:((strC cs).toList.take (l.length*i.size)++[Value.string s]++(strC cs).toList.drop (l.length*i.size+[Value.string s].length)).toArray=strC (cs.take l.length++[s]++cs.drop (l.length+1)):=by
    rw[hs];simp[strC,List.map_take,List.map_drop]
   rw[e]at hr;refine⟨_,_,hr,⟨.inr ⟨g,_,cap,by rw[List.length_append];rfl,h1,setRow_heap w g _ _ 9 _ h2,?_,by rw[List.length_append];exact hroom,h5,?_⟩⟩,⟨rfl,rfl,rfl,by simp,fun k _ hk=>setRow_other w g k _ (fun e=>hk (by simp[Value.ownBlock,e]))⟩⟩
   ·rw[List.length_append,List.length_append,List.length_take,List.length_drop]
    simp
    omega
   ·rw[h6,List.length_append]
    exact List.take_left' (by simp)
  ·have holds:∀j u,(l.map Value.string)[j]? =some u->w.cell? ((⟨g,0,none⟩:Addr).add j)=some u:=fun j u hj=>by
    rw[List.getElem?_map]at hj;cases hlj:l[j]? with
    | none=>rw[hlj]at hj;cases hj
    | some x=>
     rw[hlj]at hj;cases hj
     have hjl:=(List.getElem?_eq_some_iff.1 hlj).1;have:(cs.take l.length)[j]? =some x:=by rw[h6];exact hlj
     rw[List.getElem?_take,if_pos hjl]at this;rw[Addr.add_mid];simp[World.cell?,h2,strC,this]
   have hcl:cap=l.length:=by omega
   have hfit:Builtin.nextslicecap (l.length+1) cap*i.bytes<=281474976710656:=growslice_fits (by omega) (by rw[hb];omega);have hr:=run_append_grow (P:=Tryz.prog) w 29 ty 9 i _ Tryz.underlying29 hi hz ⟨g,0,none⟩ l.length cap (l.map Value.string) (by rw[hs];simp) holds ad 1 c [.string s] (by rw[hs];rfl) hnews (by omega) (by omega) hfit;have hge:=grownCap_ge w (l.length+1) cap 9;have hle:=grownCap_le_maxLen w (l.length+1) cap 9 (by omega);refine⟨_,_,hr,⟨.inr ⟨w.heap.size,l++[s]++List.replicate (grownCap w (l.length+1) cap 9-(l.length+1)) ⟨#[]⟩,_,by rw[List.length_append];rfl,hbase,?_,by simp;omega,by rw[List.length_append];exact hge,hle,?_⟩⟩,⟨rfl,rfl,rfl,by simp,fun k hk _=>heap_alloc_old w.drew _ hk⟩⟩
   ·rw[show(l.map Value.string).toArray++#[Value.string s]++Builtin.zeroCells (Value.string ⟨#[]⟩).cells (grownCap w (l.length+1) cap 9-(l.length+1))=strC (l++[s]++List.replicate (grownCap w (l.length+1) cap 9-(l.length+1)) ⟨#[]⟩) by
     rw[show(Value.string ⟨#[]⟩).cells=#[Value.string ⟨#[]⟩]from rfl,zeroC]
     simp[strC]]
    exact heap_alloc_new w.drew _
   ·rw[List.length_append]
    exact List.take_left' (by simp)
theorem wpList_append_str {ops:Array Oper}{rest:List Oper}{o:Oper}{a:Act}{w:World}{Q:Exit->Act->World->Prop}(hgd:o.guard=none)(sl x:Operand)
  (ho:o.op=.call {callee:=.builtin .append,args:=#[sl,x],argTypes:=#[29,29]})
  (base:Nat) (i:TypeInfo) (hi:Tryz.prog.info? 9=some i) (hz:i.zero=some (.string ⟨#[]⟩)) (hs:i.size=1) (hb:i.bytes=16) (v:Value) (l:List ByteArray) (hv:a.eval sl=v) (h:StrRow w base v l) (s:ByteArray) (ad:Addr) (c:Nat) (hx:a.eval x=.slice (some ad) 1 c) (hn:w.cell? ad=some (.string s))
  (h63:l.length+1<=1000000) (hbase:base<=w.heap.size)
  (hK:∀v' w',StrRow w' base v' (l++[s])->w.grownBy w' v.ownBlock->wpList Tryz.prog ops Q rest (a.put o.dst v') w'):wpList Tryz.prog ops Q (o::rest) a w:=by
 refine wpList_plain hgd fun K hK'=>?_
 obtain⟨v',w',hr,h2,h3⟩:=run_append_str w base i hi hz hs hb o.type v l h s ad c hn h63 hbase;unfold Oper.wp execOp;simp only[ho,resolve,invoke,builtin,Sem.run_bind,Sem.run_pure,Result.andThen_ok,List.map_toArray,List.map_cons,List.map_nil,hv,hx,hr];exact hK' _ _ (hK v' w' h2 h3)
end
theorem ints_rowed {W W':World}{B b:Nat}{l:List Int}{v:Value}{cs:List ByteArray}(h:IntsIn W B l v)(hr:W.heap[b]? =some (.cells (strC cs) 9 (0,0)))(_:B<=W.heap.size)(hg:W.grownBy W' (some b)):IntsIn W' B l v:=by
 obtain⟨ao,cap,rfl,h1,h2,h3⟩:=h;refine⟨ao,cap,rfl,h1,h2,fun hne=>?_⟩;obtain⟨b',off,rfl,hlt,hc⟩:=h3 hne;refine⟨b',off,rfl,hlt,fun i hi=>?_⟩;refine hg.cell (a:=⟨b',off+i*1,none⟩) (hc i hi) fun e=>?_
 have e:b'=b:=by simpa using e
 subst e;have:W.cell? ⟨b',off+i*1,none⟩=some (.int .i64 l[i]):=hc i hi;unfold World.cell? at this;simp only[hr]at this;simp[strC]at this
theorem DgIn.rowed {W W':World}{B b:Nat}{g:List Dn}{v:Value}{cs:List ByteArray}(h:DgIn W B g v)(hr:W.heap[b]? =some (.cells (strC cs) 9 (0,0)))(hB:B<=W.heap.size)(hg:W.grownBy W' (some b)):DgIn W' B g v:=by
 obtain⟨_,rfl,ao,cap,rfl,h1,h2,h3⟩:=h;refine⟨_,rfl,ao,cap,rfl,h1,h2,fun hne=>?_⟩;obtain⟨b',off,rfl,hlt,hc⟩:=h3 hne;refine⟨b',off,rfl,hlt,fun i hi=>?_⟩;obtain⟨vc,vk,e0,e1,e2,e3,hcu,hki⟩:=hc i hi
 have hne':b'≠b:=fun e=>by
  subst e;unfold World.cell? at e0;simp only[hr]at e0;simp[strC]at e0
 have ne:some b'≠some b:=fun e=>hne' (by simpa using e)
 exact⟨vc,vk,hg.cell e0 ne,hg.cell e1 ne,hg.cell e2 ne,hg.cell e3 ne,ints_rowed hcu hr hB hg,ints_rowed hki hr hB hg⟩
variable {w0 W W' : World} {B CB KB : Nat} {d : List Fa} {ps : List Pv} {ts : List Int} {c0 c1 c2 : Value}
theorem StK.rowed (h:StK w0 KB d ps W){base:Nat}{v:Value}{l:List ByteArray}(hr:StrRow W base v l)(hb:w0.heap.size<=base)(hg:W.grownBy W' v.ownBlock):StK w0 KB d ps W':=by
 obtain⟨m,h1,h2⟩:=h.map;have hlt:∀b,b<w0.heap.size->some b≠v.ownBlock:=fun b hb' e=>by have:=hr.ge b e.symm;omega
 have hm:MapIs (Value.int .i64) (fun v:Value=>v) W' KB m:=by
  obtain⟨es,c,h3,h4⟩:=h1;refine⟨es,c,(hg.block KB (Array.getElem?_eq_some_iff.1 h3).1 fun e=>?_).trans h3,h4⟩;obtain⟨cs,hc⟩:=hr.block e.symm;rw[hc]at h3;cases h3
 refine⟨hg.os.trans h.os,hg.tape.trans h.tape,hg.output.trans h.output,Nat.le_trans h.size hg.size,fun b q1 q2=>(hg.block b (by have:=h.size;omega) (hlt b q1)).trans (h.old b q1 q2),m,hm,fun k v' hl=>?_⟩;obtain⟨q1,q2⟩:=h2 k v' hl;refine⟨q1,?_⟩;cases e:v.ownBlock with
 | none=>
  rw[e]at hg;exact(q2.below ⟨hg.os,hg.tape,hg.output,hg.size,fun b hb=>hg.block b hb (by simp)⟩).mono hg.size
 | some b=>
  rw[e]at hg;obtain⟨cs,hc⟩:=hr.block e;exact(q2.rowed hc (Nat.le_refl _) hg).mono hg.size
end
section
open Go.RowKit
theorem makeBools (n:Nat)(h:n<=10000)(w:World):(Instr.makeSlice 70 (.int .i64 (n:Int)) (.int .i64 (n:Int))).run Tryz.prog w=.ok (.slice (some ⟨w.heap.size,0,none⟩) n n) (w.alloc (.cells (boolC (List.replicate n false)) 4)):=by
 rw[<-bool_made];exact run_make_row' 70 4 (.bool false) 1 Tryz.underlying70 (by kernel_rfl) rfl .i64 .i64 n (by omega) (by omega) w
structure IdxM (ps : List Pv) (k : Nat) (m : List (ByteArray × Int)) : Prop where
 got:∀s j,m.lookup s=some j->∃i:Nat,i<k/\ j=i/\ idP ps i=s
 all:∀i,i<k->m.lookup (idP ps i)≠none
theorem IdxM.zero (ps:List Pv):IdxM ps 0 []:=⟨fun s j h=>by simp at h,fun i h=>by omega⟩
theorem IdxM.push {ps:List Pv}{k:Nat}{m:List (ByteArray×Int)}(h:IdxM ps k m):IdxM ps (k+1) (ins m (idP ps k) (k:Int)):=by
 refine⟨fun s j hl=>?_,fun i hi=>?_⟩
 ·rw[look_ins]at hl
  by_cases e:s=idP ps k
  ·rw[if_pos e]at hl
   cases hl
   exact⟨k,by omega,rfl,e.symm⟩
  ·rw[if_neg e]at hl
   obtain⟨i,h1,h2,h3⟩:=h.got s j hl;exact⟨i,by omega,h2,h3⟩
 ·rw[look_ins]
  by_cases e:idP ps i=idP ps k
  ·rw[if_pos e];simp
  ·rw[if_neg e]
   refine h.all i ?_;have:i≠k:=fun e'=>e (by rw[e'])
   omega
structure AskI (ps : List Pv) (ids : List ByteArray) (j : Nat) (q : List Bool) : Prop where
 len:q.length=ps.length
 val:∀i,i<ps.length->q.getD i false=inB (ids.take j) (idP ps i)
theorem AskI.zero (ps:List Pv)(ids:List ByteArray):AskI ps ids 0 (List.replicate ps.length false):=⟨by simp,fun i hi=>by simp[List.getD_eq_getElem?_getD,hi,inB]⟩
theorem AskI.push {ps:List Pv}{ids:List ByteArray}{j:Nat}{q:List Bool}(hp:ps.Pairwise fun p q=>p.id≠q.id)(h:AskI ps ids j q)(hj:j<ids.length){i:Nat}(hi:i<ps.length)(he:idP ps i=ids[j]):AskI ps ids (j+1) (q.set i true):=by
 refine⟨by simp[h.len],fun x hx=>?_⟩;rw[inB_take _ _ _ hj,List.getD_eq_getElem?_getD,List.getElem?_set];by_cases e:i=x
 ·subst e
  rw[if_pos rfl,if_pos (by rw[h.len];exact hi),eqB_iff.2 he.symm]
  simp
 ·rw[if_neg e, <-List.getD_eq_getElem?_getD,h.val x hx]
  have:eqB ids[j] (idP ps x)=false:=by
   rw[Bool.eq_false_iff];intro hh;have hh:=eqB_iff.1 hh;rw[<-he,idP_at hi,idP_at hx]at hh;rcases Nat.lt_or_gt_of_ne e with h1 | h1
   ·exact List.pairwise_iff_getElem.1 hp i x hi hx h1 hh
   ·exact List.pairwise_iff_getElem.1 hp x i hx hi h1 hh.symm
  rw[this,Bool.or_false]
theorem AskM.set {W:World}{AB RB XB CB:Nat}{q:List Bool}(h:AskM W AB RB XB CB q)(h1:AB≠RB)(h2:XB≠RB)(i:Nat):AskM (W.setCell ⟨RB,i,none⟩ (.bool true)) AB RB XB CB (q.set i true):=by
 have other:∀ {b:Nat} {t:TypeId} {cs:Array Value},b≠RB->Blk W b t cs->Blk (W.setCell ⟨RB,i,none⟩ (.bool true)) b t cs:=fun{b t cs} hne hb=>by
  show(W.heap.modify RB _)[b]? =_
  rw[Array.getElem?_modify,if_neg (fun e=>hne e.symm)];exact hb
 refine⟨?_,?_,?_⟩
 ·rw[List.length_set]
  exact other h1 h.box
 ·have:=h.row.set i (.bool true)
  rwa[bool_store]at this
 ·exact other h2 h.court
theorem all_no {ps:List Pv}{ids:List ByteArray}{m:List (ByteArray×Int)}(h:IdxM ps ps.length m){s:ByteArray}(hs:s∈ids)(hl:m.lookup s=none):allIn ps ids=false:=by
 rw[Bool.eq_false_iff];intro ha;have:=List.all_eq_true.1 ha s hs;rw[List.any_eq_true]at this;obtain⟨p,hp,he⟩:=this;obtain⟨i,hi,rfl⟩:=List.mem_iff_getElem.1 hp;have:=h.all i hi;rw[idP_at hi,eqB_iff.1 he]at this;exact this hl
theorem all_yes {ps:List Pv}{ids:List ByteArray}(h:∀s∈ids,∃i:Nat,i<ps.length/\ idP ps i=s):allIn ps ids=true:=by
 refine List.all_eq_true.2 fun s hs=>?_
 obtain⟨i,hi,he⟩:=h s hs;rw[List.any_eq_true];exact⟨ps[i],List.getElem_mem hi,eqB_iff.2 (by rw[<-idP_at hi];exact he)⟩
theorem askQ {ps:List Pv}{ids:List ByteArray}{q:List Bool}(h:AskI ps ids ids.length q):(fun i=>q.getD i false)=askP ps ids:=by
 funext i;by_cases hi:i<ps.length
 ·rw[h.val i hi,List.take_length,askP_at hi,idP_at hi]
 ·unfold askP
  rw[List.getElem?_eq_none (by omega)];simp[List.getD_eq_getElem?_getD,List.getElem?_eq_none (show q.length<=i by rw[h.len];omega)]
theorem blk_ne_map {W:World}{b KB:Nat}{t:TypeId}{cs:Array Value}{l:List (Int×Value)}(hb:Blk W b t cs)(hm:MapIs (Value.int .i64) (fun v:Value=>v) W KB l):b≠KB:=fun e=>by
 subst e;obtain⟨es,c,h1,_⟩:=hm;rw[show W.heap[b]? =_ from hb]at h1;cases h1
theorem own_none (v:Value):v.ownBlock=none\/v.ownBlock≠none:=by cases v.ownBlock<;>simp
theorem row_stepK {W W':World}{KB base:Nat}{v:Value}{l:List ByteArray}(h:StrRow W base v l)(hu:StepK KB W W')(hlt:KB<base):StrRow W' base v l:=by
 refine h.kept (row:=some KB) ⟨hu.os,hu.tape,hu.output,hu.size,fun b hb hne=>hu.old b hb (fun e=>hne (by rw[e]))⟩ ?_;cases e:v.ownBlock with
 | none=>exact .inl rfl
 | some b=>exact .inr (fun e'=>by
   have e2:b=KB:=by simpa using e'
   have:=h.ge b e
   omega)
theorem AskM.grown {W W':World}{AB RB XB CB base:Nat}{q:List Bool}{v:Value}{l:List ByteArray}(h:AskM W AB RB XB CB q)(hr:StrRow W base v l)(h1:AB<base)(h2:RB<base)(h3:XB<base)(hg:W.grownBy W' v.ownBlock):AskM W' AB RB XB CB q:=
 ⟨h.box.grown hg (fun e=>by have:=hr.ge _ e.symm;omega),h.row.grown hg (fun e=>by have:=hr.ge _ e.symm;omega),h.court.grown hg (fun e=>by have:=hr.ge _ e.symm;omega)⟩
theorem low_grown {w W W':World}{B base:Nat}{v:Value}{l:List ByteArray}(h:Below B w W)(hW:B<=W.heap.size)(hr:StrRow W base v l)(hB:B<=base)(hg:W.grownBy W' v.ownBlock):Below B w W':=
 h.trans ⟨hg.os,hg.tape,hg.output,hg.size,fun b hb=>hg.block b (by omega) (fun e=>by have:=hr.ge _ e.symm;omega)⟩
theorem strInfo :(Tryz.prog.info? 9).map (fun i=>(i.zero,i.size,i.bytes))=some (some (.string ByteArray.empty),1,16):=by kernel_rfl
theorem best_any (d:List Fa)(ps:List Pv)(ts:List Int)(ids:List ByteArray)(v u:Value)(w:World)(hn:ps.length<=1000)(hl:LawT w w.heap.size d ps ts v)(hu:StrsIn w w.heap.size ids u)(hsz:∀p∈ps,p.cond.size<=1000000)(hT:TabH w.heap.size w):
  Calls Tryz.prog 18 #[v,u] w fun e w'=>∃x,e=.returned (.tuple #[x,.int .i64 (bestA d ps ts ids).2])/\ Below w.heap.size w w'/\ StrsIn w' w'.heap.size (bestA d ps ts ids).1 x:=by
 have HL:=Lib.hid hl;obtain⟨u1,u2,u3,rfl,hd,hp,ht⟩:=hl;obtain⟨ad,cd,rfl,_⟩:=SlIn.shape hd;obtain⟨ap,cp,rfl,p1,p2,_⟩:=SlIn.shape hp;obtain⟨at_,ct,rfl,_⟩:=SlIn.shape ht;obtain⟨ai,ci,rfl,i1,i2,_⟩:=SlIn.shape hu;unfold maxLen at i2;have HB1:Hid (Below w.heap.size w (w.alloc (.cells #[.slice ad d.length cd,.slice ap ps.length cp,.slice at_ ts.length ct] 28))):=(Below.refl _ _).alloc (Nat.le_refl _) _;have HOP:=Lib.hid (open_any d ps ts [] _ (.slice none 0 0) (w.alloc (.cells #[.slice ad d.length cd,.slice ap ps.length cp,.slice at_ ts.length ct] 28)) w.heap.size hn HB1.out.size (HL.out.below HB1.out) ⟨none,0,rfl,Nat.le_refl _,Nat.zero_le _,fun h=>absurd rfl h⟩ (by simp) hsz (hT.on HB1.out));have K0:=Lib.hid (Blk.new w 28 #[.slice ad d.length cd,.slice ap ps.length cp,.slice at_ ts.length ct]);have y0:=K0.out.cell 0;have y1:=K0.out.cell 1;have y2:=K0.out.cell 2;have HU:=Lib.hid hu;have HP:=Lib.hid hp;have HSZ:=Lib.hid hsz;obtain⟨R,hR⟩:∃R,bestA d ps ts ids=R:=⟨_,rfl⟩;rw[hR];have HR:=Lib.hid hR;clear hd hp ht hu hsz hT hR;by_cases hok:properL d ps ts.length=true
 ·rw[if_pos ⟨hok,rfl⟩]at HOP
  have HOK:=Lib.hid hok;clear hok;obtain⟨i0,hi0,hx0,hx1,hx2⟩:=info_parts strInfo;go_enter Tryz.func18,Tryz.ntmps18;go_upto_region 2 with(go_at_call 31;refine HOP.out.mono ?_;rintro e w3 ⟨x,rfl,hb3,ho⟩;obtain⟨CB,KB,c0,c1,c2,rfl,HE0,HS0⟩:=(ho ⟨HOK.out,rfl⟩).out.is);have HE:=Lib.hid HE0;have hKB:=HE0.ltK;have hBK:=HE0.hBK;have HB3:=Lib.hid (HB1.out.trans (hb3.mono HB1.out.size));have HK3:=Lib.hid (K0.out.below (hb3.mono (by simp)));have HXB:=Lib.hid (Blk.new w3 62 #[.pointer (some ⟨CB,0,none⟩)]);obtain⟨w4,hw4⟩:∃w4,w3.alloc (.cells #[.pointer (some ⟨CB,0,none⟩)] 62)=w4:=⟨_,rfl⟩;rw[hw4]at HXB⊢;have hb4:Below w3.heap.size w3 w4:=by rw[<-hw4];exact(Below.refl _ _).alloc (Nat.le_refl _) _
  have hs4:w3.heap.size<w4.heap.size:=by rw[<-hw4];simp
  have HB4:=Lib.hid (HB3.out.trans (hb4.mono HB3.out.size));have HS4:=Lib.hid (HS0.more hb4);have HK4:=Lib.hid (HK3.out.below hb4);clear ho hb3 HE0 HS0 HOP HK3 K0 hw4 hb4 y0 y1 y2;have hs3:=HB3.out.size;have hz4:w.heap.size<w4.heap.size:=by omega
  have z0:=HK4.out.cell 0;have z1:=HK4.out.cell 1;have z2:=HK4.out.cell 2;have hmm:=@run_makeMap Tryz.prog;have HM0:=Lib.hid (MapIs.made (ek:=Value.string) (ev:=Value.int .i64) w4);have HBN:Hid (Below w4.heap.size w4 (w4.alloc (.map #[] 0))):=(Below.refl _ _).alloc (Nat.le_refl _) _;go_wp2
  go_loopw [33] (fun iv wr=>∃(k:Nat) (m:List (ByteArray×Int)),k<=ps.length/\ iv=.int .i64 k/\ Hid (IdxM ps k m)/\ Hid (MapIs Value.string (Value.int .i64) wr w4.heap.size m)/\ Hid (Below w4.heap.size w4 wr)/\ w4.heap.size<wr.heap.size) (fun iv _=>ps.length-(intOf iv).toNat)
  case atStart=>exact⟨0,[],Nat.zero_le _,rfl,IdxM.zero ps,HM0,HBN,by simp⟩
  case round=>
   rename World=>wA
   obtain⟨k,m,hk,rfl,HIX,HM,HBA,hsA⟩:=hrel;have HKA:=Lib.hid (show Blk wA w.heap.size 28 _ from(HBA.out.block _ HK4.out.lt).trans HK4.out);have a0:=HKA.out.cell 0;have a1:=HKA.out.cell 1;have a2:=HKA.out.cell 2;clear z0 z1 z2 HM0 HBN;have HLOW:=Lib.hid (HB4.out.trans (HBA.out.mono (by omega)));by_cases hlt:k<ps.length
   ·obtain⟨b,off,rfl,hbB,ak,ck,ae,ce,hr,_⟩:=SlIn.at (HP.out.below PvR.kept HLOW.out) k hlt
    have HID:=Lib.hid (idP_at hlt);generalize ps[k]=p at*
    have HRG:=Lib.hid hr;clear hr
    go_wp2_with (first
     | ((with_reducible show wpList _ _ _ (⟨_,Op.load 50 (.tmp 36),_,_,_,_⟩::_) _ _);refine wpList_load_pv rfl (.tmp 36) rfl rfl p ak ck ae ce HRG.out Tryz.underlying50 rfl Pv.info ?_)
     | (((with_reducible show wpList _ _ _ (⟨_,Op.store 50 (.tmp 10) (.tmp 37),_,_,_,_⟩::_) _ _);refine wpList_store_pv rfl (.tmp 10) (.tmp 37) rfl p ak ck ae ce rfl rfl ?hs1 Pv.info ?_;(case hs1=>rfl);intro W1 hb1 hz1 hr1 hf1;have e1_0:=hr1 0 _ rfl;have HR1:=Lib.hid hr1;clear hr1);have HM1:=Lib.hid (HM.out.below hb1 hsA))
     | ((with_reducible show wpList _ _ _ (⟨_,Op.mapUpdate 69 _ _ _,_,_,_,_⟩::_) _ _);refine wpList_put rfl (.tmp 38) (.tmp 40) (.tmp 41) rfl MapSI.key Tryz.underlying69 HM1.out p.id ((k:Nat):Int) rfl rfl rfl ?_;intro W4 hm4 hu4))
    have HB5:=Lib.hid ((HBA.out.trans (hb1.mono (by omega))).trans (hu4.below (Nat.le_refl _)));have hs5:w4.heap.size<W4.heap.size:=by rw[hu4.size];have:=hb1.size;omega
    have HM5:=Lib.hid hm4
    have HI5:Hid (IdxM ps (k+1) (ins m p.id ((k:Nat):Int))):=by
     have:=HIX.out.push;rw[HID.out]at this;exact this
    clear hm4 hu4 hb1;go_roundw
    case rel=>exact⟨k+1,_,by omega,by go_num,HI5,HM5,HB5,hs5⟩
    case measure=>simp[intOf];omega
   ·have hkn:k=ps.length:=by omega
    subst hkn;have hmk:=fun w=>makeBools ps.length (by omega) w
    have HN2:Hid (Below wA.heap.size wA ((wA.alloc (.cells (boolC (List.replicate ps.length false)) 4)).alloc (.cells #[.slice (some ⟨wA.heap.size,0,none⟩) ps.length ps.length] 70))):=two_below _ _ _
    have HA0:Hid (AskM ((wA.alloc (.cells (boolC (List.replicate ps.length false)) 4)).alloc (.cells #[.slice (some ⟨wA.heap.size,0,none⟩) ps.length ps.length] 70)) (wA.heap.size+1) wA.heap.size w3.heap.size CB (List.replicate ps.length false)):=by
     refine⟨?_,(Blk.new wA 4 _).alloc _,Blk.below ((HBA.out.block _ HXB.out.lt).trans HXB.out) HN2.out⟩;rw[List.length_replicate];have:=Blk.new (wA.alloc (.cells (boolC (List.replicate ps.length false)) 4)) 70 #[.slice (some ⟨wA.heap.size,0,none⟩) ps.length ps.length]
     rwa[World.size_alloc]at this
    go_wp2
    go_loopw [49] (fun iv wr=>∃(j:Nat) (q:List Bool),j<=ids.length/\ iv=.int .i64 j/\ Hid (AskI ps ids j q)/\ Hid (AskM wr (wA.heap.size+1) wA.heap.size w3.heap.size CB q)/\ Hid (Below wA.heap.size wA wr)/\ Hid (∀s∈ids.take j,∃i:Nat,i<ps.length/\ idP ps i=s)) (fun iv _=>ids.length-(intOf iv).toNat)
    case atStart=>exact⟨0,_,Nat.zero_le _,rfl,AskI.zero ps ids,HA0,HN2,fun s hs=>by cases hs⟩
    case round=>
     rename World=>wB
     obtain⟨j,q,hj,rfl,HAI,HAM,HBB,HAL⟩:=hrel;have HQL:=Lib.hid HAI.out.len;have b0:=HAM.out.box.cell 0;rw[HQL.out]at b0;have hsB:wA.heap.size+1<wB.heap.size:=HAM.out.box.lt;have HMB:=Lib.hid (HM.out.below HBB.out hsA);have HLB:=Lib.hid (HLOW.out.trans (HBB.out.mono (by omega)));have HUB:=Lib.hid (SlIn.below (OneR.kept _) HLB.out HU.out);clear a0 a1 a2 HA0 HN2 hmk hmm;by_cases hlt:j<ids.length
     ·obtain⟨ib,io,rfl,_,q1⟩:=SlIn.one HUB.out j hlt
      have HTK:Hid (ids.take (j+1)=ids.take j++[ids[j]]):=List.take_succ_eq_append_getElem hlt;have HMEM:Hid (ids[j]∈ids):=List.getElem_mem hlt;have HPU:=Lib.hid (fun(i:Nat) (hi:i<ps.length) he=>HAI.out.push (proper_ok HOK.out).ids hlt (i:=i) hi he);generalize ids[j]=s at*
      have hlk:=run_look_ok MapSI.key Tryz.underlying69 Tryz.zeroValue3 HMB.out s;cases hlo:m.lookup s with
      | none=>
       have HNO:=Lib.hid (all_no HIX.out HMEM.out hlo)
       have HEND:Hid (R=([],11)):=by
        show _=_
        rw[<-HR.out];unfold bestA;rw[if_pos HOK.out,if_neg (by rw[HNO.out];simp)]
       rw[hlo]at hlk;clear hlo;go_wp2;go_ret2;refine⟨_,by rw[HEND.out];rfl,HLB.out,?_⟩;rw[HEND.out];exact⟨none,0,rfl,Nat.le_refl _,Nat.zero_le _,fun h=>absurd rfl h⟩
      | some jj=>
       obtain⟨i,hi,rfl,he⟩:=HIX.out.got s jj hlo;have HE5:=Lib.hid he;have hi0':(0:Int)<=(i:Int):=Int.natCast_nonneg _;have hi1':(i:Int)<(ps.length:Int):=by omega
       have b1:=bool_cell HAM.out.row i (by rw[HQL.out];exact hi);have fz:=HAM.out.row.frozen i;have HAM2:=Lib.hid (HAM.out.set (by omega) (by omega) i);have HBB2:Hid (Below wA.heap.size wA (wB.setCell ⟨wA.heap.size,i,none⟩ (.bool true))):=HBB.out.setCell (p:=⟨wA.heap.size,i,none⟩) (Nat.le_refl _) _
       have HAL2:Hid (∀s∈ids.take (j+1),∃i:Nat,i<ps.length/\ idP ps i=s):=fun x hx=>by
        rw[HTK.out,List.mem_append]at hx;rcases hx with hx | hx
        ·exact HAL.out x hx
        ·exact⟨i,hi,by rw[HE5.out];exact(List.mem_singleton.1 hx).symm⟩
       rw[hlo]at hlk;clear hlo he;go_wp2;go_roundw
       case rel=>exact⟨j+1,q.set i true,by omega,by go_num,HPU.out i hi HE5.out,HAM2,HBB2,HAL2⟩
       case measure=>simp[intOf];omega
     ·have hjn:j=ids.length:=by omega
      subst hjn;have HYES:Hid (allIn ps ids=true):=all_yes fun s hs=>HAL.out s (by rw[List.take_length];exact hs)
      have HRI:Hid (R=((bestI d ps ts ids).1.map (idP ps),(bestI d ps ts ids).2)):=by
       show _=_
       rw[<-HR.out];unfold bestA;rw[if_pos HOK.out,if_pos HYES.out]
      have hpl:=proper_ok HOK.out;have HBT:=Lib.hid (fun(a:Nat) (ha:a<ps.length) wx (hs:StK w3 KB d ps wx) (hA:AskM wx (wA.heap.size+1) wA.heap.size w3.heap.size CB q)=>best_beaten HE.out hs hA HQL.out hn a ha hpl.days HSZ.out)
      have HBI:Hid (bestI d ps ts ids=bestW (whyD d (condP ps) (rankP ps) (timeP ts)) (fun i=>q.getD i false) ps.length (List.range ps.length) []):=by
       show _=_
       rw[askQ HAI.out];rfl
      generalize bestI d ps ts ids=RI at*
      generalize whyD d (condP ps) (rankP ps) (timeP ts)=WY at*
      have HSB:Hid (StK w3 KB d ps wB):=HS4.out.more ((HBA.out.trans (HBB.out.mono (by omega))));clear hpl HR HYES HAL HUB HMB;go_wp2
      go_loopw [17,68] (fun sv iv wr=>∃(k:Nat) (out:List Nat),k<=ps.length/\ iv=.int .i64 k/\ Hid (RI=bestW WY (fun i=>q.getD i false) ps.length ((List.range ps.length).drop k) out)/\ Hid (StrRow wr wB.heap.size sv (out.map (idP ps)))/\ Hid (StK w3 KB d ps wr)/\ Hid (AskM wr (wA.heap.size+1) wA.heap.size w3.heap.size CB q)/\ Hid (Below w.heap.size w wr)/\ out.length<=k/\ wB.heap.size<=wr.heap.size/\ Hid (Blk wr w.heap.size 28 #[.slice ad d.length cd,.slice ap ps.length cp,.slice at_ ts.length ct])) (fun _ iv _=>ps.length-(intOf iv).toNat)
      case atStart=>exact⟨0,[],Nat.zero_le _,rfl,HBI,StrRow.nil _ _,HSB,HAM,HLB,Nat.le_refl _,Nat.le_refl _,Lib.hid ((HBB.out.block _ (by omega)).trans HKA.out)⟩
      case round=>
       rename World=>wC
       obtain⟨k,out,hk,rfl,HI,HROW,HSC,HAC,HLC,hol,hsC,HKC⟩:=hrel;have c_0:=HAC.out.box.cell 0;rw[HQL.out]at c_0;have l0:=HKC.out.cell 0;have l1:=HKC.out.cell 1;have l2:=HKC.out.cell 2;obtain⟨ax,cx,hsv⟩:=HROW.out.shape;rw[List.length_map]at hsv;clear b0;by_cases hlt:k<ps.length
       ·have hI:=HI.out
        rw[List.drop_eq_getElem_cons (by rw[List.length_range];exact hlt),List.getElem_range,bestW]at hI;have c_1:=bool_cell HAC.out.row k (by rw[HQL.out];exact hlt);have hk0:(0:Int)<=(k:Int):=Int.natCast_nonneg _;have hk1:(k:Int)<(ps.length:Int):=by omega
        obtain⟨qk,hqk⟩:∃qk,q.getD k false=qk:=⟨_,rfl⟩;rw[hqk]at c_1 hI;clear hqk;subst hsv;cases qk with
        | false=>
         have HIN:Hid (RI=bestW WY (fun i=>q.getD i false) ps.length ((List.range ps.length).drop (k+1)) out):=by show _=_;rw[hI,if_neg (by simp)]
         clear hI HI;go_wp2;go_roundw
         case rel=>exact⟨k+1,out,by omega,by go_num,HIN,HROW,HSC,HAC,HLC,by omega,hsC,HKC⟩
         case measure=>simp[intOf];omega
        | true=>
         rw[if_pos rfl]at hI;have HBK:=Lib.hid (HBT.out k hlt wC HSC.out HAC.out);obtain⟨X,hX⟩:∃X,beatW WY (fun i=>q.getD i false) k (List.range ps.length) false=X:=⟨_,rfl⟩;rw[hX]at hI HBK;obtain⟨bb,er⟩:=X;simp only at hI HBK;obtain⟨lm,hlm,_⟩:=HSC.out.map;have HLM:=Lib.hid hlm;clear hX HI hlm;by_cases he:er=0
         ·subst he
          rw[if_pos rfl]at hI;cases bb with
          | true=>
           have HIN:Hid (RI=bestW WY (fun i=>q.getD i false) ps.length ((List.range ps.length).drop (k+1)) out):=hI;clear hI;go_wp2_with (go_at_call 37;refine HBK.out.mono ?_;rintro e wD ⟨rfl,HSD,HPD⟩);have HRD:=Lib.hid (row_stepK HROW.out HPD.out (by omega));have HAD:=Lib.hid (HAC.out.step HLM.out HPD.out);have HLD:=Lib.hid (HLC.out.trans (HPD.out.below HLC.out.size hBK));have HKD:=Lib.hid (HPD.out.blk HKC.out (blk_ne_map HKC.out HLM.out));have hsD:=HPD.out.size;go_roundw
           case rel=>exact⟨k+1,out,by omega,by go_num,HIN,HRD,HSD,HAD,HLD,by omega,by omega,HKD⟩
           case measure=>simp[intOf];omega
          | false=>
           have HIN:Hid (RI=bestW WY (fun i=>q.getD i false) ps.length ((List.range ps.length).drop (k+1)) (out++[k])):=hI;clear hI;obtain⟨b,off,rfl,hbB,ak,ck,ae,ce,hr,_⟩:=SlIn.at HP.out k hlt;have e0:=hr 0 (.string ps[k].id) rfl;rw[Nat.add_zero]at e0;have HID:=Lib.hid (idP_at hlt);generalize ps[k]=p at*
           clear hr
           go_wp2_with (first
            | (go_at_call 37;refine HBK.out.mono ?_;rintro e wD ⟨rfl,HSD,HPD⟩;have HRD:=Lib.hid (row_stepK HROW.out HPD.out (by omega));have HAD:=Lib.hid (HAC.out.step HLM.out HPD.out);have HLD:=Lib.hid (HLC.out.trans (HPD.out.below HLC.out.size hBK));have HKD:=Lib.hid (HPD.out.blk HKC.out (blk_ne_map HKC.out HLM.out));have hsD:=HPD.out.size;have m1:=HKD.out.cell 1;have e1:=(HLD.out.cell (p:=⟨b,off+k*23,none⟩) hbB).trans e0)
            | (at_builtin;go_loud (refine wpList_append_str rfl (.tmp 87) (.tmp 94) rfl wB.heap.size i0 hi0 hx0 hx1 hx2 _ (out.map (idP ps)) rfl (HRD.out.kept (World.grownBy_alloc _ _ none) (own_none _)) p.id ⟨wD.heap.size,0,none⟩ 1 rfl (Blk.new wD 9 #[.string p.id] |>.cell 0) (by rw[List.length_map];omega) (by simp;omega) ?_;intro v9 w9 hrow9 hgrow9;have HR9:=Lib.hid hrow9;have HG9:=Lib.hid hgrow9;clear hrow9 hgrow9)))
           have HRA:=Lib.hid (HRD.out.kept (World.grownBy_alloc wD (.cells #[.string p.id] 9) none) (own_none _));have hbA:Below wD.heap.size wD (wD.alloc (.cells #[.string p.id] 9)):=(Below.refl _ _).alloc (Nat.le_refl _) _;have HS9:=Lib.hid ((HSD.out.more hbA).rowed HRA.out (by omega) HG9.out);have HA9:=Lib.hid ((HAD.out.below hbA).grown HRA.out (by omega) (by omega) (by omega) HG9.out);have HL9:=Lib.hid (low_grown (HLD.out.trans (hbA.mono HLD.out.size)) (by have:=HLD.out.size;simp;omega) HRA.out (by omega) HG9.out);have HK9:=Lib.hid ((HKD.out.below hbA).grown HG9.out (fun e=>by have:=HRA.out.ge _ e.symm;omega));have hs9:wB.heap.size<=w9.heap.size:=by have:=HG9.out.size;simp at this;omega
           have HW9:Hid (StrRow w9 wB.heap.size v9 ((out++[k]).map (idP ps))):=by
            have:=HR9.out;rw[List.map_append,List.map_cons,List.map_nil,HID.out];exact this
           go_roundw
           case rel=>exact⟨k+1,out++[k],by omega,by go_num,HIN,HW9,HS9,HA9,HL9,by rw[List.length_append];simp;omega,hs9,HK9⟩
           case measure=>simp[intOf];omega
         ·rw[if_neg he]at hI
          have HEND:Hid (R=([],er)):=by show _=_;rw[HRI.out,hI];rfl
          have gE:(er !=0)=true:=by simpa using he
          clear hI he;go_wp2_with (go_at_call 37;refine HBK.out.mono ?_;rintro e wD ⟨rfl,HSD,HPD⟩;have HLD:=Lib.hid (HLC.out.trans (HPD.out.below HLC.out.size hBK)));go_ret2;refine⟨_,by rw[HEND.out];rfl,HLD.out,?_⟩;rw[HEND.out];exact⟨none,0,rfl,Nat.le_refl _,Nat.zero_le _,fun h=>absurd rfl h⟩
       ·have HEND:Hid (R=(out.map (idP ps),0)):=by
         show _=_
         rw[HRI.out,HI.out,List.drop_of_length_le (by rw[List.length_range];omega)];rfl
        subst hsv;go_wp2;go_ret2;refine⟨_,by rw[HEND.out];rfl,HLC.out,?_⟩;rw[HEND.out];exact HROW.out.strs
 ·rw[if_neg (fun h=>hok h.1)]at HOP
  have HEND:Hid (R=([],1)):=by
   show _=_
   rw[<-HR.out];unfold bestA;rw[if_neg hok]
  clear hok;go_enter Tryz.func18,Tryz.ntmps18;go_wp2_with (go_at_call 31;refine HOP.out.mono ?_;rintro e w3 ⟨x,rfl,hb3,_⟩);go_ret2;have hb5:=HB1.out.trans (hb3.mono HB1.out.size);refine⟨_,by rw[HEND.out];rfl,hb5.alloc hb5.size _,?_⟩;rw[HEND.out];exact⟨none,0,rfl,Nat.le_refl _,Nat.zero_le _,fun h=>absurd rfl h⟩
end
end Go.Proofs.YtmafmhlfjficmaaGreatDoor
