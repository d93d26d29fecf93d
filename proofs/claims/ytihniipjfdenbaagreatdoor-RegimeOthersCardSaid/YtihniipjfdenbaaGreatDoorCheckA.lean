/- The walk of formula.check: what is wrong with a formula. A bound on the number of nodes. -/
import Derived.Test.YtihniipjfdenbaaGreatDoorFactA
import Derived.Test.YtihniipjfdenbaaGreatDoorFormA
import Derived.Shelf.AbstractIn
set_option maxRecDepth 100000
set_option maxHeartbeats 8000000
namespace Go.Proofs.YtihniipjfdenbaaGreatDoor
section
open Go.RowKit
attribute [local go_sem] Oper.semAt_some
mutual
def nodesL :Fo->List Fo
 | .mk op nm c n ks=>.mk op nm c n ks::nodesLL ks
def nodesLL :List Fo->List Fo
 | []=>[]
 | k::ks=>nodesL k++nodesLL ks
end
mutual
theorem nodesL_len :∀(f:Fo),(nodesL f).length=f.size
 | .mk op nm c n ks=>by simp[nodesL,Fo.size,nodesLL_len ks]
theorem nodesLL_len :∀(ks:List Fo),(nodesLL ks).length=Fo.sizeL ks
 | []=>by simp[nodesLL,Fo.sizeL]
 | k::ks=>by simp[nodesLL,Fo.sizeL,nodesL_len k,nodesLL_len ks]
end
theorem nodesLL_app :∀(a b:List Fo),nodesLL (a++b)=nodesLL a++nodesLL b
 | [],b=>by simp[nodesLL]
 | k::a,b=>by simp[nodesLL,nodesLL_app a b]
theorem nodesLL_snoc (l:List Fo)(k:Nat)(h:k<l.length):nodesLL (l.take (k+1))=nodesLL (l.take k)++nodesL l[k]:=by
 rw[List.take_succ_eq_append_getElem h,nodesLL_app];simp[nodesLL]
theorem nodesLL_pre (l:List Fo)(k:Nat):nodesLL (l.take k)<+: nodesLL l:=by
 have h:=nodesLL_app (l.take k) (l.drop k);rw[List.take_append_drop]at h;exact⟨_,h.symm⟩
structure KeepC (W W' : World) : Prop where
 size:W.heap.size<=W'.heap.size
 cells:∀(k:Nat) (cs:Array Value) (t:TypeId) (z:Nat×Nat),W.heap[k]? =some (Obj.cells cs t z)->W'.heap[k]? =some (Obj.cells cs t z)
theorem KeepC.refl (W:World):KeepC W W:=⟨Nat.le_refl _,fun _ _ _ _ h=>h⟩
theorem KeepC.t :∀ {A B C:World},KeepC A B->KeepC B C->KeepC A C:=fun h k=>⟨Nat.le_trans h.1 k.1,fun i cs t z hi=>k.2 i cs t z (h.2 i cs t z hi)⟩
theorem KeepC.b {n:Nat}:∀(W:World) (l:Nat) (o o':Obj),n<=l->W.heap[l]? =some o->o.isCells=false->o.isWalk=false->KeepC W (W.putObj l o'):=fun W l o o' _ hl ho _=>
 ⟨Nat.le_of_eq (by simp[World.putObj]),fun k cs t z hk=>(World.putObj_heap_other (fun e=>by subst e;rw[hl]at hk;cases hk;cases ho)).trans hk⟩
theorem KeepC.below {W W':World}(h:Below W.heap.size W W'):KeepC W W':=⟨h.size,fun k _ _ _ hk=>(h.block k (Array.getElem?_eq_some_iff.1 hk).1).trans hk⟩
theorem KeepC.blk {W W':World}(h:KeepC W W'){B:Nat}{t:TypeId}{cs:Array Value}(hB:Blk W B t cs):Blk W' B t cs:=h.2 _ _ _ _ hB
theorem KeepC.cell {W W':World}(h:KeepC W W'){p:Addr}{v:Value}(hc:W.cell? p=some v):W'.cell? p=some v:=by
 unfold World.cell? at hc⊢;cases hb:W.heap[p.block]? with| none=>rw[hb]at hc;cases hc| some o=>{rw[hb]at hc;cases o with| cells cs t z=>rw[h.2 _ _ _ _ hb];exact hc| _=>cases hc}
mutual
theorem Fo.In.keep {w w':World}{B:Nat}(hb:KeepC w w'):∀(f:Fo) (v:Value),f.In w B v->f.In w' B v
 | .mk op nm c n ks,v=>by{rintro⟨ao,cap,hv,h1,h2,h3,h4,h5,h6,h7⟩;refine⟨ao,cap,hv,h1,h2,h3,h4,h5,h6,fun hne=>?_⟩;obtain⟨b,off,ha,hlt,hL⟩:=h7 hne;exact⟨b,off,ha,hlt,Fo.InL.keep hb ks off hL⟩}
theorem Fo.InL.keep {w w':World}{B b:Nat}(hb:KeepC w w'):∀(ks:List Fo) (off:Nat),Fo.InL w B ks b off->Fo.InL w' B ks b off
 | [],_=>fun _=>trivial
 | k::ks,off=>by{rintro⟨⟨v0,v1,v2,v3,v4,c0,c1,c2,c3,c4,hk⟩,hks⟩;exact⟨⟨v0,v1,v2,v3,v4,hb.cell c0,hb.cell c1,hb.cell c2,hb.cell c3,hb.cell c4,Fo.In.keep hb k _ hk⟩,Fo.InL.keep hb ks (off+5) hks⟩}
end
abbrev FoV (w0:World)(B:Nat):={x:Fo×Value // x.1.In w0 B x.2}
def FoV.fo {w0:World}{B:Nat}(x:FoV w0 B):Fo:=x.1.1
theorem room_none {F:Fence}(hd:F.depth=none)(k:Nat):F.room k:=fun d h=>by rw[hd]at h;cases h
theorem anyDepth {F:Fence}(hd:F.depth=none){m:Nat}(m':Nat){P:Program}{l:Nat}{args:Array Value}{W:World}{R:Ending->World->Prop}(h:YieldAt F m P l args W R):YieldAt F m' P l args W R:=by
 obtain⟨fn,tmps,assign,body,hy,hR⟩:=h;exact⟨fn,tmps,assign,body,hy,hR.1,fun c cs _=>hR.2 c cs (room_none hd _)⟩
abbrev YieldOk (w0:World)(B:Nat)(l N:Nat)(J Jx:List (FoV w0 B)->World->Prop):Prop:=
 ∀m pre (x:FoV w0 B) W,J pre W->pre.length<N->YieldAt Fence.wide m Tryz.prog l #[x.1.2] W fun e W'=>(e=.returned (.bool true)/\ J (pre++[x]) W'/\ KeepC W W')\/(e=.returned (.bool false)/\ Jx (pre++[x]) W')
theorem visit_any (w0:World)(B Bh l yb vb N:Nat)(J Jx:List (FoV w0 B)->World->Prop)(hJ:AbidesFrom Bh J)(hY:YieldOk w0 B l N J Jx)(M:Nat):
  ∀(f:Fo) (n:Nat) (v:Value) (pre:List (FoV w0 B)) (W:World),f.size<=M->f.In w0 B v->KeepC w0 W->Blk W yb 113 #[.func (.yield l) #[] #[]]->
   Blk W vb 113 #[.func (.func 173) #[] #[.pointer (some ⟨yb,0,none⟩),.pointer (some ⟨vb,0,none⟩)]]->J pre W->pre.length+f.size<=N->
   CallsIn Fence.wide n Tryz.prog 173 #[v,.pointer (some ⟨yb,0,none⟩),.pointer (some ⟨vb,0,none⟩)] W fun e W'=>
    (e=.returned (.bool true)/\ ∃ys:List (FoV w0 B),ys.map FoV.fo=nodesL f/\ J (pre++ys) W'/\ KeepC W W')\/
    (e=.returned (.bool false)/\ ∃ys:List (FoV w0 B),ys.map FoV.fo<+: nodesL f/\ Jx (pre++ys) W'):=by
 induction M with
 | zero=>intro f _ _ _ _ h;have:=f.size_pos;omega
 | succ M ih=>
 intro f n v pre W hM hf hk hyb hvb hJ0 hN;have IH:=Lib.hid ih;have HY:=Lib.hid hY;have HJ:=Lib.hid hJ;clear ih hY hJ;have HF:=Lib.hid hf;obtain⟨op,nm,c,nn,ks⟩:=f;obtain⟨ao,cap,rfl,_,_,_,_,h5,h6,h7⟩:=hf;unfold maxLen at h6;have H7:=Lib.hid h7;have hb1:Below W.heap.size W (W.alloc (.cells #[.int .i64 op,.string nm,.int .i64 c,.int .i64 nn,.slice ao ks.length cap] 47)):=(Below.refl _ _).alloc (Nat.le_refl _) _;have hbx:=Blk.new W 47 #[.int .i64 op,.string nm,.int .i64 c,.int .i64 nn,.slice ao ks.length cap];have hJ1:=abides_below HJ.out hJ0 hb1;obtain⟨fn,tmps,assign,body,hy,hR⟩:=HY.out (n-1) pre ⟨⟨_,_⟩,HF.out⟩ _ hJ1 (by rw[Fo.size]at hN;omega);have hyc:=(hyb.below hb1).cell 0;have HYB:=Lib.hid hyb;have HVB:=Lib.hid hvb;have HB1:=Lib.hid hb1;have HBX:=Lib.hid hbx;have HR:=Lib.hid hR;have HKW:=Lib.hid hk;clear h7 hb1 hbx hR hyb hvb hJ0 hJ1 hk
 dsimp only at hy
 refine callsIn_of_wp Tryz.func173 rfl trivial ?_ rfl;simp only[Tryz.ntmps173,List.size_toArray,List.length_cons,List.length_nil,Nat.reduceAdd,Nat.reduceSub,Array.replicate_succ,Array.replicate_zero,List.push_toArray,List.append_toArray,List.nil_append,List.cons_append];have hno:∀k:Nat,(Fence.wide.depth.isSome=true->1<=k):=fun k h=>by cases h
 gi_wp2;refine⟨hno _,?_⟩;refine HR.out.mono ?_;rintro e W1 (⟨rfl,hJ2,hk2⟩ | ⟨rfl,hx2⟩)
 {have hbx1:=hk2.blk HBX.out;have c4:W1.cell? ⟨W.heap.size,4,none⟩=some (.slice ao ks.length cap):=hbx1.cell 4;have hz1:W.heap.size<W1.heap.size:=hbx1.lt;have hv1:=hk2.blk (HVB.out.below HB1.out);have HK1:=Lib.hid ((KeepC.below HB1.out).t hk2);have HV1:=Lib.hid hv1;have HJ2:=Lib.hid hJ2;clear hbx1 hk2 hv1 hJ2;gi_wp2;gi_loopw [14] (fun vi wr=>∃(k:Nat) (ys:List (FoV w0 B)),k<=ks.length/\ vi=.int .i64 k/\ Hid (ys.map FoV.fo=.mk op nm c nn ks::nodesLL (ks.take k))/\ Hid (J (pre++ys) wr)/\ Hid (KeepC W1 wr)) (fun vi _=>ks.length-(intOf vi).toNat);(case atStart=>exact⟨0,[⟨⟨_,_⟩,HF.out⟩],Nat.zero_le _,rfl,rfl,HJ2,Lib.hid (KeepC.refl _)⟩);case round=>(obtain⟨k,ys,hk,rfl,hys,hJr,hkr⟩:=hrel;by_cases hlt:k<ks.length;{obtain⟨b,off,rfl,hbB,hL⟩:=H7.out (by intro h;simp[h]at hlt);have hkw:=HKW.out.t (HK1.out.t hkr.out);obtain⟨ka,kc,g0,g1,g2,g3,g4,gk⟩:=Fo.InL.get ks off k hlt hL;have c0:=hkw.cell g0;have c1:=hkw.cell g1;have c2:=hkw.cell g2;have c3:=hkw.cell g3;have c4:=hkw.cell g4;have hvr:=hkr.out.blk HV1.out;have hv0:=hvr.cell 0;have hvl:=hvr.lt;have hyr:=(HK1.out.t hkr.out).blk HYB.out;have hsn:=nodesLL_snoc ks k hlt;have hsk:=Fo.size_get ks k hlt;have hlen:ys.length=1+Fo.sizeL (ks.take k):=by{have h1:=congrArg List.length hys.out;rw[List.length_map,List.length_cons,nodesLL_len]at h1;omega};have hs1:=Fo.sizeL_snoc ks k hlt;have hs2:=Fo.sizeL_take ks (k+1);(have hM':ks[k].size<=M:=by rw[Fo.size]at hM;omega);(have hN':(pre++ys).length+ks[k].size<=N:=by rw[Fo.size]at hN;rw[List.length_append];omega);have hsz1:W.heap.size<=wr.heap.size:=(HK1.out.t hkr.out).size;generalize hkk:ks[k]=kf at*;have hb2:Below wr.heap.size wr (wr.alloc (.cells #[.int .i64 kf.op,.string kf.name,.int .i64 kf.cmp,.int .i64 kf.n,.slice ka kf.kids.length kc] 47)):=(Below.refl _ _).alloc (Nat.le_refl _) _;have hI:=IH.out kf (n-1) _ (pre++ys) _ hM' gk (hkw.t (KeepC.below hb2)) (hyr.below hb2) (hvr.below hb2) (abides_below HJ.out hJr.out hb2) hN';have HI:=Lib.hid hI;have HB2:=Lib.hid hb2;have HSN:=Lib.hid hsn;have HKR:=hkr;have HYS:=hys;clear hI hb2 hsn hkw gk g0 g1 g2 g3 g4 hlen hs1 hs2 hM' hN' hvr hyr hkr hys hkk hL;gi_wp2_with (refine⟨trivial,hno _,?_⟩;gi_at_call 173;refine HI.out.mono ?_;rintro e W3 (⟨rfl,zs,hq1,hz2,hz3⟩ | ⟨rfl,zs,hq1,hz2⟩));{have HZ1:=Lib.hid hq1;clear hq1;go_roundw;(case rel=>(exact⟨k+1,ys++zs,by omega,by go_num,by show _=_;rw[List.map_append,HYS.out,HZ1.out,HSN.out,List.cons_append],by show J _ _;rw[<-List.append_assoc];exact hz2,HKR.out.t ((KeepC.below HB2.out).t hz3)⟩));case measure=>simp[intOf];omega};{go_ret;refine .inr ⟨rfl,ys++zs,?_,by rw[<-List.append_assoc];exact hz2⟩;rw[List.map_append,HYS.out,List.cons_append,nodesL];obtain⟨r,hr⟩:=hq1;obtain⟨r',hr'⟩:=nodesLL_pre ks (k+1);exact⟨r++r',by rw[List.cons_append, <-hr',HSN.out, <-hr];simp⟩}};{have hall:ks.take k=ks:=List.take_of_length_le (by omega);have HYS:=Lib.hid (show ys.map FoV.fo=nodesL (.mk op nm c nn ks) by rw[hys.out,hall,nodesL]);clear hall hys;gi_wp2;go_ret;exact .inl ⟨rfl,ys,HYS.out,hJr.out,HK1.out.t hkr.out⟩})}
 {gi_wp2;go_ret;exact .inr ⟨rfl,[⟨⟨_,_⟩,HF.out⟩],⟨nodesLL ks,rfl⟩,hx2⟩}
theorem nodes_any (f:Fo)(v:Value)(w:World)(B:Nat)(hf:f.In w B v):
  Calls Tryz.prog 128 #[v] w fun e w'=>e=.returned (.func (.func 172) #[] #[.pointer (some ⟨w.heap.size,0,none⟩)])/\ ∃cs,v=.agg cs/\ w'=w.alloc (.cells cs 47):=by
 obtain⟨ao,cap,rfl⟩:=hf.shape;clear hf;go_enter Tryz.func128,Tryz.ntmps128;go_wp2;go_ret;exact⟨rfl,_,rfl,rfl⟩
theorem run_store_fn {P:Program}{w:World}{a:Addr}{m:Mode}(f:Fn)(x y:Array Value):(store a (.func f x y) m).run P w=stored P w a (.func f x y) m:=Go.run_store P w a _ m rfl
section
attribute [local go_sem] run_store_fn
theorem nodes1_any (n:Nat)(w0:World)(B fb:Nat)(f:Fo)(cs:Array Value)(w:World)(hf:f.In w0 B (.agg cs))(hk:KeepC w0 w)(hfb:Blk w fb 47 cs):
  SeqStopsK Fence.wide n Tryz.prog 172 #[.pointer (some ⟨fb,0,none⟩)] (fun x:FoV w0 B=>#[x.1.2]) KeepC (fun xs=>xs.map FoV.fo=nodesL f) (fun xs=>xs.map FoV.fo<+: nodesL f) f.size w:=
 fun l J Jx W hW hJ hJx hY h0=>by
 have hno:∀k:Nat,(Fence.wide.depth.isSome=true->1<=k):=fun k h=>by cases h
 have hY':YieldOk w0 B l f.size J Jx:=fun m pre x W hj hl=>anyDepth rfl m (hY pre x W hj hl)
 have hfW:=hfb.below hW;have hfl:=hfW.lt;have HF:=Lib.hid hf;obtain⟨ao,cap,hcs⟩:=hf.shape;cases hcs
 have c0:=hfW.cell 0;have c1:=hfW.cell 1;have c2:=hfW.cell 2;have c3:=hfW.cell 3;have c4:=hfW.cell 4;simp only[List.getElem?_toArray,List.getElem?_cons_zero,List.getElem?_cons_succ]at c0 c1 c2 c3 c4;have b1:=(Blk.new W 113 #[.func (.yield l) #[] #[]]).below ((Below.refl _ _).alloc (Nat.le_refl _) (.cells #[.func (.func 173) #[] #[.pointer (some ⟨W.heap.size,0,none⟩),.pointer (some ⟨W.heap.size+1,0,none⟩)]] 113));have b2:=Blk.new (W.alloc (.cells #[.func (.yield l) #[] #[]] 113)) 113 #[.func (.func 173) #[] #[.pointer (some ⟨W.heap.size,0,none⟩),.pointer (some ⟨W.heap.size+1,0,none⟩)]];rw[World.size_alloc]at b2;have hW1:Below W.heap.size W ((W.alloc (.cells #[.func (.yield l) #[] #[]] 113)).alloc (.cells #[.func (.func 173) #[] #[.pointer (some ⟨W.heap.size,0,none⟩),.pointer (some ⟨W.heap.size+1,0,none⟩)]] 113)):=((Below.refl _ _).alloc (Nat.le_refl _) _).alloc (by simp) _;have hV:=visit_any w0 B W.heap.size l W.heap.size (W.heap.size+1) f.size J Jx hJ hY' f.size f (n-1) _ [] _ (Nat.le_refl _) HF.out (hk.t (KeepC.below (hW.trans (hW1.mono hW.size)))) b1 b2 (abides_below hJ h0 hW1) (by simp);have HV:=Lib.hid hV;clear hV b1 b2 hW1 hJ hJx hY hY' h0 hfW;refine callsIn_of_wp Tryz.func172 rfl trivial ?_ rfl;simp only[Tryz.ntmps172,List.size_toArray,List.length_cons,List.length_nil,Nat.reduceAdd,Nat.reduceSub,Array.replicate_succ,Array.replicate_zero,List.push_toArray,List.append_toArray,List.nil_append,List.cons_append];gi_wp2_with (refine⟨trivial,hno _,?_⟩;gi_at_call 173;refine HV.out.mono ?_;rintro e W3 (⟨rfl,zs,hq1,hz2,hz3⟩ | ⟨rfl,zs,hq1,hz2⟩))
 {go_end0;exact⟨⟨_,rfl⟩,.inl ⟨zs,hq1,hz2⟩⟩}
 {go_end0;exact⟨⟨_,rfl⟩,.inr ⟨zs,hq1,hz2⟩⟩}
end
end
section
open Go.RowKit
attribute [local go_sem] Oper.semAt_some
def nodeErr (d:List Fa)(kn:ByteArray->Bool)(f:Fo):Int:=
 if formedB f=false then 1
 else if f.op=3/\ (f.n<0\/1000000<f.n)then 10
 else if(f.op=3/\ idxD d f.name<0)\/(f.op=4/\ kn f.name=false)then 7
 else 0
def firstErr (d:List Fa)(kn:ByteArray->Bool):List Fo->Int
 | []=>0
 | x::l=>if nodeErr d kn x=0 then firstErr d kn l else nodeErr d kn x
def checkF (f:Fo)(d:List Fa)(kn:ByteArray->Bool):Int:=if 200<f.size\/20<f.depth then 2 else firstErr d kn (nodesL f)
theorem firstErr_app (d:List Fa)(kn:ByteArray->Bool):∀(a b:List Fo),(∀y∈a,nodeErr d kn y=0)->firstErr d kn (a++b)=firstErr d kn b
 | [],_,_=>rfl
 | x::a,b,h=>by{rw[List.cons_append,firstErr,if_pos (h x (by simp))];exact firstErr_app d kn a b fun y hy=>h y (List.mem_cons_of_mem _ hy)}
theorem firstErr_none (d:List Fa)(kn:ByteArray->Bool)(a:List Fo)(h:∀y∈a,nodeErr d kn y=0):firstErr d kn a=0:=by
 have:=firstErr_app d kn a [] h
 rwa[List.append_nil]at this
def Tells (g:Nat)(lb:Array Value)(kn:ByteArray->Bool)(w:World):Prop:=
 ∀(W:World) (s:ByteArray),Below w.heap.size w W->s.size<=maxLen->Calls Tryz.prog g (#[.string s]++lb) W fun e W'=>e=.returned (.bool (kn s))/\ Below W.heap.size W W'
def FoV.cells {w0:World}{B:Nat}(x:FoV w0 B):Array Value:=match x.1.2 with | .agg cs=>cs | _=>#[]
theorem firstErr_pre (d:List Fa)(kn:ByteArray->Bool):∀(a b:List Fo),firstErr d kn a≠0->firstErr d kn (a++b)=firstErr d kn a
 | [],_,h=>absurd rfl h
 | x::a,b,h=>by{rw[List.cons_append,firstErr,firstErr];rw[firstErr]at h;(split);{rename_i hx;rw[if_pos hx]at h;exact firstErr_pre d kn a b h};{rfl}}
theorem keepsBelow {W W1:World}(h:Below W.heap.size W W1):KeepsOthers W W1:=KeepsOthers.of_grownBy (grown_of_below h) (fun j o e=>by cases e)
theorem below_two {H:Nat}{w w2 W:World}(h:Below H w w2)(k:Below H w W)(hz:w2.heap.size<=W.heap.size):Below H w2 W:=
 ⟨k.os.trans h.os.symm,k.tape.trans h.tape.symm,k.output.trans h.output.symm,hz,fun i hi=>(k.block i hi).trans (h.block i hi).symm⟩
theorem check_any (f:Fo)(d:List Fa)(g:Nat)(lb:Array Value)(kn:ByteArray->Bool)(v u:Value)(w:World)(B:Nat)(hs:f.size<=1000000)(hB:B<=w.heap.size)(hf:f.In w B v)(hd:DomIn w B d u)
    (eg:∀args w,(callFunc g args).run Tryz.prog w=.ok (.enter g args) w) (hkn:Tells g lb kn w):
    Calls Tryz.prog 87 #[v,u,.func (.func g) #[] lb] w fun e w'=>e=.returned (.int .i64 (checkF f d kn))/\ Below w.heap.size w w':=by
  obtain⟨ao,cap,rfl⟩:=hf.shape;have HD:=Lib.hid hd;obtain⟨du,rfl,hdu⟩:=hd;obtain⟨ad,cd,rfl,d1,d2,_⟩:=SlIn.shape hdu;have HF:=Lib.hid hf;have HKN:=Lib.hid hkn;clear hf hkn hdu;have hdp:=Fo.depth_le f;have k0:=Blk.new w 47 #[.int .i64 f.op,.string f.name,.int .i64 f.cmp,.int .i64 f.n,.slice ao f.kids.length cap];have k1:=Blk.new (w.alloc (.cells #[.int .i64 f.op,.string f.name,.int .i64 f.cmp,.int .i64 f.n,.slice ao f.kids.length cap] 47)) 25 #[.slice ad d.length cd];have k2:=Blk.new ((w.alloc (.cells #[.int .i64 f.op,.string f.name,.int .i64 f.cmp,.int .i64 f.n,.slice ao f.kids.length cap] 47)).alloc (.cells #[.slice ad d.length cd] 25)) 87 #[.func (.func g) #[] lb];have k3:=Blk.new (((w.alloc (.cells #[.int .i64 f.op,.string f.name,.int .i64 f.cmp,.int .i64 f.n,.slice ao f.kids.length cap] 47)).alloc (.cells #[.slice ad d.length cd] 25)).alloc (.cells #[.func (.func g) #[] lb] 87)) 30 #[.int .i64 0];simp only[World.size_alloc]at k0 k1 k2 k3;have hB1:Below w.heap.size w ((((w.alloc (.cells #[.int .i64 f.op,.string f.name,.int .i64 f.cmp,.int .i64 f.n,.slice ao f.kids.length cap] 47)).alloc (.cells #[.slice ad d.length cd] 25)).alloc (.cells #[.func (.func g) #[] lb] 87)).alloc (.cells #[.int .i64 0] 30)):=((((Below.refl _ _).alloc (Nat.le_refl _) _).alloc (by simp) _).alloc (by simp;omega) _).alloc (by simp;omega) _;have HS:=Lib.hid (size_any f.size f _ _ B (Nat.le_refl _) hs (by simp;omega) (Fo.In.below (hB1.mono hB) _ _ HF.out));have K0:Hid (Blk ((((w.alloc (.cells #[.int .i64 f.op,.string f.name,.int .i64 f.cmp,.int .i64 f.n,.slice ao f.kids.length cap] 47)).alloc (.cells #[.slice ad d.length cd] 25)).alloc (.cells #[.func (.func g) #[] lb] 87)).alloc (.cells #[.int .i64 0] 30)) w.heap.size 47 #[.int .i64 f.op,.string f.name,.int .i64 f.cmp,.int .i64 f.n,.slice ao f.kids.length cap]):=Blk.alloc (Blk.alloc (Blk.alloc k0 _) _) _;have K1:Hid (Blk ((((w.alloc (.cells #[.int .i64 f.op,.string f.name,.int .i64 f.cmp,.int .i64 f.n,.slice ao f.kids.length cap] 47)).alloc (.cells #[.slice ad d.length cd] 25)).alloc (.cells #[.func (.func g) #[] lb] 87)).alloc (.cells #[.int .i64 0] 30)) (w.heap.size+1) 25 #[.slice ad d.length cd]):=Blk.alloc (Blk.alloc k1 _) _;have K2:Hid (Blk ((((w.alloc (.cells #[.int .i64 f.op,.string f.name,.int .i64 f.cmp,.int .i64 f.n,.slice ao f.kids.length cap] 47)).alloc (.cells #[.slice ad d.length cd] 25)).alloc (.cells #[.func (.func g) #[] lb] 87)).alloc (.cells #[.int .i64 0] 30)) (w.heap.size+1+1) 87 #[.func (.func g) #[] lb]):=Blk.alloc k2 _;have K3:=Lib.hid k3;have HB1:=Lib.hid hB1;clear k0 k1 k2 k3 hB1;by_cases h1:200<f.size\/20<f.depth
  . have HR:=Lib.hid (show checkF f d kn=2 by rw[checkF,if_pos h1])
    go_enter Tryz.func87,Tryz.ntmps87;by_cases g1:200<f.size
    . have e1:decide ((200:Int)<(f.size:Int))=true:=by simp;omega
      clear h1 g1;go_wp2_with (go_at_call 127;refine HS.out.mono ?_;rintro e w2 ⟨rfl,hb2⟩;have y3:=(boxBelow K3.out hb2).cell;have z3:=(boxBelow K3.out hb2).frozen);refine bodyPost_ret (results_cell1 (v:=.int .i64 2) rfl _ _ _ rfl (by go_simp)) rfl ⟨by rw[HR.out],(HB1.out.trans (hb2.mono (by simp;omega))).setCell (p:=⟨w.heap.size+1+1+1,0,none⟩) (by simp;omega) _⟩
    . have e1:decide ((200:Int)<(f.size:Int))=false:=by simp;omega
      have e2:decide ((20:Int)<(f.depth:Int))=true:=by simp;omega
      clear h1 g1;go_wp2_with (go_at_call 127;refine HS.out.mono ?_;rintro e w2 ⟨rfl,hb2⟩;have y3:=(boxBelow K3.out hb2).cell;have z3:=(boxBelow K3.out hb2).frozen);refine bodyPost_ret (results_cell1 (v:=.int .i64 2) rfl _ _ _ rfl (by go_simp)) rfl ⟨by rw[HR.out],(HB1.out.trans (hb2.mono (by simp;omega))).setCell (p:=⟨w.heap.size+1+1+1,0,none⟩) (by simp;omega) _⟩
  . have HR:=Lib.hid (show checkF f d kn=firstErr d kn (nodesL f) by rw[checkF,if_neg h1])
    have e1:decide ((200:Int)<(f.size:Int))=false:=by simp;omega
    have e2:decide ((20:Int)<(f.depth:Int))=false:=by simp;omega
    clear h1;refine(callsIn_wide (n:=3)).1 ?_;refine callsIn_of_wp_marks Tryz.func87 rfl trivial ?_ rfl;simp only[Tryz.ntmps87,List.size_toArray,List.length_cons,List.length_nil,Nat.reduceAdd,Nat.reduceSub,Array.replicate_succ,Array.replicate_zero,List.push_toArray,List.append_toArray,List.nil_append,List.cons_append]
    gi_wp2_with (first
      | (refine⟨trivial,?_⟩;gi_at_call 127;(refine(callsIn_wide.2 HS.out).mono ?_);rintro e w2 ⟨rfl,hb2⟩
         have r0:=Blk.below K0.out hb2
         have r1:=Blk.below K1.out hb2
         have r2:=Blk.below K2.out hb2
         have r3:=Blk.below K3.out hb2
         have c0:=Blk.cell r0 0
         have c1:=Blk.cell r0 1
         have c2:=Blk.cell r0 2
         have c3:=Blk.cell r0 3
         have c4:=Blk.cell r0 4
         have hw2:=HB1.out.trans (hb2.mono (by simp;omega))
         have hz2:=hb2.size
         simp only[World.size_alloc]at hz2
         simp only[List.getElem?_toArray,List.getElem?_cons_zero,List.getElem?_cons_succ]at c0 c1 c2 c3 c4
         have hf2:=Fo.In.below (hw2.mono hB) _ _ HF.out
         have HN:=Lib.hid (nodes_any f _ w2 B hf2)
         have HF2:=Lib.hid hf2
         have HW2:=Lib.hid hw2
         have R1:=Lib.hid r1
         have R2:=Lib.hid r2
         have R3:=Lib.hid r3
         clear hb2 r0 r1 r2 r3 hw2 hf2 K0 K1 K2 K3)
      | (refine⟨trivial,?_⟩;gi_at_call 128;(refine(callsIn_wide.2 HN.out).mono ?_);rintro e w3 ⟨rfl,cs,hcs,rfl⟩;cases hcs))
    refine wpIn_rangeFunc_ownH (F:=Fence.wide) (n:=3) rfl (by omega) (gf:=172) (lb:=#[.pointer (some ⟨w2.heap.size,0,none⟩)]) rfl trivial (enters_of Tryz.func172 (by kernel_rfl) rfl)
      (nodes1_any 2 w2 B w2.heap.size f #[.int .i64 f.op,.string f.name,.int .i64 f.cmp,.int .i64 f.n,.slice ao f.kids.length cap] (w2.alloc (.cells #[.int .i64 f.op,.string f.name,.int .i64 f.cmp,.int .i64 f.n,.slice ao f.kids.length cap] 47)) HF2.out (KeepC.below ((Below.refl _ _).alloc (Nat.le_refl _) _)) (Blk.new w2 47 _)) KeepC.t KeepC.b (Below.refl _ _) (fun _=>rfl)
      (fun(pre:List (FoV w2 B)) W=>(Boxed W (w.heap.size+1) 25 (.slice ad d.length cd)/\ Boxed W (w.heap.size+1+1) 87 (.func (.func g) #[] lb)/\ Boxed W (w.heap.size+1+1+1) 30 (.int .i64 0))/\ (Below w.heap.size w W/\ w2.heap.size<=W.heap.size)/\ (∀x∈pre,nodeErr d kn x.fo=0))
      (fun c (pre:List (FoV w2 B)) W=>c=.ret/\ (∃er:Int,er≠0/\ firstErr d kn (pre.map FoV.fo)=er/\ Boxed W (w.heap.size+1+1+1) 30 (.int .i64 er))/\ Below w.heap.size w W)
      (OwnFrom.and (fun s A B row hs hg hr=>⟨boxKeeps hs.1 hg hr,boxKeeps hs.2.1 hg hr,boxKeeps hs.2.2 hg hr⟩) (OwnFrom.and (OwnFrom.and (ownFrom_below (Nat.le_refl _) (by simp;omega)) (fun s A B row hs hg hr=>Nat.le_trans hs hg.size)) (ownFrom_pure _ _)))
      (fun c s A B row hs hg hr=>by
        obtain⟨h1,⟨er,h2,h3,h4⟩,h6⟩:=hs
        exact⟨h1,⟨er,h2,h3,boxKeeps h4 hg hr⟩,ownFrom_below (β:=Unit) (Nat.le_refl _) (Nat.le_refl _) () A B row h6 hg (fun r e=>⟨by have:=(hr r e).1;simp at this;omega,(hr r e).2⟩)⟩)
      ⟨⟨boxBelow R1.out ((Below.refl _ _).alloc (Nat.le_refl _) _),boxBelow R2.out ((Below.refl _ _).alloc (Nat.le_refl _) _),boxBelow R3.out ((Below.refl _ _).alloc (Nat.le_refl _) _)⟩,⟨HW2.out.trans (((Below.refl _ _).alloc (Nat.le_refl _) _).mono (by omega)),by simp⟩,by simp⟩
      (fun x a' W=>∃Bx,w.heap.size+1+1+1<Bx/\ Blk W Bx 47 x.cells/\ a'={tmps:=#[.agg #[.int .i64 f.op,.string f.name,.int .i64 f.cmp,.int .i64 f.n,.slice ao f.kids.length cap],.agg #[.slice ad d.length cd],.func (.func g) #[] lb,.pointer (some ⟨w.heap.size,0,none⟩),.pointer (some ⟨w.heap.size+1,0,none⟩),.pointer (some ⟨w.heap.size+1+1,0,none⟩),.pointer (some ⟨w.heap.size+1+1+1,0,none⟩),.int .i64 f.size,.int .i64 f.depth,.pointer (some ⟨Bx,0,none⟩),.tuple #[.int .i64 f.size,.int .i64 f.depth],.agg #[.int .i64 f.op,.string f.name,.int .i64 f.cmp,.int .i64 f.n,.slice ao f.kids.length cap],.tuple #[.int .i64 f.size,.int .i64 f.depth],.int .i64 f.size,.int .i64 f.depth,.int .i64 f.size,.bool false,.bool false,.int .i64 f.depth,.bool false,.bool false,.agg #[.int .i64 f.op,.string f.name,.int .i64 f.cmp,.int .i64 f.n,.slice ao f.kids.length cap],.func (.func 172) #[] #[.pointer (some ⟨w2.heap.size,0,none⟩)],.agg x.cells,undef,undef,undef,undef,undef,undef,undef,undef,undef,undef,undef,undef,undef,undef,undef,undef,undef,undef,undef,undef,undef,undef,undef,undef,undef,undef,undef,undef,undef,undef,undef,undef,undef,undef,undef,undef,undef,undef,undef],defers:=[]})
      (fun x a' u A B row hs hg hr=>by
        obtain⟨Bx,h1,h2,h3⟩:=hs
        refine⟨Bx,h1,(hg.block Bx h2.lt (fun e=>?_)).trans h2,h3⟩
        obtain⟨_,o,ho,hcl⟩:=hr Bx e.symm
        rw[show A.heap[Bx]? =_ from h2]at ho;cases ho;cases hcl)
      ?assign ?body ?done ?stop
    case assign=>(rintro l pre x W K ⟨⟨q1,q2,q3⟩,⟨hB',hZ⟩,hp⟩ hK;have HK:=Lib.hid hK;obtain⟨⟨xf,xv⟩,hx⟩:=x;have hsh:=Fo.In.shape (f:=xf) (v:=xv) hx;obtain⟨xa,xc,rfl⟩:=hsh;clear hK;gi_wp2;have hbl:Below W.heap.size W (W.alloc (.cells #[.int .i64 xf.op,.string xf.name,.int .i64 xf.cmp,.int .i64 xf.n,.slice xa xf.kids.length xc] 47)):=(Below.refl _ W).alloc (Nat.le_refl _) _;have hlt3:=q3.lt;refine HK.out _ _ ((keepsBelow hbl).from _) (KeepC.below hbl) ⟨⟨boxBelow q1 hbl,boxBelow q2 hbl,boxBelow q3 hbl⟩,⟨hB'.trans (hbl.mono hB'.size),by simp;omega⟩,hp⟩ ⟨W.heap.size,hlt3,Blk.new W 47 _,rfl⟩)
    case body=>
      rintro l pre x a' W hl ⟨r,hr⟩ ⟨⟨q1,q2,q3⟩,⟨hB',hZ⟩,hp⟩ ⟨Bx,hBx,bX,rfl⟩ hlt;obtain⟨⟨⟨op,nm,c,n,ks⟩,xv⟩,hx⟩:=x;have hsh:∃xa xc,xv=.agg #[.int .i64 op,.string nm,.int .i64 c,.int .i64 n,.slice xa ks.length xc]:=Fo.In.shape hx;obtain⟨xa,xc,rfl⟩:=hsh
      change Blk W Bx 47 #[.int .i64 op,.string nm,.int .i64 c,.int .i64 n,.slice xa ks.length xc]at bX
      have hxW:Fo.In W B (.mk op nm c n ks) _:=Fo.In.below ((below_two HW2.out hB' hZ).mono hB) _ _ hx;have hnm:nm.size<=maxLen:=by obtain⟨_,_,_,_,_,_,h4,_⟩:=hx;exact h4
      dsimp only[FoV.cells]
      have x0:W.cell? ⟨Bx,0,none⟩=some (.int .i64 op):=bX.cell 0;have x1:W.cell? ⟨Bx,1,none⟩=some (.string nm):=bX.cell 1;have x2:W.cell? ⟨Bx,2,none⟩=some (.int .i64 c):=bX.cell 2;have x3:W.cell? ⟨Bx,3,none⟩=some (.int .i64 n):=bX.cell 3;have x4:W.cell? ⟨Bx,4,none⟩=some (.slice xa ks.length xc):=bX.cell 4;have HFM:=Lib.hid (formed_any (.mk op nm c n ks) _ W B hxW);have HB:=Lib.hid hB';have HP:=Lib.hid hp;have HBX:=Lib.hid bX;have HQ1:=Lib.hid q1;have HQ2:=Lib.hid q2;have HQ3:=Lib.hid q3
      have HFE:Hid (∀er,nodeErr d kn (.mk op nm c n ks)=er->er≠0->firstErr d kn ((pre++[(⟨(.mk op nm c n ks,.agg #[.int .i64 op,.string nm,.int .i64 c,.int .i64 n,.slice xa ks.length xc]),hx⟩:FoV w2 B)]).map FoV.fo)=er):=by
        intro er h1 h2;rw[List.map_append,firstErr_app _ _ _ _ (fun y hy=>by obtain⟨x,hx,rfl⟩:=List.mem_map.1 hy;exact hp x hx)]
        show(if nodeErr d kn (.mk op nm c n ks)=0 then _ else nodeErr d kn (.mk op nm c n ks))=er
        rw[h1,if_neg h2]
      have HPN:Hid (nodeErr d kn (.mk op nm c n ks)=0->∀x∈pre++[(⟨(.mk op nm c n ks,.agg #[.int .i64 op,.string nm,.int .i64 c,.int .i64 n,.slice xa ks.length xc]),hx⟩:FoV w2 B)],nodeErr d kn x.fo=0):=by
        intro h1 x hx';rcases List.mem_append.1 hx' with h | h
        . exact hp x h
        . simp at h;subst h;exact h1
      have HNE:Hid (nodeErr d kn (.mk op nm c n ks)=if formedB (.mk op nm c n ks)=false then 1 else if op=3/\ (n<0\/1000000<n)then 10 else if(op=3/\ idxD d nm<0)\/(op=4/\ kn nm=false)then 7 else 0):=rfl;clear hB' hp hxW bX q1 q2 q3;cases h1:formedB (.mk op nm c n ks)with
      | false=>{rw[h1]at HFM HNE;have HE:=Lib.hid (HFE.out 1 (by rw[HNE.out,if_pos rfl]) (by decide));clear h1;gi_wp2_with (refine⟨trivial,?_⟩;gi_at_call 129;(refine(CallsIn.inRound l (callsIn_wide.2 HFM.out)).mono ?_);rintro e w3 ⟨rfl,hb3⟩;have y3:=(boxBelow HQ3.out hb3).cell;have z3:=(boxBelow HQ3.out hb3).frozen;have y1:=(boxBelow HQ1.out hb3).cell;have y2:=(boxBelow HQ2.out hb3).cell;have bx3:=Blk.below HBX.out hb3;have v0:w3.cell? ⟨Bx,0,none⟩=some (.int .i64 _):=bx3.cell 0;have v1:w3.cell? ⟨Bx,1,none⟩=some (.string nm):=bx3.cell 1;have v3:w3.cell? ⟨Bx,3,none⟩=some (.int .i64 n):=bx3.cell 3;have HBX3:=Lib.hid bx3;have HBW:=Lib.hid (HB.out.trans (hb3.mono HB.out.size));have hz3:=hb3.size;clear bx3);exact⟨((keepsBelow hb3).trans (KeepsOthers.setCell _ _ _)).from _,rfl,⟨1,by decide,HE.out,(boxBelow HQ3.out hb3).set _⟩,(HB.out.trans (hb3.mono HB.out.size)).setCell (p:=⟨w.heap.size+1+1+1,0,none⟩) (by simp;omega) _⟩}
      | true=>
        rw[h1,if_neg (by decide)]at HNE;rw[h1]at HFM;clear h1;by_cases o3:op=3
        . subst o3
          by_cases g1:n<0
          . have d1:decide (n<0)=true:=decide_eq_true g1
            have HE:=Lib.hid (HFE.out 10 (by rw[HNE.out,if_pos ⟨rfl,.inl g1⟩]) (by decide));clear g1;gi_wp2_with (refine⟨trivial,?_⟩;gi_at_call 129;(refine(CallsIn.inRound l (callsIn_wide.2 HFM.out)).mono ?_);rintro e w3 ⟨rfl,hb3⟩;have y3:=(boxBelow HQ3.out hb3).cell;have z3:=(boxBelow HQ3.out hb3).frozen;have y1:=(boxBelow HQ1.out hb3).cell;have y2:=(boxBelow HQ2.out hb3).cell;have bx3:=Blk.below HBX.out hb3;have v0:w3.cell? ⟨Bx,0,none⟩=some (.int .i64 _):=bx3.cell 0;have v1:w3.cell? ⟨Bx,1,none⟩=some (.string nm):=bx3.cell 1;have v3:w3.cell? ⟨Bx,3,none⟩=some (.int .i64 n):=bx3.cell 3;have HBX3:=Lib.hid bx3;have HBW:=Lib.hid (HB.out.trans (hb3.mono HB.out.size));have hz3:=hb3.size;clear bx3);exact⟨((keepsBelow hb3).trans (KeepsOthers.setCell _ _ _)).from _,rfl,⟨10,by decide,HE.out,(boxBelow HQ3.out hb3).set _⟩,(HB.out.trans (hb3.mono HB.out.size)).setCell (p:=⟨w.heap.size+1+1+1,0,none⟩) (by simp;omega) _⟩
          . have d1:decide (n<0)=false:=decide_eq_false g1
            by_cases g2:1000000<n
            . have d2:decide (1000000<n)=true:=decide_eq_true g2
              have HE:=Lib.hid (HFE.out 10 (by rw[HNE.out,if_pos ⟨rfl,.inr g2⟩]) (by decide));clear g1 g2;gi_wp2_with (refine⟨trivial,?_⟩;gi_at_call 129;(refine(CallsIn.inRound l (callsIn_wide.2 HFM.out)).mono ?_);rintro e w3 ⟨rfl,hb3⟩;have y3:=(boxBelow HQ3.out hb3).cell;have z3:=(boxBelow HQ3.out hb3).frozen;have y1:=(boxBelow HQ1.out hb3).cell;have y2:=(boxBelow HQ2.out hb3).cell;have bx3:=Blk.below HBX.out hb3;have v0:w3.cell? ⟨Bx,0,none⟩=some (.int .i64 _):=bx3.cell 0;have v1:w3.cell? ⟨Bx,1,none⟩=some (.string nm):=bx3.cell 1;have v3:w3.cell? ⟨Bx,3,none⟩=some (.int .i64 n):=bx3.cell 3;have HBX3:=Lib.hid bx3;have HBW:=Lib.hid (HB.out.trans (hb3.mono HB.out.size));have hz3:=hb3.size;clear bx3);exact⟨((keepsBelow hb3).trans (KeepsOthers.setCell _ _ _)).from _,rfl,⟨10,by decide,HE.out,(boxBelow HQ3.out hb3).set _⟩,(HB.out.trans (hb3.mono HB.out.size)).setCell (p:=⟨w.heap.size+1+1+1,0,none⟩) (by simp;omega) _⟩
            . have d2:decide (1000000<n)=false:=decide_eq_false g2
              rw[if_neg (by omega)]at HNE;by_cases g3:idxD d nm<0
              . have d3:decide (idxD d nm<0)=true:=decide_eq_true g3
                have HE:=Lib.hid (HFE.out 7 (by rw[HNE.out,if_pos (.inl ⟨rfl,g3⟩)]) (by decide));clear g1 g2 g3;gi_wp2_with (first | (refine⟨trivial,?_⟩;gi_at_call 129;(refine(CallsIn.inRound l (callsIn_wide.2 HFM.out)).mono ?_);rintro e w3 ⟨rfl,hb3⟩;have y3:=(boxBelow HQ3.out hb3).cell;have z3:=(boxBelow HQ3.out hb3).frozen;have y1:=(boxBelow HQ1.out hb3).cell;have y2:=(boxBelow HQ2.out hb3).cell;have bx3:=Blk.below HBX.out hb3;have v0:w3.cell? ⟨Bx,0,none⟩=some (.int .i64 _):=bx3.cell 0;have v1:w3.cell? ⟨Bx,1,none⟩=some (.string nm):=bx3.cell 1;have v3:w3.cell? ⟨Bx,3,none⟩=some (.int .i64 n):=bx3.cell 3;have HBX3:=Lib.hid bx3;have HBW:=Lib.hid (HB.out.trans (hb3.mono HB.out.size));have hz3:=hb3.size;clear bx3) | (refine⟨trivial,?_⟩;gi_at_call 97;(refine(CallsIn.inRound l (callsIn_wide.2 (index_any d nm _ w3 B (by omega) (HD.out.below (HBW.out.mono hB))))).mono ?_);rintro e w4 ⟨rfl,hb4⟩;have u3:=(boxBelow (boxBelow HQ3.out hb3) hb4).cell;have zz3:=(boxBelow (boxBelow HQ3.out hb3) hb4).frozen;have bx4:=Blk.below HBX3.out hb4;have uv0:w4.cell? ⟨Bx,0,none⟩=some (.int .i64 _):=bx4.cell 0;clear bx4));exact⟨(((keepsBelow hb3).trans (keepsBelow hb4)).trans (KeepsOthers.setCell _ _ _)).from _,rfl,⟨7,by decide,HE.out,(boxBelow (boxBelow HQ3.out hb3) hb4).set _⟩,(HBW.out.trans (hb4.mono HBW.out.size)).setCell (p:=⟨w.heap.size+1+1+1,0,none⟩) (by simp;omega) _⟩
              . have d3:decide (idxD d nm<0)=false:=decide_eq_false g3
                have HE:=Lib.hid (HPN.out (by rw[HNE.out,if_neg (by omega)]));clear g1 g2 g3;gi_wp2_with (first | (refine⟨trivial,?_⟩;gi_at_call 129;(refine(CallsIn.inRound l (callsIn_wide.2 HFM.out)).mono ?_);rintro e w3 ⟨rfl,hb3⟩;have y3:=(boxBelow HQ3.out hb3).cell;have z3:=(boxBelow HQ3.out hb3).frozen;have y1:=(boxBelow HQ1.out hb3).cell;have y2:=(boxBelow HQ2.out hb3).cell;have bx3:=Blk.below HBX.out hb3;have v0:w3.cell? ⟨Bx,0,none⟩=some (.int .i64 _):=bx3.cell 0;have v1:w3.cell? ⟨Bx,1,none⟩=some (.string nm):=bx3.cell 1;have v3:w3.cell? ⟨Bx,3,none⟩=some (.int .i64 n):=bx3.cell 3;have HBX3:=Lib.hid bx3;have HBW:=Lib.hid (HB.out.trans (hb3.mono HB.out.size));have hz3:=hb3.size;clear bx3) | (refine⟨trivial,?_⟩;gi_at_call 97;(refine(CallsIn.inRound l (callsIn_wide.2 (index_any d nm _ w3 B (by omega) (HD.out.below (HBW.out.mono hB))))).mono ?_);rintro e w4 ⟨rfl,hb4⟩;have u3:=(boxBelow (boxBelow HQ3.out hb3) hb4).cell;have zz3:=(boxBelow (boxBelow HQ3.out hb3) hb4).frozen;have bx4:=Blk.below HBX3.out hb4;have uv0:w4.cell? ⟨Bx,0,none⟩=some (.int .i64 _):=bx4.cell 0;clear bx4));refine⟨fun _ h=>(by cases h),?_⟩;gi_wp2;exact⟨((keepsBelow hb3).trans (keepsBelow hb4)).from _,KeepC.t (KeepC.below hb3) (KeepC.below hb4),⟨boxBelow (boxBelow HQ1.out hb3) hb4,boxBelow (boxBelow HQ2.out hb3) hb4,boxBelow (boxBelow HQ3.out hb3) hb4⟩,⟨HBW.out.trans (hb4.mono HBW.out.size),Nat.le_trans hZ (Nat.le_trans hb3.size hb4.size)⟩,HE.out⟩
        . have p3:(op==3)=false:=by simpa using o3
          rw[if_neg (by simp[o3])]at HNE;by_cases o4:op=4
          . subst o4
            cases hkn:kn nm with| false=>{have HE:=Lib.hid (HFE.out 7 (by rw[HNE.out,if_pos (.inr ⟨rfl,hkn⟩)]) (by decide));clear o3;gi_wp2_with (refine⟨trivial,?_⟩;gi_at_call 129;(refine(CallsIn.inRound l (callsIn_wide.2 HFM.out)).mono ?_);rintro e w3 ⟨rfl,hb3⟩;have y3:=(boxBelow HQ3.out hb3).cell;have z3:=(boxBelow HQ3.out hb3).frozen;have y1:=(boxBelow HQ1.out hb3).cell;have y2:=(boxBelow HQ2.out hb3).cell;have bx3:=Blk.below HBX.out hb3;have v0:w3.cell? ⟨Bx,0,none⟩=some (.int .i64 _):=bx3.cell 0;have v1:w3.cell? ⟨Bx,1,none⟩=some (.string nm):=bx3.cell 1;have v3:w3.cell? ⟨Bx,3,none⟩=some (.int .i64 n):=bx3.cell 3;have HBX3:=Lib.hid bx3;have HBW:=Lib.hid (HB.out.trans (hb3.mono HB.out.size));have hz3:=hb3.size;clear bx3);refine⟨trivial,?_⟩;gi_wp2_with (refine⟨trivial,?_⟩;gi_at_fn g;(refine(CallsIn.inRound l (callsIn_wide.2 (HKN.out w3 nm HBW.out hnm))).mono ?_);rintro e w4 ⟨rfl,hb4⟩;have u3:=(boxBelow (boxBelow HQ3.out hb3) hb4).cell;have zz3:=(boxBelow (boxBelow HQ3.out hb3) hb4).frozen);exact⟨(((keepsBelow hb3).trans (keepsBelow hb4)).trans (KeepsOthers.setCell _ _ _)).from _,rfl,⟨7,by decide,HE.out,(boxBelow (boxBelow HQ3.out hb3) hb4).set _⟩,(HBW.out.trans (hb4.mono HBW.out.size)).setCell (p:=⟨w.heap.size+1+1+1,0,none⟩) (by simp;omega) _⟩}| true=>{have HE:=Lib.hid (HPN.out (by rw[HNE.out,if_neg (by simp[hkn])]));clear o3;gi_wp2_with (refine⟨trivial,?_⟩;gi_at_call 129;(refine(CallsIn.inRound l (callsIn_wide.2 HFM.out)).mono ?_);rintro e w3 ⟨rfl,hb3⟩;have y3:=(boxBelow HQ3.out hb3).cell;have z3:=(boxBelow HQ3.out hb3).frozen;have y1:=(boxBelow HQ1.out hb3).cell;have y2:=(boxBelow HQ2.out hb3).cell;have bx3:=Blk.below HBX.out hb3;have v0:w3.cell? ⟨Bx,0,none⟩=some (.int .i64 _):=bx3.cell 0;have v1:w3.cell? ⟨Bx,1,none⟩=some (.string nm):=bx3.cell 1;have v3:w3.cell? ⟨Bx,3,none⟩=some (.int .i64 n):=bx3.cell 3;have HBX3:=Lib.hid bx3;have HBW:=Lib.hid (HB.out.trans (hb3.mono HB.out.size));have hz3:=hb3.size;clear bx3);refine⟨trivial,?_⟩;gi_wp2_with (refine⟨trivial,?_⟩;gi_at_fn g;(refine(CallsIn.inRound l (callsIn_wide.2 (HKN.out w3 nm HBW.out hnm))).mono ?_);rintro e w4 ⟨rfl,hb4⟩;have u3:=(boxBelow (boxBelow HQ3.out hb3) hb4).cell;have zz3:=(boxBelow (boxBelow HQ3.out hb3) hb4).frozen);exact⟨((keepsBelow hb3).trans (keepsBelow hb4)).from _,KeepC.t (KeepC.below hb3) (KeepC.below hb4),⟨boxBelow (boxBelow HQ1.out hb3) hb4,boxBelow (boxBelow HQ2.out hb3) hb4,boxBelow (boxBelow HQ3.out hb3) hb4⟩,⟨HBW.out.trans (hb4.mono HBW.out.size),Nat.le_trans hZ (Nat.le_trans hb3.size hb4.size)⟩,HE.out⟩}
          . have p4:(op==4)=false:=by simpa using o4
            have HE:=Lib.hid (HPN.out (by rw[HNE.out,if_neg (by simp[o3,o4])]));clear o3 o4;gi_wp2_with (refine⟨trivial,?_⟩;gi_at_call 129;(refine(CallsIn.inRound l (callsIn_wide.2 HFM.out)).mono ?_);rintro e w3 ⟨rfl,hb3⟩;have y3:=(boxBelow HQ3.out hb3).cell;have z3:=(boxBelow HQ3.out hb3).frozen;have y1:=(boxBelow HQ1.out hb3).cell;have y2:=(boxBelow HQ2.out hb3).cell;have bx3:=Blk.below HBX.out hb3;have v0:w3.cell? ⟨Bx,0,none⟩=some (.int .i64 _):=bx3.cell 0;have v1:w3.cell? ⟨Bx,1,none⟩=some (.string nm):=bx3.cell 1;have v3:w3.cell? ⟨Bx,3,none⟩=some (.int .i64 n):=bx3.cell 3;have HBX3:=Lib.hid bx3;have HBW:=Lib.hid (HB.out.trans (hb3.mono HB.out.size));have hz3:=hb3.size;clear bx3);refine⟨trivial,?_⟩;gi_wp2;refine⟨fun _ h=>(by cases h),?_⟩;gi_wp2;exact⟨(keepsBelow hb3).from _,KeepC.below hb3,⟨boxBelow HQ1.out hb3,boxBelow HQ2.out hb3,boxBelow HQ3.out hb3⟩,⟨HB.out.trans (hb3.mono HB.out.size),Nat.le_trans hZ hb3.size⟩,HE.out⟩
    case done=>(rintro D xs W hD hS ⟨⟨q1,q2,q3⟩,⟨hB',hZ⟩,hp⟩ hK;have HE:Hid (checkF f d kn=0):=by{show _=_;rw[HR.out, <-hS];exact firstErr_none d kn _ fun y hy=>by obtain⟨x,hx,rfl⟩:=List.mem_map.1 hy;exact hp x hx};have c3:=q3.cell;have z3:=q3.frozen;have HQ:=Lib.hid q3;have hKX:=(KeepsOthers.setCell W ⟨w.heap.size+1+1+1,0,none⟩ (.int .i64 0)).same D _ hK rfl;have HP:=Lib.hid (q3.set (.int .i64 0));have HKX:=Lib.hid hKX;have HB:=Lib.hid hB';clear hKX hK hp hS hB' q1 q2 q3;gi_wp2;refine⟨by simp,.inl ⟨_,_,rfl,run_takeDeferred HKX.out,?_⟩⟩;(have hne:∀ {B:Nat} {t:TypeId} {v:Value} {X:World} (_:X.heap[D]? =some (.deferred (some []))),Boxed X B t v->some B≠some D:=fun hX h e=>by{cases e;rw[show _=_ from h]at hX;cases hX});have l0:=(HP.out.kept (grownBy_putObj' _ D (.deferred none)) (hne HKX.out HP.out)).cell;refine⟨_,results_cell1 (v:=.int .i64 0) rfl _ _ _ rfl (by go_simp),by rw[HE.out],?_⟩;exact(HB.out.setCell (p:=⟨w.heap.size+1+1+1,0,none⟩) (by simp;omega) _).trans (belowK_b (w:=w) (Nat.le_refl _) _ D _ _ (by simp at hD;have:=HW2.out.size;omega) HKX.out rfl rfl))
    case stop=>(rintro D c pre W hD hS ⟨rfl,⟨er,h2,h3,h4⟩,h6⟩ hK;gi_wp2;refine⟨by simp,.inl ⟨_,_,rfl,run_takeDeferred hK,?_⟩⟩;(have hne:∀ {B:Nat} {t:TypeId} {v:Value},Boxed W B t v->some B≠some D:=fun h e=>by{cases e;rw[show W.heap[_]? =_ from h]at hK;cases hK});have l0:=(h4.kept (grownBy_putObj' W D (.deferred none)) (hne h4)).cell;have HE:checkF f d kn=er:=by{obtain⟨r,hr⟩:=hS;rw[HR.out, <-hr,firstErr_pre _ _ _ _ (by rw[h3];exact h2),h3]};refine⟨_,results_cell1 (v:=.int .i64 er) rfl _ _ _ rfl (by go_simp),by rw[HE],?_⟩;exact h6.trans (belowK_b (w:=w) (Nat.le_refl _) W D _ _ (by simp at hD;have:=HW2.out.size;omega) hK rfl rfl))
end
end Go.Proofs.YtihniipjfdenbaaGreatDoor
