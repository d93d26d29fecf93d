/- The walk of formula.check: what is wrong with a formula. A bound on the number of nodes. -/
import Derived.Test.YtejbgoigkefnfaaGreatDoorAl
import Derived.Test.YtejbgoigkefnfaaGreatDoorFactA
import Derived.Test.YtejbgoigkefnfaaGreatDoorFormA
import Derived.Shelf.AbstractIn
set_option maxRecDepth 100000
set_option maxHeartbeats 8000000
namespace Go.Proofs.YtejbgoigkefnfaaGreatDoor
section
open Go.RowKit
attribute [local go_sem] Oper.semAt_some
mutual
def qf :Fo->List Fo
 | .mk op nm c n ks=>.mk op nm c n ks::Fg ks
def Fg :List Fo->List Fo
 | []=>[]
 | k::ks=>qf k++Fg ks
end
mutual
theorem gH :∀(f:Fo),(qf f).length=f.size
 | .mk op nm c n ks=>by simp[qf,Fo.size,zq ks]
theorem zq :∀(ks:List Fo),(Fg ks).length=Fo.Tc ks
 | []=>by simp[Fg,Fo.Tc]
 | k::ks=>by simp[Fg,Fo.Tc,gH k,zq ks]
end
theorem Aq :∀(a b:List Fo),Fg (a++b)=Fg a++Fg b
 | [],b=>by simp[Fg]
 | k::a,b=>by simp[Fg,Aq a b]
theorem xC (l:List Fo)(k:Nat)(h:k<l.length):Fg (l.take (k+1))=Fg (l.take k)++qf l[k]:=by
 rw[Ka h,Aq];simp[Fg]
theorem iE (l:List Fo)(k:Nat):Fg (l.take k)<+: Fg l:=by
 have h:=Aq (l.take k) (l.drop k);rw[sf]at h;exact⟨_,h.symm⟩
structure lg (W W' : World) : Prop where
 size:W.heap.size<=W'.heap.size
 cells:∀(k:Nat) (cs:Array Value) (t:TypeId) (z:Nat×Nat),W.heap[k]? =some (Obj.cells cs t z)->W'.heap[k]? =some (Obj.cells cs t z)
theorem lg.refl (W:World):lg W W:=⟨ja _,fun _ _ _ _ h=>h⟩
theorem lg.t :∀ {A B C:World},lg A B->lg B C->lg A C:=fun h k=>⟨Wa h.1 k.1,fun i cs t z hi=>k.2 i cs t z (h.2 i cs t z hi)⟩
theorem lg.b {n:Nat}:∀(W:World) (l:Nat) (o o':Obj),n<=l->W.heap[l]? =some o->o.isCells=false->o.isWalk=false->lg W (W.putObj l o'):=fun W l o o' _ hl ho _=>
 ⟨lh (by simp[World.putObj]),fun k cs t z hk=>(World.putObj_heap_other (fun e=>by subst e;rw[hl]at hk;cases hk;cases ho)).trans hk⟩
theorem lg.below {W W':World}(h:Below W.heap.size W W'):lg W W':=⟨h.size,fun k _ _ _ hk=>(h.block k (Array.getElem?_eq_some_iff.1 hk).1).trans hk⟩
theorem lg.blk {W W':World}(h:lg W W'){B:Nat}{t:TypeId}{cs:Array Value}(hB:Bb W B t cs):Bb W' B t cs:=h.2 _ _ _ _ hB
theorem lg.cell {W W':World}(h:lg W W'){p:Addr}{v:Value}(hc:W.cell? p=some v):W'.cell? p=some v:=by
 unfold World.cell? at hc⊢;cases hb:W.heap[p.block]? with| none=>rw[hb]at hc;cases hc| some o=>{rw[hb]at hc;cases o with| cells cs t z=>rw[h.2 _ _ _ _ hb];exact hc| _=>cases hc}
mutual
theorem Fo.In.keep {w w':World}{B:Nat}(hb:lg w w'):∀(f:Fo) (v:Value),f.In w B v->f.In w' B v
 | .mk op nm c n ks,v=>by{rintro⟨ao,cap,hv,h1,h2,h3,h4,h5,h6,h7⟩;refine⟨ao,cap,hv,h1,h2,h3,h4,h5,h6,fun hne=>?_⟩;obtain⟨b,off,ha,hlt,hL⟩:=h7 hne;exact⟨b,off,ha,hlt,Fo.Qk.keep hb ks off hL⟩}
theorem Fo.Qk.keep {w w':World}{B b:Nat}(hb:lg w w'):∀(ks:List Fo) (off:Nat),Fo.Qk w B ks b off->Fo.Qk w' B ks b off
 | [],_=>fun _=>trivial
 | k::ks,off=>by{rintro⟨⟨v0,v1,v2,v3,v4,c0,c1,c2,c3,c4,hk⟩,Qv⟩;exact⟨⟨v0,v1,v2,v3,v4,hb.cell c0,hb.cell c1,hb.cell c2,hb.cell c3,hb.cell c4,Fo.In.keep hb k _ hk⟩,Fo.Qk.keep hb ks (off+5) Qv⟩}
end
abbrev Dw (w0:World)(B:Nat):={x:Fo×Value // x.1.In w0 B x.2}
def Dw.fo {w0:World}{B:Nat}(x:Dw w0 B):Fo:=x.1.1
theorem rK {F:Fence}(hd:F.depth=none)(k:Nat):F.room k:=fun d h=>by rw[hd]at h;cases h
theorem UM {F:Fence}(hd:F.depth=none){m:Nat}(m':Nat){P:Program}{l:Nat}{args:Array Value}{W:World}{R:Ending->World->Prop}(h:YieldAt F m P l args W R):YieldAt F m' P l args W R:=by
 obtain⟨fn,tmps,assign,body,hy,hR⟩:=h;exact⟨fn,tmps,assign,body,hy,hR.1,fun c cs _=>hR.2 c cs (rK hd _)⟩
abbrev mJ (w0:World)(B:Nat)(l N:Nat)(J Jx:List (Dw w0 B)->World->Prop):Prop:=
 ∀m pre (x:Dw w0 B) W,J pre W->pre.length<N->YieldAt Fence.wide m Tryz.prog l #[x.1.2] W fun e W'=>(e=.returned (.bool true)/\ J (pre++[x]) W'/\ lg W W')\/(e=.returned (.bool false)/\ Jx (pre++[x]) W')
theorem sK (w0:World)(B Bh l yb vb N:Nat)(J Jx:List (Dw w0 B)->World->Prop)(hJ:AbidesFrom Bh J)(hY:mJ w0 B l N J Jx)(M:Nat):
  ∀(f:Fo) (n:Nat) (v:Value) (pre:List (Dw w0 B)) (W:World),f.size<=M->f.In w0 B v->lg w0 W->Bb W yb 95 #[.func (.yield l) #[] #[]]->
   Bb W vb 95 #[.func (.func 126) #[] #[.pointer (some ⟨yb,0,none⟩),.pointer (some ⟨vb,0,none⟩)]]->J pre W->pre.length+f.size<=N->
   CallsIn Fence.wide n Tryz.prog 126 #[v,.pointer (some ⟨yb,0,none⟩),.pointer (some ⟨vb,0,none⟩)] W fun e W'=>
    (e=.returned (.bool true)/\ ∃ys:List (Dw w0 B),ys.map Dw.fo=qf f/\ J (pre++ys) W'/\ lg W W')\/
    (e=.returned (.bool false)/\ ∃ys:List (Dw w0 B),ys.map Dw.fo<+: qf f/\ Jx (pre++ys) W'):=by
 induction M with
 | zero=>intro f _ _ _ _ h;have:=f.size_pos;omega
 | succ M ih=>
 intro f n v pre W hM hf hk U' Hn hJ0 hN;have IH:=da ih;have HY:=da hY;have HJ:=da hJ;clear ih hY hJ;have HF:=da hf;obtain⟨op,nm,c,nn,ks⟩:=f;obtain⟨ao,cap,rfl,_,_,_,_,h5,h6,h7⟩:=hf;unfold maxLen at h6;have H7:=da h7;have Ff:Below W.heap.size W (W.alloc (.cells #[.int .i64 op,.string nm,.int .i64 c,.int .i64 nn,.slice ao ks.length cap] 24)):=(za _ _).alloc (ja _) _;have jE:=Bb.new W 24 #[.int .i64 op,.string nm,.int .i64 c,.int .i64 nn,.slice ao ks.length cap];have hJ1:=Di HJ.out hJ0 Ff;obtain⟨fn,tmps,assign,body,hy,hR⟩:=HY.out (n-1) pre ⟨⟨_,_⟩,HF.out⟩ _ hJ1 (by rw[Fo.size]at hN;omega);have hyc:=(U'.below Ff).cell 0;have HYB:=da U';have Xw:=da Hn;have Ve:=da Ff;have Nt:=da jE;have HR:=da hR;have HKW:=da hk;clear h7 Ff jE hR U' Hn hJ0 hJ1 hk
 dsimp only at hy
 refine callsIn_of_wp Tryz.func126 rfl trivial ?_ rfl;simp only[Tryz.ntmps126,Af,ib,Cc,Nat.reduceAdd,Nat.reduceSub,Df,Ef,qg,Lf,Ya,Sb];have hno:∀k:Nat,(Fence.wide.depth.isSome=true->1<=k):=fun k h=>by cases h
 gi_wp2;refine⟨hno _,?_⟩;refine HR.out.mono ?_;rintro e W1 (⟨rfl,uV,Jn⟩ | ⟨rfl,hx2⟩)
 {have vV:=Jn.blk Nt.out;have c4:W1.cell? ⟨W.heap.size,4,none⟩=some (.slice ao ks.length cap):=vV.cell 4;have hz1:W.heap.size<W1.heap.size:=vV.lt;have nJ:=Jn.blk (Xw.out.below Ve.out);have Gf:=da ((lg.below Ve.out).t Jn);have P7:=da nJ;have FZ:=da uV;clear vV Jn nJ uV;gi_wp2;gi_loopw [14] (fun vi wr=>∃(k:Nat) (ys:List (Dw w0 B)),k<=ks.length/\ vi=.int .i64 k/\ Hid (ys.map Dw.fo=.mk op nm c nn ks::Fg (ks.take k))/\ Hid (J (pre++ys) wr)/\ Hid (lg W1 wr)) (fun vi _=>ks.length-(intOf vi).toNat);(case atStart=>exact⟨0,[⟨⟨_,_⟩,HF.out⟩],xb _,rfl,rfl,FZ,da (lg.refl _)⟩);case round=>(obtain⟨k,ys,hk,rfl,tK,hJr,hkr⟩:=hrel;by_cases hlt:k<ks.length;{obtain⟨b,off,rfl,Rj,hL⟩:=H7.out (by intro h;simp[h]at hlt);have uK:=HKW.out.t (Gf.out.t hkr.out);obtain⟨ka,kc,g0,g1,g2,g3,g4,gk⟩:=Fo.Qk.get ks off k hlt hL;have c0:=uK.cell g0;have c1:=uK.cell g1;have c2:=uK.cell g2;have c3:=uK.cell g3;have c4:=uK.cell g4;have Q7:=hkr.out.blk P7.out;have hv0:=Q7.cell 0;have VM:=Q7.lt;have hyr:=(Gf.out.t hkr.out).blk HYB.out;have Zp:=xC ks k hlt;have hsk:=Fo.fg ks k hlt;have hlen:ys.length=1+Fo.Tc (ks.take k):=by{have h1:=congrArg List.length tK.out;rw[Sa,ib,zq]at h1;omega};have hs1:=Fo.Nj ks k hlt;have qm:=Fo.Oj ks (k+1);(have hM':ks[k].size<=M:=by rw[Fo.size]at hM;omega);(have hN':(pre++ys).length+ks[k].size<=N:=by rw[Fo.size]at hN;rw[Ea];omega);have hsz1:W.heap.size<=wr.heap.size:=(Gf.out.t hkr.out).size;generalize hkk:ks[k]=kf at*;have ud:Below wr.heap.size wr (wr.alloc (.cells #[.int .i64 kf.op,.string kf.name,.int .i64 kf.cmp,.int .i64 kf.n,.slice ka kf.kids.length kc] 24)):=(za _ _).alloc (ja _) _;have hI:=IH.out kf (n-1) _ (pre++ys) _ hM' gk (uK.t (lg.below ud)) (hyr.below ud) (Q7.below ud) (Di HJ.out hJr.out ud) hN';have HI:=da hI;have Vd:=da ud;have Rv:=da Zp;have GZ:=hkr;have R7:=tK;clear hI ud Zp uK gk g0 g1 g2 g3 g4 hlen hs1 qm hM' hN' Q7 hyr hkr tK hkk hL;gi_wp2_with (refine⟨trivial,hno _,?_⟩;gi_at_call 126;refine HI.out.mono ?_;rintro e W3 (⟨rfl,zs,hq1,hz2,Ym⟩ | ⟨rfl,zs,hq1,hz2⟩));{have S7:=da hq1;clear hq1;go_roundw;(case rel=>(exact⟨k+1,ys++zs,ia,by go_num,by show _=_;rw[Lb,R7.out,S7.out,Rv.out,Sb],by show J _ _;rw[<-Ua];exact hz2,GZ.out.t ((lg.below Vd.out).t Ym)⟩));case measure=>simp[intOf];omega};{go_ret;refine .inr ⟨rfl,ys++zs,?_,by rw[<-Ua];exact hz2⟩;rw[Lb,R7.out,Sb,qf];obtain⟨r,hr⟩:=hq1;obtain⟨r',IZ⟩:=iE ks (k+1);exact⟨r++r',by rw[Sb, <-IZ,Rv.out, <-hr];simp⟩}};{have hall:ks.take k=ks:=Ac ia;have R7:=da (show ys.map Dw.fo=qf (.mk op nm c nn ks) by rw[tK.out,hall,qf]);clear hall tK;gi_wp2;go_ret;exact .inl ⟨rfl,ys,R7.out,hJr.out,Gf.out.t hkr.out⟩})}
 {gi_wp2;go_ret;exact .inr ⟨rfl,[⟨⟨_,_⟩,HF.out⟩],⟨Fg ks,rfl⟩,hx2⟩}
theorem vK (f:Fo)(v:Value)(w:World)(B:Nat)(hf:f.In w B v):
  Calls Tryz.prog 100 #[v] w fun e w'=>e=.returned (.func (.func 125) #[] #[.pointer (some ⟨w.heap.size,0,none⟩)])/\ ∃cs,v=.agg cs/\ w'=w.alloc (.cells cs 24):=by
 obtain⟨ao,cap,rfl⟩:=hf.shape;clear hf;go_enter Tryz.func100,Tryz.ntmps100;go_wp2;go_ret;exact⟨rfl,_,rfl,rfl⟩
theorem Ot {P:Program}{w:World}{a:Addr}{m:Mode}(f:Fn)(x y:Array Value):(store a (.func f x y) m).run P w=stored P w a (.func f x y) m:=Go.run_store P w a _ m rfl
section
attribute [local go_sem] Ot
theorem iH (n:Nat)(w0:World)(B fb:Nat)(f:Fo)(cs:Array Value)(w:World)(hf:f.In w0 B (.agg cs))(hk:lg w0 w)(NG:Bb w fb 24 cs):
  SeqStopsK Fence.wide n Tryz.prog 125 #[.pointer (some ⟨fb,0,none⟩)] (fun x:Dw w0 B=>#[x.1.2]) lg (fun xs=>xs.map Dw.fo=qf f) (fun xs=>xs.map Dw.fo<+: qf f) f.size w:=
 fun l J Jx W hW hJ hJx hY h0=>by
 have hno:∀k:Nat,(Fence.wide.depth.isSome=true->1<=k):=fun k h=>by cases h
 have hY':mJ w0 B l f.size J Jx:=fun m pre x W hj hl=>UM rfl m (hY pre x W hj hl)
 have wV:=NG.below hW;have xV:=wV.lt;have HF:=da hf;obtain⟨ao,cap,hcs⟩:=hf.shape;cases hcs
 have c0:=wV.cell 0;have c1:=wV.cell 1;have c2:=wV.cell 2;have c3:=wV.cell 3;have c4:=wV.cell 4;simp only[Oc,Zb,Ec]at c0 c1 c2 c3 c4;have b1:=(Bb.new W 95 #[.func (.yield l) #[] #[]]).below ((za _ _).alloc (ja _) (.cells #[.func (.func 126) #[] #[.pointer (some ⟨W.heap.size,0,none⟩),.pointer (some ⟨W.heap.size+1,0,none⟩)]] 95));have b2:=Bb.new (W.alloc (.cells #[.func (.yield l) #[] #[]] 95)) 95 #[.func (.func 126) #[] #[.pointer (some ⟨W.heap.size,0,none⟩),.pointer (some ⟨W.heap.size+1,0,none⟩)]];rw[Ba]at b2;have hW1:Below W.heap.size W ((W.alloc (.cells #[.func (.yield l) #[] #[]] 95)).alloc (.cells #[.func (.func 126) #[] #[.pointer (some ⟨W.heap.size,0,none⟩),.pointer (some ⟨W.heap.size+1,0,none⟩)]] 95)):=((za _ _).alloc (ja _) _).alloc la _;have hV:=sK w0 B W.heap.size l W.heap.size (W.heap.size+1) f.size J Jx hJ hY' f.size f (n-1) _ [] _ (ja _) HF.out (hk.t (lg.below (hW.trans (hW1.mono hW.size)))) b1 b2 (Di hJ h0 hW1) la;have HV:=da hV;clear hV b1 b2 hW1 hJ hJx hY hY' h0 wV;refine callsIn_of_wp Tryz.func125 rfl trivial ?_ rfl;simp only[Tryz.ntmps125,Af,ib,Cc,Nat.reduceAdd,Nat.reduceSub,Df,Ef,qg,Lf,Ya,Sb];gi_wp2_with (refine⟨trivial,hno _,?_⟩;gi_at_call 126;refine HV.out.mono ?_;rintro e W3 (⟨rfl,zs,hq1,hz2,Ym⟩ | ⟨rfl,zs,hq1,hz2⟩))
 {go_end0;exact⟨⟨_,rfl⟩,.inl ⟨zs,hq1,hz2⟩⟩}
 {go_end0;exact⟨⟨_,rfl⟩,.inr ⟨zs,hq1,hz2⟩⟩}
end
end
section
open Go.RowKit
attribute [local go_sem] Oper.semAt_some
def Le (d:List Fa)(kn:ByteArray->Bool)(f:Fo):Int:=
 if Gg f=false then 1
 else if f.op=3/\ (f.n<0\/1000000<f.n)then 10
 else if(f.op=3/\ tg d f.name<0)\/(f.op=4/\ kn f.name=false)then 7
 else 0
def gd (d:List Fa)(kn:ByteArray->Bool):List Fo->Int
 | []=>0
 | x::l=>if Le d kn x=0 then gd d kn l else Le d kn x
def Qe (f:Fo)(d:List Fa)(kn:ByteArray->Bool):Int:=if 200<f.size\/20<f.depth then 2 else gd d kn (qf f)
theorem zp (d:List Fa)(kn:ByteArray->Bool):∀(a b:List Fo),(∀y∈a,Le d kn y=0)->gd d kn (a++b)=gd d kn b
 | [],_,_=>rfl
 | x::a,b,h=>by{rw[Sb,gd,if_pos (h x la)];exact zp d kn a b fun y hy=>h y (La _ hy)}
theorem Bs (d:List Fa)(kn:ByteArray->Bool)(a:List Fo)(h:∀y∈a,Le d kn y=0):gd d kn a=0:=by
 have:=zp d kn a [] h
 rwa[Yc]at this
def lU (g:Nat)(lb:Array Value)(kn:ByteArray->Bool)(w:World):Prop:=
 ∀(W:World) (s:ByteArray),Below w.heap.size w W->s.size<=maxLen->Calls Tryz.prog g (#[.string s]++lb) W fun e W'=>e=.returned (.bool (kn s))/\ Below W.heap.size W W'
def Dw.cells {w0:World}{B:Nat}(x:Dw w0 B):Array Value:=match x.1.2 with | .agg cs=>cs | _=>#[]
theorem Pt (d:List Fa)(kn:ByteArray->Bool):∀(a b:List Fo),gd d kn a≠0->gd d kn (a++b)=gd d kn a
 | [],_,h=>absurd rfl h
 | x::a,b,h=>by{rw[Sb,gd,gd];rw[gd]at h;(split);{rename_i hx;rw[if_pos hx]at h;exact Pt d kn a b h};{rfl}}
theorem Bg {W W1:World}(h:Below W.heap.size W W1):KeepsOthers W W1:=KeepsOthers.of_grownBy (Bq h) (fun j o e=>by cases e)
theorem wK {H:Nat}{w w2 W:World}(h:Below H w w2)(k:Below H w W)(hz:w2.heap.size<=W.heap.size):Below H w2 W:=
 ⟨k.os.trans h.os.symm,k.tape.trans h.tape.symm,k.output.trans h.output.symm,hz,fun i hi=>(k.block i hi).trans (h.block i hi).symm⟩
theorem xK (f:Fo)(d:List Fa)(g:Nat)(lb:Array Value)(kn:ByteArray->Bool)(v u:Value)(w:World)(B:Nat)(hs:f.size<=1000000)(hB:B<=w.heap.size)(hf:f.In w B v)(hd:bf w B d u)
    (eg:∀args w,(callFunc g args).run Tryz.prog w=.ok (.enter g args) w) (hkn:lU g lb kn w):
    Calls Tryz.prog 49 #[v,u,.func (.func g) #[] lb] w fun e w'=>e=.returned (.int .i64 (Qe f d kn))/\ Below w.heap.size w w':=by
  obtain⟨ao,cap,rfl⟩:=hf.shape;have HD:=da hd;obtain⟨du,rfl,uq⟩:=hd;obtain⟨ad,cd,rfl,d1,d2,_⟩:=Xa.shape uq;have HF:=da hf;have HKN:=da hkn;clear hf hkn uq;have hdp:=Fo.Cq f;have k0:=Bb.new w 24 #[.int .i64 f.op,.string f.name,.int .i64 f.cmp,.int .i64 f.n,.slice ao f.kids.length cap];have k1:=Bb.new (w.alloc (.cells #[.int .i64 f.op,.string f.name,.int .i64 f.cmp,.int .i64 f.n,.slice ao f.kids.length cap] 24)) 27 #[.slice ad d.length cd];have k2:=Bb.new ((w.alloc (.cells #[.int .i64 f.op,.string f.name,.int .i64 f.cmp,.int .i64 f.n,.slice ao f.kids.length cap] 24)).alloc (.cells #[.slice ad d.length cd] 27)) 87 #[.func (.func g) #[] lb];have k3:=Bb.new (((w.alloc (.cells #[.int .i64 f.op,.string f.name,.int .i64 f.cmp,.int .i64 f.n,.slice ao f.kids.length cap] 24)).alloc (.cells #[.slice ad d.length cd] 27)).alloc (.cells #[.func (.func g) #[] lb] 87)) 35 #[.int .i64 0];simp only[Ba]at k0 k1 k2 k3;have vq:Below w.heap.size w ((((w.alloc (.cells #[.int .i64 f.op,.string f.name,.int .i64 f.cmp,.int .i64 f.n,.slice ao f.kids.length cap] 24)).alloc (.cells #[.slice ad d.length cd] 27)).alloc (.cells #[.func (.func g) #[] lb] 87)).alloc (.cells #[.int .i64 0] 35)):=((((za _ _).alloc (ja _) _).alloc la _).alloc (by simp;omega) _).alloc (by simp;omega) _;have HS:=da (WM f.size f _ _ B (ja _) hs (by simp;omega) (Fo.In.below (vq.mono hB) _ _ HF.out));have K0:Hid (Bb ((((w.alloc (.cells #[.int .i64 f.op,.string f.name,.int .i64 f.cmp,.int .i64 f.n,.slice ao f.kids.length cap] 24)).alloc (.cells #[.slice ad d.length cd] 27)).alloc (.cells #[.func (.func g) #[] lb] 87)).alloc (.cells #[.int .i64 0] 35)) w.heap.size 24 #[.int .i64 f.op,.string f.name,.int .i64 f.cmp,.int .i64 f.n,.slice ao f.kids.length cap]):=Bb.alloc (Bb.alloc (Bb.alloc k0 _) _) _;have K1:Hid (Bb ((((w.alloc (.cells #[.int .i64 f.op,.string f.name,.int .i64 f.cmp,.int .i64 f.n,.slice ao f.kids.length cap] 24)).alloc (.cells #[.slice ad d.length cd] 27)).alloc (.cells #[.func (.func g) #[] lb] 87)).alloc (.cells #[.int .i64 0] 35)) (w.heap.size+1) 27 #[.slice ad d.length cd]):=Bb.alloc (Bb.alloc k1 _) _;have K2:Hid (Bb ((((w.alloc (.cells #[.int .i64 f.op,.string f.name,.int .i64 f.cmp,.int .i64 f.n,.slice ao f.kids.length cap] 24)).alloc (.cells #[.slice ad d.length cd] 27)).alloc (.cells #[.func (.func g) #[] lb] 87)).alloc (.cells #[.int .i64 0] 35)) (w.heap.size+1+1) 87 #[.func (.func g) #[] lb]):=Bb.alloc k2 _;have K3:=da k3;have Ve:=da vq;clear k0 k1 k2 k3 vq;by_cases h1:200<f.size\/20<f.depth
  . have HR:=da (show Qe f d kn=2 by rw[Qe,if_pos h1])
    go_enter Tryz.func49,Tryz.ntmps49;by_cases g1:200<f.size
    . have e1:decide ((200:Int)<(f.size:Int))=true:=by simp;omega
      clear h1 g1;go_wp2_with (go_at_call 99;refine HS.out.mono ?_;rintro e w2 ⟨rfl,ud⟩;have y3:=(Mb K3.out ud).cell;have z3:=(Mb K3.out ud).frozen);refine Qa (od (v:=.int .i64 2) rfl _ _ _ rfl (by go_simp)) rfl ⟨by rw[HR.out],(Ve.out.trans (ud.mono (by simp;omega))).setCell (p:=⟨w.heap.size+1+1+1,0,none⟩) (by simp;omega) _⟩
    . have e1:decide ((200:Int)<(f.size:Int))=false:=by simp;omega
      have e2:decide ((20:Int)<(f.depth:Int))=true:=by simp;omega
      clear h1 g1;go_wp2_with (go_at_call 99;refine HS.out.mono ?_;rintro e w2 ⟨rfl,ud⟩;have y3:=(Mb K3.out ud).cell;have z3:=(Mb K3.out ud).frozen);refine Qa (od (v:=.int .i64 2) rfl _ _ _ rfl (by go_simp)) rfl ⟨by rw[HR.out],(Ve.out.trans (ud.mono (by simp;omega))).setCell (p:=⟨w.heap.size+1+1+1,0,none⟩) (by simp;omega) _⟩
  . have HR:=da (show Qe f d kn=gd d kn (qf f) by rw[Qe,Aa h1])
    have e1:decide ((200:Int)<(f.size:Int))=false:=by simp;omega
    have e2:decide ((20:Int)<(f.depth:Int))=false:=by simp;omega
    clear h1;refine(callsIn_wide (n:=3)).1 ?_;refine callsIn_of_wp_marks Tryz.func49 rfl trivial ?_ rfl;simp only[Tryz.ntmps49,Af,ib,Cc,Nat.reduceAdd,Nat.reduceSub,Df,Ef,qg,Lf,Ya,Sb]
    gi_wp2_with (first
      | (refine⟨trivial,?_⟩;gi_at_call 99;(refine(callsIn_wide.2 HS.out).mono ?_);rintro e w2 ⟨rfl,ud⟩
         have r0:=Bb.below K0.out ud
         have r1:=Bb.below K1.out ud
         have r2:=Bb.below K2.out ud
         have r3:=Bb.below K3.out ud
         have c0:=Bb.cell r0 0
         have c1:=Bb.cell r0 1
         have c2:=Bb.cell r0 2
         have c3:=Bb.cell r0 3
         have c4:=Bb.cell r0 4
         have hw2:=Ve.out.trans (ud.mono (by simp;omega))
         have hz2:=ud.size
         simp only[Ba]at hz2
         simp only[Oc,Zb,Ec]at c0 c1 c2 c3 c4
         have oJ:=Fo.In.below (hw2.mono hB) _ _ HF.out
         have HN:=da (vK f _ w2 B oJ)
         have yK:=da oJ
         have HW2:=da hw2
         have R1:=da r1
         have R2:=da r2
         have R3:=da r3
         clear ud r0 r1 r2 r3 hw2 oJ K0 K1 K2 K3)
      | (refine⟨trivial,?_⟩;gi_at_call 100;(refine(callsIn_wide.2 HN.out).mono ?_);rintro e w3 ⟨rfl,cs,hcs,rfl⟩;cases hcs))
    refine wpIn_rangeFunc_ownH (F:=Fence.wide) (n:=3) rfl ia (gf:=125) (lb:=#[.pointer (some ⟨w2.heap.size,0,none⟩)]) rfl trivial (enters_of Tryz.func125 Ca rfl)
      (iH 2 w2 B w2.heap.size f #[.int .i64 f.op,.string f.name,.int .i64 f.cmp,.int .i64 f.n,.slice ao f.kids.length cap] (w2.alloc (.cells #[.int .i64 f.op,.string f.name,.int .i64 f.cmp,.int .i64 f.n,.slice ao f.kids.length cap] 24)) yK.out (lg.below ((za _ _).alloc (ja _) _)) (Bb.new w2 24 _)) lg.t lg.b (za _ _) (fun _=>rfl)
      (fun(pre:List (Dw w2 B)) W=>(Boxed W (w.heap.size+1) 27 (.slice ad d.length cd)/\ Boxed W (w.heap.size+1+1) 87 (.func (.func g) #[] lb)/\ Boxed W (w.heap.size+1+1+1) 35 (.int .i64 0))/\ (Below w.heap.size w W/\ w2.heap.size<=W.heap.size)/\ (∀x∈pre,Le d kn x.fo=0))
      (fun c (pre:List (Dw w2 B)) W=>c=.ret/\ (∃er:Int,er≠0/\ gd d kn (pre.map Dw.fo)=er/\ Boxed W (w.heap.size+1+1+1) 35 (.int .i64 er))/\ Below w.heap.size w W)
      (OwnFrom.and (fun s A B row hs hg hr=>⟨Bj hs.1 hg hr,Bj hs.2.1 hg hr,Bj hs.2.2 hg hr⟩) (OwnFrom.and (OwnFrom.and (ownFrom_below (ja _) (by simp;omega)) (fun s A B row hs hg hr=>Wa hs hg.size)) (ownFrom_pure _ _)))
      (fun c s A B row hs hg hr=>by
        obtain⟨h1,⟨er,h2,h3,h4⟩,h6⟩:=hs
        exact⟨h1,⟨er,h2,h3,Bj h4 hg hr⟩,ownFrom_below (β:=Unit) (ja _) (ja _) () A B row h6 hg (fun r e=>⟨by have:=(hr r e).1;simp at this;omega,(hr r e).2⟩)⟩)
      ⟨⟨Mb R1.out ((za _ _).alloc (ja _) _),Mb R2.out ((za _ _).alloc (ja _) _),Mb R3.out ((za _ _).alloc (ja _) _)⟩,⟨HW2.out.trans (((za _ _).alloc (ja _) _).mono ia),la⟩,la⟩
      (fun x a' W=>∃Bx,w.heap.size+1+1+1<Bx/\ Bb W Bx 24 x.cells/\ a'={tmps:=#[.agg #[.int .i64 f.op,.string f.name,.int .i64 f.cmp,.int .i64 f.n,.slice ao f.kids.length cap],.agg #[.slice ad d.length cd],.func (.func g) #[] lb,.pointer (some ⟨w.heap.size,0,none⟩),.pointer (some ⟨w.heap.size+1,0,none⟩),.pointer (some ⟨w.heap.size+1+1,0,none⟩),.pointer (some ⟨w.heap.size+1+1+1,0,none⟩),.int .i64 f.size,.int .i64 f.depth,.pointer (some ⟨Bx,0,none⟩),.tuple #[.int .i64 f.size,.int .i64 f.depth],.agg #[.int .i64 f.op,.string f.name,.int .i64 f.cmp,.int .i64 f.n,.slice ao f.kids.length cap],.tuple #[.int .i64 f.size,.int .i64 f.depth],.int .i64 f.size,.int .i64 f.depth,.int .i64 f.size,.bool false,.bool false,.int .i64 f.depth,.bool false,.bool false,.agg #[.int .i64 f.op,.string f.name,.int .i64 f.cmp,.int .i64 f.n,.slice ao f.kids.length cap],.func (.func 125) #[] #[.pointer (some ⟨w2.heap.size,0,none⟩)],.agg x.cells,undef,undef,undef,undef,undef,undef,undef,undef,undef,undef,undef,undef,undef,undef,undef,undef,undef,undef,undef,undef,undef,undef,undef,undef,undef,undef,undef,undef,undef,undef,undef,undef,undef,undef,undef,undef,undef,undef,undef],defers:=[]})
      (fun x a' u A B row hs hg hr=>by
        obtain⟨Bx,h1,h2,h3⟩:=hs
        refine⟨Bx,h1,(hg.block Bx h2.lt (fun e=>?_)).trans h2,h3⟩
        obtain⟨_,o,ho,hcl⟩:=hr Bx e.symm
        rw[show A.heap[Bx]? =_ from h2]at ho;cases ho;cases hcl)
      ?assign ?body ?done ?stop
    case assign=>(rintro l pre x W K ⟨⟨q1,q2,q3⟩,⟨hB',hZ⟩,hp⟩ hK;have HK:=da hK;obtain⟨⟨xf,xv⟩,hx⟩:=x;have OG:=Fo.In.shape (f:=xf) (v:=xv) hx;obtain⟨xa,xc,rfl⟩:=OG;clear hK;gi_wp2;have En:Below W.heap.size W (W.alloc (.cells #[.int .i64 xf.op,.string xf.name,.int .i64 xf.cmp,.int .i64 xf.n,.slice xa xf.kids.length xc] 24)):=(za _ W).alloc (ja _) _;have hlt3:=q3.lt;refine HK.out _ _ ((Bg En).from _) (lg.below En) ⟨⟨Mb q1 En,Mb q2 En,Mb q3 En⟩,⟨hB'.trans (En.mono hB'.size),by simp;omega⟩,hp⟩ ⟨W.heap.size,hlt3,Bb.new W 24 _,rfl⟩)
    case body=>
      rintro l pre x a' W hl ⟨r,hr⟩ ⟨⟨q1,q2,q3⟩,⟨hB',hZ⟩,hp⟩ ⟨Bx,hBx,bX,rfl⟩ hlt;obtain⟨⟨⟨op,nm,c,n,ks⟩,xv⟩,hx⟩:=x;have OG:∃xa xc,xv=.agg #[.int .i64 op,.string nm,.int .i64 c,.int .i64 n,.slice xa ks.length xc]:=Fo.In.shape hx;obtain⟨xa,xc,rfl⟩:=OG
      change Bb W Bx 24 #[.int .i64 op,.string nm,.int .i64 c,.int .i64 n,.slice xa ks.length xc]at bX
      have hxW:Fo.In W B (.mk op nm c n ks) _:=Fo.In.below ((wK HW2.out hB' hZ).mono hB) _ _ hx;have hnm:nm.size<=maxLen:=by obtain⟨_,_,_,_,_,_,h4,_⟩:=hx;exact h4
      dsimp only[Dw.cells]
      have x0:W.cell? ⟨Bx,0,none⟩=some (.int .i64 op):=bX.cell 0;have x1:W.cell? ⟨Bx,1,none⟩=some (.string nm):=bX.cell 1;have x2:W.cell? ⟨Bx,2,none⟩=some (.int .i64 c):=bX.cell 2;have x3:W.cell? ⟨Bx,3,none⟩=some (.int .i64 n):=bX.cell 3;have x4:W.cell? ⟨Bx,4,none⟩=some (.slice xa ks.length xc):=bX.cell 4;have yC:=da (jH (.mk op nm c n ks) _ W B hxW);have HB:=da hB';have HP:=da hp;have Nt:=da bX;have XM:=da q1;have zK:=da q2;have Cs:=da q3
      have JZ:Hid (∀er,Le d kn (.mk op nm c n ks)=er->er≠0->gd d kn ((pre++[(⟨(.mk op nm c n ks,.agg #[.int .i64 op,.string nm,.int .i64 c,.int .i64 n,.slice xa ks.length xc]),hx⟩:Dw w2 B)]).map Dw.fo)=er):=by
        intro er h1 h2;rw[Lb,zp _ _ _ _ (fun y hy=>by obtain⟨x,hx,rfl⟩:=List.mem_map.1 hy;exact hp x hx)]
        show(if Le d kn (.mk op nm c n ks)=0 then _ else Le d kn (.mk op nm c n ks))=er
        rw[h1,Aa h2]
      have V':Hid (Le d kn (.mk op nm c n ks)=0->∀x∈pre++[(⟨(.mk op nm c n ks,.agg #[.int .i64 op,.string nm,.int .i64 c,.int .i64 n,.slice xa ks.length xc]),hx⟩:Dw w2 B)],Le d kn x.fo=0):=by
        intro h1 x hx';rcases List.mem_append.1 hx' with h | h
        . exact hp x h
        . simp at h;subst h;exact h1
      have EA:Hid (Le d kn (.mk op nm c n ks)=if Gg (.mk op nm c n ks)=false then 1 else if op=3/\ (n<0\/1000000<n)then 10 else if(op=3/\ tg d nm<0)\/(op=4/\ kn nm=false)then 7 else 0):=rfl;clear hB' hp hxW bX q1 q2 q3;cases h1:Gg (.mk op nm c n ks)with
      | false=>{rw[h1]at yC EA;have HE:=da (JZ.out 1 (by rw[EA.out,if_pos rfl]) pa);clear h1;gi_wp2_with (refine⟨trivial,?_⟩;gi_at_call 101;(refine(CallsIn.inRound l (callsIn_wide.2 yC.out)).mono ?_);rintro e w3 ⟨rfl,Lc⟩;have y3:=(Mb Cs.out Lc).cell;have z3:=(Mb Cs.out Lc).frozen;have y1:=(Mb XM.out Lc).cell;have y2:=(Mb zK.out Lc).cell;have Zm:=Bb.below Nt.out Lc;have v0:w3.cell? ⟨Bx,0,none⟩=some (.int .i64 _):=Zm.cell 0;have v1:w3.cell? ⟨Bx,1,none⟩=some (.string nm):=Zm.cell 1;have v3:w3.cell? ⟨Bx,3,none⟩=some (.int .i64 n):=Zm.cell 3;have zC:=da Zm;have di:=da (HB.out.trans (Lc.mono HB.out.size));have Ym:=Lc.size;clear Zm);exact⟨((Bg Lc).trans (KeepsOthers.setCell _ _ _)).from _,rfl,⟨1,pa,HE.out,(Mb Cs.out Lc).set _⟩,(HB.out.trans (Lc.mono HB.out.size)).setCell (p:=⟨w.heap.size+1+1+1,0,none⟩) (by simp;omega) _⟩}
      | true=>
        rw[h1,Aa pa]at EA;rw[h1]at yC;clear h1;by_cases o3:op=3
        . subst o3
          by_cases g1:n<0
          . have d1:decide (n<0)=true:=Ma g1
            have HE:=da (JZ.out 10 (by rw[EA.out,if_pos ⟨rfl,.inl g1⟩]) pa);clear g1;gi_wp2_with (refine⟨trivial,?_⟩;gi_at_call 101;(refine(CallsIn.inRound l (callsIn_wide.2 yC.out)).mono ?_);rintro e w3 ⟨rfl,Lc⟩;have y3:=(Mb Cs.out Lc).cell;have z3:=(Mb Cs.out Lc).frozen;have y1:=(Mb XM.out Lc).cell;have y2:=(Mb zK.out Lc).cell;have Zm:=Bb.below Nt.out Lc;have v0:w3.cell? ⟨Bx,0,none⟩=some (.int .i64 _):=Zm.cell 0;have v1:w3.cell? ⟨Bx,1,none⟩=some (.string nm):=Zm.cell 1;have v3:w3.cell? ⟨Bx,3,none⟩=some (.int .i64 n):=Zm.cell 3;have zC:=da Zm;have di:=da (HB.out.trans (Lc.mono HB.out.size));have Ym:=Lc.size;clear Zm);exact⟨((Bg Lc).trans (KeepsOthers.setCell _ _ _)).from _,rfl,⟨10,pa,HE.out,(Mb Cs.out Lc).set _⟩,(HB.out.trans (Lc.mono HB.out.size)).setCell (p:=⟨w.heap.size+1+1+1,0,none⟩) (by simp;omega) _⟩
          . have d1:decide (n<0)=false:=Ia g1
            by_cases g2:1000000<n
            . have d2:decide (1000000<n)=true:=Ma g2
              have HE:=da (JZ.out 10 (by rw[EA.out,if_pos ⟨rfl,.inr g2⟩]) pa);clear g1 g2;gi_wp2_with (refine⟨trivial,?_⟩;gi_at_call 101;(refine(CallsIn.inRound l (callsIn_wide.2 yC.out)).mono ?_);rintro e w3 ⟨rfl,Lc⟩;have y3:=(Mb Cs.out Lc).cell;have z3:=(Mb Cs.out Lc).frozen;have y1:=(Mb XM.out Lc).cell;have y2:=(Mb zK.out Lc).cell;have Zm:=Bb.below Nt.out Lc;have v0:w3.cell? ⟨Bx,0,none⟩=some (.int .i64 _):=Zm.cell 0;have v1:w3.cell? ⟨Bx,1,none⟩=some (.string nm):=Zm.cell 1;have v3:w3.cell? ⟨Bx,3,none⟩=some (.int .i64 n):=Zm.cell 3;have zC:=da Zm;have di:=da (HB.out.trans (Lc.mono HB.out.size));have Ym:=Lc.size;clear Zm);exact⟨((Bg Lc).trans (KeepsOthers.setCell _ _ _)).from _,rfl,⟨10,pa,HE.out,(Mb Cs.out Lc).set _⟩,(HB.out.trans (Lc.mono HB.out.size)).setCell (p:=⟨w.heap.size+1+1+1,0,none⟩) (by simp;omega) _⟩
            . have d2:decide (1000000<n)=false:=Ia g2
              rw[Aa ia]at EA;by_cases g3:tg d nm<0
              . have d3:decide (tg d nm<0)=true:=Ma g3
                have HE:=da (JZ.out 7 (by rw[EA.out,if_pos (.inl ⟨rfl,g3⟩)]) pa);clear g1 g2 g3;gi_wp2_with (first | (refine⟨trivial,?_⟩;gi_at_call 101;(refine(CallsIn.inRound l (callsIn_wide.2 yC.out)).mono ?_);rintro e w3 ⟨rfl,Lc⟩;have y3:=(Mb Cs.out Lc).cell;have z3:=(Mb Cs.out Lc).frozen;have y1:=(Mb XM.out Lc).cell;have y2:=(Mb zK.out Lc).cell;have Zm:=Bb.below Nt.out Lc;have v0:w3.cell? ⟨Bx,0,none⟩=some (.int .i64 _):=Zm.cell 0;have v1:w3.cell? ⟨Bx,1,none⟩=some (.string nm):=Zm.cell 1;have v3:w3.cell? ⟨Bx,3,none⟩=some (.int .i64 n):=Zm.cell 3;have zC:=da Zm;have di:=da (HB.out.trans (Lc.mono HB.out.size));have Ym:=Lc.size;clear Zm) | (refine⟨trivial,?_⟩;gi_at_call 59;(refine(CallsIn.inRound l (callsIn_wide.2 (FA d nm _ w3 B ia (HD.out.below (di.out.mono hB))))).mono ?_);rintro e w4 ⟨rfl,hb4⟩;have u3:=(Mb (Mb Cs.out Lc) hb4).cell;have Y':=(Mb (Mb Cs.out Lc) hb4).frozen;have KZ:=Bb.below zC.out hb4;have uv0:w4.cell? ⟨Bx,0,none⟩=some (.int .i64 _):=KZ.cell 0;clear KZ));exact⟨(((Bg Lc).trans (Bg hb4)).trans (KeepsOthers.setCell _ _ _)).from _,rfl,⟨7,pa,HE.out,(Mb (Mb Cs.out Lc) hb4).set _⟩,(di.out.trans (hb4.mono di.out.size)).setCell (p:=⟨w.heap.size+1+1+1,0,none⟩) (by simp;omega) _⟩
              . have d3:decide (tg d nm<0)=false:=Ia g3
                have HE:=da (V'.out (by rw[EA.out,Aa ia]));clear g1 g2 g3;gi_wp2_with (first | (refine⟨trivial,?_⟩;gi_at_call 101;(refine(CallsIn.inRound l (callsIn_wide.2 yC.out)).mono ?_);rintro e w3 ⟨rfl,Lc⟩;have y3:=(Mb Cs.out Lc).cell;have z3:=(Mb Cs.out Lc).frozen;have y1:=(Mb XM.out Lc).cell;have y2:=(Mb zK.out Lc).cell;have Zm:=Bb.below Nt.out Lc;have v0:w3.cell? ⟨Bx,0,none⟩=some (.int .i64 _):=Zm.cell 0;have v1:w3.cell? ⟨Bx,1,none⟩=some (.string nm):=Zm.cell 1;have v3:w3.cell? ⟨Bx,3,none⟩=some (.int .i64 n):=Zm.cell 3;have zC:=da Zm;have di:=da (HB.out.trans (Lc.mono HB.out.size));have Ym:=Lc.size;clear Zm) | (refine⟨trivial,?_⟩;gi_at_call 59;(refine(CallsIn.inRound l (callsIn_wide.2 (FA d nm _ w3 B ia (HD.out.below (di.out.mono hB))))).mono ?_);rintro e w4 ⟨rfl,hb4⟩;have u3:=(Mb (Mb Cs.out Lc) hb4).cell;have Y':=(Mb (Mb Cs.out Lc) hb4).frozen;have KZ:=Bb.below zC.out hb4;have uv0:w4.cell? ⟨Bx,0,none⟩=some (.int .i64 _):=KZ.cell 0;clear KZ));refine⟨fun _ h=>(by cases h),?_⟩;gi_wp2;exact⟨((Bg Lc).trans (Bg hb4)).from _,lg.t (lg.below Lc) (lg.below hb4),⟨Mb (Mb XM.out Lc) hb4,Mb (Mb zK.out Lc) hb4,Mb (Mb Cs.out Lc) hb4⟩,⟨di.out.trans (hb4.mono di.out.size),Wa hZ (Wa Lc.size hb4.size)⟩,HE.out⟩
        . have p3:(op==3)=false:=by simpa using o3
          rw[Aa (by simp[o3])]at EA;by_cases o4:op=4
          . subst o4
            cases hkn:kn nm with| false=>{have HE:=da (JZ.out 7 (by rw[EA.out,if_pos (.inr ⟨rfl,hkn⟩)]) pa);clear o3;gi_wp2_with (refine⟨trivial,?_⟩;gi_at_call 101;(refine(CallsIn.inRound l (callsIn_wide.2 yC.out)).mono ?_);rintro e w3 ⟨rfl,Lc⟩;have y3:=(Mb Cs.out Lc).cell;have z3:=(Mb Cs.out Lc).frozen;have y1:=(Mb XM.out Lc).cell;have y2:=(Mb zK.out Lc).cell;have Zm:=Bb.below Nt.out Lc;have v0:w3.cell? ⟨Bx,0,none⟩=some (.int .i64 _):=Zm.cell 0;have v1:w3.cell? ⟨Bx,1,none⟩=some (.string nm):=Zm.cell 1;have v3:w3.cell? ⟨Bx,3,none⟩=some (.int .i64 n):=Zm.cell 3;have zC:=da Zm;have di:=da (HB.out.trans (Lc.mono HB.out.size));have Ym:=Lc.size;clear Zm);refine⟨trivial,?_⟩;gi_wp2_with (refine⟨trivial,?_⟩;gi_at_fn g;(refine(CallsIn.inRound l (callsIn_wide.2 (HKN.out w3 nm di.out hnm))).mono ?_);rintro e w4 ⟨rfl,hb4⟩;have u3:=(Mb (Mb Cs.out Lc) hb4).cell;have Y':=(Mb (Mb Cs.out Lc) hb4).frozen);exact⟨(((Bg Lc).trans (Bg hb4)).trans (KeepsOthers.setCell _ _ _)).from _,rfl,⟨7,pa,HE.out,(Mb (Mb Cs.out Lc) hb4).set _⟩,(di.out.trans (hb4.mono di.out.size)).setCell (p:=⟨w.heap.size+1+1+1,0,none⟩) (by simp;omega) _⟩}| true=>{have HE:=da (V'.out (by rw[EA.out,Aa (by simp[hkn])]));clear o3;gi_wp2_with (refine⟨trivial,?_⟩;gi_at_call 101;(refine(CallsIn.inRound l (callsIn_wide.2 yC.out)).mono ?_);rintro e w3 ⟨rfl,Lc⟩;have y3:=(Mb Cs.out Lc).cell;have z3:=(Mb Cs.out Lc).frozen;have y1:=(Mb XM.out Lc).cell;have y2:=(Mb zK.out Lc).cell;have Zm:=Bb.below Nt.out Lc;have v0:w3.cell? ⟨Bx,0,none⟩=some (.int .i64 _):=Zm.cell 0;have v1:w3.cell? ⟨Bx,1,none⟩=some (.string nm):=Zm.cell 1;have v3:w3.cell? ⟨Bx,3,none⟩=some (.int .i64 n):=Zm.cell 3;have zC:=da Zm;have di:=da (HB.out.trans (Lc.mono HB.out.size));have Ym:=Lc.size;clear Zm);refine⟨trivial,?_⟩;gi_wp2_with (refine⟨trivial,?_⟩;gi_at_fn g;(refine(CallsIn.inRound l (callsIn_wide.2 (HKN.out w3 nm di.out hnm))).mono ?_);rintro e w4 ⟨rfl,hb4⟩;have u3:=(Mb (Mb Cs.out Lc) hb4).cell;have Y':=(Mb (Mb Cs.out Lc) hb4).frozen);exact⟨((Bg Lc).trans (Bg hb4)).from _,lg.t (lg.below Lc) (lg.below hb4),⟨Mb (Mb XM.out Lc) hb4,Mb (Mb zK.out Lc) hb4,Mb (Mb Cs.out Lc) hb4⟩,⟨di.out.trans (hb4.mono di.out.size),Wa hZ (Wa Lc.size hb4.size)⟩,HE.out⟩}
          . have p4:(op==4)=false:=by simpa using o4
            have HE:=da (V'.out (by rw[EA.out,Aa (by simp[o3,o4])]));clear o3 o4;gi_wp2_with (refine⟨trivial,?_⟩;gi_at_call 101;(refine(CallsIn.inRound l (callsIn_wide.2 yC.out)).mono ?_);rintro e w3 ⟨rfl,Lc⟩;have y3:=(Mb Cs.out Lc).cell;have z3:=(Mb Cs.out Lc).frozen;have y1:=(Mb XM.out Lc).cell;have y2:=(Mb zK.out Lc).cell;have Zm:=Bb.below Nt.out Lc;have v0:w3.cell? ⟨Bx,0,none⟩=some (.int .i64 _):=Zm.cell 0;have v1:w3.cell? ⟨Bx,1,none⟩=some (.string nm):=Zm.cell 1;have v3:w3.cell? ⟨Bx,3,none⟩=some (.int .i64 n):=Zm.cell 3;have zC:=da Zm;have di:=da (HB.out.trans (Lc.mono HB.out.size));have Ym:=Lc.size;clear Zm);refine⟨trivial,?_⟩;gi_wp2;refine⟨fun _ h=>(by cases h),?_⟩;gi_wp2;exact⟨(Bg Lc).from _,lg.below Lc,⟨Mb XM.out Lc,Mb zK.out Lc,Mb Cs.out Lc⟩,⟨HB.out.trans (Lc.mono HB.out.size),Wa hZ Lc.size⟩,HE.out⟩
    case done=>(rintro D xs W hD hS ⟨⟨q1,q2,q3⟩,⟨hB',hZ⟩,hp⟩ hK;have HE:Hid (Qe f d kn=0):=by{show _=_;rw[HR.out, <-hS];exact Bs d kn _ fun y hy=>by obtain⟨x,hx,rfl⟩:=List.mem_map.1 hy;exact hp x hx};have c3:=q3.cell;have z3:=q3.frozen;have HQ:=da q3;have LZ:=(KeepsOthers.setCell W ⟨w.heap.size+1+1+1,0,none⟩ (.int .i64 0)).same D _ hK rfl;have HP:=da (q3.set (.int .i64 0));have BC:=da LZ;have HB:=da hB';clear LZ hK hp hS hB' q1 q2 q3;gi_wp2;refine⟨la,.inl ⟨_,_,rfl,run_takeDeferred BC.out,?_⟩⟩;(have hne:∀ {B:Nat} {t:TypeId} {v:Value} {X:World} (_:X.heap[D]? =some (.deferred (some []))),Boxed X B t v->some B≠some D:=fun hX h e=>by{cases e;rw[show _=_ from h]at hX;cases hX});have l0:=(HP.out.kept (grownBy_putObj' _ D (.deferred none)) (hne BC.out HP.out)).cell;refine⟨_,od (v:=.int .i64 0) rfl _ _ _ rfl (by go_simp),by rw[HE.out],?_⟩;exact(HB.out.setCell (p:=⟨w.heap.size+1+1+1,0,none⟩) (by simp;omega) _).trans (belowK_b (w:=w) (ja _) _ D _ _ (by simp at hD;have:=HW2.out.size;omega) BC.out rfl rfl))
    case stop=>(rintro D c pre W hD hS ⟨rfl,⟨er,h2,h3,h4⟩,h6⟩ hK;gi_wp2;refine⟨la,.inl ⟨_,_,rfl,run_takeDeferred hK,?_⟩⟩;(have hne:∀ {B:Nat} {t:TypeId} {v:Value},Boxed W B t v->some B≠some D:=fun h e=>by{cases e;rw[show W.heap[_]? =_ from h]at hK;cases hK});have l0:=(h4.kept (grownBy_putObj' W D (.deferred none)) (hne h4)).cell;have HE:Qe f d kn=er:=by{obtain⟨r,hr⟩:=hS;rw[HR.out, <-hr,Pt _ _ _ _ (by rw[h3];exact h2),h3]};refine⟨_,od (v:=.int .i64 er) rfl _ _ _ rfl (by go_simp),by rw[HE],?_⟩;exact h6.trans (belowK_b (w:=w) (ja _) W D _ _ (by simp at hD;have:=HW2.out.size;omega) hK rfl rfl))
end
end Go.Proofs.YtejbgoigkefnfaaGreatDoor
