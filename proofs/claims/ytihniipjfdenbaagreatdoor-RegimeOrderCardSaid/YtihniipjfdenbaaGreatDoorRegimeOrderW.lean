/- law33.RegimeOrder: plain core, walks. No program in the core. No conditions. -/
import Derived.Test.YtihniipjfdenbaaGreatDoorRgOA
import Derived.Test.YtihniipjfdenbaaGreatDoorDgCl
import Derived.Test.YtihniipjfdenbaaGreatDoorRgZA
namespace Go.Proofs.YtihniipjfdenbaaGreatDoor
variable {d : List Fa}
theorem cell_sub (hd:DomOk d){f g:Fo}(hw:WfF d f)(hs:∀t∈testsF f,t∈testsF g):CellF d.length (flo d) (fhi d) (ssF d g) (fun c=>valC d c f):=by
 have hst:∀i,i<d.length->chainI (fhi d i) (flo d i) (ssF d g i)/\ ∀x,x∈flo d i::ssF d g i↔(flo d i<=x/\ x<=fhi d i)/\ (x=flo d i\/x∈numsF (fnm d i) g):=fun i hi=>by{obtain⟨ss,e1,e2,e3⟩:=starts_law (fnm d i) (hd.lohi i hi).2.1 g;have e:ssF d g i=ss:=by{have:=ssF_eq hd g hi;unfold stD at this;rw[e1]at this;exact(List.cons.inj this).2.symm};rw[e];exact⟨e2,e3⟩}
 refine⟨fun i hi=>(hst i hi).1,fun c c' fc fc' h=>?_⟩;refine val_tests f.size f (Nat.le_refl _) hw fun t ht=>?_
 obtain⟨k,hk,hkd⟩:=test_fact f.size f (Nat.le_refl _) hw t ht;rw[hk,Int.toNat_natCast];have hnm:=idx_name hk hkd;obtain⟨hch,hmem⟩:=hst k hkd
 have key:∀v u:Int,flo d k<=v->u<=fhi d k->v<=u->nextI (ssF d g k) v=nextI (ssF d g k) u->cmpB v t.2.1 t.2.2=cmpB u t.2.1 t.2.2:=by{intro v u h1 h2 h3 h4;have hno:∀n,n=t.2.2\/n=t.2.2+1->¬(v<n/\ n<=u):=by{intro n hn ⟨q1,q2⟩;have hin:n∈flo d k::ssF d g k:=(hmem n).2 ⟨⟨by omega,by omega⟩,.inr ((nums_mem _ g n).2 ⟨t,hs t ht,hnm.symm,hn⟩)⟩;(rcases List.mem_cons.1 hin with rfl | hin);{omega};{have:=next_sep _ _ v u n hch hin q1 q2;omega}};exact cmp_between (hno _ (.inl rfl)) (hno _ (.inr rfl)) h3}
 rcases Int.le_total (c k) (c' k)with q | q
 {exact key _ _ (fc k hkd).1 (fc' k hkd).2 q (h k hkd)}
 {exact(key _ _ (fc' k hkd).1 (fc k hkd).2 q (h k hkd).symm).symm}
theorem stn_sub (hd:DomOk d){f g:Fo}(hs:∀t∈testsF f,t∈testsF g){i:Nat}(hi:i<d.length):stN d f i<=stN d g i:=by
 have hlh:=(hd.lohi i hi).2.1;obtain⟨s1,e1,c1,m1⟩:=starts_law (fnm d i) hlh f;obtain⟨s2,e2,_,m2⟩:=starts_law (fnm d i) hlh g;unfold stN stD;rw[e1,e2];refine List.Nodup.length_le_of_subset (List.nodup_iff_pairwise_ne.2 ((chain_pair _ _ c1).imp fun h=>by omega)) fun x hx=>?_
 obtain⟨h1,h2⟩:=(m1 x).1 hx;refine(m2 x).2 ⟨h1,h2.imp id fun h2=>?_⟩;obtain⟨t,ht,h⟩:=(nums_mem _ f x).1 h2;exact(nums_mem _ g x).2 ⟨t,hs t ht,h⟩
theorem prod_mono {a b:Nat->Nat}:∀n,(∀i,i<n->a i<=b i)->prodF a n<=prodF b n
 | 0,_=>Nat.le_refl _
 | n+1,h=>by{rw[prodF,prodF];exact Nat.mul_le_mul (prod_mono n fun i hi=>h i (by omega)) (h n (by omega))}
theorem cells_sub (hd:DomOk d){f g:Fo}(hs:∀t∈testsF f,t∈testsF g):cellsD d f<=cellsD d g:=prod_mono _ fun _ hi=>stn_sub hd hs hi
structure DgS (d : List Fa) (g : Fo) (t : List Dn) (F : (Nat -> Int) -> Bool) : Prop where
 valid:ValidG d t
 means:∀c,fitsC d.length (flo d) (fhi d) c->readG d t 0 c=F c
 cell:CellF d.length (flo d) (fhi d) (ssF d g) F
variable {g : Fo}
theorem DgS.not {t:List Dn}{F:(Nat->Int)->Bool}(h:DgS d g t F):DgS d g (notD t) (fun c=> !F c):=by
 obtain⟨h1,h2⟩:=not_valid h.valid;exact⟨h1,fun c fc=>by rw[h2 c fc,h.means c fc],h.cell.not⟩
theorem DgS.and (hd:DomOk d)(hg:cellsD d g<=400){t u:List Dn}{F G:(Nat->Int)->Bool}(h:DgS d g t F)(k:DgS d g u G):(andX d t u).2=0/\ DgS d g (andX d t u).1 (fun c=>F c&& G c):=by
 have hp:prodF (nS (ssF d g)) d.length<=400:=by rw[ssF_prod hd g _ (Nat.le_refl _)];exact hg
 have hb:=andB_cells h.valid k.valid h.cell k.cell hp hp h.means k.means;have e:=andX_okay hb;obtain⟨h1,h2⟩:=and_valid hb;rw[e];exact⟨rfl,h1,fun c fc=>by rw[h2 c fc,h.means c fc,k.means c fc],h.cell.chain,fun c c' fc fc' q=>by rw[h.cell.same c c' fc fc' q,k.cell.same c c' fc fc' q]⟩
theorem build_sub (hv:validD d=true)(hl:d.length<=24)(hg:cellsD d g<=400){f:Fo}(hc:checkF f d (fun _=>false)=0)(hs:∀t∈testsF f,t∈testsF g):(buildX d f).2=0/\ DgS d g (buildX d f).1 (fun c=>valC d c f):=by
 have hd:=dom_ok hv;have hw:=wf_check hc;have hb:=built hd hw (Nat.le_trans (cells_sub hd hs) (Nat.le_trans hg (by decide)))
 have ht:¬24<(tstF f []).length:=by{have:=tst_len (tst_ok d f.size f (Nat.le_refl _) hw [] ⟨by simp,fun p hp=>by cases hp⟩);omega}
 have e:buildX d f=(tableB d f,0):=by{rw[buildX_built hv hc hb];unfold buildD;rw[if_neg (by rw[hv,hc];simp),if_neg ht]}
 rw[e];exact⟨rfl,built_valid hv hw hb,fun c fc=>built_means hv hw hb fc,cell_sub hd hw hs⟩
theorem check_trueF (d:List Fa):checkF trueF d (fun _=>false)=0:=by kernel_rfl
theorem stepN_few (hv:validD d=true)(hl:d.length<=24)(hg:cellsD d g<=400):∀(fs:List Fo) (st:List Dn×Int),(∀f∈fs,checkF f d (fun _=>false)=0/\ ∀t∈testsF f,t∈testsF g)->st.2=0->(∃F,DgS d g st.1 F)->(fs.foldl (stpN d) st).2=0/\ ∃F,DgS d g (fs.foldl (stpN d) st).1 F
 | [],st,_,h,k=>⟨h,k⟩
 | f::fs,st,hf,h,⟨F,k⟩=>by{rw[List.foldl_cons];obtain⟨b1,b2⟩:=build_sub hv hl hg (hf f (List.mem_cons_self ..)).1 (hf f (List.mem_cons_self ..)).2;obtain⟨a1,a2⟩:=k.and (dom_ok hv) hg b2.not;(have e:stpN d st f=andX d st.1 (notD (buildX d f).1):=by unfold stpN;rw[if_pos h,if_pos b1]);exact stepN_few hv hl hg fs _ (fun x hx=>hf x (List.mem_cons_of_mem _ hx)) (by rw[e];exact a1) (by rw[e];exact⟨_,a2⟩)}
theorem noneX_few (hv:validD d=true)(hl:d.length<=24)(hg:cellsD d g<=400){fs:List Fo}(hf:∀f∈fs,checkF f d (fun _=>false)=0/\ ∀t∈testsF f,t∈testsF g):(noneX d 0 fs).2=0/\ ∃F,DgS d g (noneX d 0 fs).1 F:=by
 obtain⟨b1,b2⟩:=build_sub (g:=g) hv hl hg (check_trueF d) (by intro t ht;simp[trueF,testsF,testsL]at ht);unfold noneX;rw[if_pos rfl];exact stepN_few hv hl hg fs _ hf b1 ⟨_,b2⟩
theorem bothX_few (hv:validD d=true)(hl:d.length<=24)(hg:cellsD d g<=400){R:List Chg}(hf:∀x∈R,checkF x.cond d (fun _=>false)=0/\ ∀t∈testsF x.cond,t∈testsF g):(bothX d R).2=0:=by
 have hm:∀(p:Chg->Bool),∀f∈(R.filter p).map (·.cond),checkF f d (fun _=>false)=0/\ ∀t∈testsF f,t∈testsF g:=fun p f hf'=>by{obtain⟨x,hx,rfl⟩:=List.mem_map.1 hf';exact hf x (List.mem_filter.1 hx).1}
 have g1:=noneX_few hv hl hg (fs:=R.map (·.cond)) (fun f hf'=>by obtain⟨x,hx,rfl⟩:=List.mem_map.1 hf';exact hf x hx);have s1:=noneX_few hv hl hg (hm (·.keep));have l1:=noneX_few hv hl hg (hm (!·.keep));have es:stayX d R=noneX d 0 ((R.filter (·.keep)).map (·.cond)):=by unfold stayX gapX;rw[g1.1]
 have el:leaveX d R=noneX d 0 ((R.filter (!·.keep)).map (·.cond)):=by unfold leaveX;rw[es,s1.1]
 obtain⟨s2,F,s3⟩:=s1;obtain⟨l2,G,l3⟩:=l1;unfold bothX;rw[el,es,if_pos l2];exact(s3.not.and (dom_ok hv) hg l3.not).1
def orF (fs:List Fo):Fo:=.mk 7 nilB 0 0 fs
def allF :List Fo->Fo
 | [f]=>f
 | fs=>orF fs
theorem tests_all (fs:List Fo):testsF (orF fs)=testsF (allF fs):=by
 match fs with| []=>rfl| [f]=>simp[allF,orF,testsF,testsL]| _::_::_=>rfl
theorem tests_in {fs:List Fo}{f:Fo}(h:f∈fs):∀t∈testsF f,t∈testsF (allF fs):=fun t ht=>by
 rw[<-tests_all];unfold orF;rw[testsF,List.mem_append,testsL_mem];exact .inr ⟨f,h,ht⟩
theorem wf_all {fs:List Fo}(h:∀f∈fs,WfF d f)(hn:fs≠[]):WfF d (allF fs):=by
 match fs,hn with| [f],_=>exact h f (List.mem_cons_self ..)| f::f'::fs,_=>{show WfF d (.mk 7 nilB 0 0 (f::f'::fs));rw[WfF];exact .inr (.inr ⟨.inr ⟨.inr rfl,by simp⟩,rfl,rfl,rfl,(WfL_iff d _).2 h⟩)}
theorem cellsG_congr {f g:Fo}(h:testsF f=testsF g)(n:Int):∀(e:List Fa) (out:Int),cellsG f n e out=cellsG g n e out
 | [],_=>rfl
 | x::e,out=>by{(have:stG x f=stG x g:=by unfold stG;rw[h]);rw[cellsG,cellsG,this,cellsG_congr h n e]}
theorem all_cells (hv:validD d=true){fs:List Fo}(h:∀f∈fs,WfF d f)(hn:fs≠[])(hc:cellsG (orF fs) 400 d 1<=400):cellsD d (allF fs)<=400:=by
 refine small_cells (dom_ok hv) (wf_all h hn) (n:=400) ?_
 show cellsG (allF fs) 400 d 1<=400
 rw[<-cellsG_congr (tests_all fs) 400];exact hc
theorem anaL_zero {l:List Chg}:∀(ks:List Key) (out:List Fnd),(∀k∈ks,(bothX d (stepR l k)).2=0)->anaL d l ks out=(out++ks.flatMap (fun k=>findK d k (stepR l k)),0)
 | [],out,_=>by simp[anaL]
 | k::ks,out,h=>by{rw[anaL,if_pos (h k (List.mem_cons_self ..)),anaL_zero ks _ fun x hx=>h x (List.mem_cons_of_mem _ hx),List.flatMap_cons,List.append_assoc]}
theorem step_rev (l:List Chg)(k:Key):stepR l.reverse k=(stepR l k).reverse:=by unfold stepR;rw[List.filter_reverse]
theorem hold_rev (d:List Fa)(c:List Int)(l:List Chg):holdR d c l.reverse=(holdR d c l).reverse:=by unfold holdR;rw[List.filter_reverse]
theorem keys_rev (l:List Chg):keysD l.reverse=keysD l:=keys_unique (keys_of _).order (keys_of _).order fun k=>by
 rw[(keys_of _).mem,(keys_of _).mem];simp
theorem proper_rev (l:List Chg):properC d l.reverse=properC d l:=by
 rw[Bool.eq_iff_iff,properC_iff,properC_iff];constructor
 {rintro⟨h1,h2,h3,h4⟩;exact⟨h1,by simpa using h2,fun c hc=>h3 c (by simpa using hc),(List.pairwise_reverse.1 h4).imp fun h e=>h e.symm⟩}
 {rintro⟨h1,h2,h3,h4⟩;exact⟨h1,by simpa using h2,fun c hc=>h3 c (by simpa using hc),List.pairwise_reverse.2 (h4.imp fun h e=>h e.symm)⟩}
theorem eq_read {a b:List Dn}(ha:ValidG d a)(hb:ValidG d b)(h:∀c,fitsC d.length (flo d) (fhi d) c->(readG d a 0 c=true↔readG d b 0 c=true)):a=b:=valid_same ha hb fun c fc=>Bool.eq_iff_iff.2 (h c fc)
theorem ana_rev {R:List Chg}(h:(bothX d R).2=0)(h':(bothX d R.reverse).2=0):(gapX d R.reverse).1=(gapX d R).1/\ (bothX d R.reverse).1=(bothX d R).1:=by
 have a:=ana_ok h;have b:=ana_ok h';exact⟨eq_read b.gap a.gap fun c fc=>by rw[b.gapR c fc,a.gapR c fc];simp,eq_read b.both a.both fun c fc=>by rw[b.bothR c fc,a.bothR c fc];simp⟩
def sigF (f:Fnd):Int×ByteArray×Int×List Int×Nat:=(f.kind,f.question,f.day,f.cse,f.ids.length)
theorem rep_sig {g:List Dn}{a b:List Int->Fnd}(h:∀c,sigF (a c)=sigF (b c)):(repG d g a).map sigF=(repG d g b).map sigF:=by
 unfold repG;cases leastG d g with| none=>rfl| some c=>exact congrArg (fun x=>[x]) (h c)
theorem find_rev {k:Key}{R:List Chg}(h:(bothX d R).2=0)(h':(bothX d R.reverse).2=0):(findK d k R.reverse).map sigF=(findK d k R).map sigF:=by
 obtain⟨e1,e2⟩:=ana_rev h h';unfold findK;rw[e1,e2,List.map_append,List.map_append];congr 1
 {exact rep_sig fun c=>by unfold sigF gapF;simp}
 {exact rep_sig fun c=>by unfold sigF overF;simp[hold_rev]}
theorem map_flat {α β γ:Type}(f:β->γ)(g h:α->List β):∀l:List α,(∀x∈l,(g x).map f=(h x).map f)->(l.flatMap g).map f=(l.flatMap h).map f
 | [],_=>rfl
 | x::l,e=>by{rw[List.flatMap_cons,List.flatMap_cons,List.map_append,List.map_append,e x (List.mem_cons_self ..),map_flat f g h l fun y hy=>e y (List.mem_cons_of_mem _ hy)]}
theorem rev_law {l:List Chg}(hl:d.length<=24)(hc:cellsG (orF (l.map (·.cond))) 400 d 1<=400):(anaD d l.reverse).2=(anaD d l).2/\ (anaD d l.reverse).1.map sigF=(anaD d l).1.map sigF:=by
 unfold anaD anaA;rw[proper_rev,keys_rev];by_cases hp:properC d l=true
 ·rw[if_pos hp,if_pos hp]
  have hP:=properC_iff.1 hp
  have hb:∀k∈keysD l,(bothX d (stepR l k)).2=0/\ (bothX d (stepR l.reverse k)).2=0:=fun k hk=>by
   obtain⟨x0,hx0,_⟩:=((keys_of l).mem k).1 hk;have hn:l.map (·.cond)≠[]:=fun e=>by rw[List.map_eq_nil_iff]at e;rw[e]at hx0;cases hx0
   have hg:=all_cells hP.dom (fs:=l.map (·.cond)) (fun f hf=>by
    obtain⟨x,hx,rfl⟩:=List.mem_map.1 hf
    exact wf_check (hP.each x hx).2.2.2) hn hc
   have hin:∀x∈l,checkF x.cond d (fun _=>false)=0/\ ∀t∈testsF x.cond,t∈testsF (allF (l.map (·.cond))):=fun x hx=>⟨(hP.each x hx).2.2.2,tests_in (List.mem_map_of_mem hx)⟩
   exact⟨bothX_few hP.dom hl hg fun x hx=>hin x (step_mem.1 hx).1,bothX_few hP.dom hl hg fun x hx=>hin x (by simpa using(step_mem.1 hx).1)⟩
  rw[anaL_zero _ _ fun k hk=>(hb k hk).1,anaL_zero _ _ fun k hk=>(hb k hk).2];refine⟨rfl,?_⟩;rw[List.nil_append,List.nil_append];refine map_flat sigF _ _ _ fun k hk=>?_
  have h1:=(hb k hk).1;have h2:=(hb k hk).2;rw[step_rev]at h2⊢;exact find_rev h1 h2
 {rw[if_neg hp,if_neg hp];exact⟨rfl,rfl⟩}
end Go.Proofs.YtihniipjfdenbaaGreatDoor
namespace Go.Proofs.YtihniipjfdenbaaGreatDoor
open Go.RowKit
theorem FoA.ones (x:FoA):∀u∈x.cells,u.oneCell'=true:=fun u hu=>by
 simp only[FoA.cells,List.mem_cons,List.not_mem_nil,or_false]at hu;rcases hu with rfl | rfl | rfl | rfl | rfl<;>rfl
theorem run_append_fo (w:World)(base:Nat)(ty:TypeId)(v:Value)(xs:List FoA)(h:w.ownsRow base 47 5 v xs.length (xs.flatMap FoA.cells))(x:FoA)(ad:Addr)(c:Nat)(hn:∀j u,x.cells[j]? =some u->w.cell? (ad.add j)=some u)(h63:xs.length+1<=1000000)(hbase:base<=w.heap.size):
  ∃v' w',(Builtin.append_ #[45,45] ty #[v,.slice (some ad) 1 c]).run Tryz.prog w=.ok v' w'/\ w'.ownsRow base 47 5 v' (xs++[x]).length ((xs++[x]).flatMap FoA.cells)/\ w.grownBy w' v.ownBlock:=by
 obtain⟨i,hi,hz,hs,hb⟩:=info_parts foInfo;have hm:(1000064:Nat)<=maxLen:=by unfold maxLen;omega
 obtain⟨v',w',hr,h2,h3,_,_⟩:=run_append_own_at (P:=Tryz.prog) w base 45 ty 47 i _ 5 64 Tryz.underlying45 hi hz hs hb rfl (by decide) v xs.length _ h ad 1 c x.cells rfl hn x.ones (by omega) (by omega) hbase;refine⟨v',w',hr,?_,h3⟩;rw[List.length_append,List.flatMap_append,List.flatMap_cons,List.flatMap_nil,List.append_nil];exact h2
theorem step_append_fo {ops:Array Oper}{o:Oper}{a:Act}{w:World}{K:Act->World->Prop}{Q:Exit->Act->World->Prop}{E:Prop}(hgd:o.guard=none)(s x:Operand)
  (ho:o.op=.call {callee:=.builtin .append,args:=#[s,x],argTypes:=#[45,45]}) (base:Nat) (v:Value) (xs:List FoA) (hs:a.eval s=v) (h:w.ownsRow base 47 5 v xs.length (xs.flatMap FoA.cells)) (y:FoA) (ad:Addr) (c:Nat) (hx:a.eval x=.slice (some ad) 1 c)
  (hn:∀j u,y.cells[j]? =some u->w.cell? (ad.add j)=some u) (h63:xs.length+1<=1000000) (hbase:base<=w.heap.size) (hK:∀v' w',w'.ownsRow base 47 5 v' (xs++[y]).length ((xs++[y]).flatMap FoA.cells)->w.grownBy w' v.ownBlock->K (a.put o.dst v') w'):
  if Region.wanted o (yielded ops a.tmps)=true then Oper.wp Tryz.prog o a w K Q else E:=by
 obtain⟨v',w',hr,h2,h3⟩:=run_append_fo w base o.type v xs h y ad c hn h63 hbase;exact step_run hgd s x _ ho _ _ hs hx _ _ hr (hK v' w' h2 h3)
structure CpS (w wr : World) (B : Nat) (l : List Chg) (dc : Value) (k : Nat) (v : Value) (xs : List FoA) : Prop where
 map:xs.map (·.f)=(l.take k).map (·.cond)
 row:wr.ownsRow (w.heap.size+2) 47 5 v xs.length (xs.flatMap FoA.cells)
 ok:∀x∈xs,x.Ok wr (· <B)
 box:Blk wr (w.heap.size+1) 47 #[.int .i64 7,.string nilB,.int .i64 0,.int .i64 0,v]
 dom:Blk wr w.heap.size 25 #[dc]
 low:Below w.heap.size w wr
 size:w.heap.size+2<=wr.heap.size
section
variable {w wr W1 w8 : World} {B k : Nat} {l : List Chg} {dc v v' : Value} {xs : List FoA}
theorem CpS.len (h:CpS w wr B l dc k v xs):xs.length<=k:=by
 have e:=congrArg List.length h.map;rw[List.length_map,List.length_map,List.length_take]at e;omega
theorem CpS.far (h:CpS w wr B l dc k v xs){b:Nat}(hb:b<w.heap.size+2):some b≠v.ownBlock:=fun e=>by
 have:=(h.row.lt b e.symm).1;omega
theorem CpS.step (h:CpS w wr B l dc k v xs)(hB:B<=w.heap.size)(hk:k<l.length){x:FoA}(hx:x.f=l[k].cond)(hok:x.Ok wr (· <B))(hb:Below wr.heap.size wr W1)
  (hr:w8.ownsRow (w.heap.size+2) 47 5 v' (xs++[x]).length ((xs++[x]).flatMap FoA.cells)) (hg:W1.grownBy w8 v.ownBlock):
  Blk w8 (w.heap.size+1) 47 #[.int .i64 7,.string nilB,.int .i64 0,.int .i64 0,v]/\ CpS w (w8.setCell ⟨w.heap.size+1,4,none⟩ v') B l dc (k+1) v' (xs++[x]):=by
 have hs:=h.size;have h1:=hb.size;have h8:=hg.size;have hbox:Blk w8 (w.heap.size+1) 47 #[.int .i64 7,.string nilB,.int .i64 0,.int .i64 0,v]:=(h.box.below hb).grown hg (h.far (by omega));have hdom:Blk w8 w.heap.size 25 #[dc]:=(h.dom.below hb).grown hg (h.far (by omega))
 have hsame:Same (· <B) wr (w8.setCell ⟨w.heap.size+1,4,none⟩ v'):=fun b hbB=>by{have hbB:b<B:=hbB;rw[heap_setCell_other w8 ⟨w.heap.size+1,4,none⟩ b v' (by show b≠w.heap.size+1;omega),hg.block b (by omega) (h.far (by omega)),hb.block b (by omega)]}
 refine⟨hbox,?_,own_setX hr (by omega) 4 v',fun y hy=>?_,hbox.set 4 v',blk_else hdom (by omega) 4 v',?_,by rw[World.size_setCell];omega⟩
 {rw[List.map_append,h.map,List.take_succ_eq_append_getElem hk,List.map_append,List.map_cons,List.map_nil,hx];rfl}
 {(rcases List.mem_append.1 hy with hy | hy);{exact(h.ok y hy).step hsame fun _ q=>q};{(have:y=x:=by simpa using hy);subst this;exact hok.step hsame fun _ q=>q}}
 {have q:Below w.heap.size w w8:=(h.low.trans (hb.mono (by omega))).grown hg (by omega) (fun g e=>by have:=(h.row.lt g e).1;omega);exact q.setCell (p:=⟨w.heap.size+1,4,none⟩) (by show w.heap.size<=w.heap.size+1;omega) v'}
theorem sizeL_le :∀(ks:List Fo) (m:Nat),(∀f∈ks,f.size<=m)->Fo.sizeL ks<=ks.length*m
 | [],_,_=>by rw[Fo.sizeL];omega
 | f::ks,m,h=>by{rw[Fo.sizeL,List.length_cons,Nat.succ_mul];have:=h f (List.mem_cons_self ..);(have:=sizeL_le ks m fun g hg=>h g (List.mem_cons_of_mem _ hg));omega}
end
set_option maxRecDepth 100000 in
set_option maxHeartbeats 4000000 in
theorem cheap33_any (l:List Chg)(d:List Fa)(v u:Value)(w:World)(B:Nat)(hB:B<=w.heap.size)(hn:l.length<=60)(hl:SlIn ChR 9 w B l v)(hd:DomIn w B d u)(hsz:∀p∈l,p.cond.size<=1000):
  Calls Tryz.prog 11 #[v,u] w fun e w'=>e=.returned (.bool (decide (cellsG (orF (l.map (·.cond))) 400 d 1<=400)))/\ Below w.heap.size w w':=by
 obtain⟨u0,rfl,hd1⟩:=hd;obtain⟨ad,cd,rfl,_⟩:=SlIn.shape hd1;obtain⟨ap,cp,rfl,p1,p2,_⟩:=SlIn.shape hl;have HP:=Lib.hid hl;have HDM:Hid (DomIn w B d (.agg #[.slice ad d.length cd])):=⟨_,rfl,hd1⟩
 have HSI:Hid ((orF (l.map (·.cond))).size<=100000):=by{show _<=_;unfold orF;rw[Fo.size];have:=sizeL_le (l.map (·.cond)) 1000 (fun f hf=>by obtain⟨x,hx,rfl⟩:=List.mem_map.1 hf;exact hsz x hx);rw[List.length_map]at this;omega}
 have HI0:Hid (CpS w ((w.alloc (.cells #[.slice ad d.length cd] 25)).alloc (.cells #[.int .i64 7,.string nilB,.int .i64 0,.int .i64 0,.slice none 0 0] 47)) B l (.slice ad d.length cd) 0 (.slice none 0 0) []):=by{have q:=Blk.new (w.alloc (.cells #[.slice ad d.length cd] 25)) 47 #[.int .i64 7,.string nilB,.int .i64 0,.int .i64 0,.slice none 0 0];rw[World.size_alloc]at q;exact⟨rfl,World.ownsRow_nil _ _ _ _,fun x hx=>(by cases hx),q,(Blk.new w _ _).alloc _,((Below.refl _ _).alloc (Nat.le_refl _) _).alloc (by simp) _,by simp⟩}
 obtain⟨R,hR⟩:∃R,cellsG (orF (l.map (·.cond))) 400 d 1=R:=⟨_,rfl⟩;rw[hR];have HRR:=Lib.hid hR;clear hd1 hl hsz hR;go_enter Tryz.func11,Tryz.ntmps11;go_upto_region 2 with(fail);go_wp2
 go_loopw [6] (fun iv wr=>∃(k:Nat) (v:Value) (xs:List FoA),k<=l.length/\ iv=.int .i64 k/\ Hid (CpS w wr B l (.slice ad d.length cd) k v xs)) (fun iv _=>l.length-(intOf iv).toNat)
 case atStart=>exact⟨0,_,_,Nat.zero_le _,rfl,HI0⟩
 case round=>
  obtain⟨k,v,xs,hk,rfl,HC⟩:=hrel;clear HI0;obtain⟨va,vc,rfl⟩:=own_len HC.out.row;have HLEN:=Lib.hid HC.out.len;by_cases hlt:k<l.length
  ·obtain⟨b,off,rfl,hbB,ak,ck,hr,hf,hs1,hs2,hdy⟩:=SlIn.at (HP.out.below ChR.kept (HC.out.low.mono hB)) k hlt
   have HS0:Hid (∀(W1 w8:World) (v':Value) (x:FoA),x.f=l[k].cond->x.Ok wr (· <B)->Below wr.heap.size wr W1->w8.ownsRow (w.heap.size+2) 47 5 v' (xs++[x]).length ((xs++[x]).flatMap FoA.cells)->W1.grownBy w8 (Value.slice va xs.length vc).ownBlock->
     Blk w8 (w.heap.size+1) 47 #[.int .i64 7,.string nilB,.int .i64 0,.int .i64 0,.slice va xs.length vc]/\ CpS w (w8.setCell ⟨w.heap.size+1,4,none⟩ v') B l (.slice ad d.length cd) (k+1) v' (xs++[x])):=fun W1 w8 v' x h1 h2 h3 h4 h5=>HC.out.step hB hlt h1 h2 h3 h4 h5
   generalize l[k]=x at*
   have hbw:b<wr.heap.size:=by have:=HC.out.size;omega
   have HSZ:=Lib.hid HC.out.size
   have HSK:Hid (∀w',Hid (Below wr.heap.size wr w')->(fun w':World=>w'.cell? ⟨w.heap.size+1,4,none⟩=some (.slice va xs.length vc)/\ w'.cell? ⟨b,off+k*9+2,none⟩=some (.int .i64 x.cond.op)/\ w'.cell? ⟨b,off+k*9+3,none⟩=some (.string x.cond.name)/\ w'.cell? ⟨b,off+k*9+4,none⟩=some (.int .i64 x.cond.cmp)/\ w'.cell? ⟨b,off+k*9+5,none⟩=some (.int .i64 x.cond.n)/\ w'.cell? ⟨b,off+k*9+6,none⟩=some (.slice ak x.cond.kids.length ck)) w'):=fun w' hb=>by{(have q:=fun o=>hb.out.cell (p:=⟨b,o,none⟩) hbw);exact⟨(HC.out.box.below hb.out).cell 4,(q _).trans (hr 2 _ rfl),(q _).trans (hr 3 _ rfl),(q _).trans (hr 4 _ rfl),(q _).trans (hr 5 _ rfl),(q _).trans (hr 6 _ rfl)⟩}
   have HROW:Hid (∀o,(wr.alloc o).ownsRow (w.heap.size+2) 47 5 (.slice va xs.length vc) xs.length (xs.flatMap FoA.cells)):=fun o=>own_block HC.out.row fun g hg=>((Below.refl _ _).alloc (Nat.le_refl _) o).block g (HC.out.row.lt g hg).2
   have HOKX:Hid (FoA.Ok wr (· <B) (⟨x.cond,ak,ck⟩:FoA)):=Fo.In.toP _ _ hf
   have HSTEP:Hid (∀(W1:World) (v':Value) (w8:World),Below wr.heap.size wr W1->w8.ownsRow (w.heap.size+2) 47 5 v' (xs++[(⟨x.cond,ak,ck⟩:FoA)]).length ((xs++[(⟨x.cond,ak,ck⟩:FoA)]).flatMap FoA.cells)->W1.grownBy w8 (Value.slice va xs.length vc).ownBlock->
     (fun w':World=>w'.cell? ⟨w.heap.size+1,4,none⟩=some (.slice va xs.length vc)/\ w'.cell? ⟨b,off+k*9+2,none⟩=some (.int .i64 x.cond.op)/\ w'.cell? ⟨b,off+k*9+3,none⟩=some (.string x.cond.name)/\ w'.cell? ⟨b,off+k*9+4,none⟩=some (.int .i64 x.cond.cmp)/\ w'.cell? ⟨b,off+k*9+5,none⟩=some (.int .i64 x.cond.n)/\ w'.cell? ⟨b,off+k*9+6,none⟩=some (.slice ak x.cond.kids.length ck)) w8/\ w8.cell? ⟨w.heap.size+1,4,none⟩=some (.slice va xs.length vc)/\ w8.frozen? ⟨w.heap.size+1,4,none⟩=false/\ CpS w (w8.setCell ⟨w.heap.size+1,4,none⟩ v') B l (.slice ad d.length cd) (k+1) v' (xs++[(⟨x.cond,ak,ck⟩:FoA)])):=fun W1 v' w8 hba h4 h5=>by
    obtain⟨z1,z2⟩:=HS0.out _ w8 v' (⟨x.cond,ak,ck⟩:FoA) rfl HOKX.out hba h4 h5;have q:=fun o=>(h5.cell_far ⟨b,o,none⟩ (by have:=hba.size;show b<_;omega) (HC.out.far (b:=b) (by omega))).trans (hba.cell (p:=⟨b,o,none⟩) hbw)
    exact⟨⟨z1.cell 4,(q _).trans (hr 2 _ rfl),(q _).trans (hr 3 _ rfl),(q _).trans (hr 4 _ rfl),(q _).trans (hr 5 _ rfl),(q _).trans (hr 6 _ rfl)⟩,z1.cell 4,z1.frozen 4,z2⟩
   clear hr hf hs1 hs2 hdy HS0 HC HOKX;go_upto_region 5 with(fail);refine wp_region_T 10 (fun w':World=>w'.cell? ⟨w.heap.size+1,4,none⟩=some (.slice va xs.length vc)/\ w'.cell? ⟨b,off+k*9+2,none⟩=some (.int .i64 x.cond.op)/\ w'.cell? ⟨b,off+k*9+3,none⟩=some (.string x.cond.name)/\ w'.cell? ⟨b,off+k*9+4,none⟩=some (.int .i64 x.cond.cmp)/\ w'.cell? ⟨b,off+k*9+5,none⟩=some (.int .i64 x.cond.n)/\ w'.cell? ⟨b,off+k*9+6,none⟩=some (.slice ak x.cond.kids.length ck)) (by kernel_rfl) (HSK.out wr (Lib.hid (Below.refl _ _))) (fun hHeld=>?_);refine xp 0 ?_;refine xp 2 ?_;refine xp 3 ?_;refine xk 1 ?v1 ?y1 ?_
   case y1=>(intro w9 hSw;obtain⟨q1,q2,q3,q4,q5,q6⟩:=hSw;go_simp;try with_reducible rfl)
   refine xp 4 ?_;refine xp 5 ?_;refine xk 6 ?v6 ?y6 ?_
   case y6=>(intro w9 hSw;obtain⟨q1,q2,q3,q4,q5,q6⟩:=hSw;go_simp;try with_reducible rfl)
   refine xr 7 (fun K hK=>?_)
   go_simp
   refine hK.out _ _ ?_ (fun hHeld=>?_)
   {(first | exact HS8 | exact HSK.out _ (Lib.hid (((Below.refl _ _).drew).alloc (Nat.le_refl _) _)) | exact HSK.out _ (Lib.hid ((Below.refl _ _).alloc (Nat.le_refl _) _)))}
   clear hK K
   try simp only[Act.put,sA,sB,sC]
   refine xr 8 (fun K hK=>?_)
   (refine step_append_fo (by rfl) _ _ (by rfl) (w.heap.size+2) _ xs (by rfl) (HROW.out _) (⟨x.cond,ak,ck⟩:FoA) _ _ (by rfl) (fun j u hj=>new_cells _ _ _ j u hj) (by have:=HLEN.out;omega) (by have:=HSZ.out;simp;omega) ?_;intro v8 w8 hr8 hg8;obtain⟨va8,vc8,rfl⟩:=own_len hr8;have HST:=Lib.hid (HSTEP.out _ _ _ (by first | exact((Below.refl _ _).alloc (Nat.le_refl _) _).drew | exact(Below.refl _ _).alloc (Nat.le_refl _) _) hr8 hg8);have HEN:=HST.out.2.2.2;rw[List.length_append,List.length_singleton]at HEN;have HS8:=HST.out.1;have o8:=HST.out.2.1;have of8:=HST.out.2.2.1)
   refine hK.out _ _ ?_ (fun hHeld=>?_)
   {(first | exact HS8 | exact HSK.out _ (Lib.hid (((Below.refl _ _).drew).alloc (Nat.le_refl _) _)) | exact HSK.out _ (Lib.hid ((Below.refl _ _).alloc (Nat.le_refl _) _)))}
   clear hK K
   try simp only[Act.put,sA,sB,sC]
   refine xp 9 ?_;refine xl 10 (fun K hK=>?_)
   go_simp
   refine hK.out _ _ ?_;clear hK K
   try simp only[Act.put,sA,sB,sC]
   refine wpAnyT_done (by kernel_rfl) ?_ _
   (go_wp2;go_roundw;(case rel=>exact⟨k+1,_,_,by omega,by go_num,Lib.hid HEN⟩);(case measure=>simp[intOf];omega))
  ·have HF:Hid (Fo.In wr wr.heap.size (orF (l.map (·.cond))) (.agg #[.int .i64 7,.string nilB,.int .i64 0,.int .i64 0,.slice va xs.length vc])):=by
    have e:l.map (·.cond)=xs.map (·.f):=by rw[HC.out.map,List.take_of_length_le (by omega)]
    show Fo.In _ _ _ _
    rw[e];exact(own_fo (P:=fun b=>b<wr.heap.size) HC.out.row (fun g hg=>(HC.out.row.lt g hg).2) (fun x hx=>(HC.out.ok x hx).step (fun _ _=>rfl) fun b (hb:b<B)=>by have:=HC.out.size;show b<_;omega) ⟨by decide,by decide⟩ ⟨by decide,by decide⟩ ⟨by decide,by decide⟩ (by decide)).back fun _ h=>h
   have HCL:=Lib.hid (cellsG_any _ d 400 _ _ wr wr.heap.size (Nat.le_refl _) HF.out ((HDM.out.below (HC.out.low.mono hB)).mono (by have:=HC.out.size;omega)) HSI.out (by omega));rw[HRR.out]at HCL;have x0:=HC.out.box.cell 0;have x1:=HC.out.box.cell 1;have x2:=HC.out.box.cell 2;have x3:=HC.out.box.cell 3;have x4:=HC.out.box.cell 4;have y0:=HC.out.dom.cell 0;have HLO:=Lib.hid HC.out.low;clear HC HF HLEN;go_wp2_with (go_at_call 24;refine HCL.out.mono ?_;rintro e w2 ⟨rfl,hb2⟩);go_ret;exact⟨rfl,HLO.out.trans (hb2.mono HLO.out.size)⟩
theorem size_fewC {l:List Chg}{d:List Fa}(h:fewC l d=true):∀x∈l,x.cond.size<=1000:=fun x hx=>by
 unfold fewC at h;simp only[Bool.and_eq_true,decide_eq_true_eq,List.all_eq_true]at h;have:=h.1.2 x hx;unfold fewH at this;simp only[Bool.and_eq_true,decide_eq_true_eq]at this;exact Nat.le_trans (smallF_size (most:=30) this.2) (by decide)
theorem lwr_cheap {w W:World}{b:Nat}{d:List Fa}{l:List Chg}{v u:Value}{cs:Array Value}(h:Hid (LwR w W b d l v u cs))(hf:Hid (fewC l d=true)){R:Bool}(hR:decide (cellsG (orF (l.map (·.cond))) 400 d 1<=400)=R):Calls Tryz.prog 11 #[v,u] W fun e W'=>e=.returned (.bool R)/\ Hid (LwR w W' b d l v u cs):=by
 refine(cheap33_any l d v u W W.heap.size (Nat.le_refl _) (by have:=(siz_fewC hf.out).len;omega) h.out.l h.out.dom (size_fewC hf.out)).mono ?_;rintro e w' ⟨rfl,hb⟩;exact⟨by rw[hR],h.out.step hb⟩
theorem lwr_anaB {w W:World}{b:Nat}{d:List Fa}{l m:List Chg}{v u v2:Value}{cs:Array Value}(h:Hid (LwR w W b d l v u cs))(hm:SlIn ChR 9 W W.heap.size m v2)(hl:m.length<=12)(hz:∀x∈m,x.cond.size<=1000000){fs:List Fnd}{e0:Int}(hx:anaD d m=(fs,e0)):
  Calls Tryz.prog 14 #[v2,u] W fun e W'=>∃(a:Option Addr) (c:Nat),e=.returned (.tuple #[.slice a fs.length c,.int .i64 e0])/\ Hid (SlIn FnR 5 W' W'.heap.size fs (.slice a fs.length c))/\ Hid (Below W.heap.size W W')/\ Hid (LwR w W' b d l v u cs):=by
 refine(analyse_any d m v2 u W hl hm h.out.dom hz h.out.tab).mono ?_;rintro e w' ⟨a,c,rfl,h1,h2⟩;rw[hx]at h1⊢;exact⟨a,c,rfl,h1,h2,h.out.step h2⟩
theorem FnR.openS {w:World}{B:Nat}{x y:Fnd}{b o:Nat}(h:FnR w B y b o)(e:sigF y=sigF x):∃(ac:Option Addr) (cc:Nat) (ai:Option Addr) (ci:Nat),w.cell? ⟨b,o,none⟩=some (.int .i64 x.kind)/\ w.cell? ⟨b,o+1,none⟩=some (.string x.question)/\ w.cell? ⟨b,o+2,none⟩=some (.int .i64 x.day)/\ w.cell? ⟨b,o+3,none⟩=some (.slice ac x.cse.length cc)/\ w.cell? ⟨b,o+4,none⟩=some (.slice ai x.ids.length ci)/\ IntsIn w B x.cse (.slice ac x.cse.length cc):=by
 simp only[sigF,Prod.mk.injEq]at e;obtain⟨e1,e2,e3,e4,e5⟩:=e;obtain⟨ac,cc,ai,ci,c0,c1,c2,c3,c4,c5,_⟩:=h.open_;rw[e1]at c0;rw[e2]at c1;rw[e3]at c2;rw[e4]at c3 c5;rw[e5]at c4;exact⟨ac,cc,ai,ci,c0,c1,c2,c3,c4,c5⟩
set_option maxRecDepth 100000 in
set_option maxHeartbeats 4000000 in
theorem regimeOrder_any {d:List Fa}{l:List Chg}{v u:Value}(w:World)(hl:SlIn ChR 9 w w.heap.size l v)(hd:DomIn w w.heap.size d u)(hT:TabH w.heap.size w):
  Calls Tryz.prog 8 #[v,u] w fun e w'=>e=.returned (.bool true)/\ Below w.heap.size w w':=by
 have hd0:=hd;obtain⟨u0,rfl,hd1⟩:=hd;obtain⟨ad,cd,rfl,_⟩:=SlIn.shape hd1;have HL:=lwr_start (cs:=#[.slice ad d.length cd]) hl hd0 hT;obtain⟨al,cl,rfl,_⟩:=SlIn.shape hl;obtain⟨i0,z0,hi0,hs0,hz0,hzs0,hb0⟩:=ch_info;have y0:=HL.out.box.cell 0;clear hl hd0 hd1 hT;cases hf:fewC l d with
 | false=>{have HF:=Lib.hid hf;clear hf;go_enter Tryz.func8,Tryz.ntmps8;go_wp2_with (first | (go_at_call 9;refine(lwr_head HL).mono ?_;rintro e w2 ⟨rfl,HL2⟩;(clear y0;have HL:=HL2;clear HL2;have y0:=HL.out.box.cell 0)) | (go_at_call 10;refine(lwr_few HL HF.out).mono ?_;rintro e w2 ⟨rfl,HL2⟩;(clear y0;have HL:=HL2;clear HL2;have y0:=HL.out.box.cell 0)));(go_ret;exact⟨by first | rfl | simp,HL.out.low⟩)}
 | true=>
  have HS:=Lib.hid (siz_fewC hf);have HF:=Lib.hid hf;clear hf;cases hch:decide (cellsG (orF (l.map (·.cond))) 400 d 1<=400)with
  | false=>{have HCH:=Lib.hid hch;clear hch;go_enter Tryz.func8,Tryz.ntmps8;go_wp2_with (first | (go_at_call 9;refine(lwr_head HL).mono ?_;rintro e w2 ⟨rfl,HL2⟩;(clear y0;have HL:=HL2;clear HL2;have y0:=HL.out.box.cell 0)) | (go_at_call 10;refine(lwr_few HL HF.out).mono ?_;rintro e w2 ⟨rfl,HL2⟩;(clear y0;have HL:=HL2;clear HL2;have y0:=HL.out.box.cell 0)) | (go_at_call 11;refine(lwr_cheap HL HF HCH.out).mono ?_;rintro e w2 ⟨rfl,HL2⟩;(clear y0;have HL:=HL2;clear HL2;have y0:=HL.out.box.cell 0)));(go_ret;exact⟨by first | rfl | simp,HL.out.low⟩)}
  | true=>
   have HCH:=Lib.hid hch;obtain⟨⟨fa,f1⟩,h1⟩:∃X,anaD d l=X:=⟨_,rfl⟩;obtain⟨⟨fb,f2⟩,h2⟩:∃X,anaD d l.reverse=X:=⟨_,rfl⟩;obtain⟨r1,r2⟩:=rev_law (d:=d) (l:=l) (by have:=HS.out.dom;omega) (of_decide_eq_true hch);rw[h1,h2]at r1 r2;have r1:f2=f1:=r1;subst r1;have r2:fb.map sigF=fa.map sigF:=r2;have hfl:fb.length=fa.length:=by have:=congrArg List.length r2;simpa using this
   have HSG:Hid (∀k,(hk:k<fa.length)->(hk2:k<fb.length)->sigF fb[k]=sigF fa[k]):=fun k hk hk2=>by{(have e:(fb.map sigF)[k]? =(fa.map sigF)[k]? :=by rw[r2]);rw[List.getElem?_map,List.getElem?_map,List.getElem?_eq_getElem hk2,List.getElem?_eq_getElem hk]at e;simpa using e}
   have C1:=Lib.hid h1;have C2:=Lib.hid h2;have HLE:=Lib.hid hfl;clear hch h1 h2 r2 hfl;have hll:=HS.out.len;have gw0:IntKind.i64.wrap ((l.length:Int)-1)=(l.length:Int)-1:=IntWalk.i64_in _ (by omega);go_enter Tryz.func8,Tryz.ntmps8;go_upto_region 4 with(first | (go_at_call 9;refine(lwr_head HL).mono ?_;rintro e w2 ⟨rfl,HL2⟩;(clear y0;have HL:=HL2;clear HL2;have y0:=HL.out.box.cell 0)) | (go_at_call 10;refine(lwr_few HL HF.out).mono ?_;rintro e w2 ⟨rfl,HL2⟩;(clear y0;have HL:=HL2;clear HL2;have y0:=HL.out.box.cell 0)) | (go_at_call 11;refine(lwr_cheap HL HF HCH.out).mono ?_;rintro e w2 ⟨rfl,HL2⟩;(clear y0;have HL:=HL2;clear HL2;have y0:=HL.out.box.cell 0)));rename World=>W0
   go_wp2
   go_loopw [6,7] (fun ov iv wr=>∃(k:Nat) (z:Int) (xs:List ChA),k<=l.length/\ iv=.int .i64 z/\ Hid (z=(k:Int)-1)/\ Hid (xs.map ChA.c=(l.drop k).reverse)/\ Hid (∀x∈xs,x.Ok wr W0.heap.size)/\ Hid (wr.ownsRow W0.heap.size 49 9 ov xs.length (xs.flatMap ChA.cells))/\ Hid (Below W0.heap.size W0 wr)) (fun _ iv _=>(intOf iv+1).toNat)
   case atStart=>exact⟨l.length,_,[],Nat.le_refl _,rfl,rfl,by show _=_;rw[List.drop_of_length_le (Nat.le_refl _)];rfl,fun x hx=>(by cases hx),World.ownsRow_nil _ _ _ _,Below.refl _ _⟩
   case round=>
    obtain⟨k,z,xs,hk,rfl,HZ,HX,HO,HR,HB⟩:=hrel;obtain⟨va,vn,vc,rfl⟩:=own_shape HR.out;have HLR:=Lib.hid (HL.out.step HB.out);have hxl:xs.length<=10:=by have:=congrArg List.length HX.out;simp at this;omega
    have hws:=HB.out.size;rcases Nat.eq_zero_or_pos k with rfl | hk0
    ·obtain rfl:z= -1:=by have:=HZ.out;omega
     have hxr:xs.map ChA.c=l.reverse:=by have:=HX.out;simpa using this
     have HBK:Hid (SlIn ChR 9 wr wr.heap.size l.reverse (.slice va vn vc)):=by show SlIn _ _ _ _ _ _;rw[<-hxr];exact own_chs HR.out (Nat.le_refl _) fun x hx=>(HO.out x hx).mono hws
     clear y0 hxr HX HO HR HZ;have y0:=HLR.out.box.cell 0;go_upto_region 10 with(go_at_call 14;refine(lwr_anaB HLR HLR.out.l (by omega) HS.out.size C1.out).mono ?_;rintro e w3 ⟨af,cf,rfl,HFA,HB3,HL3⟩;clear y0;have y0:=HL3.out.box.cell 0);have HBK3:=Lib.hid (SlIn.mono ChR.mono HB3.out.size (HBK.out.below ChR.kept HB3.out));go_upto_region 11 with(go_at_call 14;refine(lwr_anaB HL3 HBK3.out (by rw[List.length_reverse];omega) (fun x hx=>HS.out.size x (by simpa using hx)) C2.out).mono ?_;rintro e w4 ⟨ab,cb,rfl,HFB,HB4,HL4⟩;clear y0;have y0:=HL4.out.box.cell 0);have HFA4:=Lib.hid (SlIn.mono FnR.mono HB4.out.size (HFA.out.below FnR.kept HB4.out));have t9:(f2 !=f2)=false:=by simp
     have t10:((fa.length:Int) !=(fb.length:Int))=false:=by rw[HLE.out];simp
     obtain⟨_,_,hsh,_,hfm,_⟩:=SlIn.shape HFA.out;cases hsh
     unfold maxLen at hfm;go_wp2
     go_loopw [12] (fun iv wq=>∃k:Nat,k<=fa.length/\ iv=.int .i64 k/\ Hid (Below w4.heap.size w4 wq)) (fun iv _=>fa.length-(intOf iv).toNat)
     case atStart=>exact⟨0,Nat.zero_le _,rfl,Below.refl _ _⟩
     case round=>
      rename World=>wq
      obtain⟨k,hk,rfl,HBQ⟩:=hrel;by_cases hlt:k<fa.length
      ·have hlt2:k<fb.length:=by have:=HLE.out;omega
       obtain⟨b,off,rfl,hbB,h1⟩:=SlIn.at HFA4.out k hlt;obtain⟨b2,off2,rfl,hbB2,h2⟩:=SlIn.at HFB.out k hlt2;have HSK:=Lib.hid (HSG.out k hlt hlt2);generalize fa[k]=x at*
       generalize fb[k]=y at*
       have h1:FnR wq w4.heap.size x b (off+k*5):=FnR.kept _ _ _ _ _ _ HBQ.out hbB h1;have h2:FnR wq w4.heap.size y b2 (off2+k*5):=FnR.kept _ _ _ _ _ _ HBQ.out hbB2 h2;obtain⟨ac,cc,ai,ci,c0,c1,c2,c3,c4,c5⟩:=h1.openS rfl;obtain⟨ac2,cc2,ai2,ci2,d0,d1,d2,d3,d4,d5⟩:=h2.openS HSK.out;obtain⟨_,_,hsh,s1,s2,_⟩:=SlIn.shape c5;cases hsh
       unfold maxLen at s2;have hbw:b<wq.heap.size:=by have:=HBQ.out.size;omega
       have hbw2:b2<wq.heap.size:=by have:=HBQ.out.size;omega
       have t0:(x.kind !=x.kind)=false:=by simp
       have t1:(x.question.toList !=x.question.toList)=false:=by simp
       have t1':(x.question.toList==x.question.toList)=true:=by simp
       have t2:(x.day !=x.day)=false:=by simp
       have t3:((x.ids.length:Int) !=(x.ids.length:Int))=false:=by simp
       have HKC:Hid (∀w',Hid (Below wq.heap.size wq w')->(w'.cell? ⟨b,off+k*5,none⟩=some (.int .i64 x.kind)/\ w'.cell? ⟨b,off+k*5+1,none⟩=some (.string x.question)/\ w'.cell? ⟨b,off+k*5+2,none⟩=some (.int .i64 x.day)/\ w'.cell? ⟨b,off+k*5+3,none⟩=some (.slice ac x.cse.length cc)/\ w'.cell? ⟨b,off+k*5+4,none⟩=some (.slice ai x.ids.length ci)/\ w'.cell? ⟨b2,off2+k*5,none⟩=some (.int .i64 x.kind)/\ w'.cell? ⟨b2,off2+k*5+1,none⟩=some (.string x.question)/\ w'.cell? ⟨b2,off2+k*5+2,none⟩=some (.int .i64 x.day)/\ w'.cell? ⟨b2,off2+k*5+3,none⟩=some (.slice ac2 x.cse.length cc2)/\ w'.cell? ⟨b2,off2+k*5+4,none⟩=some (.slice ai2 x.ids.length ci2))/\ Hid (Below wq.heap.size wq w')):=fun w' hb=>by{(have k:=fun o=>hb.out.cell (p:=⟨b,o,none⟩) hbw);(have k2:=fun o=>hb.out.cell (p:=⟨b2,o,none⟩) hbw2);exact⟨⟨(k _).trans c0,(k _).trans c1,(k _).trans c2,(k _).trans c3,(k _).trans c4,(k2 _).trans d0,(k2 _).trans d1,(k2 _).trans d2,(k2 _).trans d3,(k2 _).trans d4⟩,hb⟩}
       have HCQ:Hid (∀w',Hid (Below wq.heap.size wq w')->Calls Tryz.prog 21 #[.slice ac x.cse.length cc,.slice ac2 x.cse.length cc2] w' fun e w''=>e=.returned (.bool true)/\ Hid (Below wq.heap.size wq w'')):=fun w' hb=>by{have q:=refEq6_any x.cse x.cse _ _ w' w4.heap.size (Nat.le_trans HBQ.out.size hb.out.size) (SlIn.below (OneR.kept _) (hb.out.mono HBQ.out.size) c5) (SlIn.below (OneR.kept _) (hb.out.mono HBQ.out.size) d5);rw[decide_eq_true rfl]at q;refine q.mono ?_;rintro e w'' ⟨rfl,h⟩;exact⟨rfl,hb.out.trans (h.mono hb.out.size)⟩}
       clear c0 c1 c2 c3 c4 d0 d1 d2 d3 d4 c5 d5 h1 h2;have HBw:Hid (Below wq.heap.size wq wq):=Below.refl _ _;have HBd:Hid (Below wq.heap.size wq wq.drew):=(Below.refl _ _).drew;go_upto_region 16 with(fail);simp only[List.append]
       go_region_held3 (fun w'=>(w'.cell? ⟨b,off+k*5,none⟩=some (.int .i64 x.kind)/\ w'.cell? ⟨b,off+k*5+1,none⟩=some (.string x.question)/\ w'.cell? ⟨b,off+k*5+2,none⟩=some (.int .i64 x.day)/\ w'.cell? ⟨b,off+k*5+3,none⟩=some (.slice ac x.cse.length cc)/\ w'.cell? ⟨b,off+k*5+4,none⟩=some (.slice ai x.ids.length ci)/\ w'.cell? ⟨b2,off2+k*5,none⟩=some (.int .i64 x.kind)/\ w'.cell? ⟨b2,off2+k*5+1,none⟩=some (.string x.question)/\ w'.cell? ⟨b2,off2+k*5+2,none⟩=some (.int .i64 x.day)/\ w'.cell? ⟨b2,off2+k*5+3,none⟩=some (.slice ac2 x.cse.length cc2)/\ w'.cell? ⟨b2,off2+k*5+4,none⟩=some (.slice ai2 x.ids.length ci2))/\ Hid (Below wq.heap.size wq w'))
        (exact HKC.out _ (by assumption))
        ((go_at_call 21;refine(HCQ.out _ (by assumption)).mono ?_;rintro e w2 ⟨rfl,HC2⟩))
       clear HBw HBd HCQ;go_wp2;have HBN:=Lib.hid (HBQ.out.trans (HC2.out.mono HBQ.out.size));go_roundw
       case rel=>exact⟨k+1,by omega,by go_num,HBN⟩
       case measure=>simp[intOf];omega
      {have HL:=Lib.hid (HL4.out.step HBQ.out);go_wp2;(go_ret;exact⟨by first | rfl | simp,HL.out.low⟩)}
    ·obtain⟨j,rfl⟩:∃j,k=j+1:=⟨k-1,by omega⟩
     obtain rfl:z=(j:Int):=by have:=HZ.out;omega
     have s0:decide ((0:Int)<=(j:Int))=true:=decide_eq_true (by omega);have gw:IntKind.i64.wrap ((j:Int)-1)=(j:Int)-1:=IntWalk.i64_in _ (by omega);have hlt:j<l.length:=by omega
     obtain⟨b,off,rfl,hbB,ak,ck,hr0,hf,hs1,hs2,hdy⟩:=SlIn.at HL.out.l j hlt;have HXT:Hid (l.drop j=l[j]::l.drop (j+1)):=List.drop_eq_getElem_cons hlt;generalize l[j]=p at*
     have HOK:Hid (ChA.Ok W0 W0.heap.size ⟨p,ak,ck⟩):=⟨hf,hs1,hs2,hdy⟩;have HRG:=Lib.hid (rng_below hr0 HB.out (by omega));clear hr0 hf hs1 hs2 hdy
     go_wp2_with (first
      | ((with_reducible show wpList _ _ _ (⟨_,Op.load 49 (.tmp 35),_,_,_,_⟩::_) _ _);refine wpList_load_ch rfl (.tmp 35) rfl rfl p ak ck HRG.out Tryz.underlying49 rfl Chg.info ?_)
      | (((with_reducible show wpList _ _ _ (⟨_,Op.buildSlice 22 1 #[(0,.tmp 36)],_,_,_,_⟩::_) _ _);refine wpList_build_ch rfl (.tmp 36) rfl p ak ck rfl ?_);have HBA:Hid (Below wr.heap.size wr (wr.alloc (.cells (chC p ak ck).toArray 49))):=((Below.refl _ _).alloc (Nat.le_refl _) _);have HRA:=Lib.hid (own_under HR.out HBA.out);have HNA:=Lib.hid (new_cells wr 49 (chC p ak ck)))
      | (at_builtin;go_loud (refine wpList_append_own_at _ rfl (.tmp 32) (.tmp 37) 22 rfl W0.heap.size 49 i0 z0 9 112 Tryz.underlying22 hi0 hz0 hs0 hb0 hzs0 (by decide) (.slice va vn vc) _ _ rfl HRA.out ⟨wr.heap.size,0,none⟩ 1 1 (chC p ak ck) rfl rfl HNA.out (chC_ones _ _ _) (by unfold maxLen;omega) (by omega) (by simp;omega) ?_;intro v9 w9 hown9 hgrow9 hnil9 hat9)))
     have C:Below W0.heap.size wr w9:=(HBA.out.mono (by omega)).grown hgrow9 (by simp;omega) (fun g e=>(HRA.out.lt g e).1)
     have HO9:Hid (∀x∈xs++[(⟨p,ak,ck⟩:ChA)],x.Ok w9 W0.heap.size):=fun x hx=>by{(rcases List.mem_append.1 hx with hx | hx);{exact(HO.out x hx).up C};{(have:x=⟨p,ak,ck⟩:=by simpa using hx);subst this;exact HOK.out.up (HB.out.trans C)}}
     have HR9:Hid (w9.ownsRow W0.heap.size 49 9 v9 (xs++[(⟨p,ak,ck⟩:ChA)]).length ((xs++[(⟨p,ak,ck⟩:ChA)]).flatMap ChA.cells)):=by{show World.ownsRow _ _ _ _ _ _ _;rw[List.length_append,List.flatMap_append,List.flatMap_cons,List.flatMap_nil,List.append_nil];exact hown9}
     have HB9:=Lib.hid (HB.out.trans C);have HX9:Hid ((xs++[(⟨p,ak,ck⟩:ChA)]).map ChA.c=(l.drop j).reverse):=by show _=_;rw[List.map_append,HX.out,HXT.out,List.reverse_cons];rfl
     go_roundw
     case rel=>exact⟨j,_,_,by omega,rfl,rfl,HX9,HO9,HR9,HB9⟩
     case measure=>simp[intOf]
end Go.Proofs.YtihniipjfdenbaaGreatDoor
