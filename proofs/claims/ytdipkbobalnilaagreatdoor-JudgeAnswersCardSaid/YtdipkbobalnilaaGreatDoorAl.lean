/- Short names of laws of the kit. Nothing new is stated. -/
import Derived.Test.YtdipkbobalnilaaGreatDoorProg
import Derived.BigQuiet
import Derived.Handy
import Derived.Lib.Hide
import Derived.WalkKit
import Derived.Deep.AppendLies
import Derived.Deep.MidRow
import Derived.KernelRfl
import Derived.Deep.RegionHeld
namespace Go.Proofs.YtdipkbobalnilaaGreatDoor
open Go.RowKit
theorem ja{p:Prop}(h:p:=by omega):p:=h
theorem Aa{p:Prop}(h:p:=by simp):p:=h
theorem Ra{p:Prop}(h:p:=by rfl):p:=h
theorem Ba{p:Prop}(h:p:=by decide):p:=h
theorem Ha{p:Prop}(h:p:=by kernel_rfl):p:=h
theorem La{p:Prop}(h:p:=by assumption):p:=h
abbrev la:=@Lib.hid
abbrev wa:=@Nat.le_refl
abbrev za:=@Below.refl
abbrev Ia:=@World.size_alloc
abbrev Ta:=@List.take_succ_eq_append_getElem
abbrev Oa:=@List.getElem_mem
abbrev Qa:=@List.length_append
abbrev Ga:=@if_pos
abbrev Va:=@List.length_map
abbrev Pa:=@List.mem_cons_of_mem
abbrev Xa:=@List.getElem?_eq_getElem
abbrev Wa:=@List.mem_cons_self
abbrev zb:=@List.getElem_cons_zero
abbrev Ab:=@List.lookup_cons
abbrev Za:=@decide_eq_false
abbrev ub:=@Nat.le_trans
abbrev Bb:=@List.drop_of_length_le
abbrev Eb:=@List.map_cons
abbrev Gb:=@List.getElem_toArray
abbrev Hb:=@decide_eq_true
abbrev Kb:=@World.block_lt_of_cell?
abbrev Gc:=@List.drop_eq_getElem_cons
abbrev Jb:=@List.getElem_cons_succ
abbrev Ib:=@Bool.and_eq_true
abbrev Lb:=@Nat.zero_le
abbrev Fb:=@bodyPost_ret
abbrev Pb:=@List.map_append
abbrev Qb:=@List.length_cons
abbrev Xb:=@Int.natCast_nonneg
abbrev Ub:=@List.take_length
abbrev Tb:=@List.nil_append
abbrev zc:=@List.getD_eq_getElem?_getD
abbrev Zb:=@Nat.lt_of_lt_of_le
abbrev Yb:=@World.size_setCell
abbrev Ec:=@World.ownsRow_nil
abbrev pc:=@List.getElem?_cons_zero
abbrev Vb:=@Nat.zero_add
abbrev Ac:=@List.Nodup.length_le_of_subset
abbrev Dc:=@List.getElem?_cons_succ
abbrev Zc:=@List.getElem_of_mem
abbrev Bc:=@List.flatMap_cons
abbrev Cc:=@List.cons_append
abbrev Kc:=@List.take_of_length_le
abbrev Hc:=@List.getElem?_toArray
abbrev Fc:=@Int.toNat_natCast
abbrev Ic:=@List.append_assoc
abbrev Oc:=@Below.heap_setCell
abbrev Bd:=@Below.heap_alloc
abbrev Jc:=@List.filter_cons
abbrev Yc:=@List.idxOf_lt_length_of_mem
abbrev yd:=@List.filter_append
abbrev Pc:=@beq_iff_eq
abbrev ve:=@List.length_filter_le
abbrev Rc:=@Bool.eq_iff_iff
abbrev gd:=@List.getElem?_map
abbrev Vd:=@ByteArray.toList_eq
abbrev qd:=@List.flatMap_append
abbrev nd:=@List.length_nil
abbrev Nd:=@List.foldl_cons
abbrev Jd:=@List.length_range
abbrev zd:=@List.ne_nil_of_mem
abbrev ud:=@List.append_nil
abbrev de:=@List.length_take
abbrev sd:=@List.map_nil
abbrev td:=@Nat.lt_or_ge
abbrev Ke:=@World.rangeAt_setCells_same
abbrev Hg:=@List.mem_append_left
abbrev Kd:=@List.nodup_nil
abbrev Qd:=@List.mem_singleton
abbrev Td:=@List.getElem?_append_right
abbrev Sd:=@List.getElem_map
abbrev Yd:=@List.length_singleton
abbrev ie:=@Nat.mul_le_mul_right
abbrev Od:=@Nat.not_lt_zero
abbrev qe:=@Nat.min_le_left
abbrev te:=@List.getElem?_append_left
abbrev we:=@List.mem_append_right
abbrev ye:=@ByteArray.size_append
abbrev uf:=@List.mem_cons
abbrev Ge:=@List.nodup_append
abbrev De:=@Nat.le_of_eq
abbrev Ye:=@List.any_eq_true
abbrev Le:=@List.map_toArray
abbrev ee:=@List.all_eq_true
abbrev Iw:=@List.pairwise_iff_getElem
abbrev Qe:=@Option.some.inj
abbrev Ah:=@List.nodup_cons
abbrev Re:=@Array.replicate_succ
abbrev Se:=@Array.replicate_zero
abbrev Ue:=@List.getElem?_take_of_lt
abbrev tf:=@Bool.true_and
abbrev Xe:=@List.append_toArray
abbrev Ze:=@List.map_map
abbrev qf:=@Nat.add_sub_cancel
abbrev sf:=@World.frozen?_of_block
abbrev Zg:=@List.filter_filter
abbrev Hf:=@List.mem_append
abbrev Kf:=@Array.replicate
abbrev Qf:=@Array.getElem?_toList
abbrev Rf:=@List.size_toArray
abbrev Sf:=@List.push_toArray
abbrev Tf:=@Bool.eq_false_iff
abbrev Wg:=@List.foldl_append
abbrev Nf:=@Array.getD_eq_getD_getElem?
abbrev Uf:=@of_decide_eq_true
abbrev Xf:=@List.pairwise_append
abbrev Qg:=@Nat.add_zero
abbrev Zf:=@Nat.min_le_right
abbrev fg:=@Array.getElem?_eq_getElem
abbrev Ch:=@List.map_congr_left
abbrev lg:=@List.getD_cons_zero
abbrev mg:=@List.getD_cons_succ
abbrev nh:=@List.map_drop
abbrev ug:=@Array.setIfInBounds_comm
abbrev wg:=@List.getElem_append_left
abbrev Jf:=@List.filter_nil
abbrev Cg:=@List.length_set
abbrev uj:=@List.pairwise_cons
abbrev xg:=@Int.le_refl
abbrev oh:=@Nat.mul_one
abbrev Gg:=@List.length_eq_zero_iff
abbrev xh:=@List.pairwise_lt_range
abbrev ej:=@List.length_pos_of_mem
abbrev qy:=@List.append_eq_nil_iff
abbrev Xg:=@Nat.lt_trichotomy
abbrev Yg:=@Option.some.injEq
abbrev Sh:=@List.mem_range
abbrev ep:=@Array.mk.injEq
abbrev li:=@ByteArray.size_extract
abbrev bh:=@List.take_append_drop
abbrev Ci:=@List.length_mergeSort
abbrev Pf:=@List.getElem?_eq_none
abbrev vh:=@List.mem_of_getElem?
abbrev jh:=@Nat.le_succ
abbrev Nk:=@List.range_succ
abbrev Bg:=@Bool.or_eq_true
abbrev zh:=@List.idxOf_cons
abbrev Qp:=@List.mem_filter
abbrev Dh:=@Nat.le_of_lt
@[simp]abbrev Ya(b:Nat):Addr:=⟨b,0,none⟩
@[simp]abbrev Ja(b o:Nat):Addr:=⟨b,o,none⟩
@[simp]abbrev Nb(b:Nat):Option Addr:=some ⟨b,0,none⟩
@[simp]abbrev fe(b o:Nat):Option Addr:=some ⟨b,o,none⟩
abbrev Ma(b:Nat):Value:=.pointer (some ⟨b,0,none⟩)
abbrev aP(b o:Nat):Value:=.pointer (some ⟨b,o,none⟩)
abbrev pa(x:Int):Value:=.int .i64 x
abbrev Ua:Value:=.slice none 0 0
abbrev Na:=ByteArray
abbrev Ea:=Value
abbrev Ca:=World
abbrev Da:=@Below
abbrev Db:=@Calls Tryz.prog
abbrev Ka{α}[Inhabited α]:α:=default
end Go.Proofs.YtdipkbobalnilaaGreatDoor
namespace Go.RowKit
theorem Hid.o{p:Prop}(h:Hid p):p:=h
end Go.RowKit
namespace Go
theorem Shut.o{p:Prop}(h:Shut p):p:=h
end Go
