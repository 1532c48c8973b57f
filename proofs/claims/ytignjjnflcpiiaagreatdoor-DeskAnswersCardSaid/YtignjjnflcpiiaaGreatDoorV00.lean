/- The contracts of the library's functions at this program: -/
import Derived.Deep.AppendLies
import Derived.Handy
import Derived.Shelf.GgClosure.StringsRunes
import Derived.Shelf.Slices.Turned
import Derived.Shelf.Small.Wraps
import Derived.Shelf.Strconv.ErrVarAll
import Derived.Shelf.Strconv.Itoa4
import Derived.Shelf.Strconv.ParseIntPublic10
import Derived.Shelf.Strings.Explode
import Derived.Shelf.Strings.FieldsFuncGrows
import Derived.Shelf.Strings.LastIndex
import Derived.Shelf.Strings.OnBuilder
import Derived.Shelf.Strings.Shaped
import Derived.Shelf.Strings.SlTrimAscii
import Derived.Shelf.Strings.SplitShaped
import Derived.Shelf.Unicode.CaseLaid
import Derived.Shelf.Utf8.RuneCount
import Derived.WalkLawsBesides
import Derived.WalkSpells
import Derived.Test.YtignjjnflcpiiaaGreatDoorChecked
import Derived.Test.YtignjjnflcpiiaaGreatDoorProg
import Derived.Test.YtignjjnflcpiiaaGreatDoorRows
set_option maxHeartbeats 4000000
set_option maxRecDepth 100000 set_option linter.all false
namespace Go.Proofs
open Go
theorem aa{P:Prop}(h:P:=by omega):P:=h
theorem ae{P:Prop}(h:P:=by decide):P:=h
theorem af{P:Prop}(h:P:=by kernel_rfl):P:=h
theorem ag{P:Prop}(h:P:=by simp;omega):P:=h
theorem ah{P:Prop}(h:P:=by simp):P:=h
theorem ai{P:Prop}(h:P:=by simp only;omega):P:=h
theorem aj{P:Prop}(h:P:=by go_num):P:=h
theorem ak{P:Prop}(h:P:=by rw[←H.o,h.o];first|rfl|(simp;omega)):P:=h
theorem ao{P:Prop}(h:P:=by unfold maxLen;simp;omega):P:=h
theorem ar{P:Prop}(h:P:=by first|omega|(simp only;omega)):P:=h
theorem av{P:Prop}(h:P:=by have:=h.1;simp only at this;omega):P:=h
theorem ax{P:Prop}(h:P:=by assumption):P:=h
theorem ay{P:Prop}(h:P:=by rw[N.o];rfl):P:=h
theorem bo{P:Prop}(h:P:=by first|rfl|trivial):P:=h
theorem bu{P:Prop}(h:P:=by rw[H.o];rfl):P:=h
theorem ca{P:Prop}(h:P:=by rfl):P:=h
theorem cu{P:Prop}(h:P:=by go_grown):P:=h
theorem cy{P:Prop}(h:P:=by have:=B.size;simp;omega):P:=h
theorem da{P:Prop}(h:P:=by unfold wrap64;omega):P:=h
theorem de{P:Prop}(h:P:=by intro h;have:=CI List.length h;simp[An]at this):P:=h
theorem di{P:Prop}(h:P:=by rw[AI];omega):P:=h
theorem du{P:Prop}(h:P:=by simp[results,results113,go_sem,K]):P:=h
theorem dy{P:Prop}(h:P:=by first|exact Ey _ _ _|(rw[z];exact Ey _ _ _)):P:=h
theorem ea{P:Prop}(h:P:=by go_size):P:=h
theorem ec{P:Prop}(h:P:=by simp[World.setCell]):P:=h
theorem ed{P:Prop}(h:P:=by rw[AT];simpa using h0):P:=h
theorem ee{P:Prop}(h:P:=by cases h):P:=h
theorem ef{P:Prop}(h:P:=by have:=h (k+1) (by simp;omega);rw[AR]at this;rw[this];congr 2;omega):P:=h
theorem eh{P:Prop}(h:P:=by first|exact Ey _ _ _|(rw[r];exact Ey _ _ _)):P:=h
theorem ei{P:Prop}(h:P:=by simp[results,results252,go_sem,Du]):P:=h
theorem ej{P:Prop}(h:P:=by simp[ByteArray.size];omega):P:=h
theorem ek{P:Prop}(h:P:=by simpa using h):P:=h
theorem el{P:Prop}(h:P:=by simpa using H):P:=h
theorem en{P:Prop}(h:P:=by simp at h):P:=h
theorem eo{P:Prop}(h:P:=by have:=c.toNat_lt;omega):P:=h
theorem ep{P:Prop}(h:P:=by rw[z.o];simp[results,results59,go_sem,A]):P:=h
theorem eu{P:Prop}(h:P:=by rw[CK _ _ t (by simp;omega),CK _ _ t (by simp;omega),CK _ _ t (by simp;omega),CK _ _ t l];exact a):P:=h
theorem ew{P:Prop}(h:P:=by have:=h.1;omega):P:=h
theorem ez{P:Prop}(h:P:=by rw[H.o]<;>first|(simp[*];done)|(simp_all;done)|(rw[DY];simp only[FM,BL];omega)|(simp[*];omega)):P:=h
theorem fa{P:Prop}(h:P:=by simp[results,results87,go_sem,Bu,K]):P:=h
theorem fe{P:Prop}(h:P:=by rw[Tg _ _ (by decide)];have:=Vi s [13,10] (by decide);omega):P:=h
theorem fi{P:Prop}(h:P:=by rw[I.o];first|(simp[*];done)|(simp[*];omega)):P:=h
theorem fo{P:Prop}(h:P:=by rw[N.o]):P:=h
theorem fu{P:Prop}(h:P:=by simp[results,results253,go_sem,Du]):P:=h
theorem fy{P:Prop}(h:P:=by simp[results,results93,go_sem,Jb]):P:=h
theorem gi{P:Prop}(h:P:=by rw[DD];omega):P:=h
theorem gu{P:Prop}(h:P:=by simp only[AJ,CH,Gt];omega):P:=h
theorem gy{P:Prop}(h:P:=by first|exact H.trans (a.mono H.size)|exact H.drew.trans (a.mono H.drew.size)):P:=h
theorem ic{P:Prop}(h:P:=by rw[C.o];rfl):P:=h
theorem ie{P:Prop}(h:P:=by rw[To r.o u.o Q.o (U.o.trans o)];simp[results,results44,go_sem,T]<;>rfl):P:=h
theorem ig{P:Prop}(h:P:=by have:=Po (!s.isEmpty) (s++[58]);have:=Po h (47::47::u);simp at*;omega):P:=h
theorem ij{P:Prop}(h:P:=by rw[O.o,M.o];simp[results,results50,go_sem,A]):P:=h
theorem il{P:Prop}(h:P:=by rw[E.o];rfl):P:=h
theorem im{P:Prop}(h:P:=by rw[T.o,←AP];exact h):P:=h
theorem iq{P:Prop}(h:P:=by rw[t.o,Vy _ _ _ _ u F z];exact c):P:=h
theorem ir{P:Prop}(h:P:=by rw[AH t];rfl):P:=h
theorem iu{P:Prop}(h:P:=by rw[BD];omega):P:=h
theorem iw{P:Prop}(h:P:=by have:=H.o;omega):P:=h
theorem ix{P:Prop}(h:P:=by rw[H.o]):P:=h
theorem iy{P:Prop}(h:P:=by rw[h];rfl):P:=h
theorem iz{P:Prop}(h:P:=by rw[CK _ _ ⟨w.heap.size,0,none⟩ (by simp;omega)];simp):P:=h
theorem ja{P:Prop}(h:P:=by simp at f⊢;omega):P:=h
theorem je{P:Prop}(h:P:=by simp[H]):P:=h
theorem ji{P:Prop}(h:P:=by rw[t.o,J8 _ false,AL (by decide),Pd (Or.inr B)];exact C):P:=h
theorem jo{P:Prop}(h:P:=by rw[t.o,J8 _ false,AL (by decide),Pd (Or.inl A)];exact C):P:=h
theorem ju{P:Prop}(h:P:=by simp[results,results113,go_sem,Bu,K]):P:=h
theorem jy{P:Prop}(h:P:=by have:=f k H;omega):P:=h
theorem ki{P:Prop}(h:P:=by simp[ByteArray.size]):P:=h
theorem ko{P:Prop}(h:P:=by rw[h];decide):P:=h
theorem ku{P:Prop}(h:P:=by have:=s[k].toNat_lt;omega):P:=h
theorem lo{P:Prop}(h:P:=by have:=m.o;have:=y.o;omega):P:=h
theorem lu{P:Prop}(h:P:=by rw[H.o];simp):P:=h
theorem me{P:Prop}(h:P:=by unfold A3.len at M;omega):P:=h
theorem mi{P:Prop}(h:P:=by unfold maxLen;omega):P:=h
theorem mo{P:Prop}(h:P:=by simp only[Cg];omega):P:=h
theorem my{P:Prop}(h:P:=by simp[results,results35,go_sem,k]):P:=h
theorem nu{P:Prop}(h:P:=by simp[results,results87,go_sem,K]):P:=h
theorem ny{P:Prop}(h:P:=by simp[results,results57,go_sem,k]):P:=h
theorem od{P:Prop}(h:P:=by rw[h.o,H.o];rfl):P:=h
theorem oe{P:Prop}(h:P:=by rw[t.o,J8 _ false,AL (by decide),CT,Vx];exact n):P:=h
theorem og{P:Prop}(h:P:=by rw[AM];simp[show x.length-1<x.length by omega]):P:=h
theorem oh{P:Prop}(h:P:=by have:=W4 (C::e::g::i::L);simp at this⊢;omega):P:=h
theorem oj{P:Prop}(h:P:=by rw[t.o,J8 _ true,AN rfl,Pd (Or.inr B)];exact c):P:=h
theorem om{P:Prop}(h:P:=by rw[t.o,J8 _ true,AN rfl,Pd (Or.inl A)];exact c):P:=h
theorem oo{P:Prop}(h:P:=by simpa using g.set 0 (.string ⟨t.toArray⟩)):P:=h
theorem oq{P:Prop}(h:P:=by rw[d.o,AS];rfl):P:=h
theorem ot{P:Prop}(h:P:=by simp[A2];omega):P:=h
theorem ou{P:Prop}(h:P:=by simpa using h0):P:=h
theorem ow{P:Prop}(h:P:=by simp[World.shape?,show w.heap[d]?=_ from h]):P:=h
theorem ox{P:Prop}(h:P:=by have:=b2.o;omega):P:=h
theorem oy{P:Prop}(h:P:=by have:=c3.o;omega):P:=h
theorem oz{P:Prop}(h:P:=by rw[AT];simpa using B):P:=h
theorem po{P:Prop}(h:P:=by have:=V.o;simpa using this):P:=h
theorem py{P:Prop}(h:P:=by simp[MapKept.IsKey]):P:=h
theorem qe{P:Prop}(h:P:=by rw[←a1.o];rfl):P:=h
theorem qi{P:Prop}(h:P:=by simp[j]):P:=h
theorem qo{P:Prop}(h:P:=by unfold E4;rw[h]):P:=h
theorem qy{P:Prop}(h:P:=by have:=a2 g hv;omega):P:=h
theorem re{P:Prop}(h:P:=by have:=b[k].toNat_lt;omega):P:=h
theorem ri{P:Prop}(h:P:=by have:=J.size;omega):P:=h
theorem ry{P:Prop}(h:P:=by have:=K.size;omega):P:=h
theorem se{P:Prop}(h:P:=by rw[←L.o];rfl):P:=h
theorem su{P:Prop}(h:P:=by rw[AI];exact h):P:=h
theorem sy{P:Prop}(h:P:=by rw[H.o];exact⟨_,rfl⟩):P:=h
theorem ub{P:Prop}(h:P:=by simp[byteCells,strCells]):P:=h
theorem uf{P:Prop}(h:P:=by (simp only[Act.put];rfl)):P:=h
theorem ug{P:Prop}(h:P:=by rw[parseIntB_64];exact h):P:=h
theorem uh{P:Prop}(h:P:=by simp[Bk]):P:=h
theorem ui{P:Prop}(h:P:=by rw[F.o];rfl):P:=h
theorem uj{P:Prop}(h:P:=by have:=a9 b e.symm;omega):P:=h
theorem uk{P:Prop}(h:P:=by rw[R.o];rfl):P:=h
theorem um{P:Prop}(h:P:=by have:=d1 b e.symm;omega):P:=h
theorem uo{P:Prop}(h:P:=by rw[K.o];rfl):P:=h
theorem uq{P:Prop}(h:P:=by rw[H];rfl):P:=h
theorem uu{P:Prop}(h:P:=by rw[GN (by omega)];simp):P:=h
theorem uv{P:Prop}(h:P:=by have:=a2.o;omega):P:=h
theorem uw{P:Prop}(h:P:=by rw[e];simp;omega):P:=h
theorem uy{P:Prop}(h:P:=by rw[CH];omega):P:=h
theorem uz{P:Prop}(h:P:=by rw[BL];omega):P:=h
theorem ve{P:Prop}(h:P:=by rw[d.o,H.o];rfl):P:=h
theorem vo{P:Prop}(h:P:=by rw[G.o]):P:=h
theorem vu{P:Prop}(h:P:=by rw[h.o,A.o];rfl):P:=h
theorem vy{P:Prop}(h:P:=by exact H):P:=h
theorem we{P:Prop}(h:P:=by rw[H.o];exact g):P:=h
theorem wi{P:Prop}(h:P:=by have:=B.size;go_size):P:=h
theorem wu{P:Prop}(h:P:=by have:=a4.size;omega):P:=h
theorem xe{P:Prop}(h:P:=by rw[D.o];rfl):P:=h
theorem xi{P:Prop}(h:P:=by rw[e];rfl):P:=h
theorem xo{P:Prop}(h:P:=by rw[H]at h0;cases h0):P:=h
theorem xu{P:Prop}(h:P:=by simpa using a):P:=h
theorem xy{P:Prop}(h:P:=by exact h):P:=h
theorem ya{P:Prop}(h:P:=by simp[o]):P:=h
theorem yb{P:Prop}(h:P:=by simp[Q0]):P:=h
theorem yc{P:Prop}(h:P:=by simp[go_sem]):P:=h
theorem yd{P:Prop}(h:P:=by rw[a];rfl):P:=h
instance:Coe (List UInt8) Value:=⟨fun s=>.string ⟨s.toArray⟩⟩
instance:Coe Int Value:=⟨fun s=>.int .i64 s⟩
instance:Coe Nat Value:=⟨fun s=>.int .i64 s⟩
instance:Coe Bool Value:=⟨fun s=>.bool s⟩
end Go.Proofs
namespace Go.Proofs
open Go.Shelf
theorem _root_.Go.RowKit.Hid.o{p:Prop}(h:RowKit.Hid p):p:=h
abbrev AE:=@Go.Lib.hid
abbrev AF:=@Nat.le_refl
abbrev AG:=@Go.RowKit.Below.refl
abbrev AH:=@List.drop_eq_getElem_cons
abbrev AI:=@beq_eq_false_iff_ne
abbrev AJ:=@List.length_append
abbrev AK:=@List.length_cons
abbrev AL:=@if_neg
abbrev AM:=@List.getD_eq_getElem?_getD
abbrev AN:=@if_pos
abbrev AO:=@Go.bodyPost_ret
abbrev AP:=@List.append_assoc
abbrev AQ:=@List.getElem_mem
abbrev AR:=@List.getElem?_cons_succ
abbrev AS:=@List.drop_length
abbrev AT:=@Bool.eq_false_iff
abbrev AU:=@List.getElem?_cons_zero
abbrev AV:=@Nat.le_trans
abbrev AW:=@List.all_eq_true
abbrev AX:=@Go.World.size_alloc
abbrev AY:=@decide_eq_false
abbrev AZ:=@List.take_succ_eq_append_getElem
abbrev BC:=@List.getElem?_eq_getElem
abbrev BD:=@List.length_drop
abbrev BG:=@List.length_nil
abbrev BH:=@decide_eq_true
abbrev BI:=@Nat.add_zero
abbrev BJ:=@Go.World.block_lt_of_cell?
abbrev BK:=@List.length_pos_iff
abbrev BL:=@beq_iff_eq
abbrev BM:=@Option.map_eq_some_iff
abbrev BN:=@Nat.lt_of_lt_of_le
abbrev BP:=@List.drop_of_length_le
abbrev BQ:=@UInt8.toNat_inj
abbrev BR:=@Bool.and_eq_true
abbrev BT:=@List.mem_range
abbrev BU:=@List.append_nil
abbrev BV:=@List.flatMap_cons
abbrev BY:=@List.mem_append
abbrev CA:=@Array.getElem?_eq_none
abbrev CB:=@List.getElem?_eq_some_iff
abbrev CC:=@Bool.false_eq_true
abbrev CD:=@List.map_cons
abbrev CE:=@List.take_append_drop
abbrev CF:=@Go.run_callFunc_extern
abbrev CG:=@List.mem_cons
abbrev CH:=@List.length_take
abbrev CI:=@congrArg
abbrev CJ:=@List.mem_cons_of_mem
abbrev CK:=@Go.World.cell?_alloc_lt
abbrev CL:=@Nat.lt_or_ge
abbrev CM:=@List.take_of_length_le
abbrev CN:=@List.mem_cons_self
abbrev CO:=@Go.below_drewN
abbrev CP:=@List.mem_of_getElem?
abbrev CQ:=@Go.IntWalk.i64_in
abbrev CR:=@List.cons_append
abbrev CS:=@List.mem_singleton
abbrev CT:=@List.nil_append
abbrev CU:=@Option.some.inj
abbrev CV:=@Nat.mul_le_mul_right
abbrev CW:=@Array.getElem?_setIfInBounds
abbrev CX:=@UInt8.toNat_ofNat'
abbrev CY:=@List.take_length
abbrev CZ:=@List.flatMap_append
abbrev DA:=@Option.getD_some
abbrev DB:=@List.filter_cons
abbrev DC:=@List.getElem?_eq_none
abbrev DD:=@bne_iff_ne
abbrev DE:=@Nat.zero_le
abbrev DF:=@List.takeWhile_append_dropWhile
abbrev DG:=@List.isPrefixOf_iff_prefix
abbrev DH:=@List.eq_nil_or_concat
abbrev DI:=@List.concat_eq_append
abbrev DJ:=@Go.RowKit.Below.heap_setCell
abbrev DK:=@if_true
abbrev DL:=@Nat.succ_mul
abbrev DM:=@if_false
abbrev DN:=@List.mem_map
abbrev DO:=@Go.Lib.run_unsafeString_none
abbrev DP:=@List.mem_filter
abbrev DQ:=@List.length_map
abbrev DR:=@List.drop_zero
abbrev DS:=@List.drop_left'
abbrev DT:=@List.sum_cons
abbrev DU:=@Go.Proofs.enters_of
abbrev DW:=@List.dropWhile_cons_of_neg
abbrev DX:=@Go.World.frozen?_alloc_old
abbrev DY:=@Bool.eq_iff_iff
abbrev DZ:=@Nat.lt_succ_self
abbrev EA:=@List.length_eq_one_iff
abbrev EB:=@Prod.mk.injEq
abbrev EC:=@List.getElem_append_left
abbrev ED:=@Nat.ne_of_lt
abbrev EE:=@Option.isSome_some
abbrev EF:=@List.getElem?_take
abbrev EG:=@decide_eq_false_iff_not
abbrev EH:=@Option.getD_none
abbrev EI:=@List.length_eq_zero_iff
abbrev EK:=@Bool.not_true
abbrev EL:=@decide_eq_true_eq
abbrev EM:=@List.dropWhile_sublist
abbrev EN:=@Bool.not_false
abbrev EO:=@List.takeWhile_cons
abbrev EP:=@Go.run_convert_bytes_back
abbrev EQ:=@Nat.zero_add
abbrev ER:=@Go.World.size_setCell
abbrev ES:=@List.eq_nil_of_length_eq_zero
abbrev ET:=@List.drop_drop
abbrev EU:=@of_decide_eq_true
abbrev EV:=@List.getElem?_map
abbrev EW:=@Int.toNat_natCast
abbrev EX:=@Nat.min_eq_left
abbrev EY:=@List.dropWhile_cons
abbrev EZ:=@Array.getD_eq_getD_getElem?
abbrev FA:=@Go.MapKept.run_getObj_map
abbrev FB:=@Option.isSome_none
abbrev FC:=@List.dropWhile_cons_of_pos
abbrev FD:=@Array.getElem?_eq_some_iff
abbrev FE:=@UInt8.le_iff_toNat_le
abbrev FF:=@List.length_singleton
abbrev FG:=@List.set_eq_take_append_cons_drop
abbrev FH:=@List.findIdx?_eq_some_iff_getElem
abbrev FI:=@Go.run_underlying
abbrev FJ:=@List.map_append
abbrev FK:=@List.length_zip
abbrev FL:=@List.length_set
abbrev FM:=@Bool.or_eq_true
abbrev FN:=@List.mem_of_getLast?
abbrev FO:=@Nat.lt_irrefl
abbrev FP:=@List.all_cons
abbrev FQ:=@Go.Oper.upon_value
abbrev FR:=@Bool.true_and
abbrev FT:=@List.take_succ_cons
abbrev FU:=@List.mem_flatMap
abbrev FV:=@Go.MapKept.run_findKey
abbrev FW:=@List.take_append_of_le_length
abbrev FX:=@Nat.le_of_eq
abbrev FY:=@List.takeWhile_sublist
abbrev FZ:=@Decidable.em
abbrev GA:=@Except.ok.injEq
abbrev GB:=@List.any_cons
abbrev GC:=@Go.info_parts
abbrev GD:=@Go.callsIn_wide
abbrev GE:=@List.set_append_right
abbrev GF:=@Array.getElem?_toList
abbrev GG:=@Array.getElem?_modify
abbrev GH:=@Bool.not_eq_true'
abbrev GI:=@List.isSuffixOf_iff_suffix
abbrev GJ:=@Go.Lib.run_unsafeSliceData_row
abbrev GK:=@List.isEmpty_iff
abbrev GL:=@List.cons_ne_nil
abbrev GM:=@List.isEmpty_eq_false_iff
abbrev GN:=@List.getElem_append_right
abbrev GO:=@List.getElem?_append_left
abbrev GP:=@Go.World.ownsRow.stored
abbrev GQ:=@Go.Region.noSelect_spec
abbrev GR:=@Go.Lib.byteCells_length
abbrev GS:=@bne_eq_false_iff_eq
abbrev GT:=@Nat.not_lt_zero
abbrev GU:=@List.take_left'
abbrev GV:=@Go.World.ownsRow.alloc
abbrev GW:=@Go.Calls.quiet_of_same
abbrev GX:=@Nat.eq_zero_or_pos
abbrev GY:=@Go.wpAny_done
abbrev GZ:=@Option.some.injEq
abbrev HJ:=@Nat.le_of_lt
abbrev IA:=@Int.lt_or_le
abbrev IB:=@List.contains_iff_mem
abbrev IC:=@Go.World.ownsRow_nil
abbrev ID:=@List.getElem_zip
abbrev IE:=@Nat.mul_one
abbrev IF:=@Nat.le_succ
abbrev IG:=@List.getLast?_append
abbrev IH:=@List.drop_eq_nil_iff
abbrev II:=@List.count_le_length
abbrev IJ:=@Go.RowKit.Below.mono
abbrev IK:=@Go.mem_ready
abbrev IL:=@List.all_append
abbrev IM:=@List.map_congr_left
abbrev IN:=@List.length_reverse
abbrev IP:=@Go.MapKept.run_checkKey
abbrev IQ:=@List.map_map
abbrev IR:=@List.take_zero
abbrev IS:=@List.take_take
abbrev IT:=@List.getElem?_drop
abbrev IU:=@List.all_takeWhile
abbrev IV:=@Bool.and_false
abbrev IW:=@Bool.and_assoc
abbrev IX:=@Array.getElem?_eq_getElem
abbrev IY:=@Go.heap_alloc_new
abbrev IZ:=@Go.Lib.indexByte_some
abbrev JA:=@Array.setIfInBounds_comm
abbrev JB:=@Nat.pow_succ
abbrev JC:=@List.drop_eq_nil_of_le
abbrev JD:=@Option.map_some
abbrev JE:=@List.foldl_cons
abbrev JF:=@List.singleton_append
abbrev JG:=@List.set_getElem_self
abbrev JH:=@List.length_filter_le
abbrev JI:=@List.getElem_set_self
abbrev JJ:=@Go.wpList_plain
abbrev JK:=@Go.results_none
abbrev JL:=@List.mem_of_mem_drop
abbrev JM:=@List.mem_iff_getElem
abbrev JN:=@Go.World.var?_cell
abbrev JO:=@Go.Lib.itoa_nonneg
abbrev JP:=@Bool.or_eq_false_iff
abbrev JQ:=@Array.replicate_zero
abbrev JR:=@Array.replicate_succ
abbrev JS:=@List.reverse_append
abbrev JT:=@List.replicate_succ
abbrev JU:=@List.getElem_of_mem
abbrev JV:=@List.drop_succ_cons
abbrev JW:=@List.append_toArray
abbrev JX:=@Bool.false_or
abbrev JY:=@Bool.and_true
abbrev JZ:=@of_decide_eq_false
abbrev KC:=@List.zip_cons_cons
abbrev KE:=@List.set_cons_succ
abbrev KF:=@List.count_eq_zero
abbrev KG:=@List.contains_cons
abbrev KH:=@Go.wpOp_mono
abbrev KI:=@Nat.add_comm
abbrev KJ:=@List.size_toArray
abbrev KK:=@List.push_toArray
abbrev KL:=@List.getElem_drop
abbrev KM:=@List.count_append
abbrev KN:=@Go.ready_mono
abbrev KO:=@beq_self_eq_true
abbrev KP:=@List.mem_reverse
abbrev KQ:=@List.any_eq_true
abbrev KR:=@List.all_reverse
abbrev KT:=@Nat.sub_sub
abbrev KU:=@List.drop_append_of_le_length
abbrev KV:=@Go.Sem.run_bind
abbrev KW:=@Go.Lib.trimSuffix_le
def Sh.laid{P:Prop}(h:P:=by repeat' first|kernel_rfl|(intro;kernel_rfl)|(intro w h;exact Go.Proofs.cell_of_shapedOpen_int (zero:=#[.int .i64 0]) (t:=3) h (EU af) af rfl af af Tryz.underlying3)|decide|constructor):P:=h
def Tryz.Ek:Go.Shelf.Ren:=⟨fun|99=>17|100=>251|102=>77|109=>63|110=>187|118=>328|119=>293|120=>291|129=>295|137=>100|138=>243|143=>66|144=>31|145=>88|146=>85|149=>112|151=>177|152=>257|153=>178|154=>326|155=>304|156=>155|158=>286|160=>89|161=>91|162=>92|165=>244|166=>78|167=>179|168=>329|169=>80|171=>41|172=>307|173=>248|174=>247|195=>283|197=>218|203=>310|205=>335|206=>52|207=>219|209=>129|210=>188|217=>183|218=>284|219=>122|220=>167|221=>154|222=>203|224=>210|225=>209|226=>258|227=>170|228=>254|229=>132|230=>309|231=>168|232=>169|233=>171|234=>172|235=>173|236=>174|240=>130|241=>285|242=>342|243=>98|244=>327|245=>288|246=>182|247=>287|260=>276|262=>331|266=>263|267=>211|268=>242|270=>330|271=>255|274=>350|275=>351|276=>220|277=>308|278=>349|279=>312|280=>313|281=>314|282=>315|283=>259|284=>260|285=>261|286=>262|287=>311|313=>343|314=>275|315=>292|316=>334|317=>294|318=>296|319=>297|320=>298|321=>332|322=>333|337=>316|338=>317|n=>n,fun|24=>77|31=>55|37=>126|40=>202|46=>150|51=>146|53=>143|59=>157|70=>125|72=>128|75=>25|76=>135|80=>137|85=>304|105=>287|107=>355|116=>235|117=>236|119=>349|124=>239|127=>206|138=>351|139=>352|143=>407|145=>409|146=>331|152=>290|154=>292|160=>418|162=>406|164=>174|167=>356|168=>359|171=>311|173=>314|175=>357|203=>404|206=>423|208=>425|210=>385|212=>340|213=>341|232=>387|233=>388|n=>n,fun|1=>3|3=>5|4=>6|13=>11|15=>7|16=>8|17=>4|18=>9|19=>10|n=>n⟩
def Tryz.rB:Go.Shelf.Ren:=⟨fun|15=>256|17=>175|20=>292|n=>n,fun|23=>202|n=>n,fun|n=>n⟩
def Tryz.rC:Go.Proofs.Lays.n169 Tryz.prog Tryz.Ek:=Sh.laid
def Tryz.P3:Builder.Extra Tryz.prog Tryz.Ek:=Sh.laid
abbrev Tryz.Builder_String_any:=@Any.Builder_String_any _ _ Tryz.rC Tryz.P3
def Tryz.rD:Go.Proofs.Lays.n158 Tryz.prog Tryz.Ek:=Sh.laid
open Go.RowKit in
def Tryz.strings_ToUpper_ascii(s:ByteArray)(w:World)(h:s.size<=140737488355328)(H:∀(j:Nat)(b:UInt8),s.data.toList[j]?=some b->b.toNat<128):Calls Tryz.prog 286 #[.string s] w fun e W=>e=.returned (Lib.toUpperA s.data.toList)/\Below w.heap.size w W:=Any.strings_ToUpper_ascii Tryz.rD Tryz.P3 s w h H
def Tryz.T7:Go.Proofs.Lays.n156 Tryz.prog Tryz.Ek:=Sh.laid
abbrev Tryz.strings_Join_none:=@Any.strings_Join_none _ _ Tryz.T7 Tryz.P3
open Go.RowKit in
def Tryz.strings_Join(b o c:Nat)(xs:List ByteArray)(s:ByteArray)(w:World)(h:∀(j:Nat)x,xs[j]?=some x->w.cell? ⟨b,o+j,none⟩=some (.string x))(H:b<w.heap.size)(N:xs.length<=140737488355328)(p:xs.length<=c)(n:(Lib.join (xs.map (·.data.toList)) s.data.toList).length<=140737488355328):Calls Tryz.prog 155 #[.slice (some ⟨b,o,none⟩) xs.length c,.string s] w fun e W=>e=.returned (Lib.join (xs.map (·.data.toList)) s.data.toList)/\Below w.heap.size w W:=Any.strings_Join Tryz.T7 Tryz.P3 b o c xs s w h H N p n
def Tryz.rE:Go.Proofs.Lays.n161 Tryz.prog Tryz.Ek:=Sh.laid
def Tryz.rF:Go.Proofs.Lays.n162 Tryz.prog Tryz.Ek:=Sh.laid
def Tryz.rG:Go.Proofs.Lays.n160 Tryz.prog Tryz.Ek:=Sh.laid
def Tryz.rH:Go.Proofs.Lays.n137 Tryz.prog Tryz.Ek:=Sh.laid
abbrev Tryz.strings_IndexByte:=@Any.strings_IndexByte _ _ Tryz.rH
def Tryz.rI:Go.Proofs.Lays.n103 Tryz.prog Tryz.Ek:=Sh.laid
abbrev Tryz.strings_CutPrefix:=@Any.strings_CutPrefix _ _ Tryz.rI
def Tryz.rJ:Go.Proofs.LaysM.n171 Tryz.prog Tryz.Ek:=Sh.laid
abbrev Tryz.strconv_Itoa:=@Any.strconv_Itoa _ _ Tryz.rJ
def Tryz.rK:Go.Proofs.LaysM.n173 Tryz.prog Tryz.Ek:=Sh.laid
abbrev Tryz.strconv_FormatInt_10:=@Any.strconv_FormatInt_10 _ _ Tryz.rK
def Tryz.Y2:Go.Proofs.LaysC.n172 Tryz.prog Tryz.Ek:=Sh.laid
abbrev Tryz.strconv_Atoi_ok:=@Any.strconv_Atoi_ok _ _ Tryz.Y2
abbrev Tryz.strconv_Atoi_syntax:=@Any.strconv_Atoi_syntax _ _ Tryz.Y2
abbrev Tryz.strconv_Atoi_range:=@Any.strconv_Atoi_range _ _ Tryz.Y2
def Tryz.dG:Go.Proofs.Lays.n143 Tryz.prog Tryz.Ek:=Sh.laid
abbrev Tryz.strings_Index_one:=@Any.strings_Index_one _ _ Tryz.dG
abbrev Tryz.strings_Index:=@Any.strings_Index _ _ Tryz.dG
def Tryz.rL:Go.Proofs.Lays.n144 Tryz.prog Tryz.Ek:=Sh.laid
abbrev Tryz.strings_Contains:=@Any.strings_Contains _ _ Tryz.rL
def Tryz.rM:Go.Proofs.Lays.n145 Tryz.prog Tryz.Ek:=Sh.laid
abbrev Tryz.strings_Cut:=@Any.strings_Cut _ _ Tryz.rM
def Tryz.rN:Go.Proofs.Lays.n138 Tryz.prog Tryz.Ek:=Sh.laid
abbrev Tryz.strings_Count_one:=@Any.strings_Count_one _ _ Tryz.rN
def Tryz.rO:Go.Proofs.LaysM.n145 Tryz.prog Tryz.Ek:=Sh.laid
def Tryz.rP:Go.Proofs.Lays.n149 Tryz.prog Tryz.Ek:=Sh.laid
abbrev Tryz.strings_LastIndexByte:=@Any.strings_LastIndexByte _ _ Tryz.rP
def Tryz.rQ:Go.Proofs.LaysGw.n17 Tryz.prog Tryz.rB:=Sh.laid
def Tryz.rR:Go.Proofs.Lays.n99 Tryz.prog Tryz.Ek:=Sh.laid
abbrev Tryz.strings_HasPrefix:=@Any.strings_HasPrefix _ _ Tryz.rR
def Tryz.rS:Go.Proofs.Lays.n100 Tryz.prog Tryz.Ek:=Sh.laid
abbrev Tryz.strings_HasSuffix:=@Any.strings_HasSuffix _ _ Tryz.rS
def Tryz.rT:Go.Proofs.Lays.n102 Tryz.prog Tryz.Ek:=Sh.laid
abbrev Tryz.strings_TrimSuffix:=@Any.strings_TrimSuffix _ _ Tryz.rT
def Tryz.rU:Go.Proofs.Lays.n146 Tryz.prog Tryz.Ek:=Sh.laid
abbrev Tryz.strings_Split:=@Any.strings_Split _ _ Tryz.rU af
def Tryz.rV:Go.Proofs.Lays.n155 Tryz.prog Tryz.Ek:=Sh.laid
abbrev Tryz.strings_ReplaceAll:=@Any.strings_ReplaceAll _ _ Tryz.rV Tryz.P3
def Tryz.rW:Go.Proofs.Lays.n152 Tryz.prog Tryz.Ek:=Sh.laid
abbrev Tryz.strings_IndexRune_ascii:=@Any.strings_IndexRune_ascii _ _ Tryz.rW
def Tryz.rX:Go.Proofs.Lays.n151 Tryz.prog Tryz.Ek:=Sh.laid
abbrev Tryz.strings_ContainsRune_ascii:=@Any.strings_ContainsRune_ascii _ _ Tryz.rX
def Tryz.rY:Go.Proofs.Lays.n226 Tryz.prog Tryz.Ek:=Sh.laid
abbrev Tryz.strings_shouldUseASCIISet:=@Any.strings_shouldUseASCIISet _ _ Tryz.rY
def Tryz.rZ:Go.Proofs.Lays.n153 Tryz.prog Tryz.Ek:=Sh.laid
open Go.RowKit Go.Lib in
def Tryz.strings_IndexAny_long(h:∀w,(zeroValue 235).run Tryz.prog w=.ok (.agg (Array.replicate 256 false)) w)(s c:ByteArray)(w:World)(H:2<=c.size)(a:8<s.size)(d:s.size<4294967281)(f:c.size<4294967281)(i:∀(j:Nat)b,c.data.toList[j]?=some b->b.toNat<128):Calls Tryz.prog 178 #[.string s,.string c] w fun e W=>e=.returned (.int .i64 (Lib.indexAny s.data.toList c.data.toList))/\W=((w.alloc (.cells (Lib.setCells c.data.toList) 235)).alloc (.cells (Lib.setCells c.data.toList) 235)):=Any.strings_IndexAny_long Tryz.rZ h af s c w H a d f i
def Tryz.sA:Go.Proofs.Lays.n229 Tryz.prog Tryz.Ek:=Sh.laid
abbrev Tryz.strings_ContainsFunc_grows:=@Any.strings_ContainsFunc_grows _ _ Tryz.rQ
open Go.RowKit Go.Lib in
def Tryz.strings_FieldsFunc_grows(g:Nat)(lb:Array Value)(E:∀a w,(callFunc g a).run Tryz.prog w=.ok (.enter g a) w)(p:Nat->Bool)(s:ByteArray)(w:World)(h:s.size<=4294967296)(H:PredGrows Tryz.prog g lb p w):Calls Tryz.prog 132 #[.string s,.func (.func g) #[] lb] w fun e W=>∃A,e=.returned (.slice (some ⟨A,0,none⟩) (Lib.goFieldsP p s).length (Lib.goFieldsP p s).length)/\w.heap.size<=A/\W.ownsRow w.heap.size 9 1 (.slice (some ⟨A,0,none⟩) (Lib.goFieldsP p s).length (Lib.goFieldsP p s).length) (Lib.goFieldsP p s).length ((Lib.goFieldsP p s).map Value.string)/\Below w.heap.size w W:=Any.strings_FieldsFunc_grows Tryz.sA g lb E p s w h H af af
def Tryz.sB:Go.Proofs.Lays.n110 Tryz.prog Tryz.Ek:=Sh.laid
abbrev Tryz.slices_Contains_string:=@Any.slices_Contains_string _ _ Tryz.sB
def Tryz.Y3:Go.Proofs.LaysC.n174 Tryz.prog Tryz.Ek:=Sh.laid
abbrev Tryz.strconv_ParseInt_10_at64_ok:=@Any.strconv_ParseInt_10_at64_ok _ _ Tryz.Y3
abbrev Tryz.strconv_ParseInt_10_at64_syntax:=@Any.strconv_ParseInt_10_at64_syntax _ _ Tryz.Y3
abbrev Tryz.strconv_ParseInt_10_at64_range:=@Any.strconv_ParseInt_10_at64_range _ _ Tryz.Y3
end Go.Proofs
namespace Go.Proofs.YtignjjnflcpiiaaGreatDoor
open Go Go.RowKit Proofs.Tryz Lib
abbrev Bs:=List UInt8
def Ao(p:Bs):Bs->Option (Bs×Bs)
 |[]=>if p=[]then some ([],[])else none
 |c::l=>if p.isPrefixOf (c::l)then some ([],(c::l).drop p.length)else(Ao p l).map fun x=>(c::x.1,x.2)
def dH(p:Bs)(l:Bs)(h:p.isPrefixOf l=true):l=p++l.drop p.length:=by
 obtain⟨t,rfl⟩:=DG.1 h;simp
variable {p l a b x y:Bs}{c:UInt8}
def F7(h:Ao p l=some (a,b)):l=a++p++b:=by
 induction l generalizing a with
 |nil=>
  unfold Ao at h;split at h
  ·rename_i H;simp at h;simp[h.1,<-h.2,H]
  cases h
 |cons c l ih=>
  unfold Ao at h;split at h
  ·rename_i H;simp at h;obtain⟨rfl,rfl⟩:=h;simpa using dH p _ H
  cases d:Ao p l with
  |none=>simp[d]at h
  |some x=>
   obtain⟨X,e⟩:=x;simp[d]at h;obtain⟨rfl,rfl⟩:=h;simp[ih d]
def Jl(p l:Bs):index l p=match Ao p l with|none=>-1|some x=>(x.1.length:Int):=by
 induction l with
 |nil=>by_cases h:p=[]<;>simp[index,Ao,h]
 |cons c l ih=>
  unfold index Ao;by_cases h:p.isPrefixOf (c::l)=true
  ·simp[h]
  simp only[h,DM,CC,ih];cases Ao p l with
  |none=>simp
  |some x=>
   have:¬((x.1.length:Int)=-1):=aa
   simp[this]
def Gs(p l:Bs):cut l p=match Ao p l with|none=>(l,[],false)|some x=>(x.1,x.2,true):=by
 unfold cut;rw[Jl];cases h:Ao p l with
 |none=>simp
 |some x=>
  obtain⟨a,b⟩:=x;have:=F7 h;simp[this]
def Y4(c:UInt8)(l:Bs):indexByte l c=match Ao [c] l with|none=>-1|some x=>(x.1.length:Int):=by
 induction l with
 |nil=>simp[indexByte,Ao]
 |cons b l ih=>
  unfold indexByte Ao;by_cases h:b=c
  ·subst h;simp[List.isPrefixOf]
  have H:(b==c)=false:=ek
  have a:[c].isPrefixOf (b::l)=false:=by simp[List.isPrefixOf];exact fun e=>h e.symm
  simp only[H,a,DM,CC,ih];cases Ao [c] l with
  |none=>simp
  |some x=>
   have:¬((x.1.length:Int)=-1):=aa
   simp[this]
def Mu:Ao [c] l=none↔c∉l:=by
 induction l with
 |nil=>simp[Ao]
 |cons b l ih=>
  unfold Ao;by_cases h:b=c
  ·subst h;simp[List.isPrefixOf]
  have H:[c].isPrefixOf (b::l)=false:=by simp[List.isPrefixOf];exact fun e=>h e.symm
  simp[H,ih];exact fun _ e=>h e.symm
def Rj(h:Ao [c] l=some (a,b)):l=a++c::b/\c∉a:=by
 refine⟨by simpa using F7 h,?_⟩;induction l generalizing a with
 |nil=>simp[Ao]at h
 |cons x l ih=>
  unfold Ao at h;by_cases e:x=c
  ·subst e;simp[List.isPrefixOf]at h;simp[h.1]
  have d:[c].isPrefixOf (x::l)=false:=by simp[List.isPrefixOf];exact fun E=>e E.symm
  cases H:Ao [c] l with
  |none=>simp[d,H]at h
  |some y=>
   obtain⟨Y,f⟩:=y;simp[d,H]at h;obtain⟨rfl,rfl⟩:=h;simp only[CG,not_or];exact⟨fun E=>e E.symm,ih H⟩
def P4(h:c∉a):Ao [c] (a++c::b)=some (a,b):=by
 induction a with
 |nil=>simp[Ao,List.isPrefixOf]
 |cons x a ih=>
  simp only[CG,not_or]at h;have H:[c].isPrefixOf (x::(a++c::b))=false:=by simp[List.isPrefixOf];exact h.1
  simp[Ao,H,ih h.2]
def Ad(c:UInt8):Bs->List Bs
 |[]=>[[]]
 |x::l=>if x=c then[]::Ad c l else match Ad c l with|[]=>[[x]]|h::t=>(x::h)::t
def Lx(c:UInt8)(l:Bs):Ad c l≠[]:=by
 cases l with
 |nil=>simp[Ad]
 |cons x l=>
  unfold Ad;split;·simp
  split<;>simp
def Vb(h:c∉l):Ad c l=[l]:=by
 induction l with
 |nil=>rfl
 |cons x l ih=>
  simp only[CG,not_or]at h;have H:¬x=c:=fun e=>h.1 e.symm
  simp[Ad,H,ih h.2]
def Y5(h:c∉a):Ad c (a++c::b)=a::Ad c b:=by
 induction a with
 |nil=>simp[Ad]
 |cons x a ih=>
  simp only[CG,not_or]at h;have H:¬x=c:=fun e=>h.1 e.symm
  simp[Ad,H,ih h.2]
def T8(c:UInt8)(l:Bs):(Ad c l).length=l.count c+1:=by
 induction l with
 |nil=>rfl
 |cons x l ih=>
  unfold Ad;by_cases h:x=c
  ·subst h;simp[ih]
  simp only[h,DM];have H:(x::l).count c=l.count c:=by rw[List.count_cons];simp[h]
  rw[H];split
  ·rename_i e;exact absurd e (Lx c l)
  rename_i d t e;rw[e]at ih;simpa using ih
theorem dI(c:UInt8):∀(n:Nat)(l:Bs),l.count c=n->splitK [c] 0 n l=Ad c l
 |0,l,h=>by
  rw[Vb (KF.1 h)];rfl
 |n+1,l,h=>by
  unfold splitK;rw[Jl];cases H:Ao [c] l with
  |none=>rw[Mu]at H;have:=KF.2 H;omega
  |some x=>
   obtain⟨a,b⟩:=x;obtain⟨e,d⟩:=Rj H;have f:((a.length:Int)==-1)=false:=di
   simp only[f,CC,DM];have g:b.count c=n:=by
    rw[e,KM,KF.2 d]at h;simp at h;omega
   rw[e,Y5 d];simp;have:=dI c n b g;simpa using this
def sC(c:UInt8)(l:Bs):splitB ⟨#[c]⟩ 0 (countB ⟨l.toArray⟩ ⟨#[c]⟩) ⟨l.toArray⟩=(Ad c l).map fun x=>(⟨x.toArray⟩:ByteArray):=by
 have h:=splitB_data ⟨#[c]⟩ 0 (countB ⟨l.toArray⟩ ⟨#[c]⟩) ⟨l.toArray⟩;have H:countB ⟨l.toArray⟩ ⟨#[c]⟩=l.count c:=count_one c l;rw[H]at h|-;have a:splitK [c] 0 (l.count c) l=Ad c l:=dI c _ l rfl;have b:(splitB ⟨#[c]⟩ 0 (l.count c) ⟨l.toArray⟩).map (·.data.toList)=Ad c l:=h.trans a;rw[<-b,IQ];conv=>lhs;rw[<-List.map_id (splitB ⟨#[c]⟩ 0 (l.count c) ⟨l.toArray⟩)]
 apply IM;intro x _;exact(mk_data x).symm
def sD(c:UInt8)(l:Bs):countB ⟨l.toArray⟩ ⟨#[c]⟩+1=(Ad c l).length:=by
 rw[T8];congr 1;exact count_one c l
def Q1:Bs:=[65,66,67,68,69,70,71,72,73,74,75,76,77,78,79,80,81,82,83,84,85,86,87,88,89,90,97,98,99,100,101,102,103,104,105,106,107,108,109,110,111,112,113,114,115,116,117,118,119,120,121,122,48,49,50,51,52,53,54,55,56,57,43,47]
def Bv(n:Nat):UInt8:=Q1.getD n 0
def Cy(v:Nat)(n:Nat):Bs:=[Bv (v/262144%64),Bv (v/4096%64),if 2<=n then Bv (v/64%64)else 61,if 3<=n then Bv (v%64)else 61]
def Dm:Bs->Nat->Bs
 |[],_=>[]
 |[a],_=>Cy (a.toNat*65536) 1++[13,10]
 |[a,b],_=>Cy (a.toNat*65536+b.toNat*256) 2++[13,10]
 |a::b::c::l,n=>Cy (a.toNat*65536+b.toNat*256+c.toNat) 3++(if n+4=76\/l=[]then[13,10]++Dm l 0 else Dm l (n+4))
def Dn(b:Bs):Bs:=Dm b 0
theorem Gt(v n:Nat):(Cy v n).length=4:=rfl
theorem Y6:∀(b:Bs)(n:Nat),(Dm b n).length<=6*b.length
 |[],_=>by simp[Dm]
 |[a],_=>by simp[Dm,Gt]
 |[a,b],_=>by simp[Dm,Gt]
 |a::b::c::l,n=>by
  unfold Dm;split
  ·have:=Y6 l 0;simp[Gt];omega
  have:=Y6 l (n+4);simp[Gt];omega
def Y7(b:Bs):(Dn b).length<=6*b.length:=Y6 b 0
def Am(c:UInt8):Bool:=c==13||c==10||c==32||c==9
def Bb(c:UInt8):Int:=indexByte Q1 c
def Gb(c:UInt8)(n p:Nat):Option (Nat×Nat):=
 if c=61/\2<=n%4 then some (0,p+1)else if Bb c<0\/0<p then none else some ((Bb c).toNat,p)
def F8(v n p:Nat):Option (Bs×Nat×Nat×Nat):=
 if 0<n%4 then some ([],v,n,p)
 else if p=1/\v%256≠0\/p=2/\v%65536≠0 then none
 else some ([(v/65536).toUInt8,(v/256).toUInt8,v.toUInt8].take (3-p),0,n,p)
def J6(c:UInt8)(v n P:Nat):Option (Bs×Nat×Nat×Nat):=
 if Am c then some ([],v,n,P)else match Gb c n P with
  |none=>none
  |some (k,p)=>F8 (v*64+k) (n+1) p
def Ce:Bs->Nat->Nat->Nat->Option Bs
 |[],_,n,_=>if 0<n%4 then none else some []
 |c::l,v,n,p=>match J6 c v n p with
  |none=>none
  |some (o,V,N,P)=>(Ce l V N P).map (o++·)
def Dr(s:Bs):Option Bs:=Ce s 0 0 0
def Vc(v n p:Nat):Prop:=p<=2/\(n%4=1->p=0)/\(n%4=2->p=0)/\(n%4=3->p<=1)/\v<262144/\(n%4=0->v=0)/\(n%4=1->v<64)/\(n%4=2->v<4096)
def sE:((List.range 256).all fun n=>decide (-1<=Bb n.toUInt8)&&decide (Bb n.toUInt8<64))=true:=af
def Y8(c:UInt8):-1<=Bb c/\Bb c<64:=by
 have:=AW.1 sE c.toNat (BT.2 c.toNat_lt);rw[show c.toNat.toUInt8=c by simp]at this;simpa using this
def Hy(c:UInt8):Bool:=decide (33<=c)&&decide (c<=126)&&c !=61
def Mv(n:Nat):UInt8:=([48,49,50,51,52,53,54,55,56,57,65,66,67,68,69,70]:Bs).getD n 0
def Gc(c:UInt8)(l:Bool):Bs:=if Hy c||(c==32||c==9)&&!l then[c]else[61,Mv (c.toNat/16),Mv (c.toNat%16)]
def Ni(c:UInt8)(l:Bool):Bool:=!(Hy c)&&((c !=32&&c !=9)||l)
def sF(c:UInt8)(l:Bool):Gc c l=if Ni c l then[61,Mv (c.toNat/16),Mv (c.toNat%16)]else[c]:=by
 unfold Gc Ni;cases Hy c<;>cases h:(c==32)<;>cases H:(c==9)<;>cases l<;>simp[bne,h,H]
def Gu:Bs->Nat->Bs
 |[],_=>[]
 |c::l,n=>if n+(Gc c l.isEmpty).length>(if l.isEmpty then 76 else 75)then[61,13,10]++Gc c l.isEmpty++Gu l (Gc c l.isEmpty).length
  else Gc c l.isEmpty++Gu l (n+(Gc c l.isEmpty).length)
def E5(b:Bs):Bs:=Gu b 0
def Y9(c:UInt8)(b:Bool):1<=(Gc c b).length/\(Gc c b).length<=3:=by
 unfold Gc;split<;>simp
theorem Ya:∀(b:Bs)(n:Nat),(Gu b n).length<=6*b.length
 |[],_=>by simp[Gu]
 |c::l,n=>by
  have h:=Y9 c l.isEmpty;unfold Gu;generalize(if l.isEmpty=true then 76 else 75)=r;split
  ·have:=Ya l (Gc c l.isEmpty).length;simp;omega
  have:=Ya l (n+(Gc c l.isEmpty).length);simp;omega
def Q4(b:Bs):(E5 b).length<=6*b.length:=Ya b 0
def El(c:UInt8):Int:=if 48<=c/\c<=57 then(c.toNat:Int)-48 else if 65<=c/\c<=70 then(c.toNat:Int)-65+10 else if 97<=c/\c<=102 then(c.toNat:Int)-97+10 else-1
def sG:((List.range 256).all fun n=>decide (-1<=El n.toUInt8)&&decide (El n.toUInt8<16))=true:=af
def Vd(c:UInt8):-1<=El c/\El c<16:=by
 have:=AW.1 sG c.toNat (BT.2 c.toNat_lt);rw[show c.toNat.toUInt8=c by simp]at this;simpa using this
def Ly(c:UInt8):Bool:=Hy c||c==32||c==9
def Jm:Bs->Option (UInt8×Bs)
 |61::a::b::l=>if 0<=El a/\0<=El b then some ((El a*16+El b).toNat.toUInt8,l)else none
 |c::l=>if Ly c then some (c,l)else none
 |[]=>none
def Yb(h:Jm x=some (c,y)):y.length<x.length:=by
 unfold Jm at h;split at h
 ·split at h
  ·simp at h;simp[<-h.2];omega
  cases h
 ·split at h
  ·simp at h;simp[<-h.2]
  cases h
 cases h
def Kf:Nat->Bs->Option Bs
 |_,[]=>some []
 |0,_=>none
 |k+1,x=>match Jm x with
  |none=>none
  |some (c,y)=>(Kf k y).map (c::·)
def Db(x:Bs):Option Bs:=Kf x.length x
theorem dJ:∀(k m:Nat)(x:Bs),x.length<=k->x.length<=m->Kf k x=Kf m x
 |_,_,[],_,_=>by simp[Kf]
 |0,_,c::l,h,_=>en
 |_,0,c::l,_,h=>en
 |k+1,m+1,c::l,a,b=>by
  unfold Kf;cases H:Jm (c::l)with
  |none=>rfl
  |some r=>
   obtain⟨d,y⟩:=r;have:=Yb H;simp only;rw[dJ k m y (by simp at*;omega) (by simp at*;omega)]
def Ve(h:x≠[]):Db x=match Jm x with|none=>none|some (c,y)=>(Db y).map (c::·):=by
 cases x with
 |nil=>exact absurd rfl h
 |cons a l=>
  unfold Db;rw[(ca:(a::l).length=l.length+1)];conv=>lhs;unfold Kf
  cases H:Jm (a::l)with
  |none=>rfl
  |some r=>
   obtain⟨d,y⟩:=r;have:=Yb H;simp only;rw[dJ l.length y.length y (by simp at this;omega) (AF _)]
def Mw(x:Bs):Bool:=hasSuffix (trimRightS x [32,9]) [61]
def J7(x:Bs):Bs:=trimSuffix (trimRightS x [32,9]) [61]
def Dz:List Bs->Option Bs
 |[]=>some []
 |x::X=>match Db (J7 x)with
  |none=>none
  |some a=>(Dz X).map (a++(if Mw x||X.isEmpty then[]else[13,10])++·)
def Df(s:Bs):Option Bs:=Dz (Lib.split s [13,10])
theorem Yc(p:Bs):∀(n:Nat)(s x:Bs),x∈splitK p 0 n s->x.length<=s.length
 |0,s,x,h=>by simp[splitK]at h;rw[h];exact AF _
 |n+1,s,x,h=>by
  unfold splitK at h;split at h
  ·simp at h;rw[h];exact AF _
  rcases CG.1 h with h|h
  ·rw[h];simp;omega
  have:=Yc p n _ x h;simp at this;omega
def T9(x cs:Bs):(trimRightS x cs).length<=x.length:=by
 unfold trimRightS;rw[IN];have:=(EM (fun c=>cs.contains c) (l:=x.reverse)).length_le;simpa using this
def Yd(x:Bs):(J7 x).length<=x.length:=by
 have h:(trimRightS x [32,9]).length<=x.length:=by
  unfold trimRightS;rw[IN];have:=(EM (fun c=>([32,9]:Bs).contains c) (l:=x.reverse)).length_le;simpa using this
 unfold J7 trimSuffix;split
 ·simp;omega
 exact h
end Go.Proofs.YtignjjnflcpiiaaGreatDoor
namespace Go.Proofs.YtignjjnflcpiiaaGreatDoor
open Go Go.RowKit Proofs.Tryz Lib
def Bm{a b:Bool}(h:a=b):Ending.returned a=.returned b:=by rw[h]
def Fg{k:IntKind}{a b:Int}(h:a=b):Ending.returned (.int k a)=.returned (.int k b):=by rw[h]
def Hz{a b:List UInt8}(h:a=b):Ending.returned a=.returned b:=by rw[h]
@[go_sem]theorem Ab6(l:List UInt8)(k:Nat)(h:k<(⟨l.toArray⟩:ByteArray).size):(⟨l.toArray⟩:ByteArray)[k]'h=l[k]'h:=rfl
@[go_sem]theorem sH(l:List UInt8)(a b:Nat):(⟨l.toArray⟩:ByteArray).extract a b=⟨((l.drop a).take (b-a)).toArray⟩:=extract_eq _ _ _
@[go_sem]theorem Ab7(l:List UInt8)(a:Nat):(l.drop a).take (l.length-a)=l.drop a:=CM ah
@[go_sem]theorem Ab8(a b:List UInt8):(⟨a.toArray⟩:ByteArray)++⟨b.toArray⟩=⟨(a++b).toArray⟩:=by
 apply ByteArray.ext;rw[ByteArray.data_append];simp
def Er(b j:Nat):(⟨b,0,none⟩:Go.Addr).add j=⟨b,j,none⟩:=by
 unfold Go.Addr.add;split
 ·rename_i h;rw[h]
 simp
def Bp{w0 W w:World}(h:Below W.heap.size W w)(K:Below w0.heap.size w0 W):Below w0.heap.size w0 w:=K.trans (h.mono K.size)
def A0(w:World)(b:Nat)(c:Array Value)(t:TypeId):Prop:=w.heap[b]?=some (.cells c t (0,0))
variable {t:TypeId}{c:Array Value}{b B j:Nat}{l:List UInt8}
def A0.cell{w:World}(h:A0 w b c t)(j:Nat):w.cell? ⟨b,j,none⟩=c[j]?:=by
 unfold A0 at h;simp[World.cell?,h]
def A0.free{w:World}(h:A0 w b c t)(j:Nat):w.frozen? ⟨b,j,none⟩=false:=by
 unfold A0 at h;simp[World.frozen?,h]
def A0.lt{w:World}(h:A0 w b c t):b<w.heap.size:=by
 unfold A0 at h;rcases CL b w.heap.size with H|H
 ·exact H
 simp[CA H]at h
def A0.next{w w':World}(h:A0 w b c t)(H:Below B w w')(a:b<B):A0 w' b c t:=(H.block b a).trans h
def A0.set{w:World}(h:A0 w b c t)(j:Nat)(v:Value):A0 (w.setCell ⟨b,j,none⟩ v) b (c.setIfInBounds j v) t:=by
 unfold A0 at h|-;simp[World.setCell,GG,h]
def A0.A6{w:World}(h:A0 w b c t){a:Go.Addr}(H:b≠a.block)(v:Value):A0 (w.setCell a v) b c t:=(DJ w a v b H).trans h
def A0.alloc{w:World}{b:Nat}{c:Array Value}{t:TypeId}(h:A0 w b c t)(o:Obj):A0 (w.alloc o) b c t:=(Below.heap_alloc w o b h.lt).trans h
def A0.drew{w:World}{b:Nat}{c:Array Value}{t:TypeId}(h:A0 w b c t):A0 w.drew b c t:=h
def A0.new(w:World)(c:Array Value)(t:TypeId):A0 (w.alloc (.cells c t)) w.heap.size c t:=IY w _
def Fo(w:World)(b:Nat)(l:List UInt8):Prop:=∃C t L H,w.heap[b]?=some (.cells C t (L,H))/\l.length<=L/\∀j(h:j<l.length),C[j]?=some (.int .u8 (l[j].toNat:Int))
def Fo.cell{w:World}(h:Fo w b l)(H:j<l.length):w.cell? ⟨b,j,none⟩=some (.int .u8 (l[j].toNat:Int)):=by
 obtain⟨C,t,L,i,a,o,c⟩:=h;simp[World.cell?,a,c j H]
def Fo.frozen{w:World}(h:Fo w b l)(a:j<l.length):w.frozen? ⟨b,j,none⟩=false:=by
 obtain⟨C,t,L,i,H,o,c⟩:=h;simp only[World.frozen?,H];simp;omega
def Fo.lt{w:World}(h:Fo w b l):b<w.heap.size:=by
 obtain⟨C,t,L,i,a,_⟩:=h;rcases CL b w.heap.size with H|H
 ·exact H
 simp[CA H]at a
def Fo.of_block{w w':World}(h:Fo w b l)(e:w'.heap[b]?=w.heap[b]?):Fo w' b l:=by
 unfold Fo at h|-;rw[e];exact h
def Fo.below{w w':World}(h:Fo w b l)(H:Below B w w')(t:b<B):Fo w' b l:=h.of_block (H.block b t)
def Fo.set{w:World}{b:Nat}{l:List UInt8}(h:Fo w b l)(j:Nat)(c:UInt8):Fo (w.setCell ⟨b,j,none⟩ (.int .u8 (c.toNat:Int))) b (l.set j c):=by
 obtain⟨C,t,L,f,g,o,a⟩:=h;refine⟨C.setIfInBounds j (.int .u8 (c.toNat:Int)),t,L,f,?_,by simpa using o,?_⟩
 ·simp[World.setCell,GG,g]
 intro i k;have d:i<l.length:=by simpa using k
 rw[CW];by_cases e:j=i
 ·subst e;have:j<C.size:=by
   rcases CL j C.size with H|H
   ·exact H
   have:=a j d;rw[CA H]at this;cases this
  simp[this]
 simp[e,a i d,List.getElem_set_ne e]
def dK(w:World)(l:List UInt8)(cap e:Nat):Fo (w.alloc (.cells (bytesRow ⟨l.toArray⟩ cap) e ((bytesRow ⟨l.toArray⟩ cap).size,(bytesRow ⟨l.toArray⟩ cap).size+1))) w.heap.size l:=by
 refine⟨_,e,_,_,IY w _,?_,?_⟩
 ·simp[bytesRow]
 intro j h;rw[bytesRow_at _ _ _ ek];simp
end Go.Proofs.YtignjjnflcpiiaaGreatDoor
namespace Go.Proofs.YtignjjnflcpiiaaGreatDoor
open Go Go.RowKit Proofs.Tryz Lib
structure Cj(w:World):Prop where
 maxLen:∃m,w.cell? ⟨3,0,none⟩=some (.int .i64 m)
variable {B cap g n k b t:Nat}{w':World}{xs:List Bs}{v z:Value}{a:Act}{rest:List Oper}{O:Array Oper}{Q:Exit → Act → World → Prop}{y l:Bs}{α:Type}
def Cj.below{w:World}(h:Cj w)(H:Below B w w')(a:3<B):Cj w':=by
 obtain⟨m,b⟩:=h.maxLen;exact⟨m,(H.cell (p:=⟨_,0,none⟩) a).trans b⟩
def Cj.size{w:World}(h:Cj w):3<w.heap.size:=by
 obtain⟨m,H⟩:=h.maxLen;exact BJ w _ H
def Cj.next{w:World}(h:Cj w)(H:Below w.heap.size w w'):Cj w':=h.below H h.size
def Vf(w:World)(n B:Nat):Below B w (w.drewN n):=CO (AG B w) n
def P5(l:Bs)(c:Int)(d:UInt8)(h:c.toNat.toUInt8=d)(w:World):Calls prog 100 #[l,.int .u8 c] w fun e W=>e=.returned (.int .i64 (indexByte l d))/\w=W:=by
 refine(Tryz.strings_IndexByte ⟨l.toArray⟩ c w).mono ?_;rintro e W⟨rfl,rfl⟩;rw[h];exact⟨rfl,rfl⟩
def Nj(l p:Bs)(w:World)(h:l.length<4294967281)(H:Cj w):Calls prog 88 #[l,p] w fun e W=>
   e=.returned (.tuple #[.string ⟨(cut l p).1.toArray⟩,.string ⟨(cut l p).2.1.toArray⟩,.bool (cut l p).2.2])/\Below w.heap.size w W:=by
 obtain⟨m,a⟩:=H.maxLen;refine(Tryz.strings_Cut ⟨l.toArray⟩ ⟨p.toArray⟩ m w h a).mono ?_;rintro e W⟨rfl,n,rfl⟩;exact⟨rfl,Vf w n _⟩
def Ye(l p:Bs)(w:World):Calls prog 103 #[l,p] w fun e W=>e=.returned (.tuple #[trimPrefix l p,.bool (hasPrefix l p)])/\w=W:=by
 refine(Tryz.strings_CutPrefix ⟨l.toArray⟩ ⟨p.toArray⟩ w).mono ?_;rintro e W⟨rfl,rfl⟩;exact⟨rfl,rfl⟩
def L6(l p:Bs)(w:World):Calls prog 17 #[l,p] w fun e W=>e=.returned (.bool (hasPrefix l p))/\w=W:=by
 refine(Tryz.strings_HasPrefix ⟨l.toArray⟩ ⟨p.toArray⟩ w).mono ?_;rintro e W⟨rfl,rfl⟩;exact⟨rfl,rfl⟩
def sI(l:Bs)(c:Int)(w:World)(h:l.length<4611686018427387904):Calls prog 112 #[l,.int .u8 c] w fun e W=>e=.returned (.int .i64 (lastIndexByte ⟨l.toArray⟩ c))/\w=W:=by
 refine(Tryz.strings_LastIndexByte ⟨l.toArray⟩ c h w).mono ?_;rintro e W⟨rfl,rfl⟩;exact⟨rfl,rfl⟩
def Yf(l p:Bs)(w:World)(h:l.length<4294967281)(H:Cj w):Calls prog 66 #[l,p] w fun e W=>e=.returned (.int .i64 (index l p))/\w=W:=by
 obtain⟨m,a⟩:=H.maxLen;refine(Tryz.strings_Index ⟨l.toArray⟩ ⟨p.toArray⟩ m w h a).mono ?_;rintro e W⟨rfl,rfl⟩;exact⟨rfl,rfl⟩
def Ds(xs:List Bs):Array Value:=(xs.map fun x=>Value.string ⟨x.toArray⟩).toArray
def Ta(l:Bs)(c:UInt8)(w:World)(h:l.length<4294967281)(H:Cj w):Calls prog 85 #[l,.string ⟨#[c]⟩] w fun e W=>
   e=.returned (.slice (some ⟨w.heap.size,0,none⟩) (Ad c l).length (Ad c l).length)/\W=w.alloc (.cells (Ds (Ad c l)) 9):=by
 obtain⟨m,a⟩:=H.maxLen;refine(Tryz.strings_Split ⟨l.toArray⟩ ⟨#[c]⟩ m w h a (AF 1)).mono ?_;rintro e W⟨rfl,rfl⟩;rw[sD,sC,IQ];exact⟨rfl,rfl⟩
def Tb(b o c:Nat)(xs:List Bs)(p:Bs)(w:World)(s:∀(j:Nat)x,xs[j]?=some x->w.cell? ⟨b,o+j,none⟩=some x)(k:b<w.heap.size)(N:xs.length<=140737488355328)(d:xs.length<=c)(n:(join xs p).length<=140737488355328):Calls prog 155 #[.slice (some ⟨b,o,none⟩) xs.length c,p] w fun e W=>e=.returned (join xs p)/\Below w.heap.size w W:=by
 have m:(xs.map fun x=>(⟨x.toArray⟩:ByteArray)).map (·.data.toList)=xs:=by
  rw[IQ];conv=>rhs;rw[<-List.map_id xs]
  exact IM fun x _=>rfl
 have h:=Tryz.strings_Join b o c (xs.map fun x=>(⟨x.toArray⟩:ByteArray)) ⟨p.toArray⟩ w (fun j x H=>by
  rw[EV]at H;cases a:xs[j]?with
  |none=>rw[a]at H;cases H
  |some y=>rw[a]at H;simp at H;rw[<-H];exact s j y a) k (by simpa using N) (by simpa using d) (by rw[m];exact n)
 rw[m,DQ]at h;exact h
def Vg(a:Option Go.Addr)(c:Nat)(p:Bs)(w:World):Calls prog 155 #[.slice a 0 c,p] w fun e W=>e=.returned (.string ⟨#[]⟩)/\w=W:=by
 refine(Tryz.strings_Join_none a c ⟨p.toArray⟩ w).mono ?_;rintro e W⟨rfl,rfl⟩;exact⟨rfl,rfl⟩
abbrev E6(B b:Nat)(l:Bs)(w:World):Prop:=IsBuilder 128 5 B b (byteCells l) w
def P6(w:World):E6 w.heap.size w.heap.size [] (w.alloc (.cells #[.pointer none,.slice none 0 0] 128)):=fresh_isBuilder _ _ w
def E6.drew{B b:Nat}{l:Bs}{w:World}(h:E6 B b l w):E6 B b l w.drew:=h.imp (·.drew) (·.drew)
def Kg(B b:Nat)(l s:Bs)(w:World)(h:E6 B b l w)(H:l.length+s.length<=140737488355328)(a:B<=w.heap.size):Calls prog 78 #[.pointer (some ⟨b,0,none⟩),s] w fun e W=>e=.returned (.tuple #[.int .i64 s.length,.nilIface])/\E6 B b (l++s) W/\Below B w W:=by
 refine(Any.Builder_WriteString {T7 with} P3 B b (byteCells l) ⟨s.toArray⟩ w h (by rw[GR];exact H) a).mono ?_;rintro e W⟨rfl,c,d⟩;refine⟨rfl,Or.inr ?_,d⟩;have e:byteCells l++strCells ⟨s.toArray⟩=byteCells (l++s):=ub
 rw[<-e];exact c
def Q5(B b:Nat)(l:Bs)(w:World)(h:E6 B b l w)(H:B<=w.heap.size):Calls prog 80 #[.pointer (some ⟨b,0,none⟩)] w fun e W=>e=.returned l/\Below B w W:=Tryz.Builder_String_any B b l w h H
def Tc(l cs:Bs)(w:World)(h:l.length<=9223372036854775807)(H:cs.length<4294967281)(i:cs.all (fun b=>decide (b.toNat<128))=true):Calls prog 89 #[l,cs] w fun e W=>e=.returned (trimS l cs)/\Below w.heap.size w W:=Any.strings_Trim_laid rG af ⟨l.toArray⟩ ⟨cs.toArray⟩ w h H (fun j b a=>by
  have:=AW.1 i b (CP a);simpa using this)
abbrev Cp(w:World)(B:Nat)(v:Value)(xs:List Bs):Prop:=w.ownsRow B 9 1 v xs.length (xs.map fun x=>Value.string ⟨x.toArray⟩)
def Td:(prog.info? 9).map (fun i=>(i.zero,i.size,i.bytes))=some (some (.string ByteArray.empty),1,16):=af
def Cp.shape{w:World}(h:Cp w B v xs):∃a c,v=.slice a xs.length c:=by
 rcases h.2 with⟨H,h0⟩|⟨g,c,C,H,_⟩
 ·exact⟨none,0,by rw[H,h0]⟩
 exact⟨_,_,H⟩
def Gv{o:Oper}{w:World}(p:o.guard=none)(s x:Operand)
  (q:o.op=.call {callee:=.builtin .append,args:=#[s,x],argTypes:=#[55,55]}) (B:Nat) (v:Value) (xs:List Bs) (y:Bs) (b:Nat)
  (r:a.eval s=v) (n:Cp w B v xs) (t:a.eval x=.slice (some ⟨b,0,none⟩) 1 1) (z:w.cell? ⟨b,0,none⟩=some y) (J:xs.length+1<=8796093022208) (f:B<=w.heap.size)
  (h:∀V W,Cp W B V (xs++[y])->w.grownBy W v.ownBlock->Below B w W->wpList prog O Q rest (a.put o.dst V) W):wpList prog O Q (o::rest) a w:=by
 obtain⟨I,A,C,D,E⟩:=GC Td;refine wpList_append_own (w:=w) p s x 55 q B 9 I (.string ByteArray.empty) 1 16 underlying55 A C D E rfl ae v xs.length _ r n ⟨b,0,none⟩ 1 1 [y] t rfl ?_ ?_ ?_ ?_ f ?_
 ·intro j u c
  match j,c with
  |0,c=>simp at c;rw[Er,<-c];exact z
 ·intro u i;simp at i;rw[i];rfl
 ·unfold maxLen;omega
 ·omega
 intro V W l m _;refine h V W ?_ m ((AG B w).grown m f fun k H=>?_)
 ·have e:(xs.map fun x=>Value.string ⟨x.toArray⟩)++[Value.string ⟨y.toArray⟩]=(xs++[y]).map fun x=>Value.string ⟨x.toArray⟩:=by simp
  rw[e]at l;have F:(xs++[y]).length=xs.length+1:=ah
  unfold Cp;rw[F];exact l
 rcases n.2 with⟨d,_⟩|⟨g,K,L,d,G,_⟩
 ·rw[d]at H;cases H
 rw[d]at H;injection H with H;rw[<-H];exact G
def Cp.pop{w:World}{a:Option Go.Addr}(h:Cp w B (.slice a (xs.length+1) cap) (xs++[y])):Cp w B (.slice a xs.length cap) xs:=by
 have h0:(xs++[y]).length=xs.length+1:=ah
 unfold Cp at h;rw[h0]at h;have b:∃g,a=some ⟨g,0,none⟩:=by
  rcases h.2 with⟨H,h0⟩|⟨g,cap,C,H,_⟩
  ·cases H
  injection H with c _;exact⟨g,c⟩
 obtain⟨g,rfl⟩:=b;rw[FJ]at h;exact ownsRow_pop ah h
def Cp.cell{w:World}(h:Cp w B (.slice (some ⟨g,0,none⟩) xs.length cap) xs)(j:Nat)(y:Bs)(a:xs[j]?=some y):w.cell? ⟨g,j,none⟩=some y:=by
 rcases h.2 with⟨v,_⟩|⟨G,C,c,v,f,d,n,p,z,e⟩
 ·cases v
 injection v with H _ _;injection H with H;injection H with H;subst H;have t:j<xs.length:=(CB.1 a).1;have b:(c.toList.take (xs.length*1))[j]?=some y:=by rw[e];simp[a]
 rw[EF,AN aa]at b;simp[World.cell?,d];simpa using b
def Cp.Rk{w:World}(h:Cp w B v (xs++[y])):∃g cap,v=.slice (some ⟨g,0,none⟩) (xs.length+1) cap/\xs.length+1<=cap/\B<=g/\Cp w B (.slice (some ⟨g,0,none⟩) xs.length cap) xs/\(∀(j:Nat)x,(xs++[y])[j]?=some x->w.cell? ⟨g,j,none⟩=some x):=by
 have h0:(xs++[y]).length=xs.length+1:=ah
 have H:=h;unfold Cp at H;rw[h0]at H;rcases H.2 with⟨a,h0⟩|⟨g,cap,C,a,b,d,n,r⟩
 ·omega
 subst a;refine⟨g,cap,rfl,n,b,Cp.pop (y:=y) (by unfold Cp;rw[h0];exact H),fun j x c=>?_⟩;refine Cp.cell (B:=B) (cap:=cap) (xs:=xs++[y]) ?_ j x c;unfold Cp;rw[h0];exact H
def Jn:Value->Nat
 | .string b=>b.size
 |_=>0
@[simp]theorem Ab9(l:Bs):Jn l=l.length:=by simp[Jn,ByteArray.size]
def dL:Go.Shelf.Ren:=⟨fun|167=>179|240=>130|276=>220|n=>n,fun|72=>128|70=>125|37=>126|75=>25|164=>174|80=>137|n=>n,fun|n=>n⟩
def sJ:Lays.n167 prog dL:=Sh.laid
def sK:Builder.Extra prog dL:=Sh.laid
def Mx(B b:Nat)(l:Bs)(c:Int)(d:UInt8)(H:c=d.toNat)(w:World)(h:E6 B b l w)(n:l.length+1<=140737488355328)(a:B<=w.heap.size):Calls prog 179 #[.pointer (some ⟨b,0,none⟩),.int .u8 c] w fun e W=>e=.returned .nilIface/\E6 B b (l++[d]) W/\Below B w W:=by
 subst H;refine(Any.Builder_WriteByte sJ sK B b (byteCells l) (d.toNat:Int) w h (by rw[GR];exact n) a).mono ?_;rintro e W⟨rfl,f,g⟩;refine⟨rfl,Or.inr ?_,g⟩;have e:byteCells l++[.int .u8 (d.toNat:Int)]=byteCells (l++[d]):=by simp[byteCells]
 rw[<-e];exact f
def dM(l p:Bs)(w:World)(h:l.length<=9223372036854775807):Calls prog 251 #[l,p] w fun e W=>e=.returned (.bool (hasSuffix l p))/\w=W:=by
 refine(Tryz.strings_HasSuffix ⟨l.toArray⟩ ⟨p.toArray⟩ w h).mono ?_;rintro e W⟨rfl,rfl⟩;exact⟨rfl,rfl⟩
def dN(l p:Bs)(w:World)(h:l.length<=9223372036854775807):Calls prog 77 #[l,p] w fun e W=>e=.returned (trimSuffix l p)/\w=W:=by
 refine(Tryz.strings_TrimSuffix ⟨l.toArray⟩ ⟨p.toArray⟩ w h).mono ?_;rintro e W⟨rfl,rfl⟩;exact⟨rfl,rfl⟩
def dO(l cs:Bs)(w:World)(h:l.length<=9223372036854775807)(H:cs.length<4294967281)(i:cs.all (fun b=>decide (b.toNat<128))=true):Calls prog 92 #[l,cs] w fun e W=>e=.returned (trimRightS l cs)/\Below w.heap.size w W:=Any.strings_TrimRight_laid rF af ⟨l.toArray⟩ ⟨cs.toArray⟩ w h H (fun j b a=>by
  have:=AW.1 i b (CP a);simpa using this)
def Vh(l cs:Bs)(w:World)(h:cs.length<4294967281)(H:cs.all (fun b=>decide (b.toNat<128))=true):Calls prog 91 #[l,cs] w fun e W=>e=.returned (trimLeftS l cs)/\Below w.heap.size w W:=Any.strings_TrimLeft_laid rE af ⟨l.toArray⟩ ⟨cs.toArray⟩ w h (fun j b a=>by
  have:=AW.1 H b (CP a);simpa using this)
def A1(e size:Nat)(cs:α->List Value)(w:World)(B:Nat)(v:Value)(xs:List α):Prop:=w.ownsRow B e size v xs.length (xs.flatMap cs)
def A1.nil(e size:Nat)(cs:α->List Value)(w:World)(B:Nat):A1 e size cs w B (.slice none 0 0) []:=IC _ _ _ _
def A1.alloc{α:Type}{e size:Nat}{cs:α->List Value}{w:World}{B:Nat}{v:Value}{xs:List α}(h:A1 e size cs w B v xs)(o:Obj):A1 e size cs (w.alloc o) B v xs:=GV h o
def Lz{e:TypeId}{xs:List Value}{w:World}(h:w.ownsRow B e k v n xs)(c:Below w.heap.size w w'):w'.ownsRow B e k v n xs:=by
 rcases h with⟨d,H⟩;refine⟨d,?_⟩;rcases H with H|⟨g,C,f,i,j,a,r⟩
 ·exact Or.inl H
 have t:g<w.heap.size:=by
  rcases CL g w.heap.size with b|b
  ·exact b
  rw[CA b]at a;cases a
 exact Or.inr ⟨g,C,f,i,j,(c.block g t).trans a,r⟩
def A1.next{e size:Nat}{cs:α->List Value}{w:World}{xs:List α}(h:A1 e size cs w B v xs)(H:Below w.heap.size w w'):A1 e size cs w' B v xs:=Lz h H
def E6.next{w:World}(h:E6 B b l w)(c:Below w.heap.size w w'):E6 B b l w':=by
 have g:∀p,BuilderAt 128 5 B b p (byteCells l) w->BuilderAt 128 5 B b p (byteCells l) w':=by
  rintro p⟨d,v,H,e,f⟩;have t:b<w.heap.size:=by
   rcases CL b w.heap.size with a|a
   ·exact a
   rw[CA a]at H;cases H
  exact⟨d,v,(c.block b t).trans H,Lz e c,f⟩
 exact h.imp (g _) (g _)
def P7{e size:Nat}{cs:α->List Value}(p:∀x,(cs x).length=size)(q:∀x,∀u∈cs x,u.oneCell'=true)
  (r:(prog.info? e).map (fun i=>(i.zero,i.size,i.bytes))=some (some z,size,b)) (C:z.cells.size=size) (D:0<size) (E:prog.underlying t=some (.slice e))
  {o:Oper} {w:World} (F:o.guard=none) (s x:Operand)
  (G:o.op=.call {callee:=.builtin .append,args:=#[s,x],argTypes:=#[t,t]}) (B:Nat) (v:Value) (xs Y:List α) (A:Go.Addr) (m c:Nat) (I:m=Y.length)
  (J:a.eval s=v) (n:A1 e size cs w B v xs) (K:a.eval x=.slice (some A) m c) (L:∀j u,(Y.flatMap cs)[j]?=some u->w.cell? (A.add j)=some u) (M:(xs.length+Y.length)*b<=140737488355328) (N:xs.length+Y.length<=maxLen) (f:B<=w.heap.size)
  (h:∀V W,A1 e size cs W B V (xs++Y)->w.grownBy W v.ownBlock->Below B w W->wpList prog O Q rest (a.put o.dst V) W):wpList prog O Q (o::rest) a w:=by
 subst I;obtain⟨P,R,S,T,U⟩:=GC r;have X:∀Z:List α,(Z.flatMap cs).length=Z.length*size:=fun Z=>by
  induction Z with
  |nil=>simp
  |cons y Z ih=>rw[BV,AJ,p,ih,AK,DL];omega
 refine wpList_append_own (w:=w) F s x t G B e P z size b E R S T U C D v xs.length _ J n A Y.length c (Y.flatMap cs) K (X Y) L ?_ N M f ?_
 ·intro u hu;obtain⟨y,_,hy⟩:=FU.1 hu;exact q y u hy
 intro V W h1 l _;refine h V W ?_ l ((AG B w).grown l f fun k H=>?_)
 ·unfold A1;rw[CZ,AJ];exact h1
 rcases n.2 with⟨d,_⟩|⟨g,a0,a1,d,hg,_⟩
 ·rw[d]at H;cases H
 rw[d]at H;injection H with H;rw[<-H];exact hg
def Bq(w:World)(B:Nat)(v:Value)(l:Bs):Prop:=A1 5 1 (fun c:UInt8=>[Value.int .u8 (c.toNat:Int)]) w B v l
def Bq.alloc{w:World}{B:Nat}{v:Value}{l:Bs}(h:Bq w B v l)(o:Obj):Bq (w.alloc o) B v l:=A1.alloc h o
def Bq.drew{w:World}{B:Nat}{v:Value}{l:Bs}(h:Bq w B v l):Bq w.drew B v l:=h
def Bq.next{w w':World}{B:Nat}{v:Value}{l:Bs}(h:Bq w B v l)(H:Below w.heap.size w w'):Bq w' B v l:=A1.next h H
def P8(l:Bs):l.flatMap (fun c:UInt8=>[Value.int .u8 (c.toNat:Int)])=byteCells l:=by
 induction l with
 |nil=>rfl
 |cons c l ih=>rw[BV,ih];rfl
def Te:(prog.info? 5).map (fun i=>(i.zero,i.size,i.bytes))=some (some (.int .u8 0),1,1):=af
def Tf(w:World)(D:UInt8)(t:TypeId)(i:Nat)(h:i<[D].length):(w.alloc (.cells #[.int .u8 (D.toNat:Int)] t)).cell? ⟨w.heap.size,i,none⟩=some (.int .u8 ([D][i].toNat:Int)):=by
 obtain rfl:i=0:=ek
 rw[(A0.new w #[.int .u8 (D.toNat:Int)] t).cell];rfl
def sL(w:World)(D:UInt8)(t:TypeId)(i:Nat)(h:i<[D].length):(w.alloc (.cells #[.int .u8 (D.toNat:Int)] t)).drew.cell? ⟨w.heap.size,i,none⟩=some (.int .u8 ([D][i].toNat:Int)):=Tf w.drew D t i h
def Q6{o:Oper}{w:World}(f:o.guard=none)(s x:Operand)
  (g:o.op=.call {callee:=.builtin .append,args:=#[s,x],argTypes:=#[126,126]}) (B:Nat) (v:Value) (l y:Bs) (b m c:Nat) (i:m=y.length)
  (k:a.eval s=v) (n:Bq w B v l) (p:a.eval x=.slice (some ⟨b,0,none⟩) m c) (q:∀j(h:j<y.length),w.cell? ⟨b,j,none⟩=some (.int .u8 (y[j].toNat:Int))) (E:l.length+y.length<=140737488355328) (r:B<=w.heap.size)
  (h:∀V W,Bq W B V (l++y)->Below B w W->wpList prog O Q rest (a.put o.dst V) W):wpList prog O Q (o::rest) a w:=by
 refine P7 (α:=UInt8) (cs:=fun c:UInt8=>[Value.int .u8 (c.toNat:Int)]) (size:=1) (z:=.int .u8 0) (fun _=>rfl) (fun _ u e=>by simp at e;rw[e];rfl) Te rfl ae underlying126 f s x g B v l y ⟨b,0,none⟩ m c i k n p (fun j u H=>?_) aa mi r fun V W t _ A=>h V W t A
 rw[P8]at H;rw[Er];simp only[byteCells,EV,BM]at H;obtain⟨d,C,rfl⟩:=H;obtain⟨D,rfl⟩:=CB.1 C;exact q j D
def sM{o:Oper}{w:World}{K:Act->World->Prop}{E:Prop}(q:o.guard=none)(s x:Operand)
  (r:o.op=.call {callee:=.builtin .append,args:=#[s,x],argTypes:=#[126,126]}) (B:Nat) (v:Value) (l Y:Bs) (b m c:Nat) (t:m=Y.length) (h0:0<m)
  (z:a.eval s=v) (n:Bq w B v l) (A:a.eval x=.slice (some ⟨b,0,none⟩) m c) (C:∀j(h:j<Y.length),w.cell? ⟨b,j,none⟩=some (.int .u8 (Y[j].toNat:Int))) (U:l.length+Y.length<=140737488355328) (i:B<=w.heap.size)
  (h:∀V W,Bq W B V (l++Y)->Below B w W->K (a.put o.dst V) W):if Region.wanted o (yielded O a.tmps)=true then Oper.wp prog o a w K Q else E:=by
 subst t;obtain⟨I,D,F,G,J⟩:=GC Te;refine step_append_lies (w:=w) q s x 126 r B 5 I (.int .u8 0) 1 1 underlying126 D F G J rfl ae v l.length _ z n ⟨b,0,none⟩ Y.length c (Y.flatMap fun c:UInt8=>[Value.int .u8 (c.toNat:Int)]) A (by rw[P8,GR];simp) (fun j u e=>?_) (fun u L=>?_) h0 mi aa i _ rfl ?_
 ·rw[P8]at e;rw[Er];simp only[byteCells,EV,BM]at e;obtain⟨d,M,rfl⟩:=e;obtain⟨N,rfl⟩:=CB.1 M;exact C j N
 ·obtain⟨y,_,p⟩:=FU.1 L;simp at p;rw[p];rfl
 intro g P W R S _ _;refine h _ W ?_ ((AG B w).grown S i fun k H=>?_)
 ·unfold Bq A1;rw[CZ,AJ];exact R
 rcases n.2 with⟨f,_⟩|⟨g,P,X,f,T,_⟩
 ·rw[f]at H;cases H
 rw[f]at H;injection H with H;rw[<-H];exact T
def sN{o:Oper}{w:World}(d:o.guard=none)(s x:Operand)
  (f:o.op=.call {callee:=.builtin .append,args:=#[s,x],argTypes:=#[126,9]}) (B:Nat) (v:Value) (l y:Bs)
  (i:a.eval s=v) (n:Bq w B v l) (j:a.eval x=y) (m:l.length+y.length<=140737488355328) (c:B<=w.heap.size)
  (h:∀V W,Bq W B V (l++y)->Below B w W->wpList prog O Q rest (a.put o.dst V) W):wpList prog O Q (o::rest) a w:=by
 obtain⟨I,p,q,r,t⟩:=GC Te;refine wpList_append_own_string (w:=w) d s x 126 9 f B 5 I underlying126 underlying9 p q r t v l.length _ i n ⟨y.toArray⟩ j (show l.length+y.length<=maxLen by unfold maxLen;omega) (show l.length+y.length<=140737488355328 from m) c ?_;intro V W u z _;refine h V W ?_ ((AG B w).grown z c fun k H=>?_)
 ·have e:byteCells l++strCells ⟨y.toArray⟩=byteCells (l++y):=by simp[byteCells,strCells]
  unfold Bq A1;rw[P8,<-e,AJ,<-P8 l];exact u
 rcases n.2 with⟨b,_⟩|⟨g,C,D,b,A,_⟩
 ·rw[b]at H;cases H
 rw[b]at H;injection H with H;rw[<-H];exact A
def Bq.shape{w:World}(h:Bq w B v l):∃a c,v=.slice a l.length c/\∀j(H:j<l.length),∃g,a=some ⟨g,0,none⟩/\w.cell? ⟨g,j,none⟩=some (.int .u8 (l[j].toNat:Int)):=by
 unfold Bq A1 at h;rw[P8]at h;rcases h.2 with⟨b,h0⟩|⟨g,c,C,b,i,e,n,p,z,f⟩
 ·exact⟨none,0,by rw[b,h0],fun j H=>aa⟩
 refine⟨_,_,b,fun j H=>⟨g,rfl,?_⟩⟩;have d:(C.toList.take (l.length*1))[j]?=some (.int .u8 (l[j].toNat:Int)):=by rw[f];simp[byteCells,H]
 rw[EF,AN aa]at d;simp[World.cell?,e];simpa using d
def sO(w:World)(a:Option Go.Addr)(cap:Nat):(convert 126 9 (.slice a 0 cap)).run prog w=.ok (.string ⟨#[]⟩) w:=by
 cases a<;>kernel_rfl
def Bq.text{w:World}(h:Bq w B v l):(convert 126 9 v).run prog w=.ok l w:=by
 obtain⟨a,C,rfl,H⟩:=h.shape;cases l with
 |nil=>exact sO w a C
 |cons c l=>
  obtain⟨g,rfl,_⟩:=H 0 ah;exact EP (P:=prog) w 126 9 5 ⟨g,0,none⟩ C (c::l) underlying126 underlying5 underlying9 (fun j b=>by
   obtain⟨G,e,h⟩:=H j b;injection e with e;injection e with e;subst e;rw[Er];exact h)
@[go_sem high]theorem sP(w:World)(c:UInt8):(convert 126 9 (.slice (some ⟨w.heap.size,0,none⟩) 1 1)).run prog (w.alloc (.cells #[.int .u8 (c.toNat:Int)] 5))=.ok (.string ⟨#[c]⟩) (w.alloc (.cells #[.int .u8 (c.toNat:Int)] 5)):=EP (P:=prog) (w.alloc (.cells #[.int .u8 (c.toNat:Int)] 5)) 126 9 5 ⟨w.heap.size,0,none⟩ 1 [c] underlying126 underlying5 underlying9
  (fun j h=>by
   obtain rfl:j=0:=ek
   rw[Er,(A0.new _ _ _).cell];rfl)
@[go_sem high]theorem sQ(w:World)(c d:UInt8):(convert 126 9 (.slice (some ⟨w.heap.size,0,none⟩) 2 2)).run prog (w.alloc (.cells #[.int .u8 (c.toNat:Int),.int .u8 (d.toNat:Int)] 5))=.ok (.string ⟨#[c,d]⟩) (w.alloc (.cells #[.int .u8 (c.toNat:Int),.int .u8 (d.toNat:Int)] 5)):=EP (P:=prog) (w.alloc (.cells #[.int .u8 (c.toNat:Int),.int .u8 (d.toNat:Int)] 5)) 126 9 5 ⟨w.heap.size,0,none⟩ 2 [c,d] underlying126 underlying5 underlying9
  (fun j h=>by
   have h:j=0\/j=1:=by simp at h;omega
   rw[Er,(A0.new _ _ _).cell];rcases h with rfl|rfl<;>rfl)
@[go_sem high]theorem Ac0(w:World)(c:UInt8):(convert 126 9 (.slice (some ⟨w.heap.size,0,none⟩) 1 1)).run prog (w.alloc (.cells #[.int .u8 (c.toNat:Int)] 5)).drew=.ok (.string ⟨#[c]⟩) (w.alloc (.cells #[.int .u8 (c.toNat:Int)] 5)).drew:=sP w.drew c
@[go_sem high]theorem Ac1(w:World)(c d:UInt8):(convert 126 9 (.slice (some ⟨w.heap.size,0,none⟩) 2 2)).run prog (w.alloc (.cells #[.int .u8 (c.toNat:Int),.int .u8 (d.toNat:Int)] 5)).drew=.ok (.string ⟨#[c,d]⟩) (w.alloc (.cells #[.int .u8 (c.toNat:Int),.int .u8 (d.toNat:Int)] 5)).drew:=sQ w.drew c d
theorem Tg(l p:Bs)(h:1<=p.length):(Lib.split l p).length=count l p+1:=by
 have a:=splitB_data ⟨p.toArray⟩ 0 (countB ⟨l.toArray⟩ ⟨p.toArray⟩) ⟨l.toArray⟩;have b:=splitB_all ⟨p.toArray⟩ h 0 (countB ⟨l.toArray⟩ ⟨p.toArray⟩) ⟨l.toArray⟩ rfl;have H:=CI List.length a;rw[DQ,b]at H;exact H.symm
def Vi(l p:Bs)(h:1<=p.length):count l p<=l.length:=countB_le ⟨p.toArray⟩ h l.length ⟨l.toArray⟩ (AF _)
def Yg(l p:Bs)(w:World)(H:l.length<4294967281)(h:1<=p.length)(g:Cj w):Calls prog 85 #[l,p] w fun e W=>
   e=.returned (.slice (some ⟨w.heap.size,0,none⟩) (Lib.split l p).length (Lib.split l p).length)/\W=w.alloc (.cells (Ds (Lib.split l p)) 9):=by
 obtain⟨m,a⟩:=g.maxLen;refine(Tryz.strings_Split ⟨l.toArray⟩ ⟨p.toArray⟩ m w H a h).mono ?_;rintro e W⟨rfl,rfl⟩;have b:=splitB_data ⟨p.toArray⟩ 0 (countB ⟨l.toArray⟩ ⟨p.toArray⟩) ⟨l.toArray⟩;have c:(splitB ⟨p.toArray⟩ 0 (countB ⟨l.toArray⟩ ⟨p.toArray⟩) ⟨l.toArray⟩).map Value.string=(Lib.split l p).map fun x=>Value.string ⟨x.toArray⟩:=by
  rw[show Lib.split l p=(splitB ⟨p.toArray⟩ 0 (countB ⟨l.toArray⟩ ⟨p.toArray⟩) ⟨l.toArray⟩).map (·.data.toList)from b.symm,IQ];apply IM;intro x _;exact CI Value.string (mk_data x).symm
 rw[c,Tg l p h];exact⟨rfl,rfl⟩
def dP(n:Int)(h0:0<=n)(h:n<2^40):IntKind.i64.wrap n=n:=CQ n aa
def Yh(i:Nat)(x y:Int)(h0:0<=x)(h:x%2^i=0)(H:x<2^40)(a:0<=y)(b:y<2^i)(c:y<2^40):bits .or .i64 x y=x+y:=bits_join .i64 40 ae dP i x y h0 h H a b c
def Vj(i:Nat)(h:i<=40)(x:Int)(h0:0<=x)(H:x<2^40):bits .and .i64 x (2^i-1)=x%2^i:=bits_mask .i64 40 ae dP i h x h0 H
def sR(x y:Int)(h0:0<=x)(H:x<4294967296)(h:0<=y)(a:y<64):bits .or .i64 (x*64) y=x*64+y:=Yh 6 _ _ aa aa aa h aa aa
def sS(x y:Int)(h0:0<=x)(H:x<4294967296)(h:0<=y)(a:y<256):bits .or .i64 (x*256) y=x*256+y:=Yh 8 _ _ aa aa aa h aa aa
def sT(x y:Int)(h0:0<=x)(H:x<4294967296)(h:0<=y)(a:y<16):bits .or .i64 (x*16) y=x*16+y:=Yh 4 _ _ aa aa aa h aa aa
def Vk(x:Int)(h0:0<=x)(h:x<1099511627776):bits .and .i64 x 63=x%64:=Vj 6 ae x h0 aa
def sU(x:Int)(h0:0<=x)(h:x<1099511627776):bits .and .i64 x 255=x%256:=Vj 8 ae x h0 aa
def sV(x:Int)(h0:0<=x)(h:x<1099511627776):bits .and .i64 x 65535=x%65536:=Vj 16 ae x h0 aa
def Rl(c:UInt8):c.toNat.toUInt8=c:=ah
def sW:((List.range 256).all fun n=>Hy n.toUInt8==(decide (33<=(n.toUInt8.toNat:Int))&&decide ((n.toUInt8.toNat:Int)<=126)&&!((n.toUInt8.toNat:Int)==61)))=true:=af
def sX(c:UInt8):Hy c=(decide (33<=(c.toNat:Int))&&decide ((c.toNat:Int)<=126)&&!((c.toNat:Int)==61)):=by
 have:=AW.1 sW c.toNat (BT.2 c.toNat_lt);rw[Rl]at this;exact BL.1 this
def Th(c:UInt8)(w:World):Calls prog 290 #[.int .u8 c.toNat] w fun e W=>e=.returned (.bool (Hy c))/\w=W:=by
 have H:=AE (sX c);have h:(c.toNat:Int)<256:=eo
 go_enter func290,ntmps290
 go_wp2
 all_goals
  go_ret;exact⟨Bm (by rw[H.o];first|(simp[*];done)|(simp[*,bne];done)|(simp[*];omega)),rfl⟩
def sY:((List.range 256).all fun n=>decide (El n.toUInt8=if(48<=(n.toUInt8.toNat:Int)/\(n.toUInt8.toNat:Int)<=57)then(n.toUInt8.toNat:Int)-48 else if(65<=(n.toUInt8.toNat:Int)/\(n.toUInt8.toNat:Int)<=70)then(n.toUInt8.toNat:Int)-65+10 else if(97<=(n.toUInt8.toNat:Int)/\(n.toUInt8.toNat:Int)<=102)then(n.toUInt8.toNat:Int)-97+10 else-1))=true:=af
def sZ(c:UInt8):El c=if(48<=(c.toNat:Int)/\(c.toNat:Int)<=57)then(c.toNat:Int)-48 else if(65<=(c.toNat:Int)/\(c.toNat:Int)<=70)then(c.toNat:Int)-65+10 else if(97<=(c.toNat:Int)/\(c.toNat:Int)<=102)then(c.toNat:Int)-97+10 else-1:=by
 have:=AW.1 sY c.toNat (BT.2 c.toNat_lt);rw[Rl]at this;exact EU this
def dQ(c:UInt8)(w:World):Calls prog 289 #[.int .u8 c.toNat] w fun e W=>e=.returned (.int .i64 (El c))/\w=W:=by
 have H:=AE (sZ c);have h:(c.toNat:Int)<256:=eo
 go_enter func289,ntmps289
 go_wp2
 all_goals
  go_ret;exact⟨Fg (by rw[H.o];first|(simp[*];done)|(repeat' split<;>omega)),rfl⟩
def Rm(n:Nat)(h:n<16):(⟨#[48,49,50,51,52,53,54,55,56,57,65,66,67,68,69,70]⟩:ByteArray)[n]' xy=Mv n:=by
 show _=([48,49,50,51,52,53,54,55,56,57,65,66,67,68,69,70]:Bs).getD n 0;rw[AM,BC (show n<([48,49,50,51,52,53,54,55,56,57,65,66,67,68,69,70]:Bs).length from h)];rfl
def Q7(h:k<l.length):l.drop k=l[k]::l.drop (k+1):=AH h
def dR(b:Bs)(w:World)(hl:b.length<=1000000000000):Calls prog 268 #[b] w fun e w'=>e=.returned (E5 b)/\Below w.heap.size w w':=by
 have hT:=Q4 b;have b0:=P6 w;go_enter func268,ntmps268;go_wp2_with fail;go_loopw[4,11] (fun n i wr=>∃(k l:Nat)(o:Bs),i=k/\k<=b.length/\n=l/\l<=100/\o++Gu (b.drop k) l=E5 b/\E6 w.heap.size w.heap.size o wr/\Below w.heap.size w wr) (fun _ i _=>b.length-(intOf i).toNat)
 case atStart=>exact⟨0,0,[],rfl,aa,rfl,aa,rfl,b0,cu⟩
 obtain⟨k,l,o,rfl,hk,rfl,a8,M,H,B⟩:=hrel;have y:=AE M;clear M;by_cases a0:k<b.length
 ·have z:=AE (Q7 a0);have j:o.length+(Gu (b.drop k) l).length=(E5 b).length:=by rw[<-y.o];simp
  have A:((k:Int)+1==(b.length:Int))=(b.drop (k+1)).isEmpty:=by
   by_cases h:k+1=b.length
   ·rw[show(b.drop (k+1))=[]from IH.2 aa,BL.2 aa];rfl
   have h1:((k:Int)+1==(b.length:Int))=false:=di
   rw[h1];symm;simp;omega
  generalize O:b.drop (k+1)=r at A z;have C:=AE O;clear O;have a:=AE (by rw[<-z.o];exact y.o:o++Gu (b[k]::r) l=E5 b);have Q:(b[k].toNat:Int)<256:=re
  rw[z.o]at j;clear z y;go_upto_region 7 with fail;generalize b[k]=c at Q a j|-;go_upto_region 8 with fail;have H:=H.next (w':=wr.alloc (.cells #[.int .u8 (c.toNat:Int)] 5)) ((AG _ _).alloc (AF _) _);have B:=B.alloc B.size (.cells #[.int .u8 (c.toNat:Int)] 5);generalize a1:wr.alloc (.cells #[.int .u8 (c.toNat:Int)] 5)=W at H B|-;clear a1;go_cut[37] (fun t f=>t=.bool (Ni c r.isEmpty)/\f=W)
  case first=>
   clear a j C H B;obtain⟨L,I⟩:∃x,r.isEmpty=x:=⟨_,rfl⟩;rw[I]at A;have J:=AE I;clear I;go_wp2_with fail;refine(Th c _).mono ?_;rintro e w'⟨rfl,rfl⟩;cases g:Hy c with
   |true=>
    have P:=AE (by unfold Ni;rw[g];rfl:Ni c L=false);clear g;go_wp2;go_meet;exact⟨by rw[J.o,P.o],rfl⟩
   |false=>
    by_cases m:c=32\/c=9
    ·have P:=AE (by unfold Ni;rw[g];rcases m with rfl|rfl<;>cases L<;>rfl:Ni c L=L);clear g;rcases m with rfl|rfl
     all_goals
      go_wp2;go_meet;exact⟨by rw[J.o,P.o],rfl⟩
    have N:c≠32:=fun h=>m (Or.inl h)
    have D:c≠9:=fun h=>m (Or.inr h)
    have P:=AE (by unfold Ni;rw[g,DD.2 N,DD.2 D];rfl:Ni c L=true);have t1:((c.toNat:Int)!=32)=true:=by rw[DD];intro h;exact N (BQ.1 ag)
    have t2:((c.toNat:Int)!=9)=true:=by rw[DD];intro h;exact D (BQ.1 ag)
    clear g m N D;go_wp2;go_meet;exact⟨by rw[J.o,P.o],rfl⟩
  case rest=>
  obtain⟨rfl,rfl⟩:=hcut;have q:=AE (sF c r.isEmpty);obtain⟨W,rfl⟩:∃W:World,W=wc:=⟨_,rfl⟩;go_upto_if 37 with fail;go_cut[7] (fun s f=>s=(Gc c r.isEmpty)/\E6 w.heap.size w.heap.size o f/\Below w.heap.size w f)
  case first=>
   clear a j C A;generalize Ni c r.isEmpty=a2 at q|-;cases a2 with
   |false=>
    go_wp2;go_meet;exact⟨by rw[q.o];rfl,H,B⟩
   |true=>
    have S:c.toNat/16<16:=aa
    have T:c.toNat%16<16:=aa
    have q1:(c.toNat:Int)/16=((c.toNat/16:Nat):Int):=aa
    have q2:bits .and .u8 (c.toNat:Int) 15=((c.toNat%16:Nat):Int):=(u8_and15 _ aa Q).trans aa;have U:=AE (Rm (c.toNat/16) S);have V:=AE (Rm (c.toNat%16) T);have a3:((c.toNat/16:Nat):Int)<16:=aa
    have a4:((c.toNat%16:Nat):Int)<16:=aa
    generalize c.toNat/16=N at S q1 U q a3;generalize c.toNat%16=D at T q2 V q a4;go_wp2_with fail;go_region;all_goals
     go_wp2;go_meet;exact⟨by rw[q.o,<-U.o,<-V.o];rfl,H.next (((AG W.heap.size W).alloc (AF _) _).drew),(B.alloc B.size _).drew⟩
  clear H B;obtain⟨rfl,H,B⟩:=hcut;have a5:=Y9 c r.isEmpty;have d:=AE (ca:Gu (c::r) l=(if l+(Gc c r.isEmpty).length>(if r.isEmpty then 76 else 75)then[61,13,10]++Gc c r.isEmpty++Gu r (Gc c r.isEmpty).length else Gc c r.isEmpty++Gu r (l+(Gc c r.isEmpty).length)));obtain⟨W,rfl⟩:∃W:World,W=wc:=⟨_,rfl⟩;generalize Gc c r.isEmpty=p at a5 d|-;have X:∃R:Nat,R<=76/\Hid ((if r.isEmpty then 76 else 75)=R):=⟨if r.isEmpty then 76 else 75,by split<;>omega,AE rfl⟩;obtain⟨R,X,F⟩:=X;rw[F.o]at d;go_upto_if 51 with fail;go_cut[8] (fun v f=>v=R/\f=W)
  case first=>
   clear a j C d H B;generalize r.isEmpty=L at A F|-;cases L with
   |false=>
    have e:R=75:=F.o.symm;subst e;go_wp2;go_meet;exact⟨rfl,rfl⟩
   |true=>
    have e:R=76:=F.o.symm;subst e;go_wp2;go_meet;exact⟨rfl,rfl⟩
  case rest=>
  obtain⟨rfl,rfl⟩:=hcut;obtain⟨W,rfl⟩:∃W:World,W=wc:=⟨_,rfl⟩;have Y:=AE (show b.drop (k+1)=r from C.o);by_cases Z:R<l+p.length
  ·have E:=a.o;rw[d.o,AN Z]at E;have u:=AE E;clear E a d;have a6:o.length+3+p.length<=140737488355328:=by have:=CI List.length u.o;simp at this;omega
   have a7:(R:Int)<(l:Int)+(p.length:Int):=aa
   go_wp2_with fail;refine(Kg _ _ _ [61,13,10] _ H ag B.size).mono ?_;rintro e w2⟨rfl,H,G⟩;go_wp2_with fail;refine(Kg _ _ _ p _ H ag (B.trans G).size).mono ?_;rintro e w3⟨rfl,H,K⟩;go_wp2;go_roundw
   case rel=>exact⟨k+1,p.length,_,aj,aa,aj,aa,by rw[Y.o,<-u.o];simp,H,(B.trans G).trans K⟩
   simp[intOf];omega
  have E:=a.o;rw[d.o,AL Z]at E;have u:=AE E;clear E a d;have a6:o.length+p.length<=140737488355328:=by have:=CI List.length u.o;simp at this;omega
  have a7:(l:Int)+(p.length:Int)<=(R:Int):=aa
  go_wp2_with fail;refine(Kg _ _ _ p _ H aa B.size).mono ?_;rintro e w3⟨rfl,H,K⟩;go_wp2;go_roundw
  case rel=>exact⟨k+1,l+p.length,_,aj,aa,aj,aa,by rw[Y.o,<-u.o];simp,H,B.trans K⟩
  simp[intOf];omega
 obtain rfl:k=b.length:=aa
 have hd:E5 b=o:=by rw[<-y.o];simp[Gu]
 have Hd:=AE hd;clear hd;go_wp2_with fail;refine(Q5 _ _ _ _ H B.size).mono ?_;rintro e w2⟨rfl,G⟩;go_wp2;go_ret;exact⟨Hz Hd.o.symm,B.trans G⟩
end Go.Proofs.YtignjjnflcpiiaaGreatDoor
namespace Go.Proofs.YtignjjnflcpiiaaGreatDoor
open Go Go.RowKit Proofs.Tryz Lib
def tA:Rows.deskAnswersRow.wf (OpenSpec.ofChange Rows.deskAnswersSpec)=true:=af
def tB:laidOutB Tryz.pinned.checked.prog=true:=af
def tC:mapsRowed Tryz.pinned.checked.prog=true:=af
def tD:(Rows.deskAnswersRow.inPlace==Tryz.pinned.checked.prog.inPlace 7)=true:=af
def tE:(Rows.deskAnswersRow.unfollowed==Tryz.pinned.checked.prog.unfollowed 7)=true:=af
def tF:(Rows.deskAnswersRow.recurses==Tryz.pinned.checked.prog.recurses 7)=true:=af
def tG:(Rows.deskAnswersRow.named==Tryz.pinned.checked.prog.varsNamed 7)=true:=af
def tH:(Rows.deskAnswersRow.plainKeys==Tryz.pinned.checked.prog.plainKeys)=true:=af
def tI:Tryz.pinned.checked.prog.stopsHeard=true:=af
def tJ:Tryz.pinned.checked.prog.mayEnter=true:=af
def tK:(Rows.deskAnswersRow.lifted==Tryz.pinned.checked.prog.liftsFinal)=true:=af
def tL:(Tryz.pinned.checked.prog.make==some Rows.deskAnswersRow.make)=true:=af
def tM:namedTie Tryz.pinned.checked.prog Rows.deskAnswersRow.named Rows.deskAnswersSpec.vars=true:=af
end Go.Proofs.YtignjjnflcpiiaaGreatDoor
