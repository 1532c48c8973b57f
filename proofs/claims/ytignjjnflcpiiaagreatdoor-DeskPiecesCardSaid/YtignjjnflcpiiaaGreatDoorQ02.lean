/- The shelf's contracts in the form in which this seat's walks take them: strings as lists of bytes, the world by 'Below'. Conditions: those of the shelf (lengths below 2^32 or 2^47); More of the shelf's contracts in this seat's form: a builder's WriteByte, TrimRight, TrimLeft, HasSuffix, TrimSuffix; . -/
import Derived.Deep.AppendLies
import Derived.Laws.BitsLemmas
import Derived.Lib.AppendStr
import Derived.Shelf.Strings.SlTrimAscii
import Derived.Test.YtignjjnflcpiiaaGreatDoorQ00
import Derived.Test.YtignjjnflcpiiaaGreatDoorQ01
namespace Go.Proofs.YtignjjnflcpiiaaGreatDoor
open Go Go.RowKit
structure Ground (w : World) : Prop where
  maxLen : ∃ m, w.cell? ⟨3, 0, none⟩ = some (.int .i64 m)
theorem Ground.below {w w' : World} {B : Nat} (h : Ground w) (hb : Below B w w') (hB : 3 < B) : Ground w' := by
  obtain ⟨m, hm⟩ := h.maxLen
  exact ⟨m, (hb.cell (p := ⟨_, 0, none⟩) hB).trans hm⟩
theorem Ground.size {w : World} (h : Ground w) : 3 < w.heap.size := by
  obtain ⟨m, hm⟩ := h.maxLen
  exact World.block_lt_of_cell? w _ hm
theorem Ground.next {w w' : World} (h : Ground w) (hb : Below w.heap.size w w') : Ground w' := h.below hb h.size
theorem below_drewN (w : World) (n B : Nat) : Below B w (w.drewN n) := Go.below_drewN (Below.refl B w) n
theorem idxByte (l : Bs) (c : Int) (d : UInt8) (hc : c.toNat.toUInt8 = d) (w : World) :
    Calls Tryz.prog 100 #[.string ⟨l.toArray⟩, .int .u8 c] w fun e w' => e = .returned (.int .i64 (Lib.indexByte l d)) ∧ w = w' := by
  refine (Tryz.strings_IndexByte ⟨l.toArray⟩ c w).mono ?_
  rintro e w' ⟨rfl, rfl⟩
  rw [hc]
  exact ⟨rfl, rfl⟩
theorem cutS (l p : Bs) (w : World) (hl : l.length < 4294967281) (hg : Ground w) :
    Calls Tryz.prog 88 #[.string ⟨l.toArray⟩, .string ⟨p.toArray⟩] w fun e w' =>
      e = .returned (.tuple #[.string ⟨(Lib.cut l p).1.toArray⟩, .string ⟨(Lib.cut l p).2.1.toArray⟩, .bool (Lib.cut l p).2.2]) ∧ Below w.heap.size w w' := by
  obtain ⟨m, hm⟩ := hg.maxLen
  refine (Tryz.strings_Cut ⟨l.toArray⟩ ⟨p.toArray⟩ m w hl hm).mono ?_
  rintro e w' ⟨rfl, n, rfl⟩
  exact ⟨rfl, below_drewN w n _⟩
theorem cutPre (l p : Bs) (w : World) :
    Calls Tryz.prog 103 #[.string ⟨l.toArray⟩, .string ⟨p.toArray⟩] w fun e w' => e = .returned (.tuple #[.string ⟨(Lib.trimPrefix l p).toArray⟩, .bool (Lib.hasPrefix l p)]) ∧ w = w' := by
  refine (Tryz.strings_CutPrefix ⟨l.toArray⟩ ⟨p.toArray⟩ w).mono ?_
  rintro e w' ⟨rfl, rfl⟩
  exact ⟨rfl, rfl⟩
theorem hasPre (l p : Bs) (w : World) :
    Calls Tryz.prog 17 #[.string ⟨l.toArray⟩, .string ⟨p.toArray⟩] w fun e w' => e = .returned (.bool (Lib.hasPrefix l p)) ∧ w = w' := by
  refine (Tryz.strings_HasPrefix ⟨l.toArray⟩ ⟨p.toArray⟩ w).mono ?_
  rintro e w' ⟨rfl, rfl⟩
  exact ⟨rfl, rfl⟩
theorem lastIdx (l : Bs) (c : Int) (w : World) (hl : l.length < 4611686018427387904) :
    Calls Tryz.prog 112 #[.string ⟨l.toArray⟩, .int .u8 c] w fun e w' => e = .returned (.int .i64 (Lib.lastIndexByte ⟨l.toArray⟩ c)) ∧ w = w' := by
  refine (Tryz.strings_LastIndexByte ⟨l.toArray⟩ c hl w).mono ?_
  rintro e w' ⟨rfl, rfl⟩
  exact ⟨rfl, rfl⟩
theorem idxStr (l p : Bs) (w : World) (hl : l.length < 4294967281) (hg : Ground w) :
    Calls Tryz.prog 66 #[.string ⟨l.toArray⟩, .string ⟨p.toArray⟩] w fun e w' => e = .returned (.int .i64 (Lib.index l p)) ∧ w = w' := by
  obtain ⟨m, hm⟩ := hg.maxLen
  refine (Tryz.strings_Index ⟨l.toArray⟩ ⟨p.toArray⟩ m w hl hm).mono ?_
  rintro e w' ⟨rfl, rfl⟩
  exact ⟨rfl, rfl⟩
def strRow (xs : List Bs) : Array Value := (xs.map fun x => Value.string ⟨x.toArray⟩).toArray
theorem splitOne (l : Bs) (c : UInt8) (w : World) (hl : l.length < 4294967281) (hg : Ground w) :
    Calls Tryz.prog 85 #[.string ⟨l.toArray⟩, .string ⟨#[c]⟩] w fun e w' =>
      e = .returned (.slice (some ⟨w.heap.size, 0, none⟩) (splitC c l).length (splitC c l).length) ∧ w' = w.alloc (.cells (strRow (splitC c l)) 9) := by
  obtain ⟨m, hm⟩ := hg.maxLen
  refine (Tryz.strings_Split ⟨l.toArray⟩ ⟨#[c]⟩ m w hl hm (Nat.le_refl 1)).mono ?_
  rintro e w' ⟨rfl, rfl⟩
  rw [countB_one, split_one, List.map_map]
  exact ⟨rfl, rfl⟩
theorem joinStr (bk o c : Nat) (xs : List Bs) (p : Bs) (w : World) (hcells : ∀ (j : Nat) x, xs[j]? = some x → w.cell? ⟨bk, o + j, none⟩ = some (.string ⟨x.toArray⟩)) (hbk : bk < w.heap.size) (hN : xs.length ≤ 140737488355328) (hcap : xs.length ≤ c) (hlen : (Lib.join xs p).length ≤ 140737488355328) :
    Calls Tryz.prog 155 #[.slice (some ⟨bk, o, none⟩) xs.length c, .string ⟨p.toArray⟩] w fun e w' => e = .returned (.string ⟨(Lib.join xs p).toArray⟩) ∧ Below w.heap.size w w' := by
  have hm : (xs.map fun x => (⟨x.toArray⟩ : ByteArray)).map (·.data.toList) = xs := by
    rw [List.map_map]; conv => rhs; rw [← List.map_id xs]
    exact List.map_congr_left fun x _ => rfl
  have h := Tryz.strings_Join bk o c (xs.map fun x => (⟨x.toArray⟩ : ByteArray)) ⟨p.toArray⟩ w (fun j x hj => by
    rw [List.getElem?_map] at hj
    cases hx : xs[j]? with
    | none => rw [hx] at hj; cases hj
    | some y => rw [hx] at hj; simp at hj; rw [← hj]; exact hcells j y hx) hbk (by simpa using hN) (by simpa using hcap) (by rw [hm]; exact hlen)
  rw [hm, List.length_map] at h
  exact h
theorem joinNone (a : Option Addr) (c : Nat) (p : Bs) (w : World) :
    Calls Tryz.prog 155 #[.slice a 0 c, .string ⟨p.toArray⟩] w fun e w' => e = .returned (.string ⟨#[]⟩) ∧ w = w' := by
  refine (Tryz.strings_Join_none a c ⟨p.toArray⟩ w).mono ?_
  rintro e w' ⟨rfl, rfl⟩
  exact ⟨rfl, rfl⟩
abbrev Bld (B b : Nat) (l : Bs) (w : World) : Prop := Lib.IsBuilder 128 5 B b (Lib.byteCells l) w
theorem bldNew (w : World) : Bld w.heap.size w.heap.size [] (w.alloc (.cells #[.pointer none, .slice none 0 0] 128)) := Lib.fresh_isBuilder _ _ w
theorem Bld.drew {B b : Nat} {l : Bs} {w : World} (h : Bld B b l w) : Bld B b l w.drew := h.imp (·.drew) (·.drew)
theorem wrStr (B b : Nat) (l s : Bs) (w : World) (h : Bld B b l w) (hlen : l.length + s.length ≤ 140737488355328) (hBw : B ≤ w.heap.size) :
    Calls Tryz.prog 78 #[.pointer (some ⟨b, 0, none⟩), .string ⟨s.toArray⟩] w fun e w' => e = .returned (.tuple #[.int .i64 s.length, .nilIface]) ∧ Bld B b (l ++ s) w' ∧ Below B w w' := by
  refine (Any.Builder_WriteString { Tryz.lays156 with } Tryz.Builder_Extra_156 B b (Lib.byteCells l) ⟨s.toArray⟩ w h (by rw [Lib.byteCells_length]; exact hlen) hBw).mono ?_
  rintro e w' ⟨rfl, h1, h2⟩
  refine ⟨rfl, Or.inr ?_, h2⟩
  have e : Lib.byteCells l ++ Lib.strCells ⟨s.toArray⟩ = Lib.byteCells (l ++ s) := by simp [Lib.byteCells, Lib.strCells]
  rw [← e]; exact h1
theorem bldStr (B b : Nat) (l : Bs) (w : World) (h : Bld B b l w) (hBw : B ≤ w.heap.size) :
    Calls Tryz.prog 80 #[.pointer (some ⟨b, 0, none⟩)] w fun e w' => e = .returned (.string ⟨l.toArray⟩) ∧ Below B w w' := Tryz.Builder_String_any B b l w h hBw
theorem trimStr (l cs : Bs) (w : World) (hl : l.length ≤ 9223372036854775807) (hcs : cs.length < 4294967281) (hascii : cs.all (fun b => decide (b.toNat < 128)) = true) :
    Calls Tryz.prog 89 #[.string ⟨l.toArray⟩, .string ⟨cs.toArray⟩] w fun e w' => e = .returned (.string ⟨(Lib.trimS l cs).toArray⟩) ∧ Below w.heap.size w w' :=
  Any.strings_Trim_laid Tryz.lays160 (by kernel_rfl) ⟨l.toArray⟩ ⟨cs.toArray⟩ w hl hcs (fun j b hj => by
    have := List.all_eq_true.1 hascii b (List.mem_of_getElem? hj)
    simpa using this)
abbrev OwnS (w : World) (B : Nat) (v : Value) (xs : List Bs) : Prop := w.ownsRow B 9 1 v xs.length (xs.map fun x => Value.string ⟨x.toArray⟩)
theorem infoStr : (Tryz.prog.info? 9).map (fun i => (i.zero, i.size, i.bytes)) = some (some (.string ByteArray.empty), 1, 16) := by kernel_rfl
theorem OwnS.shape {w : World} {B : Nat} {v : Value} {xs : List Bs} (h : OwnS w B v xs) : ∃ a cap, v = .slice a xs.length cap := by
  rcases h.2 with ⟨hv, h0⟩ | ⟨g, cap, cur, hv, _⟩
  · exact ⟨none, 0, by rw [hv, h0]⟩
  · exact ⟨_, _, hv⟩
theorem appS {Q : Exit → Act → World → Prop} {ops : Array Oper} {rest : List Oper} {o : Oper} {a : Act} {w : World} (hgd : o.guard = none) (s x : Operand)
    (ho : o.op = .call { callee := .builtin .append, args := #[s, x], argTypes := #[55, 55] }) (B : Nat) (v : Value) (xs : List Bs) (y : Bs) (b : Nat)
    (hs : a.eval s = v) (hown : OwnS w B v xs) (hx : a.eval x = .slice (some ⟨b, 0, none⟩) 1 1) (hc : w.cell? ⟨b, 0, none⟩ = some (.string ⟨y.toArray⟩)) (hn : xs.length + 1 ≤ 8796093022208) (hbase : B ≤ w.heap.size)
    (h : ∀ v' w', OwnS w' B v' (xs ++ [y]) → w.grownBy w' v.ownBlock → Below B w w' → wpList Tryz.prog ops Q rest (a.put o.dst v') w') : wpList Tryz.prog ops Q (o :: rest) a w := by
  obtain ⟨i0, hi, hz0, hz1, hz2⟩ := info_parts infoStr
  refine wpList_append_own (w := w) hgd s x 55 ho B 9 i0 (.string ByteArray.empty) 1 16 Tryz.underlying55 hi hz0 hz1 hz2 rfl (by decide) v xs.length _ hs hown ⟨b, 0, none⟩ 1 1 [.string ⟨y.toArray⟩] hx rfl ?_ ?_ ?_ ?_ hbase ?_
  · intro j u hj
    match j, hj with
    | 0, hj => simp at hj; rw [addr_add0, ← hj]; exact hc
  · intro u hu; simp at hu; rw [hu]; rfl
  · unfold maxLen; omega
  · omega
  · intro v' w' h1 h2 _
    refine h v' w' ?_ h2 ((Below.refl B w).grown h2 hbase fun k hk => ?_)
    · have e : (xs.map fun x => Value.string ⟨x.toArray⟩) ++ [Value.string ⟨y.toArray⟩] = (xs ++ [y]).map fun x => Value.string ⟨x.toArray⟩ := by simp
      rw [e] at h1
      have e2 : (xs ++ [y]).length = xs.length + 1 := by simp
      unfold OwnS
      rw [e2]; exact h1
    · rcases hown.2 with ⟨hv, _⟩ | ⟨g, cap, cur, hv, hg, _⟩
      · rw [hv] at hk; cases hk
      · rw [hv] at hk; injection hk with hk; rw [← hk]; exact hg
theorem OwnS.pop {w : World} {B : Nat} {a : Option Addr} {cap : Nat} {xs : List Bs} {y : Bs} (h : OwnS w B (.slice a (xs.length + 1) cap) (xs ++ [y])) : OwnS w B (.slice a xs.length cap) xs := by
  have h0 : (xs ++ [y]).length = xs.length + 1 := by simp
  unfold OwnS at h
  rw [h0] at h
  have ha : ∃ g, a = some ⟨g, 0, none⟩ := by
    rcases h.2 with ⟨hv, h0⟩ | ⟨g, cap, cur, hv, _⟩
    · cases hv
    · injection hv with h1 _; exact ⟨g, h1⟩
  obtain ⟨g, rfl⟩ := ha
  rw [List.map_append] at h
  exact ownsRow_pop (by simp) h
theorem OwnS.cell {w : World} {B g cap : Nat} {xs : List Bs} (h : OwnS w B (.slice (some ⟨g, 0, none⟩) xs.length cap) xs) (j : Nat) (y : Bs) (hj : xs[j]? = some y) : w.cell? ⟨g, j, none⟩ = some (.string ⟨y.toArray⟩) := by
  rcases h.2 with ⟨hv, _⟩ | ⟨g', cap', cur, hv, hg, hh, hn, hcap, hsz, htake⟩
  · cases hv
  · injection hv with h1 _ _
    injection h1 with h1
    injection h1 with h1
    subst h1
    have hlt : j < xs.length := (List.getElem?_eq_some_iff.1 hj).1
    have h2 : (cur.toList.take (xs.length * 1))[j]? = some (.string ⟨y.toArray⟩) := by rw [htake]; simp [hj]
    rw [List.getElem?_take, if_pos (by omega)] at h2
    simp [World.cell?, hh]
    simpa using h2
theorem OwnS.shapeC {w : World} {B : Nat} {v : Value} {xs : List Bs} {y : Bs} (h : OwnS w B v (xs ++ [y])) :
    ∃ g cap, v = .slice (some ⟨g, 0, none⟩) (xs.length + 1) cap ∧ xs.length + 1 ≤ cap ∧ B ≤ g ∧ OwnS w B (.slice (some ⟨g, 0, none⟩) xs.length cap) xs ∧ (∀ (j : Nat) x, (xs ++ [y])[j]? = some x → w.cell? ⟨g, j, none⟩ = some (.string ⟨x.toArray⟩)) := by
  have h0 : (xs ++ [y]).length = xs.length + 1 := by simp
  have h' := h
  unfold OwnS at h'
  rw [h0] at h'
  rcases h'.2 with ⟨hv, h0⟩ | ⟨g, cap, cur, hv, hg, hh, hn, r⟩
  · omega
  · subst hv
    refine ⟨g, cap, rfl, hn, hg, OwnS.pop (y := y) (by unfold OwnS; rw [h0]; exact h'), fun j x hj => ?_⟩
    refine OwnS.cell (B := B) (cap := cap) (xs := xs ++ [y]) ?_ j x hj
    unfold OwnS; rw [h0]; exact h'
def lenOf : Value → Nat
  | .string b => b.size
  | _ => 0
@[simp] theorem lenOf_St (l : Bs) : lenOf (.string ⟨l.toArray⟩) = l.length := by simp [lenOf, ByteArray.size]
def laysWB_ren : Go.Shelf.Ren := ⟨fun | 167 => 179 | 240 => 130 | 276 => 220 | n => n, fun | 72 => 128 | 70 => 125 | 37 => 126 | 75 => 25 | 164 => 174 | 80 => 137 | n => n, fun | n => n⟩
theorem laysWB : Lays.n167 Tryz.prog laysWB_ren := {
  mixed := by kernel_rfl
  f167 := Tryz.func179.trans (congrArg some (by kernel_rfl))
  f240 := Tryz.func130.trans (congrArg some (by kernel_rfl))
  f276 := Tryz.func220.trans (congrArg some (by kernel_rfl))
  t0 := Tryz.underlying0
  a0 := Tryz.isAgg0
  z0 := Tryz.sizeOf0
  v0 := Tryz.zeroValue0
  t4 := Tryz.underlying4
  a4 := Tryz.isAgg4
  z4 := Tryz.sizeOf4
  v4 := Tryz.zeroValue4
  t5 := Tryz.underlying5
  a5 := Tryz.isAgg5
  z5 := Tryz.sizeOf5
  v5 := Tryz.zeroValue5
  t9 := Tryz.underlying9
  a9 := Tryz.isAgg9
  z9 := Tryz.sizeOf9
  v9 := Tryz.zeroValue9
  t20 := Tryz.underlying20
  a20 := Tryz.isAgg20
  z20 := Tryz.sizeOf20
  v20 := Tryz.zeroValue20
  t37 := Tryz.underlying126
  a37 := Tryz.isAgg126
  z37 := Tryz.sizeOf126
  v37 := Tryz.zeroValue126
  t70 := Tryz.underlying125
  a70 := Tryz.isAgg125
  z70 := Tryz.sizeOf125
  v70 := Tryz.zeroValue125
  t72 := Tryz.underlying128
  a72 := Tryz.isAgg128
  z72 := Tryz.sizeOf128
  v72 := Tryz.zeroValue128
  t75 := Tryz.underlying25
  a75 := Tryz.isAgg25
  z75 := Tryz.sizeOf25
  v75 := Tryz.zeroValue25
  t164 := Tryz.underlying174
  a164 := Tryz.isAgg174
  z164 := Tryz.sizeOf174
  v164 := Tryz.zeroValue174 }
theorem Builder_Extra_WB : Builder.Extra Tryz.prog laysWB_ren := {
  sizeBuilder := by kernel_rfl
  liesBuilder := by kernel_rfl
  t5 := Tryz.underlying5
  a5 := Tryz.isAgg5
  z5 := Tryz.sizeOf5
  v5 := Tryz.zeroValue5
  infoByte := by kernel_rfl
  cellsByte := by kernel_rfl
  sizeByte := by kernel_rfl
  neB5 := by decide }
theorem wrByte (B b : Nat) (l : Bs) (c : Int) (d : UInt8) (hc : c = d.toNat) (w : World) (h : Bld B b l w) (hlen : l.length + 1 ≤ 140737488355328) (hBw : B ≤ w.heap.size) :
    Calls Tryz.prog 179 #[.pointer (some ⟨b, 0, none⟩), .int .u8 c] w fun e w' => e = .returned .nilIface ∧ Bld B b (l ++ [d]) w' ∧ Below B w w' := by
  subst hc
  refine (Any.Builder_WriteByte laysWB Builder_Extra_WB B b (Lib.byteCells l) (d.toNat : Int) w h (by rw [Lib.byteCells_length]; exact hlen) hBw).mono ?_
  rintro e w' ⟨rfl, h1, h2⟩
  refine ⟨rfl, Or.inr ?_, h2⟩
  have e : Lib.byteCells l ++ [.int .u8 (d.toNat : Int)] = Lib.byteCells (l ++ [d]) := by simp [Lib.byteCells]
  rw [← e]; exact h1
theorem hasSuf (l p : Bs) (w : World) (hl : l.length ≤ 9223372036854775807) :
    Calls Tryz.prog 251 #[.string ⟨l.toArray⟩, .string ⟨p.toArray⟩] w fun e w' => e = .returned (.bool (Lib.hasSuffix l p)) ∧ w = w' := by
  refine (Tryz.strings_HasSuffix ⟨l.toArray⟩ ⟨p.toArray⟩ w hl).mono ?_
  rintro e w' ⟨rfl, rfl⟩
  exact ⟨rfl, rfl⟩
theorem trimSuf (l p : Bs) (w : World) (hl : l.length ≤ 9223372036854775807) :
    Calls Tryz.prog 77 #[.string ⟨l.toArray⟩, .string ⟨p.toArray⟩] w fun e w' => e = .returned (.string ⟨(Lib.trimSuffix l p).toArray⟩) ∧ w = w' := by
  refine (Tryz.strings_TrimSuffix ⟨l.toArray⟩ ⟨p.toArray⟩ w hl).mono ?_
  rintro e w' ⟨rfl, rfl⟩
  exact ⟨rfl, rfl⟩
theorem trimR (l cs : Bs) (w : World) (hl : l.length ≤ 9223372036854775807) (hcs : cs.length < 4294967281) (hascii : cs.all (fun b => decide (b.toNat < 128)) = true) :
    Calls Tryz.prog 92 #[.string ⟨l.toArray⟩, .string ⟨cs.toArray⟩] w fun e w' => e = .returned (.string ⟨(Lib.trimRightS l cs).toArray⟩) ∧ Below w.heap.size w w' :=
  Any.strings_TrimRight_laid Tryz.lays162 (by kernel_rfl) ⟨l.toArray⟩ ⟨cs.toArray⟩ w hl hcs (fun j b hj => by
    have := List.all_eq_true.1 hascii b (List.mem_of_getElem? hj)
    simpa using this)
theorem trimL (l cs : Bs) (w : World) (hcs : cs.length < 4294967281) (hascii : cs.all (fun b => decide (b.toNat < 128)) = true) :
    Calls Tryz.prog 91 #[.string ⟨l.toArray⟩, .string ⟨cs.toArray⟩] w fun e w' => e = .returned (.string ⟨(Lib.trimLeftS l cs).toArray⟩) ∧ Below w.heap.size w w' :=
  Any.strings_TrimLeft_laid Tryz.lays161 (by kernel_rfl) ⟨l.toArray⟩ ⟨cs.toArray⟩ w hcs (fun j b hj => by
    have := List.all_eq_true.1 hascii b (List.mem_of_getElem? hj)
    simpa using this)
def OwnG {α : Type} (e size : Nat) (cs : α → List Value) (w : World) (B : Nat) (v : Value) (xs : List α) : Prop := w.ownsRow B e size v xs.length (xs.flatMap cs)
theorem OwnG.nil {α : Type} (e size : Nat) (cs : α → List Value) (w : World) (B : Nat) : OwnG e size cs w B (.slice none 0 0) [] := World.ownsRow_nil _ _ _ _
theorem OwnG.alloc {α : Type} {e size : Nat} {cs : α → List Value} {w : World} {B : Nat} {v : Value} {xs : List α} (h : OwnG e size cs w B v xs) (o : Obj) : OwnG e size cs (w.alloc o) B v xs := World.ownsRow.alloc h o
theorem rowNext {B : Nat} {e : TypeId} {k : Nat} {v : Value} {n : Nat} {xs : List Value} {w w' : World} (h : w.ownsRow B e k v n xs) (hb : Below w.heap.size w w') : w'.ownsRow B e k v n xs := by
  rcases h with ⟨h3, h4⟩
  refine ⟨h3, ?_⟩
  rcases h4 with h4 | ⟨g, cap, cur, hv, hg, hh, r⟩
  · exact Or.inl h4
  · have hlt : g < w.heap.size := by
      rcases Nat.lt_or_ge g w.heap.size with h' | h'
      · exact h'
      · rw [Array.getElem?_eq_none h'] at hh; cases hh
    exact Or.inr ⟨g, cap, cur, hv, hg, (hb.block g hlt).trans hh, r⟩
theorem OwnG.next {α : Type} {e size : Nat} {cs : α → List Value} {w w' : World} {B : Nat} {v : Value} {xs : List α} (h : OwnG e size cs w B v xs) (hb : Below w.heap.size w w') : OwnG e size cs w' B v xs := rowNext h hb
theorem Bld.next {B b : Nat} {l : Bs} {w w' : World} (h : Bld B b l w) (hb : Below w.heap.size w w') : Bld B b l w' := by
  have go : ∀ p, Lib.BuilderAt 128 5 B b p (Lib.byteCells l) w → Lib.BuilderAt 128 5 B b p (Lib.byteCells l) w' := by
    rintro p ⟨h1, v, h2, h3, h5⟩
    have hlt : b < w.heap.size := by
      rcases Nat.lt_or_ge b w.heap.size with h' | h'
      · exact h'
      · rw [Array.getElem?_eq_none h'] at h2; cases h2
    exact ⟨h1, v, (hb.block b hlt).trans h2, rowNext h3 hb, h5⟩
  exact h.imp (go _) (go _)
theorem appG {α : Type} {e size : Nat} {cs : α → List Value} {t bytes : Nat} {z : Value} (hcs : ∀ x, (cs x).length = size) (hone : ∀ x, ∀ u ∈ cs x, u.oneCell' = true)
    (hinfo : (Tryz.prog.info? e).map (fun i => (i.zero, i.size, i.bytes)) = some (some z, size, bytes)) (hzs : z.cells.size = size) (hsz : 0 < size) (ht : Tryz.prog.underlying t = some (.slice e))
    {Q : Exit → Act → World → Prop} {ops : Array Oper} {rest : List Oper} {o : Oper} {a : Act} {w : World} (hgd : o.guard = none) (s x : Operand)
    (ho : o.op = .call { callee := .builtin .append, args := #[s, x], argTypes := #[t, t] }) (B : Nat) (v : Value) (xs ys : List α) (ad : Addr) (m c : Nat) (hm : m = ys.length)
    (hs : a.eval s = v) (hown : OwnG e size cs w B v xs) (hx : a.eval x = .slice (some ad) m c) (hc : ∀ j u, (ys.flatMap cs)[j]? = some u → w.cell? (ad.add j) = some u) (hn : (xs.length + ys.length) * bytes ≤ 140737488355328) (hn2 : xs.length + ys.length ≤ maxLen) (hbase : B ≤ w.heap.size)
    (h : ∀ v' w', OwnG e size cs w' B v' (xs ++ ys) → w.grownBy w' v.ownBlock → Below B w w' → wpList Tryz.prog ops Q rest (a.put o.dst v') w') : wpList Tryz.prog ops Q (o :: rest) a w := by
  subst hm
  obtain ⟨i0, hi, hz0, hz1, hz2⟩ := info_parts hinfo
  have hfl : ∀ zs : List α, (zs.flatMap cs).length = zs.length * size := fun zs => by
    induction zs with
    | nil => simp
    | cons y zs ih => rw [List.flatMap_cons, List.length_append, hcs, ih, List.length_cons, Nat.succ_mul]; omega
  refine wpList_append_own (w := w) hgd s x t ho B e i0 z size bytes ht hi hz0 hz1 hz2 hzs hsz v xs.length _ hs hown ad ys.length c (ys.flatMap cs) hx (hfl ys) hc ?_ hn2 hn hbase ?_
  · intro u hu
    obtain ⟨y, _, hy⟩ := List.mem_flatMap.1 hu
    exact hone y u hy
  · intro v' w' h1 h2 _
    refine h v' w' ?_ h2 ((Below.refl B w).grown h2 hbase fun k hk => ?_)
    · unfold OwnG
      rw [List.flatMap_append, List.length_append]; exact h1
    · rcases hown.2 with ⟨hv, _⟩ | ⟨g, cap, cur, hv, hg, _⟩
      · rw [hv] at hk; cases hk
      · rw [hv] at hk; injection hk with hk; rw [← hk]; exact hg
def OwnB (w : World) (B : Nat) (v : Value) (l : Bs) : Prop := OwnG 5 1 (fun c : UInt8 => [Value.int .u8 (c.toNat : Int)]) w B v l
theorem OwnB.alloc {w : World} {B : Nat} {v : Value} {l : Bs} (h : OwnB w B v l) (o : Obj) : OwnB (w.alloc o) B v l := OwnG.alloc h o
theorem OwnB.drew {w : World} {B : Nat} {v : Value} {l : Bs} (h : OwnB w B v l) : OwnB w.drew B v l := h
theorem OwnB.next {w w' : World} {B : Nat} {v : Value} {l : Bs} (h : OwnB w B v l) (hb : Below w.heap.size w w') : OwnB w' B v l := OwnG.next h hb
theorem bytes_flat (l : Bs) : l.flatMap (fun c : UInt8 => [Value.int .u8 (c.toNat : Int)]) = Lib.byteCells l := by
  induction l with
  | nil => rfl
  | cons c l ih => rw [List.flatMap_cons, ih]; rfl
theorem infoByte : (Tryz.prog.info? 5).map (fun i => (i.zero, i.size, i.bytes)) = some (some (.int .u8 0), 1, 1) := by kernel_rfl
theorem cell1 (w : World) (D : UInt8) (t : TypeId) (i : Nat) (h : i < [D].length) : (w.alloc (.cells #[.int .u8 (D.toNat : Int)] t)).cell? ⟨w.heap.size, i, none⟩ = some (.int .u8 ([D][i].toNat : Int)) := by
  obtain rfl : i = 0 := by simpa using h
  rw [(Blk.new w #[.int .u8 (D.toNat : Int)] t).cell]; rfl
theorem cell1d (w : World) (D : UInt8) (t : TypeId) (i : Nat) (h : i < [D].length) : (w.alloc (.cells #[.int .u8 (D.toNat : Int)] t)).drew.cell? ⟨w.heap.size, i, none⟩ = some (.int .u8 ([D][i].toNat : Int)) := cell1 w.drew D t i h
theorem appB {Q : Exit → Act → World → Prop} {ops : Array Oper} {rest : List Oper} {o : Oper} {a : Act} {w : World} (hgd : o.guard = none) (s x : Operand)
    (ho : o.op = .call { callee := .builtin .append, args := #[s, x], argTypes := #[126, 126] }) (B : Nat) (v : Value) (l ys : Bs) (b m c : Nat) (hm : m = ys.length)
    (hs : a.eval s = v) (hown : OwnB w B v l) (hx : a.eval x = .slice (some ⟨b, 0, none⟩) m c) (hc : ∀ j (h : j < ys.length), w.cell? ⟨b, j, none⟩ = some (.int .u8 (ys[j].toNat : Int))) (hn : l.length + ys.length ≤ 140737488355328) (hbase : B ≤ w.heap.size)
    (h : ∀ v' w', OwnB w' B v' (l ++ ys) → Below B w w' → wpList Tryz.prog ops Q rest (a.put o.dst v') w') : wpList Tryz.prog ops Q (o :: rest) a w := by
  refine appG (α := UInt8) (cs := fun c : UInt8 => [Value.int .u8 (c.toNat : Int)]) (size := 1) (z := .int .u8 0) (fun _ => rfl) (fun _ u hu => by simp at hu; rw [hu]; rfl) infoByte rfl (by decide) Tryz.underlying126 hgd s x ho B v l ys ⟨b, 0, none⟩ m c hm hs hown hx (fun j u hj => ?_) (by omega) (by unfold maxLen; omega) hbase fun v' w' h1 _ h3 => h v' w' h1 h3
  rw [bytes_flat] at hj
  rw [addr_add0]
  simp only [Lib.byteCells, List.getElem?_map, Option.map_eq_some_iff] at hj
  obtain ⟨d, hd, rfl⟩ := hj
  obtain ⟨hlt, rfl⟩ := List.getElem?_eq_some_iff.1 hd
  exact hc j hlt
theorem stepB {ops : Array Oper} {o : Oper} {a : Act} {w : World} {K : Act → World → Prop} {Q : Exit → Act → World → Prop} {E : Prop} (hgd : o.guard = none) (s x : Operand)
    (ho : o.op = .call { callee := .builtin .append, args := #[s, x], argTypes := #[126, 126] }) (B : Nat) (v : Value) (l ys : Bs) (b m c : Nat) (hm : m = ys.length) (h0 : 0 < m)
    (hs : a.eval s = v) (hown : OwnB w B v l) (hx : a.eval x = .slice (some ⟨b, 0, none⟩) m c) (hc : ∀ j (h : j < ys.length), w.cell? ⟨b, j, none⟩ = some (.int .u8 (ys[j].toNat : Int))) (hn : l.length + ys.length ≤ 140737488355328) (hbase : B ≤ w.heap.size)
    (h : ∀ v' w', OwnB w' B v' (l ++ ys) → Below B w w' → K (a.put o.dst v') w') : if Region.wanted o (yielded ops a.tmps) = true then Oper.wp Tryz.prog o a w K Q else E := by
  subst hm
  obtain ⟨i0, hi, hz0, hz1, hz2⟩ := info_parts infoByte
  refine step_append_lies (w := w) hgd s x 126 ho B 5 i0 (.int .u8 0) 1 1 Tryz.underlying126 hi hz0 hz1 hz2 rfl (by decide) v l.length _ hs hown ⟨b, 0, none⟩ ys.length c (ys.flatMap fun c : UInt8 => [Value.int .u8 (c.toNat : Int)]) hx (by rw [bytes_flat, Lib.byteCells_length]; simp) (fun j u hj => ?_) (fun u hu => ?_) h0 (by unfold maxLen; omega) (by omega) hbase _ rfl ?_
  · rw [bytes_flat] at hj
    rw [addr_add0]
    simp only [Lib.byteCells, List.getElem?_map, Option.map_eq_some_iff] at hj
    obtain ⟨d, hd, rfl⟩ := hj
    obtain ⟨hlt, rfl⟩ := List.getElem?_eq_some_iff.1 hd
    exact hc j hlt
  · obtain ⟨y, _, hy⟩ := List.mem_flatMap.1 hu
    simp at hy; rw [hy]; rfl
  · intro g cap w' h1 h2 _ _
    refine h _ w' ?_ ((Below.refl B w).grown h2 hbase fun k hk => ?_)
    · unfold OwnB OwnG
      rw [List.flatMap_append, List.length_append]; exact h1
    · rcases hown.2 with ⟨hv, _⟩ | ⟨g, cap, cur, hv, hg, _⟩
      · rw [hv] at hk; cases hk
      · rw [hv] at hk; injection hk with hk; rw [← hk]; exact hg
theorem appBS {Q : Exit → Act → World → Prop} {ops : Array Oper} {rest : List Oper} {o : Oper} {a : Act} {w : World} (hgd : o.guard = none) (s x : Operand)
    (ho : o.op = .call { callee := .builtin .append, args := #[s, x], argTypes := #[126, 9] }) (B : Nat) (v : Value) (l ys : Bs)
    (hs : a.eval s = v) (hown : OwnB w B v l) (hx : a.eval x = .string ⟨ys.toArray⟩) (hn : l.length + ys.length ≤ 140737488355328) (hbase : B ≤ w.heap.size)
    (h : ∀ v' w', OwnB w' B v' (l ++ ys) → Below B w w' → wpList Tryz.prog ops Q rest (a.put o.dst v') w') : wpList Tryz.prog ops Q (o :: rest) a w := by
  obtain ⟨i0, hi, hz0, hz1, hz2⟩ := info_parts infoByte
  refine Lib.wpList_append_own_string (w := w) hgd s x 126 9 ho B 5 i0 Tryz.underlying126 Tryz.underlying9 hi hz0 hz1 hz2 v l.length _ hs hown ⟨ys.toArray⟩ hx (show l.length + ys.length ≤ maxLen by unfold maxLen; omega) (show l.length + ys.length ≤ 140737488355328 from hn) hbase ?_
  intro v' w' h1 h2 _
  refine h v' w' ?_ ((Below.refl B w).grown h2 hbase fun k hk => ?_)
  · have e : Lib.byteCells l ++ Lib.strCells ⟨ys.toArray⟩ = Lib.byteCells (l ++ ys) := by simp [Lib.byteCells, Lib.strCells]
    unfold OwnB OwnG
    rw [bytes_flat, ← e, List.length_append, ← bytes_flat l]
    exact h1
  · rcases hown.2 with ⟨hv, _⟩ | ⟨g, cap, cur, hv, hg, _⟩
    · rw [hv] at hk; cases hk
    · rw [hv] at hk; injection hk with hk; rw [← hk]; exact hg
theorem OwnB.shape {w : World} {B : Nat} {v : Value} {l : Bs} (h : OwnB w B v l) : ∃ a cap, v = .slice a l.length cap ∧ ∀ j (hj : j < l.length), ∃ g, a = some ⟨g, 0, none⟩ ∧ w.cell? ⟨g, j, none⟩ = some (.int .u8 (l[j].toNat : Int)) := by
  unfold OwnB OwnG at h
  rw [bytes_flat] at h
  rcases h.2 with ⟨hv, h0⟩ | ⟨g, cap, cur, hv, hg, hh, hn, hcap, hsz, htake⟩
  · exact ⟨none, 0, by rw [hv, h0], fun j hj => by omega⟩
  · refine ⟨_, _, hv, fun j hj => ⟨g, rfl, ?_⟩⟩
    have h2 : (cur.toList.take (l.length * 1))[j]? = some (.int .u8 (l[j].toNat : Int)) := by rw [htake]; simp [Lib.byteCells, hj]
    rw [List.getElem?_take, if_pos (by omega)] at h2
    simp [World.cell?, hh]
    simpa using h2
theorem run_convert_bytes_back0 (w : World) (a : Option Addr) (cap : Nat) : (convert 126 9 (.slice a 0 cap)).run Tryz.prog w = .ok (.string ⟨#[]⟩) w := by
  cases a <;> kernel_rfl
theorem OwnB.text {w : World} {B : Nat} {v : Value} {l : Bs} (h : OwnB w B v l) : (convert 126 9 v).run Tryz.prog w = .ok (.string ⟨l.toArray⟩) w := by
  obtain ⟨a, cap, rfl, hc⟩ := h.shape
  cases l with
  | nil => exact run_convert_bytes_back0 w a cap
  | cons c l =>
    obtain ⟨g, rfl, _⟩ := hc 0 (by simp)
    exact run_convert_bytes_back (P := Tryz.prog) w 126 9 5 ⟨g, 0, none⟩ cap (c :: l) Tryz.underlying126 Tryz.underlying5 Tryz.underlying9 (fun j hj => by
      obtain ⟨g', e, h⟩ := hc j hj
      injection e with e; injection e with e; subst e
      rw [addr_add0]; exact h)
@[go_sem high] theorem conv1 (w : World) (c : UInt8) : (convert 126 9 (.slice (some ⟨w.heap.size, 0, none⟩) 1 1)).run Tryz.prog (w.alloc (.cells #[.int .u8 (c.toNat : Int)] 5)) = .ok (.string ⟨#[c]⟩) (w.alloc (.cells #[.int .u8 (c.toNat : Int)] 5)) :=
  run_convert_bytes_back (P := Tryz.prog) (w.alloc (.cells #[.int .u8 (c.toNat : Int)] 5)) 126 9 5 ⟨w.heap.size, 0, none⟩ 1 [c] Tryz.underlying126 Tryz.underlying5 Tryz.underlying9
    (fun j hj => by
      obtain rfl : j = 0 := by simpa using hj
      rw [addr_add0, (Blk.new _ _ _).cell]; rfl)
@[go_sem high] theorem conv2 (w : World) (c d : UInt8) : (convert 126 9 (.slice (some ⟨w.heap.size, 0, none⟩) 2 2)).run Tryz.prog (w.alloc (.cells #[.int .u8 (c.toNat : Int), .int .u8 (d.toNat : Int)] 5)) = .ok (.string ⟨#[c, d]⟩) (w.alloc (.cells #[.int .u8 (c.toNat : Int), .int .u8 (d.toNat : Int)] 5)) :=
  run_convert_bytes_back (P := Tryz.prog) (w.alloc (.cells #[.int .u8 (c.toNat : Int), .int .u8 (d.toNat : Int)] 5)) 126 9 5 ⟨w.heap.size, 0, none⟩ 2 [c, d] Tryz.underlying126 Tryz.underlying5 Tryz.underlying9
    (fun j hj => by
      have hj : j = 0 ∨ j = 1 := by simp at hj; omega
      rw [addr_add0, (Blk.new _ _ _).cell]
      rcases hj with rfl | rfl <;> rfl)
@[go_sem high] theorem conv1d (w : World) (c : UInt8) : (convert 126 9 (.slice (some ⟨w.heap.size, 0, none⟩) 1 1)).run Tryz.prog (w.alloc (.cells #[.int .u8 (c.toNat : Int)] 5)).drew = .ok (.string ⟨#[c]⟩) (w.alloc (.cells #[.int .u8 (c.toNat : Int)] 5)).drew := conv1 w.drew c
@[go_sem high] theorem conv2d (w : World) (c d : UInt8) : (convert 126 9 (.slice (some ⟨w.heap.size, 0, none⟩) 2 2)).run Tryz.prog (w.alloc (.cells #[.int .u8 (c.toNat : Int), .int .u8 (d.toNat : Int)] 5)).drew = .ok (.string ⟨#[c, d]⟩) (w.alloc (.cells #[.int .u8 (c.toNat : Int), .int .u8 (d.toNat : Int)] 5)).drew := conv2 w.drew c d
theorem split_len (l p : Bs) (h : 1 ≤ p.length) : (Lib.split l p).length = Lib.count l p + 1 := by
  have h1 := Lib.splitB_data ⟨p.toArray⟩ 0 (Lib.countB ⟨l.toArray⟩ ⟨p.toArray⟩) ⟨l.toArray⟩
  have h2 := Lib.splitB_all ⟨p.toArray⟩ h 0 (Lib.countB ⟨l.toArray⟩ ⟨p.toArray⟩) ⟨l.toArray⟩ rfl
  have h3 := congrArg List.length h1
  rw [List.length_map, h2] at h3
  exact h3.symm
theorem count_le (l p : Bs) (h : 1 ≤ p.length) : Lib.count l p ≤ l.length := Lib.countB_le ⟨p.toArray⟩ h l.length ⟨l.toArray⟩ (Nat.le_refl _)
theorem splitS (l p : Bs) (w : World) (hl : l.length < 4294967281) (hp : 1 ≤ p.length) (hg : Ground w) :
    Calls Tryz.prog 85 #[.string ⟨l.toArray⟩, .string ⟨p.toArray⟩] w fun e w' =>
      e = .returned (.slice (some ⟨w.heap.size, 0, none⟩) (Lib.split l p).length (Lib.split l p).length) ∧ w' = w.alloc (.cells (strRow (Lib.split l p)) 9) := by
  obtain ⟨m, hm⟩ := hg.maxLen
  refine (Tryz.strings_Split ⟨l.toArray⟩ ⟨p.toArray⟩ m w hl hm hp).mono ?_
  rintro e w' ⟨rfl, rfl⟩
  have h1 := Lib.splitB_data ⟨p.toArray⟩ 0 (Lib.countB ⟨l.toArray⟩ ⟨p.toArray⟩) ⟨l.toArray⟩
  have h2 : (Lib.splitB ⟨p.toArray⟩ 0 (Lib.countB ⟨l.toArray⟩ ⟨p.toArray⟩) ⟨l.toArray⟩).map Value.string = (Lib.split l p).map fun x => Value.string ⟨x.toArray⟩ := by
    rw [show Lib.split l p = (Lib.splitB ⟨p.toArray⟩ 0 (Lib.countB ⟨l.toArray⟩ ⟨p.toArray⟩) ⟨l.toArray⟩).map (·.data.toList) from h1.symm, List.map_map]
    apply List.map_congr_left
    intro x _
    exact congrArg Value.string (Lib.mk_data x).symm
  rw [h2, split_len l p hp]
  exact ⟨rfl, rfl⟩
theorem wraps40 (n : Int) (h0 : 0 ≤ n) (h1 : n < 2 ^ 40) : IntKind.i64.wrap n = n := IntWalk.i64_in n (by omega)
theorem or64 (i : Nat) (x y : Int) (h0 : 0 ≤ x) (hx : x % 2 ^ i = 0) (h1 : x < 2 ^ 40) (h2 : 0 ≤ y) (h3 : y < 2 ^ i) (h4 : y < 2 ^ 40) : bits .or .i64 x y = x + y := bits_join .i64 40 (by decide) wraps40 i x y h0 hx h1 h2 h3 h4
theorem and64 (i : Nat) (hi : i ≤ 40) (x : Int) (h0 : 0 ≤ x) (h1 : x < 2 ^ 40) : bits .and .i64 x (2 ^ i - 1) = x % 2 ^ i := bits_mask .i64 40 (by decide) wraps40 i hi x h0 h1
theorem or64_6 (x y : Int) (h0 : 0 ≤ x) (h1 : x < 4294967296) (h2 : 0 ≤ y) (h3 : y < 64) : bits .or .i64 (x * 64) y = x * 64 + y := or64 6 _ _ (by omega) (by omega) (by omega) h2 (by omega) (by omega)
theorem or64_8 (x y : Int) (h0 : 0 ≤ x) (h1 : x < 4294967296) (h2 : 0 ≤ y) (h3 : y < 256) : bits .or .i64 (x * 256) y = x * 256 + y := or64 8 _ _ (by omega) (by omega) (by omega) h2 (by omega) (by omega)
theorem or64_4 (x y : Int) (h0 : 0 ≤ x) (h1 : x < 4294967296) (h2 : 0 ≤ y) (h3 : y < 16) : bits .or .i64 (x * 16) y = x * 16 + y := or64 4 _ _ (by omega) (by omega) (by omega) h2 (by omega) (by omega)
theorem and64_63 (x : Int) (h0 : 0 ≤ x) (h1 : x < 1099511627776) : bits .and .i64 x 63 = x % 64 := and64 6 (by decide) x h0 (by omega)
theorem and64_255 (x : Int) (h0 : 0 ≤ x) (h1 : x < 1099511627776) : bits .and .i64 x 255 = x % 256 := and64 8 (by decide) x h0 (by omega)
theorem and64_65535 (x : Int) (h0 : 0 ≤ x) (h1 : x < 1099511627776) : bits .and .i64 x 65535 = x % 65536 := and64 16 (by decide) x h0 (by omega)
theorem flat_len {α : Type} {size : Nat} {cs : α → List Value} (hcs : ∀ x, (cs x).length = size) (zs : List α) : (zs.flatMap cs).length = zs.length * size := by
  induction zs with
  | nil => simp
  | cons y zs ih => rw [List.flatMap_cons, List.length_append, hcs, ih, List.length_cons, Nat.succ_mul]; omega
theorem flat_at {α : Type} {size : Nat} {cs : α → List Value} (hcs : ∀ x, (cs x).length = size) : ∀ (zs : List α) (k : Nat) (hk : k < zs.length) (i : Nat), i < size → (zs.flatMap cs)[k * size + i]? = (cs zs[k])[i]?
  | z :: zs, 0, _, i, hi => by
    rw [List.flatMap_cons, Nat.zero_mul, Nat.zero_add, List.getElem?_append_left (by rw [hcs]; exact hi)]; rfl
  | z :: zs, k + 1, hk, i, hi => by
    rw [List.flatMap_cons, List.getElem?_append_right (by rw [hcs, Nat.succ_mul]; omega), hcs, show (k + 1) * size + i - size = k * size + i from by rw [Nat.succ_mul]; omega, flat_at hcs zs k (by simpa using hk) i hi]; rfl
def RdG {α : Type} (size : Nat) (cs : α → List Value) (w : World) (v : Value) (xs : List α) : Prop :=
  ∃ a cap, v = .slice a xs.length cap ∧ (0 < xs.length → ∃ b, a = some ⟨b, 0, none⟩ ∧ b < w.heap.size ∧ ∀ j, j < xs.length * size → w.cell? ⟨b, j, none⟩ = (xs.flatMap cs)[j]?)
theorem RdG.next {α : Type} {size : Nat} {cs : α → List Value} {w w' : World} {v : Value} {xs : List α} (h : RdG size cs w v xs) (hb : Below w.heap.size w w') : RdG size cs w' v xs := by
  obtain ⟨a, cap, hv, hc⟩ := h
  refine ⟨a, cap, hv, fun h0 => ?_⟩
  obtain ⟨b, ha, hlt, hcell⟩ := hc h0
  exact ⟨b, ha, Nat.lt_of_lt_of_le hlt hb.size, fun j hj => (hb.cell (p := ⟨b, j, none⟩) hlt).trans (hcell j hj)⟩
theorem OwnG.rd {α : Type} {e size : Nat} {cs : α → List Value} (hsz : 0 < size) (hcs : ∀ x, (cs x).length = size) {w : World} {B : Nat} {v : Value} {xs : List α} (h : OwnG e size cs w B v xs) : RdG size cs w v xs := by
  unfold OwnG at h
  rcases h.2 with ⟨hv, h0⟩ | ⟨g, cap, cur, hv, hg, hh, hn, hcap, hsz, htake⟩
  · have hl := flat_len hcs xs
    rw [h0] at hl
    have h1 : xs.length = 0 := by
      rcases Nat.eq_zero_or_pos xs.length with h | h
      · exact h
      · have := Nat.mul_pos h hsz; simp at hl; omega
    exact ⟨none, 0, by rw [hv, h1], fun hp => by omega⟩
  · refine ⟨_, cap, hv, fun _ => ⟨g, rfl, ?_, fun j hj => ?_⟩⟩
    · rcases Nat.lt_or_ge g w.heap.size with h' | h'
      · exact h'
      · rw [Array.getElem?_eq_none h'] at hh; cases hh
    · have h2 : (cur.toList.take (xs.length * size))[j]? = (xs.flatMap cs)[j]? := by rw [htake]
      rw [List.getElem?_take, if_pos hj] at h2
      simp [World.cell?, hh]
      simpa using h2
def fldC (f : Fld) : List Value := [.string ⟨f.1.toArray⟩, .string ⟨f.2.toArray⟩]
abbrev RdF (w : World) (v : Value) (l : List Fld) : Prop := RdG 2 fldC w v l
theorem fldC_len (f : Fld) : (fldC f).length = 2 := rfl
theorem RdF.open {w : World} {v : Value} {l : List Fld} (h : RdF w v l) : ∃ a cap, v = .slice a l.length cap ∧ ∀ k (hk : k < l.length), ∃ b, a = some ⟨b, 0, none⟩ ∧ b < w.heap.size ∧ w.cell? ⟨b, k * 2, none⟩ = some (.string ⟨(l[k]).1.toArray⟩) ∧ w.cell? ⟨b, k * 2 + 1, none⟩ = some (.string ⟨(l[k]).2.toArray⟩) := by
  obtain ⟨a, cap, hv, hc⟩ := h
  refine ⟨a, cap, hv, fun k hk => ?_⟩
  obtain ⟨b, ha, hlt, hcell⟩ := hc (by omega)
  refine ⟨b, ha, hlt, ?_, ?_⟩
  · rw [hcell (k * 2) (by omega)]
    have := flat_at fldC_len l k hk 0 (by decide)
    rw [Nat.add_zero] at this
    rw [this]; rfl
  · rw [hcell (k * 2 + 1) (by omega), flat_at fldC_len l k hk 1 (by decide)]; rfl
end Go.Proofs.YtignjjnflcpiiaaGreatDoor
