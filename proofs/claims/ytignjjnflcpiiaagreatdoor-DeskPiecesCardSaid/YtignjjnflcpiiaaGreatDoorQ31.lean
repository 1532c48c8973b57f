/- A desk in memory; a line's words; the commands that look at no bundle. Condition: what the variables hold; so many bytes; desk's links. Condition: what the variables hold; so many bytes; desk's is, find, lead, at, resolve. Condition: what the variables hold; so many bytes. -/
import Derived.Test.YtignjjnflcpiiaaGreatDoorQ30
namespace Go.Proofs.YtignjjnflcpiiaaGreatDoor
open Go Go.RowKit
structure KeepX (X : Nat → Prop) (w w' : World) : Prop where
  os : w'.os = w.os
  tape : w'.tape = w.tape
  output : w'.output = w.output
  size : w.heap.size ≤ w'.heap.size
  block : ∀ k, X k → w'.heap[k]? = w.heap[k]?
theorem KeepX.of {X : Nat → Prop} {w w' : World} (hX : ∀ k, X k → k < w.heap.size) (h : Below w.heap.size w w') : KeepX X w w' := ⟨h.os, h.tape, h.output, h.size, fun k hk => h.block k (hX k hk)⟩
theorem KeepX.trans {X : Nat → Prop} {a b c : World} (h : KeepX X a b) (k : KeepX X b c) : KeepX X a c := ⟨k.os.trans h.os, k.tape.trans h.tape, k.output.trans h.output, Nat.le_trans h.size k.size, fun i hi => (k.block i hi).trans (h.block i hi)⟩
def RdW (w : World) (v : Value) (l : List Bs) : Prop := ∃ bk o c, v = .slice (some ⟨bk, o, none⟩) l.length c ∧ bk < w.heap.size ∧ l.length ≤ c ∧ ∀ (j : Nat) x, l[j]? = some x → w.cell? ⟨bk, o + j, none⟩ = some (.string ⟨x.toArray⟩)
theorem RdW.next {w w' : World} {v : Value} {l : List Bs} (h : RdW w v l) (hb : Below w.heap.size w w') : RdW w' v l := by
  obtain ⟨bk, o, c, h1, h2, h3, h4⟩ := h
  exact ⟨bk, o, c, h1, Nat.lt_of_lt_of_le h2 hb.size, h3, fun j x hx => (hb.cell (p := ⟨bk, o + j, none⟩) h2).trans (h4 j x hx)⟩
def AnsOr (a : Ans) (e : Ending) : Prop := match a with
  | .ok s => e = .returned (.string ⟨s.toArray⟩)
  | .error c => e = thrown c
def DeskM (X : Nat → Prop) (w : World) (d : Nat) (dk : Dsk) : Prop := ∃ bptr self v, Blk w d #[bptr, self, v] 130 ∧ ¬ X d ∧ (self = .pointer none ∨ self = .pointer (some ⟨d, 1, none⟩)) ∧ OwnB w 0 v dk.said ∧ (∀ g, v.ownBlock = some g → ¬ X g ∧ g ≠ d) ∧
  ((dk.bundle = none ∧ bptr = .pointer none) ∨ ∃ b bp, dk.bundle = some b ∧ bptr = .pointer (some ⟨bp, 0, none⟩) ∧ RdBnd (fun c => ¬ X c ∧ c ≠ d ∧ v.ownBlock ≠ some c) w bp b ∧ BndIn b ∧ b.root ≤ 1000000)
theorem DeskM.next {X : Nat → Prop} {w w' : World} {d : Nat} {dk : Dsk} (h : DeskM X w d dk) (hb : Below w.heap.size w w') : DeskM X w' d dk := by
  obtain ⟨bptr, self, v, h1, h2, h3, h4, h5, h6⟩ := h
  refine ⟨bptr, self, v, h1.next hb h1.lt, h2, h3, OwnG.next h4 hb, h5, ?_⟩
  rcases h6 with h6 | ⟨b, bp, h6, h7, h8, h9⟩
  · exact Or.inl h6
  · exact Or.inr ⟨b, bp, h6, h7, h8.next hb, h9⟩
theorem joinW (v : Value) (l : List Bs) (w : World) (h : RdW w v l) (hl : (blankT l).length ≤ 1000000) (hn : l.length ≤ 1000000) :
    Calls Tryz.prog 155 #[v, .string ⟨#[32]⟩] w fun e w' => e = .returned (.string ⟨(blankT l).toArray⟩) ∧ Below w.heap.size w w' := by
  obtain ⟨bk, o, c, rfl, h2, h3, h4⟩ := h
  exact joinStr bk o c l [32] w h4 h2 (by omega) h3 (by unfold blankT at hl; omega)
theorem unquoteT_le {s o : Bs} (h : unquoteT s = some o) : o.length ≤ 3 * s.length + 2 := by
  have h1 : decodeF [(cteN, wQuoted)] s = .ok o := by
    unfold decodeF
    rw [show getF [(cteN, wQuoted)] cteN = some wQuoted from rfl]
    simp only
    rw [if_neg (by decide), if_neg (by decide), if_pos (by decide), h]
  exact decodeF_len h1
theorem packT_len2 (s : Bs) : (packT s).length ≤ 2 * s.length + 6 := packL_len2 _ _
set_option maxHeartbeats 4000000 in
set_option maxRecDepth 100000 in
theorem dpack_any (p v : Value) (l : List Bs) (w : World) (h : RdW w v l) (hl : (blankT l).length ≤ 1000000) (hn : l.length ≤ 1000000) :
    Calls Tryz.prog 231 #[p, v] w fun e w' => AnsOr (packD l) e ∧ Below w.heap.size w w' := by
  have hJ := joinW v l w h hl hn
  have hP := fun W => pack_any (blankT l) W (by omega)
  have hS := fun W => show_any (packT (blankT l)) W (by have := packT_len2 (blankT l); omega)
  show Calls _ _ _ _ fun e w' => e = .returned (.string ⟨(showT (packT (blankT l))).toArray⟩) ∧ Below w.heap.size w w'
  generalize showT (packT (blankT l)) = r at hS ⊢
  generalize packT (blankT l) = q at hP hS
  generalize blankT l = j at hJ hP
  obtain ⟨bk, o, c, rfl, _⟩ := h
  clear hl
  go_enter Tryz.func231, Tryz.ntmps231
  go_wp2_with fail
  with_reducible refine hJ.mono ?_
  rintro e w1 ⟨rfl, b1⟩
  go_wp2_with fail
  with_reducible refine (hP _).mono ?_
  rintro e w2 ⟨rfl, b2⟩
  have B2 := b1.trans (b2.mono b1.size)
  go_wp2_with fail
  with_reducible refine (hS _).mono ?_
  rintro e w3 ⟨rfl, b3⟩
  go_wp2_with fail
  go_ret
  exact ⟨rfl, B2.trans (b3.mono B2.size)⟩
set_option maxHeartbeats 4000000 in
set_option maxRecDepth 100000 in
theorem dquote_any (p v : Value) (l : List Bs) (w : World) (h : RdW w v l) (hl : (blankT l).length ≤ 1000000) (hn : l.length ≤ 1000000) :
    Calls Tryz.prog 233 #[p, v] w fun e w' => AnsOr (quoteD l) e ∧ Below w.heap.size w w' := by
  have hJ := joinW v l w h hl hn
  have hP := fun W => quote_any (blankT l) W (by omega)
  have hS := fun W => show_any (quoteT (blankT l)) W (by have := quoteT_length (blankT l); omega)
  show Calls _ _ _ _ fun e w' => e = .returned (.string ⟨(showT (quoteT (blankT l))).toArray⟩) ∧ Below w.heap.size w w'
  generalize showT (quoteT (blankT l)) = r at hS ⊢
  generalize quoteT (blankT l) = q at hP hS
  generalize blankT l = j at hJ hP
  obtain ⟨bk, o, c, rfl, _⟩ := h
  clear hl
  go_enter Tryz.func233, Tryz.ntmps233
  go_wp2_with fail
  with_reducible refine hJ.mono ?_
  rintro e w1 ⟨rfl, b1⟩
  go_wp2_with fail
  with_reducible refine (hP _).mono ?_
  rintro e w2 ⟨rfl, b2⟩
  have B2 := b1.trans (b2.mono b1.size)
  go_wp2_with fail
  with_reducible refine (hS _).mono ?_
  rintro e w3 ⟨rfl, b3⟩
  go_wp2_with fail
  go_ret
  exact ⟨rfl, B2.trans (b3.mono B2.size)⟩
set_option maxHeartbeats 4000000 in
set_option maxRecDepth 100000 in
theorem dunpack_any (p v : Value) (l : List Bs) (w : World) (h : RdW w v l) (hl : (blankT l).length ≤ 1000000) (hn : l.length ≤ 1000000) (hg : Gz w) :
    Calls Tryz.prog 235 #[p, v] w fun e w' => AnsOr (unpackD l) e ∧ Below w.heap.size w w' := by
  have hJ := joinW v l w h hl hn
  have hP := fun W => unpack_any (blankT l) W (by omega)
  have hxl := fun o (h : unpackT (blankT l) = some o) => unpackL_len _ _ _ _ _ h
  have HN := Lib.hid (show unpackD l = match unpackT (blankT l) with | none => .error 3 | some s => .ok (showT s) from rfl)
  generalize unpackT (blankT l) = q at hP hxl HN
  generalize blankT l = j at hJ hP hl hxl
  have hM := fun W hW => must_err (.iface 30 (.int .i64 3)) 3 W (Or.inl rfl) hW
  have hM0 := fun W => must_nil W
  unfold thrown at hM
  obtain ⟨bk, o, c, rfl, _⟩ := h
  go_enter Tryz.func235, Tryz.ntmps235
  go_wp2_with fail
  with_reducible refine hJ.mono ?_
  rintro e w1 ⟨rfl, b1⟩
  go_wp2_with fail
  with_reducible refine (hP _).mono ?_
  rintro e w2 ⟨rfl, b2⟩
  have B2 := b1.trans (b2.mono b1.size)
  have hg2 := hg.next B2
  cases q with
  | none =>
    have HN := Lib.hid (show unpackD l = .error 3 from HN.out)
    unfold orForm
    go_wp2_with fail
    with_reducible refine (hM _ hg2.r).mono ?_
    rintro e w3 ⟨rfl, b3⟩
    go_wp2_with fail
    exact ⟨rfl, by rw [HN.out]; rfl, B2.trans (b3.mono B2.size)⟩
  | some x =>
    have hxl := hxl x rfl
    have HN := Lib.hid (show unpackD l = .ok (showT x) from HN.out)
    have hS := fun W => show_any x W (by omega)
    generalize showT x = r at hS HN
    unfold orForm
    go_wp2_with fail
    with_reducible refine (hM0 _).mono ?_
    rintro e w3 ⟨rfl, rfl⟩
    go_wp2_with fail
    with_reducible refine (hS _).mono ?_
    rintro e w4 ⟨rfl, b4⟩
    go_wp2_with fail
    go_ret
    exact ⟨by rw [HN.out]; rfl, B2.trans (b4.mono B2.size)⟩
set_option maxHeartbeats 4000000 in
set_option maxRecDepth 100000 in
theorem dunquote_any (p v : Value) (l : List Bs) (w : World) (h : RdW w v l) (hl : (blankT l).length ≤ 1000000) (hn : l.length ≤ 1000000) (hg : Gz w) :
    Calls Tryz.prog 236 #[p, v] w fun e w' => AnsOr (unquoteD l) e ∧ Below w.heap.size w w' := by
  have hJ := joinW v l w h hl hn
  have hP := fun W hW => unquote_any (blankT l) W (by omega) hW
  have hxl := fun o (h : unquoteT (blankT l) = some o) => unquoteT_le h
  have HN := Lib.hid (show unquoteD l = match unquoteT (blankT l) with | none => .error 3 | some s => .ok (showT s) from rfl)
  generalize unquoteT (blankT l) = q at hP hxl HN
  generalize blankT l = j at hJ hP hl hxl
  have hM := fun W hW => must_err (.iface 30 (.int .i64 3)) 3 W (Or.inl rfl) hW
  have hM0 := fun W => must_nil W
  unfold thrown at hM
  obtain ⟨bk, o, c, rfl, _⟩ := h
  go_enter Tryz.func236, Tryz.ntmps236
  go_wp2_with fail
  with_reducible refine hJ.mono ?_
  rintro e w1 ⟨rfl, b1⟩
  go_wp2_with fail
  with_reducible refine (hP _ (hg.next b1).r.g).mono ?_
  rintro e w2 ⟨rfl, b2⟩
  have B2 := b1.trans (b2.mono b1.size)
  have hg2 := hg.next B2
  cases q with
  | none =>
    have HN := Lib.hid (show unquoteD l = .error 3 from HN.out)
    unfold orForm
    go_wp2_with fail
    with_reducible refine (hM _ hg2.r).mono ?_
    rintro e w3 ⟨rfl, b3⟩
    go_wp2_with fail
    exact ⟨rfl, by rw [HN.out]; rfl, B2.trans (b3.mono B2.size)⟩
  | some x =>
    have hxl := hxl x rfl
    have HN := Lib.hid (show unquoteD l = .ok (showT x) from HN.out)
    have hS := fun W => show_any x W (by omega)
    generalize showT x = r at hS HN
    unfold orForm
    go_wp2_with fail
    with_reducible refine (hM0 _).mono ?_
    rintro e w3 ⟨rfl, rfl⟩
    go_wp2_with fail
    with_reducible refine (hS _).mono ?_
    rintro e w4 ⟨rfl, b4⟩
    go_wp2_with fail
    go_ret
    exact ⟨by rw [HN.out]; rfl, B2.trans (b4.mono B2.size)⟩
set_option maxHeartbeats 4000000 in
set_option maxRecDepth 100000 in
theorem dkind_any (p v : Value) (l : List Bs) (w : World) (h : RdW w v l) (hl : (blankT l).length ≤ 1000000) (hn : l.length ≤ 1000000) (hg : Gz w) :
    Calls Tryz.prog 227 #[p, v] w fun e w' => AnsOr (kindD l) e ∧ Below w.heap.size w w' := by
  have hJ := joinW v l w h hl hn
  have hK := fun W hW => readKind_any (blankT l) W (by omega) hW
  have HN := Lib.hid (show kindD l = match readK (blankT l) with | none => .error 3 | some (m, l) => match writeK m l with | none => .error 1 | some s => .ok s from rfl)
  generalize blankT l = j at hJ hK hl HN
  have hM := fun W hW => must_err (.iface 30 (.int .i64 3)) 3 W (Or.inl rfl) hW
  have hM0 := fun W => must_nil W
  unfold thrown at hM
  obtain ⟨bk, o, c, rfl, _⟩ := h
  go_enter Tryz.func227, Tryz.ntmps227
  go_wp2_with fail
  with_reducible refine hJ.mono ?_
  rintro e w1 ⟨rfl, b1⟩
  go_wp2_with fail
  with_reducible refine (hK _ (hg.next b1).r.g).mono ?_
  rintro e w2 ⟨hh, b2⟩
  have B2 := b1.trans (b2.mono b1.size)
  have hg2 := hg.next B2
  obtain ⟨m, ps, kv, err, rfl, hown, _, hml, hpn, hcase⟩ := hh.get
  clear hh hK b2
  rcases hcase with ⟨hr, rfl⟩ | ⟨hr, rfl⟩
  · have HN := Lib.hid (show kindD l = .error 3 from by rw [HN.out, hr])
    clear hr
    go_wp2_with fail
    with_reducible refine (hM _ hg2.r).mono ?_
    rintro e w3 ⟨rfl, b3⟩
    go_wp2_with fail
    exact ⟨rfl, by rw [HN.out]; rfl, B2.trans (b3.mono B2.size)⟩
  · have HN := Lib.hid (show kindD l = match writeK m ps with | none => .error 1 | some s => .ok s from by rw [HN.out, hr])
    have hpn := hpn.mono hl
    have hW := writeKind_any m kv ps w2 (OwnG.rd (by decide) fldC_len hown) (by omega) hpn.1 hpn.2 hg2.r.g
    generalize writeK m ps = wk at hW HN
    obtain ⟨a9, c9, hk9, _⟩ := OwnG.rd (by decide) fldC_len hown
    subst hk9
    clear hr hown
    go_wp2_with fail
    with_reducible refine (hM0 _).mono ?_
    rintro e w3 ⟨rfl, rfl⟩
    go_wp2_with fail
    with_reducible refine hW.mono ?_
    rintro e w3 ⟨hh, b3⟩
    have B3 := B2.trans (b3.mono B2.size)
    rcases hh with ⟨o, rfl, rfl⟩ | ⟨ev, rfl, rfl, hev⟩
    · have HN := Lib.hid (show kindD l = .ok o from HN.out)
      go_wp2_with fail
      with_reducible refine (hM0 _).mono ?_
      rintro e w4 ⟨rfl, rfl⟩
      go_wp2_with fail
      go_ret
      exact ⟨by rw [HN.out]; rfl, B3⟩
    · have HN := Lib.hid (show kindD l = .error 1 from HN.out)
      have hM1 := must_err ev 1 w3 (hev.n (by decide)) (hg2.next b3).r
      obtain ⟨t, x, rfl⟩ := (hev.n (by decide)).some
      unfold thrown at hM1
      go_wp2_with fail
      with_reducible refine hM1.mono ?_
      rintro e w4 ⟨rfl, b4⟩
      go_wp2_with fail
      exact ⟨rfl, by rw [HN.out]; rfl, B3.trans (b4.mono B3.size)⟩
set_option maxHeartbeats 4000000 in
set_option maxRecDepth 100000 in
theorem dhelp_any (p v : Value) (l : List Bs) (w : World) (h : RdW w v l) (hg : Gz w) :
    Calls Tryz.prog 226 #[p, v] w fun e w' => AnsOr (helpD l) e ∧ Below w.heap.size w w' := by
  obtain ⟨bk, o, c, rfl, _⟩ := h
  by_cases h0 : l.length = 0
  · have HN := Lib.hid (show helpD l = .ok commandsT from by unfold helpD; rw [if_neg (by omega)])
    have hW := fun W => words_ok (some ⟨bk, o, none⟩) l.length c 0 (by rw [h0]; rfl) W
    clear h0
    go_enter Tryz.func226, Tryz.ntmps226
    go_wp2_with fail
    with_reducible refine (hW _).mono ?_
    rintro e w1 ⟨rfl, rfl⟩
    go_wp2_with fail
    go_ret
    exact ⟨by rw [HN.out]; rfl, Below.refl _ _⟩
  · have HN := Lib.hid (show helpD l = .error 3 from by unfold helpD; rw [if_pos h0])
    have hW := words_no (some ⟨bk, o, none⟩) l.length c 0 (by rw [beq_eq_false_iff_ne]; omega) w hg.r
    unfold thrown at hW
    clear h0
    go_enter Tryz.func226, Tryz.ntmps226
    go_wp2_with fail
    with_reducible refine hW.mono ?_
    rintro e w1 ⟨rfl, b1⟩
    go_wp2_with fail
    exact ⟨rfl, by rw [HN.out]; rfl, b1⟩
set_option maxHeartbeats 4000000 in
set_option maxRecDepth 100000 in
theorem ddots_any (p v : Value) (l : List Bs) (w : World) (h : RdW w v l) (hn : l.length ≤ 1000000) (hx : ∀ x ∈ l, x.length ≤ 1000000) (hg : Gz w) :
    Calls Tryz.prog 224 #[p, v] w fun e w' => AnsOr (dotsD l) e ∧ Below w.heap.size w w' := by
  obtain ⟨bk, o, c, rfl, hbk, _, hcl⟩ := h
  by_cases h0 : l.length = 1
  · obtain ⟨x, rfl⟩ := List.length_eq_one_iff.1 h0
    have HN := Lib.hid (show dotsD [x] = .ok (105 :: 115 :: 32 :: dotsA x) from rfl)
    have hW := fun W => words_ok (some ⟨bk, o, none⟩) 1 c 1 rfl W
    have hc := hcl 0 x rfl
    have hxl := hx x (by simp)
    have hD := fun W hW => dots_any x W (by omega) hW
    have hdl := dotsA_len x
    generalize dotsA x = dx at hD HN hdl
    clear h0 hcl hx
    rw [Nat.add_zero] at hc
    go_enter Tryz.func224, Tryz.ntmps224
    go_wp2_with fail
    with_reducible refine (hW _).mono ?_
    rintro e w1 ⟨rfl, rfl⟩
    go_wp2_with fail
    with_reducible refine (hD _ hg.r.g).mono ?_
    rintro e w1 ⟨rfl, b1⟩
    go_wp2_with fail
    go_ret
    exact ⟨by rw [HN.out]; rfl, b1⟩
  · have HN := Lib.hid (show dotsD l = .error 3 from by unfold dotsD; rw [if_pos h0])
    have hW := words_no (some ⟨bk, o, none⟩) l.length c 1 (by rw [beq_eq_false_iff_ne]; omega) w hg.r
    unfold thrown at hW
    clear h0
    go_enter Tryz.func224, Tryz.ntmps224
    go_wp2_with fail
    with_reducible refine hW.mono ?_
    rintro e w1 ⟨rfl, b1⟩
    go_wp2_with fail
    exact ⟨rfl, by rw [HN.out]; rfl, b1⟩
theorem join_len : ∀ (l : List Bs) (p : Bs), (Lib.join l p).length ≤ (l.map List.length).sum + l.length * p.length
  | [], _ => by simp [Lib.join]
  | x :: l, p => by
    rw [Lib.join_cons]
    have h : (Lib.joinTail p l).length = (l.map List.length).sum + l.length * p.length := by
      unfold Lib.joinTail
      induction l with
      | nil => simp
      | cons y l ih =>
        simp only [List.map_cons, List.flatten_cons, List.length_append, List.sum_cons, List.length_cons, Nat.succ_mul]
        omega
    simp only [List.length_append, List.map_cons, List.sum_cons, List.length_cons, Nat.succ_mul]
    omega
theorem sum_le {α : Type} (f : α → Nat) (M : Nat) : ∀ l : List α, (∀ x ∈ l, f x ≤ M) → (l.map f).sum ≤ l.length * M
  | [], _ => by simp
  | x :: l, h => by
    have h1 := h x (by simp)
    have h2 := sum_le f M l fun y hy => h y (by simp [hy])
    simp only [List.map_cons, List.sum_cons, List.length_cons, Nat.succ_mul]
    omega
theorem comma_len {l : List Bs} {M : Nat} (h : ∀ x ∈ l, x.length ≤ M) : (commaT l).length ≤ l.length * (M + 2) := by
  have h1 := join_len l [44, 32]
  have h2 := sum_le List.length M l h
  unfold commaT
  have e : l.length * (M + 2) = l.length * M + l.length * 2 := Nat.mul_add _ _ _
  have e2 : ([44, 32] : Bs).length = 2 := rfl
  rw [e2] at h1
  omega
theorem joinC (B : Nat) (v : Value) (l : List Bs) (w : World) (h : OwnT w B v l) (hn : l.length ≤ 1000000) (hl : (commaT l).length ≤ 140737488355328) :
    Calls Tryz.prog 155 #[v, .string ⟨#[44, 32]⟩] w fun e w' => e = .returned (.string ⟨(commaT l).toArray⟩) ∧ Below w.heap.size w w' := by
  obtain ⟨a, cap, hv, hc⟩ := OwnG.rd (by decide) strC_len h
  cases l with
  | nil =>
    subst hv
    refine (joinNone a cap [44, 32] w).mono ?_
    rintro e w' ⟨rfl, rfl⟩
    exact ⟨rfl, Below.refl _ _⟩
  | cons x l =>
    obtain ⟨b, ha, hlt, hcell⟩ := hc (by simp)
    subst ha
    rcases h.2 with ⟨h1, _⟩ | ⟨g, cap2, cur, h1, _, _, hcap, _⟩
    · rw [hv] at h1; cases h1
    · rw [hv] at h1
      injection h1 with h1 h2 h3
      subst h3 hv
      refine joinStr b 0 cap (x :: l) [44, 32] w (fun j y hj => ?_) hlt (by omega) hcap hl
      have hjl := (List.getElem?_eq_some_iff.1 hj).1
      rw [Nat.zero_add, hcell j (by omega)]
      have := flat_at strC_len (x :: l) j hjl 0 (by decide)
      rw [Nat.mul_one, Nat.add_zero] at this
      rw [this]
      rw [List.getElem?_eq_getElem hjl] at hj
      injection hj with hj
      rw [hj]; rfl
set_option maxHeartbeats 16000000 in
set_option maxRecDepth 100000 in
theorem dlinks_any (p v : Value) (l : List Bs) (w : World) (h : RdW w v l) (hl : (blankT l).length ≤ 1000000) (hn : l.length ≤ 1000000) (hg : Gz w) :
    Calls Tryz.prog 229 #[p, v] w fun e w' => AnsOr (linksD l) e ∧ Below w.heap.size w w' := by
  have hJ := joinW v l w h hl hn
  have hLk := fun W hW => links_any (blankT l) W hW (by omega)
  have HN := Lib.hid (show linksD l = .ok (108 :: 105 :: 110 :: 107 :: 115 :: 32 :: commaT ((linksT (blankT l)).map linkT)) from rfl)
  have hVal := Lib.hid (linksT_val (blankT l))
  have hLi := Lib.hid ((linksT_lies (blankT l)).1.mem)
  have hLn := (linksT_lies (blankT l)).2
  generalize linksT (blankT l) = L at hLk HN hVal hLi hLn
  generalize blankT l = j at hJ hLk hl hVal hLi hLn
  obtain ⟨bk, o, c, rfl, _⟩ := h
  go_enter Tryz.func229, Tryz.ntmps229
  go_wp2_with fail
  with_reducible refine hJ.mono ?_
  rintro e w1 ⟨rfl, b1⟩
  have hg1 := hg.next b1
  go_wp2_with fail
  with_reducible refine (hLk _ hg1.r).mono ?_
  rintro e w2 ⟨v2, rfl, hownL, b2⟩
  have hLB := OwnG.rdB (by decide) lnkC_len hownL
  obtain ⟨la, lc, hv2, _⟩ := hLB.rd
  subst hv2
  have B2 := b1.trans (b2.mono b1.size)
  have hg2 := hg1.next b2
  have hs2 := B2.size
  clear hLk hJ hownL b1 b2 hg1
  go_wp2_with fail
  go_loopw [5, 12] (fun ov iv wr => ∃ (k : Nat) (out : List Bs), iv = .int .i64 k ∧ k ≤ L.length ∧ out.length ≤ k ∧ OwnT wr w2.heap.size ov out ∧ Hid (out ++ (L.drop k).map linkT = L.map linkT) ∧ Hid (∀ x ∈ out, x.length ≤ 3000100) ∧ Below w2.heap.size w2 wr) (fun _ iv _ => L.length - (intOf iv).toNat)
  case atStart => exact ⟨0, [], rfl, by omega, by simp, OwnG.nil _ _ _ _ _, Lib.hid (by simp), Lib.hid (fun x h => by cases h), Below.refl _ _⟩
  case round =>
    obtain ⟨k, out, rfl, hk, hol, hown, Hall, HO, B⟩ := hrel
    have hsr := B.size
    by_cases hlt : k < L.length
    · obtain ⟨lb, rfl, _, hlb, hcell⟩ := hLB.at lnkC_len k hlt
      have e0 := (B.cell (p := ⟨lb, k * 3 + 0, none⟩) hlb).trans (hcell 0 (by decide))
      have e1 := (B.cell (p := ⟨lb, k * 3 + 1, none⟩) hlb).trans (hcell 1 (by decide))
      have e2 := (B.cell (p := ⟨lb, k * 3 + 2, none⟩) hlb).trans (hcell 2 (by decide))
      have hxv := hVal.out _ (List.getElem_mem hlt)
      have hxl := hLi.out _ (List.getElem_mem hlt)
      have HS := Lib.hid (show ∀ y, L[k] = y → (out ++ [linkT y]) ++ (L.drop (k + 1)).map linkT = L.map linkT from fun y hy => by
        rw [← Hall.out, List.drop_eq_getElem_cons hlt, List.map_cons, hy]; simp)
      have HS := Lib.hid (HS.out _ rfl)
      clear hcell Hall
      generalize L[k] = x at e0 e1 e2 hxv hxl HS
      obtain ⟨x1, x2, x3⟩ := x
      simp only [lnkC, Nat.add_zero, List.getElem?_cons_zero, List.getElem?_cons_succ] at e0 e1 e2 hxv hxl
      have HLT := Lib.hid (show linkT (x1, x2, x3) = Lib.itoa x1 ++ 32 :: (Lib.itoa x2 ++ 32 :: showT x3) from rfl)
      have hI1 := fun W hW => itoa_any (x1 : Int) (by omega) (by omega) W hW
      have hI2 := fun W hW => itoa_any (x2 : Int) (by omega) (by omega) W hW
      have hil1 := Lib.itoa_length_le (x1 : Int) (by omega) (by omega)
      have hil2 := Lib.itoa_length_le (x2 : Int) (by omega) (by omega)
      have hSh := fun W => show_any x3 W (by omega)
      have hsl := showT_len x3
      generalize linkT (x1, x2, x3) = lt at HS HLT
      generalize Lib.itoa (x1 : Int) = i1 at hI1 hil1 HLT
      generalize Lib.itoa (x2 : Int) = i2 at hI2 hil2 HLT
      generalize showT x3 = sx at hSh hsl HLT
      have HNE := Lib.hid (fun e => Nat.lt_irrefl _ (OwnG.own_lt hown wr.heap.size e))
      have BA := (Below.refl wr.heap.size wr).alloc (Nat.le_refl _) (.cells #[.int .i64 (x1 : Int), .int .i64 (x2 : Int), .string ⟨x3.toArray⟩] 96)
      have k7 := Blk.new wr #[.int .i64 (x1 : Int), .int .i64 (x2 : Int), .string ⟨x3.toArray⟩] 96
      have hown := OwnG.next hown BA
      have B1 := B.trans (BA.mono hsr)
      have hg3 := hg2.next B1
      go_upto_region 5 with fail
      generalize World.alloc _ _ = w3 at BA k7 hown B1 hg3 ⊢
      have k7d := k7.drew.cell
      have hgd : Gz w3.drew := hg3.next (Below.refl w3.heap.size w3).drew
      have HG3 := Lib.hid hgd
      have HK7 := Lib.hid (show Blk w3.drew wr.heap.size #[.int .i64 (x1 : Int), .int .i64 (x2 : Int), .string ⟨x3.toArray⟩] 96 from k7.drew)
      have HL7 := Lib.hid (show wr.heap.size < w3.drew.heap.size from k7.lt)
      have HOW := Lib.hid hown
      have HB1 := Lib.hid B1
      have z1 : ¬ 9223372036854775807 < i1.length + 1 := by omega
      have z2 : ¬ 9223372036854775807 < i1.length + 1 + i2.length := by omega
      have z3 : ¬ 9223372036854775807 < i1.length + (i2.length + 1) + 1 := by omega
      have z4 : ¬ 9223372036854775807 < i1.length + (i2.length + 1 + 1) + sx.length := by omega
      have q1 := Lib.hid (show (out.length + [(i1 ++ 32 :: (i2 ++ 32 :: sx) : Bs)].length) * 16 ≤ 140737488355328 from by simp; omega)
      have q2 := Lib.hid (show out.length + [(i1 ++ 32 :: (i2 ++ 32 :: sx) : Bs)].length ≤ maxLen from by unfold maxLen; simp; omega)
      have HO2 := Lib.hid (show ∀ x ∈ out ++ [lt], x.length ≤ 3000100 from fun x hx => by
        rcases List.mem_append.1 hx with hx | hx
        · exact HO.out x hx
        · rw [List.mem_singleton.1 hx, HLT.out]
          simp only [List.length_append, List.length_cons]
          omega)
      clear hg3 k7 hown hgd
      go_region_held_law (fun W => ∀ k, W.cell? ⟨wr.heap.size, k, none⟩ = (#[.int .i64 (x1 : Int), .int .i64 (x2 : Int), .string ⟨x3.toArray⟩])[k]?)
        (first
          | with_reducible exact k7d
          | with_reducible exact c10
          | with_reducible exact c11
          | with_reducible exact c12
          | with_reducible exact c13
          | with_reducible exact c14)
        ((first
          | (refine stepG (α := Bs) (cs := strC) (size := 1) (z := .string ByteArray.empty) strC_len strC_one1 infoTs rfl (by decide) Tryz.underlying55 rfl _ _ rfl w2.heap.size _ out [(i1 ++ 32 :: (i2 ++ 32 :: sx) : Bs)] ⟨w12.heap.size, 0, none⟩ 1 1 rfl (by decide) rfl hown12.out rfl hcell12 q1.out q2.out hbase12.out ?_; intro v' w14 hown14 hg14 hb14; have c14 := (blk_grown k12.out hg14 (fun e => HNE.out e.symm)).cell)
          | (go_simp; with_reducible refine (hI1 _ HG3.out).mono ?_; rintro e w10 ⟨rfl, hb10⟩; have K10 := Lib.hid (belowStep hb10 (w0 := w3) ((Below.refl w3.heap.size w3).drew)); have HG10 := Lib.hid (Gz.next HG3.out hb10); have k10 := Lib.hid (Blk.next HK7.out hb10 HL7.out); have c10 := k10.out.cell)
          | (go_simp; with_reducible refine (hI2 _ HG10.out).mono ?_; rintro e w11 ⟨rfl, hb11⟩; have K11 := Lib.hid (belowStep hb11 (w0 := w3) K10.out); have HG11 := Lib.hid (Gz.next HG10.out hb11); have k11 := Lib.hid (Blk.next k10.out hb11 (Blk.lt k10.out)); have c11 := k11.out.cell)
          | (go_simp; with_reducible refine (hSh _).mono ?_; rintro e w12 ⟨rfl, hb12⟩; have K12 := Lib.hid (belowStep hb12 (w0 := w3) K11.out); have k12x := Lib.hid (Blk.next k11.out hb12 (Blk.lt k11.out)); have c12 := k12x.out.cell; have hown12 := Lib.hid (OwnG.alloc (OwnG.next (w := w3) HOW.out K12.out) (.cells #[.string ⟨(i1 ++ 32 :: (i2 ++ 32 :: sx) : Bs).toArray⟩] 9)); have hcell12 := cellTx w12 (i1 ++ 32 :: (i2 ++ 32 :: sx)) 9; have k12 := Lib.hid (k12x.out.alloc (.cells #[.string ⟨(i1 ++ 32 :: (i2 ++ 32 :: sx) : Bs).toArray⟩] 9)); have c13 := k12.out.cell; have hbase12 := Lib.hid (show w2.heap.size ≤ (w12.alloc (.cells #[.string ⟨(i1 ++ 32 :: (i2 ++ 32 :: sx) : Bs).toArray⟩] 9)).heap.size from by have h1 := K12.out.size; have h2 := HB1.out.size; simp at h1 h2 ⊢; omega))))
      all_goals
        go_wp2_with fail
        go_roundw
        case rel => exact ⟨k + 1, out ++ [lt], by go_num, by omega, by simp; omega, by rw [HLT.out]; exact hown14, HS, HO2, ((HB1.out.trans (K12.out.mono HB1.out.size)).alloc (Nat.le_trans HB1.out.size K12.out.size) _).trans hb14⟩
        case measure => simp [intOf]; omega
    · obtain rfl : k = L.length := by omega
      have HF := Lib.hid (show L.map linkT = out from by rw [← Hall.out, List.drop_length]; simp)
      have hcl := comma_len HO.out
      have hcl2 : (commaT out).length ≤ 3000102000000 := by
        have := Nat.mul_le_mul_right (3000100 + 2) (show out.length ≤ 1000000 by omega)
        omega
      have hJ := joinC _ _ out wr hown (by omega) (by omega)
      have HN := Lib.hid (show linksD l = .ok (108 :: 105 :: 110 :: 107 :: 115 :: 32 :: commaT out) from by rw [HN.out, HF.out])
      generalize commaT out = ct at hJ HN hcl2
      obtain ⟨oa, oc, hoe, _⟩ := OwnG.rd (by decide) strC_len hown
      subst hoe
      clear hcl Hall HF
      go_wp2_with fail
      with_reducible refine hJ.mono ?_
      rintro e w3 ⟨rfl, b3⟩
      go_wp2_with fail
      go_ret
      exact ⟨by rw [HN.out]; rfl, (B2.trans (B.mono hs2)).trans (b3.mono (by omega))⟩
set_option maxHeartbeats 4000000 in
set_option maxRecDepth 100000 in
theorem dis_some (d bp : Nat) (w : World) (hc : w.cell? ⟨d, 0, none⟩ = some (.pointer (some ⟨bp, 0, none⟩))) :
    Calls Tryz.prog 278 #[.pointer (some ⟨d, 0, none⟩)] w fun e w' => e = .returned (.pointer (some ⟨bp, 0, none⟩)) ∧ w = w' := by
  go_enter Tryz.func278, Tryz.ntmps278
  go_wp2_with fail
  go_ret
  exact ⟨rfl, rfl⟩
set_option maxHeartbeats 4000000 in
set_option maxRecDepth 100000 in
theorem dis_none (d : Nat) (w : World) (hc : w.cell? ⟨d, 0, none⟩ = some (.pointer none)) (hg : Gr w) :
    Calls Tryz.prog 278 #[.pointer (some ⟨d, 0, none⟩)] w fun e w' => e = thrown 7 ∧ Below w.heap.size w w' := by
  have hM := must_err (.iface 30 (.int .i64 7)) 7 w (Or.inl rfl) hg
  unfold thrown at hM ⊢
  go_enter Tryz.func278, Tryz.ntmps278
  go_wp2_with fail
  with_reducible refine hM.mono ?_
  rintro e w1 ⟨rfl, b1⟩
  go_wp2_with fail
  exact ⟨rfl, rfl, b1⟩
theorem DeskM.no {X : Nat → Prop} {w : World} {d : Nat} {dk : Dsk} (h : DeskM X w d dk) (hb : dk.bundle = none) : w.cell? ⟨d, 0, none⟩ = some (.pointer none) := by
  obtain ⟨bptr, self, v, h1, _, _, _, _, h6⟩ := h
  rcases h6 with ⟨_, rfl⟩ | ⟨b, bp, h6, _⟩
  · rw [h1.cell]; rfl
  · rw [hb] at h6; cases h6
theorem DeskM.yes {X : Nat → Prop} {w : World} {d : Nat} {dk : Dsk} {b : Bnd} (h : DeskM X w d dk) (hb : dk.bundle = some b) : ∃ bp, w.cell? ⟨d, 0, none⟩ = some (.pointer (some ⟨bp, 0, none⟩)) ∧ RdBnd (fun _ => True) w bp b ∧ BndIn b ∧ b.root ≤ 1000000 := by
  obtain ⟨bptr, self, v, h1, _, _, _, _, h6⟩ := h
  rcases h6 with ⟨h6, _⟩ | ⟨b', bp, h6, rfl, h8, h9, h10⟩
  · rw [hb] at h6; cases h6
  · rw [hb] at h6
    cases h6
    exact ⟨bp, by rw [h1.cell]; rfl, RdBnd.weak (fun _ _ _ => trivial) h8, h9, h10⟩
set_option maxHeartbeats 16000000 in
set_option maxRecDepth 100000 in
theorem dfind_any (X : Nat → Prop) (d : Nat) (dk : Dsk) (v : Value) (l : List Bs) (w : World) (hD : DeskM X w d dk) (h : RdW w v l) (hx : ∀ x ∈ l, x.length ≤ 1000000) (hg : Gz w) (hn : l.length ≤ 1000000) :
    Calls Tryz.prog 225 #[.pointer (some ⟨d, 0, none⟩), v] w fun e w' => AnsOr (findD dk l) e ∧ Below w.heap.size w w' := by
  obtain ⟨bk, o, c, rfl, hbk, _, hcl⟩ := h
  by_cases h0 : l.length = 1
  case neg =>
    have HN := Lib.hid (show findD dk l = .error 3 from by unfold findD; rw [if_pos h0])
    have hW := words_no (some ⟨bk, o, none⟩) l.length c 1 (by rw [beq_eq_false_iff_ne]; omega) w hg.r
    unfold thrown at hW
    clear h0
    go_enter Tryz.func225, Tryz.ntmps225
    go_wp2_with fail
    with_reducible refine hW.mono ?_
    rintro e w1 ⟨rfl, b1⟩
    go_wp2_with fail
    exact ⟨rfl, by rw [HN.out]; rfl, b1⟩
  obtain ⟨x, rfl⟩ := List.length_eq_one_iff.1 h0
  have hW := fun W => words_ok (some ⟨bk, o, none⟩) 1 c 1 rfl W
  have hc := hcl 0 x rfl
  have hxl := hx x (by simp)
  have HF := Lib.hid (show findD dk [x] = match dk.bundle with
    | none => .error 7
    | some b => match readA x with
      | none => .error 3
      | some a => .ok (Lib.itoa (findB b a)) from rfl)
  rw [Nat.add_zero] at hc
  clear h0 hcl hx
  have hcd : w.drew.cell? ⟨bk, o, none⟩ = some (.string ⟨x.toArray⟩) := hc
  have hgd : Gz w.drew := hg.next (Below.refl w.heap.size w).drew
  have hDd : DeskM X w.drew d dk := hD.next (Below.refl w.heap.size w).drew
  have Bd := (Below.refl w.heap.size w).drew
  go_enter Tryz.func225, Tryz.ntmps225
  go_wp2_with fail
  with_reducible refine (hW _).mono ?_
  rintro e w0 ⟨rfl, rfl⟩
  go_upto_region 2 with fail
  refine wp_region_stop 8 (fun W => W.cell? ⟨bk, o, none⟩ = some (.string ⟨x.toArray⟩)) (by kernel_rfl) ?_
  have hS0 : (fun W => W.cell? ⟨bk, o, none⟩ = some (.string ⟨x.toArray⟩)) w.drew := hcd
  refine GoesG.takeU (i := 0) (v := ?_) rfl (by kernel_rfl) (by kernel_rfl) (by kernel_rfl) (by decide) (fun _ _ _ h => h) (Or.inl ⟨by rfl, ?_⟩) hS0 ?_
  rotate_left
  · (intro W; go_simp; try with_reducible rfl)
  (try simp only [Act.put])
  refine GoesG.takeU (i := 2) (v := ?_) rfl (by kernel_rfl) (by kernel_rfl) (by kernel_rfl) (by decide) (fun _ _ _ h => h) (Or.inl ⟨by rfl, ?_⟩) hS0 ?_
  rotate_left
  · (intro W; go_simp; try with_reducible rfl)
  (try simp only [Act.put])
  refine GoesG.takeU (i := 3) (v := ?_) rfl (by kernel_rfl) (by kernel_rfl) (by kernel_rfl) (by decide) (fun _ _ _ h => h) (Or.inl ⟨by rfl, ?_⟩) hS0 ?_
  rotate_left
  · (intro W; go_simp; try with_reducible rfl)
  (try simp only [Act.put])
  refine GoesG.take (i := 4) (v := ?_) rfl (by kernel_rfl) (by kernel_rfl) (by kernel_rfl) (by kernel_rfl) (by decide) (fun _ _ _ h => h) (Or.inl ⟨by rfl, ?_⟩) hS0 ?_
  rotate_left
  · (intro W hSw; (try dsimp only at hSw); go_simp; try with_reducible rfl)
  (try simp only [Act.put])
  refine GoesG.one (j := 1) (by kernel_rfl) rfl (by decide) (fun K hK => ?_)
  go_simp
  cases hb : dk.bundle with
  | none =>
    have HN := Lib.hid (show findD dk [x] = .error 7 from by rw [HF.out, hb])
    have hI := dis_none d w.drew (hDd.no hb) hgd.r
    unfold thrown at hI
    with_reducible refine hI.mono ?_
    rintro e w1 ⟨rfl, b1⟩
    go_wp2_with fail
    exact ⟨rfl, by rw [HN.out]; rfl, Bd.trans b1⟩
  | some b =>
    obtain ⟨bp, hcb, hRB, hin, _⟩ := hDd.yes hb
    have HF := Lib.hid (show findD dk [x] = match readA x with
      | none => .error 3
      | some a => .ok (Lib.itoa (findB b a)) from by rw [HF.out, hb])
    with_reducible refine (dis_some d bp w.drew hcb).mono ?_
    rintro e w1 ⟨rfl, rfl⟩
    refine hK.out _ _ hS0 ?_
    clear hK K
    (try simp only [Act.put])
    have hRd := dread_any x w.drew (by omega) hgd
    have hrl := fun a (h : readA x = some a) => readA_len h
    refine GoesG.one (j := 5) (by kernel_rfl) rfl (by decide) (fun K hK => ?_)
    go_simp
    cases hr : readA x with
    | none =>
      have HN := Lib.hid (show findD dk [x] = .error 3 from by rw [HF.out, hr])
      rw [hr] at hRd
      unfold thrown at hRd
      with_reducible refine hRd.mono ?_
      rintro e w2 ⟨rfl, b2⟩
      go_wp2_with fail
      exact ⟨rfl, by rw [HN.out]; rfl, Bd.trans b2⟩
    | some a =>
      have hal := hrl a hr
      have HN := Lib.hid (show findD dk [x] = .ok (Lib.itoa (findB b a)) from by rw [HF.out, hr])
      rw [hr] at hRd
      simp only at hRd
      with_reducible refine hRd.mono ?_
      rintro e w2 ⟨rfl, b2⟩
      have hS2 : (fun W => W.cell? ⟨bk, o, none⟩ = some (.string ⟨x.toArray⟩)) w2 := (b2.cell (p := ⟨bk, o, none⟩) (show bk < w.drew.heap.size from hbk)).trans hcd
      refine hK.out _ _ hS2 ?_
      clear hK K
      (try simp only [Act.put])
      have B2 := Bd.trans b2
      have hFi := find_any (fun _ => True) bp b a w2 (hRB.next b2) (by omega) (by rw [hin.places]; have := hin.whole.head.2.2; omega) (by rw [hin.ids]; have := hin.whole.head.2.2; omega)
      have hfb := findB_bd hin a
      have hI := fun W hW => itoa_any (findB b a) hfb.1 hfb.2 W hW
      have hg2 := hgd.next b2
      generalize Lib.itoa (findB b a) = is at hI HN
      generalize findB b a = fv at hFi hI
      refine GoesG.one (j := 6) (by kernel_rfl) rfl (by decide) (fun K hK => ?_)
      go_simp
      with_reducible refine hFi.mono ?_
      rintro e w3 ⟨rfl, b3⟩
      have hS3 : (fun W => W.cell? ⟨bk, o, none⟩ = some (.string ⟨x.toArray⟩)) w3 := (b3.cell (p := ⟨bk, o, none⟩) (Nat.lt_of_lt_of_le hbk B2.size)).trans hS2
      refine hK.out _ _ hS3 ?_
      clear hK K
      (try simp only [Act.put])
      have B3 := B2.trans (b3.mono B2.size)
      refine GoesG.one (j := 7) (by kernel_rfl) rfl (by decide) (fun K hK => ?_)
      go_simp
      with_reducible refine (hI _ (hg2.next b3)).mono ?_
      rintro e w4 ⟨rfl, b4⟩
      have hS4 : (fun W => W.cell? ⟨bk, o, none⟩ = some (.string ⟨x.toArray⟩)) w4 := (b4.cell (p := ⟨bk, o, none⟩) (Nat.lt_of_lt_of_le hbk B3.size)).trans hS3
      refine hK.out _ _ hS4 ?_
      clear hK K
      (try simp only [Act.put])
      have B4 := B3.trans (b4.mono B3.size)
      refine GoesG.stop (by kernel_rfl) rfl (fun K hK => ?_)
      go_simp
      refine hK.out _ _ ?_
      clear hK K
      refine wpAny_done (by kernel_rfl) ?_ _
      go_wp2_with fail
      go_ret
      exact ⟨by rw [HN.out]; rfl, B4⟩
end Go.Proofs.YtignjjnflcpiiaaGreatDoor
