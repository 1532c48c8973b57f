/- part.boundary, part.decode. Condition: at most 10^6 fields of texts of at most 10^6 bytes; what the variables hold; part.cut: what stands between lines that begin with a boundary. Condition: at most 10^6 bytes each; what the variables hold. -/
import Derived.Test.YtignjjnflcpiiaaGreatDoorQ14
import Derived.Test.YtignjjnflcpiiaaGreatDoorQ15
namespace Go.Proofs.YtignjjnflcpiiaaGreatDoor
open Go Go.RowKit
theorem FldsN.ok {n : Nat} {l : List Fld} (h : FldsN n l) (hn : n ≤ 1000000000000) : FldsOk l := ⟨Nat.le_trans h.1 hn, fun f hf => ⟨Nat.le_trans (h.2 f hf).1 hn, Nat.le_trans (h.2 f hf).2 hn⟩⟩
def BoundOr (r : Option (Option Bs)) (e : Ending) : Prop :=
  (∃ b, r = some (some b) ∧ e = .returned (.tuple #[.string ⟨b.toArray⟩, .bool true, .nilIface])) ∨ (r = some none ∧ e = .returned (.tuple #[.string ⟨#[]⟩, .bool false, .nilIface])) ∨ (r = none ∧ e = .returned (.tuple #[.string ⟨#[]⟩, .bool false, .iface 30 (.int .i64 3)]))
set_option maxHeartbeats 8000000 in
set_option maxRecDepth 100000 in
theorem bound_any (v : Value) (l : List Fld) (w : World) (hr : RdF w v l) (hok : FldsN 1000000 l) (hg : Gr w) :
    Calls Tryz.prog 164 #[v] w fun e w' => BoundOr (boundF l) e ∧ Below w.heap.size w w' := by
  have hG := get_field v l ctN w hr (hok.ok (by decide)) (by decide)
  have HB := Lib.hid (show boundF l = match getF l ctN with | none => some none | some v => match readK v with | none => none | some (m, ps) => if Lib.hasPrefix m multiN then (match getP ps boundN with | none => none | some b => if badBound b then none else some (some b)) else some none from rfl)
  have hgl := fun x => getF_le (n := 1000000) (s := ctN) (v := x) hok
  unfold ctN at hG HB hgl
  generalize getF l _ = r at hG HB hgl
  have c0 : w.cell? ⟨2, 0, none⟩ = some (.string ⟨#[67, 111, 110, 116, 101, 110, 116, 45, 84, 121, 112, 101]⟩) := hg.ours 0 (by decide)
  clear hok hr
  cases r with
  | none =>
    have HN := Lib.hid (show boundF l = some none from HB.out)
    clear HB hgl
    go_enter Tryz.func164, Tryz.ntmps164
    go_wp2_with fail
    with_reducible refine hG.mono ?_
    rintro e w1 ⟨rfl, b1⟩
    go_wp2_with fail
    go_ret3
    exact ⟨Or.inr (Or.inl ⟨HN.out, rfl⟩), b1⟩
  | some x =>
    have hx := hgl x rfl
    clear hgl
    have hK := fun W hW => readKind_any x W (by omega) hW
    have hkn := fun m ps (h : readK x = some (m, ps)) => readK_n h
    have HB := Lib.hid (show boundF l = match readK x with | none => none | some (m, ps) => if Lib.hasPrefix m multiN then (match getP ps boundN with | none => none | some b => if badBound b then none else some (some b)) else some none from HB.out)
    generalize readK x = rk at hK HB hkn
    go_enter Tryz.func164, Tryz.ntmps164
    go_wp2_with fail
    with_reducible refine hG.mono ?_
    rintro e w1 ⟨rfl, b1⟩
    have hg1 := (hg.next b1).g
    clear c0 hG
    go_wp2_with fail
    with_reducible refine (hK _ hg1).mono ?_
    rintro e w2 ⟨hk, b2⟩
    have B2 := b1.trans (b2.mono b1.size)
    clear hK b2
    rcases hk with ⟨m, ps, kv, rfl, rfl, hown⟩ | ⟨rfl, rfl⟩
    case inr =>
      have HN := Lib.hid (show boundF l = none from HB.out)
      clear HB hkn
      go_wp2_with fail
      go_ret3
      exact ⟨Or.inr (Or.inr ⟨HN.out, rfl⟩), B2⟩
    obtain ⟨hml, hpn⟩ := hkn m ps rfl
    have HB := Lib.hid (show boundF l = if Lib.hasPrefix m multiN then (match getP ps boundN with | none => none | some b => if badBound b then none else some (some b)) else some none from HB.out)
    have hM := hasPre m multiN w2
    have hrd := OwnG.rd (by decide) fldC_len hown
    have hP := getPar_any kv ps boundN w2 hrd (by have := hpn.1; omega)
    have hpl := fun b => getP_le (s := boundN) (v := b) hpn
    clear hkn hown hrd hpn
    unfold multiN at hM HB
    unfold boundN at hP HB hpl
    generalize Lib.hasPrefix m _ = bm at hM HB
    generalize getP ps _ = rp at hP HB hpl
    go_wp2_with fail
    with_reducible refine hM.mono ?_
    rintro e w3 ⟨rfl, rfl⟩
    cases bm with
    | false =>
      have HN := Lib.hid (show boundF l = some none from HB.out)
      clear HB hP hM
      go_wp2_with fail
      go_ret3
      exact ⟨Or.inr (Or.inl ⟨HN.out, rfl⟩), B2⟩
    | true =>
      clear hM
      go_wp2_with fail
      with_reducible refine hP.mono ?_
      rintro e w4 ⟨rfl, b4⟩
      have B4 := B2.trans (b4.mono B2.size)
      clear b4 hP
      cases rp with
      | none =>
        have HN := Lib.hid (show boundF l = none from HB.out)
        clear HB
        simp only [Option.getD_none, Option.isSome_none]
        go_wp2_with fail
        go_ret3
        exact ⟨Or.inr (Or.inr ⟨HN.out, rfl⟩), B4⟩
      | some b =>
        have hbl := hpl b rfl
        have HB := Lib.hid (show boundF l = if badBound b then none else some (some b) from HB.out)
        clear hpl
        simp only [Option.getD_some, Option.isSome_some]
        by_cases h0 : b = []
        · have HN := Lib.hid (show boundF l = none from by rw [HB.out, h0]; rfl)
          subst h0
          clear HB
          go_wp2_with fail
          go_ret3
          exact ⟨Or.inr (Or.inr ⟨HN.out, rfl⟩), B4⟩
        · have he : b.isEmpty = false := by rw [Bool.eq_false_iff]; simpa using h0
          by_cases h70 : 70 < b.length
          · have HN := Lib.hid (show boundF l = none from by rw [HB.out]; unfold badBound; rw [decide_eq_true h70]; simp)
            have h70 : (70 : Int) < b.length := by omega
            clear HB
            go_wp2_with fail
            go_ret3
            exact ⟨Or.inr (Or.inr ⟨HN.out, rfl⟩), B4⟩
          · have hS := hasSuf b [32] w4 (by omega)
            have HB := Lib.hid (show boundF l = if Lib.hasSuffix b [32] then none else some (some b) from by rw [HB.out]; unfold badBound; rw [decide_eq_false h70, he]; rfl)
            have h70 : ¬ (70 : Int) < b.length := by omega
            generalize Lib.hasSuffix b [32] = bs at hS HB
            go_wp2_with fail
            with_reducible refine hS.mono ?_
            rintro e w5 ⟨rfl, rfl⟩
            cases bs with
            | true =>
              have HN := Lib.hid (show boundF l = none from HB.out)
              clear HB hS
              go_wp2_with fail
              go_ret3
              exact ⟨Or.inr (Or.inr ⟨HN.out, rfl⟩), B4⟩
            | false =>
              have HN := Lib.hid (show boundF l = some (some b) from HB.out)
              clear HB hS
              go_wp2_with fail
              go_ret3
              exact ⟨Or.inl ⟨b, HN.out, rfl⟩, B4⟩
def TextE (r : Except Int Bs) (e : Ending) : Prop :=
  (∃ o, r = .ok o ∧ e = .returned (.tuple #[.string ⟨o.toArray⟩, .nilIface])) ∨ (∃ n, r = .error n ∧ (n = 3 ∨ n = 5) ∧ e = .returned (.tuple #[.string ⟨#[]⟩, .iface 30 (.int .i64 n)]))
set_option maxHeartbeats 8000000 in
set_option maxRecDepth 100000 in
theorem decode_any (v : Value) (l : List Fld) (s : Bs) (w : World) (hr : RdF w v l) (hok : FldsN 1000000 l) (hs : s.length ≤ 1000000) (hg : Gr w) :
    Calls Tryz.prog 165 #[v, .string ⟨s.toArray⟩] w fun e w' => TextE (decodeF l s) e ∧ Below w.heap.size w w' := by
  have hG := get_field v l cteN w hr (hok.ok (by decide)) (by decide)
  have HB := Lib.hid (show decodeF l s = match getF l cteN with | none => .ok s | some v => if lowS v = w7bit ∨ lowS v = w8bit ∨ lowS v = wBinary then .ok s else if lowS v = wBase64 then (match unpackT s with | none => .error 3 | some x => .ok x) else if lowS v = wQuoted then (match unquoteT s with | none => .error 3 | some x => .ok x) else .error 5 from rfl)
  have hgl := fun x => getF_le (n := 1000000) (s := cteN) (v := x) hok
  unfold cteN at hG HB hgl
  generalize getF l _ = r at hG HB hgl
  have c0 : w.cell? ⟨2, 1, none⟩ = some (.string ⟨#[67, 111, 110, 116, 101, 110, 116, 45, 84, 114, 97, 110, 115, 102, 101, 114, 45, 69, 110, 99, 111, 100, 105, 110, 103]⟩) := hg.ours 1 (by decide)
  clear hok hr
  cases r with
  | none =>
    have HN := Lib.hid (show decodeF l s = .ok s from HB.out)
    have hS := fun W => small_any [] W (by decide)
    clear HB hgl
    go_enter Tryz.func165, Tryz.ntmps165
    go_wp2_with fail
    with_reducible refine hG.mono ?_
    rintro e w1 ⟨rfl, b1⟩
    simp only [Option.getD_none, Option.isSome_none]
    clear hG c0
    go_wp2_with fail
    with_reducible refine (hS _).mono ?_
    rintro e w2 ⟨rfl, b2⟩
    go_wp2_with fail
    go_ret2
    exact ⟨Or.inl ⟨s, HN.out, rfl⟩, b1.trans (b2.mono b1.size)⟩
  | some x =>
    have hx := hgl x rfl
    have hS := fun W => small_any x W (by omega)
    have HB := Lib.hid (show decodeF l s = if lowS x = w7bit ∨ lowS x = w8bit ∨ lowS x = wBinary then .ok s else if lowS x = wBase64 then (match unpackT s with | none => .error 3 | some x => .ok x) else if lowS x = wQuoted then (match unquoteT s with | none => .error 3 | some x => .ok x) else .error 5 from HB.out)
    clear hgl
    generalize lowS x = y at hS HB
    go_enter Tryz.func165, Tryz.ntmps165
    go_wp2_with fail
    with_reducible refine hG.mono ?_
    rintro e w1 ⟨rfl, b1⟩
    simp only [Option.getD_some, Option.isSome_some]
    clear hG c0
    go_wp2_with fail
    with_reducible refine (hS _).mono ?_
    rintro e w2 ⟨rfl, b2⟩
    have B2 := b1.trans (b2.mono b1.size)
    have hg2 := ((hg.next b1).next b2).g
    clear b1 b2 hS hg
    by_cases h1 : y = w7bit
    · have HN := Lib.hid (show decodeF l s = .ok s from by rw [HB.out, if_pos (Or.inl h1)])
      subst h1; unfold w7bit; clear HB
      go_wp2_with fail
      go_ret2
      exact ⟨Or.inl ⟨s, HN.out, rfl⟩, B2⟩
    by_cases h2 : y = w8bit
    · have HN := Lib.hid (show decodeF l s = .ok s from by rw [HB.out, if_pos (Or.inr (Or.inl h2))])
      subst h2; unfold w8bit; clear HB h1
      go_wp2_with fail
      go_ret2
      exact ⟨Or.inl ⟨s, HN.out, rfl⟩, B2⟩
    by_cases h3 : y = wBinary
    · have HN := Lib.hid (show decodeF l s = .ok s from by rw [HB.out, if_pos (Or.inr (Or.inr h3))])
      subst h3; unfold wBinary; clear HB h1 h2
      go_wp2_with fail
      go_ret2
      exact ⟨Or.inl ⟨s, HN.out, rfl⟩, B2⟩
    have HB := Lib.hid (show decodeF l s = if y = wBase64 then (match unpackT s with | none => .error 3 | some x => .ok x) else if y = wQuoted then (match unquoteT s with | none => .error 3 | some x => .ok x) else .error 5 from by rw [HB.out, if_neg (by simp [h1, h2, h3])])
    by_cases h4 : y = wBase64
    · have hU := unpack_any s w2 (by omega)
      have HB := Lib.hid (show decodeF l s = match unpackT s with | none => .error 3 | some x => .ok x from by rw [HB.out, if_pos h4])
      generalize unpackT s = ru at hU HB
      subst h4; unfold wBase64; clear h1 h2 h3
      go_wp2_with fail
      with_reducible refine hU.mono ?_
      rintro e w3 ⟨rfl, b3⟩
      clear hU
      cases ru with
      | none =>
        have HN := Lib.hid (show decodeF l s = .error 3 from HB.out)
        simp only [orForm]
        clear HB
        go_wp2_with fail
        go_ret2
        exact ⟨Or.inr ⟨3, HN.out, Or.inl rfl, rfl⟩, B2.trans (b3.mono B2.size)⟩
      | some o =>
        have HN := Lib.hid (show decodeF l s = .ok o from HB.out)
        simp only [orForm]
        clear HB
        go_wp2_with fail
        go_ret2
        exact ⟨Or.inl ⟨o, HN.out, rfl⟩, B2.trans (b3.mono B2.size)⟩
    have HB := Lib.hid (show decodeF l s = if y = wQuoted then (match unquoteT s with | none => .error 3 | some x => .ok x) else .error 5 from by rw [HB.out, if_neg h4])
    by_cases h5 : y = wQuoted
    · have hU := unquote_any s w2 (by omega) hg2
      have HB := Lib.hid (show decodeF l s = match unquoteT s with | none => .error 3 | some x => .ok x from by rw [HB.out, if_pos h5])
      generalize unquoteT s = ru at hU HB
      subst h5; unfold wQuoted; clear h1 h2 h3 h4
      go_wp2_with fail
      with_reducible refine hU.mono ?_
      rintro e w3 ⟨rfl, b3⟩
      clear hU
      cases ru with
      | none =>
        have HN := Lib.hid (show decodeF l s = .error 3 from HB.out)
        simp only [orForm]
        clear HB
        go_wp2_with fail
        go_ret2
        exact ⟨Or.inr ⟨3, HN.out, Or.inl rfl, rfl⟩, B2.trans (b3.mono B2.size)⟩
      | some o =>
        have HN := Lib.hid (show decodeF l s = .ok o from HB.out)
        simp only [orForm]
        clear HB
        go_wp2_with fail
        go_ret2
        exact ⟨Or.inl ⟨o, HN.out, rfl⟩, B2.trans (b3.mono B2.size)⟩
    have HN := Lib.hid (show decodeF l s = .error 5 from by rw [HB.out, if_neg h5])
    have e1 : (y == [55, 98, 105, 116]) = false := by rw [beq_eq_false_iff_ne]; exact h1
    have e2 : (y == [56, 98, 105, 116]) = false := by rw [beq_eq_false_iff_ne]; exact h2
    have e3 : (y == [98, 105, 110, 97, 114, 121]) = false := by rw [beq_eq_false_iff_ne]; exact h3
    have e4 : (y == [98, 97, 115, 101, 54, 52]) = false := by rw [beq_eq_false_iff_ne]; exact h4
    have e5 : (y == [113, 117, 111, 116, 101, 100, 45, 112, 114, 105, 110, 116, 97, 98, 108, 101]) = false := by rw [beq_eq_false_iff_ne]; exact h5
    clear h1 h2 h3 h4 h5 HB
    go_wp2_with fail
    go_ret2
    exact ⟨Or.inr ⟨5, HN.out, Or.inr rfl, rfl⟩, B2⟩
theorem cellS1 (w : World) (y : Bs) (t : TypeId) : (w.alloc (.cells #[.string ⟨y.toArray⟩] t)).cell? ⟨w.heap.size, 0, none⟩ = some (.string ⟨y.toArray⟩) := (Blk.new w #[.string ⟨y.toArray⟩] t).cell 0
def opI : Option Nat → Int
  | none => -1
  | some o => o
theorem cutQ_end {s b : Bs} {k i : Nat} {op : Option Nat} {out : List Bs} (h : s.length < i) : cutQ s b (k + 1) i op out = none := by
  unfold cutQ; rw [if_pos h]
theorem cutQ_go {s b : Bs} {k i : Nat} {op : Option Nat} {out : List Bs} (h : i ≤ s.length) : cutQ s b (k + 1) i op out = match markOf (Lib.cut (s.drop i) [13, 10]).1 b with
    | none => cutQ s b k (i + (Lib.cut (s.drop i) [13, 10]).1.length + 2) op out
    | some t => if t = [45, 45] then some (closeOf s i op out)
      else if t = [] then cutQ s b k (i + (Lib.cut (s.drop i) [13, 10]).1.length + 2) (some (min (i + (Lib.cut (s.drop i) [13, 10]).1.length + 2) s.length)) (closeOf s i op out)
      else cutQ s b k (i + (Lib.cut (s.drop i) [13, 10]).1.length + 2) op out := by
  conv => lhs; unfold cutQ
  rw [if_neg (by omega)]
  rfl
theorem trimPre_le (l p : Bs) : (Lib.trimPrefix l p).length ≤ l.length := by
  unfold Lib.trimPrefix
  split
  · simp
  · exact Nat.le_refl _
theorem pieceI (s : Bs) (i o : Nat) (hi : 2 ≤ i) : List.take ((max ((i : Int) - 2) o).toNat - (min (o : Int) (max ((i : Int) - 2) o)).toNat) (List.drop (min (o : Int) (max ((i : Int) - 2) o)).toNat s) = pieceOf s i o := by
  unfold pieceOf
  rw [show (min (o : Int) (max ((i : Int) - 2) o)).toNat = o from by omega, show (max ((i : Int) - 2) (o : Int)).toNat = max (i - 2) o from by omega]
def CutOr (B n : Nat) (r : Option (List Bs)) (e : Ending) (w' : World) : Prop :=
  (∃ o v, r = some o ∧ o.length ≤ n + 2 ∧ (∀ x ∈ o, x.length ≤ n) ∧ e = .returned (.tuple #[v, .nilIface]) ∧ OwnS w' B v o) ∨ (r = none ∧ e = .returned (.tuple #[.slice none 0 0, .iface 30 (.int .i64 3)]))
set_option maxHeartbeats 16000000 in
set_option maxRecDepth 100000 in
theorem cut_any (s b : Bs) (w : World) (hs : s.length ≤ 1000000) (hb : b.length ≤ 1000000) (hg : Gr w) :
    Calls Tryz.prog 166 #[.string ⟨s.toArray⟩, .string ⟨b.toArray⟩] w fun e w' => CutOr w.heap.size s.length (cutB s b) e w' ∧ Below w.heap.size w w' := by
  have HT := Lib.hid (show cutB s b = cutQ s b (s.length + 2) 0 none [] from rfl)
  go_enter Tryz.func166, Tryz.ntmps166
  go_wp2_with fail
  go_loopw [6, 7, 8] (fun ov oi ai wr => ∃ (i : Nat) (op : Option Nat) (out : List Bs) (fuel : Nat), ai = .int .i64 i ∧ oi = .int .i64 (opI op) ∧ OwnS wr w.heap.size ov out ∧ i ≤ s.length + 2 ∧ (∀ o, op = some o → 2 ≤ i ∧ o ≤ s.length) ∧ out.length ≤ i ∧ s.length + 1 - i < fuel ∧ Hid (cutQ s b fuel i op out = cutB s b) ∧ Hid (∀ x ∈ out, x.length ≤ s.length) ∧ Below w.heap.size w wr) (fun _ _ ai _ => s.length + 3 - (intOf ai).toNat)
  case atStart => exact ⟨0, none, [], s.length + 2, rfl, rfl, World.ownsRow_nil _ _ _ _, by omega, (fun o h => by cases h), by simp, by omega, Lib.hid HT.out.symm, Lib.hid (by simp), Below.refl _ _⟩
  case round =>
    clear HT
    obtain ⟨i, op, out, fuel, rfl, rfl, hown, hi, hop, hol, hfu, Hall, HX, B⟩ := hrel
    obtain ⟨fuel, rfl⟩ : ∃ n, fuel = n + 1 := ⟨fuel - 1, by omega⟩
    by_cases hlt : i ≤ s.length
    · have HQ := Lib.hid (Hall.out.symm.trans (cutQ_go hlt))
      have hcl := cut_le (s.drop i) [13, 10]
      rw [List.length_drop] at hcl
      have hC := cutS (s.drop i) [13, 10] wr (by rw [List.length_drop]; omega) (hg.next B).g
      clear Hall
      generalize (Lib.cut (s.drop i) [13, 10]).1 = l at hC hcl HQ
      generalize (Lib.cut (s.drop i) [13, 10]).2.1 = c2 at hC hcl
      generalize (Lib.cut (s.drop i) [13, 10]).2.2 = c3 at hC
      have hll : l.length ≤ s.length - i := by omega
      clear hcl
      have hi1 : (i : Int) ≤ s.length := by omega
      have i0 : (0 : Int) ≤ i := by omega
      go_wp2_with fail
      with_reducible refine hC.mono ?_
      rintro e w1 ⟨rfl, b1⟩
      have hown := rowNext hown b1
      have B1 := B.trans (b1.mono B.size)
      have hl1 : (i : Int) + l.length ≤ s.length := by omega
      have hCP := cutPre l (45 :: 45 :: b) w1
      have HM := Lib.hid (show markOf l b = if Lib.hasPrefix l (45 :: 45 :: b) then some (Lib.trimS (Lib.trimPrefix l (45 :: 45 :: b)) [32, 9]) else none from rfl)
      have htl := trimPre_le l (45 :: 45 :: b)
      generalize Lib.hasPrefix l (45 :: 45 :: b) = ok at hCP HM
      generalize Lib.trimPrefix l (45 :: 45 :: b) = rest at hCP HM htl
      have hT := fun W => trimStr rest [32, 9] W (by omega) (by decide) (by decide)
      generalize Lib.trimS rest [32, 9] = t at hT HM
      clear hC b1 B htl
      go_wp2_with fail
      with_reducible refine hCP.mono ?_
      rintro e w2 ⟨rfl, rfl⟩
      clear hCP
      go_wp2_with fail
      with_reducible refine (hT _).mono ?_
      rintro e w3 ⟨rfl, b3⟩
      have hown := rowNext hown b3
      have B3 := B1.trans (b3.mono B1.size)
      clear b3 B1
      cases ok with
      | false =>
        have HN := Lib.hid (show cutQ s b fuel (i + l.length + 2) op out = cutB s b from by rw [HQ.out, HM.out]; rfl)
        clear HQ HM hT
        go_wp2_with fail
        go_roundw
        case rel => exact ⟨i + l.length + 2, op, out, fuel, by go_num, rfl, hown, by omega, fun o h => by have := hop o h; omega, by omega, by omega, HN, HX, B3⟩
        case measure => simp [intOf]; omega
      | true =>
        have HM := Lib.hid (show markOf l b = some t from HM.out)
        by_cases h45 : t = [45, 45]
        · have HN := Lib.hid (show cutB s b = some (closeOf s i op out) from by rw [HQ.out, HM.out, h45]; rfl)
          clear HQ HM hT
          subst h45
          cases op with
          | none =>
            have HN := Lib.hid (show cutB s b = some out from HN.out)
            simp only [opI]
            go_wp2_with fail
            go_ret2
            exact ⟨Or.inl ⟨out, _, HN.out, by omega, HX.out, rfl, hown⟩, B3⟩
          | some o =>
            obtain ⟨hi2, ho⟩ := hop o rfl
            have HN := Lib.hid (show cutB s b = some (out ++ [pieceOf s i o]) from HN.out)
            have hPl : (pieceOf s i o).length ≤ s.length := by unfold pieceOf; simp; omega
            have HP := Lib.hid (show ∀ x ∈ out ++ [pieceOf s i o], x.length ≤ s.length from fun x hx => by
              rcases List.mem_append.1 hx with hx | hx
              · exact HX.out x hx
              · simp at hx; rw [hx]; exact hPl)
            have i1 : (2 : Int) ≤ i := by omega
            have i2 : (o : Int) ≤ s.length := by omega
            have i3 : (0 : Int) ≤ o := by omega
            simp only [opI]
            have hpc := pieceI s i o hi2
            go_wp2_with (at_builtin; refine appS rfl _ _ rfl w.heap.size _ out _ w3.heap.size rfl (World.ownsRow.alloc hown _) rfl (cellS1 _ _ _) (by omega) (by have := B3.size; simp; omega) ?_; intro v' w4 hown4 hg4 hb4)
            clear hg4
            go_wp2_with fail
            go_ret2
            exact ⟨Or.inl ⟨_, _, HN.out, by simp; omega, HP.out, rfl, hown4⟩, (B3.alloc B3.size _).trans hb4⟩
        · have e45 : (t == [45, 45]) = false := by rw [beq_eq_false_iff_ne]; exact h45
          by_cases h0 : t = []
          · have HN := Lib.hid (show cutQ s b fuel (i + l.length + 2) (some (min (i + l.length + 2) s.length)) (closeOf s i op out) = cutB s b from by rw [HQ.out, HM.out]; subst h0; rfl)
            have HI := Lib.hid (show (min ((i : Int) + l.length + 2) s.length) = opI (some (min (i + l.length + 2) s.length)) from by simp only [opI]; omega)
            have e0 : t.isEmpty = true := by rw [h0]; rfl
            subst h0
            clear HQ HM h45
            cases op with
            | none =>
              have HN := Lib.hid (show cutQ s b fuel (i + l.length + 2) (some (min (i + l.length + 2) s.length)) out = cutB s b from HN.out)
              simp only [opI]
              go_wp2_with fail
              with_reducible refine (hT _).mono ?_
              rintro e w5 ⟨rfl, b5⟩
              have hown := rowNext hown b5
              have B5 := B3.trans (b5.mono B3.size)
              clear b5 hT
              go_wp2_with fail
              go_roundw
              case rel => exact ⟨i + l.length + 2, some (min (i + l.length + 2) s.length), out, fuel, by go_num, by rw [HI.out], hown, by omega, (fun o h => by cases h; omega), by omega, by omega, HN, HX, B5⟩
              case measure => simp [intOf]; omega
            | some o =>
              obtain ⟨hi2, ho⟩ := hop o rfl
              have HN := Lib.hid (show cutQ s b fuel (i + l.length + 2) (some (min (i + l.length + 2) s.length)) (out ++ [pieceOf s i o]) = cutB s b from HN.out)
              have hPl : (pieceOf s i o).length ≤ s.length := by unfold pieceOf; simp; omega
              have HP := Lib.hid (show ∀ x ∈ out ++ [pieceOf s i o], x.length ≤ s.length from fun x hx => by
                rcases List.mem_append.1 hx with hx | hx
                · exact HX.out x hx
                · simp at hx; rw [hx]; exact hPl)
              have i1 : (2 : Int) ≤ i := by omega
              have i2 : (o : Int) ≤ s.length := by omega
              have i3 : (0 : Int) ≤ o := by omega
              have hpc := pieceI s i o hi2
              simp only [opI]
              go_wp2_with fail
              with_reducible refine (hT _).mono ?_
              rintro e w5 ⟨rfl, b5⟩
              have hown := rowNext hown b5
              have B5 := B3.trans (b5.mono B3.size)
              clear b5 hT
              go_wp2_with (at_builtin; refine appS rfl _ _ rfl w.heap.size _ out _ w5.heap.size rfl (World.ownsRow.alloc hown _) rfl (cellS1 _ _ _) (by omega) (by have := B5.size; simp; omega) ?_; intro v' w4 hown4 hg4 hb4)
              clear hg4
              have B6 := (B5.alloc B5.size _).trans hb4
              go_wp2_with fail
              go_roundw
              case rel => exact ⟨i + l.length + 2, some (min (i + l.length + 2) s.length), _, fuel, by go_num, by rw [HI.out], hown4, by omega, (fun o h => by cases h; omega), by simp; omega, by omega, HN, HP, B6⟩
              case measure => simp [intOf]; omega
          · have HN := Lib.hid (show cutQ s b fuel (i + l.length + 2) op out = cutB s b from by rw [HQ.out, HM.out]; simp only [h45, h0, if_false])
            have e0 : t.isEmpty = false := by rw [Bool.eq_false_iff]; simpa using h0
            clear HQ HM h45 h0
            go_wp2_with fail
            with_reducible refine (hT _).mono ?_
            rintro e w5 ⟨rfl, b5⟩
            have hown := rowNext hown b5
            have B5 := B3.trans (b5.mono B3.size)
            clear b5 hT
            go_wp2_with fail
            go_roundw
            case rel => exact ⟨i + l.length + 2, op, out, fuel, by go_num, rfl, hown, by omega, (fun o h => by have := hop o h; omega), by omega, by omega, HN, HX, B5⟩
            case measure => simp [intOf]; omega
    · have HN := Lib.hid (show cutB s b = none from by rw [← Hall.out]; exact cutQ_end (by omega))
      have hlt2 : ¬ (i : Int) ≤ s.length := by omega
      clear Hall
      go_wp2_with fail
      go_ret2
      exact ⟨Or.inr ⟨HN.out, rfl⟩, B⟩
end Go.Proofs.YtignjjnflcpiiaaGreatDoor
