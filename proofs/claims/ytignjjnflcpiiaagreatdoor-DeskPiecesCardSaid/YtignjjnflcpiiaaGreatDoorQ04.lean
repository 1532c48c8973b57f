/- head.Read reads a head. Condition: the text takes at most 10^9 bytes; the library's variable MaxLen holds a number; head.line writes what must stand in the first line, and the rest, cut ahead of blanks. Condition: the texts take at most 10^12 bytes; head.Write writes a head. Condition: at most 10^6 . -/
import Derived.Deep.RegionLaw
import Derived.Lib.ItoaNum
import Derived.Lib.Replace
import Derived.Test.YtignjjnflcpiiaaGreatDoorQ03
namespace Go.Proofs.YtignjjnflcpiiaaGreatDoor
open Go Go.RowKit
theorem readHF_succ {k : Nat} {out : List Fld} {s : Bs} (h : s ≠ []) : readHF (k + 1) out s = if (Lib.cut s [13, 10]).1 = [] ∧ (Lib.cut s [13, 10]).2.2 = true then some (out, (Lib.cut s [13, 10]).2.1) else match lineOf out (Lib.cut s [13, 10]).1 with
    | none => none
    | some o => readHF k o (Lib.cut s [13, 10]).2.1 := by
  conv => lhs; unfold readHF
  rw [if_neg h]
  show (if (Lib.cut s [13, 10]).1 = [] ∧ (Lib.cut s [13, 10]).2.2 = true then some (out, (Lib.cut s [13, 10]).2.1) else _) = _
  rfl
theorem cut_facts {s : Bs} (h : s ≠ []) (p : Bs) (hp : p ≠ []) : (Lib.cut s p).1.length + (Lib.cut s p).2.1.length ≤ s.length ∧ (Lib.cut s p).2.1.length < s.length ∧ ((Lib.cut s p).1 = [] → (Lib.cut s p).2.2 = true) := by
  rw [cut_cutP]
  cases hc : cutP p s with
  | none => exact ⟨by simp, List.length_pos_iff.2 h, fun e => absurd e h⟩
  | some x =>
    obtain ⟨a, b⟩ := x
    have e := congrArg List.length (cutP_some hc)
    have := List.length_pos_iff.2 hp
    simp at e
    exact ⟨by simp; omega, by simp; omega, fun _ => rfl⟩
theorem OwnF.setLast {w : World} {B g cap n : Nat} {xs : List Fld} {f : Fld} (hn : n = xs.length + 1) (h : OwnF w B (.slice (some ⟨g, 0, none⟩) n cap) (xs ++ [f])) (y : Bs) :
    OwnF (w.setCell ⟨g, xs.length * 2 + 1, none⟩ (.string ⟨y.toArray⟩)) B (.slice (some ⟨g, 0, none⟩) n cap) (xs ++ [(f.1, y)]) := by
  subst hn
  unfold OwnF OwnG at h ⊢
  have h0 : (xs ++ [f]).length = xs.length + 1 := by simp
  have h1 : (xs ++ [(f.1, y)]).length = xs.length + 1 := by simp
  rw [h0] at h
  rw [h1]
  have hs := (World.ownsRow.stored h (xs.length * 2 + 1) (.string ⟨y.toArray⟩)).1
  have e : ((xs ++ [f]).flatMap fldC).set (xs.length * 2 + 1) (.string ⟨y.toArray⟩) = (xs ++ [(f.1, y)]).flatMap fldC := by
    rw [List.flatMap_append, List.flatMap_append, List.set_append_right _ _ (by rw [flat_len fldC_len]; omega), flat_len fldC_len, show xs.length * 2 + 1 - xs.length * 2 = 1 by omega]
    rfl
  rw [e] at hs
  exact hs
theorem OwnF.last {w : World} {B : Nat} {v : Value} {xs : List Fld} {f : Fld} (h : OwnF w B v (xs ++ [f])) :
    ∃ g cap, v = .slice (some ⟨g, 0, none⟩) (xs.length + 1) cap ∧ B ≤ g ∧ g < w.heap.size ∧ w.cell? ⟨g, xs.length * 2 + 1, none⟩ = some (.string ⟨f.2.toArray⟩) ∧ w.frozen? ⟨g, xs.length * 2 + 1, none⟩ = false := by
  have h' := h
  unfold OwnF OwnG at h'
  have h0 : (xs ++ [f]).length = xs.length + 1 := by simp
  rw [h0] at h'
  obtain ⟨a, cap, hv, hc⟩ := RdF.open (OwnG.rd (by decide) fldC_len h)
  rw [h0] at hv
  obtain ⟨g, ha, hlt, _, hc2⟩ := hc xs.length (by simp)
  subst ha
  subst hv
  refine ⟨g, cap, rfl, ?_, hlt, ?_, World.ownsRow.frozenAt h' _⟩
  · exact (World.ownsRow.lt h' g rfl).1
  · rw [hc2]; simp
def FldsIn (m : Nat) (l : List Fld) : Prop := ∀ f ∈ l, f.1.length ≤ 1000000000 ∧ f.2.length + m ≤ 1000000000
def HeadOr (r : Option (List Fld × Bs)) (e : Ending) (w' : World) : Prop :=
  (∃ o rest v, r = some (o, rest) ∧ o.length ≤ 1000000000 ∧ FldsIn 0 o ∧ rest.length ≤ 1000000000 ∧ e = .returned (.tuple #[v, .string ⟨rest.toArray⟩, .nilIface]) ∧ RdF w' v o) ∨ (∃ v, r = none ∧ e = .returned (.tuple #[.slice none 0 0, .string ⟨#[]⟩, v]) ∧ ErrV w' v 3)
set_option maxHeartbeats 4000000 in
set_option maxRecDepth 100000 in
theorem readHead_any (s : Bs) (w : World) (hl : s.length ≤ 1000000000) (hg : Ground w) :
    Calls Tryz.prog 162 #[.string ⟨s.toArray⟩] w fun e w' => HeadOr (readH s) e w' ∧ Below w.heap.size w w' := by
  go_enter Tryz.func162, Tryz.ntmps162
  go_wp2_with fail
  go_loopw [0, 5, 6] (fun t o i wr => ∃ (rest : Bs) (out : List Fld) (n fuel : Nat), t = .string ⟨rest.toArray⟩ ∧ i = .int .i64 n ∧ n + rest.length ≤ 1000000000 ∧ out.length ≤ n ∧ OwnF wr w.heap.size o out ∧ rest.length < fuel ∧ readHF fuel out rest = readH s ∧ FldsIn rest.length out ∧ Below w.heap.size w wr) (fun t _ _ _ => lenOf t)
  case atStart => exact ⟨s, [], 0, s.length + 1, rfl, rfl, by omega, by simp, OwnG.nil _ _ _ _ _, by omega, rfl, fun f hf => by simp at hf, Below.refl _ _⟩
  case round =>
    obtain ⟨rest, out, n, fuel, rfl, rfl, hnr, hol, hown, hfu, hall, hfi, B⟩ := hrel
    have Hfi := Lib.hid hfi; clear hfi
    obtain ⟨fuel, rfl⟩ : ∃ m, fuel = m + 1 := ⟨fuel - 1, by omega⟩
    by_cases h0 : rest = []
    · subst h0
      have HN := Lib.hid (show readH s = some (out, []) from by rw [← hall]; rfl)
      clear hall
      have hrd := OwnG.rd (by decide) fldC_len hown
      go_wp2_with fail
      go_ret3
      exact ⟨Or.inl ⟨out, [], _, HN.out, by omega, Hfi.out, by simp, rfl, hrd⟩, B⟩
    · have hcf := cut_facts h0 [13, 10] (by decide)
      have hu := readHF_succ (k := fuel) (out := out) h0
      rw [hall] at hu
      have HU := Lib.hid hu; clear hu hall
      have hre : rest.isEmpty = false := by rw [Bool.eq_false_iff]; simpa using h0
      clear h0
      go_wp2_with fail
      refine (cutS rest [13, 10] _ (by omega) (hg.next B)).mono ?_
      rintro e w2 ⟨rfl, hb2⟩
      generalize Lib.cut rest [13, 10] = c at hcf HU ⊢
      obtain ⟨l, r, ok⟩ := c
      simp only at hcf HU ⊢
      obtain ⟨hl1, hr1, hok⟩ := hcf
      have hown := OwnG.next hown hb2
      have B := B.trans (hb2.mono B.size)
      clear hb2
      cases l with
      | nil =>
        have hok := hok rfl
        subst hok
        have HN := Lib.hid (show readH s = some (out, r) from by rw [HU.out, if_pos ⟨rfl, rfl⟩])
        have hrd := OwnG.rd (by decide) fldC_len hown
        go_wp2_with fail
        go_ret3
        exact ⟨Or.inl ⟨out, r, _, HN.out, by omega, fun f hf => ⟨(Hfi.out f hf).1, by have := (Hfi.out f hf).2; omega⟩, by omega, rfl, hrd⟩, B⟩
      | cons x l' =>
        clear hok
        have HL := Lib.hid (show readH s = match lineOf out (x :: l') with | none => none | some o => readHF fuel o r from by rw [HU.out, if_neg (fun h => by cases h.1)])
        clear HU
        have hx256 : (x.toNat : Int) < 256 := by have := x.toNat_lt; omega
        have HG := Lib.hid (show goesOn (x :: l') = (((x.toNat : Int) == 32) || ((x.toNat : Int) == 9)) from by
          show (x == 32 || x == 9) = _
          have h : ∀ d : UInt8, (x == d) = ((x.toNat : Int) == (d.toNat : Int)) := fun d => by
            by_cases e : x = d
            · subst e; simp
            · rw [beq_eq_false_iff_ne.2 e, eq_comm, beq_eq_false_iff_ne]
              intro h; exact e (UInt8.toNat_inj.1 (by omega))
          rw [h 32, h 9]; rfl)
        go_upto_region 9 with fail
        go_cut [38] (fun t wx => t = .bool (goesOn (x :: l')) ∧ wx = w2)
        case first =>
          by_cases h32 : ((x.toNat : Int) == 32) = true
          · go_wp2_with fail
            go_meet
            exact ⟨by rw [HG.out, h32]; rfl, rfl⟩
          · have h32 := Bool.eq_false_iff.2 h32
            by_cases h9 : ((x.toNat : Int) == 9) = true
            · go_wp2_with fail
              go_meet
              exact ⟨by rw [HG.out, h32, h9]; rfl, rfl⟩
            · have h9 := Bool.eq_false_iff.2 h9
              go_wp2_with fail
              go_meet
              exact ⟨by rw [HG.out, h32, h9]; rfl, rfl⟩
        case rest =>
        obtain ⟨rfl, rfl⟩ := hcut
        obtain ⟨w2, rfl⟩ : ∃ x : World, x = wc := ⟨_, rfl⟩
        clear HG hx256
        have hlo : lineOf out (x :: l') = if goesOn (x :: l') then (match out.getLast? with | none => none | some f => some (out.dropLast ++ [(f.1, f.2 ++ (x :: l'))])) else match cutP [58] (x :: l') with | none => none | some (a, b) => if nameB a then some (out ++ [(a, b)]) else none := rfl
        have HLO := Lib.hid hlo; clear hlo
        have hln : (x :: l').isEmpty = false := rfl
        have hll : (x :: l').length ≤ 1000000000 := by omega
        have hcf2 := cut_facts (List.cons_ne_nil x l') [58] (by decide)
        have HC2 := Lib.hid (cut_cutP [58] (x :: l'))
        generalize goesOn (x :: l') = go at HLO ⊢
        have hl1' : (x :: l').length + r.length ≤ rest.length := hl1
        generalize hl2 : x :: l' = l at HL HLO hll hcf2 HC2 hl1' ⊢
        clear hl2 hl1 hln
        cases go with
        | true =>
          rcases List.eq_nil_or_concat out with ho | ⟨init, f, ho⟩
          · subst ho
            have HN := Lib.hid (show readH s = none from by rw [HL.out, HLO.out]; rfl)
            obtain ⟨va, vc, rfl, _⟩ := RdF.open (OwnG.rd (by decide) fldC_len hown)
            simp only [List.length_nil]
            go_wp2_with fail
            go_ret3
            exact ⟨Or.inr ⟨_, HN.out, rfl, ErrV.at _ _ _ _⟩, B.alloc B.size _⟩
          · rw [List.concat_eq_append] at ho
            subst ho
            have HN := Lib.hid (show readH s = readHF fuel (init ++ [(f.1, f.2 ++ l)]) r from by rw [HL.out, HLO.out]; simp)
            obtain ⟨g, cap, rfl, hgB, hgs, hc1, hf1⟩ := OwnF.last hown
            simp only [List.length_append, List.length_cons, List.length_nil] at hol
            have hff := Hfi.out f (by simp)
            have hset := fun y => OwnF.setLast (n := init.length + 1) rfl hown y
            go_wp2_with fail
            go_roundw
            case rel => exact ⟨r, init ++ [(f.1, f.2 ++ l)], n + 1, fuel, rfl, by go_num, by omega, by simp; omega, hset (f.2 ++ l), by omega, HN.out.symm, fun q hq => by
                rcases List.mem_append.1 hq with hq | hq
                · have := Hfi.out q (by simp [hq]); exact ⟨this.1, by omega⟩
                · simp at hq; subst hq; exact ⟨hff.1, by simp; omega⟩, B.setCell hgB _⟩
            case measure => simp; omega
        | false =>
          go_wp2_with fail
          refine (cutS l [58] _ (by omega) (hg.next B)).mono ?_
          rintro e w3 ⟨rfl, hb3⟩
          have hown := OwnG.next hown hb3
          have B := B.trans (hb3.mono B.size)
          clear hb3
          generalize Lib.cut l [58] = c2 at hcf2 HC2 ⊢
          obtain ⟨a, b, ok2⟩ := c2
          simp only at hcf2 HC2 ⊢
          have ha : a.length ≤ 1000000000 := by omega
          cases ok2 with
          | false =>
            have HN := Lib.hid (show readH s = none from by
              rw [HL.out, HLO.out]
              cases hc : cutP [58] l with
              | none => rfl
              | some q => have := HC2.out; rw [hc] at this; simp at this)
            go_wp2_with fail
            go_ret3
            exact ⟨Or.inr ⟨_, HN.out, rfl, ErrV.at _ _ _ _⟩, B.alloc B.size _⟩
          | true =>
            have HN := Lib.hid (show readH s = match (if nameB a then some (out ++ [(a, b)]) else none) with | none => none | some o => readHF fuel o r from by
              rw [HL.out, HLO.out]
              cases hc : cutP [58] l with
              | none => have := HC2.out; rw [hc] at this; simp at this
              | some q => have := HC2.out; rw [hc] at this; simp at this; rw [this.1, this.2]; rfl)
            clear HL HLO HC2
            go_wp2_with fail
            refine (name_any a _ (by omega)).mono ?_
            rintro e w' ⟨rfl, rfl⟩
            generalize nameB a = nb at HN ⊢
            cases nb with
            | false =>
              have HN2 := Lib.hid (show readH s = none from by rw [HN.out]; rfl)
              go_wp2_with fail
              go_ret3
              exact ⟨Or.inr ⟨_, HN2.out, rfl, ErrV.at _ _ _ _⟩, B.alloc B.size _⟩
            | true =>
              have HN2 := Lib.hid (show readHF fuel (out ++ [(a, b)]) r = readH s from by rw [HN.out]; rfl)
              go_wp2_with (at_builtin; refine appF rfl _ _ rfl w.heap.size _ out (a, b) w3.heap.size 1 rfl (OwnG.alloc hown _) rfl (cellF1 w3 (a, b) _) (by omega) (by have := B.size; simp; omega) ?_; intro v' w4 hown4 hg4 hb4)
              go_wp2_with fail
              go_roundw
              case rel => exact ⟨r, out ++ [(a, b)], n + 1, fuel, rfl, by go_num, by omega, by simp; omega, hown4, by omega, HN2.out, fun q hq => by
                  rcases List.mem_append.1 hq with hq | hq
                  · have := Hfi.out q hq; exact ⟨this.1, by omega⟩
                  · simp at hq; subst hq; exact ⟨ha, by simp; omega⟩, (B.alloc B.size _).trans hb4⟩
              case measure => simp; omega
def nb (l : Bs) : Nat := (l.takeWhile (fun c => c == 32)).length
def nw (l : Bs) : Nat := (l.takeWhile (fun c => c != 32)).length
def wordN (l : Bs) : Nat := nb l + nw (l.drop (nb l))
theorem nb_le (l : Bs) : nb l ≤ l.length := (List.takeWhile_sublist _).length_le
theorem nw_le (l : Bs) : nw l ≤ l.length := (List.takeWhile_sublist _).length_le
theorem wordN_le (l : Bs) : wordN l ≤ l.length := by
  have h1 := nb_le l
  have h2 := nw_le (l.drop (nb l))
  unfold wordN
  simp at h2; omega
theorem wordN_pos {l : Bs} (h : l ≠ []) : 1 ≤ wordN l := by
  cases l with
  | nil => exact absurd rfl h
  | cons c l =>
    unfold wordN
    by_cases hc : c = 32
    · have : 1 ≤ nb (c :: l) := by unfold nb; rw [List.takeWhile_cons]; simp [hc]
      omega
    · have h0 : nb (c :: l) = 0 := by unfold nb; rw [List.takeWhile_cons]; simp [hc]
      have h1 : 1 ≤ nw (c :: l) := by unfold nw; rw [List.takeWhile_cons]; simp [hc]
      rw [h0, List.drop_zero]; omega
def lineF : Nat → Bs → Bs → Bs
  | 0, _, _ => []
  | k + 1, head, rest =>
    if rest = [] then head ++ [13, 10]
    else (if head.length + wordN rest > 76 then head ++ [13, 10] else []) ++ lineF k ((if head.length + wordN rest > 76 then [] else head) ++ rest.take (wordN rest)) (rest.drop (wordN rest))
def lineT (head rest : Bs) : Bs := lineF (rest.length + 1) head rest
theorem lineF_len : ∀ (k : Nat) (head rest : Bs), (lineF k head rest).length ≤ head.length + 2 + 3 * rest.length
  | 0, _, _ => by simp [lineF]
  | k + 1, head, rest => by
    unfold lineF
    split
    · simp
    · rename_i h
      have hp := wordN_pos h
      have hle := wordN_le rest
      have ih := lineF_len k ((if head.length + wordN rest > 76 then [] else head) ++ rest.take (wordN rest)) (rest.drop (wordN rest))
      split at ih
      · rename_i h2; rw [if_pos h2, if_pos h2]; simp at ih ⊢; omega
      · rename_i h2; rw [if_neg h2, if_neg h2]; simp at ih ⊢; omega
theorem nb_drop {l : Bs} {k : Nat} (h : k < l.length) : nb (l.drop k) = if l[k] = 32 then 1 + nb (l.drop (k + 1)) else 0 := by
  rw [drop_cons h]
  unfold nb
  rw [List.takeWhile_cons]
  by_cases hc : l[k] = 32
  · simp [hc]; omega
  · simp [hc]
theorem nw_drop {l : Bs} {k : Nat} (h : k < l.length) : nw (l.drop k) = if l[k] = 32 then 0 else 1 + nw (l.drop (k + 1)) := by
  rw [drop_cons h]
  unfold nw
  rw [List.takeWhile_cons]
  by_cases hc : l[k] = 32
  · simp [hc]
  · simp [hc]; omega
set_option maxHeartbeats 4000000 in
set_option maxRecDepth 100000 in
theorem line_any (B b : Nat) (l head rest : Bs) (w : World) (h : Bld B b l w) (hBw : B ≤ w.heap.size) (h1 : l.length ≤ 10000000000000) (h2 : head.length ≤ 1000000000000) (h3 : rest.length ≤ 1000000000000) :
    Calls Tryz.prog 272 #[.pointer (some ⟨b, 0, none⟩), .string ⟨head.toArray⟩, .string ⟨rest.toArray⟩] w fun e w' => e = .returned (.tuple #[]) ∧ Bld B b (l ++ lineT head rest) w' ∧ Below B w w' := by
  have hT := lineF_len (rest.length + 1) head rest
  have HT := Lib.hid (show lineT head rest = lineF (rest.length + 1) head rest from rfl)
  generalize hg : lineF (rest.length + 1) head rest = tot at hT HT
  have HG := Lib.hid hg; clear hg
  go_enter Tryz.func272, Tryz.ntmps272
  go_wp2_with fail
  go_loopw [1, 2] (fun x y wr => ∃ (hd r out : Bs) (fuel : Nat), x = .string ⟨hd.toArray⟩ ∧ y = .string ⟨r.toArray⟩ ∧ hd.length + r.length ≤ 2000000000000 ∧ r.length < fuel ∧ out ++ lineF fuel hd r = tot ∧ Bld B b (l ++ out) wr ∧ Below B w wr) (fun _ y _ => lenOf y)
  case atStart => exact ⟨head, rest, [], rest.length + 1, rfl, rfl, by omega, by omega, HG.out, by rw [List.append_nil]; exact h, Below.refl _ _⟩
  case round =>
    obtain ⟨hd, r, out, fuel, rfl, rfl, hle, hfu, htot, hb, hB⟩ := hrel
    have Htot := Lib.hid htot; clear htot
    obtain ⟨fuel, rfl⟩ : ∃ m, fuel = m + 1 := ⟨fuel - 1, by omega⟩
    have HLn := Lib.hid (lineF_len (fuel + 1) hd r)
    have hout : out.length + (lineF (fuel + 1) hd r).length = tot.length := by rw [← Htot.out]; simp
    have HO := Lib.hid hout; clear hout
    go_wp2_with fail
    obtain ⟨w1, rfl⟩ : ∃ w1 : World, w1 = wr := ⟨_, rfl⟩
    go_loop [6] (fun i => ∃ k : Nat, i = .int .i64 k ∧ k ≤ r.length ∧ nb r = k + nb (r.drop k)) (fun i => r.length - (intOf i).toNat)
    case atStart => exact ⟨0, rfl, by omega, by simp⟩
    case round =>
      obtain ⟨k, rfl, hk, hnb⟩ := hrel
      have Hnb := Lib.hid hnb; clear hnb
      by_cases hgo : ∃ h : k < r.length, r[k] = 32
      · obtain ⟨hlt, h32⟩ := hgo
        have HD := Lib.hid (show nb (r.drop k) = 1 + nb (r.drop (k + 1)) from by rw [nb_drop hlt, if_pos h32])
        go_wp2_with fail
        go_round
        case rel => exact ⟨k + 1, by go_num, by omega, by rw [Hnb.out, HD.out]; omega⟩
        case measure => simp [intOf]; omega
      · have hk1 : nb r = k := by
          rw [Hnb.out]
          by_cases hlt : k < r.length
          · rw [nb_drop hlt, if_neg (fun h => hgo ⟨hlt, h⟩)]; rfl
          · rw [List.drop_of_length_le (by omega)]; simp [nb]
        have HW0 := Lib.hid (show wordN r = k + nw (r.drop k) from by unfold wordN; rw [hk1])
        have Hgo := Lib.hid hgo; clear hgo hk1 Hnb
        go_upto_region 1 with fail
        go_cut [16] (fun t wx => t = .bool false ∧ wx = w1)
        case first =>
          by_cases hlt : k < r.length
          · have n32 : ((r[k].toNat : Int) == 32) = false := by rw [beq_eq_false_iff_ne]; intro h; exact Hgo.out ⟨hlt, UInt8.toNat_inj.1 (by simp; omega)⟩
            go_wp2_with fail
            go_meet
            exact ⟨rfl, rfl⟩
          · go_wp2_with fail
            go_meet
            exact ⟨rfl, rfl⟩
        case rest =>
        obtain ⟨rfl, rfl⟩ := hcut
        obtain ⟨w1, rfl⟩ : ∃ w1 : World, w1 = wc := ⟨_, rfl⟩
        clear Hgo
        go_wp2_with fail
        go_loop [6] (fun i => ∃ m : Nat, i = .int .i64 m ∧ m ≤ r.length ∧ wordN r = m + nw (r.drop m)) (fun i => r.length - (intOf i).toNat)
        case atStart => exact ⟨k, rfl, hk, HW0.out⟩
        case round =>
          clear HW0 hk
          obtain ⟨m, rfl, hm, hw0⟩ := hrel
          have Hw0 := Lib.hid hw0; clear hw0
          by_cases hgo : ∃ h : m < r.length, r[m] ≠ 32
          · obtain ⟨hlt, h32⟩ := hgo
            have n32 : ((r[m].toNat : Int) != 32) = true := by rw [bne_iff_ne]; intro h; exact h32 (UInt8.toNat_inj.1 (by simp; omega))
            have HD := Lib.hid (show nw (r.drop m) = 1 + nw (r.drop (m + 1)) from by rw [nw_drop hlt, if_neg h32])
            clear h32
            go_wp2_with fail
            go_round
            case rel => exact ⟨m + 1, by go_num, by omega, by rw [Hw0.out, HD.out]; omega⟩
            case measure => simp [intOf]; omega
          · have hm1 : wordN r = m := by
              rw [Hw0.out]
              by_cases hlt : m < r.length
              · rw [nw_drop hlt, if_pos (Decidable.not_not.1 fun h => hgo ⟨hlt, h⟩)]; rfl
              · rw [List.drop_of_length_le (by omega)]; simp [nw]
            have Hgo := Lib.hid hgo; clear hgo Hw0
            go_upto_region 3 with fail
            go_cut [28] (fun t wx => t = .bool false ∧ wx = w1)
            case first =>
              by_cases hlt : m < r.length
              · have e32 : r[m] = 32 := Decidable.not_not.1 fun h => Hgo.out ⟨hlt, h⟩
                go_wp2_with fail
                go_meet
                exact ⟨rfl, rfl⟩
              · go_wp2_with fail
                go_meet
                exact ⟨rfl, rfl⟩
            case rest =>
            obtain ⟨rfl, rfl⟩ := hcut
            obtain ⟨w1, rfl⟩ : ∃ w1 : World, w1 = wc := ⟨_, rfl⟩
            clear Hgo
            by_cases h0 : r = []
            · subst h0
              have HN := Lib.hid (show out ++ (hd ++ [13, 10]) = tot from by rw [← Htot.out]; unfold lineF; rw [if_pos rfl])
              have hlen := congrArg List.length HN.out
              simp at hlen
              have Hlen := Lib.hid hlen; clear hlen
              go_wp2_with fail
              refine (wrStr B b (l ++ out) (hd ++ [13, 10]) _ hb (by have := Hlen.out; simp; omega) (Nat.le_trans hBw hB.size)).mono ?_
              rintro e w2 ⟨rfl, hb, hb2⟩
              go_wp2_with fail
              refine bodyPost_ret (v := .tuple #[]) (by simp [results, Tryz.results272, go_sem]) rfl ⟨rfl, by rw [HT.out, ← HN.out, ← List.append_assoc]; exact hb, hB.trans hb2⟩
            · have hre : r.isEmpty = false := by rw [Bool.eq_false_iff]; simpa using h0
              have hpos := wordN_pos h0
              rw [hm1] at hpos
              have HN := Lib.hid (show out ++ ((if hd.length + m > 76 then hd ++ [13, 10] else []) ++ lineF fuel ((if hd.length + m > 76 then [] else hd) ++ r.take m) (r.drop m)) = tot from by rw [← Htot.out, ← hm1]; conv => rhs; unfold lineF; rw [if_neg h0])
              clear h0 hm1 Htot
              by_cases h76 : 76 < hd.length + m
              · have h76' : (76 : Int) < (hd.length : Int) + (m : Int) := by omega
                have HN2 := Lib.hid (show out ++ (hd ++ [13, 10]) ++ lineF fuel (r.take m) (r.drop m) = tot from by rw [← HN.out, if_pos h76, if_pos h76]; simp)
                have hlen := congrArg List.length HN2.out
                simp only [List.length_append] at hlen
                have Hlen := Lib.hid hlen; clear hlen HN h76
                go_wp2_with fail
                refine (wrStr B b (l ++ out) (hd ++ [13, 10]) _ hb (by have := Hlen.out; simp at this ⊢; omega) (Nat.le_trans hBw hB.size)).mono ?_
                rintro e w2 ⟨rfl, hb, hb2⟩
                go_wp2_with fail
                go_roundw
                case rel => exact ⟨r.take m, r.drop m, out ++ (hd ++ [13, 10]), fuel, rfl, rfl, by simp; omega, by simp; omega, HN2.out, by rw [← List.append_assoc]; exact hb, hB.trans hb2⟩
                case measure => simp; omega
              · have h76' : (hd.length : Int) + (m : Int) ≤ 76 := by omega
                have HN2 := Lib.hid (show out ++ lineF fuel (hd ++ r.take m) (r.drop m) = tot from by rw [← HN.out, if_neg h76, if_neg h76]; simp)
                clear HN h76
                go_wp2_with fail
                go_roundw
                case rel => exact ⟨hd ++ r.take m, r.drop m, out, fuel, rfl, rfl, by simp; omega, by simp; omega, HN2.out, hb, hB⟩
                case measure => simp; omega
def firstOf (f : Fld) : Bs := (Lib.cut f.2 [32]).1
def writeHF : List Fld → Option Bs
  | [] => some []
  | f :: l => if rightF [f] then (writeHF l).map (lineT (f.1 ++ 58 :: 32 :: firstOf f) (f.2.drop (firstOf f).length) ++ ·) else none
def writeH (l : List Fld) : Option Bs := (writeHF l).map (· ++ [13, 10])
theorem rdF1 (w : World) (x y : Bs) (t : TypeId) : RdF (w.alloc (.cells #[.string ⟨x.toArray⟩, .string ⟨y.toArray⟩] t)) (.slice (some ⟨w.heap.size, 0, none⟩) 1 1) [(x, y)] := by
  refine ⟨_, 1, rfl, fun _ => ⟨w.heap.size, rfl, by simp, fun j hj => ?_⟩⟩
  rw [(Blk.new w #[.string ⟨x.toArray⟩, .string ⟨y.toArray⟩] t).cell]
  match j, hj with
  | 0, _ => rfl
  | 1, _ => rfl
theorem lineT_len (head rest : Bs) : (lineT head rest).length ≤ head.length + 2 + 3 * rest.length := lineF_len _ _ _
def TextOr (n : Int) (r : Option Bs) (e : Ending) (w' : World) : Prop :=
  (∃ o, r = some o ∧ e = .returned (.tuple #[.string ⟨o.toArray⟩, .nilIface])) ∨ (∃ v, r = none ∧ e = .returned (.tuple #[.string ⟨#[]⟩, v]) ∧ ErrV w' v n)
set_option maxHeartbeats 4000000 in
set_option maxRecDepth 100000 in
theorem writeHead_any (v : Value) (l : List Fld) (w : World) (hr : RdF w v l) (hlen : l.length ≤ 1000000) (hok : ∀ f ∈ l, f.1.length ≤ 1000000 ∧ f.2.length ≤ 1000000) (hg : Ground w) :
    Calls Tryz.prog 199 #[v] w fun e w' => TextOr 1 (writeH l) e w' ∧ Below w.heap.size w w' := by
  have Hok := Lib.hid hok; clear hok
  obtain ⟨a, cap, rfl, hc⟩ := hr.open
  have HC := Lib.hid hc; clear hc hr
  have b0 := bldNew w
  go_enter Tryz.func199, Tryz.ntmps199
  go_wp2_with fail
  go_loopw [12] (fun i wr => ∃ (k : Nat) (out : Bs), i = .int .i64 k ∧ k ≤ l.length ∧ out.length ≤ k * 5000010 ∧ Bld w.heap.size w.heap.size out wr ∧ (writeHF (l.drop k)).map (out ++ ·) = writeHF l ∧ Below w.heap.size w wr) (fun i _ => l.length - (intOf i).toNat)
  case atStart => exact ⟨0, [], rfl, by omega, by simp, b0, by simp, by go_grown⟩
  case round =>
    obtain ⟨k, out, rfl, hk, hol, hb, hall, B⟩ := hrel
    have Hall := Lib.hid hall; clear hall
    by_cases hlt : k < l.length
    · obtain ⟨b, rfl, hb0, h1, h2⟩ := HC.out k hlt
      have hf := Hok.out l[k] (List.getElem_mem _)
      have HD := Lib.hid (show writeHF (l.drop k) = if rightF [l[k]] then (writeHF (l.drop (k + 1))).map (lineT (l[k].1 ++ 58 :: 32 :: firstOf l[k]) (l[k].2.drop (firstOf l[k]).length) ++ ·) else none from by rw [List.drop_eq_getElem_cons hlt]; rfl)
      have c1 := (B.cell (p := ⟨b, k * 2, none⟩) hb0).trans h1
      have c2 := (B.cell (p := ⟨b, k * 2 + 1, none⟩) hb0).trans h2
      clear h1 h2
      generalize l[k] = f at hf HD c1 c2
      obtain ⟨x, y⟩ := f
      simp only at hf HD c1 c2
      obtain ⟨hx, hy⟩ := hf
      have kf := (Blk.new wr #[.string ⟨x.toArray⟩, .string ⟨y.toArray⟩] 92).alloc (.cells #[.string ⟨x.toArray⟩, .string ⟨y.toArray⟩] 92)
      have hrd := rdF1 (wr.alloc (.cells #[.string ⟨x.toArray⟩, .string ⟨y.toArray⟩] 92)) x y 92
      have hb := hb.next (w' := (wr.alloc (.cells #[.string ⟨x.toArray⟩, .string ⟨y.toArray⟩] 92)).alloc (.cells #[.string ⟨x.toArray⟩, .string ⟨y.toArray⟩] 92)) (((Below.refl _ _).alloc (Nat.le_refl _) _).alloc (by simp) _)
      have B := (B.alloc B.size (.cells #[.string ⟨x.toArray⟩, .string ⟨y.toArray⟩] 92)).alloc (B.alloc B.size (.cells #[.string ⟨x.toArray⟩, .string ⟨y.toArray⟩] 92)).size (.cells #[.string ⟨x.toArray⟩, .string ⟨y.toArray⟩] 92)
      rw [World.size_alloc] at hrd
      go_wp2_with fail
      refine (right_fields _ [(x, y)] _ hrd ⟨by simp, fun q hq => by simp at hq; subst hq; exact ⟨by simp; omega, by simp; omega⟩⟩).mono ?_
      rintro e w2 ⟨rfl, hb2⟩
      have kf := kf.next hb2 kf.lt
      have hb := hb.next hb2
      have B := B.trans (hb2.mono B.size)
      clear hb2 hrd c1 c2
      have kc := kf.cell
      generalize rightF [(x, y)] = rf at HD ⊢
      cases rf with
      | false =>
        have HN := Lib.hid (show writeH l = none from by unfold writeH; rw [← Hall.out, HD.out]; rfl)
        go_wp2_with fail
        go_ret2
        exact ⟨Or.inr ⟨_, HN.out, rfl, ErrV.at _ _ _ _⟩, B.alloc B.size _⟩
      | true =>
        have hF := Lib.hid (show firstOf (x, y) = (Lib.cut y [32]).1 from rfl)
        have hcl : (Lib.cut y [32]).1.length ≤ y.length := by
          by_cases h : y = []
          · subst h; decide
          · have := (cut_facts h [32] (by decide)).1; omega
        go_wp2_with fail
        refine (cutS y [32] _ (by omega) (hg.next B)).mono ?_
        rintro e w3 ⟨rfl, hb3⟩
        have kf := kf.next hb3 kf.lt
        have hb := hb.next hb3
        have B := B.trans (hb3.mono B.size)
        clear hb3 kc
        generalize firstOf (x, y) = q at HD hF
        have hq : (Lib.cut y [32]).1 = q := hF.out.symm
        generalize Lib.cut y [32] = c at hcl hq ⊢
        obtain ⟨c1, c2, c3⟩ := c
        simp only at hcl hq ⊢
        subst hq
        clear hF
        have HN := Lib.hid (show (writeHF (l.drop (k + 1))).map ((out ++ lineT (x ++ 58 :: 32 :: c1) (y.drop c1.length)) ++ ·) = writeHF l from by rw [← Hall.out, HD.out]; simp only [if_true]; cases writeHF (l.drop (k + 1)) <;> simp)
        clear HD Hall
        have hll := lineT_len (x ++ 58 :: 32 :: c1) (y.drop c1.length)
        have hll2 : (lineT (x ++ 58 :: 32 :: c1) (y.drop c1.length)).length ≤ 5000010 := by simp only [List.length_append, List.length_drop, List.length_cons] at hll; omega
        clear hll
        go_upto_region 8 with fail
        have rc := (Blk.drew kf).cell
        have kc := kf.cell
        have i1 : (c1.length : Int) ≤ y.length := by omega
        have i2 : (0 : Int) ≤ c1.length := by omega
        have hLine := fun W (hbW : Bld w.heap.size w.heap.size out W) (hBW : w.heap.size ≤ W.heap.size) => line_any w.heap.size w.heap.size out (x ++ 58 :: 32 :: c1) (y.drop c1.length) W hbW hBW (by omega) (by simp; omega) (by simp; omega)
        have hbd := hb.drew
        have hBd := B.drew
        have hsz := hBd.size
        have g1 : ¬ 9223372036854775807 < x.length + 2 := by omega
        have g2 : ¬ 9223372036854775807 < x.length + 2 + c1.length := by omega
        have g3 : ¬ 9223372036854775807 < x.length + (c1.length + 1 + 1) := by omega
        go_region_law ((go_simp; refine (hLine _ hbd hsz).mono ?_; rintro e w4 ⟨rfl, hb4, hB4⟩))
        all_goals
          go_wp2_with fail
          go_roundw
          case rel => exact ⟨k + 1, _, by go_num, by omega, by simp; omega, hb4, HN.out, hBd.trans hB4⟩
          case measure => simp [intOf]; omega
    · obtain rfl : k = l.length := by omega
      have HN := Lib.hid (show writeH l = some (out ++ [13, 10]) from by unfold writeH; rw [← Hall.out, List.drop_length]; simp [writeHF])
      go_wp2_with fail
      refine (bldStr _ _ _ _ hb B.size).mono ?_
      rintro e w2 ⟨rfl, hb2⟩
      go_wp2_with fail
      go_ret2
      exact ⟨Or.inl ⟨_, HN.out, rfl⟩, B.trans hb2⟩
end Go.Proofs.YtignjjnflcpiiaaGreatDoor
namespace Go.Proofs.YtignjjnflcpiiaaGreatDoor
open Go
inductive Prt where
  | mk : List Fld → Bs → Bool → List Prt → Prt
def Prt.head : Prt → List Fld | .mk h _ _ _ => h
def Prt.body : Prt → Bs | .mk _ b _ _ => b
def Prt.many : Prt → Bool | .mk _ _ m _ => m
def Prt.parts : Prt → List Prt | .mk _ _ _ l => l
def ctN : Bs := [67, 111, 110, 116, 101, 110, 116, 45, 84, 121, 112, 101]
def cteN : Bs := [67, 111, 110, 116, 101, 110, 116, 45, 84, 114, 97, 110, 115, 102, 101, 114, 45, 69, 110, 99, 111, 100, 105, 110, 103]
def multiN : Bs := [109, 117, 108, 116, 105, 112, 97, 114, 116, 47]
def boundN : Bs := [98, 111, 117, 110, 100, 97, 114, 121]
def w7bit : Bs := [55, 98, 105, 116]
def w8bit : Bs := [56, 98, 105, 116]
def wBinary : Bs := [98, 105, 110, 97, 114, 121]
def wBase64 : Bs := [98, 97, 115, 101, 54, 52]
def wQuoted : Bs := [113, 117, 111, 116, 101, 100, 45, 112, 114, 105, 110, 116, 97, 98, 108, 101]
def badBound (b : Bs) : Bool := b.isEmpty || decide (70 < b.length) || Lib.hasSuffix b [32]
def boundF (l : List Fld) : Option (Option Bs) :=
  match getF l ctN with
  | none => some none
  | some v => match readK v with
    | none => none
    | some (m, ps) => if Lib.hasPrefix m multiN then
        match getP ps boundN with
        | none => none
        | some b => if badBound b then none else some (some b)
      else some none
def pieceOf (s : Bs) (i o : Nat) : Bs := (s.drop o).take (max (i - 2) o - o)
def closeOf (s : Bs) (i : Nat) (op : Option Nat) (out : List Bs) : List Bs := match op with
  | none => out
  | some o => out ++ [pieceOf s i o]
def markOf (l b : Bs) : Option Bs := if Lib.hasPrefix l (45 :: 45 :: b) then some (Lib.trimS (Lib.trimPrefix l (45 :: 45 :: b)) [32, 9]) else none
def cutQ (s b : Bs) : Nat → Nat → Option Nat → List Bs → Option (List Bs)
  | 0, _, _, _ => none
  | k + 1, i, op, out =>
    if s.length < i then none else
    let l := (Lib.cut (s.drop i) [13, 10]).1
    match markOf l b with
    | none => cutQ s b k (i + l.length + 2) op out
    | some t => if t = [45, 45] then some (closeOf s i op out)
      else if t = [] then cutQ s b k (i + l.length + 2) (some (min (i + l.length + 2) s.length)) (closeOf s i op out)
      else cutQ s b k (i + l.length + 2) op out
def cutB (s b : Bs) : Option (List Bs) := cutQ s b (s.length + 2) 0 none []
def decodeF (l : List Fld) (s : Bs) : Except Int Bs :=
  match getF l cteN with
  | none => .ok s
  | some v =>
    if lowS v = w7bit ∨ lowS v = w8bit ∨ lowS v = wBinary then .ok s
    else if lowS v = wBase64 then (match unpackT s with | none => .error 3 | some x => .ok x)
    else if lowS v = wQuoted then (match unquoteT s with | none => .error 3 | some x => .ok x)
    else .error 5
def eachR {α β : Type} (f : Nat → α → Except Int (β × Nat)) : Nat → List α → Except Int (List β × Nat)
  | n, [] => .ok ([], n)
  | n, x :: xs => match f n x with
    | .error e => .error e
    | .ok (y, n') => match eachR f n' xs with
      | .error e => .error e
      | .ok (ys, m) => .ok (y :: ys, m)
def partR : Nat → Nat → Bs → Except Int (Prt × Nat)
  | 0, _, _ => .error 4
  | _ + 1, 0, _ => .error 4
  | d + 1, left + 1, s => match readH s with
    | none => .error 3
    | some (l0, body) => match cleanF l0 with
      | none => .error 1
      | some l => match boundF l with
        | none => .error 3
        | some none => (match decodeF l body with
          | .error e => .error e
          | .ok b => .ok (.mk l b false [], left))
        | some (some b) => match cutB body b with
          | none => .error 3
          | some ps => match eachR (partR d) left ps with
            | .error e => .error e
            | .ok (qs, n) => .ok (.mk l [] true qs, n)
def readP (s : Bs) : Except Int Prt := if 20000 < s.length then .error 4 else (partR 4 40 s).map (·.1)
def delF (l : List Fld) : List Fld := l.filter fun f => !(lowS f.1 == lowS cteN)
def setP : List Fld → Bs → Bs → List Fld
  | [], _, _ => []
  | f :: l, n, b => if f.1 = n then (f.1, b) :: l else f :: setP l n b
def renameF (v b : Bs) : Bs := let x := (readK v).getD ([], []); (writeK x.1 (setP x.2 boundN b)).getD []
def renF : List Fld → Bs → List Fld
  | [], _ => []
  | f :: l, b => if lowS f.1 = lowS ctN then (f.1, renameF f.2 b) :: l else f :: renF l b
def firstN (p : Nat → Bool) : Nat → Nat → Nat
  | 0, n => n
  | k + 1, n => if p n then n else firstN p k (n + 1)
def hasAny (pre : Bs) (l : List Bs) (n : Nat) : Bool := l.any fun s => Lib.contains s (pre ++ Lib.itoa n)
def sumLen (l : List Bs) : Nat := (l.map List.length).sum
def chooseN (pre : Bs) (l : List Bs) : Nat := firstN (fun n => !hasAny pre l n) (20 * (sumLen l + l.length + 1)) 0
def chooseT (l : List Bs) : Bs := 98 :: Lib.itoa (chooseN [45, 45, 98] l)
def plainC (c : UInt8) : Bool := c == 9 || (decide (32 ≤ c) && decide (c ≤ 126))
def plainB (s : Bs) : Bool := (Lib.replaceAll s [13, 10] []).all plainC
def shortestF (s : Bs) : Bs × Bs :=
  if plainB s then (w7bit, s) else
  if (quoteT s).length ≤ (packT s).length then (wQuoted, quoteT s) else (wBase64, packT s)
def piecesT (b : Bs) (l : List Bs) : Bs := l.flatMap fun s => 45 :: 45 :: (b ++ 13 :: 10 :: (s ++ [13, 10]))
def leafW (h : List Fld) (body : Bs) : Option Bs := (writeH (delF h ++ [(cteN, (shortestF body).1)])).map (· ++ (shortestF body).2)
def manyW (h : List Fld) (l : List Bs) : Option Bs := (writeH (renF (delF h) (chooseT l))).map (· ++ (piecesT (chooseT l) l ++ 45 :: 45 :: (chooseT l ++ [45, 45, 13, 10])))
def partW : Nat → Nat → Prt → Except Int (Bs × Nat)
  | 0, _, _ => .error 4
  | _ + 1, 0, _ => .error 4
  | d + 1, left + 1, .mk h body many parts =>
    if rightF h = false then .error 1 else
    match boundF h with
    | none => .error 1
    | some ob =>
      if ob.isSome ≠ many then .error 1
      else if many then (if body ≠ [] then .error 1 else match eachR (partW d) left parts with
        | .error e => .error e
        | .ok (l, n) => match manyW h l with
          | none => .error 1
          | some s => .ok (s, n))
      else if parts ≠ [] then .error 1 else match leafW h body with
        | none => .error 1
        | some s => .ok (s, left)
def writeP (p : Prt) : Except Int Bs := match partW 4 40 p with
  | .error e => .error e
  | .ok (s, _) => if 20000 < s.length then .error 4 else .ok s
end Go.Proofs.YtignjjnflcpiiaaGreatDoor
