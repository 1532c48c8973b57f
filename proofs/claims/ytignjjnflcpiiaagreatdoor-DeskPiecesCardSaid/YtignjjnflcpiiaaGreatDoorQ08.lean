/- (*strings.byteStringReplacer).Replace, strings.NewReplacer(..).Replace: each byte by what stands for it. Condition: 2 to 100 pairs as in RepB; the text takes at most 10^9 bytes; strings.NewReplacer(..).Replace: each byte by what stands for it. Condition: pairs as in RepB; the text takes at most 10^9. -/
import Derived.Deep.OwnRows
import Derived.Laws.CopyOwn
import Derived.Test.YtignjjnflcpiiaaGreatDoorQ07
namespace Go.Proofs.YtignjjnflcpiiaaGreatDoor
open Go Go.RowKit
def rep (f : UInt8 → Option Bs) (s : Bs) : Bs := s.flatMap fun c => (f c).getD [c]
def hit (f : UInt8 → Option Bs) (s : Bs) : Bool := s.any fun c => (f c).isSome
def cutF (f : UInt8 → Option Bs) (l : Bs) (c : UInt8) : Option Bs := if c ∈ l then f c else none
theorem rep_cons (f : UInt8 → Option Bs) (c : UInt8) (s : Bs) : rep f (c :: s) = (f c).getD [c] ++ rep f s := by unfold rep; rw [List.flatMap_cons]
theorem rep_same (f : UInt8 → Option Bs) : ∀ s : Bs, hit f s = false → rep f s = s
  | [], _ => rfl
  | c :: s, h => by
    unfold hit at h
    rw [List.any_cons, Bool.or_eq_false_iff] at h
    rw [rep_cons, rep_same f s h.2]
    cases hf : f c with
    | none => rfl
    | some n => rw [hf] at h; simp at h
theorem rep_take (f : UInt8 → Option Bs) (s : Bs) (k : Nat) (h : k < s.length) : rep f (s.take (k + 1)) = rep f (s.take k) ++ (f s[k]).getD [s[k]] := by
  unfold rep
  rw [List.take_succ_eq_append_getElem h, List.flatMap_append]; simp
theorem hit_take (f : UInt8 → Option Bs) (s : Bs) (k : Nat) (h : k < s.length) : hit f (s.take (k + 1)) = (hit f (s.take k) || (f s[k]).isSome) := by
  unfold hit
  rw [List.take_succ_eq_append_getElem h, List.any_append]; simp
theorem rep_bd (f : UInt8 → Option Bs) (hf : ∀ c n, f c = some n → n.length ≤ 100) : ∀ s : Bs, (rep f s).length ≤ 100 * s.length
  | [] => by simp [rep]
  | c :: s => by
    have ih := rep_bd f hf s
    rw [rep_cons, List.length_append, List.length_cons]
    have : ((f c).getD [c]).length ≤ 100 := by
      cases h : f c with
      | none => simp
      | some n => simpa using hf c n h
    omega
theorem cut_step (f : UInt8 → Option Bs) (l : Bs) (k : UInt8) (n : Bs) (hk : k ∉ l) (hf : f k = some n) (hn : 1 ≤ n.length) : ∀ s : Bs,
    (rep (cutF f (l ++ [k])) s).length = (rep (cutF f l) s).length + s.count k * (n.length - 1) ∧ hit (cutF f (l ++ [k])) s = (hit (cutF f l) s || decide (s.count k ≠ 0))
  | [] => by simp [rep, hit]
  | c :: s => by
    obtain ⟨h1, h2⟩ := cut_step f l k n hk hf hn s
    rw [rep_cons, rep_cons, List.length_append, List.length_append, h1]
    have hh : ∀ g, hit g (c :: s) = ((g c).isSome || hit g s) := fun g => by unfold hit; rw [List.any_cons]
    rw [hh, hh, h2]
    by_cases e : c = k
    · subst e
      have e1 : cutF f (l ++ [c]) c = some n := by unfold cutF; rw [if_pos (by simp), hf]
      have e2 : cutF f l c = none := by unfold cutF; rw [if_neg hk]
      rw [e1, e2, List.count_cons_self]
      constructor
      · simp only [Option.getD_some, Option.getD_none, List.length_singleton]
        rw [Nat.succ_mul]; omega
      · simp
    · have e1 : cutF f (l ++ [k]) c = cutF f l c := by unfold cutF; simp [e]
      rw [e1, List.count_cons_of_ne e]
      constructor
      · omega
      · rw [Bool.or_assoc]
theorem cutF_nil (f : UInt8 → Option Bs) : cutF f [] = fun _ => none := by funext c; simp [cutF]
theorem rep_nil (s : Bs) : rep (fun _ => none) s = s := rep_same _ _ (by simp [hit])
theorem cutF_all (f : UInt8 → Option Bs) (kb : Bs) (h : ∀ c, (f c).isSome = true → c ∈ kb) : cutF f kb = f := by
  funext c
  unfold cutF
  by_cases e : c ∈ kb
  · rw [if_pos e]
  · rw [if_neg e]
    cases hf : f c with
    | none => rfl
    | some n => exact absurd (h c (by rw [hf]; rfl)) e
structure TabOk (f : UInt8 → Option Bs) (kb : Bs) : Prop where
  nodup : kb.Nodup
  few : kb.length ≤ 100
  some : ∀ k ∈ kb, ∃ n, f k = some n ∧ 1 ≤ n.length
  all : ∀ c, (f c).isSome = true → c ∈ kb
  bd : ∀ c n, f c = .some n → n.length ≤ 100
theorem countOne (l : Bs) (c : UInt8) (w : World) :
    Calls Tryz.prog 243 #[.string ⟨l.toArray⟩, .string ⟨#[c]⟩] w fun e w' => e = .returned (.int .i64 ((l.count c : Nat) : Int)) ∧ w = w' := by
  refine (Tryz.strings_Count_one ⟨l.toArray⟩ c w).mono ?_
  rintro e w' ⟨rfl, rfl⟩
  exact ⟨rfl, rfl⟩
theorem singles_at (kb : Bs) (j : Nat) (h : j < kb.length) : ((kb.map fun k => [k]).flatMap strC)[j]? = some (.string ⟨#[kb[j]]⟩) := by
  have e : ∀ kb : Bs, (kb.map fun k => [k]).flatMap strC = kb.map fun k => Value.string ⟨#[k]⟩ := fun kb => by
    induction kb with
    | nil => rfl
    | cons k l ih => rw [List.map_cons, List.flatMap_cons, ih]; rfl
  rw [e]; simp [h]
theorem count_le_len (l : Bs) (c : UInt8) : l.count c ≤ l.length := List.count_le_length
set_option maxHeartbeats 4000000 in
set_option maxRecDepth 100000 in
theorem bytesReplace_any (R B0 : Nat) (f : UInt8 → Option Bs) (kb : Bs) (ok : TabOk f kb) (s : Bs) (w : World) (hr : RepAt w R B0 f (kb.map fun k => [k])) (hs : s.length ≤ 1000000000) :
    Calls Tryz.prog 405 #[.pointer (some ⟨R, 0, none⟩), .string ⟨s.toArray⟩] w fun e w' => e = .returned (.string ⟨(rep f s).toArray⟩) ∧ Below w.heap.size w w' := by
  obtain ⟨cells, v, hb, hcs, htab, h256, hown⟩ := hr
  obtain ⟨kn, kf, ks, ka, kbd⟩ := ok
  obtain ⟨va, vcap, rfl, hvc⟩ := OwnG.rd (by decide) strC_len hown
  rw [List.length_map] at h256 hvc
  have c256 := (hb.cell 256).trans h256
  have hRlt := hb.lt
  have hLb := rep_bd f kbd s
  have Kn := Lib.hid kn; clear kn
  have Ks := Lib.hid ks; clear ks
  have Ka := Lib.hid ka; clear ka
  have Kbd := Lib.hid kbd; clear kbd
  have Htab := Lib.hid htab; clear htab
  have Hvc := Lib.hid hvc; clear hvc
  have Hcs := Lib.hid hcs; clear hcs h256
  clear hown
  have qN : ∀ (w : World) (a : Option Addr) (n c n' c' : Nat), (binOp .neq 126 (.slice a n c) (.slice none n' c')).run Tryz.prog w = .ok (.bool (!a.isNone)) w := fun w a n c n' c' => run_neq_slice_nil_any w _ _ a n c n' c' Tryz.underlying126
  go_enter Tryz.func405, Tryz.ntmps405
  go_upto_if 26 with fail
  go_cut [5, 6] (fun t u wx => t = .int .i64 (rep f s).length ∧ u = .bool (hit f s) ∧ Below w.heap.size w wx)
  case first =>
    by_cases h8 : kb.length * 8 ≤ s.length
    · have h8' : (kb.length : Int) * 8 ≤ s.length := by omega
      rw [decide_eq_true h8']
      go_wp2_with fail
      go_loopw [5, 6, 32] (fun t u i wr => ∃ (j S : Nat) (h : Bool), i = .int .i64 j ∧ j ≤ kb.length ∧ t = .int .i64 S ∧ u = .bool h ∧ Hid (S = (rep (cutF f (kb.take j)) s).length ∧ h = hit (cutF f (kb.take j)) s) ∧ S ≤ 100000000000 ∧ Below w.heap.size w wr) (fun _ _ i _ => kb.length - (intOf i).toNat)
      case atStart => exact ⟨0, s.length, false, rfl, by omega, rfl, rfl, Lib.hid ⟨by rw [List.take_zero, cutF_nil, rep_nil], by simp [cutF_nil, hit]⟩, by omega, Below.refl _ _⟩
      case round =>
        obtain ⟨j, S, h, rfl, hj, rfl, rfl, hS, hSb, B⟩ := hrel
        by_cases hlt : j < kb.length
        · obtain ⟨b, rfl, hblt, hcell⟩ := Hvc.out (by omega)
          have ck := hcell j (by simp; omega)
          rw [singles_at kb j hlt] at ck
          have ck := (B.cell (p := ⟨b, j, none⟩) hblt).trans ck
          clear hcell
          have hmem : kb[j] ∈ kb := List.getElem_mem _
          obtain ⟨n, hfn, hn1⟩ := Ks.out kb[j] hmem
          have hnot : kb[j] ∉ kb.take j := by
            intro hm
            have h1 := Kn.out
            rw [← List.take_append_drop j kb, List.nodup_append] at h1
            exact h1.2.2 kb[j] hm kb[j] (by have h2 := List.mem_cons_self (a := kb[j]) (l := kb.drop (j + 1)); rwa [← List.drop_eq_getElem_cons hlt] at h2) rfl
          have hst := cut_step f (kb.take j) kb[j] n hnot hfn hn1 s
          have htk : kb.take j ++ [kb[j]] = kb.take (j + 1) := (List.take_succ_eq_append_getElem hlt).symm
          rw [htk] at hst
          have Hst := Lib.hid hst; clear hst htk hnot hmem
          have hbd' := rep_bd (cutF f (kb.take (j + 1))) (fun c m hc => Kbd.out c m (by unfold cutF at hc; split at hc; exact hc; cases hc)) s
          have hn100 := Kbd.out _ _ hfn
          have hcl := count_le_len s kb[j]
          have hcellk : ∃ g cap, cells[kb[j].toNat]? = some (.slice (some ⟨g, 0, none⟩) n.length cap) := by
            rcases Htab.out kb[j] with ⟨h0, _⟩ | ⟨m, g, cap, h1, h2, _⟩
            · rw [hfn] at h0; cases h0
            · rw [hfn] at h1; injection h1 with h1; subst h1; exact ⟨g, cap, h2⟩
          obtain ⟨g, gcap, hg⟩ := hcellk
          have cg := (B.cell (p := ⟨R, kb[j].toNat, none⟩) hRlt).trans ((hb.cell _).trans hg)
          have hk256 : (kb[j].toNat : Int) < 256 := by have := kb[j].toNat_lt; omega
          clear hg hfn
          have hCnt := fun W => countOne s kb[j] W
          generalize kb[j] = k at ck Hst hcl cg hk256 hCnt
          generalize n.length = N at hn1 hn100 Hst cg
          generalize s.count k = cnt at Hst hcl hCnt
          by_cases h0 : cnt = 0
          · subst h0
            have HS := Lib.hid (show S = (rep (cutF f (kb.take (j + 1))) s).length ∧ h = hit (cutF f (kb.take (j + 1))) s from by
              rw [Hst.out.1, Hst.out.2, hS.out.1, hS.out.2]; simp)
            clear Hst
            go_wp2_with fail
            refine (hCnt _).mono ?_
            rintro e w' ⟨rfl, rfl⟩
            go_wp2_with fail
            go_roundw
            case rel => exact ⟨j + 1, S, h, by go_num, by omega, rfl, rfl, HS, hSb, B⟩
            case measure => simp [intOf]; omega
          · have h0' : ((cnt : Int) != 0) = true := by rw [bne_iff_ne]; omega
            have hcast : (cnt : Int) * ((N : Int) - 1) = ((cnt * (N - 1) : Nat) : Int) := by rw [Int.natCast_mul, Int.natCast_sub hn1]; rfl
            have hS2 := Hst.out.1
            rw [← hS.out.1] at hS2
            have HS := Lib.hid (show S + cnt * (N - 1) = (rep (cutF f (kb.take (j + 1))) s).length ∧ true = hit (cutF f (kb.take (j + 1))) s from ⟨hS2.symm, by rw [Hst.out.2]; simp [h0]⟩)
            have hSb2 : S + cnt * (N - 1) ≤ 100000000000 := by rw [← hS2]; omega
            have z1 : IntKind.i64.wrap ((N : Int) - 1) = (N : Int) - 1 := IntWalk.i64_in _ (by omega)
            have z2 : IntKind.i64.wrap ((cnt : Int) * ((N : Int) - 1)) = (cnt : Int) * ((N : Int) - 1) := IntWalk.i64_in _ (by rw [hcast]; omega)
            have z3 : IntKind.i64.wrap ((S : Int) + (cnt : Int) * ((N : Int) - 1)) = (S : Int) + (cnt : Int) * ((N : Int) - 1) := IntWalk.i64_in _ (by rw [hcast]; omega)
            have HV := Lib.hid (show (S : Int) + (cnt : Int) * ((N : Int) - 1) = ((S + cnt * (N - 1) : Nat) : Int) from by rw [hcast, Int.natCast_add])
            clear Hst hS2 hcast h0 hbd'
            go_wp2_with fail
            refine (hCnt _).mono ?_
            rintro e w' ⟨rfl, rfl⟩
            go_wp2_with fail
            go_quiet (fail)
            go_wp2_with fail
            rw [HV.out]
            go_roundw
            case rel => exact ⟨j + 1, S + cnt * (N - 1), true, by go_num, by omega, rfl, rfl, HS, hSb2, Go.below_drewN B _⟩
            case measure => simp [intOf]; omega
        · obtain rfl : j = kb.length := by omega
          have hall := hS.out
          rw [List.take_length, cutF_all f kb Ka.out] at hall
          have Hall := Lib.hid hall; clear hall
          go_wp2_with fail
          go_meet
          exact ⟨by rw [Hall.out.1], by rw [Hall.out.2], B⟩
    · have h8' : ¬ (kb.length : Int) * 8 ≤ s.length := by omega
      rw [decide_eq_false h8']
      go_wp2_with fail
      go_loop [5, 6, 10] (fun t u i => ∃ (j S : Nat) (h : Bool), i = .int .i64 j ∧ j ≤ s.length ∧ t = .int .i64 S ∧ u = .bool h ∧ Hid (S = (rep f (s.take j)).length + (s.length - j) ∧ h = hit f (s.take j)) ∧ S ≤ 200000000000) (fun _ _ i => s.length - (intOf i).toNat)
      case atStart => exact ⟨0, s.length, false, rfl, by omega, rfl, rfl, Lib.hid ⟨by simp [rep], by simp [hit]⟩, by omega⟩
      case round =>
        obtain ⟨j, S, h, rfl, hj, rfl, rfl, hS, hSb⟩ := hrel
        by_cases hlt : j < s.length
        · have Hr := Lib.hid (rep_take f s j hlt)
          have Hh := Lib.hid (hit_take f s j hlt)
          have hbd' := rep_bd f Kbd.out (s.take (j + 1))
          have hk256 : (s[j].toNat : Int) < 256 := by have := s[j].toNat_lt; omega
          rcases Htab.out s[j] with ⟨h0, h1⟩ | ⟨m, g, cap, h1, h2, h3, h4, h5⟩
          · have cg := (hb.cell _).trans h1
            have HS := Lib.hid (show S = (rep f (s.take (j + 1))).length + (s.length - (j + 1)) ∧ h = hit f (s.take (j + 1)) from by
              rw [Hr.out, Hh.out, h0, hS.out.1, hS.out.2]; simp; omega)
            clear Hr Hh h0 h1
            go_wp2_with fail
            go_round
            case rel => exact ⟨j + 1, S, h, by go_num, by omega, rfl, rfl, HS, hSb⟩
            case measure => simp [intOf]; omega
          · have cg := (hb.cell _).trans h2
            have hm100 := Kbd.out _ _ h1
            have HS := Lib.hid (show S + (m.length - 1) = (rep f (s.take (j + 1))).length + (s.length - (j + 1)) ∧ true = hit f (s.take (j + 1)) from by
              rw [Hr.out, Hh.out, h1, hS.out.1]; simp; omega)
            have hSb2 : S + (m.length - 1) ≤ 200000000000 := by
              rw [HS.out.1]
              have : (s.take (j + 1)).length ≤ s.length := List.length_take_le' _ _
              omega
            clear Hr Hh h1 h2 h3 h5
            go_wp2_with fail
            go_round
            case rel => exact ⟨j + 1, S + (m.length - 1), true, by go_num, by omega, by go_num, rfl, HS, hSb2⟩
            case measure => simp [intOf]; omega
        · obtain rfl : j = s.length := by omega
          have hall := hS.out
          rw [List.take_length, Nat.sub_self, Nat.add_zero] at hall
          have Hall := Lib.hid hall; clear hall
          go_wp2_with fail
          go_meet
          exact ⟨by rw [Hall.out.1], by rw [Hall.out.2], Below.refl _ _⟩
  case rest =>
    obtain ⟨rfl, rfl, B⟩ := hcut
    obtain ⟨w1, rfl⟩ : ∃ x : World, x = wc := ⟨_, rfl⟩
    have HSame := Lib.hid (rep_same f s)
    generalize hit f s = h at HSame ⊢
    cases h with
    | false =>
      have HS := Lib.hid (HSame.out rfl)
      rw [HS.out]
      go_wp2_with fail
      go_ret
      exact ⟨by rw [HS.out]; rfl, B⟩
    | true =>
      clear HSame
      have HL := Lib.hid (show (rep f s).length = (rep f s).length from rfl)
      generalize hL : (rep f s).length = L at hLb
      have HLen := Lib.hid hL; clear HL
      clear hL
      have hLb' : L ≤ 100000000000 := by omega
      have hmk := fun W => run_make_row' (P := Tryz.prog) 126 5 (.int .u8 0) 1 Tryz.underlying126 infoByte rfl .i64 .i64 L (by omega) (by omega) W
      have hmc := Lib.hid (size_madeCells #[Value.int .u8 0] L)
      generalize madeCells #[Value.int .u8 0] L = C0 at hmk hmc
      have hbk0 := Blk.new w1 C0 5
      have HB0 := Lib.hid hbk0; clear hbk0
      go_wp2_with fail
      go_loopw [13, 14] (fun t i wr => ∃ (j o : Nat) (cur : List Value), i = .int .i64 j ∧ j ≤ s.length ∧ t = .int .i64 o ∧ Hid (o = (rep f (s.take j)).length) ∧ o ≤ L ∧ Blk wr w1.heap.size cur.toArray 5 ∧ Hid (cur.length = L) ∧ Hid (cur.take o = Lib.byteCells (rep f (s.take j))) ∧ Below (w1.heap.size) w1 wr) (fun _ i _ => s.length - (intOf i).toNat)
      case atStart => exact ⟨0, 0, C0.toList, rfl, by omega, rfl, Lib.hid rfl, by omega, HB0.out, Lib.hid (by simpa using hmc.out), Lib.hid rfl, (Below.refl _ _).alloc (Nat.le_refl _) _⟩
      case round =>
        obtain ⟨j, o, cur, rfl, hj, rfl, ho, hoL, hG, hcl, hct, B1⟩ := hrel
        have hGlt := hG.lt
        by_cases hlt : j < s.length
        · have Hr := Lib.hid (rep_take f s j hlt)
          have hk256 : (s[j].toNat : Int) < 256 := by have := s[j].toNat_lt; omega
          have hall : (rep f s).length = (rep f (s.take (j + 1))).length + (rep f (s.drop (j + 1))).length := by
            conv => lhs; rw [← List.take_append_drop (j + 1) s]
            unfold rep
            rw [List.flatMap_append, List.length_append]
          rw [HLen.out] at hall
          rcases Htab.out s[j] with ⟨h0, h1⟩ | ⟨m, g, cap, h1, h2, h3, h4, h5⟩
          · have cg := (B1.cell (p := ⟨R, s[j].toNat, none⟩) (Nat.lt_of_lt_of_le hRlt B.size)).trans ((B.cell (p := ⟨R, s[j].toNat, none⟩) hRlt).trans ((hb.cell _).trans h1))
            have hr2 : rep f (s.take (j + 1)) = rep f (s.take j) ++ [s[j]] := by rw [Hr.out, h0]; rfl
            have hol : o + 1 = (rep f (s.take (j + 1))).length := by rw [hr2, ho.out]; simp
            have Hr2 := Lib.hid hr2; clear hr2
            have hoL2 : o < L := by omega
            have Hol := Lib.hid hol; clear hol hall Hr h0 h1
            have co1 := hG.cell o
            have cfr := hG.free o
            have hoc : cur.toArray[o]? = some (cur[o]'(by rw [hcl.out]; exact hoL2)) := by simp
            have co := co1.trans hoc
            clear hoc co1
            generalize (cur[o]'(by rw [hcl.out]; exact hoL2)) = old at co
            go_wp2_with fail
            have hG2 := hG.set o (.int .u8 (s[j].toNat : Int))
            go_roundw
            case rel => exact ⟨j + 1, o + 1, cur.set o (.int .u8 (s[j].toNat : Int)), by go_num, by omega, by go_num, Lib.hid Hol.out, by omega, by simpa using hG2, Lib.hid (by simpa using hcl.out), Lib.hid (by
              rw [Hr2.out]
              rw [List.take_succ_eq_append_getElem (by simp; rw [hcl.out]; exact hoL2), List.take_set_of_le (Nat.le_refl _), hct.out]
              simp [Lib.byteCells]), B1.setCell (Nat.le_refl _) _⟩
            case measure => simp [intOf]; omega
          · have cg := (B1.cell (p := ⟨R, s[j].toNat, none⟩) (Nat.lt_of_lt_of_le hRlt B.size)).trans ((B.cell (p := ⟨R, s[j].toNat, none⟩) hRlt).trans ((hb.cell _).trans h2))
            have hm100 := Kbd.out _ _ h1
            have hrw := (h5.below B h5.lt).below B1 (Nat.lt_of_lt_of_le h5.lt B.size)
            have Hrw := Lib.hid hrw; clear hrw
            have hr2 : rep f (s.take (j + 1)) = rep f (s.take j) ++ m := by rw [Hr.out, h1]; rfl
            have hol : o + m.length = (rep f (s.take (j + 1))).length := by rw [hr2, ho.out]; simp
            have Hr2 := Lib.hid hr2; clear hr2
            have hoL2 : o + m.length ≤ L := by omega
            have Hol := Lib.hid hol; clear hol hall Hr h1 h2 h5
            have z1 : IntKind.i64.wrap ((o : Int) + (m.length : Int)) = (o : Int) + (m.length : Int) := IntWalk.i64_in _ (by omega)
            have i1 : (o : Int) ≤ L := by omega
            have i2 : (0 : Int) ≤ o := by omega
            have i3 : o < L := by omega
            have hGh : wr.heap[w1.heap.size]? = some (.cells cur.toArray 5 (0, 0)) := hG
            have HGh := Lib.hid hGh; clear hGh
            have hsrc : ∀ j v, (Lib.byteCells m)[j]? = some v → wr.cell? ((⟨g, 0, none⟩ : Addr).add j) = some v := fun j v hj => by
              rw [addr_add0]
              have hjl : j < m.length := by
                have := (List.getElem?_eq_some_iff.1 hj).1
                simpa [Lib.byteCells] using this
              rw [Hrw.out.cell hjl, ← hj]
              simp [Lib.byteCells, hjl]
            have Hsrc := Lib.hid hsrc; clear hsrc
            have hbl := Lib.byteCells_length m
            have q1 := Lib.hid (show (Lib.byteCells m).length = Nat.min m.length (L - o) from by rw [hbl]; exact (Nat.min_eq_left (by omega)).symm)
            have q2 := Lib.hid (show o + (Lib.byteCells m).length ≤ cur.length from by rw [hbl, hcl.out]; exact hoL2)
            have q3 := Lib.hid (show ∀ v ∈ Lib.byteCells m, v.oneCell' = true from by intro v hv; simp [Lib.byteCells] at hv; obtain ⟨x, _, rfl⟩ := hv; rfl)
            have Hbl := Lib.hid hbl; clear hbl
            have hsz1 : (Tryz.prog.info? 5).map (·.size) = some 1 := by kernel_rfl
            have Hsz1 := Lib.hid hsz1; clear hsz1
            have B1d := B1.drew
            have hLo : ¬ L = o := by omega
            go_upto_region 28 with fail
            go_region_law ((refine step_copy_splice rfl _ _ 126 126 rfl 5 Tryz.underlying126 Hsz1.out (some ⟨w1.heap.size, o, none⟩) (some ⟨g, 0, none⟩) (L - o) (L - o) m.length cap rfl rfl w1.heap.size o cur 5 HGh.out (Lib.byteCells m) q1.out (fun _ => ⟨rfl, _, rfl, Hsrc.out⟩) q2.out q3.out w1.heap.size w1 B1d (Nat.le_refl _) ?_; intro w4 hG4 hB4; rw [Hbl.out]))
            all_goals
              go_wp2_with fail
              have hG5 : w4.heap[w1.heap.size]? = some (.cells (splice cur o (Lib.byteCells m)).toArray 5 (0, 0)) := hG4
              go_roundw
              case rel => exact ⟨j + 1, o + m.length, splice cur o (Lib.byteCells m), by go_num, by omega, by go_num, Lib.hid Hol.out, hoL2, hG5, Lib.hid (by rw [length_splice _ _ _ q2.out]; exact hcl.out), Lib.hid (by
                rw [Hr2.out]
                have e : (cur.take o).length = o := by rw [List.length_take, hcl.out]; omega
                unfold splice
                rw [← List.append_assoc, ← Hbl.out, List.take_append_of_le_length (by simp only [List.length_append]; omega), List.take_of_length_le (by simp only [List.length_append]; omega), hct.out]
                simp [Lib.byteCells]), hB4⟩
              case measure => simp [intOf]; omega
        · obtain rfl : j = s.length := by omega
          have ho1 := ho.out
          have hct1 := hct.out
          rw [List.take_length] at ho1 hct1
          rw [HLen.out] at ho1
          have Hct1 := Lib.hid hct1; clear hct1
          obtain rfl : o = L := ho1
          have hcv := run_convert_bytes_back (P := Tryz.prog) wr 126 9 5 ⟨w1.heap.size, 0, none⟩ o (rep f s) Tryz.underlying126 Tryz.underlying5 Tryz.underlying9
            (fun j hj => by
              have hc := hG.cell j
              rw [addr_add0, hc]
              have h1 : (cur.take o)[j]? = (Lib.byteCells (rep f s))[j]? := by rw [Hct1.out]
              rw [List.getElem?_take, if_pos (by have := HLen.out; omega)] at h1
              rw [List.getElem?_toArray, h1]
              simp [Lib.byteCells, hj])
          rw [HLen.out] at hcv
          go_wp2_with fail
          go_ret
          exact ⟨rfl, B.trans (B1.mono B.size)⟩
theorem RdPr.set {w : World} {v : Value} {prs : List Pr} (h : RdPr w v prs) {a : Addr} (hne : ∀ g, v.ownBlock = some g → g ≠ a.block) (x : Value) : RdPr (w.setCell a x) v prs := by
  obtain ⟨b, cap, hv, hlt, hc⟩ := h
  have hb : b ≠ a.block := hne b (by rw [hv]; rfl)
  refine ⟨b, cap, hv, by rw [World.size_setCell]; exact hlt, fun k hk => ?_⟩
  have e : ∀ j, (w.setCell a x).cell? ⟨b, j, none⟩ = w.cell? ⟨b, j, none⟩ := fun j => World.cell?_setCell_other w a ⟨b, j, none⟩ x (fun h => hb (by rw [h]))
  rw [e, e]; exact hc k hk
def Built (b B : Nat) (w0 : World) (prs : List Pr) (w : World) : Prop :=
  ∃ R, w.cell? ⟨b, 3, none⟩ = some (.iface 378 (.pointer (some ⟨R, 0, none⟩))) ∧ B ≤ R ∧ R ≠ b ∧ RepAt w R B (look prs) ((prs.map fun p => [p.1]).reverse) ∧ Below b w0 w
theorem RepAt.keep {w w' : World} {R B : Nat} {f : UInt8 → Option Bs} {ks : List Bs} (h : RepAt w R B f ks) (hR : w'.heap[R]? = w.heap[R]?) (hk : Keep w w') (ho : ∀ v, OwnT w B v ks → OwnT w' B v ks) : RepAt w' R B f ks := by
  obtain ⟨cells, v, h1, h2, h3, h4, h5⟩ := h
  exact ⟨cells, v, hR.trans h1, h2, h3.keep hk, h4, ho v h5⟩
theorem RepAt.set {w : World} {R B : Nat} {f : UInt8 → Option Bs} {ks : List Bs} (h : RepAt w R B f ks) {b : Nat} {c : Array Value} (hb : Blk w b c 327) (hne : R ≠ b) (k : Nat) (x : Value) : RepAt (w.setCell ⟨b, k, none⟩ x) R B f ks :=
  h.keep (Below.heap_setCell w ⟨b, k, none⟩ x R hne) (keep_set hb k x) (fun v hv => rowKeep hv fun g hg => Below.heap_setCell w ⟨b, k, none⟩ x g (rowNe hv hb (by decide) g hg))
set_option maxHeartbeats 4000000 in
set_option maxRecDepth 100000 in
theorem buildOnce_any (b : Nat) (v : Value) (prs : List Pr) (ok : PrsOk prs) (w : World) (hb : Blk w b #[.int .u32 0, .int .i32 1, .int .u32 0, .nilIface, v] 327) (hr : RdPr w v prs) :
    Calls Tryz.prog 266 #[.pointer (some ⟨b, 0, none⟩)] w fun e w' => e = .returned (.tuple #[]) ∧ OnceMid b (Built b w.heap.size w prs) w' := by
  have hblt := hb.lt
  have hC := build_any b _ _ _ _ v prs ok w hb hr
  clear hr
  go_enter Tryz.func266, Tryz.ntmps266
  go_wp2_with fail
  refine hC.mono ?_
  rintro e w1 ⟨R, rfl, hR, hrep, hb1⟩
  have hk := hb.next hb1 hblt
  have k3 := hk.cell 3
  have f3 := hk.free 3
  have hk2 := hk.set 3 (.iface 378 (.pointer (some ⟨R, 0, none⟩)))
  have k4 := hk2.cell 4
  have f4 := hk2.free 4
  have hk3 := hk2.set 4 (.slice none 0 0)
  have hne : R ≠ b := by omega
  have hrep2 := (hrep.set hk hne 3 (.iface 378 (.pointer (some ⟨R, 0, none⟩)))).set hk2 hne 4 (.slice none 0 0)
  have hB2 := ((hb1.mono (Nat.le_of_lt hblt)).setCell (p := ⟨b, 3, none⟩) (Nat.le_refl _) (.iface 378 (.pointer (some ⟨R, 0, none⟩)))).setCell (p := ⟨b, 4, none⟩) (Nat.le_refl _) (.slice none 0 0)
  go_wp2_with fail
  go_end0
  exact ⟨rfl, _, _, hk3, R, hk3.cell 3, hR, hne, hrep2, hB2⟩
theorem look_ok {prs : List Pr} (ok : PrsOk prs) : TabOk (look prs) ((prs.map (·.1)).reverse) := by
  have hmem : ∀ c n, look prs c = some n → ∃ p ∈ prs, p.1 = c ∧ p.2 = n := fun c n h => by
    unfold look at h
    rw [Option.map_eq_some_iff] at h
    obtain ⟨p, hp, h2⟩ := h
    have h3 := List.find?_some hp
    exact ⟨p, List.mem_of_find?_eq_some hp, by simpa using h3, h2⟩
  refine ⟨(List.pairwise_reverse.2 (ok.nodup.imp fun h => h.symm)), by simp; exact ok.few, fun k hk => ?_, fun c h => ?_, fun c n h => ?_⟩
  · rw [List.mem_reverse, List.mem_map] at hk
    obtain ⟨p, hp, rfl⟩ := hk
    cases hl : look prs p.1 with
    | none =>
      unfold look at hl
      rw [Option.map_eq_none_iff, List.find?_eq_none] at hl
      exact absurd (by simp) (hl p hp)
    | some n =>
      obtain ⟨q, hq, _, h2⟩ := hmem _ _ hl
      exact ⟨n, rfl, h2 ▸ (ok.fit q hq).1⟩
  · cases hl : look prs c with
    | none => rw [hl] at h; cases h
    | some n =>
      obtain ⟨q, hq, h1, _⟩ := hmem _ _ hl
      rw [List.mem_reverse, List.mem_map]
      exact ⟨q, hq, h1⟩
  · obtain ⟨q, hq, _, h2⟩ := hmem _ _ h
    exact h2 ▸ (ok.fit q hq).2
set_option maxHeartbeats 4000000 in
set_option maxRecDepth 100000 in
theorem replace_any (b : Nat) (v : Value) (prs : List Pr) (ok : PrsOk prs) (s : Bs) (w : World) (hb : Blk w b #[.int .u32 0, .int .i32 0, .int .u32 0, .nilIface, v] 327) (hr : RdPr w v prs) (hne : ∀ g, v.ownBlock = some g → g ≠ b) (hs : s.length ≤ 1000000000) :
    Calls Tryz.prog 190 #[.pointer (some ⟨b, 0, none⟩), .string ⟨s.toArray⟩] w fun e w' => e = .returned (.string ⟨(rep (look prs) s).toArray⟩) ∧ Below b w w' := by
  have hb1 : Blk (w.setCell ⟨b, 1, none⟩ (.int .i32 1)) b #[.int .u32 0, .int .i32 1, .int .u32 0, .nilIface, v] 327 := hb.set 1 (.int .i32 1)
  have hO := buildOnce_any b v prs ok (w.setCell ⟨b, 1, none⟩ (.int .i32 1)) hb1 (hr.set hne _)
  have hD := do_first b _ _ _ w hb hO
  have hlt := hb.lt
  have hok := look_ok ok
  have Hok := Lib.hid hok; clear hok
  clear hO hb1 hr hne
  have hmf : ∀ (fn : Fn) (first cap : Array Value) (w : World), (Instr.makeFunc fn first cap).run Tryz.prog w = .ok (.func fn first cap) w := fun _ _ _ _ => rfl
  go_enter Tryz.func190, Tryz.ntmps190
  go_wp2_with fail
  refine hD.mono ?_
  rintro e w' ⟨w1, ⟨r1, v1, hk, R, h3, hR, hRb, hrep, hB⟩, rfl, rfl⟩
  have hB1 : Below b w w1.drew := (((Below.refl b w).setCell (p := ⟨b, 1, none⟩) (Nat.le_refl _) (.int .i32 1)).trans hB).drew
  have hB4 := (hB1.setCell (p := ⟨b, 0, none⟩) (Nat.le_refl _) (.int .u32 1)).setCell (p := ⟨b, 1, none⟩) (Nat.le_refl _) (.int .i32 0)
  have hkd := hk.drew
  have hk4 := (hkd.set 0 (.int .u32 1)).set 1 (.int .i32 0)
  have h3d : w1.drew.cell? ⟨b, 3, none⟩ = some (.iface 378 (.pointer (some ⟨R, 0, none⟩))) := h3
  have hr1 : r1 = .iface 378 (.pointer (some ⟨R, 0, none⟩)) := by
    have := hkd.cell 3
    rw [h3d] at this; simpa using this.symm
  have k34 := hk4.cell 3
  rw [hr1] at k34
  have hrd : RepAt w1.drew R _ (look prs) ((prs.map fun p => [p.1]).reverse) := hrep
  have hrep4 := (hrd.set hkd hRb 0 (.int .u32 1)).set (hkd.set 0 (.int .u32 1)) hRb 1 (.int .i32 0)
  have e : (prs.map fun p => [p.1]).reverse = ((prs.map (·.1)).reverse).map fun k => [k] := by rw [List.map_reverse, List.map_map]; rfl
  rw [e] at hrep4
  have HR := Lib.hid hrep4
  generalize (w1.drew.setCell ⟨b, 0, none⟩ (.int .u32 1)).setCell ⟨b, 1, none⟩ (.int .i32 0) = W4 at k34 HR hB4 ⊢
  clear e hrep4 hrd hr1 h3d hk4 hkd hB1 hB hrep h3 hk hD hR hRb
  go_wp2_with fail
  refine (bytesReplace_any R _ (look prs) _ Hok.out s W4 HR.out hs).mono ?_
  rintro e w5 ⟨rfl, hb5⟩
  go_wp2_with fail
  go_ret
  exact ⟨rfl, hB4.trans (hb5.mono (by have := hB4.size; omega))⟩
theorem PrsOk.of {prs : List Pr} (h : (decide (2 ≤ prs.length) && decide (prs.length ≤ 100) && decide ((prs.map (·.1)).Nodup) && prs.all (fun p => decide (1 ≤ p.2.length) && decide (p.2.length ≤ 100)) && prs.any (fun p => decide (p.2.length ≠ 1))) = true) : PrsOk prs := by
  simp only [Bool.and_eq_true, decide_eq_true_eq, List.all_eq_true, List.any_eq_true] at h
  obtain ⟨⟨⟨⟨h1, h2⟩, h3⟩, h4⟩, h5⟩ := h
  exact ⟨h1, h2, h3, h4, h5⟩
end Go.Proofs.YtignjjnflcpiiaaGreatDoor
