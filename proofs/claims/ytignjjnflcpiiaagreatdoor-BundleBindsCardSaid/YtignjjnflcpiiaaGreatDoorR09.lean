/- kind.Write writes a value with parameters. Condition: at most 10^6 parameters, texts of at most 10^6 bytes; the library's variable MaxLen holds a number; What the variables of the library and of the program hold that this seat's walks read. No condition; errors.As at a target that is an api.Errno: a. -/
import Derived.Deep.RegionHeld3
import Derived.LaidEql
import Derived.RowKitTokens
import Derived.Stop.Asserts
import Derived.Test.YtignjjnflcpiiaaGreatDoorR08
namespace Go.Proofs.YtignjjnflcpiiaaGreatDoor
open Go Go.RowKit
def badV (r : Nat) : Bool := decide (r < 32) || decide (126 < r)
theorem badV_hi (r : Nat) (h : 128 ≤ r) : badV r = true := by unfold badV; rw [decide_eq_true (show 126 < r by omega)]; simp
theorem badV_ok (s : Bs) : (s.any fun c => badV c.toNat) = s.any fun c => !okQ c := by
  congr 1
  funext c
  rw [okQ_int]
  unfold badV
  by_cases h1 : c.toNat < 32
  · rw [decide_eq_true h1, decide_eq_false (show ¬ (32 : Int) ≤ (c.toNat : Int) by omega)]; rfl
  · by_cases h2 : 126 < c.toNat
    · rw [decide_eq_true h2, decide_eq_false (show ¬ (c.toNat : Int) ≤ 126 by omega)]; simp
    · rw [decide_eq_false h1, decide_eq_false h2, decide_eq_true (show (32 : Int) ≤ (c.toNat : Int) by omega), decide_eq_true (show (c.toNat : Int) ≤ 126 by omega)]; rfl
set_option maxHeartbeats 2000000 in
set_option maxRecDepth 100000 in
theorem write1_any (r : Nat) (hr : r ≤ 1114111) (w : World) :
    Calls Tryz.prog 191 #[.int .i32 (r : Int)] w fun e w' => e = .returned (.bool (badV r)) ∧ w = w' := by
  by_cases h1 : r < 32
  · have HB := Lib.hid (show badV r = true from by unfold badV; rw [decide_eq_true h1]; rfl)
    go_enter Tryz.func191, Tryz.ntmps191
    go_wp2_with fail
    go_ret
    exact ⟨ret_bool HB.out.symm, rfl⟩
  · by_cases h2 : 126 < r
    · have HB := Lib.hid (show badV r = true from by unfold badV; rw [decide_eq_true h2]; simp)
      go_enter Tryz.func191, Tryz.ntmps191
      go_wp2_with fail
      go_ret
      exact ⟨ret_bool (by rw [HB.out, decide_eq_true (show (126 : Int) < r by omega)]; simp), rfl⟩
    · have HB := Lib.hid (show badV r = false from by unfold badV; rw [decide_eq_false h1, decide_eq_false h2]; rfl)
      have g1 : ¬ (r : Int) < 32 := by omega
      have g2 : ¬ (126 : Int) < r := by omega
      go_enter Tryz.func191, Tryz.ntmps191
      go_wp2_with fail
      go_ret
      exact ⟨ret_bool HB.out.symm, rfl⟩
theorem write1_grows (w : World) : PredGrows Tryz.prog 191 #[] badV w := fun W x hx _ =>
  (write1_any x hx W).mono fun _ _ ⟨h1, h2⟩ => ⟨h1, h2 ▸ Below.refl _ _⟩
def prsK : List Pr := [(92, [92, 92]), (34, [92, 34])]
theorem prsK_ok : PrsOk prsK := PrsOk.of (by decide)
theorem prsK_esc (s : Bs) : rep (look prsK) s = s.flatMap escV := by
  unfold rep
  congr 1
  funext c
  unfold look prsK escV
  by_cases h1 : c = 92
  · subst h1; rfl
  · by_cases h2 : c = 34
    · subst h2; rfl
    · have e1 : ((92 : UInt8) == c) = false := by rw [beq_eq_false_iff_ne]; exact fun h => h1 h.symm
      have e2 : ((34 : UInt8) == c) = false := by rw [beq_eq_false_iff_ne]; exact fun h => h2 h.symm
      simp [e1, e2, h1, h2]
theorem prsK_cells (w : World) (t : TypeId) : ∀ j u, (prsK.flatMap prC)[j]? = some u → (w.alloc (.cells #[.string ⟨#[92]⟩, .string ⟨#[92, 92]⟩, .string ⟨#[34]⟩, .string ⟨#[92, 34]⟩] t)).cell? ((⟨w.heap.size, 0, none⟩ : Addr).add j) = some u := fun j u hj => by
  rw [addr_add0, (Blk.new w _ t).cell]
  match j, hj with
  | 0, hj => exact hj
  | 1, hj => exact hj
  | 2, hj => exact hj
  | 3, hj => exact hj
  | j + 4, hj => simp [prsK, prC] at hj
theorem paramW_none {p : Fld} (h : (tokB p.1 && (lowS p.1 == p.1) && !(p.2.any fun c => !okQ c)) = false) : paramW p = none := by unfold paramW; rw [h]; rfl
theorem paramW_some {p : Fld} (h : (tokB p.1 && (lowS p.1 == p.1) && !(p.2.any fun c => !okQ c)) = true) : paramW p = some (59 :: 32 :: (p.1 ++ 61 :: quoV p.2)) := by unfold paramW; rw [h]; rfl
theorem escV_len (s : Bs) : (s.flatMap escV).length ≤ 2 * s.length := by
  induction s with
  | nil => simp
  | cons c s ih =>
    rw [List.flatMap_cons, List.length_append, List.length_cons]
    have : (escV c).length ≤ 2 := by unfold escV; split <;> (try split) <;> simp
    omega
theorem quoV_len (s : Bs) : (quoV s).length ≤ 2 * s.length + 2 := by
  unfold quoV
  split
  · omega
  · have := escV_len s; simp only [List.length_cons, List.length_append, List.length_nil]; omega
set_option maxHeartbeats 8000000 in
set_option maxRecDepth 100000 in
theorem writeKind_any (m : Bs) (v : Value) (l : List Fld) (w : World) (hr : RdF w v l) (hm : m.length ≤ 1000000) (hlen : l.length ≤ 1000000) (hok : ∀ f ∈ l, f.1.length ≤ 1000000 ∧ f.2.length ≤ 1000000) (hg : Ground w) :
    Calls Tryz.prog 105 #[.string ⟨m.toArray⟩, v] w fun e w' => TextOr 1 (writeK m l) e w' ∧ Below w.heap.size w w' := by
  have Hok := Lib.hid hok; clear hok
  obtain ⟨a, cap, rfl, hc⟩ := hr.open
  have HC := Lib.hid hc; clear hc hr
  have HW := Lib.hid (show writeK m l = if tokB (Lib.cut m [47]).1 && (!(Lib.cut m [47]).2.2 || tokB (Lib.cut m [47]).2.1) && (lowS m == m) then (paramsW l).map (m ++ ·) else none from rfl)
  have hdl := cut_le m [47]
  go_enter Tryz.func105, Tryz.ntmps105
  go_wp2_with fail
  refine (cutS m [47] _ (by omega) hg).mono ?_
  rintro e w1 ⟨rfl, B⟩
  generalize Lib.cut m [47] = d at hdl HW ⊢
  obtain ⟨d1, d2, dok⟩ := d
  simp only at hdl HW ⊢
  go_upto_region 2 with fail
  go_cut [35] (fun t wx => t = .bool (!(tokB d1 && (!dok || tokB d2) && (lowS m == m))) ∧ Below w.heap.size w wx)
  case first =>
    go_wp2_with fail
    refine (token_any d1 _ (by omega)).mono ?_
    rintro e w5 ⟨rfl, hb⟩
    have B2 := B.trans (hb.mono B.size)
    clear hb B
    generalize hb1 : tokB d1 = b1
    have Hb1 := Lib.hid hb1; clear hb1
    cases b1 with
    | false =>
      go_wp2_with fail
      go_meet
      exact ⟨by rw [Hb1.out]; rfl, B2⟩
    | true =>
      cases dok with
      | false =>
        go_wp2_with fail
        refine (small_any m _ (by omega)).mono ?_
        rintro e w6 ⟨rfl, hb⟩
        have B3 := B2.trans (hb.mono B2.size)
        clear hb B2
        by_cases hq : lowS m = m
        · have q1 : (lowS m != m) = false := by simp [hq]
          have Hq := Lib.hid (show (lowS m == m) = true from by simp [hq])
          clear hq
          go_wp2_with fail
          go_meet
          exact ⟨by rw [Hb1.out, Hq.out]; rfl, B3⟩
        · have q1 : (lowS m != m) = true := by simp [hq]
          have Hq := Lib.hid (show (lowS m == m) = false from by simp [hq])
          clear hq
          go_wp2_with fail
          go_meet
          exact ⟨by rw [Hb1.out, Hq.out]; rfl, B3⟩
      | true =>
        go_wp2_with fail
        refine (token_any d2 _ (by omega)).mono ?_
        rintro e w6 ⟨rfl, hb⟩
        have B3 := B2.trans (hb.mono B2.size)
        clear hb B2
        generalize hb2 : tokB d2 = b2
        have Hb2 := Lib.hid hb2; clear hb2
        cases b2 with
        | false =>
          go_wp2_with fail
          go_meet
          exact ⟨by rw [Hb1.out, Hb2.out]; rfl, B3⟩
        | true =>
          go_wp2_with fail
          refine (small_any m _ (by omega)).mono ?_
          rintro e w7 ⟨rfl, hb⟩
          have B4 := B3.trans (hb.mono B3.size)
          clear hb B3
          by_cases hq : lowS m = m
          · have q1 : (lowS m != m) = false := by simp [hq]
            have Hq := Lib.hid (show (lowS m == m) = true from by simp [hq])
            clear hq
            go_wp2_with fail
            go_meet
            exact ⟨by rw [Hb1.out, Hb2.out, Hq.out]; rfl, B4⟩
          · have q1 : (lowS m != m) = true := by simp [hq]
            have Hq := Lib.hid (show (lowS m == m) = false from by simp [hq])
            clear hq
            go_wp2_with fail
            go_meet
            exact ⟨by rw [Hb1.out, Hb2.out, Hq.out]; rfl, B4⟩
  case rest =>
  clear B
  obtain ⟨rfl, B⟩ := hcut
  obtain ⟨w5, rfl⟩ : ∃ x : World, x = wc := ⟨_, rfl⟩
  clear hdl
  generalize (tokB d1 && (!dok || tokB d2) && (lowS m == m)) = good at HW ⊢
  cases good with
  | false =>
    have HN := Lib.hid (show writeK m l = none from by rw [HW.out]; rfl)
    go_wp2_with fail
    go_ret2
    exact ⟨Or.inr ⟨_, HN.out, rfl, Or.inr (Or.inl rfl)⟩, B⟩
  | true =>
    have HN := Lib.hid (show writeK m l = (paramsW l).map (m ++ ·) from by rw [HW.out]; rfl)
    clear HW
    simp only [Bool.not_true]
    go_wp2_with fail
    go_loopw [9, 40] (fun t i wr => ∃ (k : Nat) (out : Bs), i = .int .i64 k ∧ k ≤ l.length ∧ t = .string ⟨out.toArray⟩ ∧ out.length ≤ 1000000 + k * 4000000 ∧ Hid ((paramsW (l.drop k)).map (out ++ ·) = writeK m l) ∧ Below w.heap.size w wr) (fun _ i _ => l.length - (intOf i).toNat)
    case atStart => exact ⟨0, m, rfl, by omega, rfl, by omega, Lib.hid HN.out.symm, B⟩
    case round =>
      clear B
      obtain ⟨k, out, rfl, hk, rfl, hol, Hall, B⟩ := hrel
      by_cases hlt : k < l.length
      · obtain ⟨b, rfl, hb0, h1, h2⟩ := HC.out k hlt
        have hf := Hok.out l[k] (List.getElem_mem _)
        have HD := Lib.hid (show paramsW (l.drop k) = match paramW l[k] with | none => none | some x => (paramsW (l.drop (k + 1))).map (x ++ ·) from by rw [List.drop_eq_getElem_cons hlt]; rfl)
        have c1 := (B.cell (p := ⟨b, k * 2, none⟩) hb0).trans h1
        have c2 := (B.cell (p := ⟨b, k * 2 + 1, none⟩) hb0).trans h2
        clear h1 h2
        generalize l[k] = f at hf HD c1 c2
        obtain ⟨x, y⟩ := f
        simp only at hf c1 c2
        obtain ⟨hx, hy⟩ := hf
        have kf := Blk.new wr #[.string ⟨x.toArray⟩, .string ⟨y.toArray⟩] 119
        have B1 := B.alloc B.size (.cells #[.string ⟨x.toArray⟩, .string ⟨y.toArray⟩] 119)
        have HF := Lib.hid (fun (h : (tokB x && (lowS x == x) && !(y.any fun c => !okQ c)) = false) => show writeK m l = none from by rw [← Hall.out, HD.out, paramW_none h]; rfl)
        have HY := Lib.hid (fun (h : (tokB x && (lowS x == x) && !(y.any fun c => !okQ c)) = true) => show (paramsW (l.drop (k + 1))).map ((out ++ (59 :: 32 :: (x ++ 61 :: quoV y))) ++ ·) = writeK m l from by rw [← Hall.out, HD.out, paramW_some h]; cases paramsW (l.drop (k + 1)) <;> simp)
        clear HD B
        have hbl : wr.heap.size < (wr.alloc (.cells #[.string ⟨x.toArray⟩, .string ⟨y.toArray⟩] 119)).heap.size := by simp
        go_upto_region 8 with fail
        generalize (wr.alloc (.cells #[.string ⟨x.toArray⟩, .string ⟨y.toArray⟩] 119)) = w1 at kf B1 hbl ⊢
        have hTok := fun W => token_any x W (by omega)
        have hCon := fun W => containsF 191 (enters_of Tryz.func191 (by kernel_rfl) rfl) badV badV_hi y #[] W (write1_grows W)
        rw [badV_ok] at hCon
        have HX := Lib.hid (show (tokB x && (lowS x == x) && !(y.any fun c => !okQ c)) = (tokB x && (lowS x == x) && !(y.any fun c => !okQ c)) from rfl)
        go_cut [61] (fun t wx => t = .bool (!(tokB x && (lowS x == x) && !(y.any fun c => !okQ c))) ∧ Below w1.heap.size w1 wx)
        case first =>
          have kpc := (Blk.drew kf).cell
          have K0 := (Below.refl w1.heap.size w1).drew
          generalize hgb1 : tokB x = b1 at hTok
          generalize hgb3 : (y.any fun c => !okQ c) = b3 at hCon
          have Hb1 := Lib.hid hgb1; clear hgb1
          have Hb3 := Lib.hid hgb3; clear hgb3
          have hSm := fun W => small_any x W (by omega)
          cases b1 with
          | false =>
            first
            | go_region_law ((first
              | (go_simp; with_reducible refine (hTok _).mono ?_; rintro e w10 ⟨rfl, hb⟩; have K := belowStep hb (w0 := w1) (by assumption); have kc := (kf.next K kf.lt).cell)
              | (go_simp; with_reducible refine (hSm _).mono ?_; rintro e w11 ⟨rfl, hb⟩; have K := belowStep hb (w0 := w1) (by assumption); have kc := (kf.next K kf.lt).cell)
              | (go_simp; with_reducible refine (hCon _).mono ?_; rintro e w12 ⟨rfl, hb⟩; have K := belowStep hb (w0 := w1) (by assumption); have kc := (kf.next K kf.lt).cell)))
            | fail
            all_goals
              go_wp2_with fail
              go_meet
              exact ⟨by rw [Hb1.out]; rfl, K⟩
          | true =>
            by_cases hq : lowS x = x
            · have Hq := Lib.hid (show (lowS x == x) = true from by simp [hq])
              have q1 : (lowS x != x) = false := by simp [hq]
              cases b3 with
              | false =>
                first
                | go_region_law ((first
                  | (go_simp; with_reducible refine (hTok _).mono ?_; rintro e w10 ⟨rfl, hb⟩; have K := belowStep hb (w0 := w1) (by assumption); have kc := (kf.next K kf.lt).cell)
                  | (go_simp; with_reducible refine (hSm _).mono ?_; rintro e w11 ⟨rfl, hb⟩; have K := belowStep hb (w0 := w1) (by assumption); have kc := (kf.next K kf.lt).cell)
                  | (go_simp; with_reducible refine (hCon _).mono ?_; rintro e w12 ⟨rfl, hb⟩; have K := belowStep hb (w0 := w1) (by assumption); have kc := (kf.next K kf.lt).cell)))
                | fail
                all_goals
                  go_wp2_with fail
                  go_meet
                  exact ⟨by rw [Hb1.out, Hq.out, Hb3.out]; rfl, K⟩
              | true =>
                first
                | go_region_law ((first
                  | (go_simp; with_reducible refine (hTok _).mono ?_; rintro e w10 ⟨rfl, hb⟩; have K := belowStep hb (w0 := w1) (by assumption); have kc := (kf.next K kf.lt).cell)
                  | (go_simp; with_reducible refine (hSm _).mono ?_; rintro e w11 ⟨rfl, hb⟩; have K := belowStep hb (w0 := w1) (by assumption); have kc := (kf.next K kf.lt).cell)
                  | (go_simp; with_reducible refine (hCon _).mono ?_; rintro e w12 ⟨rfl, hb⟩; have K := belowStep hb (w0 := w1) (by assumption); have kc := (kf.next K kf.lt).cell)))
                | fail
                all_goals
                  go_wp2_with fail
                  go_meet
                  exact ⟨by rw [Hb1.out, Hq.out, Hb3.out]; rfl, K⟩
            · have Hq := Lib.hid (show (lowS x == x) = false from by simp [hq])
              have q1 : (lowS x != x) = true := by simp [hq]
              first
              | go_region_law ((first
                | (go_simp; with_reducible refine (hTok _).mono ?_; rintro e w10 ⟨rfl, hb⟩; have K := belowStep hb (w0 := w1) (by assumption); have kc := (kf.next K kf.lt).cell)
                | (go_simp; with_reducible refine (hSm _).mono ?_; rintro e w11 ⟨rfl, hb⟩; have K := belowStep hb (w0 := w1) (by assumption); have kc := (kf.next K kf.lt).cell)
                | (go_simp; with_reducible refine (hCon _).mono ?_; rintro e w12 ⟨rfl, hb⟩; have K := belowStep hb (w0 := w1) (by assumption); have kc := (kf.next K kf.lt).cell)))
              | fail
              all_goals
                go_wp2_with fail
                go_meet
                exact ⟨by rw [Hb1.out, Hq.out]; rfl, K⟩
        case rest =>
          clear hTok hCon HX
          obtain ⟨rfl, K⟩ := hcut
          obtain ⟨w2, rfl⟩ : ∃ x : World, x = wc := ⟨_, rfl⟩
          have kf2 := kf.next K kf.lt
          have B2 := B1.trans (K.mono B1.size)
          clear K kf B1 hbl
          generalize (tokB x && (lowS x == x) && !(y.any fun c => !okQ c)) = good at HF HY ⊢
          cases good with
          | false =>
            have HN2 := Lib.hid (HF.out rfl)
            go_wp2_with fail
            go_ret2
            exact ⟨Or.inr ⟨_, HN2.out, rfl, ErrV.at _ _ _ _⟩, B2.alloc B2.size _⟩
          | true =>
            have HY2 := Lib.hid (HY.out rfl)
            clear HF HY
            have hql := quoV_len y
            have HQ := Lib.hid (show quoV y = if tokB y then y else 34 :: (y.flatMap escV ++ [34]) from rfl)
            simp only [Bool.not_true]
            have kc2 := kf2.cell
            go_wp2_with fail
            refine (token_any y _ (by omega)).mono ?_
            rintro e w3 ⟨rfl, hb⟩
            have kf3 := kf2.next hb kf2.lt
            have B3 := B2.trans (hb.mono B2.size)
            clear hb kf2 B2 kc2
            generalize tokB y = ty at HQ ⊢
            cases ty with
            | true =>
              have HQ2 := Lib.hid (show quoV y = y from by rw [HQ.out]; rfl)
              rw [HQ2.out] at HY2 hql
              have kc3 := kf3.cell
              go_wp2_with fail
              go_roundw
              case rel => exact ⟨k + 1, out ++ (59 :: 32 :: (x ++ 61 :: y)), by go_num, by omega, by simp, by simp; omega, HY2, B3⟩
              case measure => simp [intOf]; omega
            | false =>
              have HQ2 := Lib.hid (show quoV y = 34 :: (y.flatMap escV ++ [34]) from by rw [HQ.out]; rfl)
              rw [HQ2.out] at HY2 hql
              simp only [List.length_cons, List.length_append, List.length_nil] at hql
              have kf4 := kf3.alloc (.cells #[.string ⟨#[92]⟩, .string ⟨#[92, 92]⟩, .string ⟨#[34]⟩, .string ⟨#[92, 34]⟩] 9)
              have B4 := B3.alloc B3.size (.cells #[.string ⟨#[92]⟩, .string ⟨#[92, 92]⟩, .string ⟨#[34]⟩, .string ⟨#[92, 34]⟩] 9)
              have hNR := newRep_any w3.heap.size 4 prsK (w3.alloc (.cells #[.string ⟨#[92]⟩, .string ⟨#[92, 92]⟩, .string ⟨#[34]⟩, .string ⟨#[92, 34]⟩] 9)) (prsK_cells w3 9) (by decide) (by decide) 4 rfl
              go_wp2_with fail
              refine hNR.mono ?_
              rintro e w5 ⟨b5, v5, rfl, hB5, hk5, hrd5, hne5, hb5⟩
              have kf5 := kf4.next hb5 kf4.lt
              have B5 := B4.trans (hb5.mono B4.size)
              have hlt5 : wr.heap.size < b5 := Nat.lt_of_lt_of_le kf4.lt hB5
              have hwb5 : w.heap.size ≤ b5 := Nat.le_trans B4.size hB5
              have hRp := replace_any b5 v5 prsK prsK_ok y w5 hk5 hrd5 hne5 (by omega)
              rw [prsK_esc] at hRp
              clear hNR hb5 hk5 hrd5 hne5 hB5 kf4 B4 kf3 B3
              go_wp2_with fail
              refine hRp.mono ?_
              rintro e w6 ⟨rfl, hb6⟩
              have kf6 := kf5.next hb6 hlt5
              have B6 := B5.trans (hb6.mono hwb5)
              have kc6 := kf6.cell
              clear hRp hb6 kf5 B5
              generalize y.flatMap escV = q at HY2 hql ⊢
              go_wp2_with fail
              go_roundw
              case rel => exact ⟨k + 1, out ++ (59 :: 32 :: (x ++ 61 :: (34 :: (q ++ [34])))), by go_num, by omega, by simp, by simp; omega, HY2, B6⟩
              case measure => simp [intOf]; omega
      · obtain rfl : k = l.length := by omega
        have HE := Lib.hid (show writeK m l = some out from by rw [← Hall.out, List.drop_length]; simp [paramsW])
        go_wp2_with fail
        go_ret2
        exact ⟨Or.inl ⟨_, HE.out, rfl⟩, B⟩
def sigRow : Array Value := #[.string ⟨#[38]⟩, .string ⟨#[38, 97, 109, 112, 59]⟩, .string ⟨#[34]⟩, .string ⟨#[38, 113, 117, 111, 116, 59]⟩, .string ⟨#[39]⟩, .string ⟨#[38, 35, 51, 57, 59]⟩, .string ⟨#[60]⟩, .string ⟨#[38, 108, 116, 59]⟩, .string ⟨#[62]⟩, .string ⟨#[38, 103, 116, 59]⟩]
def oursRow : Array Value := #[.string ⟨#[67, 111, 110, 116, 101, 110, 116, 45, 84, 121, 112, 101]⟩, .string ⟨#[67, 111, 110, 116, 101, 110, 116, 45, 84, 114, 97, 110, 115, 102, 101, 114, 45, 69, 110, 99, 111, 100, 105, 110, 103]⟩]
structure Gr (w : World) : Prop where
  g : Ground w
  signs : ∀ k, k < 10 → w.cell? ⟨1, k, none⟩ = sigRow[k]?
  ours : ∀ k, k < 2 → w.cell? ⟨2, k, none⟩ = oursRow[k]?
  et : w.cell? ⟨0, 0, none⟩ = some (.iface 262 (.agg #[.pointer (some ⟨12, 25, none⟩)]))
theorem Gr.size {w : World} (h : Gr w) : 3 < w.heap.size := h.g.size
theorem Gr.next {w w' : World} (h : Gr w) (hb : Below w.heap.size w w') : Gr w' := by
  have hs := h.size
  refine ⟨h.g.next hb, fun k hk => ?_, fun k hk => ?_, ?_⟩
  · exact (hb.cell (p := ⟨1, k, none⟩) (by simp only; omega)).trans (h.signs k hk)
  · exact (hb.cell (p := ⟨2, k, none⟩) (by simp only; omega)).trans (h.ours k hk)
  · exact (hb.cell (p := ⟨0, 0, none⟩) (by simp only; omega)).trans h.et
end Go.Proofs.YtignjjnflcpiiaaGreatDoor
namespace Go.Proofs.YtignjjnflcpiiaaGreatDoor
open Go.RowKit Go.Extern.Stop Go.Stop Go.Extern
theorem As.valueOf27 (t : Addr) (w : World) : (ReflectliteValue.unpack (.iface 102 (.pointer (some t)))).run Tryz.prog w
    = .ok (.agg #[.pointer (some ⟨12, 102, none⟩), .pointer (some ⟨w.heap.size, 0, none⟩), .int .u64 150]) (w.alloc (.cells #[.pointer (some t)] 102)) := by kernel_rfl
theorem As.type27 (a : Addr) (w : World) : (ReflectliteValue.methodAny (ReflectliteValue.valueError "reflectlite.Value.Type" 0) (fun t _ _ _ => ReflectliteType.toType t) #[.agg #[.pointer (some ⟨12, 102, none⟩), .pointer (some a), .int .u64 150]]).run Tryz.prog w
    = .ok (.iface 262 (.agg #[.pointer (some ⟨12, 102, none⟩)])) w := by kernel_rfl
theorem As.methodKind (h : Value) (w : World) : (Go.method 466 262 (.agg #[h]) "Kind").run Tryz.prog w = .ok (373, h) w := by kernel_rfl
theorem As.kind27 (w : World) : ((ReflectliteType.abiMethod fun t => (fun a : Nat => Value.int IntKind.u8 (a : Int)) <$> Rtype.kind t) #[.pointer (some ⟨12, 102, none⟩)]).run Tryz.prog w = .ok (.int .u8 22) w := by kernel_rfl
theorem As.kind25 (w : World) : ((ReflectliteType.abiMethod fun t => (fun a : Nat => Value.int IntKind.u8 (a : Int)) <$> Rtype.kind t) #[.pointer (some ⟨12, 30, none⟩)]).run Tryz.prog w = .ok (.int .u8 2) w := by kernel_rfl
theorem rlm (z : Sem Value) (f : TypeId → Addr → Nat → Nat → Sem Value) (v : Value) :
    ReflectliteValue.method z f #[v] = (do match ← ReflectliteValue.parts v with | none => z | some (t, a, fl) => f t a fl (fl % 32)) := rfl
theorem As.parts27 (a : Addr) (w : World) : (ReflectliteValue.parts (.agg #[.pointer (some ⟨12, 102, none⟩), .pointer (some a), .int .u64 150])).run Tryz.prog w = .ok (some (102, a, 150)) w := by kernel_rfl
theorem As.isNil27 (a p : Addr) (W : World) (ha : W.cell? a = some (.pointer (some p))) :
    (ReflectliteValue.method (ReflectliteValue.valueError "reflectlite.Value.IsNil" 0) ReflectliteValue.isNil #[.agg #[.pointer (some ⟨12, 102, none⟩), .pointer (some a), .int .u64 150]]).run Tryz.prog W = .ok (.bool false) W := by
  rw [rlm]
  simp only [Sem.run_bind, As.parts27, Result.andThen]
  simp [ReflectliteValue.isNil, loadVar, isAgg, underlying, Tryz.underlying102, ha, Result.andThen]
theorem As.methodElem (h : Value) (w : World) : (Go.method 466 262 (.agg #[h]) "Elem").run Tryz.prog w = .ok (385, .agg #[h]) w := by kernel_rfl
theorem As.methodImplements (h : Value) (w : World) : (Go.method 466 262 (.agg #[h]) "Implements").run Tryz.prog w = .ok (386, .agg #[h]) w := by kernel_rfl
theorem As.methodAssignableTo (h : Value) (w : World) : (Go.method 466 262 (.agg #[h]) "AssignableTo").run Tryz.prog w = .ok (383, .agg #[h]) w := by kernel_rfl
theorem As.elem27 (w : World) : (ReflectliteType.method ReflectliteType.elem #[.agg #[.pointer (some ⟨12, 102, none⟩)]]).run Tryz.prog w = .ok (.iface 262 (.agg #[.pointer (some ⟨12, 30, none⟩)])) w := by kernel_rfl
theorem As.implements25 (w : World) : (ReflectliteType.relation "Implements" ReflectliteType.implements_ #[.agg #[.pointer (some ⟨12, 30, none⟩)], .iface 262 (.agg #[.pointer (some ⟨12, 25, none⟩)])]).run Tryz.prog w = .ok (.bool true) w := by kernel_rfl
theorem As.typeOf25 (v : Value) (w : World) : (ReflectliteType.typeOf #[.iface 30 v]).run Tryz.prog w = .ok (.iface 262 (.agg #[.pointer (some ⟨12, 30, none⟩)])) w := by kernel_rfl
theorem As.assignable25 (w : World) : (ReflectliteType.relation "AssignableTo" ReflectliteType.assignableTo #[.agg #[.pointer (some ⟨12, 30, none⟩)], .iface 262 (.agg #[.pointer (some ⟨12, 30, none⟩)])]).run Tryz.prog w = .ok (.bool true) w := by kernel_rfl
theorem As.valueOf25 (e : Int) (w : World) : (ReflectliteValue.unpack (.iface 30 (.int .i64 e))).run Tryz.prog w
    = .ok (.agg #[.pointer (some ⟨12, 30, none⟩), .pointer (some ⟨w.heap.size, 0, none⟩), .int .u64 130]) (w.alloc (.cells #[.int .i64 e] 30)) := by kernel_rfl
theorem As.elemOf27 (w : World) : (Rtype.elem? 102).run Tryz.prog w = .ok (some 30) w := by kernel_rfl
theorem As.mk25 (p : Addr) (w : World) : (ReflectliteValue.mk 30 p ReflectliteValue.flagAddr).run Tryz.prog w = .ok (.agg #[.pointer (some ⟨12, 30, none⟩), .pointer (some p), .int .u64 386]) w := by kernel_rfl
theorem As.elemV27 (a p : Addr) (W : World) (ha : W.cell? a = some (.pointer (some p))) :
    (ReflectliteValue.method (ReflectliteValue.valueError "reflectlite.Value.Elem" 0) ReflectliteValue.elem #[.agg #[.pointer (some ⟨12, 102, none⟩), .pointer (some a), .int .u64 150]]).run Tryz.prog W
      = .ok (.agg #[.pointer (some ⟨12, 30, none⟩), .pointer (some p), .int .u64 386]) W := by
  rw [rlm]
  simp only [Sem.run_bind, As.parts27, Result.andThen]
  simp [ReflectliteValue.elem, loadVar, isAgg, underlying, Tryz.underlying102, ha, Result.andThen, As.elemOf27, As.mk25]
theorem rls (v x : Value) : ReflectliteValue.set #[v, x] = (do
    let (some (dst, a, fl), some (src, b, _)) := (← ReflectliteValue.parts v, ← ReflectliteValue.parts x)
      | unsupported (.noEntry "extern/(internal/reflectlite.Value).Set.zeroValue")
    if fl / ReflectliteValue.flagAddr % 2 == 0 then unsupported (.noEntry "extern/(internal/reflectlite.Value).Set.unaddressable")
    let val ← loadVar src b
    if ← Rtype.directlyAssignable dst src then storeVar dst a val
    else if ← Rtype.implements dst src then
      if (← Rtype.kind src) == 20 then
        match val with
        | .nilIface => unsupported (.noEntry "extern/reflectlite: a nil value of one interface type handed on as a value of another")
        | _ => storeVar dst a val
      else storeVar dst a (.iface src val)
    else panicString ("reflectlite.Set: value of type " ++ (← Rtype.spelt src) ++ " is not assignable to type " ++ (← Rtype.spelt dst))
    pure (.tuple #[])) := rfl
theorem As.parts25a (a : Addr) (w : World) : (ReflectliteValue.parts (.agg #[.pointer (some ⟨12, 30, none⟩), .pointer (some a), .int .u64 386])).run Tryz.prog w = .ok (some (30, a, 386)) w := by kernel_rfl
theorem As.parts25 (a : Addr) (w : World) : (ReflectliteValue.parts (.agg #[.pointer (some ⟨12, 30, none⟩), .pointer (some a), .int .u64 130])).run Tryz.prog w = .ok (some (30, a, 130)) w := by kernel_rfl
theorem As.direct25 (w : World) : (Rtype.directlyAssignable 30 30).run Tryz.prog w = .ok true w := by kernel_rfl
theorem As.set25 (ta b : Addr) (e : Int) (old : Value) (W : World) (hb : W.cell? b = some (.int .i64 e)) (ht : W.cell? ta = some old) (hf : W.frozen? ta = false) :
    (ReflectliteValue.set #[.agg #[.pointer (some ⟨12, 30, none⟩), .pointer (some ta), .int .u64 386], .agg #[.pointer (some ⟨12, 30, none⟩), .pointer (some b), .int .u64 130]]).run Tryz.prog W
      = .ok (.tuple #[]) (W.setCell ta (.int .i64 e)) := by
  rw [rls]
  simp only [Sem.run_bind, As.parts25a, As.parts25, Result.andThen]
  simp [ReflectliteValue.flagAddr, loadVar, isAgg, underlying, Tryz.underlying30, hb, Result.andThen, As.direct25, storeVar, Value.cells, storeCells, Addr.add]
  rw [run_store Tryz.prog W ta _ _ (by rfl)]
  simp [ht, hf]
set_option maxHeartbeats 4000000 in
theorem as_hit (e : Int) (t : Addr) (old : Value) (w : World) (hg : w.cell? ⟨0, 0, none⟩ = some (.iface 262 (.agg #[.pointer (some ⟨12, 25, none⟩)]))) (ht0 : w.cell? t = some old) (hf0 : w.frozen? t = false) :
    Calls Tryz.prog 48 #[.iface 30 (.int .i64 e), .iface 102 (.pointer (some t))] w fun ev w' => ev = .returned (.bool true) ∧ w' = ((((w.alloc (.cells #[.pointer (some t)] 102)).alloc (.cells #[.pointer (some ⟨12, 102, none⟩), .pointer (some ⟨w.heap.size, 0, none⟩), .int .u64 150] 177)).alloc (.cells #[.pointer (some ⟨12, 102, none⟩), .pointer (some ⟨w.heap.size, 0, none⟩), .int .u64 150] 177)).alloc (.cells #[.int .i64 e] 30)).setCell t (.int .i64 e) := by
  have h6 := @run_callFunc_extern Tryz.prog 107 _ (fun args => ReflectliteValue.unpack (args.getD 0 (.tuple #[]))) Tryz.func107 (by kernel_rfl) (by kernel_rfl) (by kernel_rfl) (by kernel_rfl)
  have h7 := @run_callFunc_extern Tryz.prog 108 _ (ReflectliteValue.methodAny (ReflectliteValue.valueError "reflectlite.Value.Type" 0) (fun t _ _ _ => ReflectliteType.toType t)) Tryz.func108 (by kernel_rfl) (by kernel_rfl) (by kernel_rfl) (by kernel_rfl)
  have h8 := @run_callFunc_extern Tryz.prog 109 _ (ReflectliteValue.method (ReflectliteValue.valueError "reflectlite.Value.IsNil" 0) ReflectliteValue.isNil) Tryz.func109 (by kernel_rfl) (by kernel_rfl) (by kernel_rfl) (by kernel_rfl)
  have h27 := @run_callFunc_extern Tryz.prog 373 _ (ReflectliteType.abiMethod fun t => do pure (.int .u8 (← Rtype.kind t))) Tryz.func373 (by kernel_rfl) (by kernel_rfl) (by kernel_rfl) (by kernel_rfl)
  have h37 := @run_callFunc_extern Tryz.prog 385 _ (ReflectliteType.method ReflectliteType.elem) Tryz.func385 (by kernel_rfl) (by kernel_rfl) (by kernel_rfl) (by kernel_rfl)
  have h38 := @run_callFunc_extern Tryz.prog 386 _ (ReflectliteType.relation "Implements" ReflectliteType.implements_) Tryz.func386 (by kernel_rfl) (by kernel_rfl) (by kernel_rfl) (by kernel_rfl)
  have h10 := @run_callFunc_extern Tryz.prog 200 _ ReflectliteType.typeOf Tryz.func200 (by kernel_rfl) (by kernel_rfl) (by kernel_rfl) (by kernel_rfl)
  have h35 := @run_callFunc_extern Tryz.prog 383 _ (ReflectliteType.relation "AssignableTo" ReflectliteType.assignableTo) Tryz.func383 (by kernel_rfl) (by kernel_rfl) (by kernel_rfl) (by kernel_rfl)
  have h11 := @run_callFunc_extern Tryz.prog 201 _ (ReflectliteValue.method (ReflectliteValue.valueError "reflectlite.Value.Elem" 0) ReflectliteValue.elem) Tryz.func201 (by kernel_rfl) (by kernel_rfl) (by kernel_rfl) (by kernel_rfl)
  have h12 := @run_callFunc_extern Tryz.prog 202 _ ReflectliteValue.set Tryz.func202 (by kernel_rfl) (by kernel_rfl) (by kernel_rfl) (by kernel_rfl)
  have tO := As.typeOf25
  have mA := As.methodAssignableTo
  have a25 := As.assignable25
  have v25 := As.valueOf25
  have f6 := As.valueOf27
  have f7 := As.type27
  have mK := As.methodKind
  have mE := As.methodElem
  have mI := As.methodImplements
  have k27 := As.kind27
  have k25 := As.kind25
  have e27 := As.elem27
  have i25 := As.implements25
  have n8 := As.isNil27 ⟨w.heap.size, 0, none⟩ t ((w.alloc (.cells #[.pointer (some t)] 102)).alloc (.cells #[.pointer (some ⟨12, 102, none⟩), .pointer (some ⟨w.heap.size, 0, none⟩), .int .u64 150] 177)) (by simp)
  have hlt : 0 < w.heap.size := World.block_lt_of_cell? w _ hg
  have hg2 : ((w.alloc (.cells #[.pointer (some t)] 102)).alloc (.cells #[.pointer (some ⟨12, 102, none⟩), .pointer (some ⟨w.heap.size, 0, none⟩), .int .u64 150] 177)).cell? ⟨0, 0, none⟩ = some (.iface 262 (.agg #[.pointer (some ⟨12, 25, none⟩)])) := by
    rw [World.cell?_alloc_lt _ _ ⟨0, 0, none⟩ (by simp <;> omega), World.cell?_alloc_lt _ _ ⟨0, 0, none⟩ hlt]; exact hg
  have htl : t.block < w.heap.size := by
    rcases Nat.lt_or_ge t.block w.heap.size with h | h
    · exact h
    · simp [World.cell?, Array.getElem?_eq_none h] at ht0
  have el := As.elemV27 ⟨w.heap.size, 0, none⟩ t (((w.alloc (.cells #[.pointer (some t)] 102)).alloc (.cells #[.pointer (some ⟨12, 102, none⟩), .pointer (some ⟨w.heap.size, 0, none⟩), .int .u64 150] 177)).alloc (.cells #[.pointer (some ⟨12, 102, none⟩), .pointer (some ⟨w.heap.size, 0, none⟩), .int .u64 150] 177)) (by rw [World.cell?_alloc_lt _ _ ⟨w.heap.size, 0, none⟩ (by simp; omega)]; simp)
  have st := As.set25 t ⟨w.heap.size + 1 + 1 + 1, 0, none⟩ e old ((((w.alloc (.cells #[.pointer (some t)] 102)).alloc (.cells #[.pointer (some ⟨12, 102, none⟩), .pointer (some ⟨w.heap.size, 0, none⟩), .int .u64 150] 177)).alloc (.cells #[.pointer (some ⟨12, 102, none⟩), .pointer (some ⟨w.heap.size, 0, none⟩), .int .u64 150] 177)).alloc (.cells #[.int .i64 e] 30))
    (by rw [World.cell?_alloc_at _ _ _ _ (by simp)]; rfl)
    (by rw [World.cell?_alloc_lt _ _ t (by simp; omega), World.cell?_alloc_lt _ _ t (by simp; omega), World.cell?_alloc_lt _ _ t (by simp; omega), World.cell?_alloc_lt _ _ t htl]; exact ht0)
    (by rw [World.frozen?_alloc_old _ _ t (by simp; omega), World.frozen?_alloc_old _ _ t (by simp; omega), World.frozen?_alloc_old _ _ t (by simp; omega), World.frozen?_alloc_old _ _ t (Nat.ne_of_lt htl)]; exact hf0)
  go_enter Tryz.func48, Tryz.ntmps48
  go_wp2
  refine wp_loop_rounds 1 ?_
  rw [rounds_succ]
  go_wp2
  go_ret
  exact ⟨rfl, rfl⟩
theorem As.typeOfAt (v : Value) (w : World) : (ReflectliteType.typeOf #[.iface 253 v]).run Tryz.prog w = .ok (.iface 262 (.agg #[.pointer (some ⟨12, 253, none⟩)])) w := by kernel_rfl
theorem As.assignableAt (w : World) : (ReflectliteType.relation "AssignableTo" ReflectliteType.assignableTo #[.agg #[.pointer (some ⟨12, 253, none⟩)], .iface 262 (.agg #[.pointer (some ⟨12, 30, none⟩)])]).run Tryz.prog w = .ok (.bool false) w := by kernel_rfl
theorem As.noAs (v : Value) (xT : TypeId) (w : World) : (Instr.typeAssert (.iface 253 v) xT 267 true).run Tryz.prog w = .ok (.tuple #[.nilIface, .bool false]) w := run_typeAssert_lacksB Tryz.underlying267 (by kernel_rfl) (by kernel_rfl) v xT w
theorem As.hasUnwrap (v : Value) (xT : TypeId) (w : World) : (Instr.typeAssert (.iface 253 v) xT 270 true).run Tryz.prog w = .ok (.tuple #[.iface 253 v, .bool true]) w := run_typeAssert_hasB Tryz.underlying270 (by kernel_rfl) v xT w
theorem As.methodUnwrap (p : Option Go.Addr) (w : World) : (Go.method 466 253 (.pointer p) "Unwrap").run Tryz.prog w = .ok (381, .pointer p) w := by kernel_rfl
set_option maxHeartbeats 4000000 in
theorem unwrap_any (b : Nat) (e : Int) (w : World) (hc : w.cell? ⟨b, 0, none⟩ = some (.int .i64 e)) :
    Calls Tryz.prog 381 #[.pointer (some ⟨b, 0, none⟩)] w fun ev w' => ev = .returned (.iface 30 (.int .i64 e)) ∧ w = w' := by
  go_enter Tryz.func381, Tryz.ntmps381
  go_wp2
  go_ret
  exact ⟨rfl, rfl⟩
set_option maxHeartbeats 4000000 in
theorem as_at (e : Int) (b : Nat) (t : Addr) (old : Value) (w : World) (hg : w.cell? ⟨0, 0, none⟩ = some (.iface 262 (.agg #[.pointer (some ⟨12, 25, none⟩)]))) (ht0 : w.cell? t = some old) (hf0 : w.frozen? t = false) (hc : w.cell? ⟨b, 0, none⟩ = some (.int .i64 e)) :
    Calls Tryz.prog 48 #[.iface 253 (.pointer (some ⟨b, 0, none⟩)), .iface 102 (.pointer (some t))] w fun ev w' => ev = .returned (.bool true) ∧ w' = ((((w.alloc (.cells #[.pointer (some t)] 102)).alloc (.cells #[.pointer (some ⟨12, 102, none⟩), .pointer (some ⟨w.heap.size, 0, none⟩), .int .u64 150] 177)).alloc (.cells #[.pointer (some ⟨12, 102, none⟩), .pointer (some ⟨w.heap.size, 0, none⟩), .int .u64 150] 177)).alloc (.cells #[.int .i64 e] 30)).setCell t (.int .i64 e) := by
  have h6 := @run_callFunc_extern Tryz.prog 107 _ (fun args => ReflectliteValue.unpack (args.getD 0 (.tuple #[]))) Tryz.func107 (by kernel_rfl) (by kernel_rfl) (by kernel_rfl) (by kernel_rfl)
  have h7 := @run_callFunc_extern Tryz.prog 108 _ (ReflectliteValue.methodAny (ReflectliteValue.valueError "reflectlite.Value.Type" 0) (fun t _ _ _ => ReflectliteType.toType t)) Tryz.func108 (by kernel_rfl) (by kernel_rfl) (by kernel_rfl) (by kernel_rfl)
  have h8 := @run_callFunc_extern Tryz.prog 109 _ (ReflectliteValue.method (ReflectliteValue.valueError "reflectlite.Value.IsNil" 0) ReflectliteValue.isNil) Tryz.func109 (by kernel_rfl) (by kernel_rfl) (by kernel_rfl) (by kernel_rfl)
  have h27 := @run_callFunc_extern Tryz.prog 373 _ (ReflectliteType.abiMethod fun t => do pure (.int .u8 (← Rtype.kind t))) Tryz.func373 (by kernel_rfl) (by kernel_rfl) (by kernel_rfl) (by kernel_rfl)
  have h37 := @run_callFunc_extern Tryz.prog 385 _ (ReflectliteType.method ReflectliteType.elem) Tryz.func385 (by kernel_rfl) (by kernel_rfl) (by kernel_rfl) (by kernel_rfl)
  have h38 := @run_callFunc_extern Tryz.prog 386 _ (ReflectliteType.relation "Implements" ReflectliteType.implements_) Tryz.func386 (by kernel_rfl) (by kernel_rfl) (by kernel_rfl) (by kernel_rfl)
  have h10 := @run_callFunc_extern Tryz.prog 200 _ ReflectliteType.typeOf Tryz.func200 (by kernel_rfl) (by kernel_rfl) (by kernel_rfl) (by kernel_rfl)
  have h35 := @run_callFunc_extern Tryz.prog 383 _ (ReflectliteType.relation "AssignableTo" ReflectliteType.assignableTo) Tryz.func383 (by kernel_rfl) (by kernel_rfl) (by kernel_rfl) (by kernel_rfl)
  have h11 := @run_callFunc_extern Tryz.prog 201 _ (ReflectliteValue.method (ReflectliteValue.valueError "reflectlite.Value.Elem" 0) ReflectliteValue.elem) Tryz.func201 (by kernel_rfl) (by kernel_rfl) (by kernel_rfl) (by kernel_rfl)
  have h12 := @run_callFunc_extern Tryz.prog 202 _ ReflectliteValue.set Tryz.func202 (by kernel_rfl) (by kernel_rfl) (by kernel_rfl) (by kernel_rfl)
  have tO := As.typeOf25
  have mA := As.methodAssignableTo
  have a25 := As.assignable25
  have v25 := As.valueOf25
  have f6 := As.valueOf27
  have f7 := As.type27
  have mK := As.methodKind
  have mE := As.methodElem
  have mI := As.methodImplements
  have k27 := As.kind27
  have k25 := As.kind25
  have e27 := As.elem27
  have i25 := As.implements25
  have n8 := As.isNil27 ⟨w.heap.size, 0, none⟩ t ((w.alloc (.cells #[.pointer (some t)] 102)).alloc (.cells #[.pointer (some ⟨12, 102, none⟩), .pointer (some ⟨w.heap.size, 0, none⟩), .int .u64 150] 177)) (by simp)
  have hlt : 0 < w.heap.size := World.block_lt_of_cell? w _ hg
  have hg2 : ((w.alloc (.cells #[.pointer (some t)] 102)).alloc (.cells #[.pointer (some ⟨12, 102, none⟩), .pointer (some ⟨w.heap.size, 0, none⟩), .int .u64 150] 177)).cell? ⟨0, 0, none⟩ = some (.iface 262 (.agg #[.pointer (some ⟨12, 25, none⟩)])) := by
    rw [World.cell?_alloc_lt _ _ ⟨0, 0, none⟩ (by simp <;> omega), World.cell?_alloc_lt _ _ ⟨0, 0, none⟩ hlt]; exact hg
  have htl : t.block < w.heap.size := by
    rcases Nat.lt_or_ge t.block w.heap.size with h | h
    · exact h
    · simp [World.cell?, Array.getElem?_eq_none h] at ht0
  have el := As.elemV27 ⟨w.heap.size, 0, none⟩ t (((w.alloc (.cells #[.pointer (some t)] 102)).alloc (.cells #[.pointer (some ⟨12, 102, none⟩), .pointer (some ⟨w.heap.size, 0, none⟩), .int .u64 150] 177)).alloc (.cells #[.pointer (some ⟨12, 102, none⟩), .pointer (some ⟨w.heap.size, 0, none⟩), .int .u64 150] 177)) (by rw [World.cell?_alloc_lt _ _ ⟨w.heap.size, 0, none⟩ (by simp; omega)]; simp)
  have st := As.set25 t ⟨w.heap.size + 1 + 1 + 1, 0, none⟩ e old ((((w.alloc (.cells #[.pointer (some t)] 102)).alloc (.cells #[.pointer (some ⟨12, 102, none⟩), .pointer (some ⟨w.heap.size, 0, none⟩), .int .u64 150] 177)).alloc (.cells #[.pointer (some ⟨12, 102, none⟩), .pointer (some ⟨w.heap.size, 0, none⟩), .int .u64 150] 177)).alloc (.cells #[.int .i64 e] 30))
    (by rw [World.cell?_alloc_at _ _ _ _ (by simp)]; rfl)
    (by rw [World.cell?_alloc_lt _ _ t (by simp; omega), World.cell?_alloc_lt _ _ t (by simp; omega), World.cell?_alloc_lt _ _ t (by simp; omega), World.cell?_alloc_lt _ _ t htl]; exact ht0)
    (by rw [World.frozen?_alloc_old _ _ t (by simp; omega), World.frozen?_alloc_old _ _ t (by simp; omega), World.frozen?_alloc_old _ _ t (by simp; omega), World.frozen?_alloc_old _ _ t (Nat.ne_of_lt htl)]; exact hf0)
  have tA := As.typeOfAt
  have aA := As.assignableAt
  have nA := As.noAs
  have hU := As.hasUnwrap
  have mU := As.methodUnwrap
  have hbl : b < w.heap.size := World.block_lt_of_cell? w _ hc
  have hc2 : ((((w.alloc (.cells #[.pointer (some t)] 102)).alloc (.cells #[.pointer (some ⟨12, 102, none⟩), .pointer (some ⟨w.heap.size, 0, none⟩), .int .u64 150] 177)).alloc (.cells #[.pointer (some ⟨12, 102, none⟩), .pointer (some ⟨w.heap.size, 0, none⟩), .int .u64 150] 177))).cell? ⟨b, 0, none⟩ = some (.int .i64 e) := by
    rw [World.cell?_alloc_lt _ _ ⟨b, 0, none⟩ (by simp; omega), World.cell?_alloc_lt _ _ ⟨b, 0, none⟩ (by simp; omega), World.cell?_alloc_lt _ _ ⟨b, 0, none⟩ hbl]; exact hc
  go_enter Tryz.func48, Tryz.ntmps48
  go_wp2
  refine wp_loop_rounds 2 ?_
  rw [rounds_succ]
  go_wp2_with fail
  refine (unwrap_any b e _ hc2).mono ?_
  rintro ev w1 ⟨rfl, rfl⟩
  go_wp2_with fail
  rw [rounds_succ]
  go_wp2
  go_ret
  exact ⟨rfl, rfl⟩
end Go.Proofs.YtignjjnflcpiiaaGreatDoor
namespace Go.Proofs.YtignjjnflcpiiaaGreatDoor
open Go Go.RowKit Go.Extern.Stop Go.Stop Go.Extern
set_option maxHeartbeats 4000000 in
set_option maxRecDepth 100000 in
theorem tell_any (v : Value) (n : Int) (w : World) (hv : ErrV w v n) (h : Gr w) : Calls Tryz.prog 12 #[v] w fun e w' => e = .returned (.int .i64 n) ∧ Below w.heap.size w w' := by
  have hA := (h.next ((Below.refl _ w).alloc (Nat.le_refl _) (.cells #[.int .i64 0] 30))).et
  have hn := Blk.new w #[.int .i64 0] 30
  rcases hv with ⟨rfl, rfl⟩ | rfl | ⟨b, p, rfl, hc, _⟩
  · go_enter Tryz.func12, Tryz.ntmps12
    go_wp2
    go_ret
    exact ⟨rfl, Below.refl _ _⟩
  · have H := as_hit n ⟨w.heap.size, 0, none⟩ (.int .i64 0) (w.alloc (.cells #[.int .i64 0] 30)) hA (hn.cell 0) (hn.free 0)
    go_enter Tryz.func12, Tryz.ntmps12
    go_wp2_with fail
    refine H.mono ?_
    rintro e w1 ⟨rfl, rfl⟩
    go_wp2_with fail
    go_ret
    exact ⟨rfl, by go_grown⟩
  · have hlt : b < w.heap.size := World.block_lt_of_cell? w _ hc
    have H := as_at n b ⟨w.heap.size, 0, none⟩ (.int .i64 0) (w.alloc (.cells #[.int .i64 0] 30)) hA (hn.cell 0) (hn.free 0) (by rw [World.cell?_alloc_lt _ _ ⟨b, 0, none⟩ hlt]; exact hc)
    go_enter Tryz.func12, Tryz.ntmps12
    go_wp2_with fail
    refine H.mono ?_
    rintro e w1 ⟨rfl, rfl⟩
    go_wp2_with fail
    go_ret
    exact ⟨rfl, by go_grown⟩
end Go.Proofs.YtignjjnflcpiiaaGreatDoor
