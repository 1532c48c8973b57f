/- kind.Write writes a value with parameters. Condition: at most 10^6 parameters, texts of at most 10^6 bytes; the library's variable MaxLen holds a number; What the variables of the library and of the program hold that this seat's walks read. No condition; page.run, page.unescape, page.Escape. Conditi. -/
import Derived.Deep.RegionHeld3
import Derived.Test.YtignjjnflcpiiaaGreatDoorQ08
namespace Go.Proofs.YtignjjnflcpiiaaGreatDoor
open Go Go.RowKit
def badV (r : Nat) : Bool := decide (r < 32) || decide (126 < r)
theorem badV_hi (r : Nat) (h : 128 ≤ r) : badV r = true := by unfold badV; rw [decide_eq_true (show 126 < r by omega)]; simp
theorem badV_ok (s : Bs) : (s.any fun c => badV c.toNat) = s.any fun c => !okQ c := by
  congr 1
  funext c
  rw [okQ_int]
  unfold badV
  by_cases h1 : c.toNat < 32
  · rw [decide_eq_true h1, decide_eq_false (show ¬ (32 : Int) ≤ (c.toNat : Int) by omega)]; rfl
  · by_cases h2 : 126 < c.toNat
    · rw [decide_eq_true h2, decide_eq_false (show ¬ (c.toNat : Int) ≤ 126 by omega)]; simp
    · rw [decide_eq_false h1, decide_eq_false h2, decide_eq_true (show (32 : Int) ≤ (c.toNat : Int) by omega), decide_eq_true (show (c.toNat : Int) ≤ 126 by omega)]; rfl
set_option maxHeartbeats 2000000 in
set_option maxRecDepth 100000 in
theorem write1_any (r : Nat) (hr : r ≤ 1114111) (w : World) :
    Calls Tryz.prog 191 #[.int .i32 (r : Int)] w fun e w' => e = .returned (.bool (badV r)) ∧ w = w' := by
  by_cases h1 : r < 32
  · have HB := Lib.hid (show badV r = true from by unfold badV; rw [decide_eq_true h1]; rfl)
    go_enter Tryz.func191, Tryz.ntmps191
    go_wp2_with fail
    go_ret
    exact ⟨ret_bool HB.out.symm, rfl⟩
  · by_cases h2 : 126 < r
    · have HB := Lib.hid (show badV r = true from by unfold badV; rw [decide_eq_true h2]; simp)
      go_enter Tryz.func191, Tryz.ntmps191
      go_wp2_with fail
      go_ret
      exact ⟨ret_bool (by rw [HB.out, decide_eq_true (show (126 : Int) < r by omega)]; simp), rfl⟩
    · have HB := Lib.hid (show badV r = false from by unfold badV; rw [decide_eq_false h1, decide_eq_false h2]; rfl)
      have g1 : ¬ (r : Int) < 32 := by omega
      have g2 : ¬ (126 : Int) < r := by omega
      go_enter Tryz.func191, Tryz.ntmps191
      go_wp2_with fail
      go_ret
      exact ⟨ret_bool HB.out.symm, rfl⟩
theorem write1_grows (w : World) : PredGrows Tryz.prog 191 #[] badV w := fun W x hx _ =>
  (write1_any x hx W).mono fun _ _ ⟨h1, h2⟩ => ⟨h1, h2 ▸ Below.refl _ _⟩
def prsK : List Pr := [(92, [92, 92]), (34, [92, 34])]
theorem prsK_ok : PrsOk prsK := PrsOk.of (by decide)
theorem prsK_esc (s : Bs) : rep (look prsK) s = s.flatMap escV := by
  unfold rep
  congr 1
  funext c
  unfold look prsK escV
  by_cases h1 : c = 92
  · subst h1; rfl
  · by_cases h2 : c = 34
    · subst h2; rfl
    · have e1 : ((92 : UInt8) == c) = false := by rw [beq_eq_false_iff_ne]; exact fun h => h1 h.symm
      have e2 : ((34 : UInt8) == c) = false := by rw [beq_eq_false_iff_ne]; exact fun h => h2 h.symm
      simp [e1, e2, h1, h2]
theorem prsK_cells (w : World) (t : TypeId) : ∀ j u, (prsK.flatMap prC)[j]? = some u → (w.alloc (.cells #[.string ⟨#[92]⟩, .string ⟨#[92, 92]⟩, .string ⟨#[34]⟩, .string ⟨#[92, 34]⟩] t)).cell? ((⟨w.heap.size, 0, none⟩ : Addr).add j) = some u := fun j u hj => by
  rw [addr_add0, (Blk.new w _ t).cell]
  match j, hj with
  | 0, hj => exact hj
  | 1, hj => exact hj
  | 2, hj => exact hj
  | 3, hj => exact hj
  | j + 4, hj => simp [prsK, prC] at hj
theorem paramW_none {p : Fld} (h : (tokB p.1 && (lowS p.1 == p.1) && !(p.2.any fun c => !okQ c)) = false) : paramW p = none := by unfold paramW; rw [h]; rfl
theorem paramW_some {p : Fld} (h : (tokB p.1 && (lowS p.1 == p.1) && !(p.2.any fun c => !okQ c)) = true) : paramW p = some (59 :: 32 :: (p.1 ++ 61 :: quoV p.2)) := by unfold paramW; rw [h]; rfl
theorem escV_len (s : Bs) : (s.flatMap escV).length ≤ 2 * s.length := by
  induction s with
  | nil => simp
  | cons c s ih =>
    rw [List.flatMap_cons, List.length_append, List.length_cons]
    have : (escV c).length ≤ 2 := by unfold escV; split <;> (try split) <;> simp
    omega
theorem quoV_len (s : Bs) : (quoV s).length ≤ 2 * s.length + 2 := by
  unfold quoV
  split
  · omega
  · have := escV_len s; simp only [List.length_cons, List.length_append, List.length_nil]; omega
set_option maxHeartbeats 8000000 in
set_option maxRecDepth 100000 in
theorem writeKind_any (m : Bs) (v : Value) (l : List Fld) (w : World) (hr : RdF w v l) (hm : m.length ≤ 1000000) (hlen : l.length ≤ 1000000) (hok : ∀ f ∈ l, f.1.length ≤ 1000000 ∧ f.2.length ≤ 1000000) (hg : Ground w) :
    Calls Tryz.prog 105 #[.string ⟨m.toArray⟩, v] w fun e w' => TextOr 1 (writeK m l) e w' ∧ Below w.heap.size w w' := by
  have Hok := Lib.hid hok; clear hok
  obtain ⟨a, cap, rfl, hc⟩ := hr.open
  have HC := Lib.hid hc; clear hc hr
  have HW := Lib.hid (show writeK m l = if tokB (Lib.cut m [47]).1 && (!(Lib.cut m [47]).2.2 || tokB (Lib.cut m [47]).2.1) && (lowS m == m) then (paramsW l).map (m ++ ·) else none from rfl)
  have hdl := cut_le m [47]
  go_enter Tryz.func105, Tryz.ntmps105
  go_wp2_with fail
  refine (cutS m [47] _ (by omega) hg).mono ?_
  rintro e w1 ⟨rfl, B⟩
  generalize Lib.cut m [47] = d at hdl HW ⊢
  obtain ⟨d1, d2, dok⟩ := d
  simp only at hdl HW ⊢
  go_upto_region 2 with fail
  go_cut [35] (fun t wx => t = .bool (!(tokB d1 && (!dok || tokB d2) && (lowS m == m))) ∧ Below w.heap.size w wx)
  case first =>
    go_wp2_with fail
    refine (token_any d1 _ (by omega)).mono ?_
    rintro e w5 ⟨rfl, hb⟩
    have B2 := B.trans (hb.mono B.size)
    clear hb B
    generalize hb1 : tokB d1 = b1
    have Hb1 := Lib.hid hb1; clear hb1
    cases b1 with
    | false =>
      go_wp2_with fail
      go_meet
      exact ⟨by rw [Hb1.out]; rfl, B2⟩
    | true =>
      cases dok with
      | false =>
        go_wp2_with fail
        refine (small_any m _ (by omega)).mono ?_
        rintro e w6 ⟨rfl, hb⟩
        have B3 := B2.trans (hb.mono B2.size)
        clear hb B2
        by_cases hq : lowS m = m
        · have q1 : (lowS m != m) = false := by simp [hq]
          have Hq := Lib.hid (show (lowS m == m) = true from by simp [hq])
          clear hq
          go_wp2_with fail
          go_meet
          exact ⟨by rw [Hb1.out, Hq.out]; rfl, B3⟩
        · have q1 : (lowS m != m) = true := by simp [hq]
          have Hq := Lib.hid (show (lowS m == m) = false from by simp [hq])
          clear hq
          go_wp2_with fail
          go_meet
          exact ⟨by rw [Hb1.out, Hq.out]; rfl, B3⟩
      | true =>
        go_wp2_with fail
        refine (token_any d2 _ (by omega)).mono ?_
        rintro e w6 ⟨rfl, hb⟩
        have B3 := B2.trans (hb.mono B2.size)
        clear hb B2
        generalize hb2 : tokB d2 = b2
        have Hb2 := Lib.hid hb2; clear hb2
        cases b2 with
        | false =>
          go_wp2_with fail
          go_meet
          exact ⟨by rw [Hb1.out, Hb2.out]; rfl, B3⟩
        | true =>
          go_wp2_with fail
          refine (small_any m _ (by omega)).mono ?_
          rintro e w7 ⟨rfl, hb⟩
          have B4 := B3.trans (hb.mono B3.size)
          clear hb B3
          by_cases hq : lowS m = m
          · have q1 : (lowS m != m) = false := by simp [hq]
            have Hq := Lib.hid (show (lowS m == m) = true from by simp [hq])
            clear hq
            go_wp2_with fail
            go_meet
            exact ⟨by rw [Hb1.out, Hb2.out, Hq.out]; rfl, B4⟩
          · have q1 : (lowS m != m) = true := by simp [hq]
            have Hq := Lib.hid (show (lowS m == m) = false from by simp [hq])
            clear hq
            go_wp2_with fail
            go_meet
            exact ⟨by rw [Hb1.out, Hb2.out, Hq.out]; rfl, B4⟩
  case rest =>
  clear B
  obtain ⟨rfl, B⟩ := hcut
  obtain ⟨w5, rfl⟩ : ∃ x : World, x = wc := ⟨_, rfl⟩
  clear hdl
  generalize (tokB d1 && (!dok || tokB d2) && (lowS m == m)) = good at HW ⊢
  cases good with
  | false =>
    have HN := Lib.hid (show writeK m l = none from by rw [HW.out]; rfl)
    go_wp2_with fail
    go_ret2
    exact ⟨Or.inr ⟨_, HN.out, rfl, Or.inr (Or.inl rfl)⟩, B⟩
  | true =>
    have HN := Lib.hid (show writeK m l = (paramsW l).map (m ++ ·) from by rw [HW.out]; rfl)
    clear HW
    simp only [Bool.not_true]
    go_wp2_with fail
    go_loopw [9, 40] (fun t i wr => ∃ (k : Nat) (out : Bs), i = .int .i64 k ∧ k ≤ l.length ∧ t = .string ⟨out.toArray⟩ ∧ out.length ≤ 1000000 + k * 4000000 ∧ Hid ((paramsW (l.drop k)).map (out ++ ·) = writeK m l) ∧ Below w.heap.size w wr) (fun _ i _ => l.length - (intOf i).toNat)
    case atStart => exact ⟨0, m, rfl, by omega, rfl, by omega, Lib.hid HN.out.symm, B⟩
    case round =>
      clear B
      obtain ⟨k, out, rfl, hk, rfl, hol, Hall, B⟩ := hrel
      by_cases hlt : k < l.length
      · obtain ⟨b, rfl, hb0, h1, h2⟩ := HC.out k hlt
        have hf := Hok.out l[k] (List.getElem_mem _)
        have HD := Lib.hid (show paramsW (l.drop k) = match paramW l[k] with | none => none | some x => (paramsW (l.drop (k + 1))).map (x ++ ·) from by rw [List.drop_eq_getElem_cons hlt]; rfl)
        have c1 := (B.cell (p := ⟨b, k * 2, none⟩) hb0).trans h1
        have c2 := (B.cell (p := ⟨b, k * 2 + 1, none⟩) hb0).trans h2
        clear h1 h2
        generalize l[k] = f at hf HD c1 c2
        obtain ⟨x, y⟩ := f
        simp only at hf c1 c2
        obtain ⟨hx, hy⟩ := hf
        have kf := Blk.new wr #[.string ⟨x.toArray⟩, .string ⟨y.toArray⟩] 119
        have B1 := B.alloc B.size (.cells #[.string ⟨x.toArray⟩, .string ⟨y.toArray⟩] 119)
        have HF := Lib.hid (fun (h : (tokB x && (lowS x == x) && !(y.any fun c => !okQ c)) = false) => show writeK m l = none from by rw [← Hall.out, HD.out, paramW_none h]; rfl)
        have HY := Lib.hid (fun (h : (tokB x && (lowS x == x) && !(y.any fun c => !okQ c)) = true) => show (paramsW (l.drop (k + 1))).map ((out ++ (59 :: 32 :: (x ++ 61 :: quoV y))) ++ ·) = writeK m l from by rw [← Hall.out, HD.out, paramW_some h]; cases paramsW (l.drop (k + 1)) <;> simp)
        clear HD B
        have hbl : wr.heap.size < (wr.alloc (.cells #[.string ⟨x.toArray⟩, .string ⟨y.toArray⟩] 119)).heap.size := by simp
        go_upto_region 8 with fail
        generalize (wr.alloc (.cells #[.string ⟨x.toArray⟩, .string ⟨y.toArray⟩] 119)) = w1 at kf B1 hbl ⊢
        have hTok := fun W => token_any x W (by omega)
        have hCon := fun W => containsF 191 (enters_of Tryz.func191 (by kernel_rfl) rfl) badV badV_hi y #[] W (write1_grows W)
        rw [badV_ok] at hCon
        have HX := Lib.hid (show (tokB x && (lowS x == x) && !(y.any fun c => !okQ c)) = (tokB x && (lowS x == x) && !(y.any fun c => !okQ c)) from rfl)
        go_cut [61] (fun t wx => t = .bool (!(tokB x && (lowS x == x) && !(y.any fun c => !okQ c))) ∧ Below w1.heap.size w1 wx)
        case first =>
          have kpc := (Blk.drew kf).cell
          have K0 := (Below.refl w1.heap.size w1).drew
          generalize hgb1 : tokB x = b1 at hTok
          generalize hgb3 : (y.any fun c => !okQ c) = b3 at hCon
          have Hb1 := Lib.hid hgb1; clear hgb1
          have Hb3 := Lib.hid hgb3; clear hgb3
          have hSm := fun W => small_any x W (by omega)
          cases b1 with
          | false =>
            first
            | go_region_law ((first
              | (go_simp; with_reducible refine (hTok _).mono ?_; rintro e w10 ⟨rfl, hb⟩; have K := belowStep hb (w0 := w1) (by assumption); have kc := (kf.next K kf.lt).cell)
              | (go_simp; with_reducible refine (hSm _).mono ?_; rintro e w11 ⟨rfl, hb⟩; have K := belowStep hb (w0 := w1) (by assumption); have kc := (kf.next K kf.lt).cell)
              | (go_simp; with_reducible refine (hCon _).mono ?_; rintro e w12 ⟨rfl, hb⟩; have K := belowStep hb (w0 := w1) (by assumption); have kc := (kf.next K kf.lt).cell)))
            | fail
            all_goals
              go_wp2_with fail
              go_meet
              exact ⟨by rw [Hb1.out]; rfl, K⟩
          | true =>
            by_cases hq : lowS x = x
            · have Hq := Lib.hid (show (lowS x == x) = true from by simp [hq])
              have q1 : (lowS x != x) = false := by simp [hq]
              cases b3 with
              | false =>
                first
                | go_region_law ((first
                  | (go_simp; with_reducible refine (hTok _).mono ?_; rintro e w10 ⟨rfl, hb⟩; have K := belowStep hb (w0 := w1) (by assumption); have kc := (kf.next K kf.lt).cell)
                  | (go_simp; with_reducible refine (hSm _).mono ?_; rintro e w11 ⟨rfl, hb⟩; have K := belowStep hb (w0 := w1) (by assumption); have kc := (kf.next K kf.lt).cell)
                  | (go_simp; with_reducible refine (hCon _).mono ?_; rintro e w12 ⟨rfl, hb⟩; have K := belowStep hb (w0 := w1) (by assumption); have kc := (kf.next K kf.lt).cell)))
                | fail
                all_goals
                  go_wp2_with fail
                  go_meet
                  exact ⟨by rw [Hb1.out, Hq.out, Hb3.out]; rfl, K⟩
              | true =>
                first
                | go_region_law ((first
                  | (go_simp; with_reducible refine (hTok _).mono ?_; rintro e w10 ⟨rfl, hb⟩; have K := belowStep hb (w0 := w1) (by assumption); have kc := (kf.next K kf.lt).cell)
                  | (go_simp; with_reducible refine (hSm _).mono ?_; rintro e w11 ⟨rfl, hb⟩; have K := belowStep hb (w0 := w1) (by assumption); have kc := (kf.next K kf.lt).cell)
                  | (go_simp; with_reducible refine (hCon _).mono ?_; rintro e w12 ⟨rfl, hb⟩; have K := belowStep hb (w0 := w1) (by assumption); have kc := (kf.next K kf.lt).cell)))
                | fail
                all_goals
                  go_wp2_with fail
                  go_meet
                  exact ⟨by rw [Hb1.out, Hq.out, Hb3.out]; rfl, K⟩
            · have Hq := Lib.hid (show (lowS x == x) = false from by simp [hq])
              have q1 : (lowS x != x) = true := by simp [hq]
              first
              | go_region_law ((first
                | (go_simp; with_reducible refine (hTok _).mono ?_; rintro e w10 ⟨rfl, hb⟩; have K := belowStep hb (w0 := w1) (by assumption); have kc := (kf.next K kf.lt).cell)
                | (go_simp; with_reducible refine (hSm _).mono ?_; rintro e w11 ⟨rfl, hb⟩; have K := belowStep hb (w0 := w1) (by assumption); have kc := (kf.next K kf.lt).cell)
                | (go_simp; with_reducible refine (hCon _).mono ?_; rintro e w12 ⟨rfl, hb⟩; have K := belowStep hb (w0 := w1) (by assumption); have kc := (kf.next K kf.lt).cell)))
              | fail
              all_goals
                go_wp2_with fail
                go_meet
                exact ⟨by rw [Hb1.out, Hq.out]; rfl, K⟩
        case rest =>
          clear hTok hCon HX
          obtain ⟨rfl, K⟩ := hcut
          obtain ⟨w2, rfl⟩ : ∃ x : World, x = wc := ⟨_, rfl⟩
          have kf2 := kf.next K kf.lt
          have B2 := B1.trans (K.mono B1.size)
          clear K kf B1 hbl
          generalize (tokB x && (lowS x == x) && !(y.any fun c => !okQ c)) = good at HF HY ⊢
          cases good with
          | false =>
            have HN2 := Lib.hid (HF.out rfl)
            go_wp2_with fail
            go_ret2
            exact ⟨Or.inr ⟨_, HN2.out, rfl, ErrV.at _ _ _ _⟩, B2.alloc B2.size _⟩
          | true =>
            have HY2 := Lib.hid (HY.out rfl)
            clear HF HY
            have hql := quoV_len y
            have HQ := Lib.hid (show quoV y = if tokB y then y else 34 :: (y.flatMap escV ++ [34]) from rfl)
            simp only [Bool.not_true]
            have kc2 := kf2.cell
            go_wp2_with fail
            refine (token_any y _ (by omega)).mono ?_
            rintro e w3 ⟨rfl, hb⟩
            have kf3 := kf2.next hb kf2.lt
            have B3 := B2.trans (hb.mono B2.size)
            clear hb kf2 B2 kc2
            generalize tokB y = ty at HQ ⊢
            cases ty with
            | true =>
              have HQ2 := Lib.hid (show quoV y = y from by rw [HQ.out]; rfl)
              rw [HQ2.out] at HY2 hql
              have kc3 := kf3.cell
              go_wp2_with fail
              go_roundw
              case rel => exact ⟨k + 1, out ++ (59 :: 32 :: (x ++ 61 :: y)), by go_num, by omega, by simp, by simp; omega, HY2, B3⟩
              case measure => simp [intOf]; omega
            | false =>
              have HQ2 := Lib.hid (show quoV y = 34 :: (y.flatMap escV ++ [34]) from by rw [HQ.out]; rfl)
              rw [HQ2.out] at HY2 hql
              simp only [List.length_cons, List.length_append, List.length_nil] at hql
              have kf4 := kf3.alloc (.cells #[.string ⟨#[92]⟩, .string ⟨#[92, 92]⟩, .string ⟨#[34]⟩, .string ⟨#[92, 34]⟩] 9)
              have B4 := B3.alloc B3.size (.cells #[.string ⟨#[92]⟩, .string ⟨#[92, 92]⟩, .string ⟨#[34]⟩, .string ⟨#[92, 34]⟩] 9)
              have hNR := newRep_any w3.heap.size 4 prsK (w3.alloc (.cells #[.string ⟨#[92]⟩, .string ⟨#[92, 92]⟩, .string ⟨#[34]⟩, .string ⟨#[92, 34]⟩] 9)) (prsK_cells w3 9) (by decide) (by decide) 4 rfl
              go_wp2_with fail
              refine hNR.mono ?_
              rintro e w5 ⟨b5, v5, rfl, hB5, hk5, hrd5, hne5, hb5⟩
              have kf5 := kf4.next hb5 kf4.lt
              have B5 := B4.trans (hb5.mono B4.size)
              have hlt5 : wr.heap.size < b5 := Nat.lt_of_lt_of_le kf4.lt hB5
              have hwb5 : w.heap.size ≤ b5 := Nat.le_trans B4.size hB5
              have hRp := replace_any b5 v5 prsK prsK_ok y w5 hk5 hrd5 hne5 (by omega)
              rw [prsK_esc] at hRp
              clear hNR hb5 hk5 hrd5 hne5 hB5 kf4 B4 kf3 B3
              go_wp2_with fail
              refine hRp.mono ?_
              rintro e w6 ⟨rfl, hb6⟩
              have kf6 := kf5.next hb6 hlt5
              have B6 := B5.trans (hb6.mono hwb5)
              have kc6 := kf6.cell
              clear hRp hb6 kf5 B5
              generalize y.flatMap escV = q at HY2 hql ⊢
              go_wp2_with fail
              go_roundw
              case rel => exact ⟨k + 1, out ++ (59 :: 32 :: (x ++ 61 :: (34 :: (q ++ [34])))), by go_num, by omega, by simp, by simp; omega, HY2, B6⟩
              case measure => simp [intOf]; omega
      · obtain rfl : k = l.length := by omega
        have HE := Lib.hid (show writeK m l = some out from by rw [← Hall.out, List.drop_length]; simp [paramsW])
        go_wp2_with fail
        go_ret2
        exact ⟨Or.inl ⟨_, HE.out, rfl⟩, B⟩
def sigRow : Array Value := #[.string ⟨#[38]⟩, .string ⟨#[38, 97, 109, 112, 59]⟩, .string ⟨#[34]⟩, .string ⟨#[38, 113, 117, 111, 116, 59]⟩, .string ⟨#[39]⟩, .string ⟨#[38, 35, 51, 57, 59]⟩, .string ⟨#[60]⟩, .string ⟨#[38, 108, 116, 59]⟩, .string ⟨#[62]⟩, .string ⟨#[38, 103, 116, 59]⟩]
def oursRow : Array Value := #[.string ⟨#[67, 111, 110, 116, 101, 110, 116, 45, 84, 121, 112, 101]⟩, .string ⟨#[67, 111, 110, 116, 101, 110, 116, 45, 84, 114, 97, 110, 115, 102, 101, 114, 45, 69, 110, 99, 111, 100, 105, 110, 103]⟩]
structure Gr (w : World) : Prop where
  g : Ground w
  signs : ∀ k, k < 10 → w.cell? ⟨1, k, none⟩ = sigRow[k]?
  ours : ∀ k, k < 2 → w.cell? ⟨2, k, none⟩ = oursRow[k]?
  et : w.cell? ⟨0, 0, none⟩ = some (.iface 262 (.agg #[.pointer (some ⟨12, 25, none⟩)]))
theorem Gr.size {w : World} (h : Gr w) : 3 < w.heap.size := h.g.size
theorem Gr.next {w w' : World} (h : Gr w) (hb : Below w.heap.size w w') : Gr w' := by
  have hs := h.size
  refine ⟨h.g.next hb, fun k hk => ?_, fun k hk => ?_, ?_⟩
  · exact (hb.cell (p := ⟨1, k, none⟩) (by simp only; omega)).trans (h.signs k hk)
  · exact (hb.cell (p := ⟨2, k, none⟩) (by simp only; omega)).trans (h.ours k hk)
  · exact (hb.cell (p := ⟨0, 0, none⟩) (by simp only; omega)).trans h.et
set_option maxHeartbeats 2000000 in
set_option maxRecDepth 100000 in
theorem run_any (s of : Bs) (w : World) (hs : s.length ≤ 1000000000000) (hcs : of.length < 4294967281) (hascii : of.all (fun b => decide (b.toNat < 128)) = true) :
    Calls Tryz.prog 184 #[.string ⟨s.toArray⟩, .string ⟨of.toArray⟩] w fun e w' => e = .returned (.int .i64 ((runN s of : Nat) : Int)) ∧ Below w.heap.size w w' := by
  have hT := Lib.hid (runN_trim s of)
  have hle := trimL_le s of
  go_enter Tryz.func184, Tryz.ntmps184
  go_wp2_with fail
  refine (trimL s of _ hcs hascii).mono ?_
  rintro e w1 ⟨rfl, hb⟩
  go_wp2_with fail
  go_ret
  exact ⟨ret_int (by rw [← hT.out]; omega), hb⟩
set_option maxHeartbeats 2000000 in
set_option maxRecDepth 100000 in
theorem unesc1_any (x0 x1 s : Bs) (bx : Nat) (w : World) (hc : w.cell? ⟨bx, 0, none⟩ = some (.string ⟨s.toArray⟩)) :
    Calls Tryz.prog 319 #[.agg #[.string ⟨x0.toArray⟩, .string ⟨x1.toArray⟩], .pointer (some ⟨bx, 0, none⟩)] w fun e w' => e = .returned (.bool (Lib.hasPrefix s x1)) ∧ Below w.heap.size w w' := by
  have hlt : bx < w.heap.size := World.block_lt_of_cell? w _ hc
  have hc2 : (w.alloc (.cells #[.string ⟨x0.toArray⟩, .string ⟨x1.toArray⟩] 249)).cell? ⟨bx, 0, none⟩ = some (.string ⟨s.toArray⟩) := by rw [World.cell?_alloc_past _ _ _ hlt]; exact hc
  have kc := (Blk.new w #[.string ⟨x0.toArray⟩, .string ⟨x1.toArray⟩] 249).cell
  clear hc
  go_enter Tryz.func319, Tryz.ntmps319
  go_wp2_with fail
  refine (hasPre s x1 _).mono ?_
  rintro e w' ⟨rfl, rfl⟩
  go_wp2_with fail
  go_ret
  exact ⟨rfl, (Below.refl _ _).alloc (Nat.le_refl _) _⟩
def sigV (s : Bs) : Int := match sigI s with | none => -1 | some k => (k : Int)
theorem sigI_go (s : Bs) (k : Nat) (h : k < sigT.length) (h1 : ∀ j, j < k → Lib.hasPrefix s (sigT.getD j ([], [])).2 = false) (h2 : Lib.hasPrefix s (sigT.getD k ([], [])).2 = true) : sigI s = some k := by
  unfold sigI
  rw [List.findIdx?_eq_some_iff_getElem]
  refine ⟨h, ?_, fun j hj => ?_⟩
  · simpa [List.getD_eq_getElem?_getD, List.getElem?_eq_getElem h] using h2
  · have hjl : j < sigT.length := by omega
    have := h1 j hj
    rw [List.getD_eq_getElem?_getD, List.getElem?_eq_getElem hjl] at this
    simpa using this
theorem sigI_end (s : Bs) (h1 : ∀ j, j < 5 → Lib.hasPrefix s (sigT.getD j ([], [])).2 = false) : sigI s = none := by
  unfold sigI
  rw [List.findIdx?_eq_none_iff]
  intro x hx
  obtain ⟨j, hj, rfl⟩ := List.getElem_of_mem hx
  have := h1 j hj
  rw [List.getD_eq_getElem?_getD, List.getElem?_eq_getElem hj] at this
  simpa using this
theorem sigRow_at (k : Nat) (h : k < 5) : sigRow[k * 2]? = some (.string ⟨(sigT.getD k ([], [])).1.toArray⟩) ∧ sigRow[k * 2 + 1]? = some (.string ⟨(sigT.getD k ([], [])).2.toArray⟩) := by
  have : k = 0 ∨ k = 1 ∨ k = 2 ∨ k = 3 ∨ k = 4 := by omega
  rcases this with rfl | rfl | rfl | rfl | rfl <;> exact ⟨rfl, rfl⟩
set_option maxHeartbeats 4000000 in
set_option maxRecDepth 100000 in
theorem sigIdx_any (s : Bs) (bx : Nat) (w : World) (hg : Gr w) (hc : w.cell? ⟨bx, 0, none⟩ = some (.string ⟨s.toArray⟩)) :
    Calls Tryz.prog 318 #[.slice (some ⟨1, 0, none⟩) 5 5, .func (.func 319) #[] #[.pointer (some ⟨bx, 0, none⟩)]] w fun e w' => e = .returned (.int .i64 (sigV s)) ∧ Below w.heap.size w w' := by
  have hlt : bx < w.heap.size := World.block_lt_of_cell? w _ hc
  have hgs := hg.size
  have Hs := Lib.hid hg.signs
  go_enter Tryz.func318, Tryz.ntmps318
  go_wp2_with fail
  go_loopw [8] (fun i wr => ∃ k : Nat, i = .int .i64 k ∧ k ≤ 5 ∧ Hid (∀ j, j < k → Lib.hasPrefix s (sigT.getD j ([], [])).2 = false) ∧ Below w.heap.size w wr) (fun i _ => 5 - (intOf i).toNat)
  case atStart => exact ⟨0, rfl, by omega, Lib.hid (fun j hj => by omega), Below.refl _ _⟩
  case round =>
    obtain ⟨k, rfl, hk, hno, B⟩ := hrel
    by_cases h5 : k < 5
    · obtain ⟨r1, r2⟩ := sigRow_at k h5
      have c1 := (B.cell (p := ⟨1, k * 2, none⟩) (by simp only; omega)).trans ((Hs.out _ (by omega)).trans r1)
      have c2 := (B.cell (p := ⟨1, k * 2 + 1, none⟩) (by simp only; omega)).trans ((Hs.out _ (by omega)).trans r2)
      have cx := (B.cell (p := ⟨bx, 0, none⟩) hlt).trans hc
      have HK := Lib.hid (show sigT.getD k ([], []) = sigT.getD k ([], []) from rfl)
      have HGo := Lib.hid (sigI_go s k h5 hno.out)
      have HSt := Lib.hid (fun (h : Lib.hasPrefix s (sigT.getD k ([], [])).2 = false) => show ∀ j, j < k + 1 → Lib.hasPrefix s (sigT.getD j ([], [])).2 = false from fun j hj => by
        by_cases e : j = k
        · rw [e]; exact h
        · exact hno.out j (by omega))
      clear r1 r2 HK
      generalize sigT.getD k ([], []) = x at c1 c2 HGo HSt
      obtain ⟨x0, x1⟩ := x
      simp only at c1 c2 HGo HSt
      have hC := unesc1_any x0 x1 s bx wr cx
      generalize Lib.hasPrefix s x1 = hp at hC HGo HSt
      cases hp with
      | true =>
        have HV := Lib.hid (show sigV s = (k : Int) from by unfold sigV; rw [HGo.out rfl])
        go_wp2_with fail
        refine hC.mono ?_
        rintro e w2 ⟨rfl, hb⟩
        go_wp2_with fail
        go_ret
        exact ⟨ret_int (by rw [HV.out]), B.trans (hb.mono B.size)⟩
      | false =>
        have HS2 := Lib.hid (HSt.out rfl)
        clear HSt HGo
        go_wp2_with fail
        refine hC.mono ?_
        rintro e w2 ⟨rfl, hb⟩
        go_wp2_with fail
        go_roundw
        case rel => exact ⟨k + 1, by go_num, by omega, HS2, B.trans (hb.mono B.size)⟩
        case measure => simp [intOf]; omega
    · obtain rfl : k = 5 := by omega
      have HV := Lib.hid (show sigV s = -1 from by unfold sigV; rw [sigI_end s hno.out])
      go_wp2_with fail
      go_ret
      exact ⟨ret_int (by rw [HV.out]), B⟩
theorem Bld.keep {B b : Nat} {l : Bs} {w w' : World} (h : Bld B b l w) (hk : ∀ g, B ≤ g → g < w.heap.size → w'.heap[g]? = w.heap[g]?) : Bld B b l w' := by
  have hlt : ∀ g o, w.heap[g]? = some o → g < w.heap.size := fun g o h => by
    rcases Nat.lt_or_ge g w.heap.size with h' | h'
    · exact h'
    · rw [Array.getElem?_eq_none h'] at h; cases h
  have go : ∀ p, Lib.BuilderAt 128 5 B b p (Lib.byteCells l) w → Lib.BuilderAt 128 5 B b p (Lib.byteCells l) w' := by
    rintro p ⟨h1, v, h2, h3, h5⟩
    refine ⟨h1, v, (hk b h1 (hlt b _ h2)).trans h2, ?_, h5⟩
    refine rowKeep h3 fun g hg => ?_
    rcases h3.2 with ⟨hv, _⟩ | ⟨g', cap, cur, hv, hgB, hh, _⟩
    · rw [hv] at hg; cases hg
    · rw [hv] at hg; injection hg with hg; simp at hg; subst hg
      exact hk g' hgB (hlt g' _ hh)
  exact h.imp (go _) (go _)
theorem unescF_more : ∀ (f : Nat) (l : Bs), l.length < f → unescF f l = unescF (l.length + 1) l
  | 0, l, h => by omega
  | f + 1, l, h => by
    unfold unescF
    by_cases h0 : l = []
    · rw [if_pos h0, if_pos h0]
    · rw [if_neg h0, if_neg h0]
      have hp := List.length_pos_iff.2 h0
      cases hs : sigI l with
      | none =>
        simp only
        rw [unescF_more f (l.drop 1) (by simp; omega), ← unescF_more l.length (l.drop 1) (by simp; omega)]
      | some j =>
        have hj : j < sigT.length := by
          unfold sigI at hs
          rw [List.findIdx?_eq_some_iff_getElem] at hs
          exact hs.1
        have h1 : 1 ≤ (sigT.getD j ([], [])).2.length := by
          have : j = 0 ∨ j = 1 ∨ j = 2 ∨ j = 3 ∨ j = 4 := by have : sigT.length = 5 := rfl; omega
          rcases this with rfl | rfl | rfl | rfl | rfl <;> decide
        simp only
        rw [unescF_more f _ (by rw [List.length_drop]; omega), ← unescF_more l.length (l.drop (sigT.getD j ([], [])).2.length) (by rw [List.length_drop]; omega)]
  termination_by f _ => f
theorem unesc_none {l : Bs} (h0 : l ≠ []) (h : sigI l = none) : unescT l = l.take 1 ++ unescT (l.drop 1) := by
  have hp := List.length_pos_iff.2 h0
  conv => lhs; unfold unescT unescF
  rw [if_neg h0, h]
  simp only
  rw [unescF_more l.length (l.drop 1) (by simp; omega)]; rfl
theorem unesc_some {l : Bs} {j : Nat} (h0 : l ≠ []) (h : sigI l = some j) : j < 5 ∧ 1 ≤ (sigT.getD j ([], [])).2.length ∧ (sigT.getD j ([], [])).2.length ≤ l.length ∧ (sigT.getD j ([], [])).1.length ≤ 1 ∧ unescT l = (sigT.getD j ([], [])).1 ++ unescT (l.drop (sigT.getD j ([], [])).2.length) := by
  have hp := List.length_pos_iff.2 h0
  have hh := h
  unfold sigI at hh
  rw [List.findIdx?_eq_some_iff_getElem] at hh
  obtain ⟨hj, h2, _⟩ := hh
  have hd : sigT.getD j ([], []) = sigT[j] := by rw [List.getD_eq_getElem?_getD, List.getElem?_eq_getElem hj]; rfl
  have h5 : j = 0 ∨ j = 1 ∨ j = 2 ∨ j = 3 ∨ j = 4 := by have : sigT.length = 5 := rfl; omega
  have h1 : 1 ≤ (sigT.getD j ([], [])).2.length ∧ (sigT.getD j ([], [])).1.length ≤ 1 := by
    rcases h5 with rfl | rfl | rfl | rfl | rfl <;> decide
  refine ⟨by omega, h1.1, ?_, h1.2, ?_⟩
  · rw [hd]
    unfold Lib.hasPrefix at h2
    have := (List.isPrefixOf_iff_prefix.1 h2).length_le
    exact this
  · conv => lhs; unfold unescT unescF
    rw [if_neg h0, h]
    simp only
    rw [unescF_more l.length (l.drop _) (by rw [List.length_drop]; omega)]; rfl
set_option maxHeartbeats 4000000 in
set_option maxRecDepth 100000 in
theorem unescape_any (s : Bs) (w : World) (hg : Gr w) (hs : s.length ≤ 1000000000) :
    Calls Tryz.prog 300 #[.string ⟨s.toArray⟩] w fun e w' => e = .returned (.string ⟨(unescT s).toArray⟩) ∧ Below w.heap.size w w' := by
  have hmf : ∀ (fn : Fn) (first cap : Array Value) (w : World), (Instr.makeFunc fn first cap).run Tryz.prog w = .ok (.func fn first cap) w := fun _ _ _ _ => rfl
  have hgs := hg.size
  have b0 := bldNew (w.alloc (.cells #[.string ⟨s.toArray⟩] 9))
  rw [World.size_alloc] at b0
  have k0 := (Blk.new w #[.string ⟨s.toArray⟩] 9).alloc (.cells #[.pointer none, .slice none 0 0] 128)
  have Hb0 := Lib.hid b0; clear b0
  have Hk0 := Lib.hid k0; clear k0
  go_enter Tryz.func300, Tryz.ntmps300
  go_wp2_with fail
  go_loopg [] s.length (fun g wr => ∃ (l out : Bs), l.length ≤ g ∧ Blk wr w.heap.size #[.string ⟨l.toArray⟩] 9 ∧ Bld (w.heap.size + 1) (w.heap.size + 1) out wr ∧ l.length + out.length ≤ 1000000000 ∧ Hid (out ++ unescT l = unescT s) ∧ Below w.heap.size w wr)
  case atStart => exact ⟨s, [], Nat.le_refl _, Hk0.out, Hb0.out, by simp; omega, Lib.hid rfl, ((Below.refl _ _).alloc (Nat.le_refl _) _).alloc (by simp) _⟩
  case round =>
    obtain ⟨l, out, hlg, hk, hb, hle, Hall, B⟩ := hrel
    have hsz := hk.lt
    by_cases h0 : l = []
    · subst h0
      have kc := hk.cell 0
      have HE := Lib.hid (show unescT s = out from by rw [← Hall.out]; simp [unescT, unescF])
      go_wp2_with fail
      refine (bldStr _ _ _ _ hb (by omega)).mono ?_
      rintro e w2 ⟨rfl, hb2⟩
      go_wp2_with fail
      go_ret
      exact ⟨by rw [HE.out]; rfl, B.trans (hb2.mono (by omega))⟩
    · have hle0 : l.isEmpty = false := by rw [Bool.eq_false_iff]; simpa using h0
      have hp := List.length_pos_iff.2 h0
      have hS := sigIdx_any l w.heap.size wr (hg.next B) ((hk.cell 0).trans rfl)
      cases hsi : sigI l with
      | none =>
        have HU := Lib.hid (unesc_none h0 hsi)
        have hv : sigV l = -1 := by unfold sigV; rw [hsi]
        rw [hv] at hS
        clear hv hsi h0
        cases l with
        | nil => simp at hp
        | cons c l' =>
          have kc := hk.cell 0
          go_wp2_with fail
          refine hS.mono ?_
          rintro e w2 ⟨rfl, hb2⟩
          have hk2 := hk.next hb2 hk.lt
          have hbb2 := hb.next hb2
          have B2 := B.trans (hb2.mono B.size)
          have hsz2 := hk2.lt
          have kc2 := hk2.cell 0
          simp only [List.length_cons] at hle hlg
          go_wp2_with fail
          refine (wrByte (w.heap.size + 1) (w.heap.size + 1) out _ c rfl _ hbb2 (by omega) (by omega)).mono ?_
          rintro e w3 ⟨rfl, hbb3, hb3⟩
          have hk3 := hk2.next hb3 (Nat.lt_succ_self _)
          have B3 := B2.trans (hb3.mono (Nat.le_succ _))
          have kc3 := hk3.cell 0
          have kf3 := hk3.free 0
          have HQ := Lib.hid (show (out ++ [c]) ++ unescT l' = unescT s from by rw [← Hall.out, HU.out]; simp)
          clear hS hb2 hbb2 kc2 hk2 kc hk B HU Hall
          go_wp2_with fail
          have hk4 := hk3.set 0 (.string ⟨l'.toArray⟩)
          have hbb4 := hbb3.keep (w' := w3.setCell ⟨w.heap.size, 0, none⟩ (.string ⟨l'.toArray⟩)) (fun g hgB _ => Below.heap_setCell w3 ⟨w.heap.size, 0, none⟩ _ g (by simp only; omega))
          go_roundg l'.length
          case measure => omega
          case rel => exact ⟨l', out ++ [c], Nat.le_refl _, hk4, hbb4, by simp; omega, HQ, B3.setCell (Nat.le_refl _) _⟩
      | some j =>
        obtain ⟨hj5, hn1, hn2, hn3, hu⟩ := unesc_some h0 hsi
        have HU := Lib.hid hu; clear hu
        have hv : sigV l = (j : Int) := by unfold sigV; rw [hsi]
        rw [hv] at hS
        clear hv hsi h0
        obtain ⟨r1, r2⟩ := sigRow_at j hj5
        have Hs := Lib.hid hg.signs
        have hc1 := (Hs.out _ (by omega)).trans r1
        have hc2 := (Hs.out _ (by omega)).trans r2
        clear r1 r2
        generalize sigT.getD j ([], []) = x at hc1 hc2 hn1 hn2 hn3 HU
        obtain ⟨x0, x1⟩ := x
        simp only at hc1 hc2 hn1 hn2 hn3 HU
        have kc := hk.cell 0
        go_wp2_with fail
        refine hS.mono ?_
        rintro e w2 ⟨rfl, hb2⟩
        have hk2 := hk.next hb2 hk.lt
        have hbb2 := hb.next hb2
        have B2 := B.trans (hb2.mono B.size)
        have hsz2 := hk2.lt
        have d1 := (B2.cell (p := ⟨1, j * 2, none⟩) (by simp only; omega)).trans hc1
        go_wp2_with fail
        refine (wrStr (w.heap.size + 1) (w.heap.size + 1) out x0 _ hbb2 (by omega) (by omega)).mono ?_
        rintro e w3 ⟨rfl, hbb3, hb3⟩
        have hk3 := hk2.next hb3 (Nat.lt_succ_self _)
        have B3 := B2.trans (hb3.mono (Nat.le_succ _))
        have kcd := (Blk.drew hk3).cell 0
        have kfd := (Blk.drew hk3).free 0
        have d2 := (B3.drew.cell (p := ⟨1, j * 2 + 1, none⟩) (by simp only; omega)).trans hc2
        have HQ := Lib.hid (show (out ++ x0) ++ unescT (l.drop x1.length) = unescT s from by rw [← Hall.out, HU.out]; simp)
        clear hS hb2 hbb2 hk2 kc hk B HU Hall d1
        go_wp2_with fail
        go_region
        all_goals
          go_wp2_with fail
          have hk4 := (Blk.drew hk3).set 0 (.string ⟨(l.drop x1.length).toArray⟩)
          have hbb4 := hbb3.drew.keep (w' := w3.drew.setCell ⟨w.heap.size, 0, none⟩ (.string ⟨(l.drop x1.length).toArray⟩)) (fun g hgB _ => Below.heap_setCell w3.drew ⟨w.heap.size, 0, none⟩ _ g (by simp only; omega))
          go_roundg (l.length - x1.length)
          case measure => omega
          case rel => exact ⟨l.drop x1.length, out ++ x0, by simp, hk4, hbb4, by simp; omega, HQ, B3.drew.setCell (Nat.le_refl _) _⟩
end Go.Proofs.YtignjjnflcpiiaaGreatDoor
