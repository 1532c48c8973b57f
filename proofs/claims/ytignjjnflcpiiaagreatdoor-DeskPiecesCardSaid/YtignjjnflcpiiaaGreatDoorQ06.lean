/- kind.Read reads a value with parameters; kind.Get finds one. Condition: the text takes at most 10^9 bytes; the library's variable MaxLen holds a number; sync.Once.Do the first time, in one goroutine: the lock is free; the function is called once. Condition: the six cells of the Replacer lie in a blo. -/
import Derived.Defers
import Derived.Laws.LoneSync
import Derived.Laws.NewBlocks
import Derived.Laws.Pointers
import Derived.RegionCalls
import Derived.RegionTactic
import Derived.Tactics
import Derived.Tactics2
import Derived.Test.YtignjjnflcpiiaaGreatDoorQ05
namespace Go.Proofs.YtignjjnflcpiiaaGreatDoor
open Go Go.RowKit
abbrev OwnP (w : World) (B : Nat) (v : Value) (l : List Fld) : Prop := OwnG 119 2 fldC w B v l
theorem infoPar : (Tryz.prog.info? 119).map (fun i => (i.zero, i.size, i.bytes)) = some (some (.agg #[.string ByteArray.empty, .string ByteArray.empty]), 2, 32) := by kernel_rfl
theorem appP {Q : Exit → Act → World → Prop} {ops : Array Oper} {rest : List Oper} {o : Oper} {a : Act} {w : World} (hgd : o.guard = none) (s x : Operand)
    (ho : o.op = .call { callee := .builtin .append, args := #[s, x], argTypes := #[79, 79] }) (B : Nat) (v : Value) (xs : List Fld) (y : Fld) (b c : Nat)
    (hs : a.eval s = v) (hown : OwnP w B v xs) (hx : a.eval x = .slice (some ⟨b, 0, none⟩) 1 c) (hc : ∀ j u, ([y].flatMap fldC)[j]? = some u → w.cell? ((⟨b, 0, none⟩ : Addr).add j) = some u) (hn : xs.length + 1 ≤ 1000000000001) (hbase : B ≤ w.heap.size)
    (h : ∀ v' w', OwnP w' B v' (xs ++ [y]) → w.grownBy w' v.ownBlock → Below B w w' → wpList Tryz.prog ops Q rest (a.put o.dst v') w') : wpList Tryz.prog ops Q (o :: rest) a w :=
  appG (α := Fld) (cs := fldC) (size := 2) (z := .agg #[.string ByteArray.empty, .string ByteArray.empty]) fldC_len fldC_one infoPar rfl (by decide) Tryz.underlying79 hgd s x ho B v xs [y] ⟨b, 0, none⟩ 1 c rfl hs hown hx hc (by simp; omega) (by unfold maxLen; simp; omega) hbase h
def KindOr (B : Nat) (r : Option (Bs × List Fld)) (e : Ending) (w' : World) : Prop :=
  (∃ m l v, r = some (m, l) ∧ e = .returned (.tuple #[.string ⟨m.toArray⟩, v, .nilIface]) ∧ OwnP w' B v l) ∨ (r = none ∧ e = .returned (.tuple #[.string ⟨#[]⟩, .slice none 0 0, .iface 30 (.int .i64 3)]))
theorem containsS (l p : Bs) (w : World) (hl : l.length < 4294967281) (hg : Ground w) :
    Calls Tryz.prog 31 #[.string ⟨l.toArray⟩, .string ⟨p.toArray⟩] w fun e w' => e = .returned (.bool (Lib.contains l p)) ∧ w = w' := by
  obtain ⟨m, hm⟩ := hg.maxLen
  refine (Tryz.strings_Contains ⟨l.toArray⟩ ⟨p.toArray⟩ m w hl hm).mono ?_
  rintro e w' ⟨rfl, rfl⟩
  exact ⟨rfl, rfl⟩
theorem cellF1n (w : World) (f : Fld) (t : TypeId) (n : Nat) (hn : w.heap.size = n) : ∀ j u, ([f].flatMap fldC)[j]? = some u → (w.alloc (.cells #[.string ⟨f.1.toArray⟩, .string ⟨f.2.toArray⟩] t)).cell? ((⟨n, 0, none⟩ : Addr).add j) = some u := hn ▸ cellF1 w f t
def okOf : Value → Nat
  | .bool true => 1
  | _ => 0
def moreP (ok : Bool) (fuel : Nat) (rest : Bs) : Option (List Fld) := if ok then paramsF fuel rest else some []
set_option maxHeartbeats 4000000 in
set_option maxRecDepth 100000 in
theorem readKind_any (s : Bs) (w : World) (hl : s.length ≤ 1000000000) (hg : Ground w) :
    Calls Tryz.prog 34 #[.string ⟨s.toArray⟩] w fun e w' => KindOr w.heap.size (readK s) e w' ∧ Below w.heap.size w w' := by
  have HR := Lib.hid (show readK s = if tokB (Lib.cut (lowS (Lib.trimS (Lib.cut s [59]).1 [32, 9])) [47]).1 && (!(Lib.cut (lowS (Lib.trimS (Lib.cut s [59]).1 [32, 9])) [47]).2.2 || tokB (Lib.cut (lowS (Lib.trimS (Lib.cut s [59]).1 [32, 9])) [47]).2.1) then (moreP (Lib.cut s [59]).2.2 ((Lib.cut s [59]).2.1.length + 1) (Lib.cut s [59]).2.1).map fun l => (lowS (Lib.trimS (Lib.cut s [59]).1 [32, 9]), l) else none from rfl)
  have hcl := cut_le s [59]
  go_enter Tryz.func34, Tryz.ntmps34
  go_wp2_with fail
  refine (cutS s [59] _ (by omega) hg).mono ?_
  rintro e w1 ⟨rfl, B⟩
  generalize Lib.cut s [59] = c at hcl HR ⊢
  obtain ⟨c1, c2, ok⟩ := c
  simp only at hcl HR ⊢
  have htl := trimS_le c1 [32, 9]
  go_wp2_with fail
  refine (trimStr c1 [32, 9] _ (by omega) (by decide) (by decide)).mono ?_
  rintro e w2 ⟨rfl, hb⟩
  have B := B.trans (hb.mono B.size)
  clear hb
  generalize Lib.trimS c1 [32, 9] = t at htl HR ⊢
  go_wp2_with fail
  refine (small_any t _ (by omega)).mono ?_
  rintro e w3 ⟨rfl, hb⟩
  have B := B.trans (hb.mono B.size)
  have hml : (lowS t).length ≤ 1000000000 := by simp [lowS]; omega
  clear hb htl
  generalize lowS t = m at hml HR ⊢
  go_wp2_with fail
  refine (cutS m [47] _ (by omega) (hg.next B)).mono ?_
  rintro e w4 ⟨rfl, hb⟩
  have B := B.trans (hb.mono B.size)
  clear hb
  have hdl := cut_le m [47]
  have hdc := Lib.hid (cut_contains m [47])
  generalize Lib.cut m [47] = d at hdl hdc HR ⊢
  obtain ⟨d1, d2, dok⟩ := d
  simp only at hdl hdc HR ⊢
  go_upto_region 4 with fail
  go_cut [42] (fun t wx => t = .bool (!(tokB d1 && (!dok || tokB d2))) ∧ Below w.heap.size w wx)
  case first =>
    go_wp2_with fail
    refine (token_any d1 _ (by omega)).mono ?_
    rintro e w5 ⟨rfl, hb⟩
    have B := B.trans (hb.mono B.size)
    clear hb
    generalize hb1 : tokB d1 = b1
    have Hb1 := Lib.hid hb1; clear hb1
    cases b1 with
    | false =>
      go_wp2_with fail
      go_meet
      exact ⟨by rw [Hb1.out]; rfl, B⟩
    | true =>
      go_wp2_with fail
      refine (containsS m [47] _ (by omega) (hg.next B)).mono ?_
      rintro e w' ⟨rfl, rfl⟩
      rw [hdc.out]
      cases dok with
      | false =>
        go_wp2_with fail
        go_meet
        exact ⟨by rw [Hb1.out]; rfl, B⟩
      | true =>
        go_wp2_with fail
        refine (token_any d2 _ (by omega)).mono ?_
        rintro e w6 ⟨rfl, hb⟩
        have B := B.trans (hb.mono B.size)
        clear hb
        go_wp2_with fail
        go_meet
        exact ⟨by rw [Hb1.out]; rfl, B⟩
  case rest =>
  clear B
  obtain ⟨rfl, B⟩ := hcut
  obtain ⟨w5, rfl⟩ : ∃ x : World, x = wc := ⟨_, rfl⟩
  clear hdc hdl
  generalize (tokB d1 && (!dok || tokB d2)) = good at HR ⊢
  cases good with
  | false =>
    have HN := Lib.hid (show readK s = none from by rw [HR.out]; rfl)
    go_wp2_with fail
    go_ret3
    exact ⟨Or.inr ⟨HN.out, rfl⟩, B⟩
  | true =>
    have HN := Lib.hid (show readK s = (moreP ok (c2.length + 1) c2).map fun l => (m, l) from by rw [HR.out]; rfl)
    clear HR
    have HM := Lib.hid (show moreP ok (c2.length + 1) c2 = moreP ok (c2.length + 1) c2 from rfl)
    generalize htot : moreP ok (c2.length + 1) c2 = tot at HN
    have Htot := Lib.hid htot; clear htot HM
    simp only [Bool.not_true]
    go_wp2_with fail
    go_loopw [6, 7, 11] (fun t b o wr => ∃ (rest : Bs) (ok : Bool) (out : List Fld) (fuel : Nat), t = .string ⟨rest.toArray⟩ ∧ b = .bool ok ∧ OwnP wr w.heap.size o out ∧ rest.length ≤ 1000000000 ∧ out.length + rest.length ≤ 1000000000 ∧ rest.length < fuel ∧ (moreP ok fuel rest).map (out ++ ·) = tot ∧ Below w.heap.size w wr) (fun t b _ _ => lenOf t + okOf b)
    case atStart => exact ⟨c2, ok, [], c2.length + 1, rfl, rfl, OwnG.nil _ _ _ _ _, by omega, by simp; omega, by omega, by rw [Htot.out]; simp, B⟩
    case round =>
      clear B
      obtain ⟨rest, ok, out, fuel, rfl, rfl, hown, hrl, hol, hfu, hall, B⟩ := hrel
      have Hall := Lib.hid hall; clear hall
      cases ok with
      | false =>
        have HE := Lib.hid (show readK s = some (m, out) from by rw [HN.out, ← Hall.out]; simp [moreP])
        go_wp2_with fail
        go_ret3
        exact ⟨Or.inl ⟨m, out, _, HE.out, rfl, hown⟩, B⟩
      | true =>
        obtain ⟨fuel, rfl⟩ : ∃ n, fuel = n + 1 := ⟨fuel - 1, by omega⟩
        have HP := Lib.hid (show moreP true (fuel + 1) rest = match paramOf rest with | none => none | some (f, r) => match r with | [] => some [f] | c :: r' => if c = 59 then (paramsF fuel r').map (f :: ·) else none from rfl)
        have HO := Lib.hid (show paramOf rest = if (Lib.cut (Lib.trimLeftS rest [32, 9]) [61]).2.2 && tokB (Lib.trimRightS (Lib.cut (Lib.trimLeftS rest [32, 9]) [61]).1 [32, 9]) then (if (saidT (Lib.trimLeftS (Lib.cut (Lib.trimLeftS rest [32, 9]) [61]).2.1 [32, 9])).2.2 then some ((lowS (Lib.trimRightS (Lib.cut (Lib.trimLeftS rest [32, 9]) [61]).1 [32, 9]), (saidT (Lib.trimLeftS (Lib.cut (Lib.trimLeftS rest [32, 9]) [61]).2.1 [32, 9])).1), Lib.trimLeftS (saidT (Lib.trimLeftS (Lib.cut (Lib.trimLeftS rest [32, 9]) [61]).2.1 [32, 9])).2.1 [32, 9]) else none) else none from rfl)
        have HF := Lib.hid (show paramOf rest = none → readK s = none from fun h => by rw [HN.out, ← Hall.out, HP.out, h]; rfl)
        have htl := trimL_le rest [32, 9]
        have hple := Lib.hid (fun (f : Fld) (r : Bs) (h : paramOf rest = some (f, r)) => paramOf_le h)
        go_wp2_with fail
        refine (trimL rest [32, 9] _ (by decide) (by decide)).mono ?_
        rintro e w6 ⟨rfl, hb⟩
        have hown := OwnG.next hown hb
        have B := B.trans (hb.mono B.size)
        clear hb
        generalize Lib.trimLeftS rest [32, 9] = t at htl HO ⊢
        have hcl := cut_le t [61]
        go_wp2_with fail
        refine (cutS t [61] _ (by omega) (hg.next B)).mono ?_
        rintro e w7 ⟨rfl, hb⟩
        have hown := OwnG.next hown hb
        have B := B.trans (hb.mono B.size)
        clear hb
        generalize Lib.cut t [61] = c at hcl HO ⊢
        obtain ⟨a1, a2, aok⟩ := c
        simp only at hcl HO ⊢
        have hrl2 := trimR_le a1 [32, 9]
        go_wp2_with fail
        refine (trimR a1 [32, 9] _ (by omega) (by decide) (by decide)).mono ?_
        rintro e w8 ⟨rfl, hb⟩
        have hown := OwnG.next hown hb
        have B := B.trans (hb.mono B.size)
        clear hb
        generalize Lib.trimRightS a1 [32, 9] = nm at hrl2 HO ⊢
        cases aok with
        | false =>
          have HN2 := Lib.hid (HF.out (by rw [HO.out]; rfl))
          go_wp2_with fail
          go_ret3
          exact ⟨Or.inr ⟨HN2.out, rfl⟩, B⟩
        | true =>
        go_wp2_with fail
        refine (token_any nm _ (by omega)).mono ?_
        rintro e w9 ⟨rfl, hb⟩
        have hown := OwnG.next hown hb
        have B := B.trans (hb.mono B.size)
        clear hb
        generalize tokB nm = bt at HO ⊢
        cases bt with
        | false =>
          have HN2 := Lib.hid (HF.out (by rw [HO.out]; rfl))
          go_wp2_with fail
          go_ret3
          exact ⟨Or.inr ⟨HN2.out, rfl⟩, B⟩
        | true =>
        have hll : (lowS nm).length ≤ 1000000000 := by simp [lowS]; omega
        go_wp2_with fail
        refine (small_any nm _ (by omega)).mono ?_
        rintro e w10 ⟨rfl, hb⟩
        have hown := OwnG.next hown hb
        have B := B.trans (hb.mono B.size)
        clear hb
        generalize lowS nm = ln at hll HO ⊢
        have htl2 := trimL_le a2 [32, 9]
        have kf := Blk.new w10 #[.string ⟨ln.toArray⟩, .string ByteArray.empty] 119
        have K := (Below.refl w10.heap.size w10).alloc (Nat.le_refl _) (.cells #[.string ⟨ln.toArray⟩, .string ByteArray.empty] 119)
        have B0 := B.size
        go_wp2_with fail
        refine (trimL a2 [32, 9] _ (by decide) (by decide)).mono ?_
        rintro e w11 ⟨rfl, hb⟩
        have kf := kf.next hb kf.lt
        have K := K.trans (hb.mono K.size)
        clear hb
        generalize Lib.trimLeftS a2 [32, 9] = t2 at htl2 HO ⊢
        have hsl := saidT_le t2
        go_wp2_with fail
        refine (said_any t2 _ (by omega)).mono ?_
        rintro e w12 ⟨rfl, hb⟩
        have kf := kf.next hb kf.lt
        have K := K.trans (hb.mono K.size)
        clear hb
        generalize saidT t2 = x at hsl HO ⊢
        obtain ⟨v, r, vok⟩ := x
        simp only at hsl HO
        rw [show saidV (v, r, vok) = .tuple #[.string ⟨v.toArray⟩, .string ⟨r.toArray⟩, .bool vok] from rfl]
        have kc0 := kf.cell 0
        have kc1 := kf.cell 1
        have kfr := kf.free 1
        have KS := K.setCell (p := ⟨w10.heap.size, 1, none⟩) (Nat.le_refl _) (.string ⟨v.toArray⟩)
        have hownS := OwnG.next hown KS
        have BS := B.trans (KS.mono B0)
        clear K kf
        cases vok with
        | false =>
          have HN2 := Lib.hid (HF.out (by rw [HO.out]; rfl))
          go_wp2_with fail
          go_ret3
          exact ⟨Or.inr ⟨HN2.out, rfl⟩, BS⟩
        | true =>
        have HPO := Lib.hid (show paramOf rest = some ((ln, v), Lib.trimLeftS r [32, 9]) from by rw [HO.out]; rfl)
        clear HO HF
        have htl3 := trimL_le r [32, 9]
        have hsz := BS.size
        go_wp2_with (at_builtin; refine appP rfl _ _ rfl w.heap.size _ out (ln, v) w12.heap.size 1 rfl (OwnG.alloc hownS _) rfl (cellF1n (w12.setCell ⟨w10.heap.size, 1, none⟩ (.string ⟨v.toArray⟩)) (ln, v) _ _ (by simp)) (by omega) (by simp at hsz ⊢; omega) ?_; intro v' w13 hown13 hg13 hb13)
        have B13 := (BS.alloc BS.size _).trans hb13
        go_wp2_with fail
        refine (trimL r [32, 9] _ (by decide) (by decide)).mono ?_
        rintro e w14 ⟨rfl, hb⟩
        have hown14 := OwnG.next hown13 hb
        have B14 := B13.trans (hb.mono B13.size)
        clear hb hown13 hownS kc0 kc1 kfr
        have Hle := Lib.hid (hple.out _ _ HPO.out)
        generalize Lib.trimLeftS r [32, 9] = z at htl3 HPO Hle ⊢
        have hle := Hle.out
        simp only at hle
        cases z with
        | nil =>
          have HQ := Lib.hid (show (moreP false fuel []).map ((out ++ [(ln, v)]) ++ ·) = tot from by rw [← Hall.out, HP.out, HPO.out]; simp [moreP])
          clear Hall HP HPO
          go_wp2_with fail
          go_roundw
          case rel => exact ⟨[], false, out ++ [(ln, v)], fuel + 1, rfl, rfl, hown14, by simp, by simp; omega, by simp, HQ.out, B14⟩
          case measure => simp [okOf]
        | cons c z' =>
          by_cases h59 : c = 59
          · have HQ := Lib.hid (show (moreP true fuel z').map ((out ++ [(ln, v)]) ++ ·) = tot from by
              rw [← Hall.out, HP.out, HPO.out]
              simp only [h59, if_true, moreP]
              cases paramsF fuel z' <;> simp)
            have e59 : ((c.toNat : Int) != 59) = false := by rw [h59]; rfl
            simp only [List.length_cons] at hle
            clear Hall HP HPO h59
            go_wp2_with fail
            go_roundw
            case rel => exact ⟨z', true, out ++ [(ln, v)], fuel, rfl, rfl, hown14, by omega, by simp; omega, by omega, HQ.out, B14⟩
            case measure => simp [okOf]; omega
          · have HE := Lib.hid (show readK s = none from by
              rw [HN.out, ← Hall.out, HP.out, HPO.out]
              simp only [h59, if_false]; rfl)
            have e59 : ((c.toNat : Int) != 59) = true := by
              rw [bne_iff_ne]; intro h; exact h59 (UInt8.toNat_inj.1 (by simp; omega))
            clear Hall HP HPO h59
            go_wp2_with fail
            go_ret3
            exact ⟨Or.inr ⟨HE.out, rfl⟩, B14⟩
set_option maxHeartbeats 4000000 in
set_option maxRecDepth 100000 in
theorem getPar_any (v : Value) (l : List Fld) (s : Bs) (w : World) (hr : RdF w v l) (hlen : l.length ≤ 1000000000000) :
    Calls Tryz.prog 36 #[v, .string ⟨s.toArray⟩] w fun e w' => e = .returned (.tuple #[.string ⟨((getP l s).getD []).toArray⟩, .bool (getP l s).isSome]) ∧ Below w.heap.size w w' := by
  obtain ⟨a, cap, rfl, hc⟩ := hr.open
  have HC := Lib.hid hc; clear hc hr
  go_enter Tryz.func36, Tryz.ntmps36
  go_wp2_with fail
  go_loopw [10] (fun i wr => ∃ k : Nat, i = .int .i64 k ∧ k ≤ l.length ∧ getP l s = getP (l.drop k) s ∧ Below w.heap.size w wr) (fun i _ => l.length - (intOf i).toNat)
  case atStart => exact ⟨0, rfl, by omega, by simp, Below.refl _ _⟩
  case round =>
    obtain ⟨k, rfl, hk, hall, B⟩ := hrel
    have Hall := Lib.hid hall; clear hall
    by_cases hlt : k < l.length
    · obtain ⟨b, rfl, hb0, h1, h2⟩ := HC.out k hlt
      have HD := Lib.hid (show getP (l.drop k) s = if l[k].1 = s then some l[k].2 else getP (l.drop (k + 1)) s from by rw [List.drop_eq_getElem_cons hlt]; rfl)
      have c1 := (B.cell (p := ⟨b, k * 2, none⟩) hb0).trans h1
      have c2 := (B.cell (p := ⟨b, k * 2 + 1, none⟩) hb0).trans h2
      clear h1 h2
      generalize l[k] = f at HD c1 c2
      obtain ⟨x, y⟩ := f
      simp only at HD c1 c2
      have kc := (Blk.new wr #[.string ⟨x.toArray⟩, .string ⟨y.toArray⟩] 119).cell
      have B := B.alloc B.size (.cells #[.string ⟨x.toArray⟩, .string ⟨y.toArray⟩] 119)
      by_cases he : x = s
      · have hq : (x == s) = true := by rw [beq_iff_eq]; exact he
        have HG := Lib.hid (show getP l s = some y from by rw [Hall.out, HD.out, if_pos he])
        clear he
        go_wp2_with fail
        go_ret2
        exact ⟨by rw [HG.out]; rfl, B⟩
      · have hq : (x == s) = false := by rw [beq_eq_false_iff_ne]; exact he
        have HG := Lib.hid (show getP l s = getP (l.drop (k + 1)) s from by rw [Hall.out, HD.out, if_neg he])
        clear he
        go_wp2_with fail
        go_roundw
        case rel => exact ⟨k + 1, by go_num, by omega, HG.out, B⟩
        case measure => simp [intOf]; omega
    · obtain rfl : k = l.length := by omega
      have HG := Lib.hid (show getP l s = none from by rw [Hall.out, List.drop_length]; rfl)
      go_wp2_with fail
      go_ret2
      exact ⟨by rw [HG.out]; rfl, B⟩
theorem race_disable (w : World) : (callFunc 137 #[]).run Tryz.prog w = .ok (.value (.tuple #[])) w := run_call_mark0 Tryz.func137 (by kernel_rfl) (by kernel_rfl) (by kernel_rfl) .disable (by kernel_rfl) w
theorem race_enable (w : World) : (callFunc 138 #[]).run Tryz.prog w = .ok (.value (.tuple #[])) w := run_call_mark0 Tryz.func138 (by kernel_rfl) (by kernel_rfl) (by kernel_rfl) .enable (by kernel_rfl) w
theorem race_acquire (a : Addr) (w : World) : (callFunc 149 #[.pointer (some a)]).run Tryz.prog w = .ok (.value (.tuple #[])) w := run_call_marked Tryz.func149 (by kernel_rfl) (by kernel_rfl) (by kernel_rfl) .acquire (by kernel_rfl) a w
theorem race_merge (a : Addr) (w : World) : (callFunc 136 #[.pointer (some a)]).run Tryz.prog w = .ok (.value (.tuple #[])) w := run_call_marked Tryz.func136 (by kernel_rfl) (by kernel_rfl) (by kernel_rfl) .releaseMerge (by kernel_rfl) a w
set_option maxHeartbeats 2000000 in
set_option maxRecDepth 100000 in
theorem store_deferred (a : Addr) (x : Value) (u : FrameMode) (w : World) (hc : w.cell? a = some x) (hz : w.frozen? a = false) :
    CallsD Tryz.prog 323 #[.pointer (some a), .bool true] u w fun e u' w' => u' = u ∧ (e = .returned (.tuple #[]) ∧ w' = w.drew.setCell a (.int .u32 1)) := by
  have hc' : w.drew.cell? a = some x := by go_simp
  have hz' : w.drew.frozen? a = false := by go_simp
  have hst := run_call_store (P := Tryz.prog) Tryz.func338 (by kernel_rfl) (by kernel_rfl) (by kernel_rfl) (by kernel_rfl) (k := .u32) (y := 1) hc' hz'
  go_enter_d Tryz.func323, Tryz.ntmps323
  go_wp2
  go_region_calls
  all_goals (go_end0; exact ⟨rfl, rfl⟩)
set_option maxHeartbeats 2000000 in
set_option maxRecDepth 100000 in
theorem unlock_deferred (a : Addr) (u : FrameMode) (w : World) (hc : w.cell? a = some (.int .i32 1)) (hz : w.frozen? a = false) :
    CallsD Tryz.prog 322 #[.pointer (some a)] u w fun e u' w' => u' = u ∧ (e = .returned (.tuple #[]) ∧ w' = w.setCell a (.int .i32 0)) := by
  have hd := race_disable
  have he := race_enable
  have hr := race_merge
  have hadd := run_call_add (P := Tryz.prog) Tryz.func346 (by kernel_rfl) (by kernel_rfl) (by kernel_rfl) .i32 (by kernel_rfl) (y := -1) (s := 0) hc hz (by simp [go_sem]; rfl)
  have hcv := run_convert_to_unsafe (P := Tryz.prog) (src := 410) (dst := 174) Tryz.underlying410 Tryz.underlying174 (by kernel_rfl) hc
  go_enter_d Tryz.func322, Tryz.ntmps322
  go_wp2
  go_end0
  all_goals go_wp2
  all_goals go_end0
  all_goals exact ⟨rfl, rfl⟩
set_option maxHeartbeats 2000000 in
set_option maxRecDepth 100000 in
theorem lock_free (a : Addr) (w : World) (hc : w.cell? a = some (.int .i32 0)) (hz : w.frozen? a = false) :
    Calls Tryz.prog 321 #[.pointer (some a)] w fun e w' => e = .returned (.tuple #[]) ∧ w' = w.setCell a (.int .i32 1) := by
  have hd := race_disable
  have he := race_enable
  have ha := race_acquire
  have hcas := run_call_cas_hit (P := Tryz.prog) Tryz.func344 (by kernel_rfl) (by kernel_rfl) (by kernel_rfl) .i32 (by kernel_rfl) (y := 1) hc hz
  have hc' : (w.setCell a (.int .i32 1)).cell? a = some (.int .i32 1) := World.cell?_setCell_same w a _ hc
  have hcv := run_convert_to_unsafe (P := Tryz.prog) (src := 410) (dst := 174) Tryz.underlying410 Tryz.underlying174 (by kernel_rfl) hc'
  go_enter Tryz.func321, Tryz.ntmps321
  go_wp2
  first | go_end0 | (simp only [Exit.inBlock, Exit.then]; refine bodyPost_ret (results_none rfl _ _ _) rfl ?_) | refine bodyPost_ret (results_none rfl _ _ _) rfl ?_
  all_goals go_wp2
  all_goals go_end0
  all_goals exact ⟨rfl, rfl⟩
def OnceMid (b : Nat) (R : World → Prop) (w : World) : Prop := ∃ r v, Blk w b #[.int .u32 0, .int .i32 1, .int .u32 0, r, v] 327 ∧ R w
def OnceEnd (b : Nat) (R : World → Prop) (e : Ending) (w' : World) : Prop := ∃ w1, OnceMid b R w1 ∧ e = .returned (.tuple #[]) ∧ w' = (w1.drew.setCell ⟨b, 0, none⟩ (.int .u32 1)).setCell ⟨b, 1, none⟩ (.int .i32 0)
set_option maxHeartbeats 4000000 in
set_option maxRecDepth 100000 in
theorem slow_any (b : Nat) (r v : Value) (R : World → Prop) (w : World) (hb : Blk w b #[.int .u32 0, .int .i32 0, .int .u32 0, r, v] 327)
    (hf : Calls Tryz.prog 266 #[.pointer (some ⟨b, 0, none⟩)] (w.setCell ⟨b, 1, none⟩ (.int .i32 1)) fun e w' => e = .returned (.tuple #[]) ∧ OnceMid b R w') :
    Calls Tryz.prog 302 #[.pointer (some ⟨b, 0, none⟩), .func (.func 266) #[.pointer (some ⟨b, 0, none⟩)] #[]] w fun e w' => OnceEnd b R e w' := by
  have hb1 : Blk (w.setCell ⟨b, 1, none⟩ (.int .i32 1)) b #[.int .u32 0, .int .i32 1, .int .u32 0, r, v] 327 := hb.set 1 (.int .i32 1)
  have hl := run_call_load (P := Tryz.prog) Tryz.func320 (by kernel_rfl) (by kernel_rfl) (by kernel_rfl) .u32 (by kernel_rfl) (w := w.setCell ⟨b, 1, none⟩ (.int .i32 1)) (a := ⟨b, 0, none⟩) (x := 0) (hb1.cell 0)
  have hnot : ∀ (x : Bool) (w : World), (Op.unary .not (.bool x)).run Tryz.prog w = .ok (.bool (!x)) w := fun _ _ => rfl
  have h1 := hb.cell 1
  have f1 := hb.free 1
  go_enter_defers Tryz.func302, Tryz.ntmps302
  go_wp2_with (first | (go_at_call 321; refine (lock_free ⟨b, 1, none⟩ _ h1 f1).mono ?_; rintro e w' ⟨rfl, rfl⟩) | (go_at_call 301; go_in))
  refine hf.mono ?_
  rintro e w2 ⟨rfl, hmid⟩
  obtain ⟨r2, v2, hb2, hR⟩ := hmid
  go_wp2
  refine leaves_cons (f := 323) (args := #[.pointer (some ⟨b, 0, none⟩), .bool true]) (by simp) (by simp [go_sem]) ?_
  refine (store_deferred ⟨b, 0, none⟩ (.int .u32 0) .returning _ (hb2.cell 0) (hb2.free 0)).mono ?_
  rintro e u' w'' ⟨rfl, rfl, rfl⟩
  have hb3 := hb2.drew.set 0 (.int .u32 1)
  refine leaves_cons (f := 322) (args := #[.pointer (some ⟨b, 1, none⟩)]) (by simp [settle]) (by simp [go_sem]) ?_
  refine (unlock_deferred ⟨b, 1, none⟩ _ _ (hb3.cell 1) (hb3.free 1)).mono ?_
  rintro e u' w'' ⟨rfl, rfl, rfl⟩
  simp [Leaves, settle, results, Tryz.results302]
  exact ⟨w2, ⟨r2, v2, hb2, hR⟩, rfl, rfl⟩
set_option maxHeartbeats 4000000 in
set_option maxRecDepth 100000 in
theorem do_first (b : Nat) (r v : Value) (R : World → Prop) (w : World) (hb : Blk w b #[.int .u32 0, .int .i32 0, .int .u32 0, r, v] 327)
    (hf : Calls Tryz.prog 266 #[.pointer (some ⟨b, 0, none⟩)] (w.setCell ⟨b, 1, none⟩ (.int .i32 1)) fun e w' => e = .returned (.tuple #[]) ∧ OnceMid b R w') :
    Calls Tryz.prog 265 #[.pointer (some ⟨b, 0, none⟩), .func (.func 266) #[.pointer (some ⟨b, 0, none⟩)] #[]] w fun e w' => OnceEnd b R e w' := by
  have hl := run_call_load (P := Tryz.prog) Tryz.func320 (by kernel_rfl) (by kernel_rfl) (by kernel_rfl) .u32 (by kernel_rfl) (hb.cell 0)
  have hnot : ∀ (x : Bool) (w : World), (Op.unary .not (.bool x)).run Tryz.prog w = .ok (.bool (!x)) w := fun _ _ => rfl
  go_enter Tryz.func265, Tryz.ntmps265
  go_wp2_with (first | (go_at_call 302; refine (slow_any b r v R _ hb hf).mono ?_; rintro e w' ⟨w1, h1, rfl, rfl⟩) | (go_at_call 301; go_in))
  go_end0
  exact ⟨w1, h1, rfl, rfl⟩
end Go.Proofs.YtignjjnflcpiiaaGreatDoor
