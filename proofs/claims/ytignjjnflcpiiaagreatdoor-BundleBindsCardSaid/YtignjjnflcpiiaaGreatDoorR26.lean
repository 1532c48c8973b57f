/- part.Write. Condition: what the variables hold; so much in the part; How much a part that was read can have. No program, no condition; address.Dots gives a path without its dots. Condition: the path takes less than 2^32 bytes (the shelf's bound on Split). -/
import Derived.Test.YtignjjnflcpiiaaGreatDoorR18
import Derived.Test.YtignjjnflcpiiaaGreatDoorR25
namespace Go.Proofs.YtignjjnflcpiiaaGreatDoor
open Go Go.RowKit
theorem pwrite_any (wb : Nat) (hml : 8 < wb) (d : Nat) : ∀ (n0 left : Nat) (raw : PRaw) (p : Prt) (dp li : Int) (w : World), Hid (dp = 5 - (d : Int)) → d ≤ 4 → Hid (li = (left : Int)) → left ≤ 40 → Gz w → Blk w wb #[.int .i64 li] 172 → RdPrt (fun b => b ≠ wb) n0 w raw p → PrtIn n0 p →
      Calls Tryz.prog 106 #[.pointer (some ⟨wb, 0, none⟩), prtV raw, .int .i64 dp] w fun e w' => WriteOr wb left (partW d left p) e w' ∧ BelowO wb w.heap.size w w' := by
  induction d with
  | zero =>
    intro n0 left raw p dp li w hdp _ hli hl hg hb hr hp
    obtain ⟨⟨ha, hn, hc⟩, body, m, ⟨pa, pn, pc⟩⟩ := raw
    refine (pwrite_low ha pa hn hc pn pc body m wb dp li w hb (by have := hli.out; omega) (by have := hdp.out; omega) (Or.inl (by have := hdp.out; omega))).mono ?_
    rintro e w' ⟨rfl, h2⟩
    exact ⟨Or.inr ⟨4, _, _, rfl, rfl, Or.inl rfl⟩, h2⟩
  | succ d ih =>
    intro n0 left raw p dp li w hdp hd4 hli hl hg hb hr hp
    cases left with
    | zero =>
      obtain ⟨⟨ha, hn, hc⟩, body, m, ⟨pa, pn, pc⟩⟩ := raw
      refine (pwrite_low ha pa hn hc pn pc body m wb dp li w hb (by have := hli.out; omega) (by have := hdp.out; omega) (Or.inr (by have := hli.out; omega))).mono ?_
      rintro e w' ⟨rfl, h2⟩
      exact ⟨Or.inr ⟨4, _, _, rfl, rfl, Or.inl rfl⟩, h2⟩
    | succ lf =>
      cases n0 with
      | zero => exact hr.elim
      | succ n0 =>
        obtain ⟨h, b, m, ps⟩ := p
        obtain ⟨⟨ha, hn, hc⟩, body, m', ⟨pa, pn, pc⟩⟩ := raw
        obtain ⟨rfl, rfl, hrh, raws, hrp, hrl, hch⟩ := hr
        obtain ⟨hp1, hp2, hp3, hp4⟩ := hp
        have hhn : hn = h.length := by
          obtain ⟨a, c, e, _⟩ := hrh
          injection e
        have hpn : pn = ps.length := by
          obtain ⟨a, c, e, _⟩ := hrp
          injection e with _ e _
          exact e.trans hrl
        subst hhn hpn
        cases m' with
        | false => exact pwrite_one d lf ha pa hc pc h body ps wb dp li w hdp hd4 hli hl hg hml hb hrh hp1 hp2
        | true => exact pwrite_two d lf n0 ha pa hc pc h body ps raws wb dp li w hdp hd4 hli hl hg hml hb hrh hp1 hp3 hrp hrl (Lib.hid hch) (Lib.hid hp4) (fun left raw p dp li w a1 a2 a3 a4 a5 a6 a7 => ih n0 left raw p dp li w a1 (by omega) a2 a3 a4 a5 a6 a7)
def WrOr (r : Except Int Bs) (e : Ending) : Prop :=
  (∃ s, r = .ok s ∧ s.length ≤ 20000 ∧ e = .returned (.tuple #[.string ⟨s.toArray⟩, .nilIface])) ∨ (∃ c, r = .error c ∧ e = .returned (.tuple #[.string ⟨#[]⟩, .iface 30 (.int .i64 c)]))
set_option maxHeartbeats 4000000 in
set_option maxRecDepth 100000 in
theorem pWrite_any (n0 : Nat) (raw : PRaw) (p : Prt) (w : World) (hr : RdPrt (fun _ => True) n0 w raw p) (hp : PrtIn n0 p) (hg : Gz w) :
    Calls Tryz.prog 47 #[prtV raw] w fun e w' => WrOr (writeP p) e ∧ Below w.heap.size w w' := by
  have hgs := hg.size
  have HP := Lib.hid (show writeP p = match partW 4 40 p with
    | .error e => .error e
    | .ok (s, _) => if 20000 < s.length then .error 4 else .ok s from rfl)
  have hI := fun W h1 h2 h3 => pwrite_any (w.heap.size + 1) (by omega) 4 n0 40 raw p 1 40 W (Lib.hid rfl) (by decide) (Lib.hid rfl) (by decide) h1 h2 h3 hp
  have hr := RdPrt.weak (Q := fun b => b ≠ w.heap.size + 1) (fun b _ h => by omega) hr
  obtain ⟨⟨ha, hn, hc⟩, body, m, ⟨pa, pn, pc⟩⟩ := raw
  simp only [prtV, slv] at hI ⊢
  have B1 := ((Below.refl w.heap.size w).alloc (Nat.le_refl _) (.cells #[.slice ha hn hc, .string ⟨body.toArray⟩, .bool m, .slice pa pn pc] 44)).alloc (by simp) (.cells #[.int .i64 40] 172)
  have hkp := (Blk.new w #[.slice ha hn hc, .string ⟨body.toArray⟩, .bool m, .slice pa pn pc] 44).alloc (.cells #[.int .i64 40] 172)
  have hkl := Blk.new (w.alloc (.cells #[.slice ha hn hc, .string ⟨body.toArray⟩, .bool m, .slice pa pn pc] 44)) #[.int .i64 40] 172
  rw [World.size_alloc] at hkl
  have hI := hI _ (hg.next B1) hkl (hr.next B1)
  have hsz : ((w.alloc (.cells #[.slice ha hn hc, .string ⟨body.toArray⟩, .bool m, .slice pa pn pc] 44)).alloc (.cells #[.int .i64 40] 172)).heap.size = w.heap.size + 1 + 1 := by simp
  have hg1 := hg.next B1
  have kp := hkp.cell
  clear hr hg
  generalize partW 4 40 p = r at hI HP
  go_enter Tryz.func47, Tryz.ntmps47
  go_wp2_with fail
  generalize World.alloc _ _ = W1 at hI B1 hkp hkl hsz hg1 kp ⊢
  with_reducible refine hI.mono ?_
  rintro e w2 ⟨hh, b2⟩
  have B2 := B1.trans ((b2.mono (B' := w.heap.size) (by omega)).shut (by omega))
  have hg2 := hg1.nextO b2 (by omega)
  clear hI b2 kp
  rcases hh with ⟨s, n, rfl, _, _, rfl, _⟩ | ⟨c, s, v, rfl, rfl, hv⟩
  · by_cases h2 : 20000 < s.length
    · have HN := Lib.hid (show writeP p = .error 4 from by rw [HP.out]; simp only; rw [if_pos h2])
      have h2 : (20000 : Int) < s.length := by omega
      clear HP
      go_wp2_with fail
      go_ret2
      exact ⟨Or.inr ⟨4, HN.out, rfl⟩, B2⟩
    · have HN := Lib.hid (show writeP p = .ok s from by rw [HP.out]; simp only; rw [if_neg h2])
      have hs : s.length ≤ 20000 := by omega
      have h2 : ¬ (20000 : Int) < s.length := by omega
      clear HP
      go_wp2_with fail
      go_ret2
      exact ⟨Or.inl ⟨s, HN.out, hs, rfl⟩, B2⟩
  · have HN := Lib.hid (show writeP p = .error c from HP.out)
    have hT := tell_any v c w2 hv.v hg2.r
    obtain ⟨t, x, rfl⟩ := hv.some
    clear HP
    go_wp2_with fail
    with_reducible refine hT.mono ?_
    rintro e w3 ⟨rfl, b3⟩
    go_wp2_with fail
    go_ret2
    exact ⟨Or.inr ⟨c, HN.out, rfl⟩, B2.trans (b3.mono B2.size)⟩
theorem closeOf_bd {s : Bs} {i : Nat} {op : Option Nat} {out : List Bs} (h : ∀ x ∈ out, x.length ≤ s.length) : (closeOf s i op out).length ≤ out.length + 1 ∧ ∀ x ∈ closeOf s i op out, x.length ≤ s.length := by
  unfold closeOf
  cases op with
  | none => exact ⟨by simp, h⟩
  | some o =>
    refine ⟨by simp, fun x hx => ?_⟩
    rcases List.mem_append.1 hx with hx | hx
    · exact h x hx
    · simp at hx; rw [hx]; unfold pieceOf; simp; omega
theorem cutQ_bd {s b : Bs} : ∀ (k i : Nat) (op : Option Nat) (out ps : List Bs), cutQ s b k i op out = some ps → (∀ x ∈ out, x.length ≤ s.length) → ps.length ≤ out.length + k ∧ ∀ x ∈ ps, x.length ≤ s.length
  | 0, _, _, _, _, h, _ => by cases h
  | k + 1, i, op, out, ps, h, ho => by
    have hc := closeOf_bd (i := i) (op := op) ho
    rcases Nat.lt_or_ge s.length i with hi | hi
    · rw [cutQ_end hi] at h; cases h
    · rw [cutQ_go hi] at h
      cases hm : markOf (Lib.cut (s.drop i) [13, 10]).1 b with
      | none =>
        rw [hm] at h
        have := cutQ_bd k _ _ _ _ h ho
        exact ⟨by omega, this.2⟩
      | some t =>
        rw [hm] at h
        simp only at h
        split at h
        · cases h; exact ⟨by omega, hc.2⟩
        · split at h
          · have := cutQ_bd k _ _ _ _ h hc.2
            exact ⟨by omega, this.2⟩
          · have := cutQ_bd k _ _ _ _ h ho
            exact ⟨by omega, this.2⟩
theorem cutB_bd {s b : Bs} {ps : List Bs} (h : cutB s b = some ps) : ps.length ≤ s.length + 2 ∧ ∀ x ∈ ps, x.length ≤ s.length := by
  have := cutQ_bd _ _ _ _ _ h (by simp)
  simpa using this
theorem eachR_mem {α β : Type} {f : Nat → α → Except Int (β × Nat)} : ∀ {l : List α} {n m : Nat} {ys : List β}, eachR f n l = .ok (ys, m) → ys.length = l.length ∧ ∀ y ∈ ys, ∃ x ∈ l, ∃ a b, f a x = .ok (y, b)
  | [], n, m, ys, h => by
    simp [eachR] at h
    rw [h.1]; simp
  | x :: l, n, m, ys, h => by
    unfold eachR at h
    cases hx : f n x with
    | error e => rw [hx] at h; cases h
    | ok r =>
      obtain ⟨y, n'⟩ := r
      rw [hx] at h
      simp only at h
      cases hr : eachR f n' l with
      | error e => rw [hr] at h; cases h
      | ok r =>
        obtain ⟨zs, k⟩ := r
        rw [hr] at h
        simp only [Except.ok.injEq, Prod.mk.injEq] at h
        obtain ⟨rfl, rfl⟩ := h
        have ih := eachR_mem hr
        refine ⟨by simp [ih.1], fun y' hy => ?_⟩
        rcases List.mem_cons.1 hy with rfl | hy
        · exact ⟨x, by simp, n, n', hx⟩
        · obtain ⟨x', h1, h2⟩ := ih.2 y' hy
          exact ⟨x', by simp [h1], h2⟩
def PrtSm : Nat → Prt → Prop
  | 0, _ => False
  | n + 1, .mk h b _ ps => weight h ≤ 20000 ∧ b.length ≤ 60002 ∧ ps.length ≤ 20002 ∧ ∀ p ∈ ps, PrtSm n p
theorem partR_sm : ∀ (d left : Nat) (s : Bs) (p : Prt) (n : Nat), partR d left s = .ok (p, n) → s.length ≤ 20000 → PrtSm d p
  | 0, _, _, _, _, h, _ => by cases h
  | d + 1, 0, _, _, _, h, _ => by cases h
  | d + 1, left + 1, s, p, n, h, hs => by
    unfold partR at h
    cases hr : readH s with
    | none => rw [hr] at h; cases h
    | some x =>
      obtain ⟨l0, body⟩ := x
      rw [hr] at h
      simp only at h
      have h1 := readH_weight hr
      cases hc : cleanF l0 with
      | none => rw [hc] at h; cases h
      | some l =>
        rw [hc] at h
        simp only at h
        have h2 := cleanF_weight hc
        cases hb : boundF l with
        | none => rw [hb] at h; cases h
        | some ob =>
          rw [hb] at h
          cases ob with
          | none =>
            simp only at h
            cases hd : decodeF l body with
            | error e => rw [hd] at h; cases h
            | ok b =>
              rw [hd] at h
              simp only [Except.ok.injEq, Prod.mk.injEq] at h
              obtain ⟨rfl, _⟩ := h
              have := decodeF_len hd
              exact ⟨by omega, by omega, by simp, by simp⟩
          | some b =>
            simp only at h
            cases hq : cutB body b with
            | none => rw [hq] at h; cases h
            | some ps =>
              rw [hq] at h
              simp only at h
              have h3 := cutB_bd hq
              cases he : eachR (partR d) left ps with
              | error e => rw [he] at h; cases h
              | ok r =>
                obtain ⟨qs, m⟩ := r
                rw [he] at h
                simp only [Except.ok.injEq, Prod.mk.injEq] at h
                obtain ⟨rfl, _⟩ := h
                have h4 := eachR_mem he
                refine ⟨by omega, by simp, by omega, fun q hq => ?_⟩
                obtain ⟨x, hx, a, c, hf⟩ := h4.2 q hq
                exact partR_sm d a x q c hf (by have := h3.2 x hx; omega)
theorem readP_sm {s : Bs} {p : Prt} (h : readP s = .ok p) : PrtSm 4 p := by
  unfold readP at h
  split at h
  · cases h
  · cases hr : partR 4 40 s with
    | error e => rw [hr] at h; cases h
    | ok x =>
      obtain ⟨q, n⟩ := x
      rw [hr] at h
      cases h
      exact partR_sm 4 40 s _ n hr (by omega)
set_option maxHeartbeats 1000000 in
set_option maxRecDepth 100000 in
theorem dots_any (p : Bs) (w : World) (hl : p.length < 4294967281) (hg : Ground w) :
    Calls Tryz.prog 111 #[.string ⟨p.toArray⟩] w fun e w' => e = .returned (.string ⟨(dotsA p).toArray⟩) ∧ Below w.heap.size w w' := by
  have hS := splitOne p 47 w hl hg
  have hcnt : (splitC 47 p).length ≤ p.length + 1 := by rw [splitC_count]; have := List.count_le_length (a := (47 : UInt8)) (l := p); omega
  have hpos : 0 < (splitC 47 p).length := List.length_pos_iff.2 (splitC_ne 47 p)
  have hD : Hid (dotsA p = Lib.join (dotsUpto (splitC 47 p) (splitC 47 p).length) [47]) := Lib.hid rfl
  generalize splitC 47 p = l at hS hcnt hpos hD
  go_enter Tryz.func111, Tryz.ntmps111
  go_wp2_with fail
  refine hS.mono ?_
  rintro e w1 ⟨rfl, rfl⟩
  go_wp2_with fail
  go_loopw [3, 13] (fun v i wr => ∃ k : Nat, k ≤ l.length ∧ i = .int .i64 k ∧ OwnS wr (w.heap.size + 1) v (dotsUpto l k) ∧ Blk wr w.heap.size (strRow l) 9 ∧ Below w.heap.size w wr) (fun _ i _ => l.length - (intOf i).toNat)
  case atStart => exact ⟨0, Nat.zero_le _, rfl, World.ownsRow_nil _ _ _ _, Blk.new _ _ _, by go_grown⟩
  case round =>
    obtain ⟨k, hk, rfl, hown, hrow, hbel⟩ := hrel
    have hlt0 := hrow.lt
    by_cases hlt : k < l.length
    · have hc : wr.cell? ⟨w.heap.size, k, none⟩ = some (.string ⟨(l[k]).toArray⟩) := by rw [hrow.cell]; simp [strRow, hlt]
      have hol := dotsUpto_len l k
      have hSt := dotsUpto_succ hlt
      generalize l[k] = s at hc hSt
      generalize dotsUpto l k = o at hown hol hSt
      by_cases hla : k + 1 = l.length
      · have hlb : ((k : Int) + 1 == (l.length : Int)) = true := by rw [beq_iff_eq]; omega
        have hlc : (k + 1 == l.length) = true := by rw [beq_iff_eq]; exact hla
        rw [hlc] at hSt
        clear hla hlc
        have HSt := Lib.hid hSt; clear hSt
        by_cases h1 : s = [46]
        · subst h1
          go_wp2_with (at_builtin; refine appS rfl _ _ rfl (w.heap.size + 1) _ o [] wr.heap.size rfl (hown.alloc _) rfl ?_ (by omega) (by go_size) ?_)
          all_goals first
            | (exact (Blk.new _ _ _).cell 0)
            | (intro v' w2 hown2 hg2 hb2
               go_wp2_with fail
               go_roundw
               case rel => exact ⟨k + 1, by omega, by go_num, by rw [HSt.out, dotStep_dot _ true]; exact hown2, (hrow.alloc _).next hb2 (by omega), (hbel.alloc hbel.size _).trans (hb2.mono (by omega))⟩
               case measure => simp [intOf]; omega)
        · by_cases h2 : s = []
          · subst h2
            go_wp2_with (at_builtin; refine appS rfl _ _ rfl (w.heap.size + 1) _ o [] wr.heap.size rfl (hown.alloc _) rfl ?_ (by omega) (by go_size) ?_)
            all_goals first
              | (exact (Blk.new _ _ _).cell 0)
              | (intro v' w2 hown2 hg2 hb2
                 go_wp2_with fail
                 go_roundw
                 case rel => exact ⟨k + 1, by omega, by go_num, by rw [HSt.out, dotStep_end _ true _ (Or.inr rfl)]; exact hown2, (hrow.alloc _).next hb2 (by omega), (hbel.alloc hbel.size _).trans (hb2.mono (by omega))⟩
                 case measure => simp [intOf]; omega)
          · have h1b : (s == [46]) = false := by rw [beq_eq_false_iff_ne]; exact h1
            by_cases h3 : s = [46, 46]
            · subst h3
              rcases List.eq_nil_or_concat o with ho | ⟨o', y, ho⟩
              · subst ho
                obtain ⟨va, vc, rfl⟩ := hown.shape
                simp only [List.length_nil] at hown
                go_wp2_with (at_builtin; refine appS rfl _ _ rfl (w.heap.size + 1) _ [] [] wr.heap.size rfl (hown.alloc _) rfl ?_ (by decide) (by go_size) ?_)
                all_goals first
                  | (exact (Blk.new _ _ _).cell 0)
                  | (intro v' w2 hown2 hg2 hb2
                     go_wp2_with fail
                     go_roundw
                     case rel => exact ⟨k + 1, by omega, by go_num, by rw [HSt.out, dotStep_up _ true, if_pos rfl, upOf_nil]; exact hown2, (hrow.alloc _).next hb2 (by omega), (hbel.alloc hbel.size _).trans (hb2.mono (by omega))⟩
                     case measure => simp [intOf]; omega)
              · rw [List.concat_eq_append] at ho
                subst ho
                obtain ⟨g, cap, rfl, hcap, hgB, hpop, hcells⟩ := hown.shapeC
                rw [List.length_append] at hol
                simp only [List.length_cons, List.length_nil] at hol
                by_cases ho' : o' = []
                · subst ho'
                  have hc0 := hcells 0 y rfl
                  clear hcells
                  by_cases hy : y = []
                  · subst hy
                    go_wp2_with (at_builtin; refine appS rfl _ _ rfl (w.heap.size + 1) _ [[]] [] wr.heap.size rfl (hown.alloc _) rfl ?_ (by decide) (by go_size) ?_)
                    all_goals first
                      | (exact (Blk.new _ _ _).cell 0)
                      | (intro v' w2 hown2 hg2 hb2
                         go_wp2_with fail
                         go_roundw
                         case rel => exact ⟨k + 1, by omega, by go_num, by rw [HSt.out, dotStep_up _ true, if_pos rfl, List.nil_append, upOf_one]; exact hown2, (hrow.alloc _).next hb2 (by omega), (hbel.alloc hbel.size _).trans (hb2.mono (by omega))⟩
                         case measure => simp [intOf]; omega)
                  · have hyb : y.isEmpty = false := by rw [Bool.eq_false_iff]; simpa using hy
                    go_wp2_with (at_builtin; refine appS rfl _ _ rfl (w.heap.size + 1) _ [] [] wr.heap.size rfl (hpop.alloc _) rfl ?_ (by decide) (by go_size) ?_)
                    all_goals first
                      | (exact (Blk.new _ _ _).cell 0)
                      | (intro v' w2 hown2 hg2 hb2
                         go_wp2_with fail
                         go_roundw
                         case rel => exact ⟨k + 1, by omega, by go_num, by rw [HSt.out, dotStep_up _ true, if_pos rfl, upOf_pop (Or.inr hy)]; exact hown2, (hrow.alloc _).next hb2 (by omega), (hbel.alloc hbel.size _).trans (hb2.mono (by omega))⟩
                         case measure => simp [intOf]; omega)
                · have ho2 : 0 < o'.length := List.length_pos_iff.2 ho'
                  clear hcells
                  go_wp2_with (at_builtin; refine appS rfl _ _ rfl (w.heap.size + 1) _ o' [] wr.heap.size rfl (hpop.alloc _) rfl ?_ (by omega) (by go_size) ?_)
                  all_goals first
                    | (exact (Blk.new _ _ _).cell 0)
                    | (intro v' w2 hown2 hg2 hb2
                       go_wp2_with fail
                       go_roundw
                       case rel => exact ⟨k + 1, by omega, by go_num, by rw [HSt.out, dotStep_up _ true, if_pos rfl, upOf_pop (Or.inl ho')]; exact hown2, (hrow.alloc _).next hb2 (by omega), (hbel.alloc hbel.size _).trans (hb2.mono (by omega))⟩
                       case measure => simp [intOf]; omega)
            · have h3b : (s == [46, 46]) = false := by rw [beq_eq_false_iff_ne]; exact h3
              go_wp2_with (at_builtin; refine appS rfl _ _ rfl (w.heap.size + 1) _ o s wr.heap.size rfl (hown.alloc _) rfl ?_ (by omega) (by go_size) ?_)
              all_goals first
                | (exact (Blk.new _ _ _).cell 0)
                | (intro v' w2 hown2 hg2 hb2
                   go_wp2_with fail
                   go_roundw
                   case rel => exact ⟨k + 1, by omega, by go_num, by rw [HSt.out, dotStep_else _ _ _ _ h1 h2 h3]; exact hown2, (hrow.alloc _).next hb2 (by omega), (hbel.alloc hbel.size _).trans (hb2.mono (by omega))⟩
                   case measure => simp [intOf]; omega)
      · have hlb : ((k : Int) + 1 == (l.length : Int)) = false := by rw [beq_eq_false_iff_ne]; omega
        have hlc : (k + 1 == l.length) = false := by rw [beq_eq_false_iff_ne]; exact hla
        rw [hlc] at hSt
        clear hla hlc
        have HSt := Lib.hid hSt; clear hSt
        by_cases h1 : s = [46]
        · subst h1
          go_wp2_with fail
          all_goals
            go_roundw
            case rel => exact ⟨k + 1, by omega, by go_num, by rw [HSt.out, dotStep_dot _ false]; exact hown, hrow, hbel⟩
            case measure => simp [intOf]; omega
        · by_cases h2 : s = []
          · subst h2
            by_cases h0 : 0 < k
            · have hkb : (k == 0) = false := by rw [beq_eq_false_iff_ne]; omega
              go_wp2_with fail
              all_goals
                go_roundw
                case rel => exact ⟨k + 1, by omega, by go_num, by rw [HSt.out, hkb, dotStep_gap]; exact hown, hrow, hbel⟩
                case measure => simp [intOf]; omega
            · have hkb : (k == 0) = true := by rw [beq_iff_eq]; omega
              go_wp2_with (at_builtin; refine appS rfl _ _ rfl (w.heap.size + 1) _ o [] wr.heap.size rfl (hown.alloc _) rfl ?_ (by omega) (by go_size) ?_)
              all_goals first
                | (exact (Blk.new _ _ _).cell 0)
                | (intro v' w2 hown2 hg2 hb2
                   go_wp2_with fail
                   go_roundw
                   case rel => exact ⟨k + 1, by omega, by go_num, by rw [HSt.out, hkb, dotStep_end true _ _ (Or.inl rfl)]; exact hown2, (hrow.alloc _).next hb2 (by omega), (hbel.alloc hbel.size _).trans (hb2.mono (by omega))⟩
                   case measure => simp [intOf]; omega)
          · have h1b : (s == [46]) = false := by rw [beq_eq_false_iff_ne]; exact h1
            by_cases h3 : s = [46, 46]
            · subst h3
              rcases List.eq_nil_or_concat o with ho | ⟨o', y, ho⟩
              · subst ho
                obtain ⟨va, vc, rfl⟩ := hown.shape
                simp only [List.length_nil] at hown
                go_wp2_with fail
                all_goals
                  go_roundw
                  case rel => exact ⟨k + 1, by omega, by go_num, by rw [HSt.out, dotStep_up _ false, if_neg (by decide), upOf_nil]; exact hown, hrow, hbel⟩
                  case measure => simp [intOf]; omega
              · rw [List.concat_eq_append] at ho
                subst ho
                obtain ⟨g, cap, rfl, hcap, hgB, hpop, hcells⟩ := hown.shapeC
                rw [List.length_append] at hol
                simp only [List.length_cons, List.length_nil] at hol
                by_cases ho' : o' = []
                · subst ho'
                  have hc0 := hcells 0 y rfl
                  clear hcells
                  by_cases hy : y = []
                  · subst hy
                    go_wp2_with fail
                    all_goals
                      go_roundw
                      case rel => exact ⟨k + 1, by omega, by go_num, by rw [HSt.out, dotStep_up _ false, if_neg (by decide), List.nil_append, upOf_one]; exact hown, hrow, hbel⟩
                      case measure => simp [intOf]; omega
                  · have hyb : y.isEmpty = false := by rw [Bool.eq_false_iff]; simpa using hy
                    go_wp2_with fail
                    all_goals
                      go_roundw
                      case rel => exact ⟨k + 1, by omega, by go_num, by rw [HSt.out, dotStep_up _ false, if_neg (by decide), upOf_pop (Or.inr hy)]; exact hpop, hrow, hbel⟩
                      case measure => simp [intOf]; omega
                · have ho2 : 0 < o'.length := List.length_pos_iff.2 ho'
                  clear hcells
                  go_wp2_with fail
                  all_goals
                    go_roundw
                    case rel => exact ⟨k + 1, by omega, by go_num, by rw [HSt.out, dotStep_up _ false, if_neg (by decide), upOf_pop (Or.inl ho')]; exact hpop, hrow, hbel⟩
                    case measure => simp [intOf]; omega
            · have h3b : (s == [46, 46]) = false := by rw [beq_eq_false_iff_ne]; exact h3
              go_wp2_with (at_builtin; refine appS rfl _ _ rfl (w.heap.size + 1) _ o s wr.heap.size rfl (hown.alloc _) rfl ?_ (by omega) (by go_size) ?_)
              all_goals first
                | (exact (Blk.new _ _ _).cell 0)
                | (intro v' w2 hown2 hg2 hb2
                   go_wp2_with fail
                   go_roundw
                   case rel => exact ⟨k + 1, by omega, by go_num, by rw [HSt.out, dotStep_else _ _ _ _ h1 h2 h3]; exact hown2, (hrow.alloc _).next hb2 (by omega), (hbel.alloc hbel.size _).trans (hb2.mono (by omega))⟩
                   case measure => simp [intOf]; omega)
    · obtain rfl : k = l.length := by omega
      have hlen : (Lib.join (dotsUpto l l.length) [47]).length ≤ 140737488355328 := by
        rw [← hD.out]; have := dotsA_len p; omega
      have hol := dotsUpto_len l l.length
      generalize dotsUpto l l.length = o at hown hol hlen hD
      rcases List.eq_nil_or_concat o with ho | ⟨o', y, ho⟩
      · subst ho
        obtain ⟨va, vc, rfl⟩ := hown.shape
        go_wp2_with fail
        refine (joinNone _ _ _ _).mono ?_
        rintro e w2 ⟨rfl, rfl⟩
        go_wp2_with fail
        go_ret
        exact ⟨ret_str hD.out.symm, hbel⟩
      · rw [List.concat_eq_append] at ho
        subst ho
        obtain ⟨g, cap, rfl, hcap, hgB, hpop, hcells⟩ := hown.shapeC
        have hJ := joinStr g 0 cap (o' ++ [y]) [47] wr (fun j x hj => by rw [Nat.zero_add]; exact hcells j x hj) (World.block_lt_of_cell? wr _ (hcells o'.length y (by simp))) (by omega) (by simpa using hcap) hlen
        rw [List.length_append] at hJ
        clear hcells
        go_wp2_with fail
        refine hJ.mono ?_
        rintro e w2 ⟨rfl, hb2⟩
        go_wp2_with fail
        go_ret
        exact ⟨ret_str hD.out.symm, hbel.trans (hb2.mono hbel.size)⟩
end Go.Proofs.YtignjjnflcpiiaaGreatDoor
