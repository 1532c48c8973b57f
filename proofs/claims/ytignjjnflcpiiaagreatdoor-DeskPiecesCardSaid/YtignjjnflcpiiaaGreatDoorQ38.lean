/- Session. Condition: so many bytes; what the variables hold; The answers to the first lines are the beginning of the answers to all. No program; DeskPieces' sample. No program; How long all answers together can be. No program. -/
import Derived.Test.YtignjjnflcpiiaaGreatDoorQ37
namespace Go.Proofs.YtignjjnflcpiiaaGreatDoor
open Go Go.RowKit Go.Shelf
attribute [local go_sem] Oper.semAt_some
set_option maxHeartbeats 8000000 in
set_option maxRecDepth 100000 in
theorem stro_nil (d : Nat) (self : Value) (w : World) (hk : Blk w d #[self, .slice none 0 0] 128) :
    Calls Tryz.prog 80 #[.pointer (some ⟨d, 0, none⟩)] w fun e w' => e = .returned (.string ⟨#[]⟩) ∧ Blk w' d #[self, .slice none 0 0] 128 ∧ KeepX (fun k => k < w.heap.size ∧ (.slice none 0 0 : Value).ownBlock ≠ some k) w w' := by
  have mixed : Tryz.prog.follows Departure.mixedOrders = true := by kernel_rfl
  have hUS := fun (W : World) (q : Option Go.Addr) => Lib.run_unsafeString_none (P := Tryz.prog) W 206 3 9 q
  have c1 : w.drew.cell? ⟨d, 1, none⟩ = some (.slice none 0 0) := hk.cell 1
  have hSD : (Builtin.unsafeSliceData_ #[126] 206 #[.slice none 0 0]).run Tryz.prog w.drew = .ok (.pointer none) w.drew := rfl
  go_enter Tryz.func80, Tryz.ntmps80
  go_wp2
  go_region_o
  all_goals (go_wp2; go_ret; exact ⟨rfl, hk, rfl, rfl, rfl, Nat.le_refl _, fun k _ => rfl⟩)
set_option maxHeartbeats 8000000 in
set_option maxRecDepth 100000 in
theorem stro_room (d : Nat) (self : Value) (g cap : Nat) (w : World) (hc0 : cap ≠ 0) (hk : Blk w d #[self, .slice (some ⟨g, 0, none⟩) 0 cap] 128) :
    Calls Tryz.prog 80 #[.pointer (some ⟨d, 0, none⟩)] w fun e w' => e = .returned (.string ⟨#[]⟩) ∧ Blk w' d #[self, .slice (some ⟨g, 0, none⟩) 0 cap] 128 ∧ KeepX (fun k => k < w.heap.size ∧ (.slice (some ⟨g, 0, none⟩) 0 cap : Value).ownBlock ≠ some k) w w' := by
  have mixed : Tryz.prog.follows Departure.mixedOrders = true := by kernel_rfl
  have hUS := fun (W : World) (q : Option Go.Addr) => Lib.run_unsafeString_none (P := Tryz.prog) W 206 3 9 q
  have c1 : w.drew.cell? ⟨d, 1, none⟩ = some (.slice (some ⟨g, 0, none⟩) 0 cap) := hk.cell 1
  have hSD : (Builtin.unsafeSliceData_ #[126] 206 #[.slice (some ⟨g, 0, none⟩) 0 cap]).run Tryz.prog w.drew = .ok (.pointer (some ⟨g, 0, none⟩)) w.drew :=
    Lib.run_unsafeSliceData_row _ _ _ _ _ _ hc0
  clear hc0
  go_enter Tryz.func80, Tryz.ntmps80
  go_wp2
  go_region_o
  all_goals (go_wp2; go_ret; exact ⟨rfl, hk, rfl, rfl, rfl, Nat.le_refl _, fun k _ => rfl⟩)
set_option maxHeartbeats 8000000 in
set_option maxRecDepth 100000 in
theorem stro_noroom (d : Nat) (self : Value) (g : Nat) (cur : Array Value) (w : World) (hg : w.heap[g]? = some (.cells cur 5 (0, 0))) (hk : Blk w d #[self, .slice (some ⟨g, 0, none⟩) 0 0] 128) :
    Calls Tryz.prog 80 #[.pointer (some ⟨d, 0, none⟩)] w fun e w' => e = .returned (.string ⟨#[]⟩) ∧ Blk w' d #[self, .slice (some ⟨g, 0, none⟩) 0 0] 128 ∧ KeepX (fun k => k < w.heap.size ∧ (.slice (some ⟨g, 0, none⟩) 0 0 : Value).ownBlock ≠ some k) w w' := by
  have mixed : Tryz.prog.follows Departure.mixedOrders = true := by kernel_rfl
  have hUS := fun (W : World) (q : Option Go.Addr) => Lib.run_unsafeString_none (P := Tryz.prog) W 206 3 9 q
  have hlt := hk.lt
  have c1 : w.drew.cell? ⟨d, 1, none⟩ = some (.slice (some ⟨g, 0, none⟩) 0 0) := hk.cell 1
  have hSD : (Builtin.unsafeSliceData_ #[126] 206 #[.slice (some ⟨g, 0, none⟩) 0 0]).run Tryz.prog w.drew = .ok (.pointer (some ⟨w.drew.heap.size, 0, none⟩)) (w.drew.alloc (.view ⟨g, 0, none⟩ 5)) :=
    Lib.run_unsafeSliceData_zero w.drew _ _ 5 Tryz.underlying206 ⟨g, 0, none⟩ 0 (5, cur.size) (by have hg' : w.drew.heap[g]? = some (.cells cur 5 (0, 0)) := hg; simp [World.shape?, hg'])
  have hk2 : Blk (w.drew.alloc (.view ⟨g, 0, none⟩ 5)) d #[self, .slice (some ⟨g, 0, none⟩) 0 0] 128 := (Lib.alloc_old w.drew _ d hlt).trans hk
  have c2 : (w.drew.alloc (.view ⟨g, 0, none⟩ 5)).cell? ⟨d, 1, none⟩ = some (.slice (some ⟨g, 0, none⟩) 0 0) := hk2.cell 1
  have c3 : (w.alloc (.view ⟨g, 0, none⟩ 5)).drew.cell? ⟨d, 1, none⟩ = some (.slice (some ⟨g, 0, none⟩) 0 0) := c2
  have c0 : w.cell? ⟨d, 1, none⟩ = some (.slice (some ⟨g, 0, none⟩) 0 0) := c1
  go_enter Tryz.func80, Tryz.ntmps80
  go_wp2
  go_region_o
  all_goals (go_wp2; go_ret; exact ⟨rfl, hk2, KeepX.of (fun k hk => hk.1) ((Below.refl w.heap.size w).drew.alloc (Nat.le_refl _) _)⟩)
set_option maxHeartbeats 8000000 in
set_option maxRecDepth 100000 in
theorem stro_some (d : Nat) (self : Value) (g cap : Nat) (cur : Array Value) (s : Bs) (w : World) (h0 : s ≠ []) (hown : OwnB w 0 (.slice (some ⟨g, 0, none⟩) s.length cap) s) (hg : w.heap[g]? = some (.cells cur 5 (0, 0))) (hcs : cur.size = cap * 1) (hnc : s.length ≤ cap) (hcm : cap ≤ maxLen) (hne : g ≠ d) (hk : Blk w d #[self, .slice (some ⟨g, 0, none⟩) s.length cap] 128) :
    Calls Tryz.prog 80 #[.pointer (some ⟨d, 0, none⟩)] w fun e w' => e = .returned (.string ⟨s.toArray⟩) ∧ Blk w' d #[self, .slice (some ⟨g, 0, none⟩) s.length cap] 128 ∧ KeepX (fun k => k < w.heap.size ∧ (.slice (some ⟨g, 0, none⟩) s.length cap : Value).ownBlock ≠ some k) w w' := by
  have mixed : Tryz.prog.follows Departure.mixedOrders = true := by kernel_rfl
  have hUS := fun (W : World) (q : Option Go.Addr) => Lib.run_unsafeString_none (P := Tryz.prog) W 206 3 9 q
  have hl0 : s.length ≠ 0 := by simpa using h0
  have c1 : w.drew.cell? ⟨d, 1, none⟩ = some (.slice (some ⟨g, 0, none⟩) s.length cap) := hk.cell 1
  have hSD : (Builtin.unsafeSliceData_ #[126] 206 #[.slice (some ⟨g, 0, none⟩) s.length cap]).run Tryz.prog w.drew = .ok (.pointer (some ⟨g, 0, none⟩)) w.drew :=
    Lib.run_unsafeSliceData_row _ _ _ _ _ _ (by omega)
  have hUS : (Builtin.unsafeString_ #[206, 3] 9 #[.pointer (some ⟨g, 0, none⟩), .int .i64 s.length]).run Tryz.prog w.drew = .ok (.string ⟨s.toArray⟩) (w.drew.freeze ⟨g, 0, none⟩ s.length) := by
    refine Lib.run_unsafeString_row w.drew 206 3 9 5 Tryz.underlying206 (by kernel_rfl) g cur.size (by have hg' : w.drew.heap[g]? = some (.cells cur 5 (0, 0)) := hg; simp [World.shape?, hg']) s h0 (by omega) (by unfold maxLen at hcm; omega) ?_
    intro j x hx
    obtain ⟨a', c', e1, e2⟩ := OwnB.shape hown
    obtain ⟨hj, rfl⟩ := List.getElem?_eq_some_iff.1 hx
    obtain ⟨g', h1, h2⟩ := e2 j hj
    injection e1 with e1
    subst e1
    injection h1 with h1
    injection h1 with h1
    subst h1
    by_cases hj0 : j = 0
    · subst hj0; simpa [Go.Addr.add] using h2
    · simpa [Go.Addr.add, hj0] using h2
  have hFR : ∀ k, k ≠ g → (w.drew.freeze ⟨g, 0, none⟩ s.length).heap[k]? = w.heap[k]? := fun k hk => by
    unfold World.freeze
    rw [if_neg hl0]
    simp only [Array.getElem?_modify]
    rw [if_neg (fun e => hk e.symm)]
    rfl
  have hFS : w.heap.size ≤ (w.drew.freeze ⟨g, 0, none⟩ s.length).heap.size := by
    unfold World.freeze
    rw [if_neg hl0]
    show w.heap.size ≤ (w.drew.heap.modify _ _).size
    rw [Array.size_modify]
    exact Nat.le_refl _
  have hFO : (w.drew.freeze ⟨g, 0, none⟩ s.length).os = w.os ∧ (w.drew.freeze ⟨g, 0, none⟩ s.length).tape = w.tape ∧ (w.drew.freeze ⟨g, 0, none⟩ s.length).output = w.output := by
    unfold World.freeze
    rw [if_neg hl0]
    exact ⟨rfl, rfl, rfl⟩
  go_enter Tryz.func80, Tryz.ntmps80
  go_wp2
  go_region_o
  all_goals (go_wp2; go_ret; exact ⟨rfl, (hFR d (fun e => hne e.symm)).trans hk, hFO.1, hFO.2.1, hFO.2.2, hFS, fun k hk => hFR k (fun e => hk.2 (by rw [e]; rfl))⟩)
theorem stro_said (d : Nat) (self v : Value) (s : Bs) (w : World) (hk : Blk w d #[self, v] 128) (hown : OwnB w 0 v s) (hne : v.ownBlock ≠ some d) :
    Calls Tryz.prog 80 #[.pointer (some ⟨d, 0, none⟩)] w fun e w' => e = .returned (.string ⟨s.toArray⟩) ∧ Blk w' d #[self, v] 128 ∧ KeepX (fun k => k < w.heap.size ∧ v.ownBlock ≠ some k) w w' := by
  rcases hown.2 with ⟨rfl, h0⟩ | ⟨g, cap, cur, rfl, _, hg, hnc, hcm, hcs, _⟩
  · obtain rfl := List.eq_nil_of_length_eq_zero h0
    exact stro_nil d self w hk
  · by_cases h0 : s = []
    · subst h0
      by_cases hc0 : cap = 0
      · subst hc0
        exact stro_noroom d self g cur w hg hk
      · exact stro_room d self g cap w hc0 hk
    · exact stro_some d self g cap cur s w h0 hown hg hcs hnc hcm (fun e => hne (by rw [e]; rfl)) hk
theorem own_lt {w : World} {B g : Nat} {v : Value} {l : Bs} (h : OwnB w B v l) (hg : v.ownBlock = some g) : g < w.heap.size := by
  rcases h.2 with ⟨hv, _⟩ | ⟨g', cap, cur, hv, _, hh, _⟩
  · rw [hv] at hg; cases hg
  · rw [hv] at hg
    injection hg with hg
    simp only at hg
    subst hg
    rcases Nat.lt_or_ge g' w.heap.size with h' | h'
    · exact h'
    · simp [Array.getElem?_eq_none h'] at hh
def sessX (n : Nat) (v : Value) (k : Nat) : Prop := k < n ∨ (n + 1 ≤ k ∧ k < n + 8) ∨ v.ownBlock = some k
structure SessI (w : World) (pre : List Bs) (W : World) (sf v : Value) : Prop where
  bld : Blk W (w.heap.size + 2) #[sf, v] 128
  self_ : sf = .pointer none ∨ sf = .pointer (some ⟨w.heap.size + 2, 0, none⟩)
  own : OwnB W 0 v (linesD ⟨none, []⟩ pre)
  far : ∀ g, v.ownBlock = some g → w.heap.size + 8 ≤ g
  desk : DeskM (sessX w.heap.size v) W w.heap.size (deskT ⟨none, []⟩ pre)
  ptr : Blk W (w.heap.size + 1) #[.pointer (some ⟨w.heap.size, 0, none⟩)] 124
  below : Below w.heap.size w W
  size : w.heap.size + 8 ≤ W.heap.size
theorem SessI.stp {w A B : World} {pre : List Bs} {self v : Value} (h : SessI w pre A self v) (st : Stp (w.heap.size + 3) (w.heap.size + 7) A B) : SessI w pre B self v := by
  have hs := h.size
  refine ⟨(st.block _ ⟨by omega, by omega, by omega⟩).trans h.bld, h.self_, OwnG.keepB h.own (fun g hg => st.block g ?_), h.far, h.desk.keep st.size (fun k hk hl => st.block k ⟨hl, fun e => hk ?_, fun e => hk ?_⟩), (st.block _ ⟨by omega, by omega, by omega⟩).trans h.ptr, ?_, Nat.le_trans hs st.size⟩
  · have h1 := h.far g hg
    have h2 := own_lt h.own hg
    exact ⟨h2, by omega, by omega⟩
  · exact Or.inr (Or.inl ⟨by omega, by omega⟩)
  · exact Or.inr (Or.inl ⟨by omega, by omega⟩)
  · exact ⟨st.os.trans h.below.os, st.tape.trans h.below.tape, st.output.trans h.below.output, Nat.le_trans h.below.size st.size, fun k hk => (st.block k ⟨by omega, by omega, by omega⟩).trans (h.below.block k hk)⟩
theorem SessI.more {w W W1 W2 : World} {pre : List Bs} {x : Bs} {self v self' v' : Value} (h : SessI w pre W self v)
    (hD : DeskM (sessX w.heap.size v) W1 w.heap.size (lineD (deskT ⟨none, []⟩ pre) x).1) (K1 : KeepX (sessX w.heap.size v) W W1)
    (hself : self' = .pointer (some ⟨w.heap.size + 2, 0, none⟩)) (hb : Blk W2 (w.heap.size + 2) #[self', v'] 128) (hown : OwnB W2 0 v' (linesD ⟨none, []⟩ pre ++ ((lineD (deskT ⟨none, []⟩ pre) x).2 ++ [10])))
    (hloc : v'.ownBlock = v.ownBlock ∨ ∀ g, v'.ownBlock = some g → W1.heap.size ≤ g) (K2 : KeepX (fun k => k < W1.heap.size ∧ k ≠ w.heap.size + 2 ∧ v.ownBlock ≠ some k) W1 W2) :
    SessI w (pre ++ [x]) W2 self' v' ∧ KeepX (fun k => k = w.heap.size + 6 ∨ k = w.heap.size + 7 ∨ (k = w.heap.size + 3 ∨ k = w.heap.size + 4 ∨ k = w.heap.size + 5)) W W2 := by
  have hs := h.size
  have hs1 := K1.size
  have hs2 := K2.size
  have both : ∀ k, sessX w.heap.size v k → k < W.heap.size → k ≠ w.heap.size + 2 → v.ownBlock ≠ some k → W2.heap[k]? = W.heap[k]? := fun k h1 h2 h3 h4 => (K2.block k ⟨by omega, h3, h4⟩).trans (K1.block k h1)
  have nfar : ∀ k, k < w.heap.size + 8 → v.ownBlock ≠ some k := fun k hk e => by have := h.far k e; omega
  refine ⟨⟨hb, Or.inr hself, by rw [linesD_snoc]; exact hown, ?_, ?_, ?_, ?_, by omega⟩, ⟨K2.os.trans K1.os, K2.tape.trans K1.tape, K2.output.trans K1.output, by omega, fun k hk => both k (Or.inr (Or.inl (by omega))) (by omega) (by omega) (nfar k (by omega))⟩⟩
  · intro g hg
    rcases hloc with e | e
    · exact h.far g (e ▸ hg)
    · have := e g hg; omega
  · rw [deskT_snoc]
    have hY : DeskM (fun k => sessX w.heap.size v k ∨ v'.ownBlock = some k) W1 w.heap.size (lineD (deskT ⟨none, []⟩ pre) x).1 := hD.weak (fun k hk hy => by
      rcases hy with hy | hy
      · exact hy
      · rcases hloc with e | e
        · exact Or.inr (Or.inr (e ▸ hy))
        · have := e k hy; omega)
    refine (hY.keep hs2 (fun k hk hl => K2.block k ⟨hl, fun e => hk (Or.inl (Or.inr (Or.inl (by omega)))), fun e => hk (Or.inl (Or.inr (Or.inr e)))⟩)).weak (fun k _ hy => ?_)
    rcases hy with hy | hy | hy
    · exact Or.inl (Or.inl hy)
    · exact Or.inl (Or.inr (Or.inl hy))
    · exact Or.inr hy
  · exact (both _ (Or.inr (Or.inl (by omega))) (by omega) (by omega) (nfar _ (by omega))).trans h.ptr
  · exact ⟨K2.os.trans (K1.os.trans h.below.os), K2.tape.trans (K1.tape.trans h.below.tape), K2.output.trans (K1.output.trans h.below.output), by have := h.below.size; omega, fun k hk => (both k (Or.inl hk) (by omega) (by omega) (nfar k (by omega))).trans (h.below.block k hk)⟩
set_option maxHeartbeats 16000000 in
set_option maxRecDepth 100000 in
theorem session_any (s : Bs) (w : World) (hg : Gz w) (hs : s.length ≤ 20000) (hout : (linesD ⟨none, []⟩ (splitC 10 (Lib.trimSuffix s [10]))).length ≤ 140737488355328) :
    Calls Tryz.prog 27 #[.string ⟨s.toArray⟩] w fun e w' => e = .returned (.string ⟨(linesD ⟨none, []⟩ (splitC 10 (Lib.trimSuffix s [10]))).toArray⟩) ∧ Below w.heap.size w w' := by
  have hT := fun W => trimSuf s [10] W (by omega)
  have hS := fun W => splitSeq_any (Lib.trimSuffix s [10]) W
  have hn20 : ¬ (20000 : Int) < (s.length : Int) := by omega
  refine (callsIn_wide (n := 5)).1 ?_
  refine callsIn_of_wp_marks Tryz.func27 rfl trivial ?_ rfl
  simp only [Tryz.ntmps27, List.size_toArray, List.length_cons, List.length_nil, Nat.reduceAdd, Nat.reduceSub, Array.replicate_succ, Array.replicate_zero, List.push_toArray, List.append_toArray, List.nil_append, List.cons_append]
  gi_wp2
  refine ⟨trivial, ?_⟩
  with_reducible refine (callsIn_wide.2 (hT _)).mono ?_
  rintro e w1 ⟨rfl, rfl⟩
  gi_wp2
  refine ⟨trivial, ?_⟩
  with_reducible refine (callsIn_wide.2 (hS _)).mono ?_
  rintro e w1 ⟨rfl, rfl⟩
  gi_wp2
  obtain ⟨W2, hW2⟩ : ∃ W2, ((w.alloc (.cells #[.pointer none, .pointer none, .slice none 0 0] 130)).alloc (.cells #[.pointer (some ⟨w.heap.size, 0, none⟩)] 124)).alloc (.cells #[.pointer none, .slice none 0 0] 128) = W2 := ⟨_, rfl⟩
  have hs2 : W2.heap.size = w.heap.size + 3 := by rw [← hW2]; simp
  have hB2 : Below w.heap.size w W2 := by rw [← hW2]; exact (((Below.refl _ w).alloc (Nat.le_refl _) _).alloc (by simp) _).alloc (by simp; omega) _
  have hd2 : Blk W2 w.heap.size #[.pointer none, .pointer none, .slice none 0 0] 130 := by rw [← hW2]; exact ((Blk.new w _ _).alloc _).alloc _
  have hp2 : Blk W2 (w.heap.size + 1) #[.pointer (some ⟨w.heap.size, 0, none⟩)] 124 := by
    rw [← hW2]
    have := (Blk.new (w.alloc (.cells #[.pointer none, .pointer none, .slice none 0 0] 130)) #[.pointer (some ⟨w.heap.size, 0, none⟩)] 124).alloc (.cells #[.pointer none, .slice none 0 0] 128)
    simpa using this
  have hb2 : Blk W2 (w.heap.size + 2) #[.pointer none, .slice none 0 0] 128 := by
    rw [← hW2]
    have := Blk.new ((w.alloc (.cells #[.pointer none, .pointer none, .slice none 0 0] 130)).alloc (.cells #[.pointer (some ⟨w.heap.size, 0, none⟩)] 124)) #[.pointer none, .slice none 0 0] 128
    simpa using this
  rw [hW2]
  rw [show w.heap.size + 1 + 1 + 1 = W2.heap.size from by omega]
  clear hW2
  have hlens := splitC_lens 10 (Lib.trimSuffix s [10])
  have htl : (Lib.trimSuffix s [10]).length ≤ s.length := Lib.trimSuffix_le _ _
  obtain ⟨t, ht⟩ : ∃ t, Lib.trimSuffix s [10] = t := ⟨_, rfl⟩
  rw [ht] at hout hlens htl ⊢
  have hs3 := seqW_size t W2
  have hB3 := hB2.trans ((seqW_below t W2).mono hB2.size)
  have hk1 := seqW_s t W2
  have hk2 := seqW_p t W2
  have hk3 := seqW_v t W2
  refine range_cells (n := 5) (gf := 217) (lb := #[.pointer (some ⟨W2.heap.size + 1, 0, none⟩), .pointer (some ⟨W2.heap.size, 0, none⟩), .pointer (some ⟨W2.heap.size + 2, 0, none⟩)]) (α := Bs) rfl (enters_of Tryz.func217 (by kernel_rfl) rfl)
    (enc := fun x => .string ⟨x.toArray⟩) (xs := splitC 10 t) (c := W2.heap.size) (C := fun k => k = W2.heap.size ∨ k = W2.heap.size + 1 ∨ k = W2.heap.size + 2) ?hC ?hseq ?hcw (fun pre W => ∃ sf v, SessI w pre W sf v) ?hI ?h0
    (fun x => { tmps := #[.string ⟨s.toArray⟩, undef, .string ⟨#[]⟩, .pointer (some ⟨w.heap.size + 1, 0, none⟩), .pointer (some ⟨w.heap.size + 1 + 1, 0, none⟩), .string ⟨x.toArray⟩, .string ⟨s.toArray⟩, .int .i64 (s.length : Int), .bool false, .agg #[.pointer none, .pointer none, .slice none 0 0], .pointer (some ⟨w.heap.size, 0, none⟩), .string ⟨s.toArray⟩, .string ⟨t.toArray⟩, seqFn W2.heap.size, .string ⟨x.toArray⟩, undef, undef, undef, undef, undef, undef], defers := [] }) ?hassign ?hbody ?hdone
  case hC => intro k hk; omega
  case hcw => omega
  case hseq => exact splitSeq1_in _ _ _ _ t _ hk1 hk2 hk3 (by omega) (by omega) (by omega)
  case hI =>
    rintro pre A B ⟨sf, v, h⟩ st
    rw [hs3, hs2] at st
    exact ⟨sf, v, h.stp st⟩
  case h0 =>
    intro W hb hsz
    rw [hs3] at hsz
    have hb' := (seqW_below t W2).trans (hb.mono (by omega))
    have hBW := hB3.trans (hb.mono (by omega))
    refine ⟨.pointer none, .slice none 0 0, hb2.next hb' (by omega), Or.inl rfl, OwnG.nil _ _ _ _ _, (fun g hg => by cases hg), ?_, hp2.next hb' (by omega), hBW, by omega⟩
    refine ⟨.pointer none, .pointer none, .slice none 0 0, hd2.next hb' (by omega), ?_, Or.inl rfl, OwnG.nil _ _ _ _ _, (fun g hg => by cases hg), Or.inl ⟨rfl, rfl⟩⟩
    rintro (h | h | h)
    · omega
    · omega
    · cases h
  case hassign =>
    clear hs3 hs2
    intro x W K hK
    gi_wp2
    exact hK
  case hbody =>
    rintro pre x W ⟨sf, v, h⟩ hpx
    have hpp : pre <+: splitC 10 t := (List.prefix_append pre [x]).trans hpx
    obtain ⟨q1, q2⟩ := lens_pre hpp
    have q3 := lens_mem (hpx.subset (show x ∈ pre ++ [x] by simp))
    have q4 := deskT_said pre ⟨none, []⟩
    simp only [List.length_nil] at q4
    have hO := linesD_pre ⟨none, []⟩ hpx
    rw [linesD_snoc] at hO
    simp only [List.length_append, List.length_cons, List.length_nil] at hO
    have hgW : Gz W := hg.next h.below
    have hW8 := h.size
    have hL := dline_any (sessX w.heap.size v) w.heap.size (deskT ⟨none, []⟩ pre) x W (fun k hk => by
      rcases hk with hk | hk | hk
      · omega
      · omega
      · exact own_lt h.own hk) (fun k hk => Or.inl (by have := hg.size; omega)) h.desk hgW (by omega) (by omega)
    have c3 : W.cell? ⟨w.heap.size + 1, 0, none⟩ = some (.pointer (some ⟨w.heap.size, 0, none⟩)) := h.ptr.cell 0
    have hcat : ¬ 9223372036854775807 < (lineD (deskT ⟨none, []⟩ pre) x).2.length + 1 := by omega
    have hcat2 : ¬ (9223372036854775807 : Int) < ((lineD (deskT ⟨none, []⟩ pre) x).2.length : Int) + 1 := by omega
    have hlen2 : (linesD ⟨none, []⟩ pre).length + ((lineD (deskT ⟨none, []⟩ pre) x).2 ++ [10]).length ≤ 140737488355328 := by simp only [List.length_append, List.length_cons, List.length_nil]; omega
    have HH := Lib.hid h
    have HS := Lib.hid (And.intro hs2 hs3)
    clear h hs2 hs3 hlens htl q1 q2 q3 q4 hO hout hW8 hgW hpx hpp hk1 hk2 hk3 hB2 hB3 hd2 hp2 hb2 ht hT hS hg hs
    gi_wp2
    refine ⟨trivial, ?_⟩
    refine (CallsIn.inRound _ (callsIn_wide.2 hL)).mono ?_
    rintro e W1 ⟨rfl, hD1, K1⟩
    have hW : Calls Tryz.prog 78 #[.pointer (some ⟨w.heap.size + 1 + 1, 0, none⟩), .string ⟨((lineD (deskT ⟨none, []⟩ pre) x).2 ++ [10]).toArray⟩] W1 _ :=
      wrs_own (w.heap.size + 1 + 1) sf v (linesD ⟨none, []⟩ pre) ((lineD (deskT ⟨none, []⟩ pre) x).2 ++ [10]) W1 ((K1.block _ (Or.inr (Or.inl ⟨by omega, by omega⟩))).trans HH.out.bld) HH.out.self_ (OwnG.keepB HH.out.own (fun g hg => K1.block g (Or.inr (Or.inr hg)))) (fun e => by have := HH.out.far _ e; omega) hlen2
    have HD := Lib.hid (And.intro hD1 K1)
    clear hL hD1 K1 c3
    gi_wp2
    refine ⟨trivial, ?_⟩
    refine (CallsIn.inRound _ (callsIn_wide.2 hW)).mono ?_
    rintro e W5 ⟨rfl, v', hb', hown', hloc, _, K2⟩
    obtain ⟨m1, m2⟩ := HH.out.more HD.out.1 HD.out.2 rfl hb' hown' hloc K2
    obtain ⟨e2, e3⟩ := HS.out
    have hfin : KeepX (fun k => k = (seqW t W2).heap.size ∨ k = (seqW t W2).heap.size + 1 ∨ (k = W2.heap.size ∨ k = W2.heap.size + 1 ∨ k = W2.heap.size + 2)) W W5 := ⟨m2.os, m2.tape, m2.output, m2.size, fun k hk => m2.block k (by omega)⟩
    clear e2 e3 hb' hown' hloc K2 m2
    gi_wp2
    exact ⟨_, _, m1⟩
  case hdone =>
    rintro W ⟨sf, v, h⟩ hK
    have hstr := stro_said (w.heap.size + 1 + 1) sf v (linesD ⟨none, []⟩ (splitC 10 t)) W h.bld h.own (fun e => by have := h.far _ e; omega)
    have HH := Lib.hid h
    have HS := Lib.hid (And.intro hs2 hs3)
    have HK := Lib.hid hK
    have HT := Lib.hid ht
    clear h hs2 hs3 hlens htl hout hk1 hk2 hk3 hB2 hB3 hd2 hp2 hb2 ht hT hS hg hs hK
    gi_wp2
    refine ⟨trivial, ?_⟩
    refine (callsIn_wide.2 hstr).mono ?_
    rintro e W4 ⟨rfl, _, K4⟩
    gi_wp2
    obtain ⟨e2, e3⟩ := HS.out
    have h := HH.out
    have h8 := h.size
    have hK4 : W4.heap[(seqW t W2).heap.size]? = some (.deferred (some [])) := (K4.block _ ⟨by omega, fun e => by have := h.far _ e; omega⟩).trans HK.out
    refine ⟨by simp, .inl ⟨_, _, rfl, run_takeDeferred hK4, ?_⟩⟩
    refine ⟨_, results_tmp rfl _ _ _, by rw [HT.out]; rfl, ?_⟩
    have hB4 : Below w.heap.size w W4 := ⟨K4.os.trans h.below.os, K4.tape.trans h.below.tape, K4.output.trans h.below.output, Nat.le_trans h.below.size K4.size, fun k hk => (K4.block k ⟨by omega, fun e => by have := h.far _ e; omega⟩).trans (h.below.block k hk)⟩
    exact ⟨hB4.os, hB4.tape, hB4.output, Nat.le_trans hB4.size (grownBy_putObj' W4 _ _).size, fun k hk => (World.putObj_heap_other (by omega)).trans (hB4.block k hk)⟩
end Go.Proofs.YtignjjnflcpiiaaGreatDoor
namespace Go.Proofs.YtignjjnflcpiiaaGreatDoor
open Go
theorem splitC_sep (c : UInt8) (b : Bs) : ∀ a : Bs, splitC c (a ++ c :: b) = splitC c a ++ splitC c b
  | [] => by simp [splitC]
  | x :: a => by
    have ih := splitC_sep c b a
    show splitC c (x :: (a ++ c :: b)) = _
    generalize splitC c b = B at ih ⊢
    unfold splitC
    by_cases hx : x = c
    · rw [if_pos hx, if_pos hx, ih]
      rfl
    · rw [if_neg hx, if_neg hx, ih]
      cases h : splitC c a with
      | nil => exact absurd h (splitC_ne c a)
      | cons y r => rfl
theorem trim_snoc (a : Bs) : Lib.trimSuffix (a ++ [10]) [10] = a := by
  unfold Lib.trimSuffix Lib.hasSuffix
  simp
theorem trim_app (a : Bs) (y : UInt8) (b : Bs) : Lib.trimSuffix (a ++ 10 :: y :: b) [10] = a ++ 10 :: Lib.trimSuffix (y :: b) [10] := by
  unfold Lib.trimSuffix Lib.hasSuffix
  have h1 : (a ++ 10 :: y :: b).drop ((a ++ 10 :: y :: b).length - 1) = (y :: b).drop ((y :: b).length - 1) := by
    rw [List.drop_append, List.drop_of_length_le (by simp), List.nil_append]
    rw [show (a ++ 10 :: y :: b).length - 1 - a.length = ((y :: b).length - 1) + 1 from by simp <;> omega]
    rfl
  have h2 : (a ++ 10 :: y :: b).take ((a ++ 10 :: y :: b).length - 1) = a ++ 10 :: (y :: b).take ((y :: b).length - 1) := by
    rw [List.take_append, List.take_of_length_le (by simp)]
    rw [show (a ++ 10 :: y :: b).length - 1 - a.length = ((y :: b).length - 1) + 1 from by simp <;> omega]
    rfl
  have hl : [(10 : UInt8)].length = 1 := rfl
  have h3 : [(10 : UInt8)].isSuffixOf (a ++ 10 :: y :: b) = [(10 : UInt8)].isSuffixOf (y :: b) := by
    have hsuf : (y :: b) <:+ (a ++ 10 :: y :: b) := ⟨a ++ [10], by simp⟩
    rw [Bool.eq_iff_iff, List.isSuffixOf_iff_suffix, List.isSuffixOf_iff_suffix]
    exact ⟨fun h => List.suffix_of_suffix_length_le h hsuf (by simp), fun h => h.trans hsuf⟩
  rw [hl, h2, h3]
  split <;> rfl
theorem sess_pieces (a b : Bs) (h : a.length + b.length ≤ 2500) : sessC (a ++ [10]) <+: sessC (a ++ [10] ++ b) := by
  unfold sessC
  rw [if_neg (by simp; omega), if_neg (by simp; omega), trim_snoc]
  cases b with
  | nil => rw [List.append_nil, trim_snoc]; exact List.prefix_refl _
  | cons y b =>
    rw [show a ++ [10] ++ y :: b = a ++ 10 :: y :: b from by simp, trim_app, splitC_sep, linesD_app]
    exact List.prefix_append _ _
def sampI : Bs := [112, 97, 99, 107, 32, 77, 10, 114, 101, 115, 111, 108, 118, 101, 32, 104, 116, 116, 112, 58, 47, 47, 97, 47, 98, 32, 46, 46, 47, 99, 10, 120, 10]
def sampO : Bs := [34, 84, 81, 61, 61, 37, 48, 100, 37, 48, 97, 34, 10, 105, 115, 32, 104, 116, 116, 112, 58, 47, 47, 97, 47, 99, 10, 101, 114, 114, 111, 114, 32, 51, 10]
set_option maxRecDepth 100000 in
theorem samp : linesD ⟨none, []⟩ (splitC 10 (Lib.trimSuffix sampI [10])) = sampO := by kernel_rfl
theorem openB_place {s : Bs} {b : Bnd} (h : openB s = .ok b) : ∀ a ∈ b.places, a.len ≤ 400000 := by
  unfold openB at h
  cases hr : readP s with
  | error e => rw [hr] at h; cases h
  | ok p =>
    rw [hr] at h
    have hs := readP_sm hr
    simp only [openP] at h
    split at h
    · cases h
    · split at h
      · cases h
      · split at h
        · cases h
        · cases h
          obtain ⟨ph, pb, pm, pp⟩ := p
          have hw := weight_n hs.1
          have h0 : Addr.zero.len = 0 := rfl
          have hb := placeF_len (base := Addr.zero) hw
          have hq : ∀ q ∈ pp, FldsN 20000 q.head := fun q hq => by
            have := hs.2.2.2 q hq
            obtain ⟨a, c, d, e⟩ := q
            exact weight_n this.1
          intro a ha
          simp only [Prt.parts, List.mem_map] at ha
          obtain ⟨q, hq1, rfl⟩ := ha
          have := placeF_len (base := placeF Addr.zero ph) (hq q hq1)
          simp only [Prt.head] at *
          omega
def Small (dk : Dsk) : Prop := ∀ b, dk.bundle = some b → BndIn b ∧ (∀ a ∈ b.places, a.len ≤ 400000) ∧ b.root ≤ 20002
theorem small_open {dk : Dsk} (h : Small dk) (l : List Bs) : Small (openD dk l).1 := by
  unfold openD
  split
  · exact h
  · cases hr : openB dk.said with
    | error e => exact h
    | ok b => intro b' hb; cases hb; exact ⟨openB_in hr, openB_place hr, openB_root hr⟩
theorem small_does {dk : Dsk} (h : Small dk) (n : Bs) (l : List Bs) : Small (doesD dk n l).1 := by
  rcases does_cases n with rfl | rfl | rfl | rfl | rfl | rfl | rfl | rfl | rfl | rfl | rfl | rfl | rfl | rfl | rfl | rfl | hno
  · exact h
  · exact h
  · exact h
  · exact h
  · exact h
  · exact h
  · exact h
  · exact h
  · exact h
  · exact small_open h l
  · exact h
  · exact h
  · exact h
  · exact h
  · exact h
  · exact h
  · rw [doesD_no hno]; exact h
theorem small_line {dk : Dsk} (h : Small dk) (s : Bs) : Small (lineD dk s).1 := by
  unfold lineD
  split
  · exact h
  · exact small_does h _ _
theorem comma_bd {α : Type} (f : α → Bs) (c : Nat) (l : List α) (h : ∀ x ∈ l, (f x).length ≤ c) : (commaT (l.map f)).length ≤ l.length * (c + 2) := by
  have h1 := join_len (l.map f) [44, 32]
  have h2 : ((l.map f).map List.length).sum ≤ l.length * c := by
    clear h1
    induction l with
    | nil => simp
    | cons x l ih =>
      have h3 := h x (by simp)
      have h4 := ih (fun y hy => h y (by simp [hy]))
      simp only [List.map_cons, List.sum_cons, List.length_cons, Nat.add_mul] at h4 ⊢
      omega
  unfold commaT
  simp only [List.length_map, List.length_cons, List.length_nil] at h1
  rw [Nat.mul_add]
  omega
theorem lead_bd {b : Bnd} {n : Int} {l : List (Bs × Int)} (hin : BndIn b) (hp : ∀ a ∈ b.places, a.len ≤ 400000) (h : leadsB b n = some l) : l.length ≤ 60002 ∧ ∀ x ∈ l, (leadT x).length ≤ 3510026 := by
  obtain ⟨g1, g2⟩ := leadsB_bd hin h
  refine ⟨g1, fun x hx => ?_⟩
  have h3 := (g2 x hx).2
  have hi := Lib.itoa_length_le x.2 h3.1 h3.2
  have hx1 : x.1.length ≤ 1170000 := by
    unfold leadsB at h
    split at h
    · cases h
    · cases h1 : b.whole.parts[n.toNat]? with
      | none => rw [h1] at h; cases h
      | some p =>
        cases h2 : b.places[n.toNat]? with
        | none => rw [h1, h2] at h; cases h
        | some a =>
          rw [h1, h2] at h
          cases h
          have hpp := hin.whole.part (List.mem_of_getElem? h1)
          have ha := hp a (List.mem_of_getElem? h2)
          have hb := hpp.fl.2
          have hv := linksT_val p.body
          unfold leadsAt at hx
          split at hx
          · obtain ⟨y, hy, rfl⟩ := List.mem_map.1 hx
            have h3 := hv y hy
            unfold leadOf
            cases hr : readA y.2.2 with
            | none => simp only; omega
            | some r =>
              have h4 := readA_len hr
              have h5 := (resolve_len a r).1
              have h6 := writeA_len (resolveA a r)
              simp only
              omega
          · cases hx
  have hs := showT_len x.1
  unfold leadT
  simp only [List.length_append, List.length_cons]
  omega
abbrev Top : Nat := 30500000000
theorem at_len {dk : Dsk} (hS : Small dk) {l : List Bs} {s : Bs} (h : atD dk l = .ok s) : s.length ≤ Top := by
  unfold atD at h
  split at h
  · cases h
  · cases hb : dk.bundle with
    | none => rw [hb] at h; cases h
    | some b =>
      rw [hb] at h
      obtain ⟨_, q2, _⟩ := hS b hb
      simp only at h
      cases hn : numN (l.getD 0 []) with
      | none => rw [hn] at h; cases h
      | some n =>
        rw [hn] at h
        simp only at h
        cases hl : atB b n with
        | none => rw [hl] at h; cases h
        | some a =>
          rw [hl] at h
          cases h
          have h1 := writeA_len a
          have h2 : a.len ≤ 400000 := by
            unfold atB at hl
            split at hl
            · cases hl
            · exact q2 a (List.mem_of_getElem? hl)
          unfold Top isT
          simp only [List.length_cons]
          omega
theorem parts_len {dk : Dsk} (hS : Small dk) {l : List Bs} {s : Bs} (h : partsD dk l = .ok s) : s.length ≤ Top := by
  unfold partsD at h
  split at h
  · cases h
  · cases hb : dk.bundle with
    | none => rw [hb] at h; cases h
    | some b =>
      rw [hb] at h
      obtain ⟨q1, _, _⟩ := hS b hb
      cases h
      have hn := q1.whole.head.2.2
      have h5 := comma_bd partT1 200000 b.whole.parts (fun p hp => by
        have h1 := (q1.whole.part hp).fl
        have h2 := showT_len p.body
        have h3 := Lib.itoa_length_le (p.head.length : Int) (by have := h1.2; omega) (by have h4 := (q1.whole.part hp).head.1; have h5 := weight_len p.head; omega)
        unfold partT1
        simp only [List.length_append, List.length_cons]
        have := h1.2
        omega)
      have h6 : b.whole.parts.length * 200002 ≤ 20002 * 200002 := Nat.mul_le_mul_right _ hn
      unfold Top
      simp only [List.length_cons]
      omega
theorem bind_len {dk : Dsk} {l : List Bs} {s : Bs} (h : bindD dk l = .ok s) : s.length ≤ Top := by
  unfold bindD at h
  split at h
  · cases h
  · cases hb : dk.bundle with
    | none => rw [hb] at h; cases h
    | some b =>
      rw [hb] at h
      simp only at h
      cases hl : bindB b with
      | error e => rw [hl] at h; cases h
      | ok o =>
        rw [hl] at h
        cases h
        have h1 := showT_len o
        have h2 : o.length ≤ 20000 := by
          unfold bindB writeP at hl
          split at hl
          · cases hl
          · split at hl
            · cases hl
            · cases hl; omega
        unfold Top
        omega
theorem lead_len {dk : Dsk} (hS : Small dk) {l : List Bs} {s : Bs} (h : leadD dk l = .ok s) : s.length ≤ 213000000000 := by
  unfold leadD at h
  split at h
  · cases h
  · cases hb : dk.bundle with
    | none => rw [hb] at h; cases h
    | some b =>
      rw [hb] at h
      obtain ⟨q1, q2, _⟩ := hS b hb
      simp only at h
      cases hn : numN (l.getD 0 []) with
      | none => rw [hn] at h; cases h
      | some n =>
        rw [hn] at h
        simp only at h
        cases hl : leadsB b n with
        | none => rw [hl] at h; cases h
        | some L =>
          rw [hl] at h
          cases h
          obtain ⟨p1, p2⟩ := lead_bd q1 q2 hl
          have := comma_bd leadT 3510026 L p2
          have h5 : L.length * 3510028 ≤ 60002 * 3510028 := Nat.mul_le_mul_right _ p1
          simp only [List.length_cons]
          omega
theorem dots_len {l : List Bs} {s : Bs} (hx : ∀ x ∈ l, x.length ≤ 2510) (h : dotsD l = .ok s) : s.length ≤ Top := by
  unfold dotsD at h
  split at h
  · cases h
  · cases h
    have h1 : (l.getD 0 []).length ≤ 2510 := by
      cases l with
      | nil => simp
      | cons x l => exact hx x (by simp)
    have := dotsA_len (l.getD 0 [])
    unfold Top isT
    simp only [List.length_cons]
    omega
theorem find_len {dk : Dsk} (hS : Small dk) {l : List Bs} {s : Bs} (h : findD dk l = .ok s) : s.length ≤ Top := by
  unfold findD at h
  split at h
  · cases h
  · cases hb : dk.bundle with
    | none => rw [hb] at h; cases h
    | some b =>
      rw [hb] at h
      simp only at h
      split at h
      · cases h
      · cases h
        rename_i a _
        have h1 := findB_bd (hS b hb).1 a
        have := Lib.itoa_length_le (findB b a) h1.1 h1.2
        unfold Top
        omega
theorem help_len {l : List Bs} {s : Bs} (h : helpD l = .ok s) : s.length ≤ Top := by
  unfold helpD at h
  split at h
  · cases h
  · cases h; decide
theorem kind_len {l : List Bs} {s : Bs} (hb : (blankT l).length ≤ 2510) (h : kindD l = .ok s) : s.length ≤ Top := by
  unfold kindD at h
  split at h
  · cases h
  · rename_i m ps hr
    split at h
    · cases h
    · rename_i o ho
      cases h
      have h1 := writeK_len ho
      have h2 := readK_weight hr
      have h3 := (readK_bd hr).1
      unfold Top
      omega
theorem open_len {dk : Dsk} {l : List Bs} {s : Bs} (h : (openD dk l).2 = .ok s) : s.length ≤ Top := by
  unfold openD at h
  split at h
  · cases h
  · cases hr : openB dk.said with
    | error e => rw [hr] at h; cases h
    | ok b =>
      rw [hr] at h
      cases h
      have h1 := (openB_in hr).whole.head.2.2
      have h2 := openB_root hr
      have h3 := Lib.itoa_length_le (b.whole.parts.length : Int) (by omega) (by omega)
      have h4 := Lib.itoa_length_le (b.root : Int) (by omega) (by omega)
      unfold Top
      simp only [List.length_append, List.length_cons]
      omega
theorem pack_len {l : List Bs} {s : Bs} (hb : (blankT l).length ≤ 2510) (h : packD l = .ok s) : s.length ≤ Top := by
  cases h
  have h1 := showT_len (packT (blankT l))
  have h2 := packT_len2 (blankT l)
  unfold Top
  omega
theorem quote_len {l : List Bs} {s : Bs} (hb : (blankT l).length ≤ 2510) (h : quoteD l = .ok s) : s.length ≤ Top := by
  cases h
  have h1 := showT_len (quoteT (blankT l))
  have h2 := quoteT_length (blankT l)
  unfold Top
  omega
theorem resolve_len3 {l : List Bs} {s : Bs} (hx : ∀ x ∈ l, x.length ≤ 2510) (h : resolveD l = .ok s) : s.length ≤ Top := by
  unfold resolveD at h
  split at h
  · cases h
  · rename_i hl
    split at h
    · cases h
    · rename_i a ha
      split at h
      · cases h
      · rename_i b hb
        cases h
        have hget : ∀ k, (l.getD k []).length ≤ 2510 := fun k => by
          by_cases hk : k < l.length
          · rw [List.getD_eq_getElem?_getD, List.getElem?_eq_getElem hk]
            exact hx _ (List.getElem_mem hk)
          · rw [List.getD_eq_getElem?_getD, List.getElem?_eq_none (by omega)]
            simp
        have h1 := readA_len ha
        have h2 := readA_len hb
        have g1 := hget 0
        have g2 := hget 1
        have h3 := (resolve_len a b).1
        have h4 := writeA_len (resolveA a b)
        unfold Top isT
        simp only [List.length_cons]
        omega
theorem unpack_len {l : List Bs} {s : Bs} (hb : (blankT l).length ≤ 2510) (h : unpackD l = .ok s) : s.length ≤ Top := by
  unfold unpackD at h
  split at h
  · cases h
  · rename_i o ho
    cases h
    have h1 := showT_len o
    have h2 := unpackL_len _ _ _ _ _ ho
    unfold Top
    omega
theorem unquote_len {l : List Bs} {s : Bs} (hb : (blankT l).length ≤ 2510) (h : unquoteD l = .ok s) : s.length ≤ Top := by
  unfold unquoteD at h
  split at h
  · cases h
  · rename_i o ho
    cases h
    have h1 := showT_len o
    have h2 := unquoteT_le ho
    unfold Top
    omega
theorem links_len {l : List Bs} {s : Bs} (hb : (blankT l).length ≤ 2510) (h : linksD l = .ok s) : s.length ≤ Top := by
  cases h
  have hn := (linksT_lies (blankT l)).2
  have h5 := comma_bd linkT 8000 (linksT (blankT l)) (fun x hx => by
    have h1 := linksT_val _ x hx
    have h2 := (linksT_lies (blankT l)).1.mem x hx
    have h3 := showT_len x.2.2
    have h4 := Lib.itoa_length_le (x.1 : Int) (by omega) (by omega)
    have h6 := Lib.itoa_length_le (x.2.1 : Int) (by omega) (by omega)
    unfold linkT
    simp only [List.length_append, List.length_cons]
    omega)
  have h6 : (linksT (blankT l)).length * 8002 ≤ 2510 * 8002 := Nat.mul_le_mul_right _ (by omega)
  unfold Top
  simp only [List.length_cons]
  omega
theorem cmd_len {dk : Dsk} (hS : Small dk) (n : Bs) {l : List Bs} {s : Bs} (hb : (blankT l).length ≤ 2510) (hx : ∀ x ∈ l, x.length ≤ 2510) (h : (doesD dk n l).2 = .ok s) : s.length ≤ Top ∨ (n = wLead ∧ s.length ≤ 213000000000) := by
  rcases does_cases n with rfl | rfl | rfl | rfl | rfl | rfl | rfl | rfl | rfl | rfl | rfl | rfl | rfl | rfl | rfl | rfl | hno
  · left
    cases h
    decide
  · exact Or.inl (at_len hS h)
  · exact Or.inl (bind_len h)
  · exact Or.inl (dots_len hx h)
  · exact Or.inl (find_len hS h)
  · exact Or.inl (help_len h)
  · exact Or.inl (kind_len hb h)
  · exact Or.inr ⟨rfl, lead_len hS h⟩
  · exact Or.inl (links_len hb h)
  · exact Or.inl (open_len h)
  · exact Or.inl (pack_len hb h)
  · exact Or.inl (parts_len hS h)
  · exact Or.inl (quote_len hb h)
  · exact Or.inl (resolve_len3 hx h)
  · exact Or.inl (unpack_len hb h)
  · exact Or.inl (unquote_len hb h)
  · rw [doesD_no hno] at h
    cases h
theorem ans_len {dk : Dsk} (hS : Small dk) (s : Bs) (hs : s.length ≤ 2505) : (lineD dk s).2.length + 1 ≤ 42600000001 * (s.length + 1) := by
  unfold lineD
  cases hw : wordsT s with
  | nil => simp only [List.length_cons, List.length_nil]; omega
  | cons n l =>
    have h0 := words_sum s
    rw [hw] at h0
    simp only [List.map_cons, List.sum_cons, List.length_cons] at h0
    obtain ⟨h1, h2, h3⟩ := blank_len (l := l) (n := s.length + 1) (by omega)
    simp only
    cases hr : (doesD dk n l).2 with
    | error e =>
      have he := doesD_err dk n l e hr
      have := Lib.itoa_length_le e (by omega) (by omega)
      unfold ansT errT
      simp only [List.length_cons]
      omega
    | ok o =>
      show o.length + 1 ≤ _
      rcases cmd_len hS n (by omega) (fun x hx => by have := h3 x hx; omega) hr with h | ⟨rfl, h⟩
      · unfold Top at h
        omega
      · have h4 : wLead.length = 4 := rfl
        rw [h4] at h0
        omega
theorem lines_len : ∀ (l : List Bs) (dk : Dsk), Small dk → (∀ s ∈ l, s.length ≤ 2505) → (linesD dk l).length ≤ 42600000001 * (Lib.lens l + l.length)
  | [], _, _, _ => by simp [linesD]
  | s :: l, dk, hS, hx => by
    have h1 := ans_len hS s (hx s (by simp))
    have h2 := lines_len l (lineD dk s).1 (small_line hS s) (fun y hy => hx y (by simp [hy]))
    show ((lineD dk s).2 ++ 10 :: linesD (lineD dk s).1 l).length ≤ _
    have h3 : Lib.lens (s :: l) = s.length + Lib.lens l := by simp [Lib.lens]
    rw [h3]
    simp only [List.length_append, List.length_cons]
    omega
theorem sess_len (t : Bs) (h : t.length ≤ 2502) : (linesD ⟨none, []⟩ (splitC 10 (Lib.trimSuffix t [10]))).length ≤ 140737488355328 := by
  have h1 := Lib.trimSuffix_le t [10]
  have h2 := splitC_lens 10 (Lib.trimSuffix t [10])
  have h3 := lines_len (splitC 10 (Lib.trimSuffix t [10])) ⟨none, []⟩ (fun b hb => by cases hb) (fun x hx => by have := lens_mem hx; omega)
  omega
end Go.Proofs.YtignjjnflcpiiaaGreatDoor
