/- The row of binderykeep.BundleBinds ; A tied card whose row starts goroutines or may: Claim7.holds_tied_plain_at with the cell 'goes' as it is reckoned. Conditions: as there; What the row of binderykeep.BundleBinds asks of the program alone (joinedFacts), limb by limb: all at once is too much for the. -/
import Derived.JoinedOf
import Derived.KernelRfl
import Derived.Seven
import Derived.SevenTiedAt
import Derived.Test.YtignjjnflcpiiaaGreatDoorCards
import Derived.Test.YtignjjnflcpiiaaGreatDoorChecked
import Derived.Test.YtignjjnflcpiiaaGreatDoorR36
import Derived.Test.YtignjjnflcpiiaaGreatDoorTie
namespace Go.Proofs.YtignjjnflcpiiaaGreatDoor
open Go Go.ChangeShapes Go.WideShapes Go.ChangeAt Go.RowKit Go.ChangeMaps Go.Conc Go.ConcM
noncomputable def bbBase (os : Os) : World :=
  let w0 := World.holding Tryz.prog os ⟨#[], #[], []⟩
  { w0 with heap := w0.heap.modify 0 fun
      | .cells _ t frozen => .cells #[.iface 262 (.agg #[.pointer (some ⟨12, 25, none⟩)])] t frozen
      | o => o }
abbrev laidBBd : List (String × DataW Unit) := laidBB.filter fun x => x.2.handleName?.isNone
noncomputable def bbWorld (os : Os) : World := (bbBase os).layVars Tryz.prog laidBBd
set_option maxRecDepth 100000 in
theorem bbWorld_met (os : Os) (args : Array Value) : laidMetH Tryz.prog laidBB ((bbWorld os).forCall (fun _ _ => 0) ⟨#[], args, []⟩).memory := by
  have hd : laidMet Tryz.prog laidBBd (bbWorld os) := laidMet_layVars (w0 := bbBase os) (laidBBd.map (·.1)) [] rfl (by kernel_rfl) (by kernel_rfl) LaidIn.none
  exact laidMetH_of_parts (hd.of_heap (by simp [World.memory, World.forCall, Input.heap])) (by kernel_rfl)
set_option maxRecDepth 100000 in
theorem binds_lifted (os : Os) (started : os.Started) (H : Type) (enc : TypeId × Value → H) (F : Stop.Interp) :
    ReturnsInLeavingWide Rows.bundleBindsRow.assume Tryz.checked os 3 .any (fun w args => (Rows.bundleBindsSpec.pre enc Tryz.prog Tryz.f3 [] false w args ∧ laidMetH Tryz.prog laidBB w) ∧ sizedMet enc Tryz.prog Tryz.f3 (OpenSpec.ofChange Rows.bundleBindsSpec) false w args)
      ((OpenSpec.ofChange Rows.bundleBindsSpec).postWith enc Tryz.prog Tryz.f3 F (outsideKept [.timePasses]) false true false) := by
  refine wrapLv (C := Tryz.checked) (X := fun w _ => laidMetH Tryz.prog laidBB w) (fun _ _ _ hh h => h.of_heap hh) seatOwnZ started (by kernel_rfl) Tryz.func3 ?_ ?_
  · exact ⟨bbWorld os, fun _ _ => 0, ⟨#[], #[.string ⟨#[]⟩], []⟩, World.layVars_os _ _ _, World.shaped_of_ZipB (by kernel_rfl) (by kernel_rfl), rfl, (Input.okWide_of_okWideB (by kernel_rfl)).2, ⟨⟨ChangeSpec.pre_of_preB (fuel := 8) (by kernel_rfl), bbWorld_met os _⟩, sizedMet_of_sizedB (fuel := 8) (by kernel_rfl)⟩, by
      change ({ calm := true } : Assume).holds _ _
      simp only [Assume.holds]
      exact ⟨by simp, fun _ _ _ _ => rfl, by simp, by simp, by simp⟩⟩
  intro W base args ds gs before hval0 hW hwt0 hL hsh
  have hval : ∀ (j : Nat) t v, Tryz.f3.params[j]? = some t → args[j]? = some v → Value.okWide Tryz.prog W .any base t v := hval0
  have hwt : (DataW.weightsEach Tryz.prog (Tryz.f3.params.toList ++ Rows.bundleBindsSpec.plain.varTypes Tryz.prog) (ds ++ gs)).all (· ≤ reachBytes) = true := hwt0
  have hG : Ground W := ⟨Tryz.laysM145.s1_3 W hsh⟩
  have hg := gz_of_laidB hG hsh hL
  have hW' := hW
  obtain ⟨p, q, hA0, hV, rfl, _, _⟩ := hW
  have hA : DataW.TrodAll enc Tryz.prog W 0 (fun _ => true) true Tryz.f3.params.toList args.toList ds p := hA0
  rw [Tryz.params3] at hA hval hwt
  obtain ⟨v0, d0, rfl, rfl, h0⟩ := trodAll_one hA
  obtain ⟨rfl, rfl⟩ := trodVars_none hV
  obtain ⟨s, rfl, rfl, rfl, ws⟩ := open_string Tryz.underlying9 (hval 0 9 v0 rfl rfl) h0
  simp only [List.append_nil] at hW'
  have hs : s.data.toList.length ≤ reachBytes := sized_string hwt (j := 0) rfl rfl
  have hc := binds_any s.data.toList W hg (Nat.le_trans hs (by decide))
  rw [Lib.mk_data] at hc
  refine hc.mono fun e W' ⟨he, hb⟩ => ?_
  subst he
  exact ⟨_, rfl, ⟨_, _, _, [], [], [], hW', trodAll_mk1 (shut_bool Tryz.underlying4 true), trodAll_mk1 (shut_string Tryz.underlying9 ws), rfl, hb.frame _, fun h => by cases h⟩, hb.os⟩
end Go.Proofs.YtignjjnflcpiiaaGreatDoor
namespace Go.Proofs.YtignjjnflcpiiaaGreatDoor
open Go
theorem holds_tied_goes_at (Lk : Looks) {p : Pinned} {s : OpenSpec} {c : OpenClaim} (kinds : List LaidKind) (tests : Bool) (har : Bool × String) (lk g : Bool)
    (hc : c.holds p s) (hw : c.wfByText s = true) (htie : c.laidByTextAt Lk p kinds tests)
    (hst : c.start = .entering) (hnb : c.noBlocks = false ∧ c.again = false) (hm : p.checked.prog.mainIs = some (har.1, har.2.toList)) (hn : (!har.1 && har.2.isEmpty && !lk) = false)
    (hl : ∀ f fn, p.checked.prog.funcNamed c.func = some f → p.checked.prog.funcs[f]? = some fn → lk = p.checked.prog.looks [] ∧ ∀ (j : Nat) t, fn.params[j]? = some t → p.checked.prog.wantsStandIn t = false)
    (hg : g = c.goesBy p.checked.prog) :
    Claim7.holds p (.plain s) { stood := { row := c, standIns := [], harness := har, looks := lk }, kinds := [], alts := [], goes := g, laidByText := true, laidKinds := kinds, laidTests := tests, laidLooks := Lk } := by
  have h6 : ∀ r : OpenClaim, Claim7.isSixth { stood := { row := r, standIns := [], harness := har, looks := lk }, kinds := [] } = false := fun r => by simpa [Claim7.isSixth] using hn
  exact ⟨Claim7.tied_new_at Lk kinds tests (Claim7.new_of_sixth hc har lk hst hnb hm (h6 c) hl) hw, (fun D hD => nomatch (show D ∈ ([] : List (List PathCond)) from hD)), htie, (fun h => nomatch (show false = true from h)), hg⟩
theorem jb0 : Rows.bundleBindsRow.wf (OpenSpec.ofChange Rows.bundleBindsSpec) = true := by kernel_rfl
theorem jb1 : laidOutB Tryz.pinned.checked.prog = true := by kernel_rfl
theorem jb2 : mapsRowed Tryz.pinned.checked.prog = true := by kernel_rfl
theorem jb3 : (Rows.bundleBindsRow.inPlace == Tryz.pinned.checked.prog.inPlace 3) = true := by kernel_rfl
theorem jb4 : (Rows.bundleBindsRow.unfollowed == Tryz.pinned.checked.prog.unfollowed 3) = true := by kernel_rfl
theorem jb5 : (Rows.bundleBindsRow.recurses == Tryz.pinned.checked.prog.recurses 3) = true := by kernel_rfl
theorem jb6 : (Rows.bundleBindsRow.named == Tryz.pinned.checked.prog.varsNamed 3) = true := by kernel_rfl
theorem jb7 : (Rows.bundleBindsRow.plainKeys == Tryz.pinned.checked.prog.plainKeys) = true := by kernel_rfl
theorem jb8 : Tryz.pinned.checked.prog.stopsHeard = true := by kernel_rfl
theorem jb9 : Tryz.pinned.checked.prog.mayEnter = true := by kernel_rfl
theorem jb10 : (Rows.bundleBindsRow.lifted == Tryz.pinned.checked.prog.liftsFinal) = true := by kernel_rfl
theorem jb11 : (Tryz.pinned.checked.prog.make == some Rows.bundleBindsRow.make) = true := by kernel_rfl
theorem jb12 : namedTie Tryz.pinned.checked.prog Rows.bundleBindsRow.named Rows.bundleBindsSpec.vars = true := by kernel_rfl
theorem jb_and {a b : Bool} (h : a = true) (k : b = true) : (a && b) = true := by rw [h, k]; rfl
theorem bb_closed : joinedFacts Tryz.pinned.checked.prog 3 Tryz.f3 Rows.bundleBindsSpec Rows.bundleBindsRow = true := by
  unfold joinedFacts
  repeat' with_reducible refine jb_and ?_ ?_
  all_goals first | with_reducible exact jb0 | with_reducible exact jb1 | with_reducible exact jb2 | with_reducible exact jb3 | with_reducible exact jb4 | with_reducible exact jb5 | with_reducible exact jb6 | with_reducible exact jb7 | with_reducible exact jb8 | with_reducible exact jb9 | with_reducible exact jb10 | with_reducible exact jb11 | with_reducible exact jb12 | kernel_rfl
theorem bb_named : Tryz.pinned.checked.prog.funcNamed Rows.bundleBindsRow.func = some 3 := by kernel_rfl
theorem bb_inst : Tryz.f3.isInstance Tryz.pinned.checked.prog Rows.bundleBindsRow.origin Rows.bundleBindsRow.targs := of_decide_eq_true (by kernel_rfl)
theorem bb_wrap : Tryz.f3.isWrapper Tryz.pinned.checked.prog Rows.bundleBindsRow.wrapper Rows.bundleBindsRow.mainSum := by unfold Func.isWrapper; rw [if_neg (of_decide_eq_false (by kernel_rfl))]; exact ⟨rfl, rfl⟩
theorem bb_wft : Rows.bundleBindsRow.wfByText (OpenSpec.ofChange Rows.bundleBindsSpec) = true := by kernel_rfl
theorem bb_main : Tryz.pinned.checked.prog.mainIs = some (true, "6f0251da0188cf8eafed328b06f003c29786626d0e54394887c6c4c50c66b9af".toList) := by kernel_rfl
theorem bb_looks : true = Tryz.pinned.checked.prog.looks [] := by kernel_rfl
theorem bb_stand : ([9].all fun u => !Tryz.prog.wantsStandIn u) = true := by kernel_rfl
theorem bb_goes : true = Rows.bundleBindsRow.goesBy Tryz.pinned.checked.prog := by kernel_rfl
end Go.Proofs.YtignjjnflcpiiaaGreatDoor
namespace Go.Proofs.YtignjjnflcpiiaaGreatDoor
open Go Go.ChangeShapes Go.WideShapes Go.ChangeAt Go.RowKit Go.ChangeMaps
theorem binds_row : Rows.BundleBindsSaid :=
  OpenClaim.holds_of_wide_leaving_time (p := Tryz.pinned) (s := Rows.bundleBindsSpec) (c := Rows.bundleBindsRow) 3 Tryz.f3 rfl rfl rfl rfl rfl rfl rfl ⟨rfl, rfl, rfl, rfl, rfl⟩ rfl rfl rfl rfl rfl bb_named Tryz.func3 bb_closed bb_inst bb_wrap
    (fun os started H enc _ F => binds_lifted os started H enc F)
theorem binds_card : Rows.BundleBindsCardSaid :=
  holds_tied_goes_at .later [.data, .data, .data, .data, .handle, .widerDeep, .data, .pinned] true (true, "6f0251da0188cf8eafed328b06f003c29786626d0e54394887c6c4c50c66b9af") true true
    binds_row bb_wft bundleBinds_row_tie rfl ⟨rfl, rfl⟩ bb_main rfl
    (fun f fn hf hfn => by
      obtain rfl : f = 3 := Option.some.inj (bb_named.symm.trans hf) |>.symm
      obtain rfl : fn = Tryz.f3 := (Option.some.inj (Tryz.func3.symm.trans hfn)).symm
      exact ⟨bb_looks, fun j t ht => by
        rw [Tryz.params3] at ht
        have hm : t ∈ [9] := by simpa using Array.mem_of_getElem? ht
        exact (show Tryz.prog.wantsStandIn t = false by simpa using List.all_eq_true.1 bb_stand t hm)⟩)
    bb_goes
end Go.Proofs.YtignjjnflcpiiaaGreatDoor
