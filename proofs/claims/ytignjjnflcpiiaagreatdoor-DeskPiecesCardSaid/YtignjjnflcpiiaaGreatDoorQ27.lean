/- A link's round of Bind. Condition: what the variables hold; so much in the lists; Bind's round with a part, from Leads on. Condition: what the variables hold; so much in the bundle. -/
import Derived.Test.YtignjjnflcpiiaaGreatDoorQ26
namespace Go.Proofs.YtignjjnflcpiiaaGreatDoor
open Go Go.RowKit
noncomputable def bindRound : Code := inC (fstC (sndC (sndC (inC (inC (sndC (fstC (sndC (sndC (sndC (sndC ((Tryz.f11.body).getD .skip))))))))))))
noncomputable def bindT16 : Code := sndC (sndC (sndC (sndC (sndC bindRound))))
noncomputable def bindC5 : Code := inC (fstC (sndC (sndC (inC (inC (sndC (fstC (sndC (sndC (sndC bindT16))))))))))
set_option maxHeartbeats 16000000 in
set_option maxRecDepth 100000 in
theorem bind_link {u0 u1 u2 u3 u4 u5 u7 u8 u9 u10 u11 u13 u15 u16 u17 u18 u19 u20 u21 u22 u23 u24 u25 u26 u27 u28 u29 u30 u31 u32 u33 u34 u35 u36 u37 u38 u39 u40 u41 u42 u43 u44 u45 u46 u47 u48 u49 u50 u51 u52 u53 u54 u55 u56 u57 u58 u59 u60 u61 u62 u63 u64 u65 u66 u67 u68 u69 u70 u71 u72 u73 u74 u75 u76 u77 u78 u79 u80 u81 u83 u85 u86 u87 u88 u89 u90 u91 u92 u93 u94 u95 u96 u97 u98 u99 u100 u101 u102 u103 u104 u105 u106 u107 u108 u109 u110 u111 u112 u113 u114 u115 u116 u117 u118 u119 u120 u121 u122 u123 u124 u125 u126 u127 u128 u129 u130 u131 u132 u133 u134 u135 u136 u137 u138 u139 u140 u141 u142 u143 u144 u145 u146 u147 u148 u149 ov : Value} (Q : Exit → Act → World → Prop) (be lb nl lc kb nk kc j B : Nat) (x1 x2 : Nat) (x3 : Bs) (d : Int) (e : Bs) (out : List Bs) (w : World)
    (hj1 : j < nl) (hj2 : j < nk) (c1 : w.cell? ⟨lb, j * 2 + 1, none⟩ = some (.int .i64 d)) (e0 : w.cell? ⟨kb, j * 3, none⟩ = some (.int .i64 (x1 : Int))) (e1 : w.cell? ⟨kb, j * 3 + 1, none⟩ = some (.int .i64 (x2 : Int))) (e2 : w.cell? ⟨kb, j * 3 + 2, none⟩ = some (.string ⟨x3.toArray⟩))
    (hbe : be < B) (hlb : lb < B) (hB : B ≤ w.heap.size) (hcb : w.cell? ⟨be, 0, none⟩ = some (.string ⟨e.toArray⟩)) (hel : e.length ≤ 1000) (hx3 : x3.length ≤ 1000000) (hd1 : -9223372036854775808 ≤ d) (hd2 : d ≤ 9223372036854775807) (hown : OwnT w B ov out) (hout : out.length ≤ 1000000000) (hg : Gz w)
    (hN : ∀ (a15 a16 a17 a18 a19 a86 a87 a88 a89 a90 a91 a92 a93 a94 a95 a96 a97 a98 a99 a100 a101 a102 a103 a104 a105 a106 a107 a108 a109 a110 a111 a112 a113 a114 a115 a116 a117 a118 a119 a120 a121 a122 a123 a124 : Value) (v' : Value) (w' : World), OwnT w' B v' (out ++ [valueT e x3 d]) → Below B w w' → Q .normal ⟨List.toArray (u0 :: u1 :: u2 :: u3 :: u4 :: u5 :: .func (.func 40) #[] #[.pointer (some ⟨be, 0, none⟩)] :: u7 :: u8 :: u9 :: u10 :: u11 :: .slice (some ⟨lb, 0, none⟩) nl lc :: u13 :: v' :: a15 :: a16 :: a17 :: a18 :: a19 :: u20 :: u21 :: u22 :: u23 :: u24 :: u25 :: u26 :: u27 :: u28 :: u29 :: u30 :: u31 :: u32 :: u33 :: u34 :: u35 :: u36 :: u37 :: u38 :: u39 :: u40 :: u41 :: u42 :: u43 :: u44 :: u45 :: u46 :: u47 :: u48 :: u49 :: u50 :: u51 :: u52 :: u53 :: u54 :: u55 :: u56 :: u57 :: u58 :: u59 :: u60 :: u61 :: u62 :: u63 :: u64 :: u65 :: u66 :: u67 :: u68 :: u69 :: u70 :: u71 :: u72 :: u73 :: u74 :: u75 :: u76 :: u77 :: u78 :: u79 :: u80 :: u81 :: .slice (some ⟨kb, 0, none⟩) nk kc :: u83 :: .int .i64 (j : Int) :: u85 :: a86 :: a87 :: a88 :: a89 :: a90 :: a91 :: a92 :: a93 :: a94 :: a95 :: a96 :: a97 :: a98 :: a99 :: a100 :: a101 :: a102 :: a103 :: a104 :: a105 :: a106 :: a107 :: a108 :: a109 :: a110 :: a111 :: a112 :: a113 :: a114 :: a115 :: a116 :: a117 :: a118 :: a119 :: a120 :: a121 :: a122 :: a123 :: a124 :: u125 :: u126 :: u127 :: u128 :: u129 :: u130 :: u131 :: u132 :: u133 :: u134 :: u135 :: u136 :: u137 :: u138 :: u139 :: u140 :: u141 :: u142 :: u143 :: u144 :: u145 :: u146 :: u147 :: u148 :: u149 :: []), []⟩ w')
    (hX : ∀ (a15 a16 a17 a18 a19 a86 a87 a88 a89 a90 a91 a92 a93 a94 a95 a96 a97 a98 a99 a100 a101 a102 a103 a104 a105 a106 a107 a108 a109 a110 a111 a112 a113 a114 a115 a116 a117 a118 a119 a120 a121 a122 a123 a124 : Value) (v' : Value) (w' : World), OwnT w' B v' (out ++ [valueT e x3 d]) → Below B w w' → Q (.exit 5) ⟨List.toArray (u0 :: u1 :: u2 :: u3 :: u4 :: u5 :: .func (.func 40) #[] #[.pointer (some ⟨be, 0, none⟩)] :: u7 :: u8 :: u9 :: u10 :: u11 :: .slice (some ⟨lb, 0, none⟩) nl lc :: u13 :: v' :: a15 :: a16 :: a17 :: a18 :: a19 :: u20 :: u21 :: u22 :: u23 :: u24 :: u25 :: u26 :: u27 :: u28 :: u29 :: u30 :: u31 :: u32 :: u33 :: u34 :: u35 :: u36 :: u37 :: u38 :: u39 :: u40 :: u41 :: u42 :: u43 :: u44 :: u45 :: u46 :: u47 :: u48 :: u49 :: u50 :: u51 :: u52 :: u53 :: u54 :: u55 :: u56 :: u57 :: u58 :: u59 :: u60 :: u61 :: u62 :: u63 :: u64 :: u65 :: u66 :: u67 :: u68 :: u69 :: u70 :: u71 :: u72 :: u73 :: u74 :: u75 :: u76 :: u77 :: u78 :: u79 :: u80 :: u81 :: .slice (some ⟨kb, 0, none⟩) nk kc :: u83 :: .int .i64 (j : Int) :: u85 :: a86 :: a87 :: a88 :: a89 :: a90 :: a91 :: a92 :: a93 :: a94 :: a95 :: a96 :: a97 :: a98 :: a99 :: a100 :: a101 :: a102 :: a103 :: a104 :: a105 :: a106 :: a107 :: a108 :: a109 :: a110 :: a111 :: a112 :: a113 :: a114 :: a115 :: a116 :: a117 :: a118 :: a119 :: a120 :: a121 :: a122 :: a123 :: a124 :: u125 :: u126 :: u127 :: u128 :: u129 :: u130 :: u131 :: u132 :: u133 :: u134 :: u135 :: u136 :: u137 :: u138 :: u139 :: u140 :: u141 :: u142 :: u143 :: u144 :: u145 :: u146 :: u147 :: u148 :: u149 :: []), []⟩ w') :
    Code.wp Tryz.prog bindC5 Q ⟨List.toArray (u0 :: u1 :: u2 :: u3 :: u4 :: u5 :: .func (.func 40) #[] #[.pointer (some ⟨be, 0, none⟩)] :: u7 :: u8 :: u9 :: u10 :: u11 :: .slice (some ⟨lb, 0, none⟩) nl lc :: u13 :: ov :: u15 :: u16 :: u17 :: u18 :: u19 :: u20 :: u21 :: u22 :: u23 :: u24 :: u25 :: u26 :: u27 :: u28 :: u29 :: u30 :: u31 :: u32 :: u33 :: u34 :: u35 :: u36 :: u37 :: u38 :: u39 :: u40 :: u41 :: u42 :: u43 :: u44 :: u45 :: u46 :: u47 :: u48 :: u49 :: u50 :: u51 :: u52 :: u53 :: u54 :: u55 :: u56 :: u57 :: u58 :: u59 :: u60 :: u61 :: u62 :: u63 :: u64 :: u65 :: u66 :: u67 :: u68 :: u69 :: u70 :: u71 :: u72 :: u73 :: u74 :: u75 :: u76 :: u77 :: u78 :: u79 :: u80 :: u81 :: .slice (some ⟨kb, 0, none⟩) nk kc :: u83 :: .int .i64 (j : Int) :: u85 :: u86 :: u87 :: u88 :: u89 :: u90 :: u91 :: u92 :: u93 :: u94 :: u95 :: u96 :: u97 :: u98 :: u99 :: u100 :: u101 :: u102 :: u103 :: u104 :: u105 :: u106 :: u107 :: u108 :: u109 :: u110 :: u111 :: u112 :: u113 :: u114 :: u115 :: u116 :: u117 :: u118 :: u119 :: u120 :: u121 :: u122 :: u123 :: u124 :: u125 :: u126 :: u127 :: u128 :: u129 :: u130 :: u131 :: u132 :: u133 :: u134 :: u135 :: u136 :: u137 :: u138 :: u139 :: u140 :: u141 :: u142 :: u143 :: u144 :: u145 :: u146 :: u147 :: u148 :: u149 :: []), []⟩ w := by
  have HN := Lib.hid hN
  have HX := Lib.hid hX
  clear hN hX
  have HV := Lib.hid (show valueT e x3 d = if d < 0 then x3 else 99 :: 105 :: 100 :: 58 :: (nameT e d ++ (match readA x3 with
    | none => []
    | some a => if a.hasFrag then 35 :: a.frag else [])) from rfl)
  generalize valueT e x3 d = vt at HN HX HV
  have BA := (Below.refl w.heap.size w).alloc (Nat.le_refl _) (.cells #[.int .i64 (x1 : Int), .int .i64 (x2 : Int), .string ⟨x3.toArray⟩] 96)
  have k16 := Blk.new w #[.int .i64 (x1 : Int), .int .i64 (x2 : Int), .string ⟨x3.toArray⟩] 96
  have i0 : (0 : Int) ≤ j := by omega
  have i1 : (j : Int) < nl := by omega
  have i2 : (j : Int) < nk := by omega
  have c1' := (BA.cell (p := ⟨lb, j * 2 + 1, none⟩) (by simp only; omega)).trans c1
  have hcb' := (BA.cell (p := ⟨be, 0, none⟩) (by simp only; omega)).trans hcb
  have hown := OwnG.next hown BA
  have hg1 := hg.next BA
  have hsz := BA.size
  have B1 := BA.mono hB
  delta bindC5 bindT16 bindRound Tryz.f11
  dsimp only [sndC, fstC, inC, Option.getD]
  go_upto_region 22 with fail
  generalize World.alloc _ _ = w1 at BA k16 c1' hcb' hown hg1 hsz B1 ⊢
  clear e0 e1 e2 c1 hcb BA hg
  have k16c := k16.cell
  have hB1 : B ≤ w1.heap.size := by omega
  by_cases hneg : d < 0
  · have HV := Lib.hid (show vt = x3 from by rw [HV.out, if_pos hneg])
    have hown2 := OwnG.alloc hown (.cells #[.string ⟨x3.toArray⟩] 9)
    go_wp2_with (at_builtin; refine appTx rfl _ _ rfl B _ out x3 w1.heap.size 1 rfl hown2 rfl (cellTx w1 x3 _) (by omega) (by simp; omega) ?_; intro v' w2 hown3 hg3 hb3 hob3)
    go_wp2_with fail
    exact HX.out _ _ _ _ _ _ _ _ _ _ _ _ _ _ _ _ _ _ _ _ _ _ _ _ _ _ _ _ _ _ _ _ _ _ _ _ _ _ _ _ _ _ _ _ _ _ (by rw [HV.out]; exact hown3) ((B1.alloc hB1 _).trans hb3)
  · have HV := Lib.hid (show vt = 99 :: 105 :: 100 :: 58 :: (nameT e d ++ (match readA x3 with
      | none => []
      | some a => if a.hasFrag then 35 :: a.frag else [])) from by rw [HV.out, if_neg hneg])
    have hnl : (nameT e d).length ≤ 1100 := by
      have := Lib.itoa_length_le d hd1 hd2
      unfold nameT; simp; omega
    have hNm := bname_any d e be w1 hd1 hd2 hcb' (by omega) hg1
    generalize nameT e d = nm at HV hnl hNm
    have hR := fun W hW => addrRead_any x3 W (by omega) hW
    unfold ReadPost at hR
    have hrl := fun a (h : readA x3 = some a) => readA_len h
    generalize readA x3 = ra at hR HV hrl
    go_wp2_with fail
    with_reducible refine hNm.mono ?_
    rintro r w2 ⟨rfl, b2⟩
    have B2 := B1.trans (b2.mono hB1)
    have k16 := k16.next b2 k16.lt
    have k16c := k16.cell
    have hown := OwnG.next hown b2
    have hg2 := hg1.next b2
    have hs2 := b2.size
    clear hNm c1' hcb' B1 b2 hg1
    go_wp2_with fail
    with_reducible refine (hR _ hg2.r.g).mono ?_
    rintro r w3 ⟨rfl, b3⟩
    have B3 := B2.trans (b3.mono (by omega))
    have hown := OwnG.next hown b3
    have hs3 := b3.size
    clear hR k16 k16c B2 b3 hg2
    cases ra with
    | none =>
      have HV := Lib.hid (show vt = 99 :: 105 :: 100 :: 58 :: nm from by rw [HV.out]; simp)
      have BA := (Below.refl w3.heap.size w3).alloc (Nat.le_refl _) (.cells Addr.zero.cells 36)
      have k18 := Blk.new w3 Addr.zero.cells 36
      have hown := OwnG.next hown BA
      have B4 := B3.trans (BA.mono (by omega))
      have hs4 := BA.size
      simp only [Addr.zero] at k18 hown B4 hs4 ⊢
      have k18c := k18.cell
      clear BA B3
      go_upto_region 26 with fail
      generalize World.alloc _ _ = w4 at k18 hown B4 hs4 k18c ⊢
      have hown2 := OwnG.alloc hown (.cells #[.string ⟨(99 :: 105 :: 100 :: 58 :: nm : Bs).toArray⟩] 9)
      go_wp2_with (at_builtin; refine appTx rfl _ _ rfl B _ out (99 :: 105 :: 100 :: 58 :: nm) w4.heap.size 1 rfl hown2 rfl (cellTx w4 (99 :: 105 :: 100 :: 58 :: nm) _) (by omega) (by simp; omega) ?_; intro v' w5 hown3 hg3 hb3 hob3)
      go_wp2_with fail
      exact HN.out _ _ _ _ _ _ _ _ _ _ _ _ _ _ _ _ _ _ _ _ _ _ _ _ _ _ _ _ _ _ _ _ _ _ _ _ _ _ _ _ _ _ _ _ _ _ (by rw [HV.out]; exact hown3) ((B4.alloc (by omega) _).trans hb3)
    | some a =>
      have hra := hrl a rfl
      obtain ⟨sc, ha, au, pt, hq, qu, hf, fr⟩ := a
      have hfl : fr.length ≤ 3000000 := by unfold Addr.len at hra; simp only at hra; omega
      have HV := Lib.hid (show vt = 99 :: 105 :: 100 :: 58 :: (nm ++ if hf then 35 :: fr else []) from HV.out)
      have BA := (Below.refl w3.heap.size w3).alloc (Nat.le_refl _) (.cells (Addr.cells ⟨sc, ha, au, pt, hq, qu, hf, fr⟩) 36)
      have k18 := Blk.new w3 (Addr.cells ⟨sc, ha, au, pt, hq, qu, hf, fr⟩) 36
      have hown := OwnG.next hown BA
      have B4 := B3.trans (BA.mono (by omega))
      have hs4 := BA.size
      have k18c := k18.cell
      clear BA B3
      go_upto_region 26 with fail
      generalize World.alloc _ _ = w4 at k18 hown B4 hs4 k18c ⊢
      cases hf with
      | false =>
        have HV := Lib.hid (show vt = 99 :: 105 :: 100 :: 58 :: nm from by rw [HV.out]; simp)
        have hown2 := OwnG.alloc hown (.cells #[.string ⟨(99 :: 105 :: 100 :: 58 :: nm : Bs).toArray⟩] 9)
        go_wp2_with (at_builtin; refine appTx rfl _ _ rfl B _ out (99 :: 105 :: 100 :: 58 :: nm) w4.heap.size 1 rfl hown2 rfl (cellTx w4 (99 :: 105 :: 100 :: 58 :: nm) _) (by omega) (by simp; omega) ?_; intro v' w5 hown3 hg3 hb3 hob3)
        go_wp2_with fail
        exact HN.out _ _ _ _ _ _ _ _ _ _ _ _ _ _ _ _ _ _ _ _ _ _ _ _ _ _ _ _ _ _ _ _ _ _ _ _ _ _ _ _ _ _ _ _ _ _ (by rw [HV.out]; exact hown3) ((B4.alloc (by omega) _).trans hb3)
      | true =>
        have HV := Lib.hid (show vt = 99 :: 105 :: 100 :: 58 :: (nm ++ 35 :: fr) from by rw [HV.out]; simp)
        have hown2 := OwnG.alloc hown (.cells #[.string ⟨(99 :: 105 :: 100 :: 58 :: (nm ++ 35 :: fr) : Bs).toArray⟩] 9)
        go_wp2_with (at_builtin; refine appTx rfl _ _ rfl B _ out (99 :: 105 :: 100 :: 58 :: (nm ++ 35 :: fr)) w4.heap.size 1 rfl hown2 rfl (cellTx w4 (99 :: 105 :: 100 :: 58 :: (nm ++ 35 :: fr)) _) (by omega) (by simp; omega) ?_; intro v' w5 hown3 hg3 hb3 hob3)
        go_wp2_with fail
        exact HN.out _ _ _ _ _ _ _ _ _ _ _ _ _ _ _ _ _ _ _ _ _ _ _ _ _ _ _ _ _ _ _ _ _ _ _ _ _ _ _ _ _ _ _ _ _ _ (by rw [HV.out]; exact hown3) ((B4.alloc (by omega) _).trans hb3)
theorem zip_map_drop {α β γ : Type} (f : α × β → γ) (L : List α) (M : List β) (j : Nat) (h1 : j < L.length) (h2 : j < M.length) (out : List γ) (h : out ++ ((L.zip M).drop j).map f = (L.zip M).map f) :
    (out ++ [f (L[j], M[j])]) ++ ((L.zip M).drop (j + 1)).map f = (L.zip M).map f := by
  have hl : j < (L.zip M).length := by rw [List.length_zip]; omega
  rw [← h, List.drop_eq_getElem_cons hl, List.map_cons, List.getElem_zip]; simp
theorem leadsAt_len (b : Bnd) (p : Prt) (a : Addr) : leadsAt b p a = [] ∨ (leadsAt b p a).length = (linksT p.body).length := by
  unfold leadsAt
  split
  · right; rw [List.length_map]
  · left; rfl
def valF (e : Bs) (x : Lnk × Led1) : Bs := valueT e x.1.2.2 x.2.2
theorem valueT_len (e v : Bs) (d : Int) (h1 : -9223372036854775808 ≤ d) (h2 : d ≤ 9223372036854775807) : (valueT e v d).length ≤ 3 * v.length + e.length + 30 := by
  unfold valueT
  split
  · omega
  · have hi := Lib.itoa_length_le d h1 h2
    cases hr : readA v with
    | none =>
      simp only [nameT, List.length_cons, List.length_append, List.length_nil]
      omega
    | some a =>
      have := readA_len hr
      unfold Addr.len at this
      simp only [nameT, List.length_cons, List.length_append]
      split
      · simp only [List.length_cons]; omega
      · simp only [List.length_nil]; omega
set_option maxHeartbeats 16000000 in
set_option maxRecDepth 100000 in
theorem bind_leads {u1 u2 u3 u4 u5 u9 u10 u11 u12 u13 u14 u15 u16 u17 u18 u19 u20 u21 u22 u23 u24 u25 u26 u27 u28 u29 u30 u31 u32 u33 u34 u35 u36 u37 u38 u39 u40 u41 u42 u43 u44 u45 u46 u47 u48 u49 u50 u51 u52 u53 u54 u55 u56 u57 u58 u59 u60 u61 u62 u63 u64 u65 u66 u67 u68 u69 u70 u71 u72 u73 u74 u75 u76 u77 u78 u79 u80 u81 u82 u83 u84 u85 u86 u87 u88 u89 u90 u91 u92 u93 u94 u95 u96 u97 u98 u99 u100 u101 u102 u103 u104 u105 u106 u107 u108 u109 u110 u111 u112 u113 u114 u115 u116 u117 u118 u119 u120 u121 u122 u123 u124 u125 u126 u127 u128 u129 u130 u131 u132 u133 u134 u135 u136 u137 u138 u139 u140 u141 u142 u143 u144 u145 u146 u147 u148 u149 : Value} (Q : Exit → Act → World → Prop) (bp gp be k cap B : Nat) (b : Bnd) (q : Prt) (rs : List PRaw) (e : Bs) (w : World)
    (hbd : RdBnd (fun _ => True) w bp b) (hin : BndIn b) (hk : k < b.whole.parts.length) (hq : b.whole.parts[k] = q) (hkr : k < rs.length) (hbody : (rs[k]).2.1 = q.body)
    (hown : OwnPr w B (.slice (some ⟨gp, 0, none⟩) rs.length cap) rs) (hcb : w.cell? ⟨be, 0, none⟩ = some (.string ⟨e.toArray⟩)) (hel : e.length ≤ 1000) (hg : Gz w) (hlead : ∀ a, ∀ x ∈ leadsAt b q a, -9223372036854775808 ≤ x.2 ∧ x.2 ≤ 9223372036854775807)
    (hN : ∀ (a12 a13 a14 a15 a16 a17 a18 a19 a69 a70 a71 a72 a73 a74 a75 a76 a77 a78 a79 a80 a81 a82 a83 a84 a85 a86 a87 a88 a89 a90 a91 a92 a93 a94 a95 a96 a97 a98 a99 a100 a101 a102 a103 a104 a105 a106 a107 a108 a109 a110 a111 a112 a113 a114 a115 a116 a117 a118 a119 a120 a121 a122 a123 a124 a125 a126 a127 a128 a129 a130 a131 a132 a133 a134 a135 a136 a137 : Value) (w' : World), OwnPr w' B (.slice (some ⟨gp, 0, none⟩) rs.length cap) (rs.set k ((rs[k]).1, boundBody e q.body ((leadsB b (k : Int)).getD []), (rs[k]).2.2)) → BelowO gp w.heap.size w w' → Q .normal ⟨List.toArray (.pointer (some ⟨bp, 0, none⟩) :: u1 :: u2 :: u3 :: u4 :: u5 :: .func (.func 40) #[] #[.pointer (some ⟨be, 0, none⟩)] :: .int .i64 (k : Int) :: .pointer (some ⟨gp, k * 4, none⟩) :: u9 :: u10 :: u11 :: a12 :: a13 :: a14 :: a15 :: a16 :: a17 :: a18 :: a19 :: u20 :: u21 :: u22 :: u23 :: u24 :: u25 :: u26 :: u27 :: u28 :: u29 :: u30 :: u31 :: u32 :: u33 :: u34 :: u35 :: u36 :: u37 :: u38 :: u39 :: u40 :: u41 :: u42 :: u43 :: u44 :: u45 :: u46 :: u47 :: u48 :: u49 :: u50 :: u51 :: u52 :: u53 :: u54 :: u55 :: u56 :: u57 :: u58 :: u59 :: u60 :: u61 :: u62 :: u63 :: u64 :: u65 :: u66 :: u67 :: u68 :: a69 :: a70 :: a71 :: a72 :: a73 :: a74 :: a75 :: a76 :: a77 :: a78 :: a79 :: a80 :: a81 :: a82 :: a83 :: a84 :: a85 :: a86 :: a87 :: a88 :: a89 :: a90 :: a91 :: a92 :: a93 :: a94 :: a95 :: a96 :: a97 :: a98 :: a99 :: a100 :: a101 :: a102 :: a103 :: a104 :: a105 :: a106 :: a107 :: a108 :: a109 :: a110 :: a111 :: a112 :: a113 :: a114 :: a115 :: a116 :: a117 :: a118 :: a119 :: a120 :: a121 :: a122 :: a123 :: a124 :: a125 :: a126 :: a127 :: a128 :: a129 :: a130 :: a131 :: a132 :: a133 :: a134 :: a135 :: a136 :: a137 :: u138 :: u139 :: u140 :: u141 :: u142 :: u143 :: u144 :: u145 :: u146 :: u147 :: u148 :: u149 :: []), []⟩ w')
    (hX : ∀ (a12 a13 a14 a15 a16 a17 a18 a19 a69 a70 a71 a72 a73 a74 a75 a76 a77 a78 a79 a80 a81 a82 a83 a84 a85 a86 a87 a88 a89 a90 a91 a92 a93 a94 a95 a96 a97 a98 a99 a100 a101 a102 a103 a104 a105 a106 a107 a108 a109 a110 a111 a112 a113 a114 a115 a116 a117 a118 a119 a120 a121 a122 a123 a124 a125 a126 a127 a128 a129 a130 a131 a132 a133 a134 a135 a136 a137 : Value) (w' : World), OwnPr w' B (.slice (some ⟨gp, 0, none⟩) rs.length cap) (rs.set k ((rs[k]).1, boundBody e q.body ((leadsB b (k : Int)).getD []), (rs[k]).2.2)) → BelowO gp w.heap.size w w' → Q (.exit 1) ⟨List.toArray (.pointer (some ⟨bp, 0, none⟩) :: u1 :: u2 :: u3 :: u4 :: u5 :: .func (.func 40) #[] #[.pointer (some ⟨be, 0, none⟩)] :: .int .i64 (k : Int) :: .pointer (some ⟨gp, k * 4, none⟩) :: u9 :: u10 :: u11 :: a12 :: a13 :: a14 :: a15 :: a16 :: a17 :: a18 :: a19 :: u20 :: u21 :: u22 :: u23 :: u24 :: u25 :: u26 :: u27 :: u28 :: u29 :: u30 :: u31 :: u32 :: u33 :: u34 :: u35 :: u36 :: u37 :: u38 :: u39 :: u40 :: u41 :: u42 :: u43 :: u44 :: u45 :: u46 :: u47 :: u48 :: u49 :: u50 :: u51 :: u52 :: u53 :: u54 :: u55 :: u56 :: u57 :: u58 :: u59 :: u60 :: u61 :: u62 :: u63 :: u64 :: u65 :: u66 :: u67 :: u68 :: a69 :: a70 :: a71 :: a72 :: a73 :: a74 :: a75 :: a76 :: a77 :: a78 :: a79 :: a80 :: a81 :: a82 :: a83 :: a84 :: a85 :: a86 :: a87 :: a88 :: a89 :: a90 :: a91 :: a92 :: a93 :: a94 :: a95 :: a96 :: a97 :: a98 :: a99 :: a100 :: a101 :: a102 :: a103 :: a104 :: a105 :: a106 :: a107 :: a108 :: a109 :: a110 :: a111 :: a112 :: a113 :: a114 :: a115 :: a116 :: a117 :: a118 :: a119 :: a120 :: a121 :: a122 :: a123 :: a124 :: a125 :: a126 :: a127 :: a128 :: a129 :: a130 :: a131 :: a132 :: a133 :: a134 :: a135 :: a136 :: a137 :: u138 :: u139 :: u140 :: u141 :: u142 :: u143 :: u144 :: u145 :: u146 :: u147 :: u148 :: u149 :: []), []⟩ w') :
    Code.wp Tryz.prog bindT16 Q ⟨List.toArray (.pointer (some ⟨bp, 0, none⟩) :: u1 :: u2 :: u3 :: u4 :: u5 :: .func (.func 40) #[] #[.pointer (some ⟨be, 0, none⟩)] :: .int .i64 (k : Int) :: .pointer (some ⟨gp, k * 4, none⟩) :: u9 :: u10 :: u11 :: u12 :: u13 :: u14 :: u15 :: u16 :: u17 :: u18 :: u19 :: u20 :: u21 :: u22 :: u23 :: u24 :: u25 :: u26 :: u27 :: u28 :: u29 :: u30 :: u31 :: u32 :: u33 :: u34 :: u35 :: u36 :: u37 :: u38 :: u39 :: u40 :: u41 :: u42 :: u43 :: u44 :: u45 :: u46 :: u47 :: u48 :: u49 :: u50 :: u51 :: u52 :: u53 :: u54 :: u55 :: u56 :: u57 :: u58 :: u59 :: u60 :: u61 :: u62 :: u63 :: u64 :: u65 :: u66 :: u67 :: u68 :: u69 :: u70 :: u71 :: u72 :: u73 :: u74 :: u75 :: u76 :: u77 :: u78 :: u79 :: u80 :: u81 :: u82 :: u83 :: u84 :: u85 :: u86 :: u87 :: u88 :: u89 :: u90 :: u91 :: u92 :: u93 :: u94 :: u95 :: u96 :: u97 :: u98 :: u99 :: u100 :: u101 :: u102 :: u103 :: u104 :: u105 :: u106 :: u107 :: u108 :: u109 :: u110 :: u111 :: u112 :: u113 :: u114 :: u115 :: u116 :: u117 :: u118 :: u119 :: u120 :: u121 :: u122 :: u123 :: u124 :: u125 :: u126 :: u127 :: u128 :: u129 :: u130 :: u131 :: u132 :: u133 :: u134 :: u135 :: u136 :: u137 :: u138 :: u139 :: u140 :: u141 :: u142 :: u143 :: u144 :: u145 :: u146 :: u147 :: u148 :: u149 :: []), []⟩ w := by
  have HN := Lib.hid hN
  have HX := Lib.hid hX
  have hqS := hin.whole.part (List.getElem_mem hk)
  rw [hq] at hqS
  have hk2 : k < b.places.length := by rw [hin.places]; exact hk
  have HL := Lib.hid (show leadsB b (k : Int) = some (leadsAt b q (b.places[k])) from by
    unfold leadsB
    rw [if_neg (by omega)]
    simp [hk, hk2, hq])
  have hLd := bleads_any (fun _ => True) bp b (k : Int) w hbd hin hg.r (by omega) (by have := hin.whole.head.2.2; omega)
  rw [HL.out] at hLd
  rw [HL.out] at hN hX
  have HN := Lib.hid hN
  have HX := Lib.hid hX
  have hld := leadsAt_len b q (b.places[k])
  have hlead := hlead (b.places[k])
  generalize leadsAt b q (b.places[k]) = ld at hLd HN HX hld hlead
  simp only [Option.getD_some] at HN HX
  have hge := OwnG.own_ge hown gp rfl
  have hglt := OwnG.own_lt hown gp rfl
  have hfr := OwnG.free hown
  have cb := OwnG.cellAt prtC_len hown k hkr 1 (by decide)
  have hsetG := fun (W : World) (o : OwnPr W B (.slice (some ⟨gp, 0, none⟩) rs.length cap) rs) (y : Bs) => OwnG.setG prtC_len o k 1 hkr (by decide) (.string ⟨y.toArray⟩) ((rs[k]).1, y, (rs[k]).2.2) rfl
  have HSG := Lib.hid hsetG
  have HSame := Lib.hid (show rs.set k ((rs[k]).1, q.body, (rs[k]).2.2) = rs from by
    rw [← hbody]
    exact List.set_getElem_self hkr)
  simp only [prtC, List.getElem?_cons_zero, List.getElem?_cons_succ] at cb
  rw [hbody] at cb
  have hbl := hqS.fl.2
  have hLk := fun W hW => links_any q.body W hW (by omega)
  have hLn := (linksT_lies q.body).2
  have hVal := Lib.hid (linksT_val q.body)
  have HBB := Lib.hid (show boundBody e q.body ld = if ld = [] then q.body else (replK q.body (((linksT q.body).zip ld).map (valF e))).getD [] from rfl)
  generalize linksT q.body = L at hLk hLn hVal HBB hld
  generalize boundBody e q.body ld = bb at HN HX HBB
  generalize q.body = body at cb hbl hLk hLn hVal HBB HSame
  clear hN hX HL hbd hq hqS hsetG hbody
  have hkk : (0 : Int) ≤ k := by omega
  delta bindT16 bindRound Tryz.f11
  dsimp only [sndC, fstC, inC, Option.getD]
  go_wp2_with fail
  with_reducible refine hLd.mono ?_
  rintro r w1 ⟨hh, b1⟩
  obtain ⟨v1, rfl, hownD⟩ : ∃ v, r = .returned (.tuple #[v, .nilIface]) ∧ OwnD w1 w.heap.size v ld := by
    rcases hh with ⟨l, v, h1, h2, h3⟩ | ⟨h1, _⟩
    · injection h1 with h1
      subst h1
      exact ⟨v, h2, h3⟩
    · cases h1
  clear hh hLd
  have hrD := OwnG.rdB (by decide) ledC_len hownD
  obtain ⟨la, lc, rfl, _⟩ := hrD.rd
  have hg1 := hg.next b1
  have hs1 := b1.size
  have hown1 := OwnG.next hown b1
  have hcb1 := (b1.cell (p := ⟨be, 0, none⟩) (World.block_lt_of_cell? w _ hcb)).trans hcb
  have cb1 := (b1.cell (p := ⟨gp, k * 4 + 1, none⟩) hglt).trans cb
  by_cases hld0 : ld = []
  · have HB := Lib.hid (show bb = body from by rw [HBB.out, if_pos hld0])
    have hl0 : ((ld.length : Int) == 0) = true := by rw [hld0]; rfl
    have HXX := Lib.hid (by rw [HB.out, HSame.out]; exact hown1 : OwnPr w1 B (.slice (some ⟨gp, 0, none⟩) rs.length cap) (rs.set k ((rs[k]).1, bb, (rs[k]).2.2)))
    clear hownD hrD hld
    go_wp2_with fail
    exact HX.out _ _ _ _ _ _ _ _ _ _ _ _ _ _ _ _ _ _ _ _ _ _ _ _ _ _ _ _ _ _ _ _ _ _ _ _ _ _ _ _ _ _ _ _ _ _ _ _ _ _ _ _ _ _ _ _ _ _ _ _ _ _ _ _ _ _ _ _ _ _ _ _ _ _ _ _ _ _ HXX.out (BelowO.of b1)
  · have hll : ld.length = L.length := by
      rcases hld with h | h
      · exact absurd h hld0
      · exact h
    have hl0 : ((ld.length : Int) == 0) = false := by
      rw [beq_eq_false_iff_ne]
      have := List.length_pos_iff.2 hld0
      omega
    have hll1 : ld.length ≤ L.length := by omega
    have hll2 : L.length ≤ ld.length := by omega
    clear hll
    have hlp : 0 < ld.length := List.length_pos_iff.2 hld0
    have HBB := Lib.hid (show bb = (replK body ((L.zip ld).map (valF e))).getD [] from by rw [HBB.out, if_neg hld0])
    clear hld HX hownD
    obtain ⟨lb, rfl, _, hlb, _⟩ := hrD.at ledC_len 0 hlp
    go_wp2_with fail
    with_reducible refine (hLk _ hg1.r).mono ?_
    rintro r w2 ⟨v2, rfl, hownL, b2⟩
    have hrL := OwnG.rdB (by decide) lnkC_len hownL
    obtain ⟨ka, kc, rfl, _⟩ := hrL.rd
    obtain ⟨kb, rfl, _, hkb, _⟩ := hrL.at lnkC_len 0 (by omega)
    have hg2 := hg1.next b2
    have hs2 := b2.size
    have hown2 := OwnG.next hown1 b2
    have hcb2 := (b2.cell (p := ⟨be, 0, none⟩) (World.block_lt_of_cell? w1 _ hcb1)).trans hcb1
    have cb2 := (b2.cell (p := ⟨gp, k * 4 + 1, none⟩) (by simp only; omega)).trans cb1
    have hrD2 := hrD.next b2
    have B2 := b1.trans (b2.mono hs1)
    have hbelt : be < w2.heap.size := World.block_lt_of_cell? w2 _ hcb2
    clear hLk hrD hownL b2 b1 hcb1 cb1 hown1 hg1 cb
    go_wp2_with fail
    go_loopw [14, 84] (fun ov iv wr => ∃ (j : Nat) (out : List Bs), iv = .int .i64 j ∧ j ≤ L.length ∧ out.length ≤ j ∧ OwnT wr w2.heap.size ov out ∧ Hid (out ++ ((L.zip ld).drop j).map (valF e) = (L.zip ld).map (valF e)) ∧ Hid (∀ x ∈ out, x.length ≤ 1000000) ∧ Below w2.heap.size w2 wr) (fun _ iv _ => L.length - (intOf iv).toNat)
    case atStart => exact ⟨0, [], rfl, by omega, by simp, OwnG.nil _ _ _ _ _, Lib.hid (by simp), Lib.hid (fun x h => by cases h), Below.refl _ _⟩
    case round =>
      obtain ⟨j, out, rfl, hj, hol, hownT, Hall, HO, BR⟩ := hrel
      by_cases hjl : j < L.length
      · have hjd : j < ld.length := by omega
        obtain ⟨lb', el, _, _, hcd⟩ := hrD2.at ledC_len j hjd
        obtain ⟨kb', ek, _, _, hck⟩ := hrL.at lnkC_len j hjl
        injection el with el
        injection el with el
        injection ek with ek
        injection ek with ek
        subst el ek
        have c1 := (BR.cell (p := ⟨lb, j * 2 + 1, none⟩) (by simp only; omega)).trans (hcd 1 (by decide))
        have e0 := (BR.cell (p := ⟨kb, j * 3 + 0, none⟩) hkb).trans (hck 0 (by decide))
        have e1 := (BR.cell (p := ⟨kb, j * 3 + 1, none⟩) hkb).trans (hck 1 (by decide))
        have e2 := (BR.cell (p := ⟨kb, j * 3 + 2, none⟩) hkb).trans (hck 2 (by decide))
        have hxv := hVal.out _ (List.getElem_mem hjl)
        have hdv := hlead _ (List.getElem_mem hjd)
        have HNX := Lib.hid (zip_map_drop (valF e) L ld j hjl hjd out Hall.out)
        clear hcd hck Hall
        generalize L[j] = x at e0 e1 e2 hxv HNX
        generalize ld[j] = y at c1 hdv HNX
        obtain ⟨x1, x2, x3⟩ := x
        obtain ⟨y1, d⟩ := y
        simp only [ledC, lnkC, Nat.add_zero, List.getElem?_cons_zero, List.getElem?_cons_succ] at c1 e0 e1 e2 hxv hdv HNX
        have hcbr := (BR.cell (p := ⟨be, 0, none⟩) hbelt).trans hcb2
        have hvl := valueT_len e x3 d hdv.1 hdv.2
        have hgr := hg2.next BR
        have HO2 := Lib.hid (show ∀ x ∈ out ++ [valueT e x3 d], x.length ≤ 1000000 from fun x hx => by
          rcases List.mem_append.1 hx with hx | hx
          · exact HO.out x hx
          · rw [List.mem_singleton.1 hx]; omega)
        have hsr := BR.size
        have hlb2 : lb < w2.heap.size := by omega
        go_upto_block 5 with fail
        refine wp_block (bind_link _ be lb ld.length lc kb L.length kc j w2.heap.size x1 x2 x3 d e out wr (by omega) hjl c1 e0 e1 e2 hbelt hlb2 hsr hcbr hel (by omega) hdv.1 hdv.2 hownT (by omega) hgr ?_ ?_)
        all_goals
          intros
          rename_i v' wz ho hb
          simp only [Exit.inBlock, Exit.then, if_true]
          go_wp2_with fail
          go_roundw
          case rel => exact ⟨v', _, _, _, _, _, .int .i64 ((j : Int) + 1), ⟨j + 1, by go_num, by omega, out ++ [valueT e x3 d], by simp; omega, ho, Lib.hid (by rw [← List.map_drop]; exact HNX.out), HO2, BR.trans hb⟩, rfl, rfl, rfl, rfl, rfl, rfl, rfl⟩
          case measure => simp [intOf]; omega
      · obtain rfl : j = L.length := by omega
        have HF := Lib.hid (show out = (L.zip ld).map (valF e) from by
          have := Hall.out
          rw [List.drop_eq_nil_of_le (by rw [List.length_zip]; omega), List.map_nil, List.append_nil] at this
          exact this)
        have HB := Lib.hid (show bb = (replK body out).getD [] from by rw [HBB.out, HF.out])
        have hrT := OwnG.rd (by decide) strC_len hownT
        have hRp := preplace_any body out _ wr (hg2.next BR).r (by omega) hrT (by omega) HO.out
        obtain ⟨ta, tc, hte, _⟩ := hrT
        subst hte
        generalize hwk : replK body out = wk at hRp HB
        have cbr := (BR.cell (p := ⟨gp, k * 4 + 1, none⟩) (by simp only; omega)).trans cb2
        clear hwk HF Hall
        go_wp2_with fail
        with_reducible refine hRp.mono ?_
        rintro r w3 ⟨hh, b3⟩
        obtain ⟨ev, rfl⟩ := hh.get
        have hown3 := OwnG.next (OwnG.next hown2 BR) b3
        have hfr3 := OwnG.free hown3
        have hszr := BR.size
        have cb3 := (b3.cell (p := ⟨gp, k * 4 + 1, none⟩) (by simp only; omega)).trans cbr
        have B3 := B2.trans ((BR.trans (b3.mono hszr)).mono (by omega : w.heap.size ≤ w2.heap.size))
        clear hRp cbr
        go_wp2_with fail
        exact HN.out _ _ _ _ _ _ _ _ _ _ _ _ _ _ _ _ _ _ _ _ _ _ _ _ _ _ _ _ _ _ _ _ _ _ _ _ _ _ _ _ _ _ _ _ _ _ _ _ _ _ _ _ _ _ _ _ _ _ _ _ _ _ _ _ _ _ _ _ _ _ _ _ _ _ _ _ _ _ (by rw [HB.out]; exact HSG.out _ hown3 _) ((BelowO.of B3).set _)
end Go.Proofs.YtignjjnflcpiiaaGreatDoor
