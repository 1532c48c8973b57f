/- Bind's round with a part. Condition: what the variables hold; so much in the bundle; Open as one walk over the parts; how much an opened bundle can have. No program, no condition; How much a bound bundle has. No program, no condition. -/
import Derived.Test.YtignjjnflcpiiaaGreatDoorQ27
namespace Go.Proofs.YtignjjnflcpiiaaGreatDoor
open Go Go.RowKit
set_option maxHeartbeats 16000000 in
set_option maxRecDepth 100000 in
theorem bind_round {u1 u2 u3 u5 u7 u8 u9 u10 u11 u12 u13 u14 u15 u16 u17 u18 u19 u20 u21 u22 u23 u24 u25 u26 u27 u28 u29 u30 u32 u33 u34 u35 u36 u37 u38 u39 u40 u41 u42 u43 u44 u45 u46 u47 u48 u49 u50 u51 u52 u53 u54 u55 u56 u57 u58 u59 u60 u61 u62 u63 u64 u65 u66 u67 u68 u69 u70 u71 u72 u73 u74 u75 u76 u77 u78 u79 u80 u81 u82 u83 u84 u85 u86 u87 u88 u89 u90 u91 u92 u93 u94 u95 u96 u97 u98 u99 u100 u101 u102 u103 u104 u105 u106 u107 u108 u109 u110 u111 u112 u113 u114 u115 u116 u117 u118 u119 u120 u121 u122 u123 u124 u125 u126 u127 u128 u129 u130 u131 u132 u133 u134 u135 u136 u137 u138 u139 u140 u141 u142 u143 u144 u145 u146 u147 u148 u149 : Value} (Q : Exit → Act → World → Prop) (bp bw gp be k cap B : Nat) (b : Bnd) (q : Prt) (rs : List PRaw) (qa : Option Go.Addr) (qc : Nat) (qm : Bool) (qp : Slc) (e : Bs) (y0 y1 y2 : Value) (w : World)
    (hbd : RdBnd (fun c => c ≠ gp) w bp b) (hin : BndIn b) (hk : k < b.whole.parts.length) (hq : b.whole.parts[k] = q) (hkr : k < rs.length) (hraw : rs[k] = ((qa, q.head.length, qc), q.body, qm, qp))
    (hbw : Blk w bw #[y0, y1, y2, .slice (some ⟨gp, 0, none⟩) rs.length cap] 44) (hown : OwnPr w B (.slice (some ⟨gp, 0, none⟩) rs.length cap) rs) (hrh : RdB 2 fldC (fun c => c ≠ gp) w (.slice qa q.head.length qc) q.head)
    (hcb : w.cell? ⟨be, 0, none⟩ = some (.string ⟨e.toArray⟩)) (hbe : be ≠ gp) (hel : e.length ≤ 1000) (hg : Gz w) (hgB : 8 < B) (hlead : ∀ a, ∀ x ∈ leadsAt b q a, -9223372036854775808 ≤ x.2 ∧ x.2 ≤ 9223372036854775807)
    (hN : ∀ (a7 a8 a9 a11 a12 a13 a14 a15 a16 a17 a18 a19 a33 a34 a35 a36 a37 a38 a39 a40 a41 a42 a43 a44 a45 a46 a47 a48 a49 a50 a51 a52 a53 a54 a55 a56 a57 a58 a59 a60 a61 a62 a63 a64 a65 a66 a67 a68 a69 a70 a71 a72 a73 a74 a75 a76 a77 a78 a79 a80 a81 a82 a83 a84 a85 a86 a87 a88 a89 a90 a91 a92 a93 a94 a95 a96 a97 a98 a99 a100 a101 a102 a103 a104 a105 a106 a107 a108 a109 a110 a111 a112 a113 a114 a115 a116 a117 a118 a119 a120 a121 a122 a123 a124 a125 a126 a127 a128 a129 a130 a131 a132 a133 a134 a135 a136 a137 : Value) (w' : World) (v : Slc), OwnPr w' B (.slice (some ⟨gp, 0, none⟩) rs.length cap) (rs.set k (v, boundBody e q.body ((leadsB b (k : Int)).getD []), qm, qp)) → RdB 2 fldC (fun c => w.heap.size ≤ c) w' (slv v) (boundHead e k q.head) → BelowO gp w.heap.size w w' → Q .normal ⟨List.toArray (.pointer (some ⟨bp, 0, none⟩) :: u1 :: u2 :: u3 :: .pointer (some ⟨bw, 0, none⟩) :: u5 :: .func (.func 40) #[] #[.pointer (some ⟨be, 0, none⟩)] :: a7 :: a8 :: a9 :: u10 :: a11 :: a12 :: a13 :: a14 :: a15 :: a16 :: a17 :: a18 :: a19 :: u20 :: u21 :: u22 :: u23 :: u24 :: u25 :: u26 :: u27 :: u28 :: u29 :: u30 :: .int .i64 (k : Int) :: u32 :: a33 :: a34 :: a35 :: a36 :: a37 :: a38 :: a39 :: a40 :: a41 :: a42 :: a43 :: a44 :: a45 :: a46 :: a47 :: a48 :: a49 :: a50 :: a51 :: a52 :: a53 :: a54 :: a55 :: a56 :: a57 :: a58 :: a59 :: a60 :: a61 :: a62 :: a63 :: a64 :: a65 :: a66 :: a67 :: a68 :: a69 :: a70 :: a71 :: a72 :: a73 :: a74 :: a75 :: a76 :: a77 :: a78 :: a79 :: a80 :: a81 :: a82 :: a83 :: a84 :: a85 :: a86 :: a87 :: a88 :: a89 :: a90 :: a91 :: a92 :: a93 :: a94 :: a95 :: a96 :: a97 :: a98 :: a99 :: a100 :: a101 :: a102 :: a103 :: a104 :: a105 :: a106 :: a107 :: a108 :: a109 :: a110 :: a111 :: a112 :: a113 :: a114 :: a115 :: a116 :: a117 :: a118 :: a119 :: a120 :: a121 :: a122 :: a123 :: a124 :: a125 :: a126 :: a127 :: a128 :: a129 :: a130 :: a131 :: a132 :: a133 :: a134 :: a135 :: a136 :: a137 :: u138 :: u139 :: u140 :: u141 :: u142 :: u143 :: u144 :: u145 :: u146 :: u147 :: u148 :: u149 :: []), []⟩ w')
    (hX : ∀ (a7 a8 a9 a11 a12 a13 a14 a15 a16 a17 a18 a19 a33 a34 a35 a36 a37 a38 a39 a40 a41 a42 a43 a44 a45 a46 a47 a48 a49 a50 a51 a52 a53 a54 a55 a56 a57 a58 a59 a60 a61 a62 a63 a64 a65 a66 a67 a68 a69 a70 a71 a72 a73 a74 a75 a76 a77 a78 a79 a80 a81 a82 a83 a84 a85 a86 a87 a88 a89 a90 a91 a92 a93 a94 a95 a96 a97 a98 a99 a100 a101 a102 a103 a104 a105 a106 a107 a108 a109 a110 a111 a112 a113 a114 a115 a116 a117 a118 a119 a120 a121 a122 a123 a124 a125 a126 a127 a128 a129 a130 a131 a132 a133 a134 a135 a136 a137 : Value) (w' : World) (v : Slc), OwnPr w' B (.slice (some ⟨gp, 0, none⟩) rs.length cap) (rs.set k (v, boundBody e q.body ((leadsB b (k : Int)).getD []), qm, qp)) → RdB 2 fldC (fun c => w.heap.size ≤ c) w' (slv v) (boundHead e k q.head) → BelowO gp w.heap.size w w' → Q (.exit 1) ⟨List.toArray (.pointer (some ⟨bp, 0, none⟩) :: u1 :: u2 :: u3 :: .pointer (some ⟨bw, 0, none⟩) :: u5 :: .func (.func 40) #[] #[.pointer (some ⟨be, 0, none⟩)] :: a7 :: a8 :: a9 :: u10 :: a11 :: a12 :: a13 :: a14 :: a15 :: a16 :: a17 :: a18 :: a19 :: u20 :: u21 :: u22 :: u23 :: u24 :: u25 :: u26 :: u27 :: u28 :: u29 :: u30 :: .int .i64 (k : Int) :: u32 :: a33 :: a34 :: a35 :: a36 :: a37 :: a38 :: a39 :: a40 :: a41 :: a42 :: a43 :: a44 :: a45 :: a46 :: a47 :: a48 :: a49 :: a50 :: a51 :: a52 :: a53 :: a54 :: a55 :: a56 :: a57 :: a58 :: a59 :: a60 :: a61 :: a62 :: a63 :: a64 :: a65 :: a66 :: a67 :: a68 :: a69 :: a70 :: a71 :: a72 :: a73 :: a74 :: a75 :: a76 :: a77 :: a78 :: a79 :: a80 :: a81 :: a82 :: a83 :: a84 :: a85 :: a86 :: a87 :: a88 :: a89 :: a90 :: a91 :: a92 :: a93 :: a94 :: a95 :: a96 :: a97 :: a98 :: a99 :: a100 :: a101 :: a102 :: a103 :: a104 :: a105 :: a106 :: a107 :: a108 :: a109 :: a110 :: a111 :: a112 :: a113 :: a114 :: a115 :: a116 :: a117 :: a118 :: a119 :: a120 :: a121 :: a122 :: a123 :: a124 :: a125 :: a126 :: a127 :: a128 :: a129 :: a130 :: a131 :: a132 :: a133 :: a134 :: a135 :: a136 :: a137 :: u138 :: u139 :: u140 :: u141 :: u142 :: u143 :: u144 :: u145 :: u146 :: u147 :: u148 :: u149 :: []), []⟩ w') :
    Code.wp Tryz.prog bindRound Q ⟨List.toArray (.pointer (some ⟨bp, 0, none⟩) :: u1 :: u2 :: u3 :: .pointer (some ⟨bw, 0, none⟩) :: u5 :: .func (.func 40) #[] #[.pointer (some ⟨be, 0, none⟩)] :: u7 :: u8 :: u9 :: u10 :: u11 :: u12 :: u13 :: u14 :: u15 :: u16 :: u17 :: u18 :: u19 :: u20 :: u21 :: u22 :: u23 :: u24 :: u25 :: u26 :: u27 :: u28 :: u29 :: u30 :: .int .i64 (k : Int) :: u32 :: u33 :: u34 :: u35 :: u36 :: u37 :: u38 :: u39 :: u40 :: u41 :: u42 :: u43 :: u44 :: u45 :: u46 :: u47 :: u48 :: u49 :: u50 :: u51 :: u52 :: u53 :: u54 :: u55 :: u56 :: u57 :: u58 :: u59 :: u60 :: u61 :: u62 :: u63 :: u64 :: u65 :: u66 :: u67 :: u68 :: u69 :: u70 :: u71 :: u72 :: u73 :: u74 :: u75 :: u76 :: u77 :: u78 :: u79 :: u80 :: u81 :: u82 :: u83 :: u84 :: u85 :: u86 :: u87 :: u88 :: u89 :: u90 :: u91 :: u92 :: u93 :: u94 :: u95 :: u96 :: u97 :: u98 :: u99 :: u100 :: u101 :: u102 :: u103 :: u104 :: u105 :: u106 :: u107 :: u108 :: u109 :: u110 :: u111 :: u112 :: u113 :: u114 :: u115 :: u116 :: u117 :: u118 :: u119 :: u120 :: u121 :: u122 :: u123 :: u124 :: u125 :: u126 :: u127 :: u128 :: u129 :: u130 :: u131 :: u132 :: u133 :: u134 :: u135 :: u136 :: u137 :: u138 :: u139 :: u140 :: u141 :: u142 :: u143 :: u144 :: u145 :: u146 :: u147 :: u148 :: u149 :: []), []⟩ w := by
  have HN := Lib.hid hN
  have HX := Lib.hid hX
  have HBD := Lib.hid hbd
  have HLE := Lib.hid hlead
  have HQ := Lib.hid hq
  have hqS := hin.whole.part (List.getElem_mem hk)
  rw [hq] at hqS
  have hqw := hqS.fl.1
  have hqb := hqS.fl.2
  have HH := Lib.hid (show boundHead e k q.head = (q.head.filter fun f => !(lowS f.1 == lowS cidN)) ++ [(cidN, angled (nameT e k))] from rfl)
  have hge := OwnG.own_ge hown gp rfl
  have hglt := OwnG.own_lt hown gp rfl
  have c0 := OwnG.cellAt prtC_len hown k hkr 0 (by decide)
  have c1 := OwnG.cellAt prtC_len hown k hkr 1 (by decide)
  have hsetG := Lib.hid (fun (W : World) (o : OwnPr W B (.slice (some ⟨gp, 0, none⟩) rs.length cap) rs) (s : Slc) => OwnG.setG prtC_len o k 0 hkr (by decide) (slv s) (s, (rs[k]).2) rfl)
  have HCL := Lib.hid (fun (W : World) (o : OwnPr W B (.slice (some ⟨gp, 0, none⟩) rs.length cap) rs) => OwnG.cellAt prtC_len o k hkr 0 (by decide))
  simp only [hraw] at hsetG HCL c0 c1
  simp only [prtC, slv, List.getElem?_cons_zero, List.getElem?_cons_succ, Nat.add_zero] at c0 c1 HCL hsetG
  have hkw := hbw.cell
  have hk0 : (0 : Int) ≤ k := by omega
  have hk1 : (k : Int) < rs.length := by omega
  have HRAW := Lib.hid hraw
  have HK := Lib.hid hk
  have HBC := Lib.hid hbw
  have hkb : k ≤ 20002 := by have := hin.whole.head.2.2; omega
  have hcbl := World.block_lt_of_cell? w _ hcb
  generalize hhe : q.head = hd at hrh hqw HH c0 hraw HRAW hsetG HCL
  have HHE := Lib.hid hhe
  clear hhe hN hX hbd hlead hq hraw
  have hhl := hqw.1
  have HQW := Lib.hid hqw
  delta bindRound Tryz.f11
  dsimp only [sndC, fstC, inC, Option.getD]
  go_wp2_with fail
  go_loopw [9, 43] (fun pv iv wr => ∃ (j : Nat) (out : List Fld), iv = .int .i64 j ∧ j ≤ hd.length ∧ out.length ≤ j ∧ OwnF wr w.heap.size pv out ∧ Hid (out ++ (hd.drop j).filter (fun f => !(lowS f.1 == lowS cidN)) = hd.filter fun f => !(lowS f.1 == lowS cidN)) ∧ Below w.heap.size w wr) (fun _ iv _ => hd.length - (intOf iv).toNat)
  case atStart => exact ⟨0, [], rfl, by omega, by simp, OwnG.nil _ _ _ _ _, Lib.hid (by simp), Below.refl _ _⟩
  case round =>
    obtain ⟨j, out, rfl, hj, hol, hownq, Hall, BQ⟩ := hrel
    have hsq := BQ.size
    by_cases hjl : j < hd.length
    · obtain ⟨qb, rfl, _, hqb1, hcell⟩ := hrh.at fldC_len j hjl
      have e0 := (BQ.cell (p := ⟨qb, j * 2 + 0, none⟩) hqb1).trans (hcell 0 (by decide))
      have e1 := (BQ.cell (p := ⟨qb, j * 2 + 1, none⟩) hqb1).trans (hcell 1 (by decide))
      have hf := HQW.out.2 _ (List.getElem_mem hjl)
      have HDR := Lib.hid (show ∀ f, hd[j] = f → (out ++ (if !(lowS f.1 == lowS cidN) then f :: (hd.drop (j + 1)).filter (fun f => !(lowS f.1 == lowS cidN)) else (hd.drop (j + 1)).filter (fun f => !(lowS f.1 == lowS cidN)))) = hd.filter fun f => !(lowS f.1 == lowS cidN) from fun f hf => by
        rw [← Hall.out, List.drop_eq_getElem_cons hjl, hf, List.filter_cons])
      have HDR := Lib.hid (HDR.out _ rfl)
      clear hcell Hall
      generalize hd[j] = f at e0 e1 HDR hf
      obtain ⟨x, y⟩ := f
      simp only [fldC, Nat.add_zero, List.getElem?_cons_zero, List.getElem?_cons_succ] at e0 e1 HDR hf
      have BA := (Below.refl wr.heap.size wr).alloc (Nat.le_refl _) (.cells #[.string ⟨x.toArray⟩, .string ⟨y.toArray⟩] 92)
      have k11 := Blk.new wr #[.string ⟨x.toArray⟩, .string ⟨y.toArray⟩] 92
      have hS1 := fun W => small_any x W (by omega)
      have hS2 := fun W => small_any [67, 111, 110, 116, 101, 110, 116, 45, 73, 68] W (by decide)
      have HLC := Lib.hid (show lowS cidN = lowS [67, 111, 110, 116, 101, 110, 116, 45, 73, 68] from rfl)
      generalize lowS [67, 111, 110, 116, 101, 110, 116, 45, 73, 68] = ly at hS2 HLC
      rw [show lowS cidN = ly from HLC.out] at HDR
      generalize hlx : lowS x = lx at hS1 HDR
      have HLX := Lib.hid hlx
      clear hlx
      have k11c := k11.cell
      have hqo := OwnG.next hownq BA
      go_upto_region 12 with fail
      generalize World.alloc _ _ = w2 at BA k11 k11c hqo ⊢
      go_wp2_with fail
      with_reducible refine (hS1 _).mono ?_
      rintro r w3 ⟨rfl, b3⟩
      go_wp2_with fail
      with_reducible refine (hS2 _).mono ?_
      rintro r w4 ⟨rfl, b4⟩
      have b24 := b3.trans (b4.mono b3.size)
      have k11 := k11.next b24 k11.lt
      have BA := BA.trans (b24.mono BA.size)
      have B4 := BQ.trans (BA.mono hsq)
      have hqo := OwnG.next hqo b24
      have k11c := k11.cell
      have hs4 := B4.size
      clear hS1 hS2 b3 b4 b24 hownq BQ e0 e1
      by_cases he : lx = ly
      · have HD := Lib.hid (show out ++ (hd.drop (j + 1)).filter (fun f => !(lowS f.1 == ly)) = hd.filter fun f => !(lowS f.1 == ly) from by rw [← HDR.out, he]; simp)
        have HD := Lib.hid (show out ++ (hd.drop (j + 1)).filter (fun f => !(lowS f.1 == lowS cidN)) = hd.filter fun f => !(lowS f.1 == lowS cidN) from by rw [HLC.out]; exact HD.out)
        have he2 : (lx == ly) = true := by rw [beq_iff_eq]; exact he
        clear HDR he
        go_wp2_with fail
        go_roundw
        case rel => exact ⟨j + 1, out, by go_num, by omega, by omega, hqo, HD, B4⟩
        case measure => simp [intOf]; omega
      · have HD := Lib.hid (show (out ++ [(x, y)]) ++ (hd.drop (j + 1)).filter (fun f => !(lowS f.1 == ly)) = hd.filter fun f => !(lowS f.1 == ly) from by
          rw [← HDR.out, show (lx == ly) = false from by rw [beq_eq_false_iff_ne]; exact he]; simp)
        have HD := Lib.hid (show (out ++ [(x, y)]) ++ (hd.drop (j + 1)).filter (fun f => !(lowS f.1 == lowS cidN)) = hd.filter fun f => !(lowS f.1 == lowS cidN) from by rw [HLC.out]; exact HD.out)
        have he2 : (lx == ly) = false := by rw [beq_eq_false_iff_ne]; exact he
        have hqo2 := OwnG.alloc hqo (.cells #[.string ⟨x.toArray⟩, .string ⟨y.toArray⟩] 92)
        clear HDR he
        go_wp2_with (at_builtin; refine appF rfl _ _ rfl w.heap.size _ out (x, y) w4.heap.size 1 rfl hqo2 rfl (cellF1 w4 (x, y) _) (by omega) (by simp; omega) ?_; intro v' w9 hownq9 hg9 hb9)
        go_wp2_with fail
        go_roundw
        case rel => exact ⟨j + 1, out ++ [(x, y)], by go_num, by omega, by simp; omega, hownq9, HD, (B4.alloc hs4 _).trans hb9⟩
        case measure => simp [intOf]; omega
    · obtain rfl : j = hd.length := by omega
      have HF := Lib.hid (show (hd.filter fun f => !(lowS f.1 == lowS cidN)) = out from by rw [← Hall.out, List.drop_length]; simp)
      have HBH := Lib.hid (show boundHead e k hd = out ++ [(cidN, angled (nameT e k))] from by rw [HH.out, HF.out])
      have hcbr := (BQ.cell (p := ⟨be, 0, none⟩) hcbl).trans hcb
      have hNm := bname_any (k : Int) e be wr (by omega) (by omega) hcbr (by omega) (hg.next BQ)
      have hnl : (nameT e (k : Int)).length ≤ 1100 := by
        have := Lib.itoa_length_le (k : Int) (by omega) (by omega)
        unfold nameT; simp; omega
      have HNM := Lib.hid (show ∀ n, nameT e (k : Int) = n → boundHead e k hd = out ++ [([67, 111, 110, 116, 101, 110, 116, 45, 73, 68], 60 :: (n ++ [62]))] from fun n hn => by rw [HBH.out, hn]; rfl)
      have HNM := Lib.hid (HNM.out _ rfl)
      generalize nameT e (k : Int) = nm at hNm hnl HNM
      clear HBH HF Hall HH hcbr
      go_upto_region 15 with fail
      go_cut [] from 57 to 68 (fun wx => ∃ sv : Slc, OwnPr wx B (.slice (some ⟨gp, 0, none⟩) rs.length cap) (rs.set k (sv, q.body, qm, qp)) ∧ RdB 2 fldC (fun c => w.heap.size ≤ c) wx (slv sv) (boundHead e k hd) ∧ BelowO gp w.heap.size w wx)
      case first =>
        go_wp2_with fail
        with_reducible refine hNm.mono ?_
        rintro r w5 ⟨rfl, b5⟩
        have hq5 := OwnG.next hownq b5
        have B5 := BQ.trans (b5.mono hsq)
        have hs5 := B5.size
        have hqA := OwnG.alloc hq5 (.cells #[.string ⟨([67, 111, 110, 116, 101, 110, 116, 45, 73, 68] : Bs).toArray⟩, .string ⟨(60 :: (nm ++ [62]) : Bs).toArray⟩] 92)
        have hownG := fun W (hb : Below w.heap.size w W) => OwnG.below hown hb (fun b e => by injection e with e; simp only at e; omega)
        have HOG := Lib.hid hownG
        clear hownG hNm b5 hownq BQ hown hrh
        go_wp2_with (at_builtin; refine appF rfl _ _ rfl w.heap.size _ out ([67, 111, 110, 116, 101, 110, 116, 45, 73, 68], 60 :: (nm ++ [62])) w5.heap.size 1 rfl hqA rfl (cellF1 w5 ([67, 111, 110, 116, 101, 110, 116, 45, 73, 68], 60 :: (nm ++ [62])) _) (by omega) (by simp; omega) ?_; intro v' w9 hownq9 hg9 hb9; have K9 := Lib.hid ((B5.alloc hs5 (.cells #[.string ⟨([67, 111, 110, 116, 101, 110, 116, 45, 73, 68] : Bs).toArray⟩, .string ⟨(60 :: (nm ++ [62]) : Bs).toArray⟩] 92)).trans hb9); have ho9 := HOG.out _ K9.out; have hf9 := OwnG.free ho9; have cl9 := HCL.out _ ho9; obtain ⟨va, vc, hve, _⟩ := OwnG.rd Nat.two_pos fldC_len hownq9; subst hve)
        go_wp2_with fail
        go_meet
        have hset := hsetG.out _ ho9 (va, out.length + 1, vc)
        have BO : BelowO gp w.heap.size w (w9.setCell ⟨gp, k * 4, none⟩ (.slice va (out.length + 1) vc)) := (BelowO.of K9.out).set _
        refine ⟨(va, out.length + 1, vc), hset, ?_, BO⟩
        rw [HNM.out]
        refine RdB.set ?_ _ (by simp only; omega)
        have h1 := (OwnG.rdB (by decide) fldC_len hownq9).weak (Q := fun c => w.heap.size ≤ c) (fun c h _ => h.1)
        simp only [List.length_append, List.length_singleton] at h1
        exact h1
      case rest =>
      rename_i hK
      obtain ⟨⟨va, vn, vc⟩, hset, hrdv, BO⟩ := hcut
      obtain ⟨wy, rfl⟩ : ∃ x : World, x = wc := ⟨_, rfl⟩
      have hlen : (rs.set k ((va, vn, vc), q.body, qm, qp)).length = rs.length := by simp
      have hget : (rs.set k ((va, vn, vc), q.body, qm, qp))[k]'(by rw [hlen]; exact hkr) = ((va, vn, vc), q.body, qm, qp) := by simp
      have hcb9 : wy.cell? ⟨be, 0, none⟩ = some (.string ⟨e.toArray⟩) := (BO.cell (p := ⟨be, 0, none⟩) hcbl (by simp only; exact hbe)).trans hcb
      have HBH := HHE.out
      subst HBH
      refine hK _ _ ?_
      refine bind_leads _ bp gp be k cap B b q (rs.set k ((va, vn, vc), q.body, qm, qp)) e _ (RdBnd.weak (fun _ _ _ => trivial) (HBD.out.keep BO.size (fun c hP hlt => BO.block c hlt hP))) hin HK.out HQ.out (by rw [hlen]; exact hkr) (by rw [hget]) (by rw [hlen]; exact hset) hcb9 hel (hg.nextO BO (by omega)) HLE.out ?_ ?_
      all_goals
        intros
        rename_i wz ho hb
        have HO := Lib.hid ho
        have BZ := BO.trans (hb.mono BO.size)
        have hrz := hrdv.nextO hb (by omega)
        clear ho
        have HO := Lib.hid (show OwnPr wz B (.slice (some ⟨gp, 0, none⟩) rs.length cap) (rs.set k ((va, vn, vc), boundBody e q.body ((leadsB b (k : Int)).getD []), qm, qp)) from by
          have := HO.out
          simp only [List.getElem_set_self, List.set_set, List.length_set] at this
          exact this)
        first
          | exact HN.out _ _ _ _ _ _ _ _ _ _ _ _ _ _ _ _ _ _ _ _ _ _ _ _ _ _ _ _ _ _ _ _ _ _ _ _ _ _ _ _ _ _ _ _ _ _ _ _ _ _ _ _ _ _ _ _ _ _ _ _ _ _ _ _ _ _ _ _ _ _ _ _ _ _ _ _ _ _ _ _ _ _ _ _ _ _ _ _ _ _ _ _ _ _ _ _ _ _ _ _ _ _ _ _ _ _ _ _ _ _ _ _ _ _ _ _ _ wz (va, vn, vc) HO.out hrz BZ
          | exact HX.out _ _ _ _ _ _ _ _ _ _ _ _ _ _ _ _ _ _ _ _ _ _ _ _ _ _ _ _ _ _ _ _ _ _ _ _ _ _ _ _ _ _ _ _ _ _ _ _ _ _ _ _ _ _ _ _ _ _ _ _ _ _ _ _ _ _ _ _ _ _ _ _ _ _ _ _ _ _ _ _ _ _ _ _ _ _ _ _ _ _ _ _ _ _ _ _ _ _ _ _ _ _ _ _ _ _ _ _ _ _ _ _ _ _ _ _ _ wz (va, vn, vc) HO.out hrz BZ
def openL (base : Addr) (st : Bs) : Bool → Nat → List Addr → List Bs → Nat → List Prt → Except Int (Nat × List Addr × List Bs)
  | _, root, pl, ids, _, [] => .ok (root, pl, ids)
  | lk, root, pl, ids, k, q :: l =>
    if q.many then .error 13
    else if lk && (st != [] && st == angled (idF q.head)) then openL base st false k (pl ++ [placeF base q.head]) (ids ++ [idF q.head]) (k + 1) l
    else openL base st lk root (pl ++ [placeF base q.head]) (ids ++ [idF q.head]) (k + 1) l
theorem openL_any (base : Addr) (st : Bs) : ∀ (l : List Prt) (lk : Bool) (root : Nat) (pl : List Addr) (ids : List Bs) (k : Nat),
    openL base st lk root pl ids k l = if l.any Prt.many then .error 13
      else .ok ((if lk = true ∧ st ≠ [] then rootOf st (l.map fun q : Prt => idF q.head) k else none).getD root, pl ++ l.map (fun q : Prt => placeF base q.head), ids ++ l.map (fun q : Prt => idF q.head))
  | [], lk, root, pl, ids, k => by simp [openL, rootOf]
  | q :: l, lk, root, pl, ids, k => by
    unfold openL
    cases hm : q.many with
    | true => simp [hm]
    | false =>
      rw [openL_any base st l, openL_any base st l]
      cases ha : l.any Prt.many with
      | true => simp [hm, ha]
      | false =>
        cases lk with
        | false => simp [hm, ha]
        | true =>
          by_cases hs : st = []
          · simp [hm, ha, hs]
          · by_cases he : st = angled (idF q.head)
            · have h1 : (st != [] && st == angled (idF q.head)) = true := by simp [← he, hs]
              simp only [h1, List.any_cons, hm, ha, List.map_cons]
              simp [rootOf, ← he, hs]
            · have h1 : (st == angled (idF q.head)) = false := by simpa using he
              simp [h1, hm, ha, rootOf, he, hs]
theorem openP_eq (p : Prt) (h1 : (kindOf p.head).1 = relN) (h2 : p.parts ≠ []) : openP p =
    (openL (placeF Addr.zero p.head) ((getP (kindOf p.head).2 startN).getD []) (getP (kindOf p.head).2 startN).isSome 0 [] [] 0 p.parts).map fun x => ⟨p, x.1, x.2.1, x.2.2⟩ := by
  unfold openP
  rw [openL_any, if_neg (by simpa using h1), if_neg h2]
  cases ha : p.parts.any Prt.many with
  | true => simp [Except.map]
  | false =>
    cases getP (kindOf p.head).2 startN with
    | none => simp [Except.map]
    | some st =>
      by_cases hs : st = []
      · simp [Except.map, hs]
      · simp [Except.map, hs]
theorem placeF_len {base : Addr} {l : List Fld} {n : Nat} (h : FldsN n l) : (placeF base l).len ≤ 2 * base.len + 6 * n + 4 := by
  unfold placeF
  cases hg : getF l clN with
  | none => simp only; omega
  | some v =>
    have h1 := getF_le h hg
    cases hr : readA v with
    | none => simp only [hr]; omega
    | some a =>
      have h2 := readA_len hr
      have h3 := resolve_len base a
      have h4 := whole_len (resolveA base a)
      simp only [hr]
      omega
theorem idF_len {l : List Fld} {n : Nat} (h : FldsN n l) : (idF l).length ≤ n := Nat.le_trans (inner_len _) (getF_getD h)
theorem openB_in {s : Bs} {b : Bnd} (h : openB s = .ok b) : BndIn b := by
  unfold openB at h
  cases hr : readP s with
  | error e => rw [hr] at h; cases h
  | ok p =>
    rw [hr] at h
    have hs := readP_sm hr
    simp only [openP] at h
    split at h
    · cases h
    · split at h
      · cases h
      · split at h
        · cases h
        · cases h
          obtain ⟨ph, pb, pm, pp⟩ := p
          have hw := weight_n hs.1
          have h0 : Addr.zero.len = 0 := rfl
          have hb := placeF_len (base := Addr.zero) hw
          have hq : ∀ q ∈ pp, FldsN 20000 q.head := fun q hq => by
            have := hs.2.2.2 q hq
            obtain ⟨a, c, d, e⟩ := q
            exact weight_n this.1
          refine ⟨hs, by simp [Prt.parts], by simp [Prt.parts], fun a ha => ?_, fun x hx => ?_⟩
          · simp only [Prt.parts, List.mem_map] at ha
            obtain ⟨q, hq1, rfl⟩ := ha
            have := placeF_len (base := placeF Addr.zero ph) (hq q hq1)
            simp only [Prt.head] at *
            omega
          · simp only [Prt.parts, List.mem_map] at hx
            obtain ⟨q, hq1, rfl⟩ := hx
            have := idF_len (hq q hq1)
            omega
theorem boundFrom_len (b : Bnd) (e : Bs) : ∀ (l : List Prt) (i : Nat), (boundFrom b e i l).length = l.length
  | [], _ => rfl
  | _ :: l, i => by simp [boundFrom, boundFrom_len b e l]
theorem boundFrom_at (b : Bnd) (e : Bs) : ∀ (l : List Prt) (i k : Nat) (h : k < l.length), (boundFrom b e i l)[k]? = some (boundPart b e (i + k) l[k])
  | p :: l, i, 0, _ => rfl
  | p :: l, i, k + 1, h => by
    have := boundFrom_at b e l (i + 1) k (by simpa using h)
    rw [show i + 1 + k = i + (k + 1) from by omega] at this
    exact this
theorem idxOf_bd {α : Type} [DecidableEq α] (x : α) : ∀ (l : List α) (k : Nat), -1 ≤ idxOf x l k ∧ idxOf x l k ≤ (l.length : Int) + k
  | [], k => by
    simp only [idxOf, List.length_nil]
    omega
  | y :: l, k => by
    unfold idxOf
    split
    · simp; omega
    · have := idxOf_bd x l (k + 1)
      simp; omega
theorem findB_bd {b : Bnd} (hin : BndIn b) (a : Addr) : -9223372036854775808 ≤ findB b a ∧ findB b a ≤ 9223372036854775807 := by
  have h0 := hin.whole.head.2.2
  have h1 := idxOf_bd (wholeA a).path b.ids 0
  have h2 := idxOf_bd (wholeA a) b.places 0
  have h3 := hin.ids
  have h4 := hin.places
  unfold findB
  simp only
  split
  · split <;> omega
  · split
    · omega
    · omega
theorem leadsAt_bd {b : Bnd} (hin : BndIn b) (p : Prt) (a : Addr) : ∀ x ∈ leadsAt b p a, -9223372036854775808 ≤ x.2 ∧ x.2 ≤ 9223372036854775807 := fun x hx => by
  unfold leadsAt at hx
  split at hx
  · obtain ⟨y, _, rfl⟩ := List.mem_map.1 hx
    unfold leadOf
    cases readA y.2.2 with
    | none => simp
    | some r => exact findB_bd hin _
  · cases hx
theorem rootOf_lt (st : Bs) : ∀ (l : List Bs) (k r : Nat), rootOf st l k = some r → r < k + l.length
  | [], _, _, h => by cases h
  | x :: l, k, r, h => by
    unfold rootOf at h
    split at h
    · cases h; simp
    · have := rootOf_lt st l (k + 1) r h
      simp; omega
theorem openB_root {s : Bs} {b : Bnd} (h : openB s = .ok b) : b.root ≤ 20002 := by
  have hin := openB_in h
  have h0 := hin.whole.head.2.2
  unfold openB at h
  cases hr : readP s with
  | error e => rw [hr] at h; cases h
  | ok p =>
    rw [hr] at h
    simp only [openP] at h
    split at h
    · cases h
    · split at h
      · cases h
      · split at h
        · cases h
        · cases h
          simp only at h0 ⊢
          cases getP (kindOf p.head).2 startN with
          | none => simp
          | some st =>
            simp only
            split
            · simp
            · cases ho : rootOf st (p.parts.map fun q : Prt => idF q.head) 0 with
              | none => simp
              | some r =>
                have := rootOf_lt _ _ _ _ ho
                simp at this ⊢
                omega
theorem signT_len {w : Prt} {n : Nat} (h : PrtSm (n + 1) w) : (signT w).length ≤ 23 := by
  have h1 := textsOf_len h
  have h2 := chooseN_lt [64, 98] (textsOf w)
  have h3 := Lib.itoa_length_le (chooseN [64, 98] (textsOf w) : Int) (by omega) (by omega)
  unfold signT
  simp; omega
theorem nameT_len (e : Bs) (i : Nat) (hi : i ≤ 9223372036854775807) : (nameT e i).length ≤ e.length + 25 := by
  have h3 := Lib.itoa_length_le (i : Int) (by omega) (by omega)
  unfold nameT
  simp; omega
theorem quoV_len3 (p : Fld) (hp : tokB p.1 = true) (x : Bs) (h : paramW p = some x) : x.length ≤ 4 * (p.1.length + p.2.length + 1) := by
  have hne : 1 ≤ p.1.length := by
    cases h0 : p.1 with
    | nil => rw [h0] at hp; cases hp
    | cons c l => simp
  unfold paramW at h
  split at h
  · cases h
    have := quoV_len2 p.2
    simp; omega
  · cases h
theorem paramsW_len4 : ∀ (l : List Fld) (o : Bs), paramsW l = some o → o.length ≤ 4 * weight l
  | [], o, h => by cases h; simp
  | p :: l, o, h => by
    unfold paramsW at h
    cases hp : paramW p with
    | none => rw [hp] at h; cases h
    | some x =>
      rw [hp] at h
      simp only [Option.map_eq_some_iff] at h
      obtain ⟨o2, h1, rfl⟩ := h
      have h2 := paramsW_len4 l _ h1
      have h4 : tokB p.1 = true := by
        unfold paramW at hp
        split at hp
        · rename_i hc
          simp only [Bool.and_eq_true] at hc
          exact hc.1.1
        · cases hp
      have h3 := quoV_len3 p h4 x hp
      rw [List.length_append, weight_cons]; omega
theorem writeK_len4 {m o : Bs} {l : List Fld} (h : writeK m l = some o) : o.length ≤ m.length + 4 * weight l := by
  unfold writeK at h
  simp only at h
  split at h
  · simp only [Option.map_eq_some_iff] at h
    obtain ⟨o2, h1, rfl⟩ := h
    have := paramsW_len4 _ _ h1
    simp; omega
  · cases h
theorem startV_len (v s : Bs) : (startV v s).length ≤ 5 * v.length + 4 * (s.length + 8) := by
  have h1 := getK_weight v
  unfold startV
  simp only
  cases hw : writeK ((readK v).getD ([], [])).1 ((((readK v).getD ([], [])).2.filter fun f => !(f.1 == startN)) ++ [(startN, angled s)]) with
  | none => simp
  | some o =>
    have h2 := writeK_len4 hw
    have h3 := weight_filter (fun f => !(f.1 == startN)) ((readK v).getD ([], [])).2
    rw [weight_append] at h2
    have h4 : weight [(startN, angled s)] = s.length + 8 := by
      simp [weight, startN, angled]; omega
    rw [h4] at h2
    simp only [Option.getD_some]
    omega
theorem beginF_weight (s : Bs) : ∀ l : List Fld, weight (beginF l s) ≤ 5 * weight l + 4 * (s.length + 8)
  | [] => by simp [beginF, weight]
  | f :: l => by
    unfold beginF
    split
    · have := startV_len f.2 s
      rw [weight_cons, weight_cons]; simp only; omega
    · have := beginF_weight s l
      rw [weight_cons, weight_cons]; omega
theorem boundHead_weight (e : Bs) (i : Nat) (hi : i ≤ 9223372036854775807) (h : List Fld) : weight (boundHead e i h) ≤ weight h + e.length + 40 := by
  have h1 := weight_filter (fun f => !(lowS f.1 == lowS cidN)) h
  have h2 := nameT_len e i hi
  unfold boundHead
  rw [weight_append]
  have h3 : weight [(cidN, angled (nameT e i))] = (nameT e i).length + 13 := by
    simp [weight, cidN, angled]; omega
  rw [h3]; omega
theorem replF_len (s : Bs) : ∀ (l : List (Lnk × Bs)) (i j : Nat), Lies i (l.map (·.1)) j → (replF s l i).length ≤ (s.length - i) + (l.map fun x => 6 * x.2.length + 2).sum
  | [], i, _, _ => by simp [replF]
  | x :: l, i, j, h => by
    have h1 := quoT_len (befB s x.1) x.2
    have h0 := h.1
    have h2 := replF_len s l (x.1.1 + x.1.2.1) j h.2
    unfold replF
    simp only [List.length_append, List.length_take, List.length_drop, List.map_cons, List.sum_cons] at h0 ⊢
    omega
theorem vals_sum {e : Bs} (he : e.length ≤ 23) : ∀ (L : List Lnk) (ld : List (Bs × Int)), (∀ x ∈ ld, -9223372036854775808 ≤ x.2 ∧ x.2 ≤ 9223372036854775807) → (∀ x ∈ L, x.2.2.length ≤ x.2.1) →
    ((L.zip ((L.zip ld).map fun x => valueT e x.1.2.2 x.2.2)).map fun x => 6 * x.2.length + 2).sum ≤ 18 * (L.map fun x => x.2.1).sum + 320 * L.length
  | [], _, _, _ => by simp
  | _ :: _, [], _, _ => by simp
  | x :: L, y :: ld, hb, hv => by
    have ih := vals_sum he L ld (fun x hx => hb x (List.mem_cons_of_mem _ hx)) (fun x hx => hv x (List.mem_cons_of_mem _ hx))
    have h1 := hb y (List.mem_cons_self ..)
    have h2 := hv x (List.mem_cons_self ..)
    have h3 := valueT_len e x.2.2 y.2 h1.1 h1.2
    simp only [List.zip_cons_cons, List.map_cons, List.sum_cons, List.length_cons]
    omega
theorem boundBody_len {n : Nat} {b : Bnd} {e : Bs} {p : Prt} {a : Addr} (hin : BndIn b) (he : e.length ≤ 23) (hp : PrtSm n p) : (boundBody e p.body (leadsAt b p a)).length ≤ 40000000 := by
  have hbl := hp.fl.2
  have hb := leadsAt_bd hin p a
  unfold boundBody
  split
  · omega
  · rename_i hne
    have hl : (leadsAt b p a).length = (linksT p.body).length := by
      rcases leadsAt_len b p a with h | h
      · exact absurd h hne
      · exact h
    generalize leadsAt b p a = ld at hb hl
    have hs := linksT_sum p.body
    have hv := linksT_ok p.body
    have hli := (linksT_lies p.body).1
    have hn := (linksT_lies p.body).2
    unfold replK
    generalize p.body = s at hbl hl hs hv hli hn ⊢
    generalize linksT s = L at hl hs hv hli hn ⊢
    have h1 := vals_sum he L ld hb hv
    have hzl : ((L.zip ld).map fun x => valueT e x.1.2.2 x.2.2).length = L.length := by rw [List.length_map, List.length_zip]; omega
    generalize ((L.zip ld).map fun x => valueT e x.1.2.2 x.2.2) = vals at h1 hzl ⊢
    rw [if_pos hzl.symm, Option.getD_some]
    have h2 := replF_len s (L.zip vals) 0 s.length (by rw [List.map_fst_zip (by omega)]; exact hli)
    omega
theorem PrtSm.par {n : Nat} {p : Prt} (h : PrtSm (n + 1) p) : ∀ q ∈ p.parts, PrtIn n q := fun _ hq => (h.part hq).in
theorem boundPart_in {n : Nat} {b : Bnd} {e : Bs} {i : Nat} {p : Prt} (he : e.length ≤ 23) (hi : i ≤ 1000000) (hp : PrtSm n p) (hl : ∃ l, leadsB b (i : Int) = some l ∧ (boundBody e p.body l).length ≤ 40000000) : PrtIn n (boundPart b e i p) := by
  cases n with
  | zero => exact hp.elim
  | succ n =>
    have h1 := boundHead_weight e i (by omega) p.head
    have h2 := hp.head
    obtain ⟨l, hl, hlb⟩ := hl
    unfold boundPart
    rw [hl]
    exact ⟨by omega, hlb, by omega, hp.par⟩
theorem leadsB_at {b : Bnd} {k : Nat} (hk : k < b.whole.parts.length) (hk2 : k < b.places.length) : leadsB b (k : Int) = some (leadsAt b b.whole.parts[k] b.places[k]) := by
  unfold leadsB
  rw [if_neg (by omega)]
  simp [hk, hk2]
theorem boundPart_at {b : Bnd} {e : Bs} {k : Nat} (hin : BndIn b) (he : e.length ≤ 23) (hk : k < b.whole.parts.length) : PrtIn 3 (boundPart b e k b.whole.parts[k]) := by
  have hp := hin.whole.part (List.getElem_mem hk)
  have h3 := hin.whole.head.2.2
  exact boundPart_in he (by omega) hp ⟨_, leadsB_at hk (by rw [hin.places]; exact hk), boundBody_len hin he hp⟩
theorem boundWhole_in {b : Bnd} (hin : BndIn b) (hr : b.root ≤ 1000000) : PrtIn 4 (boundWhole b) := by
  have he := signT_len hin.whole
  have h2 := hin.whole.head
  have h3 := beginF_weight (nameT (signT b.whole) b.root) b.whole.head
  have h4 := nameT_len (signT b.whole) b.root (by omega)
  unfold boundWhole
  refine ⟨by omega, by omega, by rw [boundFrom_len]; omega, fun q hq => ?_⟩
  obtain ⟨k, hk, rfl⟩ := List.mem_iff_getElem.1 hq
  rw [boundFrom_len] at hk
  have h5 := boundFrom_at b (signT b.whole) b.whole.parts 0 k hk
  rw [Nat.zero_add] at h5
  have h6 : (boundFrom b (signT b.whole) 0 b.whole.parts)[k]'(by rw [boundFrom_len]; exact hk) = boundPart b (signT b.whole) k b.whole.parts[k] := by
    have := List.getElem?_eq_getElem (l := boundFrom b (signT b.whole) 0 b.whole.parts) (i := k) (by rw [boundFrom_len]; exact hk)
    rw [this] at h5
    exact Option.some.inj h5
  rw [h6]
  exact boundPart_at hin he hk
end Go.Proofs.YtignjjnflcpiiaaGreatDoor
