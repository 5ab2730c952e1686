/- smockinglaw06.TreeSwaps tells true. -/
import Derived.Test.YtknggjnpkgooaaaAwake
import Derived.Test.YtknggjnpkgooaaaSizes
import Derived.Test.YtknggjnpkgooaaaReplace
import Derived.Deep.RegionHeld3
namespace Go.Proofs.Ytknggjnpkgooaaa
open Go.RowKit Go.Proofs.YtknggjnpkgooaaaW.PrintWords Go.Proofs.YtknggjnpkgooaaaW.PrintLast Go.Proofs.YtknggjnpkgooaaaW.PrintMore PTreeSwaps

theorem rd_set {l : List S24} {i : Int} (h0 : 0 ≤ i) (h1 : i < l.length) (y : S24) : rd_T24 (l.set i.toNat y) i = y := by
  rw [rd_T24, List.getD_eq_getElem?_getD, List.getElem?_set_self (by omega)]
  rfl
theorem set_rd {l : List S24} {i : Int} (h0 : 0 ≤ i) (h1 : i < l.length) : l.set i.toNat (rd_T24 l i) = l := by
  rw [rd_T24, List.getD_eq_getElem?_getD, List.getElem?_eq_getElem (by omega)]
  exact List.set_getElem_self _
theorem find_repl (m : S24) : ∀ (p : List Int) (n old : S24), findN n p = some old → findN (replN n p m) p = some m
  | [], _, _, _ => rfl
  | i :: p, n, old, h => by
    rw [findN] at h
    split at h
    · rename_i hc
      rw [replN, findN]
      dsimp only
      rw [List.length_set, if_pos hc, rd_set hc.1 hc.2]
      exact find_repl m p _ old h
    · cases h
theorem repl_back (m : S24) : ∀ (p : List Int) (n old : S24), findN n p = some old → replN (replN n p m) p old = n
  | [], n, old, h => by
    injection h with h
    exact h.symm
  | i :: p, n, old, h => by
    rw [findN] at h
    split at h
    · rename_i hc
      rw [replN, replN]
      dsimp only
      rw [rd_set hc.1 hc.2, repl_back m p _ old h, List.set_set, set_rd hc.1 hc.2]
      cases n
      rfl
    · cases h
theorem size_repl (m : S24) : ∀ (p : List Int) (n old : S24), findN n p = some old → szN (replN n p m) = szN n - szN old + szN m
  | [], n, old, h => by
    injection h with h
    rw [replN, h]
    omega
  | i :: p, n, old, h => by
    rw [findN] at h
    split at h
    · rename_i hc
      have h1 := size_repl m p _ old h
      rw [replN, szN_eq, szN_eq n]
      dsimp only
      rw [szL_set (show i.toNat < n.f5.length by omega), h1]
      have h2 : rd_T24 n.f5 i = n.f5[i.toNat]'(by omega) := by
        rw [rd_T24, List.getD_eq_getElem?_getD, List.getElem?_eq_getElem (by omega)]
        rfl
      rw [h2]
      omega
    · cases h
theorem fit_set {x : S24} (hf : Fit x) {i : Nat} {y : S24} (hy : Fit y) : Fit { x with f5 := x.f5.set i y } := by
  refine .mk _ (by simpa using hf.len) fun j p hj => ?_
  dsimp only at hj
  rw [List.getElem?_set] at hj
  split at hj
  · split at hj
    · injection hj with hj
      exact hj ▸ hy
    · cases hj
  · exact hf.kid hj
theorem fit_repl (m : S24) (hm : Fit m) : ∀ (p : List Int) (n old : S24), Fit n → findN n p = some old → Fit (replN n p m)
  | [], _, _, _, _ => hm
  | i :: p, n, old, hf, h => by
    rw [findN] at h
    split at h
    · rename_i hc
      exact fit_set hf (fit_repl m hm p _ old (kids_fit hf _ (rd_mem hc.1 hc.2)) h)
    · cases h

theorem wrapEq (x : Int) : IntKind.i64.wrap x = wrap64 x := by rw [IntKind.wrap_i64]; unfold wrap64; omega
theorem heap_alloc_old (w : World) (o : Obj) : ∀ k, k < w.heap.size → (w.alloc o).heap[k]? = w.heap[k]? := fun k hk => Below.heap_alloc w o k hk
theorem K_of_Tr {w w' w4 : World} {lo : Nat} {x : S24} {A : Option Addr} {c : Nat} (h : ∀ k, k < w.heap.size → w'.heap[k]? = w.heap[k]?) (ht : Tr w lo w.heap.size x (nodeCells x (.slice A x.f5.length c))) (hb : Below w'.heap.size w' w4) : k24.C w4 A x.f5.length x.f5 ∧ x.f5.length ≤ c := by
  obtain ⟨A', c', he, hl, hk⟩ := K_cells (k24.K_below hb (ht.keep fun k _ hk => h k hk).K)
  simp only [nodeCells, List.cons.injEq, Value.slice.injEq, true_and, and_true] at he
  obtain ⟨rfl, rfl⟩ := he
  exact ⟨hk, hl⟩
theorem slice_inj {x : S24} {A A' : Option Addr} {n n' c c' : Nat} (h : nodeCells x (.slice A n c) = nodeCells x (.slice A' n' c')) : A = A' ∧ c = c' := by
  simp only [nodeCells, List.cons.injEq, Value.slice.injEq, true_and, and_true] at h
  exact ⟨h.1, h.2.2⟩

set_option maxHeartbeats 1600000 in
theorem swaps3 (n m : S24) (path : List Int) (A : Option Addr) (c : Nat) (A1 : Option Addr) (c1 : Nat) (A2 : Option Addr) (c2 : Nat) (w : World) (hK : k24.C w A n.f5.length n.f5) (hc : n.f5.length ≤ c) (hP : (Kd.int .i64).C w A1 path.length path) (hK2 : k24.C w A2 m.f5.length m.f5) (hc2 : m.f5.length ≤ c2) (hF : Fit n) (hF2 : Fit m) :
    Calls Try.prog 3 #[.agg #[.int .i64 n.f0, .string n.f1, .int .i64 n.f2, .int .i64 n.f3, .int .i64 n.f4, .slice A n.f5.length c], .agg #[.int .i64 m.f0, .string m.f1, .int .i64 m.f2, .int .i64 m.f3, .int .i64 m.f4, .slice A2 m.f5.length c2], .slice A1 path.length c1] w (TrueSaid w) := by
  have HK := Aside0.mk hK
  have HP := Aside0.mk hP
  have HC := Aside0.mk hc
  have HF := Aside0.mk hF
  have HK2 := Aside0.mk hK2
  have HC2 := Aside0.mk hc2
  have HF2 := Aside0.mk hF2
  clear hK hP hc hF hK2 hF2 hc2
  go_enter Try.func3, Try.ntmps3
  go_wp2_with fail
  have HBA := Aside0.mk (below_alloc (below_alloc (Below.refl _ w) (.cells #[.int .i64 n.f0, .string n.f1, .int .i64 n.f2, .int .i64 n.f3, .int .i64 n.f4, .slice A n.f5.length c] 24)) (.cells #[.int .i64 m.f0, .string m.f1, .int .i64 m.f2, .int .i64 m.f3, .int .i64 m.f4, .slice A2 m.f5.length c2] 24))
  refine (heavy5 n HF.out A c _ (Kd.C_below HK.out HBA.out) HC.out).mono ?_
  rintro e w1 ⟨b1, rfl, hb1⟩
  have HN1 := Aside0.mk (blk_below (blk_alloc (blk_new w (.cells #[.int .i64 n.f0, .string n.f1, .int .i64 n.f2, .int .i64 n.f3, .int .i64 n.f4, .slice A n.f5.length c] 24)) (.cells #[.int .i64 m.f0, .string m.f1, .int .i64 m.f2, .int .i64 m.f3, .int .i64 m.f4, .slice A2 m.f5.length c2] 24)) hb1)
  have HM1 := Aside0.mk (blk_below (new_second w (.cells #[.int .i64 n.f0, .string n.f1, .int .i64 n.f2, .int .i64 n.f3, .int .i64 n.f4, .slice A n.f5.length c] 24) (.cells #[.int .i64 m.f0, .string m.f1, .int .i64 m.f2, .int .i64 m.f3, .int .i64 m.f4, .slice A2 m.f5.length c2] 24)) hb1)
  have HB1 := Aside0.mk (below_two hb1)
  clear hb1
  cases b1 with
  | true =>
    go_wp2_with fail
    refine (awake6 _).mono ?_
    rintro e w2 ⟨rfl, hb2⟩
    go_wp2_with fail
    go_ret
    exact ⟨rfl, below_after' HB1.out hb2⟩
  | false =>
    have mc0 : w1.cell? ⟨w.heap.size + 1, 0, none⟩ = some (.int .i64 m.f0) := blk_cell HM1.out 0
    have mc1 : w1.cell? ⟨w.heap.size + 1, 1, none⟩ = some (.string m.f1) := blk_cell HM1.out 1
    have mc2 : w1.cell? ⟨w.heap.size + 1, 2, none⟩ = some (.int .i64 m.f2) := blk_cell HM1.out 2
    have mc3 : w1.cell? ⟨w.heap.size + 1, 3, none⟩ = some (.int .i64 m.f3) := blk_cell HM1.out 3
    have mc4 : w1.cell? ⟨w.heap.size + 1, 4, none⟩ = some (.int .i64 m.f4) := blk_cell HM1.out 4
    have mc5 : w1.cell? ⟨w.heap.size + 1, 5, none⟩ = some (.slice A2 m.f5.length c2) := blk_cell HM1.out 5
    have nc0 : w1.cell? ⟨w.heap.size, 0, none⟩ = some (.int .i64 n.f0) := blk_cell HN1.out 0
    have nc1 : w1.cell? ⟨w.heap.size, 1, none⟩ = some (.string n.f1) := blk_cell HN1.out 1
    have nc2 : w1.cell? ⟨w.heap.size, 2, none⟩ = some (.int .i64 n.f2) := blk_cell HN1.out 2
    have nc3 : w1.cell? ⟨w.heap.size, 3, none⟩ = some (.int .i64 n.f3) := blk_cell HN1.out 3
    have nc4 : w1.cell? ⟨w.heap.size, 4, none⟩ = some (.int .i64 n.f4) := blk_cell HN1.out 4
    have nc5 : w1.cell? ⟨w.heap.size, 5, none⟩ = some (.slice A n.f5.length c) := blk_cell HN1.out 5
    go_wp2_with fail
    refine (heavy5 m HF2.out A2 c2 _ (Kd.C_below HK2.out HB1.out) HC2.out).mono ?_
    rintro e w2 ⟨b2, rfl, hb2⟩
    have HN2 := Aside0.mk (blk_below HN1.out hb2)
    have HM2 := Aside0.mk (blk_below HM1.out hb2)
    have HB2 := Aside0.mk (below_after' HB1.out hb2)
    clear hb2 nc0 mc0 nc1 mc1 nc2 mc2 nc3 mc3 nc4 mc4 nc5 mc5
    cases b2 with
    | true =>
      go_wp2_with fail
      refine (awake6 _).mono ?_
      rintro e w3 ⟨rfl, hb3⟩
      go_wp2_with fail
      go_ret
      exact ⟨rfl, below_after' HB2.out hb3⟩
    | false =>
      by_cases hlen : 100 < path.length
      · go_wp2_with fail
        refine (awake6 _).mono ?_
        rintro e w3 ⟨rfl, hb3⟩
        go_wp2_with fail
        go_ret
        exact ⟨rfl, below_after' HB2.out hb3⟩
      · have hle : path.length ≤ 100 := by omega
        have mc0 : w2.cell? ⟨w.heap.size + 1, 0, none⟩ = some (.int .i64 m.f0) := blk_cell HM2.out 0
        have mc1 : w2.cell? ⟨w.heap.size + 1, 1, none⟩ = some (.string m.f1) := blk_cell HM2.out 1
        have mc2 : w2.cell? ⟨w.heap.size + 1, 2, none⟩ = some (.int .i64 m.f2) := blk_cell HM2.out 2
        have mc3 : w2.cell? ⟨w.heap.size + 1, 3, none⟩ = some (.int .i64 m.f3) := blk_cell HM2.out 3
        have mc4 : w2.cell? ⟨w.heap.size + 1, 4, none⟩ = some (.int .i64 m.f4) := blk_cell HM2.out 4
        have mc5 : w2.cell? ⟨w.heap.size + 1, 5, none⟩ = some (.slice A2 m.f5.length c2) := blk_cell HM2.out 5
        have nc0 : w2.cell? ⟨w.heap.size, 0, none⟩ = some (.int .i64 n.f0) := blk_cell HN2.out 0
        have nc1 : w2.cell? ⟨w.heap.size, 1, none⟩ = some (.string n.f1) := blk_cell HN2.out 1
        have nc2 : w2.cell? ⟨w.heap.size, 2, none⟩ = some (.int .i64 n.f2) := blk_cell HN2.out 2
        have nc3 : w2.cell? ⟨w.heap.size, 3, none⟩ = some (.int .i64 n.f3) := blk_cell HN2.out 3
        have nc4 : w2.cell? ⟨w.heap.size, 4, none⟩ = some (.int .i64 n.f4) := blk_cell HN2.out 4
        have nc5 : w2.cell? ⟨w.heap.size, 5, none⟩ = some (.slice A n.f5.length c) := blk_cell HN2.out 5
        go_wp2_with fail
        refine (at7 n path A c A1 c1 _ (Kd.C_below HK.out HB2.out) HC.out (Kd.C_below HP.out HB2.out) HF.out).mono ?_
        rintro e w3 ⟨hb3, hor⟩
        have HN3 := Aside0.mk (blk_below HN2.out hb3)
        have HM3 := Aside0.mk (blk_below HM2.out hb3)
        have HB3 := Aside0.mk (below_after' HB2.out hb3)
        clear hb3 nc0 mc0 nc1 mc1 nc2 mc2 nc3 mc3 nc4 mc4 nc5 mc5
        have ma0 : ∀ o, (w3.alloc o).cell? ⟨w.heap.size + 1, 0, none⟩ = some (.int .i64 m.f0) := fun o => blk_cell (blk_alloc HM3.out o) 0
        have mg0 : ∀ o, (w3.alloc o).frozen? ⟨w.heap.size + 1, 0, none⟩ = false := fun o => blk_frozen (blk_alloc HM3.out o) 0
        have ma1 : ∀ o, (w3.alloc o).cell? ⟨w.heap.size + 1, 1, none⟩ = some (.string m.f1) := fun o => blk_cell (blk_alloc HM3.out o) 1
        have mg1 : ∀ o, (w3.alloc o).frozen? ⟨w.heap.size + 1, 1, none⟩ = false := fun o => blk_frozen (blk_alloc HM3.out o) 1
        have ma2 : ∀ o, (w3.alloc o).cell? ⟨w.heap.size + 1, 2, none⟩ = some (.int .i64 m.f2) := fun o => blk_cell (blk_alloc HM3.out o) 2
        have mg2 : ∀ o, (w3.alloc o).frozen? ⟨w.heap.size + 1, 2, none⟩ = false := fun o => blk_frozen (blk_alloc HM3.out o) 2
        have ma3 : ∀ o, (w3.alloc o).cell? ⟨w.heap.size + 1, 3, none⟩ = some (.int .i64 m.f3) := fun o => blk_cell (blk_alloc HM3.out o) 3
        have mg3 : ∀ o, (w3.alloc o).frozen? ⟨w.heap.size + 1, 3, none⟩ = false := fun o => blk_frozen (blk_alloc HM3.out o) 3
        have ma4 : ∀ o, (w3.alloc o).cell? ⟨w.heap.size + 1, 4, none⟩ = some (.int .i64 m.f4) := fun o => blk_cell (blk_alloc HM3.out o) 4
        have mg4 : ∀ o, (w3.alloc o).frozen? ⟨w.heap.size + 1, 4, none⟩ = false := fun o => blk_frozen (blk_alloc HM3.out o) 4
        have ma5 : ∀ o, (w3.alloc o).cell? ⟨w.heap.size + 1, 5, none⟩ = some (.slice A2 m.f5.length c2) := fun o => blk_cell (blk_alloc HM3.out o) 5
        have mg5 : ∀ o, (w3.alloc o).frozen? ⟨w.heap.size + 1, 5, none⟩ = false := fun o => blk_frozen (blk_alloc HM3.out o) 5
        have na0 : ∀ o, (w3.alloc o).cell? ⟨w.heap.size, 0, none⟩ = some (.int .i64 n.f0) := fun o => blk_cell (blk_alloc HN3.out o) 0
        have ng0 : ∀ o, (w3.alloc o).frozen? ⟨w.heap.size, 0, none⟩ = false := fun o => blk_frozen (blk_alloc HN3.out o) 0
        have na1 : ∀ o, (w3.alloc o).cell? ⟨w.heap.size, 1, none⟩ = some (.string n.f1) := fun o => blk_cell (blk_alloc HN3.out o) 1
        have ng1 : ∀ o, (w3.alloc o).frozen? ⟨w.heap.size, 1, none⟩ = false := fun o => blk_frozen (blk_alloc HN3.out o) 1
        have na2 : ∀ o, (w3.alloc o).cell? ⟨w.heap.size, 2, none⟩ = some (.int .i64 n.f2) := fun o => blk_cell (blk_alloc HN3.out o) 2
        have ng2 : ∀ o, (w3.alloc o).frozen? ⟨w.heap.size, 2, none⟩ = false := fun o => blk_frozen (blk_alloc HN3.out o) 2
        have na3 : ∀ o, (w3.alloc o).cell? ⟨w.heap.size, 3, none⟩ = some (.int .i64 n.f3) := fun o => blk_cell (blk_alloc HN3.out o) 3
        have ng3 : ∀ o, (w3.alloc o).frozen? ⟨w.heap.size, 3, none⟩ = false := fun o => blk_frozen (blk_alloc HN3.out o) 3
        have na4 : ∀ o, (w3.alloc o).cell? ⟨w.heap.size, 4, none⟩ = some (.int .i64 n.f4) := fun o => blk_cell (blk_alloc HN3.out o) 4
        have ng4 : ∀ o, (w3.alloc o).frozen? ⟨w.heap.size, 4, none⟩ = false := fun o => blk_frozen (blk_alloc HN3.out o) 4
        have na5 : ∀ o, (w3.alloc o).cell? ⟨w.heap.size, 5, none⟩ = some (.slice A n.f5.length c) := fun o => blk_cell (blk_alloc HN3.out o) 5
        have ng5 : ∀ o, (w3.alloc o).frozen? ⟨w.heap.size, 5, none⟩ = false := fun o => blk_frozen (blk_alloc HN3.out o) 5

        rcases hor with ⟨old, Ao, co, hf, htr, rfl⟩ | ⟨hf, rfl⟩
        · have HF1 := Aside0.mk hf
          have HTR := Aside0.mk htr
          clear hf htr
          go_wp2_with fail
          refine (replace8 n path m A c A1 c1 A2 c2 _ (Kd.C_below HK.out (below_alloc HB3.out _)) HC.out (Kd.C_below HP.out (below_alloc HB3.out _)) (Kd.C_below HK2.out (below_alloc HB3.out _)) HF.out HF2.out).mono ?_
          rintro e w4 ⟨hb4, hor4⟩
          have HN4 := Aside0.mk (blk_below (blk_alloc HN3.out _) hb4)
          have HM4 := Aside0.mk (blk_below (blk_alloc HM3.out _) hb4)
          have HO4 := Aside0.mk (blk_below (blk_new w3 _) hb4)
          have HOK := Aside0.mk (K_of_Tr (heap_alloc_old w3 _) HTR.out hb4)
          have HB4 := Aside0.mk (below_after' (below_alloc HB3.out _) hb4)
          have HFX := Aside0.mk (find_repl m path n old HF1.out)
          have HRX := Aside0.mk (repl_back m path n old HF1.out)
          have HSX := Aside0.mk (size_repl m path n old HF1.out)
          have HFI := Aside0.mk (fit_repl m HF2.out path n old HF.out HF1.out)
          have HFO := Aside0.mk (findN_fit path n old HF.out HF1.out)
          have hS3 : w.heap.size + 2 ≤ w3.heap.size := by have := blk_lt HM3.out; omega
          have hS4 : w3.heap.size + 1 ≤ w4.heap.size := by have := hb4.size; simpa using this
          rcases hor4 with ⟨Ax, cx, _, hkx, hex⟩ | ⟨hno, _⟩
          rotate_left
          · rw [HF1.out] at hno
            cases hno
          generalize replN n path m = x at *
          replace hex : e = .returned (.tuple #[.agg #[.int .i64 x.f0, .string x.f1, .int .i64 x.f2, .int .i64 x.f3, .int .i64 x.f4, .slice Ax x.f5.length cx], .int .i64 0]) := hex
          subst hex
          obtain ⟨A', c', he', hlx, hKx⟩ := K_cells hkx
          obtain ⟨rfl, rfl⟩ := slice_inj he'
          have HKX := Aside0.mk hKx
          have HLX := Aside0.mk hlx
          clear hkx hKx hlx he' hb4 na0 ma0 ng0 mg0 na1 ma1 ng1 mg1 na2 ma2 ng2 mg2 na3 ma3 ng3 mg3 na4 ma4 ng4 mg4 na5 ma5 ng5 mg5
          go_wp2_with fail
          refine (at7 x path Ax cx A1 c1 _ (Kd.C_alloc HKX.out _) HLX.out (Kd.C_below HP.out (below_alloc HB4.out _)) HFI.out).mono ?_
          rintro e w5 ⟨hb5, hor5⟩
          rcases hor5 with ⟨got, Ag, cg, hf5, htr5, rfl⟩ | ⟨hf5, _⟩
          rotate_left
          · rw [HFX.out] at hf5
            cases hf5
          obtain rfl : m = got := Option.some.inj (HFX.out.symm.trans hf5)
          have HN5 := Aside0.mk (blk_below (blk_alloc HN4.out _) hb5)
          have HM5 := Aside0.mk (blk_below (blk_alloc HM4.out _) hb5)
          have HO5 := Aside0.mk (blk_below (blk_alloc HO4.out _) hb5)
          have HX5 := Aside0.mk (blk_below (blk_new w4 _) hb5)
          have HB5 := Aside0.mk (below_after' (below_alloc HB4.out _) hb5)
          have HOK5 := Aside0.mk (Kd.C_below (Kd.C_alloc HOK.out.1 _) hb5)
          have HOL := Aside0.mk HOK.out.2
          have HKX5 := Aside0.mk (Kd.C_below (Kd.C_alloc HKX.out _) hb5)
          have HTR5 := Aside0.mk htr5
          have hS5 : w4.heap.size + 1 ≤ w5.heap.size := by have := hb5.size; simpa using this
          clear hb5 htr5 hf5
          have xa0 : ∀ o, (w5.alloc o).cell? ⟨w4.heap.size, 0, none⟩ = some (.int .i64 x.f0) := fun o => blk_cell (blk_alloc HX5.out o) 0
          have xg0 : ∀ o, (w5.alloc o).frozen? ⟨w4.heap.size, 0, none⟩ = false := fun o => blk_frozen (blk_alloc HX5.out o) 0
          have xa1 : ∀ o, (w5.alloc o).cell? ⟨w4.heap.size, 1, none⟩ = some (.string x.f1) := fun o => blk_cell (blk_alloc HX5.out o) 1
          have xg1 : ∀ o, (w5.alloc o).frozen? ⟨w4.heap.size, 1, none⟩ = false := fun o => blk_frozen (blk_alloc HX5.out o) 1
          have xa2 : ∀ o, (w5.alloc o).cell? ⟨w4.heap.size, 2, none⟩ = some (.int .i64 x.f2) := fun o => blk_cell (blk_alloc HX5.out o) 2
          have xg2 : ∀ o, (w5.alloc o).frozen? ⟨w4.heap.size, 2, none⟩ = false := fun o => blk_frozen (blk_alloc HX5.out o) 2
          have xa3 : ∀ o, (w5.alloc o).cell? ⟨w4.heap.size, 3, none⟩ = some (.int .i64 x.f3) := fun o => blk_cell (blk_alloc HX5.out o) 3
          have xg3 : ∀ o, (w5.alloc o).frozen? ⟨w4.heap.size, 3, none⟩ = false := fun o => blk_frozen (blk_alloc HX5.out o) 3
          have xa4 : ∀ o, (w5.alloc o).cell? ⟨w4.heap.size, 4, none⟩ = some (.int .i64 x.f4) := fun o => blk_cell (blk_alloc HX5.out o) 4
          have xg4 : ∀ o, (w5.alloc o).frozen? ⟨w4.heap.size, 4, none⟩ = false := fun o => blk_frozen (blk_alloc HX5.out o) 4
          have xa5 : ∀ o, (w5.alloc o).cell? ⟨w4.heap.size, 5, none⟩ = some (.slice Ax x.f5.length cx) := fun o => blk_cell (blk_alloc HX5.out o) 5
          have xg5 : ∀ o, (w5.alloc o).frozen? ⟨w4.heap.size, 5, none⟩ = false := fun o => blk_frozen (blk_alloc HX5.out o) 5
          have oa0 : ∀ o, (w5.alloc o).cell? ⟨w3.heap.size, 0, none⟩ = some (.int .i64 old.f0) := fun o => blk_cell (blk_alloc HO5.out o) 0
          have og0 : ∀ o, (w5.alloc o).frozen? ⟨w3.heap.size, 0, none⟩ = false := fun o => blk_frozen (blk_alloc HO5.out o) 0
          have oa1 : ∀ o, (w5.alloc o).cell? ⟨w3.heap.size, 1, none⟩ = some (.string old.f1) := fun o => blk_cell (blk_alloc HO5.out o) 1
          have og1 : ∀ o, (w5.alloc o).frozen? ⟨w3.heap.size, 1, none⟩ = false := fun o => blk_frozen (blk_alloc HO5.out o) 1
          have oa2 : ∀ o, (w5.alloc o).cell? ⟨w3.heap.size, 2, none⟩ = some (.int .i64 old.f2) := fun o => blk_cell (blk_alloc HO5.out o) 2
          have og2 : ∀ o, (w5.alloc o).frozen? ⟨w3.heap.size, 2, none⟩ = false := fun o => blk_frozen (blk_alloc HO5.out o) 2
          have oa3 : ∀ o, (w5.alloc o).cell? ⟨w3.heap.size, 3, none⟩ = some (.int .i64 old.f3) := fun o => blk_cell (blk_alloc HO5.out o) 3
          have og3 : ∀ o, (w5.alloc o).frozen? ⟨w3.heap.size, 3, none⟩ = false := fun o => blk_frozen (blk_alloc HO5.out o) 3
          have oa4 : ∀ o, (w5.alloc o).cell? ⟨w3.heap.size, 4, none⟩ = some (.int .i64 old.f4) := fun o => blk_cell (blk_alloc HO5.out o) 4
          have og4 : ∀ o, (w5.alloc o).frozen? ⟨w3.heap.size, 4, none⟩ = false := fun o => blk_frozen (blk_alloc HO5.out o) 4
          have oa5 : ∀ o, (w5.alloc o).cell? ⟨w3.heap.size, 5, none⟩ = some (.slice Ao old.f5.length co) := fun o => blk_cell (blk_alloc HO5.out o) 5
          have og5 : ∀ o, (w5.alloc o).frozen? ⟨w3.heap.size, 5, none⟩ = false := fun o => blk_frozen (blk_alloc HO5.out o) 5

          go_wp2_with fail
          refine (replace8 x path old Ax cx A1 c1 Ao co _ (Kd.C_alloc HKX5.out _) HLX.out (Kd.C_below HP.out (below_alloc HB5.out _)) (Kd.C_alloc HOK5.out _) HFI.out HFO.out).mono ?_
          rintro e w6 ⟨hb6, hor6⟩
          rcases hor6 with ⟨Ab, cb, _, hkb, heb⟩ | ⟨hf6, _⟩
          rotate_left
          · rw [HFX.out] at hf6
            cases hf6
          have hrx := HRX.out
          rw [hrx] at hkb heb
          clear hrx
          replace heb : e = .returned (.tuple #[.agg #[.int .i64 n.f0, .string n.f1, .int .i64 n.f2, .int .i64 n.f3, .int .i64 n.f4, .slice Ab n.f5.length cb], .int .i64 0]) := heb
          subst heb
          obtain ⟨A', c', he', hlb, hKb⟩ := K_cells hkb
          obtain ⟨rfl, rfl⟩ := slice_inj he'
          have HN6 := Aside0.mk (blk_below (blk_alloc HN5.out _) hb6)
          have HM6 := Aside0.mk (blk_below (blk_alloc HM5.out _) hb6)
          have HO6 := Aside0.mk (blk_below (blk_alloc HO5.out _) hb6)
          have HX6 := Aside0.mk (blk_below (blk_alloc HX5.out _) hb6)
          have HG6 := Aside0.mk (blk_below (blk_new w5 _) hb6)
          have HB6 := Aside0.mk (below_after' (below_alloc HB5.out _) hb6)
          have HOK6 := Aside0.mk (Kd.C_below (Kd.C_alloc HOK5.out _) hb6)
          have HKX6 := Aside0.mk (Kd.C_below (Kd.C_alloc HKX5.out _) hb6)
          have HGK6 := Aside0.mk (K_of_Tr (heap_alloc_old w5 _) HTR5.out hb6)
          have HKB6 := Aside0.mk hKb
          have HLB6 := Aside0.mk hlb
          have hS6 : w5.heap.size + 1 ≤ w6.heap.size := by have := hb6.size; simpa using this
          clear hb6 hkb hlb he' hKb xa0 xg0 oa0 og0 xa1 xg1 oa1 og1 xa2 xg2 oa2 og2 xa3 xg3 oa3 og3 xa4 xg4 oa4 og4 xa5 xg5 oa5 og5
          go_wp2_with fail
          have HN7 := Aside0.mk (blk_alloc HN6.out (.cells #[.int .i64 n.f0, .string n.f1, .int .i64 n.f2, .int .i64 n.f3, .int .i64 n.f4, .slice Ab n.f5.length cb] 24))
          have HM7 := Aside0.mk (blk_alloc HM6.out (.cells #[.int .i64 n.f0, .string n.f1, .int .i64 n.f2, .int .i64 n.f3, .int .i64 n.f4, .slice Ab n.f5.length cb] 24))
          have HO7 := Aside0.mk (blk_alloc HO6.out (.cells #[.int .i64 n.f0, .string n.f1, .int .i64 n.f2, .int .i64 n.f3, .int .i64 n.f4, .slice Ab n.f5.length cb] 24))
          have HX7 := Aside0.mk (blk_alloc HX6.out (.cells #[.int .i64 n.f0, .string n.f1, .int .i64 n.f2, .int .i64 n.f3, .int .i64 n.f4, .slice Ab n.f5.length cb] 24))
          have HG7 := Aside0.mk (blk_alloc HG6.out (.cells #[.int .i64 n.f0, .string n.f1, .int .i64 n.f2, .int .i64 n.f3, .int .i64 n.f4, .slice Ab n.f5.length cb] 24))
          have HR7 := Aside0.mk (blk_new w6 (.cells #[.int .i64 n.f0, .string n.f1, .int .i64 n.f2, .int .i64 n.f3, .int .i64 n.f4, .slice Ab n.f5.length cb] 24))
          have HB7 := Aside0.mk (below_alloc HB6.out (.cells #[.int .i64 n.f0, .string n.f1, .int .i64 n.f2, .int .i64 n.f3, .int .i64 n.f4, .slice Ab n.f5.length cb] 24))
          have HOK7 := Aside0.mk (Kd.C_alloc HOK6.out (.cells #[.int .i64 n.f0, .string n.f1, .int .i64 n.f2, .int .i64 n.f3, .int .i64 n.f4, .slice Ab n.f5.length cb] 24))
          have HKX7 := Aside0.mk (Kd.C_alloc HKX6.out (.cells #[.int .i64 n.f0, .string n.f1, .int .i64 n.f2, .int .i64 n.f3, .int .i64 n.f4, .slice Ab n.f5.length cb] 24))
          have HGK7 := Aside0.mk (Kd.C_alloc HGK6.out.1 (.cells #[.int .i64 n.f0, .string n.f1, .int .i64 n.f2, .int .i64 n.f3, .int .i64 n.f4, .slice Ab n.f5.length cb] 24))
          have HKB7 := Aside0.mk (Kd.C_alloc HKB6.out (.cells #[.int .i64 n.f0, .string n.f1, .int .i64 n.f2, .int .i64 n.f3, .int .i64 n.f4, .slice Ab n.f5.length cb] 24))
          have HGL := Aside0.mk HGK6.out.2
          clear HN6 HM6 HO6 HX6 HG6 HB6 HOK6 HKX6 HGK6 HKB6
          generalize w6.alloc (.cells #[.int .i64 n.f0, .string n.f1, .int .i64 n.f2, .int .i64 n.f3, .int .i64 n.f4, .slice Ab n.f5.length cb] 24) = w7 at *
          have zn0 : ∀ w', Below w7.heap.size w7 w' → w'.cell? ⟨w.heap.size, 0, none⟩ = some (.int .i64 n.f0) := fun w' h => blk_cell (blk_below HN7.out h) 0
          have zn1 : ∀ w', Below w7.heap.size w7 w' → w'.cell? ⟨w.heap.size, 1, none⟩ = some (.string n.f1) := fun w' h => blk_cell (blk_below HN7.out h) 1
          have zn2 : ∀ w', Below w7.heap.size w7 w' → w'.cell? ⟨w.heap.size, 2, none⟩ = some (.int .i64 n.f2) := fun w' h => blk_cell (blk_below HN7.out h) 2
          have zn3 : ∀ w', Below w7.heap.size w7 w' → w'.cell? ⟨w.heap.size, 3, none⟩ = some (.int .i64 n.f3) := fun w' h => blk_cell (blk_below HN7.out h) 3
          have zn4 : ∀ w', Below w7.heap.size w7 w' → w'.cell? ⟨w.heap.size, 4, none⟩ = some (.int .i64 n.f4) := fun w' h => blk_cell (blk_below HN7.out h) 4
          have zn5 : ∀ w', Below w7.heap.size w7 w' → w'.cell? ⟨w.heap.size, 5, none⟩ = some (.slice A n.f5.length c) := fun w' h => blk_cell (blk_below HN7.out h) 5
          have zm0 : ∀ w', Below w7.heap.size w7 w' → w'.cell? ⟨w.heap.size + 1, 0, none⟩ = some (.int .i64 m.f0) := fun w' h => blk_cell (blk_below HM7.out h) 0
          have zm1 : ∀ w', Below w7.heap.size w7 w' → w'.cell? ⟨w.heap.size + 1, 1, none⟩ = some (.string m.f1) := fun w' h => blk_cell (blk_below HM7.out h) 1
          have zm2 : ∀ w', Below w7.heap.size w7 w' → w'.cell? ⟨w.heap.size + 1, 2, none⟩ = some (.int .i64 m.f2) := fun w' h => blk_cell (blk_below HM7.out h) 2
          have zm3 : ∀ w', Below w7.heap.size w7 w' → w'.cell? ⟨w.heap.size + 1, 3, none⟩ = some (.int .i64 m.f3) := fun w' h => blk_cell (blk_below HM7.out h) 3
          have zm4 : ∀ w', Below w7.heap.size w7 w' → w'.cell? ⟨w.heap.size + 1, 4, none⟩ = some (.int .i64 m.f4) := fun w' h => blk_cell (blk_below HM7.out h) 4
          have zm5 : ∀ w', Below w7.heap.size w7 w' → w'.cell? ⟨w.heap.size + 1, 5, none⟩ = some (.slice A2 m.f5.length c2) := fun w' h => blk_cell (blk_below HM7.out h) 5
          have zo0 : ∀ w', Below w7.heap.size w7 w' → w'.cell? ⟨w3.heap.size, 0, none⟩ = some (.int .i64 old.f0) := fun w' h => blk_cell (blk_below HO7.out h) 0
          have zo1 : ∀ w', Below w7.heap.size w7 w' → w'.cell? ⟨w3.heap.size, 1, none⟩ = some (.string old.f1) := fun w' h => blk_cell (blk_below HO7.out h) 1
          have zo2 : ∀ w', Below w7.heap.size w7 w' → w'.cell? ⟨w3.heap.size, 2, none⟩ = some (.int .i64 old.f2) := fun w' h => blk_cell (blk_below HO7.out h) 2
          have zo3 : ∀ w', Below w7.heap.size w7 w' → w'.cell? ⟨w3.heap.size, 3, none⟩ = some (.int .i64 old.f3) := fun w' h => blk_cell (blk_below HO7.out h) 3
          have zo4 : ∀ w', Below w7.heap.size w7 w' → w'.cell? ⟨w3.heap.size, 4, none⟩ = some (.int .i64 old.f4) := fun w' h => blk_cell (blk_below HO7.out h) 4
          have zo5 : ∀ w', Below w7.heap.size w7 w' → w'.cell? ⟨w3.heap.size, 5, none⟩ = some (.slice Ao old.f5.length co) := fun w' h => blk_cell (blk_below HO7.out h) 5
          have zx0 : ∀ w', Below w7.heap.size w7 w' → w'.cell? ⟨w4.heap.size, 0, none⟩ = some (.int .i64 x.f0) := fun w' h => blk_cell (blk_below HX7.out h) 0
          have zx1 : ∀ w', Below w7.heap.size w7 w' → w'.cell? ⟨w4.heap.size, 1, none⟩ = some (.string x.f1) := fun w' h => blk_cell (blk_below HX7.out h) 1
          have zx2 : ∀ w', Below w7.heap.size w7 w' → w'.cell? ⟨w4.heap.size, 2, none⟩ = some (.int .i64 x.f2) := fun w' h => blk_cell (blk_below HX7.out h) 2
          have zx3 : ∀ w', Below w7.heap.size w7 w' → w'.cell? ⟨w4.heap.size, 3, none⟩ = some (.int .i64 x.f3) := fun w' h => blk_cell (blk_below HX7.out h) 3
          have zx4 : ∀ w', Below w7.heap.size w7 w' → w'.cell? ⟨w4.heap.size, 4, none⟩ = some (.int .i64 x.f4) := fun w' h => blk_cell (blk_below HX7.out h) 4
          have zx5 : ∀ w', Below w7.heap.size w7 w' → w'.cell? ⟨w4.heap.size, 5, none⟩ = some (.slice Ax x.f5.length cx) := fun w' h => blk_cell (blk_below HX7.out h) 5
          have zg0 : ∀ w', Below w7.heap.size w7 w' → w'.cell? ⟨w5.heap.size, 0, none⟩ = some (.int .i64 m.f0) := fun w' h => blk_cell (blk_below HG7.out h) 0
          have zg1 : ∀ w', Below w7.heap.size w7 w' → w'.cell? ⟨w5.heap.size, 1, none⟩ = some (.string m.f1) := fun w' h => blk_cell (blk_below HG7.out h) 1
          have zg2 : ∀ w', Below w7.heap.size w7 w' → w'.cell? ⟨w5.heap.size, 2, none⟩ = some (.int .i64 m.f2) := fun w' h => blk_cell (blk_below HG7.out h) 2
          have zg3 : ∀ w', Below w7.heap.size w7 w' → w'.cell? ⟨w5.heap.size, 3, none⟩ = some (.int .i64 m.f3) := fun w' h => blk_cell (blk_below HG7.out h) 3
          have zg4 : ∀ w', Below w7.heap.size w7 w' → w'.cell? ⟨w5.heap.size, 4, none⟩ = some (.int .i64 m.f4) := fun w' h => blk_cell (blk_below HG7.out h) 4
          have zg5 : ∀ w', Below w7.heap.size w7 w' → w'.cell? ⟨w5.heap.size, 5, none⟩ = some (.slice Ag m.f5.length cg) := fun w' h => blk_cell (blk_below HG7.out h) 5
          have zr0 : ∀ w', Below w7.heap.size w7 w' → w'.cell? ⟨w6.heap.size, 0, none⟩ = some (.int .i64 n.f0) := fun w' h => blk_cell (blk_below HR7.out h) 0
          have zr1 : ∀ w', Below w7.heap.size w7 w' → w'.cell? ⟨w6.heap.size, 1, none⟩ = some (.string n.f1) := fun w' h => blk_cell (blk_below HR7.out h) 1
          have zr2 : ∀ w', Below w7.heap.size w7 w' → w'.cell? ⟨w6.heap.size, 2, none⟩ = some (.int .i64 n.f2) := fun w' h => blk_cell (blk_below HR7.out h) 2
          have zr3 : ∀ w', Below w7.heap.size w7 w' → w'.cell? ⟨w6.heap.size, 3, none⟩ = some (.int .i64 n.f3) := fun w' h => blk_cell (blk_below HR7.out h) 3
          have zr4 : ∀ w', Below w7.heap.size w7 w' → w'.cell? ⟨w6.heap.size, 4, none⟩ = some (.int .i64 n.f4) := fun w' h => blk_cell (blk_below HR7.out h) 4
          have zr5 : ∀ w', Below w7.heap.size w7 w' → w'.cell? ⟨w6.heap.size, 5, none⟩ = some (.slice Ab n.f5.length cb) := fun w' h => blk_cell (blk_below HR7.out h) 5

          have hsum : wrap64 (szN x) = IntKind.i64.wrap (IntKind.i64.wrap (wrap64 (szN n) - wrap64 (szN old)) + wrap64 (szN m)) := by
            rw [wrapEq, wrapEq, wrap_sub, wrap_add, HSX.out]
          have hbeq : (wrap64 (szN x) == IntKind.i64.wrap (IntKind.i64.wrap (wrap64 (szN n) - wrap64 (szN old)) + wrap64 (szN m))) = true := beq_iff_eq.2 hsum
          clear hsum
          go_region_held3 (fun w' => Below w7.heap.size w7 w') (first | assumption | exact Below.drew (Below.refl _ _) | exact below_after' (by assumption) (by assumption))
            (first
              | (go_at_call_of 9 (Value.agg #[.int .i64 m.f0, .string m.f1, .int .i64 m.f2, .int .i64 m.f3, .int .i64 m.f4, .slice Ag m.f5.length cg]); refine (eqNode9 m Ag cg A2 c2 _ ?c1 ?c2).mono ?_; (case c1 => exact Kd.C_below HGK7.out (by assumption)); (case c2 => exact Kd.C_below HK2.out (below_after' HB7.out (by assumption))); rintro e w8 ⟨rfl, hb8⟩)
              | (go_at_call_of 9 (Value.agg #[.int .i64 n.f0, .string n.f1, .int .i64 n.f2, .int .i64 n.f3, .int .i64 n.f4, .slice Ab n.f5.length cb]); refine (eqNode9 n Ab cb A c _ ?c1 ?c2).mono ?_; (case c1 => exact Kd.C_below HKB7.out (by assumption)); (case c2 => exact Kd.C_below HK.out (below_after' HB7.out (by assumption))); rintro e w9 ⟨rfl, hb9⟩)
              | (go_at_call_of 10 (Value.agg #[.int .i64 x.f0, .string x.f1, .int .i64 x.f2, .int .i64 x.f3, .int .i64 x.f4, .slice Ax x.f5.length cx]); refine (size10 x HFI.out Ax cx _ ?c1 HLX.out).mono ?_; (case c1 => exact Kd.C_below HKX7.out (by assumption)); rintro e w10 ⟨rfl, hb10⟩)
              | (go_at_call_of 10 (Value.agg #[.int .i64 n.f0, .string n.f1, .int .i64 n.f2, .int .i64 n.f3, .int .i64 n.f4, .slice A n.f5.length c]); refine (size10 n HF.out A c _ ?c1 HC.out).mono ?_; (case c1 => exact Kd.C_below HK.out (below_after' HB7.out (by assumption))); rintro e w11 ⟨rfl, hb11⟩)
              | (go_at_call_of 10 (Value.agg #[.int .i64 old.f0, .string old.f1, .int .i64 old.f2, .int .i64 old.f3, .int .i64 old.f4, .slice Ao old.f5.length co]); refine (size10 old HFO.out Ao co _ ?c1 ?c2).mono ?_; (case c1 => exact Kd.C_below HOK7.out (by assumption)); (case c2 => exact HOL.out); rintro e w12 ⟨rfl, hb12⟩)
              | (go_at_call_of 10 (Value.agg #[.int .i64 m.f0, .string m.f1, .int .i64 m.f2, .int .i64 m.f3, .int .i64 m.f4, .slice A2 m.f5.length c2]); refine (size10 m HF2.out A2 c2 _ ?c1 HC2.out).mono ?_; (case c1 => exact Kd.C_below HK2.out (below_after' HB7.out (by assumption))); rintro e w13 ⟨rfl, hb13⟩)
              | (go_at_call 6; refine (awake6 _).mono ?_; rintro e w14 ⟨rfl, hb14⟩))
          go_wp2_with fail
          go_ret
          exact ⟨rfl, below_after' HB7.out (by assumption)⟩
        · have HF1 := Aside0.mk hf
          clear hf
          go_wp2_with fail
          refine (replace8 n path m A c A1 c1 A2 c2 _ (Kd.C_below HK.out (below_alloc HB3.out _)) HC.out (Kd.C_below HP.out (below_alloc HB3.out _)) (Kd.C_below HK2.out (below_alloc HB3.out _)) HF.out HF2.out).mono ?_
          rintro e w4 ⟨hb4, ⟨_, _, hne, _⟩ | ⟨_, rfl⟩⟩
          · exact absurd HF1.out hne
          · have HB4 := Aside0.mk (below_after' (below_alloc HB3.out _) hb4)
            clear hb4
            go_wp2_with fail
            refine (awake6 _).mono ?_
            rintro e w5 ⟨rfl, hb5⟩
            go_wp2_with fail
            go_ret
            exact ⟨rfl, below_after' (below_alloc HB4.out _) hb5⟩
end Go.Proofs.Ytknggjnpkgooaaa
