/- tree.At: a copy of the node at a path. -/
import Derived.Test.YtknggjnpkgooaaaFind
namespace Go.Proofs.Ytknggjnpkgooaaa
open Go.RowKit Go.Proofs.YtknggjnpkgooaaaW.PrintWords Go.Proofs.YtknggjnpkgooaaaW.PrintLast Go.Proofs.YtknggjnpkgooaaaW.PrintMore PTreeSwaps

theorem findN_fit : ∀ (p : List Int) (x y : S24), Fit x → findN x p = some y → Fit y
  | [], x, y, h, e => by
    injection e with e
    exact e ▸ h
  | i :: p, x, y, h, e => by
    rw [findN] at e
    split at e
    · rename_i hc
      refine findN_fit p _ _ (h.kid (j := i.toNat) ?_) e
      rw [rd_T24, List.getD_eq_getElem?_getD, List.getElem?_eq_getElem (by omega)]
      rfl
    · cases e

theorem below_two {w w1 : World} {o o' : Obj} (hb : Below ((w.alloc o).alloc o').heap.size ((w.alloc o).alloc o') w1) : Below w.heap.size w w1 :=
  (below_alloc (below_alloc (Below.refl _ w) o) o').trans (hb.mono (by simp; omega))
theorem below_after {w w1 w2 : World} (h : Below w.heap.size w w1) (hb : Below w1.heap.size w1 w2) : Below w.heap.size w w2 := h.trans (hb.mono h.size)

def AtSaid (x : S24) (path : List Int) (w : World) (e : Ending) (w' : World) : Prop :=
  Below w.heap.size w w' ∧ ((∃ y A c, findN x path = some y ∧ Tr w' w.heap.size w'.heap.size y (nodeCells y (.slice A y.f5.length c)) ∧ e = .returned (.tuple #[.agg #[.int .i64 y.f0, .string y.f1, .int .i64 y.f2, .int .i64 y.f3, .int .i64 y.f4, .slice A y.f5.length c], .int .i64 0])) ∨
    (findN x path = none ∧ e = .returned (.tuple #[.agg #[.int .i64 0, .string ⟨#[]⟩, .int .i64 0, .int .i64 0, .int .i64 0, .slice none 0 0], .int .i64 4])))

set_option maxHeartbeats 800000 in
theorem at7 (x : S24) (path : List Int) (A : Option Addr) (c : Nat) (A1 : Option Addr) (c1 : Nat) (w : World) (hK : k24.C w A x.f5.length x.f5) (hc : x.f5.length ≤ c) (hP : (Kd.int .i64).C w A1 path.length path) (hF : Fit x) :
    Calls Try.prog 7 #[.agg #[.int .i64 x.f0, .string x.f1, .int .i64 x.f2, .int .i64 x.f3, .int .i64 x.f4, .slice A x.f5.length c], .slice A1 path.length c1] w (AtSaid x path w) := by
  have HK := Aside0.mk hK
  have HP := Aside0.mk hP
  have HC := Aside0.mk hc
  have HF := Aside0.mk hF
  clear hK hP hc hF
  have hu24 := Aside0.mk Try.underlying24
  go_enter Try.func7, Try.ntmps7
  go_wp2_with fail
  refine (find18 x path A c A1 c1 _ (Kd.C_below HK.out ?_) HC.out (Kd.C_below HP.out ?_)).mono ?_
  · exact below_alloc (below_alloc (Below.refl _ _) _) _
  · exact below_alloc (below_alloc (Below.refl _ _) _) _
  rintro e w1 ⟨hb, hor⟩
  have hres : w1.heap[w.heap.size + 1]? = some (.cells #[.int .i64 0, .string ⟨#[]⟩, .int .i64 0, .int .i64 0, .int .i64 0, .slice none 0 0] 24 (0, 0)) := blk_below (new_second w _ _) hb
  have hs1 : w.heap.size + 2 ≤ w1.heap.size := by have := hb.size; simpa using this
  have hbw : Below w.heap.size w w1 := below_two hb
  have HRES := Aside0.mk hres
  have HS := Aside0.mk hs1
  have HBW := Aside0.mk hbw

  have HB0 := Aside0.mk hb
  clear hres hbw hb
  rcases hor with ⟨y, Ay, cy, hf, hy, hcy, rfl⟩ | ⟨hf, rfl⟩
  · have HF1 := Aside0.mk hf
    have HY := Aside0.mk hy
    have HCY := Aside0.mk hcy
    clear hf hy hcy
    go_wp2_with fail
    refine (clone19 y Ay cy _ (Kd.C_below HY.out ?_) (findN_fit _ _ _ HF.out HF1.out)).mono ?_
    · exact below_alloc HB0.out _
    rintro e w2 ⟨A2, c2, rfl, htr, hb2⟩
    have hres2 : w2.heap[w.heap.size + 1]? = some (.cells #[.int .i64 0, .string ⟨#[]⟩, .int .i64 0, .int .i64 0, .int .i64 0, .slice none 0 0] 24 (0, 0)) := blk_below (blk_alloc HRES.out _) hb2
    have HRES2 := Aside0.mk hres2
    have HTR := Aside0.mk htr
    have HB2 := Aside0.mk (below_after (w := w) (below_alloc HBW.out _) hb2)
    have HS2 := hb2.size
    clear hres2 hb2 htr
    have qc0 : w2.cell? ⟨w.heap.size + 1, 0, none⟩ = some (.int .i64 0) := blk_cell HRES2.out 0
    have qf0 := blk_frozen HRES2.out 0
    have qc1 : w2.cell? ⟨w.heap.size + 1, 1, none⟩ = some (.string ⟨#[]⟩) := blk_cell HRES2.out 1
    have qf1 := blk_frozen HRES2.out 1
    have qc2 : w2.cell? ⟨w.heap.size + 1, 2, none⟩ = some (.int .i64 0) := blk_cell HRES2.out 2
    have qf2 := blk_frozen HRES2.out 2
    have qc3 : w2.cell? ⟨w.heap.size + 1, 3, none⟩ = some (.int .i64 0) := blk_cell HRES2.out 3
    have qf3 := blk_frozen HRES2.out 3
    have qc4 : w2.cell? ⟨w.heap.size + 1, 4, none⟩ = some (.int .i64 0) := blk_cell HRES2.out 4
    have qf4 := blk_frozen HRES2.out 4
    have qc5 : w2.cell? ⟨w.heap.size + 1, 5, none⟩ = some (.slice none 0 0) := blk_cell HRES2.out 5
    have qf5 := blk_frozen HRES2.out 5
    go_wp2_with fail
    refine ret_cell_tmp (w.heap.size + 1) 24 #[.int .i64 y.f0, .string y.f1, .int .i64 y.f2, .int .i64 y.f3, .int .i64 y.f4, .slice A2 y.f5.length c2] (0, 0) _ rfl rfl (put6 HRES2.out rfl _ _ _ _ _ _) hu24.out rfl size24 rfl ?_
    refine ⟨below6 HB2.out (by omega) _ _ _ _ _ _, .inl ⟨y, A2, c2, HF1.out, ?_, rfl⟩⟩
    rw [size6]
    exact (HTR.out.keep fun q h1 _ => far6 _ (by rw [World.size_alloc] at h1; have := HS.out; omega) _ _ _ _ _ _).mono (by rw [World.size_alloc]; have := HS.out; omega) (Nat.le_refl _)
  · have HF1 := Aside0.mk hf
    clear hf
    have pa0 : ∀ o, (w1.alloc o).cell? ⟨w.heap.size + 1, 0, none⟩ = some (.int .i64 0) := fun o => blk_cell (blk_alloc HRES.out o) 0
    have pg0 : ∀ o, (w1.alloc o).frozen? ⟨w.heap.size + 1, 0, none⟩ = false := fun o => blk_frozen (blk_alloc HRES.out o) 0
    have pa1 : ∀ o, (w1.alloc o).cell? ⟨w.heap.size + 1, 1, none⟩ = some (.string ⟨#[]⟩) := fun o => blk_cell (blk_alloc HRES.out o) 1
    have pg1 : ∀ o, (w1.alloc o).frozen? ⟨w.heap.size + 1, 1, none⟩ = false := fun o => blk_frozen (blk_alloc HRES.out o) 1
    have pa2 : ∀ o, (w1.alloc o).cell? ⟨w.heap.size + 1, 2, none⟩ = some (.int .i64 0) := fun o => blk_cell (blk_alloc HRES.out o) 2
    have pg2 : ∀ o, (w1.alloc o).frozen? ⟨w.heap.size + 1, 2, none⟩ = false := fun o => blk_frozen (blk_alloc HRES.out o) 2
    have pa3 : ∀ o, (w1.alloc o).cell? ⟨w.heap.size + 1, 3, none⟩ = some (.int .i64 0) := fun o => blk_cell (blk_alloc HRES.out o) 3
    have pg3 : ∀ o, (w1.alloc o).frozen? ⟨w.heap.size + 1, 3, none⟩ = false := fun o => blk_frozen (blk_alloc HRES.out o) 3
    have pa4 : ∀ o, (w1.alloc o).cell? ⟨w.heap.size + 1, 4, none⟩ = some (.int .i64 0) := fun o => blk_cell (blk_alloc HRES.out o) 4
    have pg4 : ∀ o, (w1.alloc o).frozen? ⟨w.heap.size + 1, 4, none⟩ = false := fun o => blk_frozen (blk_alloc HRES.out o) 4
    have pa5 : ∀ o, (w1.alloc o).cell? ⟨w.heap.size + 1, 5, none⟩ = some (.slice none 0 0) := fun o => blk_cell (blk_alloc HRES.out o) 5
    have pg5 : ∀ o, (w1.alloc o).frozen? ⟨w.heap.size + 1, 5, none⟩ = false := fun o => blk_frozen (blk_alloc HRES.out o) 5
    go_wp2_with fail
    refine ret_cell_tmp (w.heap.size + 1) 24 #[.int .i64 0, .string ⟨#[]⟩, .int .i64 0, .int .i64 0, .int .i64 0, .slice none 0 0] (0, 0) _ rfl rfl (put6 (blk_alloc HRES.out _) rfl _ _ _ _ _ _) hu24.out rfl size24 rfl ?_
    exact ⟨below6 (below_alloc HBW.out _) (by omega) _ _ _ _ _ _, .inr ⟨HF1.out, rfl⟩⟩
end Go.Proofs.Ytknggjnpkgooaaa
