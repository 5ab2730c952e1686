/- smockingref00.EqNode, EqNodes: at equal trees they tell true. -/
import Derived.Test.YtknggjnpkgooaaaClone
namespace Go.Proofs.Ytknggjnpkgooaaa
open Go.RowKit Go.Proofs.YtknggjnpkgooaaaW.PrintWords Go.Proofs.YtknggjnpkgooaaaW.PrintLast Go.Proofs.YtknggjnpkgooaaaW.PrintMore PTreeSwaps

theorem below_after' {w w1 w2 : World} (h : Below w.heap.size w w1) (hb : Below w1.heap.size w1 w2) : Below w.heap.size w w2 := h.trans (hb.mono h.size)
def TrueSaid (w : World) (e : Ending) (w' : World) : Prop := e = .returned (.bool true) ∧ Below w.heap.size w w'
def EqNodeSame (x : S24) : Prop := ∀ (A : Option Addr) (c : Nat) (A' : Option Addr) (c' : Nat) (w : World), k24.C w A x.f5.length x.f5 → k24.C w A' x.f5.length x.f5 →
  Calls Try.prog 9 #[.agg #[.int .i64 x.f0, .string x.f1, .int .i64 x.f2, .int .i64 x.f3, .int .i64 x.f4, .slice A x.f5.length c], .agg #[.int .i64 x.f0, .string x.f1, .int .i64 x.f2, .int .i64 x.f3, .int .i64 x.f4, .slice A' x.f5.length c'], .bool true] w (TrueSaid w)

set_option maxHeartbeats 800000 in
theorem eqNodes20 (xs : List S24) (hxs : ∀ y, y ∈ xs → EqNodeSame y) (A : Option Addr) (c : Nat) (A' : Option Addr) (c' : Nat) (w : World) (hK : k24.C w A xs.length xs) (hK' : k24.C w A' xs.length xs) :
    Calls Try.prog 20 #[.slice A xs.length c, .slice A' xs.length c', .bool true] w (TrueSaid w) := by
  have HK := Aside0.mk hK
  have HK' := Aside0.mk hK'
  have HX := Aside0.mk hxs
  clear hK hK' hxs
  go_enter Try.func20, Try.ntmps20
  go_wp2_with fail
  go_loopw [7] (fun i wr => ∃ (k : Nat), i = .int .i64 k ∧ Aside0 (k ≤ xs.length) ∧ Aside0 (Below w.heap.size w wr)) (fun i _ => xs.length - (intOf i).toNat)
  case atStart => exact ⟨0, rfl, ⟨Nat.zero_le _⟩, ⟨Below.refl _ _⟩⟩
  case round =>
    obtain ⟨k, rfl, HKL, HB⟩ := hrel
    by_cases hlt : k < xs.length
    · obtain ⟨ad, B, d, rfl, h0, h1, h2, h3, h4, h5, hl, hk⟩ := at_T24 HK.out (k : Int) (by omega) (by omega)
      obtain ⟨ad', B', d', rfl, g0, g1, g2, g3, g4, g5, gl, gk⟩ := at_T24 HK'.out (k : Int) (by omega) (by omega)
      replace h0 := (HB.out.cell (World.block_lt_of_cell? w _ h0)).trans h0
      replace h1 := (HB.out.cell (World.block_lt_of_cell? w _ h1)).trans h1
      replace h2 := (HB.out.cell (World.block_lt_of_cell? w _ h2)).trans h2
      replace h3 := (HB.out.cell (World.block_lt_of_cell? w _ h3)).trans h3
      replace h4 := (HB.out.cell (World.block_lt_of_cell? w _ h4)).trans h4
      replace h5 := (HB.out.cell (World.block_lt_of_cell? w _ h5)).trans h5
      replace g0 := (HB.out.cell (World.block_lt_of_cell? w _ g0)).trans g0
      replace g1 := (HB.out.cell (World.block_lt_of_cell? w _ g1)).trans g1
      replace g2 := (HB.out.cell (World.block_lt_of_cell? w _ g2)).trans g2
      replace g3 := (HB.out.cell (World.block_lt_of_cell? w _ g3)).trans g3
      replace g4 := (HB.out.cell (World.block_lt_of_cell? w _ g4)).trans g4
      replace g5 := (HB.out.cell (World.block_lt_of_cell? w _ g5)).trans g5
      have HM : Aside0 (rd_T24 xs (k : Int) ∈ xs) := ⟨by rw [rd_T24, Int.toNat_natCast, List.getD_eq_getElem?_getD, List.getElem?_eq_getElem hlt]; exact List.getElem_mem hlt⟩
      generalize rd_T24 xs (k : Int) = z at *
      rw [Int.toNat_natCast] at h0 h1 h2 h3 h4 h5 g0 g1 g2 g3 g4 g5
      have HC1 := Aside0.mk (Kd.C_below hk HB.out)
      have HC2 := Aside0.mk (Kd.C_below gk HB.out)
      have hkb : k ≤ 9223372036854775806 := by have := Kd.C_max HK.out; omega
      have HLT := Aside0.mk hlt
      clear hl gl hk gk
      go_wp2_with fail
      go_region_with (first | (go_at_call 9; refine (HX.out z HM.out B d B' d' _ ?cK ?cL).mono ?_; (case cK => exact Kd.C_below HC1.out (Below.drew (Below.refl _ _))); (case cL => exact Kd.C_below HC2.out (Below.drew (Below.refl _ _))); rintro e w2 ⟨rfl, hb2⟩; have HB2 := Aside0.mk hb2; clear hb2))
      all_goals
        go_wp2
        go_roundw
        case rel => exact ⟨k + 1, by go_num, HLT, ⟨below_after' (Below.drew HB.out) HB2.out⟩⟩
        case measure => have := HLT.out; simp [intOf]; omega
    · have hge : xs.length ≤ k := by omega
      go_wp2
      go_ret
      exact ⟨rfl, HB.out⟩

set_option maxHeartbeats 800000 in
theorem eqNode9 (x : S24) : EqNodeSame x := by
  induction x using S24.ind with
  | h x ih =>
  intro A c A' c' w hK hK'
  have HK := Aside0.mk hK
  have HK' := Aside0.mk hK'
  have IH := Aside0.mk ih
  clear hK hK' ih
  go_enter Try.func9, Try.ntmps9
  go_wp2_with fail
  refine (eqNodes20 x.f5 IH.out A c A' c' _ (Kd.C_below HK.out ?_) (Kd.C_below HK'.out ?_)).mono ?_
  · exact below_alloc (below_alloc (Below.refl _ _) _) _
  · exact below_alloc (below_alloc (Below.refl _ _) _) _
  rintro e w2 ⟨rfl, hb2⟩
  go_wp2_with fail
  go_ret
  exact ⟨rfl, below_after' (below_alloc (below_alloc (Below.refl _ _) _) _) hb2⟩
end Go.Proofs.Ytknggjnpkgooaaa
