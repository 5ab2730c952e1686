/- smockinglaw06.awake tells true. -/
import Derived.Test.YtknggjnpkgooaaaAlike
import Derived.Test.YtknggjnpkgooaaaPTreeSwapsx1
namespace Go.Proofs.Ytknggjnpkgooaaa
open Go.RowKit Go.Proofs.YtknggjnpkgooaaaW.PrintWords Go.Proofs.YtknggjnpkgooaaaW.PrintLast Go.Proofs.YtknggjnpkgooaaaW.PrintMore PTreeSwaps

def aN : S24 := ⟨50, ⟨#[97]⟩, 0, 0, 0, []⟩
def bN : S24 := ⟨50, ⟨#[98]⟩, 0, 0, 0, []⟩
def pN : S24 := ⟨54, ⟨#[]⟩, 0, 0, 0, [aN]⟩

theorem bare_a : BareN 0 aN aN := ⟨fun h => absurd h.1 (by decide), rfl⟩
theorem bare_b : BareN 0 bN bN := ⟨fun h => absurd h.1 (by decide), rfl⟩
theorem bare_p : BareN 1 pN aN := .inr ⟨rfl, rfl, bare_a⟩
theorem C_one (w : World) : k24.C ((w.alloc (.cells #[.int .i64 50, .string ⟨#[97]⟩, .int .i64 0, .int .i64 0, .int .i64 0, .slice none 0 0] 24)).alloc (.cells #[.int .i64 50, .string ⟨#[97]⟩, .int .i64 0, .int .i64 0, .int .i64 0, .slice none 0 0] 24)) (some ⟨w.heap.size + 1, 0, none⟩) pN.f5.length pN.f5 := by
  have h := new_second w (.cells #[.int .i64 50, .string ⟨#[97]⟩, .int .i64 0, .int .i64 0, .int .i64 0, .slice none 0 0] 24) (.cells #[.int .i64 50, .string ⟨#[97]⟩, .int .i64 0, .int .i64 0, .int .i64 0, .slice none 0 0] 24)
  refine C_of_block (xs := [aN]) (c := 1) h (Nat.le_refl _) (by simp [maxLen]) fun j p hj => ?_
  cases j with
  | succ j => simp at hj
  | zero =>
    injection hj with hj
    subst hj
    exact k24_mk _ aN (A5 := none) (c5 := 0) (Nat.le_refl _) (Kd.C_nil _ _)

theorem size_a : tree_Size.f 2 50 ⟨#[97]⟩ 0 0 0 [] = some 1 := by simp [tree_Size.f, tree_Size.l0]

set_option maxHeartbeats 800000 in
theorem awake6 (w : World) : Calls Try.prog 6 #[] w (TrueSaid w) := by
  go_enter Try.func6, Try.ntmps6
  go_wp2_with fail
  refine (alike17 1 0 pN aN aN aN bare_p bare_a rfl rfl ⟨rfl, rfl⟩ true (fun _ => rfl) (fun h => by cases h) (some ⟨w.heap.size + 1, 0, none⟩) 1 none 0 _ (C_one w) (Nat.le_refl _) (Kd.C_nil _ _) (Nat.le_refl _)).mono ?_
  rintro e w2 ⟨rfl, hb2⟩
  have hbox2 : w2.heap[w.heap.size]? = some (.cells #[.int .i64 50, .string ⟨#[97]⟩, .int .i64 0, .int .i64 0, .int .i64 0, .slice none 0 0] 24 (0, 0)) := blk_below (blk_alloc (blk_new _ _) _) hb2
  have HB2 := Aside0.mk (below_after' (below_alloc (below_alloc (Below.refl _ w) _) _) hb2)
  have HBOX2 := Aside0.mk hbox2
  have bc0 : w2.cell? ⟨w.heap.size, 0, none⟩ = some (.int .i64 50) := blk_cell HBOX2.out 0
  have bc1 : w2.cell? ⟨w.heap.size, 1, none⟩ = some (.string ⟨#[97]⟩) := blk_cell HBOX2.out 1
  have bc2 : w2.cell? ⟨w.heap.size, 2, none⟩ = some (.int .i64 0) := blk_cell HBOX2.out 2
  have bc3 : w2.cell? ⟨w.heap.size, 3, none⟩ = some (.int .i64 0) := blk_cell HBOX2.out 3
  have bc4 : w2.cell? ⟨w.heap.size, 4, none⟩ = some (.int .i64 0) := blk_cell HBOX2.out 4
  have bc5 : w2.cell? ⟨w.heap.size, 5, none⟩ = some (.slice none 0 0) := blk_cell HBOX2.out 5
  clear hbox2 hb2
  go_wp2_with fail
  refine (alike17 0 0 aN bN aN bN bare_a bare_b rfl rfl ⟨rfl, rfl⟩ false (fun h => by cases h) (fun _ => by decide +kernel) none 0 none 0 _ (Kd.C_nil _ _) (Nat.le_refl _) (Kd.C_nil _ _) (Nat.le_refl _)).mono ?_
  rintro e w3 ⟨rfl, hb3⟩
  have HB3 := Aside0.mk (below_after' HB2.out hb3)
  have HBOX3 := Aside0.mk (blk_below HBOX2.out hb3)
  have dc0 : w3.cell? ⟨w.heap.size, 0, none⟩ = some (.int .i64 50) := blk_cell HBOX3.out 0
  have dc1 : w3.cell? ⟨w.heap.size, 1, none⟩ = some (.string ⟨#[97]⟩) := blk_cell HBOX3.out 1
  have dc2 : w3.cell? ⟨w.heap.size, 2, none⟩ = some (.int .i64 0) := blk_cell HBOX3.out 2
  have dc3 : w3.cell? ⟨w.heap.size, 3, none⟩ = some (.int .i64 0) := blk_cell HBOX3.out 3
  have dc4 : w3.cell? ⟨w.heap.size, 4, none⟩ = some (.int .i64 0) := blk_cell HBOX3.out 4
  have dc5 : w3.cell? ⟨w.heap.size, 5, none⟩ = some (.slice none 0 0) := blk_cell HBOX3.out 5
  clear hb3
  go_wp2_with fail
  refine (tree_Size.calls 2 50 ⟨#[97]⟩ 0 0 0 none 0 [] 1 _ (Kd.C_nil _ _) (Nat.le_refl _) size_a).mono ?_
  rintro e w4 ⟨rfl, hb4⟩
  go_wp2_with fail
  go_ret
  exact ⟨rfl, below_after' HB3.out hb4⟩
end Go.Proofs.Ytknggjnpkgooaaa
