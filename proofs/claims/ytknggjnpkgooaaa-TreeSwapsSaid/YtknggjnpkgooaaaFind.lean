/- tree.find: the node at a path. -/
import Derived.Test.YtknggjnpkgooaaaClone
namespace Go.Proofs.Ytknggjnpkgooaaa
open Go.RowKit Go.Proofs.YtknggjnpkgooaaaW.PrintWords Go.Proofs.YtknggjnpkgooaaaW.PrintLast Go.Proofs.YtknggjnpkgooaaaW.PrintMore PTreeSwaps

/-- The node at a path. -/
def findN : S24 → List Int → Option S24
  | x, [] => some x
  | x, i :: p => if 0 ≤ i ∧ i < x.f5.length then findN (rd_T24 x.f5 i) p else none

theorem findN_snoc (p : List Int) (i : Int) : ∀ x y, findN x p = some y → findN x (p ++ [i]) = if 0 ≤ i ∧ i < y.f5.length then some (rd_T24 y.f5 i) else none := by
  induction p with
  | nil => intro x y h
           injection h with h
           subst h
           rfl
  | cons j p ih =>
    intro x y h
    rw [findN] at h
    split at h
    · rename_i hc
      rw [List.cons_append, findN, if_pos hc]
      exact ih _ _ h
    · cases h
theorem findN_none (p q : List Int) : ∀ x, findN x p = none → findN x (p ++ q) = none := by
  induction p with
  | nil => intro x h; cases h
  | cons j p ih =>
    intro x h
    rw [findN] at h
    rw [List.cons_append, findN]
    split at h
    · rename_i hc
      rw [if_pos hc]
      exact ih _ h
    · rename_i hc
      rw [if_neg hc]

theorem new_second (w : World) (o o' : Obj) : ((w.alloc o).alloc o').heap[w.heap.size + 1]? = some o' := by
  have := blk_new (w.alloc o) o'
  rwa [World.size_alloc] at this

theorem ret_cell_tmp {P : Program} {fn : Func} {R : Ending → World → Prop} {a : Act} {w : World} {p u : Tmp} {ty : TypeId} (g : Nat) (t : TypeId) (cs : Array Value) (fr : Nat × Nat) (d : TypeDesc) (hfn : fn.results = #[.cell p ty, .tmp u])
    (hp : a.tmps.getD p undef = .pointer (some ⟨g, 0, none⟩)) (hg : w.heap[g]? = some (.cells cs t fr)) (hu : P.underlying ty = some d) (hd : (match d with | .struct _ | .array _ _ => true | _ => false) = true) (hi : (P.info? ty).map (·.size) = some cs.size) (hde : a.defers = [])
    (hR : R (.returned (.tuple #[.agg cs, a.tmps.getD u undef])) w) : bodyPost P fn R .ret a w := bodyPost_ret (results_ct hfn _ _ g t cs fr d hp hg hu hd hi) hde hR

theorem findN_step {x y : S24} {path : List Int} {k : Nat} {i : Int} (hx : path.take (k + 1) = path.take k ++ [i]) (hf : findN x (path.take k) = some y) : findN x (path.take (k + 1)) = if 0 ≤ i ∧ i < y.f5.length then some (rd_T24 y.f5 i) else none := by
  rw [hx]
  exact findN_snoc _ _ _ _ hf

theorem findN_stop {x : S24} {path : List Int} {m : Nat} (h : findN x (path.take m) = none) : findN x path = none := by
  have := findN_none (path.take m) (path.drop m) x h
  rwa [List.take_append_drop] at this

def FindSaid (x : S24) (path : List Int) (w : World) (e : Ending) (w' : World) : Prop :=
  Below w.heap.size w w' ∧ ((∃ y A c, findN x path = some y ∧ k24.C w A y.f5.length y.f5 ∧ y.f5.length ≤ c ∧ e = .returned (.tuple #[.agg #[.int .i64 y.f0, .string y.f1, .int .i64 y.f2, .int .i64 y.f3, .int .i64 y.f4, .slice A y.f5.length c], .bool true])) ∨
    (findN x path = none ∧ e = .returned (.tuple #[.agg #[.int .i64 0, .string ⟨#[]⟩, .int .i64 0, .int .i64 0, .int .i64 0, .slice none 0 0], .bool false])))

set_option maxHeartbeats 800000 in
theorem find18 (x : S24) (path : List Int) (A : Option Addr) (c : Nat) (A1 : Option Addr) (c1 : Nat) (w : World) (hK : k24.C w A x.f5.length x.f5) (hc : x.f5.length ≤ c) (hP : (Kd.int .i64).C w A1 path.length path) :
    Calls Try.prog 18 #[.agg #[.int .i64 x.f0, .string x.f1, .int .i64 x.f2, .int .i64 x.f3, .int .i64 x.f4, .slice A x.f5.length c], .slice A1 path.length c1] w (FindSaid x path w) := by
  have HK := Aside0.mk hK
  have HP := Aside0.mk hP
  have HC := Aside0.mk hc
  clear hK hP hc
  have hu24 := Aside0.mk Try.underlying24
  go_enter Try.func18, Try.ntmps18
  go_wp2_with fail
  go_loopw [10] (fun i wr => ∃ (k : Nat) (y : S24) (Ay : Option Addr) (cy : Nat), i = .int .i64 k ∧ Aside0 (k ≤ path.length) ∧ Aside0 (findN x (path.take k) = some y) ∧ Aside0 (k24.C w Ay y.f5.length y.f5) ∧ Aside0 (y.f5.length ≤ cy) ∧ Aside0 (Below w.heap.size w wr) ∧ Aside0 (w.heap.size + 2 ≤ wr.heap.size) ∧
      Aside0 (wr.heap[w.heap.size]? = some (.cells #[.int .i64 y.f0, .string y.f1, .int .i64 y.f2, .int .i64 y.f3, .int .i64 y.f4, .slice Ay y.f5.length cy] 24 (0, 0))) ∧
      Aside0 (wr.heap[w.heap.size + 1]? = some (.cells #[.int .i64 0, .string ⟨#[]⟩, .int .i64 0, .int .i64 0, .int .i64 0, .slice none 0 0] 24 (0, 0)))) (fun i _ => path.length - (intOf i).toNat)
  case atStart =>
    refine ⟨0, x, A, c, rfl, ⟨Nat.zero_le _⟩, ⟨rfl⟩, HK, HC, ⟨below_alloc (below_alloc (Below.refl _ _) _) _⟩, ⟨by simp⟩, ⟨blk_alloc (blk_new _ _) _⟩, ⟨?_⟩⟩
    exact new_second w _ _
  case round =>
    obtain ⟨k, y, Ay, cy, rfl, HKL, HF, HY, HCY, HB, HS, HBOX, HRES⟩ := hrel
    have f0 := blk_frozen HRES.out 0
    have f1 := blk_frozen HRES.out 1
    have f2 := blk_frozen HRES.out 2
    have f3 := blk_frozen HRES.out 3
    have f4 := blk_frozen HRES.out 4
    have f5 := blk_frozen HRES.out 5
    have p0 : wr.cell? ⟨w.heap.size + 1, 0, none⟩ = some (.int .i64 0) := blk_cell HRES.out 0
    have p1 : wr.cell? ⟨w.heap.size + 1, 1, none⟩ = some (.string ⟨#[]⟩) := blk_cell HRES.out 1
    have p2 : wr.cell? ⟨w.heap.size + 1, 2, none⟩ = some (.int .i64 0) := blk_cell HRES.out 2
    have p3 : wr.cell? ⟨w.heap.size + 1, 3, none⟩ = some (.int .i64 0) := blk_cell HRES.out 3
    have p4 : wr.cell? ⟨w.heap.size + 1, 4, none⟩ = some (.int .i64 0) := blk_cell HRES.out 4
    have p5 : wr.cell? ⟨w.heap.size + 1, 5, none⟩ = some (.slice none 0 0) := blk_cell HRES.out 5
    have r0 : wr.cell? ⟨w.heap.size, 0, none⟩ = some (.int .i64 y.f0) := blk_cell HBOX.out 0
    have r1 : wr.cell? ⟨w.heap.size, 1, none⟩ = some (.string y.f1) := blk_cell HBOX.out 1
    have r2 : wr.cell? ⟨w.heap.size, 2, none⟩ = some (.int .i64 y.f2) := blk_cell HBOX.out 2
    have r3 : wr.cell? ⟨w.heap.size, 3, none⟩ = some (.int .i64 y.f3) := blk_cell HBOX.out 3
    have r4 : wr.cell? ⟨w.heap.size, 4, none⟩ = some (.int .i64 y.f4) := blk_cell HBOX.out 4
    have r5 : wr.cell? ⟨w.heap.size, 5, none⟩ = some (.slice Ay y.f5.length cy) := blk_cell HBOX.out 5
    by_cases hlt : k < path.length
    · obtain ⟨ad, rfl, hpk⟩ := Kd.at_int HP.out (k : Int) (by omega) (by omega)
      have hpk' := (HB.out.cell (World.block_lt_of_cell? w _ hpk)).trans hpk
      rw [Int.toNat_natCast] at hpk'
      clear hpk
      have HX : Aside0 (path.take (k + 1) = path.take k ++ [rd path k]) := ⟨by rw [List.take_succ_eq_append_getElem hlt]; simp [rd, List.getD_eq_getElem?_getD, List.getElem?_eq_getElem hlt]⟩
      generalize rd path k = i at *
      have hkb : k ≤ 9223372036854775806 := by have := Kd.C_max HP.out; omega
      by_cases hi : i < 0
      · go_wp2
        refine ret_cell_tmp (w.heap.size + 1) 24 #[.int .i64 0, .string ⟨#[]⟩, .int .i64 0, .int .i64 0, .int .i64 0, .slice none 0 0] (0, 0) _ rfl rfl (put6 HRES.out rfl _ _ _ _ _ _) hu24.out rfl size24 rfl ?_
        exact ⟨below6 HB.out (by omega) _ _ _ _ _ _, .inr ⟨findN_stop ((findN_step HX.out HF.out).trans (if_neg (by omega))), rfl⟩⟩
      · by_cases hi2 : i < y.f5.length
        · obtain ⟨ad2, A2, c2, rfl, h0, h1, h2, h3, h4, h5, hl2, hk2⟩ := at_T24 HY.out i (by omega) hi2
          have h0' := (HB.out.cell (World.block_lt_of_cell? w _ h0)).trans h0
          have h1' := (HB.out.cell (World.block_lt_of_cell? w _ h1)).trans h1
          have h2' := (HB.out.cell (World.block_lt_of_cell? w _ h2)).trans h2
          have h3' := (HB.out.cell (World.block_lt_of_cell? w _ h3)).trans h3
          have h4' := (HB.out.cell (World.block_lt_of_cell? w _ h4)).trans h4
          have h5' := (HB.out.cell (World.block_lt_of_cell? w _ h5)).trans h5
          have HX2 := Aside0.mk ((findN_step HX.out HF.out).trans (if_pos ⟨by omega, hi2⟩))
          have HL2 := Aside0.mk hl2
          have HK2 := Aside0.mk hk2
          have hi0 : 0 ≤ i := by omega
          have HLT := Aside0.mk hlt
          clear h0 h1 h2 h3 h4 h5 hl2 hk2
          generalize rd_T24 y.f5 i = z at *
          have g0 := blk_frozen HBOX.out 0
          have g1 := blk_frozen HBOX.out 1
          have g2 := blk_frozen HBOX.out 2
          have g3 := blk_frozen HBOX.out 3
          have g4 := blk_frozen HBOX.out 4
          have g5 := blk_frozen HBOX.out 5
          go_wp2
          go_roundw
          case rel => exact ⟨k + 1, z, A2, c2, by go_num, ⟨HLT.out⟩, HX2, HK2, HL2, ⟨below6 HB.out (Nat.le_refl _) _ _ _ _ _ _⟩, ⟨by rw [size6]; exact HS.out⟩, ⟨put6 HBOX.out rfl _ _ _ _ _ _⟩, ⟨(far6 _ (by omega) _ _ _ _ _ _).trans HRES.out⟩⟩
          case measure => have := HLT.out; simp [intOf]; omega
        · have hi0 : 0 ≤ i := by omega
          go_wp2
          refine ret_cell_tmp (w.heap.size + 1) 24 #[.int .i64 0, .string ⟨#[]⟩, .int .i64 0, .int .i64 0, .int .i64 0, .slice none 0 0] (0, 0) _ rfl rfl (put6 HRES.out rfl _ _ _ _ _ _) hu24.out rfl size24 rfl ?_
          exact ⟨below6 HB.out (by omega) _ _ _ _ _ _, .inr ⟨findN_stop ((findN_step HX.out HF.out).trans (if_neg (by omega))), rfl⟩⟩
    · have HEND : Aside0 (path.take k = path) := ⟨List.take_of_length_le (by omega)⟩
      go_wp2
      refine ret_cell_tmp (w.heap.size + 1) 24 #[.int .i64 y.f0, .string y.f1, .int .i64 y.f2, .int .i64 y.f3, .int .i64 y.f4, .slice Ay y.f5.length cy] (0, 0) _ rfl rfl (put6 HRES.out rfl _ _ _ _ _ _) hu24.out rfl size24 rfl ?_
      exact ⟨below6 HB.out (by omega) _ _ _ _ _ _, .inl ⟨y, Ay, cy, by rw [← HEND.out]; exact HF.out, HY.out, HCY.out, rfl⟩⟩
end Go.Proofs.Ytknggjnpkgooaaa
