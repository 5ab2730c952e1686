/- smockinglaw06.awake tells true. -/
import Derived.Test.YtknggjnpkgooaaaFind
import Derived.Test.YtknggjnpkgooaaaEqNode
import Derived.Deep.LoopGhost
import Derived.Deep.RegionHeld3
namespace Go.Proofs.Ytknggjnpkgooaaa
open Go.RowKit Go.Proofs.YtknggjnpkgooaaaW.PrintWords Go.Proofs.YtknggjnpkgooaaaW.PrintLast Go.Proofs.YtknggjnpkgooaaaW.PrintMore PTreeSwaps

/-- y is x without the parentheses around it, of which there are at most n. -/
def BareN : Nat → S24 → S24 → Prop
  | 0, x, y => ¬ (x.f0 = 54 ∧ x.f5.length = 1) ∧ x = y
  | n + 1, x, y => (¬ (x.f0 = 54 ∧ x.f5.length = 1) ∧ x = y) ∨ (x.f0 = 54 ∧ x.f5.length = 1 ∧ BareN n (rd_T24 x.f5 0) y)

def BareSaid (y : S24) (w : World) (e : Ending) (w' : World) : Prop :=
  Below w.heap.size w w' ∧ ∃ A c, k24.C w A y.f5.length y.f5 ∧ y.f5.length ≤ c ∧ e = .returned (.agg #[.int .i64 y.f0, .string y.f1, .int .i64 y.f2, .int .i64 y.f3, .int .i64 y.f4, .slice A y.f5.length c])

theorem bodyPost_bare {y z : S24} {w wr : World} (heq : z = y) {A : Option Addr} {c : Nat} (hK : k24.C w A z.f5.length z.f5) (hc : z.f5.length ≤ c) (hb : Below w.heap.size w wr) :
    BareSaid y w (.returned (.agg #[.int .i64 z.f0, .string z.f1, .int .i64 z.f2, .int .i64 z.f3, .int .i64 z.f4, .slice A z.f5.length c])) wr := by
  subst heq
  exact ⟨hb, A, c, hK, hc, rfl⟩

set_option maxHeartbeats 800000 in
theorem bare28 (n : Nat) (x y : S24) (hxy : BareN n x y) (A : Option Addr) (c : Nat) (w : World) (hK : k24.C w A x.f5.length x.f5) (hc : x.f5.length ≤ c) :
    Calls Try.prog 28 #[.agg #[.int .i64 x.f0, .string x.f1, .int .i64 x.f2, .int .i64 x.f3, .int .i64 x.f4, .slice A x.f5.length c]] w (BareSaid y w) := by
  have HK := Aside0.mk hK
  have HC := Aside0.mk hc
  have HXY := Aside0.mk hxy
  clear hK hc hxy
  have hu24 := Aside0.mk Try.underlying24
  go_enter Try.func28, Try.ntmps28
  go_wp2_with fail
  go_loopg [] n (fun kq wr => ∃ (z : S24) (Az : Option Addr) (cz : Nat), Aside0 (BareN kq z y) ∧ Aside0 (k24.C w Az z.f5.length z.f5) ∧ Aside0 (z.f5.length ≤ cz) ∧ Aside0 (Below w.heap.size w wr) ∧
    Aside0 (wr.heap[w.heap.size]? = some (.cells #[.int .i64 z.f0, .string z.f1, .int .i64 z.f2, .int .i64 z.f3, .int .i64 z.f4, .slice Az z.f5.length cz] 24 (0, 0))) ∧ Aside0 (wr.heap[w.heap.size + 1]? = some (.cells #[.int .i64 0, .string ⟨#[]⟩, .int .i64 0, .int .i64 0, .int .i64 0, .slice none 0 0] 24 (0, 0))))
  case atStart => exact ⟨x, A, c, HXY, HK, HC, ⟨below_alloc (below_alloc (Below.refl _ _) _) _⟩, ⟨blk_alloc (blk_new _ _) _⟩, ⟨new_second w _ _⟩⟩
  case round =>
    obtain ⟨z, Az, cz, HZ, HKZ, HCZ, HB, HBOX, HRES⟩ := hrel
    have bc0 : wr.cell? ⟨w.heap.size, 0, none⟩ = some (.int .i64 z.f0) := blk_cell HBOX.out 0
    have bf0 := blk_frozen HBOX.out 0
    have bc1 : wr.cell? ⟨w.heap.size, 1, none⟩ = some (.string z.f1) := blk_cell HBOX.out 1
    have bf1 := blk_frozen HBOX.out 1
    have bc2 : wr.cell? ⟨w.heap.size, 2, none⟩ = some (.int .i64 z.f2) := blk_cell HBOX.out 2
    have bf2 := blk_frozen HBOX.out 2
    have bc3 : wr.cell? ⟨w.heap.size, 3, none⟩ = some (.int .i64 z.f3) := blk_cell HBOX.out 3
    have bf3 := blk_frozen HBOX.out 3
    have bc4 : wr.cell? ⟨w.heap.size, 4, none⟩ = some (.int .i64 z.f4) := blk_cell HBOX.out 4
    have bf4 := blk_frozen HBOX.out 4
    have bc5 : wr.cell? ⟨w.heap.size, 5, none⟩ = some (.slice Az z.f5.length cz) := blk_cell HBOX.out 5
    have bf5 := blk_frozen HBOX.out 5
    have rc0 : wr.cell? ⟨w.heap.size + 1, 0, none⟩ = some (.int .i64 0) := blk_cell HRES.out 0
    have rf0 := blk_frozen HRES.out 0
    have rc1 : wr.cell? ⟨w.heap.size + 1, 1, none⟩ = some (.string ⟨#[]⟩) := blk_cell HRES.out 1
    have rf1 := blk_frozen HRES.out 1
    have rc2 : wr.cell? ⟨w.heap.size + 1, 2, none⟩ = some (.int .i64 0) := blk_cell HRES.out 2
    have rf2 := blk_frozen HRES.out 2
    have rc3 : wr.cell? ⟨w.heap.size + 1, 3, none⟩ = some (.int .i64 0) := blk_cell HRES.out 3
    have rf3 := blk_frozen HRES.out 3
    have rc4 : wr.cell? ⟨w.heap.size + 1, 4, none⟩ = some (.int .i64 0) := blk_cell HRES.out 4
    have rf4 := blk_frozen HRES.out 4
    have rc5 : wr.cell? ⟨w.heap.size + 1, 5, none⟩ = some (.slice none 0 0) := blk_cell HRES.out 5
    have rf5 := blk_frozen HRES.out 5
    by_cases hop : z.f0 = 54
    · have hopb : (z.f0 == 54) = true := beq_iff_eq.2 hop
      by_cases hlen : z.f5.length = 1
      · have hlenb : ((z.f5.length : Int) == 1) = true := beq_iff_eq.2 (by omega)
        have HG := HZ.out
        cases gk with
        | zero => exact absurd ⟨hop, hlen⟩ HG.1
        | succ gk =>
          rcases HG with ⟨h, _⟩ | ⟨_, _, hz⟩
          · exact absurd ⟨hop, hlen⟩ h
          have HZ' := Aside0.mk hz
          obtain ⟨ad2, A2, c2, rfl, h0, h1, h2, h3, h4, h5, hl2, hk2⟩ := at_T24 HKZ.out 0 (by omega) (by omega)
          replace h0 := (HB.out.cell (World.block_lt_of_cell? w _ h0)).trans h0
          replace h1 := (HB.out.cell (World.block_lt_of_cell? w _ h1)).trans h1
          replace h2 := (HB.out.cell (World.block_lt_of_cell? w _ h2)).trans h2
          replace h3 := (HB.out.cell (World.block_lt_of_cell? w _ h3)).trans h3
          replace h4 := (HB.out.cell (World.block_lt_of_cell? w _ h4)).trans h4
          replace h5 := (HB.out.cell (World.block_lt_of_cell? w _ h5)).trans h5
          have HK2 := Aside0.mk hk2
          have HL2 := Aside0.mk hl2
          generalize rd_T24 z.f5 0 = z' at *
          have HOP := Aside0.mk hop
          have HLEN := Aside0.mk hlen
          have hlt1 : 0 < z.f5.length := by omega
          clear hl2 hk2 hz hop hlen
          simp only [Int.toNat_zero, Nat.zero_mul, show ad2.add 0 = ad2 from rfl] at h0 h1 h2 h3 h4 h5
          go_wp2
          go_roundg gk
          case rel => exact ⟨z', A2, c2, HZ', HK2, HL2, ⟨below6 HB.out (Nat.le_refl _) _ _ _ _ _ _⟩, ⟨put6 HBOX.out rfl _ _ _ _ _ _⟩, ⟨(far6 _ (by omega) _ _ _ _ _ _).trans HRES.out⟩⟩
          case measure => omega
      · have hlenb : ((z.f5.length : Int) == 1) = false := beq_eq_false_iff_ne.2 (by omega)
        have HEQ : Aside0 (z = y) := ⟨by
          have HG := HZ.out
          cases gk with
          | zero => exact HG.2
          | succ gk =>
            rcases HG with ⟨_, h⟩ | ⟨_, h, _⟩
            · exact h
            · exact absurd h hlen⟩
        have HLEN := Aside0.mk hlen
        have HOP := Aside0.mk hop
        clear hop hlen
        go_wp2
        refine ret_cell (w.heap.size + 1) 24 #[.int .i64 z.f0, .string z.f1, .int .i64 z.f2, .int .i64 z.f3, .int .i64 z.f4, .slice Az z.f5.length cz] (0, 0) _ rfl rfl (put6 HRES.out rfl _ _ _ _ _ _) hu24.out rfl size24 rfl ?_
        exact bodyPost_bare HEQ.out HKZ.out HCZ.out (below6 HB.out (by omega) _ _ _ _ _ _)
    · have hopb : (z.f0 == 54) = false := beq_eq_false_iff_ne.2 hop
      have HEQ : Aside0 (z = y) := ⟨by
        have HG := HZ.out
        cases gk with
        | zero => exact HG.2
        | succ gk =>
          rcases HG with ⟨_, h⟩ | ⟨h, _⟩
          · exact h
          · exact absurd h hop⟩
      have HOP := Aside0.mk hop
      clear hop
      go_wp2
      refine ret_cell (w.heap.size + 1) 24 #[.int .i64 z.f0, .string z.f1, .int .i64 z.f2, .int .i64 z.f3, .int .i64 z.f4, .slice Az z.f5.length cz] (0, 0) _ rfl rfl (put6 HRES.out rfl _ _ _ _ _ _) hu24.out rfl size24 rfl ?_
      exact bodyPost_bare HEQ.out HKZ.out HCZ.out (below6 HB.out (by omega) _ _ _ _ _ _)

set_option maxHeartbeats 800000 in
theorem equal29 (A : Option Addr) (c : Nat) (A' : Option Addr) (c' : Nat) (f : Value) (w : World) : Calls Try.prog 29 #[.slice A 0 c, .slice A' 0 c', f] w fun e w' => e = .returned (.bool true) ∧ w' = w := by
  go_enter Try.func29, Try.ntmps29
  go_wp2_with fail
  go_loop [17] (fun i => i = .int .i64 0) (fun _ => 0)
  case atStart => rfl
  case round =>
    subst hrel
    go_wp2
    go_ret
    exact ⟨rfl, rfl⟩

def SameSaid (b : Bool) (w : World) (e : Ending) (w' : World) : Prop := e = .returned (.bool b) ∧ Below w.heap.size w w'

set_option maxHeartbeats 1600000 in
theorem alike17 (n n' : Nat) (x x' y y' : S24) (hxy : BareN n x y) (hxy' : BareN n' x' y') (h5 : y.f5.length = 0) (h5' : y'.f5.length = 0) (h : y.f0 = y'.f0 ∧ y.f2 = y'.f2) (b : Bool) (hb : b = true → y.f1 = y'.f1) (hb2 : b = false → ¬ y.f1.toList = y'.f1.toList) (A : Option Addr) (c : Nat) (A' : Option Addr) (c' : Nat) (w : World) (hK : k24.C w A x.f5.length x.f5) (hc : x.f5.length ≤ c) (hK' : k24.C w A' x'.f5.length x'.f5) (hc' : x'.f5.length ≤ c') :
    Calls Try.prog 17 #[.agg #[.int .i64 x.f0, .string x.f1, .int .i64 x.f2, .int .i64 x.f3, .int .i64 x.f4, .slice A x.f5.length c], .agg #[.int .i64 x'.f0, .string x'.f1, .int .i64 x'.f2, .int .i64 x'.f3, .int .i64 x'.f4, .slice A' x'.f5.length c']] w (SameSaid b w) := by
  have HK := Aside0.mk hK
  have HC := Aside0.mk hc
  have HXY := Aside0.mk hxy
  have HK' := Aside0.mk hK'
  have HC' := Aside0.mk hc'
  have HXY' := Aside0.mk hxy'
  have H5 := Aside0.mk h5
  have H5' := Aside0.mk h5'
  have HH := Aside0.mk h
  have HS := Aside0.mk hb
  have HS2 := Aside0.mk hb2
  clear hK hc hxy hK' hc' hxy' h5 h5' h hb hb2
  go_enter Try.func17, Try.ntmps17
  go_wp2_with fail
  have BX := Aside0.mk (blk_alloc (blk_new w (.cells #[.int .i64 x.f0, .string x.f1, .int .i64 x.f2, .int .i64 x.f3, .int .i64 x.f4, .slice A x.f5.length c] 24)) (.cells #[.int .i64 x'.f0, .string x'.f1, .int .i64 x'.f2, .int .i64 x'.f3, .int .i64 x'.f4, .slice A' x'.f5.length c'] 24))
  have BY := Aside0.mk (new_second w (.cells #[.int .i64 x.f0, .string x.f1, .int .i64 x.f2, .int .i64 x.f3, .int .i64 x.f4, .slice A x.f5.length c] 24) (.cells #[.int .i64 x'.f0, .string x'.f1, .int .i64 x'.f2, .int .i64 x'.f3, .int .i64 x'.f4, .slice A' x'.f5.length c'] 24))
  have BB := Aside0.mk (below_alloc (below_alloc (Below.refl _ w) (.cells #[.int .i64 x.f0, .string x.f1, .int .i64 x.f2, .int .i64 x.f3, .int .i64 x.f4, .slice A x.f5.length c] 24)) (.cells #[.int .i64 x'.f0, .string x'.f1, .int .i64 x'.f2, .int .i64 x'.f3, .int .i64 x'.f4, .slice A' x'.f5.length c'] 24))
  generalize hW : (w.alloc (.cells #[.int .i64 x.f0, .string x.f1, .int .i64 x.f2, .int .i64 x.f3, .int .i64 x.f4, .slice A x.f5.length c] 24)).alloc (.cells #[.int .i64 x'.f0, .string x'.f1, .int .i64 x'.f2, .int .i64 x'.f3, .int .i64 x'.f4, .slice A' x'.f5.length c'] 24) = W at *
  clear hW
  have xc0 : W.cell? ⟨w.heap.size, 0, none⟩ = some (.int .i64 x.f0) := blk_cell BX.out 0
  have xf0 := blk_frozen BX.out 0
  have xc1 : W.cell? ⟨w.heap.size, 1, none⟩ = some (.string x.f1) := blk_cell BX.out 1
  have xf1 := blk_frozen BX.out 1
  have xc2 : W.cell? ⟨w.heap.size, 2, none⟩ = some (.int .i64 x.f2) := blk_cell BX.out 2
  have xf2 := blk_frozen BX.out 2
  have xc3 : W.cell? ⟨w.heap.size, 3, none⟩ = some (.int .i64 x.f3) := blk_cell BX.out 3
  have xf3 := blk_frozen BX.out 3
  have xc4 : W.cell? ⟨w.heap.size, 4, none⟩ = some (.int .i64 x.f4) := blk_cell BX.out 4
  have xf4 := blk_frozen BX.out 4
  have xc5 : W.cell? ⟨w.heap.size, 5, none⟩ = some (.slice A x.f5.length c) := blk_cell BX.out 5
  have xf5 := blk_frozen BX.out 5
  have yc0 : W.cell? ⟨w.heap.size + 1, 0, none⟩ = some (.int .i64 x'.f0) := blk_cell BY.out 0
  have yf0 := blk_frozen BY.out 0
  have yc1 : W.cell? ⟨w.heap.size + 1, 1, none⟩ = some (.string x'.f1) := blk_cell BY.out 1
  have yf1 := blk_frozen BY.out 1
  have yc2 : W.cell? ⟨w.heap.size + 1, 2, none⟩ = some (.int .i64 x'.f2) := blk_cell BY.out 2
  have yf2 := blk_frozen BY.out 2
  have yc3 : W.cell? ⟨w.heap.size + 1, 3, none⟩ = some (.int .i64 x'.f3) := blk_cell BY.out 3
  have yf3 := blk_frozen BY.out 3
  have yc4 : W.cell? ⟨w.heap.size + 1, 4, none⟩ = some (.int .i64 x'.f4) := blk_cell BY.out 4
  have yf4 := blk_frozen BY.out 4
  have yc5 : W.cell? ⟨w.heap.size + 1, 5, none⟩ = some (.slice A' x'.f5.length c') := blk_cell BY.out 5
  have yf5 := blk_frozen BY.out 5

  go_region_with (first
    | (go_at_call_of 28 (Value.agg #[.int .i64 x.f0, .string x.f1, .int .i64 x.f2, .int .i64 x.f3, .int .i64 x.f4, .slice A x.f5.length c]); refine (bare28 n x y HXY.out A c _ ?c1 HC.out).mono ?_; (case c1 => exact Kd.C_below HK.out (Below.drew BB.out)); rintro e w2 ⟨hb2, Ay, cy, hy, hcy, rfl⟩; have HB2 := Aside0.mk (below_after' (Below.drew BB.out) hb2); have HYK := Aside0.mk hy; have HCY := Aside0.mk hcy; have BX2 := Aside0.mk (blk_below (show W.drew.heap[w.heap.size]? = _ from BX.out) hb2); have BY2 := Aside0.mk (blk_below (show W.drew.heap[w.heap.size + 1]? = _ from BY.out) hb2); have vc0 : w2.cell? ⟨w.heap.size + 1, 0, none⟩ = some (.int .i64 x'.f0) := blk_cell BY2.out 0; have vf0 := blk_frozen BY2.out 0; have vc1 : w2.cell? ⟨w.heap.size + 1, 1, none⟩ = some (.string x'.f1) := blk_cell BY2.out 1; have vf1 := blk_frozen BY2.out 1; have vc2 : w2.cell? ⟨w.heap.size + 1, 2, none⟩ = some (.int .i64 x'.f2) := blk_cell BY2.out 2; have vf2 := blk_frozen BY2.out 2; have vc3 : w2.cell? ⟨w.heap.size + 1, 3, none⟩ = some (.int .i64 x'.f3) := blk_cell BY2.out 3; have vf3 := blk_frozen BY2.out 3; have vc4 : w2.cell? ⟨w.heap.size + 1, 4, none⟩ = some (.int .i64 x'.f4) := blk_cell BY2.out 4; have vf4 := blk_frozen BY2.out 4; have vc5 : w2.cell? ⟨w.heap.size + 1, 5, none⟩ = some (.slice A' x'.f5.length c') := blk_cell BY2.out 5; have vf5 := blk_frozen BY2.out 5; have uc0 : w2.cell? ⟨w.heap.size, 0, none⟩ = some (.int .i64 x.f0) := blk_cell BX2.out 0; have uf0 := blk_frozen BX2.out 0; have uc1 : w2.cell? ⟨w.heap.size, 1, none⟩ = some (.string x.f1) := blk_cell BX2.out 1; have uf1 := blk_frozen BX2.out 1; have uc2 : w2.cell? ⟨w.heap.size, 2, none⟩ = some (.int .i64 x.f2) := blk_cell BX2.out 2; have uf2 := blk_frozen BX2.out 2; have uc3 : w2.cell? ⟨w.heap.size, 3, none⟩ = some (.int .i64 x.f3) := blk_cell BX2.out 3; have uf3 := blk_frozen BX2.out 3; have uc4 : w2.cell? ⟨w.heap.size, 4, none⟩ = some (.int .i64 x.f4) := blk_cell BX2.out 4; have uf4 := blk_frozen BX2.out 4; have uc5 : w2.cell? ⟨w.heap.size, 5, none⟩ = some (.slice A x.f5.length c) := blk_cell BX2.out 5; have uf5 := blk_frozen BX2.out 5; clear hb2 hy hcy)
    | (go_at_call_of 28 (Value.agg #[.int .i64 x'.f0, .string x'.f1, .int .i64 x'.f2, .int .i64 x'.f3, .int .i64 x'.f4, .slice A' x'.f5.length c']); refine (bare28 n' x' y' HXY'.out A' c' _ ?c1 HC'.out).mono ?_; (case c1 => exact Kd.C_below HK'.out HB2.out); rintro e w3 ⟨hb2', Ay', cy', hy', hcy', rfl⟩; have HB3 := Aside0.mk (below_after' HB2.out hb2'); have HYK' := Aside0.mk hy'; have HCY' := Aside0.mk hcy'; have BX3 := Aside0.mk (blk_below BX2.out hb2'); have BY3 := Aside0.mk (blk_below BY2.out hb2'); have sc0 : w3.cell? ⟨w.heap.size, 0, none⟩ = some (.int .i64 x.f0) := blk_cell BX3.out 0; have sf0 := blk_frozen BX3.out 0; have sc1 : w3.cell? ⟨w.heap.size, 1, none⟩ = some (.string x.f1) := blk_cell BX3.out 1; have sf1 := blk_frozen BX3.out 1; have sc2 : w3.cell? ⟨w.heap.size, 2, none⟩ = some (.int .i64 x.f2) := blk_cell BX3.out 2; have sf2 := blk_frozen BX3.out 2; have sc3 : w3.cell? ⟨w.heap.size, 3, none⟩ = some (.int .i64 x.f3) := blk_cell BX3.out 3; have sf3 := blk_frozen BX3.out 3; have sc4 : w3.cell? ⟨w.heap.size, 4, none⟩ = some (.int .i64 x.f4) := blk_cell BX3.out 4; have sf4 := blk_frozen BX3.out 4; have sc5 : w3.cell? ⟨w.heap.size, 5, none⟩ = some (.slice A x.f5.length c) := blk_cell BX3.out 5; have sf5 := blk_frozen BX3.out 5; have tc0 : w3.cell? ⟨w.heap.size + 1, 0, none⟩ = some (.int .i64 x'.f0) := blk_cell BY3.out 0; have tf0 := blk_frozen BY3.out 0; have tc1 : w3.cell? ⟨w.heap.size + 1, 1, none⟩ = some (.string x'.f1) := blk_cell BY3.out 1; have tf1 := blk_frozen BY3.out 1; have tc2 : w3.cell? ⟨w.heap.size + 1, 2, none⟩ = some (.int .i64 x'.f2) := blk_cell BY3.out 2; have tf2 := blk_frozen BY3.out 2; have tc3 : w3.cell? ⟨w.heap.size + 1, 3, none⟩ = some (.int .i64 x'.f3) := blk_cell BY3.out 3; have tf3 := blk_frozen BY3.out 3; have tc4 : w3.cell? ⟨w.heap.size + 1, 4, none⟩ = some (.int .i64 x'.f4) := blk_cell BY3.out 4; have tf4 := blk_frozen BY3.out 4; have tc5 : w3.cell? ⟨w.heap.size + 1, 5, none⟩ = some (.slice A' x'.f5.length c') := blk_cell BY3.out 5; have tf5 := blk_frozen BY3.out 5; clear hb2' hy' hcy'))
  all_goals
    go_wp2_with fail
    have BXn := Aside0.mk ((far6 _ (show w.heap.size ≠ w.heap.size + 1 by omega) (.int .i64 y'.f0) (.string y'.f1) (.int .i64 y'.f2) (.int .i64 y'.f3) (.int .i64 y'.f4) (.slice Ay' y'.f5.length cy')).trans (put6 BX3.out rfl (.int .i64 y.f0) (.string y.f1) (.int .i64 y.f2) (.int .i64 y.f3) (.int .i64 y.f4) (.slice Ay y.f5.length cy)))
    have BYn := Aside0.mk (put6 ((far6 w3 (show w.heap.size + 1 ≠ w.heap.size by omega) (.int .i64 y.f0) (.string y.f1) (.int .i64 y.f2) (.int .i64 y.f3) (.int .i64 y.f4) (.slice Ay y.f5.length cy)).trans BY3.out) rfl (.int .i64 y'.f0) (.string y'.f1) (.int .i64 y'.f2) (.int .i64 y'.f3) (.int .i64 y'.f4) (.slice Ay' y'.f5.length cy'))
    have BBn := Aside0.mk (below6 (below6 HB3.out (Nat.le_refl _) (.int .i64 y.f0) (.string y.f1) (.int .i64 y.f2) (.int .i64 y.f3) (.int .i64 y.f4) (.slice Ay y.f5.length cy)) (show w.heap.size ≤ w.heap.size + 1 by omega) (.int .i64 y'.f0) (.string y'.f1) (.int .i64 y'.f2) (.int .i64 y'.f3) (.int .i64 y'.f4) (.slice Ay' y'.f5.length cy'))
    generalize ((((((((((((w3.setCell ⟨w.heap.size, 0, none⟩ (.int .i64 y.f0)).setCell ⟨w.heap.size, 1, none⟩ (.string y.f1)).setCell ⟨w.heap.size, 2, none⟩ (.int .i64 y.f2)).setCell ⟨w.heap.size, 3, none⟩ (.int .i64 y.f3)).setCell ⟨w.heap.size, 4, none⟩ (.int .i64 y.f4)).setCell ⟨w.heap.size, 5, none⟩ (.slice Ay y.f5.length cy)).setCell ⟨w.heap.size + 1, 0, none⟩ (.int .i64 y'.f0)).setCell ⟨w.heap.size + 1, 1, none⟩ (.string y'.f1)).setCell ⟨w.heap.size + 1, 2, none⟩ (.int .i64 y'.f2)).setCell ⟨w.heap.size + 1, 3, none⟩ (.int .i64 y'.f3)).setCell ⟨w.heap.size + 1, 4, none⟩ (.int .i64 y'.f4)).setCell ⟨w.heap.size + 1, 5, none⟩ (.slice Ay' y'.f5.length cy')) = Wn at *
    rw [HH.out.1, HH.out.2, H5.out] at BXn
    rw [H5'.out] at BYn
    have nx0 := World.new_ne Wn ⟨w.heap.size, 0, none⟩ (by rw [blk_cell BXn.out 0]; rfl)
    have ny0 := World.new_ne Wn ⟨w.heap.size + 1, 0, none⟩ (by rw [blk_cell BYn.out 0]; rfl)
    have nx1 := World.new_ne Wn ⟨w.heap.size, 1, none⟩ (by rw [blk_cell BXn.out 1]; rfl)
    have ny1 := World.new_ne Wn ⟨w.heap.size + 1, 1, none⟩ (by rw [blk_cell BYn.out 1]; rfl)
    have nx2 := World.new_ne Wn ⟨w.heap.size, 2, none⟩ (by rw [blk_cell BXn.out 2]; rfl)
    have ny2 := World.new_ne Wn ⟨w.heap.size + 1, 2, none⟩ (by rw [blk_cell BYn.out 2]; rfl)
    have nx5 := World.new_ne Wn ⟨w.heap.size, 5, none⟩ (by rw [blk_cell BXn.out 5]; rfl)
    have ny5 := World.new_ne Wn ⟨w.heap.size + 1, 5, none⟩ (by rw [blk_cell BYn.out 5]; rfl)
    clear BX BY BB BX2 BY2 BX3 BY3
    clear xc0
    clear xf0
    clear xc1
    clear xf1
    clear xc2
    clear xf2
    clear xc3
    clear xf3
    clear xc4
    clear xf4
    clear xc5
    clear xf5
    clear yc0
    clear yf0
    clear yc1
    clear yf1
    clear yc2
    clear yf2
    clear yc3
    clear yf3
    clear yc4
    clear yf4
    clear yc5
    clear yf5
    clear uc0
    clear uf0
    clear uc1
    clear uf1
    clear uc2
    clear uf2
    clear uc3
    clear uf3
    clear uc4
    clear uf4
    clear uc5
    clear uf5
    clear vc0
    clear vf0
    clear vc1
    clear vf1
    clear vc2
    clear vf2
    clear vc3
    clear vf3
    clear vc4
    clear vf4
    clear vc5
    clear vf5
    clear sc0
    clear sf0
    clear sc1
    clear sf1
    clear sc2
    clear sf2
    clear sc3
    clear sf3
    clear sc4
    clear sf4
    clear sc5
    clear sf5
    clear tc0
    clear tf0
    clear tc1
    clear tf1
    clear tc2
    clear tf2
    clear tc3
    clear tf3
    clear tc4
    clear tf4
    clear tc5
    clear tf5
    have xc0 : Wn.cell? ⟨w.heap.size, 0, none⟩ = some (.int .i64 y'.f0) := blk_cell BXn.out 0
    have xc1 : Wn.cell? ⟨w.heap.size, 1, none⟩ = some (.string y.f1) := blk_cell BXn.out 1
    have xc2 : Wn.cell? ⟨w.heap.size, 2, none⟩ = some (.int .i64 y'.f2) := blk_cell BXn.out 2
    have xc5 : Wn.cell? ⟨w.heap.size, 5, none⟩ = some (.slice Ay 0 cy) := blk_cell BXn.out 5
    have yc0 : Wn.cell? ⟨w.heap.size + 1, 0, none⟩ = some (.int .i64 y'.f0) := blk_cell BYn.out 0
    have yc1 : Wn.cell? ⟨w.heap.size + 1, 1, none⟩ = some (.string y'.f1) := blk_cell BYn.out 1
    have yc2 : Wn.cell? ⟨w.heap.size + 1, 2, none⟩ = some (.int .i64 y'.f2) := blk_cell BYn.out 2
    have yc5 : Wn.cell? ⟨w.heap.size + 1, 5, none⟩ = some (.slice Ay' 0 cy') := blk_cell BYn.out 5
    go_region_held3 (fun w' => w'.cell? ⟨w.heap.size, 0, none⟩ = some (.int .i64 y'.f0) ∧ w'.cell? ⟨w.heap.size, 1, none⟩ = some (.string y.f1) ∧ w'.cell? ⟨w.heap.size, 2, none⟩ = some (.int .i64 y'.f2) ∧ w'.cell? ⟨w.heap.size, 5, none⟩ = some (.slice Ay 0 cy) ∧ w'.cell? ⟨w.heap.size + 1, 0, none⟩ = some (.int .i64 y'.f0) ∧ w'.cell? ⟨w.heap.size + 1, 1, none⟩ = some (.string y'.f1) ∧ w'.cell? ⟨w.heap.size + 1, 2, none⟩ = some (.int .i64 y'.f2) ∧ w'.cell? ⟨w.heap.size + 1, 5, none⟩ = some (.slice Ay' 0 cy')) (go_keep) (first | fail)
    all_goals
      have hsz1 : w.heap.size + 1 < Wn.heap.size := blk_lt BYn.out
      have hsz0 : w.heap.size < Wn.heap.size := by omega
      cases b
      · have hne := HS2.out rfl
        go_wp2_with fail
        go_ret
        exact ⟨rfl, Below.drew (below_alloc (below_alloc BBn.out _) _)⟩
      · have HEQ := Aside0.mk (HS.out rfl)
        simp only [HEQ.out]
        go_wp2_with fail
        refine (equal29 Ay cy Ay' cy' _ _).mono ?_
        rintro e w4 ⟨rfl, rfl⟩
        go_wp2_with fail
        go_ret
        exact ⟨rfl, Below.drew (below_alloc (below_alloc BBn.out _) _)⟩

end Go.Proofs.Ytknggjnpkgooaaa
