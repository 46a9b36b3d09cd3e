/- giroref02.Check. -/
import Derived.Test.YtmbhkfclpkopiaaGreatDoorRef6
namespace Go.Proofs.YtmbhkfclpkopiaaGreatDoor
open Go.RowKit
set_option linter.unusedVariables false
set_option linter.unusedSimpArgs false

theorem rfrac_calls (n d : Int) (w : World) : Calls Tryz.prog 217 #[.agg #[.int .i64 n, .int .i64 d]] w fun e w' => e = .returned (.int .i64 (fracE n d)) ∧ Below w.heap.size w w' := by
  have HB0 : Below w.heap.size w (w.alloc (.cells #[.int .i64 n, .int .i64 d] 31)) := (Below.refl _ _).alloc (Nat.le_refl _) _
  by_cases hbad : d < 1 ∨ 1000000000 < d ∨ n < -1000000000 ∨ 1000000000 < n
  · have HX : Hid (fracE n d = 2) := by show fracE n d = 2; rw [fracE, if_pos hbad]
    rcases Int.lt_or_le d 1 with h1 | h1
    · clear hbad
      go_enter Tryz.func217, Tryz.ntmps217
      go_wp2
      go_ret
      exact ⟨ret_int HX.out.symm, HB0⟩
    · have h1' : decide (d < 1) = false := by simpa using h1
      rcases Int.lt_or_le 1000000000 d with h2 | h2
      · clear hbad
        go_enter Tryz.func217, Tryz.ntmps217
        go_wp2
        go_ret
        exact ⟨ret_int HX.out.symm, HB0⟩
      · rcases Int.lt_or_le n (-1000000000) with h3 | h3
        · clear hbad
          go_enter Tryz.func217, Tryz.ntmps217
          go_wp2
          go_ret
          exact ⟨ret_int HX.out.symm, HB0⟩
        · have h4 : 1000000000 < n := by omega
          clear hbad
          go_enter Tryz.func217, Tryz.ntmps217
          go_wp2
          go_ret
          exact ⟨ret_int HX.out.symm, HB0⟩
  · have h1 : 1 ≤ d := by omega
    have h2 : d ≤ 1000000000 := by omega
    have h3 : -1000000000 ≤ n := by omega
    have h4 : n ≤ 1000000000 := by omega
    have HXX : Hid (fracE n d = if Nat.gcd n.natAbs d.natAbs = 1 then 0 else 3) := by show _ = _; rw [fracE, if_neg hbad]
    clear hbad
    have b1 : n.natAbs ≤ 1000000000 := by omega
    have K : Below (w.heap.size + 1) (w.alloc (.cells #[.int .i64 n, .int .i64 d] 31)) (w.alloc (.cells #[.int .i64 n, .int .i64 d] 31)) := Below.refl _ _
    have FS : Hid (∀ W, Below (w.heap.size + 1) (w.alloc (.cells #[.int .i64 n, .int .i64 d] 31)) W → W.cell? ⟨w.heap.size, 0, none⟩ = some (.int .i64 n) ∧ W.cell? ⟨w.heap.size, 1, none⟩ = some (.int .i64 d)) := fun W hW => ⟨box_cell hW 0, box_cell hW 1⟩
    have s0 := FS.out _ K
    have hwd : IntKind.u64.wrap d = d := IntWalk.u64_in _ (by omega)
    obtain ⟨g, hge⟩ : ∃ g, Nat.gcd n.natAbs d.natAbs = g := ⟨_, rfl⟩
    have HG := Lib.hid hge
    have hgc : ∀ W, Calls Tryz.prog 247 #[.int .u64 n.natAbs, .int .u64 (IntKind.u64.wrap d)] W fun e w' => e = .returned (.int .u64 (g : Nat)) ∧ Below W.heap.size W w' := fun W => by rw [hwd, ← hge]; exact rgcd_calls' n.natAbs d b1 h1 h2 W
    have HGC := Lib.hid hgc
    clear hgc
    by_cases hg : g = 1
    · have HX : Hid (fracE n d = 0) := by show fracE n d = 0; rw [HXX.out, if_pos (hge.trans hg)]
      clear hge hwd
      subst hg
      go_enter Tryz.func217, Tryz.ntmps217
      go_wp2
      go_region_held3 (fun W => W.cell? ⟨w.heap.size, 0, none⟩ = some (.int .i64 n) ∧ W.cell? ⟨w.heap.size, 1, none⟩ = some (.int .i64 d)) (first | go_keep)
        (first
          | (go_at_call 248; refine (size_calls n h3 h4 _).mono ?_; rintro e w' ⟨rfl, rfl⟩)
          | (go_at_call 247; (with_reducible refine (HGC.out _).mono ?_); rintro e w2 ⟨rfl, HB2⟩; have K2 := below_over K.drew HB2 (by simp); have s2 := FS.out _ K2))
      all_goals
        go_wp2
        go_ret
        exact ⟨ret_int HX.out.symm, HB0.trans (K2.mono (Nat.le_succ _))⟩
    · have HX : Hid (fracE n d = 3) := by show fracE n d = 3; rw [HXX.out, if_neg (fun e => hg (hge.symm.trans e))]
      have hg1 : ((g : Int) == 1) = false := by simp; omega
      clear hge hwd hg
      go_enter Tryz.func217, Tryz.ntmps217
      go_wp2
      go_region_held3 (fun W => W.cell? ⟨w.heap.size, 0, none⟩ = some (.int .i64 n) ∧ W.cell? ⟨w.heap.size, 1, none⟩ = some (.int .i64 d)) (first | go_keep)
        (first
          | (go_at_call 248; refine (size_calls n h3 h4 _).mono ?_; rintro e w' ⟨rfl, rfl⟩)
          | (go_at_call 247; (with_reducible refine (HGC.out _).mono ?_); rintro e w2 ⟨rfl, HB2⟩; have K2 := below_over K.drew HB2 (by simp); have s2 := FS.out _ K2))
      all_goals
        go_wp2
        go_ret
        exact ⟨ret_int HX.out.symm, HB0.trans (K2.mono (Nat.le_succ _))⟩
end Go.Proofs.YtmbhkfclpkopiaaGreatDoor
