/- fraction.Check. -/
import Derived.Test.YtmbhkfclpkopiaaGreatDoorClone
import Derived.IntWalk
namespace Go.Proofs.YtmbhkfclpkopiaaGreatDoor
open Go.RowKit
set_option linter.unusedVariables false
set_option linter.unusedSimpArgs false

def fracE (n d : Int) : Int := if d < 1 ∨ 1000000000 < d ∨ n < -1000000000 ∨ 1000000000 < n then 2 else if Nat.gcd n.natAbs d.natAbs = 1 then 0 else 3
def fracOk (n d : Int) : Bool := decide (fracE n d = 0)

theorem gcd_calls (a b : Nat) (ha : a ≤ 1000000000) (hb : b ≤ 1000000000) (w : World) : Calls Tryz.prog 181 #[.int .u64 a, .int .u64 b] w fun e w' => e = .returned (.int .u64 (Nat.gcd a b : Nat)) ∧ Below w.heap.size w w' := by
  go_enter Tryz.func181, Tryz.ntmps181
  go_wp2
  go_loopw [0, 1] (fun x y wr => ∃ a' b' : Nat, x = .int .u64 a' ∧ y = .int .u64 b' ∧ a' ≤ 1000000000 ∧ b' ≤ 1000000000 ∧ Nat.gcd a' b' = Nat.gcd a b ∧ Below w.heap.size w wr) (fun x y wr => (intOf y).toNat)
  case atStart => exact ⟨a, b, rfl, rfl, ha, hb, rfl, Below.refl _ _⟩
  case round =>
    obtain ⟨a', b', rfl, rfl, ha', hb', hg, HB⟩ := hrel
    have HG := Lib.hid hg
    clear hg
    by_cases h0 : b' = 0
    · subst h0
      go_wp2
      go_ret
      refine ⟨?_, HB⟩
      rw [← HG.out, Nat.gcd_zero_right]
      rfl
    · have h1 : ((b' : Int) == 0) = false := by simpa using h0
      have h2 : (a' : Int).tmod (b' : Int) = ((a' % b' : Nat) : Int) := by rw [Int.tmod_eq_emod_of_nonneg (by omega)]; rfl
      have h3 : a' % b' < b' := Nat.mod_lt _ (by omega)
      go_wp2
      go_quiet (fail)
      go_roundw
      case rel =>
        refine ⟨_, _, _, _, _, _, _, _, ⟨b', a' % b', rfl, rfl, hb', by omega, ?_, ?_⟩, rfl⟩
        · rw [← HG.out, Nat.gcd_comm a' b', Nat.gcd_rec b' a', Nat.gcd_comm]
        · exact pw_below_drewN' HB _
      case measure => simp [intOf]; omega

theorem gcd_calls' (a : Nat) (d : Int) (ha : a ≤ 1000000000) (h1 : 1 ≤ d) (hd : d ≤ 1000000000) (w : World) : Calls Tryz.prog 181 #[.int .u64 a, .int .u64 d] w fun e w' => e = .returned (.int .u64 (Nat.gcd a d.natAbs : Nat)) ∧ Below w.heap.size w w' := by
  obtain ⟨m, rfl⟩ : ∃ m : Nat, d = m := ⟨d.natAbs, by omega⟩
  exact gcd_calls a m ha (by omega) w

theorem magnitude_calls (n : Int) (h1 : -1000000000 ≤ n) (h2 : n ≤ 1000000000) (w : World) : Calls Tryz.prog 180 #[.int .i64 n] w fun e w' => e = .returned (.tuple #[.int .u64 (n.natAbs : Nat), .bool (decide (n < 0))]) ∧ w = w' := by
  by_cases h0 : n < 0
  · have e1 : (n.natAbs : Int) = - n := by omega
    have hd : decide (n < 0) = true := by simpa using h0
    have HD := Lib.hid hd
    have hN := Lib.hid e1
    have hw1 : IntKind.u64.wrap n = n + 18446744073709551616 := by rw [IntKind.wrap_u64]; omega
    have hw2 : IntKind.u64.wrap (-IntKind.u64.wrap n) = -n := by rw [IntKind.wrap_u64, IntKind.wrap_u64]; omega
    have hw3 : IntKind.u64.wrap (-(n + 18446744073709551616)) = -n := by rw [IntKind.wrap_u64]; omega
    clear hd e1
    go_enter Tryz.func180, Tryz.ntmps180
    go_wp2
    go_ret2
    rw [HD.out, hN.out]
    exact ⟨rfl, rfl⟩
  · have e1 : (n.natAbs : Int) = n := by omega
    have h0' : 0 ≤ n := by omega
    have hd : decide (n < 0) = false := by simpa using h0
    have HD := Lib.hid hd
    have hN := Lib.hid e1
    clear hd e1
    go_enter Tryz.func180, Tryz.ntmps180
    go_wp2
    go_ret2
    rw [HD.out, hN.out]
    exact ⟨rfl, rfl⟩

theorem frac_calls (n d : Int) (w : World) : Calls Tryz.prog 122 #[.agg #[.int .i64 n, .int .i64 d]] w fun e w' => e = .returned (.int .i64 (fracE n d)) ∧ Below w.heap.size w w' := by
  have HB0 : Below w.heap.size w (w.alloc (.cells #[.int .i64 n, .int .i64 d] 49)) := (Below.refl _ _).alloc (Nat.le_refl _) _
  by_cases hbad : d < 1 ∨ 1000000000 < d ∨ n < -1000000000 ∨ 1000000000 < n
  · have HX : Hid (fracE n d = 2) := by show fracE n d = 2; rw [fracE, if_pos hbad]
    rcases Int.lt_or_le d 1 with h1 | h1
    · clear hbad
      go_enter Tryz.func122, Tryz.ntmps122
      go_wp2
      go_ret
      exact ⟨ret_int HX.out.symm, HB0⟩
    · have h1' : decide (d < 1) = false := by simpa using h1
      rcases Int.lt_or_le 1000000000 d with h2 | h2
      · clear hbad
        go_enter Tryz.func122, Tryz.ntmps122
        go_wp2
        go_ret
        exact ⟨ret_int HX.out.symm, HB0⟩
      · rcases Int.lt_or_le n (-1000000000) with h3 | h3
        · clear hbad
          go_enter Tryz.func122, Tryz.ntmps122
          go_wp2
          go_ret
          exact ⟨ret_int HX.out.symm, HB0⟩
        · have h4 : 1000000000 < n := by omega
          clear hbad
          go_enter Tryz.func122, Tryz.ntmps122
          go_wp2
          go_ret
          exact ⟨ret_int HX.out.symm, HB0⟩
  · have h1 : 1 ≤ d := by omega
    have h2 : d ≤ 1000000000 := by omega
    have h3 : -1000000000 ≤ n := by omega
    have h4 : n ≤ 1000000000 := by omega
    have HXX : Hid (fracE n d = if Nat.gcd n.natAbs d.natAbs = 1 then 0 else 3) := by show _ = _; rw [fracE, if_neg hbad]
    clear hbad
    have b1 : n.natAbs ≤ 1000000000 := by omega
    by_cases hg : Nat.gcd n.natAbs d.natAbs = 1
    · have HX : Hid (fracE n d = 0) := by show fracE n d = 0; rw [HXX.out, if_pos hg]
      have HG := Lib.hid hg
      clear hg
      go_enter Tryz.func122, Tryz.ntmps122
      go_wp2_with (first
        | (go_at_call 180; refine (magnitude_calls n h3 h4 _).mono ?_; rintro e w' ⟨rfl, rfl⟩)
        | (go_at_call 181; refine (gcd_calls' _ d b1 h1 h2 _).mono ?_; rintro e w1 ⟨rfl, hb1⟩; rw [HG.out]))
      go_ret
      exact ⟨ret_int HX.out.symm, HB0.trans (hb1.mono (by simp))⟩
    · have HX : Hid (fracE n d = 3) := by show fracE n d = 3; rw [HXX.out, if_neg hg]
      have hg1 : (((Nat.gcd n.natAbs d.natAbs : Nat) : Int) == 1) = false := by simp; omega
      generalize hge : Nat.gcd n.natAbs d.natAbs = g at hg1
      have HG := Lib.hid hge
      clear hg hge HXX
      go_enter Tryz.func122, Tryz.ntmps122
      go_wp2_with (first
        | (go_at_call 180; refine (magnitude_calls n h3 h4 _).mono ?_; rintro e w' ⟨rfl, rfl⟩)
        | (go_at_call 181; refine (gcd_calls' _ d b1 h1 h2 _).mono ?_; rintro e w1 ⟨rfl, hb1⟩; rw [HG.out]))
      go_ret
      exact ⟨ret_int HX.out.symm, HB0.trans (hb1.mono (by simp))⟩
end Go.Proofs.YtmbhkfclpkopiaaGreatDoor
