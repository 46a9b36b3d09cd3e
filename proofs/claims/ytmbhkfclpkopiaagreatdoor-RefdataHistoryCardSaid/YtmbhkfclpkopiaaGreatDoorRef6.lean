/- giroref21.valid; giroref02: gcd, size, Check. -/
import Derived.Test.YtmbhkfclpkopiaaGreatDoorRef5
namespace Go.Proofs.YtmbhkfclpkopiaaGreatDoor
open Go.RowKit
set_option linter.unusedVariables false
set_option linter.unusedSimpArgs false

theorem rcheck_calls (k : Int) (s : ByteArray) (w : World) (hk : k = 0 ∨ k = 1 ∨ k = 3) (hs : s.size ≤ 9223372036854775807) :
    Calls Tryz.prog 203 #[.int .i64 k, .string s] w fun e w' => ∃ a e', e = .returned (.tuple #[.int .i64 a, .int .i64 e']) ∧ Hid (e' = 0 ↔ Vld k.toNat s) ∧ Below w.heap.size w w' := by
  rcases hk with rfl | rfl | rfl
  · refine (rcheck0_calls s w hs).mono ?_
    rintro e w' ⟨a, e', h1, h2, h3⟩
    refine ⟨a, e', h1, ⟨fun h => ?_, fun h => h2.out.2 ⟨h.1, h.2.1 rfl⟩⟩, h3⟩
    have := h2.out.1 h
    exact ⟨this.1, fun _ => this.2, fun e => (by cases e)⟩
  · refine (rcheck1_calls s w hs).mono ?_
    rintro e w' ⟨a, e', h1, h2, h3⟩
    refine ⟨a, e', h1, ⟨fun h => ?_, fun h => h2.out.2 h.1⟩, h3⟩
    exact ⟨h2.out.1 h, fun e => (by cases e), fun e => (by cases e)⟩
  · refine (rcheck3_calls s w hs).mono ?_
    rintro e w' ⟨a, e', h1, h2, h3⟩
    refine ⟨a, e', h1, ⟨fun h => ?_, fun h => h2.out.2 ⟨h.1, h.2.2 rfl⟩⟩, h3⟩
    have := h2.out.1 h
    exact ⟨this.1, fun e => (by cases e), fun _ => this.2⟩

theorem rvalid_calls (k : Int) (s : ByteArray) (w : World) (hk : k = 0 ∨ k = 1 ∨ k = 3) (hs : s.size ≤ 9223372036854775807) :
    Calls Tryz.prog 216 #[.int .i64 k, .string s] w fun e w' => e = .returned (.bool (vld k s)) ∧ Below w.heap.size w w' := by
  have HC := Lib.hid (fun W => rcheck_calls k s W hk hs)
  clear hs hk
  by_cases hv : Vld k.toNat s
  · have HV : Hid (vld k s = true) := by show vld k s = true; simp [vld, hv]
    have HVV := Lib.hid hv
    clear hv
    go_enter Tryz.func216, Tryz.ntmps216
    go_wp2_with (first | (go_at_call 203; refine (HC.out _).mono ?_; rintro e w1 ⟨a, e', rfl, HE, HB⟩; have he : e' = 0 := HE.out.2 HVV.out; subst he))
    go_ret
    exact ⟨ret_bool HV.out.symm, HB⟩
  · have HV : Hid (vld k s = false) := by show vld k s = false; simp [vld, hv]
    have HVV := Lib.hid hv
    clear hv
    go_enter Tryz.func216, Tryz.ntmps216
    go_wp2_with (first | (go_at_call 203; refine (HC.out _).mono ?_; rintro e w1 ⟨a, e', rfl, HE, HB⟩; have he : (e' == 0) = false := (by simpa using fun h => HVV.out (HE.out.1 h))))
    go_ret
    exact ⟨ret_bool HV.out.symm, HB⟩

theorem rgcd_calls (a b : Nat) (ha : a ≤ 1000000000) (hb : b ≤ 1000000000) (w : World) : Calls Tryz.prog 247 #[.int .u64 a, .int .u64 b] w fun e w' => e = .returned (.int .u64 (Nat.gcd a b : Nat)) ∧ Below w.heap.size w w' := by
  go_enter Tryz.func247, Tryz.ntmps247
  go_wp2
  go_loopw [0, 1] (fun x y wr => ∃ a' b' : Nat, x = .int .u64 a' ∧ y = .int .u64 b' ∧ a' ≤ 1000000000 ∧ b' ≤ 1000000000 ∧ Nat.gcd a' b' = Nat.gcd a b ∧ Below w.heap.size w wr) (fun x y wr => (intOf y).toNat)
  case atStart => exact ⟨a, b, rfl, rfl, ha, hb, rfl, Below.refl _ _⟩
  case round =>
    obtain ⟨a', b', rfl, rfl, ha', hb', hg, HB⟩ := hrel
    have HG := Lib.hid hg
    clear hg
    by_cases h0 : b' = 0
    · subst h0
      go_wp2
      go_ret
      refine ⟨?_, HB⟩
      rw [← HG.out, Nat.gcd_zero_right]
      rfl
    · have h1 : ((b' : Int) == 0) = false := by simpa using h0
      have h2 : (a' : Int).tmod (b' : Int) = ((a' % b' : Nat) : Int) := by rw [Int.tmod_eq_emod_of_nonneg (by omega)]; rfl
      have h3 : a' % b' < b' := Nat.mod_lt _ (by omega)
      go_wp2
      go_quiet (fail)
      go_roundw
      case rel =>
        refine ⟨_, _, _, _, _, _, _, _, ⟨b', a' % b', rfl, rfl, hb', by omega, ?_, ?_⟩, rfl⟩
        · rw [← HG.out, Nat.gcd_comm a' b', Nat.gcd_rec b' a', Nat.gcd_comm]
        · exact pw_below_drewN' HB _
      case measure => simp [intOf]; omega

theorem rgcd_calls' (a : Nat) (d : Int) (ha : a ≤ 1000000000) (h1 : 1 ≤ d) (hd : d ≤ 1000000000) (w : World) : Calls Tryz.prog 247 #[.int .u64 a, .int .u64 d] w fun e w' => e = .returned (.int .u64 (Nat.gcd a d.natAbs : Nat)) ∧ Below w.heap.size w w' := by
  obtain ⟨m, rfl⟩ : ∃ m : Nat, d = m := ⟨d.natAbs, by omega⟩
  exact rgcd_calls a m ha (by omega) w

theorem size_calls (n : Int) (h1 : -1000000000 ≤ n) (h2 : n ≤ 1000000000) (w : World) : Calls Tryz.prog 248 #[.int .i64 n] w fun e w' => e = .returned (.int .u64 (n.natAbs : Nat)) ∧ w = w' := by
  by_cases h0 : n < 0
  · have hN : Hid ((n.natAbs : Int) = -(n + 1) + 1) := by show _ = _; omega
    go_enter Tryz.func248, Tryz.ntmps248
    go_wp2
    go_ret
    rw [hN.out]
    first | exact ⟨rfl, rfl⟩ | (refine ⟨ret_int ?_, rfl⟩; omega)
  · have hN : Hid ((n.natAbs : Int) = n) := by show _ = _; omega
    have h0' : 0 ≤ n := by omega
    go_enter Tryz.func248, Tryz.ntmps248
    go_wp2
    go_ret
    rw [hN.out]
    exact ⟨rfl, rfl⟩

end Go.Proofs.YtmbhkfclpkopiaaGreatDoor
