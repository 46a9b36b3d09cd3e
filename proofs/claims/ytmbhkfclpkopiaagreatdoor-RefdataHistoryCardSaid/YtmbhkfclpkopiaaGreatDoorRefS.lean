/- giroref21.subject. -/
import Derived.Test.YtmbhkfclpkopiaaGreatDoorRefTA
import Derived.Test.YtmbhkfclpkopiaaGreatDoorRef7
import Derived.Test.YtmbhkfclpkopiaaGreatDoorSetM
namespace Go.Proofs.YtmbhkfclpkopiaaGreatDoor
open Go.RowKit
set_option linter.unusedVariables false
set_option linter.unusedSimpArgs false

theorem fracOk_iff (n d : Int) : fracOk n d = (fracE n d == 0) := by
  unfold fracOk
  rw [Bool.eq_iff_iff]
  simp

theorem encT_arr (e : E) : (encT e).toArray = #[.int .i64 e.kind, .int .i64 e.day, .string e.key, .string e.text, .int .i64 e.n, .int .i64 e.num, .int .i64 e.den, .bool e.active] := rfl


set_option maxHeartbeats 1000000 in
theorem subject_calls (v : Value) (T : List E) (e : E) (w : World) (h : TAt w v T) (hl : T.length ≤ 1000) (hk : e.kind = 0 ∨ e.kind = 1 ∨ e.kind = 2 ∨ e.kind = 3) (hz1 : e.key.size ≤ 9223372036854775807) (hz3 : e.text.size ≤ 9223372036854775807) :
    Calls Tryz.prog 172 #[v, .agg (encT e).toArray] w fun x w' => x = .returned (.int .i64 (refSubject vld fracOk T e)) ∧ Below w.heap.size w w' := by
  obtain ⟨kind, day, key, text, n, num, den, active⟩ := e
  have HB0 : Below w.heap.size w (w.alloc (.cells #[.int .i64 kind, .int .i64 day, .string key, .string text, .int .i64 n, .int .i64 num, .int .i64 den, .bool active] 33)) := (Below.refl _ _).alloc (Nat.le_refl _) _
  have HZ1 := Lib.hid hz1
  have HZ3 := Lib.hid hz3
  have HL := Lib.hid hl
  have HTA := h.below HB0
  have K : Below (w.heap.size + 1) (w.alloc (.cells #[.int .i64 kind, .int .i64 day, .string key, .string text, .int .i64 n, .int .i64 num, .int .i64 den, .bool active] 33)) (w.alloc (.cells #[.int .i64 kind, .int .i64 day, .string key, .string text, .int .i64 n, .int .i64 num, .int .i64 den, .bool active] 33)) := Below.refl _ _
  have FT : Hid (∀ W, Below (w.heap.size + 1) (w.alloc (.cells #[.int .i64 kind, .int .i64 day, .string key, .string text, .int .i64 n, .int .i64 num, .int .i64 den, .bool active] 33)) W → TAt W v T) := fun W hW => HTA.below (hW.mono (by simp))
  have hw : w.heap.size + 1 ≤ (w.alloc (.cells #[.int .i64 kind, .int .i64 day, .string key, .string text, .int .i64 n, .int .i64 num, .int .i64 den, .bool active] 33)).heap.size := by simp
  have c := box_cell K
  clear hz1 hz3 hl h
  simp only [] at hk
  show Calls Tryz.prog 172 #[v, .agg #[.int .i64 kind, .int .i64 day, .string key, .string text, .int .i64 n, .int .i64 num, .int .i64 den, .bool active]] w _
  rcases hk with rfl | rfl | rfl | rfl
  · cases hv : vld 1 key with
    | false =>
      have HX : Hid (refSubject vld fracOk T ⟨0, day, key, text, n, num, den, active⟩ = 6) := by show _ = _; simp [refSubject, hv]
      have HV := Lib.hid hv
      clear hv
      go_enter Tryz.func172, Tryz.ntmps172
      go_wp2_with (first
        | (go_at_call 216; (with_reducible refine (rvalid_calls 0 key _ (.inl rfl) HZ1.out).mono ?_); rintro x w1 ⟨rfl, hb1⟩; rw [HV.out]; replace K := below_over K hb1 hw; replace hw := le_trans' hw hb1.size; replace c := box_cell K; replace HTA := FT.out _ K)
        | (go_at_call 216; (with_reducible refine (rvalid_calls 1 key _ (.inr (.inl rfl)) HZ1.out).mono ?_); rintro x w1 ⟨rfl, hb1⟩; rw [HV.out]; replace K := below_over K hb1 hw; replace hw := le_trans' hw hb1.size; replace c := box_cell K; replace HTA := FT.out _ K)
        | (go_at_call 216; (with_reducible refine (rvalid_calls 3 text _ (.inr (.inr rfl)) HZ3.out).mono ?_); rintro x w1 ⟨rfl, hb1⟩; rw [HV3.out]; replace K := below_over K hb1 hw; replace hw := le_trans' hw hb1.size; replace c := box_cell K; replace HTA := FT.out _ K)
        | (go_at_call 54; (with_reducible refine (rat_calls v T _ _ _ _ HTA HL.out).mono ?_); rintro x w1 ⟨rfl, hb1⟩; rw [HI.out, HE0.out, encT_arr]; replace K := below_over K hb1 hw; replace hw := le_trans' hw hb1.size; replace c := box_cell K; have ca := box_cell (K.alloc hw (.cells #[.int .i64 e0.kind, .int .i64 e0.day, .string e0.key, .string e0.text, .int .i64 e0.n, .int .i64 e0.num, .int .i64 e0.den, .bool e0.active] 33)); replace HTA := FT.out _ K)
        | (go_at_call 217; (with_reducible refine (rfrac_calls num den _).mono ?_); rintro x w1 ⟨rfl, hb1⟩; replace K := below_over (K.alloc hw _) hb1 (le_trans' hw (Nat.le_of_lt (World.size_alloc_lt _ _))); replace hw := le_trans' hw (le_trans' (Nat.le_of_lt (World.size_alloc_lt _ _)) hb1.size); replace c := box_cell K))
      go_ret
      first
        | exact ⟨ret_int HX.out.symm, HB0.trans (K.mono (Nat.le_succ _))⟩
        | exact ⟨ret_int HX.out.symm, HB0.trans ((K.alloc hw _).mono (Nat.le_succ _))⟩
    | true =>
      have HV := Lib.hid hv
      by_cases ht : text = ByteArray.empty
      · have HX : Hid (refSubject vld fracOk T ⟨0, day, key, text, n, num, den, active⟩ = 0) := by show _ = _; simp [refSubject, hv, ht]
        have hte : (text.toList == ([] : List UInt8)) = true := tl_empty.2 ht
        clear hv ht
        go_enter Tryz.func172, Tryz.ntmps172
        go_wp2_with (first
          | (go_at_call 216; (with_reducible refine (rvalid_calls 0 key _ (.inl rfl) HZ1.out).mono ?_); rintro x w1 ⟨rfl, hb1⟩; rw [HV.out]; replace K := below_over K hb1 hw; replace hw := le_trans' hw hb1.size; replace c := box_cell K; replace HTA := FT.out _ K)
          | (go_at_call 216; (with_reducible refine (rvalid_calls 1 key _ (.inr (.inl rfl)) HZ1.out).mono ?_); rintro x w1 ⟨rfl, hb1⟩; rw [HV.out]; replace K := below_over K hb1 hw; replace hw := le_trans' hw hb1.size; replace c := box_cell K; replace HTA := FT.out _ K)
          | (go_at_call 216; (with_reducible refine (rvalid_calls 3 text _ (.inr (.inr rfl)) HZ3.out).mono ?_); rintro x w1 ⟨rfl, hb1⟩; rw [HV3.out]; replace K := below_over K hb1 hw; replace hw := le_trans' hw hb1.size; replace c := box_cell K; replace HTA := FT.out _ K)
          | (go_at_call 54; (with_reducible refine (rat_calls v T _ _ _ _ HTA HL.out).mono ?_); rintro x w1 ⟨rfl, hb1⟩; rw [HI.out, HE0.out, encT_arr]; replace K := below_over K hb1 hw; replace hw := le_trans' hw hb1.size; replace c := box_cell K; have ca := box_cell (K.alloc hw (.cells #[.int .i64 e0.kind, .int .i64 e0.day, .string e0.key, .string e0.text, .int .i64 e0.n, .int .i64 e0.num, .int .i64 e0.den, .bool e0.active] 33)); replace HTA := FT.out _ K)
          | (go_at_call 217; (with_reducible refine (rfrac_calls num den _).mono ?_); rintro x w1 ⟨rfl, hb1⟩; replace K := below_over (K.alloc hw _) hb1 (le_trans' hw (Nat.le_of_lt (World.size_alloc_lt _ _))); replace hw := le_trans' hw (le_trans' (Nat.le_of_lt (World.size_alloc_lt _ _)) hb1.size); replace c := box_cell K))
        go_ret
        first
          | exact ⟨ret_int HX.out.symm, HB0.trans (K.mono (Nat.le_succ _))⟩
          | exact ⟨ret_int HX.out.symm, HB0.trans ((K.alloc hw _).mono (Nat.le_succ _))⟩
      · have hte : (text.toList == ([] : List UInt8)) = false := by rw [Bool.eq_false_iff]; exact fun h => ht (tl_empty.1 h)
        cases h3 : vld 3 text with
        | false =>
          have HX : Hid (refSubject vld fracOk T ⟨0, day, key, text, n, num, den, active⟩ = 3) := by show _ = _; simp [refSubject, hv, ht, h3]
          have HV3 := Lib.hid h3
          clear hv ht h3
          go_enter Tryz.func172, Tryz.ntmps172
          go_wp2_with (first
            | (go_at_call 216; (with_reducible refine (rvalid_calls 0 key _ (.inl rfl) HZ1.out).mono ?_); rintro x w1 ⟨rfl, hb1⟩; rw [HV.out]; replace K := below_over K hb1 hw; replace hw := le_trans' hw hb1.size; replace c := box_cell K; replace HTA := FT.out _ K)
            | (go_at_call 216; (with_reducible refine (rvalid_calls 1 key _ (.inr (.inl rfl)) HZ1.out).mono ?_); rintro x w1 ⟨rfl, hb1⟩; rw [HV.out]; replace K := below_over K hb1 hw; replace hw := le_trans' hw hb1.size; replace c := box_cell K; replace HTA := FT.out _ K)
            | (go_at_call 216; (with_reducible refine (rvalid_calls 3 text _ (.inr (.inr rfl)) HZ3.out).mono ?_); rintro x w1 ⟨rfl, hb1⟩; rw [HV3.out]; replace K := below_over K hb1 hw; replace hw := le_trans' hw hb1.size; replace c := box_cell K; replace HTA := FT.out _ K)
            | (go_at_call 54; (with_reducible refine (rat_calls v T _ _ _ _ HTA HL.out).mono ?_); rintro x w1 ⟨rfl, hb1⟩; rw [HI.out, HE0.out, encT_arr]; replace K := below_over K hb1 hw; replace hw := le_trans' hw hb1.size; replace c := box_cell K; have ca := box_cell (K.alloc hw (.cells #[.int .i64 e0.kind, .int .i64 e0.day, .string e0.key, .string e0.text, .int .i64 e0.n, .int .i64 e0.num, .int .i64 e0.den, .bool e0.active] 33)); replace HTA := FT.out _ K)
            | (go_at_call 217; (with_reducible refine (rfrac_calls num den _).mono ?_); rintro x w1 ⟨rfl, hb1⟩; replace K := below_over (K.alloc hw _) hb1 (le_trans' hw (Nat.le_of_lt (World.size_alloc_lt _ _))); replace hw := le_trans' hw (le_trans' (Nat.le_of_lt (World.size_alloc_lt _ _)) hb1.size); replace c := box_cell K))
          go_ret
          first
            | exact ⟨ret_int HX.out.symm, HB0.trans (K.mono (Nat.le_succ _))⟩
            | exact ⟨ret_int HX.out.symm, HB0.trans ((K.alloc hw _).mono (Nat.le_succ _))⟩
        | true =>
          have HX : Hid (refSubject vld fracOk T ⟨0, day, key, text, n, num, den, active⟩ = 0) := by show _ = _; simp [refSubject, hv, ht, h3]
          have HV3 := Lib.hid h3
          clear hv ht h3
          go_enter Tryz.func172, Tryz.ntmps172
          go_wp2_with (first
            | (go_at_call 216; (with_reducible refine (rvalid_calls 0 key _ (.inl rfl) HZ1.out).mono ?_); rintro x w1 ⟨rfl, hb1⟩; rw [HV.out]; replace K := below_over K hb1 hw; replace hw := le_trans' hw hb1.size; replace c := box_cell K; replace HTA := FT.out _ K)
            | (go_at_call 216; (with_reducible refine (rvalid_calls 1 key _ (.inr (.inl rfl)) HZ1.out).mono ?_); rintro x w1 ⟨rfl, hb1⟩; rw [HV.out]; replace K := below_over K hb1 hw; replace hw := le_trans' hw hb1.size; replace c := box_cell K; replace HTA := FT.out _ K)
            | (go_at_call 216; (with_reducible refine (rvalid_calls 3 text _ (.inr (.inr rfl)) HZ3.out).mono ?_); rintro x w1 ⟨rfl, hb1⟩; rw [HV3.out]; replace K := below_over K hb1 hw; replace hw := le_trans' hw hb1.size; replace c := box_cell K; replace HTA := FT.out _ K)
            | (go_at_call 54; (with_reducible refine (rat_calls v T _ _ _ _ HTA HL.out).mono ?_); rintro x w1 ⟨rfl, hb1⟩; rw [HI.out, HE0.out, encT_arr]; replace K := below_over K hb1 hw; replace hw := le_trans' hw hb1.size; replace c := box_cell K; have ca := box_cell (K.alloc hw (.cells #[.int .i64 e0.kind, .int .i64 e0.day, .string e0.key, .string e0.text, .int .i64 e0.n, .int .i64 e0.num, .int .i64 e0.den, .bool e0.active] 33)); replace HTA := FT.out _ K)
            | (go_at_call 217; (with_reducible refine (rfrac_calls num den _).mono ?_); rintro x w1 ⟨rfl, hb1⟩; replace K := below_over (K.alloc hw _) hb1 (le_trans' hw (Nat.le_of_lt (World.size_alloc_lt _ _))); replace hw := le_trans' hw (le_trans' (Nat.le_of_lt (World.size_alloc_lt _ _)) hb1.size); replace c := box_cell K))
          go_ret
          first
            | exact ⟨ret_int HX.out.symm, HB0.trans (K.mono (Nat.le_succ _))⟩
            | exact ⟨ret_int HX.out.symm, HB0.trans ((K.alloc hw _).mono (Nat.le_succ _))⟩
  · cases hv : vld 0 key with
    | false =>
      have HX : Hid (refSubject vld fracOk T ⟨1, day, key, text, n, num, den, active⟩ = 6) := by show _ = _; simp [refSubject, hv]
      have HV := Lib.hid hv
      clear hv
      go_enter Tryz.func172, Tryz.ntmps172
      go_wp2_with (first
        | (go_at_call 216; (with_reducible refine (rvalid_calls 0 key _ (.inl rfl) HZ1.out).mono ?_); rintro x w1 ⟨rfl, hb1⟩; rw [HV.out]; replace K := below_over K hb1 hw; replace hw := le_trans' hw hb1.size; replace c := box_cell K; replace HTA := FT.out _ K)
        | (go_at_call 216; (with_reducible refine (rvalid_calls 1 key _ (.inr (.inl rfl)) HZ1.out).mono ?_); rintro x w1 ⟨rfl, hb1⟩; rw [HV.out]; replace K := below_over K hb1 hw; replace hw := le_trans' hw hb1.size; replace c := box_cell K; replace HTA := FT.out _ K)
        | (go_at_call 216; (with_reducible refine (rvalid_calls 3 text _ (.inr (.inr rfl)) HZ3.out).mono ?_); rintro x w1 ⟨rfl, hb1⟩; rw [HV3.out]; replace K := below_over K hb1 hw; replace hw := le_trans' hw hb1.size; replace c := box_cell K; replace HTA := FT.out _ K)
        | (go_at_call 54; (with_reducible refine (rat_calls v T _ _ _ _ HTA HL.out).mono ?_); rintro x w1 ⟨rfl, hb1⟩; rw [HI.out, HE0.out, encT_arr]; replace K := below_over K hb1 hw; replace hw := le_trans' hw hb1.size; replace c := box_cell K; have ca := box_cell (K.alloc hw (.cells #[.int .i64 e0.kind, .int .i64 e0.day, .string e0.key, .string e0.text, .int .i64 e0.n, .int .i64 e0.num, .int .i64 e0.den, .bool e0.active] 33)); replace HTA := FT.out _ K)
        | (go_at_call 217; (with_reducible refine (rfrac_calls num den _).mono ?_); rintro x w1 ⟨rfl, hb1⟩; replace K := below_over (K.alloc hw _) hb1 (le_trans' hw (Nat.le_of_lt (World.size_alloc_lt _ _))); replace hw := le_trans' hw (le_trans' (Nat.le_of_lt (World.size_alloc_lt _ _)) hb1.size); replace c := box_cell K))
      go_ret
      first
        | exact ⟨ret_int HX.out.symm, HB0.trans (K.mono (Nat.le_succ _))⟩
        | exact ⟨ret_int HX.out.symm, HB0.trans ((K.alloc hw _).mono (Nat.le_succ _))⟩
    | true =>
      have HV := Lib.hid hv
      obtain ⟨e0, he0⟩ : ∃ e0, (refAt T 0 day text).getD zE = e0 := ⟨_, rfl⟩
      have HE0 := Lib.hid he0
      clear he0
      cases hi : (refAt T 0 day text).isSome with
      | false =>
        have HX : Hid (refSubject vld fracOk T ⟨1, day, key, text, n, num, den, active⟩ = 9) := by show _ = _; simp [refSubject, hv, hi]
        have HI := Lib.hid hi
        clear hv hi
        go_enter Tryz.func172, Tryz.ntmps172
        go_wp2_with (first
          | (go_at_call 216; (with_reducible refine (rvalid_calls 0 key _ (.inl rfl) HZ1.out).mono ?_); rintro x w1 ⟨rfl, hb1⟩; rw [HV.out]; replace K := below_over K hb1 hw; replace hw := le_trans' hw hb1.size; replace c := box_cell K; replace HTA := FT.out _ K)
          | (go_at_call 216; (with_reducible refine (rvalid_calls 1 key _ (.inr (.inl rfl)) HZ1.out).mono ?_); rintro x w1 ⟨rfl, hb1⟩; rw [HV.out]; replace K := below_over K hb1 hw; replace hw := le_trans' hw hb1.size; replace c := box_cell K; replace HTA := FT.out _ K)
          | (go_at_call 216; (with_reducible refine (rvalid_calls 3 text _ (.inr (.inr rfl)) HZ3.out).mono ?_); rintro x w1 ⟨rfl, hb1⟩; rw [HV3.out]; replace K := below_over K hb1 hw; replace hw := le_trans' hw hb1.size; replace c := box_cell K; replace HTA := FT.out _ K)
          | (go_at_call 54; (with_reducible refine (rat_calls v T _ _ _ _ HTA HL.out).mono ?_); rintro x w1 ⟨rfl, hb1⟩; rw [HI.out, HE0.out, encT_arr]; replace K := below_over K hb1 hw; replace hw := le_trans' hw hb1.size; replace c := box_cell K; have ca := box_cell (K.alloc hw (.cells #[.int .i64 e0.kind, .int .i64 e0.day, .string e0.key, .string e0.text, .int .i64 e0.n, .int .i64 e0.num, .int .i64 e0.den, .bool e0.active] 33)); replace HTA := FT.out _ K)
          | (go_at_call 217; (with_reducible refine (rfrac_calls num den _).mono ?_); rintro x w1 ⟨rfl, hb1⟩; replace K := below_over (K.alloc hw _) hb1 (le_trans' hw (Nat.le_of_lt (World.size_alloc_lt _ _))); replace hw := le_trans' hw (le_trans' (Nat.le_of_lt (World.size_alloc_lt _ _)) hb1.size); replace c := box_cell K))
        go_ret
        first
          | exact ⟨ret_int HX.out.symm, HB0.trans (K.mono (Nat.le_succ _))⟩
          | exact ⟨ret_int HX.out.symm, HB0.trans ((K.alloc hw _).mono (Nat.le_succ _))⟩
      | true =>
        have HI := Lib.hid hi
        by_cases h1 : n < 1
        · have HX : Hid (refSubject vld fracOk T ⟨1, day, key, text, n, num, den, active⟩ = 2) := by show _ = _; simp [refSubject, hv, hi, h1]
          clear hv hi
          go_enter Tryz.func172, Tryz.ntmps172
          go_wp2_with (first
            | (go_at_call 216; (with_reducible refine (rvalid_calls 0 key _ (.inl rfl) HZ1.out).mono ?_); rintro x w1 ⟨rfl, hb1⟩; rw [HV.out]; replace K := below_over K hb1 hw; replace hw := le_trans' hw hb1.size; replace c := box_cell K; replace HTA := FT.out _ K)
            | (go_at_call 216; (with_reducible refine (rvalid_calls 1 key _ (.inr (.inl rfl)) HZ1.out).mono ?_); rintro x w1 ⟨rfl, hb1⟩; rw [HV.out]; replace K := below_over K hb1 hw; replace hw := le_trans' hw hb1.size; replace c := box_cell K; replace HTA := FT.out _ K)
            | (go_at_call 216; (with_reducible refine (rvalid_calls 3 text _ (.inr (.inr rfl)) HZ3.out).mono ?_); rintro x w1 ⟨rfl, hb1⟩; rw [HV3.out]; replace K := below_over K hb1 hw; replace hw := le_trans' hw hb1.size; replace c := box_cell K; replace HTA := FT.out _ K)
            | (go_at_call 54; (with_reducible refine (rat_calls v T _ _ _ _ HTA HL.out).mono ?_); rintro x w1 ⟨rfl, hb1⟩; rw [HI.out, HE0.out, encT_arr]; replace K := below_over K hb1 hw; replace hw := le_trans' hw hb1.size; replace c := box_cell K; have ca := box_cell (K.alloc hw (.cells #[.int .i64 e0.kind, .int .i64 e0.day, .string e0.key, .string e0.text, .int .i64 e0.n, .int .i64 e0.num, .int .i64 e0.den, .bool e0.active] 33)); replace HTA := FT.out _ K)
            | (go_at_call 217; (with_reducible refine (rfrac_calls num den _).mono ?_); rintro x w1 ⟨rfl, hb1⟩; replace K := below_over (K.alloc hw _) hb1 (le_trans' hw (Nat.le_of_lt (World.size_alloc_lt _ _))); replace hw := le_trans' hw (le_trans' (Nat.le_of_lt (World.size_alloc_lt _ _)) hb1.size); replace c := box_cell K))
          go_ret
          first
            | exact ⟨ret_int HX.out.symm, HB0.trans (K.mono (Nat.le_succ _))⟩
            | exact ⟨ret_int HX.out.symm, HB0.trans ((K.alloc hw _).mono (Nat.le_succ _))⟩
        · by_cases h2 : 1000000000000000 < n
          · have HX : Hid (refSubject vld fracOk T ⟨1, day, key, text, n, num, den, active⟩ = 2) := by show _ = _; simp [refSubject, hv, hi, h2]
            have h1' : decide (n < 1) = false := by simpa using h1
            clear hv hi h1
            go_enter Tryz.func172, Tryz.ntmps172
            go_wp2_with (first
              | (go_at_call 216; (with_reducible refine (rvalid_calls 0 key _ (.inl rfl) HZ1.out).mono ?_); rintro x w1 ⟨rfl, hb1⟩; rw [HV.out]; replace K := below_over K hb1 hw; replace hw := le_trans' hw hb1.size; replace c := box_cell K; replace HTA := FT.out _ K)
              | (go_at_call 216; (with_reducible refine (rvalid_calls 1 key _ (.inr (.inl rfl)) HZ1.out).mono ?_); rintro x w1 ⟨rfl, hb1⟩; rw [HV.out]; replace K := below_over K hb1 hw; replace hw := le_trans' hw hb1.size; replace c := box_cell K; replace HTA := FT.out _ K)
              | (go_at_call 216; (with_reducible refine (rvalid_calls 3 text _ (.inr (.inr rfl)) HZ3.out).mono ?_); rintro x w1 ⟨rfl, hb1⟩; rw [HV3.out]; replace K := below_over K hb1 hw; replace hw := le_trans' hw hb1.size; replace c := box_cell K; replace HTA := FT.out _ K)
              | (go_at_call 54; (with_reducible refine (rat_calls v T _ _ _ _ HTA HL.out).mono ?_); rintro x w1 ⟨rfl, hb1⟩; rw [HI.out, HE0.out, encT_arr]; replace K := below_over K hb1 hw; replace hw := le_trans' hw hb1.size; replace c := box_cell K; have ca := box_cell (K.alloc hw (.cells #[.int .i64 e0.kind, .int .i64 e0.day, .string e0.key, .string e0.text, .int .i64 e0.n, .int .i64 e0.num, .int .i64 e0.den, .bool e0.active] 33)); replace HTA := FT.out _ K)
              | (go_at_call 217; (with_reducible refine (rfrac_calls num den _).mono ?_); rintro x w1 ⟨rfl, hb1⟩; replace K := below_over (K.alloc hw _) hb1 (le_trans' hw (Nat.le_of_lt (World.size_alloc_lt _ _))); replace hw := le_trans' hw (le_trans' (Nat.le_of_lt (World.size_alloc_lt _ _)) hb1.size); replace c := box_cell K))
            go_ret
            first
              | exact ⟨ret_int HX.out.symm, HB0.trans (K.mono (Nat.le_succ _))⟩
              | exact ⟨ret_int HX.out.symm, HB0.trans ((K.alloc hw _).mono (Nat.le_succ _))⟩
          · have HX : Hid (refSubject vld fracOk T ⟨1, day, key, text, n, num, den, active⟩ = 0) := by show _ = _; simp [refSubject, hv, hi, h1, h2]
            have h1' : decide (n < 1) = false := by simpa using h1
            have h2' : decide (1000000000000000 < n) = false := by simpa using h2
            clear hv hi h1 h2
            go_enter Tryz.func172, Tryz.ntmps172
            go_wp2_with (first
              | (go_at_call 216; (with_reducible refine (rvalid_calls 0 key _ (.inl rfl) HZ1.out).mono ?_); rintro x w1 ⟨rfl, hb1⟩; rw [HV.out]; replace K := below_over K hb1 hw; replace hw := le_trans' hw hb1.size; replace c := box_cell K; replace HTA := FT.out _ K)
              | (go_at_call 216; (with_reducible refine (rvalid_calls 1 key _ (.inr (.inl rfl)) HZ1.out).mono ?_); rintro x w1 ⟨rfl, hb1⟩; rw [HV.out]; replace K := below_over K hb1 hw; replace hw := le_trans' hw hb1.size; replace c := box_cell K; replace HTA := FT.out _ K)
              | (go_at_call 216; (with_reducible refine (rvalid_calls 3 text _ (.inr (.inr rfl)) HZ3.out).mono ?_); rintro x w1 ⟨rfl, hb1⟩; rw [HV3.out]; replace K := below_over K hb1 hw; replace hw := le_trans' hw hb1.size; replace c := box_cell K; replace HTA := FT.out _ K)
              | (go_at_call 54; (with_reducible refine (rat_calls v T _ _ _ _ HTA HL.out).mono ?_); rintro x w1 ⟨rfl, hb1⟩; rw [HI.out, HE0.out, encT_arr]; replace K := below_over K hb1 hw; replace hw := le_trans' hw hb1.size; replace c := box_cell K; have ca := box_cell (K.alloc hw (.cells #[.int .i64 e0.kind, .int .i64 e0.day, .string e0.key, .string e0.text, .int .i64 e0.n, .int .i64 e0.num, .int .i64 e0.den, .bool e0.active] 33)); replace HTA := FT.out _ K)
              | (go_at_call 217; (with_reducible refine (rfrac_calls num den _).mono ?_); rintro x w1 ⟨rfl, hb1⟩; replace K := below_over (K.alloc hw _) hb1 (le_trans' hw (Nat.le_of_lt (World.size_alloc_lt _ _))); replace hw := le_trans' hw (le_trans' (Nat.le_of_lt (World.size_alloc_lt _ _)) hb1.size); replace c := box_cell K))
            go_ret
            first
              | exact ⟨ret_int HX.out.symm, HB0.trans (K.mono (Nat.le_succ _))⟩
              | exact ⟨ret_int HX.out.symm, HB0.trans ((K.alloc hw _).mono (Nat.le_succ _))⟩
  · obtain ⟨e0, he0⟩ : ∃ e0, (refAt T 1 day key).getD zE = e0 := ⟨_, rfl⟩
    have HE0 := Lib.hid he0
    clear he0
    cases hi : (refAt T 1 day key).isSome with
    | false =>
      have HX : Hid (refSubject vld fracOk T ⟨2, day, key, text, n, num, den, active⟩ = 9) := by show _ = _; simp [refSubject, hi]
      have HI := Lib.hid hi
      clear hi
      go_enter Tryz.func172, Tryz.ntmps172
      go_wp2_with (first
        | (go_at_call 216; (with_reducible refine (rvalid_calls 0 key _ (.inl rfl) HZ1.out).mono ?_); rintro x w1 ⟨rfl, hb1⟩; rw [HV.out]; replace K := below_over K hb1 hw; replace hw := le_trans' hw hb1.size; replace c := box_cell K; replace HTA := FT.out _ K)
        | (go_at_call 216; (with_reducible refine (rvalid_calls 1 key _ (.inr (.inl rfl)) HZ1.out).mono ?_); rintro x w1 ⟨rfl, hb1⟩; rw [HV.out]; replace K := below_over K hb1 hw; replace hw := le_trans' hw hb1.size; replace c := box_cell K; replace HTA := FT.out _ K)
        | (go_at_call 216; (with_reducible refine (rvalid_calls 3 text _ (.inr (.inr rfl)) HZ3.out).mono ?_); rintro x w1 ⟨rfl, hb1⟩; rw [HV3.out]; replace K := below_over K hb1 hw; replace hw := le_trans' hw hb1.size; replace c := box_cell K; replace HTA := FT.out _ K)
        | (go_at_call 54; (with_reducible refine (rat_calls v T _ _ _ _ HTA HL.out).mono ?_); rintro x w1 ⟨rfl, hb1⟩; rw [HI.out, HE0.out, encT_arr]; replace K := below_over K hb1 hw; replace hw := le_trans' hw hb1.size; replace c := box_cell K; have ca := box_cell (K.alloc hw (.cells #[.int .i64 e0.kind, .int .i64 e0.day, .string e0.key, .string e0.text, .int .i64 e0.n, .int .i64 e0.num, .int .i64 e0.den, .bool e0.active] 33)); replace HTA := FT.out _ K)
        | (go_at_call 217; (with_reducible refine (rfrac_calls num den _).mono ?_); rintro x w1 ⟨rfl, hb1⟩; replace K := below_over (K.alloc hw _) hb1 (le_trans' hw (Nat.le_of_lt (World.size_alloc_lt _ _))); replace hw := le_trans' hw (le_trans' (Nat.le_of_lt (World.size_alloc_lt _ _)) hb1.size); replace c := box_cell K))
      go_ret
      first
        | exact ⟨ret_int HX.out.symm, HB0.trans (K.mono (Nat.le_succ _))⟩
        | exact ⟨ret_int HX.out.symm, HB0.trans ((K.alloc hw _).mono (Nat.le_succ _))⟩
    | true =>
      have HI := Lib.hid hi
      by_cases h1 : n < 1
      · have HX : Hid (refSubject vld fracOk T ⟨2, day, key, text, n, num, den, active⟩ = 2) := by show _ = _; simp [refSubject, hi, h1]
        clear hi
        go_enter Tryz.func172, Tryz.ntmps172
        go_wp2_with (first
          | (go_at_call 216; (with_reducible refine (rvalid_calls 0 key _ (.inl rfl) HZ1.out).mono ?_); rintro x w1 ⟨rfl, hb1⟩; rw [HV.out]; replace K := below_over K hb1 hw; replace hw := le_trans' hw hb1.size; replace c := box_cell K; replace HTA := FT.out _ K)
          | (go_at_call 216; (with_reducible refine (rvalid_calls 1 key _ (.inr (.inl rfl)) HZ1.out).mono ?_); rintro x w1 ⟨rfl, hb1⟩; rw [HV.out]; replace K := below_over K hb1 hw; replace hw := le_trans' hw hb1.size; replace c := box_cell K; replace HTA := FT.out _ K)
          | (go_at_call 216; (with_reducible refine (rvalid_calls 3 text _ (.inr (.inr rfl)) HZ3.out).mono ?_); rintro x w1 ⟨rfl, hb1⟩; rw [HV3.out]; replace K := below_over K hb1 hw; replace hw := le_trans' hw hb1.size; replace c := box_cell K; replace HTA := FT.out _ K)
          | (go_at_call 54; (with_reducible refine (rat_calls v T _ _ _ _ HTA HL.out).mono ?_); rintro x w1 ⟨rfl, hb1⟩; rw [HI.out, HE0.out, encT_arr]; replace K := below_over K hb1 hw; replace hw := le_trans' hw hb1.size; replace c := box_cell K; have ca := box_cell (K.alloc hw (.cells #[.int .i64 e0.kind, .int .i64 e0.day, .string e0.key, .string e0.text, .int .i64 e0.n, .int .i64 e0.num, .int .i64 e0.den, .bool e0.active] 33)); replace HTA := FT.out _ K)
          | (go_at_call 217; (with_reducible refine (rfrac_calls num den _).mono ?_); rintro x w1 ⟨rfl, hb1⟩; replace K := below_over (K.alloc hw _) hb1 (le_trans' hw (Nat.le_of_lt (World.size_alloc_lt _ _))); replace hw := le_trans' hw (le_trans' (Nat.le_of_lt (World.size_alloc_lt _ _)) hb1.size); replace c := box_cell K))
        go_ret
        first
          | exact ⟨ret_int HX.out.symm, HB0.trans (K.mono (Nat.le_succ _))⟩
          | exact ⟨ret_int HX.out.symm, HB0.trans ((K.alloc hw _).mono (Nat.le_succ _))⟩
      · by_cases h2 : 1000000000 < n
        · have HX : Hid (refSubject vld fracOk T ⟨2, day, key, text, n, num, den, active⟩ = 2) := by show _ = _; simp [refSubject, hi, h2]
          have h1' : decide (n < 1) = false := by simpa using h1
          clear hi h1
          go_enter Tryz.func172, Tryz.ntmps172
          go_wp2_with (first
            | (go_at_call 216; (with_reducible refine (rvalid_calls 0 key _ (.inl rfl) HZ1.out).mono ?_); rintro x w1 ⟨rfl, hb1⟩; rw [HV.out]; replace K := below_over K hb1 hw; replace hw := le_trans' hw hb1.size; replace c := box_cell K; replace HTA := FT.out _ K)
            | (go_at_call 216; (with_reducible refine (rvalid_calls 1 key _ (.inr (.inl rfl)) HZ1.out).mono ?_); rintro x w1 ⟨rfl, hb1⟩; rw [HV.out]; replace K := below_over K hb1 hw; replace hw := le_trans' hw hb1.size; replace c := box_cell K; replace HTA := FT.out _ K)
            | (go_at_call 216; (with_reducible refine (rvalid_calls 3 text _ (.inr (.inr rfl)) HZ3.out).mono ?_); rintro x w1 ⟨rfl, hb1⟩; rw [HV3.out]; replace K := below_over K hb1 hw; replace hw := le_trans' hw hb1.size; replace c := box_cell K; replace HTA := FT.out _ K)
            | (go_at_call 54; (with_reducible refine (rat_calls v T _ _ _ _ HTA HL.out).mono ?_); rintro x w1 ⟨rfl, hb1⟩; rw [HI.out, HE0.out, encT_arr]; replace K := below_over K hb1 hw; replace hw := le_trans' hw hb1.size; replace c := box_cell K; have ca := box_cell (K.alloc hw (.cells #[.int .i64 e0.kind, .int .i64 e0.day, .string e0.key, .string e0.text, .int .i64 e0.n, .int .i64 e0.num, .int .i64 e0.den, .bool e0.active] 33)); replace HTA := FT.out _ K)
            | (go_at_call 217; (with_reducible refine (rfrac_calls num den _).mono ?_); rintro x w1 ⟨rfl, hb1⟩; replace K := below_over (K.alloc hw _) hb1 (le_trans' hw (Nat.le_of_lt (World.size_alloc_lt _ _))); replace hw := le_trans' hw (le_trans' (Nat.le_of_lt (World.size_alloc_lt _ _)) hb1.size); replace c := box_cell K))
          go_ret
          first
            | exact ⟨ret_int HX.out.symm, HB0.trans (K.mono (Nat.le_succ _))⟩
            | exact ⟨ret_int HX.out.symm, HB0.trans ((K.alloc hw _).mono (Nat.le_succ _))⟩
        · have HX : Hid (refSubject vld fracOk T ⟨2, day, key, text, n, num, den, active⟩ = 0) := by show _ = _; simp [refSubject, hi, h1, h2]
          have h1' : decide (n < 1) = false := by simpa using h1
          have h2' : decide (1000000000 < n) = false := by simpa using h2
          clear hi h1 h2
          go_enter Tryz.func172, Tryz.ntmps172
          go_wp2_with (first
            | (go_at_call 216; (with_reducible refine (rvalid_calls 0 key _ (.inl rfl) HZ1.out).mono ?_); rintro x w1 ⟨rfl, hb1⟩; rw [HV.out]; replace K := below_over K hb1 hw; replace hw := le_trans' hw hb1.size; replace c := box_cell K; replace HTA := FT.out _ K)
            | (go_at_call 216; (with_reducible refine (rvalid_calls 1 key _ (.inr (.inl rfl)) HZ1.out).mono ?_); rintro x w1 ⟨rfl, hb1⟩; rw [HV.out]; replace K := below_over K hb1 hw; replace hw := le_trans' hw hb1.size; replace c := box_cell K; replace HTA := FT.out _ K)
            | (go_at_call 216; (with_reducible refine (rvalid_calls 3 text _ (.inr (.inr rfl)) HZ3.out).mono ?_); rintro x w1 ⟨rfl, hb1⟩; rw [HV3.out]; replace K := below_over K hb1 hw; replace hw := le_trans' hw hb1.size; replace c := box_cell K; replace HTA := FT.out _ K)
            | (go_at_call 54; (with_reducible refine (rat_calls v T _ _ _ _ HTA HL.out).mono ?_); rintro x w1 ⟨rfl, hb1⟩; rw [HI.out, HE0.out, encT_arr]; replace K := below_over K hb1 hw; replace hw := le_trans' hw hb1.size; replace c := box_cell K; have ca := box_cell (K.alloc hw (.cells #[.int .i64 e0.kind, .int .i64 e0.day, .string e0.key, .string e0.text, .int .i64 e0.n, .int .i64 e0.num, .int .i64 e0.den, .bool e0.active] 33)); replace HTA := FT.out _ K)
            | (go_at_call 217; (with_reducible refine (rfrac_calls num den _).mono ?_); rintro x w1 ⟨rfl, hb1⟩; replace K := below_over (K.alloc hw _) hb1 (le_trans' hw (Nat.le_of_lt (World.size_alloc_lt _ _))); replace hw := le_trans' hw (le_trans' (Nat.le_of_lt (World.size_alloc_lt _ _)) hb1.size); replace c := box_cell K))
          go_ret
          first
            | exact ⟨ret_int HX.out.symm, HB0.trans (K.mono (Nat.le_succ _))⟩
            | exact ⟨ret_int HX.out.symm, HB0.trans ((K.alloc hw _).mono (Nat.le_succ _))⟩
  · obtain ⟨e0, he0⟩ : ∃ e0, (refAt T 1 day key).getD zE = e0 := ⟨_, rfl⟩
    have HE0 := Lib.hid he0
    clear he0
    cases hi : (refAt T 1 day key).isSome with
    | false =>
      have HX : Hid (refSubject vld fracOk T ⟨3, day, key, text, n, num, den, active⟩ = 9) := by show _ = _; simp [refSubject, hi]
      have HI := Lib.hid hi
      clear hi
      go_enter Tryz.func172, Tryz.ntmps172
      go_wp2_with (first
        | (go_at_call 216; (with_reducible refine (rvalid_calls 0 key _ (.inl rfl) HZ1.out).mono ?_); rintro x w1 ⟨rfl, hb1⟩; rw [HV.out]; replace K := below_over K hb1 hw; replace hw := le_trans' hw hb1.size; replace c := box_cell K; replace HTA := FT.out _ K)
        | (go_at_call 216; (with_reducible refine (rvalid_calls 1 key _ (.inr (.inl rfl)) HZ1.out).mono ?_); rintro x w1 ⟨rfl, hb1⟩; rw [HV.out]; replace K := below_over K hb1 hw; replace hw := le_trans' hw hb1.size; replace c := box_cell K; replace HTA := FT.out _ K)
        | (go_at_call 216; (with_reducible refine (rvalid_calls 3 text _ (.inr (.inr rfl)) HZ3.out).mono ?_); rintro x w1 ⟨rfl, hb1⟩; rw [HV3.out]; replace K := below_over K hb1 hw; replace hw := le_trans' hw hb1.size; replace c := box_cell K; replace HTA := FT.out _ K)
        | (go_at_call 54; (with_reducible refine (rat_calls v T _ _ _ _ HTA HL.out).mono ?_); rintro x w1 ⟨rfl, hb1⟩; rw [HI.out, HE0.out, encT_arr]; replace K := below_over K hb1 hw; replace hw := le_trans' hw hb1.size; replace c := box_cell K; have ca := box_cell (K.alloc hw (.cells #[.int .i64 e0.kind, .int .i64 e0.day, .string e0.key, .string e0.text, .int .i64 e0.n, .int .i64 e0.num, .int .i64 e0.den, .bool e0.active] 33)); replace HTA := FT.out _ K)
        | (go_at_call 217; (with_reducible refine (rfrac_calls num den _).mono ?_); rintro x w1 ⟨rfl, hb1⟩; replace K := below_over (K.alloc hw _) hb1 (le_trans' hw (Nat.le_of_lt (World.size_alloc_lt _ _))); replace hw := le_trans' hw (le_trans' (Nat.le_of_lt (World.size_alloc_lt _ _)) hb1.size); replace c := box_cell K))
      go_ret
      first
        | exact ⟨ret_int HX.out.symm, HB0.trans (K.mono (Nat.le_succ _))⟩
        | exact ⟨ret_int HX.out.symm, HB0.trans ((K.alloc hw _).mono (Nat.le_succ _))⟩
    | true =>
      have HI := Lib.hid hi
      cases hf : (fracE num den == 0) with
      | false =>
        have HX : Hid (refSubject vld fracOk T ⟨3, day, key, text, n, num, den, active⟩ = 2) := by show _ = _; simp [refSubject, hi, fracOk_iff, hf]
        have hf' : ¬ fracE num den = 0 := by simpa using hf
        clear hi
        go_enter Tryz.func172, Tryz.ntmps172
        go_wp2_with (first
          | (go_at_call 216; (with_reducible refine (rvalid_calls 0 key _ (.inl rfl) HZ1.out).mono ?_); rintro x w1 ⟨rfl, hb1⟩; rw [HV.out]; replace K := below_over K hb1 hw; replace hw := le_trans' hw hb1.size; replace c := box_cell K; replace HTA := FT.out _ K)
          | (go_at_call 216; (with_reducible refine (rvalid_calls 1 key _ (.inr (.inl rfl)) HZ1.out).mono ?_); rintro x w1 ⟨rfl, hb1⟩; rw [HV.out]; replace K := below_over K hb1 hw; replace hw := le_trans' hw hb1.size; replace c := box_cell K; replace HTA := FT.out _ K)
          | (go_at_call 216; (with_reducible refine (rvalid_calls 3 text _ (.inr (.inr rfl)) HZ3.out).mono ?_); rintro x w1 ⟨rfl, hb1⟩; rw [HV3.out]; replace K := below_over K hb1 hw; replace hw := le_trans' hw hb1.size; replace c := box_cell K; replace HTA := FT.out _ K)
          | (go_at_call 54; (with_reducible refine (rat_calls v T _ _ _ _ HTA HL.out).mono ?_); rintro x w1 ⟨rfl, hb1⟩; rw [HI.out, HE0.out, encT_arr]; replace K := below_over K hb1 hw; replace hw := le_trans' hw hb1.size; replace c := box_cell K; have ca := box_cell (K.alloc hw (.cells #[.int .i64 e0.kind, .int .i64 e0.day, .string e0.key, .string e0.text, .int .i64 e0.n, .int .i64 e0.num, .int .i64 e0.den, .bool e0.active] 33)); replace HTA := FT.out _ K)
          | (go_at_call 217; (with_reducible refine (rfrac_calls num den _).mono ?_); rintro x w1 ⟨rfl, hb1⟩; replace K := below_over (K.alloc hw _) hb1 (le_trans' hw (Nat.le_of_lt (World.size_alloc_lt _ _))); replace hw := le_trans' hw (le_trans' (Nat.le_of_lt (World.size_alloc_lt _ _)) hb1.size); replace c := box_cell K))
        go_ret
        first
          | exact ⟨ret_int HX.out.symm, HB0.trans (K.mono (Nat.le_succ _))⟩
          | exact ⟨ret_int HX.out.symm, HB0.trans ((K.alloc hw _).mono (Nat.le_succ _))⟩
      | true =>
        have hf' : fracE num den = 0 := by simpa using hf
        by_cases h1 : num < 0
        · have HX : Hid (refSubject vld fracOk T ⟨3, day, key, text, n, num, den, active⟩ = 2) := by show _ = _; simp [refSubject, hi, fracOk_iff, hf, h1]
          have h1n : ¬ 0 ≤ num := by omega
          clear hi
          go_enter Tryz.func172, Tryz.ntmps172
          go_wp2_with (first
            | (go_at_call 216; (with_reducible refine (rvalid_calls 0 key _ (.inl rfl) HZ1.out).mono ?_); rintro x w1 ⟨rfl, hb1⟩; rw [HV.out]; replace K := below_over K hb1 hw; replace hw := le_trans' hw hb1.size; replace c := box_cell K; replace HTA := FT.out _ K)
            | (go_at_call 216; (with_reducible refine (rvalid_calls 1 key _ (.inr (.inl rfl)) HZ1.out).mono ?_); rintro x w1 ⟨rfl, hb1⟩; rw [HV.out]; replace K := below_over K hb1 hw; replace hw := le_trans' hw hb1.size; replace c := box_cell K; replace HTA := FT.out _ K)
            | (go_at_call 216; (with_reducible refine (rvalid_calls 3 text _ (.inr (.inr rfl)) HZ3.out).mono ?_); rintro x w1 ⟨rfl, hb1⟩; rw [HV3.out]; replace K := below_over K hb1 hw; replace hw := le_trans' hw hb1.size; replace c := box_cell K; replace HTA := FT.out _ K)
            | (go_at_call 54; (with_reducible refine (rat_calls v T _ _ _ _ HTA HL.out).mono ?_); rintro x w1 ⟨rfl, hb1⟩; rw [HI.out, HE0.out, encT_arr]; replace K := below_over K hb1 hw; replace hw := le_trans' hw hb1.size; replace c := box_cell K; have ca := box_cell (K.alloc hw (.cells #[.int .i64 e0.kind, .int .i64 e0.day, .string e0.key, .string e0.text, .int .i64 e0.n, .int .i64 e0.num, .int .i64 e0.den, .bool e0.active] 33)); replace HTA := FT.out _ K)
            | (go_at_call 217; (with_reducible refine (rfrac_calls num den _).mono ?_); rintro x w1 ⟨rfl, hb1⟩; replace K := below_over (K.alloc hw _) hb1 (le_trans' hw (Nat.le_of_lt (World.size_alloc_lt _ _))); replace hw := le_trans' hw (le_trans' (Nat.le_of_lt (World.size_alloc_lt _ _)) hb1.size); replace c := box_cell K))
          go_ret
          first
            | exact ⟨ret_int HX.out.symm, HB0.trans (K.mono (Nat.le_succ _))⟩
            | exact ⟨ret_int HX.out.symm, HB0.trans ((K.alloc hw _).mono (Nat.le_succ _))⟩
        · by_cases h2 : den < num
          · have HX : Hid (refSubject vld fracOk T ⟨3, day, key, text, n, num, den, active⟩ = 2) := by show _ = _; simp [refSubject, hi, fracOk_iff, hf, h2]
            have h1' : decide (num < 0) = false := by simpa using h1
            have h1p : 0 ≤ num := by omega
            have h2n : ¬ num ≤ den := by omega
            clear hi h1
            go_enter Tryz.func172, Tryz.ntmps172
            go_wp2_with (first
              | (go_at_call 216; (with_reducible refine (rvalid_calls 0 key _ (.inl rfl) HZ1.out).mono ?_); rintro x w1 ⟨rfl, hb1⟩; rw [HV.out]; replace K := below_over K hb1 hw; replace hw := le_trans' hw hb1.size; replace c := box_cell K; replace HTA := FT.out _ K)
              | (go_at_call 216; (with_reducible refine (rvalid_calls 1 key _ (.inr (.inl rfl)) HZ1.out).mono ?_); rintro x w1 ⟨rfl, hb1⟩; rw [HV.out]; replace K := below_over K hb1 hw; replace hw := le_trans' hw hb1.size; replace c := box_cell K; replace HTA := FT.out _ K)
              | (go_at_call 216; (with_reducible refine (rvalid_calls 3 text _ (.inr (.inr rfl)) HZ3.out).mono ?_); rintro x w1 ⟨rfl, hb1⟩; rw [HV3.out]; replace K := below_over K hb1 hw; replace hw := le_trans' hw hb1.size; replace c := box_cell K; replace HTA := FT.out _ K)
              | (go_at_call 54; (with_reducible refine (rat_calls v T _ _ _ _ HTA HL.out).mono ?_); rintro x w1 ⟨rfl, hb1⟩; rw [HI.out, HE0.out, encT_arr]; replace K := below_over K hb1 hw; replace hw := le_trans' hw hb1.size; replace c := box_cell K; have ca := box_cell (K.alloc hw (.cells #[.int .i64 e0.kind, .int .i64 e0.day, .string e0.key, .string e0.text, .int .i64 e0.n, .int .i64 e0.num, .int .i64 e0.den, .bool e0.active] 33)); replace HTA := FT.out _ K)
              | (go_at_call 217; (with_reducible refine (rfrac_calls num den _).mono ?_); rintro x w1 ⟨rfl, hb1⟩; replace K := below_over (K.alloc hw _) hb1 (le_trans' hw (Nat.le_of_lt (World.size_alloc_lt _ _))); replace hw := le_trans' hw (le_trans' (Nat.le_of_lt (World.size_alloc_lt _ _)) hb1.size); replace c := box_cell K))
            go_ret
            first
              | exact ⟨ret_int HX.out.symm, HB0.trans (K.mono (Nat.le_succ _))⟩
              | exact ⟨ret_int HX.out.symm, HB0.trans ((K.alloc hw _).mono (Nat.le_succ _))⟩
          · have HX : Hid (refSubject vld fracOk T ⟨3, day, key, text, n, num, den, active⟩ = 0) := by show _ = _; simp [refSubject, hi, fracOk_iff, hf, h1, h2]
            have h1' : decide (num < 0) = false := by simpa using h1
            have h2' : decide (den < num) = false := by simpa using h2
            have h1p : 0 ≤ num := by omega
            have h2p : num ≤ den := by omega
            clear hi h1 h2
            go_enter Tryz.func172, Tryz.ntmps172
            go_wp2_with (first
              | (go_at_call 216; (with_reducible refine (rvalid_calls 0 key _ (.inl rfl) HZ1.out).mono ?_); rintro x w1 ⟨rfl, hb1⟩; rw [HV.out]; replace K := below_over K hb1 hw; replace hw := le_trans' hw hb1.size; replace c := box_cell K; replace HTA := FT.out _ K)
              | (go_at_call 216; (with_reducible refine (rvalid_calls 1 key _ (.inr (.inl rfl)) HZ1.out).mono ?_); rintro x w1 ⟨rfl, hb1⟩; rw [HV.out]; replace K := below_over K hb1 hw; replace hw := le_trans' hw hb1.size; replace c := box_cell K; replace HTA := FT.out _ K)
              | (go_at_call 216; (with_reducible refine (rvalid_calls 3 text _ (.inr (.inr rfl)) HZ3.out).mono ?_); rintro x w1 ⟨rfl, hb1⟩; rw [HV3.out]; replace K := below_over K hb1 hw; replace hw := le_trans' hw hb1.size; replace c := box_cell K; replace HTA := FT.out _ K)
              | (go_at_call 54; (with_reducible refine (rat_calls v T _ _ _ _ HTA HL.out).mono ?_); rintro x w1 ⟨rfl, hb1⟩; rw [HI.out, HE0.out, encT_arr]; replace K := below_over K hb1 hw; replace hw := le_trans' hw hb1.size; replace c := box_cell K; have ca := box_cell (K.alloc hw (.cells #[.int .i64 e0.kind, .int .i64 e0.day, .string e0.key, .string e0.text, .int .i64 e0.n, .int .i64 e0.num, .int .i64 e0.den, .bool e0.active] 33)); replace HTA := FT.out _ K)
              | (go_at_call 217; (with_reducible refine (rfrac_calls num den _).mono ?_); rintro x w1 ⟨rfl, hb1⟩; replace K := below_over (K.alloc hw _) hb1 (le_trans' hw (Nat.le_of_lt (World.size_alloc_lt _ _))); replace hw := le_trans' hw (le_trans' (Nat.le_of_lt (World.size_alloc_lt _ _)) hb1.size); replace c := box_cell K))
            go_ret
            first
              | exact ⟨ret_int HX.out.symm, HB0.trans (K.mono (Nat.le_succ _))⟩
              | exact ⟨ret_int HX.out.symm, HB0.trans ((K.alloc hw _).mono (Nat.le_succ _))⟩
end Go.Proofs.YtmbhkfclpkopiaaGreatDoor
