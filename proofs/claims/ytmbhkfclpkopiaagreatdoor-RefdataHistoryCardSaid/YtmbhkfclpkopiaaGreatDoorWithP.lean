/- with, at prices. -/
import Derived.Test.YtmbhkfclpkopiaaGreatDoorWith
namespace Go.Proofs.YtmbhkfclpkopiaaGreatDoor
open Go.RowKit
set_option linter.unusedVariables false
set_option linter.unusedSimpArgs false

set_option maxHeartbeats 4000000 in
theorem with_P (sv : Value) (s : List (Int × Int)) (day : Int) (v : Int) (w : World) (h : SerAt 170 2 encP w sv s) (hl : s.length ≤ 900) :
    Calls Tryz.prog 179 #[sv, .int .i64 day, .int .i64 v] w fun e w' => ∃ v', e = .returned v' ∧ SerAt 170 2 encP w' v' (seWith s day v) ∧ Below w.heap.size w w' := by
  obtain ⟨i0, hi0, hz0, hz1, hz2⟩ := info_parts info_P
  cases hx : s.getLast? with
  | none =>
    have HX := Lib.hid hx
    have HSW : Hid (seWith s day v = s ++ [(day, v)]) := by show seWith s day v = _; rw [seWith, seCut, hx]
    clear hx
    go_enter Tryz.func179, Tryz.ntmps179
    go_wp2_with (first
      | (go_at_call 221; refine (last_P _ _ _ h (by omega)).mono ?_; rintro e w1 ⟨rfl, hb1⟩; rw [HX.out, show (optE encP zencP none).toArray = #[.int .i64 0, .int .i64 0] from rfl]; have hw1 : w.heap.size ≤ w1.heap.size := hb1.size; have HK1 := hb1.alloc hw1 (.cells #[.int .i64 0, .int .i64 0] 170))
      | (go_at_call 222; refine (clone_P _ s _ (SerAt.below h HK1) (by omega)).mono ?_; rintro e w3 ⟨v3, rfl, hown3, hb3⟩)
      | (at_builtin; refine wpList_append_lies _ rfl _ _ 154 rfl _ 170 i0 (.agg #[.int .i64 0, .int .i64 0]) 2 16 Tryz.underlying154 hi0 hz0 hz1 hz2 rfl (by decide) _ (s).length ((s).flatMap (encE encP)) rfl (hown3.alloc _) ⟨w3.heap.size, 0, none⟩ 1 1 (encE encP (day, v)) rfl rfl (World.news_of_block (heap_alloc_new w3 _)) (one1_P day v) (by omega) (by unfold maxLen; omega) (by omega) ?_ _ rfl ?_; exact Nat.le_trans hb3.size (Nat.le_of_lt (World.size_alloc_lt _ _)); intro g cap w4 hown4 hgrow4 hat hlt))
    go_ret
    refine ⟨_, rfl, (by rw [HSW.out]; exact ser_of hown4), ?_⟩
    exact below_own ((below_over HK1 hb3 (by simp; omega)).alloc (by have := hb3.size; simp at this; omega) _) (hown3.alloc _) (by simp; omega) hgrow4
  | some x =>
    obtain ⟨d, v0⟩ := x
    have HX := Lib.hid hx
    by_cases hd : d = day
    · subst hd
      have HSW : Hid (seWith s d v = s.dropLast ++ [(d, v)]) := by show seWith s d v = _; rw [seWith, seCut, hx]; simp
      have hne : s ≠ [] := fun e => by rw [e] at hx; cases hx
      obtain ⟨i, _, hi, hq1, hq2⟩ := last_form hne
      rcases h.form with ⟨e, _⟩ | ⟨b, cap, rfl, hb, hq3⟩
      · exact absurd e hne
      clear hx hne hq1 hq2 hq3
      rw [hi] at h hl
      have h' := h.dropLast (fun _ => rfl) hi
      have hcap : i + 1 ≤ cap := h.cap
      have hl' : s.dropLast.length = i := by simp [hi]
      have hle : s.dropLast.length ≤ 900 := by omega
      have HL := Lib.hid hi
      rw [hi]
      clear hi hl'
      generalize s.dropLast = t at HSW h' hle
      go_enter Tryz.func179, Tryz.ntmps179
      go_wp2_with (first
        | (go_at_call 221; refine (last_P _ _ _ h (by rw [HL.out]; omega)).mono ?_; rintro e w1 ⟨rfl, hb1⟩; rw [HX.out, show (optE encP zencP (some (d, v0))).toArray = #[.int .i64 d, .int .i64 v0] from rfl]; have hw1 : w.heap.size ≤ w1.heap.size := hb1.size; have HK1 := hb1.alloc hw1 (.cells #[.int .i64 d, .int .i64 v0] 170))
        | (go_at_call 222; refine (clone_P _ t _ (SerAt.below h' HK1) (by omega)).mono ?_; rintro e w3 ⟨v3, rfl, hown3, hb3⟩)
        | (at_builtin; refine wpList_append_lies _ rfl _ _ 154 rfl _ 170 i0 (.agg #[.int .i64 0, .int .i64 0]) 2 16 Tryz.underlying154 hi0 hz0 hz1 hz2 rfl (by decide) _ (t).length ((t).flatMap (encE encP)) rfl (hown3.alloc _) ⟨w3.heap.size, 0, none⟩ 1 1 (encE encP (d, v)) rfl rfl (World.news_of_block (heap_alloc_new w3 _)) (one1_P d v) (by omega) (by unfold maxLen; omega) (by omega) ?_ _ rfl ?_; exact Nat.le_trans hb3.size (Nat.le_of_lt (World.size_alloc_lt _ _)); intro g cap w4 hown4 hgrow4 hat hlt))
      go_ret
      refine ⟨_, rfl, (by rw [HSW.out]; exact ser_of hown4), ?_⟩
      exact below_own ((below_over HK1 hb3 (by simp; omega)).alloc (by have := hb3.size; simp at this; omega) _) (hown3.alloc _) (by simp; omega) hgrow4
    · have HSW : Hid (seWith s day v = s ++ [(day, v)]) := by show seWith s day v = _; rw [seWith, seCut, hx]; simp [hd]
      have hd1 : (d == day) = false := by simpa using hd
      clear hx hd
      go_enter Tryz.func179, Tryz.ntmps179
      go_wp2_with (first
        | (go_at_call 221; refine (last_P _ _ _ h (by omega)).mono ?_; rintro e w1 ⟨rfl, hb1⟩; rw [HX.out, show (optE encP zencP (some (d, v0))).toArray = #[.int .i64 d, .int .i64 v0] from rfl]; have hw1 : w.heap.size ≤ w1.heap.size := hb1.size; have HK1 := hb1.alloc hw1 (.cells #[.int .i64 d, .int .i64 v0] 170))
        | (go_at_call 222; refine (clone_P _ s _ (SerAt.below h HK1) (by omega)).mono ?_; rintro e w3 ⟨v3, rfl, hown3, hb3⟩)
        | (at_builtin; refine wpList_append_lies _ rfl _ _ 154 rfl _ 170 i0 (.agg #[.int .i64 0, .int .i64 0]) 2 16 Tryz.underlying154 hi0 hz0 hz1 hz2 rfl (by decide) _ (s).length ((s).flatMap (encE encP)) rfl (hown3.alloc _) ⟨w3.heap.size, 0, none⟩ 1 1 (encE encP (day, v)) rfl rfl (World.news_of_block (heap_alloc_new w3 _)) (one1_P day v) (by omega) (by unfold maxLen; omega) (by omega) ?_ _ rfl ?_; exact Nat.le_trans hb3.size (Nat.le_of_lt (World.size_alloc_lt _ _)); intro g cap w4 hown4 hgrow4 hat hlt))
      go_ret
      refine ⟨_, rfl, (by rw [HSW.out]; exact ser_of hown4), ?_⟩
      exact below_own ((below_over HK1 hb3 (by simp; omega)).alloc (by have := hb3.size; simp at this; omega) _) (hown3.alloc _) (by simp; omega) hgrow4
end Go.Proofs.YtmbhkfclpkopiaaGreatDoor
