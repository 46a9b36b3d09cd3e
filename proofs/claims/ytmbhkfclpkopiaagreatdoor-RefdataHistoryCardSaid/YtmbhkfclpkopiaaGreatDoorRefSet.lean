/- giroref21.Set. -/
import Derived.Test.YtmbhkfclpkopiaaGreatDoorRefC
import Derived.Test.YtmbhkfclpkopiaaGreatDoorIdent9
import Derived.Test.YtmbhkfclpkopiaaGreatDoorLawA
namespace Go.Proofs.YtmbhkfclpkopiaaGreatDoor
open Go.RowKit
set_option linter.unusedVariables false
set_option linter.unusedSimpArgs false

theorem info_33 : (Tryz.prog.info? 33).map (fun i => (i.zero, i.size, i.bytes)) = some (some (.agg #[.int .i64 0, .int .i64 0, .string ⟨#[]⟩, .string ⟨#[]⟩, .int .i64 0, .int .i64 0, .int .i64 0, .bool false]), 8, 80) := by kernel_rfl

def stays (e x : E) : Bool := !(isOf e.kind e.key x && decide (x.day = e.day))
theorem stays_add {T : List E} {e x : E} {i : Nat} (h : T[i]? = some x) : (T.take (i + 1)).filter (stays e) = if stays e x then (T.take i).filter (stays e) ++ [x] else (T.take i).filter (stays e) := by
  rw [List.take_add_one, h, Option.toList_some, List.filter_append]
  cases hx : stays e x <;> simp [hx]

theorem encT_one (e : E) : ∀ u ∈ encT e, u.oneCell' = true := by
  intro u hu
  simp only [encT, List.mem_cons, List.not_mem_nil, or_false] at hu
  rcases hu with rfl | rfl | rfl | rfl | rfl | rfl | rfl | rfl <;> rfl



set_option maxRecDepth 10000 in
set_option maxHeartbeats 4000000 in
theorem rset_calls (ks : KeysLen) (v : Value) (T : List E) (e : E) (w : World) (h : TAt w v T) (hl : T.length ≤ 900) (hk : e.kind = 0 ∨ e.kind = 1 ∨ e.kind = 2 ∨ e.kind = 3) (hz1 : e.key.size ≤ 9223372036854775807) (hz3 : e.text.size ≤ 9223372036854775807) :
    Calls Tryz.prog 53 #[v, .agg (encT e).toArray] w fun x w' => ∃ v', x = .returned (.tuple #[v', .int .i64 (refCode vld fracOk T e)]) ∧ TAt w' v' (refSet vld fracOk T e) ∧ Below w.heap.size w w' := by
  obtain ⟨i0, hi0, hz0, hzs, hz2⟩ := info_parts info_33
  obtain ⟨kind, day, key, text, n, num, den, active⟩ := e
  have HB0 : Below w.heap.size w (w.alloc (.cells #[.int .i64 kind, .int .i64 day, .string key, .string text, .int .i64 n, .int .i64 num, .int .i64 den, .bool active] 33)) := (Below.refl _ _).alloc (Nat.le_refl _) _
  have KS := Lib.hid ks
  have HZ1 := Lib.hid hz1
  have HZ3 := Lib.hid hz3
  have HK := Lib.hid hk
  have HL := Lib.hid hl
  have HTA := h.below HB0
  have K : Below (w.heap.size + 1) (w.alloc (.cells #[.int .i64 kind, .int .i64 day, .string key, .string text, .int .i64 n, .int .i64 num, .int .i64 den, .bool active] 33)) (w.alloc (.cells #[.int .i64 kind, .int .i64 day, .string key, .string text, .int .i64 n, .int .i64 num, .int .i64 den, .bool active] 33)) := Below.refl _ _
  have FT : Hid (∀ W, Below (w.heap.size + 1) (w.alloc (.cells #[.int .i64 kind, .int .i64 day, .string key, .string text, .int .i64 n, .int .i64 num, .int .i64 den, .bool active] 33)) W → TAt W v T) := fun W hW => HTA.below (hW.mono (by simp))
  have hw : w.heap.size + 1 ≤ (w.alloc (.cells #[.int .i64 kind, .int .i64 day, .string key, .string text, .int .i64 n, .int .i64 num, .int .i64 den, .bool active] 33)).heap.size := by simp
  have c := box_cell K
  have HFORM := Lib.hid h.form
  clear ks hz1 hz3 hk h
  show Calls Tryz.prog 53 #[v, .agg #[.int .i64 kind, .int .i64 day, .string key, .string text, .int .i64 n, .int .i64 num, .int .i64 den, .bool active]] w _
  obtain ⟨q, hq⟩ : ∃ q, refCode vld fracOk T ⟨kind, day, key, text, n, num, den, active⟩ = q := ⟨_, rfl⟩
  have HQ := Lib.hid hq
  by_cases hq0 : q = 0
  · subst hq0
    have HR : Hid (refSet vld fracOk T ⟨kind, day, key, text, n, num, den, active⟩ = T.filter (stays ⟨kind, day, key, text, n, num, den, active⟩) ++ [⟨kind, day, key, text, n, num, den, active⟩]) := by show _ = _; unfold refSet; rw [if_pos hq]; rfl
    clear hq
    rcases HFORM.out with ⟨hT, rfl⟩ | ⟨b, cap, rfl, hb, hcap⟩
    · have hT0 : T.length = 0 := by rw [hT]; rfl
      have HTN := Lib.hid hT
      clear hT HFORM
      go_enter Tryz.func53, Tryz.ntmps53
      go_wp2_with (first | (go_at_call 106; refine (rchk_calls KS.out _ T ⟨kind, day, key, text, n, num, den, active⟩ _ HTA HL.out HK.out HZ1.out HZ3.out).mono ?_; rintro x w1 ⟨rfl, hb1⟩; rw [HQ.out]; replace K := below_over K hb1 hw; replace hw := le_trans' hw hb1.size; replace c := box_cell K; replace HTA := FT.out _ K))
      refine wp_loop_rounds 1 ?_
      rw [rounds_succ]
      have hS : w1.ownsRow (w.heap.size + 1) 33 8 (.slice none 0 0) 0 [] := World.ownsRow_nil _ _ _ _
      go_wp2_with (first | (at_builtin; go_loud (refine wpList_append_own _ rfl _ _ 25 rfl (w.heap.size + 1) 33 i0 (.agg #[.int .i64 0, .int .i64 0, .string ⟨#[]⟩, .string ⟨#[]⟩, .int .i64 0, .int .i64 0, .int .i64 0, .bool false]) 8 80 Tryz.underlying25 hi0 hz0 hzs hz2 rfl (by decide) _ _ _ rfl (hS.alloc _) ⟨_, 0, none⟩ 1 1 [.int .i64 kind, .int .i64 day, .string key, .string text, .int .i64 n, .int .i64 num, .int .i64 den, .bool active] rfl rfl (World.news_of_block (heap_alloc_new _ _)) (by simp [Value.oneCell']) (by unfold maxLen; omega) (by omega) (by simp; omega) ?_)))
      intro v4 w4 hown4 hgrow4 _
      have HB4 := grow_base (K.alloc hw (.cells #[.int .i64 kind, .int .i64 day, .string key, .string text, .int .i64 n, .int .i64 num, .int .i64 den, .bool active] 33)) (by simp; omega) (hS.alloc _) hgrow4
      go_wp2
      go_ret2
      refine ⟨v4, by rw [HQ.out]; rfl, ?_, HB0.trans (HB4.mono (Nat.le_succ _))⟩
      rw [HR.out, HTN.out]
      unfold TAt
      have := row_mono hown4 (Nat.zero_le _)
      simpa [encT] using this
    · clear HFORM
      go_enter Tryz.func53, Tryz.ntmps53
      go_wp2_with (first | (go_at_call 106; refine (rchk_calls KS.out _ T ⟨kind, day, key, text, n, num, den, active⟩ _ HTA HL.out HK.out HZ1.out HZ3.out).mono ?_; rintro x w1 ⟨rfl, hb1⟩; rw [HQ.out]; replace K := below_over K hb1 hw; replace hw := le_trans' hw hb1.size; replace c := box_cell K; replace HTA := FT.out _ K))
      go_loopw [7, 8] (fun p r wr => ∃ i : Nat, r = .int .i64 i ∧ i ≤ T.length ∧ wr.ownsRow (w.heap.size + 1) 33 8 p ((T.take i).filter (stays ⟨kind, day, key, text, n, num, den, active⟩)).length (((T.take i).filter (stays ⟨kind, day, key, text, n, num, den, active⟩)).flatMap encT) ∧ Below (w.heap.size + 1) (w.alloc (.cells #[.int .i64 kind, .int .i64 day, .string key, .string text, .int .i64 n, .int .i64 num, .int .i64 den, .bool active] 33)) wr) (fun p r wr => T.length - (intOf r).toNat)
      case atStart => exact ⟨0, rfl, by omega, World.ownsRow_nil _ _ _ _, K⟩
      case round =>
        obtain ⟨i, rfl, hi, hS, K⟩ := hrel
        have c := box_cell K
        have hw : w.heap.size + 1 ≤ wr.heap.size := by have := K.size; simpa using this
        have hflen : ((T.take i).filter (stays ⟨kind, day, key, text, n, num, den, active⟩)).length ≤ i := Nat.le_trans (List.length_filter_le _ _) (by simp; omega)
        by_cases hlt : i < T.length
        · obtain ⟨x, hx⟩ : ∃ x, T[i]? = some x := ⟨_, List.getElem?_eq_getElem hlt⟩
          obtain ⟨x0, x1, x2, x3, x4, x5, x6, x7⟩ := (FT.out _ K).cells hx
          have hlt1 : (i : Int) < (T.length : Int) := by omega
          have HADD0 := Lib.hid (stays_add (e := ⟨kind, day, key, text, n, num, den, active⟩) hx)
          clear hx
          cases hst : stays ⟨kind, day, key, text, n, num, den, active⟩ x with
          | true =>
            have HADD : Hid ((T.take (i + 1)).filter (stays ⟨kind, day, key, text, n, num, den, active⟩) = (T.take i).filter (stays ⟨kind, day, key, text, n, num, den, active⟩) ++ [x]) := by show _ = _; rw [HADD0.out, hst]; rfl
            clear HADD0
            have hq : (x.kind != kind) = true ∨ ((x.kind != kind) = false ∧ (x.key.toList == key.toList) = false) ∨ ((x.kind != kind) = false ∧ (x.key.toList == key.toList) = true ∧ (x.day != day) = true) := by
              rw [beq_tl]
              simp only [stays, isOf] at hst
              by_cases h1 : x.kind = kind <;> by_cases h2 : x.key = key <;> simp [h1, h2] at hst ⊢
              exact hst
            have hnews := World.news_of_block (heap_alloc_new (wr) (.cells #[.int .i64 x.kind, .int .i64 x.day, .string x.key, .string x.text, .int .i64 x.n, .int .i64 x.num, .int .i64 x.den, .bool x.active] 33))
            clear hst
            rcases hq with q1 | ⟨q1, q2⟩ | ⟨q1, q2, q3⟩
            all_goals
              go_wp2
              go_quiet (fail)
              have hS := (row_below hS (pw_below_drewN' (Below.refl _ _) nq))
              have K := pw_below_drewN' K nq
              go_wp2_with (first | (at_builtin; go_loud (refine wpList_append_own _ rfl _ _ 25 rfl (w.heap.size + 1) 33 i0 (.agg #[.int .i64 0, .int .i64 0, .string ⟨#[]⟩, .string ⟨#[]⟩, .int .i64 0, .int .i64 0, .int .i64 0, .bool false]) 8 80 Tryz.underlying25 hi0 hz0 hzs hz2 rfl (by decide) _ _ _ rfl (hS.alloc _) ⟨_, 0, none⟩ 1 1 [.int .i64 x.kind, .int .i64 x.day, .string x.key, .string x.text, .int .i64 x.n, .int .i64 x.num, .int .i64 x.den, .bool x.active] rfl rfl (World.news_of_block (heap_alloc_new _ _)) (by simp [Value.oneCell']) (by unfold maxLen; omega) (by omega) (by simp; omega) ?_)))
              intro v4 w4 hown4 hgrow4 _
              have HB4 := grow_base (K.alloc (by simpa using hw) (.cells #[.int .i64 x.kind, .int .i64 x.day, .string x.key, .string x.text, .int .i64 x.n, .int .i64 x.num, .int .i64 x.den, .bool x.active] 33)) (by simp; omega) (hS.alloc _) hgrow4
              go_wp2
              refine ⟨⟨i + 1, rfl, by omega, ?_, HB4⟩, by simp [intOf]; omega⟩
              rw [HADD.out]
              simpa [encT] using hown4
          | false =>
            have HADD : Hid ((T.take (i + 1)).filter (stays ⟨kind, day, key, text, n, num, den, active⟩) = (T.take i).filter (stays ⟨kind, day, key, text, n, num, den, active⟩)) := by show _ = _; rw [HADD0.out, hst]; rfl
            clear HADD0
            have hq : (x.kind != kind) = false ∧ (x.key.toList == key.toList) = true ∧ (x.day != day) = false := by
              rw [beq_tl]
              simpa [stays, isOf, and_assoc] using hst
            obtain ⟨q1, q2, q3⟩ := hq
            clear hst
            go_wp2
            go_quiet (fail)
            go_wp2
            refine ⟨⟨i + 1, rfl, by omega, ?_, pw_below_drewN' K _⟩, by simp [intOf]; omega⟩
            rw [HADD.out]
            exact row_below hS (pw_below_drewN' (Below.refl _ _) _)
        · obtain rfl : i = T.length := by omega
          have HT : Hid (T.take T.length = T) := List.take_length
          rw [HT.out] at hS
          have hfl2 : (T.filter (stays ⟨kind, day, key, text, n, num, den, active⟩)).length ≤ T.length := List.length_filter_le _ _
          clear hlt
          go_wp2_with (first | (at_builtin; go_loud (refine wpList_append_own _ rfl _ _ 25 rfl (w.heap.size + 1) 33 i0 (.agg #[.int .i64 0, .int .i64 0, .string ⟨#[]⟩, .string ⟨#[]⟩, .int .i64 0, .int .i64 0, .int .i64 0, .bool false]) 8 80 Tryz.underlying25 hi0 hz0 hzs hz2 rfl (by decide) _ _ _ rfl (hS.alloc _) ⟨_, 0, none⟩ 1 1 [.int .i64 kind, .int .i64 day, .string key, .string text, .int .i64 n, .int .i64 num, .int .i64 den, .bool active] rfl rfl (World.news_of_block (heap_alloc_new _ _)) (by simp [Value.oneCell']) (by unfold maxLen; omega) (by omega) (by simp; omega) ?_)))
          intro v4 w4 hown4 hgrow4 _
          have HB4 := grow_base (K.alloc hw (.cells #[.int .i64 kind, .int .i64 day, .string key, .string text, .int .i64 n, .int .i64 num, .int .i64 den, .bool active] 33)) (by simp; omega) (hS.alloc _) hgrow4
          go_wp2
          go_ret2
          refine ⟨v4, by rw [HQ.out]; rfl, ?_, HB0.trans (HB4.mono (Nat.le_succ _))⟩
          rw [HR.out]
          unfold TAt
          have := row_mono hown4 (Nat.zero_le _)
          simpa [encT] using this
  · have hqq : (q == 0) = false := by simpa using hq0
    have HR : Hid (refSet vld fracOk T ⟨kind, day, key, text, n, num, den, active⟩ = T) := by show _ = _; unfold refSet; rw [hq, if_neg hq0]
    clear hq hq0
    go_enter Tryz.func53, Tryz.ntmps53
    go_wp2_with (first | (go_at_call 106; refine (rchk_calls KS.out _ T ⟨kind, day, key, text, n, num, den, active⟩ _ HTA HL.out HK.out HZ1.out HZ3.out).mono ?_; rintro x w1 ⟨rfl, hb1⟩; rw [HQ.out]; replace K := below_over K hb1 hw; replace hw := le_trans' hw hb1.size; replace c := box_cell K; replace HTA := FT.out _ K))
    go_ret2
    exact ⟨v, by rw [HQ.out]; rfl, by rw [HR.out]; exact HTA, HB0.trans (K.mono (Nat.le_succ _))⟩
end Go.Proofs.YtmbhkfclpkopiaaGreatDoor
