/- SetHaircut, the method. -/
import Derived.Test.YtmbhkfclpkopiaaGreatDoorSetF
namespace Go.Proofs.YtmbhkfclpkopiaaGreatDoor
open Go.RowKit
set_option linter.unusedVariables false
set_option linter.unusedSimpArgs false

theorem setHaircut_eq (t : Tab) (day : Int) (k : ByteArray) (f : FV) : setHaircut fracOk t day k f = setHc t day k f (hairOk fracOk f) := rfl


theorem setHaircut_calls (T : TB) (t : Tab) (day : Int) (k : ByteArray) (v : FV) (w : World) (h : TabAt w T t) (hOK : TabOk t) (hF : TabFit 800 t) :
    Calls Tryz.prog 72 #[.pointer (some ⟨T.p, 0, none⟩), .int .i64 day, .string k, .agg #[.int .i64 v.num, .int .i64 v.den]] w fun e w' => e = .returned (.int .i64 (setE t (ser t.hc k) day k (hairOk fracOk v))) ∧ TabAt w' T (setHaircut fracOk t day k v) ∧ w.grownBy w' (some T.m3) := by
  have HB0 : Below w.heap.size w (w.alloc (.cells #[.int .i64 v.num, .int .i64 v.den] 49)) := (Below.refl _ _).alloc (Nat.le_refl _) _
  have HT := h.below HB0
  have K : Below (w.heap.size + 1) (w.alloc (.cells #[.int .i64 v.num, .int .i64 v.den] 49)) (w.alloc (.cells #[.int .i64 v.num, .int .i64 v.den] 49)) := Below.refl _ _
  have hw : w.heap.size + 1 ≤ (w.alloc (.cells #[.int .i64 v.num, .int .i64 v.den] 49)).heap.size := by simp
  have HC : Hid (∀ (b : Bool) (W : World), Below (w.heap.size + 1) (w.alloc (.cells #[.int .i64 v.num, .int .i64 v.den] 49)) W → Calls Tryz.prog 123 #[.pointer (some ⟨T.p, 0, none⟩), .func (.func 124) #[] #[], .int .i64 day, .string k, .agg #[.int .i64 v.num, .int .i64 v.den], .bool b] W fun e w' => e = .returned (.int .i64 (setE t (ser t.hc k) day k b)) ∧ TabAt w' T (setHc t day k v b) ∧ W.grownBy w' (some T.m3)) := fun b W hW => setF_calls T t day k v b W (HT.below (hW.mono (by simp))) hOK hF
  rw [setHaircut_eq]
  clear h hOK hF HT
  obtain ⟨fe, hfe⟩ : ∃ q, fracE v.num v.den = q := ⟨_, rfl⟩
  have HFE := Lib.hid hfe
  by_cases h0 : fe = 0
  · subst h0
    by_cases h1 : 0 ≤ v.num
    · by_cases h2 : v.num ≤ v.den
      · have HP : Hid (hairOk fracOk v = true) := by show hairOk fracOk v = true; simp [hairOk, fracOk, hfe, h1, h2]
        clear hfe
        go_enter Tryz.func72, Tryz.ntmps72
        go_wp2_with (first
          | (go_at_call 122; refine (frac_calls v.num v.den _).mono ?_; rintro e w1 ⟨rfl, hb1⟩; rw [HFE.out]; have K1 := below_over K hb1 hw; have c1 := box_cell K1; have hw1 := le_trans' hw hb1.size)
          | (go_at_call 123; refine (HC.out _ _ K1).mono ?_; rintro e w2 ⟨rfl, hq⟩))
        go_ret
        rw [HP.out]
        exact ⟨rfl, hq.1, grow_of (HB0.trans (K1.mono (Nat.le_succ _))) hq.2⟩
      · have HP : Hid (hairOk fracOk v = false) := by show hairOk fracOk v = false; simp [hairOk, h2]
        have h2' : decide (v.num ≤ v.den) = false := by simp [h2]
        clear hfe
        go_enter Tryz.func72, Tryz.ntmps72
        go_wp2_with (first
          | (go_at_call 122; refine (frac_calls v.num v.den _).mono ?_; rintro e w1 ⟨rfl, hb1⟩; rw [HFE.out]; have K1 := below_over K hb1 hw; have c1 := box_cell K1; have hw1 := le_trans' hw hb1.size)
          | (go_at_call 123; refine (HC.out _ _ K1).mono ?_; rintro e w2 ⟨rfl, hq⟩))
        go_ret
        rw [HP.out]
        exact ⟨rfl, hq.1, grow_of (HB0.trans (K1.mono (Nat.le_succ _))) hq.2⟩
    · have HP : Hid (hairOk fracOk v = false) := by show hairOk fracOk v = false; simp [hairOk, h1]
      have h1' : decide (0 ≤ v.num) = false := by simp [h1]
      clear hfe
      go_enter Tryz.func72, Tryz.ntmps72
      go_wp2_with (first
        | (go_at_call 122; refine (frac_calls v.num v.den _).mono ?_; rintro e w1 ⟨rfl, hb1⟩; rw [HFE.out]; have K1 := below_over K hb1 hw; have c1 := box_cell K1; have hw1 := le_trans' hw hb1.size)
        | (go_at_call 123; refine (HC.out _ _ K1).mono ?_; rintro e w2 ⟨rfl, hq⟩))
      go_ret
      rw [HP.out]
      exact ⟨rfl, hq.1, grow_of (HB0.trans (K1.mono (Nat.le_succ _))) hq.2⟩
  · have HP : Hid (hairOk fracOk v = false) := by show hairOk fracOk v = false; simp [hairOk, fracOk, hfe, h0]
    have h0' : (fe == 0) = false := by simpa using h0
    clear hfe
    go_enter Tryz.func72, Tryz.ntmps72
    go_wp2_with (first
      | (go_at_call 122; refine (frac_calls v.num v.den _).mono ?_; rintro e w1 ⟨rfl, hb1⟩; rw [HFE.out]; have K1 := below_over K hb1 hw; have c1 := box_cell K1; have hw1 := le_trans' hw hb1.size)
      | (go_at_call 123; refine (HC.out _ _ K1).mono ?_; rintro e w2 ⟨rfl, hq⟩))
    go_ret
    rw [HP.out]
    exact ⟨rfl, hq.1, grow_of (HB0.trans (K1.mono (Nat.le_succ _))) hq.2⟩

theorem setHaircut_nil (day : Int) (k : ByteArray) (v : FV) (w : World) :
    Calls Tryz.prog 72 #[.pointer none, .int .i64 day, .string k, .agg #[.int .i64 v.num, .int .i64 v.den]] w fun e w' => e = .returned (.int .i64 1) ∧ Below w.heap.size w w' := by
  have HB0 : Below w.heap.size w (w.alloc (.cells #[.int .i64 v.num, .int .i64 v.den] 49)) := (Below.refl _ _).alloc (Nat.le_refl _) _
  have K : Below (w.heap.size + 1) (w.alloc (.cells #[.int .i64 v.num, .int .i64 v.den] 49)) (w.alloc (.cells #[.int .i64 v.num, .int .i64 v.den] 49)) := Below.refl _ _
  have hw : w.heap.size + 1 ≤ (w.alloc (.cells #[.int .i64 v.num, .int .i64 v.den] 49)).heap.size := by simp
  have HC : Hid (∀ (b : Bool) (W : World), Below (w.heap.size + 1) (w.alloc (.cells #[.int .i64 v.num, .int .i64 v.den] 49)) W → Calls Tryz.prog 123 #[.pointer none, .func (.func 124) #[] #[], .int .i64 day, .string k, .agg #[.int .i64 v.num, .int .i64 v.den], .bool b] W fun e w' => e = .returned (.int .i64 1) ∧ Below W.heap.size W w') := fun b W hW => setF_nil day k v b _ W
  have HP : Hid True := trivial
  obtain ⟨fe, hfe⟩ : ∃ q, fracE v.num v.den = q := ⟨_, rfl⟩
  have HFE := Lib.hid hfe
  clear hfe
  by_cases h0 : fe = 0
  · subst h0
    by_cases h1 : 0 ≤ v.num
    · by_cases h2 : v.num ≤ v.den
      · skip
        go_enter Tryz.func72, Tryz.ntmps72
        go_wp2_with (first
          | (go_at_call 122; refine (frac_calls v.num v.den _).mono ?_; rintro e w1 ⟨rfl, hb1⟩; rw [HFE.out]; have K1 := below_over K hb1 hw; have c1 := box_cell K1; have hw1 := le_trans' hw hb1.size)
          | (go_at_call 123; refine (HC.out _ _ K1).mono ?_; rintro e w2 ⟨rfl, hq⟩))
        go_ret
        exact ⟨rfl, (HB0.trans (K1.mono (Nat.le_succ _))).trans (hq.mono (Nat.le_of_succ_le hw1))⟩
      · skip
        go_enter Tryz.func72, Tryz.ntmps72
        go_wp2_with (first
          | (go_at_call 122; refine (frac_calls v.num v.den _).mono ?_; rintro e w1 ⟨rfl, hb1⟩; rw [HFE.out]; have K1 := below_over K hb1 hw; have c1 := box_cell K1; have hw1 := le_trans' hw hb1.size)
          | (go_at_call 123; refine (HC.out _ _ K1).mono ?_; rintro e w2 ⟨rfl, hq⟩))
        go_ret
        exact ⟨rfl, (HB0.trans (K1.mono (Nat.le_succ _))).trans (hq.mono (Nat.le_of_succ_le hw1))⟩
    · skip
      go_enter Tryz.func72, Tryz.ntmps72
      go_wp2_with (first
        | (go_at_call 122; refine (frac_calls v.num v.den _).mono ?_; rintro e w1 ⟨rfl, hb1⟩; rw [HFE.out]; have K1 := below_over K hb1 hw; have c1 := box_cell K1; have hw1 := le_trans' hw hb1.size)
        | (go_at_call 123; refine (HC.out _ _ K1).mono ?_; rintro e w2 ⟨rfl, hq⟩))
      go_ret
      exact ⟨rfl, (HB0.trans (K1.mono (Nat.le_succ _))).trans (hq.mono (Nat.le_of_succ_le hw1))⟩
  · have h0' : (fe == 0) = false := by simpa using h0
    go_enter Tryz.func72, Tryz.ntmps72
    go_wp2_with (first
      | (go_at_call 122; refine (frac_calls v.num v.den _).mono ?_; rintro e w1 ⟨rfl, hb1⟩; rw [HFE.out]; have K1 := below_over K hb1 hw; have c1 := box_cell K1; have hw1 := le_trans' hw hb1.size)
      | (go_at_call 123; refine (HC.out _ _ K1).mono ?_; rintro e w2 ⟨rfl, hq⟩))
    go_ret
    exact ⟨rfl, (HB0.trans (K1.mono (Nat.le_succ _))).trans (hq.mono (Nat.le_of_succ_le hw1))⟩
end Go.Proofs.YtmbhkfclpkopiaaGreatDoor
