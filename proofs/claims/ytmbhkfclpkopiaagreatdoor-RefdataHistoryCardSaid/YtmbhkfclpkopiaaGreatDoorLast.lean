/- last, stale, slices.Clone, for each of the four kinds. -/
import Derived.Test.YtmbhkfclpkopiaaGreatDoorAt2
import Derived.Lib.Hide
import Derived.Maps.AppendAt
namespace Go.Proofs.YtmbhkfclpkopiaaGreatDoor
open Go.RowKit
set_option linter.unusedVariables false
set_option linter.unusedSimpArgs false

section
variable {V : Type}
theorem flatMap_take {β γ : Type} {f : β → List γ} {sz : Nat} (hf : ∀ x, (f x).length = sz) : ∀ (l : List β) (i : Nat), ((l.take i).flatMap f) = (l.flatMap f).take (i * sz)
  | [], i => by simp
  | y :: l, 0 => by simp
  | y :: l, i + 1 => by
    rw [List.take_succ_cons, List.flatMap_cons, List.flatMap_cons, flatMap_take hf l i, List.take_append, hf]
    have e : (i + 1) * sz - sz = i * sz := by rw [Nat.add_mul]; omega
    rw [e, show (f y).take ((i + 1) * sz) = f y from List.take_of_length_le (by rw [hf, Nat.add_mul]; omega)]

/-- A series cut at its end. -/
theorem SerAt.dropLast {E size : Nat} {enc : V → List Value} (hf : ∀ x, (encE enc x).length = size) {w : World} {b i cap : Nat} {s : List (Int × V)} (h : SerAt E size enc w (.slice (some ⟨b, 0, none⟩) (i + 1) cap) s) (hl : s.length = i + 1) :
    SerAt E size enc w (.slice (some ⟨b, 0, none⟩) i cap) s.dropLast := by
  obtain ⟨h1, h2⟩ := h
  have e : s.dropLast = s.take i := by rw [List.dropLast_eq_take, hl]; rfl
  have el : s.dropLast.length = i := by simp [hl]
  refine ⟨?_, ?_⟩
  · rw [el, e, flatMap_take hf, List.length_take, h1, hl, Nat.add_mul]; omega
  · rcases h2 with ⟨h2, _⟩ | ⟨g, cap', cur, hv, hb, hh, hn, hm, hs, ht⟩
    · cases h2
    · injection hv with ha hn' hc'
      injection ha with ha
      injection ha with ha _ _
      subst ha; subst hc'
      refine .inr ⟨b, cap, cur, by rw [el], hb, hh, by rw [el]; omega, hm, hs, ?_⟩
      rw [el, e, flatMap_take hf, ← ht, List.take_take]
      congr 1
      rw [hl, Nat.add_mul]; omega

end

theorem last_form {V : Type} {s : List (Int × V)} (h : s ≠ []) : ∃ i x, s.length = i + 1 ∧ s[i]? = some x ∧ s.getLast? = some x := by
  rcases List.eq_nil_or_concat s with rfl | ⟨t, y, rfl⟩
  · exact absurd rfl h
  · exact ⟨t.length, y, by simp, by simp, by simp⟩

set_option maxHeartbeats 1000000 in
theorem last_M (sv : Value) (s : List (Int × MV)) (w : World) (h : SerAt 162 4 encM w sv s) (hl : s.length ≤ 1000) :
    Calls Tryz.prog 175 #[sv] w fun e w' => e = .returned (.tuple #[.agg (optE encM zencM s.getLast?).toArray, .bool s.getLast?.isSome]) ∧ Below w.heap.size w w' := by
  have HB0 : Below w.heap.size w (w.alloc (.cells #[.int .i64 0, .string ⟨#[]⟩, .string ⟨#[]⟩, .bool false] 162)) := (Below.refl _ _).alloc (Nat.le_refl _) _
  by_cases h0 : s = []
  · have HX : Hid (s.getLast? = none) := by show s.getLast? = none; rw [h0]; rfl
    have hn : ∃ A c, sv = .slice A 0 c := by
      rcases h.form with ⟨_, rfl⟩ | ⟨b, cap, rfl, _⟩
      · exact ⟨_, _, rfl⟩
      · exact ⟨some ⟨b, 0, none⟩, cap, by rw [h0]; rfl⟩
    obtain ⟨A, c, rfl⟩ := hn
    clear h h0
    go_enter Tryz.func175, Tryz.ntmps175
    go_wp2
    refine bodyPost_ret (v := .tuple #[.agg #[.int .i64 0, .string ⟨#[]⟩, .string ⟨#[]⟩, .bool false], .bool false]) (by simp [results, Tryz.results175, go_sem]) rfl ⟨by rw [HX.out]; rfl, ?_⟩
    first | exact HB0 | exact (Below.refl _ _).alloc (Nat.le_refl _) _ | repeat (first | exact HB0 | refine below_set ?_ (by omega) _)
  · obtain ⟨i, ⟨d, v⟩, hi, hx, hlast⟩ := last_form h0
    rcases h.form with ⟨rfl, _⟩ | ⟨b, cap, rfl, hb, _⟩
    · simp at hi
    have HX : Hid (s.getLast? = some (d, v)) := hlast
    obtain ⟨c0, c1, c2, c3⟩ := cells_M (h.below HB0) hx
    rw [hi] at hl ⊢
    clear h h0 hx hlast hi
    go_enter Tryz.func175, Tryz.ntmps175
    go_wp2
    refine bodyPost_ret (v := .tuple #[.agg #[.int .i64 d, .string v.code, .string v.lei, .bool v.active], .bool true]) (by simp [results, Tryz.results175, go_sem]) rfl ⟨by rw [HX.out]; rfl, ?_⟩
    first | exact HB0 | exact (Below.refl _ _).alloc (Nat.le_refl _) _ | repeat (first | exact HB0 | refine below_set ?_ (by omega) _)
set_option maxHeartbeats 1000000 in
theorem last_S (sv : Value) (s : List (Int × SV)) (w : World) (h : SerAt 166 5 encS w sv s) (hl : s.length ≤ 1000) :
    Calls Tryz.prog 117 #[sv] w fun e w' => e = .returned (.tuple #[.agg (optE encS zencS s.getLast?).toArray, .bool s.getLast?.isSome]) ∧ Below w.heap.size w w' := by
  have HB0 : Below w.heap.size w (w.alloc (.cells #[.int .i64 0, .string ⟨#[]⟩, .string ⟨#[]⟩, .int .i64 0, .bool false] 166)) := (Below.refl _ _).alloc (Nat.le_refl _) _
  by_cases h0 : s = []
  · have HX : Hid (s.getLast? = none) := by show s.getLast? = none; rw [h0]; rfl
    have hn : ∃ A c, sv = .slice A 0 c := by
      rcases h.form with ⟨_, rfl⟩ | ⟨b, cap, rfl, _⟩
      · exact ⟨_, _, rfl⟩
      · exact ⟨some ⟨b, 0, none⟩, cap, by rw [h0]; rfl⟩
    obtain ⟨A, c, rfl⟩ := hn
    clear h h0
    go_enter Tryz.func117, Tryz.ntmps117
    go_wp2
    refine bodyPost_ret (v := .tuple #[.agg #[.int .i64 0, .string ⟨#[]⟩, .string ⟨#[]⟩, .int .i64 0, .bool false], .bool false]) (by simp [results, Tryz.results117, go_sem]) rfl ⟨by rw [HX.out]; rfl, ?_⟩
    first | exact HB0 | exact (Below.refl _ _).alloc (Nat.le_refl _) _ | repeat (first | exact HB0 | refine below_set ?_ (by omega) _)
  · obtain ⟨i, ⟨d, v⟩, hi, hx, hlast⟩ := last_form h0
    rcases h.form with ⟨rfl, _⟩ | ⟨b, cap, rfl, hb, _⟩
    · simp at hi
    have HX : Hid (s.getLast? = some (d, v)) := hlast
    obtain ⟨c0, c1, c2, c3, c4⟩ := cells_S (h.below HB0) hx
    rw [hi] at hl ⊢
    clear h h0 hx hlast hi
    go_enter Tryz.func117, Tryz.ntmps117
    go_wp2
    refine bodyPost_ret (v := .tuple #[.agg #[.int .i64 d, .string v.isin, .string v.issuer, .int .i64 v.lot, .bool v.active], .bool true]) (by simp [results, Tryz.results117, go_sem]) rfl ⟨by rw [HX.out]; rfl, ?_⟩
    first | exact HB0 | exact (Below.refl _ _).alloc (Nat.le_refl _) _ | repeat (first | exact HB0 | refine below_set ?_ (by omega) _)
set_option maxHeartbeats 1000000 in
theorem last_P (sv : Value) (s : List (Int × Int)) (w : World) (h : SerAt 170 2 encP w sv s) (hl : s.length ≤ 1000) :
    Calls Tryz.prog 221 #[sv] w fun e w' => e = .returned (.tuple #[.agg (optE encP zencP s.getLast?).toArray, .bool s.getLast?.isSome]) ∧ Below w.heap.size w w' := by
  have HB0 : Below w.heap.size w (w.alloc (.cells #[.int .i64 0, .int .i64 0] 170)) := (Below.refl _ _).alloc (Nat.le_refl _) _
  by_cases h0 : s = []
  · have HX : Hid (s.getLast? = none) := by show s.getLast? = none; rw [h0]; rfl
    have hn : ∃ A c, sv = .slice A 0 c := by
      rcases h.form with ⟨_, rfl⟩ | ⟨b, cap, rfl, _⟩
      · exact ⟨_, _, rfl⟩
      · exact ⟨some ⟨b, 0, none⟩, cap, by rw [h0]; rfl⟩
    obtain ⟨A, c, rfl⟩ := hn
    clear h h0
    go_enter Tryz.func221, Tryz.ntmps221
    go_wp2
    refine bodyPost_ret (v := .tuple #[.agg #[.int .i64 0, .int .i64 0], .bool false]) (by simp [results, Tryz.results221, go_sem]) rfl ⟨by rw [HX.out]; rfl, ?_⟩
    first | exact HB0 | exact (Below.refl _ _).alloc (Nat.le_refl _) _ | repeat (first | exact HB0 | refine below_set ?_ (by omega) _)
  · obtain ⟨i, ⟨d, v⟩, hi, hx, hlast⟩ := last_form h0
    rcases h.form with ⟨rfl, _⟩ | ⟨b, cap, rfl, hb, _⟩
    · simp at hi
    have HX : Hid (s.getLast? = some (d, v)) := hlast
    obtain ⟨c0, c1⟩ := cells_P (h.below HB0) hx
    rw [hi] at hl ⊢
    clear h h0 hx hlast hi
    go_enter Tryz.func221, Tryz.ntmps221
    go_wp2
    refine bodyPost_ret (v := .tuple #[.agg #[.int .i64 d, .int .i64 v], .bool true]) (by simp [results, Tryz.results221, go_sem]) rfl ⟨by rw [HX.out]; rfl, ?_⟩
    first | exact HB0 | exact (Below.refl _ _).alloc (Nat.le_refl _) _ | repeat (first | exact HB0 | refine below_set ?_ (by omega) _)
set_option maxHeartbeats 1000000 in
theorem last_F (sv : Value) (s : List (Int × FV)) (w : World) (h : SerAt 174 3 encF w sv s) (hl : s.length ≤ 1000) :
    Calls Tryz.prog 223 #[sv] w fun e w' => e = .returned (.tuple #[.agg (optE encF zencF s.getLast?).toArray, .bool s.getLast?.isSome]) ∧ Below w.heap.size w w' := by
  have HB0 : Below w.heap.size w (w.alloc (.cells #[.int .i64 0, .int .i64 0, .int .i64 0] 174)) := (Below.refl _ _).alloc (Nat.le_refl _) _
  by_cases h0 : s = []
  · have HX : Hid (s.getLast? = none) := by show s.getLast? = none; rw [h0]; rfl
    have hn : ∃ A c, sv = .slice A 0 c := by
      rcases h.form with ⟨_, rfl⟩ | ⟨b, cap, rfl, _⟩
      · exact ⟨_, _, rfl⟩
      · exact ⟨some ⟨b, 0, none⟩, cap, by rw [h0]; rfl⟩
    obtain ⟨A, c, rfl⟩ := hn
    clear h h0
    go_enter Tryz.func223, Tryz.ntmps223
    go_wp2
    refine bodyPost_ret (v := .tuple #[.agg #[.int .i64 0, .int .i64 0, .int .i64 0], .bool false]) (by simp [results, Tryz.results223, go_sem]) rfl ⟨by rw [HX.out]; rfl, ?_⟩
    first | exact HB0 | exact (Below.refl _ _).alloc (Nat.le_refl _) _ | repeat (first | exact HB0 | refine below_set ?_ (by omega) _)
  · obtain ⟨i, ⟨d, v⟩, hi, hx, hlast⟩ := last_form h0
    rcases h.form with ⟨rfl, _⟩ | ⟨b, cap, rfl, hb, _⟩
    · simp at hi
    have HX : Hid (s.getLast? = some (d, v)) := hlast
    obtain ⟨c0, c1, c2⟩ := cells_F (h.below HB0) hx
    rw [hi] at hl ⊢
    clear h h0 hx hlast hi
    go_enter Tryz.func223, Tryz.ntmps223
    go_wp2
    refine bodyPost_ret (v := .tuple #[.agg #[.int .i64 d, .int .i64 v.num, .int .i64 v.den], .bool true]) (by simp [results, Tryz.results223, go_sem]) rfl ⟨by rw [HX.out]; rfl, ?_⟩
    first | exact HB0 | exact (Below.refl _ _).alloc (Nat.le_refl _) _ | repeat (first | exact HB0 | refine below_set ?_ (by omega) _)
set_option maxHeartbeats 1000000 in
theorem stale_M (sv : Value) (s : List (Int × MV)) (day : Int) (w : World) (h : SerAt 162 4 encM w sv s) (hl : s.length ≤ 1000) :
    Calls Tryz.prog 113 #[sv, .int .i64 day] w fun e w' => e = .returned (.bool (stale s day)) ∧ Below w.heap.size w w' := by
  cases hx : s.getLast? with
  | none =>
    have HS : Hid (stale s day = false) := by show stale s day = false; rw [stale, hx]
    have HX := Lib.hid hx
    clear hx
    go_enter Tryz.func113, Tryz.ntmps113
    go_wp2_with (first | (go_at_call 175; refine (last_M _ _ _ h hl).mono ?_; rintro e w1 ⟨rfl, hb1⟩; rw [HX.out, show (optE encM zencM none).toArray = #[.int .i64 0, .string ⟨#[]⟩, .string ⟨#[]⟩, .bool false] from rfl]; have hz1 : w.heap.size ≤ w1.heap.size := hb1.size))
    go_ret
    refine ⟨ret_bool HS.out.symm, ?_⟩
    have HB1 := hb1.alloc hz1 (.cells #[.int .i64 0, .string ⟨#[]⟩, .string ⟨#[]⟩, .bool false] 162)
    first | exact HB1 | exact hb1.alloc hz1 _ | repeat (first | exact HB1 | refine below_set ?_ (by omega) _)
  | some x =>
    obtain ⟨d, v⟩ := x
    have HX := Lib.hid hx
    by_cases hd : day < d
    · have HS : Hid (stale s day = true) := by show stale s day = true; rw [stale, hx]; simp [hd]
      clear hx
      go_enter Tryz.func113, Tryz.ntmps113
      go_wp2_with (first | (go_at_call 175; refine (last_M _ _ _ h hl).mono ?_; rintro e w1 ⟨rfl, hb1⟩; rw [HX.out, show (optE encM zencM (some (d, v))).toArray = #[.int .i64 d, .string v.code, .string v.lei, .bool v.active] from rfl]; have hz1 : w.heap.size ≤ w1.heap.size := hb1.size))
      go_ret
      refine ⟨ret_bool HS.out.symm, ?_⟩
      have HB1 := hb1.alloc hz1 (.cells #[.int .i64 d, .string v.code, .string v.lei, .bool v.active] 162)
      first | exact HB1 | exact hb1.alloc hz1 _ | repeat (first | exact HB1 | refine below_set ?_ (by omega) _)
    · have HS : Hid (stale s day = false) := by show stale s day = false; rw [stale, hx]; simp [hd]
      have hd1 : d ≤ day := by omega
      have hd2 : decide (day < d) = false := by simp [hd]
      clear hx hd
      go_enter Tryz.func113, Tryz.ntmps113
      go_wp2_with (first | (go_at_call 175; refine (last_M _ _ _ h hl).mono ?_; rintro e w1 ⟨rfl, hb1⟩; rw [HX.out, show (optE encM zencM (some (d, v))).toArray = #[.int .i64 d, .string v.code, .string v.lei, .bool v.active] from rfl]; have hz1 : w.heap.size ≤ w1.heap.size := hb1.size))
      go_ret
      refine ⟨ret_bool HS.out.symm, ?_⟩
      have HB1 := hb1.alloc hz1 (.cells #[.int .i64 d, .string v.code, .string v.lei, .bool v.active] 162)
      first | exact HB1 | exact hb1.alloc hz1 _ | repeat (first | exact HB1 | refine below_set ?_ (by omega) _)
set_option maxHeartbeats 1000000 in
theorem stale_S (sv : Value) (s : List (Int × SV)) (day : Int) (w : World) (h : SerAt 166 5 encS w sv s) (hl : s.length ≤ 1000) :
    Calls Tryz.prog 118 #[sv, .int .i64 day] w fun e w' => e = .returned (.bool (stale s day)) ∧ Below w.heap.size w w' := by
  cases hx : s.getLast? with
  | none =>
    have HS : Hid (stale s day = false) := by show stale s day = false; rw [stale, hx]
    have HX := Lib.hid hx
    clear hx
    go_enter Tryz.func118, Tryz.ntmps118
    go_wp2_with (first | (go_at_call 117; refine (last_S _ _ _ h hl).mono ?_; rintro e w1 ⟨rfl, hb1⟩; rw [HX.out, show (optE encS zencS none).toArray = #[.int .i64 0, .string ⟨#[]⟩, .string ⟨#[]⟩, .int .i64 0, .bool false] from rfl]; have hz1 : w.heap.size ≤ w1.heap.size := hb1.size))
    go_ret
    refine ⟨ret_bool HS.out.symm, ?_⟩
    have HB1 := hb1.alloc hz1 (.cells #[.int .i64 0, .string ⟨#[]⟩, .string ⟨#[]⟩, .int .i64 0, .bool false] 166)
    first | exact HB1 | exact hb1.alloc hz1 _ | repeat (first | exact HB1 | refine below_set ?_ (by omega) _)
  | some x =>
    obtain ⟨d, v⟩ := x
    have HX := Lib.hid hx
    by_cases hd : day < d
    · have HS : Hid (stale s day = true) := by show stale s day = true; rw [stale, hx]; simp [hd]
      clear hx
      go_enter Tryz.func118, Tryz.ntmps118
      go_wp2_with (first | (go_at_call 117; refine (last_S _ _ _ h hl).mono ?_; rintro e w1 ⟨rfl, hb1⟩; rw [HX.out, show (optE encS zencS (some (d, v))).toArray = #[.int .i64 d, .string v.isin, .string v.issuer, .int .i64 v.lot, .bool v.active] from rfl]; have hz1 : w.heap.size ≤ w1.heap.size := hb1.size))
      go_ret
      refine ⟨ret_bool HS.out.symm, ?_⟩
      have HB1 := hb1.alloc hz1 (.cells #[.int .i64 d, .string v.isin, .string v.issuer, .int .i64 v.lot, .bool v.active] 166)
      first | exact HB1 | exact hb1.alloc hz1 _ | repeat (first | exact HB1 | refine below_set ?_ (by omega) _)
    · have HS : Hid (stale s day = false) := by show stale s day = false; rw [stale, hx]; simp [hd]
      have hd1 : d ≤ day := by omega
      have hd2 : decide (day < d) = false := by simp [hd]
      clear hx hd
      go_enter Tryz.func118, Tryz.ntmps118
      go_wp2_with (first | (go_at_call 117; refine (last_S _ _ _ h hl).mono ?_; rintro e w1 ⟨rfl, hb1⟩; rw [HX.out, show (optE encS zencS (some (d, v))).toArray = #[.int .i64 d, .string v.isin, .string v.issuer, .int .i64 v.lot, .bool v.active] from rfl]; have hz1 : w.heap.size ≤ w1.heap.size := hb1.size))
      go_ret
      refine ⟨ret_bool HS.out.symm, ?_⟩
      have HB1 := hb1.alloc hz1 (.cells #[.int .i64 d, .string v.isin, .string v.issuer, .int .i64 v.lot, .bool v.active] 166)
      first | exact HB1 | exact hb1.alloc hz1 _ | repeat (first | exact HB1 | refine below_set ?_ (by omega) _)
set_option maxHeartbeats 1000000 in
theorem stale_P (sv : Value) (s : List (Int × Int)) (day : Int) (w : World) (h : SerAt 170 2 encP w sv s) (hl : s.length ≤ 1000) :
    Calls Tryz.prog 178 #[sv, .int .i64 day] w fun e w' => e = .returned (.bool (stale s day)) ∧ Below w.heap.size w w' := by
  cases hx : s.getLast? with
  | none =>
    have HS : Hid (stale s day = false) := by show stale s day = false; rw [stale, hx]
    have HX := Lib.hid hx
    clear hx
    go_enter Tryz.func178, Tryz.ntmps178
    go_wp2_with (first | (go_at_call 221; refine (last_P _ _ _ h hl).mono ?_; rintro e w1 ⟨rfl, hb1⟩; rw [HX.out, show (optE encP zencP none).toArray = #[.int .i64 0, .int .i64 0] from rfl]; have hz1 : w.heap.size ≤ w1.heap.size := hb1.size))
    go_ret
    refine ⟨ret_bool HS.out.symm, ?_⟩
    have HB1 := hb1.alloc hz1 (.cells #[.int .i64 0, .int .i64 0] 170)
    first | exact HB1 | exact hb1.alloc hz1 _ | repeat (first | exact HB1 | refine below_set ?_ (by omega) _)
  | some x =>
    obtain ⟨d, v⟩ := x
    have HX := Lib.hid hx
    by_cases hd : day < d
    · have HS : Hid (stale s day = true) := by show stale s day = true; rw [stale, hx]; simp [hd]
      clear hx
      go_enter Tryz.func178, Tryz.ntmps178
      go_wp2_with (first | (go_at_call 221; refine (last_P _ _ _ h hl).mono ?_; rintro e w1 ⟨rfl, hb1⟩; rw [HX.out, show (optE encP zencP (some (d, v))).toArray = #[.int .i64 d, .int .i64 v] from rfl]; have hz1 : w.heap.size ≤ w1.heap.size := hb1.size))
      go_ret
      refine ⟨ret_bool HS.out.symm, ?_⟩
      have HB1 := hb1.alloc hz1 (.cells #[.int .i64 d, .int .i64 v] 170)
      first | exact HB1 | exact hb1.alloc hz1 _ | repeat (first | exact HB1 | refine below_set ?_ (by omega) _)
    · have HS : Hid (stale s day = false) := by show stale s day = false; rw [stale, hx]; simp [hd]
      have hd1 : d ≤ day := by omega
      have hd2 : decide (day < d) = false := by simp [hd]
      clear hx hd
      go_enter Tryz.func178, Tryz.ntmps178
      go_wp2_with (first | (go_at_call 221; refine (last_P _ _ _ h hl).mono ?_; rintro e w1 ⟨rfl, hb1⟩; rw [HX.out, show (optE encP zencP (some (d, v))).toArray = #[.int .i64 d, .int .i64 v] from rfl]; have hz1 : w.heap.size ≤ w1.heap.size := hb1.size))
      go_ret
      refine ⟨ret_bool HS.out.symm, ?_⟩
      have HB1 := hb1.alloc hz1 (.cells #[.int .i64 d, .int .i64 v] 170)
      first | exact HB1 | exact hb1.alloc hz1 _ | repeat (first | exact HB1 | refine below_set ?_ (by omega) _)
set_option maxHeartbeats 1000000 in
theorem stale_F (sv : Value) (s : List (Int × FV)) (day : Int) (w : World) (h : SerAt 174 3 encF w sv s) (hl : s.length ≤ 1000) :
    Calls Tryz.prog 182 #[sv, .int .i64 day] w fun e w' => e = .returned (.bool (stale s day)) ∧ Below w.heap.size w w' := by
  cases hx : s.getLast? with
  | none =>
    have HS : Hid (stale s day = false) := by show stale s day = false; rw [stale, hx]
    have HX := Lib.hid hx
    clear hx
    go_enter Tryz.func182, Tryz.ntmps182
    go_wp2_with (first | (go_at_call 223; refine (last_F _ _ _ h hl).mono ?_; rintro e w1 ⟨rfl, hb1⟩; rw [HX.out, show (optE encF zencF none).toArray = #[.int .i64 0, .int .i64 0, .int .i64 0] from rfl]; have hz1 : w.heap.size ≤ w1.heap.size := hb1.size))
    go_ret
    refine ⟨ret_bool HS.out.symm, ?_⟩
    have HB1 := hb1.alloc hz1 (.cells #[.int .i64 0, .int .i64 0, .int .i64 0] 174)
    first | exact HB1 | exact hb1.alloc hz1 _ | repeat (first | exact HB1 | refine below_set ?_ (by omega) _)
  | some x =>
    obtain ⟨d, v⟩ := x
    have HX := Lib.hid hx
    by_cases hd : day < d
    · have HS : Hid (stale s day = true) := by show stale s day = true; rw [stale, hx]; simp [hd]
      clear hx
      go_enter Tryz.func182, Tryz.ntmps182
      go_wp2_with (first | (go_at_call 223; refine (last_F _ _ _ h hl).mono ?_; rintro e w1 ⟨rfl, hb1⟩; rw [HX.out, show (optE encF zencF (some (d, v))).toArray = #[.int .i64 d, .int .i64 v.num, .int .i64 v.den] from rfl]; have hz1 : w.heap.size ≤ w1.heap.size := hb1.size))
      go_ret
      refine ⟨ret_bool HS.out.symm, ?_⟩
      have HB1 := hb1.alloc hz1 (.cells #[.int .i64 d, .int .i64 v.num, .int .i64 v.den] 174)
      first | exact HB1 | exact hb1.alloc hz1 _ | repeat (first | exact HB1 | refine below_set ?_ (by omega) _)
    · have HS : Hid (stale s day = false) := by show stale s day = false; rw [stale, hx]; simp [hd]
      have hd1 : d ≤ day := by omega
      have hd2 : decide (day < d) = false := by simp [hd]
      clear hx hd
      go_enter Tryz.func182, Tryz.ntmps182
      go_wp2_with (first | (go_at_call 223; refine (last_F _ _ _ h hl).mono ?_; rintro e w1 ⟨rfl, hb1⟩; rw [HX.out, show (optE encF zencF (some (d, v))).toArray = #[.int .i64 d, .int .i64 v.num, .int .i64 v.den] from rfl]; have hz1 : w.heap.size ≤ w1.heap.size := hb1.size))
      go_ret
      refine ⟨ret_bool HS.out.symm, ?_⟩
      have HB1 := hb1.alloc hz1 (.cells #[.int .i64 d, .int .i64 v.num, .int .i64 v.den] 174)
      first | exact HB1 | exact hb1.alloc hz1 _ | repeat (first | exact HB1 | refine below_set ?_ (by omega) _)
theorem info_M : (Tryz.prog.info? 162).map (fun i => (i.zero, i.size, i.bytes)) = some (some (.agg #[.int .i64 0, .string ⟨#[]⟩, .string ⟨#[]⟩, .bool false]), 4, 48) := by kernel_rfl
theorem one_M (s : List (Int × MV)) : ∀ u ∈ s.flatMap (encE encM), u.oneCell' = true := by
  intro u hu
  obtain ⟨x, _, hx⟩ := List.mem_flatMap.1 hu
  simp only [encE, encM, List.mem_cons, List.not_mem_nil, or_false] at hx
  rcases hx with rfl | rfl | rfl | rfl <;> rfl
theorem len_M (s : List (Int × MV)) : (s.flatMap (encE encM)).length = s.length * 4 := by
  induction s with
  | nil => rfl
  | cons x s ih => rw [List.flatMap_cons, List.length_append, ih]; simp only [List.length_cons]; show 4 + _ = _; omega

set_option maxHeartbeats 1000000 in
theorem clone_M (sv : Value) (s : List (Int × MV)) (w : World) (h : SerAt 162 4 encM w sv s) (hl : s.length ≤ 1000) :
    Calls Tryz.prog 176 #[sv] w fun e w' => ∃ v', e = .returned v' ∧ w'.ownsRow w.heap.size 162 4 v' s.length (s.flatMap (encE encM)) ∧ Below w.heap.size w w' := by
  obtain ⟨i0, hi0, hz0, hz1, hz2⟩ := info_parts info_M
  rcases h.form with ⟨rfl, rfl⟩ | ⟨b, cap, rfl, hb, _⟩
  · have hq := fun w => Lib.run_eql_slice_nil (P := Tryz.prog) w 140 162 none 0 0 0 0 Tryz.underlying140
    go_enter Tryz.func176, Tryz.ntmps176
    go_wp2
    go_ret
    exact ⟨_, rfl, World.ownsRow_nil _ _ _ _, Below.refl _ _⟩
  · have hq := fun w => Lib.run_eql_slice_nil (P := Tryz.prog) w 140 162 (some ⟨b, 0, none⟩) s.length cap 0 0 Tryz.underlying140
    have HM : (w.alloc (.cells #[] 162)).ownsRow w.heap.size 162 4 (.slice (some ⟨w.heap.size, 0, none⟩) 0 0) 0 [] := World.ownsRow_made w #[] 0 (Nat.le_refl _) (by decide) rfl
    have HN : Hid (∀ j u, (s.flatMap (encE encM))[j]? = some u → (w.alloc (.cells #[] 162)).cell? ((⟨b, 0, none⟩ : Addr).add j) = some u) := (World.ownsRow.alloc h _).cells rfl
    clear h
    go_enter Tryz.func176, Tryz.ntmps176
    go_wp2_with (first | (at_builtin; go_loud (refine wpList_append_own _ rfl _ _ 140 rfl w.heap.size 162 i0 (.agg #[.int .i64 0, .string ⟨#[]⟩, .string ⟨#[]⟩, .bool false]) 4 48 Tryz.underlying140 hi0 hz0 hz1 hz2 rfl (by decide) _ 0 [] rfl HM ⟨b, 0, none⟩ s.length cap (s.flatMap (encE encM)) rfl (len_M s) HN.out (one_M s) (by unfold maxLen; omega) (by omega) (by simp) ?_)))
    intro v' w1 hown hgrow _
    (try simp only [Nat.zero_add, List.nil_append] at hown)
    have HB : Below w.heap.size w w1 := ((Below.refl _ _).alloc (Nat.le_refl _) (.cells #[] 162)).grown hgrow (by simp) (fun k e => by cases e; exact Nat.le_refl _)
    clear HM HN hgrow
    go_wp2
    go_ret
    exact ⟨_, rfl, hown, HB⟩
theorem info_S : (Tryz.prog.info? 166).map (fun i => (i.zero, i.size, i.bytes)) = some (some (.agg #[.int .i64 0, .string ⟨#[]⟩, .string ⟨#[]⟩, .int .i64 0, .bool false]), 5, 56) := by kernel_rfl
theorem one_S (s : List (Int × SV)) : ∀ u ∈ s.flatMap (encE encS), u.oneCell' = true := by
  intro u hu
  obtain ⟨x, _, hx⟩ := List.mem_flatMap.1 hu
  simp only [encE, encS, List.mem_cons, List.not_mem_nil, or_false] at hx
  rcases hx with rfl | rfl | rfl | rfl | rfl <;> rfl
theorem len_S (s : List (Int × SV)) : (s.flatMap (encE encS)).length = s.length * 5 := by
  induction s with
  | nil => rfl
  | cons x s ih => rw [List.flatMap_cons, List.length_append, ih]; simp only [List.length_cons]; show 5 + _ = _; omega

set_option maxHeartbeats 1000000 in
theorem clone_S (sv : Value) (s : List (Int × SV)) (w : World) (h : SerAt 166 5 encS w sv s) (hl : s.length ≤ 1000) :
    Calls Tryz.prog 177 #[sv] w fun e w' => ∃ v', e = .returned v' ∧ w'.ownsRow w.heap.size 166 5 v' s.length (s.flatMap (encE encS)) ∧ Below w.heap.size w w' := by
  obtain ⟨i0, hi0, hz0, hz1, hz2⟩ := info_parts info_S
  rcases h.form with ⟨rfl, rfl⟩ | ⟨b, cap, rfl, hb, _⟩
  · have hq := fun w => Lib.run_eql_slice_nil (P := Tryz.prog) w 151 166 none 0 0 0 0 Tryz.underlying151
    go_enter Tryz.func177, Tryz.ntmps177
    go_wp2
    go_ret
    exact ⟨_, rfl, World.ownsRow_nil _ _ _ _, Below.refl _ _⟩
  · have hq := fun w => Lib.run_eql_slice_nil (P := Tryz.prog) w 151 166 (some ⟨b, 0, none⟩) s.length cap 0 0 Tryz.underlying151
    have HM : (w.alloc (.cells #[] 166)).ownsRow w.heap.size 166 5 (.slice (some ⟨w.heap.size, 0, none⟩) 0 0) 0 [] := World.ownsRow_made w #[] 0 (Nat.le_refl _) (by decide) rfl
    have HN : Hid (∀ j u, (s.flatMap (encE encS))[j]? = some u → (w.alloc (.cells #[] 166)).cell? ((⟨b, 0, none⟩ : Addr).add j) = some u) := (World.ownsRow.alloc h _).cells rfl
    clear h
    go_enter Tryz.func177, Tryz.ntmps177
    go_wp2_with (first | (at_builtin; go_loud (refine wpList_append_own _ rfl _ _ 151 rfl w.heap.size 166 i0 (.agg #[.int .i64 0, .string ⟨#[]⟩, .string ⟨#[]⟩, .int .i64 0, .bool false]) 5 56 Tryz.underlying151 hi0 hz0 hz1 hz2 rfl (by decide) _ 0 [] rfl HM ⟨b, 0, none⟩ s.length cap (s.flatMap (encE encS)) rfl (len_S s) HN.out (one_S s) (by unfold maxLen; omega) (by omega) (by simp) ?_)))
    intro v' w1 hown hgrow _
    (try simp only [Nat.zero_add, List.nil_append] at hown)
    have HB : Below w.heap.size w w1 := ((Below.refl _ _).alloc (Nat.le_refl _) (.cells #[] 166)).grown hgrow (by simp) (fun k e => by cases e; exact Nat.le_refl _)
    clear HM HN hgrow
    go_wp2
    go_ret
    exact ⟨_, rfl, hown, HB⟩
theorem info_P : (Tryz.prog.info? 170).map (fun i => (i.zero, i.size, i.bytes)) = some (some (.agg #[.int .i64 0, .int .i64 0]), 2, 16) := by kernel_rfl
theorem one_P (s : List (Int × Int)) : ∀ u ∈ s.flatMap (encE encP), u.oneCell' = true := by
  intro u hu
  obtain ⟨x, _, hx⟩ := List.mem_flatMap.1 hu
  simp only [encE, encP, List.mem_cons, List.not_mem_nil, or_false] at hx
  rcases hx with rfl | rfl <;> rfl
theorem len_P (s : List (Int × Int)) : (s.flatMap (encE encP)).length = s.length * 2 := by
  induction s with
  | nil => rfl
  | cons x s ih => rw [List.flatMap_cons, List.length_append, ih]; simp only [List.length_cons]; show 2 + _ = _; omega

set_option maxHeartbeats 1000000 in
theorem clone_P (sv : Value) (s : List (Int × Int)) (w : World) (h : SerAt 170 2 encP w sv s) (hl : s.length ≤ 1000) :
    Calls Tryz.prog 222 #[sv] w fun e w' => ∃ v', e = .returned v' ∧ w'.ownsRow w.heap.size 170 2 v' s.length (s.flatMap (encE encP)) ∧ Below w.heap.size w w' := by
  obtain ⟨i0, hi0, hz0, hz1, hz2⟩ := info_parts info_P
  rcases h.form with ⟨rfl, rfl⟩ | ⟨b, cap, rfl, hb, _⟩
  · have hq := fun w => Lib.run_eql_slice_nil (P := Tryz.prog) w 154 170 none 0 0 0 0 Tryz.underlying154
    go_enter Tryz.func222, Tryz.ntmps222
    go_wp2
    go_ret
    exact ⟨_, rfl, World.ownsRow_nil _ _ _ _, Below.refl _ _⟩
  · have hq := fun w => Lib.run_eql_slice_nil (P := Tryz.prog) w 154 170 (some ⟨b, 0, none⟩) s.length cap 0 0 Tryz.underlying154
    have HM : (w.alloc (.cells #[] 170)).ownsRow w.heap.size 170 2 (.slice (some ⟨w.heap.size, 0, none⟩) 0 0) 0 [] := World.ownsRow_made w #[] 0 (Nat.le_refl _) (by decide) rfl
    have HN : Hid (∀ j u, (s.flatMap (encE encP))[j]? = some u → (w.alloc (.cells #[] 170)).cell? ((⟨b, 0, none⟩ : Addr).add j) = some u) := (World.ownsRow.alloc h _).cells rfl
    clear h
    go_enter Tryz.func222, Tryz.ntmps222
    go_wp2_with (first | (at_builtin; go_loud (refine wpList_append_own _ rfl _ _ 154 rfl w.heap.size 170 i0 (.agg #[.int .i64 0, .int .i64 0]) 2 16 Tryz.underlying154 hi0 hz0 hz1 hz2 rfl (by decide) _ 0 [] rfl HM ⟨b, 0, none⟩ s.length cap (s.flatMap (encE encP)) rfl (len_P s) HN.out (one_P s) (by unfold maxLen; omega) (by omega) (by simp) ?_)))
    intro v' w1 hown hgrow _
    (try simp only [Nat.zero_add, List.nil_append] at hown)
    have HB : Below w.heap.size w w1 := ((Below.refl _ _).alloc (Nat.le_refl _) (.cells #[] 170)).grown hgrow (by simp) (fun k e => by cases e; exact Nat.le_refl _)
    clear HM HN hgrow
    go_wp2
    go_ret
    exact ⟨_, rfl, hown, HB⟩
theorem info_F : (Tryz.prog.info? 174).map (fun i => (i.zero, i.size, i.bytes)) = some (some (.agg #[.int .i64 0, .int .i64 0, .int .i64 0]), 3, 24) := by kernel_rfl
theorem one_F (s : List (Int × FV)) : ∀ u ∈ s.flatMap (encE encF), u.oneCell' = true := by
  intro u hu
  obtain ⟨x, _, hx⟩ := List.mem_flatMap.1 hu
  simp only [encE, encF, List.mem_cons, List.not_mem_nil, or_false] at hx
  rcases hx with rfl | rfl | rfl <;> rfl
theorem len_F (s : List (Int × FV)) : (s.flatMap (encE encF)).length = s.length * 3 := by
  induction s with
  | nil => rfl
  | cons x s ih => rw [List.flatMap_cons, List.length_append, ih]; simp only [List.length_cons]; show 3 + _ = _; omega

set_option maxHeartbeats 1000000 in
theorem clone_F (sv : Value) (s : List (Int × FV)) (w : World) (h : SerAt 174 3 encF w sv s) (hl : s.length ≤ 1000) :
    Calls Tryz.prog 224 #[sv] w fun e w' => ∃ v', e = .returned v' ∧ w'.ownsRow w.heap.size 174 3 v' s.length (s.flatMap (encE encF)) ∧ Below w.heap.size w w' := by
  obtain ⟨i0, hi0, hz0, hz1, hz2⟩ := info_parts info_F
  rcases h.form with ⟨rfl, rfl⟩ | ⟨b, cap, rfl, hb, _⟩
  · have hq := fun w => Lib.run_eql_slice_nil (P := Tryz.prog) w 157 174 none 0 0 0 0 Tryz.underlying157
    go_enter Tryz.func224, Tryz.ntmps224
    go_wp2
    go_ret
    exact ⟨_, rfl, World.ownsRow_nil _ _ _ _, Below.refl _ _⟩
  · have hq := fun w => Lib.run_eql_slice_nil (P := Tryz.prog) w 157 174 (some ⟨b, 0, none⟩) s.length cap 0 0 Tryz.underlying157
    have HM : (w.alloc (.cells #[] 174)).ownsRow w.heap.size 174 3 (.slice (some ⟨w.heap.size, 0, none⟩) 0 0) 0 [] := World.ownsRow_made w #[] 0 (Nat.le_refl _) (by decide) rfl
    have HN : Hid (∀ j u, (s.flatMap (encE encF))[j]? = some u → (w.alloc (.cells #[] 174)).cell? ((⟨b, 0, none⟩ : Addr).add j) = some u) := (World.ownsRow.alloc h _).cells rfl
    clear h
    go_enter Tryz.func224, Tryz.ntmps224
    go_wp2_with (first | (at_builtin; go_loud (refine wpList_append_own _ rfl _ _ 157 rfl w.heap.size 174 i0 (.agg #[.int .i64 0, .int .i64 0, .int .i64 0]) 3 24 Tryz.underlying157 hi0 hz0 hz1 hz2 rfl (by decide) _ 0 [] rfl HM ⟨b, 0, none⟩ s.length cap (s.flatMap (encE encF)) rfl (len_F s) HN.out (one_F s) (by unfold maxLen; omega) (by omega) (by simp) ?_)))
    intro v' w1 hown hgrow _
    (try simp only [Nat.zero_add, List.nil_append] at hown)
    have HB : Below w.heap.size w w1 := ((Below.refl _ _).alloc (Nat.le_refl _) (.cells #[] 174)).grown hgrow (by simp) (fun k e => by cases e; exact Nat.le_refl _)
    clear HM HN hgrow
    go_wp2
    go_ret
    exact ⟨_, rfl, hown, HB⟩
end Go.Proofs.YtmbhkfclpkopiaaGreatDoor
