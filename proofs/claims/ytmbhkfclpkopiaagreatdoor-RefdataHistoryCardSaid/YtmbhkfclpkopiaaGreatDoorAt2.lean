/- at: what is effective on a day, for each of the four kinds. -/
import Derived.Test.YtmbhkfclpkopiaaGreatDoorBsf
import Derived.Lib.Hide
namespace Go.Proofs.YtmbhkfclpkopiaaGreatDoor
open Go.RowKit
set_option linter.unusedVariables false
set_option linter.unusedSimpArgs false

theorem isDay_calls (d : Int) (w : World) : Calls Tryz.prog 111 #[.int .i64 d] w fun e w' => e = .returned (.bool (isDay d)) ∧ w = w' := by
  by_cases h1 : 0 ≤ d
  · by_cases h2 : d ≤ 73048
    · have HF : Hid (isDay d = true) := by simp [Hid, isDay, h1, h2]
      go_enter Tryz.func111, Tryz.ntmps111
      go_wp2
      go_ret
      exact ⟨ret_bool HF.out.symm, rfl⟩
    · have HF : Hid (isDay d = false) := by simp [Hid, isDay, h2]
      go_enter Tryz.func111, Tryz.ntmps111
      go_wp2
      go_ret
      exact ⟨ret_bool HF.out.symm, rfl⟩
  · have HF : Hid (isDay d = false) := by simp [Hid, isDay, h1]
    go_enter Tryz.func111, Tryz.ntmps111
    go_wp2
    go_ret
    exact ⟨ret_bool HF.out.symm, rfl⟩

/-- The entry's cells, or zero values. -/
def optE {V : Type} (enc : V → List Value) (z : List Value) : Option (Int × V) → List Value
  | some x => encE enc x
  | none => .int .i64 0 :: z

set_option maxHeartbeats 2000000 in
theorem at_M (v : Value) (s : List (Int × MV)) (day : Int) (w : World) (h : SerAt 162 4 encM w v s) (hr : Rising s) (hl : s.length ≤ 1000) :
    Calls Tryz.prog 73 #[v, .int .i64 day] w fun e w' => e = .returned (.tuple #[.agg (optE encM zencM (seAt s day)).toArray, .bool (seAt s day).isSome]) ∧ Below w.heap.size w w' := by
  have hix := seIdx_le s day
  cases hh : seHas s day with
  | true =>
    have hlt := seIdx_lt_of_has hh
    rcases h.form with ⟨rfl, _⟩ | ⟨b, cap, rfl, hb, hm⟩
    · simp [seHas] at hh
    clear hm
    obtain ⟨i, hi⟩ : ∃ i, seIdx s day = i := ⟨_, rfl⟩
    cases hd : isDay day with
    | true =>
      have HA : Hid (seAt s day = s[i]?) := by show seAt s day = s[i]?; rw [seAt_has hr hd hh, hi]
      rw [hi] at hlt
      obtain ⟨⟨d, v⟩, hx⟩ : ∃ x, s[i]? = some x := ⟨_, List.getElem?_eq_getElem hlt⟩
      have HX : Hid (seAt s day = some (d, v)) := HA.out.trans hx
      have HI : Hid (seIdx s day = i) := hi
      have HH : Hid (seHas s day = true) := hh
      have HD : Hid (isDay day = true) := hd
      have HE := Lib.hid hx
      clear hh hi hd hx hix
      go_enter Tryz.func73, Tryz.ntmps73
      go_wp2_with (first | (go_at_call 125; refine (bsf_M _ _ _ _ (h.below ((Below.refl _ _).alloc (Nat.le_refl _) _)) hr hl).mono ?_; rintro e w1 ⟨rfl, hb1⟩; rw [HI.out, HH.out]; have HB0 : Below w.heap.size w w1 := ((Below.refl _ _).alloc (Nat.le_refl _) _).trans (hb1.mono (by simp)); have hc1 := fun o => (bcell hb1).1 w.heap.size o (by simp); have hf1 := fun o => (bcell hb1).2 w.heap.size o (by simp); have hz1 : w.heap.size < w1.heap.size := (by have := hb1.size; simp at this; omega); obtain ⟨c0, c1, c2, c3⟩ := cells_M (h.below HB0) HE.out) | (go_at_call 111; refine (isDay_calls _ _).mono ?_; rintro e w' ⟨rfl, rfl⟩; rw [HD.out]))
      refine bodyPost_ret (v := .tuple #[.agg #[.int .i64 d, .string v.code, .string v.lei, .bool v.active], .bool true]) (by simp [results, Tryz.results73, go_sem, hc1, hz1]) rfl ⟨by rw [HX.out]; rfl, ?_⟩
      repeat (first | exact HB0 | refine below_set ?_ (by omega) _)
    | false =>
      have HX : Hid (seAt s day = none) := seAt_out s hd
      rw [hi] at hlt
      have HI : Hid (seIdx s day = i) := hi
      have HH : Hid (seHas s day = true) := hh
      have HD : Hid (isDay day = false) := hd
      clear hh hi hd hix
      go_enter Tryz.func73, Tryz.ntmps73
      go_wp2_with (first | (go_at_call 125; refine (bsf_M _ _ _ _ (h.below ((Below.refl _ _).alloc (Nat.le_refl _) _)) hr hl).mono ?_; rintro e w1 ⟨rfl, hb1⟩; rw [HI.out, HH.out]; have HB0 : Below w.heap.size w w1 := ((Below.refl _ _).alloc (Nat.le_refl _) _).trans (hb1.mono (by simp)); have hc1 := fun o => (bcell hb1).1 w.heap.size o (by simp); have hf1 := fun o => (bcell hb1).2 w.heap.size o (by simp); have hz1 : w.heap.size < w1.heap.size := (by have := hb1.size; simp at this; omega)) | (go_at_call 111; refine (isDay_calls _ _).mono ?_; rintro e w' ⟨rfl, rfl⟩; rw [HD.out]))
      refine bodyPost_ret (v := .tuple #[.agg #[.int .i64 0, .string ⟨#[]⟩, .string ⟨#[]⟩, .bool false], .bool false]) (by simp [results, Tryz.results73, go_sem, hc1, hz1]) rfl ⟨by rw [HX.out]; rfl, ?_⟩
      repeat (first | exact HB0 | refine below_set ?_ (by omega) _)
  | false =>
    rcases Nat.eq_zero_or_pos (seIdx s day) with h0 | h0
    · have HX : Hid (seAt s day = none) := seAt_no hr hh h0
      have HI : Hid (seIdx s day = 0) := h0
      have HH : Hid (seHas s day = false) := hh
      clear hh h0 hix
      go_enter Tryz.func73, Tryz.ntmps73
      go_wp2_with (first | (go_at_call 125; refine (bsf_M _ _ _ _ (h.below ((Below.refl _ _).alloc (Nat.le_refl _) _)) hr hl).mono ?_; rintro e w1 ⟨rfl, hb1⟩; rw [HI.out, HH.out]; have HB0 : Below w.heap.size w w1 := ((Below.refl _ _).alloc (Nat.le_refl _) _).trans (hb1.mono (by simp)); have hc1 := fun o => (bcell hb1).1 w.heap.size o (by simp); have hf1 := fun o => (bcell hb1).2 w.heap.size o (by simp); have hz1 : w.heap.size < w1.heap.size := (by have := hb1.size; simp at this; omega)) | (go_at_call 111; refine (isDay_calls _ _).mono ?_; rintro e w' ⟨rfl, rfl⟩))
      refine bodyPost_ret (v := .tuple #[.agg #[.int .i64 0, .string ⟨#[]⟩, .string ⟨#[]⟩, .bool false], .bool false]) (by simp [results, Tryz.results73, go_sem, hc1, hz1]) rfl ⟨by rw [HX.out]; rfl, ?_⟩
      repeat (first | exact HB0 | refine below_set ?_ (by omega) _)
    · obtain ⟨i, hi⟩ : ∃ i, seIdx s day = i + 1 := ⟨seIdx s day - 1, by omega⟩
      rcases h.form with ⟨rfl, _⟩ | ⟨b, cap, rfl, hb, hm⟩
      · simp [seIdx] at hi
      clear hm
      cases hd : isDay day with
      | true =>
        have HA : Hid (seAt s day = s[i]?) := seAt_below hr hd hh hi
        have hlt : i < s.length := by omega
        obtain ⟨⟨d, v⟩, hx⟩ : ∃ x, s[i]? = some x := ⟨_, List.getElem?_eq_getElem hlt⟩
        have HX : Hid (seAt s day = some (d, v)) := HA.out.trans hx
        have HI : Hid (seIdx s day = i + 1) := hi
        have HH : Hid (seHas s day = false) := hh
        have HD : Hid (isDay day = true) := hd
        have HE := Lib.hid hx
        clear hh hi hd hx hix h0
        go_enter Tryz.func73, Tryz.ntmps73
        go_wp2_with (first | (go_at_call 125; refine (bsf_M _ _ _ _ (h.below ((Below.refl _ _).alloc (Nat.le_refl _) _)) hr hl).mono ?_; rintro e w1 ⟨rfl, hb1⟩; rw [HI.out, HH.out]; have HB0 : Below w.heap.size w w1 := ((Below.refl _ _).alloc (Nat.le_refl _) _).trans (hb1.mono (by simp)); have hc1 := fun o => (bcell hb1).1 w.heap.size o (by simp); have hf1 := fun o => (bcell hb1).2 w.heap.size o (by simp); have hz1 : w.heap.size < w1.heap.size := (by have := hb1.size; simp at this; omega); obtain ⟨c0, c1, c2, c3⟩ := cells_M (h.below HB0) HE.out) | (go_at_call 111; refine (isDay_calls _ _).mono ?_; rintro e w' ⟨rfl, rfl⟩; rw [HD.out]))
        refine bodyPost_ret (v := .tuple #[.agg #[.int .i64 d, .string v.code, .string v.lei, .bool v.active], .bool true]) (by simp [results, Tryz.results73, go_sem, hc1, hz1]) rfl ⟨by rw [HX.out]; rfl, ?_⟩
        repeat (first | exact HB0 | refine below_set ?_ (by omega) _)
      | false =>
        have HX : Hid (seAt s day = none) := seAt_out s hd
        have hlt : i < s.length := by omega
        have HI : Hid (seIdx s day = i + 1) := hi
        have HH : Hid (seHas s day = false) := hh
        have HD : Hid (isDay day = false) := hd
        clear hh hi hd hix h0
        go_enter Tryz.func73, Tryz.ntmps73
        go_wp2_with (first | (go_at_call 125; refine (bsf_M _ _ _ _ (h.below ((Below.refl _ _).alloc (Nat.le_refl _) _)) hr hl).mono ?_; rintro e w1 ⟨rfl, hb1⟩; rw [HI.out, HH.out]; have HB0 : Below w.heap.size w w1 := ((Below.refl _ _).alloc (Nat.le_refl _) _).trans (hb1.mono (by simp)); have hc1 := fun o => (bcell hb1).1 w.heap.size o (by simp); have hf1 := fun o => (bcell hb1).2 w.heap.size o (by simp); have hz1 : w.heap.size < w1.heap.size := (by have := hb1.size; simp at this; omega)) | (go_at_call 111; refine (isDay_calls _ _).mono ?_; rintro e w' ⟨rfl, rfl⟩; rw [HD.out]))
        refine bodyPost_ret (v := .tuple #[.agg #[.int .i64 0, .string ⟨#[]⟩, .string ⟨#[]⟩, .bool false], .bool false]) (by simp [results, Tryz.results73, go_sem, hc1, hz1]) rfl ⟨by rw [HX.out]; rfl, ?_⟩
        repeat (first | exact HB0 | refine below_set ?_ (by omega) _)
set_option maxHeartbeats 2000000 in
theorem at_S (v : Value) (s : List (Int × SV)) (day : Int) (w : World) (h : SerAt 166 5 encS w v s) (hr : Rising s) (hl : s.length ≤ 1000) :
    Calls Tryz.prog 74 #[v, .int .i64 day] w fun e w' => e = .returned (.tuple #[.agg (optE encS zencS (seAt s day)).toArray, .bool (seAt s day).isSome]) ∧ Below w.heap.size w w' := by
  have hix := seIdx_le s day
  cases hh : seHas s day with
  | true =>
    have hlt := seIdx_lt_of_has hh
    rcases h.form with ⟨rfl, _⟩ | ⟨b, cap, rfl, hb, hm⟩
    · simp [seHas] at hh
    clear hm
    obtain ⟨i, hi⟩ : ∃ i, seIdx s day = i := ⟨_, rfl⟩
    cases hd : isDay day with
    | true =>
      have HA : Hid (seAt s day = s[i]?) := by show seAt s day = s[i]?; rw [seAt_has hr hd hh, hi]
      rw [hi] at hlt
      obtain ⟨⟨d, v⟩, hx⟩ : ∃ x, s[i]? = some x := ⟨_, List.getElem?_eq_getElem hlt⟩
      have HX : Hid (seAt s day = some (d, v)) := HA.out.trans hx
      have HI : Hid (seIdx s day = i) := hi
      have HH : Hid (seHas s day = true) := hh
      have HD : Hid (isDay day = true) := hd
      have HE := Lib.hid hx
      clear hh hi hd hx hix
      go_enter Tryz.func74, Tryz.ntmps74
      go_wp2_with (first | (go_at_call 128; refine (bsf_S _ _ _ _ (h.below ((Below.refl _ _).alloc (Nat.le_refl _) _)) hr hl).mono ?_; rintro e w1 ⟨rfl, hb1⟩; rw [HI.out, HH.out]; have HB0 : Below w.heap.size w w1 := ((Below.refl _ _).alloc (Nat.le_refl _) _).trans (hb1.mono (by simp)); have hc1 := fun o => (bcell hb1).1 w.heap.size o (by simp); have hf1 := fun o => (bcell hb1).2 w.heap.size o (by simp); have hz1 : w.heap.size < w1.heap.size := (by have := hb1.size; simp at this; omega); obtain ⟨c0, c1, c2, c3, c4⟩ := cells_S (h.below HB0) HE.out) | (go_at_call 111; refine (isDay_calls _ _).mono ?_; rintro e w' ⟨rfl, rfl⟩; rw [HD.out]))
      refine bodyPost_ret (v := .tuple #[.agg #[.int .i64 d, .string v.isin, .string v.issuer, .int .i64 v.lot, .bool v.active], .bool true]) (by simp [results, Tryz.results74, go_sem, hc1, hz1]) rfl ⟨by rw [HX.out]; rfl, ?_⟩
      repeat (first | exact HB0 | refine below_set ?_ (by omega) _)
    | false =>
      have HX : Hid (seAt s day = none) := seAt_out s hd
      rw [hi] at hlt
      have HI : Hid (seIdx s day = i) := hi
      have HH : Hid (seHas s day = true) := hh
      have HD : Hid (isDay day = false) := hd
      clear hh hi hd hix
      go_enter Tryz.func74, Tryz.ntmps74
      go_wp2_with (first | (go_at_call 128; refine (bsf_S _ _ _ _ (h.below ((Below.refl _ _).alloc (Nat.le_refl _) _)) hr hl).mono ?_; rintro e w1 ⟨rfl, hb1⟩; rw [HI.out, HH.out]; have HB0 : Below w.heap.size w w1 := ((Below.refl _ _).alloc (Nat.le_refl _) _).trans (hb1.mono (by simp)); have hc1 := fun o => (bcell hb1).1 w.heap.size o (by simp); have hf1 := fun o => (bcell hb1).2 w.heap.size o (by simp); have hz1 : w.heap.size < w1.heap.size := (by have := hb1.size; simp at this; omega)) | (go_at_call 111; refine (isDay_calls _ _).mono ?_; rintro e w' ⟨rfl, rfl⟩; rw [HD.out]))
      refine bodyPost_ret (v := .tuple #[.agg #[.int .i64 0, .string ⟨#[]⟩, .string ⟨#[]⟩, .int .i64 0, .bool false], .bool false]) (by simp [results, Tryz.results74, go_sem, hc1, hz1]) rfl ⟨by rw [HX.out]; rfl, ?_⟩
      repeat (first | exact HB0 | refine below_set ?_ (by omega) _)
  | false =>
    rcases Nat.eq_zero_or_pos (seIdx s day) with h0 | h0
    · have HX : Hid (seAt s day = none) := seAt_no hr hh h0
      have HI : Hid (seIdx s day = 0) := h0
      have HH : Hid (seHas s day = false) := hh
      clear hh h0 hix
      go_enter Tryz.func74, Tryz.ntmps74
      go_wp2_with (first | (go_at_call 128; refine (bsf_S _ _ _ _ (h.below ((Below.refl _ _).alloc (Nat.le_refl _) _)) hr hl).mono ?_; rintro e w1 ⟨rfl, hb1⟩; rw [HI.out, HH.out]; have HB0 : Below w.heap.size w w1 := ((Below.refl _ _).alloc (Nat.le_refl _) _).trans (hb1.mono (by simp)); have hc1 := fun o => (bcell hb1).1 w.heap.size o (by simp); have hf1 := fun o => (bcell hb1).2 w.heap.size o (by simp); have hz1 : w.heap.size < w1.heap.size := (by have := hb1.size; simp at this; omega)) | (go_at_call 111; refine (isDay_calls _ _).mono ?_; rintro e w' ⟨rfl, rfl⟩))
      refine bodyPost_ret (v := .tuple #[.agg #[.int .i64 0, .string ⟨#[]⟩, .string ⟨#[]⟩, .int .i64 0, .bool false], .bool false]) (by simp [results, Tryz.results74, go_sem, hc1, hz1]) rfl ⟨by rw [HX.out]; rfl, ?_⟩
      repeat (first | exact HB0 | refine below_set ?_ (by omega) _)
    · obtain ⟨i, hi⟩ : ∃ i, seIdx s day = i + 1 := ⟨seIdx s day - 1, by omega⟩
      rcases h.form with ⟨rfl, _⟩ | ⟨b, cap, rfl, hb, hm⟩
      · simp [seIdx] at hi
      clear hm
      cases hd : isDay day with
      | true =>
        have HA : Hid (seAt s day = s[i]?) := seAt_below hr hd hh hi
        have hlt : i < s.length := by omega
        obtain ⟨⟨d, v⟩, hx⟩ : ∃ x, s[i]? = some x := ⟨_, List.getElem?_eq_getElem hlt⟩
        have HX : Hid (seAt s day = some (d, v)) := HA.out.trans hx
        have HI : Hid (seIdx s day = i + 1) := hi
        have HH : Hid (seHas s day = false) := hh
        have HD : Hid (isDay day = true) := hd
        have HE := Lib.hid hx
        clear hh hi hd hx hix h0
        go_enter Tryz.func74, Tryz.ntmps74
        go_wp2_with (first | (go_at_call 128; refine (bsf_S _ _ _ _ (h.below ((Below.refl _ _).alloc (Nat.le_refl _) _)) hr hl).mono ?_; rintro e w1 ⟨rfl, hb1⟩; rw [HI.out, HH.out]; have HB0 : Below w.heap.size w w1 := ((Below.refl _ _).alloc (Nat.le_refl _) _).trans (hb1.mono (by simp)); have hc1 := fun o => (bcell hb1).1 w.heap.size o (by simp); have hf1 := fun o => (bcell hb1).2 w.heap.size o (by simp); have hz1 : w.heap.size < w1.heap.size := (by have := hb1.size; simp at this; omega); obtain ⟨c0, c1, c2, c3, c4⟩ := cells_S (h.below HB0) HE.out) | (go_at_call 111; refine (isDay_calls _ _).mono ?_; rintro e w' ⟨rfl, rfl⟩; rw [HD.out]))
        refine bodyPost_ret (v := .tuple #[.agg #[.int .i64 d, .string v.isin, .string v.issuer, .int .i64 v.lot, .bool v.active], .bool true]) (by simp [results, Tryz.results74, go_sem, hc1, hz1]) rfl ⟨by rw [HX.out]; rfl, ?_⟩
        repeat (first | exact HB0 | refine below_set ?_ (by omega) _)
      | false =>
        have HX : Hid (seAt s day = none) := seAt_out s hd
        have hlt : i < s.length := by omega
        have HI : Hid (seIdx s day = i + 1) := hi
        have HH : Hid (seHas s day = false) := hh
        have HD : Hid (isDay day = false) := hd
        clear hh hi hd hix h0
        go_enter Tryz.func74, Tryz.ntmps74
        go_wp2_with (first | (go_at_call 128; refine (bsf_S _ _ _ _ (h.below ((Below.refl _ _).alloc (Nat.le_refl _) _)) hr hl).mono ?_; rintro e w1 ⟨rfl, hb1⟩; rw [HI.out, HH.out]; have HB0 : Below w.heap.size w w1 := ((Below.refl _ _).alloc (Nat.le_refl _) _).trans (hb1.mono (by simp)); have hc1 := fun o => (bcell hb1).1 w.heap.size o (by simp); have hf1 := fun o => (bcell hb1).2 w.heap.size o (by simp); have hz1 : w.heap.size < w1.heap.size := (by have := hb1.size; simp at this; omega)) | (go_at_call 111; refine (isDay_calls _ _).mono ?_; rintro e w' ⟨rfl, rfl⟩; rw [HD.out]))
        refine bodyPost_ret (v := .tuple #[.agg #[.int .i64 0, .string ⟨#[]⟩, .string ⟨#[]⟩, .int .i64 0, .bool false], .bool false]) (by simp [results, Tryz.results74, go_sem, hc1, hz1]) rfl ⟨by rw [HX.out]; rfl, ?_⟩
        repeat (first | exact HB0 | refine below_set ?_ (by omega) _)
set_option maxHeartbeats 2000000 in
theorem at_P (v : Value) (s : List (Int × Int)) (day : Int) (w : World) (h : SerAt 170 2 encP w v s) (hr : Rising s) (hl : s.length ≤ 1000) :
    Calls Tryz.prog 75 #[v, .int .i64 day] w fun e w' => e = .returned (.tuple #[.agg (optE encP zencP (seAt s day)).toArray, .bool (seAt s day).isSome]) ∧ Below w.heap.size w w' := by
  have hix := seIdx_le s day
  cases hh : seHas s day with
  | true =>
    have hlt := seIdx_lt_of_has hh
    rcases h.form with ⟨rfl, _⟩ | ⟨b, cap, rfl, hb, hm⟩
    · simp [seHas] at hh
    clear hm
    obtain ⟨i, hi⟩ : ∃ i, seIdx s day = i := ⟨_, rfl⟩
    cases hd : isDay day with
    | true =>
      have HA : Hid (seAt s day = s[i]?) := by show seAt s day = s[i]?; rw [seAt_has hr hd hh, hi]
      rw [hi] at hlt
      obtain ⟨⟨d, v⟩, hx⟩ : ∃ x, s[i]? = some x := ⟨_, List.getElem?_eq_getElem hlt⟩
      have HX : Hid (seAt s day = some (d, v)) := HA.out.trans hx
      have HI : Hid (seIdx s day = i) := hi
      have HH : Hid (seHas s day = true) := hh
      have HD : Hid (isDay day = true) := hd
      have HE := Lib.hid hx
      clear hh hi hd hx hix
      go_enter Tryz.func75, Tryz.ntmps75
      go_wp2_with (first | (go_at_call 130; refine (bsf_P _ _ _ _ (h.below ((Below.refl _ _).alloc (Nat.le_refl _) _)) hr hl).mono ?_; rintro e w1 ⟨rfl, hb1⟩; rw [HI.out, HH.out]; have HB0 : Below w.heap.size w w1 := ((Below.refl _ _).alloc (Nat.le_refl _) _).trans (hb1.mono (by simp)); have hc1 := fun o => (bcell hb1).1 w.heap.size o (by simp); have hf1 := fun o => (bcell hb1).2 w.heap.size o (by simp); have hz1 : w.heap.size < w1.heap.size := (by have := hb1.size; simp at this; omega); obtain ⟨c0, c1⟩ := cells_P (h.below HB0) HE.out) | (go_at_call 111; refine (isDay_calls _ _).mono ?_; rintro e w' ⟨rfl, rfl⟩; rw [HD.out]))
      refine bodyPost_ret (v := .tuple #[.agg #[.int .i64 d, .int .i64 v], .bool true]) (by simp [results, Tryz.results75, go_sem, hc1, hz1]) rfl ⟨by rw [HX.out]; rfl, ?_⟩
      repeat (first | exact HB0 | refine below_set ?_ (by omega) _)
    | false =>
      have HX : Hid (seAt s day = none) := seAt_out s hd
      rw [hi] at hlt
      have HI : Hid (seIdx s day = i) := hi
      have HH : Hid (seHas s day = true) := hh
      have HD : Hid (isDay day = false) := hd
      clear hh hi hd hix
      go_enter Tryz.func75, Tryz.ntmps75
      go_wp2_with (first | (go_at_call 130; refine (bsf_P _ _ _ _ (h.below ((Below.refl _ _).alloc (Nat.le_refl _) _)) hr hl).mono ?_; rintro e w1 ⟨rfl, hb1⟩; rw [HI.out, HH.out]; have HB0 : Below w.heap.size w w1 := ((Below.refl _ _).alloc (Nat.le_refl _) _).trans (hb1.mono (by simp)); have hc1 := fun o => (bcell hb1).1 w.heap.size o (by simp); have hf1 := fun o => (bcell hb1).2 w.heap.size o (by simp); have hz1 : w.heap.size < w1.heap.size := (by have := hb1.size; simp at this; omega)) | (go_at_call 111; refine (isDay_calls _ _).mono ?_; rintro e w' ⟨rfl, rfl⟩; rw [HD.out]))
      refine bodyPost_ret (v := .tuple #[.agg #[.int .i64 0, .int .i64 0], .bool false]) (by simp [results, Tryz.results75, go_sem, hc1, hz1]) rfl ⟨by rw [HX.out]; rfl, ?_⟩
      repeat (first | exact HB0 | refine below_set ?_ (by omega) _)
  | false =>
    rcases Nat.eq_zero_or_pos (seIdx s day) with h0 | h0
    · have HX : Hid (seAt s day = none) := seAt_no hr hh h0
      have HI : Hid (seIdx s day = 0) := h0
      have HH : Hid (seHas s day = false) := hh
      clear hh h0 hix
      go_enter Tryz.func75, Tryz.ntmps75
      go_wp2_with (first | (go_at_call 130; refine (bsf_P _ _ _ _ (h.below ((Below.refl _ _).alloc (Nat.le_refl _) _)) hr hl).mono ?_; rintro e w1 ⟨rfl, hb1⟩; rw [HI.out, HH.out]; have HB0 : Below w.heap.size w w1 := ((Below.refl _ _).alloc (Nat.le_refl _) _).trans (hb1.mono (by simp)); have hc1 := fun o => (bcell hb1).1 w.heap.size o (by simp); have hf1 := fun o => (bcell hb1).2 w.heap.size o (by simp); have hz1 : w.heap.size < w1.heap.size := (by have := hb1.size; simp at this; omega)) | (go_at_call 111; refine (isDay_calls _ _).mono ?_; rintro e w' ⟨rfl, rfl⟩))
      refine bodyPost_ret (v := .tuple #[.agg #[.int .i64 0, .int .i64 0], .bool false]) (by simp [results, Tryz.results75, go_sem, hc1, hz1]) rfl ⟨by rw [HX.out]; rfl, ?_⟩
      repeat (first | exact HB0 | refine below_set ?_ (by omega) _)
    · obtain ⟨i, hi⟩ : ∃ i, seIdx s day = i + 1 := ⟨seIdx s day - 1, by omega⟩
      rcases h.form with ⟨rfl, _⟩ | ⟨b, cap, rfl, hb, hm⟩
      · simp [seIdx] at hi
      clear hm
      cases hd : isDay day with
      | true =>
        have HA : Hid (seAt s day = s[i]?) := seAt_below hr hd hh hi
        have hlt : i < s.length := by omega
        obtain ⟨⟨d, v⟩, hx⟩ : ∃ x, s[i]? = some x := ⟨_, List.getElem?_eq_getElem hlt⟩
        have HX : Hid (seAt s day = some (d, v)) := HA.out.trans hx
        have HI : Hid (seIdx s day = i + 1) := hi
        have HH : Hid (seHas s day = false) := hh
        have HD : Hid (isDay day = true) := hd
        have HE := Lib.hid hx
        clear hh hi hd hx hix h0
        go_enter Tryz.func75, Tryz.ntmps75
        go_wp2_with (first | (go_at_call 130; refine (bsf_P _ _ _ _ (h.below ((Below.refl _ _).alloc (Nat.le_refl _) _)) hr hl).mono ?_; rintro e w1 ⟨rfl, hb1⟩; rw [HI.out, HH.out]; have HB0 : Below w.heap.size w w1 := ((Below.refl _ _).alloc (Nat.le_refl _) _).trans (hb1.mono (by simp)); have hc1 := fun o => (bcell hb1).1 w.heap.size o (by simp); have hf1 := fun o => (bcell hb1).2 w.heap.size o (by simp); have hz1 : w.heap.size < w1.heap.size := (by have := hb1.size; simp at this; omega); obtain ⟨c0, c1⟩ := cells_P (h.below HB0) HE.out) | (go_at_call 111; refine (isDay_calls _ _).mono ?_; rintro e w' ⟨rfl, rfl⟩; rw [HD.out]))
        refine bodyPost_ret (v := .tuple #[.agg #[.int .i64 d, .int .i64 v], .bool true]) (by simp [results, Tryz.results75, go_sem, hc1, hz1]) rfl ⟨by rw [HX.out]; rfl, ?_⟩
        repeat (first | exact HB0 | refine below_set ?_ (by omega) _)
      | false =>
        have HX : Hid (seAt s day = none) := seAt_out s hd
        have hlt : i < s.length := by omega
        have HI : Hid (seIdx s day = i + 1) := hi
        have HH : Hid (seHas s day = false) := hh
        have HD : Hid (isDay day = false) := hd
        clear hh hi hd hix h0
        go_enter Tryz.func75, Tryz.ntmps75
        go_wp2_with (first | (go_at_call 130; refine (bsf_P _ _ _ _ (h.below ((Below.refl _ _).alloc (Nat.le_refl _) _)) hr hl).mono ?_; rintro e w1 ⟨rfl, hb1⟩; rw [HI.out, HH.out]; have HB0 : Below w.heap.size w w1 := ((Below.refl _ _).alloc (Nat.le_refl _) _).trans (hb1.mono (by simp)); have hc1 := fun o => (bcell hb1).1 w.heap.size o (by simp); have hf1 := fun o => (bcell hb1).2 w.heap.size o (by simp); have hz1 : w.heap.size < w1.heap.size := (by have := hb1.size; simp at this; omega)) | (go_at_call 111; refine (isDay_calls _ _).mono ?_; rintro e w' ⟨rfl, rfl⟩; rw [HD.out]))
        refine bodyPost_ret (v := .tuple #[.agg #[.int .i64 0, .int .i64 0], .bool false]) (by simp [results, Tryz.results75, go_sem, hc1, hz1]) rfl ⟨by rw [HX.out]; rfl, ?_⟩
        repeat (first | exact HB0 | refine below_set ?_ (by omega) _)
set_option maxHeartbeats 2000000 in
theorem at_F (v : Value) (s : List (Int × FV)) (day : Int) (w : World) (h : SerAt 174 3 encF w v s) (hr : Rising s) (hl : s.length ≤ 1000) :
    Calls Tryz.prog 76 #[v, .int .i64 day] w fun e w' => e = .returned (.tuple #[.agg (optE encF zencF (seAt s day)).toArray, .bool (seAt s day).isSome]) ∧ Below w.heap.size w w' := by
  have hix := seIdx_le s day
  cases hh : seHas s day with
  | true =>
    have hlt := seIdx_lt_of_has hh
    rcases h.form with ⟨rfl, _⟩ | ⟨b, cap, rfl, hb, hm⟩
    · simp [seHas] at hh
    clear hm
    obtain ⟨i, hi⟩ : ∃ i, seIdx s day = i := ⟨_, rfl⟩
    cases hd : isDay day with
    | true =>
      have HA : Hid (seAt s day = s[i]?) := by show seAt s day = s[i]?; rw [seAt_has hr hd hh, hi]
      rw [hi] at hlt
      obtain ⟨⟨d, v⟩, hx⟩ : ∃ x, s[i]? = some x := ⟨_, List.getElem?_eq_getElem hlt⟩
      have HX : Hid (seAt s day = some (d, v)) := HA.out.trans hx
      have HI : Hid (seIdx s day = i) := hi
      have HH : Hid (seHas s day = true) := hh
      have HD : Hid (isDay day = true) := hd
      have HE := Lib.hid hx
      clear hh hi hd hx hix
      go_enter Tryz.func76, Tryz.ntmps76
      go_wp2_with (first | (go_at_call 132; refine (bsf_F _ _ _ _ (h.below ((Below.refl _ _).alloc (Nat.le_refl _) _)) hr hl).mono ?_; rintro e w1 ⟨rfl, hb1⟩; rw [HI.out, HH.out]; have HB0 : Below w.heap.size w w1 := ((Below.refl _ _).alloc (Nat.le_refl _) _).trans (hb1.mono (by simp)); have hc1 := fun o => (bcell hb1).1 w.heap.size o (by simp); have hf1 := fun o => (bcell hb1).2 w.heap.size o (by simp); have hz1 : w.heap.size < w1.heap.size := (by have := hb1.size; simp at this; omega); obtain ⟨c0, c1, c2⟩ := cells_F (h.below HB0) HE.out) | (go_at_call 111; refine (isDay_calls _ _).mono ?_; rintro e w' ⟨rfl, rfl⟩; rw [HD.out]))
      refine bodyPost_ret (v := .tuple #[.agg #[.int .i64 d, .int .i64 v.num, .int .i64 v.den], .bool true]) (by simp [results, Tryz.results76, go_sem, hc1, hz1]) rfl ⟨by rw [HX.out]; rfl, ?_⟩
      repeat (first | exact HB0 | refine below_set ?_ (by omega) _)
    | false =>
      have HX : Hid (seAt s day = none) := seAt_out s hd
      rw [hi] at hlt
      have HI : Hid (seIdx s day = i) := hi
      have HH : Hid (seHas s day = true) := hh
      have HD : Hid (isDay day = false) := hd
      clear hh hi hd hix
      go_enter Tryz.func76, Tryz.ntmps76
      go_wp2_with (first | (go_at_call 132; refine (bsf_F _ _ _ _ (h.below ((Below.refl _ _).alloc (Nat.le_refl _) _)) hr hl).mono ?_; rintro e w1 ⟨rfl, hb1⟩; rw [HI.out, HH.out]; have HB0 : Below w.heap.size w w1 := ((Below.refl _ _).alloc (Nat.le_refl _) _).trans (hb1.mono (by simp)); have hc1 := fun o => (bcell hb1).1 w.heap.size o (by simp); have hf1 := fun o => (bcell hb1).2 w.heap.size o (by simp); have hz1 : w.heap.size < w1.heap.size := (by have := hb1.size; simp at this; omega)) | (go_at_call 111; refine (isDay_calls _ _).mono ?_; rintro e w' ⟨rfl, rfl⟩; rw [HD.out]))
      refine bodyPost_ret (v := .tuple #[.agg #[.int .i64 0, .int .i64 0, .int .i64 0], .bool false]) (by simp [results, Tryz.results76, go_sem, hc1, hz1]) rfl ⟨by rw [HX.out]; rfl, ?_⟩
      repeat (first | exact HB0 | refine below_set ?_ (by omega) _)
  | false =>
    rcases Nat.eq_zero_or_pos (seIdx s day) with h0 | h0
    · have HX : Hid (seAt s day = none) := seAt_no hr hh h0
      have HI : Hid (seIdx s day = 0) := h0
      have HH : Hid (seHas s day = false) := hh
      clear hh h0 hix
      go_enter Tryz.func76, Tryz.ntmps76
      go_wp2_with (first | (go_at_call 132; refine (bsf_F _ _ _ _ (h.below ((Below.refl _ _).alloc (Nat.le_refl _) _)) hr hl).mono ?_; rintro e w1 ⟨rfl, hb1⟩; rw [HI.out, HH.out]; have HB0 : Below w.heap.size w w1 := ((Below.refl _ _).alloc (Nat.le_refl _) _).trans (hb1.mono (by simp)); have hc1 := fun o => (bcell hb1).1 w.heap.size o (by simp); have hf1 := fun o => (bcell hb1).2 w.heap.size o (by simp); have hz1 : w.heap.size < w1.heap.size := (by have := hb1.size; simp at this; omega)) | (go_at_call 111; refine (isDay_calls _ _).mono ?_; rintro e w' ⟨rfl, rfl⟩))
      refine bodyPost_ret (v := .tuple #[.agg #[.int .i64 0, .int .i64 0, .int .i64 0], .bool false]) (by simp [results, Tryz.results76, go_sem, hc1, hz1]) rfl ⟨by rw [HX.out]; rfl, ?_⟩
      repeat (first | exact HB0 | refine below_set ?_ (by omega) _)
    · obtain ⟨i, hi⟩ : ∃ i, seIdx s day = i + 1 := ⟨seIdx s day - 1, by omega⟩
      rcases h.form with ⟨rfl, _⟩ | ⟨b, cap, rfl, hb, hm⟩
      · simp [seIdx] at hi
      clear hm
      cases hd : isDay day with
      | true =>
        have HA : Hid (seAt s day = s[i]?) := seAt_below hr hd hh hi
        have hlt : i < s.length := by omega
        obtain ⟨⟨d, v⟩, hx⟩ : ∃ x, s[i]? = some x := ⟨_, List.getElem?_eq_getElem hlt⟩
        have HX : Hid (seAt s day = some (d, v)) := HA.out.trans hx
        have HI : Hid (seIdx s day = i + 1) := hi
        have HH : Hid (seHas s day = false) := hh
        have HD : Hid (isDay day = true) := hd
        have HE := Lib.hid hx
        clear hh hi hd hx hix h0
        go_enter Tryz.func76, Tryz.ntmps76
        go_wp2_with (first | (go_at_call 132; refine (bsf_F _ _ _ _ (h.below ((Below.refl _ _).alloc (Nat.le_refl _) _)) hr hl).mono ?_; rintro e w1 ⟨rfl, hb1⟩; rw [HI.out, HH.out]; have HB0 : Below w.heap.size w w1 := ((Below.refl _ _).alloc (Nat.le_refl _) _).trans (hb1.mono (by simp)); have hc1 := fun o => (bcell hb1).1 w.heap.size o (by simp); have hf1 := fun o => (bcell hb1).2 w.heap.size o (by simp); have hz1 : w.heap.size < w1.heap.size := (by have := hb1.size; simp at this; omega); obtain ⟨c0, c1, c2⟩ := cells_F (h.below HB0) HE.out) | (go_at_call 111; refine (isDay_calls _ _).mono ?_; rintro e w' ⟨rfl, rfl⟩; rw [HD.out]))
        refine bodyPost_ret (v := .tuple #[.agg #[.int .i64 d, .int .i64 v.num, .int .i64 v.den], .bool true]) (by simp [results, Tryz.results76, go_sem, hc1, hz1]) rfl ⟨by rw [HX.out]; rfl, ?_⟩
        repeat (first | exact HB0 | refine below_set ?_ (by omega) _)
      | false =>
        have HX : Hid (seAt s day = none) := seAt_out s hd
        have hlt : i < s.length := by omega
        have HI : Hid (seIdx s day = i + 1) := hi
        have HH : Hid (seHas s day = false) := hh
        have HD : Hid (isDay day = false) := hd
        clear hh hi hd hix h0
        go_enter Tryz.func76, Tryz.ntmps76
        go_wp2_with (first | (go_at_call 132; refine (bsf_F _ _ _ _ (h.below ((Below.refl _ _).alloc (Nat.le_refl _) _)) hr hl).mono ?_; rintro e w1 ⟨rfl, hb1⟩; rw [HI.out, HH.out]; have HB0 : Below w.heap.size w w1 := ((Below.refl _ _).alloc (Nat.le_refl _) _).trans (hb1.mono (by simp)); have hc1 := fun o => (bcell hb1).1 w.heap.size o (by simp); have hf1 := fun o => (bcell hb1).2 w.heap.size o (by simp); have hz1 : w.heap.size < w1.heap.size := (by have := hb1.size; simp at this; omega)) | (go_at_call 111; refine (isDay_calls _ _).mono ?_; rintro e w' ⟨rfl, rfl⟩; rw [HD.out]))
        refine bodyPost_ret (v := .tuple #[.agg #[.int .i64 0, .int .i64 0, .int .i64 0], .bool false]) (by simp [results, Tryz.results76, go_sem, hc1, hz1]) rfl ⟨by rw [HX.out]; rfl, ?_⟩
        repeat (first | exact HB0 | refine below_set ?_ (by omega) _)
end Go.Proofs.YtmbhkfclpkopiaaGreatDoor
