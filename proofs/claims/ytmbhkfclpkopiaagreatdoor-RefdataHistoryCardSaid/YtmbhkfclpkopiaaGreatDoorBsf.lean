/- slices.BinarySearchFunc over a series, for each of the four kinds. -/
import Derived.Test.YtmbhkfclpkopiaaGreatDoorAt
import Derived.Lib.Hide
namespace Go.Proofs.YtmbhkfclpkopiaaGreatDoor
open Go.RowKit
set_option linter.unusedVariables false
set_option linter.unusedSimpArgs false

/-- How many entries lie ahead of the day. -/
def seIdx {V : Type} (s : List (Int × V)) (day : Int) : Nat := (s.filter fun x => decide (x.1 < day)).length
def seHas {V : Type} (s : List (Int × V)) (day : Int) : Bool := s.any fun x => decide (x.1 = day)

/-- What the search knows of the bounds i and j. -/
def Mid {V : Type} (s : List (Int × V)) (day : Int) (i j : Nat) : Prop := ∀ k x, s[k]? = some x → (k < i → x.1 < day) ∧ (j ≤ k → day ≤ x.1)

theorem Mid.start {V : Type} (s : List (Int × V)) (day : Int) : Mid s day 0 s.length :=
  fun k x hk => ⟨fun h => absurd h (Nat.not_lt_zero _), fun h => by have := (List.getElem?_eq_some_iff.1 hk).1; omega⟩

theorem rising_lt {V : Type} {s : List (Int × V)} (hr : Rising s) {i j : Nat} {x y : Int × V} (hi : s[i]? = some x) (hj : s[j]? = some y) (h : i < j) : x.1 < y.1 := by
  obtain ⟨l1, e1⟩ := List.getElem?_eq_some_iff.1 hi
  obtain ⟨l2, e2⟩ := List.getElem?_eq_some_iff.1 hj
  have := List.pairwise_iff_getElem.1 hr i j l1 l2 h
  rwa [e1, e2] at this

theorem Mid.up {V : Type} {s : List (Int × V)} (hr : Rising s) {day : Int} {i j h : Nat} (hm : Mid s day i j) {x : Int × V} (hx : s[h]? = some x) (hlt : x.1 < day) : Mid s day (h + 1) j := by
  intro k y hk
  refine ⟨fun hkh => ?_, (hm k y hk).2⟩
  rcases Nat.lt_or_eq_of_le (Nat.le_of_lt_succ hkh) with h1 | h1
  · have := rising_lt hr hk hx h1; omega
  · subst h1; rw [hx] at hk; cases hk; exact hlt

theorem Mid.down {V : Type} {s : List (Int × V)} (hr : Rising s) {day : Int} {i j h : Nat} (hm : Mid s day i j) {x : Int × V} (hx : s[h]? = some x) (hge : day ≤ x.1) : Mid s day i h := by
  intro k y hk
  refine ⟨(hm k y hk).1, fun hkh => ?_⟩
  rcases Nat.lt_or_eq_of_le hkh with h1 | h1
  · have := rising_lt hr hx hk h1; omega
  · subst h1; rw [hx] at hk; cases hk; exact hge

theorem seIdx_of {V : Type} : ∀ {s : List (Int × V)} {day : Int} {i : Nat}, i ≤ s.length → Mid s day i i → seIdx s day = i
  | [], day, i, hi, _ => by simp [seIdx] at hi ⊢; omega
  | x :: s, day, 0, _, hm => by
    have : ∀ y ∈ x :: s, decide (y.1 < day) = false := fun y hy => by
      obtain ⟨k, hk⟩ := List.mem_iff_getElem?.1 hy
      have := (hm k y hk).2 (Nat.zero_le _)
      simp; omega
    simp only [seIdx]
    rw [List.filter_eq_nil_iff.2 (fun y hy => by simp [this y hy])]
    rfl
  | x :: s, day, i + 1, hi, hm => by
    have h0 := (hm 0 x rfl).1 (by omega)
    have ih := seIdx_of (s := s) (day := day) (i := i) (by simpa using hi) (fun k y hk => ⟨fun h => (hm (k + 1) y hk).1 (by omega), fun h => (hm (k + 1) y hk).2 (by omega)⟩)
    simp only [seIdx, List.filter_cons, h0, decide_true, if_true, List.length_cons] at ih ⊢
    omega

theorem seHas_of {V : Type} {s : List (Int × V)} (hr : Rising s) {day : Int} {i : Nat} (hm : Mid s day i i) : seHas s day = match s[i]? with | some x => decide (x.1 = day) | none => false := by
  cases hx : s[i]? with
  | none =>
    have hl : s.length ≤ i := by simpa using hx
    simp only [seHas]
    rw [List.any_eq_false]
    intro y hy
    obtain ⟨k, hk⟩ := List.mem_iff_getElem?.1 hy
    have := (hm k y hk).1 (by have := (List.getElem?_eq_some_iff.1 hk).1; omega)
    simp; omega
  | some x =>
    by_cases e : x.1 = day
    · simp only [e, decide_true, seHas]
      rw [List.any_eq_true]
      exact ⟨x, List.mem_iff_getElem?.2 ⟨i, hx⟩, by simp [e]⟩
    · simp only [e, decide_false, seHas]
      rw [List.any_eq_false]
      intro y hy
      obtain ⟨k, hk⟩ := List.mem_iff_getElem?.1 hy
      simp only [decide_eq_true_eq]
      intro hy2
      rcases Nat.lt_trichotomy k i with h1 | h1 | h1
      · have := (hm k y hk).1 h1; omega
      · subst h1; rw [hx] at hk; cases hk; exact e hy2
      · have := rising_lt hr hx hk h1
        have := (hm i x hx).2 (Nat.le_refl _)
        omega

theorem rising_tail {V : Type} {x : Int × V} {s : List (Int × V)} (hr : Rising (x :: s)) : Rising s ∧ ∀ y ∈ s, x.1 < y.1 :=
  ⟨(List.pairwise_cons.1 hr).2, (List.pairwise_cons.1 hr).1⟩

theorem filter_le_take {V : Type} (day : Int) : ∀ {s : List (Int × V)}, Rising s → (s.filter fun x => decide (x.1 ≤ day)) = s.take (seIdx s day + if seHas s day then 1 else 0)
  | [], _ => by simp
  | x :: s, hr => by
    obtain ⟨h1, h2⟩ := rising_tail hr
    have ih := filter_le_take day h1
    rcases Int.lt_trichotomy x.1 day with h | h | h
    · have e1 : seIdx (x :: s) day = seIdx s day + 1 := by simp [seIdx, List.filter_cons, h]
      have e2 : seHas (x :: s) day = seHas s day := by
        have : ¬ x.1 = day := by omega
        simp [seHas, this]
      rw [List.filter_cons, if_pos (by simp; omega), ih, e1, e2, Nat.add_right_comm, List.take_succ_cons]
    · have e1 : seIdx (x :: s) day = 0 := by
        simp only [seIdx, List.length_eq_zero_iff, List.filter_eq_nil_iff]
        intro y hy
        rcases List.mem_cons.1 hy with rfl | hy
        · simp; omega
        · have := h2 y hy; simp; omega
      have e2 : seHas (x :: s) day = true := by simp [seHas, h]
      have e3 : (s.filter fun x => decide (x.1 ≤ day)) = [] := by
        rw [List.filter_eq_nil_iff]
        intro y hy
        have := h2 y hy; simp; omega
      rw [List.filter_cons, if_pos (by simp; omega), e3, e1, e2]; rfl
    · have e1 : seIdx (x :: s) day = 0 := by
        simp only [seIdx, List.length_eq_zero_iff, List.filter_eq_nil_iff]
        intro y hy
        rcases List.mem_cons.1 hy with rfl | hy
        · simp; omega
        · have := h2 y hy; simp; omega
      have e2 : seHas (x :: s) day = false := by
        simp only [seHas]
        rw [List.any_eq_false]
        intro y hy
        rcases List.mem_cons.1 hy with rfl | hy
        · simp; omega
        · have := h2 y hy; simp; omega
      have e3 : ((x :: s).filter fun x => decide (x.1 ≤ day)) = [] := by
        rw [List.filter_eq_nil_iff]
        intro y hy
        rcases List.mem_cons.1 hy with rfl | hy
        · simp; omega
        · have := h2 y hy; simp; omega
      rw [e3, e1, e2]; rfl

theorem seIdx_le {V : Type} (s : List (Int × V)) (day : Int) : seIdx s day ≤ s.length := List.length_filter_le _ _

theorem getLast_take {β : Type} (l : List β) (n : Nat) (h : n < l.length) : (l.take (n + 1)).getLast? = l[n]? := by
  rw [List.take_succ_eq_append_getElem h, List.getLast?_append]
  simp [List.getElem?_eq_getElem h]

theorem seIdx_lt_of_has {V : Type} {s : List (Int × V)} {day : Int} (h : seHas s day = true) : seIdx s day < s.length := by
  induction s with
  | nil => simp [seHas] at h
  | cons x s ih =>
    by_cases hx : x.1 < day
    · have : ¬ x.1 = day := by omega
      have h' : seHas s day = true := by simpa [seHas, this] using h
      have := ih h'
      simp only [seIdx, List.filter_cons, hx, decide_true, if_true, List.length_cons] at this ⊢
      omega
    · have : seIdx (x :: s) day = seIdx s day := by simp [seIdx, List.filter_cons, hx]
      rw [this]
      have := seIdx_le s day
      simp only [List.length_cons]
      omega

theorem seAt_has {V : Type} {s : List (Int × V)} (hr : Rising s) {day : Int} (hd : isDay day = true) (h : seHas s day = true) : seAt s day = s[seIdx s day]? := by
  rw [seAt, if_pos hd, filter_le_take day hr, h, if_pos rfl, getLast_take _ _ (seIdx_lt_of_has h)]

theorem seAt_no {V : Type} {s : List (Int × V)} (hr : Rising s) {day : Int} (h : seHas s day = false) (h0 : seIdx s day = 0) : seAt s day = none := by
  unfold seAt
  split
  · rw [filter_le_take day hr, h, h0]; rfl
  · rfl

theorem seAt_below {V : Type} {s : List (Int × V)} (hr : Rising s) {day : Int} (hd : isDay day = true) (h : seHas s day = false) {i : Nat} (h0 : seIdx s day = i + 1) : seAt s day = s[i]? := by
  have := seIdx_le s day
  rw [seAt, if_pos hd, filter_le_take day hr, h, h0]
  exact getLast_take _ _ (by omega)

theorem seAt_out {V : Type} (s : List (Int × V)) {day : Int} (hd : isDay day = false) : seAt s day = none := by rw [seAt, hd]; rfl

set_option maxHeartbeats 400000 in
theorem bsf_M (v : Value) (s : List (Int × MV)) (day : Int) (w : World) (h : SerAt 162 4 encM w v s) (hr : Rising s) (hl : s.length ≤ 1000) :
    Calls Tryz.prog 125 #[v, .int .i64 day, .func (.func 126) #[] #[]] w fun e w' => e = .returned (.tuple #[.int .i64 (seIdx s day), .bool (seHas s day)]) ∧ Below w.heap.size w w' := by
  rcases h.form with ⟨rfl, rfl⟩ | ⟨b, cap, rfl, hb, hm⟩
  · go_enter Tryz.func125, Tryz.ntmps125
    go_wp2
    refine wp_loop_rounds 1 ?_
    rw [rounds_succ]
    go_wp2
    go_ret2
    exact ⟨rfl, Below.refl _ _⟩
  · clear hm
    have HS : Hid (SerAt 162 4 encM w (.slice (some ⟨b, 0, none⟩) s.length cap) s) := h
    clear h
    have HR : Hid (Rising s) := hr
    clear hr
    go_enter Tryz.func125, Tryz.ntmps125
    go_wp2
    go_loopw [9, 10, 11] (fun v9 v10 v11 wr => ∃ i j : Nat, i ≤ j ∧ j ≤ s.length ∧ v9 = .int .i64 i ∧ v10 = .int .i64 j ∧ Hid (Mid s day i j) ∧ Below w.heap.size w wr)
      (fun v9 v10 _ _ => (intOf v10).toNat - (intOf v9).toNat)
    case atStart => exact ⟨0, s.length, by omega, by omega, rfl, rfl, Mid.start s day, Below.refl _ _⟩
    case round =>
      obtain ⟨i, j, hij, hjn, rfl, rfl, HI, hB⟩ := hrel
      have hbr : b < wr.heap.size := Nat.lt_of_lt_of_le hb hB.size
      by_cases hlt : i < j
      · obtain ⟨⟨d, v⟩, hx⟩ : ∃ x, s[(i + j) / 2]? = some x := ⟨_, List.getElem?_eq_getElem (by omega)⟩
        obtain ⟨c0, c1, c2, c3⟩ := cells_M (HS.out.below hB) hx
        by_cases hd : d < day
        · have HX : Hid (Mid s day ((i + j) / 2 + 1) j) := HI.out.up HR.out hx hd
          have hcm : cmpI d day < 0 := by rw [cmpI_lt hd]; omega
          clear hx
          go_wp2_with (go_at_call 126; refine (at1_M _ _ _ _).mono ?_; rintro e w1 ⟨rfl, hb1⟩)
          go_roundw
          case rel => exact ⟨(i + j) / 2 + 1, j, by omega, hjn, vint (by omega), rfl, HX, hB.trans (hb1.mono hB.size)⟩
          case measure => simp [intOf]; omega
        · have HX : Hid (Mid s day i ((i + j) / 2)) := HI.out.down HR.out hx (by omega)
          have hcm : 0 ≤ cmpI d day := cmpI_ge (by omega)
          clear hx
          go_wp2_with (go_at_call 126; refine (at1_M _ _ _ _).mono ?_; rintro e w1 ⟨rfl, hb1⟩)
          go_roundw
          case rel => exact ⟨i, (i + j) / 2, by omega, by omega, rfl, vint (by omega), HX, hB.trans (hb1.mono hB.size)⟩
          case measure => simp [intOf]; omega
      · obtain rfl : i = j := by omega
        have HI1 : Hid (seIdx s day = i) := seIdx_of hjn HI.out
        have HI2 := Lib.hid (seHas_of HR.out HI.out)
        by_cases hin : i < s.length
        · obtain ⟨⟨d, v⟩, hx⟩ : ∃ x, s[i]? = some x := ⟨_, List.getElem?_eq_getElem (by omega)⟩
          obtain ⟨c0, c1, c2, c3⟩ := cells_M (HS.out.below hB) hx
          by_cases hd : d = day
          · have HX : Hid (seHas s day = true) := by
              show seHas s day = true
              rw [HI2.out, hx]; simp [hd]
            have hcm : (cmpI d day == 0) = true := by rw [cmpI_eq hd]; rfl
            clear hx hd
            go_wp2_with (go_at_call 126; refine (at1_M _ _ _ _).mono ?_; rintro e w1 ⟨rfl, hb1⟩)
            go_ret2
            exact ⟨by rw [HI1.out, HX.out]; rfl, hB.trans (hb1.mono hB.size)⟩
          · have HX : Hid (seHas s day = false) := by
              show seHas s day = false
              rw [HI2.out, hx]; simp [hd]
            have hcm : (cmpI d day == 0) = false := by
              unfold cmpI
              split
              · rfl
              · split
                · rfl
                · omega
            clear hx hd
            go_wp2_with (go_at_call 126; refine (at1_M _ _ _ _).mono ?_; rintro e w1 ⟨rfl, hb1⟩)
            go_ret2
            exact ⟨by rw [HI1.out, HX.out]; rfl, hB.trans (hb1.mono hB.size)⟩
        · have HX : Hid (seHas s day = false) := by
            show seHas s day = false
            rw [HI2.out, List.getElem?_eq_none (by omega)]
          go_wp2
          go_ret2
          exact ⟨by rw [HI1.out, HX.out]; rfl, hB⟩
set_option maxHeartbeats 400000 in
theorem bsf_S (v : Value) (s : List (Int × SV)) (day : Int) (w : World) (h : SerAt 166 5 encS w v s) (hr : Rising s) (hl : s.length ≤ 1000) :
    Calls Tryz.prog 128 #[v, .int .i64 day, .func (.func 129) #[] #[]] w fun e w' => e = .returned (.tuple #[.int .i64 (seIdx s day), .bool (seHas s day)]) ∧ Below w.heap.size w w' := by
  rcases h.form with ⟨rfl, rfl⟩ | ⟨b, cap, rfl, hb, hm⟩
  · go_enter Tryz.func128, Tryz.ntmps128
    go_wp2
    refine wp_loop_rounds 1 ?_
    rw [rounds_succ]
    go_wp2
    go_ret2
    exact ⟨rfl, Below.refl _ _⟩
  · clear hm
    have HS : Hid (SerAt 166 5 encS w (.slice (some ⟨b, 0, none⟩) s.length cap) s) := h
    clear h
    have HR : Hid (Rising s) := hr
    clear hr
    go_enter Tryz.func128, Tryz.ntmps128
    go_wp2
    go_loopw [9, 10, 11] (fun v9 v10 v11 wr => ∃ i j : Nat, i ≤ j ∧ j ≤ s.length ∧ v9 = .int .i64 i ∧ v10 = .int .i64 j ∧ Hid (Mid s day i j) ∧ Below w.heap.size w wr)
      (fun v9 v10 _ _ => (intOf v10).toNat - (intOf v9).toNat)
    case atStart => exact ⟨0, s.length, by omega, by omega, rfl, rfl, Mid.start s day, Below.refl _ _⟩
    case round =>
      obtain ⟨i, j, hij, hjn, rfl, rfl, HI, hB⟩ := hrel
      have hbr : b < wr.heap.size := Nat.lt_of_lt_of_le hb hB.size
      by_cases hlt : i < j
      · obtain ⟨⟨d, v⟩, hx⟩ : ∃ x, s[(i + j) / 2]? = some x := ⟨_, List.getElem?_eq_getElem (by omega)⟩
        obtain ⟨c0, c1, c2, c3, c4⟩ := cells_S (HS.out.below hB) hx
        by_cases hd : d < day
        · have HX : Hid (Mid s day ((i + j) / 2 + 1) j) := HI.out.up HR.out hx hd
          have hcm : cmpI d day < 0 := by rw [cmpI_lt hd]; omega
          clear hx
          go_wp2_with (go_at_call 129; refine (at1_S _ _ _ _).mono ?_; rintro e w1 ⟨rfl, hb1⟩)
          go_roundw
          case rel => exact ⟨(i + j) / 2 + 1, j, by omega, hjn, vint (by omega), rfl, HX, hB.trans (hb1.mono hB.size)⟩
          case measure => simp [intOf]; omega
        · have HX : Hid (Mid s day i ((i + j) / 2)) := HI.out.down HR.out hx (by omega)
          have hcm : 0 ≤ cmpI d day := cmpI_ge (by omega)
          clear hx
          go_wp2_with (go_at_call 129; refine (at1_S _ _ _ _).mono ?_; rintro e w1 ⟨rfl, hb1⟩)
          go_roundw
          case rel => exact ⟨i, (i + j) / 2, by omega, by omega, rfl, vint (by omega), HX, hB.trans (hb1.mono hB.size)⟩
          case measure => simp [intOf]; omega
      · obtain rfl : i = j := by omega
        have HI1 : Hid (seIdx s day = i) := seIdx_of hjn HI.out
        have HI2 := Lib.hid (seHas_of HR.out HI.out)
        by_cases hin : i < s.length
        · obtain ⟨⟨d, v⟩, hx⟩ : ∃ x, s[i]? = some x := ⟨_, List.getElem?_eq_getElem (by omega)⟩
          obtain ⟨c0, c1, c2, c3, c4⟩ := cells_S (HS.out.below hB) hx
          by_cases hd : d = day
          · have HX : Hid (seHas s day = true) := by
              show seHas s day = true
              rw [HI2.out, hx]; simp [hd]
            have hcm : (cmpI d day == 0) = true := by rw [cmpI_eq hd]; rfl
            clear hx hd
            go_wp2_with (go_at_call 129; refine (at1_S _ _ _ _).mono ?_; rintro e w1 ⟨rfl, hb1⟩)
            go_ret2
            exact ⟨by rw [HI1.out, HX.out]; rfl, hB.trans (hb1.mono hB.size)⟩
          · have HX : Hid (seHas s day = false) := by
              show seHas s day = false
              rw [HI2.out, hx]; simp [hd]
            have hcm : (cmpI d day == 0) = false := by
              unfold cmpI
              split
              · rfl
              · split
                · rfl
                · omega
            clear hx hd
            go_wp2_with (go_at_call 129; refine (at1_S _ _ _ _).mono ?_; rintro e w1 ⟨rfl, hb1⟩)
            go_ret2
            exact ⟨by rw [HI1.out, HX.out]; rfl, hB.trans (hb1.mono hB.size)⟩
        · have HX : Hid (seHas s day = false) := by
            show seHas s day = false
            rw [HI2.out, List.getElem?_eq_none (by omega)]
          go_wp2
          go_ret2
          exact ⟨by rw [HI1.out, HX.out]; rfl, hB⟩
set_option maxHeartbeats 400000 in
theorem bsf_P (v : Value) (s : List (Int × Int)) (day : Int) (w : World) (h : SerAt 170 2 encP w v s) (hr : Rising s) (hl : s.length ≤ 1000) :
    Calls Tryz.prog 130 #[v, .int .i64 day, .func (.func 131) #[] #[]] w fun e w' => e = .returned (.tuple #[.int .i64 (seIdx s day), .bool (seHas s day)]) ∧ Below w.heap.size w w' := by
  rcases h.form with ⟨rfl, rfl⟩ | ⟨b, cap, rfl, hb, hm⟩
  · go_enter Tryz.func130, Tryz.ntmps130
    go_wp2
    refine wp_loop_rounds 1 ?_
    rw [rounds_succ]
    go_wp2
    go_ret2
    exact ⟨rfl, Below.refl _ _⟩
  · clear hm
    have HS : Hid (SerAt 170 2 encP w (.slice (some ⟨b, 0, none⟩) s.length cap) s) := h
    clear h
    have HR : Hid (Rising s) := hr
    clear hr
    go_enter Tryz.func130, Tryz.ntmps130
    go_wp2
    go_loopw [9, 10, 11] (fun v9 v10 v11 wr => ∃ i j : Nat, i ≤ j ∧ j ≤ s.length ∧ v9 = .int .i64 i ∧ v10 = .int .i64 j ∧ Hid (Mid s day i j) ∧ Below w.heap.size w wr)
      (fun v9 v10 _ _ => (intOf v10).toNat - (intOf v9).toNat)
    case atStart => exact ⟨0, s.length, by omega, by omega, rfl, rfl, Mid.start s day, Below.refl _ _⟩
    case round =>
      obtain ⟨i, j, hij, hjn, rfl, rfl, HI, hB⟩ := hrel
      have hbr : b < wr.heap.size := Nat.lt_of_lt_of_le hb hB.size
      by_cases hlt : i < j
      · obtain ⟨⟨d, v⟩, hx⟩ : ∃ x, s[(i + j) / 2]? = some x := ⟨_, List.getElem?_eq_getElem (by omega)⟩
        obtain ⟨c0, c1⟩ := cells_P (HS.out.below hB) hx
        by_cases hd : d < day
        · have HX : Hid (Mid s day ((i + j) / 2 + 1) j) := HI.out.up HR.out hx hd
          have hcm : cmpI d day < 0 := by rw [cmpI_lt hd]; omega
          clear hx
          go_wp2_with (go_at_call 131; refine (at1_P _ _ _ _).mono ?_; rintro e w1 ⟨rfl, hb1⟩)
          go_roundw
          case rel => exact ⟨(i + j) / 2 + 1, j, by omega, hjn, vint (by omega), rfl, HX, hB.trans (hb1.mono hB.size)⟩
          case measure => simp [intOf]; omega
        · have HX : Hid (Mid s day i ((i + j) / 2)) := HI.out.down HR.out hx (by omega)
          have hcm : 0 ≤ cmpI d day := cmpI_ge (by omega)
          clear hx
          go_wp2_with (go_at_call 131; refine (at1_P _ _ _ _).mono ?_; rintro e w1 ⟨rfl, hb1⟩)
          go_roundw
          case rel => exact ⟨i, (i + j) / 2, by omega, by omega, rfl, vint (by omega), HX, hB.trans (hb1.mono hB.size)⟩
          case measure => simp [intOf]; omega
      · obtain rfl : i = j := by omega
        have HI1 : Hid (seIdx s day = i) := seIdx_of hjn HI.out
        have HI2 := Lib.hid (seHas_of HR.out HI.out)
        by_cases hin : i < s.length
        · obtain ⟨⟨d, v⟩, hx⟩ : ∃ x, s[i]? = some x := ⟨_, List.getElem?_eq_getElem (by omega)⟩
          obtain ⟨c0, c1⟩ := cells_P (HS.out.below hB) hx
          by_cases hd : d = day
          · have HX : Hid (seHas s day = true) := by
              show seHas s day = true
              rw [HI2.out, hx]; simp [hd]
            have hcm : (cmpI d day == 0) = true := by rw [cmpI_eq hd]; rfl
            clear hx hd
            go_wp2_with (go_at_call 131; refine (at1_P _ _ _ _).mono ?_; rintro e w1 ⟨rfl, hb1⟩)
            go_ret2
            exact ⟨by rw [HI1.out, HX.out]; rfl, hB.trans (hb1.mono hB.size)⟩
          · have HX : Hid (seHas s day = false) := by
              show seHas s day = false
              rw [HI2.out, hx]; simp [hd]
            have hcm : (cmpI d day == 0) = false := by
              unfold cmpI
              split
              · rfl
              · split
                · rfl
                · omega
            clear hx hd
            go_wp2_with (go_at_call 131; refine (at1_P _ _ _ _).mono ?_; rintro e w1 ⟨rfl, hb1⟩)
            go_ret2
            exact ⟨by rw [HI1.out, HX.out]; rfl, hB.trans (hb1.mono hB.size)⟩
        · have HX : Hid (seHas s day = false) := by
            show seHas s day = false
            rw [HI2.out, List.getElem?_eq_none (by omega)]
          go_wp2
          go_ret2
          exact ⟨by rw [HI1.out, HX.out]; rfl, hB⟩
set_option maxHeartbeats 400000 in
theorem bsf_F (v : Value) (s : List (Int × FV)) (day : Int) (w : World) (h : SerAt 174 3 encF w v s) (hr : Rising s) (hl : s.length ≤ 1000) :
    Calls Tryz.prog 132 #[v, .int .i64 day, .func (.func 133) #[] #[]] w fun e w' => e = .returned (.tuple #[.int .i64 (seIdx s day), .bool (seHas s day)]) ∧ Below w.heap.size w w' := by
  rcases h.form with ⟨rfl, rfl⟩ | ⟨b, cap, rfl, hb, hm⟩
  · go_enter Tryz.func132, Tryz.ntmps132
    go_wp2
    refine wp_loop_rounds 1 ?_
    rw [rounds_succ]
    go_wp2
    go_ret2
    exact ⟨rfl, Below.refl _ _⟩
  · clear hm
    have HS : Hid (SerAt 174 3 encF w (.slice (some ⟨b, 0, none⟩) s.length cap) s) := h
    clear h
    have HR : Hid (Rising s) := hr
    clear hr
    go_enter Tryz.func132, Tryz.ntmps132
    go_wp2
    go_loopw [9, 10, 11] (fun v9 v10 v11 wr => ∃ i j : Nat, i ≤ j ∧ j ≤ s.length ∧ v9 = .int .i64 i ∧ v10 = .int .i64 j ∧ Hid (Mid s day i j) ∧ Below w.heap.size w wr)
      (fun v9 v10 _ _ => (intOf v10).toNat - (intOf v9).toNat)
    case atStart => exact ⟨0, s.length, by omega, by omega, rfl, rfl, Mid.start s day, Below.refl _ _⟩
    case round =>
      obtain ⟨i, j, hij, hjn, rfl, rfl, HI, hB⟩ := hrel
      have hbr : b < wr.heap.size := Nat.lt_of_lt_of_le hb hB.size
      by_cases hlt : i < j
      · obtain ⟨⟨d, v⟩, hx⟩ : ∃ x, s[(i + j) / 2]? = some x := ⟨_, List.getElem?_eq_getElem (by omega)⟩
        obtain ⟨c0, c1, c2⟩ := cells_F (HS.out.below hB) hx
        by_cases hd : d < day
        · have HX : Hid (Mid s day ((i + j) / 2 + 1) j) := HI.out.up HR.out hx hd
          have hcm : cmpI d day < 0 := by rw [cmpI_lt hd]; omega
          clear hx
          go_wp2_with (go_at_call 133; refine (at1_F _ _ _ _).mono ?_; rintro e w1 ⟨rfl, hb1⟩)
          go_roundw
          case rel => exact ⟨(i + j) / 2 + 1, j, by omega, hjn, vint (by omega), rfl, HX, hB.trans (hb1.mono hB.size)⟩
          case measure => simp [intOf]; omega
        · have HX : Hid (Mid s day i ((i + j) / 2)) := HI.out.down HR.out hx (by omega)
          have hcm : 0 ≤ cmpI d day := cmpI_ge (by omega)
          clear hx
          go_wp2_with (go_at_call 133; refine (at1_F _ _ _ _).mono ?_; rintro e w1 ⟨rfl, hb1⟩)
          go_roundw
          case rel => exact ⟨i, (i + j) / 2, by omega, by omega, rfl, vint (by omega), HX, hB.trans (hb1.mono hB.size)⟩
          case measure => simp [intOf]; omega
      · obtain rfl : i = j := by omega
        have HI1 : Hid (seIdx s day = i) := seIdx_of hjn HI.out
        have HI2 := Lib.hid (seHas_of HR.out HI.out)
        by_cases hin : i < s.length
        · obtain ⟨⟨d, v⟩, hx⟩ : ∃ x, s[i]? = some x := ⟨_, List.getElem?_eq_getElem (by omega)⟩
          obtain ⟨c0, c1, c2⟩ := cells_F (HS.out.below hB) hx
          by_cases hd : d = day
          · have HX : Hid (seHas s day = true) := by
              show seHas s day = true
              rw [HI2.out, hx]; simp [hd]
            have hcm : (cmpI d day == 0) = true := by rw [cmpI_eq hd]; rfl
            clear hx hd
            go_wp2_with (go_at_call 133; refine (at1_F _ _ _ _).mono ?_; rintro e w1 ⟨rfl, hb1⟩)
            go_ret2
            exact ⟨by rw [HI1.out, HX.out]; rfl, hB.trans (hb1.mono hB.size)⟩
          · have HX : Hid (seHas s day = false) := by
              show seHas s day = false
              rw [HI2.out, hx]; simp [hd]
            have hcm : (cmpI d day == 0) = false := by
              unfold cmpI
              split
              · rfl
              · split
                · rfl
                · omega
            clear hx hd
            go_wp2_with (go_at_call 133; refine (at1_F _ _ _ _).mono ?_; rintro e w1 ⟨rfl, hb1⟩)
            go_ret2
            exact ⟨by rw [HI1.out, HX.out]; rfl, hB.trans (hb1.mono hB.size)⟩
        · have HX : Hid (seHas s day = false) := by
            show seHas s day = false
            rw [HI2.out, List.getElem?_eq_none (by omega)]
          go_wp2
          go_ret2
          exact ⟨by rw [HI1.out, HX.out]; rfl, hB⟩
end Go.Proofs.YtmbhkfclpkopiaaGreatDoor
