/- giroref05: Luhn, Mod97, pair. -/
import Derived.Test.YtmbhkfclpkopiaaGreatDoorRef2
import Derived.Laws.BytesArg
namespace Go.Proofs.YtmbhkfclpkopiaaGreatDoor
open Go.RowKit
set_option linter.unusedVariables false
set_option linter.unusedSimpArgs false

/-- A row of numbers, read. -/
theorem row_ints {w : World} {base : Nat} {v : Value} {L : List Nat} (h : w.ownsRow base 3 1 v L.length (L.map iv)) (hne : L ≠ []) : ∃ g cap, v = .slice (some ⟨g, 0, none⟩) L.length cap ∧ L.length ≤ cap ∧ Hid (∀ i d, L[i]? = some d → w.cell? ⟨g, i, none⟩ = some (.int .i64 (d : Nat))) := by
  have h0 := h
  rcases h.2 with ⟨rfl, h1⟩ | ⟨g, cap, cur, rfl, hb, hh, h1, h2, _⟩
  · exact absurd (List.eq_nil_of_length_eq_zero h1) hne
  · refine ⟨g, cap, rfl, h1, fun i f hf => ?_⟩
    have hi := (List.getElem?_eq_some_iff.1 hf).1
    have := h0.cellAt i (by omega)
    rw [this, List.getElem?_map, hf]
    rfl

theorem dgs_ne {l : List UInt8} (h : l ≠ []) : dgs l ≠ [] := by
  cases l with
  | nil => exact absurd rfl h
  | cons c l =>
    intro e
    have e2 := congrArg List.length e
    simp only [dgs, expL, List.flatMap_cons, List.map_append, List.length_append, List.length_map, List.length_nil] at e2
    have : 0 < (expC c).length := by
      unfold expC
      split
      · simp
      · rw [Lib.decDigits]
        split <;> simp
    omega

theorem dgs_le9 (l : List UInt8) (hc : ∀ c ∈ l, isAl c.toNat = true) : ∀ d ∈ dgs l, d ≤ 9 := by
  intro d hd
  unfold dgs at hd
  obtain ⟨c, h1, rfl⟩ := List.mem_map.1 hd
  have := expL_dig l hc c h1
  omega

set_option maxRecDepth 10000 in
set_option maxHeartbeats 1000000 in
theorem rluhn_calls (s : ByteArray) (w : World) (hc : ∀ c ∈ s.data.toList, isAl c.toNat = true) (hl : s.size ≤ 50) (hne : s.data.toList ≠ []) :
    Calls Tryz.prog 243 #[.string s] w fun e w' => e = .returned (.int .i64 (luhnV (dgs s.data.toList))) ∧ Below w.heap.size w w' := by
  have HX := Lib.hid (rexpand_calls s w hc (by omega))
  have h9 := dgs_le9 _ hc
  have hne := dgs_ne hne
  have hlen := dgs_len _ hc
  have hlen : (dgs s.data.toList).length ≤ 100 := by
    have e : s.data.toList.length = s.size := by simp
    omega
  generalize dgs s.data.toList = D at HX h9 hne hlen ⊢
  have HLE := Lib.hid (lS_le _ h9)
  have H9 := Lib.hid h9
  have HNE := Lib.hid hne
  clear hc h9 hne
  go_enter Tryz.func243, Tryz.ntmps243
  go_wp2_with (first
    | (go_at_call 262; refine HX.out.mono ?_; rintro e w1 ⟨v1, rfl, hown1, HB1⟩; obtain ⟨g, cap, rfl, hcap, HCL⟩ := row_ints hown1 HNE.out))
  go_loopw [5, 4] (fun p q wr => ∃ i : Nat, p = .int .i64 i ∧ q = .int .i64 (lS D i) ∧ i ≤ D.length ∧ wr = w1) (fun p q wr => D.length - (intOf p).toNat)
  case atStart => exact ⟨0, rfl, rfl, by omega, rfl⟩
  case round =>
    obtain ⟨i, rfl, rfl, hi, rfl⟩ := hrel
    by_cases hlt : i < D.length
    · obtain ⟨d, hdd⟩ : ∃ d, D[D.length - 1 - i]? = some d := ⟨_, List.getElem?_eq_getElem (by omega)⟩
      have hd9 := H9.out d (List.mem_of_getElem? hdd)
      have hcell := HCL.out _ _ hdd
      have hdA : dAt D i = d := by
        unfold dAt
        rw [List.getD_eq_getElem?_getD, hdd]
        rfl
      have hle := HLE.out i
      have HDA := Lib.hid hdA
      clear hdA hdd
      by_cases hp : i % 2 = 0
      · have hp1 : ((i : Int) % 2 == 0) = true := by simp; omega
        have HS : Hid (lS D (i + 1) = lS D i + (d * 2 / 10 + d * 2 % 10)) := by show _ = _; rw [lS, luhnE, if_pos hp, HDA.out]
        clear hp
        go_wp2
        refine ⟨⟨i + 1, rfl, vint ?_, by omega, trivial⟩, by simp [intOf]; omega⟩
        rw [HS.out]; omega
      · have hp1 : ((i : Int) % 2 == 0) = false := by simp; omega
        have HS : Hid (lS D (i + 1) = lS D i + (d / 10 + d % 10)) := by show _ = _; rw [lS, luhnE, if_neg hp, HDA.out]
        clear hp
        go_wp2
        refine ⟨⟨i + 1, rfl, vint ?_, by omega, trivial⟩, by simp [intOf]; omega⟩
        rw [HS.out]; omega
    · obtain rfl : i = D.length := by omega
      have hle := HLE.out D.length
      have HV : Hid (luhnV D = (10 - lS D D.length % 10) % 10) := rfl
      clear hlt
      go_wp2
      go_ret
      refine ⟨ret_int ?_, HB1⟩
      rw [HV.out]; omega
set_option maxRecDepth 10000 in
set_option maxHeartbeats 1000000 in
theorem rmod_calls (s : ByteArray) (w : World) (hc : ∀ c ∈ s.data.toList, isAl c.toNat = true) (hl : s.size ≤ 50) (hne : s.data.toList ≠ []) :
    Calls Tryz.prog 245 #[.string s] w fun e w' => e = .returned (.int .i64 (mS (dgs s.data.toList))) ∧ Below w.heap.size w w' := by
  have HX := Lib.hid (rexpand_calls s w hc (by omega))
  have h9 := dgs_le9 _ hc
  have hne := dgs_ne hne
  have hlen := dgs_len _ hc
  have hlen : (dgs s.data.toList).length ≤ 100 := by
    have e : s.data.toList.length = s.size := by simp
    omega
  generalize dgs s.data.toList = D at HX h9 hne hlen ⊢
  have H9 := Lib.hid h9
  have HNE := Lib.hid hne
  clear hc h9 hne
  go_enter Tryz.func245, Tryz.ntmps245
  go_wp2_with (first
    | (go_at_call 262; refine HX.out.mono ?_; rintro e w1 ⟨v1, rfl, hown1, HB1⟩; obtain ⟨g, cap, rfl, hcap, HCL⟩ := row_ints hown1 HNE.out))
  go_loopw [5, 4] (fun p q wr => ∃ i : Nat, p = .int .i64 i ∧ q = .int .i64 (mS (D.take i)) ∧ i ≤ D.length ∧ wr = w1) (fun p q wr => D.length - (intOf p).toNat)
  case atStart => exact ⟨0, rfl, rfl, by omega, rfl⟩
  case round =>
    obtain ⟨i, rfl, rfl, hi, rfl⟩ := hrel
    have hm := mS_lt (D.take i)
    by_cases hlt : i < D.length
    · obtain ⟨d, hdd⟩ : ∃ d, D[i]? = some d := ⟨_, List.getElem?_eq_getElem hlt⟩
      have hd9 := H9.out d (List.mem_of_getElem? hdd)
      have hcell := HCL.out _ _ hdd
      have HS := Lib.hid (mS_take hdd)
      clear hdd
      go_wp2
      refine ⟨⟨i + 1, rfl, vint ?_, by omega, trivial⟩, by simp [intOf]; omega⟩
      rw [HS.out]; omega
    · obtain rfl : i = D.length := by omega
      have HT : Hid (D.take D.length = D) := List.take_length
      clear hlt
      go_wp2
      go_ret
      exact ⟨ret_int (by rw [HT.out]), HB1⟩

set_option maxRecDepth 10000 in
theorem pair_calls (v : Nat) (hv : v ≤ 99) (w : World) : Calls Tryz.prog 244 #[.int .i64 v] w fun e w' => ∃ d, e = .returned (.string d) ∧ Hid (d = ⟨(pairB v).toArray⟩) ∧ Below w.heap.size w w' := by
  have hcv := run_convert_bytes_arg (P := Tryz.prog) (w.alloc (.cells #[.int .u8 (48 + (v : Int) / 10), .int .u8 (48 + (v : Int) % 10)] 5)) 349 5 Tryz.underlying349 Tryz.underlying5 w.heap.size 0 2 2 [48 + (v : Int) / 10, 48 + (v : Int) % 10] rfl (fun i hi => by
    have hb := box_cell (w := w) (cs := #[.int .u8 (48 + (v : Int) / 10), .int .u8 (48 + (v : Int) % 10)]) (t := 5) (Below.refl _ _) (0 + i)
    rw [hb]
    have : i = 0 ∨ i = 1 := by omega
    rcases this with rfl | rfl <;> rfl) 9 Tryz.underlying9
  have HE : Hid (strOfNums [48 + (v : Int) / 10, 48 + (v : Int) % 10] = ⟨(pairB v).toArray⟩) := by
    show _ = _
    have e1 : (48 + (v : Int) / 10).toNat = 48 + v / 10 := by omega
    have e2 : (48 + (v : Int) % 10).toNat = 48 + v % 10 := by omega
    simp [strOfNums, pairB, e1, e2]
  go_enter Tryz.func244, Tryz.ntmps244
  go_wp2
  go_ret
  exact ⟨_, rfl, HE, (Below.refl _ _).alloc (Nat.le_refl _) _⟩
end Go.Proofs.YtmbhkfclpkopiaaGreatDoor
