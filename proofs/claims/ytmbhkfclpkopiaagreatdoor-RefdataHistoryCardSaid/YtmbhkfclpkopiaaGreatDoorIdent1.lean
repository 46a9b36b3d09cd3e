/- ident: classes of characters, expand. -/
import Derived.Test.YtmbhkfclpkopiaaGreatDoorSetH
import Derived.Test.YtmbhkfclpkopiaaGreatDoorShelf
namespace Go.Proofs.YtmbhkfclpkopiaaGreatDoor
open Go.RowKit
set_option linter.unusedVariables false
set_option linter.unusedSimpArgs false

def isLet (c : Int) : Bool := decide (65 ≤ c) && decide (c ≤ 90)
def isDig (c : Int) : Bool := decide (48 ≤ c) && decide (c ≤ 57)

theorem letter_calls (c : Int) (w : World) : Calls Tryz.prog 249 #[.int .u8 c] w fun e w' => e = .returned (.bool (isLet c)) ∧ w = w' := by
  by_cases h1 : 65 ≤ c
  · by_cases h2 : c ≤ 90
    · have HV : Hid (isLet c = true) := by show isLet c = true; simp [isLet, h1, h2]
      go_enter Tryz.func249, Tryz.ntmps249
      go_wp2
      go_ret
      exact ⟨ret_bool HV.out.symm, rfl⟩
    · have HV : Hid (isLet c = false) := by show isLet c = false; simp [isLet, h2]
      have h2' : decide (c ≤ 90) = false := by simp [h2]
      go_enter Tryz.func249, Tryz.ntmps249
      go_wp2
      go_ret
      exact ⟨ret_bool HV.out.symm, rfl⟩
  · have HV : Hid (isLet c = false) := by show isLet c = false; simp [isLet, h1]
    have h1' : decide (65 ≤ c) = false := by simp [h1]
    go_enter Tryz.func249, Tryz.ntmps249
    go_wp2
    go_ret
    exact ⟨ret_bool HV.out.symm, rfl⟩

theorem digit_calls (c : Int) (w : World) : Calls Tryz.prog 251 #[.int .u8 c] w fun e w' => e = .returned (.bool (isDig c)) ∧ w = w' := by
  by_cases h1 : 48 ≤ c
  · by_cases h2 : c ≤ 57
    · have HV : Hid (isDig c = true) := by show isDig c = true; simp [isDig, h1, h2]
      go_enter Tryz.func251, Tryz.ntmps251
      go_wp2
      go_ret
      exact ⟨ret_bool HV.out.symm, rfl⟩
    · have HV : Hid (isDig c = false) := by show isDig c = false; simp [isDig, h2]
      have h2' : decide (c ≤ 57) = false := by simp [h2]
      go_enter Tryz.func251, Tryz.ntmps251
      go_wp2
      go_ret
      exact ⟨ret_bool HV.out.symm, rfl⟩
  · have HV : Hid (isDig c = false) := by show isDig c = false; simp [isDig, h1]
    have h1' : decide (48 ≤ c) = false := by simp [h1]
    go_enter Tryz.func251, Tryz.ntmps251
    go_wp2
    go_ret
    exact ⟨ret_bool HV.out.symm, rfl⟩

def isAl (c : Int) : Bool := isLet c || isDig c
theorem alnum_calls (c : Int) (w : World) : Calls Tryz.prog 250 #[.int .u8 c] w fun e w' => e = .returned (.bool (isAl c)) ∧ w = w' := by
  have HV : Hid (isAl c = (isLet c || isDig c)) := rfl
  cases h : isLet c with
  | true =>
    have HL := Lib.hid h
    have HV2 : Hid (isAl c = true) := by show isAl c = true; rw [HV.out, h]; rfl
    clear h
    go_enter Tryz.func250, Tryz.ntmps250
    go_wp2_with (first
      | (go_at_call 249; refine (letter_calls c _).mono ?_; rintro e w' ⟨rfl, rfl⟩; rw [HL.out])
      | (go_at_call 251; refine (digit_calls c _).mono ?_; rintro e w' ⟨rfl, rfl⟩))
    go_ret
    exact ⟨ret_bool HV2.out.symm, rfl⟩
  | false =>
    have HL := Lib.hid h
    have HV2 : Hid (isAl c = isDig c) := by show isAl c = isDig c; rw [HV.out, h]; rfl
    clear h
    go_enter Tryz.func250, Tryz.ntmps250
    go_wp2_with (first
      | (go_at_call 249; refine (letter_calls c _).mono ?_; rintro e w' ⟨rfl, rfl⟩; rw [HL.out])
      | (go_at_call 251; refine (digit_calls c _).mono ?_; rintro e w' ⟨rfl, rfl⟩))
    go_ret
    exact ⟨ret_bool HV2.out.symm, rfl⟩

def isRef (c : Int) : Bool := isAl c || decide (c = 45)
theorem refch_calls (c : Int) (w : World) : Calls Tryz.prog 253 #[.int .u8 c] w fun e w' => e = .returned (.bool (isRef c)) ∧ w = w' := by
  have HV : Hid (isRef c = (isAl c || decide (c = 45))) := rfl
  cases h : isAl c with
  | true =>
    have HL := Lib.hid h
    have HV2 : Hid (isRef c = true) := by show isRef c = true; rw [HV.out, h]; rfl
    clear h
    go_enter Tryz.func253, Tryz.ntmps253
    go_wp2_with (first
      | (go_at_call 250; refine (alnum_calls c _).mono ?_; rintro e w' ⟨rfl, rfl⟩; rw [HL.out]))
    go_ret
    exact ⟨ret_bool HV2.out.symm, rfl⟩
  | false =>
    have HL := Lib.hid h
    have HV2 : Hid (isRef c = (c == 45)) := by show isRef c = (c == 45); rw [HV.out, h]; rfl
    clear h
    go_enter Tryz.func253, Tryz.ntmps253
    go_wp2_with (first
      | (go_at_call 250; refine (alnum_calls c _).mono ?_; rintro e w' ⟨rfl, rfl⟩; rw [HL.out]))
    go_ret
    exact ⟨ret_bool HV2.out.symm, rfl⟩

/-! ### expand -/
/-- The digits of one character. -/
def expC (c : UInt8) : List UInt8 := if isDig c.toNat then [c] else Lib.decDigits (c.toNat - 55)
def expL (l : List UInt8) : List UInt8 := l.flatMap expC

theorem decDigits_two {v : Nat} (h1 : 10 ≤ v) (h2 : v ≤ 99) : Lib.decDigits v = [UInt8.ofNat (48 + v / 10), UInt8.ofNat (48 + v % 10)] := by
  rw [Lib.decDigits, dif_neg (by omega), Lib.decDigits, dif_pos (by omega)]; rfl

theorem expC_len (c : UInt8) (h : isAl c.toNat = true) : (expC c).length ≤ 2 := by
  unfold expC
  split
  · simp
  · rename_i hd
    simp [isAl, isLet, hd] at h
    rw [decDigits_two (by omega) (by omega)]; simp

theorem expL_len : ∀ (l : List UInt8), (∀ c ∈ l, isAl c.toNat = true) → (expL l).length ≤ 2 * l.length
  | [], _ => by simp [expL]
  | c :: l, h => by
    have h1 := expC_len c (h c (by simp))
    have h2 := expL_len l (fun x hx => h x (by simp [hx]))
    simp only [expL, List.flatMap_cons, List.length_append, List.length_cons] at h2 ⊢
    omega

theorem strCells_eq {d : ByteArray} {l : List UInt8} (h : d = ⟨l.toArray⟩) : Lib.strCells d = Lib.byteCells l := by subst h; rfl
theorem size_le {d : ByteArray} {l : List UInt8} {n : Nat} (h : d = ⟨l.toArray⟩) (hn : l.length ≤ n) : d.size ≤ n := by
  subst h
  show Array.size _ ≤ _
  simpa using hn

theorem itoa_calls (v : Int) (h0 : 0 ≤ v) (h1 : v < 100) (w : World) : Calls Tryz.prog 264 #[.int .i64 v] w fun e w' => ∃ d, e = .returned (.string d) ∧ Hid (d = ⟨(Lib.decDigits v.toNat).toArray⟩) ∧ w = w' := by
  obtain ⟨n, rfl⟩ : ∃ n : Nat, v = n := ⟨v.toNat, by omega⟩
  exact (Tryz.strconv_Itoa_small n (by omega) w).mono fun e w' h => ⟨_, h.1, rfl, h.2.symm⟩

set_option maxRecDepth 10000 in
set_option maxHeartbeats 1000000 in
theorem expand_calls (s : ByteArray) (w : World) (hc : ∀ c ∈ s.data.toList, isAl c.toNat = true) (hl : s.size ≤ 100) :
    Calls Tryz.prog 263 #[.string s] w fun e w' => e = .returned (.string ⟨(expL s.data.toList).toArray⟩) ∧ Below w.heap.size w w' := by
  have HC := Lib.hid hc
  clear hc
  have HB0 := Lib.fresh_isBuilder 353 5 w
  go_enter Tryz.func263, Tryz.ntmps263
  go_wp2
  go_loopw [7] (fun x wr => ∃ i : Nat, x = .int .i64 i ∧ i ≤ s.size ∧ Lib.IsBuilder 353 5 w.heap.size w.heap.size (Lib.byteCells (expL (s.data.toList.take i))) wr ∧ Below w.heap.size w wr ∧ w.heap.size ≤ wr.heap.size) (fun x wr => s.size - (intOf x).toNat)
  case atStart => exact ⟨0, rfl, by omega, HB0, (Below.refl _ _).alloc (Nat.le_refl _) _, by simp⟩
  case round =>
    obtain ⟨i, rfl, hi, hb, HB, hw⟩ := hrel
    by_cases hlt : i < s.size
    · obtain ⟨c, hcc⟩ : ∃ c, s.data.toList[i]? = some c := ⟨_, List.getElem?_eq_getElem (by simpa using hlt)⟩
      have hal := HC.out c (List.mem_of_getElem? hcc)
      have hct : s[i] = c := by
        obtain ⟨_, e⟩ := List.getElem?_eq_some_iff.1 hcc
        rw [← e]; rfl
      have hstep : expL (s.data.toList.take (i + 1)) = expL (s.data.toList.take i) ++ expC c := by
        rw [List.take_add_one, hcc]; simp [expL]
      have hlen : (expL (s.data.toList.take i)).length ≤ 200 := by
        have := expL_len (s.data.toList.take i) (fun x hx => HC.out x (List.mem_of_mem_take hx))
        have h2 : (s.data.toList.take i).length ≤ i := by simp; omega
        omega
      have HST := Lib.hid hstep
      have HLN := Lib.hid hlen
      have HAL := Lib.hid hal
      clear hcc hal hstep hlen
      cases hd : isDig c.toNat with
      | true =>
        have HE : Hid (expC c = [c]) := by show expC c = [c]; unfold expC; rw [if_pos hd]
        have HD := Lib.hid hd
        clear hd
        go_wp2_with (first
          | (go_at_call 251; refine (digit_calls _ _).mono ?_; rintro e w' ⟨rfl, rfl⟩; rw [HD.out])
          | (go_at_call 266; refine (Tryz.Builder_WriteByte w.heap.size w.heap.size _ _ wr hb (by simp [Lib.byteCells]; have := HLN.out; omega) hw).mono ?_; rintro e w1 ⟨rfl, hb1, HB1⟩))
        go_roundw
        case rel =>
          refine ⟨i + 1, rfl, by omega, ?_, HB.trans HB1, Nat.le_trans hw HB1.size⟩
          rw [HST.out, HE.out, Lib.byteCells, List.map_append]
          exact .inr hb1
        case measure => simp [intOf]; omega
      | false =>
        have hlt2 : 65 ≤ (c.toNat : Int) ∧ (c.toNat : Int) ≤ 90 := by
          have := HAL.out
          simpa [isAl, hd, isLet] using this
        obtain ⟨hlo, hhi⟩ := hlt2
        have HE : Hid (expC c = Lib.decDigits (c.toNat - 55)) := by show expC c = _; unfold expC; rw [if_neg (by rw [hd]; simp)]
        have HN : Hid (((c.toNat : Int) - 65 + 10).toNat = c.toNat - 55) := by show _ = _; omega
        have HD := Lib.hid hd
        have hsz : (Lib.decDigits (((c.toNat : Int) - 65 + 10).toNat)).length ≤ 2 := by rw [decDigits_two (by omega) (by omega)]; simp
        have HSZ := Lib.hid hsz
        clear hd hsz
        go_wp2_with (first
          | (go_at_call 251; refine (digit_calls _ _).mono ?_; rintro e w' ⟨rfl, rfl⟩; rw [HD.out])
          | (go_at_call 264; refine (itoa_calls _ (by omega) (by omega) _).mono ?_; rintro e w' ⟨dg, rfl, HDG, rfl⟩; have HDC : Hid (Lib.strCells dg = Lib.byteCells (expC c)) := strCells_eq (HDG.out.trans (by rw [HE.out, HN.out])); have HDS : Hid (dg.size ≤ 2) := size_le (HDG.out) HSZ.out)
          | (go_at_call 267; refine (Tryz.Builder_WriteString w.heap.size w.heap.size _ _ wr hb (by have h1 := HLN.out; have h2 := HDS.out; simp only [Lib.byteCells, List.length_map]; omega) hw).mono ?_; rintro e w1 ⟨rfl, hb1, HB1⟩))
        go_roundw
        case rel =>
          refine ⟨i + 1, rfl, by omega, ?_, HB.trans HB1, Nat.le_trans hw HB1.size⟩
          rw [HST.out, Lib.byteCells, List.map_append]
          rw [HDC.out] at hb1
          exact .inr hb1
        case measure => simp [intOf]; omega
    · obtain rfl : i = s.size := by omega
      have HT : Hid (s.data.toList.take s.size = s.data.toList) := List.take_of_length_le (by simp)
      rw [HT.out] at hb
      have hlt' : decide ((s.size : Int) < (s.size : Int)) = false := by simp
      go_wp2_with (first
        | (go_at_call 268; refine (Tryz.Builder_String_any w.heap.size w.heap.size _ wr hb hw).mono ?_; rintro e w1 ⟨rfl, HB1⟩))
      go_ret
      exact ⟨rfl, HB.trans HB1⟩
end Go.Proofs.YtmbhkfclpkopiaaGreatDoor
