/- ident: luhn. -/
import Derived.Test.YtmbhkfclpkopiaaGreatDoorIdent1
namespace Go.Proofs.YtmbhkfclpkopiaaGreatDoor
open Go.RowKit
set_option linter.unusedVariables false
set_option linter.unusedSimpArgs false

/-- The digits' values. -/
def dgs (l : List UInt8) : List Nat := (expL l).map fun c => c.toNat - 48
def dAt (D : List Nat) (i : Nat) : Nat := D.getD (D.length - 1 - i) 0
def luhnE (i d : Nat) : Nat := if i % 2 = 0 then d * 2 / 10 + d * 2 % 10 else d / 10 + d % 10
def lS (D : List Nat) : Nat → Nat
  | 0 => 0
  | i + 1 => lS D i + luhnE i (dAt D i)
def luhnV (D : List Nat) : Nat := (10 - lS D D.length % 10) % 10

theorem expC_dig (c : UInt8) (h : isAl c.toNat = true) : ∀ d ∈ expC c, 48 ≤ d.toNat ∧ d.toNat ≤ 57 := by
  intro d hd
  unfold expC at hd
  split at hd
  · rename_i h1
    simp only [List.mem_singleton] at hd
    subst hd
    simp [isDig] at h1
    omega
  · rename_i h1
    simp [isAl, h1, isLet] at h
    rw [decDigits_two (by omega) (by omega)] at hd
    simp only [List.mem_cons, List.not_mem_nil, or_false] at hd
    rcases hd with rfl | rfl
    · simp; omega
    · simp; omega
theorem expL_dig (l : List UInt8) (h : ∀ c ∈ l, isAl c.toNat = true) : ∀ d ∈ expL l, 48 ≤ d.toNat ∧ d.toNat ≤ 57 := by
  intro d hd
  obtain ⟨c, hc, hd⟩ := List.mem_flatMap.1 hd
  exact expC_dig c (h c hc) d hd

theorem lS_le (D : List Nat) (h : ∀ d ∈ D, d ≤ 9) : ∀ i, lS D i ≤ 20 * i
  | 0 => by simp [lS]
  | i + 1 => by
    have := lS_le D h i
    have hd : dAt D i ≤ 9 := by
      unfold dAt
      rw [List.getD_eq_getElem?_getD]
      cases e : D[D.length - 1 - i]? with
      | none => simp
      | some x => exact h x (List.mem_of_getElem? e)
    simp only [lS, luhnE]
    split <;> omega

set_option maxRecDepth 10000 in
set_option maxHeartbeats 1000000 in
theorem luhn_calls (s : ByteArray) (w : World) (hc : ∀ c ∈ s.data.toList, isAl c.toNat = true) (hl : s.size ≤ 50) :
    Calls Tryz.prog 252 #[.string s] w fun e w' => ∃ d, e = .returned (.string d) ∧ Hid (d = ⟨(Lib.decDigits (luhnV (dgs s.data.toList))).toArray⟩) ∧ Below w.heap.size w w' := by
  have HX := Lib.hid (expand_calls s w hc (by omega))
  have hdig := expL_dig _ hc
  have hlen := expL_len _ hc
  have hlen : (expL s.data.toList).length ≤ 100 := by
    have e : s.data.toList.length = s.size := by simp
    omega
  unfold dgs
  generalize expL s.data.toList = x at HX hdig hlen ⊢
  have HD := Lib.hid hdig
  have h9 : ∀ d ∈ x.map (fun c => c.toNat - 48), d ≤ 9 := by
    intro d hd
    obtain ⟨c, hc, rfl⟩ := List.mem_map.1 hd
    have := hdig c hc
    omega
  have HLE := Lib.hid (lS_le _ h9)
  clear hc hdig h9
  obtain ⟨es, hes⟩ : ∃ es : ByteArray, es = ⟨x.toArray⟩ := ⟨_, rfl⟩
  rw [← hes] at HX
  have hx : es.data.toList = x := by rw [hes]
  have hsz : es.size = x.length := by rw [hes]; show Array.size _ = _; simp
  clear hes
  subst hx
  have HSZ := Lib.hid hsz
  rw [← hsz] at hlen
  clear hsz
  obtain ⟨D, hD⟩ : ∃ D, D = es.data.toList.map (fun c => c.toNat - 48) := ⟨_, rfl⟩
  rw [← hD] at HLE
  have HDD := Lib.hid hD
  rw [← hD]
  clear hD
  go_enter Tryz.func252, Tryz.ntmps252
  go_wp2_with (first
    | (go_at_call 263; refine HX.out.mono ?_; rintro e w1 ⟨rfl, HB1⟩))
  go_loopw [11, 4] (fun p q wr => ∃ i : Nat, p = .int .i64 i ∧ q = .int .i64 (lS D i) ∧ i ≤ es.size ∧ Below w.heap.size w wr) (fun p q wr => es.size - (intOf p).toNat)
  case atStart => exact ⟨0, rfl, rfl, by omega, HB1⟩
  case round =>
    obtain ⟨i, rfl, rfl, hi, HB⟩ := hrel
    by_cases hlt : i < es.size
    · have hidx : es.size - 1 - i < es.data.toList.length := by simp; omega
      obtain ⟨c, hcc⟩ : ∃ c, es.data.toList[es.size - 1 - i]? = some c := ⟨_, List.getElem?_eq_getElem hidx⟩
      have hc1 := HD.out c (List.mem_of_getElem? hcc)
      have hdA : dAt D i = c.toNat - 48 := by
        unfold dAt
        rw [HDD.out, List.length_map, List.getD_eq_getElem?_getD, List.getElem?_map, show es.data.toList.length = es.size by simp, hcc]
        rfl
      have hle := HLE.out i
      have hct : es[es.size - 1 - i] = c := by
        obtain ⟨_, e⟩ := List.getElem?_eq_some_iff.1 hcc
        rw [← e]; rfl
      have HDA := Lib.hid hdA
      obtain ⟨hc2, hc3⟩ := hc1
      have hle2 : i ≤ 100 := by omega
      clear hcc hdA
      by_cases hp : i % 2 = 0
      · have hp1 : ((i : Int) % 2 == 0) = true := by simp; omega
        have HS : Hid (lS D (i + 1) = lS D i + ((c.toNat - 48) * 2 / 10 + (c.toNat - 48) * 2 % 10)) := by show _ = _; rw [lS, luhnE, if_pos hp, HDA.out]
        clear hp
        go_wp2
        refine ⟨⟨i + 1, rfl, vint ?_, by omega, HB⟩, by simp [intOf]; omega⟩
        rw [HS.out]; omega
      · have hp1 : ((i : Int) % 2 == 0) = false := by simp; omega
        have HS : Hid (lS D (i + 1) = lS D i + ((c.toNat - 48) / 10 + (c.toNat - 48) % 10)) := by show _ = _; rw [lS, luhnE, if_neg hp, HDA.out]
        clear hp
        go_wp2
        refine ⟨⟨i + 1, rfl, vint ?_, by omega, HB⟩, by simp [intOf]; omega⟩
        rw [HS.out]; omega
    · obtain rfl : i = es.size := by omega
      have hle := HLE.out es.size
      have hDl : D.length = es.size := by rw [HDD.out]; simp
      have HV : Hid (luhnV D = (10 - lS D es.size % 10) % 10) := by show _ = _; rw [luhnV, hDl]
      have hlt' : decide ((es.size : Int) < (es.size : Int)) = false := by simp
      clear hDl hlt
      go_wp2_with (first
        | (go_at_call 264; refine (itoa_calls _ (by omega) (by omega) _).mono ?_; rintro e w' ⟨dg, rfl, HDG, rfl⟩))
      go_ret
      refine ⟨dg, rfl, ?_, HB⟩
      show dg = _
      rw [HDG.out, HV.out]
      congr 3
      omega
end Go.Proofs.YtmbhkfclpkopiaaGreatDoor
