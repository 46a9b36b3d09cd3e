/- ident: prefix. -/
import Derived.Test.YtmbhkfclpkopiaaGreatDoorIdent5
namespace Go.Proofs.YtmbhkfclpkopiaaGreatDoor
open Go.RowKit
set_option linter.unusedVariables false
set_option linter.unusedSimpArgs false

/-- What a class's function says of a byte. -/
def cls (f : Nat) (c : Int) : Bool := if f = 249 then isLet c else if f = 250 then isAl c else if f = 251 then isDig c else isRef c
def IsCls (f : Nat) : Prop := f = 249 ∨ f = 250 ∨ f = 251 ∨ f = 253

/-- The text's bytes all belong to their classes. -/
def Fits (L : List Nat) (s : ByteArray) : Prop := ∀ (i f : Nat) (c : UInt8), L[i]? = some f → s.data.toList[i]? = some c → cls f c.toNat = true
def Pfx (L : List Nat) (sh : Nat) (s : ByteArray) : Prop := Fits L s ∧ sh ≤ s.size ∧ s.size ≤ L.length


set_option maxRecDepth 10000 in
set_option maxHeartbeats 1000000 in
theorem prefix_calls (g cap sh : Nat) (L : List Nat) (s : ByteArray) (w : World) (hc : ∀ i f, L[i]? = some f → w.cell? ⟨g, i, none⟩ = some (fv f)) (hf : ∀ f ∈ L, IsCls f) (hL : L.length ≤ 100) (hcap : L.length ≤ cap) (hsh : sh ≤ 100) (hs : s.size ≤ 9223372036854775807) :
    Calls Tryz.prog 219 #[.slice (some ⟨g, 0, none⟩) L.length cap, .int .i64 sh, .string s] w fun e w' => ∃ a e', e = .returned (.tuple #[.int .i64 a, .int .i64 e']) ∧ Hid (e' = 0 ↔ Pfx L sh s) ∧ w = w' := by
  have HC := Lib.hid hc
  have HF := Lib.hid hf
  have HS := Lib.hid hs
  clear hc hf hs
  go_enter Tryz.func219, Tryz.ntmps219
  go_wp2
  go_loopw [12] (fun p wr => ∃ i : Nat, p = .int .i64 i ∧ i ≤ L.length ∧ wr = w ∧ Hid (∀ k < i, ∀ f c, L[k]? = some f → s.data.toList[k]? = some c → cls f c.toNat = true)) (fun p wr => L.length - (intOf p).toNat)
  case atStart => exact ⟨0, rfl, by omega, rfl, fun k hk => by omega⟩
  case round =>
    obtain ⟨i, rfl, hi, rfl, HOK⟩ := hrel
    by_cases hlt : i < L.length
    · obtain ⟨f, hf⟩ : ∃ f, L[i]? = some f := ⟨_, List.getElem?_eq_getElem hlt⟩
      have hcell := HC.out i f hf
      unfold fv at hcell
      have hcls := HF.out f (List.mem_of_getElem? hf)
      by_cases hs : i < s.size
      · obtain ⟨c, hcc⟩ : ∃ c, s.data.toList[i]? = some c := ⟨_, List.getElem?_eq_getElem (by simpa using hs)⟩
        have hct : s[i] = c := by
          obtain ⟨_, e⟩ := List.getElem?_eq_some_iff.1 hcc
          rw [← e]; rfl
        cases hv : cls f c.toNat with
        | true =>
          have HO2 : Hid (∀ k < i + 1, ∀ f c, L[k]? = some f → s.data.toList[k]? = some c → cls f c.toNat = true) := by
            intro k hk f' c' h1 h2
            rcases Nat.lt_or_ge k i with h | h
            · exact HOK.out k h f' c' h1 h2
            · obtain rfl : k = i := by omega
              rw [hf] at h1
              rw [hcc] at h2
              cases h1; cases h2
              exact hv
          clear hf hcc
          rcases hcls with rfl | rfl | rfl | rfl
          all_goals
            have HCL := Lib.hid hv
            simp [cls] at HCL
            clear hv
            go_wp2_with (first
              | (go_at_call 249; refine (letter_calls _ _).mono ?_; rintro e w' ⟨rfl, rfl⟩; rw [HCL.out])
              | (go_at_call 250; refine (alnum_calls _ _).mono ?_; rintro e w' ⟨rfl, rfl⟩; rw [HCL.out])
              | (go_at_call 251; refine (digit_calls _ _).mono ?_; rintro e w' ⟨rfl, rfl⟩; rw [HCL.out])
              | (go_at_call 253; refine (refch_calls _ _).mono ?_; rintro e w' ⟨rfl, rfl⟩; rw [HCL.out]))
            exact ⟨⟨i + 1, rfl, by omega, trivial, HO2⟩, by simp [intOf]; omega⟩
        | false =>
          have HNO : Hid (∀ q, (q : Int) = 3 → (q = 0 ↔ Pfx L sh s)) := by
            intro q hq
            subst hq
            refine ⟨fun h => (by cases h), fun h => ?_⟩
            have := h.1 i f c hf hcc
            rw [hv] at this
            cases this
          clear hf hcc
          rcases hcls with rfl | rfl | rfl | rfl
          all_goals
            have HCL := Lib.hid hv
            simp [cls] at HCL
            clear hv
            go_wp2_with (first
              | (go_at_call 249; refine (letter_calls _ _).mono ?_; rintro e w' ⟨rfl, rfl⟩; rw [HCL.out])
              | (go_at_call 250; refine (alnum_calls _ _).mono ?_; rintro e w' ⟨rfl, rfl⟩; rw [HCL.out])
              | (go_at_call 251; refine (digit_calls _ _).mono ?_; rintro e w' ⟨rfl, rfl⟩; rw [HCL.out])
              | (go_at_call 253; refine (refch_calls _ _).mono ?_; rintro e w' ⟨rfl, rfl⟩; rw [HCL.out]))
            go_ret2
            exact ⟨_, _, rfl, HNO.out _ rfl, rfl⟩
      · have hs' : decide ((i : Int) < (s.size : Int)) = false := by simp; omega
        have HO2 : Hid (∀ k < i + 1, ∀ f c, L[k]? = some f → s.data.toList[k]? = some c → cls f c.toNat = true) := by
          intro k hk f' c' h1 h2
          rcases Nat.lt_or_ge k i with h | h
          · exact HOK.out k h f' c' h1 h2
          · obtain rfl : k = i := by omega
            have := (List.getElem?_eq_some_iff.1 h2).1
            simp at this
            omega
        have hs2 : s.size ≤ i := by omega
        clear hf hs hs'
        go_wp2
        exact ⟨⟨i + 1, rfl, by omega, trivial, HO2⟩, by simp [intOf]; omega⟩
    · obtain rfl : i = L.length := by omega
      have HFT : Hid (Fits L s) := fun i f c h1 h2 => HOK.out i (List.getElem?_eq_some_iff.1 h1).1 f c h1 h2
      clear hlt
      by_cases h1 : s.size < sh
      · have HNO : Hid (∀ q, (q : Int) = 4 → (q = 0 ↔ Pfx L sh s)) := by
          intro q hq
          subst hq
          exact ⟨fun h => (by cases h), fun h => by have := h.2.1; omega⟩
        go_wp2
        go_ret2
        exact ⟨_, _, rfl, HNO.out _ rfl, rfl⟩
      · have h1' : sh ≤ s.size := by omega
        by_cases h2 : L.length < s.size
        · have HNO : Hid (∀ q, (q : Int) = 5 → (q = 0 ↔ Pfx L sh s)) := by
            intro q hq
            subst hq
            exact ⟨fun h => (by cases h), fun h => by have := h.2.2; omega⟩
          clear h1
          go_wp2
          go_ret2
          exact ⟨_, _, rfl, HNO.out _ rfl, rfl⟩
        · have HYES : Hid (∀ q, (q : Int) = 0 → (q = 0 ↔ Pfx L sh s)) := fun q hq => ⟨fun _ => ⟨HFT.out, by omega, by omega⟩, fun _ => hq⟩
          have h2' : s.size ≤ L.length := by omega
          clear h1 h2
          go_wp2
          go_ret2
          exact ⟨_, _, rfl, HYES.out _ rfl, rfl⟩
end Go.Proofs.YtmbhkfclpkopiaaGreatDoor
