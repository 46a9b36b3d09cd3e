/- giroref05: Check. -/
import Derived.Test.YtmbhkfclpkopiaaGreatDoorRef3
namespace Go.Proofs.YtmbhkfclpkopiaaGreatDoor
open Go.RowKit
set_option linter.unusedVariables false
set_option linter.unusedSimpArgs false

theorem may_calls0 (i f : Nat) (c : Int) (hf : (clsL (spans 0))[i]? = some f) (w : World) : Calls Tryz.prog 242 #[.int .i64 0, .int .i64 i, .int .u8 c] w fun e w' => e = .returned (.bool (cls f c)) ∧ w = w' := by
  have hi := (List.getElem?_eq_some_iff.1 hf).1
  have hi : i < 12 := hi
  rcases Nat.lt_or_ge i 2 with h | h
  · have := (by decide : ∀ i < 2, (clsL (spans 0))[i]? = some 249) i h
    rw [this] at hf; cases hf
    exact may_0_0 i c (by omega) (by omega) w
  · rcases Nat.lt_or_ge i 11 with h' | h'
    · have := (by decide : ∀ i < 11, 2 ≤ i → (clsL (spans 0))[i]? = some 250) i h' h
      rw [this] at hf; cases hf
      exact may_0_2 i c (by omega) (by omega) w
    · obtain rfl : i = 11 := by omega
      have : (clsL (spans 0))[11]? = some 251 := by decide
      rw [this] at hf; cases hf
      exact may_0_11 11 c (by omega) (by omega) w

theorem may_calls1 (i f : Nat) (c : Int) (hf : (clsL (spans 1))[i]? = some f) (w : World) : Calls Tryz.prog 242 #[.int .i64 1, .int .i64 i, .int .u8 c] w fun e w' => e = .returned (.bool (cls f c)) ∧ w = w' := by
  have hi := (List.getElem?_eq_some_iff.1 hf).1
  have hi : i < 8 := hi
  rcases Nat.lt_or_ge i 1 with h | h
  · obtain rfl : i = 0 := by omega
    have : (clsL (spans 1))[0]? = some 249 := by decide
    rw [this] at hf; cases hf
    exact may_1_0 0 c (by omega) (by omega) w
  · have := (by decide : ∀ i < 8, 1 ≤ i → (clsL (spans 1))[i]? = some 250) i hi h
    rw [this] at hf; cases hf
    exact may_1_1 i c (by omega) (by omega) w

theorem may_calls3 (i f : Nat) (c : Int) (hf : (clsL (spans 3))[i]? = some f) (w : World) : Calls Tryz.prog 242 #[.int .i64 3, .int .i64 i, .int .u8 c] w fun e w' => e = .returned (.bool (cls f c)) ∧ w = w' := by
  have hi := (List.getElem?_eq_some_iff.1 hf).1
  have hi : i < 20 := hi
  rcases Nat.lt_or_ge i 18 with h | h
  · have := (by decide : ∀ i < 18, (clsL (spans 3))[i]? = some 250) i h
    rw [this] at hf; cases hf
    exact may_3_0 i c (by omega) (by omega) w
  · have := (by decide : ∀ i < 20, 18 ≤ i → (clsL (spans 3))[i]? = some 251) i hi h
    rw [this] at hf; cases hf
    exact may_3_18 i c (by omega) (by omega) w

theorem lengths_calls (k : Int) (h0 : k = 0 ∨ k = 1 ∨ k = 3) (w : World) : Calls Tryz.prog 241 #[.int .i64 k] w fun e w' => e = .returned (.tuple #[.int .i64 (kshort k.toNat), .int .i64 (clsL (spans k.toNat)).length]) ∧ w = w' := by
  rcases h0 with rfl | rfl | rfl
  all_goals
    go_enter Tryz.func241, Tryz.ntmps241
    go_wp2
    go_ret2
    exact ⟨rfl, rfl⟩

set_option maxRecDepth 10000 in
set_option maxHeartbeats 1000000 in
theorem rcheck1_calls (s : ByteArray) (w : World) (hs : s.size ≤ 9223372036854775807) :
    Calls Tryz.prog 203 #[.int .i64 1, .string s] w fun e w' => ∃ a e', e = .returned (.tuple #[.int .i64 a, .int .i64 e']) ∧ Hid (e' = 0 ↔ Pfx (clsL (spans 1)) 4 s) ∧ Below w.heap.size w w' := by
  have HS := Lib.hid hs
  clear hs
  have HL : Hid ((clsL (spans 1)).length = 8) := rfl
  go_enter Tryz.func203, Tryz.ntmps203
  go_wp2_with (first
    | (go_at_call 241; refine (lengths_calls 1 (by decide) _).mono ?_; rintro e w1 ⟨rfl, rfl⟩; rw [show ((clsL (spans (Int.toNat 1))).length : Int) = 8 from rfl, show ((kshort (Int.toNat 1)) : Int) = 4 from rfl]))
  go_loopw [8] (fun p wr => ∃ i : Nat, p = .int .i64 i ∧ i ≤ 8 ∧ i ≤ s.size ∧ wr = w ∧ Hid (∀ k < i, ∀ (f : Nat) (c : UInt8), (clsL (spans 1))[k]? = some f → s.data.toList[k]? = some c → cls f c.toNat = true)) (fun p wr => 8 - (intOf p).toNat)
  case atStart => exact ⟨0, rfl, by omega, by omega, rfl, fun k hk => by omega⟩
  case round =>
    obtain ⟨i, rfl, hi, his, rfl, HOK⟩ := hrel
    by_cases hlt : i < s.size ∧ i < 8
    · obtain ⟨hl1, hl2⟩ := hlt
      obtain ⟨f, hf⟩ : ∃ f, (clsL (spans 1))[i]? = some f := ⟨_, List.getElem?_eq_getElem (by rw [HL.out]; exact hl2)⟩
      obtain ⟨c, hcc⟩ : ∃ c, s.data.toList[i]? = some c := ⟨_, List.getElem?_eq_getElem (by simpa using hl1)⟩
      have hct : s[i] = c := by
        obtain ⟨_, e⟩ := List.getElem?_eq_some_iff.1 hcc
        rw [← e]; rfl
      have HMAY := Lib.hid (fun W => may_calls1 i f c.toNat hf W)
      cases hv : cls f c.toNat with
      | true =>
        have HV := Lib.hid hv
        have HO2 : Hid (∀ k < i + 1, ∀ (f : Nat) (c : UInt8), (clsL (spans 1))[k]? = some f → s.data.toList[k]? = some c → cls f c.toNat = true) := by
          intro k hk f' c' h1 h2
          rcases Nat.lt_or_ge k i with h | h
          · exact HOK.out k h f' c' h1 h2
          · obtain rfl : k = i := by omega
            rw [hf] at h1
            rw [hcc] at h2
            cases h1; cases h2
            exact hv
        clear hf hcc hv
        go_wp2_with (first | (go_at_call 242; refine (HMAY.out _).mono ?_; rintro e w' ⟨rfl, rfl⟩; rw [HV.out]))
        exact ⟨⟨i + 1, rfl, by omega, by omega, trivial, HO2⟩, by simp [intOf]; omega⟩
      | false =>
        have HV := Lib.hid hv
        have HNO : Hid (∀ q : Int, q = 3 → (q = 0 ↔ Pfx (clsL (spans 1)) 4 s)) := by
          intro q hq
          subst hq
          refine ⟨fun h => (by cases h), fun h => ?_⟩
          have := h.1 i f c hf hcc
          rw [hv] at this
          cases this
        clear hf hcc hv
        go_wp2_with (first | (go_at_call 242; refine (HMAY.out _).mono ?_; rintro e w' ⟨rfl, rfl⟩; rw [HV.out]))
        go_ret2
        exact ⟨_, _, rfl, HNO.out _ rfl, Below.refl _ _⟩
    · have hor : i = s.size ∨ i = 8 := by omega
      have HFT : Hid (Fits (clsL (spans 1)) s) := fun j f c h1 h2 => HOK.out j (by
        have e1 := (List.getElem?_eq_some_iff.1 h1).1
        have e2 := (List.getElem?_eq_some_iff.1 h2).1
        rw [HL.out] at e1
        simp at e2
        omega) f c h1 h2
      have hge : s.size ≤ i ∨ 8 ≤ i := by omega
      clear hlt hor
      by_cases h1 : s.size < 4
      · have HNO : Hid (∀ q : Int, q = 4 → (q = 0 ↔ Pfx (clsL (spans 1)) 4 s)) := by
          intro q hq
          subst hq
          exact ⟨fun h => (by cases h), fun h => by have := h.2.1; omega⟩
        have hz : s.size ≤ i := by omega
        clear hge
        go_wp2
        go_ret2
        exact ⟨_, _, rfl, HNO.out _ rfl, Below.refl _ _⟩
      · have h1' : 4 ≤ s.size := by omega
        by_cases h2 : 8 < s.size
        · have HNO : Hid (∀ q : Int, q = 5 → (q = 0 ↔ Pfx (clsL (spans 1)) 4 s)) := by
            intro q hq
            subst hq
            exact ⟨fun h => (by cases h), fun h => by have e1 := h.2.2; have e2 := HL.out; omega⟩
          obtain rfl : i = 8 := by omega
          clear hge h1
          go_wp2
          go_ret2
          exact ⟨_, _, rfl, HNO.out _ rfl, Below.refl _ _⟩
        · have h2' : s.size ≤ 8 := by omega
          obtain rfl : i = s.size := by omega
          have HP : Hid (Pfx (clsL (spans 1)) 4 s) := ⟨HFT.out, h1', by rw [HL.out]; exact h2'⟩
          clear hge h1 h2
          go_wp2
          go_quiet (fail)
          go_wp2
          go_quiet (fail)
          go_wp2
          go_ret2
          exact ⟨_, _, rfl, ⟨fun _ => HP.out, fun _ => rfl⟩, pw_below_drewN' (pw_below_drewN' (Below.refl _ _) _) _⟩

set_option maxRecDepth 10000 in
set_option maxHeartbeats 1000000 in
theorem rcheck0_calls (s : ByteArray) (w : World) (hs : s.size ≤ 9223372036854775807) :
    Calls Tryz.prog 203 #[.int .i64 0, .string s] w fun e w' => ∃ a e', e = .returned (.tuple #[.int .i64 a, .int .i64 e']) ∧ Hid (e' = 0 ↔ Pfx (clsL (spans 0)) 12 s ∧ Lib.decDigits (luhnV (dgs (s.data.toList.take 11))) = s.data.toList.drop 11) ∧ Below w.heap.size w w' := by
  have HS := Lib.hid hs
  clear hs
  have HL : Hid ((clsL (spans 0)).length = 12) := rfl
  go_enter Tryz.func203, Tryz.ntmps203
  go_wp2_with (first
    | (go_at_call 241; refine (lengths_calls 0 (by decide) _).mono ?_; rintro e w1 ⟨rfl, rfl⟩; rw [show ((clsL (spans (Int.toNat 0))).length : Int) = 12 from rfl, show ((kshort (Int.toNat 0)) : Int) = 12 from rfl]))
  go_loopw [8] (fun p wr => ∃ i : Nat, p = .int .i64 i ∧ i ≤ 12 ∧ i ≤ s.size ∧ wr = w ∧ Hid (∀ k < i, ∀ (f : Nat) (c : UInt8), (clsL (spans 0))[k]? = some f → s.data.toList[k]? = some c → cls f c.toNat = true)) (fun p wr => 12 - (intOf p).toNat)
  case atStart => exact ⟨0, rfl, by omega, by omega, rfl, fun k hk => by omega⟩
  case round =>
    obtain ⟨i, rfl, hi, his, rfl, HOK⟩ := hrel
    by_cases hlt : i < s.size ∧ i < 12
    · obtain ⟨hl1, hl2⟩ := hlt
      obtain ⟨f, hf⟩ : ∃ f, (clsL (spans 0))[i]? = some f := ⟨_, List.getElem?_eq_getElem (by rw [HL.out]; exact hl2)⟩
      obtain ⟨c, hcc⟩ : ∃ c, s.data.toList[i]? = some c := ⟨_, List.getElem?_eq_getElem (by simpa using hl1)⟩
      have hct : s[i] = c := by
        obtain ⟨_, e⟩ := List.getElem?_eq_some_iff.1 hcc
        rw [← e]; rfl
      have HMAY := Lib.hid (fun W => may_calls0 i f c.toNat hf W)
      cases hv : cls f c.toNat with
      | true =>
        have HV := Lib.hid hv
        have HO2 : Hid (∀ k < i + 1, ∀ (f : Nat) (c : UInt8), (clsL (spans 0))[k]? = some f → s.data.toList[k]? = some c → cls f c.toNat = true) := by
          intro k hk f' c' h1 h2
          rcases Nat.lt_or_ge k i with h | h
          · exact HOK.out k h f' c' h1 h2
          · obtain rfl : k = i := by omega
            rw [hf] at h1
            rw [hcc] at h2
            cases h1; cases h2
            exact hv
        clear hf hcc hv
        go_wp2_with (first | (go_at_call 242; refine (HMAY.out _).mono ?_; rintro e w' ⟨rfl, rfl⟩; rw [HV.out]))
        exact ⟨⟨i + 1, rfl, by omega, by omega, trivial, HO2⟩, by simp [intOf]; omega⟩
      | false =>
        have HV := Lib.hid hv
        have HNO : Hid (∀ q : Int, q = 3 → (q = 0 ↔ Pfx (clsL (spans 0)) 12 s ∧ Lib.decDigits (luhnV (dgs (s.data.toList.take 11))) = s.data.toList.drop 11)) := by
          intro q hq
          subst hq
          refine ⟨fun h => (by cases h), fun h => ?_⟩
          have := h.1.1 i f c hf hcc
          rw [hv] at this
          cases this
        clear hf hcc hv
        go_wp2_with (first | (go_at_call 242; refine (HMAY.out _).mono ?_; rintro e w' ⟨rfl, rfl⟩; rw [HV.out]))
        go_ret2
        exact ⟨_, _, rfl, HNO.out _ rfl, Below.refl _ _⟩
    · have hor : i = s.size ∨ i = 12 := by omega
      have HFT : Hid (Fits (clsL (spans 0)) s) := fun j f c h1 h2 => HOK.out j (by
        have e1 := (List.getElem?_eq_some_iff.1 h1).1
        have e2 := (List.getElem?_eq_some_iff.1 h2).1
        rw [HL.out] at e1
        simp at e2
        omega) f c h1 h2
      have hge : s.size ≤ i ∨ 12 ≤ i := by omega
      clear hlt hor
      by_cases h1 : s.size < 12
      · have HNO : Hid (∀ q : Int, q = 4 → (q = 0 ↔ Pfx (clsL (spans 0)) 12 s ∧ Lib.decDigits (luhnV (dgs (s.data.toList.take 11))) = s.data.toList.drop 11)) := by
          intro q hq
          subst hq
          exact ⟨fun h => (by cases h), fun h => by have := h.1.2.1; omega⟩
        have hz : s.size ≤ i := by omega
        clear hge
        go_wp2
        go_ret2
        exact ⟨_, _, rfl, HNO.out _ rfl, Below.refl _ _⟩
      · have h1' : 12 ≤ s.size := by omega
        by_cases h2 : 12 < s.size
        · have HNO : Hid (∀ q : Int, q = 5 → (q = 0 ↔ Pfx (clsL (spans 0)) 12 s ∧ Lib.decDigits (luhnV (dgs (s.data.toList.take 11))) = s.data.toList.drop 11)) := by
            intro q hq
            subst hq
            exact ⟨fun h => (by cases h), fun h => by have e1 := h.1.2.2; have e2 := HL.out; omega⟩
          obtain rfl : i = 12 := by omega
          clear hge h1
          go_wp2
          go_ret2
          exact ⟨_, _, rfl, HNO.out _ rfl, Below.refl _ _⟩
        · have h2' : s.size ≤ 12 := by omega
          obtain rfl : i = s.size := by omega
          have HP : Hid (Pfx (clsL (spans 0)) 12 s) := ⟨HFT.out, h1', by rw [HL.out]; exact h2'⟩
          clear hge h1 h2
          have hsz : s.size = 12 := by omega
          have hal : ∀ c ∈ (s.extract 0 11).data.toList, isAl c.toNat = true := fits_al HP.out.1 (by decide) (by decide)
          obtain ⟨c, hcc⟩ : ∃ c, s.data.toList[11]? = some c := ⟨_, List.getElem?_eq_getElem (by simp; omega)⟩
          have hct : s[11] = c := by
            obtain ⟨_, e⟩ := List.getElem?_eq_some_iff.1 hcc
            rw [← e]; rfl
          have hdig : cls 251 c.toNat = true := HP.out.1 11 251 c (by decide) hcc
          have hdg : isDig c.toNat = true := hdig
          have hdd : 48 ≤ c.toNat ∧ c.toNat ≤ 57 := by simp [isDig] at hdg; omega
          obtain ⟨hd1, hd2⟩ := hdd
          have hex : (s.extract 0 11).data.toList = s.data.toList.take 11 := by rw [ext_list, List.drop_zero]
          have hdrop : s.data.toList.drop 11 = [c] := by
            have hl : s.data.toList.length = 12 := by simp; omega
            obtain ⟨hh, e⟩ := List.getElem?_eq_some_iff.1 hcc
            rw [List.drop_eq_getElem_cons hh, e, List.drop_of_length_le (by omega)]
          have hR := fun W => rluhn_calls (s.extract 0 11) W hal (by simp; omega) (by rw [hex]; intro e; have h2 : (s.data.toList.take 11).length = 11 := (by rw [List.length_take, show s.data.toList.length = s.size by simp]; omega); rw [e] at h2; cases h2)
          rw [hex] at hR
          obtain ⟨v, hv⟩ : ∃ v, luhnV (dgs (s.data.toList.take 11)) = v := ⟨_, rfl⟩
          have hv9 : v ≤ 9 := by rw [← hv]; unfold luhnV; omega
          have hdd : Lib.decDigits v = [UInt8.ofNat (48 + v)] := by rw [Lib.decDigits, dif_pos (by omega)]
          rw [hv] at hR
          have HIFF : Hid (Lib.decDigits (luhnV (dgs (s.data.toList.take 11))) = s.data.toList.drop 11 ↔ c.toNat - 48 = v) := by
            show _ ↔ _
            rw [hv, hdd, hdrop]
            constructor
            · intro e
              simp only [List.cons.injEq, and_true] at e
              rw [← e]
              simp
              omega
            · intro e
              rw [← e]
              simp only [List.cons.injEq, and_true]
              apply UInt8.toNat_inj.1
              simp
              omega
          have hwr : IntKind.i64.wrap (IntKind.u8.wrap ((c.toNat : Int) - 48)) = (c.toNat : Int) - 48 := by rw [IntWalk.u8_in _ (by omega), IntWalk.i64_in _ (by omega)]
          have HR := Lib.hid hR
          clear hR hex hdrop hdd hal hdig hdg hcc hv
          by_cases hck : c.toNat - 48 = v
          · have HTT : Hid ((IntKind.i64.wrap (IntKind.u8.wrap ((c.toNat : Int) - 48)) != (v : Int)) = false) := by show _ = _; rw [hwr]; simp; omega
            have HCK := Lib.hid (HIFF.out.2 hck)
            clear hck hwr
            go_wp2
            go_region_held3 (fun _ => True) (trivial)
              (first
                | (go_at_call 243; refine (HR.out _).mono ?_; rintro e w3 ⟨rfl, HB3⟩; have htest := HTT.out))
            all_goals
              go_wp2
              go_quiet (fail)
              go_wp2
              go_ret2
              exact ⟨_, _, rfl, ⟨fun _ => ⟨HP.out, HCK.out⟩, fun _ => rfl⟩, pw_below_drewN' ((Below.refl _ _).drew.trans HB3) _⟩
          · have HTT : Hid ((IntKind.i64.wrap (IntKind.u8.wrap ((c.toNat : Int) - 48)) != (v : Int)) = true) := by show _ = _; rw [hwr]; simp; omega
            have HCK := Lib.hid (fun h => hck (HIFF.out.1 h))
            clear hck hwr
            go_wp2
            go_region_held3 (fun _ => True) (trivial)
              (first
                | (go_at_call 243; refine (HR.out _).mono ?_; rintro e w3 ⟨rfl, HB3⟩; have htest := HTT.out))
            all_goals
              go_wp2
              go_ret2
              exact ⟨_, _, rfl, ⟨fun h => (by cases h), fun h => absurd h.2 HCK.out⟩, (Below.refl _ _).drew.trans HB3⟩

end Go.Proofs.YtmbhkfclpkopiaaGreatDoor
