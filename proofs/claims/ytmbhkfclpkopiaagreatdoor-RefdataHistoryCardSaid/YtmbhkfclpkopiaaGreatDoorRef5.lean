/- giroref05: Check, for LEIs. -/
import Derived.Test.YtmbhkfclpkopiaaGreatDoorRef4
namespace Go.Proofs.YtmbhkfclpkopiaaGreatDoor
open Go.RowKit
set_option linter.unusedVariables false
set_option linter.unusedSimpArgs false

theorem below_34 {w w3 w4 : World} {n : Nat} (h3 : Below (w.drewN n).heap.size (w.drewN n) w3) (h4 : Below w3.heap.size w3 w4) : Below w.heap.size w w4 :=
  ((pw_below_drewN' (Below.refl _ _) n).trans h3).trans (h4.mono h3.size)

theorem bsize (b : ByteArray) : b.size = b.data.toList.length := by simp

set_option maxRecDepth 10000 in
set_option maxHeartbeats 1000000 in
theorem rcheck3_calls (s : ByteArray) (w : World) (hs : s.size ≤ 9223372036854775807) :
    Calls Tryz.prog 203 #[.int .i64 3, .string s] w fun e w' => ∃ a e', e = .returned (.tuple #[.int .i64 a, .int .i64 e']) ∧ Hid (e' = 0 ↔ Pfx (clsL (spans 3)) 20 s ∧ pairB (98 - mS (dgs (s.data.toList.take 18) ++ [0, 0])) = s.data.toList.drop 18) ∧ Below w.heap.size w w' := by
  have HS := Lib.hid hs
  clear hs
  have HL : Hid ((clsL (spans 3)).length = 20) := rfl
  go_enter Tryz.func203, Tryz.ntmps203
  go_wp2_with (first
    | (go_at_call 241; refine (lengths_calls 3 (by decide) _).mono ?_; rintro e w1 ⟨rfl, rfl⟩; rw [show ((clsL (spans (Int.toNat 3))).length : Int) = 20 from rfl, show ((kshort (Int.toNat 3)) : Int) = 20 from rfl]))
  go_loopw [8] (fun p wr => ∃ i : Nat, p = .int .i64 i ∧ i ≤ 20 ∧ i ≤ s.size ∧ wr = w ∧ Hid (∀ k < i, ∀ (f : Nat) (c : UInt8), (clsL (spans 3))[k]? = some f → s.data.toList[k]? = some c → cls f c.toNat = true)) (fun p wr => 20 - (intOf p).toNat)
  case atStart => exact ⟨0, rfl, by omega, by omega, rfl, fun k hk => by omega⟩
  case round =>
    obtain ⟨i, rfl, hi, his, rfl, HOK⟩ := hrel
    by_cases hlt : i < s.size ∧ i < 20
    · obtain ⟨hl1, hl2⟩ := hlt
      obtain ⟨f, hf⟩ : ∃ f, (clsL (spans 3))[i]? = some f := ⟨_, List.getElem?_eq_getElem (by rw [HL.out]; exact hl2)⟩
      obtain ⟨c, hcc⟩ : ∃ c, s.data.toList[i]? = some c := ⟨_, List.getElem?_eq_getElem (by simpa using hl1)⟩
      have hct : s[i] = c := by
        obtain ⟨_, e⟩ := List.getElem?_eq_some_iff.1 hcc
        rw [← e]; rfl
      have HMAY := Lib.hid (fun W => may_calls3 i f c.toNat hf W)
      cases hv : cls f c.toNat with
      | true =>
        have HV := Lib.hid hv
        have HO2 : Hid (∀ k < i + 1, ∀ (f : Nat) (c : UInt8), (clsL (spans 3))[k]? = some f → s.data.toList[k]? = some c → cls f c.toNat = true) := by
          intro k hk f' c' h1 h2
          rcases Nat.lt_or_ge k i with h | h
          · exact HOK.out k h f' c' h1 h2
          · obtain rfl : k = i := by omega
            rw [hf] at h1
            rw [hcc] at h2
            cases h1; cases h2
            exact hv
        clear hf hcc hv
        go_wp2_with (first | (go_at_call 242; refine (HMAY.out _).mono ?_; rintro e w' ⟨rfl, rfl⟩; rw [HV.out]))
        exact ⟨⟨i + 1, rfl, by omega, by omega, trivial, HO2⟩, by simp [intOf]; omega⟩
      | false =>
        have HV := Lib.hid hv
        have HNO : Hid (∀ q : Int, q = 3 → (q = 0 ↔ Pfx (clsL (spans 3)) 20 s ∧ pairB (98 - mS (dgs (s.data.toList.take 18) ++ [0, 0])) = s.data.toList.drop 18)) := by
          intro q hq
          subst hq
          refine ⟨fun h => (by cases h), fun h => ?_⟩
          have := h.1.1 i f c hf hcc
          rw [hv] at this
          cases this
        clear hf hcc hv
        go_wp2_with (first | (go_at_call 242; refine (HMAY.out _).mono ?_; rintro e w' ⟨rfl, rfl⟩; rw [HV.out]))
        go_ret2
        exact ⟨_, _, rfl, HNO.out _ rfl, Below.refl _ _⟩
    · have hor : i = s.size ∨ i = 20 := by omega
      have HFT : Hid (Fits (clsL (spans 3)) s) := fun j f c h1 h2 => HOK.out j (by
        have e1 := (List.getElem?_eq_some_iff.1 h1).1
        have e2 := (List.getElem?_eq_some_iff.1 h2).1
        rw [HL.out] at e1
        simp at e2
        omega) f c h1 h2
      have hge : s.size ≤ i ∨ 20 ≤ i := by omega
      clear hlt hor
      by_cases h1 : s.size < 20
      · have HNO : Hid (∀ q : Int, q = 4 → (q = 0 ↔ Pfx (clsL (spans 3)) 20 s ∧ pairB (98 - mS (dgs (s.data.toList.take 18) ++ [0, 0])) = s.data.toList.drop 18)) := by
          intro q hq
          subst hq
          exact ⟨fun h => (by cases h), fun h => by have := h.1.2.1; omega⟩
        have hz : s.size ≤ i := by omega
        clear hge
        go_wp2
        go_ret2
        exact ⟨_, _, rfl, HNO.out _ rfl, Below.refl _ _⟩
      · have h1' : 20 ≤ s.size := by omega
        by_cases h2 : 20 < s.size
        · have HNO : Hid (∀ q : Int, q = 5 → (q = 0 ↔ Pfx (clsL (spans 3)) 20 s ∧ pairB (98 - mS (dgs (s.data.toList.take 18) ++ [0, 0])) = s.data.toList.drop 18)) := by
            intro q hq
            subst hq
            exact ⟨fun h => (by cases h), fun h => by have e1 := h.1.2.2; have e2 := HL.out; omega⟩
          obtain rfl : i = 20 := by omega
          clear hge h1
          go_wp2
          go_ret2
          exact ⟨_, _, rfl, HNO.out _ rfl, Below.refl _ _⟩
        · have h2' : s.size ≤ 20 := by omega
          obtain rfl : i = s.size := by omega
          have HP : Hid (Pfx (clsL (spans 3)) 20 s) := ⟨HFT.out, h1', by rw [HL.out]; exact h2'⟩
          clear hge h1 h2
          have hsz : s.size = 20 := by omega
          have hal0 : ∀ c ∈ (s.extract 0 18).data.toList, isAl c.toNat = true := fits_al HP.out.1 (by decide) (by decide)
          have hex : (s.extract 0 18).data.toList = s.data.toList.take 18 := by rw [ext_list, List.drop_zero]
          have hex2 : (s.extract 18 20).data.toList = s.data.toList.drop 18 := by rw [ext_list, List.take_of_length_le (by simp; omega)]
          have hcat : (s.extract 0 18 ++ ({ data := #[48, 48] } : ByteArray)).data.toList = s.data.toList.take 18 ++ [48, 48] := by simp [hex]
          have hal : ∀ c ∈ (s.extract 0 18 ++ ({ data := #[48, 48] } : ByteArray)).data.toList, isAl c.toNat = true := by
            intro c hc
            rw [hcat, List.mem_append] at hc
            rcases hc with hc | hc
            · exact hal0 c (by rw [hex]; exact hc)
            · simp only [List.mem_cons, List.not_mem_nil, or_false] at hc
              rcases hc with rfl | rfl <;> decide
          have hszc : (s.extract 0 18 ++ ({ data := #[48, 48] } : ByteArray)).size ≤ 50 := by
            rw [bsize, hcat, List.length_append, List.length_take]; simp; omega
          have hdg : dgs (s.data.toList.take 18 ++ [48, 48]) = dgs (s.data.toList.take 18) ++ [0, 0] := by
            unfold dgs expL
            rw [List.flatMap_append, List.map_append]
            congr 1
          have hx18 : (s.extract 0 18).size ≤ 18 := by
            have e1 : (s.extract 0 18).size = (s.extract 0 18).data.toList.length := by simp
            rw [e1, hex, List.length_take]; omega
          have hR := fun W => rmod_calls (s.extract 0 18 ++ ({ data := #[48, 48] } : ByteArray)) W hal hszc (by rw [hcat]; simp)
          rw [hcat, hdg] at hR
          obtain ⟨m, hm⟩ : ∃ m, mS (dgs (s.data.toList.take 18) ++ [0, 0]) = m := ⟨_, rfl⟩
          have hm97 : m < 97 := by rw [← hm]; exact mS_lt _
          rw [hm] at hR
          have HPR := Lib.hid (fun W => pair_calls (98 - m) (by omega) W)
          have hcast : IntKind.i64.wrap ((98 : Int) - (m : Int)) = ((98 - m : Nat) : Int) := by rw [IntWalk.i64_in _ (by omega)]; omega
          rw [← hcast] at HPR
          have HR := Lib.hid hR
          by_cases hck : pairB (98 - m) = s.data.toList.drop 18
          · have HT : Hid (∀ d : ByteArray, Hid (d = ⟨(pairB (98 - m)).toArray⟩) → ((s.extract 18 20).toList == d.toList) = true) := by
              intro d hd
              rw [beq_tl, decide_eq_true_eq, hd.out]
              refine ByteArray.ext (Array.toList_inj.mp ?_)
              rw [hex2]
              exact hck.symm
            have HCK : Hid (pairB (98 - mS (dgs (s.data.toList.take 18) ++ [0, 0])) = s.data.toList.drop 18) := by show _ = _; rw [hm]; exact hck
            clear hck hR hal hal0 hszc hdg hcat hex hex2 hm hcast
            go_wp2
            go_quiet (fail)
            go_wp2
            go_region_held3 (fun _ => True) (trivial)
              (first
                | (go_at_call 245; (with_reducible refine (HR.out _).mono ?_); rintro e w3 ⟨rfl, HB3⟩)
                | (go_at_call 244; (with_reducible refine (HPR.out _).mono ?_); rintro e w4 ⟨d, rfl, HDD, HB4⟩; have htest := HT.out d HDD))
            all_goals
              go_wp2
              go_ret2
              exact ⟨_, _, rfl, ⟨fun _ => ⟨HP.out, HCK.out⟩, fun _ => rfl⟩, below_34 HB3 HB4⟩
          · have HT : Hid (∀ d : ByteArray, Hid (d = ⟨(pairB (98 - m)).toArray⟩) → ((s.extract 18 20).toList == d.toList) = false) := by
              intro d hd
              rw [beq_tl, decide_eq_false_iff_not, hd.out]
              intro e
              apply hck
              have e2 := congrArg (fun x : ByteArray => x.data.toList) e
              simp only [hex2] at e2
              exact e2.symm
            have HCK : Hid (¬ pairB (98 - mS (dgs (s.data.toList.take 18) ++ [0, 0])) = s.data.toList.drop 18) := by show ¬ _; rw [hm]; exact hck
            clear hck hR hal hal0 hszc hdg hcat hex hex2 hm hcast
            go_wp2
            go_quiet (fail)
            go_wp2
            go_region_held3 (fun _ => True) (trivial)
              (first
                | (go_at_call 245; (with_reducible refine (HR.out _).mono ?_); rintro e w3 ⟨rfl, HB3⟩)
                | (go_at_call 244; (with_reducible refine (HPR.out _).mono ?_); rintro e w4 ⟨d, rfl, HDD, HB4⟩; have htest := HT.out d HDD))
            all_goals
              go_wp2
              go_ret2
              exact ⟨_, _, rfl, ⟨fun h => (by cases h), fun h => absurd h.2 HCK.out⟩, below_34 HB3 HB4⟩

end Go.Proofs.YtmbhkfclpkopiaaGreatDoor
