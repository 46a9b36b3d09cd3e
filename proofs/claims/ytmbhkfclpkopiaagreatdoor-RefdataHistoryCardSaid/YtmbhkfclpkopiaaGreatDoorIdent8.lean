/- ident: Check, for ISINs and LEIs. -/
import Derived.Test.YtmbhkfclpkopiaaGreatDoorIdent7
namespace Go.Proofs.YtmbhkfclpkopiaaGreatDoor
open Go.RowKit
set_option linter.unusedVariables false
set_option linter.unusedSimpArgs false

theorem ext_list (s : ByteArray) (a b : Nat) : (s.extract a b).data.toList = (s.data.toList.take b).drop a := by
  simp [ByteArray.data_extract, Array.toList_extract, List.extract_eq_take_drop, List.drop_take]

/-- All bytes ahead of the check digits are letters or digits. -/
theorem fits_al {L : List Nat} {s : ByteArray} {n : Nat} (h : Fits L s) (hn : n ≤ L.length) (hL : ∀ f ∈ L.take n, f = 249 ∨ f = 250) : ∀ c ∈ (s.extract 0 n).data.toList, isAl c.toNat = true := by
  intro c hc
  rw [ext_list, List.drop_zero] at hc
  obtain ⟨i, hi⟩ := List.mem_iff_getElem?.1 hc
  rw [List.getElem?_take] at hi
  split at hi
  · rename_i hin
    have hf := List.getElem?_eq_getElem (show i < L.length by omega)
    have := h i _ c hf hi
    rcases hL _ (List.mem_iff_getElem?.2 ⟨i, by rw [List.getElem?_take, if_pos hin]; exact hf⟩) with e | e
    · rw [e] at this
      simp only [cls, if_true] at this
      simp [isAl, this]
    · rw [e] at this
      simpa [cls] using this
  · cases hi

set_option maxRecDepth 10000 in
set_option maxHeartbeats 1000000 in
theorem check0_calls (s : ByteArray) (w : World) (hs : s.size ≤ 9223372036854775807) :
    Calls Tryz.prog 174 #[.int .i64 0, .string s] w fun e w' => ∃ a e', e = .returned (.tuple #[.int .i64 a, .int .i64 e']) ∧ Hid (e' = 0 ↔ Pfx (clsL (spans 0)) 12 s ∧ Lib.decDigits (luhnV (dgs (s.data.toList.take 11))) = s.data.toList.drop 11) ∧ Below w.heap.size w w' := by
  have HS := Lib.hid hs
  have hq1 := neq_f
  have hq2 := neq_f2
  have hix := fun b0 b1 b2 b3 w => idx_kind #[.int .i64 12, .slice (some ⟨b0, 0, none⟩) 3 3, .int .i64 11, .func (.func 252) #[] #[], .int .i64 4, .slice (some ⟨b1, 0, none⟩) 2 2, .int .i64 0, .nilFunc, .int .i64 1, .slice (some ⟨b2, 0, none⟩) 1 1, .int .i64 0, .nilFunc, .int .i64 20, .slice (some ⟨b3, 0, none⟩) 2 2, .int .i64 18, .func (.func 254) #[] #[]] 0 0 rfl (by decide) rfl w
  simp only [show ∀ b0 b1 b2 b3 : Nat, (#[.int .i64 12, .slice (some ⟨b0, 0, none⟩) 3 3, .int .i64 11, .func (.func 252) #[] #[], .int .i64 4, .slice (some ⟨b1, 0, none⟩) 2 2, .int .i64 0, .nilFunc, .int .i64 1, .slice (some ⟨b2, 0, none⟩) 1 1, .int .i64 0, .nilFunc, .int .i64 20, .slice (some ⟨b3, 0, none⟩) 2 2, .int .i64 18, .func (.func 254) #[] #[]] : Array Value).extract (0 * 4) (0 * 4 + 4) = #[.int .i64 12, .slice (some ⟨b0, 0, none⟩) 3 3, .int .i64 11, .func (.func 252) #[] #[]] from fun _ _ _ _ => rfl] at hix
  clear hs
  go_enter Tryz.func174, Tryz.ntmps174
  go_wp2_with (first
    | (go_at_call 218; refine (kinds_calls _).mono ?_; rintro e w1 ⟨b0, b1, b2, b3, rfl, k0, k1, k2, k3, HB1⟩))
  have K : Below (w1.heap.size + 1) (w1.alloc (.cells #[.int .i64 12, .slice (some ⟨b0, 0, none⟩) 3 3, .int .i64 11, .func (.func 252) #[] #[]] 311)) (w1.alloc (.cells #[.int .i64 12, .slice (some ⟨b0, 0, none⟩) 3 3, .int .i64 11, .func (.func 252) #[] #[]] 311)) := Below.refl _ _
  have FS : Hid (∀ W, Below (w1.heap.size + 1) (w1.alloc (.cells #[.int .i64 12, .slice (some ⟨b0, 0, none⟩) 3 3, .int .i64 11, .func (.func 252) #[] #[]] 311)) W → W.cell? ⟨w1.heap.size, 0, none⟩ = some (.int .i64 12) ∧ W.cell? ⟨w1.heap.size, 1, none⟩ = some (.slice (some ⟨b0, 0, none⟩) 3 3) ∧ W.cell? ⟨w1.heap.size, 2, none⟩ = some (.int .i64 11) ∧ W.cell? ⟨w1.heap.size, 3, none⟩ = some (.func (.func 252) #[] #[])) := fun W hW => ⟨box_cell hW 0, box_cell hW 1, box_cell hW 2, box_cell hW 3⟩
  have s1 := FS.out _ K
  have hkb : Hid (∀ W, Below (w1.heap.size + 1) (w1.alloc (.cells #[.int .i64 12, .slice (some ⟨b0, 0, none⟩) 3 3, .int .i64 11, .func (.func 252) #[] #[]] 311)) W → W.heap[b0]? = some (.cells (spCells (spans 0)).toArray 343)) := fun W hW => by
    have hlt : b0 < w1.heap.size := (Array.getElem?_eq_some_iff.1 k0).1
    rw [hW.block b0 (by omega), Below.heap_alloc _ _ _ hlt]
    exact k0
  have HB1' := Lib.hid HB1
  clear k0 k1 k2 k3 HB1
  go_region_held3 (fun w' => w'.cell? ⟨w1.heap.size, 0, none⟩ = some (.int .i64 12) ∧ w'.cell? ⟨w1.heap.size, 1, none⟩ = some (.slice (some ⟨b0, 0, none⟩) 3 3) ∧ w'.cell? ⟨w1.heap.size, 2, none⟩ = some (.int .i64 11) ∧ w'.cell? ⟨w1.heap.size, 3, none⟩ = some (.func (.func 252) #[] #[])) (first | go_keep)
    (first
      | (go_at_call 220; refine (classes_calls 12 11 (.func (.func 252) #[] #[]) rfl b0 (spans 0) _ (hkb.out _ K.drew) (spans_small 0).1 (spans_small 0).2.1).mono ?_; rintro e w2 ⟨v2, rfl, hown2, HB2⟩; have K2 := below_over K.drew HB2 (by simp); have s2 := FS.out _ K2; obtain ⟨g2, cap2, rfl, hcap2, hg2, HC2⟩ := row_cells hown2 (by decide))
      | (go_at_call 219; refine (prefix_calls g2 cap2 12 (clsL (spans 0)) s _ HC2.out (spans_small 0).2.2.2 (by decide) hcap2 (by decide) HS.out).mono ?_; rintro e w' ⟨a, e', rfl, HE, rfl⟩))
  have HBF := HB1'.out.trans (K2.mono (Nat.le_succ _) |> fun h => (HBa w1 _).trans h |>.mono HB1'.out.size)
  have hw2 : w1.heap.size + 1 ≤ w2.heap.size := by have := K2.size; simpa using this
  clear K HB2 hown2
  by_cases he : e' = 0
  · subst he
    have HP : Hid (Pfx (clsL (spans 0)) 12 s) := HE.out.1 rfl
    have hsz : s.size = 12 := by have h1 := HP.out.2.1; have h2 := HP.out.2.2; have h3 : (clsL (spans 0)).length = 12 := rfl; omega
    clear HE HC2 hcap2 hix hkb
    have HAL : Hid (∀ c ∈ (s.extract 0 11).data.toList, isAl c.toNat = true) := fits_al HP.out.1 (by decide) (by decide)
    have hex : (s.extract 0 11).data.toList = s.data.toList.take 11 := by rw [ext_list, List.drop_zero]
    have hex2 : (s.extract 11 12).data.toList = s.data.toList.drop 11 := by rw [ext_list, List.take_of_length_le (by simp; omega)]
    by_cases hck : Lib.decDigits (luhnV (dgs (s.data.toList.take 11))) = s.data.toList.drop 11
    · have HT : Hid (∀ d : ByteArray, Hid (d = ⟨(Lib.decDigits (luhnV (dgs (s.extract 0 11).data.toList))).toArray⟩) → (d.toList == (s.extract 11 12).toList) = true) := by
        intro d hd
        rw [beq_tl, decide_eq_true_eq, hd.out]
        refine ByteArray.ext (Array.toList_inj.mp ?_)
        rw [hex, hex2]
        exact hck
      have HCK := Lib.hid hck
      clear hex hex2 hck
      go_wp2
      go_region_held3 (fun w' => w'.cell? ⟨w1.heap.size, 0, none⟩ = some (.int .i64 12) ∧ w'.cell? ⟨w1.heap.size, 1, none⟩ = some (.slice (some ⟨b0, 0, none⟩) 3 3) ∧ w'.cell? ⟨w1.heap.size, 2, none⟩ = some (.int .i64 11) ∧ w'.cell? ⟨w1.heap.size, 3, none⟩ = some (.func (.func 252) #[] #[])) (first | go_keep)
        (first
          | (go_at_call 252; refine (luhn_calls _ _ HAL.out (by simp; omega)).mono ?_; rintro e w3 ⟨d, rfl, HDD, HB3⟩; have K3 := below_over K2.drew HB3 hw2; have s3 := FS.out _ K3; have htest : (d.toList == (s.extract 11 12).toList) = true := HT.out d HDD))
      have HBF3 := HBF.drew.trans (HB3.mono HBF.size)
      go_wp2
      go_ret2
      exact ⟨_, _, rfl, ⟨fun _ => ⟨HP.out, HCK.out⟩, fun _ => rfl⟩, HBF3⟩
    · have HT : Hid (∀ d : ByteArray, Hid (d = ⟨(Lib.decDigits (luhnV (dgs (s.extract 0 11).data.toList))).toArray⟩) → (d.toList == (s.extract 11 12).toList) = false) := by
        intro d hd
        rw [beq_tl, decide_eq_false_iff_not, hd.out]
        intro e
        apply hck
        have e2 := congrArg (fun x : ByteArray => x.data.toList) e
        simp only [hex, hex2] at e2
        exact e2
      have HCK := Lib.hid hck
      clear hex hex2 hck
      go_wp2
      go_region_held3 (fun w' => w'.cell? ⟨w1.heap.size, 0, none⟩ = some (.int .i64 12) ∧ w'.cell? ⟨w1.heap.size, 1, none⟩ = some (.slice (some ⟨b0, 0, none⟩) 3 3) ∧ w'.cell? ⟨w1.heap.size, 2, none⟩ = some (.int .i64 11) ∧ w'.cell? ⟨w1.heap.size, 3, none⟩ = some (.func (.func 252) #[] #[])) (first | go_keep)
        (first
          | (go_at_call 252; refine (luhn_calls _ _ HAL.out (by simp; omega)).mono ?_; rintro e w3 ⟨d, rfl, HDD, HB3⟩; have K3 := below_over K2.drew HB3 hw2; have s3 := FS.out _ K3; have htest : (d.toList == (s.extract 11 12).toList) = false := HT.out d HDD))
      have HBF3 := HBF.drew.trans (HB3.mono HBF.size)
      go_wp2
      go_ret2
      exact ⟨_, _, rfl, ⟨fun h => (by cases h), fun h => absurd h.2 HCK.out⟩, HBF3⟩
  · have he1 : (e' == 0) = false := by simpa using he
    have he0 := Lib.hid he
    go_wp2
    go_ret2
    exact ⟨_, _, rfl, ⟨fun h => absurd h he0.out, fun h => absurd (HE.out.2 h.1) he0.out⟩, HBF⟩
end Go.Proofs.YtmbhkfclpkopiaaGreatDoor
