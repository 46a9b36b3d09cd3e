/- ident: Check, for LEIs; Valid. -/
import Derived.Test.YtmbhkfclpkopiaaGreatDoorIdent8
namespace Go.Proofs.YtmbhkfclpkopiaaGreatDoor
open Go.RowKit
set_option linter.unusedVariables false
set_option linter.unusedSimpArgs false

set_option maxRecDepth 10000 in
set_option maxHeartbeats 1000000 in
theorem check3_calls (s : ByteArray) (w : World) (hs : s.size ≤ 9223372036854775807) :
    Calls Tryz.prog 174 #[.int .i64 3, .string s] w fun e w' => ∃ a e', e = .returned (.tuple #[.int .i64 a, .int .i64 e']) ∧ Hid (e' = 0 ↔ Pfx (clsL (spans 3)) 20 s ∧ pairB (98 - mS (dgs (s.data.toList.take 18) ++ [0, 0])) = s.data.toList.drop 18) ∧ Below w.heap.size w w' := by
  have HS := Lib.hid hs
  have hq1 := neq_f
  have hq2 := neq_f2
  have hix := fun b0 b1 b2 b3 w => idx_kind #[.int .i64 12, .slice (some ⟨b0, 0, none⟩) 3 3, .int .i64 11, .func (.func 252) #[] #[], .int .i64 4, .slice (some ⟨b1, 0, none⟩) 2 2, .int .i64 0, .nilFunc, .int .i64 1, .slice (some ⟨b2, 0, none⟩) 1 1, .int .i64 0, .nilFunc, .int .i64 20, .slice (some ⟨b3, 0, none⟩) 2 2, .int .i64 18, .func (.func 254) #[] #[]] 3 3 rfl (by decide) rfl w
  simp only [show ∀ b0 b1 b2 b3 : Nat, (#[.int .i64 12, .slice (some ⟨b0, 0, none⟩) 3 3, .int .i64 11, .func (.func 252) #[] #[], .int .i64 4, .slice (some ⟨b1, 0, none⟩) 2 2, .int .i64 0, .nilFunc, .int .i64 1, .slice (some ⟨b2, 0, none⟩) 1 1, .int .i64 0, .nilFunc, .int .i64 20, .slice (some ⟨b3, 0, none⟩) 2 2, .int .i64 18, .func (.func 254) #[] #[]] : Array Value).extract (3 * 4) (3 * 4 + 4) = #[.int .i64 20, .slice (some ⟨b3, 0, none⟩) 2 2, .int .i64 18, .func (.func 254) #[] #[]] from fun _ _ _ _ => rfl] at hix
  clear hs
  go_enter Tryz.func174, Tryz.ntmps174
  go_wp2_with (first
    | (go_at_call 218; refine (kinds_calls _).mono ?_; rintro e w1 ⟨b0, b1, b2, b3, rfl, k0, k1, k2, k3, HB1⟩))
  have K : Below (w1.heap.size + 1) (w1.alloc (.cells #[.int .i64 20, .slice (some ⟨b3, 0, none⟩) 2 2, .int .i64 18, .func (.func 254) #[] #[]] 311)) (w1.alloc (.cells #[.int .i64 20, .slice (some ⟨b3, 0, none⟩) 2 2, .int .i64 18, .func (.func 254) #[] #[]] 311)) := Below.refl _ _
  have FS : Hid (∀ W, Below (w1.heap.size + 1) (w1.alloc (.cells #[.int .i64 20, .slice (some ⟨b3, 0, none⟩) 2 2, .int .i64 18, .func (.func 254) #[] #[]] 311)) W → W.cell? ⟨w1.heap.size, 0, none⟩ = some (.int .i64 20) ∧ W.cell? ⟨w1.heap.size, 1, none⟩ = some (.slice (some ⟨b3, 0, none⟩) 2 2) ∧ W.cell? ⟨w1.heap.size, 2, none⟩ = some (.int .i64 18) ∧ W.cell? ⟨w1.heap.size, 3, none⟩ = some (.func (.func 254) #[] #[])) := fun W hW => ⟨box_cell hW 0, box_cell hW 1, box_cell hW 2, box_cell hW 3⟩
  have s1 := FS.out _ K
  have hkb : Hid (∀ W, Below (w1.heap.size + 1) (w1.alloc (.cells #[.int .i64 20, .slice (some ⟨b3, 0, none⟩) 2 2, .int .i64 18, .func (.func 254) #[] #[]] 311)) W → W.heap[b3]? = some (.cells (spCells (spans 3)).toArray 343)) := fun W hW => by
    have hlt : b3 < w1.heap.size := (Array.getElem?_eq_some_iff.1 k3).1
    rw [hW.block b3 (by omega), Below.heap_alloc _ _ _ hlt]
    exact k3
  have HB1' := Lib.hid HB1
  clear k0 k1 k2 k3 HB1
  go_region_held3 (fun w' => w'.cell? ⟨w1.heap.size, 0, none⟩ = some (.int .i64 20) ∧ w'.cell? ⟨w1.heap.size, 1, none⟩ = some (.slice (some ⟨b3, 0, none⟩) 2 2) ∧ w'.cell? ⟨w1.heap.size, 2, none⟩ = some (.int .i64 18) ∧ w'.cell? ⟨w1.heap.size, 3, none⟩ = some (.func (.func 254) #[] #[])) (first | go_keep)
    (first
      | (go_at_call 220; refine (classes_calls 20 18 (.func (.func 254) #[] #[]) rfl b3 (spans 3) _ (hkb.out _ K.drew) (spans_small 3).1 (spans_small 3).2.1).mono ?_; rintro e w2 ⟨v2, rfl, hown2, HB2⟩; have K2 := below_over K.drew HB2 (by simp); have s2 := FS.out _ K2; obtain ⟨g2, cap2, rfl, hcap2, hg2, HC2⟩ := row_cells hown2 (by decide))
      | (go_at_call 219; refine (prefix_calls g2 cap2 20 (clsL (spans 3)) s _ HC2.out (spans_small 3).2.2.2 (by decide) hcap2 (by decide) HS.out).mono ?_; rintro e w' ⟨a, e', rfl, HE, rfl⟩))
  have HBF := HB1'.out.trans (K2.mono (Nat.le_succ _) |> fun h => (HBa w1 _).trans h |>.mono HB1'.out.size)
  have hw2 : w1.heap.size + 1 ≤ w2.heap.size := by have := K2.size; simpa using this
  clear K HB2 hown2
  by_cases he : e' = 0
  · subst he
    have HP : Hid (Pfx (clsL (spans 3)) 20 s) := HE.out.1 rfl
    have hsz : s.size = 20 := by have h1 := HP.out.2.1; have h2 := HP.out.2.2; have h3 : (clsL (spans 3)).length = 20 := rfl; omega
    clear HE HC2 hcap2 hix hkb
    have HAL : Hid (∀ c ∈ (s.extract 0 18).data.toList, isAl c.toNat = true) := fits_al HP.out.1 (by decide) (by decide)
    have hex : (s.extract 0 18).data.toList = s.data.toList.take 18 := by rw [ext_list, List.drop_zero]
    have hex2 : (s.extract 18 20).data.toList = s.data.toList.drop 18 := by rw [ext_list, List.take_of_length_le (by simp; omega)]
    by_cases hck : pairB (98 - mS (dgs (s.data.toList.take 18) ++ [0, 0])) = s.data.toList.drop 18
    · have HT : Hid (∀ d : ByteArray, Hid (d = ⟨(pairB (98 - mS (dgs (s.extract 0 18).data.toList ++ [0, 0]))).toArray⟩) → (d.toList == (s.extract 18 20).toList) = true) := by
        intro d hd
        rw [beq_tl, decide_eq_true_eq, hd.out]
        refine ByteArray.ext (Array.toList_inj.mp ?_)
        rw [hex, hex2]
        exact hck
      have HCK := Lib.hid hck
      clear hex hex2 hck
      go_wp2
      go_region_held3 (fun w' => w'.cell? ⟨w1.heap.size, 0, none⟩ = some (.int .i64 20) ∧ w'.cell? ⟨w1.heap.size, 1, none⟩ = some (.slice (some ⟨b3, 0, none⟩) 2 2) ∧ w'.cell? ⟨w1.heap.size, 2, none⟩ = some (.int .i64 18) ∧ w'.cell? ⟨w1.heap.size, 3, none⟩ = some (.func (.func 254) #[] #[])) (first | go_keep)
        (first
          | (go_at_call 254; refine (mod97_calls _ _ HAL.out (by simp; omega)).mono ?_; rintro e w3 ⟨d, rfl, HDD, HB3⟩; have K3 := below_over K2.drew HB3 hw2; have s3 := FS.out _ K3; have htest : (d.toList == (s.extract 18 20).toList) = true := HT.out d HDD))
      have HBF3 := HBF.drew.trans (HB3.mono HBF.size)
      go_wp2
      go_ret2
      exact ⟨_, _, rfl, ⟨fun _ => ⟨HP.out, HCK.out⟩, fun _ => rfl⟩, HBF3⟩
    · have HT : Hid (∀ d : ByteArray, Hid (d = ⟨(pairB (98 - mS (dgs (s.extract 0 18).data.toList ++ [0, 0]))).toArray⟩) → (d.toList == (s.extract 18 20).toList) = false) := by
        intro d hd
        rw [beq_tl, decide_eq_false_iff_not, hd.out]
        intro e
        apply hck
        have e2 := congrArg (fun x : ByteArray => x.data.toList) e
        simp only [hex, hex2] at e2
        exact e2
      have HCK := Lib.hid hck
      clear hex hex2 hck
      go_wp2
      go_region_held3 (fun w' => w'.cell? ⟨w1.heap.size, 0, none⟩ = some (.int .i64 20) ∧ w'.cell? ⟨w1.heap.size, 1, none⟩ = some (.slice (some ⟨b3, 0, none⟩) 2 2) ∧ w'.cell? ⟨w1.heap.size, 2, none⟩ = some (.int .i64 18) ∧ w'.cell? ⟨w1.heap.size, 3, none⟩ = some (.func (.func 254) #[] #[])) (first | go_keep)
        (first
          | (go_at_call 254; refine (mod97_calls _ _ HAL.out (by simp; omega)).mono ?_; rintro e w3 ⟨d, rfl, HDD, HB3⟩; have K3 := below_over K2.drew HB3 hw2; have s3 := FS.out _ K3; have htest : (d.toList == (s.extract 18 20).toList) = false := HT.out d HDD))
      have HBF3 := HBF.drew.trans (HB3.mono HBF.size)
      go_wp2
      go_ret2
      exact ⟨_, _, rfl, ⟨fun h => (by cases h), fun h => absurd h.2 HCK.out⟩, HBF3⟩
  · have he1 : (e' == 0) = false := by simpa using he
    have he0 := Lib.hid he
    go_wp2
    go_ret2
    exact ⟨_, _, rfl, ⟨fun h => absurd h he0.out, fun h => absurd (HE.out.2 h.1) he0.out⟩, HBF⟩
/-- The text is an identifier of kind k. -/
def Vld (k : Nat) (s : ByteArray) : Prop := Pfx (clsL (spans k)) (kshort k) s ∧ (k = 0 → Lib.decDigits (luhnV (dgs (s.data.toList.take 11))) = s.data.toList.drop 11) ∧ (k = 3 → pairB (98 - mS (dgs (s.data.toList.take 18) ++ [0, 0])) = s.data.toList.drop 18)
open Classical in
noncomputable def vld (k : Int) (s : ByteArray) : Bool := decide (Vld k.toNat s)

theorem check_calls (k : Int) (s : ByteArray) (w : World) (h0 : 0 ≤ k) (h3 : k ≤ 3) (hs : s.size ≤ 9223372036854775807) :
    Calls Tryz.prog 174 #[.int .i64 k, .string s] w fun e w' => ∃ a e', e = .returned (.tuple #[.int .i64 a, .int .i64 e']) ∧ Hid (e' = 0 ↔ Vld k.toNat s) ∧ Below w.heap.size w w' := by
  have hk : k = 0 ∨ k = 1 ∨ k = 2 ∨ k = 3 := by omega
  rcases hk with rfl | rfl | rfl | rfl
  · refine (check0_calls s w hs).mono ?_
    rintro e w' ⟨a, e', h1, h2, h3⟩
    refine ⟨a, e', h1, ⟨fun h => ?_, fun h => h2.out.2 ⟨h.1, h.2.1 rfl⟩⟩, h3⟩
    have := h2.out.1 h
    exact ⟨this.1, fun _ => this.2, fun e => (by cases e)⟩
  · refine (check1_calls s w hs).mono ?_
    rintro e w' ⟨a, e', h1, h2, h3⟩
    refine ⟨a, e', h1, ⟨fun h => ?_, fun h => h2.out.2 h.1⟩, h3⟩
    exact ⟨h2.out.1 h, fun e => (by cases e), fun e => (by cases e)⟩
  · refine (check2_calls s w hs).mono ?_
    rintro e w' ⟨a, e', h1, h2, h3⟩
    refine ⟨a, e', h1, ⟨fun h => ?_, fun h => h2.out.2 h.1⟩, h3⟩
    exact ⟨h2.out.1 h, fun e => (by cases e), fun e => (by cases e)⟩
  · refine (check3_calls s w hs).mono ?_
    rintro e w' ⟨a, e', h1, h2, h3⟩
    refine ⟨a, e', h1, ⟨fun h => ?_, fun h => h2.out.2 ⟨h.1, h.2.2 rfl⟩⟩, h3⟩
    have := h2.out.1 h
    exact ⟨this.1, fun e => (by cases e), fun _ => this.2⟩

theorem vld_says : VldSays vld := by
  intro k s w h0 h3 hs
  have HC := Lib.hid (fun W => check_calls k s W h0 h3 hs)
  clear hs
  by_cases hv : Vld k.toNat s
  · have HV : Hid (vld k s = true) := by show vld k s = true; simp [vld, hv]
    have HVV := Lib.hid hv
    clear hv
    go_enter Tryz.func112, Tryz.ntmps112
    go_wp2_with (first | (go_at_call 174; refine (HC.out _).mono ?_; rintro e w1 ⟨a, e', rfl, HE, HB⟩; have he : e' = 0 := HE.out.2 HVV.out; subst he))
    go_ret
    exact ⟨ret_bool HV.out.symm, HB⟩
  · have HV : Hid (vld k s = false) := by show vld k s = false; simp [vld, hv]
    have HVV := Lib.hid hv
    clear hv
    go_enter Tryz.func112, Tryz.ntmps112
    go_wp2_with (first | (go_at_call 174; refine (HC.out _).mono ?_; rintro e w1 ⟨a, e', rfl, HE, HB⟩; have he : (e' == 0) = false := (by simpa using fun h => HVV.out (HE.out.1 h))))
    go_ret
    exact ⟨ret_bool HV.out.symm, HB⟩
end Go.Proofs.YtmbhkfclpkopiaaGreatDoor
