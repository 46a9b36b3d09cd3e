/- ident: Check, for members. -/
import Derived.Test.YtmbhkfclpkopiaaGreatDoorIdent6
import Derived.Deep.RegionHeld3
namespace Go.Proofs.YtmbhkfclpkopiaaGreatDoor
open Go.RowKit
set_option linter.unusedVariables false
set_option linter.unusedSimpArgs false

theorem spans_small (k : Nat) : (spans k).length ≤ 5 ∧ (∀ x ∈ spans k, x.1 ≤ 20) ∧ (clsL (spans k)).length ≤ 20 ∧ (∀ f ∈ clsL (spans k), IsCls f) := by
  have h3 : ∀ k, spans (k + 1 + 1 + 1) = [(18, 250), (2, 251)] := fun _ => rfl
  rcases k with _ | _ | _ | k
  · refine ⟨by decide, by decide, by decide, by unfold IsCls; decide⟩
  · refine ⟨by decide, by decide, by decide, by unfold IsCls; decide⟩
  · refine ⟨by decide, by decide, by decide, by unfold IsCls; decide⟩
  · rw [h3]
    refine ⟨by decide, by decide, by decide, by unfold IsCls; decide⟩

theorem idx_kind (cs : Array Value) (k : Nat) (i : Int) (hi : i = k) (hk : k ≤ 3) (hcs : cs.size = 16) (w : World) : (Instr.index 312 (.agg cs) (.int .i64 i)).run Tryz.prog w = .ok (.agg (cs.extract (k * 4) (k * 4 + 4))) w := by
  subst hi
  have h := Tryz.underlying312
  have h1 := Tryz.sizeOf311
  have h2 := Tryz.isAgg311
  simp [Instr.index, run_underlying h, go_sem, Result.andThen, asIntOf, part, h1, h2]
  omega

/-- A row of classes, read. -/
theorem row_cells {w : World} {base : Nat} {v : Value} {L : List Nat} (h : w.ownsRow base 341 1 v L.length (L.map fv)) (hne : L ≠ []) : ∃ g cap, v = .slice (some ⟨g, 0, none⟩) L.length cap ∧ L.length ≤ cap ∧ g < w.heap.size ∧ Hid (∀ i f, L[i]? = some f → w.cell? ⟨g, i, none⟩ = some (fv f)) := by
  have h0 := h
  rcases h.2 with ⟨rfl, h1⟩ | ⟨g, cap, cur, rfl, hb, hh, h1, h2, _⟩
  · exact absurd (List.eq_nil_of_length_eq_zero h1) hne
  · refine ⟨g, cap, rfl, h1, (Array.getElem?_eq_some_iff.1 hh).1, fun i f hf => ?_⟩
    have hi := (List.getElem?_eq_some_iff.1 hf).1
    have := h0.cellAt i (by omega)
    rw [this, List.getElem?_map, hf]
    rfl

theorem eqIn_f (d : Nat) (w : World) : (Op.equalIn (d + 1) 309 .nilFunc .nilFunc).run Tryz.prog w = .ok true w := by
  simp [Op.equalIn, run_underlying Tryz.underlying309]
theorem eqIn_f2 (d : Nat) (f : Fn) (w : World) : (Op.equalIn (d + 1) 309 (.func f #[] #[]) .nilFunc).run Tryz.prog w = .ok false w := by
  simp [Op.equalIn, run_underlying Tryz.underlying309]
theorem neq_f (w : World) : (binOp .neq 309 .nilFunc .nilFunc).run Tryz.prog w = .ok (.bool false) w := by
  simp only [binOp]
  simp [show Op.equal 309 .nilFunc .nilFunc = Op.equalIn (9999 + 1) 309 .nilFunc .nilFunc from rfl, eqIn_f]
theorem neq_f2 (f : Fn) (w : World) : (binOp .neq 309 (.func f #[] #[]) .nilFunc).run Tryz.prog w = .ok (.bool true) w := by
  simp only [binOp]
  simp [show Op.equal 309 (.func f #[] #[]) .nilFunc = Op.equalIn (9999 + 1) 309 (.func f #[] #[]) .nilFunc from rfl, eqIn_f2]

theorem HBa (w : World) (o : Obj) : Below w.heap.size w (w.alloc o) := (Below.refl _ _).alloc (Nat.le_refl _) o

set_option maxRecDepth 10000 in
set_option maxHeartbeats 1000000 in
theorem check1_calls (s : ByteArray) (w : World) (hs : s.size ≤ 9223372036854775807) :
    Calls Tryz.prog 174 #[.int .i64 1, .string s] w fun e w' => ∃ a e', e = .returned (.tuple #[.int .i64 a, .int .i64 e']) ∧ Hid (e' = 0 ↔ Pfx (clsL (spans 1)) 4 s) ∧ Below w.heap.size w w' := by
  have HS := Lib.hid hs
  have hq1 := neq_f
  have hq2 := neq_f2
  have hix := fun b0 b1 b2 b3 w => idx_kind #[.int .i64 12, .slice (some ⟨b0, 0, none⟩) 3 3, .int .i64 11, .func (.func 252) #[] #[], .int .i64 4, .slice (some ⟨b1, 0, none⟩) 2 2, .int .i64 0, .nilFunc, .int .i64 1, .slice (some ⟨b2, 0, none⟩) 1 1, .int .i64 0, .nilFunc, .int .i64 20, .slice (some ⟨b3, 0, none⟩) 2 2, .int .i64 18, .func (.func 254) #[] #[]] 1 1 rfl (by decide) rfl w
  simp only [show ∀ b0 b1 b2 b3 : Nat, (#[.int .i64 12, .slice (some ⟨b0, 0, none⟩) 3 3, .int .i64 11, .func (.func 252) #[] #[], .int .i64 4, .slice (some ⟨b1, 0, none⟩) 2 2, .int .i64 0, .nilFunc, .int .i64 1, .slice (some ⟨b2, 0, none⟩) 1 1, .int .i64 0, .nilFunc, .int .i64 20, .slice (some ⟨b3, 0, none⟩) 2 2, .int .i64 18, .func (.func 254) #[] #[]] : Array Value).extract (1 * 4) (1 * 4 + 4) = #[.int .i64 4, .slice (some ⟨b1, 0, none⟩) 2 2, .int .i64 0, .nilFunc] from fun _ _ _ _ => rfl] at hix
  clear hs
  go_enter Tryz.func174, Tryz.ntmps174
  go_wp2_with (first
    | (go_at_call 218; refine (kinds_calls _).mono ?_; rintro e w1 ⟨b0, b1, b2, b3, rfl, k0, k1, k2, k3, HB1⟩))
  have K : Below (w1.heap.size + 1) (w1.alloc (.cells #[.int .i64 4, .slice (some ⟨b1, 0, none⟩) 2 2, .int .i64 0, .nilFunc] 311)) (w1.alloc (.cells #[.int .i64 4, .slice (some ⟨b1, 0, none⟩) 2 2, .int .i64 0, .nilFunc] 311)) := Below.refl _ _
  have FS : Hid (∀ W, Below (w1.heap.size + 1) (w1.alloc (.cells #[.int .i64 4, .slice (some ⟨b1, 0, none⟩) 2 2, .int .i64 0, .nilFunc] 311)) W → W.cell? ⟨w1.heap.size, 0, none⟩ = some (.int .i64 4) ∧ W.cell? ⟨w1.heap.size, 1, none⟩ = some (.slice (some ⟨b1, 0, none⟩) 2 2) ∧ W.cell? ⟨w1.heap.size, 2, none⟩ = some (.int .i64 0) ∧ W.cell? ⟨w1.heap.size, 3, none⟩ = some .nilFunc) := fun W hW => ⟨box_cell hW 0, box_cell hW 1, box_cell hW 2, box_cell hW 3⟩
  have s1 := FS.out _ K
  have hkb : Hid (∀ W, Below (w1.heap.size + 1) (w1.alloc (.cells #[.int .i64 4, .slice (some ⟨b1, 0, none⟩) 2 2, .int .i64 0, .nilFunc] 311)) W → W.heap[b1]? = some (.cells (spCells (spans 1)).toArray 343)) := fun W hW => by
    have hlt : b1 < w1.heap.size := (Array.getElem?_eq_some_iff.1 k1).1
    rw [hW.block b1 (by omega), Below.heap_alloc _ _ _ hlt]
    exact k1
  have HB1' := Lib.hid HB1
  clear k0 k1 k2 k3 HB1
  go_region_held3 (fun w' => w'.cell? ⟨w1.heap.size, 0, none⟩ = some (.int .i64 4) ∧ w'.cell? ⟨w1.heap.size, 1, none⟩ = some (.slice (some ⟨b1, 0, none⟩) 2 2) ∧ w'.cell? ⟨w1.heap.size, 2, none⟩ = some (.int .i64 0) ∧ w'.cell? ⟨w1.heap.size, 3, none⟩ = some .nilFunc) (first | go_keep)
    (first
      | (go_at_call 220; refine (classes_calls 4 0 .nilFunc rfl b1 (spans 1) _ (hkb.out _ K.drew) (spans_small 1).1 (spans_small 1).2.1).mono ?_; rintro e w2 ⟨v2, rfl, hown2, HB2⟩; have K2 := below_over K.drew HB2 (by simp); have s2 := FS.out _ K2; obtain ⟨g2, cap2, rfl, hcap2, hg2, HC2⟩ := row_cells hown2 (by decide))
      | (go_at_call 219; refine (prefix_calls g2 cap2 4 (clsL (spans 1)) s _ HC2.out (spans_small 1).2.2.2 (by decide) hcap2 (by decide) HS.out).mono ?_; rintro e w' ⟨a, e', rfl, HE, rfl⟩))
  have HBF := HB1'.out.trans (K2.mono (Nat.le_succ _) |> fun h => (HBa w1 _).trans h |>.mono HB1'.out.size)
  clear K K2 HB2 hown2
  by_cases he : e' = 0
  · subst he
    have HP : Hid (Pfx (clsL (spans 1)) 4 s) := HE.out.1 rfl
    go_wp2
    go_quiet (fail)
    go_wp2
    go_ret2
    exact ⟨_, _, rfl, ⟨fun _ => HP.out, fun _ => rfl⟩, pw_below_drewN' HBF _⟩
  · have he1 : (e' == 0) = false := by simpa using he
    go_wp2
    go_ret2
    exact ⟨_, _, rfl, HE, HBF⟩
set_option maxRecDepth 10000 in
set_option maxHeartbeats 1000000 in
theorem check2_calls (s : ByteArray) (w : World) (hs : s.size ≤ 9223372036854775807) :
    Calls Tryz.prog 174 #[.int .i64 2, .string s] w fun e w' => ∃ a e', e = .returned (.tuple #[.int .i64 a, .int .i64 e']) ∧ Hid (e' = 0 ↔ Pfx (clsL (spans 2)) 1 s) ∧ Below w.heap.size w w' := by
  have HS := Lib.hid hs
  have hq1 := neq_f
  have hq2 := neq_f2
  have hix := fun b0 b1 b2 b3 w => idx_kind #[.int .i64 12, .slice (some ⟨b0, 0, none⟩) 3 3, .int .i64 11, .func (.func 252) #[] #[], .int .i64 4, .slice (some ⟨b1, 0, none⟩) 2 2, .int .i64 0, .nilFunc, .int .i64 1, .slice (some ⟨b2, 0, none⟩) 1 1, .int .i64 0, .nilFunc, .int .i64 20, .slice (some ⟨b3, 0, none⟩) 2 2, .int .i64 18, .func (.func 254) #[] #[]] 2 2 rfl (by decide) rfl w
  simp only [show ∀ b0 b1 b2 b3 : Nat, (#[.int .i64 12, .slice (some ⟨b0, 0, none⟩) 3 3, .int .i64 11, .func (.func 252) #[] #[], .int .i64 4, .slice (some ⟨b1, 0, none⟩) 2 2, .int .i64 0, .nilFunc, .int .i64 1, .slice (some ⟨b2, 0, none⟩) 1 1, .int .i64 0, .nilFunc, .int .i64 20, .slice (some ⟨b3, 0, none⟩) 2 2, .int .i64 18, .func (.func 254) #[] #[]] : Array Value).extract (2 * 4) (2 * 4 + 4) = #[.int .i64 1, .slice (some ⟨b2, 0, none⟩) 1 1, .int .i64 0, .nilFunc] from fun _ _ _ _ => rfl] at hix
  clear hs
  go_enter Tryz.func174, Tryz.ntmps174
  go_wp2_with (first
    | (go_at_call 218; refine (kinds_calls _).mono ?_; rintro e w1 ⟨b0, b1, b2, b3, rfl, k0, k1, k2, k3, HB1⟩))
  have K : Below (w1.heap.size + 1) (w1.alloc (.cells #[.int .i64 1, .slice (some ⟨b2, 0, none⟩) 1 1, .int .i64 0, .nilFunc] 311)) (w1.alloc (.cells #[.int .i64 1, .slice (some ⟨b2, 0, none⟩) 1 1, .int .i64 0, .nilFunc] 311)) := Below.refl _ _
  have FS : Hid (∀ W, Below (w1.heap.size + 1) (w1.alloc (.cells #[.int .i64 1, .slice (some ⟨b2, 0, none⟩) 1 1, .int .i64 0, .nilFunc] 311)) W → W.cell? ⟨w1.heap.size, 0, none⟩ = some (.int .i64 1) ∧ W.cell? ⟨w1.heap.size, 1, none⟩ = some (.slice (some ⟨b2, 0, none⟩) 1 1) ∧ W.cell? ⟨w1.heap.size, 2, none⟩ = some (.int .i64 0) ∧ W.cell? ⟨w1.heap.size, 3, none⟩ = some (.nilFunc)) := fun W hW => ⟨box_cell hW 0, box_cell hW 1, box_cell hW 2, box_cell hW 3⟩
  have s1 := FS.out _ K
  have hkb : Hid (∀ W, Below (w1.heap.size + 1) (w1.alloc (.cells #[.int .i64 1, .slice (some ⟨b2, 0, none⟩) 1 1, .int .i64 0, .nilFunc] 311)) W → W.heap[b2]? = some (.cells (spCells (spans 2)).toArray 343)) := fun W hW => by
    have hlt : b2 < w1.heap.size := (Array.getElem?_eq_some_iff.1 k2).1
    rw [hW.block b2 (by omega), Below.heap_alloc _ _ _ hlt]
    exact k2
  have HB1' := Lib.hid HB1
  clear k0 k1 k2 k3 HB1
  go_region_held3 (fun w' => w'.cell? ⟨w1.heap.size, 0, none⟩ = some (.int .i64 1) ∧ w'.cell? ⟨w1.heap.size, 1, none⟩ = some (.slice (some ⟨b2, 0, none⟩) 1 1) ∧ w'.cell? ⟨w1.heap.size, 2, none⟩ = some (.int .i64 0) ∧ w'.cell? ⟨w1.heap.size, 3, none⟩ = some (.nilFunc)) (first | go_keep)
    (first
      | (go_at_call 220; refine (classes_calls 1 0 (.nilFunc) rfl b2 (spans 2) _ (hkb.out _ K.drew) (spans_small 2).1 (spans_small 2).2.1).mono ?_; rintro e w2 ⟨v2, rfl, hown2, HB2⟩; have K2 := below_over K.drew HB2 (by simp); have s2 := FS.out _ K2; obtain ⟨g2, cap2, rfl, hcap2, hg2, HC2⟩ := row_cells hown2 (by decide))
      | (go_at_call 219; refine (prefix_calls g2 cap2 1 (clsL (spans 2)) s _ HC2.out (spans_small 2).2.2.2 (by decide) hcap2 (by decide) HS.out).mono ?_; rintro e w' ⟨a, e', rfl, HE, rfl⟩))
  have HBF := HB1'.out.trans (K2.mono (Nat.le_succ _) |> fun h => (HBa w1 _).trans h |>.mono HB1'.out.size)
  clear K K2 HB2 hown2
  by_cases he : e' = 0
  · subst he
    have HP : Hid (Pfx (clsL (spans 2)) 1 s) := HE.out.1 rfl
    go_wp2
    go_quiet (fail)
    go_wp2
    go_ret2
    exact ⟨_, _, rfl, ⟨fun _ => HP.out, fun _ => rfl⟩, pw_below_drewN' HBF _⟩
  · have he1 : (e' == 0) = false := by simpa using he
    go_wp2
    go_ret2
    exact ⟨_, _, rfl, HE, HBF⟩
end Go.Proofs.YtmbhkfclpkopiaaGreatDoor
