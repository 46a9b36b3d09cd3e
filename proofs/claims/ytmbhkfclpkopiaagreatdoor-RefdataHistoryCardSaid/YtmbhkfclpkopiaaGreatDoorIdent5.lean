/- ident: the classes of a kind, one for each position. -/
import Derived.Test.YtmbhkfclpkopiaaGreatDoorIdent4
import Derived.Deep.AppendLies
namespace Go.Proofs.YtmbhkfclpkopiaaGreatDoor
open Go.RowKit
set_option linter.unusedVariables false
set_option linter.unusedSimpArgs false

def fv (f : Nat) : Value := .func (.func f) #[] #[]
def clsL (l : List (Nat × Nat)) : List Nat := l.flatMap fun x => List.replicate x.1 x.2

theorem info_341 : (Tryz.prog.info? 341).map (fun i => (i.zero, i.size, i.bytes)) = some (some .nilFunc, 1, 8) := by kernel_rfl

theorem spCells_get {l : List (Nat × Nat)} {i : Nat} {x : Nat × Nat} (h : l[i]? = some x) : (spCells l)[i * 2]? = some (.int .i64 x.1) ∧ (spCells l)[i * 2 + 1]? = some (.func (.func x.2) #[] #[]) :=
  ⟨flatMap_get (f := fun x : Nat × Nat => [Value.int .i64 x.1, .func (.func x.2) #[] #[]]) (sz := 2) (fun _ => rfl) l i 0 x h (by omega), flatMap_get (f := fun x : Nat × Nat => [Value.int .i64 x.1, .func (.func x.2) #[] #[]]) (sz := 2) (fun _ => rfl) l i 1 x h (by omega)⟩

theorem clsL_len (l : List (Nat × Nat)) (h : ∀ x ∈ l, x.1 ≤ 20) : (clsL l).length ≤ 20 * l.length := by
  induction l with
  | nil => simp [clsL]
  | cons x l ih =>
    have h1 := h x (by simp)
    have h2 := ih (fun y hy => h y (by simp [hy]))
    simp only [clsL, List.flatMap_cons, List.length_append, List.length_replicate, List.length_cons] at h2 ⊢
    omega

theorem clsL_take {l : List (Nat × Nat)} {i : Nat} {x : Nat × Nat} (h : l[i]? = some x) : clsL (l.take (i + 1)) = clsL (l.take i) ++ List.replicate x.1 x.2 := by
  rw [List.take_add_one, h]; simp [clsL]

theorem ownBlock_lt {w : World} {base e size n : Nat} {v : Value} {xs : List Value} (h : w.ownsRow base e size v n xs) : v.ownBlock ≠ some w.heap.size := by
  intro e
  rcases h.2 with ⟨rfl, _⟩ | ⟨g, cap, cur, rfl, _, hh, _⟩
  · simp [Value.ownBlock] at e
  · simp [Value.ownBlock] at e
    have := (Array.getElem?_eq_some_iff.1 hh).1
    omega

theorem replicate_add_one {β : Type} (j : Nat) (x : β) : List.replicate (j + 1) x = List.replicate j x ++ [x] := List.replicate_succ'

theorem grow_base {w W W' : World} {B : Nat} {v : Value} {e size n : Nat} {xs : List Value} (h : Below B w W) (hB : B ≤ W.heap.size) (hown : W.ownsRow B e size v n xs) (hg : W.grownBy W' v.ownBlock) : Below B w W' := by
  refine h.grown hg hB fun k hk => ?_
  rcases hown.2 with ⟨rfl, _⟩ | ⟨g, cap, cur, rfl, hb, hh, _⟩
  · simp [Value.ownBlock] at hk
  · simp [Value.ownBlock] at hk; omega

theorem cell_far4 {w w4 : World} {o : Obj} {v u : Value} {b i : Nat} (hg : (w.alloc o).grownBy w4 v.ownBlock) (hc : w.cell? ⟨b, i, none⟩ = some u) (hne : v.ownBlock ≠ some b) : w4.cell? ⟨b, i, none⟩ = some u := by
  have hlt := World.block_lt_of_cell? w _ hc
  rw [← hc]
  unfold World.cell?
  rw [hg.block b (by simp; exact Nat.lt_succ_of_lt hlt) (fun e => hne e.symm), Below.heap_alloc _ _ _ hlt]

set_option maxRecDepth 10000 in
set_option maxHeartbeats 1000000 in
theorem classes_calls (sh body : Int) (fn : Value) (hfn : fn.oneCell' = true) (b : Nat) (l : List (Nat × Nat)) (w : World) (hb : w.heap[b]? = some (.cells (spCells l).toArray 343)) (hl : l.length ≤ 5) (hn : ∀ x ∈ l, x.1 ≤ 20) :
    Calls Tryz.prog 220 #[.agg #[.int .i64 sh, .slice (some ⟨b, 0, none⟩) l.length l.length, .int .i64 body, fn]] w fun e w' => ∃ v, e = .returned v ∧ w'.ownsRow w.heap.size 341 1 v (clsL l).length ((clsL l).map fv) ∧ Below w.heap.size w w' := by
  obtain ⟨i0, hi0, hz0, hz1, hz2⟩ := info_parts info_341
  have HB0 : Below w.heap.size w (w.alloc (.cells #[.int .i64 sh, .slice (some ⟨b, 0, none⟩) l.length l.length, .int .i64 body, fn] 311)) := (Below.refl _ _).alloc (Nat.le_refl _) _
  have hbl : b < w.heap.size := (Array.getElem?_eq_some_iff.1 hb).1
  have HCell : Hid (∀ (W : World) (i : Nat) (x : Nat × Nat), Below w.heap.size w W → l[i]? = some x → W.cell? ⟨b, i * 2, none⟩ = some (.int .i64 x.1) ∧ W.cell? ⟨b, i * 2 + 1, none⟩ = some (.func (.func x.2) #[] #[])) := by
    intro W i x hW hx
    obtain ⟨g1, g2⟩ := spCells_get hx
    have hh : W.heap[b]? = some (.cells (spCells l).toArray 343) := (hW.block b hbl).trans hb
    constructor
    · rw [cell_of_row W b _ _ _ _ hh]; simpa using g1
    · rw [cell_of_row W b _ _ _ _ hh]; simpa using g2
  have HN := Lib.hid hn
  clear hb hn
  go_enter Tryz.func220, Tryz.ntmps220
  go_wp2
  go_loopw [3, 9] (fun sv p wr => ∃ i : Nat, p = .int .i64 i ∧ i ≤ l.length ∧ wr.ownsRow w.heap.size 341 1 sv (clsL (l.take i)).length ((clsL (l.take i)).map fv) ∧ Below w.heap.size w wr ∧ w.heap.size + 1 ≤ wr.heap.size) (fun sv p wr => l.length - (intOf p).toNat)
  case atStart => exact ⟨0, rfl, by omega, World.ownsRow_nil _ _ _ _, HB0, by simp⟩
  case round =>
    obtain ⟨i, rfl, hi, hown, HB, hw⟩ := hrel
    by_cases hlt : i < l.length
    · obtain ⟨⟨n, f⟩, hx⟩ : ∃ x, l[i]? = some x := ⟨_, List.getElem?_eq_getElem hlt⟩
      obtain ⟨c1, c2⟩ := HCell.out wr i (n, f) HB hx
      have hn20 := HN.out (n, f) (List.mem_of_getElem? hx)
      simp only at c1 c2 hn20
      have HTK := Lib.hid (clsL_take hx)
      clear hx
      have hclen : (clsL (l.take i)).length ≤ 100 := by
        have h1 := clsL_len (l.take i) (fun x hx => HN.out x (List.mem_of_mem_take hx))
        have h2 : (l.take i).length ≤ l.length := by rw [List.length_take]; omega
        omega
      have hown' := hown.alloc (.cells #[.int .i64 n, .func (.func f) #[] #[]] 343)
      have HBa : Below w.heap.size w (wr.alloc (.cells #[.int .i64 n, .func (.func f) #[] #[]] 343)) := HB.alloc (by omega) _
      have hne := ownBlock_lt hown
      have hcf : (wr.alloc (.cells #[.int .i64 n, .func (.func f) #[] #[]] 343)).cell? ⟨wr.heap.size, 1, none⟩ = some (.func (.func f) #[] #[]) := box_cell (w := wr) (Below.refl _ _) 1
      go_wp2
      go_loopw [3, 15] (fun sv p wi => ∃ j : Nat, p = .int .i64 j ∧ j ≤ n ∧ wi.ownsRow w.heap.size 341 1 sv ((clsL (l.take i)).length + j) ((clsL (l.take i)).map fv ++ List.replicate j (fv f)) ∧ Below w.heap.size w wi ∧ wi.cell? ⟨wr.heap.size, 1, none⟩ = some (.func (.func f) #[] #[]) ∧ wr.heap.size + 1 ≤ wi.heap.size ∧ sv.ownBlock ≠ some wr.heap.size) (fun sv p wi => n - (intOf p).toNat)
      case atStart => exact ⟨0, rfl, by omega, by simpa using hown', HBa, hcf, by simp, hne⟩
      case round =>
        obtain ⟨j, rfl, hj, hown2, HB2, hc2, hw2, hne2⟩ := hrel
        by_cases hjn : j < n
        · have hnews := World.news_of_block (heap_alloc_new wr (.cells #[.func (.func f) #[] #[]] 341))
          have hadd : 0 + 1 = 1 := rfl
          go_wp2_with (first | (at_builtin; go_loud (refine wpList_append_lies _ rfl _ _ 315 rfl w.heap.size 341 i0 .nilFunc 1 8 Tryz.underlying315 hi0 hz0 hz1 hz2 rfl (by decide) _ _ _ rfl (hown2.alloc _) ⟨_, 0, none⟩ 1 1 [.func (.func f) #[] #[]] rfl rfl hnews (by simp [Value.oneCell']) (by omega) (by unfold maxLen; omega) (by omega) (by simp; omega) _ rfl ?_)))
          intro g cap w4 hown4 hgrow4 hat hlt4
          have HB3 : Below w.heap.size w (wr.alloc (.cells #[.func (.func f) #[] #[]] 341)) := HB2.alloc (by omega) _
          have HB4 := grow_base HB3 (by simp; omega) (hown2.alloc _) hgrow4
          have hc4 := (cell_far4 hgrow4 hc2 hne2)
          have hw4 : wr.heap.size < w4.heap.size := by have := hgrow4.size; simp at this; omega
          go_wp2
          refine ⟨⟨j + 1, rfl, by omega, ?_, HB4, hc4, by omega, ?_⟩, by simp [intOf]; omega⟩
          · rw [replicate_add_one]
            exact hown4
          · intro e
            simp only [Value.ownBlock, Option.some.injEq] at e
            subst e
            rcases hat with hat | hat
            · exact hne2 hat
            · omega
        · obtain rfl : j = n := by omega
          have HF : Hid (((clsL (l.take (i + 1))).length = (clsL (l.take i)).length + j) ∧ (clsL (l.take (i + 1))).map fv = (clsL (l.take i)).map fv ++ List.replicate j (fv f)) := by
            have e := HTK.out
            refine ⟨?_, ?_⟩
            · rw [e]; simp
            · rw [e]; simp
          clear hjn
          go_wp2
          refine ⟨⟨i + 1, rfl, by omega, ?_, HB2, by omega⟩, by simp [intOf]; omega⟩
          rw [HF.out.1, HF.out.2]
          exact hown2
    · obtain rfl : i = l.length := by omega
      clear hlt
      have HT : Hid (l.take l.length = l) := List.take_length
      rw [HT.out] at hown
      go_wp2
      go_ret
      exact ⟨_, rfl, hown, HB⟩
end Go.Proofs.YtmbhkfclpkopiaaGreatDoor
