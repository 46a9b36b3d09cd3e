/- ident: kinds, classes, prefix. -/
import Derived.Test.YtmbhkfclpkopiaaGreatDoorIdent3
import Derived.Laws.EntriesVeiled
namespace Go.Proofs.YtmbhkfclpkopiaaGreatDoor
open Go.RowKit
set_option linter.unusedVariables false
set_option linter.unusedSimpArgs false

/-- A kind's classes of characters: how many, and the function that tells. -/
def spans : Nat → List (Nat × Nat)
  | 0 => [(2, 249), (9, 250), (1, 251)]
  | 1 => [(1, 249), (7, 250)]
  | 2 => [(16, 253)]
  | _ => [(18, 250), (2, 251)]
def spCells (l : List (Nat × Nat)) : List Value := l.flatMap fun x => [.int .i64 x.1, .func (.func x.2) #[] #[]]
def kshort : Nat → Nat
  | 0 => 12
  | 1 => 4
  | 2 => 1
  | _ => 20
def kbody : Nat → Nat
  | 0 => 11
  | 1 => 0
  | 2 => 0
  | _ => 18
def kfun : Nat → Value
  | 0 => .func (.func 252) #[] #[]
  | 1 => .nilFunc
  | 2 => .nilFunc
  | _ => .func (.func 254) #[] #[]

def kindCells (k b : Nat) : List Value := [.int .i64 (kshort k), .slice (some ⟨b, 0, none⟩) (spans k).length (spans k).length, .int .i64 (kbody k), kfun k]

theorem heap_at (W : World) (o : Obj) (k : Nat) (h : k = W.heap.size) : (W.alloc o).heap[k]? = some o := by subst h; exact heap_alloc_new W o

set_option maxRecDepth 10000 in
set_option maxHeartbeats 1000000 in
theorem kinds_calls (w : World) : Calls Tryz.prog 218 #[] w fun e w' => ∃ b0 b1 b2 b3, e = .returned (.agg #[.int .i64 12, .slice (some ⟨b0, 0, none⟩) 3 3, .int .i64 11, .func (.func 252) #[] #[], .int .i64 4, .slice (some ⟨b1, 0, none⟩) 2 2, .int .i64 0, .nilFunc, .int .i64 1, .slice (some ⟨b2, 0, none⟩) 1 1, .int .i64 0, .nilFunc, .int .i64 20, .slice (some ⟨b3, 0, none⟩) 2 2, .int .i64 18, .func (.func 254) #[] #[]]) ∧
    w'.heap[b0]? = some (.cells (spCells (spans 0)).toArray 343) ∧ w'.heap[b1]? = some (.cells (spCells (spans 1)).toArray 343) ∧ w'.heap[b2]? = some (.cells (spCells (spans 2)).toArray 343) ∧ w'.heap[b3]? = some (.cells (spCells (spans 3)).toArray 343) ∧ Below w.heap.size w w' := by
  go_enter Tryz.func218, Tryz.ntmps218
  go_wp2
  refine bodyPost_ret (v := .agg #[.int .i64 12, .slice (some ⟨w.heap.size + 1, 0, none⟩) 3 3, .int .i64 11, .func (.func 252) #[] #[], .int .i64 4, .slice (some ⟨w.heap.size + 1 + 1, 0, none⟩) 2 2, .int .i64 0, .nilFunc, .int .i64 1, .slice (some ⟨w.heap.size + 1 + 1 + 1, 0, none⟩) 1 1, .int .i64 0, .nilFunc, .int .i64 20, .slice (some ⟨w.heap.size + 1 + 1 + 1 + 1, 0, none⟩) 2 2, .int .i64 18, .func (.func 254) #[] #[]]) (by simp [results, Tryz.results218, go_sem]) rfl ⟨_, _, _, _, rfl, ?_, ?_, ?_, ?_, ?_⟩
  · rw [Below.heap_alloc _ _ _ (by simp), Below.heap_alloc _ _ _ (by simp), Below.heap_alloc _ _ _ (by simp)]
    exact heap_at _ _ _ (by simp)
  · rw [Below.heap_alloc _ _ _ (by simp), Below.heap_alloc _ _ _ (by simp)]
    exact heap_at _ _ _ (by simp)
  · rw [Below.heap_alloc _ _ _ (by simp)]
    exact heap_at _ _ _ (by simp)
  · exact heap_at _ _ _ (by simp)
  · repeat (first | exact Below.refl _ _ | refine Below.alloc ?_ (by simp <;> omega) _)
end Go.Proofs.YtmbhkfclpkopiaaGreatDoor
