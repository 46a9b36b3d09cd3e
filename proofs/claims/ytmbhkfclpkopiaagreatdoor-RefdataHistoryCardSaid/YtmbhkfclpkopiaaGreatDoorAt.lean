/- The series' search: the closure at$1; how an entry's cells lie. For each of the four kinds. -/
import Derived.Test.YtmbhkfclpkopiaaGreatDoorCmp
import Derived.Test.YtmbhkfclpkopiaaGreatDoorTab
namespace Go.Proofs.YtmbhkfclpkopiaaGreatDoor
open Go.RowKit
set_option linter.unusedVariables false
set_option linter.unusedSimpArgs false

def encM (v : MV) : List Value := [.string v.code, .string v.lei, .bool v.active]
def zencM : List Value := [.string ⟨#[]⟩, .string ⟨#[]⟩, .bool false]
def encS (v : SV) : List Value := [.string v.isin, .string v.issuer, .int .i64 v.lot, .bool v.active]
def zencS : List Value := [.string ⟨#[]⟩, .string ⟨#[]⟩, .int .i64 0, .bool false]
def encP (v : Int) : List Value := [.int .i64 v]
def zencP : List Value := [.int .i64 0]
def encF (v : FV) : List Value := [.int .i64 v.num, .int .i64 v.den]
def zencF : List Value := [.int .i64 0, .int .i64 0]
theorem cells_M {w : World} {b n cap : Nat} {s : List (Int × MV)} (h : SerAt 162 4 encM w (.slice (some ⟨b, 0, none⟩) n cap) s) {i : Nat} {x : Int × MV} (hi : s[i]? = some x) :
    w.cell? ⟨b, i * 4, none⟩ = some (.int .i64 x.1) ∧ w.cell? ⟨b, i * 4 + 1, none⟩ = some (.string x.2.code) ∧ w.cell? ⟨b, i * 4 + 2, none⟩ = some (.string x.2.lei) ∧ w.cell? ⟨b, i * 4 + 3, none⟩ = some (.bool x.2.active) := by
  have hf : ∀ x, (encE encM x).length = 4 := fun _ => rfl
  exact ⟨h.cell hf hi 0 (by omega) _ rfl, h.cell hf hi 1 (by omega) _ rfl, h.cell hf hi 2 (by omega) _ rfl, h.cell hf hi 3 (by omega) _ rfl⟩
theorem at1_M (d : Int) (v : MV) (day : Int) (w : World) : Calls Tryz.prog 126 #[.agg #[.int .i64 d, .string v.code, .string v.lei, .bool v.active], .int .i64 day] w fun e w' => e = .returned (.int .i64 (cmpI d day)) ∧ Below w.heap.size w w' := by
  go_enter Tryz.func126, Tryz.ntmps126
  go_wp2_with (go_at_call 127; refine (cmp_calls _ _ _).mono ?_; rintro e w' ⟨rfl, rfl⟩)
  go_ret
  exact ⟨rfl, (Below.refl _ _).alloc (Nat.le_refl _) _⟩

theorem cells_S {w : World} {b n cap : Nat} {s : List (Int × SV)} (h : SerAt 166 5 encS w (.slice (some ⟨b, 0, none⟩) n cap) s) {i : Nat} {x : Int × SV} (hi : s[i]? = some x) :
    w.cell? ⟨b, i * 5, none⟩ = some (.int .i64 x.1) ∧ w.cell? ⟨b, i * 5 + 1, none⟩ = some (.string x.2.isin) ∧ w.cell? ⟨b, i * 5 + 2, none⟩ = some (.string x.2.issuer) ∧ w.cell? ⟨b, i * 5 + 3, none⟩ = some (.int .i64 x.2.lot) ∧ w.cell? ⟨b, i * 5 + 4, none⟩ = some (.bool x.2.active) := by
  have hf : ∀ x, (encE encS x).length = 5 := fun _ => rfl
  exact ⟨h.cell hf hi 0 (by omega) _ rfl, h.cell hf hi 1 (by omega) _ rfl, h.cell hf hi 2 (by omega) _ rfl, h.cell hf hi 3 (by omega) _ rfl, h.cell hf hi 4 (by omega) _ rfl⟩
theorem at1_S (d : Int) (v : SV) (day : Int) (w : World) : Calls Tryz.prog 129 #[.agg #[.int .i64 d, .string v.isin, .string v.issuer, .int .i64 v.lot, .bool v.active], .int .i64 day] w fun e w' => e = .returned (.int .i64 (cmpI d day)) ∧ Below w.heap.size w w' := by
  go_enter Tryz.func129, Tryz.ntmps129
  go_wp2_with (go_at_call 127; refine (cmp_calls _ _ _).mono ?_; rintro e w' ⟨rfl, rfl⟩)
  go_ret
  exact ⟨rfl, (Below.refl _ _).alloc (Nat.le_refl _) _⟩

theorem cells_P {w : World} {b n cap : Nat} {s : List (Int × Int)} (h : SerAt 170 2 encP w (.slice (some ⟨b, 0, none⟩) n cap) s) {i : Nat} {x : Int × Int} (hi : s[i]? = some x) :
    w.cell? ⟨b, i * 2, none⟩ = some (.int .i64 x.1) ∧ w.cell? ⟨b, i * 2 + 1, none⟩ = some (.int .i64 x.2) := by
  have hf : ∀ x, (encE encP x).length = 2 := fun _ => rfl
  exact ⟨h.cell hf hi 0 (by omega) _ rfl, h.cell hf hi 1 (by omega) _ rfl⟩
theorem at1_P (d : Int) (v : Int) (day : Int) (w : World) : Calls Tryz.prog 131 #[.agg #[.int .i64 d, .int .i64 v], .int .i64 day] w fun e w' => e = .returned (.int .i64 (cmpI d day)) ∧ Below w.heap.size w w' := by
  go_enter Tryz.func131, Tryz.ntmps131
  go_wp2_with (go_at_call 127; refine (cmp_calls _ _ _).mono ?_; rintro e w' ⟨rfl, rfl⟩)
  go_ret
  exact ⟨rfl, (Below.refl _ _).alloc (Nat.le_refl _) _⟩

theorem cells_F {w : World} {b n cap : Nat} {s : List (Int × FV)} (h : SerAt 174 3 encF w (.slice (some ⟨b, 0, none⟩) n cap) s) {i : Nat} {x : Int × FV} (hi : s[i]? = some x) :
    w.cell? ⟨b, i * 3, none⟩ = some (.int .i64 x.1) ∧ w.cell? ⟨b, i * 3 + 1, none⟩ = some (.int .i64 x.2.num) ∧ w.cell? ⟨b, i * 3 + 2, none⟩ = some (.int .i64 x.2.den) := by
  have hf : ∀ x, (encE encF x).length = 3 := fun _ => rfl
  exact ⟨h.cell hf hi 0 (by omega) _ rfl, h.cell hf hi 1 (by omega) _ rfl, h.cell hf hi 2 (by omega) _ rfl⟩
theorem at1_F (d : Int) (v : FV) (day : Int) (w : World) : Calls Tryz.prog 133 #[.agg #[.int .i64 d, .int .i64 v.num, .int .i64 v.den], .int .i64 day] w fun e w' => e = .returned (.int .i64 (cmpI d day)) ∧ Below w.heap.size w w' := by
  go_enter Tryz.func133, Tryz.ntmps133
  go_wp2_with (go_at_call 127; refine (cmp_calls _ _ _).mono ?_; rintro e w' ⟨rfl, rfl⟩)
  go_ret
  exact ⟨rfl, (Below.refl _ _).alloc (Nat.le_refl _) _⟩

end Go.Proofs.YtmbhkfclpkopiaaGreatDoor
