/- New, maps.Clone, Table.Clone. -/
import Derived.Test.YtmbhkfclpkopiaaGreatDoorTaken
import Derived.Laws.Externs
import Derived.Deep.RegionHeld3
namespace Go.Proofs.YtmbhkfclpkopiaaGreatDoor
open Go.RowKit Go.MapKept
set_option linter.unusedVariables false
set_option linter.unusedSimpArgs false

section
variable {P : Program} (w : World)
theorem equalIn_map_nil (d : Nat) (t k e : TypeId) (p : Option Nat) (h : P.underlying t = some (.map k e)) : (Op.equalIn (d + 1) t (.map p) (.map none)).run P w = .ok p.isNone w := by
  cases p <;> simp [Op.equalIn, run_underlying h]
theorem eql_map_nil (t k e : TypeId) (p : Option Nat) (h : P.underlying t = some (.map k e)) : (binOp .eql t (.map p) (.map none)).run P w = .ok (.bool p.isNone) w := by
  simp only [binOp]
  simp [show Op.equal t (.map p) (.map none) = Op.equalIn (9999 + 1) t (.map p) (.map none) from rfl, equalIn_map_nil w 9999 t k e p h]

theorem typeAssert_map (t xT k e : TypeId) (v : Value) (h : P.underlying t = some (.map k e)) : (Instr.typeAssert (.iface t v) xT t false).run P w = .ok v w := by
  simp [Instr.typeAssert, run_underlying h, go_sem, Result.andThen]

theorem maps_clone_run {r : Nat} {es : Array MapEntry} {clock : Nat} (t : TypeId) (hb : w.heap[r]? = some (.map es clock)) :
    (Extern.MapsClone.clone #[.iface t (.map (some r))]).run P w = .ok (.iface t (.map (some w.heap.size))) (w.alloc (.map es clock)) := by
  have e : Extern.MapsClone.clone #[.iface t (.map (some r))] = (getObj r >>= fun o => match o with
      | .map entries clock => (newObj (.map entries clock) >>= fun n => pure (.iface t (.map (some n))))
      | _ => stuck "maps.clone: a map expected") := rfl
  rw [e]
  simp [MapKept.run_getObj_map hb, Result.andThen, go_sem]
end

theorem makeMap_run (w : World) (t : TypeId) : (Instr.makeMap t none).run Tryz.prog w = .ok (.map (some w.heap.size)) (w.alloc (.map #[] 0)) := by
  simp [Instr.makeMap, go_sem, Result.andThen]

/-- A table's blocks all lie from B on. -/
structure TB.From (B : Nat) (T : TB) : Prop where
  p : B ≤ T.p
  m0 : B ≤ T.m0
  m1 : B ≤ T.m1
  m2 : B ≤ T.m2
  m3 : B ≤ T.m3

theorem TabAt.make {W : World} {b0 b1 b2 b3 : Nat} {t : Tab} (h0 : MapAt RM W b0 t.mem) (h1 : MapAt RS W b1 t.sec) (h2 : MapAt RP W b2 t.pri) (h3 : MapAt RF W b3 t.hc) (l0 : b0 < b1) (l1 : b1 < b2) (l2 : b2 < b3) :
    TabAt (W.alloc (.cells #[.map (some b0), .map (some b1), .map (some b2), .map (some b3)] 148)) ⟨W.heap.size, b0, b1, b2, b3⟩ t := by
  have b := (Below.refl W.heap.size W).alloc (Nat.le_refl _) (.cells #[.map (some b0), .map (some b1), .map (some b2), .map (some b3)] 148)
  exact ⟨heap_alloc_new W _, h0.below b, h1.below b, h2.below b, h3.below b, Nat.ne_of_lt l0, Nat.ne_of_lt (Nat.lt_trans l0 l1), Nat.ne_of_lt (Nat.lt_trans l0 (Nat.lt_trans l1 l2)), Nat.ne_of_lt l1, Nat.ne_of_lt (Nat.lt_trans l1 l2), Nat.ne_of_lt l2⟩

/-- A world with blocks laid on top. -/
def w4 (w : World) (o0 o1 o2 o3 : Obj) : World := (((w.alloc o0).alloc o1).alloc o2).alloc o3

theorem TabAt.make4 {w : World} {o0 o1 o2 o3 : Obj} {t : Tab} (h0 : MapAt RM (w.alloc o0) w.heap.size t.mem) (h1 : MapAt RS ((w.alloc o0).alloc o1) (w.alloc o0).heap.size t.sec) (h2 : MapAt RP (((w.alloc o0).alloc o1).alloc o2) ((w.alloc o0).alloc o1).heap.size t.pri) (h3 : MapAt RF ((((w.alloc o0).alloc o1).alloc o2).alloc o3) (((w.alloc o0).alloc o1).alloc o2).heap.size t.hc) :
    ∃ T : TB, T.p = w.heap.size + 1 + 1 + 1 + 1 ∧ TabAt (((((w.alloc o0).alloc o1).alloc o2).alloc o3).alloc (.cells #[.map (some w.heap.size), .map (some (w.heap.size + 1)), .map (some (w.heap.size + 1 + 1)), .map (some (w.heap.size + 1 + 1 + 1))] 148)) T t ∧ T.From w.heap.size ∧ Below w.heap.size w (((((w.alloc o0).alloc o1).alloc o2).alloc o3).alloc (.cells #[.map (some w.heap.size), .map (some (w.heap.size + 1)), .map (some (w.heap.size + 1 + 1)), .map (some (w.heap.size + 1 + 1 + 1))] 148)) := by
  have b := fun (W : World) o => (Below.refl W.heap.size W).alloc (Nat.le_refl _) o
  have e1 : (w.alloc o0).heap.size = w.heap.size + 1 := by simp
  have e2 : ((w.alloc o0).alloc o1).heap.size = w.heap.size + 1 + 1 := by simp
  have e3 : (((w.alloc o0).alloc o1).alloc o2).heap.size = w.heap.size + 1 + 1 + 1 := by simp
  have e4 : ((((w.alloc o0).alloc o1).alloc o2).alloc o3).heap.size = w.heap.size + 1 + 1 + 1 + 1 := by simp
  rw [e1] at h1
  rw [e2] at h2
  rw [e3] at h3
  have := TabAt.make (((h0.below (b _ o1)).below (b _ o2)).below (b _ o3)) ((h1.below (b _ o2)).below (b _ o3)) (h2.below (b _ o3)) h3 (by omega) (by omega) (by omega)
  refine ⟨_, e4, this, ?_, ?_⟩
  · constructor <;> simp only [e4] <;> omega
  · exact (((((Below.refl _ w).alloc (by omega) _).alloc (by omega) _).alloc (by omega) _).alloc (by omega) _).alloc (by omega) _

theorem new_calls (w : World) : Calls Tryz.prog 64 #[] w fun e w' => ∃ T, e = .returned (.pointer (some ⟨T.p, 0, none⟩)) ∧ TabAt w' T Tab.empty ∧ T.From w.heap.size ∧ Below w.heap.size w w' := by
  obtain ⟨T, h1, h2, h3, h4⟩ := TabAt.make4 (t := Tab.empty) (MapAt.made RM w) (MapAt.made RS (w.alloc (.map #[] 0))) (MapAt.made RP ((w.alloc (.map #[] 0)).alloc (.map #[] 0))) (MapAt.made RF (((w.alloc (.map #[] 0)).alloc (.map #[] 0)).alloc (.map #[] 0)))
  have h1' := Lib.hid h1
  have hmm := makeMap_run
  clear h1
  go_enter Tryz.func64, Tryz.ntmps64
  go_wp2
  go_ret
  exact ⟨T, by rw [h1'.out]; rfl, h2, h3, h4⟩

set_option maxRecDepth 8000 in
theorem mclone_M (b : Nat) (es : Array MapEntry) (clock : Nat) (w : World) (hb : w.heap[b]? = some (.map es clock)) :
    Calls Tryz.prog 66 #[.map (some b)] w fun e w' => e = .returned (.map (some w.heap.size)) ∧ w' = w.alloc (.map es clock) := by
  have hq := fun w => eql_map_nil (P := Tryz.prog) w 137 9 140 (some b) Tryz.underlying137
  go_enter Tryz.func66, Tryz.ntmps66
  go_wp2
  rw [run_callFunc_extern (P := Tryz.prog) Tryz.func116 (by kernel_rfl) (by kernel_rfl) (by kernel_rfl) (e := Extern.MapsClone.clone) (by kernel_rfl), maps_clone_run w 137 hb]
  simp only [Result.andThen]
  rw [Oper.upon_value]
  go_wp2
  rw [typeAssert_map _ 137 20 _ _ _ Tryz.underlying137]
  simp only [Result.andThen]
  rw [Oper.upon_value]
  go_wp2
  go_ret
  exact ⟨rfl, rfl⟩
set_option maxRecDepth 8000 in
theorem mclone_S (b : Nat) (es : Array MapEntry) (clock : Nat) (w : World) (hb : w.heap[b]? = some (.map es clock)) :
    Calls Tryz.prog 67 #[.map (some b)] w fun e w' => e = .returned (.map (some w.heap.size)) ∧ w' = w.alloc (.map es clock) := by
  have hq := fun w => eql_map_nil (P := Tryz.prog) w 142 9 151 (some b) Tryz.underlying142
  go_enter Tryz.func67, Tryz.ntmps67
  go_wp2
  rw [run_callFunc_extern (P := Tryz.prog) Tryz.func116 (by kernel_rfl) (by kernel_rfl) (by kernel_rfl) (e := Extern.MapsClone.clone) (by kernel_rfl), maps_clone_run w 142 hb]
  simp only [Result.andThen]
  rw [Oper.upon_value]
  go_wp2
  rw [typeAssert_map _ 142 20 _ _ _ Tryz.underlying142]
  simp only [Result.andThen]
  rw [Oper.upon_value]
  go_wp2
  go_ret
  exact ⟨rfl, rfl⟩
set_option maxRecDepth 8000 in
theorem mclone_P (b : Nat) (es : Array MapEntry) (clock : Nat) (w : World) (hb : w.heap[b]? = some (.map es clock)) :
    Calls Tryz.prog 68 #[.map (some b)] w fun e w' => e = .returned (.map (some w.heap.size)) ∧ w' = w.alloc (.map es clock) := by
  have hq := fun w => eql_map_nil (P := Tryz.prog) w 144 9 154 (some b) Tryz.underlying144
  go_enter Tryz.func68, Tryz.ntmps68
  go_wp2
  rw [run_callFunc_extern (P := Tryz.prog) Tryz.func116 (by kernel_rfl) (by kernel_rfl) (by kernel_rfl) (e := Extern.MapsClone.clone) (by kernel_rfl), maps_clone_run w 144 hb]
  simp only [Result.andThen]
  rw [Oper.upon_value]
  go_wp2
  rw [typeAssert_map _ 144 20 _ _ _ Tryz.underlying144]
  simp only [Result.andThen]
  rw [Oper.upon_value]
  go_wp2
  go_ret
  exact ⟨rfl, rfl⟩
set_option maxRecDepth 8000 in
theorem mclone_F (b : Nat) (es : Array MapEntry) (clock : Nat) (w : World) (hb : w.heap[b]? = some (.map es clock)) :
    Calls Tryz.prog 69 #[.map (some b)] w fun e w' => e = .returned (.map (some w.heap.size)) ∧ w' = w.alloc (.map es clock) := by
  have hq := fun w => eql_map_nil (P := Tryz.prog) w 146 9 157 (some b) Tryz.underlying146
  go_enter Tryz.func69, Tryz.ntmps69
  go_wp2
  rw [run_callFunc_extern (P := Tryz.prog) Tryz.func116 (by kernel_rfl) (by kernel_rfl) (by kernel_rfl) (e := Extern.MapsClone.clone) (by kernel_rfl), maps_clone_run w 146 hb]
  simp only [Result.andThen]
  rw [Oper.upon_value]
  go_wp2
  rw [typeAssert_map _ 146 20 _ _ _ Tryz.underlying146]
  simp only [Result.andThen]
  rw [Oper.upon_value]
  go_wp2
  go_ret
  exact ⟨rfl, rfl⟩

set_option maxHeartbeats 1000000 in
theorem clone_calls (T : TB) (t : Tab) (w : World) (h : TabAt w T t) : Calls Tryz.prog 23 #[.pointer (some ⟨T.p, 0, none⟩)] w fun e w' => ∃ T', e = .returned (.pointer (some ⟨T'.p, 0, none⟩)) ∧ TabAt w' T' t ∧ T'.From w.heap.size ∧ Below w.heap.size w w' := by
  obtain ⟨q0, q1, q2, q3⟩ := h.cells
  obtain ⟨h0, h1, h2, h3⟩ := And.intro h.mem (And.intro h.sec (And.intro h.pri h.hc))
  obtain ⟨⟨es0, c0, k0, _⟩, ⟨es1, c1, k1, _⟩, ⟨es2, c2, k2, _⟩, ⟨es3, c3, k3, _⟩⟩ := And.intro h0 (And.intro h1 (And.intro h2 h3))
  have b := fun (W : World) o => (Below.refl W.heap.size W).alloc (Nat.le_refl _) o
  have g1 := h1.below (b _ (.map es0 c0))
  have g2 := (h2.below (b _ (.map es0 c0))).below (b _ (.map es1 c1))
  have g3 := ((h3.below (b _ (.map es0 c0))).below (b _ (.map es1 c1))).below (b _ (.map es2 c2))
  have l1 : (w.alloc (.map es0 c0)).heap[T.m1]? = some (.map es1 c1) := by rw [(b _ _).block _ h1.lt]; exact k1
  have l2 : ((w.alloc (.map es0 c0)).alloc (.map es1 c1)).heap[T.m2]? = some (.map es2 c2) := by rw [(b _ _).block _ (h2.below (b _ _)).lt, (b _ _).block _ h2.lt]; exact k2
  have l3 : (((w.alloc (.map es0 c0)).alloc (.map es1 c1)).alloc (.map es2 c2)).heap[T.m3]? = some (.map es3 c3) := by rw [(b _ _).block _ ((h3.below (b _ _)).below (b _ _)).lt, (b _ _).block _ (h3.below (b _ _)).lt, (b _ _).block _ h3.lt]; exact k3
  obtain ⟨T', r1, r2, r3, r4⟩ := TabAt.make4 (w := w) (t := t) (h0.copied k0 (steady_ser _ _ _)) (g1.copied l1 (steady_ser _ _ _)) (g2.copied l2 (steady_ser _ _ _)) (g3.copied l3 (steady_ser _ _ _))
  have r1' := Lib.hid r1
  have HC : Hid (∀ W, Below w.heap.size w W → W.cell? ⟨T.p, 0, none⟩ = some (.map (some T.m0)) ∧ W.cell? ⟨T.p, 1, none⟩ = some (.map (some T.m1)) ∧ W.cell? ⟨T.p, 2, none⟩ = some (.map (some T.m2)) ∧ W.cell? ⟨T.p, 3, none⟩ = some (.map (some T.m3))) := fun W hW => (h.below hW).cells
  have hk0 := HC.out (w).drew (by repeat (first | exact Below.refl _ _ | refine Below.drew ?_ | refine Below.alloc ?_ (by simp <;> omega) _))
  have hk1 := HC.out ((w.alloc (Obj.map es0 c0))).drew (by repeat (first | exact Below.refl _ _ | refine Below.drew ?_ | refine Below.alloc ?_ (by simp <;> omega) _))
  have hk2 := HC.out (((w.alloc (Obj.map es0 c0)).alloc (Obj.map es1 c1))).drew (by repeat (first | exact Below.refl _ _ | refine Below.drew ?_ | refine Below.alloc ?_ (by simp <;> omega) _))
  have hk3 := HC.out ((((w.alloc (Obj.map es0 c0)).alloc (Obj.map es1 c1)).alloc (Obj.map es2 c2))).drew (by repeat (first | exact Below.refl _ _ | refine Below.drew ?_ | refine Below.alloc ?_ (by simp <;> omega) _))
  have hk4 := HC.out (((((w.alloc (Obj.map es0 c0)).alloc (Obj.map es1 c1)).alloc (Obj.map es2 c2)).alloc (Obj.map es3 c3))).drew (by repeat (first | exact Below.refl _ _ | refine Below.drew ?_ | refine Below.alloc ?_ (by simp <;> omega) _))
  have hk5 := HC.out (((((w.alloc (Obj.map es0 c0)).alloc (Obj.map es1 c1)).alloc (Obj.map es2 c2)).alloc (Obj.map es3 c3)).alloc (Obj.cells #[.map (some w.heap.size), .map (some (w.heap.size + 1)), .map (some (w.heap.size + 1 + 1)), .map (some (w.heap.size + 1 + 1 + 1))] 148)).drew (by repeat (first | exact Below.refl _ _ | refine Below.drew ?_ | refine Below.alloc ?_ (by simp <;> omega) _))
  clear r1 h0 h1 h2 h3 g1 g2 g3 b h
  go_enter Tryz.func23, Tryz.ntmps23
  go_wp2
  go_region_held3 (fun w' => w'.cell? ⟨T.p, 0, none⟩ = some (.map (some T.m0)) ∧ w'.cell? ⟨T.p, 1, none⟩ = some (.map (some T.m1)) ∧ w'.cell? ⟨T.p, 2, none⟩ = some (.map (some T.m2)) ∧ w'.cell? ⟨T.p, 3, none⟩ = some (.map (some T.m3))) (go_keep)
    (first
      | (go_at_call 66; refine (mclone_M T.m0 es0 c0 _ ?_).mono ?_; exact k0; rintro e w' ⟨rfl, rfl⟩)
      | (go_at_call 67; refine (mclone_S T.m1 es1 c1 _ ?_).mono ?_; exact l1; rintro e w' ⟨rfl, rfl⟩)
      | (go_at_call 68; refine (mclone_P T.m2 es2 c2 _ ?_).mono ?_; exact l2; rintro e w' ⟨rfl, rfl⟩)
      | (go_at_call 69; refine (mclone_F T.m3 es3 c3 _ ?_).mono ?_; exact l3; rintro e w' ⟨rfl, rfl⟩))
  go_wp2
  go_ret
  exact ⟨T', by rw [r1'.out]; rfl, r2.below (Below.refl _ _).drew, r3, r4.drew⟩

theorem clone_nil (w : World) : Calls Tryz.prog 23 #[.pointer none] w fun e w' => e = .returned (.pointer none) ∧ w = w' := by
  go_enter Tryz.func23, Tryz.ntmps23
  go_wp2
  go_ret
  exact ⟨rfl, rfl⟩
end Go.Proofs.YtmbhkfclpkopiaaGreatDoor
