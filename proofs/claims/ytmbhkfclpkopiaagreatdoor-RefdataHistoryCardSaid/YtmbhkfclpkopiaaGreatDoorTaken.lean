/- taken: whether another member's last entry has an LEI. -/
import Derived.Test.YtmbhkfclpkopiaaGreatDoorGet
namespace Go.Proofs.YtmbhkfclpkopiaaGreatDoor
open Go.RowKit
set_option linter.unusedVariables false
set_option linter.unusedSimpArgs false

theorem IterAt.below {V : Type} {E size : Nat} {enc : V → List Value} {w w' : World} {b r : Nat} {L done : Tb V} (h : IterAt (SerAt E size enc) w b r L done) (hb : Below w.heap.size w w') : IterAt (SerAt E size enc) w' b r L done := by
  have h1 := h.map.lt
  have h2 : r < w.heap.size := by
    obtain ⟨es, clock, seen, c0, _, _, _, hr, _⟩ := h
    exact (Array.getElem?_eq_some_iff.1 hr).1
  exact h.stay (hb.block b h1) (hb.block r h2) (fun _ _ hv => hv.below hb)

theorem IterAt.done_lt {V : Type} {R : World → Value → V → Prop} {w : World} {b r : Nat} {L done : List (ByteArray × V)} (h : IterAt R w b r L done) : done.length ≤ L.length := by
  obtain ⟨es, clock, seen, c0, hb, hs, hE, hr, hc, hsub, hnd, hseen⟩ := h
  have h1 : (done.map (·.1)) ⊆ (L.map (·.1)) := fun k hk => by
    obtain ⟨x, hx, rfl⟩ := List.mem_map.1 hk
    exact List.mem_map.2 ⟨x, hsub x hx, rfl⟩
  simpa using nodup_len hnd h1

theorem wpList_range_at' {α : Type} {R : World → Value → α → Prop} {P : Program} (w : World) {ops : Array Oper} {rest : List Oper} {o : Oper} {a : Act} {Q : Exit → Act → World → Prop} (hg : o.guard = none) (m : Operand) (t : TypeId) (hop : o.op = Op.range t m) (kt et : TypeId) (ht : P.underlying t = some (.map kt et)) (hS : Steady R) (b r : Nat) (L : List (ByteArray × α)) (hm : a.eval m = .map (some b)) (h : MapAt R w b L) (hr : w.heap.size = r)
    (hK : ∀ w', IterAt R w' b r L [] → w.grownBy w' none → w'.heap.size = r + 1 → wpList P ops Q rest (a.put o.dst (.pointer (some ⟨r, 0, none⟩))) w') :
    wpList P ops Q (o :: rest) a w := by
  subst hr
  exact wpList_range_at w hg m t hop kt et ht hS b L hm h hK

theorem beq_tl (a b : ByteArray) : (a.toList == b.toList) = decide (a = b) := by
  by_cases h : a = b
  · subst h; simp
  · simp only [h, decide_false, beq_eq_false_iff_ne, ne_eq]
    intro e
    rw [ByteArray.toList_eq, ByteArray.toList_eq] at e
    exact h (ByteArray.ext (Array.toList_inj.mp e))

def hit (m : MV) (x : ByteArray × List (Int × MV)) : Bool := !decide (x.1 = m.code) && (match x.2.getLast? with
  | some y => decide (y.2.lei = m.lei)
  | none => decide (ByteArray.empty = m.lei))

theorem taken_any (t : Tab) (m : MV) : taken t m = t.mem.any (hit m) := rfl

set_option maxHeartbeats 1000000 in
theorem taken_calls (T : TB) (t : Tab) (m : MV) (w : World) (h : TabAt w T t) (hok : TbOk t.mem) (hf : TbFit 900 t.mem) :
    Calls Tryz.prog 114 #[.pointer (some ⟨T.p, 0, none⟩), .agg #[.string m.code, .string m.lei, .bool m.active]] w fun e w' => e = .returned (.bool (taken t m)) ∧ Below w.heap.size w w' := by
  have HB0 : Below w.heap.size w (w.alloc (.cells #[.string m.code, .string m.lei, .bool m.active] 40)) := (Below.refl _ _).alloc (Nat.le_refl _) _
  have HT := h.below HB0
  obtain ⟨q0, q1, q2, q3⟩ := HT.cells
  have HM := HT.mem
  have HOK := Lib.hid hok
  have HF := Lib.hid hf
  clear h hok hf HT q1 q2 q3
  go_enter Tryz.func114, Tryz.ntmps114
  go_wp2_with (first
    | (at_range; refine wpList_range_at' _ rfl _ 137 rfl 9 140 Tryz.underlying137 (steady_ser _ _ _) T.m0 (w.heap.size + 1) t.mem rfl HM (by simp) ?_; intro w0 hit0 hg0 hs0))
  go_frame
  go_loopg [14] (t.mem.length) (fun k _ wr => ∃ done, IterAt RM wr T.m0 (w.heap.size + 1) t.mem done ∧ (∀ x ∈ done, hit m x = false) ∧ Below (w.heap.size + 1) (w.alloc (.cells #[.string m.code, .string m.lei, .bool m.active] 40)) wr ∧ k + done.length = t.mem.length)
  case atStart => exact ⟨[], hit0, by simp, (Below.refl _ _).grown hg0 (by simp) (by simp), by simp⟩
  case round =>
    obtain ⟨done, hit1, hno, hb, hk⟩ := hrel
    have hwr : w.heap.size + 1 ≤ wr.heap.size := by have := hb.size; simpa using this
    have HNO := Lib.hid hno
    have HK := Lib.hid hk
    clear hno hk
    go_wp2_with (first
      | (at_next; refine wpList_next_at _ rfl _ rfl (steady_ser _ _ _) T.m0 (w.heap.size + 1) t.mem done rfl hit1 ?_ ?_))
    · intro hall
      have HV : Hid (taken t m = false) := by
        show taken t m = false
        rw [taken_any, List.any_eq_false]
        intro x hx
        simp [HNO.out x (hall _ _ hx)]
      clear hall
      go_wp2
      go_ret
      exact ⟨ret_bool HV.out.symm, HB0.trans (hb.mono (by omega))⟩
    · intro k s v w1 hmem hnd hv hit2 hg1 hs1 hen
      have hb1 := hb.grown hg1 hwr (fun k e => by cases e; omega)
      have hne := HOK.out.full _ hmem
      have hl : s.length ≤ 1000 := Nat.le_trans (HF.out.2 _ hmem) (by decide)
      obtain ⟨i, ⟨d, y⟩, _, _, hlast⟩ := last_form (s := s) hne
      have HX := Lib.hid hlast
      have hw1 : w.heap.size + 1 ≤ w1.heap.size := by omega
      cases hh : hit m (k, s) with
      | true => 
        have HV : Hid (taken t m = true) := by
          show taken t m = true
          rw [taken_any, List.any_eq_true]
          exact ⟨_, hmem, hh⟩
        have hc : (k.toList == m.code.toList) = false ∧ (y.lei.toList == m.lei.toList) = true := by
          simp only [hit, hlast] at hh
          rw [beq_tl, beq_tl]
          simpa using hh
        obtain ⟨hc1, hc2⟩ := hc
        clear hmem hnd hne hlast hh
        go_wp2_with (first
          | (go_at_call 175; refine (last_M _ _ _ hv hl).mono ?_; rintro e w2 ⟨rfl, hb2⟩; rw [HX.out, show (optE encM zencM (some (d, y))).toArray = #[.int .i64 d, .string y.code, .string y.lei, .bool y.active] from rfl]; have hb3 := below_over hb1 hb2 hw1; have hw2 : w.heap.size + 1 ≤ w2.heap.size := Nat.le_trans hw1 hb2.size; have c0 := box_cell (hb3.alloc hw2 (.cells #[.int .i64 d, .string y.code, .string y.lei, .bool y.active] 162))))
        go_ret
        exact ⟨ret_bool HV.out.symm, (HB0.trans (hb3.mono (by omega))).alloc (by omega) _⟩
      | false =>
        have hno' : Hid (∀ x ∈ done ++ [(k, s)], hit m x = false) := by
          intro x hx
          rcases List.mem_append.1 hx with hx | hx
          · exact HNO.out x hx
          · rw [List.mem_singleton.1 hx]; exact hh
        have hc : (k.toList == m.code.toList) = true ∨ ((k.toList == m.code.toList) = false ∧ (y.lei.toList == m.lei.toList) = false) := by
          simp only [hit, hlast] at hh
          rw [beq_tl, beq_tl]
          by_cases h1 : k = m.code <;> by_cases h2 : y.lei = m.lei <;> simp [h1, h2] at hh ⊢
        clear hmem hnd hne hlast hh
        rcases hc with hc1 | ⟨hc1, hc2⟩
        all_goals
          go_wp2_with (first
            | (go_at_call 175; refine (last_M _ _ _ hv hl).mono ?_; rintro e w2 ⟨rfl, hb2⟩; rw [HX.out, show (optE encM zencM (some (d, y))).toArray = #[.int .i64 d, .string y.code, .string y.lei, .bool y.active] from rfl]; have hb3 := below_over hb1 hb2 hw1; have hw2 : w.heap.size + 1 ≤ w2.heap.size := Nat.le_trans hw1 hb2.size; have c0 := box_cell (hb3.alloc hw2 (.cells #[.int .i64 d, .string y.code, .string y.lei, .bool y.active] 162))))
          have hlen := hit2.done_lt
          have hk := HK.out
          simp only [List.length_append, List.length_singleton] at hlen
          go_roundg (gk - 1)
          case measure => omega
          case rel => exact ⟨done ++ [(k, s)], (hit2.below hb2).below ((Below.refl _ _).alloc (Nat.le_refl _) _), hno'.out, hb3.alloc hw2 _, by simp only [List.length_append, List.length_singleton]; omega⟩
end Go.Proofs.YtmbhkfclpkopiaaGreatDoor
