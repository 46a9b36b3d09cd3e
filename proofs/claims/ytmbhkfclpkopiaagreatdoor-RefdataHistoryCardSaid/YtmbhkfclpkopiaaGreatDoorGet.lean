/- Member, Security, Haircut, Price: what is effective on a day. -/
import Derived.Test.YtmbhkfclpkopiaaGreatDoorTabAt
namespace Go.Proofs.YtmbhkfclpkopiaaGreatDoor
open Go.RowKit
set_option linter.unusedVariables false
set_option linter.unusedSimpArgs false

/-- The value's cells, or zero values. -/
def optV {V : Type} (enc : V → List Value) (z : List Value) : Option (Int × V) → List Value
  | some x => enc x.2
  | none => z

theorem pw_below_drewN' {B : Nat} {w W : World} (h : Below B w W) (n : Nat) : Below B w (W.drewN n) := ⟨h.os, h.tape, h.output, h.size, h.block⟩

set_option maxHeartbeats 1000000 in
theorem get_M (T : TB) (t : Tab) (day : Int) (k : ByteArray) (w : World) (h : TabAt w T t) (hok : TbOk t.mem) (hf : TbFit 900 t.mem) :
    Calls Tryz.prog 26 #[.pointer (some ⟨T.p, 0, none⟩), .int .i64 day, .string k] w fun e w' => e = .returned (.tuple #[.agg (optV encM zencM (seAt (ser t.mem k) day)).toArray, .bool (seAt (ser t.mem k) day).isSome]) ∧ Below w.heap.size w w' := by
  have HB0 : Below w.heap.size w (w.alloc (.cells #[.string ⟨#[]⟩, .string ⟨#[]⟩, .bool false] 40)) := (Below.refl _ _).alloc (Nat.le_refl _) _
  have HT := h.below HB0
  obtain ⟨q0, q1, q2, q3⟩ := HT.cells
  have hr := hok.ser_rising k
  have hl : (ser t.mem k).length ≤ 1000 := Nat.le_trans (hf.ser k) (by decide)
  have HM := HT.mem
  cases hx : seAt (ser t.mem k) day with
  | none =>
    have HX := Lib.hid hx
    clear hx h hok hf
    go_enter Tryz.func26, Tryz.ntmps26
    go_wp2_with (first
      | (at_lookup; refine wpList_lookup_ser _ rfl _ _ 137 false rfl 9 140 Tryz.underlying137 Tryz.underlying9 (zeroV_140 _) T.m0 t.mem rfl HM k rfl ?_; intro sv hsv)
      | (go_at_call 73; refine (at_M _ _ _ _ hsv hr hl).mono ?_; rintro e w1 ⟨rfl, hb1⟩; rw [HX.out, show (optE encM zencM none).toArray = #[.int .i64 0, .string ⟨#[]⟩, .string ⟨#[]⟩, .bool false] from rfl]; have HB1 : Below w.heap.size w w1 := HB0.trans (hb1.mono (by simp)); have hw1 : w.heap.size < w1.heap.size := (by have := hb1.size; simp at this; omega); have hc1 := fun o => (bcell hb1).1 w.heap.size o (by simp); have hf1 := fun o => (bcell hb1).2 w.heap.size o (by simp)))
    refine bodyPost_ret (v := .tuple #[.agg #[.string ⟨#[]⟩, .string ⟨#[]⟩, .bool false], .bool false]) (by simp [results, Tryz.results26, go_sem, hc1, hw1]) rfl ⟨rfl, ?_⟩
    repeat (first | exact HB1 | refine below_set ?_ (by omega) _ | refine Below.alloc ?_ (by first | omega | (simp; omega) | simp) _)
  | some x =>
    obtain ⟨d, v⟩ := x
    have HX := Lib.hid hx
    clear hx h hok hf
    go_enter Tryz.func26, Tryz.ntmps26
    go_wp2_with (first
      | (at_lookup; refine wpList_lookup_ser _ rfl _ _ 137 false rfl 9 140 Tryz.underlying137 Tryz.underlying9 (zeroV_140 _) T.m0 t.mem rfl HM k rfl ?_; intro sv hsv)
      | (go_at_call 73; refine (at_M _ _ _ _ hsv hr hl).mono ?_; rintro e w1 ⟨rfl, hb1⟩; rw [HX.out, show (optE encM zencM (some (d, v))).toArray = #[.int .i64 d, .string v.code, .string v.lei, .bool v.active] from rfl]; have HB1 : Below w.heap.size w w1 := HB0.trans (hb1.mono (by simp)); have hw1 : w.heap.size < w1.heap.size := (by have := hb1.size; simp at this; omega); have hc1 := fun o => (bcell hb1).1 w.heap.size o (by simp); have hf1 := fun o => (bcell hb1).2 w.heap.size o (by simp)))
    refine bodyPost_ret (v := .tuple #[.agg #[.string v.code, .string v.lei, .bool v.active], .bool true]) (by simp [results, Tryz.results26, go_sem, hc1, hw1]) rfl ⟨rfl, ?_⟩
    repeat (first | exact HB1 | refine below_set ?_ (by omega) _ | refine Below.alloc ?_ (by first | omega | (simp; omega) | simp) _)

theorem get_M_nil (day : Int) (k : ByteArray) (w : World) :
    Calls Tryz.prog 26 #[.pointer none, .int .i64 day, .string k] w fun e w' => e = .returned (.tuple #[.agg zencM.toArray, .bool false]) ∧ Below w.heap.size w w' := by
  go_enter Tryz.func26, Tryz.ntmps26
  go_wp2
  refine bodyPost_ret (v := .tuple #[.agg #[.string ⟨#[]⟩, .string ⟨#[]⟩, .bool false], .bool false]) (by simp [results, Tryz.results26, go_sem]) rfl ⟨rfl, ?_⟩
  exact (Below.refl _ _).alloc (Nat.le_refl _) _
set_option maxHeartbeats 1000000 in
theorem get_S (T : TB) (t : Tab) (day : Int) (k : ByteArray) (w : World) (h : TabAt w T t) (hok : TbOk t.sec) (hf : TbFit 900 t.sec) :
    Calls Tryz.prog 27 #[.pointer (some ⟨T.p, 0, none⟩), .int .i64 day, .string k] w fun e w' => e = .returned (.tuple #[.agg (optV encS zencS (seAt (ser t.sec k) day)).toArray, .bool (seAt (ser t.sec k) day).isSome]) ∧ Below w.heap.size w w' := by
  have HB0 : Below w.heap.size w (w.alloc (.cells #[.string ⟨#[]⟩, .string ⟨#[]⟩, .int .i64 0, .bool false] 44)) := (Below.refl _ _).alloc (Nat.le_refl _) _
  have HT := h.below HB0
  obtain ⟨q0, q1, q2, q3⟩ := HT.cells
  have hr := hok.ser_rising k
  have hl : (ser t.sec k).length ≤ 1000 := Nat.le_trans (hf.ser k) (by decide)
  have HM := HT.sec
  cases hx : seAt (ser t.sec k) day with
  | none =>
    have HX := Lib.hid hx
    clear hx h hok hf
    go_enter Tryz.func27, Tryz.ntmps27
    go_wp2_with (first
      | (at_lookup; refine wpList_lookup_ser _ rfl _ _ 142 false rfl 9 151 Tryz.underlying142 Tryz.underlying9 (zeroV_151 _) T.m1 t.sec rfl HM k rfl ?_; intro sv hsv)
      | (go_at_call 74; refine (at_S _ _ _ _ hsv hr hl).mono ?_; rintro e w1 ⟨rfl, hb1⟩; rw [HX.out, show (optE encS zencS none).toArray = #[.int .i64 0, .string ⟨#[]⟩, .string ⟨#[]⟩, .int .i64 0, .bool false] from rfl]; have HB1 : Below w.heap.size w w1 := HB0.trans (hb1.mono (by simp)); have hw1 : w.heap.size < w1.heap.size := (by have := hb1.size; simp at this; omega); have hc1 := fun o => (bcell hb1).1 w.heap.size o (by simp); have hf1 := fun o => (bcell hb1).2 w.heap.size o (by simp)))
    refine bodyPost_ret (v := .tuple #[.agg #[.string ⟨#[]⟩, .string ⟨#[]⟩, .int .i64 0, .bool false], .bool false]) (by simp [results, Tryz.results27, go_sem, hc1, hw1]) rfl ⟨rfl, ?_⟩
    repeat (first | exact HB1 | refine below_set ?_ (by omega) _ | refine Below.alloc ?_ (by first | omega | (simp; omega) | simp) _)
  | some x =>
    obtain ⟨d, v⟩ := x
    have HX := Lib.hid hx
    clear hx h hok hf
    go_enter Tryz.func27, Tryz.ntmps27
    go_wp2_with (first
      | (at_lookup; refine wpList_lookup_ser _ rfl _ _ 142 false rfl 9 151 Tryz.underlying142 Tryz.underlying9 (zeroV_151 _) T.m1 t.sec rfl HM k rfl ?_; intro sv hsv)
      | (go_at_call 74; refine (at_S _ _ _ _ hsv hr hl).mono ?_; rintro e w1 ⟨rfl, hb1⟩; rw [HX.out, show (optE encS zencS (some (d, v))).toArray = #[.int .i64 d, .string v.isin, .string v.issuer, .int .i64 v.lot, .bool v.active] from rfl]; have HB1 : Below w.heap.size w w1 := HB0.trans (hb1.mono (by simp)); have hw1 : w.heap.size < w1.heap.size := (by have := hb1.size; simp at this; omega); have hc1 := fun o => (bcell hb1).1 w.heap.size o (by simp); have hf1 := fun o => (bcell hb1).2 w.heap.size o (by simp)))
    refine bodyPost_ret (v := .tuple #[.agg #[.string v.isin, .string v.issuer, .int .i64 v.lot, .bool v.active], .bool true]) (by simp [results, Tryz.results27, go_sem, hc1, hw1]) rfl ⟨rfl, ?_⟩
    repeat (first | exact HB1 | refine below_set ?_ (by omega) _ | refine Below.alloc ?_ (by first | omega | (simp; omega) | simp) _)

theorem get_S_nil (day : Int) (k : ByteArray) (w : World) :
    Calls Tryz.prog 27 #[.pointer none, .int .i64 day, .string k] w fun e w' => e = .returned (.tuple #[.agg zencS.toArray, .bool false]) ∧ Below w.heap.size w w' := by
  go_enter Tryz.func27, Tryz.ntmps27
  go_wp2
  refine bodyPost_ret (v := .tuple #[.agg #[.string ⟨#[]⟩, .string ⟨#[]⟩, .int .i64 0, .bool false], .bool false]) (by simp [results, Tryz.results27, go_sem]) rfl ⟨rfl, ?_⟩
  exact (Below.refl _ _).alloc (Nat.le_refl _) _
set_option maxHeartbeats 1000000 in
theorem get_F (T : TB) (t : Tab) (day : Int) (k : ByteArray) (w : World) (h : TabAt w T t) (hok : TbOk t.hc) (hf : TbFit 900 t.hc) :
    Calls Tryz.prog 29 #[.pointer (some ⟨T.p, 0, none⟩), .int .i64 day, .string k] w fun e w' => e = .returned (.tuple #[.agg (optV encF zencF (seAt (ser t.hc k) day)).toArray, .bool (seAt (ser t.hc k) day).isSome]) ∧ Below w.heap.size w w' := by
  have HB0 : Below w.heap.size w (w.alloc (.cells #[.int .i64 0, .int .i64 0] 49)) := (Below.refl _ _).alloc (Nat.le_refl _) _
  have HT := h.below HB0
  obtain ⟨q0, q1, q2, q3⟩ := HT.cells
  have hr := hok.ser_rising k
  have hl : (ser t.hc k).length ≤ 1000 := Nat.le_trans (hf.ser k) (by decide)
  have HM := HT.hc
  cases hx : seAt (ser t.hc k) day with
  | none =>
    have HX := Lib.hid hx
    clear hx h hok hf
    go_enter Tryz.func29, Tryz.ntmps29
    go_wp2_with (first
      | (at_lookup; refine wpList_lookup_ser _ rfl _ _ 146 false rfl 9 157 Tryz.underlying146 Tryz.underlying9 (zeroV_157 _) T.m3 t.hc rfl HM k rfl ?_; intro sv hsv)
      | (go_at_call 76; refine (at_F _ _ _ _ hsv hr hl).mono ?_; rintro e w1 ⟨rfl, hb1⟩; rw [HX.out, show (optE encF zencF none).toArray = #[.int .i64 0, .int .i64 0, .int .i64 0] from rfl]; have HB1 : Below w.heap.size w w1 := HB0.trans (hb1.mono (by simp)); have hw1 : w.heap.size < w1.heap.size := (by have := hb1.size; simp at this; omega); have hc1 := fun o => (bcell hb1).1 w.heap.size o (by simp); have hf1 := fun o => (bcell hb1).2 w.heap.size o (by simp)))
    refine bodyPost_ret (v := .tuple #[.agg #[.int .i64 0, .int .i64 0], .bool false]) (by simp [results, Tryz.results29, go_sem, hc1, hw1]) rfl ⟨rfl, ?_⟩
    repeat (first | exact HB1 | refine below_set ?_ (by omega) _ | refine Below.alloc ?_ (by first | omega | (simp; omega) | simp) _)
  | some x =>
    obtain ⟨d, v⟩ := x
    have HX := Lib.hid hx
    clear hx h hok hf
    go_enter Tryz.func29, Tryz.ntmps29
    go_wp2_with (first
      | (at_lookup; refine wpList_lookup_ser _ rfl _ _ 146 false rfl 9 157 Tryz.underlying146 Tryz.underlying9 (zeroV_157 _) T.m3 t.hc rfl HM k rfl ?_; intro sv hsv)
      | (go_at_call 76; refine (at_F _ _ _ _ hsv hr hl).mono ?_; rintro e w1 ⟨rfl, hb1⟩; rw [HX.out, show (optE encF zencF (some (d, v))).toArray = #[.int .i64 d, .int .i64 v.num, .int .i64 v.den] from rfl]; have HB1 : Below w.heap.size w w1 := HB0.trans (hb1.mono (by simp)); have hw1 : w.heap.size < w1.heap.size := (by have := hb1.size; simp at this; omega); have hc1 := fun o => (bcell hb1).1 w.heap.size o (by simp); have hf1 := fun o => (bcell hb1).2 w.heap.size o (by simp)))
    refine bodyPost_ret (v := .tuple #[.agg #[.int .i64 v.num, .int .i64 v.den], .bool true]) (by simp [results, Tryz.results29, go_sem, hc1, hw1]) rfl ⟨rfl, ?_⟩
    repeat (first | exact HB1 | refine below_set ?_ (by omega) _ | refine Below.alloc ?_ (by first | omega | (simp; omega) | simp) _)

theorem get_F_nil (day : Int) (k : ByteArray) (w : World) :
    Calls Tryz.prog 29 #[.pointer none, .int .i64 day, .string k] w fun e w' => e = .returned (.tuple #[.agg zencF.toArray, .bool false]) ∧ Below w.heap.size w w' := by
  go_enter Tryz.func29, Tryz.ntmps29
  go_wp2
  refine bodyPost_ret (v := .tuple #[.agg #[.int .i64 0, .int .i64 0], .bool false]) (by simp [results, Tryz.results29, go_sem]) rfl ⟨rfl, ?_⟩
  exact (Below.refl _ _).alloc (Nat.le_refl _) _
set_option maxHeartbeats 1000000 in
theorem get_P (T : TB) (t : Tab) (day : Int) (k : ByteArray) (w : World) (h : TabAt w T t) (hok : TbOk t.pri) (hf : TbFit 900 t.pri) :
    Calls Tryz.prog 28 #[.pointer (some ⟨T.p, 0, none⟩), .int .i64 day, .string k] w fun e w' => e = .returned (.tuple #[.int .i64 (((seAt (ser t.pri k) day).map (·.2)).getD 0), .int .i64 (((seAt (ser t.pri k) day).map (·.1)).getD 0), .bool (seAt (ser t.pri k) day).isSome]) ∧ Below w.heap.size w w' := by
  obtain ⟨q0, q1, q2, q3⟩ := h.cells
  have hr := hok.ser_rising k
  have hl : (ser t.pri k).length ≤ 1000 := Nat.le_trans (hf.ser k) (by decide)
  have HM := h.pri
  cases hx : seAt (ser t.pri k) day with
  | none =>
    have HX := Lib.hid hx
    clear hx h hok hf
    go_enter Tryz.func28, Tryz.ntmps28
    go_wp2_with (first
      | (at_lookup; refine wpList_lookup_ser _ rfl _ _ 144 false rfl 9 154 Tryz.underlying144 Tryz.underlying9 (zeroV_154 _) T.m2 t.pri rfl HM k rfl ?_; intro sv hsv)
      | (go_at_call 75; refine (at_P _ _ _ _ hsv hr hl).mono ?_; rintro e w1 ⟨rfl, hb1⟩; rw [HX.out, show (optE encP zencP none).toArray = #[.int .i64 0, .int .i64 0] from rfl]; have HB1 : Below w.heap.size w w1 := hb1; have hw1 : w.heap.size ≤ w1.heap.size := hb1.size))
    go_quiet (fail)
    go_wp2
    go_ret3
    refine ⟨rfl, ?_⟩
    exact pw_below_drewN' (HB1.alloc hw1 _) _
  | some x =>
    obtain ⟨d, v⟩ := x
    have HX := Lib.hid hx
    clear hx h hok hf
    go_enter Tryz.func28, Tryz.ntmps28
    go_wp2_with (first
      | (at_lookup; refine wpList_lookup_ser _ rfl _ _ 144 false rfl 9 154 Tryz.underlying144 Tryz.underlying9 (zeroV_154 _) T.m2 t.pri rfl HM k rfl ?_; intro sv hsv)
      | (go_at_call 75; refine (at_P _ _ _ _ hsv hr hl).mono ?_; rintro e w1 ⟨rfl, hb1⟩; rw [HX.out, show (optE encP zencP (some (d, v))).toArray = #[.int .i64 d, .int .i64 v] from rfl]; have HB1 : Below w.heap.size w w1 := hb1; have hw1 : w.heap.size ≤ w1.heap.size := hb1.size))
    go_quiet (fail)
    go_wp2
    go_ret3
    refine ⟨rfl, ?_⟩
    exact pw_below_drewN' (HB1.alloc hw1 _) _

theorem get_P_nil (day : Int) (k : ByteArray) (w : World) :
    Calls Tryz.prog 28 #[.pointer none, .int .i64 day, .string k] w fun e w' => e = .returned (.tuple #[.int .i64 0, .int .i64 0, .bool false]) ∧ Below w.heap.size w w' := by
  go_enter Tryz.func28, Tryz.ntmps28
  go_wp2
  go_ret3
  exact ⟨rfl, Below.refl _ _⟩
end Go.Proofs.YtmbhkfclpkopiaaGreatDoor
