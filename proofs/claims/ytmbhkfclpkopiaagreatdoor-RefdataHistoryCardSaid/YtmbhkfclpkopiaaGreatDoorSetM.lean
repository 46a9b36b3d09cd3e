/- SetMember. -/
import Derived.Test.YtmbhkfclpkopiaaGreatDoorFrac
import Derived.Deep.RegionHeld3
namespace Go.Proofs.YtmbhkfclpkopiaaGreatDoor
open Go.RowKit
set_option linter.unusedVariables false
set_option linter.unusedSimpArgs false

theorem step_mapUpdate_at {α : Type} {R : World → Value → α → Prop} {P : Program} (w : World) {ops : Array Oper} {o : Oper} {a : Act} {K : Act → World → Prop} {Q : Exit → Act → World → Prop} {E : Prop} (hg : o.guard = none) (m x v : Operand) (t : TypeId) (hop : o.op = Op.mapUpdate t m x v) (kt et : TypeId) (ht : P.underlying t = some (.map kt et)) (hk : P.underlying kt = some .string) (hS : Steady R)
    (b : Nat) (L : List (ByteArray × α)) (hm : a.eval m = .map (some b)) (h : MapAt R w b L) (k : ByteArray) (hx : a.eval x = .string k) (val : Value) (hv : a.eval v = val) (a0 : α) (hr : R w val a0)
    (hK : ∀ w', MapAt R w' b (upd L k a0) → w.grownBy w' (some b) → w'.heap.size = w.heap.size → K (a.put o.dst undef) w') :
    if Region.wanted o (yielded ops a.tmps) = true then Oper.wp P o a w K Q else E := by
  have hw : Region.wanted o (yielded ops a.tmps) = true := by simp [Region.wanted, hg]
  rw [if_pos hw]
  obtain ⟨w', hrun, r1, r2, r3⟩ := h.run_update ht hk k val a0 hS hr
  unfold Oper.wp
  simp only [execOp, hop, hm, hx, hv, Sem.run_bind, hrun, Result.andThen]
  exact hK _ r1 r2 r3

theorem grow_of {w W W' : World} {row : Option Nat} (h : Below w.heap.size w W) (hg : W.grownBy W' row) : w.grownBy W' row :=
  ⟨hg.os.trans h.os, hg.tape.trans h.tape, hg.output.trans h.output, Nat.le_trans h.size hg.size, fun k hk hn => (hg.block k (Nat.lt_of_lt_of_le hk h.size) hn).trans (h.block k hk)⟩

theorem Below.grow {w W : World} (row : Option Nat) (h : Below w.heap.size w W) : w.grownBy W row := ⟨h.os, h.tape, h.output, h.size, fun k hk _ => h.block k hk⟩

theorem MapAt.other {V U : Type} {E size E' size' : Nat} {enc : V → List Value} {enc' : U → List Value} {w w' : World} {b b' : Nat} {L : Tb V} {L' : Tb U} (h : MapAt (SerAt E size enc) w b L) (h' : MapAt (SerAt E' size' enc') w b' L') (hne : b ≠ b') (hg : w.grownBy w' (some b')) : MapAt (SerAt E size enc) w' b L := by
  refine h.stay (hg.block b h.lt (fun e => hne (by injection e))) (fun v a hv => ?_)
  refine steady_ser E size enc w w' (some b') v a hg (fun k e => ?_) hv
  cases e
  obtain ⟨es, clock, hb, _⟩ := h'
  exact ⟨_, hb, rfl⟩

theorem TabAt.pm {w : World} {T : TB} {t : Tab} (h : TabAt w T t) : T.p ≠ T.m0 ∧ T.p ≠ T.m1 ∧ T.p ≠ T.m2 ∧ T.p ≠ T.m3 := by
  have hc := h.cell
  obtain ⟨_, _, h0, _⟩ := h.mem
  obtain ⟨_, _, h1, _⟩ := h.sec
  obtain ⟨_, _, h2, _⟩ := h.pri
  obtain ⟨_, _, h3, _⟩ := h.hc
  refine ⟨fun e => ?_, fun e => ?_, fun e => ?_, fun e => ?_⟩
  · rw [e, h0] at hc; cases hc
  · rw [e, h1] at hc; cases hc
  · rw [e, h2] at hc; cases hc
  · rw [e, h3] at hc; cases hc

theorem TabAt.putM {w w' : World} {T : TB} {t : Tab} {L : Tb MV} (h : TabAt w T t) (hm : MapAt RM w' T.m0 L) (hg : w.grownBy w' (some T.m0)) : TabAt w' T { t with mem := L } :=
  ⟨(hg.block _ h.plt (fun e => h.pm.1 (by injection e))).trans h.cell, hm, h.sec.other h.mem h.d01.symm hg, h.pri.other h.mem h.d02.symm hg, h.hc.other h.mem h.d03.symm hg, h.d01, h.d02, h.d03, h.d12, h.d13, h.d23⟩
theorem TabAt.putS {w w' : World} {T : TB} {t : Tab} {L : Tb SV} (h : TabAt w T t) (hm : MapAt RS w' T.m1 L) (hg : w.grownBy w' (some T.m1)) : TabAt w' T { t with sec := L } :=
  ⟨(hg.block _ h.plt (fun e => h.pm.2.1 (by injection e))).trans h.cell, h.mem.other h.sec h.d01 hg, hm, h.pri.other h.sec h.d12.symm hg, h.hc.other h.sec h.d13.symm hg, h.d01, h.d02, h.d03, h.d12, h.d13, h.d23⟩
theorem TabAt.putP {w w' : World} {T : TB} {t : Tab} {L : Tb Int} (h : TabAt w T t) (hm : MapAt RP w' T.m2 L) (hg : w.grownBy w' (some T.m2)) : TabAt w' T { t with pri := L } :=
  ⟨(hg.block _ h.plt (fun e => h.pm.2.2.1 (by injection e))).trans h.cell, h.mem.other h.pri h.d02 hg, h.sec.other h.pri h.d12 hg, hm, h.hc.other h.pri h.d23.symm hg, h.d01, h.d02, h.d03, h.d12, h.d13, h.d23⟩
theorem TabAt.putF {w w' : World} {T : TB} {t : Tab} {L : Tb FV} (h : TabAt w T t) (hm : MapAt RF w' T.m3 L) (hg : w.grownBy w' (some T.m3)) : TabAt w' T { t with hc := L } :=
  ⟨(hg.block _ h.plt (fun e => h.pm.2.2.2 (by injection e))).trans h.cell, h.mem.other h.hc h.d03 hg, h.sec.other h.hc h.d13 hg, h.pri.other h.hc h.d23 hg, hm, h.d01, h.d02, h.d03, h.d12, h.d13, h.d23⟩

/-- What ident.Valid says: vld, at the kinds that there are. -/
abbrev VldSays (vld : Int → ByteArray → Bool) : Prop := ∀ (k : Int) (s : ByteArray) (w : World), 0 ≤ k → k ≤ 3 → s.size ≤ 9223372036854775807 → Calls Tryz.prog 112 #[.int .i64 k, .string s] w fun e w' => e = .returned (.bool (vld k s)) ∧ Below w.heap.size w w'


theorem tl_empty {s : ByteArray} : (s.toList == ([] : List UInt8)) = true ↔ s = ByteArray.empty := by
  have := beq_tl s ByteArray.empty
  rw [show (ByteArray.empty).toList = [] from by rw [ByteArray.toList_eq]; rfl] at this
  rw [this, decide_eq_true_eq]

theorem cell_grow {W W' : World} {b row o : Nat} (hg : W.grownBy W' (some row)) (hlt : b < W.heap.size) (hne : b ≠ row) : W'.cell? ⟨b, o, none⟩ = W.cell? ⟨b, o, none⟩ := by
  unfold World.cell?
  rw [hg.block b hlt (fun e => hne (by injection e))]

theorem le_trans' {a b c : Nat} (h : a ≤ b) (k : b ≤ c) : a ≤ c := Nat.le_trans h k

set_option maxRecDepth 10000 in
set_option maxHeartbeats 1000000 in
theorem setMember_calls (vld : Int → ByteArray → Bool) (hvl : VldSays vld) (T : TB) (t : Tab) (day : Int) (m : MV) (w : World) (hz1 : m.code.size ≤ 9223372036854775807) (hz3 : m.lei.size ≤ 9223372036854775807) (h : TabAt w T t) (hOK : TabOk t) (hF : TabFit 800 t) :
    Calls Tryz.prog 65 #[.pointer (some ⟨T.p, 0, none⟩), .int .i64 day, .agg #[.string m.code, .string m.lei, .bool m.active]] w fun e w' => e = .returned (.int .i64 (setMemberE vld t day m)) ∧ TabAt w' T (setMember vld t day m) ∧ w.grownBy w' (some T.m0) := by
  have HB0 : Below w.heap.size w (w.alloc (.cells #[.string m.code, .string m.lei, .bool m.active] 40)) := (Below.refl _ _).alloc (Nat.le_refl _) _
  have HT := h.below HB0
  have K : Below (w.heap.size + 1) (w.alloc (.cells #[.string m.code, .string m.lei, .bool m.active] 40)) (w.alloc (.cells #[.string m.code, .string m.lei, .bool m.active] 40)) := Below.refl _ _
  have FT : Hid (∀ W, Below (w.heap.size + 1) (w.alloc (.cells #[.string m.code, .string m.lei, .bool m.active] 40)) W → TabAt W T t) := fun W hW => HT.below (hW.mono (by simp))
  obtain ⟨sv, hsv, hrun⟩ := HT.mem.run_ser Tryz.underlying137 Tryz.underlying9 zeroV_140 m.code true
  have q := HT.cells.1
  have c := box_cell K
  have ln := fun ty => HT.mem.run_len (ty := ty) (e := 140) Tryz.underlying137
  have hw : w.heap.size + 1 ≤ (w.alloc (.cells #[.string m.code, .string m.lei, .bool m.active] 40)).heap.size := by simp
  have hl : (ser t.mem m.code).length ≤ 1000 := Nat.le_trans (hF.mem.ser _) (by decide)
  have hl9 := Lib.hid (Nat.le_trans (hF.mem.ser m.code) (show 800 ≤ 900 by decide))
  have hlen : decide ((4096 : Int) ≤ (t.mem.length : Int)) = false := by have := hF.mem.1; simp; omega
  have hlen' := Lib.hid hF.mem.1
  have VL := Lib.hid hvl
  have HZ1 := Lib.hid hz1
  have HZ3 := Lib.hid hz3
  clear hz1 hz3
  have HMB : Hid (w.heap.size ≠ T.m0) := Nat.ne_of_gt h.mem.lt
  have hok := Lib.hid hOK.mem
  have hf : Hid (TbFit 900 t.mem) := ⟨Nat.le_trans hF.mem.1 (by decide), fun x hx => Nat.le_trans (hF.mem.2 x hx) (by decide)⟩
  clear hvl hOK hF h HT
  cases hd : isDay day with
  | false =>
    have HE : Hid (setMemberE vld t day m = 28) := by show setMemberE vld t day m = 28; simp [setMemberE, hd]
    have HD := Lib.hid hd
    have HS : Hid (setMember vld t day m = t) := by show setMember vld t day m = t; rw [setMember, HE.out]; rfl
    clear hd
    go_enter Tryz.func65, Tryz.ntmps65
    go_wp2
    go_quiet (fail)
    replace K := pw_below_drewN' K nq
    replace hw : w.heap.size + 1 ≤ ((w.alloc (.cells #[.string m.code, .string m.lei, .bool m.active] 40)).drewN nq).heap.size := by simp
    replace hsv := hsv.below (pw_below_drewN' (Below.refl _ _) nq)
    clear hrun
    go_wp2_with (first
      | (go_at_call 111; refine (isDay_calls _ _).mono ?_; rintro e w' ⟨rfl, rfl⟩; rw [HD.out])
      | (go_at_call 112; (with_reducible refine (VL.out 1 m.code _ (by decide) (by decide) HZ1.out).mono ?_); rintro e w1 ⟨rfl, hb1⟩; rw [HV1.out]; replace hsv := hsv.below hb1; replace K := below_over K hb1 hw; replace hw := le_trans' hw hb1.size; replace c := box_cell K; replace q := (FT.out _ K).cells.1; replace ln := fun ty => (FT.out _ K).mem.run_len (ty := ty) (e := 140) Tryz.underlying137)
      | (go_at_call 112; (with_reducible refine (VL.out 3 m.lei _ (by decide) (by decide) HZ3.out).mono ?_); rintro e w2 ⟨rfl, hb2⟩; rw [HV3.out]; replace hsv := hsv.below hb2; replace K := below_over K hb2 hw; replace hw := le_trans' hw hb2.size; replace c := box_cell K; replace q := (FT.out _ K).cells.1; replace ln := fun ty => (FT.out _ K).mem.run_len (ty := ty) (e := 140) Tryz.underlying137)
      | (go_at_call 113; refine (stale_M _ _ day _ hsv hl).mono ?_; rintro e w3 ⟨rfl, hb3⟩; rw [HST.out]; replace hsv := hsv.below hb3; replace K := below_over K hb3 hw; replace hw := le_trans' hw hb3.size; replace c := box_cell K; replace q := (FT.out _ K).cells.1; replace ln := fun ty => (FT.out _ K).mem.run_len (ty := ty) (e := 140) Tryz.underlying137)
      | (go_at_call 114; refine (taken_calls T t m _ (FT.out _ K) hok.out hf.out).mono ?_; rintro e w4 ⟨rfl, hb4⟩; rw [HTK.out]; replace hsv := hsv.below hb4; replace K := below_over K hb4 hw; replace hw := le_trans' hw hb4.size; replace c := box_cell K; replace q := (FT.out _ K).cells.1; replace ln := fun ty => (FT.out _ K).mem.run_len (ty := ty) (e := 140) Tryz.underlying137))
    go_ret
    refine ⟨ret_int HE.out.symm, ?_⟩
    rw [HS.out]
    exact ⟨FT.out _ K, Below.grow _ (HB0.trans (K.mono (Nat.le_succ _)))⟩
  | true =>
  have HD := Lib.hid hd
  cases hv1 : vld 1 m.code with
  | false =>
    have HE : Hid (setMemberE vld t day m = 6) := by show setMemberE vld t day m = 6; simp [setMemberE, hd, hv1]
    have HV1 := Lib.hid hv1
    have HS : Hid (setMember vld t day m = t) := by show setMember vld t day m = t; rw [setMember, HE.out]; rfl
    clear hd hv1
    go_enter Tryz.func65, Tryz.ntmps65
    go_wp2
    go_quiet (fail)
    replace K := pw_below_drewN' K nq
    replace hw : w.heap.size + 1 ≤ ((w.alloc (.cells #[.string m.code, .string m.lei, .bool m.active] 40)).drewN nq).heap.size := by simp
    replace hsv := hsv.below (pw_below_drewN' (Below.refl _ _) nq)
    clear hrun
    go_wp2_with (first
      | (go_at_call 111; refine (isDay_calls _ _).mono ?_; rintro e w' ⟨rfl, rfl⟩; rw [HD.out])
      | (go_at_call 112; (with_reducible refine (VL.out 1 m.code _ (by decide) (by decide) HZ1.out).mono ?_); rintro e w1 ⟨rfl, hb1⟩; rw [HV1.out]; replace hsv := hsv.below hb1; replace K := below_over K hb1 hw; replace hw := le_trans' hw hb1.size; replace c := box_cell K; replace q := (FT.out _ K).cells.1; replace ln := fun ty => (FT.out _ K).mem.run_len (ty := ty) (e := 140) Tryz.underlying137)
      | (go_at_call 112; (with_reducible refine (VL.out 3 m.lei _ (by decide) (by decide) HZ3.out).mono ?_); rintro e w2 ⟨rfl, hb2⟩; rw [HV3.out]; replace hsv := hsv.below hb2; replace K := below_over K hb2 hw; replace hw := le_trans' hw hb2.size; replace c := box_cell K; replace q := (FT.out _ K).cells.1; replace ln := fun ty => (FT.out _ K).mem.run_len (ty := ty) (e := 140) Tryz.underlying137)
      | (go_at_call 113; refine (stale_M _ _ day _ hsv hl).mono ?_; rintro e w3 ⟨rfl, hb3⟩; rw [HST.out]; replace hsv := hsv.below hb3; replace K := below_over K hb3 hw; replace hw := le_trans' hw hb3.size; replace c := box_cell K; replace q := (FT.out _ K).cells.1; replace ln := fun ty => (FT.out _ K).mem.run_len (ty := ty) (e := 140) Tryz.underlying137)
      | (go_at_call 114; refine (taken_calls T t m _ (FT.out _ K) hok.out hf.out).mono ?_; rintro e w4 ⟨rfl, hb4⟩; rw [HTK.out]; replace hsv := hsv.below hb4; replace K := below_over K hb4 hw; replace hw := le_trans' hw hb4.size; replace c := box_cell K; replace q := (FT.out _ K).cells.1; replace ln := fun ty => (FT.out _ K).mem.run_len (ty := ty) (e := 140) Tryz.underlying137))
    go_ret
    refine ⟨ret_int HE.out.symm, ?_⟩
    rw [HS.out]
    exact ⟨FT.out _ K, Below.grow _ (HB0.trans (K.mono (Nat.le_succ _)))⟩
  | true => 
  have HV1 := Lib.hid hv1
  by_cases hz : m.lei = ByteArray.empty
  · have hz0 : (m.lei.toList == ([] : List UInt8)) = true := tl_empty.2 hz
    cases hst : stale (ser t.mem m.code) day with
    | true =>
      have HST := Lib.hid hst
      have HE : Hid (setMemberE vld t day m = 20) := by show setMemberE vld t day m = 20; simp [setMemberE, hd, hv1, hz, hst]
      have HS : Hid (setMember vld t day m = t) := by show setMember vld t day m = t; rw [setMember, HE.out]; rfl
      clear hd hv1 hz hst
      go_enter Tryz.func65, Tryz.ntmps65
      go_wp2
      go_quiet (fail)
      replace K := pw_below_drewN' K nq
      replace hw : w.heap.size + 1 ≤ ((w.alloc (.cells #[.string m.code, .string m.lei, .bool m.active] 40)).drewN nq).heap.size := by simp
      replace hsv := hsv.below (pw_below_drewN' (Below.refl _ _) nq)
      clear hrun
      go_wp2_with (first
        | (go_at_call 111; refine (isDay_calls _ _).mono ?_; rintro e w' ⟨rfl, rfl⟩; rw [HD.out])
        | (go_at_call 112; (with_reducible refine (VL.out 1 m.code _ (by decide) (by decide) HZ1.out).mono ?_); rintro e w1 ⟨rfl, hb1⟩; rw [HV1.out]; replace hsv := hsv.below hb1; replace K := below_over K hb1 hw; replace hw := le_trans' hw hb1.size; replace c := box_cell K; replace q := (FT.out _ K).cells.1; replace ln := fun ty => (FT.out _ K).mem.run_len (ty := ty) (e := 140) Tryz.underlying137)
        | (go_at_call 112; (with_reducible refine (VL.out 3 m.lei _ (by decide) (by decide) HZ3.out).mono ?_); rintro e w2 ⟨rfl, hb2⟩; rw [HV3.out]; replace hsv := hsv.below hb2; replace K := below_over K hb2 hw; replace hw := le_trans' hw hb2.size; replace c := box_cell K; replace q := (FT.out _ K).cells.1; replace ln := fun ty => (FT.out _ K).mem.run_len (ty := ty) (e := 140) Tryz.underlying137)
        | (go_at_call 113; refine (stale_M _ _ day _ hsv hl).mono ?_; rintro e w3 ⟨rfl, hb3⟩; rw [HST.out]; replace hsv := hsv.below hb3; replace K := below_over K hb3 hw; replace hw := le_trans' hw hb3.size; replace c := box_cell K; replace q := (FT.out _ K).cells.1; replace ln := fun ty => (FT.out _ K).mem.run_len (ty := ty) (e := 140) Tryz.underlying137)
        | (go_at_call 114; refine (taken_calls T t m _ (FT.out _ K) hok.out hf.out).mono ?_; rintro e w4 ⟨rfl, hb4⟩; rw [HTK.out]; replace hsv := hsv.below hb4; replace K := below_over K hb4 hw; replace hw := le_trans' hw hb4.size; replace c := box_cell K; replace q := (FT.out _ K).cells.1; replace ln := fun ty => (FT.out _ K).mem.run_len (ty := ty) (e := 140) Tryz.underlying137))
      go_ret
      refine ⟨ret_int HE.out.symm, ?_⟩
      rw [HS.out]
      exact ⟨FT.out _ K, Below.grow _ (HB0.trans (K.mono (Nat.le_succ _)))⟩
    | false =>
      have HST := Lib.hid hst
      have HE : Hid (setMemberE vld t day m = 0) := by show setMemberE vld t day m = 0; simp [setMemberE, hd, hv1, hz, hst]; have := hlen'.out; omega
      have HS : Hid (setMember vld t day m = { t with mem := upd t.mem m.code (seWith (ser t.mem m.code) day m) }) := by show setMember vld t day m = _; rw [setMember, if_pos HE.out]
      clear hd hv1 hz hst
      cases hk : (look t.mem m.code).isSome with
      | true =>
        go_enter Tryz.func65, Tryz.ntmps65
        go_wp2
        go_quiet (fail)
        replace K := pw_below_drewN' K nq
        replace hw : w.heap.size + 1 ≤ ((w.alloc (.cells #[.string m.code, .string m.lei, .bool m.active] 40)).drewN nq).heap.size := by simp
        replace hsv := hsv.below (pw_below_drewN' (Below.refl _ _) nq)
        clear hrun
        go_wp2_with (first
          | (go_at_call 111; refine (isDay_calls _ _).mono ?_; rintro e w' ⟨rfl, rfl⟩; rw [HD.out])
          | (go_at_call 112; (with_reducible refine (VL.out 1 m.code _ (by decide) (by decide) HZ1.out).mono ?_); rintro e w1 ⟨rfl, hb1⟩; rw [HV1.out]; replace hsv := hsv.below hb1; replace K := below_over K hb1 hw; replace hw := le_trans' hw hb1.size; replace c := box_cell K; replace q := (FT.out _ K).cells.1; replace ln := fun ty => (FT.out _ K).mem.run_len (ty := ty) (e := 140) Tryz.underlying137)
          | (go_at_call 112; (with_reducible refine (VL.out 3 m.lei _ (by decide) (by decide) HZ3.out).mono ?_); rintro e w2 ⟨rfl, hb2⟩; rw [HV3.out]; replace hsv := hsv.below hb2; replace K := below_over K hb2 hw; replace hw := le_trans' hw hb2.size; replace c := box_cell K; replace q := (FT.out _ K).cells.1; replace ln := fun ty => (FT.out _ K).mem.run_len (ty := ty) (e := 140) Tryz.underlying137)
          | (go_at_call 113; refine (stale_M _ _ day _ hsv hl).mono ?_; rintro e w3 ⟨rfl, hb3⟩; rw [HST.out]; replace hsv := hsv.below hb3; replace K := below_over K hb3 hw; replace hw := le_trans' hw hb3.size; replace c := box_cell K; replace q := (FT.out _ K).cells.1; replace ln := fun ty => (FT.out _ K).mem.run_len (ty := ty) (e := 140) Tryz.underlying137)
          | (go_at_call 114; refine (taken_calls T t m _ (FT.out _ K) hok.out hf.out).mono ?_; rintro e w4 ⟨rfl, hb4⟩; rw [HTK.out]; replace hsv := hsv.below hb4; replace K := below_over K hb4 hw; replace hw := le_trans' hw hb4.size; replace c := box_cell K; replace q := (FT.out _ K).cells.1; replace ln := fun ty => (FT.out _ K).mem.run_len (ty := ty) (e := 140) Tryz.underlying137))
        have FS : Hid (∀ W, Below (w.heap.size + 1) (w.alloc (.cells #[.string m.code, .string m.lei, .bool m.active] 40)) W → W.cell? ⟨T.p, 0, none⟩ = some (.map (some T.m0)) ∧ W.cell? ⟨w.heap.size, 0, none⟩ = some (.string m.code) ∧ W.cell? ⟨w.heap.size, 1, none⟩ = some (.string m.lei) ∧ W.cell? ⟨w.heap.size, 2, none⟩ = some (.bool m.active)) := fun W hW => ⟨(FT.out _ hW).cells.1, box_cell hW 0, box_cell hW 1, box_cell hW 2⟩
        have s3 := FS.out _ K
        clear q c ln
        go_region_held3 (fun w' => w'.cell? ⟨T.p, 0, none⟩ = some (.map (some T.m0)) ∧ w'.cell? ⟨w.heap.size, 0, none⟩ = some (.string m.code) ∧ w'.cell? ⟨w.heap.size, 1, none⟩ = some (.string m.lei) ∧ w'.cell? ⟨w.heap.size, 2, none⟩ = some (.bool m.active)) (first | go_keep)
          (first
            | (go_at_call 115; refine (with_M _ _ day m _ (hsv.below (Below.refl _ _).drew) hl9.out).mono ?_; rintro e w5 ⟨v5, rfl, hsv5, hb5⟩; have K5 := below_over K.drew hb5 hw; have s5 := FS.out _ K5; have hT : Hid (T.p < w5.heap.size ∧ T.p ≠ T.m0 ∧ w.heap.size < w5.heap.size ∧ w.heap.size ≠ T.m0) := ⟨(FT.out _ K5).plt, (FT.out _ K5).pm.1, le_trans' hw (hb5.size), HMB.out⟩; obtain ⟨w6, hrun6, hm6, hg6, hs6⟩ := (FT.out _ K5).mem.run_update Tryz.underlying137 Tryz.underlying9 m.code v5 _ (steady_ser _ _ _) hsv5; have s6 := (And.intro ((cell_grow hg6 hT.out.1 hT.out.2.1).trans s5.1) (And.intro ((cell_grow hg6 hT.out.2.2.1 hT.out.2.2.2).trans s5.2.1) (And.intro ((cell_grow hg6 hT.out.2.2.1 hT.out.2.2.2).trans s5.2.2.1) ((cell_grow hg6 hT.out.2.2.1 hT.out.2.2.2).trans s5.2.2.2))))))
        have HR := (FT.out _ K5).putM hm6 hg6
        have HG := grow_of (HB0.trans (K5.mono (Nat.le_succ _))) hg6
        go_wp2
        go_ret
        exact ⟨ret_int HE.out.symm, by rw [HS.out]; exact HR, HG⟩
      | false =>
        go_enter Tryz.func65, Tryz.ntmps65
        go_wp2
        go_quiet (fail)
        replace K := pw_below_drewN' K nq
        replace hw : w.heap.size + 1 ≤ ((w.alloc (.cells #[.string m.code, .string m.lei, .bool m.active] 40)).drewN nq).heap.size := by simp
        replace hsv := hsv.below (pw_below_drewN' (Below.refl _ _) nq)
        clear hrun
        go_wp2_with (first
          | (go_at_call 111; refine (isDay_calls _ _).mono ?_; rintro e w' ⟨rfl, rfl⟩; rw [HD.out])
          | (go_at_call 112; (with_reducible refine (VL.out 1 m.code _ (by decide) (by decide) HZ1.out).mono ?_); rintro e w1 ⟨rfl, hb1⟩; rw [HV1.out]; replace hsv := hsv.below hb1; replace K := below_over K hb1 hw; replace hw := le_trans' hw hb1.size; replace c := box_cell K; replace q := (FT.out _ K).cells.1; replace ln := fun ty => (FT.out _ K).mem.run_len (ty := ty) (e := 140) Tryz.underlying137)
          | (go_at_call 112; (with_reducible refine (VL.out 3 m.lei _ (by decide) (by decide) HZ3.out).mono ?_); rintro e w2 ⟨rfl, hb2⟩; rw [HV3.out]; replace hsv := hsv.below hb2; replace K := below_over K hb2 hw; replace hw := le_trans' hw hb2.size; replace c := box_cell K; replace q := (FT.out _ K).cells.1; replace ln := fun ty => (FT.out _ K).mem.run_len (ty := ty) (e := 140) Tryz.underlying137)
          | (go_at_call 113; refine (stale_M _ _ day _ hsv hl).mono ?_; rintro e w3 ⟨rfl, hb3⟩; rw [HST.out]; replace hsv := hsv.below hb3; replace K := below_over K hb3 hw; replace hw := le_trans' hw hb3.size; replace c := box_cell K; replace q := (FT.out _ K).cells.1; replace ln := fun ty => (FT.out _ K).mem.run_len (ty := ty) (e := 140) Tryz.underlying137)
          | (go_at_call 114; refine (taken_calls T t m _ (FT.out _ K) hok.out hf.out).mono ?_; rintro e w4 ⟨rfl, hb4⟩; rw [HTK.out]; replace hsv := hsv.below hb4; replace K := below_over K hb4 hw; replace hw := le_trans' hw hb4.size; replace c := box_cell K; replace q := (FT.out _ K).cells.1; replace ln := fun ty => (FT.out _ K).mem.run_len (ty := ty) (e := 140) Tryz.underlying137))
        have FS : Hid (∀ W, Below (w.heap.size + 1) (w.alloc (.cells #[.string m.code, .string m.lei, .bool m.active] 40)) W → W.cell? ⟨T.p, 0, none⟩ = some (.map (some T.m0)) ∧ W.cell? ⟨w.heap.size, 0, none⟩ = some (.string m.code) ∧ W.cell? ⟨w.heap.size, 1, none⟩ = some (.string m.lei) ∧ W.cell? ⟨w.heap.size, 2, none⟩ = some (.bool m.active)) := fun W hW => ⟨(FT.out _ hW).cells.1, box_cell hW 0, box_cell hW 1, box_cell hW 2⟩
        have s3 := FS.out _ K
        clear q c ln
        go_region_held3 (fun w' => w'.cell? ⟨T.p, 0, none⟩ = some (.map (some T.m0)) ∧ w'.cell? ⟨w.heap.size, 0, none⟩ = some (.string m.code) ∧ w'.cell? ⟨w.heap.size, 1, none⟩ = some (.string m.lei) ∧ w'.cell? ⟨w.heap.size, 2, none⟩ = some (.bool m.active)) (first | go_keep)
          (first
            | (go_at_call 115; refine (with_M _ _ day m _ (hsv.below (Below.refl _ _).drew) hl9.out).mono ?_; rintro e w5 ⟨v5, rfl, hsv5, hb5⟩; have K5 := below_over K.drew hb5 hw; have s5 := FS.out _ K5; have hT : Hid (T.p < w5.heap.size ∧ T.p ≠ T.m0 ∧ w.heap.size < w5.heap.size ∧ w.heap.size ≠ T.m0) := ⟨(FT.out _ K5).plt, (FT.out _ K5).pm.1, le_trans' hw (hb5.size), HMB.out⟩; obtain ⟨w6, hrun6, hm6, hg6, hs6⟩ := (FT.out _ K5).mem.run_update Tryz.underlying137 Tryz.underlying9 m.code v5 _ (steady_ser _ _ _) hsv5; have s6 := (And.intro ((cell_grow hg6 hT.out.1 hT.out.2.1).trans s5.1) (And.intro ((cell_grow hg6 hT.out.2.2.1 hT.out.2.2.2).trans s5.2.1) (And.intro ((cell_grow hg6 hT.out.2.2.1 hT.out.2.2.2).trans s5.2.2.1) ((cell_grow hg6 hT.out.2.2.1 hT.out.2.2.2).trans s5.2.2.2))))))
        have HR := (FT.out _ K5).putM hm6 hg6
        have HG := grow_of (HB0.trans (K5.mono (Nat.le_succ _))) hg6
        go_wp2
        go_ret
        exact ⟨ret_int HE.out.symm, by rw [HS.out]; exact HR, HG⟩
  · have hz0 : (m.lei.toList == ([] : List UInt8)) = false := by rw [← Bool.not_eq_true, tl_empty]; exact hz
    cases hv3 : vld 3 m.lei with
    | false =>
      have HV3 := Lib.hid hv3
      have HE : Hid (setMemberE vld t day m = 3) := by show setMemberE vld t day m = 3; simp [setMemberE, hd, hv1, hz, hv3]
      have HS : Hid (setMember vld t day m = t) := by show setMember vld t day m = t; rw [setMember, HE.out]; rfl
      clear hd hv1 hz hv3
      go_enter Tryz.func65, Tryz.ntmps65
      go_wp2
      go_quiet (fail)
      replace K := pw_below_drewN' K nq
      replace hw : w.heap.size + 1 ≤ ((w.alloc (.cells #[.string m.code, .string m.lei, .bool m.active] 40)).drewN nq).heap.size := by simp
      replace hsv := hsv.below (pw_below_drewN' (Below.refl _ _) nq)
      clear hrun
      go_wp2_with (first
        | (go_at_call 111; refine (isDay_calls _ _).mono ?_; rintro e w' ⟨rfl, rfl⟩; rw [HD.out])
        | (go_at_call 112; (with_reducible refine (VL.out 1 m.code _ (by decide) (by decide) HZ1.out).mono ?_); rintro e w1 ⟨rfl, hb1⟩; rw [HV1.out]; replace hsv := hsv.below hb1; replace K := below_over K hb1 hw; replace hw := le_trans' hw hb1.size; replace c := box_cell K; replace q := (FT.out _ K).cells.1; replace ln := fun ty => (FT.out _ K).mem.run_len (ty := ty) (e := 140) Tryz.underlying137)
        | (go_at_call 112; (with_reducible refine (VL.out 3 m.lei _ (by decide) (by decide) HZ3.out).mono ?_); rintro e w2 ⟨rfl, hb2⟩; rw [HV3.out]; replace hsv := hsv.below hb2; replace K := below_over K hb2 hw; replace hw := le_trans' hw hb2.size; replace c := box_cell K; replace q := (FT.out _ K).cells.1; replace ln := fun ty => (FT.out _ K).mem.run_len (ty := ty) (e := 140) Tryz.underlying137)
        | (go_at_call 113; refine (stale_M _ _ day _ hsv hl).mono ?_; rintro e w3 ⟨rfl, hb3⟩; rw [HST.out]; replace hsv := hsv.below hb3; replace K := below_over K hb3 hw; replace hw := le_trans' hw hb3.size; replace c := box_cell K; replace q := (FT.out _ K).cells.1; replace ln := fun ty => (FT.out _ K).mem.run_len (ty := ty) (e := 140) Tryz.underlying137)
        | (go_at_call 114; refine (taken_calls T t m _ (FT.out _ K) hok.out hf.out).mono ?_; rintro e w4 ⟨rfl, hb4⟩; rw [HTK.out]; replace hsv := hsv.below hb4; replace K := below_over K hb4 hw; replace hw := le_trans' hw hb4.size; replace c := box_cell K; replace q := (FT.out _ K).cells.1; replace ln := fun ty => (FT.out _ K).mem.run_len (ty := ty) (e := 140) Tryz.underlying137))
      go_ret
      refine ⟨ret_int HE.out.symm, ?_⟩
      rw [HS.out]
      exact ⟨FT.out _ K, Below.grow _ (HB0.trans (K.mono (Nat.le_succ _)))⟩
    | true =>
    have HV3 := Lib.hid hv3
    cases hst : stale (ser t.mem m.code) day with
    | true =>
      have HST := Lib.hid hst
      have HE : Hid (setMemberE vld t day m = 20) := by show setMemberE vld t day m = 20; simp [setMemberE, hd, hv1, hz, hv3, hst]
      have HS : Hid (setMember vld t day m = t) := by show setMember vld t day m = t; rw [setMember, HE.out]; rfl
      clear hd hv1 hz hv3 hst
      go_enter Tryz.func65, Tryz.ntmps65
      go_wp2
      go_quiet (fail)
      replace K := pw_below_drewN' K nq
      replace hw : w.heap.size + 1 ≤ ((w.alloc (.cells #[.string m.code, .string m.lei, .bool m.active] 40)).drewN nq).heap.size := by simp
      replace hsv := hsv.below (pw_below_drewN' (Below.refl _ _) nq)
      clear hrun
      go_wp2_with (first
        | (go_at_call 111; refine (isDay_calls _ _).mono ?_; rintro e w' ⟨rfl, rfl⟩; rw [HD.out])
        | (go_at_call 112; (with_reducible refine (VL.out 1 m.code _ (by decide) (by decide) HZ1.out).mono ?_); rintro e w1 ⟨rfl, hb1⟩; rw [HV1.out]; replace hsv := hsv.below hb1; replace K := below_over K hb1 hw; replace hw := le_trans' hw hb1.size; replace c := box_cell K; replace q := (FT.out _ K).cells.1; replace ln := fun ty => (FT.out _ K).mem.run_len (ty := ty) (e := 140) Tryz.underlying137)
        | (go_at_call 112; (with_reducible refine (VL.out 3 m.lei _ (by decide) (by decide) HZ3.out).mono ?_); rintro e w2 ⟨rfl, hb2⟩; rw [HV3.out]; replace hsv := hsv.below hb2; replace K := below_over K hb2 hw; replace hw := le_trans' hw hb2.size; replace c := box_cell K; replace q := (FT.out _ K).cells.1; replace ln := fun ty => (FT.out _ K).mem.run_len (ty := ty) (e := 140) Tryz.underlying137)
        | (go_at_call 113; refine (stale_M _ _ day _ hsv hl).mono ?_; rintro e w3 ⟨rfl, hb3⟩; rw [HST.out]; replace hsv := hsv.below hb3; replace K := below_over K hb3 hw; replace hw := le_trans' hw hb3.size; replace c := box_cell K; replace q := (FT.out _ K).cells.1; replace ln := fun ty => (FT.out _ K).mem.run_len (ty := ty) (e := 140) Tryz.underlying137)
        | (go_at_call 114; refine (taken_calls T t m _ (FT.out _ K) hok.out hf.out).mono ?_; rintro e w4 ⟨rfl, hb4⟩; rw [HTK.out]; replace hsv := hsv.below hb4; replace K := below_over K hb4 hw; replace hw := le_trans' hw hb4.size; replace c := box_cell K; replace q := (FT.out _ K).cells.1; replace ln := fun ty => (FT.out _ K).mem.run_len (ty := ty) (e := 140) Tryz.underlying137))
      go_ret
      refine ⟨ret_int HE.out.symm, ?_⟩
      rw [HS.out]
      exact ⟨FT.out _ K, Below.grow _ (HB0.trans (K.mono (Nat.le_succ _)))⟩
    | false =>
    have HST := Lib.hid hst
    cases htk : taken t m with
    | true =>
      have HTK := Lib.hid htk
      have HE : Hid (setMemberE vld t day m = 7) := by show setMemberE vld t day m = 7; simp [setMemberE, hd, hv1, hz, hv3, hst, htk]
      have HS : Hid (setMember vld t day m = t) := by show setMember vld t day m = t; rw [setMember, HE.out]; rfl
      clear hd hv1 hz hv3 hst htk
      go_enter Tryz.func65, Tryz.ntmps65
      go_wp2
      go_quiet (fail)
      replace K := pw_below_drewN' K nq
      replace hw : w.heap.size + 1 ≤ ((w.alloc (.cells #[.string m.code, .string m.lei, .bool m.active] 40)).drewN nq).heap.size := by simp
      replace hsv := hsv.below (pw_below_drewN' (Below.refl _ _) nq)
      clear hrun
      go_wp2_with (first
        | (go_at_call 111; refine (isDay_calls _ _).mono ?_; rintro e w' ⟨rfl, rfl⟩; rw [HD.out])
        | (go_at_call 112; (with_reducible refine (VL.out 1 m.code _ (by decide) (by decide) HZ1.out).mono ?_); rintro e w1 ⟨rfl, hb1⟩; rw [HV1.out]; replace hsv := hsv.below hb1; replace K := below_over K hb1 hw; replace hw := le_trans' hw hb1.size; replace c := box_cell K; replace q := (FT.out _ K).cells.1; replace ln := fun ty => (FT.out _ K).mem.run_len (ty := ty) (e := 140) Tryz.underlying137)
        | (go_at_call 112; (with_reducible refine (VL.out 3 m.lei _ (by decide) (by decide) HZ3.out).mono ?_); rintro e w2 ⟨rfl, hb2⟩; rw [HV3.out]; replace hsv := hsv.below hb2; replace K := below_over K hb2 hw; replace hw := le_trans' hw hb2.size; replace c := box_cell K; replace q := (FT.out _ K).cells.1; replace ln := fun ty => (FT.out _ K).mem.run_len (ty := ty) (e := 140) Tryz.underlying137)
        | (go_at_call 113; refine (stale_M _ _ day _ hsv hl).mono ?_; rintro e w3 ⟨rfl, hb3⟩; rw [HST.out]; replace hsv := hsv.below hb3; replace K := below_over K hb3 hw; replace hw := le_trans' hw hb3.size; replace c := box_cell K; replace q := (FT.out _ K).cells.1; replace ln := fun ty => (FT.out _ K).mem.run_len (ty := ty) (e := 140) Tryz.underlying137)
        | (go_at_call 114; refine (taken_calls T t m _ (FT.out _ K) hok.out hf.out).mono ?_; rintro e w4 ⟨rfl, hb4⟩; rw [HTK.out]; replace hsv := hsv.below hb4; replace K := below_over K hb4 hw; replace hw := le_trans' hw hb4.size; replace c := box_cell K; replace q := (FT.out _ K).cells.1; replace ln := fun ty => (FT.out _ K).mem.run_len (ty := ty) (e := 140) Tryz.underlying137))
      go_ret
      refine ⟨ret_int HE.out.symm, ?_⟩
      rw [HS.out]
      exact ⟨FT.out _ K, Below.grow _ (HB0.trans (K.mono (Nat.le_succ _)))⟩
    | false =>
      have HTK := Lib.hid htk
      have HE : Hid (setMemberE vld t day m = 0) := by show setMemberE vld t day m = 0; simp [setMemberE, hd, hv1, hz, hv3, hst, htk]; have := hlen'.out; omega
      have HS : Hid (setMember vld t day m = { t with mem := upd t.mem m.code (seWith (ser t.mem m.code) day m) }) := by show setMember vld t day m = _; rw [setMember, if_pos HE.out]
      clear hd hv1 hz hv3 hst htk
      cases hk : (look t.mem m.code).isSome with
      | true =>
        go_enter Tryz.func65, Tryz.ntmps65
        go_wp2
        go_quiet (fail)
        replace K := pw_below_drewN' K nq
        replace hw : w.heap.size + 1 ≤ ((w.alloc (.cells #[.string m.code, .string m.lei, .bool m.active] 40)).drewN nq).heap.size := by simp
        replace hsv := hsv.below (pw_below_drewN' (Below.refl _ _) nq)
        clear hrun
        go_wp2_with (first
          | (go_at_call 111; refine (isDay_calls _ _).mono ?_; rintro e w' ⟨rfl, rfl⟩; rw [HD.out])
          | (go_at_call 112; (with_reducible refine (VL.out 1 m.code _ (by decide) (by decide) HZ1.out).mono ?_); rintro e w1 ⟨rfl, hb1⟩; rw [HV1.out]; replace hsv := hsv.below hb1; replace K := below_over K hb1 hw; replace hw := le_trans' hw hb1.size; replace c := box_cell K; replace q := (FT.out _ K).cells.1; replace ln := fun ty => (FT.out _ K).mem.run_len (ty := ty) (e := 140) Tryz.underlying137)
          | (go_at_call 112; (with_reducible refine (VL.out 3 m.lei _ (by decide) (by decide) HZ3.out).mono ?_); rintro e w2 ⟨rfl, hb2⟩; rw [HV3.out]; replace hsv := hsv.below hb2; replace K := below_over K hb2 hw; replace hw := le_trans' hw hb2.size; replace c := box_cell K; replace q := (FT.out _ K).cells.1; replace ln := fun ty => (FT.out _ K).mem.run_len (ty := ty) (e := 140) Tryz.underlying137)
          | (go_at_call 113; refine (stale_M _ _ day _ hsv hl).mono ?_; rintro e w3 ⟨rfl, hb3⟩; rw [HST.out]; replace hsv := hsv.below hb3; replace K := below_over K hb3 hw; replace hw := le_trans' hw hb3.size; replace c := box_cell K; replace q := (FT.out _ K).cells.1; replace ln := fun ty => (FT.out _ K).mem.run_len (ty := ty) (e := 140) Tryz.underlying137)
          | (go_at_call 114; refine (taken_calls T t m _ (FT.out _ K) hok.out hf.out).mono ?_; rintro e w4 ⟨rfl, hb4⟩; rw [HTK.out]; replace hsv := hsv.below hb4; replace K := below_over K hb4 hw; replace hw := le_trans' hw hb4.size; replace c := box_cell K; replace q := (FT.out _ K).cells.1; replace ln := fun ty => (FT.out _ K).mem.run_len (ty := ty) (e := 140) Tryz.underlying137))
        have FS : Hid (∀ W, Below (w.heap.size + 1) (w.alloc (.cells #[.string m.code, .string m.lei, .bool m.active] 40)) W → W.cell? ⟨T.p, 0, none⟩ = some (.map (some T.m0)) ∧ W.cell? ⟨w.heap.size, 0, none⟩ = some (.string m.code) ∧ W.cell? ⟨w.heap.size, 1, none⟩ = some (.string m.lei) ∧ W.cell? ⟨w.heap.size, 2, none⟩ = some (.bool m.active)) := fun W hW => ⟨(FT.out _ hW).cells.1, box_cell hW 0, box_cell hW 1, box_cell hW 2⟩
        have s3 := FS.out _ K
        clear q c ln
        go_region_held3 (fun w' => w'.cell? ⟨T.p, 0, none⟩ = some (.map (some T.m0)) ∧ w'.cell? ⟨w.heap.size, 0, none⟩ = some (.string m.code) ∧ w'.cell? ⟨w.heap.size, 1, none⟩ = some (.string m.lei) ∧ w'.cell? ⟨w.heap.size, 2, none⟩ = some (.bool m.active)) (first | go_keep)
          (first
            | (go_at_call 115; refine (with_M _ _ day m _ (hsv.below (Below.refl _ _).drew) hl9.out).mono ?_; rintro e w5 ⟨v5, rfl, hsv5, hb5⟩; have K5 := below_over K.drew hb5 hw; have s5 := FS.out _ K5; have hT : Hid (T.p < w5.heap.size ∧ T.p ≠ T.m0 ∧ w.heap.size < w5.heap.size ∧ w.heap.size ≠ T.m0) := ⟨(FT.out _ K5).plt, (FT.out _ K5).pm.1, le_trans' hw (hb5.size), HMB.out⟩; obtain ⟨w6, hrun6, hm6, hg6, hs6⟩ := (FT.out _ K5).mem.run_update Tryz.underlying137 Tryz.underlying9 m.code v5 _ (steady_ser _ _ _) hsv5; have s6 := (And.intro ((cell_grow hg6 hT.out.1 hT.out.2.1).trans s5.1) (And.intro ((cell_grow hg6 hT.out.2.2.1 hT.out.2.2.2).trans s5.2.1) (And.intro ((cell_grow hg6 hT.out.2.2.1 hT.out.2.2.2).trans s5.2.2.1) ((cell_grow hg6 hT.out.2.2.1 hT.out.2.2.2).trans s5.2.2.2))))))
        have HR := (FT.out _ K5).putM hm6 hg6
        have HG := grow_of (HB0.trans (K5.mono (Nat.le_succ _))) hg6
        go_wp2
        go_ret
        exact ⟨ret_int HE.out.symm, by rw [HS.out]; exact HR, HG⟩
      | false =>
        go_enter Tryz.func65, Tryz.ntmps65
        go_wp2
        go_quiet (fail)
        replace K := pw_below_drewN' K nq
        replace hw : w.heap.size + 1 ≤ ((w.alloc (.cells #[.string m.code, .string m.lei, .bool m.active] 40)).drewN nq).heap.size := by simp
        replace hsv := hsv.below (pw_below_drewN' (Below.refl _ _) nq)
        clear hrun
        go_wp2_with (first
          | (go_at_call 111; refine (isDay_calls _ _).mono ?_; rintro e w' ⟨rfl, rfl⟩; rw [HD.out])
          | (go_at_call 112; (with_reducible refine (VL.out 1 m.code _ (by decide) (by decide) HZ1.out).mono ?_); rintro e w1 ⟨rfl, hb1⟩; rw [HV1.out]; replace hsv := hsv.below hb1; replace K := below_over K hb1 hw; replace hw := le_trans' hw hb1.size; replace c := box_cell K; replace q := (FT.out _ K).cells.1; replace ln := fun ty => (FT.out _ K).mem.run_len (ty := ty) (e := 140) Tryz.underlying137)
          | (go_at_call 112; (with_reducible refine (VL.out 3 m.lei _ (by decide) (by decide) HZ3.out).mono ?_); rintro e w2 ⟨rfl, hb2⟩; rw [HV3.out]; replace hsv := hsv.below hb2; replace K := below_over K hb2 hw; replace hw := le_trans' hw hb2.size; replace c := box_cell K; replace q := (FT.out _ K).cells.1; replace ln := fun ty => (FT.out _ K).mem.run_len (ty := ty) (e := 140) Tryz.underlying137)
          | (go_at_call 113; refine (stale_M _ _ day _ hsv hl).mono ?_; rintro e w3 ⟨rfl, hb3⟩; rw [HST.out]; replace hsv := hsv.below hb3; replace K := below_over K hb3 hw; replace hw := le_trans' hw hb3.size; replace c := box_cell K; replace q := (FT.out _ K).cells.1; replace ln := fun ty => (FT.out _ K).mem.run_len (ty := ty) (e := 140) Tryz.underlying137)
          | (go_at_call 114; refine (taken_calls T t m _ (FT.out _ K) hok.out hf.out).mono ?_; rintro e w4 ⟨rfl, hb4⟩; rw [HTK.out]; replace hsv := hsv.below hb4; replace K := below_over K hb4 hw; replace hw := le_trans' hw hb4.size; replace c := box_cell K; replace q := (FT.out _ K).cells.1; replace ln := fun ty => (FT.out _ K).mem.run_len (ty := ty) (e := 140) Tryz.underlying137))
        have FS : Hid (∀ W, Below (w.heap.size + 1) (w.alloc (.cells #[.string m.code, .string m.lei, .bool m.active] 40)) W → W.cell? ⟨T.p, 0, none⟩ = some (.map (some T.m0)) ∧ W.cell? ⟨w.heap.size, 0, none⟩ = some (.string m.code) ∧ W.cell? ⟨w.heap.size, 1, none⟩ = some (.string m.lei) ∧ W.cell? ⟨w.heap.size, 2, none⟩ = some (.bool m.active)) := fun W hW => ⟨(FT.out _ hW).cells.1, box_cell hW 0, box_cell hW 1, box_cell hW 2⟩
        have s3 := FS.out _ K
        clear q c ln
        go_region_held3 (fun w' => w'.cell? ⟨T.p, 0, none⟩ = some (.map (some T.m0)) ∧ w'.cell? ⟨w.heap.size, 0, none⟩ = some (.string m.code) ∧ w'.cell? ⟨w.heap.size, 1, none⟩ = some (.string m.lei) ∧ w'.cell? ⟨w.heap.size, 2, none⟩ = some (.bool m.active)) (first | go_keep)
          (first
            | (go_at_call 115; refine (with_M _ _ day m _ (hsv.below (Below.refl _ _).drew) hl9.out).mono ?_; rintro e w5 ⟨v5, rfl, hsv5, hb5⟩; have K5 := below_over K.drew hb5 hw; have s5 := FS.out _ K5; have hT : Hid (T.p < w5.heap.size ∧ T.p ≠ T.m0 ∧ w.heap.size < w5.heap.size ∧ w.heap.size ≠ T.m0) := ⟨(FT.out _ K5).plt, (FT.out _ K5).pm.1, le_trans' hw (hb5.size), HMB.out⟩; obtain ⟨w6, hrun6, hm6, hg6, hs6⟩ := (FT.out _ K5).mem.run_update Tryz.underlying137 Tryz.underlying9 m.code v5 _ (steady_ser _ _ _) hsv5; have s6 := (And.intro ((cell_grow hg6 hT.out.1 hT.out.2.1).trans s5.1) (And.intro ((cell_grow hg6 hT.out.2.2.1 hT.out.2.2.2).trans s5.2.1) (And.intro ((cell_grow hg6 hT.out.2.2.1 hT.out.2.2.2).trans s5.2.2.1) ((cell_grow hg6 hT.out.2.2.1 hT.out.2.2.2).trans s5.2.2.2))))))
        have HR := (FT.out _ K5).putM hm6 hg6
        have HG := grow_of (HB0.trans (K5.mono (Nat.le_succ _))) hg6
        go_wp2
        go_ret
        exact ⟨ret_int HE.out.symm, by rw [HS.out]; exact HR, HG⟩

theorem setMember_nil (day : Int) (m : MV) (w : World) : Calls Tryz.prog 65 #[.pointer none, .int .i64 day, .agg #[.string m.code, .string m.lei, .bool m.active]] w fun e w' => e = .returned (.int .i64 1) ∧ Below w.heap.size w w' := by
  go_enter Tryz.func65, Tryz.ntmps65
  go_wp2
  go_ret
  exact ⟨rfl, (Below.refl _ _).alloc (Nat.le_refl _) _⟩
end Go.Proofs.YtmbhkfclpkopiaaGreatDoor
