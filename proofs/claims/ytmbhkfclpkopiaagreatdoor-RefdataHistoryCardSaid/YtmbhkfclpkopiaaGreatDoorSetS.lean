/- SetSecurity. -/
import Derived.Test.YtmbhkfclpkopiaaGreatDoorSetM
namespace Go.Proofs.YtmbhkfclpkopiaaGreatDoor
open Go.RowKit
set_option linter.unusedVariables false
set_option linter.unusedSimpArgs false

theorem optE_S (o : Option (Int × SV)) : ∃ d i s l a, (optE encS zencS o).toArray = #[.int .i64 d, .string i, .string s, .int .i64 l, .bool a] := by
  cases o with
  | none => exact ⟨_, _, _, _, _, rfl⟩
  | some x => exact ⟨_, _, _, _, _, rfl⟩
theorem optV_M (o : Option (Int × MV)) : ∃ i s a, (optV encM zencM o).toArray = #[.string i, .string s, .bool a] := by
  cases o with
  | none => exact ⟨_, _, _, rfl⟩
  | some x => exact ⟨_, _, _, rfl⟩


theorem sz_alloc (w : World) (o : Obj) : w.heap.size ≤ (w.alloc o).heap.size := by simp
theorem sz_alloc1 (w : World) (o : Obj) : w.heap.size + 1 ≤ (w.alloc o).heap.size := by simp

set_option maxRecDepth 10000 in
set_option maxHeartbeats 1000000 in
theorem setSecurity_calls (vld : Int → ByteArray → Bool) (hvl : VldSays vld) (T : TB) (t : Tab) (day : Int) (x : SV) (w : World) (hz1 : x.isin.size ≤ 9223372036854775807) (h : TabAt w T t) (hOK : TabOk t) (hF : TabFit 800 t) :
    Calls Tryz.prog 70 #[.pointer (some ⟨T.p, 0, none⟩), .int .i64 day, .agg #[.string x.isin, .string x.issuer, .int .i64 x.lot, .bool x.active]] w fun e w' => e = .returned (.int .i64 (setSecurityE vld t day x)) ∧ TabAt w' T (setSecurity vld t day x) ∧ w.grownBy w' (some T.m1) := by
  have HB0 : Below w.heap.size w (w.alloc (.cells #[.string x.isin, .string x.issuer, .int .i64 x.lot, .bool x.active] 44)) := (Below.refl _ _).alloc (Nat.le_refl _) _
  have HT := h.below HB0
  have K : Below (w.heap.size + 1) (w.alloc (.cells #[.string x.isin, .string x.issuer, .int .i64 x.lot, .bool x.active] 44)) (w.alloc (.cells #[.string x.isin, .string x.issuer, .int .i64 x.lot, .bool x.active] 44)) := Below.refl _ _
  have FT : Hid (∀ W, Below (w.heap.size + 1) (w.alloc (.cells #[.string x.isin, .string x.issuer, .int .i64 x.lot, .bool x.active] 44)) W → TabAt W T t) := fun W hW => HT.below (hW.mono (by simp))
  obtain ⟨sv, hsv, hrun⟩ := HT.sec.run_ser Tryz.underlying142 Tryz.underlying9 zeroV_151 x.isin true
  have q := HT.cells.2.1
  have c := box_cell K
  have hw : w.heap.size + 1 ≤ (w.alloc (.cells #[.string x.isin, .string x.issuer, .int .i64 x.lot, .bool x.active] 44)).heap.size := by simp
  have hl : (ser t.sec x.isin).length ≤ 1000 := Nat.le_trans (hF.sec.ser _) (by decide)
  have hl9 := Lib.hid (Nat.le_trans (hF.sec.ser x.isin) (show 800 ≤ 900 by decide))
  have hlen : decide ((4096 : Int) ≤ (t.sec.length : Int)) = false := by have := hF.sec.1; simp; omega
  have hlen' := Lib.hid hF.sec.1
  have VL := Lib.hid hvl
  have HZ1 := Lib.hid hz1
  clear hz1
  have HMB : Hid (w.heap.size ≠ T.m1) := Nat.ne_of_gt h.sec.lt
  have hok := Lib.hid hOK.mem
  have hkn := Lib.hid (hOK.sec.known x.isin)
  have hf : Hid (TbFit 900 t.mem) := ⟨Nat.le_trans hF.mem.1 (by decide), fun x hx => Nat.le_trans (hF.mem.2 x hx) (by decide)⟩
  obtain ⟨d0, i0, s0, l0, a0, hXL⟩ := optE_S (ser t.sec x.isin).getLast?
  obtain ⟨i1, s1, a1, hXM⟩ := optV_M (seAt (ser t.mem x.issuer) day)
  obtain ⟨ms, hms⟩ : ∃ b, (seAt (ser t.mem x.issuer) day).isSome = b := ⟨_, rfl⟩
  have HXL := Lib.hid hXL
  have HXM := Lib.hid hXM
  have HMS := Lib.hid hms
  clear hvl hOK hF h HT hXL hXM
  cases hd : isDay day with
  | false =>
    have HE : Hid (setSecurityE vld t day x = 28) := by show setSecurityE vld t day x = 28; simp [setSecurityE, hd]
    have HD := Lib.hid hd
    have HS : Hid (setSecurity vld t day x = t) := by show setSecurity vld t day x = t; rw [setSecurity, HE.out]; rfl
    clear hd hms
    go_enter Tryz.func70, Tryz.ntmps70
    go_wp2
    go_quiet (fail)
    replace K := pw_below_drewN' K nq
    replace hw : w.heap.size + 1 ≤ ((w.alloc (.cells #[.string x.isin, .string x.issuer, .int .i64 x.lot, .bool x.active] 44)).drewN nq).heap.size := by simp
    replace hsv := hsv.below (pw_below_drewN' (Below.refl _ _) nq)
    clear hrun
    go_wp2_with (first
      | (go_at_call 117; refine (last_S _ _ _ hsv hl).mono ?_; rintro e w1 ⟨rfl, hb1⟩; rw [HXL.out]; replace hsv := hsv.below hb1; replace K := below_over K hb1 hw; replace hw := le_trans' hw hb1.size; replace hsv := hsv.below ((Below.refl _ _).alloc (Nat.le_refl _) (.cells #[.int .i64 d0, .string i0, .string s0, .int .i64 l0, .bool a0] 166)); replace K := K.alloc hw (.cells #[.int .i64 d0, .string i0, .string s0, .int .i64 l0, .bool a0] 166); replace hw := le_trans' hw (sz_alloc _ (.cells #[.int .i64 d0, .string i0, .string s0, .int .i64 l0, .bool a0] 166)); replace c := box_cell K; replace q := (FT.out _ K).cells.2.1; have K9 : Below (w1.heap.size + 1) (w1.alloc (.cells #[.int .i64 d0, .string i0, .string s0, .int .i64 l0, .bool a0] 166)) (w1.alloc (.cells #[.int .i64 d0, .string i0, .string s0, .int .i64 l0, .bool a0] 166)) := Below.refl _ _; have hw9 := sz_alloc1 w1 (.cells #[.int .i64 d0, .string i0, .string s0, .int .i64 l0, .bool a0] 166))
      | (go_at_call 26; refine (get_M T t day _ _ (FT.out _ K) hok.out hf.out).mono ?_; rintro e w2 ⟨rfl, hb2⟩; rw [HXM.out, HMS.out]; replace hsv := hsv.below hb2; replace K := below_over K hb2 hw; replace K9 := below_over K9 hb2 hw9; replace hw := le_trans' hw hb2.size; replace hw9 := le_trans' hw9 hb2.size; replace hsv := hsv.below ((Below.refl _ _).alloc (Nat.le_refl _) (.cells #[.string i1, .string s1, .bool a1] 40)); replace K := K.alloc hw (.cells #[.string i1, .string s1, .bool a1] 40); replace K9 := K9.alloc hw9 (.cells #[.string i1, .string s1, .bool a1] 40); replace hw := le_trans' hw (sz_alloc _ (.cells #[.string i1, .string s1, .bool a1] 40)); replace hw9 := le_trans' hw9 (sz_alloc _ (.cells #[.string i1, .string s1, .bool a1] 40)); replace c := box_cell K; have c9 := box_cell K9; replace q := (FT.out _ K).cells.2.1)
      | (go_at_call 111; refine (isDay_calls _ _).mono ?_; rintro e w' ⟨rfl, rfl⟩; rw [HD.out])
      | (go_at_call 112; refine (VL.out 0 x.isin _ (by decide) (by decide) HZ1.out).mono ?_; rintro e w3 ⟨rfl, hb3⟩; rw [HV1.out]; replace hsv := hsv.below hb3; replace K := below_over K hb3 hw; replace K9 := below_over K9 hb3 hw9; replace hw := le_trans' hw hb3.size; replace hw9 := le_trans' hw9 hb3.size; replace c := box_cell K; replace c9 := box_cell K9; replace q := (FT.out _ K).cells.2.1)
      | (go_at_call 118; refine (stale_S _ _ day _ hsv hl).mono ?_; rintro e w4 ⟨rfl, hb4⟩; rw [HST.out]; replace hsv := hsv.below hb4; replace K := below_over K hb4 hw; replace K9 := below_over K9 hb4 hw9; replace hw := le_trans' hw hb4.size; replace hw9 := le_trans' hw9 hb4.size; replace c := box_cell K; replace c9 := box_cell K9; replace q := (FT.out _ K).cells.2.1; have ln := fun ty => (FT.out _ K).sec.run_len (ty := ty) (e := 151) Tryz.underlying142))
    go_ret
    refine ⟨ret_int HE.out.symm, ?_⟩
    rw [HS.out]
    exact ⟨FT.out _ K, Below.grow _ (HB0.trans (K.mono (Nat.le_succ _)))⟩
  | true =>
  have HD := Lib.hid hd
  cases hv1 : vld 0 x.isin with
  | false =>
    have HE : Hid (setSecurityE vld t day x = 6) := by show setSecurityE vld t day x = 6; simp [setSecurityE, hd, hv1]
    have HV1 := Lib.hid hv1
    have HS : Hid (setSecurity vld t day x = t) := by show setSecurity vld t day x = t; rw [setSecurity, HE.out]; rfl
    clear hd hv1 hms
    go_enter Tryz.func70, Tryz.ntmps70
    go_wp2
    go_quiet (fail)
    replace K := pw_below_drewN' K nq
    replace hw : w.heap.size + 1 ≤ ((w.alloc (.cells #[.string x.isin, .string x.issuer, .int .i64 x.lot, .bool x.active] 44)).drewN nq).heap.size := by simp
    replace hsv := hsv.below (pw_below_drewN' (Below.refl _ _) nq)
    clear hrun
    go_wp2_with (first
      | (go_at_call 117; refine (last_S _ _ _ hsv hl).mono ?_; rintro e w1 ⟨rfl, hb1⟩; rw [HXL.out]; replace hsv := hsv.below hb1; replace K := below_over K hb1 hw; replace hw := le_trans' hw hb1.size; replace hsv := hsv.below ((Below.refl _ _).alloc (Nat.le_refl _) (.cells #[.int .i64 d0, .string i0, .string s0, .int .i64 l0, .bool a0] 166)); replace K := K.alloc hw (.cells #[.int .i64 d0, .string i0, .string s0, .int .i64 l0, .bool a0] 166); replace hw := le_trans' hw (sz_alloc _ (.cells #[.int .i64 d0, .string i0, .string s0, .int .i64 l0, .bool a0] 166)); replace c := box_cell K; replace q := (FT.out _ K).cells.2.1; have K9 : Below (w1.heap.size + 1) (w1.alloc (.cells #[.int .i64 d0, .string i0, .string s0, .int .i64 l0, .bool a0] 166)) (w1.alloc (.cells #[.int .i64 d0, .string i0, .string s0, .int .i64 l0, .bool a0] 166)) := Below.refl _ _; have hw9 := sz_alloc1 w1 (.cells #[.int .i64 d0, .string i0, .string s0, .int .i64 l0, .bool a0] 166))
      | (go_at_call 26; refine (get_M T t day _ _ (FT.out _ K) hok.out hf.out).mono ?_; rintro e w2 ⟨rfl, hb2⟩; rw [HXM.out, HMS.out]; replace hsv := hsv.below hb2; replace K := below_over K hb2 hw; replace K9 := below_over K9 hb2 hw9; replace hw := le_trans' hw hb2.size; replace hw9 := le_trans' hw9 hb2.size; replace hsv := hsv.below ((Below.refl _ _).alloc (Nat.le_refl _) (.cells #[.string i1, .string s1, .bool a1] 40)); replace K := K.alloc hw (.cells #[.string i1, .string s1, .bool a1] 40); replace K9 := K9.alloc hw9 (.cells #[.string i1, .string s1, .bool a1] 40); replace hw := le_trans' hw (sz_alloc _ (.cells #[.string i1, .string s1, .bool a1] 40)); replace hw9 := le_trans' hw9 (sz_alloc _ (.cells #[.string i1, .string s1, .bool a1] 40)); replace c := box_cell K; have c9 := box_cell K9; replace q := (FT.out _ K).cells.2.1)
      | (go_at_call 111; refine (isDay_calls _ _).mono ?_; rintro e w' ⟨rfl, rfl⟩; rw [HD.out])
      | (go_at_call 112; refine (VL.out 0 x.isin _ (by decide) (by decide) HZ1.out).mono ?_; rintro e w3 ⟨rfl, hb3⟩; rw [HV1.out]; replace hsv := hsv.below hb3; replace K := below_over K hb3 hw; replace K9 := below_over K9 hb3 hw9; replace hw := le_trans' hw hb3.size; replace hw9 := le_trans' hw9 hb3.size; replace c := box_cell K; replace c9 := box_cell K9; replace q := (FT.out _ K).cells.2.1)
      | (go_at_call 118; refine (stale_S _ _ day _ hsv hl).mono ?_; rintro e w4 ⟨rfl, hb4⟩; rw [HST.out]; replace hsv := hsv.below hb4; replace K := below_over K hb4 hw; replace K9 := below_over K9 hb4 hw9; replace hw := le_trans' hw hb4.size; replace hw9 := le_trans' hw9 hb4.size; replace c := box_cell K; replace c9 := box_cell K9; replace q := (FT.out _ K).cells.2.1; have ln := fun ty => (FT.out _ K).sec.run_len (ty := ty) (e := 151) Tryz.underlying142))
    go_ret
    refine ⟨ret_int HE.out.symm, ?_⟩
    rw [HS.out]
    exact ⟨FT.out _ K, Below.grow _ (HB0.trans (K.mono (Nat.le_succ _)))⟩
  | true =>
  have HV1 := Lib.hid hv1
  cases ms with
  | false =>
    have HE : Hid (setSecurityE vld t day x = 9) := by show setSecurityE vld t day x = 9; simp [setSecurityE, hd, hv1, memberAt, hms]
    have HS : Hid (setSecurity vld t day x = t) := by show setSecurity vld t day x = t; rw [setSecurity, HE.out]; rfl
    clear hd hv1 hms
    go_enter Tryz.func70, Tryz.ntmps70
    go_wp2
    go_quiet (fail)
    replace K := pw_below_drewN' K nq
    replace hw : w.heap.size + 1 ≤ ((w.alloc (.cells #[.string x.isin, .string x.issuer, .int .i64 x.lot, .bool x.active] 44)).drewN nq).heap.size := by simp
    replace hsv := hsv.below (pw_below_drewN' (Below.refl _ _) nq)
    clear hrun
    go_wp2_with (first
      | (go_at_call 117; refine (last_S _ _ _ hsv hl).mono ?_; rintro e w1 ⟨rfl, hb1⟩; rw [HXL.out]; replace hsv := hsv.below hb1; replace K := below_over K hb1 hw; replace hw := le_trans' hw hb1.size; replace hsv := hsv.below ((Below.refl _ _).alloc (Nat.le_refl _) (.cells #[.int .i64 d0, .string i0, .string s0, .int .i64 l0, .bool a0] 166)); replace K := K.alloc hw (.cells #[.int .i64 d0, .string i0, .string s0, .int .i64 l0, .bool a0] 166); replace hw := le_trans' hw (sz_alloc _ (.cells #[.int .i64 d0, .string i0, .string s0, .int .i64 l0, .bool a0] 166)); replace c := box_cell K; replace q := (FT.out _ K).cells.2.1; have K9 : Below (w1.heap.size + 1) (w1.alloc (.cells #[.int .i64 d0, .string i0, .string s0, .int .i64 l0, .bool a0] 166)) (w1.alloc (.cells #[.int .i64 d0, .string i0, .string s0, .int .i64 l0, .bool a0] 166)) := Below.refl _ _; have hw9 := sz_alloc1 w1 (.cells #[.int .i64 d0, .string i0, .string s0, .int .i64 l0, .bool a0] 166))
      | (go_at_call 26; refine (get_M T t day _ _ (FT.out _ K) hok.out hf.out).mono ?_; rintro e w2 ⟨rfl, hb2⟩; rw [HXM.out, HMS.out]; replace hsv := hsv.below hb2; replace K := below_over K hb2 hw; replace K9 := below_over K9 hb2 hw9; replace hw := le_trans' hw hb2.size; replace hw9 := le_trans' hw9 hb2.size; replace hsv := hsv.below ((Below.refl _ _).alloc (Nat.le_refl _) (.cells #[.string i1, .string s1, .bool a1] 40)); replace K := K.alloc hw (.cells #[.string i1, .string s1, .bool a1] 40); replace K9 := K9.alloc hw9 (.cells #[.string i1, .string s1, .bool a1] 40); replace hw := le_trans' hw (sz_alloc _ (.cells #[.string i1, .string s1, .bool a1] 40)); replace hw9 := le_trans' hw9 (sz_alloc _ (.cells #[.string i1, .string s1, .bool a1] 40)); replace c := box_cell K; have c9 := box_cell K9; replace q := (FT.out _ K).cells.2.1)
      | (go_at_call 111; refine (isDay_calls _ _).mono ?_; rintro e w' ⟨rfl, rfl⟩; rw [HD.out])
      | (go_at_call 112; refine (VL.out 0 x.isin _ (by decide) (by decide) HZ1.out).mono ?_; rintro e w3 ⟨rfl, hb3⟩; rw [HV1.out]; replace hsv := hsv.below hb3; replace K := below_over K hb3 hw; replace K9 := below_over K9 hb3 hw9; replace hw := le_trans' hw hb3.size; replace hw9 := le_trans' hw9 hb3.size; replace c := box_cell K; replace c9 := box_cell K9; replace q := (FT.out _ K).cells.2.1)
      | (go_at_call 118; refine (stale_S _ _ day _ hsv hl).mono ?_; rintro e w4 ⟨rfl, hb4⟩; rw [HST.out]; replace hsv := hsv.below hb4; replace K := below_over K hb4 hw; replace K9 := below_over K9 hb4 hw9; replace hw := le_trans' hw hb4.size; replace hw9 := le_trans' hw9 hb4.size; replace c := box_cell K; replace c9 := box_cell K9; replace q := (FT.out _ K).cells.2.1; have ln := fun ty => (FT.out _ K).sec.run_len (ty := ty) (e := 151) Tryz.underlying142))
    go_ret
    refine ⟨ret_int HE.out.symm, ?_⟩
    rw [HS.out]
    exact ⟨FT.out _ K, Below.grow _ (HB0.trans (K.mono (Nat.le_succ _)))⟩
  | true =>
  rcases Int.lt_or_le x.lot 1 with hlo | hlo
  · have HE : Hid (setSecurityE vld t day x = 2) := by show setSecurityE vld t day x = 2; simp [setSecurityE, hd, hv1, memberAt, hms, hlo]
    have HS : Hid (setSecurity vld t day x = t) := by show setSecurity vld t day x = t; rw [setSecurity, HE.out]; rfl
    clear hd hv1 hms
    go_enter Tryz.func70, Tryz.ntmps70
    go_wp2
    go_quiet (fail)
    replace K := pw_below_drewN' K nq
    replace hw : w.heap.size + 1 ≤ ((w.alloc (.cells #[.string x.isin, .string x.issuer, .int .i64 x.lot, .bool x.active] 44)).drewN nq).heap.size := by simp
    replace hsv := hsv.below (pw_below_drewN' (Below.refl _ _) nq)
    clear hrun
    go_wp2_with (first
      | (go_at_call 117; refine (last_S _ _ _ hsv hl).mono ?_; rintro e w1 ⟨rfl, hb1⟩; rw [HXL.out]; replace hsv := hsv.below hb1; replace K := below_over K hb1 hw; replace hw := le_trans' hw hb1.size; replace hsv := hsv.below ((Below.refl _ _).alloc (Nat.le_refl _) (.cells #[.int .i64 d0, .string i0, .string s0, .int .i64 l0, .bool a0] 166)); replace K := K.alloc hw (.cells #[.int .i64 d0, .string i0, .string s0, .int .i64 l0, .bool a0] 166); replace hw := le_trans' hw (sz_alloc _ (.cells #[.int .i64 d0, .string i0, .string s0, .int .i64 l0, .bool a0] 166)); replace c := box_cell K; replace q := (FT.out _ K).cells.2.1; have K9 : Below (w1.heap.size + 1) (w1.alloc (.cells #[.int .i64 d0, .string i0, .string s0, .int .i64 l0, .bool a0] 166)) (w1.alloc (.cells #[.int .i64 d0, .string i0, .string s0, .int .i64 l0, .bool a0] 166)) := Below.refl _ _; have hw9 := sz_alloc1 w1 (.cells #[.int .i64 d0, .string i0, .string s0, .int .i64 l0, .bool a0] 166))
      | (go_at_call 26; refine (get_M T t day _ _ (FT.out _ K) hok.out hf.out).mono ?_; rintro e w2 ⟨rfl, hb2⟩; rw [HXM.out, HMS.out]; replace hsv := hsv.below hb2; replace K := below_over K hb2 hw; replace K9 := below_over K9 hb2 hw9; replace hw := le_trans' hw hb2.size; replace hw9 := le_trans' hw9 hb2.size; replace hsv := hsv.below ((Below.refl _ _).alloc (Nat.le_refl _) (.cells #[.string i1, .string s1, .bool a1] 40)); replace K := K.alloc hw (.cells #[.string i1, .string s1, .bool a1] 40); replace K9 := K9.alloc hw9 (.cells #[.string i1, .string s1, .bool a1] 40); replace hw := le_trans' hw (sz_alloc _ (.cells #[.string i1, .string s1, .bool a1] 40)); replace hw9 := le_trans' hw9 (sz_alloc _ (.cells #[.string i1, .string s1, .bool a1] 40)); replace c := box_cell K; have c9 := box_cell K9; replace q := (FT.out _ K).cells.2.1)
      | (go_at_call 111; refine (isDay_calls _ _).mono ?_; rintro e w' ⟨rfl, rfl⟩; rw [HD.out])
      | (go_at_call 112; refine (VL.out 0 x.isin _ (by decide) (by decide) HZ1.out).mono ?_; rintro e w3 ⟨rfl, hb3⟩; rw [HV1.out]; replace hsv := hsv.below hb3; replace K := below_over K hb3 hw; replace K9 := below_over K9 hb3 hw9; replace hw := le_trans' hw hb3.size; replace hw9 := le_trans' hw9 hb3.size; replace c := box_cell K; replace c9 := box_cell K9; replace q := (FT.out _ K).cells.2.1)
      | (go_at_call 118; refine (stale_S _ _ day _ hsv hl).mono ?_; rintro e w4 ⟨rfl, hb4⟩; rw [HST.out]; replace hsv := hsv.below hb4; replace K := below_over K hb4 hw; replace K9 := below_over K9 hb4 hw9; replace hw := le_trans' hw hb4.size; replace hw9 := le_trans' hw9 hb4.size; replace c := box_cell K; replace c9 := box_cell K9; replace q := (FT.out _ K).cells.2.1; have ln := fun ty => (FT.out _ K).sec.run_len (ty := ty) (e := 151) Tryz.underlying142))
    go_ret
    refine ⟨ret_int HE.out.symm, ?_⟩
    rw [HS.out]
    exact ⟨FT.out _ K, Below.grow _ (HB0.trans (K.mono (Nat.le_succ _)))⟩
  rcases Int.lt_or_le 1000000000000000 x.lot with hhi | hhi
  · have HE : Hid (setSecurityE vld t day x = 2) := by show setSecurityE vld t day x = 2; simp [setSecurityE, hd, hv1, memberAt, hms, hhi]
    have HS : Hid (setSecurity vld t day x = t) := by show setSecurity vld t day x = t; rw [setSecurity, HE.out]; rfl
    clear hd hv1 hms
    go_enter Tryz.func70, Tryz.ntmps70
    go_wp2
    go_quiet (fail)
    replace K := pw_below_drewN' K nq
    replace hw : w.heap.size + 1 ≤ ((w.alloc (.cells #[.string x.isin, .string x.issuer, .int .i64 x.lot, .bool x.active] 44)).drewN nq).heap.size := by simp
    replace hsv := hsv.below (pw_below_drewN' (Below.refl _ _) nq)
    clear hrun
    go_wp2_with (first
      | (go_at_call 117; refine (last_S _ _ _ hsv hl).mono ?_; rintro e w1 ⟨rfl, hb1⟩; rw [HXL.out]; replace hsv := hsv.below hb1; replace K := below_over K hb1 hw; replace hw := le_trans' hw hb1.size; replace hsv := hsv.below ((Below.refl _ _).alloc (Nat.le_refl _) (.cells #[.int .i64 d0, .string i0, .string s0, .int .i64 l0, .bool a0] 166)); replace K := K.alloc hw (.cells #[.int .i64 d0, .string i0, .string s0, .int .i64 l0, .bool a0] 166); replace hw := le_trans' hw (sz_alloc _ (.cells #[.int .i64 d0, .string i0, .string s0, .int .i64 l0, .bool a0] 166)); replace c := box_cell K; replace q := (FT.out _ K).cells.2.1; have K9 : Below (w1.heap.size + 1) (w1.alloc (.cells #[.int .i64 d0, .string i0, .string s0, .int .i64 l0, .bool a0] 166)) (w1.alloc (.cells #[.int .i64 d0, .string i0, .string s0, .int .i64 l0, .bool a0] 166)) := Below.refl _ _; have hw9 := sz_alloc1 w1 (.cells #[.int .i64 d0, .string i0, .string s0, .int .i64 l0, .bool a0] 166))
      | (go_at_call 26; refine (get_M T t day _ _ (FT.out _ K) hok.out hf.out).mono ?_; rintro e w2 ⟨rfl, hb2⟩; rw [HXM.out, HMS.out]; replace hsv := hsv.below hb2; replace K := below_over K hb2 hw; replace K9 := below_over K9 hb2 hw9; replace hw := le_trans' hw hb2.size; replace hw9 := le_trans' hw9 hb2.size; replace hsv := hsv.below ((Below.refl _ _).alloc (Nat.le_refl _) (.cells #[.string i1, .string s1, .bool a1] 40)); replace K := K.alloc hw (.cells #[.string i1, .string s1, .bool a1] 40); replace K9 := K9.alloc hw9 (.cells #[.string i1, .string s1, .bool a1] 40); replace hw := le_trans' hw (sz_alloc _ (.cells #[.string i1, .string s1, .bool a1] 40)); replace hw9 := le_trans' hw9 (sz_alloc _ (.cells #[.string i1, .string s1, .bool a1] 40)); replace c := box_cell K; have c9 := box_cell K9; replace q := (FT.out _ K).cells.2.1)
      | (go_at_call 111; refine (isDay_calls _ _).mono ?_; rintro e w' ⟨rfl, rfl⟩; rw [HD.out])
      | (go_at_call 112; refine (VL.out 0 x.isin _ (by decide) (by decide) HZ1.out).mono ?_; rintro e w3 ⟨rfl, hb3⟩; rw [HV1.out]; replace hsv := hsv.below hb3; replace K := below_over K hb3 hw; replace K9 := below_over K9 hb3 hw9; replace hw := le_trans' hw hb3.size; replace hw9 := le_trans' hw9 hb3.size; replace c := box_cell K; replace c9 := box_cell K9; replace q := (FT.out _ K).cells.2.1)
      | (go_at_call 118; refine (stale_S _ _ day _ hsv hl).mono ?_; rintro e w4 ⟨rfl, hb4⟩; rw [HST.out]; replace hsv := hsv.below hb4; replace K := below_over K hb4 hw; replace K9 := below_over K9 hb4 hw9; replace hw := le_trans' hw hb4.size; replace hw9 := le_trans' hw9 hb4.size; replace c := box_cell K; replace c9 := box_cell K9; replace q := (FT.out _ K).cells.2.1; have ln := fun ty => (FT.out _ K).sec.run_len (ty := ty) (e := 151) Tryz.underlying142))
    go_ret
    refine ⟨ret_int HE.out.symm, ?_⟩
    rw [HS.out]
    exact ⟨FT.out _ K, Below.grow _ (HB0.trans (K.mono (Nat.le_succ _)))⟩
  have hlo1 : decide (x.lot < 1) = false := by simpa using hlo
  have hhi1 : decide (1000000000000000 < x.lot) = false := by simpa using hhi
  clear hlo hhi
  cases hst : stale (ser t.sec x.isin) day with
  | true =>
    have HST := Lib.hid hst
    have HE : Hid (setSecurityE vld t day x = 20) := by show setSecurityE vld t day x = 20; simp only [setSecurityE, hd, hv1, memberAt, hms, hlo1, hhi1, hst]; rfl
    have HS : Hid (setSecurity vld t day x = t) := by show setSecurity vld t day x = t; rw [setSecurity, HE.out]; rfl
    clear hd hv1 hms hst
    go_enter Tryz.func70, Tryz.ntmps70
    go_wp2
    go_quiet (fail)
    replace K := pw_below_drewN' K nq
    replace hw : w.heap.size + 1 ≤ ((w.alloc (.cells #[.string x.isin, .string x.issuer, .int .i64 x.lot, .bool x.active] 44)).drewN nq).heap.size := by simp
    replace hsv := hsv.below (pw_below_drewN' (Below.refl _ _) nq)
    clear hrun
    go_wp2_with (first
      | (go_at_call 117; refine (last_S _ _ _ hsv hl).mono ?_; rintro e w1 ⟨rfl, hb1⟩; rw [HXL.out]; replace hsv := hsv.below hb1; replace K := below_over K hb1 hw; replace hw := le_trans' hw hb1.size; replace hsv := hsv.below ((Below.refl _ _).alloc (Nat.le_refl _) (.cells #[.int .i64 d0, .string i0, .string s0, .int .i64 l0, .bool a0] 166)); replace K := K.alloc hw (.cells #[.int .i64 d0, .string i0, .string s0, .int .i64 l0, .bool a0] 166); replace hw := le_trans' hw (sz_alloc _ (.cells #[.int .i64 d0, .string i0, .string s0, .int .i64 l0, .bool a0] 166)); replace c := box_cell K; replace q := (FT.out _ K).cells.2.1; have K9 : Below (w1.heap.size + 1) (w1.alloc (.cells #[.int .i64 d0, .string i0, .string s0, .int .i64 l0, .bool a0] 166)) (w1.alloc (.cells #[.int .i64 d0, .string i0, .string s0, .int .i64 l0, .bool a0] 166)) := Below.refl _ _; have hw9 := sz_alloc1 w1 (.cells #[.int .i64 d0, .string i0, .string s0, .int .i64 l0, .bool a0] 166))
      | (go_at_call 26; refine (get_M T t day _ _ (FT.out _ K) hok.out hf.out).mono ?_; rintro e w2 ⟨rfl, hb2⟩; rw [HXM.out, HMS.out]; replace hsv := hsv.below hb2; replace K := below_over K hb2 hw; replace K9 := below_over K9 hb2 hw9; replace hw := le_trans' hw hb2.size; replace hw9 := le_trans' hw9 hb2.size; replace hsv := hsv.below ((Below.refl _ _).alloc (Nat.le_refl _) (.cells #[.string i1, .string s1, .bool a1] 40)); replace K := K.alloc hw (.cells #[.string i1, .string s1, .bool a1] 40); replace K9 := K9.alloc hw9 (.cells #[.string i1, .string s1, .bool a1] 40); replace hw := le_trans' hw (sz_alloc _ (.cells #[.string i1, .string s1, .bool a1] 40)); replace hw9 := le_trans' hw9 (sz_alloc _ (.cells #[.string i1, .string s1, .bool a1] 40)); replace c := box_cell K; have c9 := box_cell K9; replace q := (FT.out _ K).cells.2.1)
      | (go_at_call 111; refine (isDay_calls _ _).mono ?_; rintro e w' ⟨rfl, rfl⟩; rw [HD.out])
      | (go_at_call 112; refine (VL.out 0 x.isin _ (by decide) (by decide) HZ1.out).mono ?_; rintro e w3 ⟨rfl, hb3⟩; rw [HV1.out]; replace hsv := hsv.below hb3; replace K := below_over K hb3 hw; replace K9 := below_over K9 hb3 hw9; replace hw := le_trans' hw hb3.size; replace hw9 := le_trans' hw9 hb3.size; replace c := box_cell K; replace c9 := box_cell K9; replace q := (FT.out _ K).cells.2.1)
      | (go_at_call 118; refine (stale_S _ _ day _ hsv hl).mono ?_; rintro e w4 ⟨rfl, hb4⟩; rw [HST.out]; replace hsv := hsv.below hb4; replace K := below_over K hb4 hw; replace K9 := below_over K9 hb4 hw9; replace hw := le_trans' hw hb4.size; replace hw9 := le_trans' hw9 hb4.size; replace c := box_cell K; replace c9 := box_cell K9; replace q := (FT.out _ K).cells.2.1; have ln := fun ty => (FT.out _ K).sec.run_len (ty := ty) (e := 151) Tryz.underlying142))
    go_ret
    refine ⟨ret_int HE.out.symm, ?_⟩
    rw [HS.out]
    exact ⟨FT.out _ K, Below.grow _ (HB0.trans (K.mono (Nat.le_succ _)))⟩
  | false =>
  have HST := Lib.hid hst
  cases hk : (look t.sec x.isin).isSome with
  | true =>
    obtain ⟨i', ⟨dd, vv⟩, _, _, hlast⟩ := last_form (s := ser t.sec x.isin) (by intro e; have := hkn.out; rw [hk, e] at this; cases this)
    have hs0 : vv.issuer = s0 := by
      have e1 := HXL.out
      rw [hlast] at e1
      simp [optE, encE, encS] at e1
      exact e1.2.2.1
    by_cases hi : s0 = x.issuer
    · have HE : Hid (setSecurityE vld t day x = 0) := by show setSecurityE vld t day x = 0; simp only [setSecurityE, hd, hv1, memberAt, hms, hlo1, hhi1, hst, hlast, hs0, hi, hk]; simp
      have HS : Hid (setSecurity vld t day x = { t with sec := upd t.sec x.isin (seWith (ser t.sec x.isin) day x) }) := by show setSecurity vld t day x = _; rw [setSecurity, if_pos HE.out]
      have hi1 : (s0.toList == x.issuer.toList) = true := by rw [beq_tl]; simpa using hi
      clear hd hv1 hms hst hlast hs0 hi
      go_enter Tryz.func70, Tryz.ntmps70
      go_wp2
      go_quiet (fail)
      replace K := pw_below_drewN' K nq
      replace hw : w.heap.size + 1 ≤ ((w.alloc (.cells #[.string x.isin, .string x.issuer, .int .i64 x.lot, .bool x.active] 44)).drewN nq).heap.size := by simp
      replace hsv := hsv.below (pw_below_drewN' (Below.refl _ _) nq)
      clear hrun
      go_wp2_with (first
        | (go_at_call 117; refine (last_S _ _ _ hsv hl).mono ?_; rintro e w1 ⟨rfl, hb1⟩; rw [HXL.out]; replace hsv := hsv.below hb1; replace K := below_over K hb1 hw; replace hw := le_trans' hw hb1.size; replace hsv := hsv.below ((Below.refl _ _).alloc (Nat.le_refl _) (.cells #[.int .i64 d0, .string i0, .string s0, .int .i64 l0, .bool a0] 166)); replace K := K.alloc hw (.cells #[.int .i64 d0, .string i0, .string s0, .int .i64 l0, .bool a0] 166); replace hw := le_trans' hw (sz_alloc _ (.cells #[.int .i64 d0, .string i0, .string s0, .int .i64 l0, .bool a0] 166)); replace c := box_cell K; replace q := (FT.out _ K).cells.2.1; have K9 : Below (w1.heap.size + 1) (w1.alloc (.cells #[.int .i64 d0, .string i0, .string s0, .int .i64 l0, .bool a0] 166)) (w1.alloc (.cells #[.int .i64 d0, .string i0, .string s0, .int .i64 l0, .bool a0] 166)) := Below.refl _ _; have hw9 := sz_alloc1 w1 (.cells #[.int .i64 d0, .string i0, .string s0, .int .i64 l0, .bool a0] 166))
        | (go_at_call 26; refine (get_M T t day _ _ (FT.out _ K) hok.out hf.out).mono ?_; rintro e w2 ⟨rfl, hb2⟩; rw [HXM.out, HMS.out]; replace hsv := hsv.below hb2; replace K := below_over K hb2 hw; replace K9 := below_over K9 hb2 hw9; replace hw := le_trans' hw hb2.size; replace hw9 := le_trans' hw9 hb2.size; replace hsv := hsv.below ((Below.refl _ _).alloc (Nat.le_refl _) (.cells #[.string i1, .string s1, .bool a1] 40)); replace K := K.alloc hw (.cells #[.string i1, .string s1, .bool a1] 40); replace K9 := K9.alloc hw9 (.cells #[.string i1, .string s1, .bool a1] 40); replace hw := le_trans' hw (sz_alloc _ (.cells #[.string i1, .string s1, .bool a1] 40)); replace hw9 := le_trans' hw9 (sz_alloc _ (.cells #[.string i1, .string s1, .bool a1] 40)); replace c := box_cell K; have c9 := box_cell K9; replace q := (FT.out _ K).cells.2.1)
        | (go_at_call 111; refine (isDay_calls _ _).mono ?_; rintro e w' ⟨rfl, rfl⟩; rw [HD.out])
        | (go_at_call 112; refine (VL.out 0 x.isin _ (by decide) (by decide) HZ1.out).mono ?_; rintro e w3 ⟨rfl, hb3⟩; rw [HV1.out]; replace hsv := hsv.below hb3; replace K := below_over K hb3 hw; replace K9 := below_over K9 hb3 hw9; replace hw := le_trans' hw hb3.size; replace hw9 := le_trans' hw9 hb3.size; replace c := box_cell K; replace c9 := box_cell K9; replace q := (FT.out _ K).cells.2.1)
        | (go_at_call 118; refine (stale_S _ _ day _ hsv hl).mono ?_; rintro e w4 ⟨rfl, hb4⟩; rw [HST.out]; replace hsv := hsv.below hb4; replace K := below_over K hb4 hw; replace K9 := below_over K9 hb4 hw9; replace hw := le_trans' hw hb4.size; replace hw9 := le_trans' hw9 hb4.size; replace c := box_cell K; replace c9 := box_cell K9; replace q := (FT.out _ K).cells.2.1; have ln := fun ty => (FT.out _ K).sec.run_len (ty := ty) (e := 151) Tryz.underlying142))
      have FS : Hid (∀ W, Below (w.heap.size + 1) (w.alloc (.cells #[.string x.isin, .string x.issuer, .int .i64 x.lot, .bool x.active] 44)) W → W.cell? ⟨T.p, 1, none⟩ = some (.map (some T.m1)) ∧ W.cell? ⟨w.heap.size, 0, none⟩ = some (.string x.isin) ∧ W.cell? ⟨w.heap.size, 1, none⟩ = some (.string x.issuer) ∧ W.cell? ⟨w.heap.size, 2, none⟩ = some (.int .i64 x.lot) ∧ W.cell? ⟨w.heap.size, 3, none⟩ = some (.bool x.active)) := fun W hW => ⟨(FT.out _ hW).cells.2.1, box_cell hW 0, box_cell hW 1, box_cell hW 2, box_cell hW 3⟩
      have s3 := FS.out _ K
      clear q c ln c9 hw9 K9
      go_region_held3 (fun w' => w'.cell? ⟨T.p, 1, none⟩ = some (.map (some T.m1)) ∧ w'.cell? ⟨w.heap.size, 0, none⟩ = some (.string x.isin) ∧ w'.cell? ⟨w.heap.size, 1, none⟩ = some (.string x.issuer) ∧ w'.cell? ⟨w.heap.size, 2, none⟩ = some (.int .i64 x.lot) ∧ w'.cell? ⟨w.heap.size, 3, none⟩ = some (.bool x.active)) (first | go_keep)
        (first
          | (go_at_call 119; refine (with_S _ _ day x _ (hsv.below (Below.refl _ _).drew) hl9.out).mono ?_; rintro e w5 ⟨v5, rfl, hsv5, hb5⟩; have K5 := below_over K.drew hb5 hw; have s5 := FS.out _ K5; have hT : Hid (T.p < w5.heap.size ∧ T.p ≠ T.m1 ∧ w.heap.size < w5.heap.size ∧ w.heap.size ≠ T.m1) := ⟨(FT.out _ K5).plt, (FT.out _ K5).pm.2.1, le_trans' hw (hb5.size), HMB.out⟩; obtain ⟨w6, hrun6, hm6, hg6, hs6⟩ := (FT.out _ K5).sec.run_update Tryz.underlying142 Tryz.underlying9 x.isin v5 _ (steady_ser _ _ _) hsv5; have s6 := (And.intro ((cell_grow hg6 hT.out.1 hT.out.2.1).trans s5.1) (And.intro ((cell_grow hg6 hT.out.2.2.1 hT.out.2.2.2).trans s5.2.1) (And.intro ((cell_grow hg6 hT.out.2.2.1 hT.out.2.2.2).trans s5.2.2.1) (And.intro ((cell_grow hg6 hT.out.2.2.1 hT.out.2.2.2).trans s5.2.2.2.1) ((cell_grow hg6 hT.out.2.2.1 hT.out.2.2.2).trans s5.2.2.2.2)))))))
      have HR := (FT.out _ K5).putS hm6 hg6
      have HG := grow_of (HB0.trans (K5.mono (Nat.le_succ _))) hg6
      go_wp2
      go_ret
      exact ⟨ret_int HE.out.symm, by rw [HS.out]; exact HR, HG⟩
    · have HE : Hid (setSecurityE vld t day x = 11) := by show setSecurityE vld t day x = 11; simp only [setSecurityE, hd, hv1, memberAt, hms, hlo1, hhi1, hst, hlast, hs0, hk]; simp [hi]
      have HS : Hid (setSecurity vld t day x = t) := by show setSecurity vld t day x = t; rw [setSecurity, HE.out]; rfl
      have hi1 : (s0.toList == x.issuer.toList) = false := by rw [beq_tl]; simpa using hi
      clear hd hv1 hms hst hlast hs0 hi
      go_enter Tryz.func70, Tryz.ntmps70
      go_wp2
      go_quiet (fail)
      replace K := pw_below_drewN' K nq
      replace hw : w.heap.size + 1 ≤ ((w.alloc (.cells #[.string x.isin, .string x.issuer, .int .i64 x.lot, .bool x.active] 44)).drewN nq).heap.size := by simp
      replace hsv := hsv.below (pw_below_drewN' (Below.refl _ _) nq)
      clear hrun
      go_wp2_with (first
        | (go_at_call 117; refine (last_S _ _ _ hsv hl).mono ?_; rintro e w1 ⟨rfl, hb1⟩; rw [HXL.out]; replace hsv := hsv.below hb1; replace K := below_over K hb1 hw; replace hw := le_trans' hw hb1.size; replace hsv := hsv.below ((Below.refl _ _).alloc (Nat.le_refl _) (.cells #[.int .i64 d0, .string i0, .string s0, .int .i64 l0, .bool a0] 166)); replace K := K.alloc hw (.cells #[.int .i64 d0, .string i0, .string s0, .int .i64 l0, .bool a0] 166); replace hw := le_trans' hw (sz_alloc _ (.cells #[.int .i64 d0, .string i0, .string s0, .int .i64 l0, .bool a0] 166)); replace c := box_cell K; replace q := (FT.out _ K).cells.2.1; have K9 : Below (w1.heap.size + 1) (w1.alloc (.cells #[.int .i64 d0, .string i0, .string s0, .int .i64 l0, .bool a0] 166)) (w1.alloc (.cells #[.int .i64 d0, .string i0, .string s0, .int .i64 l0, .bool a0] 166)) := Below.refl _ _; have hw9 := sz_alloc1 w1 (.cells #[.int .i64 d0, .string i0, .string s0, .int .i64 l0, .bool a0] 166))
        | (go_at_call 26; refine (get_M T t day _ _ (FT.out _ K) hok.out hf.out).mono ?_; rintro e w2 ⟨rfl, hb2⟩; rw [HXM.out, HMS.out]; replace hsv := hsv.below hb2; replace K := below_over K hb2 hw; replace K9 := below_over K9 hb2 hw9; replace hw := le_trans' hw hb2.size; replace hw9 := le_trans' hw9 hb2.size; replace hsv := hsv.below ((Below.refl _ _).alloc (Nat.le_refl _) (.cells #[.string i1, .string s1, .bool a1] 40)); replace K := K.alloc hw (.cells #[.string i1, .string s1, .bool a1] 40); replace K9 := K9.alloc hw9 (.cells #[.string i1, .string s1, .bool a1] 40); replace hw := le_trans' hw (sz_alloc _ (.cells #[.string i1, .string s1, .bool a1] 40)); replace hw9 := le_trans' hw9 (sz_alloc _ (.cells #[.string i1, .string s1, .bool a1] 40)); replace c := box_cell K; have c9 := box_cell K9; replace q := (FT.out _ K).cells.2.1)
        | (go_at_call 111; refine (isDay_calls _ _).mono ?_; rintro e w' ⟨rfl, rfl⟩; rw [HD.out])
        | (go_at_call 112; refine (VL.out 0 x.isin _ (by decide) (by decide) HZ1.out).mono ?_; rintro e w3 ⟨rfl, hb3⟩; rw [HV1.out]; replace hsv := hsv.below hb3; replace K := below_over K hb3 hw; replace K9 := below_over K9 hb3 hw9; replace hw := le_trans' hw hb3.size; replace hw9 := le_trans' hw9 hb3.size; replace c := box_cell K; replace c9 := box_cell K9; replace q := (FT.out _ K).cells.2.1)
        | (go_at_call 118; refine (stale_S _ _ day _ hsv hl).mono ?_; rintro e w4 ⟨rfl, hb4⟩; rw [HST.out]; replace hsv := hsv.below hb4; replace K := below_over K hb4 hw; replace K9 := below_over K9 hb4 hw9; replace hw := le_trans' hw hb4.size; replace hw9 := le_trans' hw9 hb4.size; replace c := box_cell K; replace c9 := box_cell K9; replace q := (FT.out _ K).cells.2.1; have ln := fun ty => (FT.out _ K).sec.run_len (ty := ty) (e := 151) Tryz.underlying142))
      go_ret
      refine ⟨ret_int HE.out.symm, ?_⟩
      rw [HS.out]
      exact ⟨FT.out _ K, Below.grow _ (HB0.trans (K.mono (Nat.le_succ _)))⟩
  | false =>
    have he : ser t.sec x.isin = [] := by have := hkn.out; rw [hk] at this; cases e : ser t.sec x.isin with | nil => rfl | cons => rw [e] at this; cases this
    have HE : Hid (setSecurityE vld t day x = 0) := by show setSecurityE vld t day x = 0; simp only [setSecurityE, hd, hv1, memberAt, hms, hlo1, hhi1, hst, hk]; simp [he]; have := hlen'.out; omega
    have HS : Hid (setSecurity vld t day x = { t with sec := upd t.sec x.isin (seWith (ser t.sec x.isin) day x) }) := by show setSecurity vld t day x = _; rw [setSecurity, if_pos HE.out]
    clear hd hv1 hms hst he
    go_enter Tryz.func70, Tryz.ntmps70
    go_wp2
    go_quiet (fail)
    replace K := pw_below_drewN' K nq
    replace hw : w.heap.size + 1 ≤ ((w.alloc (.cells #[.string x.isin, .string x.issuer, .int .i64 x.lot, .bool x.active] 44)).drewN nq).heap.size := by simp
    replace hsv := hsv.below (pw_below_drewN' (Below.refl _ _) nq)
    clear hrun
    go_wp2_with (first
      | (go_at_call 117; refine (last_S _ _ _ hsv hl).mono ?_; rintro e w1 ⟨rfl, hb1⟩; rw [HXL.out]; replace hsv := hsv.below hb1; replace K := below_over K hb1 hw; replace hw := le_trans' hw hb1.size; replace hsv := hsv.below ((Below.refl _ _).alloc (Nat.le_refl _) (.cells #[.int .i64 d0, .string i0, .string s0, .int .i64 l0, .bool a0] 166)); replace K := K.alloc hw (.cells #[.int .i64 d0, .string i0, .string s0, .int .i64 l0, .bool a0] 166); replace hw := le_trans' hw (sz_alloc _ (.cells #[.int .i64 d0, .string i0, .string s0, .int .i64 l0, .bool a0] 166)); replace c := box_cell K; replace q := (FT.out _ K).cells.2.1; have K9 : Below (w1.heap.size + 1) (w1.alloc (.cells #[.int .i64 d0, .string i0, .string s0, .int .i64 l0, .bool a0] 166)) (w1.alloc (.cells #[.int .i64 d0, .string i0, .string s0, .int .i64 l0, .bool a0] 166)) := Below.refl _ _; have hw9 := sz_alloc1 w1 (.cells #[.int .i64 d0, .string i0, .string s0, .int .i64 l0, .bool a0] 166))
      | (go_at_call 26; refine (get_M T t day _ _ (FT.out _ K) hok.out hf.out).mono ?_; rintro e w2 ⟨rfl, hb2⟩; rw [HXM.out, HMS.out]; replace hsv := hsv.below hb2; replace K := below_over K hb2 hw; replace K9 := below_over K9 hb2 hw9; replace hw := le_trans' hw hb2.size; replace hw9 := le_trans' hw9 hb2.size; replace hsv := hsv.below ((Below.refl _ _).alloc (Nat.le_refl _) (.cells #[.string i1, .string s1, .bool a1] 40)); replace K := K.alloc hw (.cells #[.string i1, .string s1, .bool a1] 40); replace K9 := K9.alloc hw9 (.cells #[.string i1, .string s1, .bool a1] 40); replace hw := le_trans' hw (sz_alloc _ (.cells #[.string i1, .string s1, .bool a1] 40)); replace hw9 := le_trans' hw9 (sz_alloc _ (.cells #[.string i1, .string s1, .bool a1] 40)); replace c := box_cell K; have c9 := box_cell K9; replace q := (FT.out _ K).cells.2.1)
      | (go_at_call 111; refine (isDay_calls _ _).mono ?_; rintro e w' ⟨rfl, rfl⟩; rw [HD.out])
      | (go_at_call 112; refine (VL.out 0 x.isin _ (by decide) (by decide) HZ1.out).mono ?_; rintro e w3 ⟨rfl, hb3⟩; rw [HV1.out]; replace hsv := hsv.below hb3; replace K := below_over K hb3 hw; replace K9 := below_over K9 hb3 hw9; replace hw := le_trans' hw hb3.size; replace hw9 := le_trans' hw9 hb3.size; replace c := box_cell K; replace c9 := box_cell K9; replace q := (FT.out _ K).cells.2.1)
      | (go_at_call 118; refine (stale_S _ _ day _ hsv hl).mono ?_; rintro e w4 ⟨rfl, hb4⟩; rw [HST.out]; replace hsv := hsv.below hb4; replace K := below_over K hb4 hw; replace K9 := below_over K9 hb4 hw9; replace hw := le_trans' hw hb4.size; replace hw9 := le_trans' hw9 hb4.size; replace c := box_cell K; replace c9 := box_cell K9; replace q := (FT.out _ K).cells.2.1; have ln := fun ty => (FT.out _ K).sec.run_len (ty := ty) (e := 151) Tryz.underlying142))
    have FS : Hid (∀ W, Below (w.heap.size + 1) (w.alloc (.cells #[.string x.isin, .string x.issuer, .int .i64 x.lot, .bool x.active] 44)) W → W.cell? ⟨T.p, 1, none⟩ = some (.map (some T.m1)) ∧ W.cell? ⟨w.heap.size, 0, none⟩ = some (.string x.isin) ∧ W.cell? ⟨w.heap.size, 1, none⟩ = some (.string x.issuer) ∧ W.cell? ⟨w.heap.size, 2, none⟩ = some (.int .i64 x.lot) ∧ W.cell? ⟨w.heap.size, 3, none⟩ = some (.bool x.active)) := fun W hW => ⟨(FT.out _ hW).cells.2.1, box_cell hW 0, box_cell hW 1, box_cell hW 2, box_cell hW 3⟩
    have s3 := FS.out _ K
    clear q c ln c9 hw9 K9
    go_region_held3 (fun w' => w'.cell? ⟨T.p, 1, none⟩ = some (.map (some T.m1)) ∧ w'.cell? ⟨w.heap.size, 0, none⟩ = some (.string x.isin) ∧ w'.cell? ⟨w.heap.size, 1, none⟩ = some (.string x.issuer) ∧ w'.cell? ⟨w.heap.size, 2, none⟩ = some (.int .i64 x.lot) ∧ w'.cell? ⟨w.heap.size, 3, none⟩ = some (.bool x.active)) (first | go_keep)
      (first
        | (go_at_call 119; refine (with_S _ _ day x _ (hsv.below (Below.refl _ _).drew) hl9.out).mono ?_; rintro e w5 ⟨v5, rfl, hsv5, hb5⟩; have K5 := below_over K.drew hb5 hw; have s5 := FS.out _ K5; have hT : Hid (T.p < w5.heap.size ∧ T.p ≠ T.m1 ∧ w.heap.size < w5.heap.size ∧ w.heap.size ≠ T.m1) := ⟨(FT.out _ K5).plt, (FT.out _ K5).pm.2.1, le_trans' hw (hb5.size), HMB.out⟩; obtain ⟨w6, hrun6, hm6, hg6, hs6⟩ := (FT.out _ K5).sec.run_update Tryz.underlying142 Tryz.underlying9 x.isin v5 _ (steady_ser _ _ _) hsv5; have s6 := (And.intro ((cell_grow hg6 hT.out.1 hT.out.2.1).trans s5.1) (And.intro ((cell_grow hg6 hT.out.2.2.1 hT.out.2.2.2).trans s5.2.1) (And.intro ((cell_grow hg6 hT.out.2.2.1 hT.out.2.2.2).trans s5.2.2.1) (And.intro ((cell_grow hg6 hT.out.2.2.1 hT.out.2.2.2).trans s5.2.2.2.1) ((cell_grow hg6 hT.out.2.2.1 hT.out.2.2.2).trans s5.2.2.2.2)))))))
    have HR := (FT.out _ K5).putS hm6 hg6
    have HG := grow_of (HB0.trans (K5.mono (Nat.le_succ _))) hg6
    go_wp2
    go_ret
    exact ⟨ret_int HE.out.symm, by rw [HS.out]; exact HR, HG⟩

theorem setSecurity_nil (day : Int) (x : SV) (w : World) : Calls Tryz.prog 70 #[.pointer none, .int .i64 day, .agg #[.string x.isin, .string x.issuer, .int .i64 x.lot, .bool x.active]] w fun e w' => e = .returned (.int .i64 1) ∧ Below w.heap.size w w' := by
  go_enter Tryz.func70, Tryz.ntmps70
  go_wp2
  go_ret
  exact ⟨rfl, (Below.refl _ _).alloc (Nat.le_refl _) _⟩
end Go.Proofs.YtmbhkfclpkopiaaGreatDoor
