/- RefdataHistory: the law's own function. -/
import Derived.Test.YtmbhkfclpkopiaaGreatDoorWhereS
namespace Go.Proofs.YtmbhkfclpkopiaaGreatDoor
open Go.RowKit
set_option linter.unusedVariables false
set_option linter.unusedSimpArgs false

theorem optV_F (o : Option (Int × FV)) : ∃ a b, (optV encF zencF o).toArray = #[.int .i64 a, .int .i64 b] := by
  cases o <;> exact ⟨_, _, rfl⟩

section
variable {T : TB} {t' t : Tab} {day : Int} {k : ByteArray} {w : World}
theorem hist_M (h : TabAt w T t') (hok : TabOk t') (hf : TabFit 900 t') (hs : SameAt t' t day day) :
    Calls Tryz.prog 26 #[.pointer (some ⟨T.p, 0, none⟩), .int .i64 day, .string k] w fun e w' => e = .returned (.tuple #[.agg (optV encM zencM (seAt (ser t.mem k) day)).toArray, .bool (seAt (ser t.mem k) day).isSome]) ∧ Below w.heap.size w w' := by
  rw [← hs.mem]; exact get_M T t' day k w h hok.mem hf.mem
theorem hist_S (h : TabAt w T t') (hok : TabOk t') (hf : TabFit 900 t') (hs : SameAt t' t day day) :
    Calls Tryz.prog 27 #[.pointer (some ⟨T.p, 0, none⟩), .int .i64 day, .string k] w fun e w' => e = .returned (.tuple #[.agg (optV encS zencS (seAt (ser t.sec k) day)).toArray, .bool (seAt (ser t.sec k) day).isSome]) ∧ Below w.heap.size w w' := by
  rw [← hs.sec]; exact get_S T t' day k w h hok.sec hf.sec
theorem hist_P (h : TabAt w T t') (hok : TabOk t') (hf : TabFit 900 t') (hs : SameAt t' t day day) :
    Calls Tryz.prog 28 #[.pointer (some ⟨T.p, 0, none⟩), .int .i64 day, .string k] w fun e w' => e = .returned (.tuple #[.int .i64 (((seAt (ser t.pri k) day).map (·.2)).getD 0), .int .i64 (((seAt (ser t.pri k) day).map (·.1)).getD 0), .bool (seAt (ser t.pri k) day).isSome]) ∧ Below w.heap.size w w' := by
  rw [← hs.pri]; exact get_P T t' day k w h hok.pri hf.pri
theorem hist_F (h : TabAt w T t') (hok : TabOk t') (hf : TabFit 900 t') (hs : SameAt t' t day day) :
    Calls Tryz.prog 29 #[.pointer (some ⟨T.p, 0, none⟩), .int .i64 day, .string k] w fun e w' => e = .returned (.tuple #[.agg (optV encF zencF (seAt (ser t.hc k) day)).toArray, .bool (seAt (ser t.hc k) day).isSome]) ∧ Below w.heap.size w w' := by
  rw [← hs.hc]; exact get_F T t' day k w h hok.hc hf.hc
end

theorem same_refl (t : Tab) (day : Int) : SameAt t t day day := ⟨fun _ => rfl, fun _ => rfl, fun _ => rfl, fun _ => rfl⟩
theorem SameAt.whereM {t o : Tab} {d d' : Int} (h : SameAt t o d d') (k : ByteArray) : Where t.mem d (·.active) k ↔ Where o.mem d' (·.active) k := by unfold Where; rw [h.mem]
theorem SameAt.whereS {t o : Tab} {d d' : Int} (h : SameAt t o d d') (k : ByteArray) : Where t.sec d (·.active) k ↔ Where o.sec d' (·.active) k := by unfold Where; rw [h.sec]

set_option maxRecDepth 10000 in
set_option maxHeartbeats 8000000 in
theorem history_calls (sv : Value) (L : List E) (e : E) (bf : Int) (w : World) (hL : LAt w sv L) (hf : ∀ e ∈ L, EFits e) (he : EFits e) (hb0 : 0 ≤ bf) (hb1 : bf ≤ 255) :
    Calls Tryz.prog 4 #[sv, .agg (encT e).toArray, .int .u8 bf] w fun e w' => e = .returned (.bool true) ∧ Below w.heap.size w w' := by
  have HB0 : Below w.heap.size w (w.alloc (.cells #[.int .i64 e.kind, .int .i64 e.day, .string e.key, .string e.text, .int .i64 e.n, .int .i64 e.num, .int .i64 e.den, .bool e.active] 33)) := (Below.refl _ _).alloc (Nat.le_refl _) _
  have HL := Lib.hid (hL.below HB0)
  have HFI := Lib.hid hf
  have hfe := cleanE_fits he
  have hcl := cleanE_clean e
  obtain ⟨x0, hx0⟩ : ∃ x0, cleanE e = x0 := ⟨_, rfl⟩
  have HCL : Hid (∀ W, Calls Tryz.prog 24 #[.agg #[.int .i64 e.kind, .int .i64 e.day, .string e.key, .string e.text, .int .i64 e.n, .int .i64 e.num, .int .i64 e.den, .bool e.active]] W fun x w' => x = .returned (.agg #[.int .i64 x0.kind, .int .i64 x0.day, .string x0.key, .string x0.text, .int .i64 x0.n, .int .i64 x0.num, .int .i64 x0.den, .bool x0.active]) ∧ Below W.heap.size W w') := fun W => by rw [← hx0]; exact clean_calls e W
  rw [hx0] at hfe hcl
  have HCC := Lib.hid hcl
  have HFE := Lib.hid hfe
  have hm0 : 0 ≤ bf.tmod 40 := Int.tmod_nonneg _ hb0
  have hm1 : bf.tmod 40 < 40 := Int.tmod_lt_of_pos _ (by decide)
  clear hL hf he hfe hcl hx0
  show Calls Tryz.prog 4 #[sv, .agg #[.int .i64 e.kind, .int .i64 e.day, .string e.key, .string e.text, .int .i64 e.n, .int .i64 e.num, .int .i64 e.den, .bool e.active], .int .u8 bf] w _
  go_enter Tryz.func4, Tryz.ntmps4
  go_wp2_with (first
    | (go_at_call 20; refine (made_calls sv L _ HL.out HFI.out).mono ?_; rintro x w1 ⟨T, t, v, R, rfl, hM, hb1⟩; have hE1 : Below (w.heap.size + 1) (w.alloc (.cells #[.int .i64 e.kind, .int .i64 e.day, .string e.key, .string e.text, .int .i64 e.n, .int .i64 e.num, .int .i64 e.den, .bool e.active] 33)) w1 := (by simpa using hb1))
    | (go_at_call 23; refine (clone_calls T t _ hM.tab).mono ?_; rintro x w2 ⟨T2, rfl, hT2, hF2, hb2⟩; have hE2 := below_over hE1 hb2 (by have := hE1.size; simpa using this); have ce2 := box_cell hE2)
    | (go_at_call 24; refine (HCL.out _).mono ?_; rintro x w3 ⟨rfl, hb3⟩))
  have K1 : Below w.heap.size w w1 := HB0.trans (hb1.mono (by simp))
  have P13 : Below w1.heap.size w1 w3 := below_over hb2 hb3 hb2.size
  have P13a := P13.alloc P13.size (.cells #[.int .i64 x0.kind, .int .i64 x0.day, .string x0.key, .string x0.text, .int .i64 x0.n, .int .i64 x0.num, .int .i64 x0.den, .bool x0.active] 33)
  have hT3 := hM.tab.below P13a
  have hT23 := hT2.below (hb3.alloc hb3.size (.cells #[.int .i64 x0.kind, .int .i64 x0.day, .string x0.key, .string x0.text, .int .i64 x0.n, .int .i64 x0.num, .int .i64 x0.den, .bool x0.active] 33))
  have hX3 := heap_alloc_new w3 (.cells #[.int .i64 x0.kind, .int .i64 x0.day, .string x0.key, .string x0.text, .int .i64 x0.n, .int .i64 x0.num, .int .i64 x0.den, .bool x0.active] 33)
  have K3a := below_over K1 P13a K1.size
  have hok := hM.rel.ok
  have hfit8 := hM.rel.fit (Nat.le_trans hM.len (show 30 ≤ 800 by decide))
  have hfit9 := hM.rel.fit (Nat.le_trans hM.len (show 30 ≤ 900 by decide))
  have hrl : ∀ r, T.Row r → r < w1.heap.size := fun r hr => hM.tab.row_lt hr
  have hrg : ∀ r, T.Row r → w.heap.size ≤ r := fun r hr => Nat.le_trans (by simp) (hM.frm.row hr)
  have hR : Rel (tabSet vld fracOk t x0) (refSet vld fracOk R x0) := hM.rel.set HCC.out (by have := hM.rel.bound; have := hM.len; omega) (by have := hM.rel.bound; have := hM.len; omega)
  have hfit' := hR.fit (n := 900) (Nat.le_trans (refSet_length R x0) (by have := hM.len; omega))
  obtain ⟨d, hd⟩ : ∃ d, wrap64 (wrap64 (x0.day - 1) - bf % 40) = d := ⟨_, rfl⟩
  by_cases hq : tabCode vld fracOk t x0 = 0
  · have hd1 : d < x0.day := by
      obtain ⟨hday, _⟩ := tabSet_ok HCC.out.kind hq
      simp [isDay] at hday
      have e1 : wrap64 (x0.day - 1) = x0.day - 1 := by unfold wrap64; omega
      have e2 : wrap64 (x0.day - 1 - bf % 40) = x0.day - 1 - bf % 40 := by unfold wrap64; omega
      rw [← hd, e1, e2]
      omega
    have HSM := Lib.hid (tabSet_before hok HCC.out.kind hq hd1)
    have OK := Lib.hid hok
    have OK' := Lib.hid hR.ok
    have FIT := Lib.hid hfit9
    have FIT' := Lib.hid hfit'
    obtain ⟨m1, m2, m3, hm⟩ := optV_M (seAt (ser t.mem x0.key) d)
    obtain ⟨s1, s2, s3, s4, hs⟩ := optV_S (seAt (ser t.sec x0.key) d)
    obtain ⟨f1, f2, hff⟩ := optV_F (seAt (ser t.hc x0.key) d)
    have HM := Lib.hid hm
    have HSS := Lib.hid hs
    have HFF := Lib.hid hff
    rw [hd]
    go_at_call 25
    refine (lset_calls T t x0 _ HCC.out.kind HFE.out.key HFE.out.text hT3 hok hfit8).mono ?_
    rintro x w4 ⟨rfl, hT4, r, hr, hg4⟩
    rw [hq]
    have hrw : r < w3.heap.size := Nat.lt_of_lt_of_le (hrl r hr) P13.size
    have hX4 := (hg4.block w3.heap.size (by simp) (by intro e; injection e with e; omega)).trans hX3
    have hT24 : TabAt w4 T2 t := hT23.keep (hT3.row_block hr) (fun h => by have := hF2.row h; have := hrl r hr; omega) hg4
    have K4 : Below w.heap.size w w4 := K3a.grown hg4 K3a.size (fun k e => by cases e; exact hrg r hr)
    have FT4 : Hid (∀ W, Below w4.heap.size w4 W → TabAt W T (tabSet vld fracOk t x0)) := fun W hW => hT4.below hW
    have FC4 : Hid (∀ W, Below w4.heap.size w4 W → TabAt W T2 t) := fun W hW => hT24.below hW
    have hX4lt : w3.heap.size < w4.heap.size := (Array.getElem?_eq_some_iff.1 hX4).1
    have CX4 : Hid (∀ W, Below w4.heap.size w4 W → ∀ j, W.cell? ⟨w3.heap.size, j, none⟩ = ([.int .i64 x0.kind, .int .i64 x0.day, .string x0.key, .string x0.text, .int .i64 x0.n, .int .i64 x0.num, .int .i64 x0.den, .bool x0.active] : List Value)[j]?) := fun W hW => (cells8 ((hW.block w3.heap.size hX4lt).trans hX4)).1
    have N4 : Below w4.heap.size w4 w4 := Below.refl _ _
    have c4 := CX4.out _ N4
    clear hd hd1 hq hm hs hff hR hfit' hfit8 hfit9 hok hT3 hT23 hX3 hX4 hT4 hT24 hrl hrg hM
    go_wp2_with (first
      | (go_at_call 26; (with_reducible refine (hist_M (T := T) (FT4.out _ N4) OK'.out FIT'.out HSM.out).mono ?_); rintro x w5 ⟨rfl, hb5⟩; rw [HM.out]; have N5 := below_over N4 hb5 N4.size; have N5a := N5.alloc N5.size (.cells #[.string m1, .string m2, .bool m3] 40); have c5 := CX4.out _ N5a; have G5 := hb5.alloc hb5.size (.cells #[.string m1, .string m2, .bool m3] 40))
      | (go_at_call 26; (with_reducible refine (hist_M (T := T2) (FC4.out _ N5a) OK.out FIT.out (same_refl t d)).mono ?_); rintro x w6 ⟨rfl, hb6⟩; rw [HM.out]; have N6 := below_over N5a hb6 N5a.size; have N6a := N6.alloc N6.size (.cells #[.string m1, .string m2, .bool m3] 40); have c6 := CX4.out _ N6a; have G6 := hb6.alloc hb6.size (.cells #[.string m1, .string m2, .bool m3] 40))
      | (go_at_call 27; (with_reducible refine (hist_S (T := T) (FT4.out _ N6a) OK'.out FIT'.out HSM.out).mono ?_); rintro x w7 ⟨rfl, hb7⟩; rw [HSS.out]; have N7 := below_over N6a hb7 N6a.size; have N7a := N7.alloc N7.size (.cells #[.string s1, .string s2, .int .i64 s3, .bool s4] 44); have c7 := CX4.out _ N7a; have G7 := hb7.alloc hb7.size (.cells #[.string s1, .string s2, .int .i64 s3, .bool s4] 44))
      | (go_at_call 27; (with_reducible refine (hist_S (T := T2) (FC4.out _ N7a) OK.out FIT.out (same_refl t d)).mono ?_); rintro x w8 ⟨rfl, hb8⟩; rw [HSS.out]; have N8 := below_over N7a hb8 N7a.size; have N8a := N8.alloc N8.size (.cells #[.string s1, .string s2, .int .i64 s3, .bool s4] 44); have c8 := CX4.out _ N8a; have G8 := hb8.alloc hb8.size (.cells #[.string s1, .string s2, .int .i64 s3, .bool s4] 44))
      | (go_at_call 28; (with_reducible refine (hist_P (T := T) (FT4.out _ N8a) OK'.out FIT'.out HSM.out).mono ?_); rintro x w9 ⟨rfl, hb9⟩; have N9 := below_over N8a hb9 N8a.size; have c9 := CX4.out _ N9; have G9 := hb9)
      | (go_at_call 28; (with_reducible refine (hist_P (T := T2) (FC4.out _ N9) OK.out FIT.out (same_refl t d)).mono ?_); rintro x w10 ⟨rfl, hb10⟩; have N10 := below_over N9 hb10 N9.size; have c10 := CX4.out _ N10; have G10 := hb10)
      | (go_at_call 29; (with_reducible refine (hist_F (T := T) (FT4.out _ N10) OK'.out FIT'.out HSM.out).mono ?_); rintro x w11 ⟨rfl, hb11⟩; rw [HFF.out]; have N11 := below_over N10 hb11 N10.size; have N11a := N11.alloc N11.size (.cells #[.int .i64 f1, .int .i64 f2] 49); have c11 := CX4.out _ N11a; have G11 := hb11.alloc hb11.size (.cells #[.int .i64 f1, .int .i64 f2] 49))
      | (go_at_call 29; (with_reducible refine (hist_F (T := T2) (FC4.out _ N11a) OK.out FIT.out (same_refl t d)).mono ?_); rintro x w12 ⟨rfl, hb12⟩; rw [HFF.out]; have N12 := below_over N11a hb12 N11a.size; have N12a := N12.alloc N12.size (.cells #[.int .i64 f1, .int .i64 f2] 49); have c12 := CX4.out _ N12a; have G12 := hb12.alloc hb12.size (.cells #[.int .i64 f1, .int .i64 f2] 49))
      | (go_at_call 21; refine (known_calls _).mono ?_; rintro x w13 ⟨rfl, hb13⟩; have N13 := below_over N12a hb13 N12a.size; have E11 := below_over G12 hb13 G12.size; have E10 := below_over G11 E11 G11.size; have E9 := below_over G10 E10 G10.size; have E8 := below_over G9 E9 G9.size; have E7 := below_over G8 E8 G8.size; have E6 := below_over G7 E7 G7.size; have E5 := below_over G6 E6 G6.size; have z5 := box_cell (w := w5) (by simpa using E5); have z6 := box_cell (w := w6) (by simpa using E6); have z7 := box_cell (w := w7) (by simpa using E7); have z8 := box_cell (w := w8) (by simpa using E8); have z11 := box_cell (w := w11) (by simpa using E11); have z12 := box_cell (w := w12) (by simpa using hb13))
      | (go_at_call 31; (with_reducible refine (members_calls T _ d _ (FT4.out _ N13) OK'.out.mem FIT'.out.mem).mono ?_); rintro x w14 ⟨v14, l14, rfl, hS14, hL14, hn14, hb14⟩; have N14 := below_over N13 hb14 N13.size)
      | (go_at_call 31; (with_reducible refine (members_calls T2 _ d _ (FC4.out _ N14) OK.out.mem FIT.out.mem).mono ?_); rintro x w15 ⟨v15, l15, rfl, hS15, hL15, hn15, hb15⟩; have N15 := below_over N14 hb15 N14.size; have hl15 : l15 = l14 := Listed.unique hL15 hL14 (fun k => (HSM.out.whereM k).symm); rw [hl15] at hS15; have hS15' : SAt w13.heap.size w15 v15 l14 := row_mono hS15 hb14.size; have hS14' : SAt w13.heap.size w15 v14 l14 := SAt.below hS14 hb15)
      | (go_at_call 30; (with_reducible refine (lequal_calls w13.heap.size v14 v15 l14 _ hS14' hS15' (Nat.le_trans hn14 (by decide))).mono ?_); rintro x w16 ⟨rfl, hb16⟩; have N16 := below_over N15 hb16 N15.size)
      | (go_at_call 32; (with_reducible refine (securities_calls T _ d _ (FT4.out _ N16) OK'.out.sec FIT'.out.sec).mono ?_); rintro x w17 ⟨v17, l17, rfl, hS17, hL17, hn17, hb17⟩; have N17 := below_over N16 hb17 N16.size)
      | (go_at_call 32; (with_reducible refine (securities_calls T2 _ d _ (FC4.out _ N17) OK.out.sec FIT.out.sec).mono ?_); rintro x w18 ⟨v18, l18, rfl, hS18, hL18, hn18, hb18⟩; have N18 := below_over N17 hb18 N17.size; have hl18 : l18 = l17 := Listed.unique hL18 hL17 (fun k => (HSM.out.whereS k).symm); rw [hl18] at hS18; have hS18' : SAt w16.heap.size w18 v18 l17 := row_mono hS18 hb17.size; have hS17' : SAt w16.heap.size w18 v17 l17 := SAt.below hS17 hb18)
      | (go_at_call 30; (with_reducible refine (lequal_calls w16.heap.size v17 v18 l17 _ hS17' hS18' (Nat.le_trans hn17 (by decide))).mono ?_); rintro x w19 ⟨rfl, hb19⟩; have N19 := below_over N18 hb19 N18.size))
    go_ret
    exact ⟨rfl, K4.trans (N19.mono K4.size)⟩
  · obtain ⟨q, hqq⟩ : ∃ q, tabCode vld fracOk t x0 = q := ⟨_, rfl⟩
    have hq1 : (q == 0) = false := by rw [← hqq]; simpa using hq
    have HQQ := Lib.hid hqq
    go_at_call 25
    refine (lset_calls T t x0 _ HCC.out.kind HFE.out.key HFE.out.text hT3 hok hfit8).mono ?_
    rintro x w4 ⟨rfl, hT4, r, hr, hg4⟩
    rw [hqq]
    have K4 : Below w.heap.size w w4 := K3a.grown hg4 K3a.size (fun k e => by cases e; exact hrg r hr)
    clear hqq hq hd hM hT4
    go_wp2_with (first | (go_at_call 21; refine (known_calls _).mono ?_; rintro x w13 ⟨rfl, hb13⟩))
    go_ret
    exact ⟨rfl, below_over K4 hb13 K4.size⟩
end Go.Proofs.YtmbhkfclpkopiaaGreatDoor
