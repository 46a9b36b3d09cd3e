/- RefdataLookup returns true for every input, and its arguments read behind the call as they read before. The row lists three package-level tables; the card ties them to the program's text. -/
import Derived.Test.YtmbhkfclpkopiaaGreatDoorLawB
import Derived.Deep.RegionHeld3
import Derived.Test.YtmbhkfclpkopiaaGreatDoorRowBase
import Derived.Test.YtmbhkfclpkopiaaGreatDoorFactsLookup
import Derived.Test.YtmbhkfclpkopiaaGreatDoorFacts2Lookup
namespace Go.Proofs.YtmbhkfclpkopiaaGreatDoor
open Go.RowKit
set_option linter.unusedVariables false
set_option linter.unusedSimpArgs false

theorem DaysAt.below {w w' : World} {v : Value} {D : List Int} (h : DaysAt w v D) (hb : Below w.heap.size w w') : DaysAt w' v D := by
  rcases h with h | ⟨b, off, cap, rfl, hm, hc⟩
  · exact .inl h
  · refine .inr ⟨b, off, cap, rfl, hm, fun i d hi => ?_⟩
    have h1 := hc i d hi
    have hlt : b < w.heap.size := by
      rcases Nat.lt_or_ge b w.heap.size with h | h
      · exact h
      · have : w.heap[b]? = none := Array.getElem?_eq_none h
        simp [World.cell?, this] at h1
    exact (hb.cell (p := ⟨b, off + i, none⟩) hlt).trans h1




set_option maxRecDepth 10000 in
set_option maxHeartbeats 4000000 in
theorem lookup_calls (sv : Value) (L : List E) (dv : Value) (D : List Int) (other : ByteArray) (w : World) (hL : LAt w sv L) (hf : ∀ e ∈ L, EFits e) (hD : DaysAt w dv D) :
    Calls Tryz.prog 3 #[sv, dv, .string other] w fun e w' => e = .returned (.bool true) ∧ Below w.heap.size w w' := by
  have HL := Lib.hid hL
  have HFI := Lib.hid hf
  have HD := Lib.hid hD
  clear hL hf
  rcases hD with ⟨rfl, a, cap, rfl⟩ | ⟨b, off, cap, rfl, hmax, hc⟩
  · go_enter Tryz.func3, Tryz.ntmps3
    go_wp2_with (first | (go_at_call 20; refine (made_calls sv L _ HL.out HFI.out).mono ?_; rintro x w1 ⟨T, t, v, R, rfl, hM, hb1⟩))
    refine wp_loop_rounds 1 ?_
    rw [rounds_succ]
    go_wp2_with (first | (go_at_call 21; refine (known_calls _).mono ?_; rintro x w9 ⟨rfl, hb9⟩))
    go_ret
    exact ⟨rfl, below_over hb1 hb9 hb1.size⟩
  · by_cases h10 : 10 < D.length
    · have h10' : (10 : Int) < (D.length : Int) := by omega
      clear hc
      go_enter Tryz.func3, Tryz.ntmps3
      go_wp2_with (first | (go_at_call 20; refine (made_calls sv L _ HL.out HFI.out).mono ?_; rintro x w1 ⟨T, t, v, R, rfl, hM, hb1⟩) | (go_at_call 21; refine (known_calls _).mono ?_; rintro x w9 ⟨rfl, hb9⟩))
      go_ret
      exact ⟨rfl, below_over hb1 hb9 hb1.size⟩
    · have h10' : ¬ (10 : Int) < (D.length : Int) := by omega
      clear hc
      go_enter Tryz.func3, Tryz.ntmps3
      go_wp2_with (first | (go_at_call 20; refine (made_calls sv L _ HL.out HFI.out).mono ?_; rintro x w1 ⟨T, t, v, R, rfl, hM, hb1⟩))
      have HSM : Hid (∀ W, Below w1.heap.size w1 W → ∀ (d : Int) (key : ByteArray), Calls Tryz.prog 22 #[.pointer (some ⟨T.p, 0, none⟩), v, .int .i64 d, .string key] W fun x w' => x = .returned (.bool true) ∧ Below W.heap.size W w') := fun W hW d key =>
        same_calls T t v R d key W (hM.tab.below hW) hM.rel (hM.ref.below hW) (Nat.le_trans hM.len (by decide))
      have HCD : Hid (∀ W, Below w1.heap.size w1 W → ∀ (i : Nat) (d : Int), D[i]? = some d → W.cell? ⟨b, off + i, none⟩ = some (.int .i64 d)) := by
        intro W hW i d hi
        rcases (HD.out.below hb1).below hW with ⟨rfl, _⟩ | ⟨b', off', cap', hv, _, hc'⟩
        · cases hi
        · cases hv
          exact hc' i d hi
      have HCR : Hid (∀ W, Below w1.heap.size w1 W → TAt W v R) := fun W hW => hM.ref.below hW
      have hRl := hM.len
      rcases hM.ref.form with ⟨hR, rfl⟩ | ⟨rb, rcap, rfl, hrb, hrcap⟩
      · clear hM HD
        go_loopw [9] (fun p wr => ∃ i : Nat, p = .int .i64 i ∧ i ≤ D.length ∧ Below w1.heap.size w1 wr) (fun p wr => D.length - (intOf p).toNat)
        case atStart => exact ⟨0, rfl, Nat.zero_le _, Below.refl _ _⟩
        case round =>
          obtain ⟨i, rfl, hi, K⟩ := hrel
          by_cases hlt : i < D.length
          · obtain ⟨d, hd⟩ : ∃ d, D[i]? = some d := ⟨_, List.getElem?_eq_getElem hlt⟩
            have hcd := HCD.out wr K i d hd
            have hi1 : (i : Int) < (D.length : Int) := by omega
            clear hd
            go_wp2
            refine wp_loop_rounds 1 ?_
            rw [rounds_succ]
            go_wp2_with (first
              | (go_at_call 22; refine (HSM.out _ K _ _).mono ?_; rintro x w5 ⟨rfl, hb5⟩; have K5 := below_over K hb5 K.size))
            refine ⟨⟨i + 1, rfl, by omega, K5⟩, by simp [intOf]; omega⟩
          · obtain rfl : i = D.length := by omega
            clear hlt
            go_wp2_with (first | (go_at_call 21; refine (known_calls _).mono ?_; rintro x w9 ⟨rfl, hb9⟩))
            go_ret
            exact ⟨rfl, hb1.trans ((below_over K hb9 K.size).mono hb1.size)⟩
      · clear hM HD
        go_loopw [9] (fun p wr => ∃ i : Nat, p = .int .i64 i ∧ i ≤ D.length ∧ Below w1.heap.size w1 wr) (fun p wr => D.length - (intOf p).toNat)
        case atStart => exact ⟨0, rfl, Nat.zero_le _, Below.refl _ _⟩
        case round =>
          obtain ⟨i, rfl, hi, K⟩ := hrel
          by_cases hlt : i < D.length
          · obtain ⟨d, hd⟩ : ∃ d, D[i]? = some d := ⟨_, List.getElem?_eq_getElem hlt⟩
            have HDI := Lib.hid hd
            have hi1 : (i : Int) < (D.length : Int) := by omega
            clear hd
            go_wp2
            go_loopw [10] (fun p wq => ∃ k : Nat, p = .int .i64 k ∧ k ≤ R.length ∧ Below w1.heap.size w1 wq) (fun p wq => R.length - (intOf p).toNat)
            case atStart => exact ⟨0, rfl, Nat.zero_le _, K⟩
            case round =>
              obtain ⟨k, rfl, hk, K⟩ := hrel
              have hcd := HCD.out _ K i d HDI.out
              by_cases hkl : k < R.length
              · obtain ⟨y, hy⟩ : ∃ y, R[k]? = some y := ⟨_, List.getElem?_eq_getElem hkl⟩
                obtain ⟨y0, y1, y2, y3, y4, y5, y6, y7⟩ := (HCR.out _ K).cells hy
                have HY := Lib.hid hy
                have hk1 : (k : Int) < (R.length : Int) := by omega
                clear hy
                go_wp2
                go_region_held3 (fun W => W.cell? ⟨b, off + i, none⟩ = some (.int .i64 d) ∧ W.cell? ⟨rb, k * 8 + 2, none⟩ = some (.string y.key)) (first | go_keep) (first | (go_at_call 22; refine (HSM.out _ K.drew _ _).mono ?_; rintro x w5 ⟨rfl, hb5⟩; have K5 := below_over K.drew hb5 K.size; have s5 : w5.cell? ⟨b, off + i, none⟩ = some (.int .i64 d) ∧ w5.cell? ⟨rb, k * 8 + 2, none⟩ = some (.string y.key) := ⟨HCD.out _ K5 i d HDI.out, ((HCR.out _ K5).cells HY.out).2.2.1⟩))
                all_goals
                  go_wp2
                  refine ⟨⟨k + 1, rfl, by omega, K5⟩, by simp [intOf]; omega⟩
              · obtain rfl : k = R.length := by omega
                clear hkl
                go_wp2_with (first
                  | (go_at_call 22; refine (HSM.out _ K _ _).mono ?_; rintro x w5 ⟨rfl, hb5⟩; have K5 := below_over K hb5 K.size))
                refine ⟨⟨i + 1, rfl, by omega, K5⟩, by simp [intOf]; omega⟩
          · obtain rfl : i = D.length := by omega
            clear hlt
            go_wp2_with (first | (go_at_call 21; refine (known_calls _).mono ?_; rintro x w9 ⟨rfl, hb9⟩))
            go_ret
            exact ⟨rfl, hb1.trans ((below_over K hb9 K.size).mono hb1.size)⟩
end Go.Proofs.YtmbhkfclpkopiaaGreatDoor

namespace Go.Proofs.YtmbhkfclpkopiaaGreatDoor.lookup
open Go.ChangeShapes Go.WideShapes Go.ChangeAt Go.RowKit
open Go.ChangeMaps (open_string shut_string)
set_option linter.unusedVariables false

set_option maxRecDepth 100000 in
theorem contract (H : Type) (enc : TypeId × Value → H) (W : World) (base : Nat) (args : Array Value) (ds gs : List (DataW H)) (before : List MemPlace)
    (hval : ∀ (j : Nat) t v, Tryz.f3.params[j]? = some t → args[j]? = some v → Value.okWide Tryz.prog W .any base t v)
    (hW : DataW.Whole enc Tryz.prog Tryz.f3.params.toList Rows.refdataLookupSpec.vars false W args.toList ds gs before) :
    Calls Tryz.prog 3 args W fun e W' => ∃ v, e = .returned v ∧ Rows.refdataLookupSpec.post enc Tryz.prog Tryz.f3 false true false false W args v W' := by
  have hW' := hW
  obtain ⟨p, q, hA0, hV, rfl, hfz, hnd⟩ := hW
  have hA : DataW.TrodAll enc Tryz.prog W 0 (fun _ => true) true Tryz.f3.params.toList args.toList ds p := hA0
  rw [Tryz.params3] at hA hval
  obtain ⟨v0, vs0, d0, ds0, p0, q0, hargs, rfl, rfl, h0, r0⟩ := trodAll_cons hA
  obtain ⟨v1, vs1, d1, ds1, p1, q1, rfl, rfl, rfl, h1, r1⟩ := trodAll_cons r0
  obtain ⟨v2, vs2, d2, ds2, p2, q2, rfl, rfl, rfl, h2, r2⟩ := trodAll_cons r1
  obtain ⟨rfl, rfl, rfl⟩ := trodAll_nil r2
  obtain rfl : args = #[v0, v1, v2] := by cases args; simp_all
  obtain ⟨rfl, rfl⟩ := trodVars_none hV
  obtain ⟨a0, n0, c0, rfl⟩ := okWide_slice Tryz.underlying22 (hval 0 22 v0 rfl rfl)
  obtain ⟨a1, n1, c1, rfl⟩ := okWide_slice Tryz.underlying23 (hval 1 23 v1 rfl rfl)
  obtain ⟨k, rfl, rfl, rfl, hz⟩ := open_string Tryz.underlying9 (hval 2 9 v2 rfl rfl) h2
  have k0 := h0
  have k1 := h1
  have lt0 : ∀ x ∈ p0, x.block < W.heap.size := by obtain ⟨m, hm⟩ := k0; exact DataW.trod_lt m _ _ _ hm
  have lt1 : ∀ x ∈ p1, x.block < W.heap.size := by obtain ⟨m, hm⟩ := k1; exact DataW.trod_lt m _ _ _ hm
  obtain ⟨L, hL, hfits⟩ : ∃ L : List E, LAt W (.slice a0 n0 c0) L ∧ ∀ e ∈ L, EFits e := by
    obtain ⟨m, hm⟩ := h0
    exact open_LE hm
  obtain ⟨D, hD⟩ : ∃ D : List Int, DaysAt W (.slice a1 n1 c1) D := by
    obtain ⟨m, hm⟩ := h1
    exact open_LD hm
  clear hA0 hval
  refine (lookup_calls _ L _ D k W hL hfits hD).mono fun e W' ⟨he, bel⟩ => ?_
  subst he
  exact ⟨_, rfl, _, _, _, [], _, [], hW', trodAll_mk1 (shut_bool Tryz.underlying4 _), (trodAll_cons_mk (Below.trod laidOut (by kernel_rfl) (of_decide_eq_true (by kernel_rfl)) k0 bel lt0) (trodAll_cons_mk (Below.trod laidOut (by kernel_rfl) (of_decide_eq_true (by kernel_rfl)) k1 bel lt1) (trodAll_cons_mk (shut_string Tryz.underlying9 hz) trodAll_mk0))), rfl, bel.frame _, fun h => by cases h⟩

theorem laid_met (os : Os) : laidMet Tryz.prog Rows.refdataLookupRow.laid ((laidWorld os).forCall (fun _ _ => 0) ⟨#[], #[.slice none 0 0, .slice none 0 0, .string ByteArray.empty], []⟩).memory :=
  laidMet_of_run' 8 (by kernel_rfl) (by kernel_rfl)
theorem reads (os : Os) {H : Type} (enc : TypeId × Value → H) : ∃ places, DataW.whole enc Tryz.prog ((laidWorld os).forCall (fun _ _ => 0) ⟨#[], #[.slice none 0 0, .slice none 0 0, .string ByteArray.empty], []⟩).memory Tryz.f3.params.toList Rows.refdataLookupSpec.vars false #[Value.slice none 0 0, .slice none 0 0, .string ByteArray.empty].toList 8 = some ([.nil, .nil, .lit (.string [])], [], places) :=
  ⟨[], by kernel_rfl⟩

set_option maxRecDepth 100000 in
theorem lifted (os : Os) (started : os.Started) (H : Type) (enc : TypeId × Value → H) (F : Stop.Interp) :
    ReturnsInHanded {} Tryz.checked os 3 .any ((OpenSpec.ofChange Rows.refdataLookupSpec).preRow enc Tryz.prog Tryz.f3 Rows.refdataLookupRow.domain false Rows.refdataLookupRow.laid) (((OpenSpec.ofChange Rows.refdataLookupSpec).at F).post enc Tryz.prog Tryz.f3 false true false false) := by
  obtain ⟨places, hx⟩ := reads os enc
  refine returnsInHanded_of_row (C := Tryz.checked) (s := OpenSpec.ofChange Rows.refdataLookupSpec) own started (by kernel_rfl) Tryz.func3
    (witness_row_at (enc := enc) (C := Tryz.checked) false (laidWorld os) #[.slice none 0 0, .slice none 0 0, .string ByteArray.empty] rfl (by kernel_rfl) (by kernel_rfl) (by kernel_rfl)
      (OpenSpec.preRow_of_cond 8 hx (by kernel_rfl) (fun k hk => by cases hk) (by kernel_rfl) (laid_met os))) ?_
  intro W base args ds gs before hval hW _ _ _ hL _ _
  exact contract H enc W base args ds gs before hval hW

theorem said : Rows.RefdataLookupSaid :=
  OpenClaim.holds_of_cond 3 Tryz.f3 rfl rfl rfl rfl rfl rfl rfl ⟨rfl, rfl, rfl, rfl, rfl⟩ rfl rfl rfl rfl rfl (by kernel_rfl) Tryz.func3 closed
    (of_decide_eq_true (by kernel_rfl)) (by unfold Func.isWrapper; first | (rw [if_pos (by decide +kernel)]; kernel_rfl) | (rw [if_neg (by decide +kernel)]; exact ⟨rfl, rfl⟩))
    (fun os started H enc _ F => by rw [OpenClaim.pre_eq_preRow]; exact lifted os started H enc F)

theorem plain (f : FuncId) (fn : Func) (hf : Tryz.pinned.checked.prog.funcNamed "giro/girolaw21.RefdataLookup" = some f) (hfn : Tryz.pinned.checked.prog.funcs[f]? = some fn) :
    true = Tryz.pinned.checked.prog.looks [] ∧ ∀ (j : Nat) t, fn.params[j]? = some t → Tryz.pinned.checked.prog.wantsStandIn t = false := by
  obtain rfl : f = 3 := Option.some.inj ((show Tryz.prog.funcNamed "giro/girolaw21.RefdataLookup" = some 3 by kernel_rfl).symm.trans hf) |>.symm
  obtain rfl : fn = Tryz.f3 := (Option.some.inj (Tryz.func3.symm.trans hfn)).symm
  refine ⟨w4, fun j t ht => ?_⟩
  rw [Tryz.params3] at ht
  have hm := Array.mem_of_getElem? ht
  have : t = 22 ∨ t = 23 ∨ t = 9 := by simpa using hm
  rcases this with rfl | rfl | rfl
  · exact (show Tryz.prog.wantsStandIn 22 = false by kernel_rfl)
  · exact (show Tryz.prog.wantsStandIn 23 = false by kernel_rfl)
  · exact (show Tryz.prog.wantsStandIn 9 = false by kernel_rfl)

theorem card : Rows.RefdataLookupCardSaid :=
  Claim7.holds_tied_plain_at .later [] _ _ _ _ said (fun _ h => by cases h) w1 (fun _ h => by cases h) refdataLookup_row_tie rfl ⟨rfl, rfl⟩ w2 rfl plain w3
end Go.Proofs.YtmbhkfclpkopiaaGreatDoor.lookup
namespace Go.Proofs.YtmbhkfclpkopiaaGreatDoor
theorem refdataLookup_holds : Rows.RefdataLookupCardSaid := lookup.card
#print axioms refdataLookup_holds
end Go.Proofs.YtmbhkfclpkopiaaGreatDoor
