/- giroref21.Check, over what keys is said to do. -/
import Derived.Test.YtmbhkfclpkopiaaGreatDoorRefS
import Derived.Test.YtmbhkfclpkopiaaGreatDoorLawA
import Derived.Test.YtmbhkfclpkopiaaGreatDoorPureA
import Derived.Deep.QuietTactic
import Derived.BigQuiet
namespace Go.Proofs.YtmbhkfclpkopiaaGreatDoor
open Go.RowKit
set_option linter.unusedVariables false
set_option linter.unusedSimpArgs false

/-- The keys of a kind. -/
def HasKey (T : List E) (kind : Int) (k : ByteArray) : Prop := ∃ x ∈ T, x.kind = kind ∧ x.key = k
def KeysSays : Prop := ∀ (v : Value) (T : List E) (kind : Int) (w : World), TAt w v T → T.length ≤ 900 →
  Calls Tryz.prog 104 #[v, .int .i64 kind] w fun e w' => ∃ v' l, e = .returned v' ∧ SAt w.heap.size w' v' l ∧ Listed (HasKey T kind) l ∧ l.length ≤ T.length ∧ Below w.heap.size w w'

def KeysLen : Prop := ∀ (v : Value) (T : List E) (kind : Int) (w : World), TAt w v T → T.length ≤ 900 →
  Calls Tryz.prog 104 #[v, .int .i64 kind] w fun e w' => ∃ (a : Option Addr) (n cap : Nat), e = .returned (.slice a n cap) ∧ decide ((4096 : Int) ≤ (n : Int)) = false ∧ Below w.heap.size w w'

theorem last_quiet (v : Value) (T : List E) (kind : Int) (key : ByteArray) (w : World) (n : Nat) (h : TAt w v T) (hl : T.length ≤ 1000) :
    Calls Tryz.prog 171 #[v, .int .i64 kind, .string key] (w.drewN n) fun e w'' => e = .returned (.int .i64 (lastI T kind key T.length)) ∧ ∃ m, w'' = w.drewN m :=
  Calls.quiet_of_same ((last_calls _ T kind key (w.drewN n) (h.below (pw_below_drewN' (Below.refl _ _) n)) hl).mono fun e w' h => ⟨h.1, h.2.symm⟩)


theorem refCode_day (T : List E) (e : E) (hd : isDay e.day = false) : refCode vld fracOk T e = 28 := by
  simp [refCode, refCheck, hd]
theorem refCode_sub (T : List E) (e : E) (hd : isDay e.day = true) (hs : refSubject vld fracOk T e ≠ 0) : refCode vld fracOk T e = refSubject vld fracOk T e := by
  simp [refCode, refCheck, hd, hs]
theorem refCode_stale (T : List E) (e y : E) (hd : isDay e.day = true) (hs : refSubject vld fracOk T e = 0) (hl : refLast T e.kind e.key = some y) (hy : e.day < y.day) : refCode vld fracOk T e = 20 := by
  simp [refCode, refCheck, hd, hs, hl, hy]
/-- What is left behind the first three looks. -/
theorem refCode_rest (T : List E) (e : E) (hd : isDay e.day = true) (hs : refSubject vld fracOk T e = 0) (hl : ∀ y, refLast T e.kind e.key = some y → ¬ e.day < y.day) : refCode vld fracOk T e =
    if e.kind = 0 ∧ e.text ≠ ByteArray.empty ∧ refTaken T e = true then 7 else if e.kind = 1 ∧ ∃ y, refLast T 1 e.key = some y ∧ y.text ≠ e.text then 11 else 0 := by
  have h1 : (match refLast T e.kind e.key with | some y => decide (e.day < y.day) | none => false) = false := by
    cases h : refLast T e.kind e.key with
    | none => rfl
    | some y => simpa using hl y h
  have h2 : (match refLast T 1 e.key with | some y => !decide (y.text = e.text) | none => false) = decide (∃ y, refLast T 1 e.key = some y ∧ y.text ≠ e.text) := by
    cases h : refLast T 1 e.key with
    | none => simp
    | some y => simp
  unfold refCode refCheck
  simp only [hd, hs]
  cases h : refLast T e.kind e.key with
  | none =>
    cases g : refLast T 1 e.key with
    | none => simp [and_assoc]
    | some z => simp [and_assoc]
  | some y =>
    have := hl y h
    cases g : refLast T 1 e.key with
    | none => simp [this, and_assoc]
    | some z => simp [this, and_assoc]

theorem SAt.shape {base : Nat} {w : World} {v : Value} {l : List ByteArray} (h : SAt base w v l) : ∃ a cap, v = .slice a l.length cap := by
  rcases row_form h with ⟨h0, rfl⟩ | ⟨b, cap, rfl, _⟩
  · exact ⟨none, 0, by rw [h0]⟩
  · exact ⟨_, _, rfl⟩

theorem KeysSays.len (h : KeysSays) : KeysLen := by
  intro v T kind w hT hl
  refine (h v T kind w hT hl).mono ?_
  rintro e w' ⟨v', l, rfl, hS, _, hlen, hb⟩
  obtain ⟨a, cap, rfl⟩ := hS.shape
  exact ⟨a, l.length, cap, rfl, by simp; omega, hb⟩









set_option maxRecDepth 10000 in
set_option maxHeartbeats 4000000 in
theorem rchk_calls (ks : KeysLen) (v : Value) (T : List E) (e : E) (w : World) (h : TAt w v T) (hl : T.length ≤ 900) (hk : e.kind = 0 ∨ e.kind = 1 ∨ e.kind = 2 ∨ e.kind = 3) (hz1 : e.key.size ≤ 9223372036854775807) (hz3 : e.text.size ≤ 9223372036854775807) :
    Calls Tryz.prog 106 #[v, .agg (encT e).toArray] w fun x w' => x = .returned (.int .i64 (refCode vld fracOk T e)) ∧ Below w.heap.size w w' := by
  obtain ⟨kind, day, key, text, n, num, den, active⟩ := e
  have HB0 : Below w.heap.size w (w.alloc (.cells #[.int .i64 kind, .int .i64 day, .string key, .string text, .int .i64 n, .int .i64 num, .int .i64 den, .bool active] 33)) := (Below.refl _ _).alloc (Nat.le_refl _) _
  have KS := Lib.hid ks
  have HZ1 := Lib.hid hz1
  have HZ3 := Lib.hid hz3
  have HK := Lib.hid hk
  have HL9 := Lib.hid hl
  have HL : Hid (T.length ≤ 1000) := Nat.le_trans hl (by decide)
  have HTA := h.below HB0
  have K : Below (w.heap.size + 1) (w.alloc (.cells #[.int .i64 kind, .int .i64 day, .string key, .string text, .int .i64 n, .int .i64 num, .int .i64 den, .bool active] 33)) (w.alloc (.cells #[.int .i64 kind, .int .i64 day, .string key, .string text, .int .i64 n, .int .i64 num, .int .i64 den, .bool active] 33)) := Below.refl _ _
  have FT : Hid (∀ W, Below (w.heap.size + 1) (w.alloc (.cells #[.int .i64 kind, .int .i64 day, .string key, .string text, .int .i64 n, .int .i64 num, .int .i64 den, .bool active] 33)) W → TAt W v T) := fun W hW => HTA.below (hW.mono (by simp))
  have hw : w.heap.size + 1 ≤ (w.alloc (.cells #[.int .i64 kind, .int .i64 day, .string key, .string text, .int .i64 n, .int .i64 num, .int .i64 den, .bool active] 33)).heap.size := by simp
  have c := box_cell K
  have HFORM := Lib.hid h.form
  clear ks hz1 hz3 hl h
  simp only [] at hk
  show Calls Tryz.prog 106 #[v, .agg #[.int .i64 kind, .int .i64 day, .string key, .string text, .int .i64 n, .int .i64 num, .int .i64 den, .bool active]] w _
  cases hd : isDay day with
  | false =>
    have HX := Lib.hid (refCode_day T ⟨kind, day, key, text, n, num, den, active⟩ hd)
    have HD := Lib.hid hd
    clear hd hk
    go_enter Tryz.func106, Tryz.ntmps106
    go_wp2_with (first
      | (go_at_call 107; refine (rday_calls _ _).mono ?_; rintro x w' ⟨rfl, rfl⟩; rw [HD.out])
      | (go_at_call 172; refine (subject_calls _ T ⟨_, day, key, text, n, num, den, active⟩ _ HTA HL.out (by first | exact HK.out | simp) HZ1.out HZ3.out).mono ?_; rintro x w1 ⟨rfl, hb1⟩; rw [HS.out]; replace K := below_over K hb1 hw; replace hw := le_trans' hw hb1.size; replace c := box_cell K; replace HTA := FT.out _ K)
      | (go_at_call 171; refine (last_calls _ T _ _ _ HTA HL.out).mono ?_; rintro x w' ⟨rfl, rfl⟩; rw [HLA.out]))
    go_ret
    exact ⟨ret_int HX.out.symm, HB0.trans (K.mono (Nat.le_succ _))⟩
  | true =>
    have HD := Lib.hid hd
    obtain ⟨q, hq⟩ : ∃ q, refSubject vld fracOk T ⟨kind, day, key, text, n, num, den, active⟩ = q := ⟨_, rfl⟩
    have HS := Lib.hid hq
    by_cases hq0 : q = 0
    · subst hq0
      rcases last_cases T kind key with ⟨hla, hlast⟩ | ⟨j, y, hla, hj, hlast, hyk, hykey⟩
      · have HLA := Lib.hid hla
        have HX := Lib.hid (refCode_rest T ⟨kind, day, key, text, n, num, den, active⟩ hd hq (fun y hy => by rw [hlast] at hy; cases hy))
        have HLS := Lib.hid hlast
        clear hd hq hla hlast
        rcases hk with rfl | rfl | rfl | rfl
        · skip
          by_cases ht : text = ByteArray.empty
          · replace HX : Hid (refCode vld fracOk T ⟨0, day, key, text, n, num, den, active⟩ = 0) := by
              show _ = _
              rw [HX.out, if_neg (by simp [ht]), if_neg (by simp)]
            have hte : (text.toList == ([] : List UInt8)) = true := tl_empty.2 ht
            clear ht
            go_enter Tryz.func106, Tryz.ntmps106
            go_wp2_with (first
              | (go_at_call 107; refine (rday_calls _ _).mono ?_; rintro x w' ⟨rfl, rfl⟩; rw [HD.out])
              | (go_at_call 172; refine (subject_calls _ T ⟨_, day, key, text, n, num, den, active⟩ _ HTA HL.out (by first | exact HK.out | simp) HZ1.out HZ3.out).mono ?_; rintro x w1 ⟨rfl, hb1⟩; rw [HS.out]; replace K := below_over K hb1 hw; replace hw := le_trans' hw hb1.size; replace c := box_cell K; replace HTA := FT.out _ K)
              | (go_at_call 171; refine (last_calls _ T _ _ _ HTA HL.out).mono ?_; rintro x w' ⟨rfl, rfl⟩; rw [HLA.out]))
            go_quiet (fail)
            go_wp2
            go_quiet (fail)
            go_wp2_with (first
              | (go_at_call 104; refine (KS.out _ T _ _ (FT.out _ (by repeat (first | exact K | refine pw_below_drewN' ?_ _))) HL9.out).mono ?_; rintro x w5 ⟨a5, n5, cap5, rfl, hlt5, hb5⟩))
            go_ret
            first
              | exact ⟨ret_int HX.out.symm, HB0.trans (K.mono (Nat.le_succ _))⟩
              | exact ⟨ret_int HX.out.symm, HB0.trans ((pw_below_drewN' K _).mono (Nat.le_succ _))⟩
              | exact ⟨ret_int HX.out.symm, HB0.trans ((pw_below_drewN' (pw_below_drewN' K _) _).mono (Nat.le_succ _))⟩
              | exact ⟨ret_int HX.out.symm, HB0.trans ((below_over K hb5 hw).mono (Nat.le_succ _))⟩
              | exact ⟨ret_int HX.out.symm, HB0.trans ((below_over (pw_below_drewN' K _) hb5 hw).mono (Nat.le_succ _))⟩
              | exact ⟨ret_int HX.out.symm, HB0.trans ((below_over (pw_below_drewN' (pw_below_drewN' K _) _) hb5 hw).mono (Nat.le_succ _))⟩
          · have hte : (text.toList == ([] : List UInt8)) = false := by rw [Bool.eq_false_iff]; exact fun h => ht (tl_empty.1 h)
            have HTX : Hid (text ≠ ByteArray.empty) := ht
            clear ht
            rcases HFORM.out with ⟨hT, rfl⟩ | ⟨b, cap, rfl, hb, hcap⟩
            · replace HX : Hid (refCode vld fracOk T ⟨0, day, key, text, n, num, den, active⟩ = 0) := by
                show _ = _
                rw [HX.out, if_neg (by simp [hT, refTaken]), if_neg (by simp)]
              have hT0 : T.length = 0 := by rw [hT]; rfl
              clear hT
              go_enter Tryz.func106, Tryz.ntmps106
              go_wp2_with (first
                | (go_at_call 107; refine (rday_calls _ _).mono ?_; rintro x w' ⟨rfl, rfl⟩; rw [HD.out])
                | (go_at_call 172; refine (subject_calls _ T ⟨_, day, key, text, n, num, den, active⟩ _ HTA HL.out (by first | exact HK.out | simp) HZ1.out HZ3.out).mono ?_; rintro x w1 ⟨rfl, hb1⟩; rw [HS.out]; replace K := below_over K hb1 hw; replace hw := le_trans' hw hb1.size; replace c := box_cell K; replace HTA := FT.out _ K)
                | (go_at_call 171; refine (last_calls _ T _ _ _ HTA HL.out).mono ?_; rintro x w' ⟨rfl, rfl⟩; rw [HLA.out]))
              go_quiet (fail)
              go_wp2
              refine wp_loop_rounds 1 ?_
              rw [rounds_succ]
              go_wp2
              go_quiet (fail)
              go_wp2_with (first
                | (go_at_call 104; refine (KS.out _ T _ _ (FT.out _ (by repeat (first | exact K | refine pw_below_drewN' ?_ _))) HL9.out).mono ?_; rintro x w5 ⟨a5, n5, cap5, rfl, hlt5, hb5⟩))
              go_ret
              first
                | exact ⟨ret_int HX.out.symm, HB0.trans (K.mono (Nat.le_succ _))⟩
                | exact ⟨ret_int HX.out.symm, HB0.trans ((pw_below_drewN' K _).mono (Nat.le_succ _))⟩
                | exact ⟨ret_int HX.out.symm, HB0.trans ((pw_below_drewN' (pw_below_drewN' K _) _).mono (Nat.le_succ _))⟩
                | exact ⟨ret_int HX.out.symm, HB0.trans ((below_over K hb5 hw).mono (Nat.le_succ _))⟩
                | exact ⟨ret_int HX.out.symm, HB0.trans ((below_over (pw_below_drewN' K _) hb5 hw).mono (Nat.le_succ _))⟩
                | exact ⟨ret_int HX.out.symm, HB0.trans ((below_over (pw_below_drewN' (pw_below_drewN' K _) _) hb5 hw).mono (Nat.le_succ _))⟩
            · have HA7 : Hid (refTaken T ⟨0, day, key, text, n, num, den, active⟩ = true → refCode vld fracOk T ⟨0, day, key, text, n, num, den, active⟩ = 7) := by
                intro ht
                rw [HX.out, if_pos ⟨rfl, HTX.out, ht⟩]
              have HA0 : Hid (¬ refTaken T ⟨0, day, key, text, n, num, den, active⟩ = true → refCode vld fracOk T ⟨0, day, key, text, n, num, den, active⟩ = 0) := by
                intro ht
                rw [HX.out, if_neg (fun h => ht h.2.2), if_neg (fun h => by simp at h)]
              clear HFORM
              go_enter Tryz.func106, Tryz.ntmps106
              go_wp2_with (first
                | (go_at_call 107; refine (rday_calls _ _).mono ?_; rintro x w' ⟨rfl, rfl⟩; rw [HD.out])
                | (go_at_call 172; refine (subject_calls _ T ⟨_, day, key, text, n, num, den, active⟩ _ HTA HL.out (by first | exact HK.out | simp) HZ1.out HZ3.out).mono ?_; rintro x w1 ⟨rfl, hb1⟩; rw [HS.out]; replace K := below_over K hb1 hw; replace hw := le_trans' hw hb1.size; replace c := box_cell K; replace HTA := FT.out _ K)
                | (go_at_call 171; refine (last_calls _ T _ _ _ HTA HL.out).mono ?_; rintro x w' ⟨rfl, rfl⟩; rw [HLA.out]))
              go_quiet (fail)
              go_wp2
              go_loopw [7] (fun p wr => ∃ i : Nat, p = .int .i64 i ∧ i ≤ T.length ∧ (∀ (i' : Nat) (x : E), i' < i → T[i']? = some x → dup T ⟨0, day, key, text, n, num, den, active⟩ x i' = false) ∧ Below (w.heap.size + 1) (w.alloc (.cells #[.int .i64 0, .int .i64 day, .string key, .string text, .int .i64 n, .int .i64 num, .int .i64 den, .bool active] 33)) wr) (fun p wr => T.length - (intOf p).toNat)
              case atStart => exact ⟨0, rfl, by omega, (fun i' x h => absurd h (Nat.not_lt_zero _)), (by repeat (first | exact K | refine pw_below_drewN' ?_ _))⟩
              case round =>
                obtain ⟨i, rfl, hi, hno, K⟩ := hrel
                have HNO := Lib.hid hno
                clear hno
                have c := box_cell K
                have hw : w.heap.size + 1 ≤ wr.heap.size := by have := K.size; simpa using this
                by_cases hlt : i < T.length
                · obtain ⟨x, hx⟩ : ∃ x, T[i]? = some x := ⟨_, List.getElem?_eq_getElem hlt⟩
                  obtain ⟨x0, x1, x2, x3, x4, x5, x6, x7⟩ := (FT.out _ K).cells hx
                  have HXI := Lib.hid hx
                  have hlt1 : (i : Int) < (T.length : Int) := by omega
                  have hl9 := HL9.out
                  cases hdup : dup T ⟨0, day, key, text, n, num, den, active⟩ x i with
                  | true =>
                    have HX7 := Lib.hid (HA7.out ((dup_taken T _).2 ⟨i, x, hx, hdup⟩))
                    have hq : (x.kind == 0) = true ∧ (x.key.toList == key.toList) = false ∧ (x.text.toList == text.toList) = true ∧ (lastI T 0 x.key T.length == (i : Int)) = true := by
                      rw [beq_tl, beq_tl]; simpa [dup, and_assoc] using hdup
                    obtain ⟨q1, q2, q3, q4⟩ := hq
                    clear hdup hx
                    go_wp2
                    go_quiet (first | (go_at_call 171; refine last_quiet _ T _ _ _ _ (FT.out _ K) HL.out))
                    go_wp2
                    go_ret
                    exact ⟨ret_int HX7.out.symm, HB0.trans ((pw_below_drewN' K _).mono (Nat.le_succ _))⟩
                  | false =>
                    have HNO' : Hid (∀ (i' : Nat) (x : E), i' < i + 1 → T[i']? = some x → dup T ⟨0, day, key, text, n, num, den, active⟩ x i' = false) := by
                      intro i' x' h1 h2
                      rcases Nat.lt_or_ge i' i with h3 | h3
                      · exact HNO.out i' x' h3 h2
                      · obtain rfl : i' = i := by omega
                        rw [HXI.out] at h2
                        cases h2
                        exact hdup
                    have hq : (x.kind == 0) = false ∨ ((x.kind == 0) = true ∧ (x.key.toList == key.toList) = true) ∨ ((x.kind == 0) = true ∧ (x.key.toList == key.toList) = false ∧ (x.text.toList == text.toList) = false) ∨ ((x.kind == 0) = true ∧ (x.key.toList == key.toList) = false ∧ (x.text.toList == text.toList) = true ∧ (lastI T 0 x.key T.length == (i : Int)) = false) := by
                      rw [beq_tl, beq_tl]
                      simp only [dup] at hdup
                      by_cases h1 : x.kind = 0 <;> by_cases h2 : x.key = key <;> by_cases h3 : x.text = text <;> simp [h1, h2, h3] at hdup ⊢
                      exact hdup
                    clear hdup hx
                    rcases hq with q1 | ⟨q1, q2⟩ | ⟨q1, q2, q3⟩ | ⟨q1, q2, q3, q4⟩
                    all_goals
                      go_wp2
                      go_quiet (first | (go_at_call 171; refine last_quiet _ T _ _ _ _ (FT.out _ K) HL.out))
                      go_wp2
                      refine ⟨⟨i + 1, rfl, by omega, HNO'.out, pw_below_drewN' K _⟩, by simp [intOf]; omega⟩
                · obtain rfl : i = T.length := by omega
                  replace HX := Lib.hid (HA0.out (fun ht => by
                    obtain ⟨i', x, h1, h2⟩ := (dup_taken T _).1 ht
                    rw [HNO.out i' x (List.getElem?_eq_some_iff.1 h1).1 h1] at h2
                    cases h2))
                  clear hlt
                  go_wp2
                  go_quiet (fail)
                  go_wp2_with (first
                    | (go_at_call 104; refine (KS.out _ T _ _ (FT.out _ (by repeat (first | exact K | refine pw_below_drewN' ?_ _))) HL9.out).mono ?_; rintro x w5 ⟨a5, n5, cap5, rfl, hlt5, hb5⟩))
                  go_ret
                  first
                    | exact ⟨ret_int HX.out.symm, HB0.trans (K.mono (Nat.le_succ _))⟩
                    | exact ⟨ret_int HX.out.symm, HB0.trans ((pw_below_drewN' K _).mono (Nat.le_succ _))⟩
                    | exact ⟨ret_int HX.out.symm, HB0.trans ((pw_below_drewN' (pw_below_drewN' K _) _).mono (Nat.le_succ _))⟩
                    | exact ⟨ret_int HX.out.symm, HB0.trans ((below_over K hb5 hw).mono (Nat.le_succ _))⟩
                    | exact ⟨ret_int HX.out.symm, HB0.trans ((below_over (pw_below_drewN' K _) hb5 hw).mono (Nat.le_succ _))⟩
                    | exact ⟨ret_int HX.out.symm, HB0.trans ((below_over (pw_below_drewN' (pw_below_drewN' K _) _) hb5 hw).mono (Nat.le_succ _))⟩
        · replace HX : Hid (refCode vld fracOk T ⟨1, day, key, text, n, num, den, active⟩ = 0) := by
            show _ = _
            rw [HX.out, if_neg (by simp), if_neg (by simp [HLS.out])]
          go_enter Tryz.func106, Tryz.ntmps106
          go_wp2_with (first
            | (go_at_call 107; refine (rday_calls _ _).mono ?_; rintro x w' ⟨rfl, rfl⟩; rw [HD.out])
            | (go_at_call 172; refine (subject_calls _ T ⟨_, day, key, text, n, num, den, active⟩ _ HTA HL.out (by first | exact HK.out | simp) HZ1.out HZ3.out).mono ?_; rintro x w1 ⟨rfl, hb1⟩; rw [HS.out]; replace K := below_over K hb1 hw; replace hw := le_trans' hw hb1.size; replace c := box_cell K; replace HTA := FT.out _ K)
            | (go_at_call 171; refine (last_calls _ T _ _ _ HTA HL.out).mono ?_; rintro x w' ⟨rfl, rfl⟩; rw [HLA.out]))
          go_quiet (fail)
          go_wp2
          go_quiet (fail)
          go_wp2_with (first
            | (go_at_call 104; refine (KS.out _ T _ _ (FT.out _ (by repeat (first | exact K | refine pw_below_drewN' ?_ _))) HL9.out).mono ?_; rintro x w5 ⟨a5, n5, cap5, rfl, hlt5, hb5⟩))
          go_ret
          first
            | exact ⟨ret_int HX.out.symm, HB0.trans (K.mono (Nat.le_succ _))⟩
            | exact ⟨ret_int HX.out.symm, HB0.trans ((pw_below_drewN' K _).mono (Nat.le_succ _))⟩
            | exact ⟨ret_int HX.out.symm, HB0.trans ((pw_below_drewN' (pw_below_drewN' K _) _).mono (Nat.le_succ _))⟩
            | exact ⟨ret_int HX.out.symm, HB0.trans ((below_over K hb5 hw).mono (Nat.le_succ _))⟩
            | exact ⟨ret_int HX.out.symm, HB0.trans ((below_over (pw_below_drewN' K _) hb5 hw).mono (Nat.le_succ _))⟩
            | exact ⟨ret_int HX.out.symm, HB0.trans ((below_over (pw_below_drewN' (pw_below_drewN' K _) _) hb5 hw).mono (Nat.le_succ _))⟩
        · replace HX : Hid (refCode vld fracOk T ⟨2, day, key, text, n, num, den, active⟩ = 0) := by
            show _ = _
            rw [HX.out, if_neg (by simp), if_neg (by simp)]
          go_enter Tryz.func106, Tryz.ntmps106
          go_wp2_with (first
            | (go_at_call 107; refine (rday_calls _ _).mono ?_; rintro x w' ⟨rfl, rfl⟩; rw [HD.out])
            | (go_at_call 172; refine (subject_calls _ T ⟨_, day, key, text, n, num, den, active⟩ _ HTA HL.out (by first | exact HK.out | simp) HZ1.out HZ3.out).mono ?_; rintro x w1 ⟨rfl, hb1⟩; rw [HS.out]; replace K := below_over K hb1 hw; replace hw := le_trans' hw hb1.size; replace c := box_cell K; replace HTA := FT.out _ K)
            | (go_at_call 171; refine (last_calls _ T _ _ _ HTA HL.out).mono ?_; rintro x w' ⟨rfl, rfl⟩; rw [HLA.out]))
          go_quiet (fail)
          go_wp2
          go_quiet (fail)
          go_wp2_with (first
            | (go_at_call 104; refine (KS.out _ T _ _ (FT.out _ (by repeat (first | exact K | refine pw_below_drewN' ?_ _))) HL9.out).mono ?_; rintro x w5 ⟨a5, n5, cap5, rfl, hlt5, hb5⟩))
          go_ret
          first
            | exact ⟨ret_int HX.out.symm, HB0.trans (K.mono (Nat.le_succ _))⟩
            | exact ⟨ret_int HX.out.symm, HB0.trans ((pw_below_drewN' K _).mono (Nat.le_succ _))⟩
            | exact ⟨ret_int HX.out.symm, HB0.trans ((pw_below_drewN' (pw_below_drewN' K _) _).mono (Nat.le_succ _))⟩
            | exact ⟨ret_int HX.out.symm, HB0.trans ((below_over K hb5 hw).mono (Nat.le_succ _))⟩
            | exact ⟨ret_int HX.out.symm, HB0.trans ((below_over (pw_below_drewN' K _) hb5 hw).mono (Nat.le_succ _))⟩
            | exact ⟨ret_int HX.out.symm, HB0.trans ((below_over (pw_below_drewN' (pw_below_drewN' K _) _) hb5 hw).mono (Nat.le_succ _))⟩
        · replace HX : Hid (refCode vld fracOk T ⟨3, day, key, text, n, num, den, active⟩ = 0) := by
            show _ = _
            rw [HX.out, if_neg (by simp), if_neg (by simp)]
          go_enter Tryz.func106, Tryz.ntmps106
          go_wp2_with (first
            | (go_at_call 107; refine (rday_calls _ _).mono ?_; rintro x w' ⟨rfl, rfl⟩; rw [HD.out])
            | (go_at_call 172; refine (subject_calls _ T ⟨_, day, key, text, n, num, den, active⟩ _ HTA HL.out (by first | exact HK.out | simp) HZ1.out HZ3.out).mono ?_; rintro x w1 ⟨rfl, hb1⟩; rw [HS.out]; replace K := below_over K hb1 hw; replace hw := le_trans' hw hb1.size; replace c := box_cell K; replace HTA := FT.out _ K)
            | (go_at_call 171; refine (last_calls _ T _ _ _ HTA HL.out).mono ?_; rintro x w' ⟨rfl, rfl⟩; rw [HLA.out]))
          go_quiet (fail)
          go_wp2
          go_quiet (fail)
          go_wp2_with (first
            | (go_at_call 104; refine (KS.out _ T _ _ (FT.out _ (by repeat (first | exact K | refine pw_below_drewN' ?_ _))) HL9.out).mono ?_; rintro x w5 ⟨a5, n5, cap5, rfl, hlt5, hb5⟩))
          go_ret
          first
            | exact ⟨ret_int HX.out.symm, HB0.trans (K.mono (Nat.le_succ _))⟩
            | exact ⟨ret_int HX.out.symm, HB0.trans ((pw_below_drewN' K _).mono (Nat.le_succ _))⟩
            | exact ⟨ret_int HX.out.symm, HB0.trans ((pw_below_drewN' (pw_below_drewN' K _) _).mono (Nat.le_succ _))⟩
            | exact ⟨ret_int HX.out.symm, HB0.trans ((below_over K hb5 hw).mono (Nat.le_succ _))⟩
            | exact ⟨ret_int HX.out.symm, HB0.trans ((below_over (pw_below_drewN' K _) hb5 hw).mono (Nat.le_succ _))⟩
            | exact ⟨ret_int HX.out.symm, HB0.trans ((below_over (pw_below_drewN' (pw_below_drewN' K _) _) hb5 hw).mono (Nat.le_succ _))⟩
      · obtain ⟨b, cap, rfl, hb, hcap⟩ : ∃ b cap, v = .slice (some ⟨b, 0, none⟩) T.length cap ∧ b < w.heap.size ∧ T.length ≤ cap := by
          rcases HFORM.out with ⟨hT, _⟩ | h
          · rw [hT] at hj; cases hj
          · exact h
        have hjl : j < T.length := (List.getElem?_eq_some_iff.1 hj).1
        have hj1 : (j : Int) < (T.length : Int) := by omega
        have hj2 : decide ((j : Int) < 0) = false := by simp
        have hj0 : (0 : Int) ≤ (j : Int) := by omega
        have HLA := Lib.hid hla
        have HJ := Lib.hid hj
        by_cases hst : day < y.day
        · have HX := Lib.hid (refCode_stale T ⟨kind, day, key, text, n, num, den, active⟩ y hd hq hlast hst)
          clear hd hq hla hlast hj HFORM
          go_enter Tryz.func106, Tryz.ntmps106
          go_wp2_with (first
            | (go_at_call 107; refine (rday_calls _ _).mono ?_; rintro x w' ⟨rfl, rfl⟩; rw [HD.out])
            | (go_at_call 172; refine (subject_calls _ T ⟨_, day, key, text, n, num, den, active⟩ _ HTA HL.out (by first | exact HK.out | simp) HZ1.out HZ3.out).mono ?_; rintro x w1 ⟨rfl, hb1⟩; rw [HS.out]; replace K := below_over K hb1 hw; replace hw := le_trans' hw hb1.size; replace c := box_cell K; replace HTA := FT.out _ K)
            | (go_at_call 171; refine (last_calls _ T _ _ _ HTA HL.out).mono ?_; rintro x w' ⟨rfl, rfl⟩; rw [HLA.out]))
          obtain ⟨y0, y1, y2, y3, y4, y5, y6, y7⟩ := (FT.out _ K).cells HJ.out
          go_quiet (fail)
          go_wp2
          go_ret
          exact ⟨ret_int HX.out.symm, HB0.trans ((pw_below_drewN' K _).mono (Nat.le_succ _))⟩
        · have HX := Lib.hid (refCode_rest T ⟨kind, day, key, text, n, num, den, active⟩ hd hq (fun z hz => by rw [hlast] at hz; cases hz; exact hst))
          have hst' : decide (day < y.day) = false := decide_eq_false hst
          have HLS := Lib.hid hlast
          clear hd hq hla hlast hj hst
          rcases hk with rfl | rfl | rfl | rfl
          · skip
            by_cases ht : text = ByteArray.empty
            · replace HX : Hid (refCode vld fracOk T ⟨0, day, key, text, n, num, den, active⟩ = 0) := by
                show _ = _
                rw [HX.out, if_neg (by simp [ht]), if_neg (by simp)]
              have hte : (text.toList == ([] : List UInt8)) = true := tl_empty.2 ht
              clear ht HFORM
              go_enter Tryz.func106, Tryz.ntmps106
              go_wp2_with (first
                | (go_at_call 107; refine (rday_calls _ _).mono ?_; rintro x w' ⟨rfl, rfl⟩; rw [HD.out])
                | (go_at_call 172; refine (subject_calls _ T ⟨_, day, key, text, n, num, den, active⟩ _ HTA HL.out (by first | exact HK.out | simp) HZ1.out HZ3.out).mono ?_; rintro x w1 ⟨rfl, hb1⟩; rw [HS.out]; replace K := below_over K hb1 hw; replace hw := le_trans' hw hb1.size; replace c := box_cell K; replace HTA := FT.out _ K)
                | (go_at_call 171; refine (last_calls _ T _ _ _ HTA HL.out).mono ?_; rintro x w' ⟨rfl, rfl⟩; rw [HLA.out]))
              obtain ⟨y0, y1, y2, y3, y4, y5, y6, y7⟩ := (FT.out _ K).cells HJ.out
              go_quiet (fail)
              go_wp2
              go_quiet (fail)
              go_wp2_with (first
                | (go_at_call 104; refine (KS.out _ T _ _ (FT.out _ (by repeat (first | exact K | refine pw_below_drewN' ?_ _))) HL9.out).mono ?_; rintro x w5 ⟨a5, n5, cap5, rfl, hlt5, hb5⟩))
              go_ret
              first
                | exact ⟨ret_int HX.out.symm, HB0.trans (K.mono (Nat.le_succ _))⟩
                | exact ⟨ret_int HX.out.symm, HB0.trans ((pw_below_drewN' K _).mono (Nat.le_succ _))⟩
                | exact ⟨ret_int HX.out.symm, HB0.trans ((pw_below_drewN' (pw_below_drewN' K _) _).mono (Nat.le_succ _))⟩
                | exact ⟨ret_int HX.out.symm, HB0.trans ((below_over K hb5 hw).mono (Nat.le_succ _))⟩
                | exact ⟨ret_int HX.out.symm, HB0.trans ((below_over (pw_below_drewN' K _) hb5 hw).mono (Nat.le_succ _))⟩
                | exact ⟨ret_int HX.out.symm, HB0.trans ((below_over (pw_below_drewN' (pw_below_drewN' K _) _) hb5 hw).mono (Nat.le_succ _))⟩
            · have hte : (text.toList == ([] : List UInt8)) = false := by rw [Bool.eq_false_iff]; exact fun h => ht (tl_empty.1 h)
              have HTX : Hid (text ≠ ByteArray.empty) := ht
              have HA7 : Hid (refTaken T ⟨0, day, key, text, n, num, den, active⟩ = true → refCode vld fracOk T ⟨0, day, key, text, n, num, den, active⟩ = 7) := by
                intro ht
                rw [HX.out, if_pos ⟨rfl, HTX.out, ht⟩]
              have HA0 : Hid (¬ refTaken T ⟨0, day, key, text, n, num, den, active⟩ = true → refCode vld fracOk T ⟨0, day, key, text, n, num, den, active⟩ = 0) := by
                intro ht
                rw [HX.out, if_neg (fun h => ht h.2.2), if_neg (fun h => by simp at h)]
              clear ht HFORM
              go_enter Tryz.func106, Tryz.ntmps106
              go_wp2_with (first
                | (go_at_call 107; refine (rday_calls _ _).mono ?_; rintro x w' ⟨rfl, rfl⟩; rw [HD.out])
                | (go_at_call 172; refine (subject_calls _ T ⟨_, day, key, text, n, num, den, active⟩ _ HTA HL.out (by first | exact HK.out | simp) HZ1.out HZ3.out).mono ?_; rintro x w1 ⟨rfl, hb1⟩; rw [HS.out]; replace K := below_over K hb1 hw; replace hw := le_trans' hw hb1.size; replace c := box_cell K; replace HTA := FT.out _ K)
                | (go_at_call 171; refine (last_calls _ T _ _ _ HTA HL.out).mono ?_; rintro x w' ⟨rfl, rfl⟩; rw [HLA.out]))
              obtain ⟨y0, y1, y2, y3, y4, y5, y6, y7⟩ := (FT.out _ K).cells HJ.out
              go_quiet (fail)
              go_wp2
              go_loopw [7] (fun p wr => ∃ i : Nat, p = .int .i64 i ∧ i ≤ T.length ∧ (∀ (i' : Nat) (x : E), i' < i → T[i']? = some x → dup T ⟨0, day, key, text, n, num, den, active⟩ x i' = false) ∧ Below (w.heap.size + 1) (w.alloc (.cells #[.int .i64 0, .int .i64 day, .string key, .string text, .int .i64 n, .int .i64 num, .int .i64 den, .bool active] 33)) wr) (fun p wr => T.length - (intOf p).toNat)
              case atStart => exact ⟨0, rfl, by omega, (fun i' x h => absurd h (Nat.not_lt_zero _)), (by repeat (first | exact K | refine pw_below_drewN' ?_ _))⟩
              case round =>
                obtain ⟨i, rfl, hi, hno, K⟩ := hrel
                have HNO := Lib.hid hno
                clear hno
                have c := box_cell K
                have hw : w.heap.size + 1 ≤ wr.heap.size := by have := K.size; simpa using this
                by_cases hlt : i < T.length
                · obtain ⟨x, hx⟩ : ∃ x, T[i]? = some x := ⟨_, List.getElem?_eq_getElem hlt⟩
                  obtain ⟨x0, x1, x2, x3, x4, x5, x6, x7⟩ := (FT.out _ K).cells hx
                  have HXI := Lib.hid hx
                  have hlt1 : (i : Int) < (T.length : Int) := by omega
                  have hl9 := HL9.out
                  cases hdup : dup T ⟨0, day, key, text, n, num, den, active⟩ x i with
                  | true =>
                    have HX7 := Lib.hid (HA7.out ((dup_taken T _).2 ⟨i, x, hx, hdup⟩))
                    have hq : (x.kind == 0) = true ∧ (x.key.toList == key.toList) = false ∧ (x.text.toList == text.toList) = true ∧ (lastI T 0 x.key T.length == (i : Int)) = true := by
                      rw [beq_tl, beq_tl]; simpa [dup, and_assoc] using hdup
                    obtain ⟨q1, q2, q3, q4⟩ := hq
                    clear hdup hx
                    go_wp2
                    go_quiet (first | (go_at_call 171; refine last_quiet _ T _ _ _ _ (FT.out _ K) HL.out))
                    go_wp2
                    go_ret
                    exact ⟨ret_int HX7.out.symm, HB0.trans ((pw_below_drewN' K _).mono (Nat.le_succ _))⟩
                  | false =>
                    have HNO' : Hid (∀ (i' : Nat) (x : E), i' < i + 1 → T[i']? = some x → dup T ⟨0, day, key, text, n, num, den, active⟩ x i' = false) := by
                      intro i' x' h1 h2
                      rcases Nat.lt_or_ge i' i with h3 | h3
                      · exact HNO.out i' x' h3 h2
                      · obtain rfl : i' = i := by omega
                        rw [HXI.out] at h2
                        cases h2
                        exact hdup
                    have hq : (x.kind == 0) = false ∨ ((x.kind == 0) = true ∧ (x.key.toList == key.toList) = true) ∨ ((x.kind == 0) = true ∧ (x.key.toList == key.toList) = false ∧ (x.text.toList == text.toList) = false) ∨ ((x.kind == 0) = true ∧ (x.key.toList == key.toList) = false ∧ (x.text.toList == text.toList) = true ∧ (lastI T 0 x.key T.length == (i : Int)) = false) := by
                      rw [beq_tl, beq_tl]
                      simp only [dup] at hdup
                      by_cases h1 : x.kind = 0 <;> by_cases h2 : x.key = key <;> by_cases h3 : x.text = text <;> simp [h1, h2, h3] at hdup ⊢
                      exact hdup
                    clear hdup hx
                    rcases hq with q1 | ⟨q1, q2⟩ | ⟨q1, q2, q3⟩ | ⟨q1, q2, q3, q4⟩
                    all_goals
                      go_wp2
                      go_quiet (first | (go_at_call 171; refine last_quiet _ T _ _ _ _ (FT.out _ K) HL.out))
                      go_wp2
                      refine ⟨⟨i + 1, rfl, by omega, HNO'.out, pw_below_drewN' K _⟩, by simp [intOf]; omega⟩
                · obtain rfl : i = T.length := by omega
                  replace HX := Lib.hid (HA0.out (fun ht => by
                    obtain ⟨i', x, h1, h2⟩ := (dup_taken T _).1 ht
                    rw [HNO.out i' x (List.getElem?_eq_some_iff.1 h1).1 h1] at h2
                    cases h2))
                  clear hlt
                  go_wp2
                  go_quiet (fail)
                  go_wp2_with (first
                    | (go_at_call 104; refine (KS.out _ T _ _ (FT.out _ (by repeat (first | exact K | refine pw_below_drewN' ?_ _))) HL9.out).mono ?_; rintro x w5 ⟨a5, n5, cap5, rfl, hlt5, hb5⟩))
                  go_ret
                  first
                    | exact ⟨ret_int HX.out.symm, HB0.trans (K.mono (Nat.le_succ _))⟩
                    | exact ⟨ret_int HX.out.symm, HB0.trans ((pw_below_drewN' K _).mono (Nat.le_succ _))⟩
                    | exact ⟨ret_int HX.out.symm, HB0.trans ((pw_below_drewN' (pw_below_drewN' K _) _).mono (Nat.le_succ _))⟩
                    | exact ⟨ret_int HX.out.symm, HB0.trans ((below_over K hb5 hw).mono (Nat.le_succ _))⟩
                    | exact ⟨ret_int HX.out.symm, HB0.trans ((below_over (pw_below_drewN' K _) hb5 hw).mono (Nat.le_succ _))⟩
                    | exact ⟨ret_int HX.out.symm, HB0.trans ((below_over (pw_below_drewN' (pw_below_drewN' K _) _) hb5 hw).mono (Nat.le_succ _))⟩
          · by_cases hyt : y.text = text
            · replace HX : Hid (refCode vld fracOk T ⟨1, day, key, text, n, num, den, active⟩ = 0) := by
                show _ = _
                rw [HX.out, if_neg (by simp), if_neg]
                rintro ⟨_, z, hz, hne⟩
                rw [HLS.out] at hz
                cases hz
                exact hne hyt
              have hyt' : (y.text.toList == text.toList) = true := by rw [beq_tl]; simpa using hyt
              clear hyt HFORM
              go_enter Tryz.func106, Tryz.ntmps106
              go_wp2_with (first
                | (go_at_call 107; refine (rday_calls _ _).mono ?_; rintro x w' ⟨rfl, rfl⟩; rw [HD.out])
                | (go_at_call 172; refine (subject_calls _ T ⟨_, day, key, text, n, num, den, active⟩ _ HTA HL.out (by first | exact HK.out | simp) HZ1.out HZ3.out).mono ?_; rintro x w1 ⟨rfl, hb1⟩; rw [HS.out]; replace K := below_over K hb1 hw; replace hw := le_trans' hw hb1.size; replace c := box_cell K; replace HTA := FT.out _ K)
                | (go_at_call 171; refine (last_calls _ T _ _ _ HTA HL.out).mono ?_; rintro x w' ⟨rfl, rfl⟩; rw [HLA.out]))
              obtain ⟨y0, y1, y2, y3, y4, y5, y6, y7⟩ := (FT.out _ K).cells HJ.out
              go_quiet (fail)
              go_wp2
              go_quiet (fail)
              go_wp2_with (first
                | (go_at_call 104; refine (KS.out _ T _ _ (FT.out _ (by repeat (first | exact K | refine pw_below_drewN' ?_ _))) HL9.out).mono ?_; rintro x w5 ⟨a5, n5, cap5, rfl, hlt5, hb5⟩))
              go_ret
              first
                | exact ⟨ret_int HX.out.symm, HB0.trans (K.mono (Nat.le_succ _))⟩
                | exact ⟨ret_int HX.out.symm, HB0.trans ((pw_below_drewN' K _).mono (Nat.le_succ _))⟩
                | exact ⟨ret_int HX.out.symm, HB0.trans ((pw_below_drewN' (pw_below_drewN' K _) _).mono (Nat.le_succ _))⟩
                | exact ⟨ret_int HX.out.symm, HB0.trans ((below_over K hb5 hw).mono (Nat.le_succ _))⟩
                | exact ⟨ret_int HX.out.symm, HB0.trans ((below_over (pw_below_drewN' K _) hb5 hw).mono (Nat.le_succ _))⟩
                | exact ⟨ret_int HX.out.symm, HB0.trans ((below_over (pw_below_drewN' (pw_below_drewN' K _) _) hb5 hw).mono (Nat.le_succ _))⟩
            · replace HX : Hid (refCode vld fracOk T ⟨1, day, key, text, n, num, den, active⟩ = 11) := by
                show _ = _
                rw [HX.out, if_neg (by simp), if_pos ⟨rfl, y, HLS.out, hyt⟩]
              have hyt' : (y.text.toList == text.toList) = false := by rw [beq_tl]; simpa using hyt
              clear hyt HFORM
              go_enter Tryz.func106, Tryz.ntmps106
              go_wp2_with (first
                | (go_at_call 107; refine (rday_calls _ _).mono ?_; rintro x w' ⟨rfl, rfl⟩; rw [HD.out])
                | (go_at_call 172; refine (subject_calls _ T ⟨_, day, key, text, n, num, den, active⟩ _ HTA HL.out (by first | exact HK.out | simp) HZ1.out HZ3.out).mono ?_; rintro x w1 ⟨rfl, hb1⟩; rw [HS.out]; replace K := below_over K hb1 hw; replace hw := le_trans' hw hb1.size; replace c := box_cell K; replace HTA := FT.out _ K)
                | (go_at_call 171; refine (last_calls _ T _ _ _ HTA HL.out).mono ?_; rintro x w' ⟨rfl, rfl⟩; rw [HLA.out]))
              obtain ⟨y0, y1, y2, y3, y4, y5, y6, y7⟩ := (FT.out _ K).cells HJ.out
              go_quiet (fail)
              go_wp2
              go_quiet (fail)
              go_wp2_with (first
                | (go_at_call 104; refine (KS.out _ T _ _ (FT.out _ (by repeat (first | exact K | refine pw_below_drewN' ?_ _))) HL9.out).mono ?_; rintro x w5 ⟨a5, n5, cap5, rfl, hlt5, hb5⟩))
              go_ret
              first
                | exact ⟨ret_int HX.out.symm, HB0.trans (K.mono (Nat.le_succ _))⟩
                | exact ⟨ret_int HX.out.symm, HB0.trans ((pw_below_drewN' K _).mono (Nat.le_succ _))⟩
                | exact ⟨ret_int HX.out.symm, HB0.trans ((pw_below_drewN' (pw_below_drewN' K _) _).mono (Nat.le_succ _))⟩
                | exact ⟨ret_int HX.out.symm, HB0.trans ((below_over K hb5 hw).mono (Nat.le_succ _))⟩
                | exact ⟨ret_int HX.out.symm, HB0.trans ((below_over (pw_below_drewN' K _) hb5 hw).mono (Nat.le_succ _))⟩
                | exact ⟨ret_int HX.out.symm, HB0.trans ((below_over (pw_below_drewN' (pw_below_drewN' K _) _) hb5 hw).mono (Nat.le_succ _))⟩
          · replace HX : Hid (refCode vld fracOk T ⟨2, day, key, text, n, num, den, active⟩ = 0) := by
              show _ = _
              rw [HX.out, if_neg (by simp), if_neg (by simp)]
            clear HFORM
            go_enter Tryz.func106, Tryz.ntmps106
            go_wp2_with (first
              | (go_at_call 107; refine (rday_calls _ _).mono ?_; rintro x w' ⟨rfl, rfl⟩; rw [HD.out])
              | (go_at_call 172; refine (subject_calls _ T ⟨_, day, key, text, n, num, den, active⟩ _ HTA HL.out (by first | exact HK.out | simp) HZ1.out HZ3.out).mono ?_; rintro x w1 ⟨rfl, hb1⟩; rw [HS.out]; replace K := below_over K hb1 hw; replace hw := le_trans' hw hb1.size; replace c := box_cell K; replace HTA := FT.out _ K)
              | (go_at_call 171; refine (last_calls _ T _ _ _ HTA HL.out).mono ?_; rintro x w' ⟨rfl, rfl⟩; rw [HLA.out]))
            obtain ⟨y0, y1, y2, y3, y4, y5, y6, y7⟩ := (FT.out _ K).cells HJ.out
            go_quiet (fail)
            go_wp2
            go_quiet (fail)
            go_wp2_with (first
              | (go_at_call 104; refine (KS.out _ T _ _ (FT.out _ (by repeat (first | exact K | refine pw_below_drewN' ?_ _))) HL9.out).mono ?_; rintro x w5 ⟨a5, n5, cap5, rfl, hlt5, hb5⟩))
            go_ret
            first
              | exact ⟨ret_int HX.out.symm, HB0.trans (K.mono (Nat.le_succ _))⟩
              | exact ⟨ret_int HX.out.symm, HB0.trans ((pw_below_drewN' K _).mono (Nat.le_succ _))⟩
              | exact ⟨ret_int HX.out.symm, HB0.trans ((pw_below_drewN' (pw_below_drewN' K _) _).mono (Nat.le_succ _))⟩
              | exact ⟨ret_int HX.out.symm, HB0.trans ((below_over K hb5 hw).mono (Nat.le_succ _))⟩
              | exact ⟨ret_int HX.out.symm, HB0.trans ((below_over (pw_below_drewN' K _) hb5 hw).mono (Nat.le_succ _))⟩
              | exact ⟨ret_int HX.out.symm, HB0.trans ((below_over (pw_below_drewN' (pw_below_drewN' K _) _) hb5 hw).mono (Nat.le_succ _))⟩
          · replace HX : Hid (refCode vld fracOk T ⟨3, day, key, text, n, num, den, active⟩ = 0) := by
              show _ = _
              rw [HX.out, if_neg (by simp), if_neg (by simp)]
            clear HFORM
            go_enter Tryz.func106, Tryz.ntmps106
            go_wp2_with (first
              | (go_at_call 107; refine (rday_calls _ _).mono ?_; rintro x w' ⟨rfl, rfl⟩; rw [HD.out])
              | (go_at_call 172; refine (subject_calls _ T ⟨_, day, key, text, n, num, den, active⟩ _ HTA HL.out (by first | exact HK.out | simp) HZ1.out HZ3.out).mono ?_; rintro x w1 ⟨rfl, hb1⟩; rw [HS.out]; replace K := below_over K hb1 hw; replace hw := le_trans' hw hb1.size; replace c := box_cell K; replace HTA := FT.out _ K)
              | (go_at_call 171; refine (last_calls _ T _ _ _ HTA HL.out).mono ?_; rintro x w' ⟨rfl, rfl⟩; rw [HLA.out]))
            obtain ⟨y0, y1, y2, y3, y4, y5, y6, y7⟩ := (FT.out _ K).cells HJ.out
            go_quiet (fail)
            go_wp2
            go_quiet (fail)
            go_wp2_with (first
              | (go_at_call 104; refine (KS.out _ T _ _ (FT.out _ (by repeat (first | exact K | refine pw_below_drewN' ?_ _))) HL9.out).mono ?_; rintro x w5 ⟨a5, n5, cap5, rfl, hlt5, hb5⟩))
            go_ret
            first
              | exact ⟨ret_int HX.out.symm, HB0.trans (K.mono (Nat.le_succ _))⟩
              | exact ⟨ret_int HX.out.symm, HB0.trans ((pw_below_drewN' K _).mono (Nat.le_succ _))⟩
              | exact ⟨ret_int HX.out.symm, HB0.trans ((pw_below_drewN' (pw_below_drewN' K _) _).mono (Nat.le_succ _))⟩
              | exact ⟨ret_int HX.out.symm, HB0.trans ((below_over K hb5 hw).mono (Nat.le_succ _))⟩
              | exact ⟨ret_int HX.out.symm, HB0.trans ((below_over (pw_below_drewN' K _) hb5 hw).mono (Nat.le_succ _))⟩
              | exact ⟨ret_int HX.out.symm, HB0.trans ((below_over (pw_below_drewN' (pw_below_drewN' K _) _) hb5 hw).mono (Nat.le_succ _))⟩
    · have HX := Lib.hid (refCode_sub T ⟨kind, day, key, text, n, num, den, active⟩ hd (by rw [hq]; exact hq0))
      have hqq : (q == 0) = false := by simpa using hq0
      clear hd hk hq hq0
      go_enter Tryz.func106, Tryz.ntmps106
      go_wp2_with (first
        | (go_at_call 107; refine (rday_calls _ _).mono ?_; rintro x w' ⟨rfl, rfl⟩; rw [HD.out])
        | (go_at_call 172; refine (subject_calls _ T ⟨_, day, key, text, n, num, den, active⟩ _ HTA HL.out (by first | exact HK.out | simp) HZ1.out HZ3.out).mono ?_; rintro x w1 ⟨rfl, hb1⟩; rw [HS.out]; replace K := below_over K hb1 hw; replace hw := le_trans' hw hb1.size; replace c := box_cell K; replace HTA := FT.out _ K)
        | (go_at_call 171; refine (last_calls _ T _ _ _ HTA HL.out).mono ?_; rintro x w' ⟨rfl, rfl⟩; rw [HLA.out]))
      go_ret
      exact ⟨ret_int (by rw [HX.out, HS.out]), HB0.trans (K.mono (Nat.le_succ _))⟩
end Go.Proofs.YtmbhkfclpkopiaaGreatDoor
