/- giroref05: letter, digit, may, Lengths. -/
import Derived.Test.YtmbhkfclpkopiaaGreatDoorIdent9
namespace Go.Proofs.YtmbhkfclpkopiaaGreatDoor
open Go.RowKit
set_option linter.unusedVariables false
set_option linter.unusedSimpArgs false

theorem rletter_calls (c : Int) (w : World) : Calls Tryz.prog 260 #[.int .u8 c] w fun e w' => e = .returned (.bool (isLet c)) ∧ w = w' := by
  by_cases h1 : 65 ≤ c
  · by_cases h2 : c ≤ 90
    · have HV : Hid (isLet c = true) := by show isLet c = true; simp [isLet, h1, h2]
      go_enter Tryz.func260, Tryz.ntmps260
      go_wp2
      go_ret
      exact ⟨ret_bool HV.out.symm, rfl⟩
    · have HV : Hid (isLet c = false) := by show isLet c = false; simp [isLet, h2]
      have h2' : decide (c ≤ 90) = false := by simp [h2]
      go_enter Tryz.func260, Tryz.ntmps260
      go_wp2
      go_ret
      exact ⟨ret_bool HV.out.symm, rfl⟩
  · have HV : Hid (isLet c = false) := by show isLet c = false; simp [isLet, h1]
    have h1' : decide (65 ≤ c) = false := by simp [h1]
    go_enter Tryz.func260, Tryz.ntmps260
    go_wp2
    go_ret
    exact ⟨ret_bool HV.out.symm, rfl⟩

theorem rdigit_calls (c : Int) (w : World) : Calls Tryz.prog 261 #[.int .u8 c] w fun e w' => e = .returned (.bool (isDig c)) ∧ w = w' := by
  by_cases h1 : 48 ≤ c
  · by_cases h2 : c ≤ 57
    · have HV : Hid (isDig c = true) := by show isDig c = true; simp [isDig, h1, h2]
      go_enter Tryz.func261, Tryz.ntmps261
      go_wp2
      go_ret
      exact ⟨ret_bool HV.out.symm, rfl⟩
    · have HV : Hid (isDig c = false) := by show isDig c = false; simp [isDig, h2]
      have h2' : decide (c ≤ 57) = false := by simp [h2]
      go_enter Tryz.func261, Tryz.ntmps261
      go_wp2
      go_ret
      exact ⟨ret_bool HV.out.symm, rfl⟩
  · have HV : Hid (isDig c = false) := by show isDig c = false; simp [isDig, h1]
    have h1' : decide (48 ≤ c) = false := by simp [h1]
    go_enter Tryz.func261, Tryz.ntmps261
    go_wp2
    go_ret
    exact ⟨ret_bool HV.out.symm, rfl⟩


set_option maxRecDepth 10000 in
theorem may_0_0 (i : Int) (c : Int) (h1 : 0 ≤ i) (h2 : i < 2) (w : World) : Calls Tryz.prog 242 #[.int .i64 0, .int .i64 i, .int .u8 c] w fun e w' => e = .returned (.bool (isLet c)) ∧ w = w' := by
  obtain ⟨a, ha⟩ : ∃ a, isLet c = a := ⟨_, rfl⟩
  obtain ⟨b, hb⟩ : ∃ b, isDig c = b := ⟨_, rfl⟩
  rw [ha]
  have HL := Lib.hid ha
  have HD := Lib.hid hb
  clear ha hb
  cases a
  · cases b
    · skip
      go_enter Tryz.func242, Tryz.ntmps242
      go_wp2_with (first
        | (go_at_call 260; refine (rletter_calls _ _).mono ?_; rintro e w' ⟨rfl, rfl⟩; rw [HL.out])
        | (go_at_call 261; refine (rdigit_calls _ _).mono ?_; rintro e w' ⟨rfl, rfl⟩; rw [HD.out]))
      go_ret
      exact ⟨rfl, rfl⟩
    · skip
      go_enter Tryz.func242, Tryz.ntmps242
      go_wp2_with (first
        | (go_at_call 260; refine (rletter_calls _ _).mono ?_; rintro e w' ⟨rfl, rfl⟩; rw [HL.out])
        | (go_at_call 261; refine (rdigit_calls _ _).mono ?_; rintro e w' ⟨rfl, rfl⟩; rw [HD.out]))
      go_ret
      exact ⟨rfl, rfl⟩
  · cases b
    · skip
      go_enter Tryz.func242, Tryz.ntmps242
      go_wp2_with (first
        | (go_at_call 260; refine (rletter_calls _ _).mono ?_; rintro e w' ⟨rfl, rfl⟩; rw [HL.out])
        | (go_at_call 261; refine (rdigit_calls _ _).mono ?_; rintro e w' ⟨rfl, rfl⟩; rw [HD.out]))
      go_ret
      exact ⟨rfl, rfl⟩
    · skip
      go_enter Tryz.func242, Tryz.ntmps242
      go_wp2_with (first
        | (go_at_call 260; refine (rletter_calls _ _).mono ?_; rintro e w' ⟨rfl, rfl⟩; rw [HL.out])
        | (go_at_call 261; refine (rdigit_calls _ _).mono ?_; rintro e w' ⟨rfl, rfl⟩; rw [HD.out]))
      go_ret
      exact ⟨rfl, rfl⟩
set_option maxRecDepth 10000 in
theorem may_0_2 (i : Int) (c : Int) (h1 : 2 ≤ i) (h2 : i < 11) (w : World) : Calls Tryz.prog 242 #[.int .i64 0, .int .i64 i, .int .u8 c] w fun e w' => e = .returned (.bool (isLet c || isDig c)) ∧ w = w' := by
  obtain ⟨a, ha⟩ : ∃ a, isLet c = a := ⟨_, rfl⟩
  obtain ⟨b, hb⟩ : ∃ b, isDig c = b := ⟨_, rfl⟩
  rw [ha, hb]
  have HL := Lib.hid ha
  have HD := Lib.hid hb
  clear ha hb
  cases a
  · cases b
    · skip
      go_enter Tryz.func242, Tryz.ntmps242
      go_wp2_with (first
        | (go_at_call 260; refine (rletter_calls _ _).mono ?_; rintro e w' ⟨rfl, rfl⟩; rw [HL.out])
        | (go_at_call 261; refine (rdigit_calls _ _).mono ?_; rintro e w' ⟨rfl, rfl⟩; rw [HD.out]))
      go_ret
      exact ⟨rfl, rfl⟩
    · skip
      go_enter Tryz.func242, Tryz.ntmps242
      go_wp2_with (first
        | (go_at_call 260; refine (rletter_calls _ _).mono ?_; rintro e w' ⟨rfl, rfl⟩; rw [HL.out])
        | (go_at_call 261; refine (rdigit_calls _ _).mono ?_; rintro e w' ⟨rfl, rfl⟩; rw [HD.out]))
      go_ret
      exact ⟨rfl, rfl⟩
  · cases b
    · skip
      go_enter Tryz.func242, Tryz.ntmps242
      go_wp2_with (first
        | (go_at_call 260; refine (rletter_calls _ _).mono ?_; rintro e w' ⟨rfl, rfl⟩; rw [HL.out])
        | (go_at_call 261; refine (rdigit_calls _ _).mono ?_; rintro e w' ⟨rfl, rfl⟩; rw [HD.out]))
      go_ret
      exact ⟨rfl, rfl⟩
    · skip
      go_enter Tryz.func242, Tryz.ntmps242
      go_wp2_with (first
        | (go_at_call 260; refine (rletter_calls _ _).mono ?_; rintro e w' ⟨rfl, rfl⟩; rw [HL.out])
        | (go_at_call 261; refine (rdigit_calls _ _).mono ?_; rintro e w' ⟨rfl, rfl⟩; rw [HD.out]))
      go_ret
      exact ⟨rfl, rfl⟩
set_option maxRecDepth 10000 in
theorem may_0_11 (i : Int) (c : Int) (h1 : 11 ≤ i) (h2 : i < 12) (w : World) : Calls Tryz.prog 242 #[.int .i64 0, .int .i64 i, .int .u8 c] w fun e w' => e = .returned (.bool (isDig c)) ∧ w = w' := by
  obtain rfl : i = 11 := by omega
  clear h1 h2
  obtain ⟨a, ha⟩ : ∃ a, isLet c = a := ⟨_, rfl⟩
  obtain ⟨b, hb⟩ : ∃ b, isDig c = b := ⟨_, rfl⟩
  rw [hb]
  have HL := Lib.hid ha
  have HD := Lib.hid hb
  clear ha hb
  cases a
  · cases b
    · skip
      go_enter Tryz.func242, Tryz.ntmps242
      go_wp2_with (first
        | (go_at_call 260; refine (rletter_calls _ _).mono ?_; rintro e w' ⟨rfl, rfl⟩; rw [HL.out])
        | (go_at_call 261; refine (rdigit_calls _ _).mono ?_; rintro e w' ⟨rfl, rfl⟩; rw [HD.out]))
      go_ret
      exact ⟨rfl, rfl⟩
    · skip
      go_enter Tryz.func242, Tryz.ntmps242
      go_wp2_with (first
        | (go_at_call 260; refine (rletter_calls _ _).mono ?_; rintro e w' ⟨rfl, rfl⟩; rw [HL.out])
        | (go_at_call 261; refine (rdigit_calls _ _).mono ?_; rintro e w' ⟨rfl, rfl⟩; rw [HD.out]))
      go_ret
      exact ⟨rfl, rfl⟩
  · cases b
    · skip
      go_enter Tryz.func242, Tryz.ntmps242
      go_wp2_with (first
        | (go_at_call 260; refine (rletter_calls _ _).mono ?_; rintro e w' ⟨rfl, rfl⟩; rw [HL.out])
        | (go_at_call 261; refine (rdigit_calls _ _).mono ?_; rintro e w' ⟨rfl, rfl⟩; rw [HD.out]))
      go_ret
      exact ⟨rfl, rfl⟩
    · skip
      go_enter Tryz.func242, Tryz.ntmps242
      go_wp2_with (first
        | (go_at_call 260; refine (rletter_calls _ _).mono ?_; rintro e w' ⟨rfl, rfl⟩; rw [HL.out])
        | (go_at_call 261; refine (rdigit_calls _ _).mono ?_; rintro e w' ⟨rfl, rfl⟩; rw [HD.out]))
      go_ret
      exact ⟨rfl, rfl⟩
set_option maxRecDepth 10000 in
theorem may_1_0 (i : Int) (c : Int) (h1 : 0 ≤ i) (h2 : i < 1) (w : World) : Calls Tryz.prog 242 #[.int .i64 1, .int .i64 i, .int .u8 c] w fun e w' => e = .returned (.bool (isLet c)) ∧ w = w' := by
  obtain rfl : i = 0 := by omega
  clear h1 h2
  obtain ⟨a, ha⟩ : ∃ a, isLet c = a := ⟨_, rfl⟩
  obtain ⟨b, hb⟩ : ∃ b, isDig c = b := ⟨_, rfl⟩
  rw [ha]
  have HL := Lib.hid ha
  have HD := Lib.hid hb
  clear ha hb
  cases a
  · cases b
    · skip
      go_enter Tryz.func242, Tryz.ntmps242
      go_wp2_with (first
        | (go_at_call 260; refine (rletter_calls _ _).mono ?_; rintro e w' ⟨rfl, rfl⟩; rw [HL.out])
        | (go_at_call 261; refine (rdigit_calls _ _).mono ?_; rintro e w' ⟨rfl, rfl⟩; rw [HD.out]))
      go_ret
      exact ⟨rfl, rfl⟩
    · skip
      go_enter Tryz.func242, Tryz.ntmps242
      go_wp2_with (first
        | (go_at_call 260; refine (rletter_calls _ _).mono ?_; rintro e w' ⟨rfl, rfl⟩; rw [HL.out])
        | (go_at_call 261; refine (rdigit_calls _ _).mono ?_; rintro e w' ⟨rfl, rfl⟩; rw [HD.out]))
      go_ret
      exact ⟨rfl, rfl⟩
  · cases b
    · skip
      go_enter Tryz.func242, Tryz.ntmps242
      go_wp2_with (first
        | (go_at_call 260; refine (rletter_calls _ _).mono ?_; rintro e w' ⟨rfl, rfl⟩; rw [HL.out])
        | (go_at_call 261; refine (rdigit_calls _ _).mono ?_; rintro e w' ⟨rfl, rfl⟩; rw [HD.out]))
      go_ret
      exact ⟨rfl, rfl⟩
    · skip
      go_enter Tryz.func242, Tryz.ntmps242
      go_wp2_with (first
        | (go_at_call 260; refine (rletter_calls _ _).mono ?_; rintro e w' ⟨rfl, rfl⟩; rw [HL.out])
        | (go_at_call 261; refine (rdigit_calls _ _).mono ?_; rintro e w' ⟨rfl, rfl⟩; rw [HD.out]))
      go_ret
      exact ⟨rfl, rfl⟩
set_option maxRecDepth 10000 in
theorem may_1_1 (i : Int) (c : Int) (h1 : 1 ≤ i) (h2 : i < 8) (w : World) : Calls Tryz.prog 242 #[.int .i64 1, .int .i64 i, .int .u8 c] w fun e w' => e = .returned (.bool (isLet c || isDig c)) ∧ w = w' := by
  obtain ⟨a, ha⟩ : ∃ a, isLet c = a := ⟨_, rfl⟩
  obtain ⟨b, hb⟩ : ∃ b, isDig c = b := ⟨_, rfl⟩
  rw [ha, hb]
  have HL := Lib.hid ha
  have HD := Lib.hid hb
  clear ha hb
  cases a
  · cases b
    · skip
      go_enter Tryz.func242, Tryz.ntmps242
      go_wp2_with (first
        | (go_at_call 260; refine (rletter_calls _ _).mono ?_; rintro e w' ⟨rfl, rfl⟩; rw [HL.out])
        | (go_at_call 261; refine (rdigit_calls _ _).mono ?_; rintro e w' ⟨rfl, rfl⟩; rw [HD.out]))
      go_ret
      exact ⟨rfl, rfl⟩
    · skip
      go_enter Tryz.func242, Tryz.ntmps242
      go_wp2_with (first
        | (go_at_call 260; refine (rletter_calls _ _).mono ?_; rintro e w' ⟨rfl, rfl⟩; rw [HL.out])
        | (go_at_call 261; refine (rdigit_calls _ _).mono ?_; rintro e w' ⟨rfl, rfl⟩; rw [HD.out]))
      go_ret
      exact ⟨rfl, rfl⟩
  · cases b
    · skip
      go_enter Tryz.func242, Tryz.ntmps242
      go_wp2_with (first
        | (go_at_call 260; refine (rletter_calls _ _).mono ?_; rintro e w' ⟨rfl, rfl⟩; rw [HL.out])
        | (go_at_call 261; refine (rdigit_calls _ _).mono ?_; rintro e w' ⟨rfl, rfl⟩; rw [HD.out]))
      go_ret
      exact ⟨rfl, rfl⟩
    · skip
      go_enter Tryz.func242, Tryz.ntmps242
      go_wp2_with (first
        | (go_at_call 260; refine (rletter_calls _ _).mono ?_; rintro e w' ⟨rfl, rfl⟩; rw [HL.out])
        | (go_at_call 261; refine (rdigit_calls _ _).mono ?_; rintro e w' ⟨rfl, rfl⟩; rw [HD.out]))
      go_ret
      exact ⟨rfl, rfl⟩
set_option maxRecDepth 10000 in
theorem may_3_0 (i : Int) (c : Int) (h1 : 0 ≤ i) (h2 : i < 18) (w : World) : Calls Tryz.prog 242 #[.int .i64 3, .int .i64 i, .int .u8 c] w fun e w' => e = .returned (.bool (isLet c || isDig c)) ∧ w = w' := by
  obtain ⟨a, ha⟩ : ∃ a, isLet c = a := ⟨_, rfl⟩
  obtain ⟨b, hb⟩ : ∃ b, isDig c = b := ⟨_, rfl⟩
  rw [ha, hb]
  have HL := Lib.hid ha
  have HD := Lib.hid hb
  clear ha hb
  cases a
  · cases b
    · skip
      go_enter Tryz.func242, Tryz.ntmps242
      go_wp2_with (first
        | (go_at_call 260; refine (rletter_calls _ _).mono ?_; rintro e w' ⟨rfl, rfl⟩; rw [HL.out])
        | (go_at_call 261; refine (rdigit_calls _ _).mono ?_; rintro e w' ⟨rfl, rfl⟩; rw [HD.out]))
      go_ret
      exact ⟨rfl, rfl⟩
    · skip
      go_enter Tryz.func242, Tryz.ntmps242
      go_wp2_with (first
        | (go_at_call 260; refine (rletter_calls _ _).mono ?_; rintro e w' ⟨rfl, rfl⟩; rw [HL.out])
        | (go_at_call 261; refine (rdigit_calls _ _).mono ?_; rintro e w' ⟨rfl, rfl⟩; rw [HD.out]))
      go_ret
      exact ⟨rfl, rfl⟩
  · cases b
    · skip
      go_enter Tryz.func242, Tryz.ntmps242
      go_wp2_with (first
        | (go_at_call 260; refine (rletter_calls _ _).mono ?_; rintro e w' ⟨rfl, rfl⟩; rw [HL.out])
        | (go_at_call 261; refine (rdigit_calls _ _).mono ?_; rintro e w' ⟨rfl, rfl⟩; rw [HD.out]))
      go_ret
      exact ⟨rfl, rfl⟩
    · skip
      go_enter Tryz.func242, Tryz.ntmps242
      go_wp2_with (first
        | (go_at_call 260; refine (rletter_calls _ _).mono ?_; rintro e w' ⟨rfl, rfl⟩; rw [HL.out])
        | (go_at_call 261; refine (rdigit_calls _ _).mono ?_; rintro e w' ⟨rfl, rfl⟩; rw [HD.out]))
      go_ret
      exact ⟨rfl, rfl⟩
set_option maxRecDepth 10000 in
theorem may_3_18 (i : Int) (c : Int) (h1 : 18 ≤ i) (h2 : i < 20) (w : World) : Calls Tryz.prog 242 #[.int .i64 3, .int .i64 i, .int .u8 c] w fun e w' => e = .returned (.bool (isDig c)) ∧ w = w' := by
  obtain ⟨a, ha⟩ : ∃ a, isLet c = a := ⟨_, rfl⟩
  obtain ⟨b, hb⟩ : ∃ b, isDig c = b := ⟨_, rfl⟩
  rw [hb]
  have HL := Lib.hid ha
  have HD := Lib.hid hb
  clear ha hb
  cases a
  · cases b
    · skip
      go_enter Tryz.func242, Tryz.ntmps242
      go_wp2_with (first
        | (go_at_call 260; refine (rletter_calls _ _).mono ?_; rintro e w' ⟨rfl, rfl⟩; rw [HL.out])
        | (go_at_call 261; refine (rdigit_calls _ _).mono ?_; rintro e w' ⟨rfl, rfl⟩; rw [HD.out]))
      go_ret
      exact ⟨rfl, rfl⟩
    · skip
      go_enter Tryz.func242, Tryz.ntmps242
      go_wp2_with (first
        | (go_at_call 260; refine (rletter_calls _ _).mono ?_; rintro e w' ⟨rfl, rfl⟩; rw [HL.out])
        | (go_at_call 261; refine (rdigit_calls _ _).mono ?_; rintro e w' ⟨rfl, rfl⟩; rw [HD.out]))
      go_ret
      exact ⟨rfl, rfl⟩
  · cases b
    · skip
      go_enter Tryz.func242, Tryz.ntmps242
      go_wp2_with (first
        | (go_at_call 260; refine (rletter_calls _ _).mono ?_; rintro e w' ⟨rfl, rfl⟩; rw [HL.out])
        | (go_at_call 261; refine (rdigit_calls _ _).mono ?_; rintro e w' ⟨rfl, rfl⟩; rw [HD.out]))
      go_ret
      exact ⟨rfl, rfl⟩
    · skip
      go_enter Tryz.func242, Tryz.ntmps242
      go_wp2_with (first
        | (go_at_call 260; refine (rletter_calls _ _).mono ?_; rintro e w' ⟨rfl, rfl⟩; rw [HL.out])
        | (go_at_call 261; refine (rdigit_calls _ _).mono ?_; rintro e w' ⟨rfl, rfl⟩; rw [HD.out]))
      go_ret
      exact ⟨rfl, rfl⟩
end Go.Proofs.YtmbhkfclpkopiaaGreatDoor
