/- giroref05: Expand. -/
import Derived.Test.YtmbhkfclpkopiaaGreatDoorRef1
namespace Go.Proofs.YtmbhkfclpkopiaaGreatDoor
open Go.RowKit
set_option linter.unusedVariables false
set_option linter.unusedSimpArgs false

theorem info_3 : (Tryz.prog.info? 3).map (fun i => (i.zero, i.size, i.bytes)) = some (some (.int .i64 0), 1, 8) := by kernel_rfl
def iv (d : Nat) : Value := .int .i64 d

theorem dgs_take {l : List UInt8} {i : Nat} {c : UInt8} (h : l[i]? = some c) : dgs (l.take (i + 1)) = dgs (l.take i) ++ (expC c).map fun c => c.toNat - 48 := by
  unfold dgs
  rw [List.take_add_one, h]; simp [expL]

theorem dgs_len (l : List UInt8) (h : ∀ c ∈ l, isAl c.toNat = true) : (dgs l).length ≤ 2 * l.length := by
  unfold dgs; rw [List.length_map]; exact expL_len l h

theorem expC_two {c : UInt8} (h : isAl c.toNat = true) (hd : isDig c.toNat = false) : 65 ≤ (c.toNat : Int) ∧ (c.toNat : Int) ≤ 90 ∧ (expC c).map (fun c => c.toNat - 48) = [(c.toNat - 55) / 10, (c.toNat - 55) % 10] := by
  have hlt2 : 65 ≤ (c.toNat : Int) ∧ (c.toNat : Int) ≤ 90 := by
    simpa [isAl, hd, isLet] using h
  refine ⟨hlt2.1, hlt2.2, ?_⟩
  unfold expC
  rw [if_neg (by rw [hd]; simp), decDigits_two (by omega) (by omega)]
  simp
  omega

set_option maxRecDepth 10000 in
set_option maxHeartbeats 1000000 in
theorem rexpand_calls (s : ByteArray) (w : World) (hc : ∀ c ∈ s.data.toList, isAl c.toNat = true) (hl : s.size ≤ 100) :
    Calls Tryz.prog 262 #[.string s] w fun e w' => ∃ v, e = .returned v ∧ w'.ownsRow w.heap.size 3 1 v (dgs s.data.toList).length ((dgs s.data.toList).map iv) ∧ Below w.heap.size w w' := by
  obtain ⟨i0, hi0, hz0, hz1, hz2⟩ := info_parts info_3
  have HC := Lib.hid hc
  clear hc
  go_enter Tryz.func262, Tryz.ntmps262
  go_wp2
  go_loopw [3, 4] (fun sv p wr => ∃ i : Nat, p = .int .i64 i ∧ i ≤ s.size ∧ wr.ownsRow w.heap.size 3 1 sv (dgs (s.data.toList.take i)).length ((dgs (s.data.toList.take i)).map iv) ∧ Below w.heap.size w wr ∧ w.heap.size ≤ wr.heap.size) (fun sv p wr => s.size - (intOf p).toNat)
  case atStart => exact ⟨0, rfl, by omega, World.ownsRow_nil _ _ _ _, Below.refl _ _, by omega⟩
  case round =>
    obtain ⟨i, rfl, hi, hown, HB, hw⟩ := hrel
    by_cases hlt : i < s.size
    · obtain ⟨c, hcc⟩ : ∃ c, s.data.toList[i]? = some c := ⟨_, List.getElem?_eq_getElem (by simpa using hlt)⟩
      have hal := HC.out c (List.mem_of_getElem? hcc)
      have hct : s[i] = c := by
        obtain ⟨_, e⟩ := List.getElem?_eq_some_iff.1 hcc
        rw [← e]; rfl
      have HST := Lib.hid (dgs_take hcc)
      have hlen : (dgs (s.data.toList.take i)).length ≤ 200 := by
        have := dgs_len (s.data.toList.take i) (fun x hx => HC.out x (List.mem_of_mem_take hx))
        have h2 : (s.data.toList.take i).length ≤ i := by simp; omega
        omega
      clear hcc
      cases hd : isDig c.toNat with
      | true =>
        have HE : Hid ((expC c).map (fun c => c.toNat - 48) = [c.toNat - 48]) := by show _ = _; unfold expC; rw [if_pos hd]; rfl
        have hdd : 48 ≤ c.toNat ∧ c.toNat ≤ 57 := by simp [isDig] at hd; omega
        obtain ⟨hd1, hd2⟩ := hdd
        have hval : ((c.toNat : Int) - 48) = ((c.toNat - 48 : Nat) : Int) := by omega
        have HVAL := Lib.hid hval
        have HD := Lib.hid hd
        clear hd hal hval
        have hnews := World.news_of_block (heap_alloc_new wr (.cells #[.int .i64 ((c.toNat : Int) - 48)] 3))
        go_wp2_with (first
          | (go_at_call 261; refine (rdigit_calls _ _).mono ?_; rintro e w' ⟨rfl, rfl⟩; rw [HD.out])
          | (at_builtin; go_loud (refine wpList_append_own _ rfl _ _ 23 rfl w.heap.size 3 i0 (.int .i64 0) 1 8 Tryz.underlying23 hi0 hz0 hz1 hz2 rfl (by decide) _ _ _ rfl (hown.alloc _) ⟨_, 0, none⟩ 1 1 [.int .i64 ((c.toNat : Int) - 48)] rfl rfl hnews (by simp [Value.oneCell']) (by unfold maxLen; omega) (by omega) (by simp; omega) ?_)))
        intro v4 w4 hown4 hgrow4 _
        have HB4 := grow_base (HB.alloc (by omega) (.cells #[.int .i64 ((c.toNat : Int) - 48)] 3)) (by simp; omega) (hown.alloc _) hgrow4
        have hw4 : w.heap.size ≤ w4.heap.size := by have := hgrow4.size; simp at this; omega
        have HF : Hid ((dgs (s.data.toList.take (i + 1))).length = (dgs (s.data.toList.take i)).length + 1 ∧ (dgs (s.data.toList.take (i + 1))).map iv = (dgs (s.data.toList.take i)).map iv ++ [.int .i64 ((c.toNat : Int) - 48)]) := by
          have e := HST.out
          rw [HE.out] at e
          refine ⟨by rw [e]; simp, ?_⟩
          rw [e, List.map_append]
          simp only [List.map_cons, List.map_nil, iv]
          rw [HVAL.out]
        go_wp2
        refine ⟨⟨i + 1, rfl, by omega, ?_, HB4, hw4⟩, by simp [intOf]; omega⟩
        rw [HF.out.1, HF.out.2]
        exact hown4
      | false =>
        obtain ⟨hd1, hd2, he⟩ := expC_two hal hd
        have HE := Lib.hid he
        have hv1 : (((c.toNat : Int) - 65 + 10) / 10) = (((c.toNat - 55) / 10 : Nat) : Int) := by omega
        have hv2 : (((c.toNat : Int) - 65) % 10) = (((c.toNat - 55) % 10 : Nat) : Int) := by omega
        have HV1 := Lib.hid hv1
        have HV2 := Lib.hid hv2
        have HD := Lib.hid hd
        clear hd hal hv1 hv2 he
        have hnews := World.news_of_block (heap_alloc_new wr (.cells #[.int .i64 (((c.toNat : Int) - 65 + 10) / 10), .int .i64 (((c.toNat : Int) - 65) % 10)] 3))
        go_wp2_with (first
          | (go_at_call 261; refine (rdigit_calls _ _).mono ?_; rintro e w' ⟨rfl, rfl⟩; rw [HD.out])
          | (at_builtin; go_loud (refine wpList_append_own _ rfl _ _ 23 rfl w.heap.size 3 i0 (.int .i64 0) 1 8 Tryz.underlying23 hi0 hz0 hz1 hz2 rfl (by decide) _ _ _ rfl (hown.alloc _) ⟨_, 0, none⟩ 2 2 [.int .i64 (((c.toNat : Int) - 65 + 10) / 10), .int .i64 (((c.toNat : Int) - 65) % 10)] rfl rfl hnews (by simp [Value.oneCell']) (by unfold maxLen; omega) (by omega) (by simp; omega) ?_)))
        intro v4 w4 hown4 hgrow4 _
        have HB4 := grow_base (HB.alloc (by omega) (.cells #[.int .i64 (((c.toNat : Int) - 65 + 10) / 10), .int .i64 (((c.toNat : Int) - 65) % 10)] 3)) (by simp; omega) (hown.alloc _) hgrow4
        have hw4 : w.heap.size ≤ w4.heap.size := by have := hgrow4.size; simp at this; omega
        have HF : Hid ((dgs (s.data.toList.take (i + 1))).length = (dgs (s.data.toList.take i)).length + 2 ∧ (dgs (s.data.toList.take (i + 1))).map iv = (dgs (s.data.toList.take i)).map iv ++ [.int .i64 (((c.toNat : Int) - 65 + 10) / 10), .int .i64 (((c.toNat : Int) - 65) % 10)]) := by
          have e := HST.out
          rw [HE.out] at e
          refine ⟨by rw [e]; simp, ?_⟩
          rw [e, List.map_append]
          simp only [List.map_cons, List.map_nil, iv]
          rw [HV1.out, HV2.out]
        go_wp2
        refine ⟨⟨i + 1, rfl, by omega, ?_, HB4, hw4⟩, by simp [intOf]; omega⟩
        rw [HF.out.1, HF.out.2]
        exact hown4
    · obtain rfl : i = s.size := by omega
      have HT : Hid (s.data.toList.take s.size = s.data.toList) := List.take_of_length_le (by simp)
      rw [HT.out] at hown
      clear hlt
      go_wp2
      go_ret
      exact ⟨_, rfl, hown, HB⟩
end Go.Proofs.YtmbhkfclpkopiaaGreatDoor
