/- where over the securities; Securities; the law's equal. -/
import Derived.Test.YtmbhkfclpkopiaaGreatDoorLawB
namespace Go.Proofs.YtmbhkfclpkopiaaGreatDoor
open Go.RowKit
set_option linter.unusedVariables false
set_option linter.unusedSimpArgs false

set_option maxRecDepth 10000 in
set_option maxHeartbeats 2000000 in
theorem where_S (b : Nat) (L : Tb SV) (day : Int) (w : World) (h : MapAt RS w b L) (hok : TbOk L) (hf : TbFit 900 L) :
    Calls Tryz.prog 79 #[.map (some b), .int .i64 day, .func (.func 80) #[] #[]] w fun e w' => ∃ v l, e = .returned v ∧ SAt w.heap.size w' v l ∧ Listed (Where L day (·.active)) l ∧ l.length ≤ 900 ∧ Below w.heap.size w w' := by
  obtain ⟨i0, hi0, hz0, hz1, hz2⟩ := info_parts info_9
  have HM := Lib.hid h
  have HOK := Lib.hid hok
  have HF := Lib.hid hf
  have hbl := h.lt
  clear hok hf
  go_enter Tryz.func79, Tryz.ntmps79
  go_wp2_with (first
    | (at_range; refine wpList_range_at' _ rfl _ 142 rfl 9 151 Tryz.underlying142 (steady_ser _ _ _) b (w.heap.size) L rfl h rfl ?_; intro w0 hit0 hg0 hs0))
  clear h
  go_frame
  go_loopg [7] (L.length) (fun k p wr => ∃ done v, p = v ∧ IterAt RS wr b w.heap.size L done ∧ SAt (w.heap.size + 1) wr v (kept day (·.active) done) ∧ Below w.heap.size w wr ∧ w.heap.size + 1 ≤ wr.heap.size ∧ k + done.length = L.length)
  case atStart => exact ⟨[], .slice none 0 0, rfl, hit0, SAt.nil _ _, (Below.refl _ _).grown hg0 (Nat.le_refl _) (fun k e => by cases e), by omega, by simp⟩
  case round =>
    obtain ⟨done, v, rfl, hit1, hS, hb, hsz, hk⟩ := hrel
    have HK := Lib.hid hk
    clear hk
    go_wp2_with (first
      | (at_next; refine wpList_next_at _ rfl _ rfl (steady_ser _ _ _) b w.heap.size L done rfl hit1 ?_ ?_))
    · intro hall
      have HL : Hid (∀ m : List ByteArray, m.Perm (kept day (·.active) done) → (m.Pairwise fun a b => a.toList ≤ b.toList) → Listed (Where L day (·.active)) m ∧ m.length ≤ 900) := by
        intro m hp hs
        have h2 := hit1.done_lt
        obtain ⟨es, clock, seen, c0, _, _, _, _, _, hsub, hnd, _⟩ := hit1
        refine ⟨kept_listed HM.out.nodup hnd hsub (fun x hx => hall x.1 x.2 hx) hp hs, ?_⟩
        have h1 := kept_len day (fun y : SV => y.active) done
        have h3 := HF.out.1
        rw [hp.length_eq]
        omega
      have hlen : (kept day (fun y : SV => y.active) done).length ≤ 100000 := by
        have h1 := kept_len day (fun y : SV => y.active) done
        have h2 := hit1.done_lt
        have h3 := HF.out.1
        omega
      clear hall hit1
      go_wp2_with (first | (go_at_call 134; refine (sortS_calls (w.heap.size + 1) _ _ _ hS hlen).mono ?_; rintro e w2 ⟨rfl, m, hp, hs, hS2, hg2⟩))
      go_ret
      obtain ⟨h1, h2⟩ := HL.out m hp hs
      exact ⟨_, m, rfl, row_mono hS2 (Nat.le_succ _), h1, h2, hb.grown hg2 (by omega) (fun k e => Nat.le_trans (Nat.le_succ _) (own_ge hS e))⟩
    · intro k s sv w1 hmem hnd hv hit2 hg1 hs1 hen
      have hb1 : Below w.heap.size w w1 := hb.grown hg1 (by omega) (fun k e => by cases e; exact Nat.le_refl _)
      have hS1 : SAt (w.heap.size + 1) w1 u7 (kept day (·.active) done) := World.ownsRow.kept hS hg1 (by
        cases hvo : u7.ownBlock with
        | none => exact .inl rfl
        | some g => right; intro e; cases e; have := own_ge hS hvo; omega)
      have hr := HOK.out.rising _ hmem
      have hl : s.length ≤ 1000 := Nat.le_trans (HF.out.2 _ hmem) (by decide)
      have hw1 : w.heap.size + 1 ≤ w1.heap.size := by omega
      cases hx : seAt s day with
      | none =>
        have HX := Lib.hid hx
        have HKA : Hid (kept day (·.active) (done ++ [(k, s)]) = kept day (fun y : SV => y.active) done) := by show _ = _; rw [kept_add]; simp [hitW, hx]
        clear hmem hnd hx hS
        go_wp2_with (first
          | (go_at_call 74; refine (at_S _ _ _ _ hv hr hl).mono ?_; rintro e w2 ⟨rfl, hb2⟩; rw [HX.out, show (optE encS zencS none).toArray = #[.int .i64 0, .string ⟨#[]⟩, .string ⟨#[]⟩, .int .i64 0, .bool false] from rfl]; have hb3 := below_over hb1 hb2 (by omega); have hb4 := hb2.mono hw1; have hw2 : w.heap.size + 1 ≤ w2.heap.size := Nat.le_trans hw1 hb2.size; have hS2 := hS1.below hb2))
        have hlen := hit2.done_lt
        have hk := HK.out
        simp only [List.length_append, List.length_singleton] at hlen
        have hb5 := hb3.alloc (Nat.le_trans (Nat.le_succ _) hw2) (.cells #[.int .i64 0, .string ⟨#[]⟩, .string ⟨#[]⟩, .int .i64 0, .bool false] 166)
        have hb6 := hb4.alloc hw2 (.cells #[.int .i64 0, .string ⟨#[]⟩, .string ⟨#[]⟩, .int .i64 0, .bool false] 166)
        go_roundg (gk - 1)
        case measure => omega
        case rel =>
          refine ⟨done ++ [(k, s)], u7, rfl, hit2.again (HM.out.below hb5) ((hb5.block b hbl).trans (hb1.block b hbl).symm) (hb6.block _ (Nat.lt_succ_self _)), ?_, hb5, by simp; omega, by simp only [List.length_append, List.length_singleton]; omega⟩
          rw [HKA.out]
          exact hS2.alloc _
      | some x =>
        obtain ⟨d, y⟩ := x
        have HX := Lib.hid hx
        have HKA : Hid (kept day (·.active) (done ++ [(k, s)]) = if y.active then kept day (fun y : SV => y.active) done ++ [k] else kept day (fun y : SV => y.active) done) := by show _ = _; rw [kept_add]; simp [hitW, hx]
        clear hmem hnd hx hS
        have hlen := hit2.done_lt
        have hk := HK.out
        simp only [List.length_append, List.length_singleton] at hlen
        have hkl : (kept day (fun y : SV => y.active) done).length ≤ 900 := by
          have h1 := kept_len day (fun y : SV => y.active) done
          have h3 := HF.out.1
          omega
        cases hact : y.active with
        | false =>
          have HA := Lib.hid hact
          rw [hact] at HKA
          clear hact
          go_wp2_with (first
            | (go_at_call 74; refine (at_S _ _ _ _ hv hr hl).mono ?_; rintro e w2 ⟨rfl, hb2⟩; rw [HX.out, show (optE encS zencS (some (d, y))).toArray = #[.int .i64 d, .string y.isin, .string y.issuer, .int .i64 y.lot, .bool y.active] from rfl]; have hb3 := below_over hb1 hb2 (by omega); have hb4 := hb2.mono hw1; have hw2 : w.heap.size + 1 ≤ w2.heap.size := Nat.le_trans hw1 hb2.size; have hS2 := hS1.below hb2; have c0 := box_cell (Below.refl (w2.heap.size + 1) (w2.alloc (.cells #[.int .i64 d, .string y.isin, .string y.issuer, .int .i64 y.lot, .bool y.active] 166))))
            | (go_at_call 80; refine (clo80_calls y _).mono ?_; rintro e w3 ⟨rfl, hb7⟩; rw [HA.out]; have hb8 := hb7.mono (Nat.le_trans hw2 (Nat.le_of_lt (World.size_alloc_lt _ _)))))
          have hS3 : SAt (w.heap.size + 1) w3 u7 (kept day (·.active) done) := SAt.below (hS2.alloc _) hb7
          have hb5 := (hb3.alloc (Nat.le_trans (Nat.le_succ _) hw2) (.cells #[.int .i64 d, .string y.isin, .string y.issuer, .int .i64 y.lot, .bool y.active] 166)).trans (hb8.mono (Nat.le_succ _))
          have hb6 := (hb4.alloc hw2 (.cells #[.int .i64 d, .string y.isin, .string y.issuer, .int .i64 y.lot, .bool y.active] 166)).trans hb8
          have hw3 : w.heap.size + 1 ≤ w3.heap.size := Nat.le_trans hw2 (Nat.le_trans (Nat.le_of_lt (World.size_alloc_lt _ _)) hb7.size)
          go_roundg (gk - 1)
          case measure => omega
          case rel =>
            refine ⟨done ++ [(k, s)], u7, rfl, hit2.again (HM.out.below hb5) ((hb5.block b hbl).trans (hb1.block b hbl).symm) (hb6.block _ (Nat.lt_succ_self _)), ?_, hb5, hw3, by simp only [List.length_append, List.length_singleton]; omega⟩
            rw [HKA.out]
            exact hS3
        | true =>
          have HA := Lib.hid hact
          rw [hact] at HKA
          clear hact
          go_wp2_with (first
            | (go_at_call 74; refine (at_S _ _ _ _ hv hr hl).mono ?_; rintro e w2 ⟨rfl, hb2⟩; rw [HX.out, show (optE encS zencS (some (d, y))).toArray = #[.int .i64 d, .string y.isin, .string y.issuer, .int .i64 y.lot, .bool y.active] from rfl]; have hb3 := below_over hb1 hb2 (by omega); have hb4 := hb2.mono hw1; have hw2 : w.heap.size + 1 ≤ w2.heap.size := Nat.le_trans hw1 hb2.size; have hS2 := hS1.below hb2; have c0 := box_cell (Below.refl (w2.heap.size + 1) (w2.alloc (.cells #[.int .i64 d, .string y.isin, .string y.issuer, .int .i64 y.lot, .bool y.active] 166))))
            | (go_at_call 80; refine (clo80_calls y _).mono ?_; rintro e w3 ⟨rfl, hb7⟩; rw [HA.out]; have hb8 := hb7.mono (Nat.le_trans hw2 (Nat.le_of_lt (World.size_alloc_lt _ _))); have hS3 : w3.ownsRow (w.heap.size + 1) 9 1 u7 _ ((kept day (fun y : SV => y.active) done).map Value.string) := SAt.below (hS2.alloc _) hb7; have hw3 : w.heap.size + 1 ≤ w3.heap.size := Nat.le_trans hw2 (Nat.le_trans (Nat.le_of_lt (World.size_alloc_lt _ _)) hb7.size))
            | (at_builtin; go_loud (refine wpList_append_own _ rfl _ _ 53 rfl (w.heap.size + 1) 9 i0 (.string ⟨#[]⟩) 1 16 Tryz.underlying53 hi0 hz0 hz1 hz2 rfl (by decide) _ _ _ rfl (hS3.alloc _) ⟨_, 0, none⟩ 1 1 [.string k] rfl rfl (World.news_of_block (heap_alloc_new _ _)) (by simp [Value.oneCell']) (by unfold maxLen; omega) (by omega) (by simp; omega) ?_)))
          intro v4 w4 hown4 hgrow4 _
          have hb5 := (hb3.alloc (Nat.le_trans (Nat.le_succ _) hw2) (.cells #[.int .i64 d, .string y.isin, .string y.issuer, .int .i64 y.lot, .bool y.active] 166)).trans (hb8.mono (Nat.le_succ _))
          have hb6 := (hb4.alloc hw2 (.cells #[.int .i64 d, .string y.isin, .string y.issuer, .int .i64 y.lot, .bool y.active] 166)).trans hb8
          have hg5 := grow_base (hb6.alloc hw3 (.cells #[.string k] 9)) (by simp; omega) (hS3.alloc _) hgrow4
          have hg6 : Below w.heap.size w w4 := hb1.trans (hg5.mono (Nat.le_succ _))
          have hw4 : w.heap.size + 1 ≤ w4.heap.size := by have := hgrow4.size; simp at this; omega
          go_wp2
          go_roundg (gk - 1)
          case measure => omega
          case rel =>
            refine ⟨done ++ [(k, s)], _, rfl, hit2.again (HM.out.below hg6) ((hg6.block b hbl).trans (hb1.block b hbl).symm) (hg5.block _ (Nat.lt_succ_self _)), ?_, hg6, hw4, by simp only [List.length_append, List.length_singleton]; omega⟩
            rw [HKA.out]
            unfold SAt
            simpa using hown4

theorem securities_calls (T : TB) (t : Tab) (day : Int) (w : World) (h : TabAt w T t) (hok : TbOk t.sec) (hf : TbFit 900 t.sec) :
    Calls Tryz.prog 32 #[.pointer (some ⟨T.p, 0, none⟩), .int .i64 day] w fun e w' => ∃ v l, e = .returned v ∧ SAt w.heap.size w' v l ∧ Listed (Where t.sec day (·.active)) l ∧ l.length ≤ 900 ∧ Below w.heap.size w w' := by
  obtain ⟨q0, q1, q2, q3⟩ := h.cells
  have HM := h.sec
  have HOK := Lib.hid hok
  have HF := Lib.hid hf
  clear h hok hf
  go_enter Tryz.func32, Tryz.ntmps32
  go_wp2_with (first | (go_at_call 79; refine (where_S T.m1 t.sec day _ HM HOK.out HF.out).mono ?_; rintro e w1 ⟨v, l, rfl, h1, h2, h3, h4⟩))
  go_ret
  exact ⟨v, l, rfl, h1, h2, h3, h4⟩

theorem securities_nil (day : Int) (w : World) : Calls Tryz.prog 32 #[.pointer none, .int .i64 day] w fun e w' => e = .returned (.slice none 0 0) ∧ w = w' := by
  go_enter Tryz.func32, Tryz.ntmps32
  go_wp2
  go_ret
  exact ⟨rfl, rfl⟩

/-- The law's equal, of equal lists. -/
theorem lequal_calls (B : Nat) (v v' : Value) (l : List ByteArray) (w : World) (h : SAt B w v l) (h' : SAt B w v' l) (hl : l.length ≤ 1000) :
    Calls Tryz.prog 30 #[v, v'] w fun e w' => e = .returned (.bool true) ∧ Below w.heap.size w w' := by
  rcases row_form h with ⟨h0, rfl⟩ | ⟨b, cap, rfl, _, hb, _⟩
  · obtain ⟨a, cap, rfl⟩ := h'.shape
    rw [h0]
    clear h h' hl h0
    go_enter Tryz.func30, Tryz.ntmps30
    go_wp2
    refine wp_loop_rounds 1 ?_
    rw [rounds_succ]
    go_wp2
    go_ret
    exact ⟨rfl, Below.refl _ _⟩
  · rcases row_form h' with ⟨h0, rfl⟩ | ⟨b', cap', rfl, _, hb', _⟩
    · rw [h0]
      clear h h' hl h0
      go_enter Tryz.func30, Tryz.ntmps30
      go_wp2
      refine wp_loop_rounds 1 ?_
      rw [rounds_succ]
      go_wp2
      go_ret
      exact ⟨rfl, Below.refl _ _⟩
    · have HC : Hid (∀ (i : Nat) (k : ByteArray), l[i]? = some k → w.cell? ⟨b, i, none⟩ = some (.string k) ∧ w.cell? ⟨b', i, none⟩ = some (.string k)) := fun i k hk => ⟨SAt.cell h hk, SAt.cell h' hk⟩
      clear h h'
      go_enter Tryz.func30, Tryz.ntmps30
      go_wp2
      go_loopw [5] (fun p wr => ∃ (i : Nat) (n : Nat), p = .int .i64 i ∧ i ≤ l.length ∧ wr = w.drewN n) (fun p wr => l.length - (intOf p).toNat)
      case atStart => exact ⟨0, 0, rfl, Nat.zero_le _, rfl⟩
      case round =>
        obtain ⟨i, n, rfl, hi, rfl⟩ := hrel
        by_cases hlt : i < l.length
        · obtain ⟨k, hk⟩ : ∃ k, l[i]? = some k := ⟨_, List.getElem?_eq_getElem hlt⟩
          obtain ⟨c0, c1⟩ := HC.out i k hk
          have hi1 : (i : Int) < (l.length : Int) := by omega
          clear hk
          go_wp2
          go_quiet (fail)
          go_wp2
          refine ⟨⟨i + 1, _, rfl, by omega, rfl⟩, by simp [intOf]; omega⟩
        · obtain rfl : i = l.length := by omega
          clear hlt
          go_wp2
          go_ret
          exact ⟨rfl, pw_below_drewN' (Below.refl _ _) _⟩
end Go.Proofs.YtmbhkfclpkopiaaGreatDoor
