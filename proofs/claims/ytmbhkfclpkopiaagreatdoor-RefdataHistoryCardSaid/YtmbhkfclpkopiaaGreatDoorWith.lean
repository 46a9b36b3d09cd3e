/- with, for each of the four kinds. -/
import Derived.Test.YtmbhkfclpkopiaaGreatDoorLast
import Derived.Deep.RegionLaw
import Derived.Deep.AppendLies
import Derived.BigRegion
namespace Go.Proofs.YtmbhkfclpkopiaaGreatDoor
open Go.RowKit
set_option linter.unusedVariables false
set_option linter.unusedSimpArgs false

theorem box_cell {w W : World} {cs : Array Value} {t : TypeId} (hb : Below (w.heap.size + 1) (w.alloc (.cells cs t)) W) (j : Nat) : W.cell? ⟨w.heap.size, j, none⟩ = cs[j]? := by
  have h : W.heap[w.heap.size]? = some (.cells cs t (0, 0)) := (hb.block w.heap.size (by omega)).trans (heap_alloc_new w _)
  simp [World.cell?, h]

theorem blk_cells {w W : World} {cs : Array Value} {t : TypeId} (hb : Below (w.heap.size + 1) (w.alloc (.cells cs t)) W) : ∀ j u, cs.toList[j]? = some u → W.cell? ((⟨w.heap.size, 0, none⟩ : Addr).add j) = some u :=
  World.news_of_block ((hb.block w.heap.size (by omega)).trans (heap_alloc_new w _))

theorem blk_cells2 {w W : World} {cs : Array Value} {t : TypeId} (hb : Below (w.heap.size + 1) (w.alloc (.cells cs t)) W) (B : Nat) (hB : w.heap.size = B) : ∀ j u, cs.toList[j]? = some u → W.cell? ((⟨B, 0, none⟩ : Addr).add j) = some u := by
  subst hB; exact blk_cells hb

theorem ownsRow_lower {w : World} {base base' : Nat} {e : TypeId} {size n : Nat} {v : Value} {xs : List Value} (h : w.ownsRow base e size v n xs) (hb : base' ≤ base) : w.ownsRow base' e size v n xs := by
  obtain ⟨h1, h2⟩ := h
  refine ⟨h1, ?_⟩
  rcases h2 with h2 | ⟨g, cap, cur, hv, hg, r⟩
  · exact .inl h2
  · exact .inr ⟨g, cap, cur, hv, Nat.le_trans hb hg, r⟩

theorem ser_of {V : Type} {E size : Nat} {enc : V → List Value} {w : World} {base : Nat} {v : Value} {s : List (Int × V)} {x : Int × V} (h : w.ownsRow base E size v (s.length + 1) (s.flatMap (encE enc) ++ encE enc x)) : SerAt E size enc w v (s ++ [x]) := by
  unfold SerAt
  rw [List.length_append, List.flatMap_append]
  simpa using ownsRow_lower h (Nat.zero_le _)

theorem below_own {w W w4 : World} {base : Nat} {e : TypeId} {size n : Nat} {v : Value} {xs : List Value} (hB : Below w.heap.size w W) (h : W.ownsRow base e size v n xs) (hb : w.heap.size ≤ base) (hg : W.grownBy w4 v.ownBlock) : Below w.heap.size w w4 :=
  hB.grown hg hB.size (fun k e => Nat.le_trans hb (h.lt k e).1)

theorem World.size_alloc_lt (w : World) (o : Obj) : w.heap.size < (w.alloc o).heap.size := by simp

theorem SerAt.cap {V : Type} {E size : Nat} {enc : V → List Value} {w : World} {b n cap : Nat} {s : List (Int × V)} (h : SerAt E size enc w (.slice (some ⟨b, 0, none⟩) n cap) s) : n ≤ cap := by
  rcases h.2 with ⟨h2, _⟩ | ⟨g, cap', cur, hv, _, _, hn, _⟩
  · cases h2
  · injection hv with _ h1 h2
    omega

theorem below_over {B : Nat} {w1 w2 w3 : World} (h : Below B w1 w2) (k : Below w2.heap.size w2 w3) (hB : B ≤ w2.heap.size) : Below B w1 w3 := h.trans (k.mono hB)

theorem one1_M (day : Int) (v : MV) : ∀ u ∈ encE encM (day, v), u.oneCell' = true := fun u hu => one_M [(day, v)] u (by simpa using hu)
theorem one1_S (day : Int) (v : SV) : ∀ u ∈ encE encS (day, v), u.oneCell' = true := fun u hu => one_S [(day, v)] u (by simpa using hu)
theorem one1_P (day : Int) (v : Int) : ∀ u ∈ encE encP (day, v), u.oneCell' = true := fun u hu => one_P [(day, v)] u (by simpa using hu)
theorem one1_F (day : Int) (v : FV) : ∀ u ∈ encE encF (day, v), u.oneCell' = true := fun u hu => one_F [(day, v)] u (by simpa using hu)
set_option maxHeartbeats 4000000 in
theorem with_M (sv : Value) (s : List (Int × MV)) (day : Int) (v : MV) (w : World) (h : SerAt 162 4 encM w sv s) (hl : s.length ≤ 900) :
    Calls Tryz.prog 115 #[sv, .int .i64 day, .agg #[.string v.code, .string v.lei, .bool v.active]] w fun e w' => ∃ v', e = .returned v' ∧ SerAt 162 4 encM w' v' (seWith s day v) ∧ Below w.heap.size w w' := by
  obtain ⟨i0, hi0, hz0, hz1, hz2⟩ := info_parts info_M
  have HBx : Below w.heap.size w (w.alloc (.cells #[.string v.code, .string v.lei, .bool v.active] 40)) := (Below.refl _ _).alloc (Nat.le_refl _) _
  cases hx : s.getLast? with
  | none =>
    have HX := Lib.hid hx
    have HSW : Hid (seWith s day v = s ++ [(day, v)]) := by show seWith s day v = _; rw [seWith, seCut, hx]
    clear hx
    go_enter Tryz.func115, Tryz.ntmps115
    go_wp2_with (first | (go_at_call 175; refine (last_M _ _ _ (h.below HBx) (by omega)).mono ?_; rintro e w1 ⟨rfl, hb1⟩; rw [HX.out, show (optE encM zencM none).toArray = #[.int .i64 0, .string ⟨#[]⟩, .string ⟨#[]⟩, .bool false] from rfl]; have hw1 : w.heap.size + 1 ≤ w1.heap.size := (by have := hb1.size; simp at this; omega); have HK : Below (w.heap.size + 1) (w.alloc (.cells #[.string v.code, .string v.lei, .bool v.active] 40)) w1 := (by simpa using hb1)))
    have c20 := box_cell (HK.alloc hw1 (.cells #[.int .i64 0, .string ⟨#[]⟩, .string ⟨#[]⟩, .bool false] 162))
    have HK1 := (HK.alloc hw1 (.cells #[.int .i64 0, .string ⟨#[]⟩, .string ⟨#[]⟩, .bool false] 162)).drew
    have HK2 := ((HK.alloc hw1 (.cells #[.int .i64 0, .string ⟨#[]⟩, .string ⟨#[]⟩, .bool false] 162)).alloc (by simp; omega) (.cells #[.int .i64 day, .string v.code, .string v.lei, .bool v.active] 162)).drew
    go_region_law (first
      | (go_simp; go_at_call 176; first
          | ((with_reducible refine (clone_M _ s _ (SerAt.below h (HBx.trans (HK1.mono (Nat.le_succ _)))) (by omega)).mono ?_); rintro e w3 ⟨v3, rfl, hown3, hb3⟩; have HK3 := below_over HK1 hb3 (by simp; omega); have c30 := box_cell HK3)
          | ((with_reducible refine (clone_M _ s _ (SerAt.below h (HBx.trans (HK2.mono (Nat.le_succ _)))) (by omega)).mono ?_); rintro e w3 ⟨v3, rfl, hown3, hb3⟩; have HK3 := below_over HK2 hb3 (by simp; omega); have HN : Hid _ := blk_cells2 (w := w1.alloc (.cells #[.int .i64 0, .string ⟨#[]⟩, .string ⟨#[]⟩, .bool false] 162)) ((Below.refl _ _).drew.trans (hb3.mono (by simp))) (w1.heap.size + 1) (by simp)))
      | (have _tB := HN; refine step_append_lies _ rfl (.tmp 27) (.tmp 31) 140 rfl _ 162 i0 (.agg #[.int .i64 0, .string ⟨#[]⟩, .string ⟨#[]⟩, .bool false]) 4 48 Tryz.underlying140 hi0 hz0 hz1 hz2 rfl (by decide) _ (s).length ((s).flatMap (encE encM)) rfl hown3 ⟨w1.heap.size + 1, 0, none⟩ 1 1 (encE encM (day, v)) rfl rfl HN.out (one1_M day v) (by omega) (by unfold maxLen; omega) (by omega) ?_ _ rfl ?_; exact hb3.size; intro g cap w4 hown4 hgrow4 hat hlt)
      | (have _tA := c30; refine step_append_lies _ rfl (.tmp 27) (.tmp 31) 140 rfl _ 162 i0 (.agg #[.int .i64 0, .string ⟨#[]⟩, .string ⟨#[]⟩, .bool false]) 4 48 Tryz.underlying140 hi0 hz0 hz1 hz2 rfl (by decide) _ (s).length ((s).flatMap (encE encM)) rfl (hown3.alloc _) ⟨w3.heap.size, 0, none⟩ 1 1 (encE encM (day, v)) rfl rfl (World.news_of_block (heap_alloc_new w3 _)) (one1_M day v) (by omega) (by unfold maxLen; omega) (by omega) ?_ _ rfl ?_; exact Nat.le_trans hb3.size (Nat.le_of_lt (World.size_alloc_lt _ _)); intro g cap w4 hown4 hgrow4 hat hlt))
    all_goals
      go_wp2
      go_ret
      refine ⟨_, rfl, (by rw [HSW.out]; exact ser_of hown4), ?_⟩
      first
        | exact below_own ((HBx.trans (HK3.mono (Nat.le_succ _))).alloc (by have := HK3.size; simp at this; omega) _) (hown3.alloc _) (by simp; omega) hgrow4
        | exact below_own (HBx.trans (HK3.mono (Nat.le_succ _))) hown3 (by simp; omega) hgrow4
  | some x =>
    obtain ⟨d, v0⟩ := x
    have HX := Lib.hid hx
    by_cases hd : d = day
    · subst hd
      have HSW : Hid (seWith s d v = s.dropLast ++ [(d, v)]) := by show seWith s d v = _; rw [seWith, seCut, hx]; simp
      have hne : s ≠ [] := fun e => by rw [e] at hx; cases hx
      obtain ⟨i, _, hi, hq1, hq2⟩ := last_form hne
      rcases h.form with ⟨e, _⟩ | ⟨b, cap, rfl, hb, hq3⟩
      · exact absurd e hne
      clear hx hne hq1 hq2 hq3
      rw [hi] at h hl
      have h' := h.dropLast (fun _ => rfl) hi
      have hcap : i + 1 ≤ cap := h.cap
      have hl' : s.dropLast.length = i := by simp [hi]
      have hle : s.dropLast.length ≤ 900 := by omega
      have HL := Lib.hid hi
      rw [hi]
      clear hi hl'
      generalize s.dropLast = t at HSW h' hle
      go_enter Tryz.func115, Tryz.ntmps115
      go_wp2_with (first | (go_at_call 175; refine (last_M _ _ _ (h.below HBx) (by rw [HL.out]; omega)).mono ?_; rintro e w1 ⟨rfl, hb1⟩; rw [HX.out, show (optE encM zencM (some (d, v0))).toArray = #[.int .i64 d, .string v0.code, .string v0.lei, .bool v0.active] from rfl]; have hw1 : w.heap.size + 1 ≤ w1.heap.size := (by have := hb1.size; simp at this; omega); have HK : Below (w.heap.size + 1) (w.alloc (.cells #[.string v.code, .string v.lei, .bool v.active] 40)) w1 := (by simpa using hb1)))
      have c20 := box_cell (HK.alloc hw1 (.cells #[.int .i64 d, .string v0.code, .string v0.lei, .bool v0.active] 162))
      have HK1 := (HK.alloc hw1 (.cells #[.int .i64 d, .string v0.code, .string v0.lei, .bool v0.active] 162)).drew
      have HK2 := ((HK.alloc hw1 (.cells #[.int .i64 d, .string v0.code, .string v0.lei, .bool v0.active] 162)).alloc (by simp; omega) (.cells #[.int .i64 d, .string v.code, .string v.lei, .bool v.active] 162)).drew
      go_region_law (first
        | (go_simp; go_at_call 176; first
            | ((with_reducible refine (clone_M _ t _ (SerAt.below h' (HBx.trans (HK1.mono (Nat.le_succ _)))) (by omega)).mono ?_); rintro e w3 ⟨v3, rfl, hown3, hb3⟩; have HK3 := below_over HK1 hb3 (by simp; omega); have c30 := box_cell HK3)
            | ((with_reducible refine (clone_M _ t _ (SerAt.below h' (HBx.trans (HK2.mono (Nat.le_succ _)))) (by omega)).mono ?_); rintro e w3 ⟨v3, rfl, hown3, hb3⟩; have HK3 := below_over HK2 hb3 (by simp; omega); have HN : Hid _ := blk_cells2 (w := w1.alloc (.cells #[.int .i64 d, .string v0.code, .string v0.lei, .bool v0.active] 162)) ((Below.refl _ _).drew.trans (hb3.mono (by simp))) (w1.heap.size + 1) (by simp)))
        | (have _tB := HN; refine step_append_lies _ rfl (.tmp 27) (.tmp 31) 140 rfl _ 162 i0 (.agg #[.int .i64 0, .string ⟨#[]⟩, .string ⟨#[]⟩, .bool false]) 4 48 Tryz.underlying140 hi0 hz0 hz1 hz2 rfl (by decide) _ t.length (t.flatMap (encE encM)) rfl hown3 ⟨w1.heap.size + 1, 0, none⟩ 1 1 (encE encM (d, v)) rfl rfl HN.out (one1_M d v) (by omega) (by unfold maxLen; omega) (by omega) ?_ _ rfl ?_; exact hb3.size; intro g cap w4 hown4 hgrow4 hat hlt)
        | (have _tA := c30; refine step_append_lies _ rfl (.tmp 27) (.tmp 31) 140 rfl _ 162 i0 (.agg #[.int .i64 0, .string ⟨#[]⟩, .string ⟨#[]⟩, .bool false]) 4 48 Tryz.underlying140 hi0 hz0 hz1 hz2 rfl (by decide) _ t.length (t.flatMap (encE encM)) rfl (hown3.alloc _) ⟨w3.heap.size, 0, none⟩ 1 1 (encE encM (d, v)) rfl rfl (World.news_of_block (heap_alloc_new w3 _)) (one1_M d v) (by omega) (by unfold maxLen; omega) (by omega) ?_ _ rfl ?_; exact Nat.le_trans hb3.size (Nat.le_of_lt (World.size_alloc_lt _ _)); intro g cap w4 hown4 hgrow4 hat hlt))
      all_goals
        go_wp2
        go_ret
        refine ⟨_, rfl, (by rw [HSW.out]; exact ser_of hown4), ?_⟩
        first
          | exact below_own ((HBx.trans (HK3.mono (Nat.le_succ _))).alloc (by have := HK3.size; simp at this; omega) _) (hown3.alloc _) (by simp; omega) hgrow4
          | exact below_own (HBx.trans (HK3.mono (Nat.le_succ _))) hown3 (by simp; omega) hgrow4
    · have HSW : Hid (seWith s day v = s ++ [(day, v)]) := by show seWith s day v = _; rw [seWith, seCut, hx]; simp [hd]
      have hd1 : (d == day) = false := by simpa using hd
      clear hx hd
      go_enter Tryz.func115, Tryz.ntmps115
      go_wp2_with (first | (go_at_call 175; refine (last_M _ _ _ (h.below HBx) (by omega)).mono ?_; rintro e w1 ⟨rfl, hb1⟩; rw [HX.out, show (optE encM zencM (some (d, v0))).toArray = #[.int .i64 d, .string v0.code, .string v0.lei, .bool v0.active] from rfl]; have hw1 : w.heap.size + 1 ≤ w1.heap.size := (by have := hb1.size; simp at this; omega); have HK : Below (w.heap.size + 1) (w.alloc (.cells #[.string v.code, .string v.lei, .bool v.active] 40)) w1 := (by simpa using hb1)))
      have c20 := box_cell (HK.alloc hw1 (.cells #[.int .i64 d, .string v0.code, .string v0.lei, .bool v0.active] 162))
      have HK1 := (HK.alloc hw1 (.cells #[.int .i64 d, .string v0.code, .string v0.lei, .bool v0.active] 162)).drew
      have HK2 := ((HK.alloc hw1 (.cells #[.int .i64 d, .string v0.code, .string v0.lei, .bool v0.active] 162)).alloc (by simp; omega) (.cells #[.int .i64 day, .string v.code, .string v.lei, .bool v.active] 162)).drew
      go_region_law (first
        | (go_simp; go_at_call 176; first
            | ((with_reducible refine (clone_M _ s _ (SerAt.below h (HBx.trans (HK1.mono (Nat.le_succ _)))) (by omega)).mono ?_); rintro e w3 ⟨v3, rfl, hown3, hb3⟩; have HK3 := below_over HK1 hb3 (by simp; omega); have c30 := box_cell HK3)
            | ((with_reducible refine (clone_M _ s _ (SerAt.below h (HBx.trans (HK2.mono (Nat.le_succ _)))) (by omega)).mono ?_); rintro e w3 ⟨v3, rfl, hown3, hb3⟩; have HK3 := below_over HK2 hb3 (by simp; omega); have HN : Hid _ := blk_cells2 (w := w1.alloc (.cells #[.int .i64 d, .string v0.code, .string v0.lei, .bool v0.active] 162)) ((Below.refl _ _).drew.trans (hb3.mono (by simp))) (w1.heap.size + 1) (by simp)))
        | (have _tB := HN; refine step_append_lies _ rfl (.tmp 27) (.tmp 31) 140 rfl _ 162 i0 (.agg #[.int .i64 0, .string ⟨#[]⟩, .string ⟨#[]⟩, .bool false]) 4 48 Tryz.underlying140 hi0 hz0 hz1 hz2 rfl (by decide) _ (s).length ((s).flatMap (encE encM)) rfl hown3 ⟨w1.heap.size + 1, 0, none⟩ 1 1 (encE encM (day, v)) rfl rfl HN.out (one1_M day v) (by omega) (by unfold maxLen; omega) (by omega) ?_ _ rfl ?_; exact hb3.size; intro g cap w4 hown4 hgrow4 hat hlt)
        | (have _tA := c30; refine step_append_lies _ rfl (.tmp 27) (.tmp 31) 140 rfl _ 162 i0 (.agg #[.int .i64 0, .string ⟨#[]⟩, .string ⟨#[]⟩, .bool false]) 4 48 Tryz.underlying140 hi0 hz0 hz1 hz2 rfl (by decide) _ (s).length ((s).flatMap (encE encM)) rfl (hown3.alloc _) ⟨w3.heap.size, 0, none⟩ 1 1 (encE encM (day, v)) rfl rfl (World.news_of_block (heap_alloc_new w3 _)) (one1_M day v) (by omega) (by unfold maxLen; omega) (by omega) ?_ _ rfl ?_; exact Nat.le_trans hb3.size (Nat.le_of_lt (World.size_alloc_lt _ _)); intro g cap w4 hown4 hgrow4 hat hlt))
      all_goals
        go_wp2
        go_ret
        refine ⟨_, rfl, (by rw [HSW.out]; exact ser_of hown4), ?_⟩
        first
          | exact below_own ((HBx.trans (HK3.mono (Nat.le_succ _))).alloc (by have := HK3.size; simp at this; omega) _) (hown3.alloc _) (by simp; omega) hgrow4
          | exact below_own (HBx.trans (HK3.mono (Nat.le_succ _))) hown3 (by simp; omega) hgrow4
set_option maxHeartbeats 4000000 in
theorem with_S (sv : Value) (s : List (Int × SV)) (day : Int) (v : SV) (w : World) (h : SerAt 166 5 encS w sv s) (hl : s.length ≤ 900) :
    Calls Tryz.prog 119 #[sv, .int .i64 day, .agg #[.string v.isin, .string v.issuer, .int .i64 v.lot, .bool v.active]] w fun e w' => ∃ v', e = .returned v' ∧ SerAt 166 5 encS w' v' (seWith s day v) ∧ Below w.heap.size w w' := by
  obtain ⟨i0, hi0, hz0, hz1, hz2⟩ := info_parts info_S
  have HBx : Below w.heap.size w (w.alloc (.cells #[.string v.isin, .string v.issuer, .int .i64 v.lot, .bool v.active] 44)) := (Below.refl _ _).alloc (Nat.le_refl _) _
  cases hx : s.getLast? with
  | none =>
    have HX := Lib.hid hx
    have HSW : Hid (seWith s day v = s ++ [(day, v)]) := by show seWith s day v = _; rw [seWith, seCut, hx]
    clear hx
    go_enter Tryz.func119, Tryz.ntmps119
    go_wp2_with (first | (go_at_call 117; refine (last_S _ _ _ (h.below HBx) (by omega)).mono ?_; rintro e w1 ⟨rfl, hb1⟩; rw [HX.out, show (optE encS zencS none).toArray = #[.int .i64 0, .string ⟨#[]⟩, .string ⟨#[]⟩, .int .i64 0, .bool false] from rfl]; have hw1 : w.heap.size + 1 ≤ w1.heap.size := (by have := hb1.size; simp at this; omega); have HK : Below (w.heap.size + 1) (w.alloc (.cells #[.string v.isin, .string v.issuer, .int .i64 v.lot, .bool v.active] 44)) w1 := (by simpa using hb1)))
    have c20 := box_cell (HK.alloc hw1 (.cells #[.int .i64 0, .string ⟨#[]⟩, .string ⟨#[]⟩, .int .i64 0, .bool false] 166))
    have HK1 := (HK.alloc hw1 (.cells #[.int .i64 0, .string ⟨#[]⟩, .string ⟨#[]⟩, .int .i64 0, .bool false] 166)).drew
    have HK2 := ((HK.alloc hw1 (.cells #[.int .i64 0, .string ⟨#[]⟩, .string ⟨#[]⟩, .int .i64 0, .bool false] 166)).alloc (by simp; omega) (.cells #[.int .i64 day, .string v.isin, .string v.issuer, .int .i64 v.lot, .bool v.active] 166)).drew
    go_region_law (first
      | (go_simp; go_at_call 177; first
          | ((with_reducible refine (clone_S _ s _ (SerAt.below h (HBx.trans (HK1.mono (Nat.le_succ _)))) (by omega)).mono ?_); rintro e w3 ⟨v3, rfl, hown3, hb3⟩; have HK3 := below_over HK1 hb3 (by simp; omega); have c30 := box_cell HK3)
          | ((with_reducible refine (clone_S _ s _ (SerAt.below h (HBx.trans (HK2.mono (Nat.le_succ _)))) (by omega)).mono ?_); rintro e w3 ⟨v3, rfl, hown3, hb3⟩; have HK3 := below_over HK2 hb3 (by simp; omega); have HN : Hid _ := blk_cells2 (w := w1.alloc (.cells #[.int .i64 0, .string ⟨#[]⟩, .string ⟨#[]⟩, .int .i64 0, .bool false] 166)) ((Below.refl _ _).drew.trans (hb3.mono (by simp))) (w1.heap.size + 1) (by simp)))
      | (have _tB := HN; refine step_append_lies _ rfl (.tmp 27) (.tmp 31) 151 rfl _ 166 i0 (.agg #[.int .i64 0, .string ⟨#[]⟩, .string ⟨#[]⟩, .int .i64 0, .bool false]) 5 56 Tryz.underlying151 hi0 hz0 hz1 hz2 rfl (by decide) _ (s).length ((s).flatMap (encE encS)) rfl hown3 ⟨w1.heap.size + 1, 0, none⟩ 1 1 (encE encS (day, v)) rfl rfl HN.out (one1_S day v) (by omega) (by unfold maxLen; omega) (by omega) ?_ _ rfl ?_; exact hb3.size; intro g cap w4 hown4 hgrow4 hat hlt)
      | (have _tA := c30; refine step_append_lies _ rfl (.tmp 27) (.tmp 31) 151 rfl _ 166 i0 (.agg #[.int .i64 0, .string ⟨#[]⟩, .string ⟨#[]⟩, .int .i64 0, .bool false]) 5 56 Tryz.underlying151 hi0 hz0 hz1 hz2 rfl (by decide) _ (s).length ((s).flatMap (encE encS)) rfl (hown3.alloc _) ⟨w3.heap.size, 0, none⟩ 1 1 (encE encS (day, v)) rfl rfl (World.news_of_block (heap_alloc_new w3 _)) (one1_S day v) (by omega) (by unfold maxLen; omega) (by omega) ?_ _ rfl ?_; exact Nat.le_trans hb3.size (Nat.le_of_lt (World.size_alloc_lt _ _)); intro g cap w4 hown4 hgrow4 hat hlt))
    all_goals
      go_wp2
      go_ret
      refine ⟨_, rfl, (by rw [HSW.out]; exact ser_of hown4), ?_⟩
      first
        | exact below_own ((HBx.trans (HK3.mono (Nat.le_succ _))).alloc (by have := HK3.size; simp at this; omega) _) (hown3.alloc _) (by simp; omega) hgrow4
        | exact below_own (HBx.trans (HK3.mono (Nat.le_succ _))) hown3 (by simp; omega) hgrow4
  | some x =>
    obtain ⟨d, v0⟩ := x
    have HX := Lib.hid hx
    by_cases hd : d = day
    · subst hd
      have HSW : Hid (seWith s d v = s.dropLast ++ [(d, v)]) := by show seWith s d v = _; rw [seWith, seCut, hx]; simp
      have hne : s ≠ [] := fun e => by rw [e] at hx; cases hx
      obtain ⟨i, _, hi, hq1, hq2⟩ := last_form hne
      rcases h.form with ⟨e, _⟩ | ⟨b, cap, rfl, hb, hq3⟩
      · exact absurd e hne
      clear hx hne hq1 hq2 hq3
      rw [hi] at h hl
      have h' := h.dropLast (fun _ => rfl) hi
      have hcap : i + 1 ≤ cap := h.cap
      have hl' : s.dropLast.length = i := by simp [hi]
      have hle : s.dropLast.length ≤ 900 := by omega
      have HL := Lib.hid hi
      rw [hi]
      clear hi hl'
      generalize s.dropLast = t at HSW h' hle
      go_enter Tryz.func119, Tryz.ntmps119
      go_wp2_with (first | (go_at_call 117; refine (last_S _ _ _ (h.below HBx) (by rw [HL.out]; omega)).mono ?_; rintro e w1 ⟨rfl, hb1⟩; rw [HX.out, show (optE encS zencS (some (d, v0))).toArray = #[.int .i64 d, .string v0.isin, .string v0.issuer, .int .i64 v0.lot, .bool v0.active] from rfl]; have hw1 : w.heap.size + 1 ≤ w1.heap.size := (by have := hb1.size; simp at this; omega); have HK : Below (w.heap.size + 1) (w.alloc (.cells #[.string v.isin, .string v.issuer, .int .i64 v.lot, .bool v.active] 44)) w1 := (by simpa using hb1)))
      have c20 := box_cell (HK.alloc hw1 (.cells #[.int .i64 d, .string v0.isin, .string v0.issuer, .int .i64 v0.lot, .bool v0.active] 166))
      have HK1 := (HK.alloc hw1 (.cells #[.int .i64 d, .string v0.isin, .string v0.issuer, .int .i64 v0.lot, .bool v0.active] 166)).drew
      have HK2 := ((HK.alloc hw1 (.cells #[.int .i64 d, .string v0.isin, .string v0.issuer, .int .i64 v0.lot, .bool v0.active] 166)).alloc (by simp; omega) (.cells #[.int .i64 d, .string v.isin, .string v.issuer, .int .i64 v.lot, .bool v.active] 166)).drew
      go_region_law (first
        | (go_simp; go_at_call 177; first
            | ((with_reducible refine (clone_S _ t _ (SerAt.below h' (HBx.trans (HK1.mono (Nat.le_succ _)))) (by omega)).mono ?_); rintro e w3 ⟨v3, rfl, hown3, hb3⟩; have HK3 := below_over HK1 hb3 (by simp; omega); have c30 := box_cell HK3)
            | ((with_reducible refine (clone_S _ t _ (SerAt.below h' (HBx.trans (HK2.mono (Nat.le_succ _)))) (by omega)).mono ?_); rintro e w3 ⟨v3, rfl, hown3, hb3⟩; have HK3 := below_over HK2 hb3 (by simp; omega); have HN : Hid _ := blk_cells2 (w := w1.alloc (.cells #[.int .i64 d, .string v0.isin, .string v0.issuer, .int .i64 v0.lot, .bool v0.active] 166)) ((Below.refl _ _).drew.trans (hb3.mono (by simp))) (w1.heap.size + 1) (by simp)))
        | (have _tB := HN; refine step_append_lies _ rfl (.tmp 27) (.tmp 31) 151 rfl _ 166 i0 (.agg #[.int .i64 0, .string ⟨#[]⟩, .string ⟨#[]⟩, .int .i64 0, .bool false]) 5 56 Tryz.underlying151 hi0 hz0 hz1 hz2 rfl (by decide) _ t.length (t.flatMap (encE encS)) rfl hown3 ⟨w1.heap.size + 1, 0, none⟩ 1 1 (encE encS (d, v)) rfl rfl HN.out (one1_S d v) (by omega) (by unfold maxLen; omega) (by omega) ?_ _ rfl ?_; exact hb3.size; intro g cap w4 hown4 hgrow4 hat hlt)
        | (have _tA := c30; refine step_append_lies _ rfl (.tmp 27) (.tmp 31) 151 rfl _ 166 i0 (.agg #[.int .i64 0, .string ⟨#[]⟩, .string ⟨#[]⟩, .int .i64 0, .bool false]) 5 56 Tryz.underlying151 hi0 hz0 hz1 hz2 rfl (by decide) _ t.length (t.flatMap (encE encS)) rfl (hown3.alloc _) ⟨w3.heap.size, 0, none⟩ 1 1 (encE encS (d, v)) rfl rfl (World.news_of_block (heap_alloc_new w3 _)) (one1_S d v) (by omega) (by unfold maxLen; omega) (by omega) ?_ _ rfl ?_; exact Nat.le_trans hb3.size (Nat.le_of_lt (World.size_alloc_lt _ _)); intro g cap w4 hown4 hgrow4 hat hlt))
      all_goals
        go_wp2
        go_ret
        refine ⟨_, rfl, (by rw [HSW.out]; exact ser_of hown4), ?_⟩
        first
          | exact below_own ((HBx.trans (HK3.mono (Nat.le_succ _))).alloc (by have := HK3.size; simp at this; omega) _) (hown3.alloc _) (by simp; omega) hgrow4
          | exact below_own (HBx.trans (HK3.mono (Nat.le_succ _))) hown3 (by simp; omega) hgrow4
    · have HSW : Hid (seWith s day v = s ++ [(day, v)]) := by show seWith s day v = _; rw [seWith, seCut, hx]; simp [hd]
      have hd1 : (d == day) = false := by simpa using hd
      clear hx hd
      go_enter Tryz.func119, Tryz.ntmps119
      go_wp2_with (first | (go_at_call 117; refine (last_S _ _ _ (h.below HBx) (by omega)).mono ?_; rintro e w1 ⟨rfl, hb1⟩; rw [HX.out, show (optE encS zencS (some (d, v0))).toArray = #[.int .i64 d, .string v0.isin, .string v0.issuer, .int .i64 v0.lot, .bool v0.active] from rfl]; have hw1 : w.heap.size + 1 ≤ w1.heap.size := (by have := hb1.size; simp at this; omega); have HK : Below (w.heap.size + 1) (w.alloc (.cells #[.string v.isin, .string v.issuer, .int .i64 v.lot, .bool v.active] 44)) w1 := (by simpa using hb1)))
      have c20 := box_cell (HK.alloc hw1 (.cells #[.int .i64 d, .string v0.isin, .string v0.issuer, .int .i64 v0.lot, .bool v0.active] 166))
      have HK1 := (HK.alloc hw1 (.cells #[.int .i64 d, .string v0.isin, .string v0.issuer, .int .i64 v0.lot, .bool v0.active] 166)).drew
      have HK2 := ((HK.alloc hw1 (.cells #[.int .i64 d, .string v0.isin, .string v0.issuer, .int .i64 v0.lot, .bool v0.active] 166)).alloc (by simp; omega) (.cells #[.int .i64 day, .string v.isin, .string v.issuer, .int .i64 v.lot, .bool v.active] 166)).drew
      go_region_law (first
        | (go_simp; go_at_call 177; first
            | ((with_reducible refine (clone_S _ s _ (SerAt.below h (HBx.trans (HK1.mono (Nat.le_succ _)))) (by omega)).mono ?_); rintro e w3 ⟨v3, rfl, hown3, hb3⟩; have HK3 := below_over HK1 hb3 (by simp; omega); have c30 := box_cell HK3)
            | ((with_reducible refine (clone_S _ s _ (SerAt.below h (HBx.trans (HK2.mono (Nat.le_succ _)))) (by omega)).mono ?_); rintro e w3 ⟨v3, rfl, hown3, hb3⟩; have HK3 := below_over HK2 hb3 (by simp; omega); have HN : Hid _ := blk_cells2 (w := w1.alloc (.cells #[.int .i64 d, .string v0.isin, .string v0.issuer, .int .i64 v0.lot, .bool v0.active] 166)) ((Below.refl _ _).drew.trans (hb3.mono (by simp))) (w1.heap.size + 1) (by simp)))
        | (have _tB := HN; refine step_append_lies _ rfl (.tmp 27) (.tmp 31) 151 rfl _ 166 i0 (.agg #[.int .i64 0, .string ⟨#[]⟩, .string ⟨#[]⟩, .int .i64 0, .bool false]) 5 56 Tryz.underlying151 hi0 hz0 hz1 hz2 rfl (by decide) _ (s).length ((s).flatMap (encE encS)) rfl hown3 ⟨w1.heap.size + 1, 0, none⟩ 1 1 (encE encS (day, v)) rfl rfl HN.out (one1_S day v) (by omega) (by unfold maxLen; omega) (by omega) ?_ _ rfl ?_; exact hb3.size; intro g cap w4 hown4 hgrow4 hat hlt)
        | (have _tA := c30; refine step_append_lies _ rfl (.tmp 27) (.tmp 31) 151 rfl _ 166 i0 (.agg #[.int .i64 0, .string ⟨#[]⟩, .string ⟨#[]⟩, .int .i64 0, .bool false]) 5 56 Tryz.underlying151 hi0 hz0 hz1 hz2 rfl (by decide) _ (s).length ((s).flatMap (encE encS)) rfl (hown3.alloc _) ⟨w3.heap.size, 0, none⟩ 1 1 (encE encS (day, v)) rfl rfl (World.news_of_block (heap_alloc_new w3 _)) (one1_S day v) (by omega) (by unfold maxLen; omega) (by omega) ?_ _ rfl ?_; exact Nat.le_trans hb3.size (Nat.le_of_lt (World.size_alloc_lt _ _)); intro g cap w4 hown4 hgrow4 hat hlt))
      all_goals
        go_wp2
        go_ret
        refine ⟨_, rfl, (by rw [HSW.out]; exact ser_of hown4), ?_⟩
        first
          | exact below_own ((HBx.trans (HK3.mono (Nat.le_succ _))).alloc (by have := HK3.size; simp at this; omega) _) (hown3.alloc _) (by simp; omega) hgrow4
          | exact below_own (HBx.trans (HK3.mono (Nat.le_succ _))) hown3 (by simp; omega) hgrow4
set_option maxHeartbeats 4000000 in
theorem with_F (sv : Value) (s : List (Int × FV)) (day : Int) (v : FV) (w : World) (h : SerAt 174 3 encF w sv s) (hl : s.length ≤ 900) :
    Calls Tryz.prog 183 #[sv, .int .i64 day, .agg #[.int .i64 v.num, .int .i64 v.den]] w fun e w' => ∃ v', e = .returned v' ∧ SerAt 174 3 encF w' v' (seWith s day v) ∧ Below w.heap.size w w' := by
  obtain ⟨i0, hi0, hz0, hz1, hz2⟩ := info_parts info_F
  have HBx : Below w.heap.size w (w.alloc (.cells #[.int .i64 v.num, .int .i64 v.den] 49)) := (Below.refl _ _).alloc (Nat.le_refl _) _
  cases hx : s.getLast? with
  | none =>
    have HX := Lib.hid hx
    have HSW : Hid (seWith s day v = s ++ [(day, v)]) := by show seWith s day v = _; rw [seWith, seCut, hx]
    clear hx
    go_enter Tryz.func183, Tryz.ntmps183
    go_wp2_with (first | (go_at_call 223; refine (last_F _ _ _ (h.below HBx) (by omega)).mono ?_; rintro e w1 ⟨rfl, hb1⟩; rw [HX.out, show (optE encF zencF none).toArray = #[.int .i64 0, .int .i64 0, .int .i64 0] from rfl]; have hw1 : w.heap.size + 1 ≤ w1.heap.size := (by have := hb1.size; simp at this; omega); have HK : Below (w.heap.size + 1) (w.alloc (.cells #[.int .i64 v.num, .int .i64 v.den] 49)) w1 := (by simpa using hb1)))
    have c20 := box_cell (HK.alloc hw1 (.cells #[.int .i64 0, .int .i64 0, .int .i64 0] 174))
    have HK1 := (HK.alloc hw1 (.cells #[.int .i64 0, .int .i64 0, .int .i64 0] 174)).drew
    have HK2 := ((HK.alloc hw1 (.cells #[.int .i64 0, .int .i64 0, .int .i64 0] 174)).alloc (by simp; omega) (.cells #[.int .i64 day, .int .i64 v.num, .int .i64 v.den] 174)).drew
    go_region_law (first
      | (go_simp; go_at_call 224; first
          | ((with_reducible refine (clone_F _ s _ (SerAt.below h (HBx.trans (HK1.mono (Nat.le_succ _)))) (by omega)).mono ?_); rintro e w3 ⟨v3, rfl, hown3, hb3⟩; have HK3 := below_over HK1 hb3 (by simp; omega); have c30 := box_cell HK3)
          | ((with_reducible refine (clone_F _ s _ (SerAt.below h (HBx.trans (HK2.mono (Nat.le_succ _)))) (by omega)).mono ?_); rintro e w3 ⟨v3, rfl, hown3, hb3⟩; have HK3 := below_over HK2 hb3 (by simp; omega); have HN : Hid _ := blk_cells2 (w := w1.alloc (.cells #[.int .i64 0, .int .i64 0, .int .i64 0] 174)) ((Below.refl _ _).drew.trans (hb3.mono (by simp))) (w1.heap.size + 1) (by simp)))
      | (have _tB := HN; refine step_append_lies _ rfl (.tmp 27) (.tmp 31) 157 rfl _ 174 i0 (.agg #[.int .i64 0, .int .i64 0, .int .i64 0]) 3 24 Tryz.underlying157 hi0 hz0 hz1 hz2 rfl (by decide) _ (s).length ((s).flatMap (encE encF)) rfl hown3 ⟨w1.heap.size + 1, 0, none⟩ 1 1 (encE encF (day, v)) rfl rfl HN.out (one1_F day v) (by omega) (by unfold maxLen; omega) (by omega) ?_ _ rfl ?_; exact hb3.size; intro g cap w4 hown4 hgrow4 hat hlt)
      | (have _tA := c30; refine step_append_lies _ rfl (.tmp 27) (.tmp 31) 157 rfl _ 174 i0 (.agg #[.int .i64 0, .int .i64 0, .int .i64 0]) 3 24 Tryz.underlying157 hi0 hz0 hz1 hz2 rfl (by decide) _ (s).length ((s).flatMap (encE encF)) rfl (hown3.alloc _) ⟨w3.heap.size, 0, none⟩ 1 1 (encE encF (day, v)) rfl rfl (World.news_of_block (heap_alloc_new w3 _)) (one1_F day v) (by omega) (by unfold maxLen; omega) (by omega) ?_ _ rfl ?_; exact Nat.le_trans hb3.size (Nat.le_of_lt (World.size_alloc_lt _ _)); intro g cap w4 hown4 hgrow4 hat hlt))
    all_goals
      go_wp2
      go_ret
      refine ⟨_, rfl, (by rw [HSW.out]; exact ser_of hown4), ?_⟩
      first
        | exact below_own ((HBx.trans (HK3.mono (Nat.le_succ _))).alloc (by have := HK3.size; simp at this; omega) _) (hown3.alloc _) (by simp; omega) hgrow4
        | exact below_own (HBx.trans (HK3.mono (Nat.le_succ _))) hown3 (by simp; omega) hgrow4
  | some x =>
    obtain ⟨d, v0⟩ := x
    have HX := Lib.hid hx
    by_cases hd : d = day
    · subst hd
      have HSW : Hid (seWith s d v = s.dropLast ++ [(d, v)]) := by show seWith s d v = _; rw [seWith, seCut, hx]; simp
      have hne : s ≠ [] := fun e => by rw [e] at hx; cases hx
      obtain ⟨i, _, hi, hq1, hq2⟩ := last_form hne
      rcases h.form with ⟨e, _⟩ | ⟨b, cap, rfl, hb, hq3⟩
      · exact absurd e hne
      clear hx hne hq1 hq2 hq3
      rw [hi] at h hl
      have h' := h.dropLast (fun _ => rfl) hi
      have hcap : i + 1 ≤ cap := h.cap
      have hl' : s.dropLast.length = i := by simp [hi]
      have hle : s.dropLast.length ≤ 900 := by omega
      have HL := Lib.hid hi
      rw [hi]
      clear hi hl'
      generalize s.dropLast = t at HSW h' hle
      go_enter Tryz.func183, Tryz.ntmps183
      go_wp2_with (first | (go_at_call 223; refine (last_F _ _ _ (h.below HBx) (by rw [HL.out]; omega)).mono ?_; rintro e w1 ⟨rfl, hb1⟩; rw [HX.out, show (optE encF zencF (some (d, v0))).toArray = #[.int .i64 d, .int .i64 v0.num, .int .i64 v0.den] from rfl]; have hw1 : w.heap.size + 1 ≤ w1.heap.size := (by have := hb1.size; simp at this; omega); have HK : Below (w.heap.size + 1) (w.alloc (.cells #[.int .i64 v.num, .int .i64 v.den] 49)) w1 := (by simpa using hb1)))
      have c20 := box_cell (HK.alloc hw1 (.cells #[.int .i64 d, .int .i64 v0.num, .int .i64 v0.den] 174))
      have HK1 := (HK.alloc hw1 (.cells #[.int .i64 d, .int .i64 v0.num, .int .i64 v0.den] 174)).drew
      have HK2 := ((HK.alloc hw1 (.cells #[.int .i64 d, .int .i64 v0.num, .int .i64 v0.den] 174)).alloc (by simp; omega) (.cells #[.int .i64 d, .int .i64 v.num, .int .i64 v.den] 174)).drew
      go_region_law (first
        | (go_simp; go_at_call 224; first
            | ((with_reducible refine (clone_F _ t _ (SerAt.below h' (HBx.trans (HK1.mono (Nat.le_succ _)))) (by omega)).mono ?_); rintro e w3 ⟨v3, rfl, hown3, hb3⟩; have HK3 := below_over HK1 hb3 (by simp; omega); have c30 := box_cell HK3)
            | ((with_reducible refine (clone_F _ t _ (SerAt.below h' (HBx.trans (HK2.mono (Nat.le_succ _)))) (by omega)).mono ?_); rintro e w3 ⟨v3, rfl, hown3, hb3⟩; have HK3 := below_over HK2 hb3 (by simp; omega); have HN : Hid _ := blk_cells2 (w := w1.alloc (.cells #[.int .i64 d, .int .i64 v0.num, .int .i64 v0.den] 174)) ((Below.refl _ _).drew.trans (hb3.mono (by simp))) (w1.heap.size + 1) (by simp)))
        | (have _tB := HN; refine step_append_lies _ rfl (.tmp 27) (.tmp 31) 157 rfl _ 174 i0 (.agg #[.int .i64 0, .int .i64 0, .int .i64 0]) 3 24 Tryz.underlying157 hi0 hz0 hz1 hz2 rfl (by decide) _ t.length (t.flatMap (encE encF)) rfl hown3 ⟨w1.heap.size + 1, 0, none⟩ 1 1 (encE encF (d, v)) rfl rfl HN.out (one1_F d v) (by omega) (by unfold maxLen; omega) (by omega) ?_ _ rfl ?_; exact hb3.size; intro g cap w4 hown4 hgrow4 hat hlt)
        | (have _tA := c30; refine step_append_lies _ rfl (.tmp 27) (.tmp 31) 157 rfl _ 174 i0 (.agg #[.int .i64 0, .int .i64 0, .int .i64 0]) 3 24 Tryz.underlying157 hi0 hz0 hz1 hz2 rfl (by decide) _ t.length (t.flatMap (encE encF)) rfl (hown3.alloc _) ⟨w3.heap.size, 0, none⟩ 1 1 (encE encF (d, v)) rfl rfl (World.news_of_block (heap_alloc_new w3 _)) (one1_F d v) (by omega) (by unfold maxLen; omega) (by omega) ?_ _ rfl ?_; exact Nat.le_trans hb3.size (Nat.le_of_lt (World.size_alloc_lt _ _)); intro g cap w4 hown4 hgrow4 hat hlt))
      all_goals
        go_wp2
        go_ret
        refine ⟨_, rfl, (by rw [HSW.out]; exact ser_of hown4), ?_⟩
        first
          | exact below_own ((HBx.trans (HK3.mono (Nat.le_succ _))).alloc (by have := HK3.size; simp at this; omega) _) (hown3.alloc _) (by simp; omega) hgrow4
          | exact below_own (HBx.trans (HK3.mono (Nat.le_succ _))) hown3 (by simp; omega) hgrow4
    · have HSW : Hid (seWith s day v = s ++ [(day, v)]) := by show seWith s day v = _; rw [seWith, seCut, hx]; simp [hd]
      have hd1 : (d == day) = false := by simpa using hd
      clear hx hd
      go_enter Tryz.func183, Tryz.ntmps183
      go_wp2_with (first | (go_at_call 223; refine (last_F _ _ _ (h.below HBx) (by omega)).mono ?_; rintro e w1 ⟨rfl, hb1⟩; rw [HX.out, show (optE encF zencF (some (d, v0))).toArray = #[.int .i64 d, .int .i64 v0.num, .int .i64 v0.den] from rfl]; have hw1 : w.heap.size + 1 ≤ w1.heap.size := (by have := hb1.size; simp at this; omega); have HK : Below (w.heap.size + 1) (w.alloc (.cells #[.int .i64 v.num, .int .i64 v.den] 49)) w1 := (by simpa using hb1)))
      have c20 := box_cell (HK.alloc hw1 (.cells #[.int .i64 d, .int .i64 v0.num, .int .i64 v0.den] 174))
      have HK1 := (HK.alloc hw1 (.cells #[.int .i64 d, .int .i64 v0.num, .int .i64 v0.den] 174)).drew
      have HK2 := ((HK.alloc hw1 (.cells #[.int .i64 d, .int .i64 v0.num, .int .i64 v0.den] 174)).alloc (by simp; omega) (.cells #[.int .i64 day, .int .i64 v.num, .int .i64 v.den] 174)).drew
      go_region_law (first
        | (go_simp; go_at_call 224; first
            | ((with_reducible refine (clone_F _ s _ (SerAt.below h (HBx.trans (HK1.mono (Nat.le_succ _)))) (by omega)).mono ?_); rintro e w3 ⟨v3, rfl, hown3, hb3⟩; have HK3 := below_over HK1 hb3 (by simp; omega); have c30 := box_cell HK3)
            | ((with_reducible refine (clone_F _ s _ (SerAt.below h (HBx.trans (HK2.mono (Nat.le_succ _)))) (by omega)).mono ?_); rintro e w3 ⟨v3, rfl, hown3, hb3⟩; have HK3 := below_over HK2 hb3 (by simp; omega); have HN : Hid _ := blk_cells2 (w := w1.alloc (.cells #[.int .i64 d, .int .i64 v0.num, .int .i64 v0.den] 174)) ((Below.refl _ _).drew.trans (hb3.mono (by simp))) (w1.heap.size + 1) (by simp)))
        | (have _tB := HN; refine step_append_lies _ rfl (.tmp 27) (.tmp 31) 157 rfl _ 174 i0 (.agg #[.int .i64 0, .int .i64 0, .int .i64 0]) 3 24 Tryz.underlying157 hi0 hz0 hz1 hz2 rfl (by decide) _ (s).length ((s).flatMap (encE encF)) rfl hown3 ⟨w1.heap.size + 1, 0, none⟩ 1 1 (encE encF (day, v)) rfl rfl HN.out (one1_F day v) (by omega) (by unfold maxLen; omega) (by omega) ?_ _ rfl ?_; exact hb3.size; intro g cap w4 hown4 hgrow4 hat hlt)
        | (have _tA := c30; refine step_append_lies _ rfl (.tmp 27) (.tmp 31) 157 rfl _ 174 i0 (.agg #[.int .i64 0, .int .i64 0, .int .i64 0]) 3 24 Tryz.underlying157 hi0 hz0 hz1 hz2 rfl (by decide) _ (s).length ((s).flatMap (encE encF)) rfl (hown3.alloc _) ⟨w3.heap.size, 0, none⟩ 1 1 (encE encF (day, v)) rfl rfl (World.news_of_block (heap_alloc_new w3 _)) (one1_F day v) (by omega) (by unfold maxLen; omega) (by omega) ?_ _ rfl ?_; exact Nat.le_trans hb3.size (Nat.le_of_lt (World.size_alloc_lt _ _)); intro g cap w4 hown4 hgrow4 hat hlt))
      all_goals
        go_wp2
        go_ret
        refine ⟨_, rfl, (by rw [HSW.out]; exact ser_of hown4), ?_⟩
        first
          | exact below_own ((HBx.trans (HK3.mono (Nat.le_succ _))).alloc (by have := HK3.size; simp at this; omega) _) (hown3.alloc _) (by simp; omega) hgrow4
          | exact below_own (HBx.trans (HK3.mono (Nat.le_succ _))) hown3 (by simp; omega) hgrow4
end Go.Proofs.YtmbhkfclpkopiaaGreatDoor
