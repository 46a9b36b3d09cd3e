/- The reference's list of entries in memory; Last. Pure facts about the reference's list, as its functions walk it. No Go in sight. giroref21.At; giroref03.Day. -/
import Derived.Test.YtmbhkfclpkopiaaGreatDoorTaken
import Derived.Test.YtmbhkfclpkopiaaGreatDoorAgree
import Derived.Test.YtmbhkfclpkopiaaGreatDoorPureA
import Derived.Deep.Heap
namespace Go.Proofs.YtmbhkfclpkopiaaGreatDoor
open Go.RowKit
set_option linter.unusedVariables false
set_option linter.unusedSimpArgs false

def encT (e : E) : List Value := [.int .i64 e.kind, .int .i64 e.day, .string e.key, .string e.text, .int .i64 e.n, .int .i64 e.num, .int .i64 e.den, .bool e.active]

/-- A slice of entries that nobody writes any more. -/
def TAt (w : World) (v : Value) (T : List E) : Prop := w.ownsRow 0 33 8 v T.length (T.flatMap encT)

theorem TAt.below {w w' : World} {v : Value} {T : List E} (h : TAt w v T) (hb : Below w.heap.size w w') : TAt w' v T :=
  World.ownsRow.kept h (row := none) ⟨hb.os, hb.tape, hb.output, hb.size, fun k hk _ => hb.block k hk⟩ (by cases v.ownBlock <;> simp)

theorem TAt.cell {w : World} {b n cap : Nat} {T : List E} (h : TAt w (.slice (some ⟨b, 0, none⟩) n cap) T) {i : Nat} {e : E} (hi : T[i]? = some e) (c : Nat) (hc : c < 8) (u : Value) (hu : (encT e)[c]? = some u) :
    w.cell? ⟨b, i * 8 + c, none⟩ = some u := by
  have hl : i < T.length := (List.getElem?_eq_some_iff.1 hi).1
  rcases h.2 with ⟨e', _⟩ | ⟨g, cap', cur, e', _⟩
  · cases e'
  · have hn : T.length = n := by injection e' with _ e' _; exact e'.symm
    have hown : w.ownsRow 0 33 8 (.slice (some ⟨b, 0, none⟩) n cap) n (T.flatMap encT) := by unfold TAt at h; rw [hn] at h; exact h
    have hlt : i * 8 + c < n * 8 := by omega
    rw [hown.cellAt _ hlt, flatMap_get (f := encT) (sz := 8) (fun _ => rfl) T i c e hi hc, hu]

theorem TAt.cells {w : World} {b n cap : Nat} {T : List E} (h : TAt w (.slice (some ⟨b, 0, none⟩) n cap) T) {i : Nat} {e : E} (hi : T[i]? = some e) :
    w.cell? ⟨b, i * 8, none⟩ = some (.int .i64 e.kind) ∧ w.cell? ⟨b, i * 8 + 1, none⟩ = some (.int .i64 e.day) ∧ w.cell? ⟨b, i * 8 + 2, none⟩ = some (.string e.key) ∧ w.cell? ⟨b, i * 8 + 3, none⟩ = some (.string e.text) ∧ w.cell? ⟨b, i * 8 + 4, none⟩ = some (.int .i64 e.n) ∧ w.cell? ⟨b, i * 8 + 5, none⟩ = some (.int .i64 e.num) ∧ w.cell? ⟨b, i * 8 + 6, none⟩ = some (.int .i64 e.den) ∧ w.cell? ⟨b, i * 8 + 7, none⟩ = some (.bool e.active) :=
  ⟨h.cell hi 0 (by omega) _ rfl, h.cell hi 1 (by omega) _ rfl, h.cell hi 2 (by omega) _ rfl, h.cell hi 3 (by omega) _ rfl, h.cell hi 4 (by omega) _ rfl, h.cell hi 5 (by omega) _ rfl, h.cell hi 6 (by omega) _ rfl, h.cell hi 7 (by omega) _ rfl⟩

theorem TAt.form {w : World} {v : Value} {T : List E} (h : TAt w v T) :
    (T = [] ∧ v = .slice none 0 0) ∨ ∃ b cap, v = .slice (some ⟨b, 0, none⟩) T.length cap ∧ b < w.heap.size ∧ T.length ≤ cap := by
  rcases h.2 with ⟨rfl, h0⟩ | ⟨g, cap, cur, rfl, _, hh, h1, h2, _⟩
  · exact .inl ⟨List.eq_nil_of_length_eq_zero h0, rfl⟩
  · exact .inr ⟨g, cap, rfl, (Array.getElem?_eq_some_iff.1 hh).1, h1⟩

/-- Where the last entry of a key lies among the first i, or -1. -/
def lastI (T : List E) (kind : Int) (key : ByteArray) : Nat → Int
  | 0 => -1
  | i + 1 => match T[i]? with
    | some e => if isOf kind key e then (i : Int) else lastI T kind key i
    | none => lastI T kind key i

theorem lastI_lt (T : List E) (kind : Int) (key : ByteArray) : ∀ i, -1 ≤ lastI T kind key i ∧ lastI T kind key i < i
  | 0 => by simp [lastI]
  | i + 1 => by
    have := lastI_lt T kind key i
    unfold lastI
    split
    · split <;> omega
    · omega

set_option maxRecDepth 10000 in
theorem last_calls (v : Value) (T : List E) (kind : Int) (key : ByteArray) (w : World) (h : TAt w v T) (hl : T.length ≤ 1000) :
    Calls Tryz.prog 171 #[v, .int .i64 kind, .string key] w fun e w' => e = .returned (.int .i64 (lastI T kind key T.length)) ∧ w = w' := by
  rcases h.form with ⟨rfl, rfl⟩ | ⟨b, cap, rfl, hb, hcap⟩
  · clear h
    go_enter Tryz.func171, Tryz.ntmps171
    go_wp2
    refine wp_loop_rounds 1 ?_
    rw [rounds_succ]
    go_wp2
    go_ret
    exact ⟨rfl, rfl⟩
  · have HC : Hid (∀ i e, T[i]? = some e → _) := fun i e hi => h.cells (i := i) (e := e) hi
    clear h
    go_enter Tryz.func171, Tryz.ntmps171
    go_wp2
    go_loopw [7, 8] (fun p q wr => ∃ i : Nat, p = .int .i64 (lastI T kind key i) ∧ q = .int .i64 i ∧ i ≤ T.length ∧ wr = w) (fun p q wr => T.length - (intOf q).toNat)
    case atStart => exact ⟨0, rfl, rfl, by omega, rfl⟩
    case round =>
      obtain ⟨i, rfl, rfl, hi, rfl⟩ := hrel
      have hlt2 := lastI_lt T kind key i
      by_cases hlt : i < T.length
      · obtain ⟨e, he⟩ : ∃ e, T[i]? = some e := ⟨_, List.getElem?_eq_getElem hlt⟩
        obtain ⟨c0, c1, c2, c3, c4, c5, c6, c7⟩ := HC.out i e he
        cases hx : isOf kind key e with
        | true =>
          have HS : Hid (lastI T kind key (i + 1) = i) := by show _ = _; simp [lastI, he, hx]
          have hq : (e.kind == kind) = true ∧ (e.key.toList == key.toList) = true := by
            rw [beq_tl]; simpa [isOf] using hx
          obtain ⟨hq1, hq2⟩ := hq
          clear he hx
          go_wp2
          refine ⟨⟨i + 1, vint HS.out.symm, rfl, by omega, trivial⟩, by simp [intOf]; omega⟩
        | false =>
          have HS : Hid (lastI T kind key (i + 1) = lastI T kind key i) := by show _ = _; simp [lastI, he, hx]
          have hq : (e.kind == kind) = false ∨ ((e.kind == kind) = true ∧ (e.key.toList == key.toList) = false) := by
            rw [beq_tl]
            by_cases h1 : e.kind = kind
            · right; simpa [isOf, h1] using hx
            · left; simpa using h1
          clear he hx
          rcases hq with hq1 | ⟨hq1, hq2⟩
          all_goals
            go_wp2
            refine ⟨⟨i + 1, vint HS.out.symm, rfl, by omega, trivial⟩, by simp [intOf]; omega⟩
      · obtain rfl : i = T.length := by omega
        clear hlt
        go_wp2
        go_ret
        exact ⟨rfl, rfl⟩
end Go.Proofs.YtmbhkfclpkopiaaGreatDoor

namespace Go.Proofs.YtmbhkfclpkopiaaGreatDoor
open Go.RowKit
set_option linter.unusedVariables false
set_option linter.unusedSimpArgs false

/-- The last of the first i entries that satisfies p. -/
def cur (p : E → Bool) (T : List E) (i : Nat) : Option E := ((T.take i).filter p).getLast?
theorem cur_zero (p : E → Bool) (T : List E) : cur p T 0 = none := rfl
theorem cur_succ {p : E → Bool} {T : List E} {i : Nat} {e : E} (h : T[i]? = some e) : cur p T (i + 1) = if p e then some e else cur p T i := by
  unfold cur
  rw [List.take_add_one, h, Option.toList_some, List.filter_append]
  cases hp : p e <;> simp [hp]

def hits (kind day : Int) (key : ByteArray) (e : E) : Bool := isOf kind key e && (decide (e.day ≤ day) && isDay day)
theorem cur_all (T : List E) (kind day : Int) (key : ByteArray) : cur (hits kind day key) T T.length = refAt T kind day key := by
  unfold cur refAt sel
  rw [List.take_length]
  cases h : isDay day with
  | false =>
    have : T.filter (hits kind day key) = [] := by
      rw [List.filter_eq_nil_iff]
      intro e _
      simp [hits, h]
    rw [this]
    simp
  | true =>
    rw [if_pos rfl, List.filter_filter]
    congr 1
    refine List.filter_congr fun e _ => ?_
    simp [hits, h, Bool.and_comm]

theorem cur_last (T : List E) (kind : Int) (key : ByteArray) : cur (isOf kind key) T T.length = refLast T kind key := by
  unfold cur refLast sel
  rw [List.take_length]

theorem lastI_spec (T : List E) (kind : Int) (key : ByteArray) : ∀ i, i ≤ T.length → (lastI T kind key i = -1 ∧ cur (isOf kind key) T i = none) ∨ ∃ (j : Nat) (e : E), lastI T kind key i = j ∧ j < i ∧ T[j]? = some e ∧ cur (isOf kind key) T i = some e
  | 0, _ => .inl ⟨rfl, rfl⟩
  | i + 1, h => by
    obtain ⟨e, he⟩ : ∃ e, T[i]? = some e := ⟨_, List.getElem?_eq_getElem (by omega)⟩
    have ih := lastI_spec T kind key i (by omega)
    rw [cur_succ he]
    cases hx : isOf kind key e with
    | true => exact .inr ⟨i, e, by simp [lastI, he, hx], by omega, he, by simp⟩
    | false =>
      have e1 : lastI T kind key (i + 1) = lastI T kind key i := by simp [lastI, he, hx]
      rw [e1]
      rcases ih with ⟨h1, h2⟩ | ⟨j, y, h1, h2, h3, h4⟩
      · exact .inl ⟨h1, by simpa using h2⟩
      · exact .inr ⟨j, y, h1, by omega, h3, by simpa using h4⟩

theorem last_cases (T : List E) (kind : Int) (key : ByteArray) : (lastI T kind key T.length = -1 ∧ refLast T kind key = none) ∨ ∃ (j : Nat) (e : E), lastI T kind key T.length = j ∧ T[j]? = some e ∧ refLast T kind key = some e ∧ e.kind = kind ∧ e.key = key := by
  have := lastI_spec T kind key T.length (Nat.le_refl _)
  rw [cur_last] at this
  rcases this with h | ⟨j, e, h1, _, h3, h4⟩
  · exact .inl h
  · have h5 := sel_some (show (sel T kind key).getLast? = some e from h4)
    exact .inr ⟨j, e, h1, h3, h4, h5.2⟩

/-- Is there an entry of a kind and a key among the first i. -/
theorem lastI_neg (T : List E) (kind : Int) (key : ByteArray) (i : Nat) (hi : i ≤ T.length) : lastI T kind key i = -1 ↔ ∀ x ∈ T.take i, ¬ (x.kind = kind ∧ x.key = key) := by
  rcases lastI_spec T kind key i hi with ⟨h1, h2⟩ | ⟨j, e, h1, h2, h3, h4⟩
  · refine ⟨fun _ x hx hk => ?_, fun _ => h1⟩
    unfold cur at h2
    rw [List.getLast?_eq_none_iff, List.filter_eq_nil_iff] at h2
    exact h2 x hx (by simp [isOf, hk.1, hk.2])
  · refine ⟨fun h => by omega, fun h => ?_⟩
    unfold cur at h4
    have h5 := List.mem_filter.1 (List.mem_of_getLast? h4)
    exact absurd (by simpa [isOf] using h5.2) (h e h5.1)

/-- The check for another member with the text, entry by entry. -/
def dup (T : List E) (e x : E) (i : Nat) : Bool := decide (x.kind = 0) && !decide (x.key = e.key) && decide (x.text = e.text) && decide (lastI T 0 x.key T.length = i)
theorem dup_taken (T : List E) (e : E) : refTaken T e = true ↔ ∃ i x, T[i]? = some x ∧ dup T e x i = true := by
  unfold refTaken
  rw [List.any_eq_true]
  constructor
  · rintro ⟨x, hx, hq⟩
    rcases last_cases T 0 x.key with ⟨h1, h2⟩ | ⟨j, y, h1, h2, h3, h4, h5⟩
    · rw [h2] at hq; simp at hq
    · rw [h3] at hq
      simp only [Bool.and_eq_true, decide_eq_true_eq, Bool.not_eq_true', decide_eq_false_iff_not] at hq
      refine ⟨j, y, h2, ?_⟩
      simp only [dup, h5, h1, h4, hq.1.2, hq.2]
      simp
  · rintro ⟨i, x, hx, hq⟩
    simp only [dup, Bool.and_eq_true, decide_eq_true_eq, Bool.not_eq_true', decide_eq_false_iff_not] at hq
    obtain ⟨⟨⟨h1, h2⟩, h3⟩, h4⟩ := hq
    refine ⟨x, List.mem_of_getElem? hx, ?_⟩
    rcases last_cases T 0 x.key with ⟨k1, k2⟩ | ⟨j, y, k1, k2, k3, k4, k5⟩
    · omega
    · have : j = i := by omega
      subst this
      rw [hx] at k2
      obtain rfl : x = y := by injection k2
      rw [k3]
      simp [h1, h2, h3]
end Go.Proofs.YtmbhkfclpkopiaaGreatDoor

namespace Go.Proofs.YtmbhkfclpkopiaaGreatDoor
open Go.RowKit
set_option linter.unusedVariables false
set_option linter.unusedSimpArgs false

theorem rday_calls (d : Int) (w : World) : Calls Tryz.prog 107 #[.int .i64 d] w fun e w' => e = .returned (.bool (isDay d)) ∧ w = w' := by
  by_cases h1 : 0 ≤ d
  · by_cases h2 : d ≤ 73048
    · have HF : Hid (isDay d = true) := by simp [Hid, isDay, h1, h2]
      go_enter Tryz.func107, Tryz.ntmps107
      go_wp2
      go_ret
      exact ⟨ret_bool HF.out.symm, rfl⟩
    · have HF : Hid (isDay d = false) := by simp [Hid, isDay, h2]
      go_enter Tryz.func107, Tryz.ntmps107
      go_wp2
      go_ret
      exact ⟨ret_bool HF.out.symm, rfl⟩
  · have HF : Hid (isDay d = false) := by simp [Hid, isDay, h1]
    go_enter Tryz.func107, Tryz.ntmps107
    go_wp2
    go_ret
    exact ⟨ret_bool HF.out.symm, rfl⟩

def zT : Array Value := #[.int .i64 0, .int .i64 0, .string ByteArray.empty, .string ByteArray.empty, .int .i64 0, .int .i64 0, .int .i64 0, .bool false]

theorem put_at {W : World} {b i : Nat} {t : TypeId} {fr : Nat × Nat} {cs : Array Value} {u : Value} (h : W.heap[b]? = some (.cells cs t fr)) : (W.setCell ⟨b, i, none⟩ u).heap[b]? = some (.cells (cs.setIfInBounds i u) t fr) := by
  simp [World.setCell, Array.getElem?_modify, h]
theorem put_other {W : World} {b i k : Nat} {u : Value} (h : k ≠ b) : (W.setCell ⟨b, i, none⟩ u).heap[k]? = W.heap[k]? := Go.Deep.blk_setCell_other W ⟨b, i, none⟩ u k h

/-- A block of eight cells, written cell by cell. -/
def put8 (W : World) (b : Nat) (v0 v1 v2 v3 v4 v5 v6 v7 : Value) : World :=
  (((((((W.setCell ⟨b, 0, none⟩ v0).setCell ⟨b, 1, none⟩ v1).setCell ⟨b, 2, none⟩ v2).setCell ⟨b, 3, none⟩ v3).setCell ⟨b, 4, none⟩ v4).setCell ⟨b, 5, none⟩ v5).setCell ⟨b, 6, none⟩ v6).setCell ⟨b, 7, none⟩ v7
theorem put8_at {W : World} {b : Nat} {t : TypeId} {a0 a1 a2 a3 a4 a5 a6 a7 v0 v1 v2 v3 v4 v5 v6 v7 : Value} (h : W.heap[b]? = some (.cells #[a0, a1, a2, a3, a4, a5, a6, a7] t (0, 0))) : (put8 W b v0 v1 v2 v3 v4 v5 v6 v7).heap[b]? = some (.cells #[v0, v1, v2, v3, v4, v5, v6, v7] t (0, 0)) := by
  have h0 : (W.setCell ⟨b, 0, none⟩ v0).heap[b]? = some (.cells #[v0, a1, a2, a3, a4, a5, a6, a7] t (0, 0)) := by simpa using put_at (i := 0) (u := v0) h
  have h1 : ((W.setCell ⟨b, 0, none⟩ v0).setCell ⟨b, 1, none⟩ v1).heap[b]? = some (.cells #[v0, v1, a2, a3, a4, a5, a6, a7] t (0, 0)) := by simpa using put_at (i := 1) (u := v1) h0
  have h2 : (((W.setCell ⟨b, 0, none⟩ v0).setCell ⟨b, 1, none⟩ v1).setCell ⟨b, 2, none⟩ v2).heap[b]? = some (.cells #[v0, v1, v2, a3, a4, a5, a6, a7] t (0, 0)) := by simpa using put_at (i := 2) (u := v2) h1
  have h3 : ((((W.setCell ⟨b, 0, none⟩ v0).setCell ⟨b, 1, none⟩ v1).setCell ⟨b, 2, none⟩ v2).setCell ⟨b, 3, none⟩ v3).heap[b]? = some (.cells #[v0, v1, v2, v3, a4, a5, a6, a7] t (0, 0)) := by simpa using put_at (i := 3) (u := v3) h2
  have h4 : (((((W.setCell ⟨b, 0, none⟩ v0).setCell ⟨b, 1, none⟩ v1).setCell ⟨b, 2, none⟩ v2).setCell ⟨b, 3, none⟩ v3).setCell ⟨b, 4, none⟩ v4).heap[b]? = some (.cells #[v0, v1, v2, v3, v4, a5, a6, a7] t (0, 0)) := by simpa using put_at (i := 4) (u := v4) h3
  have h5 : ((((((W.setCell ⟨b, 0, none⟩ v0).setCell ⟨b, 1, none⟩ v1).setCell ⟨b, 2, none⟩ v2).setCell ⟨b, 3, none⟩ v3).setCell ⟨b, 4, none⟩ v4).setCell ⟨b, 5, none⟩ v5).heap[b]? = some (.cells #[v0, v1, v2, v3, v4, v5, a6, a7] t (0, 0)) := by simpa using put_at (i := 5) (u := v5) h4
  have h6 : (((((((W.setCell ⟨b, 0, none⟩ v0).setCell ⟨b, 1, none⟩ v1).setCell ⟨b, 2, none⟩ v2).setCell ⟨b, 3, none⟩ v3).setCell ⟨b, 4, none⟩ v4).setCell ⟨b, 5, none⟩ v5).setCell ⟨b, 6, none⟩ v6).heap[b]? = some (.cells #[v0, v1, v2, v3, v4, v5, v6, a7] t (0, 0)) := by simpa using put_at (i := 6) (u := v6) h5
  have h7 : ((((((((W.setCell ⟨b, 0, none⟩ v0).setCell ⟨b, 1, none⟩ v1).setCell ⟨b, 2, none⟩ v2).setCell ⟨b, 3, none⟩ v3).setCell ⟨b, 4, none⟩ v4).setCell ⟨b, 5, none⟩ v5).setCell ⟨b, 6, none⟩ v6).setCell ⟨b, 7, none⟩ v7).heap[b]? = some (.cells #[v0, v1, v2, v3, v4, v5, v6, v7] t (0, 0)) := by simpa using put_at (i := 7) (u := v7) h6
  exact h7
theorem put8_other {W : World} {b k : Nat} {v0 v1 v2 v3 v4 v5 v6 v7 : Value} (h : k ≠ b) : (put8 W b v0 v1 v2 v3 v4 v5 v6 v7).heap[k]? = W.heap[k]? := by
  unfold put8
  simp only [put_other h]
theorem put8_size {W : World} {b : Nat} {v0 v1 v2 v3 v4 v5 v6 v7 : Value} : (put8 W b v0 v1 v2 v3 v4 v5 v6 v7).heap.size = W.heap.size := by
  unfold put8
  simp only [Go.Deep.nblk_setCell]
theorem put8_below {B : Nat} {w W : World} {b : Nat} {v0 v1 v2 v3 v4 v5 v6 v7 : Value} (h : Below B w W) (hb : B ≤ b) : Below B w (put8 W b v0 v1 v2 v3 v4 v5 v6 v7) :=
  below_set (below_set (below_set (below_set (below_set (below_set (below_set (below_set h hb _) hb _) hb _) hb _) hb _) hb _) hb _) hb _

set_option maxRecDepth 10000 in
set_option maxHeartbeats 1000000 in
theorem rat_calls (v : Value) (T : List E) (kind day : Int) (key : ByteArray) (w : World) (h : TAt w v T) (hl : T.length ≤ 1000) :
    Calls Tryz.prog 54 #[v, .int .i64 kind, .int .i64 day, .string key] w fun e w' => e = .returned (.tuple #[.agg (encT ((refAt T kind day key).getD zE)).toArray, .bool (refAt T kind day key).isSome]) ∧ Below w.heap.size w w' := by
  rcases h.form with ⟨rfl, rfl⟩ | ⟨b, cap, rfl, hb, hcap⟩
  · clear h
    go_enter Tryz.func54, Tryz.ntmps54
    go_wp2
    refine wp_loop_rounds 1 ?_
    rw [rounds_succ]
    go_wp2
    refine bodyPost_ret (v := .tuple #[.agg zT, .bool false]) (by simp [results, Tryz.results54, go_sem, zT]; rfl) rfl ⟨?_, ?_⟩
    · have : refAt [] kind day key = none := by unfold refAt sel; simp
      rw [this]; rfl
    · exact ((Below.refl _ _).alloc (Nat.le_refl _) _).alloc (by simp) _
  · have HC : Hid (∀ W, Below w.heap.size w W → ∀ i e, T[i]? = some e → _) := fun W hW i e hi => (h.below hW).cells (i := i) (e := e) hi
    clear h
    go_enter Tryz.func54, Tryz.ntmps54
    go_wp2
    go_loopw [11, 12] (fun p q wr => ∃ i : Nat, p = .bool (cur (hits kind day key) T i).isSome ∧ q = .int .i64 i ∧ i ≤ T.length ∧ Below w.heap.size w wr ∧ wr.heap.size = w.heap.size + 2 ∧ wr.heap[w.heap.size]? = some (.cells zT 33 (0, 0)) ∧ wr.heap[w.heap.size + 1]? = some (.cells (encT ((cur (hits kind day key) T i).getD zE)).toArray 33 (0, 0))) (fun p q wr => T.length - (intOf q).toNat)
    case atStart =>
      refine ⟨0, rfl, rfl, by omega, ((Below.refl _ _).alloc (Nat.le_refl _) _).alloc (by simp) _, by simp, ?_, ?_⟩
      · rw [Below.heap_alloc _ _ _ (by simp)]
        exact heap_alloc_new w _
      · have := heap_alloc_new (w.alloc (.cells zT 33)) (.cells zT 33)
        rw [show (w.alloc (.cells zT 33)).heap.size = w.heap.size + 1 by simp] at this
        exact this
    case round =>
      obtain ⟨i, rfl, rfl, hi, HB, hs, hR, hO⟩ := hrel
      have o0 : ∀ j, wr.cell? ⟨w.heap.size + 1, j, none⟩ = (encT ((cur (hits kind day key) T i).getD zE))[j]? := fun j => by simp [World.cell?, hO]
      have f0 : ∀ j, wr.frozen? ⟨w.heap.size + 1, j, none⟩ = false := fun j => by simp [World.frozen?, hO]
      obtain ⟨e0, hy⟩ : ∃ e0 : E, encT ((cur (hits kind day key) T i).getD zE) = [.int .i64 e0.kind, .int .i64 e0.day, .string e0.key, .string e0.text, .int .i64 e0.n, .int .i64 e0.num, .int .i64 e0.den, .bool e0.active] := ⟨_, rfl⟩
      rw [hy] at o0 hO
      have hR' := Lib.hid hR
      have hO' := Lib.hid hO
      have hs' := Lib.hid hs
      by_cases hlt : i < T.length
      · obtain ⟨e, he⟩ : ∃ e, T[i]? = some e := ⟨_, List.getElem?_eq_getElem hlt⟩
        obtain ⟨c0, c1, c2, c3, c4, c5, c6, c7⟩ := HC.out wr HB i e he
        cases hx : hits kind day key e with
        | true =>
          have HS : Hid (cur (hits kind day key) T (i + 1) = some e) := by show _ = _; rw [cur_succ he, hx]; rfl
          have hq : (e.kind == kind) = true ∧ (e.key.toList == key.toList) = true ∧ e.day ≤ day ∧ isDay day = true := by
            rw [beq_tl]; simpa [hits, isOf, and_assoc] using hx
          obtain ⟨hq1, hq2, hq3, hq4⟩ := hq
          have HD := Lib.hid hq4
          clear he hx hq4 hR hO hs
          go_wp2_with (first | (go_at_call 107; refine (rday_calls _ _).mono ?_; rintro x w' ⟨rfl, rfl⟩; rw [HD.out]))
          refine ⟨⟨i + 1, by rw [HS.out]; rfl, rfl, by omega, put8_below HB (Nat.le_succ _), (put8_size).trans hs'.out, (put8_other (Nat.ne_of_lt (Nat.lt_succ_self _))).trans hR'.out, ?_⟩, by simp [intOf]; omega⟩
          rw [HS.out]
          exact put8_at hO'.out
        | false =>
          have HS : Hid (cur (hits kind day key) T (i + 1) = cur (hits kind day key) T i) := by show _ = _; rw [cur_succ he, hx]; rfl
          have hq : (e.kind == kind) = false ∨ ((e.kind == kind) = true ∧ (e.key.toList == key.toList) = false) ∨ ((e.kind == kind) = true ∧ (e.key.toList == key.toList) = true ∧ decide (e.day ≤ day) = false) ∨ ((e.kind == kind) = true ∧ (e.key.toList == key.toList) = true ∧ decide (e.day ≤ day) = true ∧ isDay day = false) := by
            rw [beq_tl]
            simp only [hits, isOf] at hx
            by_cases h1 : e.kind = kind <;> by_cases h2 : e.key = key <;> by_cases h3 : e.day ≤ day <;> simp [h1, h2, h3] at hx ⊢
            exact hx
          clear he hx hR hO hs
          rcases hq with hq1 | ⟨hq1, hq2⟩ | ⟨hq1, hq2, hq3⟩ | ⟨hq1, hq2, hq3, hq4⟩
          · go_wp2_with (first | (go_at_call 107; refine (rday_calls _ _).mono ?_; rintro x w' ⟨rfl, rfl⟩))
            refine ⟨⟨i + 1, by rw [HS.out], rfl, by omega, HB, hs'.out, hR'.out, ?_⟩, by simp [intOf]; omega⟩
            rw [HS.out, hy]; exact hO'.out
          · go_wp2_with (first | (go_at_call 107; refine (rday_calls _ _).mono ?_; rintro x w' ⟨rfl, rfl⟩))
            refine ⟨⟨i + 1, by rw [HS.out], rfl, by omega, HB, hs'.out, hR'.out, ?_⟩, by simp [intOf]; omega⟩
            rw [HS.out, hy]; exact hO'.out
          · go_wp2_with (first | (go_at_call 107; refine (rday_calls _ _).mono ?_; rintro x w' ⟨rfl, rfl⟩))
            refine ⟨⟨i + 1, by rw [HS.out], rfl, by omega, HB, hs'.out, hR'.out, ?_⟩, by simp [intOf]; omega⟩
            rw [HS.out, hy]; exact hO'.out
          · have hq3' : e.day ≤ day := of_decide_eq_true hq3
            have HD := Lib.hid hq4
            clear hq4
            go_wp2_with (first | (go_at_call 107; refine (rday_calls _ _).mono ?_; rintro x w' ⟨rfl, rfl⟩; rw [HD.out]))
            refine ⟨⟨i + 1, by rw [HS.out], rfl, by omega, HB, hs'.out, hR'.out, ?_⟩, by simp [intOf]; omega⟩
            rw [HS.out, hy]; exact hO'.out
      · obtain rfl : i = T.length := by omega
        have r0 : ∀ j, wr.cell? ⟨w.heap.size, j, none⟩ = ([.int .i64 0, .int .i64 0, .string ByteArray.empty, .string ByteArray.empty, .int .i64 0, .int .i64 0, .int .i64 0, .bool false] : List Value)[j]? := fun j => by simp [World.cell?, hR, zT]
        have r1 : ∀ j, wr.frozen? ⟨w.heap.size, j, none⟩ = false := fun j => by simp [World.frozen?, hR]
        have hlt' : w.heap.size < wr.heap.size := by omega
        have HF : Hid (cur (hits kind day key) T T.length = refAt T kind day key) := cur_all T kind day key
        clear hlt hR hO hs
        go_wp2
        have HP : (put8 wr w.heap.size (.int .i64 e0.kind) (.int .i64 e0.day) (.string e0.key) (.string e0.text) (.int .i64 e0.n) (.int .i64 e0.num) (.int .i64 e0.den) (.bool e0.active)).heap[w.heap.size]? = some (.cells #[.int .i64 e0.kind, .int .i64 e0.day, .string e0.key, .string e0.text, .int .i64 e0.n, .int .i64 e0.num, .int .i64 e0.den, .bool e0.active] 33 (0, 0)) := put8_at hR'.out
        have p0 : ∀ j, (put8 wr w.heap.size (.int .i64 e0.kind) (.int .i64 e0.day) (.string e0.key) (.string e0.text) (.int .i64 e0.n) (.int .i64 e0.num) (.int .i64 e0.den) (.bool e0.active)).cell? ⟨w.heap.size, j, none⟩ = ([.int .i64 e0.kind, .int .i64 e0.day, .string e0.key, .string e0.text, .int .i64 e0.n, .int .i64 e0.num, .int .i64 e0.den, .bool e0.active] : List Value)[j]? := fun j => by simp [World.cell?, HP]
        unfold put8 at p0
        refine bodyPost_ret (v := .tuple #[.agg #[.int .i64 e0.kind, .int .i64 e0.day, .string e0.key, .string e0.text, .int .i64 e0.n, .int .i64 e0.num, .int .i64 e0.den, .bool e0.active], .bool (cur (hits kind day key) T T.length).isSome]) (by simp [results, Tryz.results54, go_sem, hlt', p0]) rfl ⟨?_, ?_⟩
        · rw [← HF.out, hy]
        · exact put8_below HB (Nat.le_refl _)
end Go.Proofs.YtmbhkfclpkopiaaGreatDoor
