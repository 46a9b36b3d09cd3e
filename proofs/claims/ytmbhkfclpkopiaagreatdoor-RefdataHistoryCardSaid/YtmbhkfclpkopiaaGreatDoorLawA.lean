/- Lists of strings and of days in memory; slices.Sort. where: the keys whose effective entries satisfy a predicate, in ascending order. Tables side by side in memory; the law's Set. A law's arguments: an entry, a slice of entries; opened to their cells. -/
import Derived.Test.YtmbhkfclpkopiaaGreatDoorRefTA
import Derived.Test.YtmbhkfclpkopiaaGreatDoorShelf
import Derived.Sort.OwnSorted
import Derived.Sort.OwnSortedInts
import Derived.Lib.OwnBridge
import Derived.Test.YtmbhkfclpkopiaaGreatDoorTaken
import Derived.Test.YtmbhkfclpkopiaaGreatDoorIdent9
import Derived.Test.YtmbhkfclpkopiaaGreatDoorSetH
import Derived.Deep.Slices
import Derived.Deep.Fields
import Derived.ChangeSame
import Derived.ProofKit
import Derived.OpenShut
import Derived.ShutString
import Derived.ChangeOld
import Derived.SizedLaws
namespace Go.Proofs.YtmbhkfclpkopiaaGreatDoor
open Go.RowKit Go.Sort
set_option linter.unusedVariables false
set_option linter.unusedSimpArgs false

/-- A slice of strings, of days, among the blocks from base on. -/
def SAt (base : Nat) (w : World) (v : Value) (l : List ByteArray) : Prop := w.ownsRow base 9 1 v l.length (l.map Value.string)
def DAt (base : Nat) (w : World) (v : Value) (l : List Int) : Prop := w.ownsRow base 3 1 v l.length (l.map (Value.int .i64))

theorem row_below {w w' : World} {base e size n : Nat} {v : Value} {xs : List Value} (h : w.ownsRow base e size v n xs) (hb : Below w.heap.size w w') : w'.ownsRow base e size v n xs :=
  World.ownsRow.kept h (row := none) ⟨hb.os, hb.tape, hb.output, hb.size, fun k hk _ => hb.block k hk⟩ (by cases v.ownBlock <;> simp)
theorem SAt.below {base : Nat} {w w' : World} {v : Value} {l : List ByteArray} (h : SAt base w v l) (hb : Below w.heap.size w w') : SAt base w' v l := row_below h hb
theorem DAt.below {base : Nat} {w w' : World} {v : Value} {l : List Int} (h : DAt base w v l) (hb : Below w.heap.size w w') : DAt base w' v l := row_below h hb
theorem SAt.nil (base : Nat) (w : World) : SAt base w (.slice none 0 0) [] := World.ownsRow_nil _ _ _ _
theorem DAt.nil (base : Nat) (w : World) : DAt base w (.slice none 0 0) [] := World.ownsRow_nil _ _ _ _

theorem row_form {w : World} {base e size n : Nat} {v : Value} {xs : List Value} (h : w.ownsRow base e size v n xs) :
    (n = 0 ∧ v = .slice none 0 0) ∨ ∃ b cap, v = .slice (some ⟨b, 0, none⟩) n cap ∧ base ≤ b ∧ b < w.heap.size ∧ n ≤ cap := by
  rcases h.2 with ⟨rfl, h0⟩ | ⟨g, cap, cur, rfl, hb, hh, h1, h2, _⟩
  · exact .inl ⟨h0, rfl⟩
  · exact .inr ⟨g, cap, rfl, hb, (Array.getElem?_eq_some_iff.1 hh).1, h1⟩

theorem row_cell {w : World} {base e b n cap i : Nat} {xs : List Value} {u : Value} (h : w.ownsRow base e 1 (.slice (some ⟨b, 0, none⟩) n cap) n xs) (hu : xs[i]? = some u) : w.cell? ⟨b, i, none⟩ = some u := by
  have hl : i < xs.length := (List.getElem?_eq_some_iff.1 hu).1
  have hn : xs.length = n * 1 := h.1
  have := h.cellAt i (by omega)
  rw [this, hu]

theorem SAt.cell {base : Nat} {w : World} {b n cap i : Nat} {l : List ByteArray} {k : ByteArray} (h : SAt base w (.slice (some ⟨b, 0, none⟩) n cap) l) (hk : l[i]? = some k) : w.cell? ⟨b, i, none⟩ = some (.string k) := by
  have hn : l.length = n := by
    rcases h.2 with ⟨e', _⟩ | ⟨g, cap', cur, e', _⟩
    · cases e'
    · injection e' with _ e' _; exact e'.symm
  have h' : w.ownsRow base 9 1 (.slice (some ⟨b, 0, none⟩) n cap) n (l.map Value.string) := by unfold SAt at h; rw [hn] at h; exact h
  exact row_cell h' (by rw [List.getElem?_map, hk]; rfl)

theorem DAt.cell {base : Nat} {w : World} {b n cap i : Nat} {l : List Int} {k : Int} (h : DAt base w (.slice (some ⟨b, 0, none⟩) n cap) l) (hk : l[i]? = some k) : w.cell? ⟨b, i, none⟩ = some (.int .i64 k) := by
  have hn : l.length = n := by
    rcases h.2 with ⟨e', _⟩ | ⟨g, cap', cur, e', _⟩
    · cases e'
    · injection e' with _ e' _; exact e'.symm
  have h' : w.ownsRow base 3 1 (.slice (some ⟨b, 0, none⟩) n cap) n (l.map (Value.int .i64)) := by unfold DAt at h; rw [hn] at h; exact h
  exact row_cell h' (by rw [List.getElem?_map, hk]; rfl)

theorem sort_strict {l m : List ByteArray} (hn : l.Nodup) (hp : m.Perm l) (hs : m.Pairwise fun a b => a.toList ≤ b.toList) : m.Pairwise bLt := by
  have hm : m.Nodup := hp.nodup_iff.2 hn
  refine (hs.and hm).imp fun {a b} h => ?_
  have h1 : ¬ bLt b a := fun k => (List.not_lt.2 h.1) k
  exact bLt_total h1 (fun e => h.2 e.symm)

theorem sortS_calls (base : Nat) (v : Value) (l : List ByteArray) (w : World) (h : SAt base w v l) (hl : l.length ≤ 100000) :
    Calls Tryz.prog 134 #[v] w fun e w' => e = .returned (.tuple #[]) ∧ ∃ m : List ByteArray, m.Perm l ∧ (m.Pairwise fun a b => a.toList ≤ b.toList) ∧ SAt base w' v m ∧ w.grownBy w' v.ownBlock := by
  rcases h.2 with ⟨rfl, h0⟩ | ⟨g, cap, cur, rfl, hbase, hb, h1, h2, h3, h4⟩
  · have : l = [] := List.eq_nil_of_length_eq_zero h0
    subst this
    refine (Tryz.slices_Sort_string_none none 0 w).mono ?_
    rintro e w' ⟨rfl, rfl⟩
    exact ⟨rfl, [], List.Perm.refl _, List.Pairwise.nil, h, ⟨rfl, rfl, rfl, Nat.le_refl _, fun _ _ _ => rfl⟩⟩
  · have hss : (l.map (·.data.toList)).map encStr = l.map Value.string := Lib.map_encStr l
    have hlen : (l.map (·.data.toList)).length = l.length := by simp
    have hH : Holds encStr w g 0 (l.map (·.data.toList)).toArray := holds_of_block hb (by rw [hlen, hss]; simpa using h4)
    have hc := Tryz.slices_Sort_string g 0 cap (l.map (·.data.toList)) w hH (Array.getElem?_eq_some_iff.1 hb).1 (by rw [hlen]; omega)
    rw [hlen] at hc
    refine hc.mono ?_
    rintro e w' ⟨rfl, n, os, rfl⟩
    have hperm := List.mergeSort_perm (l.map (·.data.toList)) (fun x y => decide (x ≤ y))
    have hlm : ((l.map (·.data.toList)).mergeSort fun x y => decide (x ≤ y)).length = (l.map (·.data.toList)).length := hperm.length_eq
    refine ⟨rfl, ((l.map (·.data.toList)).mergeSort fun x y => decide (x ≤ y)).map (fun b => ⟨b.toArray⟩), ?_, ?_, ?_, grownBy_sorted _⟩
    · have := hperm.map (fun b : List UInt8 => (⟨b.toArray⟩ : ByteArray))
      refine this.trans ?_
      rw [List.map_map]
      have : l.map ((fun b : List UInt8 => (⟨b.toArray⟩ : ByteArray)) ∘ (·.data.toList)) = l := by
        rw [List.map_congr_left (g := id) (fun x _ => by simp)]; simp
      rw [this]
    · rw [List.pairwise_map]
      have := List.pairwise_mergeSort (le := fun x y : List UInt8 => decide (x ≤ y)) (fun a b c h k => by simp only [decide_eq_true_eq] at *; exact List.le_trans h k) (fun a b => by simp only [Bool.or_eq_true, decide_eq_true_eq]; exact List.le_total a b) (l.map (·.data.toList))
      refine this.imp fun {a b} h => ?_
      rw [ByteArray.toList_eq, ByteArray.toList_eq]
      simpa using h
    · have := ownsRow_sorted (os := os) (n := n) (w := w) hlm hbase hb (by rw [hlen]; exact h1) h2 h3
      unfold SAt
      rw [hlen] at this
      rw [List.length_map, hlm, hlen, List.map_map]
      exact this

theorem sortD_calls (base : Nat) (v : Value) (l : List Int) (w : World) (h : DAt base w v l) (hl : l.length ≤ 100000) :
    Calls Tryz.prog 85 #[v] w fun e w' => e = .returned (.tuple #[]) ∧ ∃ m : List Int, m.Perm l ∧ (m.Pairwise fun a b => a ≤ b) ∧ DAt base w' v m ∧ w.grownBy w' v.ownBlock := by
  rcases h.2 with ⟨rfl, h0⟩ | ⟨g, cap, cur, rfl, hbase, hb, h1, h2, h3, h4⟩
  · have : l = [] := List.eq_nil_of_length_eq_zero h0
    subst this
    refine (Tryz.slices_Sort_int_none none 0 w).mono ?_
    rintro e w' ⟨rfl, rfl⟩
    exact ⟨rfl, [], List.Perm.refl _, List.Pairwise.nil, h, ⟨rfl, rfl, rfl, Nat.le_refl _, fun _ _ _ => rfl⟩⟩
  · have hH : Holds (Value.int .i64) w g 0 l.toArray := holds_of_blockI hb (by simpa using h4)
    have hc := Tryz.slices_Sort_int g 0 cap l w hH (Array.getElem?_eq_some_iff.1 hb).1 (by omega)
    refine hc.mono ?_
    rintro e w' ⟨rfl, n, os, rfl⟩
    have hperm := List.mergeSort_perm l (fun x y => decide (x ≤ y))
    have hlm : (l.mergeSort fun x y => decide (x ≤ y)).length = l.length := hperm.length_eq
    refine ⟨rfl, l.mergeSort fun x y => decide (x ≤ y), hperm, ?_, ?_, grownBy_sortedI _⟩
    · have := List.pairwise_mergeSort (le := fun x y : Int => decide (x ≤ y)) (fun a b c h k => by simp only [decide_eq_true_eq] at *; omega) (fun a b => by simp only [Bool.or_eq_true, decide_eq_true_eq]; omega) l
      exact this.imp fun {a b} h => by simpa using h
    · have := ownsRow_sortedI (os := os) (n := n) (w := w) hlm hbase hb h1 h2 h3
      unfold DAt
      rw [hlm]
      exact this
end Go.Proofs.YtmbhkfclpkopiaaGreatDoor

namespace Go.Proofs.YtmbhkfclpkopiaaGreatDoor
open Go.RowKit
set_option linter.unusedVariables false
set_option linter.unusedSimpArgs false

theorem IterAt.again {V : Type} {R : World → Value → V → Prop} {w w' : World} {b r : Nat} {L done : List (ByteArray × V)} (h : IterAt R w b r L done) (hm : MapAt R w' b L) (hb : w'.heap[b]? = w.heap[b]?) (hr : w'.heap[r]? = w.heap[r]?) : IterAt R w' b r L done := by
  obtain ⟨es, clock, seen, c0, hh, hs, hE, hi, rest⟩ := h
  obtain ⟨es', clock', hh', hs', hE'⟩ := hm
  rw [hb, hh] at hh'
  cases hh'
  exact ⟨es, clock, seen, c0, hb.trans hh, hs, hE', hr.trans hi, rest⟩

/-- Does a key's effective entry satisfy the predicate. -/
def hitW {V : Type} (day : Int) (act : V → Bool) (x : ByteArray × List (Int × V)) : Bool := match seAt x.2 day with
  | some y => act y.2
  | none => false
def kept {V : Type} (day : Int) (act : V → Bool) (done : Tb V) : List ByteArray := (done.filter (hitW day act)).map (·.1)

theorem kept_add {V : Type} (day : Int) (act : V → Bool) (done : Tb V) (x : ByteArray × List (Int × V)) : kept day act (done ++ [x]) = if hitW day act x then kept day act done ++ [x.1] else kept day act done := by
  unfold kept
  rw [List.filter_append, List.map_append]
  cases h : hitW day act x <;> simp [h]

theorem kept_len {V : Type} (day : Int) (act : V → Bool) (done : Tb V) : (kept day act done).length ≤ done.length := by
  unfold kept
  rw [List.length_map]
  exact List.length_filter_le _ _

theorem kept_listed {V : Type} {day : Int} {act : V → Bool} {L done : Tb V} (hL : KeysNodup L) (hd : KeysNodup done) (h1 : ∀ x ∈ done, x ∈ L) (h2 : ∀ x ∈ L, x ∈ done) {m : List ByteArray} (hp : m.Perm (kept day act done)) (hs : m.Pairwise fun a b => a.toList ≤ b.toList) : Listed (Where L day act) m := by
  have hn : (kept day act done).Nodup := by
    unfold kept
    exact List.Nodup.sublist (List.Sublist.map _ List.filter_sublist) hd
  refine ⟨sort_strict hn hp hs, fun k => ?_⟩
  rw [hp.mem_iff]
  unfold kept Where
  simp only [List.mem_map, List.mem_filter]
  constructor
  · rintro ⟨x, ⟨hx, hh⟩, rfl⟩
    have hl := look_of_mem hL (h1 x hx)
    unfold hitW at hh
    unfold ser
    rw [hl]
    show ∃ y, seAt x.2 day = some y ∧ act y.2 = true
    cases hs : seAt x.2 day with
    | none => rw [hs] at hh; cases hh
    | some y => rw [hs] at hh; exact ⟨y, rfl, hh⟩
  · rintro ⟨y, hy, ha⟩
    unfold ser at hy
    cases hl : look L k with
    | none => rw [hl] at hy; simp [seAt] at hy
    | some s =>
      rw [hl] at hy
      refine ⟨(k, s), ⟨h2 _ (look_mem hl), ?_⟩, rfl⟩
      unfold hitW
      have hy' : seAt s day = some y := hy
      rw [hy']
      exact ha

theorem info_9 : (Tryz.prog.info? 9).map (fun i => (i.zero, i.size, i.bytes)) = some (some (.string ⟨#[]⟩), 1, 16) := by kernel_rfl

theorem row_mono {w : World} {B B' e size n : Nat} {v : Value} {xs : List Value} (h : w.ownsRow B e size v n xs) (hB : B' ≤ B) : w.ownsRow B' e size v n xs := by
  refine ⟨h.1, ?_⟩
  rcases h.2 with h0 | ⟨g, cap, cur, h1, h2, h3⟩
  · exact .inl h0
  · exact .inr ⟨g, cap, cur, h1, Nat.le_trans hB h2, h3⟩

theorem own_ge {w : World} {B e size n : Nat} {v : Value} {xs : List Value} (h : w.ownsRow B e size v n xs) {k : Nat} (hk : v.ownBlock = some k) : B ≤ k := by
  rcases h.2 with ⟨rfl, _⟩ | ⟨g, cap, cur, rfl, h2, _⟩
  · cases hk
  · cases hk; exact h2

theorem clo78_calls (y : MV) (W : World) : Calls Tryz.prog 78 #[.agg #[.string y.code, .string y.lei, .bool y.active]] W fun e w' => e = .returned (.bool y.active) ∧ Below W.heap.size W w' := by
  go_enter Tryz.func78, Tryz.ntmps78
  go_wp2
  go_ret
  exact ⟨rfl, (Below.refl _ _).alloc (Nat.le_refl _) _⟩
theorem clo80_calls (y : SV) (W : World) : Calls Tryz.prog 80 #[.agg #[.string y.isin, .string y.issuer, .int .i64 y.lot, .bool y.active]] W fun e w' => e = .returned (.bool y.active) ∧ Below W.heap.size W w' := by
  go_enter Tryz.func80, Tryz.ntmps80
  go_wp2
  go_ret
  exact ⟨rfl, (Below.refl _ _).alloc (Nat.le_refl _) _⟩

set_option maxRecDepth 10000 in
set_option maxHeartbeats 2000000 in
theorem where_M (b : Nat) (L : Tb MV) (day : Int) (w : World) (h : MapAt RM w b L) (hok : TbOk L) (hf : TbFit 900 L) :
    Calls Tryz.prog 77 #[.map (some b), .int .i64 day, .func (.func 78) #[] #[]] w fun e w' => ∃ v l, e = .returned v ∧ SAt w.heap.size w' v l ∧ Listed (Where L day (·.active)) l ∧ l.length ≤ 900 ∧ Below w.heap.size w w' := by
  obtain ⟨i0, hi0, hz0, hz1, hz2⟩ := info_parts info_9
  have HM := Lib.hid h
  have HOK := Lib.hid hok
  have HF := Lib.hid hf
  have hbl := h.lt
  clear hok hf
  go_enter Tryz.func77, Tryz.ntmps77
  go_wp2_with (first
    | (at_range; refine wpList_range_at' _ rfl _ 137 rfl 9 140 Tryz.underlying137 (steady_ser _ _ _) b (w.heap.size) L rfl h rfl ?_; intro w0 hit0 hg0 hs0))
  clear h
  go_frame
  go_loopg [7] (L.length) (fun k p wr => ∃ done v, p = v ∧ IterAt RM wr b w.heap.size L done ∧ SAt (w.heap.size + 1) wr v (kept day (·.active) done) ∧ Below w.heap.size w wr ∧ w.heap.size + 1 ≤ wr.heap.size ∧ k + done.length = L.length)
  case atStart => exact ⟨[], .slice none 0 0, rfl, hit0, SAt.nil _ _, (Below.refl _ _).grown hg0 (Nat.le_refl _) (fun k e => by cases e), by omega, by simp⟩
  case round =>
    obtain ⟨done, v, rfl, hit1, hS, hb, hsz, hk⟩ := hrel
    have HK := Lib.hid hk
    clear hk
    go_wp2_with (first
      | (at_next; refine wpList_next_at _ rfl _ rfl (steady_ser _ _ _) b w.heap.size L done rfl hit1 ?_ ?_))
    · intro hall
      have HL : Hid (∀ m : List ByteArray, m.Perm (kept day (·.active) done) → (m.Pairwise fun a b => a.toList ≤ b.toList) → Listed (Where L day (·.active)) m ∧ m.length ≤ 900) := by
        intro m hp hs
        have h2 := hit1.done_lt
        obtain ⟨es, clock, seen, c0, _, _, _, _, _, hsub, hnd, _⟩ := hit1
        refine ⟨kept_listed HM.out.nodup hnd hsub (fun x hx => hall x.1 x.2 hx) hp hs, ?_⟩
        have h1 := kept_len day (fun y : MV => y.active) done
        have h3 := HF.out.1
        rw [hp.length_eq]
        omega
      have hlen : (kept day (fun y : MV => y.active) done).length ≤ 100000 := by
        have h1 := kept_len day (fun y : MV => y.active) done
        have h2 := hit1.done_lt
        have h3 := HF.out.1
        omega
      clear hall hit1
      go_wp2_with (first | (go_at_call 134; refine (sortS_calls (w.heap.size + 1) _ _ _ hS hlen).mono ?_; rintro e w2 ⟨rfl, m, hp, hs, hS2, hg2⟩))
      go_ret
      obtain ⟨h1, h2⟩ := HL.out m hp hs
      exact ⟨_, m, rfl, row_mono hS2 (Nat.le_succ _), h1, h2, hb.grown hg2 (by omega) (fun k e => Nat.le_trans (Nat.le_succ _) (own_ge hS e))⟩
    · intro k s sv w1 hmem hnd hv hit2 hg1 hs1 hen
      have hb1 : Below w.heap.size w w1 := hb.grown hg1 (by omega) (fun k e => by cases e; exact Nat.le_refl _)
      have hS1 : SAt (w.heap.size + 1) w1 u7 (kept day (·.active) done) := World.ownsRow.kept hS hg1 (by
        cases hvo : u7.ownBlock with
        | none => exact .inl rfl
        | some g => right; intro e; cases e; have := own_ge hS hvo; omega)
      have hr := HOK.out.rising _ hmem
      have hl : s.length ≤ 1000 := Nat.le_trans (HF.out.2 _ hmem) (by decide)
      have hw1 : w.heap.size + 1 ≤ w1.heap.size := by omega
      cases hx : seAt s day with
      | none =>
        have HX := Lib.hid hx
        have HKA : Hid (kept day (·.active) (done ++ [(k, s)]) = kept day (fun y : MV => y.active) done) := by show _ = _; rw [kept_add]; simp [hitW, hx]
        clear hmem hnd hx hS
        go_wp2_with (first
          | (go_at_call 73; refine (at_M _ _ _ _ hv hr hl).mono ?_; rintro e w2 ⟨rfl, hb2⟩; rw [HX.out, show (optE encM zencM none).toArray = #[.int .i64 0, .string ⟨#[]⟩, .string ⟨#[]⟩, .bool false] from rfl]; have hb3 := below_over hb1 hb2 (by omega); have hb4 := hb2.mono hw1; have hw2 : w.heap.size + 1 ≤ w2.heap.size := Nat.le_trans hw1 hb2.size; have hS2 := hS1.below hb2))
        have hlen := hit2.done_lt
        have hk := HK.out
        simp only [List.length_append, List.length_singleton] at hlen
        have hb5 := hb3.alloc (Nat.le_trans (Nat.le_succ _) hw2) (.cells #[.int .i64 0, .string ⟨#[]⟩, .string ⟨#[]⟩, .bool false] 162)
        have hb6 := hb4.alloc hw2 (.cells #[.int .i64 0, .string ⟨#[]⟩, .string ⟨#[]⟩, .bool false] 162)
        go_roundg (gk - 1)
        case measure => omega
        case rel =>
          refine ⟨done ++ [(k, s)], u7, rfl, hit2.again (HM.out.below hb5) ((hb5.block b hbl).trans (hb1.block b hbl).symm) (hb6.block _ (Nat.lt_succ_self _)), ?_, hb5, by simp; omega, by simp only [List.length_append, List.length_singleton]; omega⟩
          rw [HKA.out]
          exact hS2.alloc _
      | some x =>
        obtain ⟨d, y⟩ := x
        have HX := Lib.hid hx
        have HKA : Hid (kept day (·.active) (done ++ [(k, s)]) = if y.active then kept day (fun y : MV => y.active) done ++ [k] else kept day (fun y : MV => y.active) done) := by show _ = _; rw [kept_add]; simp [hitW, hx]
        clear hmem hnd hx hS
        have hlen := hit2.done_lt
        have hk := HK.out
        simp only [List.length_append, List.length_singleton] at hlen
        have hkl : (kept day (fun y : MV => y.active) done).length ≤ 900 := by
          have h1 := kept_len day (fun y : MV => y.active) done
          have h3 := HF.out.1
          omega
        cases hact : y.active with
        | false =>
          have HA := Lib.hid hact
          rw [hact] at HKA
          clear hact
          go_wp2_with (first
            | (go_at_call 73; refine (at_M _ _ _ _ hv hr hl).mono ?_; rintro e w2 ⟨rfl, hb2⟩; rw [HX.out, show (optE encM zencM (some (d, y))).toArray = #[.int .i64 d, .string y.code, .string y.lei, .bool y.active] from rfl]; have hb3 := below_over hb1 hb2 (by omega); have hb4 := hb2.mono hw1; have hw2 : w.heap.size + 1 ≤ w2.heap.size := Nat.le_trans hw1 hb2.size; have hS2 := hS1.below hb2; have c0 := box_cell (Below.refl (w2.heap.size + 1) (w2.alloc (.cells #[.int .i64 d, .string y.code, .string y.lei, .bool y.active] 162))))
            | (go_at_call 78; refine (clo78_calls y _).mono ?_; rintro e w3 ⟨rfl, hb7⟩; rw [HA.out]; have hb8 := hb7.mono (Nat.le_trans hw2 (Nat.le_of_lt (World.size_alloc_lt _ _)))))
          have hS3 : SAt (w.heap.size + 1) w3 u7 (kept day (·.active) done) := SAt.below (hS2.alloc _) hb7
          have hb5 := (hb3.alloc (Nat.le_trans (Nat.le_succ _) hw2) (.cells #[.int .i64 d, .string y.code, .string y.lei, .bool y.active] 162)).trans (hb8.mono (Nat.le_succ _))
          have hb6 := (hb4.alloc hw2 (.cells #[.int .i64 d, .string y.code, .string y.lei, .bool y.active] 162)).trans hb8
          have hw3 : w.heap.size + 1 ≤ w3.heap.size := Nat.le_trans hw2 (Nat.le_trans (Nat.le_of_lt (World.size_alloc_lt _ _)) hb7.size)
          go_roundg (gk - 1)
          case measure => omega
          case rel =>
            refine ⟨done ++ [(k, s)], u7, rfl, hit2.again (HM.out.below hb5) ((hb5.block b hbl).trans (hb1.block b hbl).symm) (hb6.block _ (Nat.lt_succ_self _)), ?_, hb5, hw3, by simp only [List.length_append, List.length_singleton]; omega⟩
            rw [HKA.out]
            exact hS3
        | true =>
          have HA := Lib.hid hact
          rw [hact] at HKA
          clear hact
          go_wp2_with (first
            | (go_at_call 73; refine (at_M _ _ _ _ hv hr hl).mono ?_; rintro e w2 ⟨rfl, hb2⟩; rw [HX.out, show (optE encM zencM (some (d, y))).toArray = #[.int .i64 d, .string y.code, .string y.lei, .bool y.active] from rfl]; have hb3 := below_over hb1 hb2 (by omega); have hb4 := hb2.mono hw1; have hw2 : w.heap.size + 1 ≤ w2.heap.size := Nat.le_trans hw1 hb2.size; have hS2 := hS1.below hb2; have c0 := box_cell (Below.refl (w2.heap.size + 1) (w2.alloc (.cells #[.int .i64 d, .string y.code, .string y.lei, .bool y.active] 162))))
            | (go_at_call 78; refine (clo78_calls y _).mono ?_; rintro e w3 ⟨rfl, hb7⟩; rw [HA.out]; have hb8 := hb7.mono (Nat.le_trans hw2 (Nat.le_of_lt (World.size_alloc_lt _ _))); have hS3 : w3.ownsRow (w.heap.size + 1) 9 1 u7 _ ((kept day (fun y : MV => y.active) done).map Value.string) := SAt.below (hS2.alloc _) hb7; have hw3 : w.heap.size + 1 ≤ w3.heap.size := Nat.le_trans hw2 (Nat.le_trans (Nat.le_of_lt (World.size_alloc_lt _ _)) hb7.size))
            | (at_builtin; go_loud (refine wpList_append_own _ rfl _ _ 53 rfl (w.heap.size + 1) 9 i0 (.string ⟨#[]⟩) 1 16 Tryz.underlying53 hi0 hz0 hz1 hz2 rfl (by decide) _ _ _ rfl (hS3.alloc _) ⟨_, 0, none⟩ 1 1 [.string k] rfl rfl (World.news_of_block (heap_alloc_new _ _)) (by simp [Value.oneCell']) (by unfold maxLen; omega) (by omega) (by simp; omega) ?_)))
          intro v4 w4 hown4 hgrow4 _
          have hb5 := (hb3.alloc (Nat.le_trans (Nat.le_succ _) hw2) (.cells #[.int .i64 d, .string y.code, .string y.lei, .bool y.active] 162)).trans (hb8.mono (Nat.le_succ _))
          have hb6 := (hb4.alloc hw2 (.cells #[.int .i64 d, .string y.code, .string y.lei, .bool y.active] 162)).trans hb8
          have hg5 := grow_base (hb6.alloc hw3 (.cells #[.string k] 9)) (by simp; omega) (hS3.alloc _) hgrow4
          have hg6 : Below w.heap.size w w4 := hb1.trans (hg5.mono (Nat.le_succ _))
          have hw4 : w.heap.size + 1 ≤ w4.heap.size := by have := hgrow4.size; simp at this; omega
          go_wp2
          go_roundg (gk - 1)
          case measure => omega
          case rel =>
            refine ⟨done ++ [(k, s)], _, rfl, hit2.again (HM.out.below hg6) ((hg6.block b hbl).trans (hb1.block b hbl).symm) (hg5.block _ (Nat.lt_succ_self _)), ?_, hg6, hw4, by simp only [List.length_append, List.length_singleton]; omega⟩
            rw [HKA.out]
            unfold SAt
            simpa using hown4
end Go.Proofs.YtmbhkfclpkopiaaGreatDoor

namespace Go.Proofs.YtmbhkfclpkopiaaGreatDoor
open Go.RowKit
set_option linter.unusedVariables false
set_option linter.unusedSimpArgs false

/-- The maps' blocks of a table. -/
def TB.Row (T : TB) (r : Nat) : Prop := r = T.m0 ∨ r = T.m1 ∨ r = T.m2 ∨ r = T.m3

theorem TB.From.row {B : Nat} {T : TB} (h : T.From B) {r : Nat} (hr : T.Row r) : B ≤ r := by
  rcases hr with rfl | rfl | rfl | rfl
  · exact h.m0
  · exact h.m1
  · exact h.m2
  · exact h.m3

theorem TabAt.row_block {w : World} {T : TB} {t : Tab} (h : TabAt w T t) {r : Nat} (hr : T.Row r) : ∃ es clock, w.heap[r]? = some (.map es clock) := by
  rcases hr with rfl | rfl | rfl | rfl
  · obtain ⟨es, c, hb, _⟩ := h.mem; exact ⟨_, _, hb⟩
  · obtain ⟨es, c, hb, _⟩ := h.sec; exact ⟨_, _, hb⟩
  · obtain ⟨es, c, hb, _⟩ := h.pri; exact ⟨_, _, hb⟩
  · obtain ⟨es, c, hb, _⟩ := h.hc; exact ⟨_, _, hb⟩

theorem TabAt.row_lt {w : World} {T : TB} {t : Tab} (h : TabAt w T t) {r : Nat} (hr : T.Row r) : r < w.heap.size := by
  obtain ⟨_, _, hb⟩ := h.row_block hr
  exact (Array.getElem?_eq_some_iff.1 hb).1

theorem ser_keep {V : Type} {E size : Nat} {enc : V → List Value} {w w' : World} {b r : Nat} {L : Tb V} (h : MapAt (SerAt E size enc) w b L) (hr : ∃ es clock, w.heap[r]? = some (.map es clock)) (hne : b ≠ r) (hg : w.grownBy w' (some r)) : MapAt (SerAt E size enc) w' b L := by
  refine h.stay (hg.block b h.lt (fun e => hne (by injection e))) (fun v a hv => ?_)
  refine steady_ser E size enc w w' (some r) v a hg (fun k e => ?_) hv
  cases e
  obtain ⟨es, clock, hb⟩ := hr
  exact ⟨_, hb, rfl⟩

/-- Another table stays what it is while one block of a map is written. -/
theorem TabAt.keep {w w' : World} {T2 : TB} {t2 : Tab} (h2 : TabAt w T2 t2) {r : Nat} (hr : ∃ es clock, w.heap[r]? = some (.map es clock)) (hn : ¬ T2.Row r) (hg : w.grownBy w' (some r)) : TabAt w' T2 t2 := by
  have hp : T2.p ≠ r := by
    intro e
    obtain ⟨es, clock, hb⟩ := hr
    have := h2.cell
    rw [e, hb] at this
    cases this
  exact ⟨(hg.block _ h2.plt (fun e => hp (by injection e))).trans h2.cell, ser_keep h2.mem hr (fun e => hn (.inl e.symm)) hg, ser_keep h2.sec hr (fun e => hn (.inr (.inl e.symm))) hg, ser_keep h2.pri hr (fun e => hn (.inr (.inr (.inl e.symm)))) hg, ser_keep h2.hc hr (fun e => hn (.inr (.inr (.inr e.symm)))) hg, h2.d01, h2.d02, h2.d03, h2.d12, h2.d13, h2.d23⟩

/-- A row of cells stays what it is while one block of a map is written. -/
theorem row_keep {w w' : World} {base e size n : Nat} {v : Value} {xs : List Value} (h : w.ownsRow base e size v n xs) {r : Nat} (hr : ∃ es clock, w.heap[r]? = some (.map es clock)) (hg : w.grownBy w' (some r)) : w'.ownsRow base e size v n xs := by
  refine World.ownsRow.kept h hg ?_
  rcases h.2 with ⟨rfl, _⟩ | ⟨g, cap, cur, rfl, _, hh, _⟩
  · exact .inl rfl
  · refine .inr fun e => ?_
    obtain ⟨es, clock, hb⟩ := hr
    have : g = r := by injection e
    rw [this, hb] at hh
    cases hh

theorem TAt.keep {w w' : World} {v : Value} {T : List E} (h : TAt w v T) {r : Nat} (hr : ∃ es clock, w.heap[r]? = some (.map es clock)) (hg : w.grownBy w' (some r)) : TAt w' v T := row_keep h hr hg

/-- A table that agrees with few entries fits. -/
theorem Rel.fit {t : Tab} {T : List E} (h : Rel t T) {n : Nat} (hn : T.length ≤ n) : TabFit n t := by
  obtain ⟨⟨a1, a2⟩, ⟨b1, b2⟩, ⟨c1, c2⟩, d1, d2⟩ := h.bound
  exact ⟨⟨Nat.le_trans a1 hn, fun x hx => Nat.le_trans (a2 x hx) hn⟩, ⟨Nat.le_trans b1 hn, fun x hx => Nat.le_trans (b2 x hx) hn⟩, ⟨Nat.le_trans c1 hn, fun x hx => Nat.le_trans (c2 x hx) hn⟩, ⟨Nat.le_trans d1 hn, fun x hx => Nat.le_trans (d2 x hx) hn⟩⟩

theorem lset_calls (T : TB) (t : Tab) (e : E) (w : World) (hk : e.kind = 0 ∨ e.kind = 1 ∨ e.kind = 2 ∨ e.kind = 3) (hz1 : e.key.size ≤ 9223372036854775807) (hz3 : e.text.size ≤ 9223372036854775807) (h : TabAt w T t) (hOK : TabOk t) (hF : TabFit 800 t) :
    Calls Tryz.prog 25 #[.pointer (some ⟨T.p, 0, none⟩), .agg (encT e).toArray] w fun x w' => x = .returned (.int .i64 (tabCode vld fracOk t e)) ∧ TabAt w' T (tabSet vld fracOk t e) ∧ ∃ r, T.Row r ∧ w.grownBy w' (some r) := by
  obtain ⟨kind, day, key, text, n, num, den, active⟩ := e
  have HB0 : Below w.heap.size w (w.alloc (.cells #[.int .i64 kind, .int .i64 day, .string key, .string text, .int .i64 n, .int .i64 num, .int .i64 den, .bool active] 33)) := (Below.refl _ _).alloc (Nat.le_refl _) _
  have HT := h.below HB0
  have HOK := Lib.hid hOK
  have HF := Lib.hid hF
  have HZ1 := Lib.hid hz1
  have HZ3 := Lib.hid hz3
  clear hOK hF hz1 hz3
  simp only [] at hk
  show Calls Tryz.prog 25 #[.pointer (some ⟨T.p, 0, none⟩), .agg #[.int .i64 kind, .int .i64 day, .string key, .string text, .int .i64 n, .int .i64 num, .int .i64 den, .bool active]] w _
  rcases hk with rfl | rfl | rfl | rfl
  · go_enter Tryz.func25, Tryz.ntmps25
    go_wp2_with (first | (go_at_call 65; refine (setMember_calls vld vld_says T t day ⟨key, text, active⟩ _ HZ1.out HZ3.out HT HOK.out HF.out).mono ?_; rintro e w1 ⟨rfl, h1, h2⟩))
    go_ret
    exact ⟨rfl, h1, T.m0, .inl rfl, grow_of HB0 h2⟩
  · go_enter Tryz.func25, Tryz.ntmps25
    go_wp2_with (first | (go_at_call 70; refine (setSecurity_calls vld vld_says T t day ⟨key, text, n, active⟩ _ HZ1.out HT HOK.out HF.out).mono ?_; rintro e w1 ⟨rfl, h1, h2⟩))
    go_ret
    exact ⟨rfl, h1, T.m1, .inr (.inl rfl), grow_of HB0 h2⟩
  · go_enter Tryz.func25, Tryz.ntmps25
    go_wp2_with (first | (go_at_call 71; refine (setPrice_calls T t day key n _ HT HOK.out HF.out).mono ?_; rintro e w1 ⟨rfl, h1, h2⟩))
    go_ret
    exact ⟨rfl, h1, T.m2, .inr (.inr (.inl rfl)), grow_of HB0 h2⟩
  · go_enter Tryz.func25, Tryz.ntmps25
    go_wp2_with (first | (go_at_call 72; refine (setHaircut_calls T t day key ⟨num, den⟩ _ HT HOK.out HF.out).mono ?_; rintro e w1 ⟨rfl, h1, h2⟩))
    go_ret
    exact ⟨rfl, h1, T.m3, .inr (.inr (.inr rfl)), grow_of HB0 h2⟩

/-! ### clean -/
def and3 (k : Int) : Int := bits .and .i64 k 3

theorem and3_cases (k : Int) : and3 k = 0 ∨ and3 k = 1 ∨ and3 k = 2 ∨ and3 k = 3 := by
  have h1 : (BitVec.ofInt 64 k &&& 3#64).toNat ≤ 3 := by
    rw [BitVec.toNat_and]
    exact Nat.and_le_right
  have h2 : and3 k = IntKind.i64.wrap ((BitVec.ofInt 64 k &&& 3#64).toNat : Nat) := rfl
  rw [h2]
  generalize (BitVec.ofInt 64 k &&& 3#64).toNat = q at h1
  have : q = 0 ∨ q = 1 ∨ q = 2 ∨ q = 3 := by omega
  rcases this with rfl | rfl | rfl | rfl
  · exact .inl rfl
  · exact .inr (.inl rfl)
  · exact .inr (.inr (.inl rfl))
  · exact .inr (.inr (.inr rfl))

theorem and3_small {k : Int} (h : k = 0 ∨ k = 1 ∨ k = 2 ∨ k = 3) : and3 k = k := by
  rcases h with rfl | rfl | rfl | rfl <;> rfl

def cleanE (e : E) : E :=
  if and3 e.kind = 0 then ⟨0, e.day, e.key, e.text, 0, 0, 0, e.active⟩
  else if and3 e.kind = 1 then ⟨1, e.day, e.key, e.text, e.n, 0, 0, e.active⟩
  else if and3 e.kind = 2 then ⟨2, e.day, e.key, ByteArray.empty, e.n, 0, 0, false⟩
  else ⟨3, e.day, e.key, ByteArray.empty, 0, e.num, e.den, false⟩

theorem cleanE_clean (e : E) : Clean (cleanE e) := by
  unfold cleanE
  split
  · constructor <;> simp
  · split
    · constructor <;> simp
    · split
      · constructor <;> simp
      · constructor <;> simp

theorem clean_calls (e : E) (w : World) : Calls Tryz.prog 24 #[.agg (encT e).toArray] w fun x w' => x = .returned (.agg (encT (cleanE e)).toArray) ∧ Below w.heap.size w w' := by
  obtain ⟨kind, day, key, text, n, num, den, active⟩ := e
  show Calls Tryz.prog 24 #[.agg #[.int .i64 kind, .int .i64 day, .string key, .string text, .int .i64 n, .int .i64 num, .int .i64 den, .bool active]] w _
  have hA := and3_cases kind
  unfold and3 at hA
  rcases hA with hA | hA | hA | hA
  · have HE : Hid (encT (cleanE ⟨kind, day, key, text, n, num, den, active⟩) = encT ⟨0, day, key, text, 0, 0, 0, active⟩) := by show _ = _; simp [cleanE, and3, hA]
    go_enter Tryz.func24, Tryz.ntmps24
    go_wp2
    refine bodyPost_ret (v := .agg #[.int .i64 0, .int .i64 day, .string key, .string text, .int .i64 0, .int .i64 0, .int .i64 0, .bool active]) (by simp [results, Tryz.results24, go_sem]; try rfl) rfl ⟨by rw [HE.out]; rfl, ?_⟩
    repeat (first | exact Below.refl _ _ | refine below_set ?_ (by omega) _ | refine Below.alloc ?_ (by first | omega | (simp; omega) | simp) _)
  · have HE : Hid (encT (cleanE ⟨kind, day, key, text, n, num, den, active⟩) = encT ⟨1, day, key, text, n, 0, 0, active⟩) := by show _ = _; simp [cleanE, and3, hA]
    go_enter Tryz.func24, Tryz.ntmps24
    go_wp2
    refine bodyPost_ret (v := .agg #[.int .i64 1, .int .i64 day, .string key, .string text, .int .i64 n, .int .i64 0, .int .i64 0, .bool active]) (by simp [results, Tryz.results24, go_sem]; try rfl) rfl ⟨by rw [HE.out]; rfl, ?_⟩
    repeat (first | exact Below.refl _ _ | refine below_set ?_ (by omega) _ | refine Below.alloc ?_ (by first | omega | (simp; omega) | simp) _)
  · have HE : Hid (encT (cleanE ⟨kind, day, key, text, n, num, den, active⟩) = encT ⟨2, day, key, ByteArray.empty, n, 0, 0, false⟩) := by show _ = _; simp [cleanE, and3, hA]
    go_enter Tryz.func24, Tryz.ntmps24
    go_wp2
    refine bodyPost_ret (v := .agg #[.int .i64 2, .int .i64 day, .string key, .string ByteArray.empty, .int .i64 n, .int .i64 0, .int .i64 0, .bool false]) (by simp [results, Tryz.results24, go_sem]; try rfl) rfl ⟨by rw [HE.out]; rfl, ?_⟩
    repeat (first | exact Below.refl _ _ | refine below_set ?_ (by omega) _ | refine Below.alloc ?_ (by first | omega | (simp; omega) | simp) _)
  · have HE : Hid (encT (cleanE ⟨kind, day, key, text, n, num, den, active⟩) = encT ⟨3, day, key, ByteArray.empty, 0, num, den, false⟩) := by show _ = _; simp [cleanE, and3, hA]
    go_enter Tryz.func24, Tryz.ntmps24
    go_wp2
    refine bodyPost_ret (v := .agg #[.int .i64 3, .int .i64 day, .string key, .string ByteArray.empty, .int .i64 0, .int .i64 num, .int .i64 den, .bool false]) (by simp [results, Tryz.results24, go_sem]; try rfl) rfl ⟨by rw [HE.out]; rfl, ?_⟩
    repeat (first | exact Below.refl _ _ | refine below_set ?_ (by omega) _ | refine Below.alloc ?_ (by first | omega | (simp; omega) | simp) _)
end Go.Proofs.YtmbhkfclpkopiaaGreatDoor

namespace Go.Proofs.YtmbhkfclpkopiaaGreatDoor
open Go.RowKit Go.ChangeShapes Go.WideShapes Go.ChangeAt Go.Deep
set_option linter.unusedVariables false
set_option linter.unusedSimpArgs false

/-- The strings of an entry that comes from outside. -/
structure EFits (e : E) : Prop where
  key : e.key.size ≤ 9223372036854775807
  text : e.text.size ≤ 9223372036854775807

theorem cleanE_fits {e : E} (h : EFits e) : EFits (cleanE e) := by
  unfold cleanE
  split
  · exact ⟨h.key, h.text⟩
  · split
    · exact ⟨h.key, h.text⟩
    · split
      · exact ⟨h.key, by show ByteArray.empty.size ≤ _; decide⟩
      · exact ⟨h.key, by show ByteArray.empty.size ≤ _; decide⟩

section
variable {H : Type} {enc : TypeId × Value → H} {W : World} {base : Nat} {spare : Nat → Bool} {held : Bool}

set_option maxRecDepth 10000 in
theorem open_F {fuel : Nat} {cs : List Value} {x : DataW H × List MemPlace} (h : DataW.trod enc Tryz.prog W base spare held fuel 31 cs = some x) : ∃ num den : Int, cs = [.int .i64 num, .int .i64 den] := by
  obtain ⟨xs, n, _, _, hl, hlen, hf⟩ := DataW.trod_struct Tryz.underlying31 h
  have hl' : cs.length = 2 := hl.trans (by kernel_rfl)
  match cs, hl' with
  | [c0, c1], _ =>
    have h0 := hf 0 _ rfl
    have h1 := hf 1 _ rfl
    obtain ⟨y0, e0⟩ : ∃ y, xs[0]? = some y := ⟨_, List.getElem?_eq_getElem (by rw [hlen]; decide)⟩
    obtain ⟨y1, e1⟩ : ∃ y, xs[1]? = some y := ⟨_, List.getElem?_eq_getElem (by rw [hlen]; decide)⟩
    rw [e0] at h0
    rw [e1] at h1
    obtain ⟨m0, k0, _⟩ := DataW.trod_int Tryz.underlying2 h0
    obtain ⟨m1, k1, _⟩ := DataW.trod_int Tryz.underlying2 h1
    have k0' : [c0] = [Value.int .i64 m0] := k0
    have k1' : [c1] = [Value.int .i64 m1] := k1
    obtain rfl : c0 = _ := by injection k0'
    obtain rfl : c1 = _ := by injection k1'
    exact ⟨_, _, rfl⟩

set_option maxRecDepth 10000 in
theorem open_E {fuel : Nat} {cs : List Value} {x : DataW H × List MemPlace} (h : DataW.trod enc Tryz.prog W base spare held fuel 33 cs = some x) : ∃ e : E, cs = encT e ∧ EFits e := by
  obtain ⟨xs, n, _, _, hl, hlen, hf⟩ := DataW.trod_struct Tryz.underlying33 h
  have hl' : cs.length = 8 := hl.trans (by kernel_rfl)
  match cs, hl' with
  | [c0, c1, c2, c3, c4, c5, c6, c7], _ =>
    have h0 := hf 0 _ rfl
    have h1 := hf 1 _ rfl
    have h2 := hf 2 _ rfl
    have h3 := hf 3 _ rfl
    have h4 := hf 4 _ rfl
    have h5 := hf 5 _ rfl
    have h6 := hf 6 _ rfl
    obtain ⟨y0, e0⟩ : ∃ y, xs[0]? = some y := ⟨_, List.getElem?_eq_getElem (by rw [hlen]; decide)⟩
    obtain ⟨y1, e1⟩ : ∃ y, xs[1]? = some y := ⟨_, List.getElem?_eq_getElem (by rw [hlen]; decide)⟩
    obtain ⟨y2, e2⟩ : ∃ y, xs[2]? = some y := ⟨_, List.getElem?_eq_getElem (by rw [hlen]; decide)⟩
    obtain ⟨y3, e3⟩ : ∃ y, xs[3]? = some y := ⟨_, List.getElem?_eq_getElem (by rw [hlen]; decide)⟩
    obtain ⟨y4, e4⟩ : ∃ y, xs[4]? = some y := ⟨_, List.getElem?_eq_getElem (by rw [hlen]; decide)⟩
    obtain ⟨y5, e5⟩ : ∃ y, xs[5]? = some y := ⟨_, List.getElem?_eq_getElem (by rw [hlen]; decide)⟩
    obtain ⟨y6, e6⟩ : ∃ y, xs[6]? = some y := ⟨_, List.getElem?_eq_getElem (by rw [hlen]; decide)⟩
    rw [e0] at h0
    rw [e1] at h1
    rw [e2] at h2
    rw [e3] at h3
    rw [e4] at h4
    rw [e5] at h5
    rw [e6] at h6
    obtain ⟨m0, k0, _⟩ := DataW.trod_int Tryz.underlying3 h0
    obtain ⟨m1, k1, _⟩ := DataW.trod_int Tryz.underlying3 h1
    obtain ⟨m2, k2, _, z2⟩ := DataW.trod_string Tryz.underlying9 h2
    obtain ⟨m3, k3, _, z3⟩ := DataW.trod_string Tryz.underlying9 h3
    obtain ⟨m4, k4, _⟩ := DataW.trod_int Tryz.underlying2 h4
    obtain ⟨m5, m5', k5⟩ := open_F h5
    obtain ⟨m6, k6, _⟩ := DataW.trod_bool Tryz.underlying4 h6
    have k0' : [c0] = [Value.int .i64 m0] := k0
    have k1' : [c1] = [Value.int .i64 m1] := k1
    have k2' : [c2] = [Value.string m2] := k2
    have k3' : [c3] = [Value.string m3] := k3
    have k4' : [c4] = [Value.int .i64 m4] := k4
    have k5' : [c5, c6] = [Value.int .i64 m5, Value.int .i64 m5'] := k5
    have k6' : [c7] = [Value.bool m6] := k6
    obtain rfl : c0 = _ := by injection k0'
    obtain rfl : c1 = _ := by injection k1'
    obtain rfl : c2 = _ := by injection k2'
    obtain rfl : c3 = _ := by injection k3'
    obtain rfl : c4 = _ := by injection k4'
    simp only [List.cons.injEq, and_true] at k5'
    obtain ⟨rfl, rfl⟩ := k5'
    obtain rfl : c7 = _ := by injection k6'
    exact ⟨⟨m0, m1, m2, m3, m4, m5, m5', m6⟩, rfl, z2, z3⟩

/-- A slice of entries from outside. -/
def LAt (w : World) (v : Value) (L : List E) : Prop :=
  (L = [] ∧ ∃ (a : Option Addr) (cap : Nat), v = .slice a 0 cap) ∨ ∃ b off cap, v = .slice (some ⟨b, off, none⟩) L.length cap ∧ L.length ≤ maxLen ∧ ∀ i e, L[i]? = some e → ∀ c u, (encT e)[c]? = some u → w.cell? ⟨b, off + i * 8 + c, none⟩ = some u

theorem open_LE {fuel : Nat} {v : Value} {x : DataW H × List MemPlace} (h : DataW.trod enc Tryz.prog W base spare held fuel 22 [v] = some x) : ∃ L : List E, LAt W v L ∧ ∀ e ∈ L, EFits e := by
  rcases open_slice Tryz.underlying22 h with ⟨hc, _⟩ | ⟨a, len, cap, m, n, D, Pl, hc, hb, hl, hm, hmm, hx, hi⟩
  · simp only [List.cons.injEq, and_true] at hc
    exact ⟨[], .inl ⟨rfl, none, 0, hc⟩, by simp⟩
  · simp only [List.cons.injEq, and_true] at hc
    subst hc
    have hlm : len ≤ m := by rw [hmm]; split <;> omega
    have hC : Tryz.prog.cellsOf 33 = 8 := by kernel_rfl
    rw [hC] at hi
    have key : ∀ i, ∃ e : E, i < len → (∀ c u, (encT e)[c]? = some u → W.cell? (a.add (i * 8 + c)) = some u) ∧ EFits e := by
      intro i
      by_cases hil : i < len
      · obtain ⟨cs', h1, h2⟩ := hi i (by omega)
        obtain ⟨e, rfl, he⟩ := open_E h2
        refine ⟨e, fun _ => ⟨fun c u hu => ?_, he⟩⟩
        obtain ⟨_, hcl, hat⟩ := World.cells?_some h1
        have hcl' : c < 8 := (List.getElem?_eq_some_iff.1 hu).1
        have := hat c hcl'
        rw [Go.Deep.add_add] at this
        rw [this, hu]
      · exact ⟨zE, fun h => absurd h hil⟩
    obtain ⟨f, hf⟩ := Classical.axiomOfChoice key
    rcases Nat.eq_zero_or_pos len with rfl | hpos
    · exact ⟨[], .inl ⟨rfl, some a, cap, rfl⟩, by simp⟩
    · obtain ⟨b, off, sp⟩ := a
      have hsp : sp = none := by
        have := (hf 0 hpos).1 0 _ rfl
        simpa [Addr.add] using World.cell?_spot this
      subst hsp
      refine ⟨(List.range len).map f, .inr ⟨b, off, cap, by simp, by simp; omega, fun i e he c u hu => ?_⟩, fun e he => ?_⟩
      · have hil : i < len := by simpa using (List.getElem?_eq_some_iff.1 he).1
        have hfe : f i = e := by simpa [List.getElem?_range hil] using he
        rw [← hfe] at hu
        have := (hf i hil).1 c u hu
        rw [Addr.add_lit, ← Nat.add_assoc] at this
        exact this
      · obtain ⟨i, hi', rfl⟩ := List.mem_map.1 he
        exact (hf i (List.mem_range.1 hi')).2

/-- A slice of days from outside. -/
def DaysAt (w : World) (v : Value) (D : List Int) : Prop :=
  (D = [] ∧ ∃ (a : Option Addr) (cap : Nat), v = .slice a 0 cap) ∨ ∃ b off cap, v = .slice (some ⟨b, off, none⟩) D.length cap ∧ D.length ≤ maxLen ∧ ∀ i d, D[i]? = some d → w.cell? ⟨b, off + i, none⟩ = some (.int .i64 d)

theorem open_LD {fuel : Nat} {v : Value} {x : DataW H × List MemPlace} (h : DataW.trod enc Tryz.prog W base spare held fuel 23 [v] = some x) : ∃ D : List Int, DaysAt W v D := by
  rcases open_slice1 Tryz.underlying23 (by kernel_rfl) h with ⟨hc, _⟩ | ⟨a, len, cap, m, n, V, D, Pl, hc, hb, hl, hm, hmm, hx, hi⟩
  · simp only [List.cons.injEq, and_true] at hc
    exact ⟨[], .inl ⟨rfl, none, 0, hc⟩⟩
  · simp only [List.cons.injEq, and_true] at hc
    subst hc
    have hlm : len ≤ m := by rw [hmm]; split <;> omega
    have key : ∀ i, ∃ d : Int, i < len → W.cell? (a.add i) = some (.int .i64 d) := by
      intro i
      by_cases hil : i < len
      · obtain ⟨h1, h2⟩ := hi i (by omega)
        obtain ⟨d, k, _⟩ := DataW.trod_int Tryz.underlying3 h2
        have k' : V i = .int .i64 d := by injection k
        exact ⟨d, fun _ => by rw [h1, k']⟩
      · exact ⟨0, fun h => absurd h hil⟩
    obtain ⟨f, hf⟩ := Classical.axiomOfChoice key
    rcases Nat.eq_zero_or_pos len with rfl | hpos
    · exact ⟨[], .inl ⟨rfl, some a, cap, rfl⟩⟩
    · obtain ⟨b, off, sp⟩ := a
      have hsp : sp = none := by simpa [Addr.add] using World.cell?_spot (hf 0 hpos)
      subst hsp
      refine ⟨(List.range len).map f, .inr ⟨b, off, cap, by simp, by simp; omega, fun i d he => ?_⟩⟩
      have hil : i < len := by simpa using (List.getElem?_eq_some_iff.1 he).1
      have hfe : f i = d := by simpa [List.getElem?_range hil] using he
      have := hf i hil
      rw [hfe, Addr.add_lit] at this
      exact this
end
end Go.Proofs.YtmbhkfclpkopiaaGreatDoor
