/- Maps from strings to slices of structs in memory: what a map's block holds as a list of keys and series, and what the operations on maps do to it. No program in sight. -/
import Derived.Maps.RangeWalk
import Derived.Maps.OwnSet
import Derived.Below
import Derived.Laws.OwnMore
import Derived.RangeFuncOwn
namespace Go.Proofs.YtmbhkfclpkopiaaGreatDoor
open Go.RowKit Go.MapKept
set_option linter.unusedVariables false
set_option linter.unusedSimpArgs false

/-! ### 1. Association lists -/
section
variable {α : Type}

/-- The value at a key. -/
def look (L : List (ByteArray × α)) (k : ByteArray) : Option α := (L.find? fun x => x.1 == k).map (·.2)

/-- The value at a key replaced, or laid behind. -/
def upd (L : List (ByteArray × α)) (k : ByteArray) (a : α) : List (ByteArray × α) :=
  if (look L k).isSome then L.map (fun x => if x.1 == k then (x.1, a) else x) else L ++ [(k, a)]

theorem beq_ba (a b : ByteArray) : (a == b) = decide (a = b) := by
  by_cases h : a = b
  · subst h; simp [(bytes_beq a a).2 rfl]
  · simp only [h, decide_false]
    cases e : a == b
    · rfl
    · exact absurd ((bytes_beq a b).1 e) h

def KeysNodup (L : List (ByteArray × α)) : Prop := (L.map (·.1)).Nodup

theorem look_none {L : List (ByteArray × α)} {k : ByteArray} : look L k = none ↔ ∀ x ∈ L, x.1 ≠ k := by
  simp only [look, Option.map_eq_none_iff, List.find?_eq_none, beq_ba, decide_eq_true_eq, ne_eq]

theorem look_mem {L : List (ByteArray × α)} {k : ByteArray} {a : α} (h : look L k = some a) : (k, a) ∈ L := by
  simp only [look, Option.map_eq_some_iff] at h
  obtain ⟨x, hx, rfl⟩ := h
  have h1 := List.find?_some hx
  have h2 := List.mem_of_find?_eq_some hx
  simp only [beq_ba, decide_eq_true_eq] at h1
  subst h1
  exact h2

theorem look_of_mem {L : List (ByteArray × α)} (hn : KeysNodup L) {x : ByteArray × α} (h : x ∈ L) : look L x.1 = some x.2 := by
  induction L with
  | nil => cases h
  | cons y L ih =>
    simp only [KeysNodup, List.map_cons, List.nodup_cons] at hn
    rcases List.mem_cons.1 h with rfl | h
    · simp [look, beq_ba]
    · have hne : y.1 ≠ x.1 := fun e => hn.1 (List.mem_map.2 ⟨x, h, e.symm⟩)
      have := ih hn.2 h
      simp only [look, List.find?_cons, beq_ba] at this ⊢
      simp only [hne, decide_false]
      exact this

theorem look_iff {L : List (ByteArray × α)} (hn : KeysNodup L) {k : ByteArray} {a : α} : look L k = some a ↔ (k, a) ∈ L :=
  ⟨look_mem, fun h => look_of_mem hn h⟩

theorem look_upd (L : List (ByteArray × α)) (k : ByteArray) (a : α) (q : ByteArray) : look (upd L k a) q = if q = k then some a else look L q := by
  unfold upd
  split
  · rename_i hs
    obtain ⟨a0, h0⟩ := Option.isSome_iff_exists.1 hs
    have hm := look_mem h0
    clear hs h0
    induction L with
    | nil => cases hm
    | cons y L ih =>
      simp only [look, List.map_cons, List.find?_cons, beq_ba] at ih ⊢
      by_cases hy : y.1 = k
      · simp only [hy, decide_true, if_true]
        by_cases hq : q = k
        · simp [hq]
        · have hq' : ¬ k = q := fun e => hq e.symm
          simp only [hq', decide_false, if_neg hq]
          clear ih hm
          induction L with
          | nil => rfl
          | cons z L ih2 =>
            simp only [List.map_cons, List.find?_cons]
            by_cases hz : z.1 = k
            · simp only [hz, decide_true, if_true, hq', decide_false]
              exact ih2
            · simp only [hz, decide_false, Bool.false_eq_true, if_false]
              by_cases hzq : z.1 = q
              · simp [hzq]
              · simp only [hzq, decide_false]; exact ih2
      · simp only [hy, decide_false, Bool.false_eq_true, if_false]
        rcases List.mem_cons.1 hm with e | hm
        · exact absurd (congrArg (·.1) e).symm hy
        · by_cases hyq : y.1 = q
          · have : ¬ q = k := fun e => hy (hyq.trans e)
            simp [hyq, this]
          · simp only [hyq, decide_false]
            exact ih hm
  · rename_i hs
    have h0 : look L k = none := by simpa using hs
    have hx := look_none.1 h0
    simp only [look, List.find?_append, beq_ba]
    by_cases hq : q = k
    · subst hq
      have : (L.find? fun x => decide (x.1 = q)) = none := by
        rw [List.find?_eq_none]
        intro x hm
        simpa using hx x hm
      simp [this]
    · have hq' : ¬ k = q := fun e => hq e.symm
      simp only [hq, if_false]
      cases (L.find? fun x => decide (x.1 = q)) with
      | none => simp [hq']
      | some z => rfl

theorem keysNodup_upd {L : List (ByteArray × α)} (hn : KeysNodup L) (k : ByteArray) (a : α) : KeysNodup (upd L k a) := by
  unfold upd
  split
  · have : (L.map (fun x => if x.1 == k then (x.1, a) else x)).map (·.1) = L.map (·.1) := by
      rw [List.map_map]
      refine List.map_congr_left fun x _ => ?_
      simp only [Function.comp]
      split <;> rfl
    unfold KeysNodup
    rw [this]
    exact hn
  · rename_i hs
    have h0 : look L k = none := by simpa using hs
    have hx := look_none.1 h0
    unfold KeysNodup
    rw [List.map_append]
    refine List.nodup_append.2 ⟨hn, by simp, ?_⟩
    intro x hxm y hy
    simp only [List.map_cons, List.map_nil, List.mem_singleton] at hy
    subst hy
    obtain ⟨z, hz, rfl⟩ := List.mem_map.1 hxm
    exact hx z hz

theorem length_upd (L : List (ByteArray × α)) (k : ByteArray) (a : α) : (upd L k a).length = if (look L k).isSome then L.length else L.length + 1 := by
  unfold upd
  split <;> simp
end

/-! ### 2. A map's block -/
section
variable {α : Type} {R : World → Value → α → Prop} {P : Program} {w : World} {b : Nat} {L : List (ByteArray × α)}

/-- The entries in their order, and how each element reads. -/
def EntriesAre (R : World → Value → α → Prop) (w : World) (es : List MapEntry) (L : List (ByteArray × α)) : Prop :=
  es.length = L.length ∧ ∀ (i : Nat) (e : MapEntry) (x : ByteArray × α), es[i]? = some e → L[i]? = some x → e.key = .string x.1 ∧ R w e.val x.2

/-- Block b is a map that holds just these keys and elements. -/
def MapAt (R : World → Value → α → Prop) (w : World) (b : Nat) (L : List (ByteArray × α)) : Prop :=
  ∃ es clock, w.heap[b]? = some (.map es clock) ∧ Stamped es clock ∧ EntriesAre R w es.toList L

theorem EntriesAre.at {es : List MapEntry} (h : EntriesAre R w es L) {i : Nat} {e : MapEntry} (he : es[i]? = some e) : ∃ x, L[i]? = some x ∧ e.key = .string x.1 ∧ R w e.val x.2 := by
  have hl : i < L.length := by rw [← h.1]; exact (List.getElem?_eq_some_iff.1 he).1
  exact ⟨L[i], List.getElem?_eq_getElem hl, h.2 i e _ he (List.getElem?_eq_getElem hl)⟩

theorem EntriesAre.of {es : List MapEntry} (h : EntriesAre R w es L) {i : Nat} {x : ByteArray × α} (hx : L[i]? = some x) : ∃ e, es[i]? = some e ∧ e.key = .string x.1 ∧ R w e.val x.2 := by
  have hl : i < es.length := by rw [h.1]; exact (List.getElem?_eq_some_iff.1 hx).1
  exact ⟨es[i], List.getElem?_eq_getElem hl, h.2 i _ x (List.getElem?_eq_getElem hl) hx⟩

theorem EntriesAre.mem {es : List MapEntry} (h : EntriesAre R w es L) {e : MapEntry} (he : e ∈ es) : ∃ x ∈ L, e.key = .string x.1 ∧ R w e.val x.2 := by
  obtain ⟨i, hi⟩ := List.mem_iff_getElem?.1 he
  obtain ⟨x, hx, h1⟩ := h.at hi
  exact ⟨x, List.mem_iff_getElem?.2 ⟨i, hx⟩, h1⟩

theorem EntriesAre.mem' {es : List MapEntry} (h : EntriesAre R w es L) {x : ByteArray × α} (hx : x ∈ L) : ∃ e ∈ es, e.key = .string x.1 ∧ R w e.val x.2 := by
  obtain ⟨i, hi⟩ := List.mem_iff_getElem?.1 hx
  obtain ⟨e, he, h1⟩ := h.of hi
  exact ⟨e, List.mem_iff_getElem?.2 ⟨i, he⟩, h1⟩

theorem EntriesAre.keys {es : List MapEntry} (h : EntriesAre R w es L) : es.map (·.key) = L.map fun x => .string x.1 := by
  apply List.ext_getElem?
  intro i
  simp only [List.getElem?_map]
  cases he : es[i]? with
  | none =>
    have : L[i]? = none := by rw [List.getElem?_eq_none_iff] at he ⊢; rw [← h.1]; exact he
    simp [this]
  | some e =>
    obtain ⟨x, hx, hk, _⟩ := h.at he
    simp [hx, hk]

theorem EntriesAre.isKey {es : List MapEntry} (h : EntriesAre R w es L) : ∀ e ∈ es, IsKey .string e.key := by
  intro e he
  obtain ⟨x, _, hk, _⟩ := h.mem he
  rw [hk]; trivial

theorem EntriesAre.nodup {es : List MapEntry} (h : EntriesAre R w es L) (hn : (es.map (·.key)).Nodup) : KeysNodup L := by
  rw [h.keys] at hn
  unfold KeysNodup
  rw [List.Nodup, List.pairwise_map] at hn ⊢
  exact hn.imp fun h1 h2 => h1 (by rw [h2])

theorem MapAt.nodup (h : MapAt R w b L) : KeysNodup L := by
  obtain ⟨es, clock, _, hs, hE⟩ := h
  exact hE.nodup hs.2.2

theorem MapAt.lt (h : MapAt R w b L) : b < w.heap.size := by
  obtain ⟨es, clock, hb, _⟩ := h
  exact (Array.getElem?_eq_some_iff.1 hb).1

/-- What is said of an element stays true while new blocks are laid, and while one block is written that holds no cells. -/
def Steady (R : World → Value → α → Prop) : Prop :=
  ∀ (w w' : World) (row : Option Nat) (v : Value) (a : α), w.grownBy w' row → (∀ k, row = some k → ∃ o : Obj, w.heap[k]? = some o ∧ o.isCells = false) → R w v a → R w' v a

theorem Steady.alloc (h : Steady R) (o : Obj) {v : Value} {a : α} (hv : R w v a) : R (w.alloc o) v a := h w _ none v a (World.grownBy_alloc w o none) (by simp) hv

theorem grownBy_setBlock {o : Obj} (hb : w.heap[b]? = some o) (o' : Obj) : w.grownBy (ChangeMaps.setBlock w b o') (some b) :=
  ⟨rfl, rfl, rfl, by simp [ChangeMaps.setBlock], fun i _ hi => by
    have : ¬ b = i := fun e => hi (by rw [e])
    simp [ChangeMaps.setBlock, Array.getElem?_setIfInBounds, this]⟩

theorem Steady.setBlock (h : Steady R) {o : Obj} (hb : w.heap[b]? = some o) (hc : o.isCells = false) (o' : Obj) {v : Value} {a : α} (hv : R w v a) : R (ChangeMaps.setBlock w b o') v a :=
  h w _ (some b) v a (grownBy_setBlock hb o') (fun k e => by cases e; exact ⟨o, hb, hc⟩) hv

theorem grownBy_drew (w : World) (row : Option Nat) : w.grownBy w.drew row := ⟨rfl, rfl, rfl, Nat.le_refl _, fun _ _ _ => rfl⟩

theorem Steady.drew (h : Steady R) {v : Value} {a : α} (hv : R w v a) : R w.drew v a := h w _ none v a (grownBy_drew w none) (by simp) hv

/-- The map stays what it is where its block does, and each element reads as it did. -/
theorem MapAt.stay {w' : World} (h : MapAt R w b L) (hb : w'.heap[b]? = w.heap[b]?) (hR : ∀ v a, R w v a → R w' v a) : MapAt R w' b L := by
  obtain ⟨es, clock, hh, hs, hE⟩ := h
  exact ⟨es, clock, hb.trans hh, hs, hE.1, fun i e x he hx => ⟨(hE.2 i e x he hx).1, hR _ _ (hE.2 i e x he hx).2⟩⟩

/-- How a key is found among the entries. -/
theorem EntriesAre.find {es : List MapEntry} (h : EntriesAre R w es L) (hn : KeysNodup L) (k : ByteArray) :
    (Instr.findNow .string (.string k) es 0 = some none ∧ look L k = none) ∨
    ∃ j e a, Instr.findNow .string (.string k) es 0 = some (some (j, e.val)) ∧ es[j]? = some e ∧ e.key = .string k ∧ look L k = some a ∧ R w e.val a ∧ L[j]? = some (k, a) := by
  rcases findNow_spec (d := .string) (k := .string k) trivial es 0 h.isKey with ⟨h1, h2⟩ | ⟨j, e, h1, h2, h3⟩
  · refine .inl ⟨h1, look_none.2 fun x hx e => ?_⟩
    obtain ⟨en, hen, hk, _⟩ := h.mem' hx
    exact h2 en hen (by rw [hk, e])
  · obtain ⟨x, hx, hk, hr⟩ := h.at h2
    have hxk : x.1 = k := by rw [h3] at hk; injection hk with hk; exact hk.symm
    obtain ⟨q, a⟩ := x
    subst hxk
    rw [Nat.zero_add] at h1
    exact .inr ⟨j, e, a, h1, h2, h3, look_of_mem hn (List.mem_iff_getElem?.2 ⟨j, hx⟩), hr, hx⟩

/-! #### the operations -/

theorem MapAt.run_len {t k e ty : TypeId} (h : MapAt R w b L) (ht : P.underlying t = some (.map k e)) : (Builtin.len_ #[t] ty #[.map (some b)]).run P w = .ok (.int .i64 L.length) w := by
  obtain ⟨es, clock, hb, hs, hE⟩ := h
  have hsz : es.size = L.length := by rw [← hE.1]; simp
  simp [Builtin.len_, run_underlying ht, MapKept.run_getObj_map hb, goInt, hsz]

/-- A look-up: the zero value's cells where the key is not there. -/
theorem MapAt.run_lookup {t kt et : TypeId} (h : MapAt R w b L) (ht : P.underlying t = some (.map kt et)) (hk : P.underlying kt = some .string) {z : Value} (hz : (zeroValue et).run P w = .ok z w) (k : ByteArray) (ok : Bool) :
    (look L k = none ∧ (Instr.lookup t (.map (some b)) (.string k) ok).run P w = .ok (if ok then .tuple #[z, .bool false] else z) w) ∨
    ∃ v a, look L k = some a ∧ R w v a ∧ (Instr.lookup t (.map (some b)) (.string k) ok).run P w = .ok (if ok then .tuple #[v, .bool true] else v) w := by
  have hn := h.nodup
  obtain ⟨es, clock, hb, hs, hE⟩ := h
  have hkey : IsKey .string (.string k) := trivial
  rcases hE.find hn k with ⟨h1, h2⟩ | ⟨j, e, a, h1, h2, h3, h4, h5, _⟩
  · refine .inl ⟨h2, ?_⟩
    cases ok <;> simp [Instr.lookup, run_underlying ht, MapKept.run_getObj_map hb, run_checkKey hk hkey, run_findKey hk h1, hz, Result.andThen]
  · refine .inr ⟨e.val, a, h4, h5, ?_⟩
    cases ok <;> simp [Instr.lookup, run_underlying ht, MapKept.run_getObj_map hb, run_checkKey hk hkey, run_findKey hk h1, Result.andThen]

/-- A store. -/
theorem MapAt.run_update {t kt et : TypeId} (h : MapAt R w b L) (ht : P.underlying t = some (.map kt et)) (hk : P.underlying kt = some .string) (k : ByteArray) (v : Value) (a : α)
    (hS : Steady R) (hv : R w v a) :
    ∃ w', (Instr.mapUpdate t (.map (some b)) (.string k) v).run P w = .ok () w' ∧ MapAt R w' b (upd L k a) ∧ w.grownBy w' (some b) ∧ w'.heap.size = w.heap.size := by
  have hn := h.nodup
  obtain ⟨es, clock, hb, hs, hE⟩ := h
  have hR : ∀ o : Obj, ∀ v a, R w v a → R (ChangeMaps.setBlock w b o) v a := fun o v a hv => hS.setBlock hb rfl o hv
  have hkey : IsKey .string (.string k) := trivial
  have hblt : b < w.heap.size := (Array.getElem?_eq_some_iff.1 hb).1
  have grown : ∀ o : Obj, w.grownBy (ChangeMaps.setBlock w b o) (some b) ∧ (ChangeMaps.setBlock w b o).heap.size = w.heap.size := fun o =>
    ⟨⟨rfl, rfl, rfl, by simp [ChangeMaps.setBlock], fun i _ hi => ChangeMaps.heap_setBlock_other hb _ (fun e => hi (by rw [e]))⟩, by simp [ChangeMaps.setBlock]⟩
  rcases hE.find hn k with ⟨h1, h2⟩ | ⟨j, e, a0, h1, h2, h3, h4, h5, h6⟩
  · refine ⟨ChangeMaps.setBlock w b (.map (es.push { key := .string k, val := v, born := clock }) (clock + 1)), ?_, ⟨_, _, ChangeMaps.heap_setBlock_same hb _, stamped_push hs ?_, ?_, ?_⟩, grown _⟩
    · simp [Instr.mapUpdate, run_underlying ht, MapKept.run_getObj_map hb, run_checkKey hk hkey, run_findKey hk h1, MapKept.run_setObj_map _ hb, Result.andThen, ChangeMaps.setBlock]
    · intro x hx e
      obtain ⟨y, hy, hky, _⟩ := hE.mem hx
      rw [hky] at e
      injection e with e
      exact look_none.1 h2 y hy e
    · rw [Array.toList_push, length_upd, h2]
      simp [hE.1]
    · intro i e x he hx
      rw [Array.toList_push] at he
      have hu : upd L k a = L ++ [(k, a)] := by unfold upd; simp [h2]
      rw [hu] at hx
      rcases Nat.lt_trichotomy i L.length with hi | hi | hi
      · rw [List.getElem?_append_left hi] at hx
        rw [List.getElem?_append_left (by rw [hE.1]; exact hi)] at he
        exact ⟨(hE.2 i e x he hx).1, hR _ _ _ (hE.2 i e x he hx).2⟩
      · subst hi
        rw [← hE.1] at he
        simp at he hx
        subst he; subst hx
        exact ⟨rfl, hR _ _ _ hv⟩
      · exfalso
        have := (List.getElem?_eq_some_iff.1 hx).1
        simp at this
        omega
  · have hj : es[j]? = some e := by simpa using h2
    have hkeyf : ∀ e', es[j]? = some e' → ({ e' with key := .string k, val := v } : MapEntry).key = e'.key := fun e' he' => by rw [hj] at he'; cases he'; exact h3.symm
    refine ⟨ChangeMaps.setBlock w b (.map (es.modify j (fun e' => { e' with key := .string k, val := v })) clock), ?_, ⟨_, _, ChangeMaps.heap_setBlock_same hb _, stamped_modify hs _ _ (fun _ _ => rfl) (fun e' _ he' => hkeyf e' he'), ?_, ?_⟩, grown _⟩
    · simp [Instr.mapUpdate, run_underlying ht, MapKept.run_getObj_map hb, run_checkKey hk hkey, run_findKey hk h1, hj, h3, run_keyThatStays hkey, MapKept.run_setObj_map _ hb, Result.andThen, ChangeMaps.setBlock]
    · rw [length_upd, h4]
      simp [hE.1]
    · intro i e' x he hx
      have hu : upd L k a = L.map (fun x => if x.1 == k then (x.1, a) else x) := by unfold upd; simp [h4]
      rw [hu, List.getElem?_map] at hx
      simp only [Array.getElem?_toList, Array.getElem?_modify] at he
      obtain ⟨y, hy, rfl⟩ := Option.map_eq_some_iff.1 hx
      by_cases hij : j = i
      · subst hij
        rw [if_pos rfl, hj] at he
        simp at he
        subst he
        rw [h6] at hy
        cases hy
        simp [beq_ba]
        exact hR _ _ _ hv
      · rw [if_neg hij] at he
        have hyk : y.1 ≠ k := fun e1 => by
          have q1 := List.getElem?_eq_some_iff.1 hy
          have q2 := List.getElem?_eq_some_iff.1 h6
          have := (List.nodup_iff_pairwise_ne.1 hn)
          have hp := List.pairwise_iff_getElem.1 this
          obtain ⟨l1, e1'⟩ := q1
          obtain ⟨l2, e2'⟩ := q2
          rcases Nat.lt_or_gt_of_ne hij with hlt | hlt
          · exact hp j i (by simpa using l2) (by simpa using l1) hlt (by simp [e1', e2', e1])
          · exact hp i j (by simpa using l1) (by simpa using l2) hlt (by simp [e1', e2', e1])
        simp only [beq_ba, hyk, decide_false, Bool.false_eq_true, if_false]
        have := hE.2 i e' y (by simpa using he) hy
        exact ⟨this.1, hR _ _ _ this.2⟩

theorem MapAt.made (R : World → Value → α → Prop) (w : World) : MapAt R (w.alloc (.map #[] 0)) w.heap.size [] :=
  ⟨#[], 0, (MapKept.heap_alloc w _).1, stamped_empty 0, by simp, by simp⟩

/-- A map's block copied. -/
theorem MapAt.copied {es : Array MapEntry} {clock : Nat} (h : MapAt R w b L) (hb : w.heap[b]? = some (.map es clock)) (hS : Steady R) : MapAt R (w.alloc (.map es clock)) w.heap.size L := by
  obtain ⟨es', clock', hb', hs, hE⟩ := h
  rw [hb] at hb'
  cases hb'
  exact ⟨es, clock, (MapKept.heap_alloc w _).1, hs, hE.1, fun i e x he hx => ⟨(hE.2 i e x he hx).1, hS.alloc _ (hE.2 i e x he hx).2⟩⟩

/-! ### 3. A range over a map -/

/-- A range over the map in block b is under way, its iterator lies in block r; what has come up. -/
def IterAt (R : World → Value → α → Prop) (w : World) (b r : Nat) (L done : List (ByteArray × α)) : Prop :=
  ∃ es clock seen c0, w.heap[b]? = some (.map es clock) ∧ Stamped es clock ∧ EntriesAre R w es.toList L ∧ w.heap[r]? = some (.mapIter (some b) clock seen c0) ∧ clock ≤ c0 ∧
    (∀ x ∈ done, x ∈ L) ∧ KeysNodup done ∧ ∀ (i : Nat) (e : MapEntry) (x : ByteArray × α), es.toList[i]? = some e → L[i]? = some x → (seen.contains e.born = true ↔ x ∈ done)

theorem IterAt.map {r : Nat} {done : List (ByteArray × α)} (h : IterAt R w b r L done) : MapAt R w b L := by
  obtain ⟨es, clock, seen, c0, hb, hs, hE, _⟩ := h
  exact ⟨es, clock, hb, hs, hE⟩

theorem IterAt.stay {w' : World} {r : Nat} {done : List (ByteArray × α)} (h : IterAt R w b r L done) (hb : w'.heap[b]? = w.heap[b]?) (hr : w'.heap[r]? = w.heap[r]?) (hR : ∀ v a, R w v a → R w' v a) : IterAt R w' b r L done := by
  obtain ⟨es, clock, seen, c0, hh, hs, hE, hi, rest⟩ := h
  exact ⟨es, clock, seen, c0, hb.trans hh, hs, ⟨hE.1, fun i e x he hx => ⟨(hE.2 i e x he hx).1, hR _ _ (hE.2 i e x he hx).2⟩⟩, hr.trans hi, rest⟩

/-- 'range m'. -/
theorem MapAt.run_range {t k e : TypeId} (h : MapAt R w b L) (ht : P.underlying t = some (.map k e)) (hS : Steady R) :
    ∃ o : Obj, (Instr.range t (.map (some b))).run P w = .ok (.pointer (some ⟨w.heap.size, 0, none⟩)) (w.alloc o) ∧ IterAt R (w.alloc o) b w.heap.size L [] := by
  obtain ⟨es, clock, hb, hs, hE⟩ := h
  refine ⟨.mapIter (some b) clock #[] clock, ?_, es, clock, #[], clock, ?_, hs, ⟨hE.1, fun i e x he hx => ⟨(hE.2 i e x he hx).1, hS.alloc _ (hE.2 i e x he hx).2⟩⟩, heap_alloc_new w _, Nat.le_refl _, by simp, by simp [KeysNodup], by simp⟩
  · simp [Instr.range, run_underlying ht, MapKept.run_getObj_map hb]
  · rw [(MapKept.heap_alloc w _).2 _ (Array.getElem?_eq_some_iff.1 hb).1]; exact hb

/-- The step: nothing is left, or something that has not come up yet. -/
theorem IterAt.run_next {r : Nat} {done : List (ByteArray × α)} (h : IterAt R w b r L done) (ty : TypeId) (hS : Steady R) :
    ((∀ x ∈ L, x ∈ done) ∧ (Instr.next (.pointer (some ⟨r, 0, none⟩)) false ty).run P w = .ok (.tuple #[.bool false]) w) ∨
    ∃ x v w', x ∈ L ∧ x ∉ done ∧ R w' v x.2 ∧ (Instr.next (.pointer (some ⟨r, 0, none⟩)) false ty).run P w = .ok (.tuple #[.bool true, .string x.1, v]) w' ∧
      IterAt R w' b r L (done ++ [x]) ∧ w.grownBy w' (some r) ∧ w'.heap.size = w.heap.size ∧ (Instr.entry (.pointer (some ⟨r, 0, none⟩))).run P w' = .ok (.tuple #[.string x.1, v]) w' := by
  obtain ⟨es, clock, seen, c0, hb, hs, hE, hr, hc, hsub, hnd, hseen⟩ := h
  have hbr : b ≠ r := fun e => by rw [e, hr] at hb; cases hb
  rcases run_next_at (P := P) w ty r b clock c0 seen es clock hr hb hs.1 hc with ⟨h0, hrun⟩ | ⟨e, he, w1, hw1, hrun⟩
  · refine .inl ⟨fun x hx => ?_, hrun⟩
    obtain ⟨i, hi⟩ := List.mem_iff_getElem?.1 hx
    obtain ⟨e, he, _, _⟩ := hE.of hi
    refine (hseen i e x he hi).1 ?_
    have hem : e ∈ es := by rw [← Array.mem_toList_iff]; exact List.mem_iff_getElem?.2 ⟨i, he⟩
    have hl : leftOf es seen = #[] := Array.eq_empty_of_size_eq_zero h0
    unfold leftOf at hl
    rw [Array.filter_eq_empty_iff] at hl
    simpa using hl e hem
  · right
    simp only [leftOf, Array.toList_filter, List.mem_filter] at he
    obtain ⟨hem, hns⟩ := he
    obtain ⟨i, hi⟩ := List.mem_iff_getElem?.1 hem
    obtain ⟨x, hx, hkx, hrx⟩ := hE.at hi
    have hxd : x ∉ done := fun hd => by
      have := (hseen i e x hi hx).2 hd
      rw [this] at hns
      exact absurd hns (by simp)
    have hRw : ∀ v a, R w v a → R (ChangeMaps.setBlock w1 r (.mapIter (some b) clock (seen.push e.born) clock)) v a := by
      rcases hw1 with rfl | rfl
      · exact fun v a h => hS.setBlock hr rfl _ h
      · exact fun v a h => hS.setBlock (w := w.drew) hr rfl _ (hS.drew h)
    have hheap : w1.heap = w.heap := by rcases hw1 with rfl | rfl <;> rfl
    have hb1 : (ChangeMaps.setBlock w1 r (.mapIter (some b) clock (seen.push e.born) clock)).heap[b]? = some (.map es clock) := by
      simp only [ChangeMaps.setBlock, hheap, Array.getElem?_setIfInBounds, if_neg (Ne.symm hbr)]
      exact hb
    have hrlt : r < w.heap.size := (Array.getElem?_eq_some_iff.1 hr).1
    have hr1 : (ChangeMaps.setBlock w1 r (.mapIter (some b) clock (seen.push e.born) clock)).heap[r]? = some (.mapIter (some b) clock (seen.push e.born) clock) := by
      simp [ChangeMaps.setBlock, hheap, Array.getElem?_setIfInBounds, hrlt]
    have hen := run_entry_at (P := P) _ r b clock seen es clock e hr1 hb1 hem hs.2.1
    rw [hkx] at hrun hen
    have hxL : x ∈ L := List.mem_iff_getElem?.2 ⟨i, hx⟩
    refine ⟨x, e.val, _, hxL, hxd, hRw _ _ hrx, hrun, ⟨es, clock, seen.push e.born, clock, hb1, hs, ⟨hE.1, fun i e x he hx => ⟨(hE.2 i e x he hx).1, hRw _ _ (hE.2 i e x he hx).2⟩⟩, hr1, Nat.le_refl _, ?_, ?_, ?_⟩, ?_, ?_, hen⟩
    · intro y hy
      rcases List.mem_append.1 hy with hy | hy
      · exact hsub y hy
      · rw [List.mem_singleton.1 hy]; exact hxL
    · unfold KeysNodup
      rw [List.map_append]
      refine List.nodup_append.2 ⟨hnd, by simp, ?_⟩
      intro k hk q hq
      simp only [List.map_cons, List.map_nil, List.mem_singleton] at hq
      subst hq
      obtain ⟨y, hy, rfl⟩ := List.mem_map.1 hk
      intro hyx
      have hn := hE.nodup hs.2.2
      have := look_of_mem hn (hsub y hy)
      have h2 := look_of_mem hn hxL
      rw [hyx, h2] at this
      injection this with this
      exact hxd (by
        have : x = y := Prod.ext hyx.symm this
        rw [this]; exact hy)
    · intro i' e' x' he' hx'
      rw [Array.contains_push]
      rw [Bool.or_eq_true, hseen i' e' x' he' hx', List.mem_append, List.mem_singleton, beq_iff_eq]
      have hborn : e'.born = e.born ↔ x' = x := by
        constructor
        · intro hbn
          have hp := List.pairwise_iff_getElem.1 (List.nodup_iff_pairwise_ne.1 hs.2.1)
          obtain ⟨l1, e1⟩ := List.getElem?_eq_some_iff.1 he'
          obtain ⟨l2, e2⟩ := List.getElem?_eq_some_iff.1 hi
          rcases Nat.lt_trichotomy i' i with hlt | heq | hlt
          · exact (hp i' i (by simpa using l1) (by simpa using l2) hlt (by simp [e1, e2, hbn])).elim
          · subst heq; rw [hx] at hx'; cases hx'; rfl
          · exact (hp i i' (by simpa using l2) (by simpa using l1) hlt (by simp [e1, e2, hbn])).elim
        · intro hxx
          subst hxx
          have hn := hE.nodup hs.2.2
          have hp := List.pairwise_iff_getElem.1 (List.nodup_iff_pairwise_ne.1 hn)
          obtain ⟨l1, e1⟩ := List.getElem?_eq_some_iff.1 hx'
          obtain ⟨l2, e2⟩ := List.getElem?_eq_some_iff.1 hx
          rcases Nat.lt_trichotomy i' i with hlt | heq | hlt
          · exact (hp i' i (by simpa using l1) (by simpa using l2) hlt (by simp [e1, e2])).elim
          · subst heq; rw [hi] at he'; cases he'; rfl
          · exact (hp i i' (by simpa using l2) (by simpa using l1) hlt (by simp [e1, e2])).elim
      rw [hborn]
    · refine ⟨?_, ?_, ?_, ?_, ?_⟩
      · rcases hw1 with rfl | rfl <;> rfl
      · rcases hw1 with rfl | rfl <;> rfl
      · rcases hw1 with rfl | rfl <;> rfl
      · simp [ChangeMaps.setBlock, hheap]
      · intro k _ hk
        have hkr : ¬ r = k := fun e => hk (by rw [e])
        simp [ChangeMaps.setBlock, hheap, Array.getElem?_setIfInBounds, hkr]
    · simp [ChangeMaps.setBlock, hheap]
end
end Go.Proofs.YtmbhkfclpkopiaaGreatDoor
