/- The laws of the map's operations, as the walk takes them; a series in memory. No program in sight. -/
import Derived.Test.YtmbhkfclpkopiaaGreatDoorMap
import Derived.WalkKit
import Derived.Maps.OwnOps
namespace Go.Proofs.YtmbhkfclpkopiaaGreatDoor
open Go.RowKit Go.MapKept
set_option linter.unusedVariables false
set_option linter.unusedSimpArgs false

theorem nodup_len {β : Type} [DecidableEq β] : ∀ {l1 l2 : List β}, l1.Nodup → (∀ x ∈ l1, x ∈ l2) → l1.length ≤ l2.length
  | [], _, _, _ => by simp
  | a :: l1, l2, hn, hs => by
    obtain ⟨h1, h2⟩ := List.nodup_cons.1 hn
    have ha : a ∈ l2 := hs a (by simp)
    have := nodup_len (l1 := l1) (l2 := l2.erase a) h2 (fun x hx => (List.mem_erase_of_ne (fun e => by subst e; exact h1 hx)).2 (hs x (by simp [hx])))
    rw [List.length_erase_of_mem ha] at this
    have : 0 < l2.length := List.length_pos_of_mem ha
    simp only [List.length_cons]
    omega

section
variable {α : Type} {R : World → Value → α → Prop} {P : Program} (w : World) {ops : Array Oper} {rest : List Oper} {o : Oper} {a : Act} {Q : Exit → Act → World → Prop}

theorem wpList_lookup_at (hg : o.guard = none) (m x : Operand) (t : TypeId) (ok : Bool) (hop : o.op = Op.lookup t m x ok) (kt et : TypeId) (ht : P.underlying t = some (.map kt et)) (hk : P.underlying kt = some .string) (z : Value) (hz : (zeroValue et).run P w = .ok z w)
    (b : Nat) (L : List (ByteArray × α)) (hm : a.eval m = .map (some b)) (h : MapAt R w b L) (k : ByteArray) (hx : a.eval x = .string k)
    (hNone : look L k = none → wpList P ops Q rest (a.put o.dst (if ok then .tuple #[z, .bool false] else z)) w)
    (hSome : ∀ v a0, look L k = some a0 → R w v a0 → wpList P ops Q rest (a.put o.dst (if ok then .tuple #[v, .bool true] else v)) w) :
    wpList P ops Q (o :: rest) a w := by
  refine wpList_plain hg fun K' hK' => ?_
  unfold Oper.wp
  rcases h.run_lookup ht hk hz k ok with ⟨h0, hrun⟩ | ⟨v, a0, h0, hr, hrun⟩
  · simp only [execOp, hop, hm, hx, Sem.run_bind, hrun, Result.andThen]
    exact hK' _ _ (hNone h0)
  · simp only [execOp, hop, hm, hx, Sem.run_bind, hrun, Result.andThen]
    exact hK' _ _ (hSome v a0 h0 hr)

theorem wpList_mapUpdate_at (hg : o.guard = none) (m x v : Operand) (t : TypeId) (hop : o.op = Op.mapUpdate t m x v) (kt et : TypeId) (ht : P.underlying t = some (.map kt et)) (hk : P.underlying kt = some .string) (hS : Steady R)
    (b : Nat) (L : List (ByteArray × α)) (hm : a.eval m = .map (some b)) (h : MapAt R w b L) (k : ByteArray) (hx : a.eval x = .string k) (val : Value) (hv : a.eval v = val) (a0 : α) (hr : R w val a0)
    (hK : ∀ w', MapAt R w' b (upd L k a0) → w.grownBy w' (some b) → w'.heap.size = w.heap.size → wpList P ops Q rest (a.put o.dst undef) w') :
    wpList P ops Q (o :: rest) a w := by
  refine wpList_plain hg fun K' hK' => ?_
  obtain ⟨w', hrun, r1, r2, r3⟩ := h.run_update ht hk k val a0 hS hr
  unfold Oper.wp
  simp only [execOp, hop, hm, hx, hv, Sem.run_bind, hrun, Result.andThen]
  exact hK' _ _ (hK w' r1 r2 r3)

theorem wpList_range_at (hg : o.guard = none) (m : Operand) (t : TypeId) (hop : o.op = Op.range t m) (kt et : TypeId) (ht : P.underlying t = some (.map kt et)) (hS : Steady R) (b : Nat) (L : List (ByteArray × α)) (hm : a.eval m = .map (some b)) (h : MapAt R w b L)
    (hK : ∀ w', IterAt R w' b w.heap.size L [] → w.grownBy w' none → w'.heap.size = w.heap.size + 1 → wpList P ops Q rest (a.put o.dst (.pointer (some ⟨w.heap.size, 0, none⟩))) w') :
    wpList P ops Q (o :: rest) a w := by
  refine wpList_plain hg fun K' hK' => ?_
  obtain ⟨ob, hrun, r1⟩ := h.run_range ht hS
  unfold Oper.wp
  simp only [execOp, hop, hm, Sem.run_bind, hrun, Result.andThen]
  exact hK' _ _ (hK _ r1 (World.grownBy_alloc _ _ _) (by simp))

theorem wpList_next_at (hg : o.guard = none) (it : Operand) (hop : o.op = Op.next it false) (hS : Steady R) (b r : Nat) (L done : List (ByteArray × α)) (hit : a.eval it = .pointer (some ⟨r, 0, none⟩)) (h : IterAt R w b r L done)
    (hDone : (∀ x ∈ L, x ∈ done) → wpList P ops Q rest (a.put o.dst (.tuple #[.bool false])) w)
    (hMore : ∀ k s v w', (k, s) ∈ L → (k, s) ∉ done → R w' v s → IterAt R w' b r L (done ++ [(k, s)]) → w.grownBy w' (some r) → w'.heap.size = w.heap.size → (Instr.entry (.pointer (some ⟨r, 0, none⟩))).run P w' = .ok (.tuple #[.string k, v]) w' →
      wpList P ops Q rest (a.put o.dst (.tuple #[.bool true, .string k, v])) w') :
    wpList P ops Q (o :: rest) a w := by
  refine wpList_plain hg fun K' hK' => ?_
  unfold Oper.wp
  rcases h.run_next (P := P) o.type hS with ⟨h0, hrun⟩ | ⟨⟨k, s⟩, v, w', h1, h2, h3, hrun, h4, h5, h6, h7⟩
  · simp only [execOp, hop, hit, Sem.run_bind, hrun, Result.andThen]
    exact hK' _ _ (hDone h0)
  · simp only [execOp, hop, hit, Sem.run_bind, hrun, Result.andThen]
    exact hK' _ _ (hMore k s v w' h1 h2 h3 h4 h5 h6 h7)

/-- How many are still to come: for a loop's measure. -/
theorem IterAt.left_lt {w' : World} {b r : Nat} {L done done' : List (ByteArray × α)} (h' : IterAt R w' b r L done') (hl : done'.length = done.length + 1) : L.length - done'.length < L.length - done.length := by
  obtain ⟨es, clock, seen, c0, hb, hs, hE, hr, hc, hsub, hnd, hseen⟩ := h'
  have hn := hE.nodup hs.2.2
  have : done'.length ≤ L.length := by
    have h1 : (done'.map (·.1)) ⊆ (L.map (·.1)) := fun k hk => by
      obtain ⟨x, hx, rfl⟩ := List.mem_map.1 hk
      exact List.mem_map.2 ⟨x, hsub x hx, rfl⟩
    have := nodup_len hnd h1
    simpa using this
  omega
end

/-! ### A series in memory -/
section
variable {V : Type}

/-- An entry's cells. -/
def encE (enc : V → List Value) (x : Int × V) : List Value := .int .i64 x.1 :: enc x.2

/-- A slice of entries that nobody writes any more. -/
def SerAt (E size : Nat) (enc : V → List Value) (w : World) (v : Value) (s : List (Int × V)) : Prop := w.ownsRow 0 E size v s.length (s.flatMap (encE enc))

theorem flatMap_get {β γ : Type} {f : β → List γ} {sz : Nat} (hf : ∀ x, (f x).length = sz) : ∀ (l : List β) (i c : Nat) (x : β), l[i]? = some x → c < sz → (l.flatMap f)[i * sz + c]? = (f x)[c]?
  | [], i, c, x, h, _ => by simp at h
  | y :: l, 0, c, x, h, hc => by
    simp only [List.getElem?_cons_zero, Option.some.injEq] at h
    subst h
    rw [List.flatMap_cons, List.getElem?_append_left (by rw [hf]; omega)]
    simp
  | y :: l, i + 1, c, x, h, hc => by
    rw [List.getElem?_cons_succ] at h
    rw [List.flatMap_cons, List.getElem?_append_right (by rw [hf, Nat.add_mul]; omega), hf, ← flatMap_get hf l i c x h hc]
    congr 1
    rw [Nat.add_mul]
    omega

theorem SerAt.cell {E size : Nat} {enc : V → List Value} (hf : ∀ x, (encE enc x).length = size) {w : World} {b n cap : Nat} {s : List (Int × V)} (h : SerAt E size enc w (.slice (some ⟨b, 0, none⟩) n cap) s) {i : Nat} {x : Int × V} (hi : s[i]? = some x) (c : Nat) (hc : c < size) (u : Value) (hu : (encE enc x)[c]? = some u) :
    w.cell? ⟨b, i * size + c, none⟩ = some u := by
  have hl : i < s.length := (List.getElem?_eq_some_iff.1 hi).1
  rcases h.2 with ⟨e, _⟩ | ⟨g, cap', cur, e, _⟩
  · cases e
  · have hn : s.length = n := by injection e with _ e _; exact e.symm
    have hown : w.ownsRow 0 E size (.slice (some ⟨b, 0, none⟩) n cap) n (s.flatMap (encE enc)) := by unfold SerAt at h; rw [hn] at h; exact h
    have hlt : i * size + c < n * size := by
      have : (i + 1) * size ≤ n * size := Nat.mul_le_mul_right _ (by omega)
      rw [Nat.add_mul] at this
      omega
    rw [hown.cellAt _ hlt, flatMap_get hf s i c x hi hc, hu]

theorem SerAt.form {E size : Nat} {enc : V → List Value} {w : World} {v : Value} {s : List (Int × V)} (h : SerAt E size enc w v s) :
    (s = [] ∧ v = .slice none 0 0) ∨ ∃ b cap, v = .slice (some ⟨b, 0, none⟩) s.length cap ∧ b < w.heap.size ∧ s.length ≤ maxLen := by
  rcases h.2 with ⟨rfl, h0⟩ | ⟨g, cap, cur, rfl, _, hh, h1, h2, _⟩
  · exact .inl ⟨List.eq_nil_of_length_eq_zero h0, rfl⟩
  · exact .inr ⟨g, cap, rfl, (Array.getElem?_eq_some_iff.1 hh).1, Nat.le_trans h1 h2⟩

theorem SerAt.below {E size : Nat} {enc : V → List Value} {w w' : World} {v : Value} {s : List (Int × V)} (h : SerAt E size enc w v s) (hb : Below w.heap.size w w') : SerAt E size enc w' v s :=
  World.ownsRow.kept h (row := none) ⟨hb.os, hb.tape, hb.output, hb.size, fun k hk _ => hb.block k hk⟩ (by cases v.ownBlock <;> simp)

theorem steady_ser (E size : Nat) (enc : V → List Value) : Steady (SerAt E size enc) := by
  intro w w' row v s hg hrow h
  refine World.ownsRow.kept h hg ?_
  rcases h.2 with ⟨rfl, _⟩ | ⟨g, cap, cur, rfl, _, hh, _⟩
  · exact .inl rfl
  · refine .inr fun e => ?_
    obtain ⟨o, ho, hc⟩ := hrow g (by rw [← e]; rfl)
    rw [hh] at ho
    cases ho
    cases hc
end
end Go.Proofs.YtmbhkfclpkopiaaGreatDoor
