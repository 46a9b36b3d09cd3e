/- A table in memory. -/
import Derived.Test.YtmbhkfclpkopiaaGreatDoorWithP
namespace Go.Proofs.YtmbhkfclpkopiaaGreatDoor
open Go.RowKit
set_option linter.unusedVariables false
set_option linter.unusedSimpArgs false

/-- A table's blocks. -/
structure TB where
  p : Nat
  m0 : Nat
  m1 : Nat
  m2 : Nat
  m3 : Nat

abbrev RM : World → Value → List (Int × MV) → Prop := SerAt 162 4 encM
abbrev RS : World → Value → List (Int × SV) → Prop := SerAt 166 5 encS
abbrev RP : World → Value → List (Int × Int) → Prop := SerAt 170 2 encP
abbrev RF : World → Value → List (Int × FV) → Prop := SerAt 174 3 encF

/-- A table, its four maps apart. -/
structure TabAt (w : World) (T : TB) (t : Tab) : Prop where
  cell : w.heap[T.p]? = some (.cells #[.map (some T.m0), .map (some T.m1), .map (some T.m2), .map (some T.m3)] 148 (0, 0))
  mem : MapAt RM w T.m0 t.mem
  sec : MapAt RS w T.m1 t.sec
  pri : MapAt RP w T.m2 t.pri
  hc : MapAt RF w T.m3 t.hc
  d01 : T.m0 ≠ T.m1
  d02 : T.m0 ≠ T.m2
  d03 : T.m0 ≠ T.m3
  d12 : T.m1 ≠ T.m2
  d13 : T.m1 ≠ T.m3
  d23 : T.m2 ≠ T.m3

theorem MapAt.below {V : Type} {E size : Nat} {enc : V → List Value} {w w' : World} {b : Nat} {L : Tb V} (h : MapAt (SerAt E size enc) w b L) (hb : Below w.heap.size w w') : MapAt (SerAt E size enc) w' b L :=
  h.stay (hb.block b h.lt) (fun _ _ hv => hv.below hb)

theorem TabAt.plt {w : World} {T : TB} {t : Tab} (h : TabAt w T t) : T.p < w.heap.size := (Array.getElem?_eq_some_iff.1 h.cell).1

theorem TabAt.below {w w' : World} {T : TB} {t : Tab} (h : TabAt w T t) (hb : Below w.heap.size w w') : TabAt w' T t :=
  ⟨(hb.block _ h.plt).trans h.cell, h.mem.below hb, h.sec.below hb, h.pri.below hb, h.hc.below hb, h.d01, h.d02, h.d03, h.d12, h.d13, h.d23⟩

theorem TabAt.cells {w : World} {T : TB} {t : Tab} (h : TabAt w T t) : w.cell? ⟨T.p, 0, none⟩ = some (.map (some T.m0)) ∧ w.cell? ⟨T.p, 1, none⟩ = some (.map (some T.m1)) ∧ w.cell? ⟨T.p, 2, none⟩ = some (.map (some T.m2)) ∧ w.cell? ⟨T.p, 3, none⟩ = some (.map (some T.m3)) := by
  have := h.cell
  simp [World.cell?, this]

/-- No series is longer than n, and no more keys than n are there. -/
def TbFit {V : Type} (n : Nat) (L : Tb V) : Prop := L.length ≤ n ∧ ∀ x ∈ L, x.2.length ≤ n
structure TabFit (n : Nat) (t : Tab) : Prop where
  mem : TbFit n t.mem
  sec : TbFit n t.sec
  pri : TbFit n t.pri
  hc : TbFit n t.hc

theorem TbFit.ser {V : Type} {n : Nat} {L : Tb V} (h : TbFit n L) (k : ByteArray) : (ser L k).length ≤ n := by
  unfold Go.Proofs.YtmbhkfclpkopiaaGreatDoor.ser
  cases e : look L k with
  | none => exact Nat.zero_le _
  | some s => exact h.2 _ (look_mem e)

theorem wpList_lookup_ser {V : Type} {E size : Nat} {enc : V → List Value} {P : Program} (w : World) {ops : Array Oper} {rest : List Oper} {o : Oper} {a : Act} {Q : Exit → Act → World → Prop}
    (hg : o.guard = none) (m x : Operand) (t : TypeId) (ok : Bool) (hop : o.op = Op.lookup t m x ok) (kt et : TypeId) (ht : P.underlying t = some (.map kt et)) (hk : P.underlying kt = some .string) (hz : (zeroValue et).run P w = .ok (.slice none 0 0) w)
    (b : Nat) (L : Tb V) (hm : a.eval m = .map (some b)) (h : MapAt (SerAt E size enc) w b L) (k : ByteArray) (hx : a.eval x = .string k)
    (hK : ∀ v, SerAt E size enc w v (ser L k) → wpList P ops Q rest (a.put o.dst (if ok then .tuple #[v, .bool (look L k).isSome] else v)) w) :
    wpList P ops Q (o :: rest) a w :=
  wpList_lookup_at w hg m x t ok hop kt et ht hk _ hz b L hm h k hx
    (fun h0 => by
      have := hK (.slice none 0 0) (by unfold ser; rw [h0]; exact World.ownsRow_nil _ _ _ _)
      rw [h0] at this
      exact this)
    (fun v a0 h0 hr => by
      have := hK v (by unfold ser; rw [h0]; exact hr)
      rw [h0] at this
      exact this)

/-- The run of a look-up, whatever has been drawn. -/
theorem MapAt.run_ser {V : Type} {E size : Nat} {enc : V → List Value} {P : Program} {w : World} {t kt et : TypeId} {b : Nat} {L : Tb V} (h : MapAt (SerAt E size enc) w b L) (ht : P.underlying t = some (.map kt et)) (hk : P.underlying kt = some .string) (hz : ∀ w, (zeroValue et).run P w = .ok (.slice none 0 0) w) (k : ByteArray) (ok : Bool) :
    ∃ v, SerAt E size enc w v (ser L k) ∧ ∀ n, (Instr.lookup t (.map (some b)) (.string k) ok).run P (w.drewN n) = .ok (if ok then .tuple #[v, .bool (look L k).isSome] else v) (w.drewN n) := by
  have key : ∀ n, ∃ v, (SerAt E size enc w v (ser L k) ∧ (Instr.lookup t (.map (some b)) (.string k) ok).run P (w.drewN n) = .ok (if ok then .tuple #[v, .bool (look L k).isSome] else v) (w.drewN n)) ∧ (match w.heap[b]? with | some (.map es _) => (match Instr.findNow .string (.string k) es.toList 0 with | some (some (_, u)) => v = u | _ => v = .slice none 0 0) | _ => True) := by
    intro n
    have hn := h.nodup
    obtain ⟨es, clock, hb, hs, hE⟩ := h
    have hb' : (w.drewN n).heap[b]? = some (.map es clock) := hb
    have hkey : MapKept.IsKey .string (.string k) := trivial
    rcases hE.find hn k with ⟨h1, h2⟩ | ⟨j, e, a, h1, h2, h3, h4, h5, _⟩
    · refine ⟨.slice none 0 0, ⟨by unfold ser; rw [h2]; exact World.ownsRow_nil _ _ _ _, ?_⟩, by simp [hb, h1]⟩
      cases ok <;> simp [Instr.lookup, run_underlying ht, MapKept.run_getObj_map hb', MapKept.run_checkKey hk hkey, MapKept.run_findKey hk h1, hz, Result.andThen, h2]
    · refine ⟨e.val, ⟨by unfold ser; rw [h4]; exact h5, ?_⟩, by simp [hb, h1]⟩
      cases ok <;> simp [Instr.lookup, run_underlying ht, MapKept.run_getObj_map hb', MapKept.run_checkKey hk hkey, MapKept.run_findKey hk h1, Result.andThen, h4]
  obtain ⟨v, ⟨h1, _⟩, h3⟩ := key 0
  refine ⟨v, h1, fun n => ?_⟩
  obtain ⟨v', ⟨_, h2'⟩, h3'⟩ := key n
  have : v' = v := by
    revert h3 h3'
    split
    · split
      · intro e e'; rw [e, e']
      · intro e e'; rw [e, e']
    · rename_i hno
      obtain ⟨es, clock, hb, _⟩ := h
      exact absurd hb (hno es clock)
  rw [← this]
  exact h2'

theorem zeroV_140 (w : World) : (zeroValue 140).run Tryz.prog w = .ok (.slice none 0 0) w := by kernel_rfl
theorem zeroV_151 (w : World) : (zeroValue 151).run Tryz.prog w = .ok (.slice none 0 0) w := by kernel_rfl
theorem zeroV_154 (w : World) : (zeroValue 154).run Tryz.prog w = .ok (.slice none 0 0) w := by kernel_rfl
theorem zeroV_157 (w : World) : (zeroValue 157).run Tryz.prog w = .ok (.slice none 0 0) w := by kernel_rfl
end Go.Proofs.YtmbhkfclpkopiaaGreatDoor
