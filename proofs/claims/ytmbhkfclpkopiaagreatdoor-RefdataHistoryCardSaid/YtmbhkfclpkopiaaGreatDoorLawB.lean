/- The law's own functions: Made, same. The law's Made. The law's same: what is effective on a day agrees. The chapter's example, in plain Lean. Members; the law's known: the chapter's example. -/
import Derived.Test.YtmbhkfclpkopiaaGreatDoorLawA
import Derived.Test.YtmbhkfclpkopiaaGreatDoorRefSet
import Derived.Test.YtmbhkfclpkopiaaGreatDoorRefK
import Derived.Test.YtmbhkfclpkopiaaGreatDoorClone
import Derived.Test.YtmbhkfclpkopiaaGreatDoorPureA
import Derived.Test.YtmbhkfclpkopiaaGreatDoorIdent9
import Derived.Test.YtmbhkfclpkopiaaGreatDoorTabAt
namespace Go.Proofs.YtmbhkfclpkopiaaGreatDoor
open Go.RowKit
set_option linter.unusedVariables false
set_option linter.unusedSimpArgs false

theorem keys_len : KeysLen := keys_says.len

theorem LAt.below {w w' : World} {v : Value} {L : List E} (h : LAt w v L) (hb : Below w.heap.size w w') : LAt w' v L := by
  rcases h with h | ⟨b, off, cap, rfl, hm, hc⟩
  · exact .inl h
  · refine .inr ⟨b, off, cap, rfl, hm, fun i e hi c u hu => ?_⟩
    have h1 := hc i e hi c u hu
    have hlt : b < w.heap.size := by
      rcases Nat.lt_or_ge b w.heap.size with h | h
      · exact h
      · have : w.heap[b]? = none := Array.getElem?_eq_none h
        simp [World.cell?, this] at h1
    exact (hb.cell (p := ⟨b, off + i * 8 + c, none⟩) hlt).trans h1

/-- What Made hands back: a table and the reference's list, which agree. -/
structure MadeAt (B : Nat) (w : World) (T : TB) (t : Tab) (v : Value) (R : List E) (n : Nat) : Prop where
  tab : TabAt w T t
  rel : Rel t R
  ref : TAt w v R
  len : R.length ≤ n
  frm : T.From B

/-- One addition to both. -/
theorem MadeAt.next {B : Nat} {w w1 w2 : World} {T : TB} {t : Tab} {v v' : Value} {R : List E} {n : Nat} {e : E} (h : MadeAt B w T t v R n) (hn : n ≤ 100) (hc : Clean e)
    (hb1 : Below w.heap.size w w1) (hv : TAt w1 v' (refSet vld fracOk R e)) (ht : TabAt w2 T (tabSet vld fracOk t e)) {r : Nat} (hr : T.Row r) (hg : w1.grownBy w2 (some r)) : MadeAt B w2 T (tabSet vld fracOk t e) v' (refSet vld fracOk R e) (n + 1) := by
  have hlen := h.len
  have hf := h.rel.bound
  have h1 : t.mem.length < 4096 := by omega
  have h2 : t.sec.length < 4096 := by omega
  refine ⟨ht, h.rel.set hc h1 h2, hv.keep ((h.tab.below hb1).row_block hr) hg, Nat.le_trans (refSet_length R e) (by omega), h.frm⟩

theorem MadeAt.code {B : Nat} {w : World} {T : TB} {t : Tab} {v : Value} {R : List E} {n : Nat} {e : E} (h : MadeAt B w T t v R n) (hn : n ≤ 100) (hc : Clean e) : tabCode vld fracOk t e = refCode vld fracOk R e := by
  have hlen := h.len
  have hf := h.rel.bound
  exact h.rel.code hc (by omega) (by omega)
end Go.Proofs.YtmbhkfclpkopiaaGreatDoor

namespace Go.Proofs.YtmbhkfclpkopiaaGreatDoor
open Go.RowKit
set_option linter.unusedVariables false
set_option linter.unusedSimpArgs false

set_option maxRecDepth 10000 in
set_option maxHeartbeats 4000000 in
theorem made_calls (sv : Value) (L : List E) (w : World) (hL : LAt w sv L) (hf : ∀ e ∈ L, EFits e) :
    Calls Tryz.prog 20 #[sv] w fun x w' => ∃ T t v R, x = .returned (.tuple #[.pointer (some ⟨T.p, 0, none⟩), v]) ∧ MadeAt w.heap.size w' T t v R 30 ∧ Below w.heap.size w w' := by
  rcases hL with ⟨rfl, a, cap, rfl⟩ | ⟨b, off, cap, rfl, hmax, hc⟩
  · clear hf
    go_enter Tryz.func20, Tryz.ntmps20
    go_wp2_with (first | (go_at_call 64; refine (new_calls _).mono ?_; rintro x w1 ⟨T, rfl, hT1, hF, K1⟩))
    refine wp_loop_rounds 1 ?_
    rw [rounds_succ]
    go_wp2
    go_ret2
    exact ⟨T, Tab.empty, _, [], rfl, ⟨hT1, .empty, World.ownsRow_nil _ _ _ _, Nat.zero_le _, hF⟩, K1⟩
  · have HC : Hid (∀ W, Below w.heap.size w W → ∀ (i : Nat) (e : E), L[i]? = some e → W.cell? ⟨b, off + i * 8, none⟩ = some (.int .i64 e.kind) ∧ W.cell? ⟨b, off + i * 8 + 1, none⟩ = some (.int .i64 e.day) ∧ W.cell? ⟨b, off + i * 8 + 2, none⟩ = some (.string e.key) ∧ W.cell? ⟨b, off + i * 8 + 3, none⟩ = some (.string e.text) ∧ W.cell? ⟨b, off + i * 8 + 4, none⟩ = some (.int .i64 e.n) ∧ W.cell? ⟨b, off + i * 8 + 5, none⟩ = some (.int .i64 e.num) ∧ W.cell? ⟨b, off + i * 8 + 6, none⟩ = some (.int .i64 e.den) ∧ W.cell? ⟨b, off + i * 8 + 7, none⟩ = some (.bool e.active)) := by
      intro W hW i e hi
      have h0 : LAt w (.slice (some ⟨b, off, none⟩) L.length cap) L := .inr ⟨b, off, cap, rfl, hmax, hc⟩
      rcases h0.below hW with ⟨rfl, _⟩ | ⟨b', off', cap', hv, _, hc'⟩
      · cases hi
      · cases hv
        exact ⟨hc' i e hi 0 _ rfl, hc' i e hi 1 _ rfl, hc' i e hi 2 _ rfl, hc' i e hi 3 _ rfl, hc' i e hi 4 _ rfl, hc' i e hi 5 _ rfl, hc' i e hi 6 _ rfl, hc' i e hi 7 _ rfl⟩
    have HFT := Lib.hid hf
    have HMX := Lib.hid hmax
    clear hc hf hmax
    go_enter Tryz.func20, Tryz.ntmps20
    go_wp2_with (first | (go_at_call 64; refine (new_calls _).mono ?_; rintro x w1 ⟨T, rfl, hT1, hF, K1⟩))
    have HF := Lib.hid hF
    go_loopw [5, 6] (fun p q wr => ∃ (i : Nat) (t : Tab) (R : List E), q = .int .i64 i ∧ i ≤ L.length ∧ i ≤ 30 ∧ MadeAt w.heap.size wr T t p R i ∧ Below w.heap.size w wr) (fun p q wr => 30 - (intOf q).toNat)
    case atStart => exact ⟨0, Tab.empty, [], rfl, Nat.zero_le _, Nat.zero_le _, ⟨hT1, .empty, World.ownsRow_nil _ _ _ _, Nat.le_refl _, hF⟩, K1⟩
    case round =>
      obtain ⟨i, t, R, rfl, hi, hi30, hM, K⟩ := hrel
      have HM := Lib.hid hM
      by_cases hlt : i < L.length
      · by_cases hlt3 : i < 30
        · obtain ⟨e, he⟩ : ∃ e, L[i]? = some e := ⟨_, List.getElem?_eq_getElem hlt⟩
          obtain ⟨c0, c1, c2, c3, c4, c5, c6, c7⟩ := HC.out wr K i e he
          have hfe := cleanE_fits (HFT.out e (List.mem_of_getElem? he))
          have hcl := cleanE_clean e
          obtain ⟨x0, hx0⟩ : ∃ x0, cleanE e = x0 := ⟨_, rfl⟩
          have HCL : Hid (∀ W, Calls Tryz.prog 24 #[.agg #[.int .i64 e.kind, .int .i64 e.day, .string e.key, .string e.text, .int .i64 e.n, .int .i64 e.num, .int .i64 e.den, .bool e.active]] W fun x w' => x = .returned (.agg #[.int .i64 x0.kind, .int .i64 x0.day, .string x0.key, .string x0.text, .int .i64 x0.n, .int .i64 x0.num, .int .i64 x0.den, .bool x0.active]) ∧ Below W.heap.size W w') := fun W => by rw [← hx0]; exact clean_calls e W
          rw [hx0] at hfe hcl
          obtain ⟨q, hq⟩ : ∃ q, refCode vld fracOk R x0 = q := ⟨_, rfl⟩
          have hq2 := hM.code (by omega) hcl
          rw [hq] at hq2
          have HRS : Hid (∀ W, Below wr.heap.size wr W → Calls Tryz.prog 53 #[u5, .agg #[.int .i64 x0.kind, .int .i64 x0.day, .string x0.key, .string x0.text, .int .i64 x0.n, .int .i64 x0.num, .int .i64 x0.den, .bool x0.active]] W fun x w' => ∃ v', x = .returned (.tuple #[v', .int .i64 q]) ∧ TAt w' v' (refSet vld fracOk R x0) ∧ Below W.heap.size W w') := fun W hW => by
            rw [← hq]
            exact rset_calls keys_len u5 R x0 W (hM.ref.below hW) (Nat.le_trans hM.len (by omega)) hcl.kind hfe.key hfe.text
          have HLS : Hid (∀ W, Below wr.heap.size wr W → Calls Tryz.prog 25 #[.pointer (some ⟨T.p, 0, none⟩), .agg #[.int .i64 x0.kind, .int .i64 x0.day, .string x0.key, .string x0.text, .int .i64 x0.n, .int .i64 x0.num, .int .i64 x0.den, .bool x0.active]] W fun x w' => x = .returned (.int .i64 q) ∧ TabAt w' T (tabSet vld fracOk t x0) ∧ ∃ r, T.Row r ∧ W.grownBy w' (some r)) := fun W hW => by
            rw [← hq2]
            exact lset_calls T t x0 W hcl.kind hfe.key hfe.text (hM.tab.below hW) hM.rel.ok (hM.rel.fit (Nat.le_trans hM.len (by omega)))
          have HCC := Lib.hid hcl
          have hi1 : (i : Int) < (L.length : Int) := by omega
          have hi3 : (i : Int) < 30 := by omega
          have hmx := HMX.out
          have W0 : Below wr.heap.size wr wr := Below.refl _ _
          clear he hfe hcl hx0 hq hq2 hM
          go_wp2_with (first
            | (go_at_call 24; refine (HCL.out _).mono ?_; rintro x w2 ⟨rfl, hb2⟩; have W2a := hb2.alloc hb2.size (.cells #[.int .i64 x0.kind, .int .i64 x0.day, .string x0.key, .string x0.text, .int .i64 x0.n, .int .i64 x0.num, .int .i64 x0.den, .bool x0.active] 33))
            | (go_at_call 53; refine (HRS.out _ W2a).mono ?_; rintro x w3 ⟨v3, rfl, hT3, hb3⟩; have W3 := below_over W2a hb3 W2a.size; have hb3' : Below (w2.heap.size + 1) (w2.alloc (.cells #[.int .i64 x0.kind, .int .i64 x0.day, .string x0.key, .string x0.text, .int .i64 x0.n, .int .i64 x0.num, .int .i64 x0.den, .bool x0.active] 33)) w3 := (by simpa using hb3); have cx3 := box_cell hb3')
            | (go_at_call 25; refine (HLS.out _ W3).mono ?_; rintro x w4 ⟨rfl, hT4, r, hr, hg4⟩))
          have K4 : Below w.heap.size w w4 := (below_over K W3 K.size).grown hg4 (Nat.le_trans K.size W3.size) (fun k e => by cases e; exact HF.out.row hr)
          refine ⟨⟨i + 1, _, _, rfl, by omega, by omega, HM.out.next (by omega) HCC.out W3 hT3 hT4 hr hg4, K4⟩, by simp [intOf]; omega⟩
        · obtain rfl : i = 30 := by omega
          have hi1 : (30 : Int) < (L.length : Int) := by omega
          clear hM
          go_wp2
          go_ret2
          exact ⟨T, t, _, R, rfl, HM.out, K⟩
      · obtain rfl : i = L.length := by omega
        have HM30 : Hid (MadeAt w.heap.size wr T t u5 R 30) := ⟨hM.tab, hM.rel, hM.ref, Nat.le_trans hM.len hi30, hM.frm⟩
        clear hM
        go_wp2
        go_ret2
        exact ⟨T, t, _, R, rfl, HM30.out, K⟩
end Go.Proofs.YtmbhkfclpkopiaaGreatDoor

namespace Go.Proofs.YtmbhkfclpkopiaaGreatDoor
open Go.RowKit
set_option linter.unusedVariables false
set_option linter.unusedSimpArgs false

theorem agreeM {t : Tab} {R : List E} (h : Rel t R) (day : Int) (k : ByteArray) : (optV encM zencM (seAt (ser t.mem k) day)).toArray = #[.string ((refAt R 0 day k).getD zE).key, .string ((refAt R 0 day k).getD zE).text, .bool ((refAt R 0 day k).getD zE).active] ∧ (seAt (ser t.mem k) day).isSome = (refAt R 0 day k).isSome := by
  have e : seAt (ser t.mem k) day = (refAt R 0 day k).map mvOf := h.memberAt day k
  rw [e]
  cases refAt R 0 day k <;> exact ⟨rfl, rfl⟩
theorem agreeS {t : Tab} {R : List E} (h : Rel t R) (day : Int) (k : ByteArray) : (optV encS zencS (seAt (ser t.sec k) day)).toArray = #[.string ((refAt R 1 day k).getD zE).key, .string ((refAt R 1 day k).getD zE).text, .int .i64 ((refAt R 1 day k).getD zE).n, .bool ((refAt R 1 day k).getD zE).active] ∧ (seAt (ser t.sec k) day).isSome = (refAt R 1 day k).isSome := by
  have e : seAt (ser t.sec k) day = (refAt R 1 day k).map svOf := h.securityAt day k
  rw [e]
  cases refAt R 1 day k <;> exact ⟨rfl, rfl⟩
theorem agreeP {t : Tab} {R : List E} (h : Rel t R) (day : Int) (k : ByteArray) : (((seAt (ser t.pri k) day).map (·.2)).getD 0) = ((refAt R 2 day k).getD zE).n ∧ (((seAt (ser t.pri k) day).map (·.1)).getD 0) = ((refAt R 2 day k).getD zE).day ∧ (seAt (ser t.pri k) day).isSome = (refAt R 2 day k).isSome := by
  rw [h.priceAt day k]
  cases refAt R 2 day k <;> exact ⟨rfl, rfl, rfl⟩
theorem agreeF {t : Tab} {R : List E} (h : Rel t R) (day : Int) (k : ByteArray) : (optV encF zencF (seAt (ser t.hc k) day)).toArray = #[.int .i64 ((refAt R 3 day k).getD zE).num, .int .i64 ((refAt R 3 day k).getD zE).den] ∧ (seAt (ser t.hc k) day).isSome = (refAt R 3 day k).isSome := by
  rw [h.hairAt day k]
  cases refAt R 3 day k <;> exact ⟨rfl, rfl⟩

/-- The cells of a block of eight. -/
theorem cells8 {W : World} {b : Nat} {t : TypeId} {a0 a1 a2 a3 a4 a5 a6 a7 : Value} (h : W.heap[b]? = some (.cells #[a0, a1, a2, a3, a4, a5, a6, a7] t (0, 0))) : (∀ j, W.cell? ⟨b, j, none⟩ = ([a0, a1, a2, a3, a4, a5, a6, a7] : List Value)[j]?) ∧ ∀ j, W.frozen? ⟨b, j, none⟩ = false :=
  ⟨fun j => by simp [World.cell?, h], fun j => by simp [World.frozen?, h]⟩


set_option maxRecDepth 10000 in
set_option maxHeartbeats 4000000 in
theorem same_calls (T : TB) (t : Tab) (v : Value) (R : List E) (day : Int) (key : ByteArray) (w : World) (h : TabAt w T t) (hr : Rel t R) (hv : TAt w v R) (hl : R.length ≤ 100) :
    Calls Tryz.prog 22 #[.pointer (some ⟨T.p, 0, none⟩), v, .int .i64 day, .string key] w fun x w' => x = .returned (.bool true) ∧ Below w.heap.size w w' := by
  have hfit := hr.fit (Nat.le_trans hl (show 100 ≤ 900 by decide))
  have hok := hr.ok
  have FT : Hid (∀ W, Below w.heap.size w W → TabAt W T t) := fun W hW => h.below hW
  have FV : Hid (∀ W, Below w.heap.size w W → TAt W v R) := fun W hW => hv.below hW
  have HL : Hid (R.length ≤ 1000) := Nat.le_trans hl (by decide)
  have HGM : Hid (∀ W, Below w.heap.size w W → Calls Tryz.prog 26 #[.pointer (some ⟨T.p, 0, none⟩), .int .i64 day, .string key] W fun e w' => e = .returned (.tuple #[.agg #[.string ((refAt R 0 day key).getD zE).key, .string ((refAt R 0 day key).getD zE).text, .bool ((refAt R 0 day key).getD zE).active], .bool (refAt R 0 day key).isSome]) ∧ Below W.heap.size W w') := fun W hW => by
    have := get_M T t day key W (FT.out W hW) hok.mem hfit.mem
    rw [(agreeM hr day key).1, (agreeM hr day key).2] at this
    exact this
  have HGS : Hid (∀ W, Below w.heap.size w W → Calls Tryz.prog 27 #[.pointer (some ⟨T.p, 0, none⟩), .int .i64 day, .string key] W fun e w' => e = .returned (.tuple #[.agg #[.string ((refAt R 1 day key).getD zE).key, .string ((refAt R 1 day key).getD zE).text, .int .i64 ((refAt R 1 day key).getD zE).n, .bool ((refAt R 1 day key).getD zE).active], .bool (refAt R 1 day key).isSome]) ∧ Below W.heap.size W w') := fun W hW => by
    have := get_S T t day key W (FT.out W hW) hok.sec hfit.sec
    rw [(agreeS hr day key).1, (agreeS hr day key).2] at this
    exact this
  have HGP : Hid (∀ W, Below w.heap.size w W → Calls Tryz.prog 28 #[.pointer (some ⟨T.p, 0, none⟩), .int .i64 day, .string key] W fun e w' => e = .returned (.tuple #[.int .i64 ((refAt R 2 day key).getD zE).n, .int .i64 ((refAt R 2 day key).getD zE).day, .bool (refAt R 2 day key).isSome]) ∧ Below W.heap.size W w') := fun W hW => by
    have := get_P T t day key W (FT.out W hW) hok.pri hfit.pri
    rw [(agreeP hr day key).1, (agreeP hr day key).2.1, (agreeP hr day key).2.2] at this
    exact this
  have HGF : Hid (∀ W, Below w.heap.size w W → Calls Tryz.prog 29 #[.pointer (some ⟨T.p, 0, none⟩), .int .i64 day, .string key] W fun e w' => e = .returned (.tuple #[.agg #[.int .i64 ((refAt R 3 day key).getD zE).num, .int .i64 ((refAt R 3 day key).getD zE).den], .bool (refAt R 3 day key).isSome]) ∧ Below W.heap.size W w') := fun W hW => by
    have := get_F T t day key W (FT.out W hW) hok.hc hfit.hc
    rw [(agreeF hr day key).1, (agreeF hr day key).2] at this
    exact this
  have HGA : Hid (∀ k W, Below w.heap.size w W → Calls Tryz.prog 54 #[v, .int .i64 k, .int .i64 day, .string key] W fun e w' => e = .returned (.tuple #[.agg (encT ((refAt R k day key).getD zE)).toArray, .bool (refAt R k day key).isSome]) ∧ Below W.heap.size W w') := fun k W hW => rat_calls v R k day key W (FV.out W hW) HL.out
  obtain ⟨e0, he0⟩ : ∃ e0 : E, (refAt R 0 day key).getD zE = e0 := ⟨_, rfl⟩
  obtain ⟨e1, he1⟩ : ∃ e1 : E, (refAt R 1 day key).getD zE = e1 := ⟨_, rfl⟩
  obtain ⟨e2, he2⟩ : ∃ e2 : E, (refAt R 2 day key).getD zE = e2 := ⟨_, rfl⟩
  obtain ⟨e3, he3⟩ : ∃ e3 : E, (refAt R 3 day key).getD zE = e3 := ⟨_, rfl⟩
  obtain ⟨b0, hb0⟩ : ∃ b0 : Bool, (refAt R 0 day key).isSome = b0 := ⟨_, rfl⟩
  obtain ⟨b1, hb1⟩ : ∃ b1 : Bool, (refAt R 1 day key).isSome = b1 := ⟨_, rfl⟩
  obtain ⟨b2, hb2⟩ : ∃ b2 : Bool, (refAt R 2 day key).isSome = b2 := ⟨_, rfl⟩
  obtain ⟨b3, hb3⟩ : ∃ b3 : Bool, (refAt R 3 day key).isSome = b3 := ⟨_, rfl⟩
  have HA0 : Hid (∀ W, Below w.heap.size w W → Calls Tryz.prog 54 #[v, .int .i64 0, .int .i64 day, .string key] W fun e w' => e = .returned (.tuple #[.agg #[.int .i64 e0.kind, .int .i64 e0.day, .string e0.key, .string e0.text, .int .i64 e0.n, .int .i64 e0.num, .int .i64 e0.den, .bool e0.active], .bool b0]) ∧ Below W.heap.size W w') := by
    rw [← he0, ← hb0]; exact HGA.out 0
  have HA1 : Hid (∀ W, Below w.heap.size w W → Calls Tryz.prog 54 #[v, .int .i64 1, .int .i64 day, .string key] W fun e w' => e = .returned (.tuple #[.agg #[.int .i64 e1.kind, .int .i64 e1.day, .string e1.key, .string e1.text, .int .i64 e1.n, .int .i64 e1.num, .int .i64 e1.den, .bool e1.active], .bool b1]) ∧ Below W.heap.size W w') := by
    rw [← he1, ← hb1]; exact HGA.out 1
  have HA2 : Hid (∀ W, Below w.heap.size w W → Calls Tryz.prog 54 #[v, .int .i64 2, .int .i64 day, .string key] W fun e w' => e = .returned (.tuple #[.agg #[.int .i64 e2.kind, .int .i64 e2.day, .string e2.key, .string e2.text, .int .i64 e2.n, .int .i64 e2.num, .int .i64 e2.den, .bool e2.active], .bool b2]) ∧ Below W.heap.size W w') := by
    rw [← he2, ← hb2]; exact HGA.out 2
  have HA3 : Hid (∀ W, Below w.heap.size w W → Calls Tryz.prog 54 #[v, .int .i64 3, .int .i64 day, .string key] W fun e w' => e = .returned (.tuple #[.agg #[.int .i64 e3.kind, .int .i64 e3.day, .string e3.key, .string e3.text, .int .i64 e3.n, .int .i64 e3.num, .int .i64 e3.den, .bool e3.active], .bool b3]) ∧ Below W.heap.size W w') := by
    rw [← he3, ← hb3]; exact HGA.out 3
  rw [he0, hb0] at HGM
  rw [he1, hb1] at HGS
  rw [he2, hb2] at HGP
  rw [he3, hb3] at HGF
  clear he0 he1 he2 he3 hb0 hb1 hb2 hb3 HGA h hr hv hl hfit hok FT FV HL
  have K0 : Below w.heap.size w w := Below.refl _ _
  go_enter Tryz.func22, Tryz.ntmps22
  go_wp2_with (first
    | (go_at_call 26; refine (HGM.out _ K0).mono ?_; rintro x w1 ⟨rfl, hb1⟩; have K1 := hb1; have hw1 := hb1.size; have K1a := K1.alloc hw1 (.cells #[.string e0.key, .string e0.text, .bool e0.active] 40))
    | (go_at_call 54; (with_reducible refine (HA0.out _ K1a).mono ?_); rintro x w2 ⟨rfl, hb2⟩; have hsz2 : w1.heap.size + 1 ≤ w2.heap.size := (by have := hb2.size; simpa using this); have K2 := below_over K1a hb2 (by simp; omega); have hm2 : Below (w1.heap.size + 1) (w1.alloc (.cells #[.string e0.key, .string e0.text, .bool e0.active] 40)) w2 := (by simpa using hb2); have cm := box_cell (hm2.alloc hsz2 (.cells #[.int .i64 e0.kind, .int .i64 e0.day, .string e0.key, .string e0.text, .int .i64 e0.n, .int .i64 e0.num, .int .i64 e0.den, .bool e0.active] 33)); have cx := box_cell (Below.refl (w2.heap.size + 1) (w2.alloc (.cells #[.int .i64 e0.kind, .int .i64 e0.day, .string e0.key, .string e0.text, .int .i64 e0.n, .int .i64 e0.num, .int .i64 e0.den, .bool e0.active] 33))); have K2a := K2.alloc (by omega) (.cells #[.int .i64 e0.kind, .int .i64 e0.day, .string e0.key, .string e0.text, .int .i64 e0.n, .int .i64 e0.num, .int .i64 e0.den, .bool e0.active] 33); have hX2 := heap_alloc_new w2 (.cells #[.int .i64 e0.kind, .int .i64 e0.day, .string e0.key, .string e0.text, .int .i64 e0.n, .int .i64 e0.num, .int .i64 e0.den, .bool e0.active] 33))
    | (go_at_call 27; refine (HGS.out _ K2a).mono ?_; rintro x w3 ⟨rfl, hb3⟩; have hsz3 : w2.heap.size + 1 ≤ w3.heap.size := (by have := hb3.size; simpa using this); have K3 := below_over K2a hb3 (by simp; omega); have hX3 := (hb3.block w2.heap.size (by simp)).trans hX2; have K3a := K3.alloc (by omega) (.cells #[.string e1.key, .string e1.text, .int .i64 e1.n, .bool e1.active] 44); have hX3a := (Below.heap_alloc w3 (.cells #[.string e1.key, .string e1.text, .int .i64 e1.n, .bool e1.active] 44) w2.heap.size (by omega)).trans hX3)
    | (go_at_call 54; (with_reducible refine (HA1.out _ K3a).mono ?_); rintro x w4 ⟨rfl, hb4⟩; have hsz4 : w3.heap.size + 1 ≤ w4.heap.size := (by have := hb4.size; simpa using this); have K4 := below_over K3a hb4 (by simp; omega); have hX4 := (hb4.block w2.heap.size (by simp; omega)).trans hX3a; obtain ⟨cx4, fx4⟩ := cells8 hX4; have hs4 : Below (w3.heap.size + 1) (w3.alloc (.cells #[.string e1.key, .string e1.text, .int .i64 e1.n, .bool e1.active] 44)) w4 := (by simpa using hb4); have cs4 := box_cell hs4; have P4 : Below w.heap.size w (put8 w4 w2.heap.size (.int .i64 e1.kind) (.int .i64 e1.day) (.string e1.key) (.string e1.text) (.int .i64 e1.n) (.int .i64 e1.num) (.int .i64 e1.den) (.bool e1.active)) := put8_below K4 (by omega); have Q4 : w2.heap.size < (put8 w4 w2.heap.size (.int .i64 e1.kind) (.int .i64 e1.day) (.string e1.key) (.string e1.text) (.int .i64 e1.n) (.int .i64 e1.num) (.int .i64 e1.den) (.bool e1.active)).heap.size := (by rw [put8_size]; omega); have X4 := put8_at (v0 := .int .i64 e1.kind) (v1 := .int .i64 e1.day) (v2 := .string e1.key) (v3 := .string e1.text) (v4 := .int .i64 e1.n) (v5 := .int .i64 e1.num) (v6 := .int .i64 e1.den) (v7 := .bool e1.active) hX4)
    | (go_at_call 28; refine (HGP.out _ P4).mono ?_; rintro x w5 ⟨rfl, hb5⟩; have K5 := below_over P4 hb5 (by rw [put8_size]; omega); have hsz5 : w2.heap.size + 1 ≤ w5.heap.size := Nat.lt_of_lt_of_le Q4 hb5.size; have hX5 := (hb5.block w2.heap.size Q4).trans X4)
    | (go_at_call 54; (with_reducible refine (HA2.out _ K5).mono ?_); rintro x w6 ⟨rfl, hb6⟩; have K6 := below_over K5 hb6 (by omega); have hsz6 : w2.heap.size + 1 ≤ w6.heap.size := Nat.le_trans hsz5 hb6.size; have hX6 := (hb6.block w2.heap.size (by omega)).trans hX5; obtain ⟨cx6, fx6⟩ := cells8 hX6; have P6 : Below w.heap.size w (put8 w6 w2.heap.size (.int .i64 e2.kind) (.int .i64 e2.day) (.string e2.key) (.string e2.text) (.int .i64 e2.n) (.int .i64 e2.num) (.int .i64 e2.den) (.bool e2.active)) := put8_below K6 (by omega); have Q6 : w2.heap.size < (put8 w6 w2.heap.size (.int .i64 e2.kind) (.int .i64 e2.day) (.string e2.key) (.string e2.text) (.int .i64 e2.n) (.int .i64 e2.num) (.int .i64 e2.den) (.bool e2.active)).heap.size := (by rw [put8_size]; omega); have X6 := put8_at (v0 := .int .i64 e2.kind) (v1 := .int .i64 e2.day) (v2 := .string e2.key) (v3 := .string e2.text) (v4 := .int .i64 e2.n) (v5 := .int .i64 e2.num) (v6 := .int .i64 e2.den) (v7 := .bool e2.active) hX6)
    | (go_at_call 29; refine (HGF.out _ P6).mono ?_; rintro x w7 ⟨rfl, hb7⟩; have K7 := below_over P6 hb7 (by rw [put8_size]; omega); have hsz7 : w2.heap.size + 1 ≤ w7.heap.size := Nat.lt_of_lt_of_le Q6 hb7.size; have hX7 := (hb7.block w2.heap.size Q6).trans X6; have K7a := K7.alloc (by omega) (.cells #[.int .i64 e3.num, .int .i64 e3.den] 49); have hX7a := (Below.heap_alloc w7 (.cells #[.int .i64 e3.num, .int .i64 e3.den] 49) w2.heap.size (by omega)).trans hX7)
    | (go_at_call 54; (with_reducible refine (HA3.out _ K7a).mono ?_); rintro x w8 ⟨rfl, hb8⟩; have hsz8 : w7.heap.size + 1 ≤ w8.heap.size := (by have := hb8.size; simpa using this); have K8 := below_over K7a hb8 (by simp; omega); have hX8 := (hb8.block w2.heap.size (by simp; omega)).trans hX7a; obtain ⟨cx8, fx8⟩ := cells8 hX8; have hs8 : Below (w7.heap.size + 1) (w7.alloc (.cells #[.int .i64 e3.num, .int .i64 e3.den] 49)) w8 := (by simpa using hb8); have cs8 := box_cell hs8))
  go_ret
  exact ⟨rfl, put8_below K8 (by omega)⟩
end Go.Proofs.YtmbhkfclpkopiaaGreatDoor

namespace Go.Proofs.YtmbhkfclpkopiaaGreatDoor
set_option linter.unusedVariables false
set_option linter.unusedSimpArgs false

def bka : ByteArray := ⟨#[66, 65, 78, 75, 65]⟩
theorem vld_bka : vld 1 bka = true := by
  have : Vld 1 bka := by
    refine ⟨⟨?_, by decide, by decide⟩, fun e => (by cases e), fun e => (by cases e)⟩
    intro i f c hf hc
    have hi : i < 5 := (List.getElem?_eq_some_iff.1 hc).1
    have : i = 0 ∨ i = 1 ∨ i = 2 ∨ i = 3 ∨ i = 4 := by omega
    rcases this with rfl | rfl | rfl | rfl | rfl
    · have hf' : some 249 = some f := hf
      have hc' : some (66 : UInt8) = some c := hc
      cases hf'; cases hc'; decide
    · have hf' : some 250 = some f := hf
      have hc' : some (65 : UInt8) = some c := hc
      cases hf'; cases hc'; decide
    · have hf' : some 250 = some f := hf
      have hc' : some (78 : UInt8) = some c := hc
      cases hf'; cases hc'; decide
    · have hf' : some 250 = some f := hf
      have hc' : some (75 : UInt8) = some c := hc
      cases hf'; cases hc'; decide
    · have hf' : some 250 = some f := hf
      have hc' : some (65 : UInt8) = some c := hc
      cases hf'; cases hc'; decide
  unfold vld
  simpa using this

def km1 : MV := ⟨bka, ByteArray.empty, true⟩
def km2 : MV := ⟨bka, ByteArray.empty, false⟩
def kt1 : Tab := ⟨[(bka, [(10, km1)])], [], [], []⟩
def kt2 : Tab := ⟨[(bka, [(10, km1), (20, km2)])], [], [], []⟩

theorem look_bka {V : Type} (s : V) : look [(bka, s)] bka = some s := by
  unfold look
  simp [beq_ba]
theorem ser_bka {V : Type} (s : List (Int × V)) (k : ByteArray) : ser [(bka, s)] k = if k = bka then s else [] := by
  unfold ser look
  by_cases h : k = bka
  · subst h; simp [beq_ba]
  · have : ¬ bka = k := fun e => h e.symm
    simp [beq_ba, h, this]

theorem kcode1 : setMemberE vld Tab.empty 10 km1 = 0 := by
  simp [setMemberE, isDay, vld_bka, stale, ser, look, Tab.empty, km1]
theorem kset1 : setMember vld Tab.empty 10 km1 = kt1 := by
  unfold setMember
  rw [if_pos kcode1]
  simp [Tab.empty, upd, ser, look, seWith, seCut, kt1, km1]
theorem kcode2 : setMemberE vld kt1 20 km2 = 0 := by
  have h1 : ser kt1.mem bka = [(10, km1)] := by simp [kt1, ser_bka]
  have h2 : look kt1.mem bka = some [(10, km1)] := look_bka _
  simp [setMemberE, isDay, vld_bka, stale, h1, h2, km2]
theorem kset2 : setMember vld kt1 20 km2 = kt2 := by
  have h1 : ser kt1.mem bka = [(10, km1)] := by simp [kt1, ser_bka]
  unfold setMember
  rw [if_pos kcode2]
  show ({ kt1 with mem := upd kt1.mem bka (seWith (ser kt1.mem bka) 20 km2) } : Tab) = kt2
  rw [h1]
  simp [kt1, kt2, upd, look, seWith, seCut, beq_ba]
theorem kcode3 : setMemberE vld kt2 19 km2 = 20 := by
  have h1 : ser kt2.mem bka = [(10, km1), (20, km2)] := by simp [kt2, ser_bka]
  simp [setMemberE, isDay, vld_bka, stale, h1, km2]

theorem kok1 : TabOk kt1 := ⟨⟨by simp [KeysNodup, kt1], by simp [kt1], by simp [kt1, Rising]⟩, .nil, .nil, .nil⟩
theorem kok2 : TabOk kt2 := ⟨⟨by simp [KeysNodup, kt2], by simp [kt2], by simp [kt2, Rising]⟩, .nil, .nil, .nil⟩
theorem kfit0 : TabFit 800 Tab.empty := by constructor <;> constructor <;> simp [Tab.empty]
theorem kfit1 : TabFit 800 kt1 := by constructor <;> constructor <;> simp [kt1]
theorem kfit2 : TabFit 800 kt2 := by constructor <;> constructor <;> simp [kt2]

theorem kat9 : memberAt kt2 9 bka = none := by simp [memberAt, kt2, ser_bka, seAt, isDay]
theorem kat15 : memberAt kt2 15 bka = some (10, km1) := by simp [memberAt, kt2, ser_bka, seAt, isDay]
theorem kat25 : memberAt kt2 25 bka = some (20, km2) := by simp [memberAt, kt2, ser_bka, seAt, isDay]

theorem kwhere15 (k : ByteArray) : Where kt2.mem 15 (·.active) k ↔ k = bka := by
  unfold Where
  by_cases h : k = bka
  · subst h
    have := kat15
    unfold memberAt at this
    simp [this, km1]
  · simp [kt2, ser_bka, h, seAt]
theorem kwhere25 (k : ByteArray) : ¬ Where kt2.mem 25 (·.active) k := by
  unfold Where
  by_cases h : k = bka
  · subst h
    have := kat25
    unfold memberAt at this
    simp [this, km2]
  · simp [kt2, ser_bka, h, seAt]
theorem kmembers15 {l : List ByteArray} (h : Listed (Where kt2.mem 15 (·.active)) l) : l = [bka] :=
  Listed.unique (Q := fun k => k = bka) h ⟨by simp, by simp⟩ kwhere15
theorem kmembers25 {l : List ByteArray} (h : Listed (Where kt2.mem 25 (·.active)) l) : l = [] :=
  Listed.unique (Q := fun _ => False) h ⟨by simp, by simp⟩ (fun k => ⟨fun h => absurd h (kwhere25 k), fun h => h.elim⟩)
end Go.Proofs.YtmbhkfclpkopiaaGreatDoor

namespace Go.Proofs.YtmbhkfclpkopiaaGreatDoor
open Go.RowKit
set_option linter.unusedVariables false
set_option linter.unusedSimpArgs false

theorem members_calls (T : TB) (t : Tab) (day : Int) (w : World) (h : TabAt w T t) (hok : TbOk t.mem) (hf : TbFit 900 t.mem) :
    Calls Tryz.prog 31 #[.pointer (some ⟨T.p, 0, none⟩), .int .i64 day] w fun e w' => ∃ v l, e = .returned v ∧ SAt w.heap.size w' v l ∧ Listed (Where t.mem day (·.active)) l ∧ l.length ≤ 900 ∧ Below w.heap.size w w' := by
  obtain ⟨q0, q1, q2, q3⟩ := h.cells
  have HM := h.mem
  have HOK := Lib.hid hok
  have HF := Lib.hid hf
  clear h hok hf
  go_enter Tryz.func31, Tryz.ntmps31
  go_wp2_with (first | (go_at_call 77; refine (where_M T.m0 t.mem day _ HM HOK.out HF.out).mono ?_; rintro e w1 ⟨v, l, rfl, h1, h2, h3, h4⟩))
  go_ret
  exact ⟨v, l, rfl, h1, h2, h3, h4⟩

theorem members_nil (day : Int) (w : World) : Calls Tryz.prog 31 #[.pointer none, .int .i64 day] w fun e w' => e = .returned (.slice none 0 0) ∧ w = w' := by
  go_enter Tryz.func31, Tryz.ntmps31
  go_wp2
  go_ret
  exact ⟨rfl, rfl⟩

theorem memb15 (T : TB) (w : World) (h : TabAt w T kt2) : Calls Tryz.prog 31 #[.pointer (some ⟨T.p, 0, none⟩), .int .i64 15] w fun e w' => ∃ (g cap : Nat), e = .returned (.slice (some ⟨g, 0, none⟩) 1 cap) ∧ w'.cell? ⟨g, 0, none⟩ = some (.string ⟨#[66, 65, 78, 75, 65]⟩) ∧ g < w'.heap.size ∧ Below w.heap.size w w' := by
  refine (members_calls T kt2 15 w h kok2.mem ⟨Nat.le_trans kfit2.mem.1 (by decide), fun x hx => Nat.le_trans (kfit2.mem.2 x hx) (by decide)⟩).mono ?_
  rintro e w' ⟨v, l, rfl, hS, hL, _, hb⟩
  obtain rfl := kmembers15 hL
  rcases row_form hS with ⟨h0, _⟩ | ⟨g, cap, rfl, _, hg, _⟩
  · cases h0
  · exact ⟨g, cap, rfl, SAt.cell hS rfl, hg, hb⟩

theorem memb25 (T : TB) (w : World) (h : TabAt w T kt2) : Calls Tryz.prog 31 #[.pointer (some ⟨T.p, 0, none⟩), .int .i64 25] w fun e w' => ∃ (a : Option Addr) (cap : Nat), e = .returned (.slice a 0 cap) ∧ Below w.heap.size w w' := by
  refine (members_calls T kt2 25 w h kok2.mem ⟨Nat.le_trans kfit2.mem.1 (by decide), fun x hx => Nat.le_trans (kfit2.mem.2 x hx) (by decide)⟩).mono ?_
  rintro e w' ⟨v, l, rfl, hS, hL, _, hb⟩
  obtain rfl := kmembers25 hL
  rcases row_form hS with ⟨_, rfl⟩ | ⟨g, cap, rfl, _, hg, _⟩
  · exact ⟨none, 0, rfl, hb⟩
  · exact ⟨_, cap, rfl, hb⟩

theorem kfit9 : TbFit 900 kt2.mem := ⟨Nat.le_trans kfit2.mem.1 (by decide), fun x hx => Nat.le_trans (kfit2.mem.2 x hx) (by decide)⟩

theorem kget9 (T : TB) (w : World) (h : TabAt w T kt2) : Calls Tryz.prog 26 #[.pointer (some ⟨T.p, 0, none⟩), .int .i64 9, .string ⟨#[66, 65, 78, 75, 65]⟩] w fun e w' => e = .returned (.tuple #[.agg #[.string ⟨#[]⟩, .string ⟨#[]⟩, .bool false], .bool false]) ∧ Below w.heap.size w w' := by
  have := get_M T kt2 9 bka w h kok2.mem kfit9
  have e : seAt (ser kt2.mem bka) 9 = none := kat9
  rw [e] at this
  exact this
theorem kget15 (T : TB) (w : World) (h : TabAt w T kt2) : Calls Tryz.prog 26 #[.pointer (some ⟨T.p, 0, none⟩), .int .i64 15, .string ⟨#[66, 65, 78, 75, 65]⟩] w fun e w' => e = .returned (.tuple #[.agg #[.string ⟨#[66, 65, 78, 75, 65]⟩, .string ⟨#[]⟩, .bool true], .bool true]) ∧ Below w.heap.size w w' := by
  have := get_M T kt2 15 bka w h kok2.mem kfit9
  have e : seAt (ser kt2.mem bka) 15 = some (10, km1) := kat15
  rw [e] at this
  exact this
theorem kget25 (T : TB) (w : World) (h : TabAt w T kt2) : Calls Tryz.prog 26 #[.pointer (some ⟨T.p, 0, none⟩), .int .i64 25, .string ⟨#[66, 65, 78, 75, 65]⟩] w fun e w' => e = .returned (.tuple #[.agg #[.string ⟨#[66, 65, 78, 75, 65]⟩, .string ⟨#[]⟩, .bool false], .bool true]) ∧ Below w.heap.size w w' := by
  have := get_M T kt2 25 bka w h kok2.mem kfit9
  have e : seAt (ser kt2.mem bka) 25 = some (20, km2) := kat25
  rw [e] at this
  exact this

theorem ksz : bka.size ≤ 9223372036854775807 := by decide
theorem ksz0 : (ByteArray.empty).size ≤ 9223372036854775807 := by decide

theorem kput1 (T : TB) (w : World) (h : TabAt w T Tab.empty) : Calls Tryz.prog 65 #[.pointer (some ⟨T.p, 0, none⟩), .int .i64 10, .agg #[.string ⟨#[66, 65, 78, 75, 65]⟩, .string ⟨#[]⟩, .bool true]] w fun e w' => e = .returned (.int .i64 0) ∧ TabAt w' T kt1 ∧ w.grownBy w' (some T.m0) := by
  have := setMember_calls vld vld_says T Tab.empty 10 km1 w ksz ksz0 h .empty kfit0
  rw [kcode1, kset1] at this
  exact this
theorem kput2 (T : TB) (w : World) (h : TabAt w T kt1) : Calls Tryz.prog 65 #[.pointer (some ⟨T.p, 0, none⟩), .int .i64 20, .agg #[.string ⟨#[66, 65, 78, 75, 65]⟩, .string ⟨#[]⟩, .bool false]] w fun e w' => e = .returned (.int .i64 0) ∧ TabAt w' T kt2 ∧ w.grownBy w' (some T.m0) := by
  have := setMember_calls vld vld_says T kt1 20 km2 w ksz ksz0 h kok1 kfit1
  rw [kcode2, kset2] at this
  exact this
theorem kput3 (T : TB) (w : World) (h : TabAt w T kt2) : Calls Tryz.prog 65 #[.pointer (some ⟨T.p, 0, none⟩), .int .i64 19, .agg #[.string ⟨#[66, 65, 78, 75, 65]⟩, .string ⟨#[]⟩, .bool false]] w fun e w' => e = .returned (.int .i64 20) ∧ w.grownBy w' (some T.m0) := by
  have := setMember_calls vld vld_says T kt2 19 km2 w ksz ksz0 h kok2 kfit2
  rw [kcode3] at this
  exact this.mono fun e w' h => ⟨h.1, h.2.2⟩

set_option maxRecDepth 10000 in
set_option maxHeartbeats 4000000 in
theorem known_calls (w : World) : Calls Tryz.prog 21 #[] w fun e w' => e = .returned (.bool true) ∧ Below w.heap.size w w' := by
  go_enter Tryz.func21, Tryz.ntmps21
  go_wp2_with (first
    | (go_at_call 64; refine (new_calls _).mono ?_; rintro x w1 ⟨T, rfl, hT1, hF, K1⟩)
    | (go_at_call 65; (with_reducible refine (kput1 T _ hT1).mono ?_); rintro x w2 ⟨rfl, hT2, hg2⟩; have K2 := K1.grown hg2 K1.size (fun k e => by cases e; exact hF.m0))
    | (go_at_call 65; (with_reducible refine (kput2 T _ hT2).mono ?_); rintro x w3 ⟨rfl, hT3, hg3⟩; have K3 := K2.grown hg3 K2.size (fun k e => by cases e; exact hF.m0))
    | (go_at_call 26; (with_reducible refine (kget9 T _ hT3).mono ?_); rintro x w4 ⟨rfl, hb4⟩; have K4 := below_over K3 hb4 K3.size; have hT4 := (hT3.below hb4).below ((Below.refl w4.heap.size w4).alloc (Nat.le_refl _) (.cells #[.string ⟨#[]⟩, .string ⟨#[]⟩, .bool false] 40)); have K4a := K4.alloc K4.size (.cells #[.string ⟨#[]⟩, .string ⟨#[]⟩, .bool false] 40))
    | (go_at_call 26; (with_reducible refine (kget15 T _ hT4).mono ?_); rintro x w5 ⟨rfl, hb5⟩; have K5 := below_over K4a hb5 K4a.size; have hT5 := (hT4.below hb5).below ((Below.refl w5.heap.size w5).alloc (Nat.le_refl _) (.cells #[.string ⟨#[66, 65, 78, 75, 65]⟩, .string ⟨#[]⟩, .bool true] 40)); have K5a := K5.alloc K5.size (.cells #[.string ⟨#[66, 65, 78, 75, 65]⟩, .string ⟨#[]⟩, .bool true] 40); have hM5 := Below.refl (w5.heap.size + 1) (w5.alloc (.cells #[.string ⟨#[66, 65, 78, 75, 65]⟩, .string ⟨#[]⟩, .bool true] 40)))
    | (go_at_call 26; (with_reducible refine (kget25 T _ hT5).mono ?_); rintro x w6 ⟨rfl, hb6⟩; have K6 := below_over K5a hb6 K5a.size; have hT6 := (hT5.below hb6).below ((Below.refl w6.heap.size w6).alloc (Nat.le_refl _) (.cells #[.string ⟨#[66, 65, 78, 75, 65]⟩, .string ⟨#[]⟩, .bool false] 40)); have K6a := K6.alloc K6.size (.cells #[.string ⟨#[66, 65, 78, 75, 65]⟩, .string ⟨#[]⟩, .bool false] 40); have hM6 := (below_over hM5 hb6 (by simp)).alloc (by have := hb6.size; simp at this; omega) (.cells #[.string ⟨#[66, 65, 78, 75, 65]⟩, .string ⟨#[]⟩, .bool false] 40); have hN6 := Below.refl (w6.heap.size + 1) (w6.alloc (.cells #[.string ⟨#[66, 65, 78, 75, 65]⟩, .string ⟨#[]⟩, .bool false] 40)); have hz6 : w5.heap.size + 1 ≤ w6.heap.size := (by have := hb6.size; simpa using this))
    | (go_at_call 31; (with_reducible refine (memb15 T _ hT6).mono ?_); rintro x w7 ⟨g, cap, rfl, hc7, hg7, hb7⟩; have K7 := below_over K6a hb7 K6a.size; have hT7 := hT6.below hb7; have hM7 := box_cell (below_over hM6 hb7 (by simp; omega)); have hN7 := box_cell (below_over hN6 hb7 (by simp)))
    | (go_at_call 31; (with_reducible refine (memb25 T _ hT7).mono ?_); rintro x w8 ⟨a8, cap8, rfl, hb8⟩; have K8 := below_over K7 hb8 K7.size; have hT8 := hT7.below hb8)
    | (go_at_call 65; (with_reducible refine (kput3 T _ hT8).mono ?_); rintro x w9 ⟨rfl, hg9⟩; have K9 := K8.grown hg9 K8.size (fun k e => by cases e; exact hF.m0)))
  go_ret
  exact ⟨rfl, K9⟩
end Go.Proofs.YtmbhkfclpkopiaaGreatDoor
