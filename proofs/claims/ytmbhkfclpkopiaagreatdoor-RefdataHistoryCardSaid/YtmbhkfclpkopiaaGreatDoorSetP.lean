/- SetPrice. -/
import Derived.Test.YtmbhkfclpkopiaaGreatDoorSetS
namespace Go.Proofs.YtmbhkfclpkopiaaGreatDoor
open Go.RowKit
set_option linter.unusedVariables false
set_option linter.unusedSimpArgs false

theorem optV_S (o : Option (Int × SV)) : ∃ i s l a, (optV encS zencS o).toArray = #[.string i, .string s, .int .i64 l, .bool a] := by
  cases o with
  | none => exact ⟨_, _, _, _, rfl⟩
  | some x => exact ⟨_, _, _, _, rfl⟩

theorem prices_calls (T : TB) (t : Tab) (w : World) (h : TabAt w T t) : Calls Tryz.prog 121 #[.pointer (some ⟨T.p, 0, none⟩)] w fun e w' => e = .returned (.map (some T.m2)) ∧ w = w' := by
  obtain ⟨q0, q1, q2, q3⟩ := h.cells
  clear h
  go_enter Tryz.func121, Tryz.ntmps121
  go_wp2
  go_ret
  exact ⟨rfl, rfl⟩
theorem hairs_calls (T : TB) (t : Tab) (w : World) (h : TabAt w T t) : Calls Tryz.prog 124 #[.pointer (some ⟨T.p, 0, none⟩)] w fun e w' => e = .returned (.map (some T.m3)) ∧ w = w' := by
  obtain ⟨q0, q1, q2, q3⟩ := h.cells
  clear h
  go_enter Tryz.func124, Tryz.ntmps124
  go_wp2
  go_ret
  exact ⟨rfl, rfl⟩

def setPri (t : Tab) (day : Int) (k : ByteArray) (v : Int) (ok : Bool) : Tab := if setE t (ser t.pri k) day k ok = 0 then { t with pri := upd t.pri k (seWith (ser t.pri k) day v) } else t
def setHc (t : Tab) (day : Int) (k : ByteArray) (v : FV) (ok : Bool) : Tab := if setE t (ser t.hc k) day k ok = 0 then { t with hc := upd t.hc k (seWith (ser t.hc k) day v) } else t


set_option maxRecDepth 10000 in
set_option maxHeartbeats 1000000 in
theorem setP_calls (T : TB) (t : Tab) (day : Int) (k : ByteArray) (v : Int) (ok : Bool) (w : World) (h : TabAt w T t) (hOK : TabOk t) (hF : TabFit 800 t) :
    Calls Tryz.prog 120 #[.pointer (some ⟨T.p, 0, none⟩), .func (.func 121) #[] #[], .int .i64 day, .string k, .int .i64 v, .bool ok] w fun e w' => e = .returned (.int .i64 (setE t (ser t.pri k) day k ok)) ∧ TabAt w' T (setPri t day k v ok) ∧ w.grownBy w' (some T.m2) := by
  have K : Below w.heap.size w w := Below.refl _ _
  have hw : w.heap.size ≤ w.heap.size := Nat.le_refl _
  have FT : Hid (∀ W, Below w.heap.size w W → TabAt W T t) := fun W hW => h.below hW
  have hl : (ser t.pri k).length ≤ 1000 := Nat.le_trans (hF.pri.ser _) (by decide)
  have hl9 := Lib.hid (Nat.le_trans (hF.pri.ser k) (show 800 ≤ 900 by decide))
  have hok := Lib.hid hOK.sec
  have hf : Hid (TbFit 900 t.sec) := ⟨Nat.le_trans hF.sec.1 (by decide), fun x hx => Nat.le_trans (hF.sec.2 x hx) (by decide)⟩
  obtain ⟨i1, s1, l1, a1, hXM⟩ := optV_S (seAt (ser t.sec k) day)
  obtain ⟨ms, hms⟩ : ∃ b, (seAt (ser t.sec k) day).isSome = b := ⟨_, rfl⟩
  have HXM := Lib.hid hXM
  have HMS := Lib.hid hms
  clear hOK hF h hXM
  cases hd : isDay day with
  | false =>
    have HE : Hid (setE t (ser t.pri k) day k ok = 28) := by show setE t (ser t.pri k) day k ok = 28; simp [setE, hd]
    have HS : Hid (setPri t day k v ok = t) := by show setPri t day k v ok = t; rw [setPri, HE.out]; rfl
    have HD := Lib.hid hd
    clear hd hms
    go_enter Tryz.func120, Tryz.ntmps120
    go_wp2_with (first
      | (go_at_call 121; refine (prices_calls T t _ (FT.out _ K)).mono ?_; rintro e w' ⟨rfl, rfl⟩)
      | (at_lookup; refine wpList_lookup_ser _ rfl _ _ 144 false rfl 9 154 Tryz.underlying144 Tryz.underlying9 (zeroV_154 _) T.m2 t.pri rfl (FT.out _ K).pri k rfl ?_; intro sv hsv)
      | (go_at_call 27; refine (get_S T t day _ _ (FT.out _ K) hok.out hf.out).mono ?_; rintro e w2 ⟨rfl, hb2⟩; rw [HXM.out, HMS.out]; replace hsv := hsv.below hb2; replace K := below_over K hb2 (Nat.le_refl _); replace hw := hb2.size; replace hsv := hsv.below ((Below.refl _ _).alloc (Nat.le_refl _) (.cells #[.string i1, .string s1, .int .i64 l1, .bool a1] 44)); replace K := K.alloc hw (.cells #[.string i1, .string s1, .int .i64 l1, .bool a1] 44); replace hw := le_trans' hw (sz_alloc _ (.cells #[.string i1, .string s1, .int .i64 l1, .bool a1] 44)))
      | (go_at_call 111; refine (isDay_calls _ _).mono ?_; rintro e w' ⟨rfl, rfl⟩; rw [HD.out])
      | (go_at_call 178; refine (stale_P _ _ day _ hsv hl).mono ?_; rintro e w4 ⟨rfl, hb4⟩; rw [HST.out]; replace hsv := hsv.below hb4; replace K := below_over K hb4 hw; replace hw := le_trans' hw hb4.size)
      | (go_at_call 179; refine (with_P _ _ day v _ hsv hl9.out).mono ?_; rintro e w5 ⟨v5, rfl, hsv5, hb5⟩; replace K := below_over K hb5 hw; obtain ⟨w6, hrun6, hm6, hg6, hs6⟩ := (FT.out _ K).pri.run_update Tryz.underlying144 Tryz.underlying9 k v5 _ (steady_ser _ _ _) hsv5))
    go_ret
    refine ⟨ret_int HE.out.symm, ?_⟩
    rw [HS.out]
    exact ⟨FT.out _ K, Below.grow _ K⟩
  | true =>
  have HD := Lib.hid hd
  cases ms with
  | false =>
    have HE : Hid (setE t (ser t.pri k) day k ok = 9) := by show setE t (ser t.pri k) day k ok = 9; simp [setE, hd, securityAt, hms]
    have HS : Hid (setPri t day k v ok = t) := by show setPri t day k v ok = t; rw [setPri, HE.out]; rfl
    clear hd hms
    go_enter Tryz.func120, Tryz.ntmps120
    go_wp2_with (first
      | (go_at_call 121; refine (prices_calls T t _ (FT.out _ K)).mono ?_; rintro e w' ⟨rfl, rfl⟩)
      | (at_lookup; refine wpList_lookup_ser _ rfl _ _ 144 false rfl 9 154 Tryz.underlying144 Tryz.underlying9 (zeroV_154 _) T.m2 t.pri rfl (FT.out _ K).pri k rfl ?_; intro sv hsv)
      | (go_at_call 27; refine (get_S T t day _ _ (FT.out _ K) hok.out hf.out).mono ?_; rintro e w2 ⟨rfl, hb2⟩; rw [HXM.out, HMS.out]; replace hsv := hsv.below hb2; replace K := below_over K hb2 (Nat.le_refl _); replace hw := hb2.size; replace hsv := hsv.below ((Below.refl _ _).alloc (Nat.le_refl _) (.cells #[.string i1, .string s1, .int .i64 l1, .bool a1] 44)); replace K := K.alloc hw (.cells #[.string i1, .string s1, .int .i64 l1, .bool a1] 44); replace hw := le_trans' hw (sz_alloc _ (.cells #[.string i1, .string s1, .int .i64 l1, .bool a1] 44)))
      | (go_at_call 111; refine (isDay_calls _ _).mono ?_; rintro e w' ⟨rfl, rfl⟩; rw [HD.out])
      | (go_at_call 178; refine (stale_P _ _ day _ hsv hl).mono ?_; rintro e w4 ⟨rfl, hb4⟩; rw [HST.out]; replace hsv := hsv.below hb4; replace K := below_over K hb4 hw; replace hw := le_trans' hw hb4.size)
      | (go_at_call 179; refine (with_P _ _ day v _ hsv hl9.out).mono ?_; rintro e w5 ⟨v5, rfl, hsv5, hb5⟩; replace K := below_over K hb5 hw; obtain ⟨w6, hrun6, hm6, hg6, hs6⟩ := (FT.out _ K).pri.run_update Tryz.underlying144 Tryz.underlying9 k v5 _ (steady_ser _ _ _) hsv5))
    go_ret
    refine ⟨ret_int HE.out.symm, ?_⟩
    rw [HS.out]
    exact ⟨FT.out _ K, Below.grow _ K⟩
  | true =>
  cases ok with
  | false =>
    have HE : Hid (setE t (ser t.pri k) day k false = 2) := by show setE t (ser t.pri k) day k false = 2; simp [setE, hd, securityAt, hms]
    have HS : Hid (setPri t day k v false = t) := by show setPri t day k v false = t; rw [setPri, HE.out]; rfl
    clear hd hms
    go_enter Tryz.func120, Tryz.ntmps120
    go_wp2_with (first
      | (go_at_call 121; refine (prices_calls T t _ (FT.out _ K)).mono ?_; rintro e w' ⟨rfl, rfl⟩)
      | (at_lookup; refine wpList_lookup_ser _ rfl _ _ 144 false rfl 9 154 Tryz.underlying144 Tryz.underlying9 (zeroV_154 _) T.m2 t.pri rfl (FT.out _ K).pri k rfl ?_; intro sv hsv)
      | (go_at_call 27; refine (get_S T t day _ _ (FT.out _ K) hok.out hf.out).mono ?_; rintro e w2 ⟨rfl, hb2⟩; rw [HXM.out, HMS.out]; replace hsv := hsv.below hb2; replace K := below_over K hb2 (Nat.le_refl _); replace hw := hb2.size; replace hsv := hsv.below ((Below.refl _ _).alloc (Nat.le_refl _) (.cells #[.string i1, .string s1, .int .i64 l1, .bool a1] 44)); replace K := K.alloc hw (.cells #[.string i1, .string s1, .int .i64 l1, .bool a1] 44); replace hw := le_trans' hw (sz_alloc _ (.cells #[.string i1, .string s1, .int .i64 l1, .bool a1] 44)))
      | (go_at_call 111; refine (isDay_calls _ _).mono ?_; rintro e w' ⟨rfl, rfl⟩; rw [HD.out])
      | (go_at_call 178; refine (stale_P _ _ day _ hsv hl).mono ?_; rintro e w4 ⟨rfl, hb4⟩; rw [HST.out]; replace hsv := hsv.below hb4; replace K := below_over K hb4 hw; replace hw := le_trans' hw hb4.size)
      | (go_at_call 179; refine (with_P _ _ day v _ hsv hl9.out).mono ?_; rintro e w5 ⟨v5, rfl, hsv5, hb5⟩; replace K := below_over K hb5 hw; obtain ⟨w6, hrun6, hm6, hg6, hs6⟩ := (FT.out _ K).pri.run_update Tryz.underlying144 Tryz.underlying9 k v5 _ (steady_ser _ _ _) hsv5))
    go_ret
    refine ⟨ret_int HE.out.symm, ?_⟩
    rw [HS.out]
    exact ⟨FT.out _ K, Below.grow _ K⟩
  | true =>
  cases hst : stale (ser t.pri k) day with
  | true =>
    have HST := Lib.hid hst
    have HE : Hid (setE t (ser t.pri k) day k true = 20) := by show setE t (ser t.pri k) day k true = 20; simp [setE, hd, securityAt, hms, hst]
    have HS : Hid (setPri t day k v true = t) := by show setPri t day k v true = t; rw [setPri, HE.out]; rfl
    clear hd hms hst
    go_enter Tryz.func120, Tryz.ntmps120
    go_wp2_with (first
      | (go_at_call 121; refine (prices_calls T t _ (FT.out _ K)).mono ?_; rintro e w' ⟨rfl, rfl⟩)
      | (at_lookup; refine wpList_lookup_ser _ rfl _ _ 144 false rfl 9 154 Tryz.underlying144 Tryz.underlying9 (zeroV_154 _) T.m2 t.pri rfl (FT.out _ K).pri k rfl ?_; intro sv hsv)
      | (go_at_call 27; refine (get_S T t day _ _ (FT.out _ K) hok.out hf.out).mono ?_; rintro e w2 ⟨rfl, hb2⟩; rw [HXM.out, HMS.out]; replace hsv := hsv.below hb2; replace K := below_over K hb2 (Nat.le_refl _); replace hw := hb2.size; replace hsv := hsv.below ((Below.refl _ _).alloc (Nat.le_refl _) (.cells #[.string i1, .string s1, .int .i64 l1, .bool a1] 44)); replace K := K.alloc hw (.cells #[.string i1, .string s1, .int .i64 l1, .bool a1] 44); replace hw := le_trans' hw (sz_alloc _ (.cells #[.string i1, .string s1, .int .i64 l1, .bool a1] 44)))
      | (go_at_call 111; refine (isDay_calls _ _).mono ?_; rintro e w' ⟨rfl, rfl⟩; rw [HD.out])
      | (go_at_call 178; refine (stale_P _ _ day _ hsv hl).mono ?_; rintro e w4 ⟨rfl, hb4⟩; rw [HST.out]; replace hsv := hsv.below hb4; replace K := below_over K hb4 hw; replace hw := le_trans' hw hb4.size)
      | (go_at_call 179; refine (with_P _ _ day v _ hsv hl9.out).mono ?_; rintro e w5 ⟨v5, rfl, hsv5, hb5⟩; replace K := below_over K hb5 hw; obtain ⟨w6, hrun6, hm6, hg6, hs6⟩ := (FT.out _ K).pri.run_update Tryz.underlying144 Tryz.underlying9 k v5 _ (steady_ser _ _ _) hsv5))
    go_ret
    refine ⟨ret_int HE.out.symm, ?_⟩
    rw [HS.out]
    exact ⟨FT.out _ K, Below.grow _ K⟩
  | false =>
    have HST := Lib.hid hst
    have HE : Hid (setE t (ser t.pri k) day k true = 0) := by show setE t (ser t.pri k) day k true = 0; simp [setE, hd, securityAt, hms, hst]
    have HS : Hid (setPri t day k v true = { t with pri := upd t.pri k (seWith (ser t.pri k) day v) }) := by show setPri t day k v true = _; rw [setPri, if_pos HE.out]
    clear hd hms hst
    go_enter Tryz.func120, Tryz.ntmps120
    go_wp2_with (first
      | (go_at_call 121; refine (prices_calls T t _ (FT.out _ K)).mono ?_; rintro e w' ⟨rfl, rfl⟩)
      | (at_lookup; refine wpList_lookup_ser _ rfl _ _ 144 false rfl 9 154 Tryz.underlying144 Tryz.underlying9 (zeroV_154 _) T.m2 t.pri rfl (FT.out _ K).pri k rfl ?_; intro sv hsv)
      | (go_at_call 27; refine (get_S T t day _ _ (FT.out _ K) hok.out hf.out).mono ?_; rintro e w2 ⟨rfl, hb2⟩; rw [HXM.out, HMS.out]; replace hsv := hsv.below hb2; replace K := below_over K hb2 (Nat.le_refl _); replace hw := hb2.size; replace hsv := hsv.below ((Below.refl _ _).alloc (Nat.le_refl _) (.cells #[.string i1, .string s1, .int .i64 l1, .bool a1] 44)); replace K := K.alloc hw (.cells #[.string i1, .string s1, .int .i64 l1, .bool a1] 44); replace hw := le_trans' hw (sz_alloc _ (.cells #[.string i1, .string s1, .int .i64 l1, .bool a1] 44)))
      | (go_at_call 111; refine (isDay_calls _ _).mono ?_; rintro e w' ⟨rfl, rfl⟩; rw [HD.out])
      | (go_at_call 178; refine (stale_P _ _ day _ hsv hl).mono ?_; rintro e w4 ⟨rfl, hb4⟩; rw [HST.out]; replace hsv := hsv.below hb4; replace K := below_over K hb4 hw; replace hw := le_trans' hw hb4.size)
      | (go_at_call 179; refine (with_P _ _ day v _ hsv hl9.out).mono ?_; rintro e w5 ⟨v5, rfl, hsv5, hb5⟩; replace K := below_over K hb5 hw; obtain ⟨w6, hrun6, hm6, hg6, hs6⟩ := (FT.out _ K).pri.run_update Tryz.underlying144 Tryz.underlying9 k v5 _ (steady_ser _ _ _) hsv5))
    go_ret
    exact ⟨ret_int HE.out.symm, by rw [HS.out]; exact (FT.out _ K).putP hm6 hg6, grow_of K hg6⟩

theorem setPrice_eq (t : Tab) (day : Int) (k : ByteArray) (p : Int) : setPrice t day k p = setPri t day k p (priceOk p) := rfl

theorem setPrice_calls (T : TB) (t : Tab) (day : Int) (k : ByteArray) (p : Int) (w : World) (h : TabAt w T t) (hOK : TabOk t) (hF : TabFit 800 t) :
    Calls Tryz.prog 71 #[.pointer (some ⟨T.p, 0, none⟩), .int .i64 day, .string k, .int .i64 p] w fun e w' => e = .returned (.int .i64 (setE t (ser t.pri k) day k (priceOk p))) ∧ TabAt w' T (setPrice t day k p) ∧ w.grownBy w' (some T.m2) := by
  have HC := Lib.hid (fun b => setP_calls T t day k p b w h hOK hF)
  rw [setPrice_eq]
  by_cases h1 : 1 ≤ p
  · by_cases h2 : p ≤ 1000000000
    · have HP : Hid (priceOk p = true) := by show priceOk p = true; simp [priceOk, h1, h2]
      clear h hOK hF
      go_enter Tryz.func71, Tryz.ntmps71
      go_wp2_with (first | (go_at_call 120; refine (HC.out true).mono ?_; rintro e w1 ⟨rfl, h5, h6⟩))
      go_ret
      rw [HP.out]
      exact ⟨rfl, h5, h6⟩
    · have HP : Hid (priceOk p = false) := by show priceOk p = false; simp [priceOk, h2]
      clear h hOK hF
      go_enter Tryz.func71, Tryz.ntmps71
      go_wp2_with (first | (go_at_call 120; refine (HC.out false).mono ?_; rintro e w1 ⟨rfl, h5, h6⟩))
      go_ret
      rw [HP.out]
      exact ⟨rfl, h5, h6⟩
  · have HP : Hid (priceOk p = false) := by show priceOk p = false; simp [priceOk, h1]
    clear h hOK hF
    go_enter Tryz.func71, Tryz.ntmps71
    go_wp2_with (first | (go_at_call 120; refine (HC.out false).mono ?_; rintro e w1 ⟨rfl, h5, h6⟩))
    go_ret
    rw [HP.out]
    exact ⟨rfl, h5, h6⟩

theorem setP_nil (day : Int) (k : ByteArray) (v : Int) (ok : Bool) (f : Value) (w : World) : Calls Tryz.prog 120 #[.pointer none, f, .int .i64 day, .string k, .int .i64 v, .bool ok] w fun e w' => e = .returned (.int .i64 1) ∧ w = w' := by
  go_enter Tryz.func120, Tryz.ntmps120
  go_wp2
  go_ret
  exact ⟨rfl, rfl⟩

theorem setPrice_nil (day : Int) (k : ByteArray) (p : Int) (w : World) : Calls Tryz.prog 71 #[.pointer none, .int .i64 day, .string k, .int .i64 p] w fun e w' => e = .returned (.int .i64 1) ∧ Below w.heap.size w w' := by
  by_cases h1 : 1 ≤ p
  · go_enter Tryz.func71, Tryz.ntmps71
    go_wp2_with (first | (go_at_call 120; refine (setP_nil day k p (decide (p ≤ 1000000000)) _ w).mono ?_; rintro e w1 ⟨rfl, rfl⟩))
    go_ret
    exact ⟨rfl, Below.refl _ _⟩
  · go_enter Tryz.func71, Tryz.ntmps71
    go_wp2_with (first | (go_at_call 120; refine (setP_nil day k p false _ w).mono ?_; rintro e w1 ⟨rfl, rfl⟩))
    go_ret
    exact ⟨rfl, Below.refl _ _⟩
end Go.Proofs.YtmbhkfclpkopiaaGreatDoor
