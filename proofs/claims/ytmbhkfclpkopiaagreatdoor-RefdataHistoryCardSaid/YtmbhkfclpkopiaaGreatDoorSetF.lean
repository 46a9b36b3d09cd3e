/- SetHaircut. -/
import Derived.Test.YtmbhkfclpkopiaaGreatDoorSetP
namespace Go.Proofs.YtmbhkfclpkopiaaGreatDoor
open Go.RowKit
set_option linter.unusedVariables false
set_option linter.unusedSimpArgs false


set_option maxRecDepth 10000 in
set_option maxHeartbeats 1000000 in
theorem setF_calls (T : TB) (t : Tab) (day : Int) (k : ByteArray) (v : FV) (ok : Bool) (w : World) (h : TabAt w T t) (hOK : TabOk t) (hF : TabFit 800 t) :
    Calls Tryz.prog 123 #[.pointer (some ⟨T.p, 0, none⟩), .func (.func 124) #[] #[], .int .i64 day, .string k, (.agg #[.int .i64 v.num, .int .i64 v.den]), .bool ok] w fun e w' => e = .returned (.int .i64 (setE t (ser t.hc k) day k ok)) ∧ TabAt w' T (setHc t day k v ok) ∧ w.grownBy w' (some T.m3) := by
  have HB0 : Below w.heap.size w (w.alloc (.cells #[.int .i64 v.num, .int .i64 v.den] 49)) := (Below.refl _ _).alloc (Nat.le_refl _) _
  have HT := h.below HB0
  have K : Below (w.heap.size + 1) (w.alloc (.cells #[.int .i64 v.num, .int .i64 v.den] 49)) (w.alloc (.cells #[.int .i64 v.num, .int .i64 v.den] 49)) := Below.refl _ _
  have hw : w.heap.size + 1 ≤ (w.alloc (.cells #[.int .i64 v.num, .int .i64 v.den] 49)).heap.size := by simp
  have HMB : Hid (w.heap.size ≠ T.m3) := Nat.ne_of_gt h.hc.lt
  have FT : Hid (∀ W, Below (w.heap.size + 1) (w.alloc (.cells #[.int .i64 v.num, .int .i64 v.den] 49)) W → TabAt W T t) := fun W hW => HT.below (hW.mono (by simp))
  have hl : (ser t.hc k).length ≤ 1000 := Nat.le_trans (hF.hc.ser _) (by decide)
  have hl9 := Lib.hid (Nat.le_trans (hF.hc.ser k) (show 800 ≤ 900 by decide))
  have hok := Lib.hid hOK.sec
  have hf : Hid (TbFit 900 t.sec) := ⟨Nat.le_trans hF.sec.1 (by decide), fun x hx => Nat.le_trans (hF.sec.2 x hx) (by decide)⟩
  obtain ⟨i1, s1, l1, a1, hXM⟩ := optV_S (seAt (ser t.sec k) day)
  obtain ⟨ms, hms⟩ : ∃ b, (seAt (ser t.sec k) day).isSome = b := ⟨_, rfl⟩
  have HXM := Lib.hid hXM
  have HMS := Lib.hid hms
  clear hOK hF h hXM HT
  cases hd : isDay day with
  | false =>
    have HE : Hid (setE t (ser t.hc k) day k ok = 28) := by show setE t (ser t.hc k) day k ok = 28; simp [setE, hd]
    have HS : Hid (setHc t day k v ok = t) := by show setHc t day k v ok = t; rw [setHc, HE.out]; rfl
    have HD := Lib.hid hd
    clear hd hms
    go_enter Tryz.func123, Tryz.ntmps123
    go_wp2_with (first
      | (go_at_call 124; refine (hairs_calls T t _ (FT.out _ K)).mono ?_; rintro e w' ⟨rfl, rfl⟩)
      | (at_lookup; refine wpList_lookup_ser _ rfl _ _ 146 false rfl 9 157 Tryz.underlying146 Tryz.underlying9 (zeroV_157 _) T.m3 t.hc rfl (FT.out _ K).hc k rfl ?_; intro sv hsv)
      | (go_at_call 27; refine (get_S T t day _ _ (FT.out _ K) hok.out hf.out).mono ?_; rintro e w2 ⟨rfl, hb2⟩; rw [HXM.out, HMS.out]; replace hsv := hsv.below hb2; replace K := below_over K hb2 hw; replace hw := le_trans' hw hb2.size; replace hsv := hsv.below ((Below.refl _ _).alloc (Nat.le_refl _) (.cells #[.string i1, .string s1, .int .i64 l1, .bool a1] 44)); replace K := K.alloc hw (.cells #[.string i1, .string s1, .int .i64 l1, .bool a1] 44); replace hw := le_trans' hw (sz_alloc _ (.cells #[.string i1, .string s1, .int .i64 l1, .bool a1] 44)))
      | (go_at_call 111; refine (isDay_calls _ _).mono ?_; rintro e w' ⟨rfl, rfl⟩; rw [HD.out])
      | (go_at_call 182; refine (stale_F _ _ day _ hsv hl).mono ?_; rintro e w4 ⟨rfl, hb4⟩; rw [HST.out]; replace hsv := hsv.below hb4; replace K := below_over K hb4 hw; replace hw := le_trans' hw hb4.size))
    go_ret
    refine ⟨ret_int HE.out.symm, ?_⟩
    rw [HS.out]
    exact ⟨FT.out _ K, Below.grow _ (HB0.trans (K.mono (Nat.le_succ _)))⟩
  | true =>
  have HD := Lib.hid hd
  cases ms with
  | false =>
    have HE : Hid (setE t (ser t.hc k) day k ok = 9) := by show setE t (ser t.hc k) day k ok = 9; simp [setE, hd, securityAt, hms]
    have HS : Hid (setHc t day k v ok = t) := by show setHc t day k v ok = t; rw [setHc, HE.out]; rfl
    clear hd hms
    go_enter Tryz.func123, Tryz.ntmps123
    go_wp2_with (first
      | (go_at_call 124; refine (hairs_calls T t _ (FT.out _ K)).mono ?_; rintro e w' ⟨rfl, rfl⟩)
      | (at_lookup; refine wpList_lookup_ser _ rfl _ _ 146 false rfl 9 157 Tryz.underlying146 Tryz.underlying9 (zeroV_157 _) T.m3 t.hc rfl (FT.out _ K).hc k rfl ?_; intro sv hsv)
      | (go_at_call 27; refine (get_S T t day _ _ (FT.out _ K) hok.out hf.out).mono ?_; rintro e w2 ⟨rfl, hb2⟩; rw [HXM.out, HMS.out]; replace hsv := hsv.below hb2; replace K := below_over K hb2 hw; replace hw := le_trans' hw hb2.size; replace hsv := hsv.below ((Below.refl _ _).alloc (Nat.le_refl _) (.cells #[.string i1, .string s1, .int .i64 l1, .bool a1] 44)); replace K := K.alloc hw (.cells #[.string i1, .string s1, .int .i64 l1, .bool a1] 44); replace hw := le_trans' hw (sz_alloc _ (.cells #[.string i1, .string s1, .int .i64 l1, .bool a1] 44)))
      | (go_at_call 111; refine (isDay_calls _ _).mono ?_; rintro e w' ⟨rfl, rfl⟩; rw [HD.out])
      | (go_at_call 182; refine (stale_F _ _ day _ hsv hl).mono ?_; rintro e w4 ⟨rfl, hb4⟩; rw [HST.out]; replace hsv := hsv.below hb4; replace K := below_over K hb4 hw; replace hw := le_trans' hw hb4.size))
    go_ret
    refine ⟨ret_int HE.out.symm, ?_⟩
    rw [HS.out]
    exact ⟨FT.out _ K, Below.grow _ (HB0.trans (K.mono (Nat.le_succ _)))⟩
  | true =>
  cases ok with
  | false =>
    have HE : Hid (setE t (ser t.hc k) day k false = 2) := by show setE t (ser t.hc k) day k false = 2; simp [setE, hd, securityAt, hms]
    have HS : Hid (setHc t day k v false = t) := by show setHc t day k v false = t; rw [setHc, HE.out]; rfl
    clear hd hms
    go_enter Tryz.func123, Tryz.ntmps123
    go_wp2_with (first
      | (go_at_call 124; refine (hairs_calls T t _ (FT.out _ K)).mono ?_; rintro e w' ⟨rfl, rfl⟩)
      | (at_lookup; refine wpList_lookup_ser _ rfl _ _ 146 false rfl 9 157 Tryz.underlying146 Tryz.underlying9 (zeroV_157 _) T.m3 t.hc rfl (FT.out _ K).hc k rfl ?_; intro sv hsv)
      | (go_at_call 27; refine (get_S T t day _ _ (FT.out _ K) hok.out hf.out).mono ?_; rintro e w2 ⟨rfl, hb2⟩; rw [HXM.out, HMS.out]; replace hsv := hsv.below hb2; replace K := below_over K hb2 hw; replace hw := le_trans' hw hb2.size; replace hsv := hsv.below ((Below.refl _ _).alloc (Nat.le_refl _) (.cells #[.string i1, .string s1, .int .i64 l1, .bool a1] 44)); replace K := K.alloc hw (.cells #[.string i1, .string s1, .int .i64 l1, .bool a1] 44); replace hw := le_trans' hw (sz_alloc _ (.cells #[.string i1, .string s1, .int .i64 l1, .bool a1] 44)))
      | (go_at_call 111; refine (isDay_calls _ _).mono ?_; rintro e w' ⟨rfl, rfl⟩; rw [HD.out])
      | (go_at_call 182; refine (stale_F _ _ day _ hsv hl).mono ?_; rintro e w4 ⟨rfl, hb4⟩; rw [HST.out]; replace hsv := hsv.below hb4; replace K := below_over K hb4 hw; replace hw := le_trans' hw hb4.size))
    go_ret
    refine ⟨ret_int HE.out.symm, ?_⟩
    rw [HS.out]
    exact ⟨FT.out _ K, Below.grow _ (HB0.trans (K.mono (Nat.le_succ _)))⟩
  | true =>
  cases hst : stale (ser t.hc k) day with
  | true =>
    have HST := Lib.hid hst
    have HE : Hid (setE t (ser t.hc k) day k true = 20) := by show setE t (ser t.hc k) day k true = 20; simp [setE, hd, securityAt, hms, hst]
    have HS : Hid (setHc t day k v true = t) := by show setHc t day k v true = t; rw [setHc, HE.out]; rfl
    clear hd hms hst
    go_enter Tryz.func123, Tryz.ntmps123
    go_wp2_with (first
      | (go_at_call 124; refine (hairs_calls T t _ (FT.out _ K)).mono ?_; rintro e w' ⟨rfl, rfl⟩)
      | (at_lookup; refine wpList_lookup_ser _ rfl _ _ 146 false rfl 9 157 Tryz.underlying146 Tryz.underlying9 (zeroV_157 _) T.m3 t.hc rfl (FT.out _ K).hc k rfl ?_; intro sv hsv)
      | (go_at_call 27; refine (get_S T t day _ _ (FT.out _ K) hok.out hf.out).mono ?_; rintro e w2 ⟨rfl, hb2⟩; rw [HXM.out, HMS.out]; replace hsv := hsv.below hb2; replace K := below_over K hb2 hw; replace hw := le_trans' hw hb2.size; replace hsv := hsv.below ((Below.refl _ _).alloc (Nat.le_refl _) (.cells #[.string i1, .string s1, .int .i64 l1, .bool a1] 44)); replace K := K.alloc hw (.cells #[.string i1, .string s1, .int .i64 l1, .bool a1] 44); replace hw := le_trans' hw (sz_alloc _ (.cells #[.string i1, .string s1, .int .i64 l1, .bool a1] 44)))
      | (go_at_call 111; refine (isDay_calls _ _).mono ?_; rintro e w' ⟨rfl, rfl⟩; rw [HD.out])
      | (go_at_call 182; refine (stale_F _ _ day _ hsv hl).mono ?_; rintro e w4 ⟨rfl, hb4⟩; rw [HST.out]; replace hsv := hsv.below hb4; replace K := below_over K hb4 hw; replace hw := le_trans' hw hb4.size))
    go_ret
    refine ⟨ret_int HE.out.symm, ?_⟩
    rw [HS.out]
    exact ⟨FT.out _ K, Below.grow _ (HB0.trans (K.mono (Nat.le_succ _)))⟩
  | false =>
    have HST := Lib.hid hst
    have HE : Hid (setE t (ser t.hc k) day k true = 0) := by show setE t (ser t.hc k) day k true = 0; simp [setE, hd, securityAt, hms, hst]
    have HS : Hid (setHc t day k v true = { t with hc := upd t.hc k (seWith (ser t.hc k) day v) }) := by show setHc t day k v true = _; rw [setHc, if_pos HE.out]
    clear hd hms hst
    go_enter Tryz.func123, Tryz.ntmps123
    go_wp2_with (first
      | (go_at_call 124; refine (hairs_calls T t _ (FT.out _ K)).mono ?_; rintro e w' ⟨rfl, rfl⟩)
      | (at_lookup; refine wpList_lookup_ser _ rfl _ _ 146 false rfl 9 157 Tryz.underlying146 Tryz.underlying9 (zeroV_157 _) T.m3 t.hc rfl (FT.out _ K).hc k rfl ?_; intro sv hsv)
      | (go_at_call 27; refine (get_S T t day _ _ (FT.out _ K) hok.out hf.out).mono ?_; rintro e w2 ⟨rfl, hb2⟩; rw [HXM.out, HMS.out]; replace hsv := hsv.below hb2; replace K := below_over K hb2 hw; replace hw := le_trans' hw hb2.size; replace hsv := hsv.below ((Below.refl _ _).alloc (Nat.le_refl _) (.cells #[.string i1, .string s1, .int .i64 l1, .bool a1] 44)); replace K := K.alloc hw (.cells #[.string i1, .string s1, .int .i64 l1, .bool a1] 44); replace hw := le_trans' hw (sz_alloc _ (.cells #[.string i1, .string s1, .int .i64 l1, .bool a1] 44)))
      | (go_at_call 111; refine (isDay_calls _ _).mono ?_; rintro e w' ⟨rfl, rfl⟩; rw [HD.out])
      | (go_at_call 182; refine (stale_F _ _ day _ hsv hl).mono ?_; rintro e w4 ⟨rfl, hb4⟩; rw [HST.out]; replace hsv := hsv.below hb4; replace K := below_over K hb4 hw; replace hw := le_trans' hw hb4.size))
    have FS : Hid (∀ W, Below (w.heap.size + 1) (w.alloc (.cells #[.int .i64 v.num, .int .i64 v.den] 49)) W → W.cell? ⟨w.heap.size, 0, none⟩ = some (.int .i64 v.num) ∧ W.cell? ⟨w.heap.size, 1, none⟩ = some (.int .i64 v.den)) := fun W hW => ⟨box_cell hW 0, box_cell hW 1⟩
    have s3 := FS.out _ K
    go_region_held3 (fun w' => w'.cell? ⟨w.heap.size, 0, none⟩ = some (.int .i64 v.num) ∧ w'.cell? ⟨w.heap.size, 1, none⟩ = some (.int .i64 v.den)) (first | go_keep)
      (first
        | (go_at_call 124; first
            | ((with_reducible refine (hairs_calls T t _ (FT.out _ K.drew)).mono ?_); rintro e w' ⟨rfl, rfl⟩)
            | ((with_reducible refine (hairs_calls T t _ (FT.out _ K5)).mono ?_); rintro e w' ⟨rfl, rfl⟩))
        | (go_at_call 183; refine (with_F _ _ day v _ (hsv.below (Below.refl _ _).drew) hl9.out).mono ?_; rintro e w5 ⟨v5, rfl, hsv5, hb5⟩; have K5 := below_over K.drew hb5 hw; have s5 := FS.out _ K5; have hT : Hid (w.heap.size < w5.heap.size ∧ w.heap.size ≠ T.m3) := ⟨le_trans' hw (hb5.size), HMB.out⟩; obtain ⟨w6, hrun6, hm6, hg6, hs6⟩ := (FT.out _ K5).hc.run_update Tryz.underlying146 Tryz.underlying9 k v5 _ (steady_ser _ _ _) hsv5; have s6 := (And.intro ((cell_grow hg6 hT.out.1 hT.out.2).trans s5.1) ((cell_grow hg6 hT.out.1 hT.out.2).trans s5.2))))
    have HR := (FT.out _ K5).putF hm6 hg6
    have HG := grow_of (HB0.trans (K5.mono (Nat.le_succ _))) hg6
    go_wp2
    go_ret
    exact ⟨ret_int HE.out.symm, by rw [HS.out]; exact HR, HG⟩

theorem setF_nil (day : Int) (k : ByteArray) (v : FV) (ok : Bool) (f : Value) (w : World) : Calls Tryz.prog 123 #[.pointer none, f, .int .i64 day, .string k, .agg #[.int .i64 v.num, .int .i64 v.den], .bool ok] w fun e w' => e = .returned (.int .i64 1) ∧ Below w.heap.size w w' := by
  go_enter Tryz.func123, Tryz.ntmps123
  go_wp2
  go_ret
  exact ⟨rfl, (Below.refl _ _).alloc (Nat.le_refl _) _⟩

end Go.Proofs.YtmbhkfclpkopiaaGreatDoor
