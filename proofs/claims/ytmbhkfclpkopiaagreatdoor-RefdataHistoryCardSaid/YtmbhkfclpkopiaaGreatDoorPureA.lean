/- The plain law of reference data, third part: a table's additions answer as the reference's, and agree with it afterwards. No Go in sight. The plain law of reference data, fourth part: equal tables, sorted lists, what an addition leaves as it was. No Go in sight. Pure facts for the laws: what two additions do, one after the other. No Go in sight. The plain law of reference data: lists of keys and days agree; when an addition changes nothing. No Go in sight. -/
import Derived.Test.YtmbhkfclpkopiaaGreatDoorAgree
import Derived.Test.YtmbhkfclpkopiaaGreatDoorMapWalk
namespace Go.Proofs.YtmbhkfclpkopiaaGreatDoor
set_option linter.unusedVariables false
set_option linter.unusedSimpArgs false

def mOf (e : E) : MV := ⟨e.key, e.text, e.active⟩
def sOf (e : E) : SV := ⟨e.key, e.text, e.n, e.active⟩
def fOf (e : E) : FV := ⟨e.num, e.den⟩

theorem sel_some {T : List E} {kind : Int} {key : ByteArray} {e : E} (h : (sel T kind key).getLast? = some e) : e ∈ T ∧ e.kind = kind ∧ e.key = key := by
  have h1 := List.mem_of_getLast? h
  have h2 := List.mem_filter.1 h1
  exact ⟨h2.1, by simpa [isOf] using h2.2⟩

theorem sel_mem {T : List E} {e : E} (h : e ∈ T) : e ∈ sel T e.kind e.key := List.mem_filter.2 ⟨h, by simp [isOf]⟩

theorem last_some {α : Type} {l : List α} {x : α} (h : x ∈ l) : ∃ y, l.getLast? = some y := by
  cases e : l.getLast? with
  | none => rw [List.getLast?_eq_none_iff] at e; subst e; cases h
  | some y => exact ⟨y, rfl⟩

/-- A table's list of a kind and the reference: a key is there exactly if it has entries. -/
theorem tb_look {V : Type} {L : Tb V} (hL : TbOk L) {T : List E} {kind : Int} {f : E → Int × V} (hs : ∀ k, ser L k = (sel T kind k).map f) (k : ByteArray) :
    (look L k).isSome = (refLast T kind k).isSome := by
  rw [hL.known, hs]
  unfold refLast
  cases h : sel T kind k with
  | nil => rfl
  | cons a l => simp

theorem tb_entry {V : Type} {L : Tb V} (hL : TbOk L) {T : List E} {kind : Int} {f : E → Int × V} (hs : ∀ k, ser L k = (sel T kind k).map f) {k : ByteArray} {s : List (Int × V)} (h : (k, s) ∈ L) :
    s = (sel T kind k).map f ∧ ∃ y, (sel T kind k).getLast? = some y ∧ s.getLast? = some (f y) := by
  have e : s = (sel T kind k).map f := by
    rw [← hs]
    unfold ser
    rw [look_of_mem hL.nodup h]; rfl
  have hne := hL.full _ h
  refine ⟨e, ?_⟩
  cases hl : (sel T kind k).getLast? with
  | none =>
    rw [List.getLast?_eq_none_iff] at hl
    rw [hl] at e
    exact absurd e hne
  | some y => exact ⟨y, rfl, by rw [e, List.getLast?_map, hl]; rfl⟩

theorem tb_of {V : Type} {L : Tb V} (hL : TbOk L) {T : List E} {kind : Int} {f : E → Int × V} (hs : ∀ k, ser L k = (sel T kind k).map f) {x : E} (hx : x ∈ T) (hk : x.kind = kind) :
    (x.key, (sel T kind x.key).map f) ∈ L := by
  have h1 : ser L x.key ≠ [] := by
    rw [hs]
    intro h
    have := sel_mem hx
    rw [hk] at this
    rw [List.map_eq_nil_iff.1 h] at this
    cases this
  cases hl : look L x.key with
  | none => exact absurd (by unfold ser; rw [hl]; rfl) h1
  | some s =>
    have := look_mem hl
    have e : s = (sel T kind x.key).map f := by
      rw [← hs]; unfold ser; rw [hl]; rfl
    rw [← e]
    exact this

section
variable {t : Tab} {T : List E}

theorem Rel.known0 (h : Rel t T) (k : ByteArray) : (look t.mem k).isSome = refKnown T 0 k := tb_look h.ok.mem h.mem k
theorem Rel.known1 (h : Rel t T) (k : ByteArray) : (look t.sec k).isSome = refKnown T 1 k := tb_look h.ok.sec h.sec k

theorem Rel.taken (h : Rel t T) (e : E) : Go.Proofs.YtmbhkfclpkopiaaGreatDoor.taken t (mOf e) = refTaken T e := by
  rw [Bool.eq_iff_iff]
  unfold Go.Proofs.YtmbhkfclpkopiaaGreatDoor.taken refTaken
  simp only [List.any_eq_true]
  constructor
  · rintro ⟨⟨k, s⟩, hx, hq⟩
    obtain ⟨hs, y, hy, hsl⟩ := tb_entry h.ok.mem h.mem hx
    obtain ⟨hyT, hyk, hykey⟩ := sel_some hy
    refine ⟨y, hyT, ?_⟩
    rw [hsl] at hq
    have hr : refLast T 0 y.key = some y := by rw [hykey]; exact hy
    rw [hr, hykey]
    simp only [hyk, mOf, mvOf, Bool.and_eq_true] at hq ⊢
    exact ⟨⟨by simp, hq.1⟩, hq.2⟩
  · rintro ⟨x, hx, hq⟩
    cases hr : refLast T 0 x.key with
    | none => rw [hr] at hq; simp at hq
    | some y =>
      rw [hr] at hq
      simp only [Bool.and_eq_true, decide_eq_true_eq] at hq
      obtain ⟨⟨hk, hkey⟩, htext⟩ := hq
      have hm := tb_of h.ok.mem h.mem hx hk
      refine ⟨_, hm, ?_⟩
      have hr' : (sel T 0 x.key).getLast? = some y := hr
      have hl : ((sel T 0 x.key).map mvOf).getLast? = some (mvOf y) := by rw [List.getLast?_map, hr']; rfl
      simp only [hl, mOf, mvOf, Bool.and_eq_true]
      exact ⟨hkey, by rw [htext]; exact decide_eq_true rfl⟩

theorem Rel.last1 (h : Rel t T) (k : ByteArray) : (ser t.sec k).getLast? = (refLast T 1 k).map svOf := by
  rw [h.sec, List.getLast?_map]; rfl
end

section
variable (vld : Int → ByteArray → Bool) (fok : Int → Int → Bool)

def tabCode (t : Tab) (e : E) : Int :=
  if e.kind = 0 then setMemberE vld t e.day (mOf e) else if e.kind = 1 then setSecurityE vld t e.day (sOf e)
  else if e.kind = 2 then setE t (ser t.pri e.key) e.day e.key (priceOk e.n) else setE t (ser t.hc e.key) e.day e.key (hairOk fok (fOf e))
def tabSet (t : Tab) (e : E) : Tab :=
  if e.kind = 0 then setMember vld t e.day (mOf e) else if e.kind = 1 then setSecurity vld t e.day (sOf e)
  else if e.kind = 2 then setPrice t e.day e.key e.n else setHaircut fok t e.day e.key (fOf e)
def refCode (T : List E) (e : E) : Int := refCheck vld fok (fun _ => false) T e
def refSet (T : List E) (e : E) : List E := if refCode vld fok T e = 0 then refAdd T e else T
end

section
variable {vld : Int → ByteArray → Bool} {fok : Int → Int → Bool} {t : Tab} {T : List E}

theorem code0 (d v c3 st a tk y : Bool) : (if (!d) = true then (28 : Int) else if (!v) = true then 6 else if c3 = true then 3 else if st = true then 20 else if (a && tk) = true then 7 else if false = true then 8 else 0) =
    if (!d) = true then (28 : Int) else if (if (!v) = true then (6 : Int) else if c3 = true then 3 else 0) ≠ 0 then (if (!v) = true then (6 : Int) else if c3 = true then 3 else 0) else if st = true then 20 else if (decide True && a && tk) = true then 7 else if (decide False && y) = true then 11 else if false = true then 8 else 0 := by
  cases d <;> cases v <;> cases c3 <;> cases st <;> cases a <;> cases tk <;> rfl
theorem code1 (d v m c3 st a tk y : Bool) : (if (!d) = true then (28 : Int) else if (!v) = true then 6 else if (!m) = true then 9 else if c3 = true then 2 else if st = true then 20 else if y = true then 11 else if false = true then 8 else 0) =
    if (!d) = true then (28 : Int) else if (if (!v) = true then (6 : Int) else if (!m) = true then 9 else if c3 = true then 2 else 0) ≠ 0 then (if (!v) = true then (6 : Int) else if (!m) = true then 9 else if c3 = true then 2 else 0) else if st = true then 20 else if (decide False && a && tk) = true then 7 else if (decide True && y) = true then 11 else if false = true then 8 else 0 := by
  cases d <;> cases v <;> cases m <;> cases c3 <;> cases st <;> cases y <;> rfl
theorem code2 (d m c3 st a tk y x : Bool) : (if (!d) = true then (28 : Int) else if (!m) = true then 9 else if (!!c3) = true then 2 else if st = true then 20 else 0) =
    if (!d) = true then (28 : Int) else if (if (!m) = true then (9 : Int) else if (decide True && c3) = true then 2 else if (decide False && x) = true then 2 else 0) ≠ 0 then (if (!m) = true then (9 : Int) else if (decide True && c3) = true then 2 else if (decide False && x) = true then 2 else 0) else if st = true then 20 else if (decide False && a && tk) = true then 7 else if (decide False && y) = true then 11 else if false = true then 8 else 0 := by
  cases d <;> cases m <;> cases c3 <;> cases st <;> rfl
theorem code3 (d m f lt gt st a tk y x : Bool) : (if (!d) = true then (28 : Int) else if (!m) = true then 9 else if (!(f && !lt && !gt)) = true then 2 else if st = true then 20 else 0) =
    if (!d) = true then (28 : Int) else if (if (!m) = true then (9 : Int) else if (decide False && x) = true then 2 else if (decide True && (!f || lt || gt)) = true then 2 else 0) ≠ 0 then (if (!m) = true then (9 : Int) else if (decide False && x) = true then 2 else if (decide True && (!f || lt || gt)) = true then 2 else 0) else if st = true then 20 else if (decide False && a && tk) = true then 7 else if (decide False && y) = true then 11 else if false = true then 8 else 0 := by
  cases d <;> cases m <;> cases f <;> cases lt <;> cases gt <;> cases st <;> rfl

theorem Rel.code (h : Rel t T) {e : E} (hc : Clean e) (hm : t.mem.length < 4096) (hs : t.sec.length < 4096) : tabCode vld fok t e = refCode vld fok T e := by
  have hm' : decide (4096 ≤ t.mem.length) = false := by simp; omega
  have hs' : decide (4096 ≤ t.sec.length) = false := by simp; omega
  have i10 : ((1 : Int) = 0) = False := by simp
  have i20 : ((2 : Int) = 0) = False := by simp
  have i21 : ((2 : Int) = 1) = False := by simp
  have i23 : ((2 : Int) = 3) = False := by simp
  have i30 : ((3 : Int) = 0) = False := by simp
  have i31 : ((3 : Int) = 1) = False := by simp
  have i32 : ((3 : Int) = 2) = False := by simp
  have i01 : ((0 : Int) = 1) = False := by simp
  unfold tabCode refCode refCheck refSubject
  rcases hc.kind with hk | hk | hk | hk
  · simp only [hk, i01, if_true, if_false]
    unfold setMemberE
    simp only [hm', Bool.and_false]
    rw [h.taken, h.mem, stale_map mvOf (fun _ => rfl)]
    simp only [mOf, refLast]
    exact code0 _ _ _ _ _ _ _
  · simp only [hk, i10, if_true, if_false]
    unfold setSecurityE
    simp only [hs', Bool.and_false]
    rw [h.memberAt, h.last1, h.sec, stale_map svOf (fun _ => rfl)]
    simp only [sOf, refLast, Option.isSome_map]
    obtain ⟨o, ho⟩ : ∃ o, (sel T 1 e.key).getLast? = o := ⟨_, rfl⟩
    simp only [ho]
    cases o with
    | none => exact code1 _ _ _ _ _ _ _ _
    | some y => exact code1 _ _ _ _ _ _ _ _
  · simp only [hk, i20, i21, i23, if_true, if_false, true_or]
    unfold setE
    rw [h.securityAt, h.pri, stale_map pvOf (fun _ => rfl)]
    simp only [refLast, Option.isSome_map, priceOk]
    have e3 : (decide (1 ≤ e.n) && decide (e.n ≤ 1000000000)) = !(decide (e.n < 1) || decide (1000000000 < e.n)) := by
      rw [Bool.eq_iff_iff]; simp <;> omega
    simp only [e3, Bool.and_false]
    exact code2 _ _ _ _ _ _ _ _
  · simp only [hk, i30, i31, i32, if_true, if_false, or_true]
    unfold setE
    rw [h.securityAt, h.hc, stale_map fvOf (fun _ => rfl)]
    have d1 : decide (0 ≤ e.num) = !decide (e.num < 0) := by rw [Bool.eq_iff_iff]; simp
    have d2 : decide (e.num ≤ e.den) = !decide (e.den < e.num) := by rw [Bool.eq_iff_iff]; simp
    have hh : hairOk fok (fOf e) = (fok e.num e.den && !decide (e.num < 0) && !decide (e.den < e.num)) := by
      show (fok e.num e.den && decide (0 ≤ e.num) && decide (e.num ≤ e.den)) = _
      rw [d1, d2]
    simp only [refLast, Option.isSome_map, hh, Bool.and_false]
    exact code3 _ _ _ _ _ _ _ _ _ _

/-- After a success the last entry of the key isn't later than the new one. -/
theorem code_last {e y : E} (h0 : refCode vld fok T e = 0) (hq : refLast T e.kind e.key = some y) : ¬ e.day < y.day := by
  intro hlt
  unfold refCode refCheck at h0
  simp only [hq] at h0
  split at h0
  · cases h0
  · split at h0
    · rename_i h1; exact h1 h0
    · rw [if_pos (decide_eq_true hlt)] at h0; cases h0

theorem code_stale {V : Type} (f : E → Int × V) (hf : ∀ e, (f e).1 = e.day) {e : E} (h0 : refCode vld fok T e = 0) : Go.Proofs.YtmbhkfclpkopiaaGreatDoor.stale ((sel T e.kind e.key).map f) e.day = false := by
  unfold Go.Proofs.YtmbhkfclpkopiaaGreatDoor.stale
  rw [List.getLast?_map]
  cases hl : (sel T e.kind e.key).getLast? with
  | none => rfl
  | some y =>
    have := code_last h0 (y := y) hl
    show decide (e.day < (f y).1) = false
    rw [hf]
    exact decide_eq_false this

theorem ser_upd_of {V : Type} {L : Tb V} {T : List E} {e : E} {kind : Int} {f : E → Int × V} (hs : ∀ k, ser L k = (sel T kind k).map f) (s : List (Int × V)) (hk : e.kind = kind) (hn : s = (sel (refAdd T e) e.kind e.key).map f) (k : ByteArray) :
    ser (upd L e.key s) k = (sel (refAdd T e) kind k).map f := by
  rw [ser_upd]
  split
  · rename_i hkk; subst hkk; rw [← hk]; exact hn
  · rename_i hkk
    rw [hs, sel_refAdd, if_neg (fun hh => hkk hh.2.symm)]

theorem ser_other {V : Type} {L : Tb V} {T : List E} {e : E} {kind : Int} {f : E → Int × V} (hs : ∀ k, ser L k = (sel T kind k).map f) (hk : e.kind ≠ kind) (k : ByteArray) :
    ser L k = (sel (refAdd T e) kind k).map f := by
  rw [hs, sel_refAdd, if_neg (fun hh => hk hh.1)]

theorem clean_refAdd {e : E} (hT : ∀ x ∈ T, Clean x) (hc : Clean e) : ∀ x ∈ refAdd T e, Clean x := by
  intro x hx
  rcases List.mem_append.1 hx with hx | hx
  · exact hT x (List.mem_filter.1 hx).1
  · rw [List.mem_singleton.1 hx]; exact hc

theorem Rel.set (h : Rel t T) {e : E} (hc : Clean e) (hm : t.mem.length < 4096) (hs : t.sec.length < 4096) : Rel (tabSet vld fok t e) (refSet vld fok T e) := by
  have hcode := h.code (vld := vld) (fok := fok) hc hm hs
  unfold refSet
  by_cases h0 : refCode vld fok T e = 0
  · rw [if_pos h0]
    have hst := h0
    rw [h0] at hcode
    unfold tabCode at hcode
    unfold tabSet
    rcases hc.kind with hk | hk | hk | hk
    · rw [if_pos hk] at hcode ⊢
      have hss : Go.Proofs.YtmbhkfclpkopiaaGreatDoor.stale ((sel T e.kind e.key).map mvOf) e.day = false := code_stale mvOf (fun _ => rfl) hst
      have hrr : Rising ((sel T e.kind e.key).map mvOf) := by rw [hk, ← h.mem]; exact h.ok.mem.ser_rising _
      have e1 : seWith (ser t.mem e.key) e.day (mOf e) = (sel (refAdd T e) e.kind e.key).map mvOf := by
        rw [h.mem, ← hk]; exact seWith_sel mvOf (fun _ => rfl) rfl hrr hss
      unfold setMember
      rw [if_pos hcode]
      refine ⟨⟨h.ok.mem.upd _ (seWith_ne _ _) (rising_seWith (h.ok.mem.ser_rising _) (by rw [h.mem, ← hk]; exact hss) _), h.ok.sec, h.ok.pri, h.ok.hc⟩, fun k => ?_, fun k => ?_, fun k => ?_, fun k => ?_, clean_refAdd h.clean hc⟩
      · exact ser_upd_of h.mem _ hk e1 k
      · exact ser_other h.sec (by omega) k
      · exact ser_other h.pri (by omega) k
      · exact ser_other h.hc (by omega) k
    · rw [if_neg (by omega), if_pos hk] at hcode ⊢
      have hss : Go.Proofs.YtmbhkfclpkopiaaGreatDoor.stale ((sel T e.kind e.key).map svOf) e.day = false := code_stale svOf (fun _ => rfl) hst
      have hrr : Rising ((sel T e.kind e.key).map svOf) := by rw [hk, ← h.sec]; exact h.ok.sec.ser_rising _
      have e1 : seWith (ser t.sec e.key) e.day (sOf e) = (sel (refAdd T e) e.kind e.key).map svOf := by
        rw [h.sec, ← hk]; exact seWith_sel svOf (fun _ => rfl) rfl hrr hss
      unfold setSecurity
      rw [if_pos hcode]
      refine ⟨⟨h.ok.mem, h.ok.sec.upd _ (seWith_ne _ _) (rising_seWith (h.ok.sec.ser_rising _) (by rw [h.sec, ← hk]; exact hss) _), h.ok.pri, h.ok.hc⟩, fun k => ?_, fun k => ?_, fun k => ?_, fun k => ?_, clean_refAdd h.clean hc⟩
      · exact ser_other h.mem (by omega) k
      · exact ser_upd_of h.sec _ hk e1 k
      · exact ser_other h.pri (by omega) k
      · exact ser_other h.hc (by omega) k
    · rw [if_neg (by omega), if_neg (by omega), if_pos hk] at hcode ⊢
      have hss : Go.Proofs.YtmbhkfclpkopiaaGreatDoor.stale ((sel T e.kind e.key).map pvOf) e.day = false := code_stale pvOf (fun _ => rfl) hst
      have hrr : Rising ((sel T e.kind e.key).map pvOf) := by rw [hk, ← h.pri]; exact h.ok.pri.ser_rising _
      have e1 : seWith (ser t.pri e.key) e.day e.n = (sel (refAdd T e) e.kind e.key).map pvOf := by
        rw [h.pri, ← hk]; exact seWith_sel pvOf (fun _ => rfl) rfl hrr hss
      unfold setPrice
      rw [if_pos hcode]
      refine ⟨⟨h.ok.mem, h.ok.sec, h.ok.pri.upd _ (seWith_ne _ _) (rising_seWith (h.ok.pri.ser_rising _) (by rw [h.pri, ← hk]; exact hss) _), h.ok.hc⟩, fun k => ?_, fun k => ?_, fun k => ?_, fun k => ?_, clean_refAdd h.clean hc⟩
      · exact ser_other h.mem (by omega) k
      · exact ser_other h.sec (by omega) k
      · exact ser_upd_of h.pri _ hk e1 k
      · exact ser_other h.hc (by omega) k
    · rw [if_neg (by omega), if_neg (by omega), if_neg (by omega)] at hcode ⊢
      have hss : Go.Proofs.YtmbhkfclpkopiaaGreatDoor.stale ((sel T e.kind e.key).map fvOf) e.day = false := code_stale fvOf (fun _ => rfl) hst
      have hrr : Rising ((sel T e.kind e.key).map fvOf) := by rw [hk, ← h.hc]; exact h.ok.hc.ser_rising _
      have e1 : seWith (ser t.hc e.key) e.day (fOf e) = (sel (refAdd T e) e.kind e.key).map fvOf := by
        rw [h.hc, ← hk]; exact seWith_sel fvOf (fun _ => rfl) rfl hrr hss
      unfold setHaircut
      rw [if_pos hcode]
      refine ⟨⟨h.ok.mem, h.ok.sec, h.ok.pri, h.ok.hc.upd _ (seWith_ne _ _) (rising_seWith (h.ok.hc.ser_rising _) (by rw [h.hc, ← hk]; exact hss) _)⟩, fun k => ?_, fun k => ?_, fun k => ?_, fun k => ?_, clean_refAdd h.clean hc⟩
      · exact ser_other h.mem (by omega) k
      · exact ser_other h.sec (by omega) k
      · exact ser_other h.pri (by omega) k
      · exact ser_upd_of h.hc _ hk e1 k
  · rw [if_neg h0]
    rw [← hcode] at h0
    have : tabSet vld fok t e = t := by
      unfold tabCode at h0
      unfold tabSet
      rcases hc.kind with hk | hk | hk | hk
      · rw [if_pos hk] at h0 ⊢
        unfold setMember; rw [if_neg h0]
      · rw [if_neg (by omega), if_pos hk] at h0 ⊢
        unfold setSecurity; rw [if_neg h0]
      · rw [if_neg (by omega), if_neg (by omega), if_pos hk] at h0 ⊢
        unfold setPrice; rw [if_neg h0]
      · rw [if_neg (by omega), if_neg (by omega), if_neg (by omega)] at h0 ⊢
        unfold setHaircut; rw [if_neg h0]
    rw [this]
    exact h

theorem Rel.empty : Rel Tab.empty [] := ⟨.empty, fun _ => rfl, fun _ => rfl, fun _ => rfl, fun _ => rfl, by simp⟩
end

theorem refAdd_length (T : List E) (e : E) : (refAdd T e).length ≤ T.length + 1 := by
  unfold refAdd
  rw [List.length_append, List.length_singleton]
  have := List.length_filter_le (fun x => !(isOf e.kind e.key x && decide (x.day = e.day))) T
  omega

theorem refSet_length {vld : Int → ByteArray → Bool} {fok : Int → Int → Bool} (T : List E) (e : E) : (refSet vld fok T e).length ≤ T.length + 1 := by
  unfold refSet
  split
  · exact refAdd_length T e
  · omega

/-- A table that agrees with n entries has no more than n keys of a kind, and no series longer than n. -/
theorem Rel.bound {t : Tab} {T : List E} (h : Rel t T) : (t.mem.length ≤ T.length ∧ ∀ x ∈ t.mem, x.2.length ≤ T.length) ∧ (t.sec.length ≤ T.length ∧ ∀ x ∈ t.sec, x.2.length ≤ T.length) ∧ (t.pri.length ≤ T.length ∧ ∀ x ∈ t.pri, x.2.length ≤ T.length) ∧ (t.hc.length ≤ T.length ∧ ∀ x ∈ t.hc, x.2.length ≤ T.length) := by
  have key : ∀ {V : Type} {L : Tb V} {kind : Int} {f : E → Int × V}, TbOk L → (∀ k, ser L k = (sel T kind k).map f) → L.length ≤ T.length ∧ ∀ x ∈ L, x.2.length ≤ T.length := by
    intro V L kind f hL hs
    constructor
    · have h1 : (L.map (·.1)).length ≤ (T.map (·.key)).length := by
        refine nodup_len hL.nodup fun k hk => ?_
        obtain ⟨⟨k', s⟩, hx, rfl⟩ := List.mem_map.1 hk
        obtain ⟨_, y, hy, _⟩ := tb_entry hL hs hx
        obtain ⟨hyT, _, hykey⟩ := sel_some hy
        exact List.mem_map.2 ⟨y, hyT, hykey⟩
      simpa using h1
    · rintro ⟨k, s⟩ hx
      obtain ⟨e, _⟩ := tb_entry hL hs hx
      show s.length ≤ _
      rw [e, List.length_map]
      exact List.length_filter_le _ _
  exact ⟨key h.ok.mem h.mem, key h.ok.sec h.sec, key h.ok.pri h.pri, key h.ok.hc h.hc⟩
end Go.Proofs.YtmbhkfclpkopiaaGreatDoor

namespace Go.Proofs.YtmbhkfclpkopiaaGreatDoor
set_option linter.unusedVariables false
set_option linter.unusedSimpArgs false

/-! ### Sorted lists -/
theorem sorted_unique {α : Type} {r : α → α → Prop} (irr : ∀ a, ¬ r a a) (asym : ∀ a b, r a b → ¬ r b a) : ∀ {l m : List α}, l.Pairwise r → m.Pairwise r → (∀ x, x ∈ l ↔ x ∈ m) → l = m
  | [], [], _, _, _ => rfl
  | [], b :: m, _, _, h => absurd ((h b).2 (by simp)) (by simp)
  | a :: l, [], _, _, h => absurd ((h a).1 (by simp)) (by simp)
  | a :: l, b :: m, h1, h2, h => by
    obtain ⟨k1, k2⟩ := List.pairwise_cons.1 h1
    obtain ⟨j1, j2⟩ := List.pairwise_cons.1 h2
    have e : a = b := by
      rcases List.mem_cons.1 ((h a).1 (by simp)) with e | e
      · exact e
      · rcases List.mem_cons.1 ((h b).2 (by simp)) with e' | e'
        · exact e'.symm
        · exact absurd (k1 _ e') (asym _ _ (j1 _ e))
    subst e
    congr 1
    refine sorted_unique irr asym k2 j2 fun x => ⟨fun hx => ?_, fun hx => ?_⟩
    · rcases List.mem_cons.1 ((h x).1 (List.mem_cons_of_mem _ hx)) with e | e
      · subst e; exact absurd (k1 _ hx) (irr _)
      · exact e
    · rcases List.mem_cons.1 ((h x).2 (List.mem_cons_of_mem _ hx)) with e | e
      · subst e; exact absurd (j1 _ hx) (irr _)
      · exact e

/-- A sorted element put into its place. -/
theorem sorted_insert {α : Type} {r : α → α → Prop} (trans : ∀ a b c, r a b → r b c → r a c) {l : List α} (h : l.Pairwise r) (k : α) (i : Nat) (hlt : ∀ x ∈ l.take i, r x k) (hge : ∀ x ∈ l.drop i, r k x) :
    (l.take i ++ [k] ++ l.drop i).Pairwise r := by
  have h' : (l.take i ++ l.drop i).Pairwise r := by rw [List.take_append_drop]; exact h
  obtain ⟨h1, h2, h3⟩ := List.pairwise_append.1 h'
  rw [List.append_assoc]
  refine List.pairwise_append.2 ⟨h1, ?_, ?_⟩
  · rw [List.singleton_append]
    exact List.pairwise_cons.2 ⟨hge, h2⟩
  · intro x hx y hy
    rw [List.singleton_append] at hy
    rcases List.mem_cons.1 hy with rfl | hy
    · exact hlt x hx
    · exact h3 x hx y hy

theorem mem_insert_mid {α : Type} (l : List α) (k : α) (i : Nat) (x : α) : x ∈ l.take i ++ [k] ++ l.drop i ↔ x = k ∨ x ∈ l := by
  have : x ∈ l ↔ x ∈ l.take i ∨ x ∈ l.drop i := by
    rw [← List.mem_append, List.take_append_drop]
  rw [this]
  simp only [List.mem_append, List.mem_singleton]
  constructor
  · rintro ((h | h) | h)
    · exact .inr (.inl h)
    · exact .inl h
    · exact .inr (.inr h)
  · rintro (h | h | h)
    · exact .inl (.inr h)
    · exact .inl (.inl h)
    · exact .inr h

def bLt (a b : ByteArray) : Prop := a.toList < b.toList
theorem bLt_irr (a : ByteArray) : ¬ bLt a a := List.lt_irrefl _
theorem bLt_trans (a b c : ByteArray) : bLt a b → bLt b c → bLt a c := fun h k => List.lt_trans h k
theorem bLt_asym (a b : ByteArray) (h : bLt a b) : ¬ bLt b a := fun k => bLt_irr a (bLt_trans _ _ _ h k)
theorem toList_inj {a b : ByteArray} (h : a.toList = b.toList) : a = b := by
  rw [ByteArray.toList_eq, ByteArray.toList_eq] at h
  exact ByteArray.ext (Array.toList_inj.mp h)
theorem bLt_total {a b : ByteArray} (h : ¬ bLt a b) (hne : a ≠ b) : bLt b a := by
  unfold bLt at *
  have h1 : b.toList ≤ a.toList := List.not_lt.1 h
  rcases List.le_iff_lt_or_eq.1 h1 with h2 | h2
  · exact h2
  · exact absurd (toList_inj h2).symm hne

/-- The strings that satisfy P, in ascending order. -/
def Listed (P : ByteArray → Prop) (l : List ByteArray) : Prop := l.Pairwise bLt ∧ ∀ k, k ∈ l ↔ P k
theorem Listed.unique {P Q : ByteArray → Prop} {l m : List ByteArray} (h : Listed P l) (h' : Listed Q m) (hpq : ∀ k, P k ↔ Q k) : l = m :=
  sorted_unique bLt_irr bLt_asym h.1 h'.1 fun x => ((h.2 x).trans (hpq x)).trans (h'.2 x).symm

def ListedD (P : Int → Prop) (l : List Int) : Prop := l.Pairwise (· < ·) ∧ ∀ k, k ∈ l ↔ P k
theorem ListedD.unique {P Q : Int → Prop} {l m : List Int} (h : ListedD P l) (h' : ListedD Q m) (hpq : ∀ k, P k ↔ Q k) : l = m :=
  sorted_unique (r := fun a b : Int => a < b) (fun a => Int.lt_irrefl a) (fun a b h k => by omega) h.1 h'.1 fun x => ((h.2 x).trans (hpq x)).trans (h'.2 x).symm

/-! ### Equal tables -/
section
variable {V : Type}
def TbSame (L M : Tb V) : Prop := ∀ k, ser L k = ser M k

theorem TbOk.look_ser {L : Tb V} (h : TbOk L) (k : ByteArray) : look L k = if ser L k = [] then none else some (ser L k) := by
  unfold ser
  cases e : look L k with
  | none => simp
  | some s =>
    have := h.full _ (look_mem e)
    simp at this
    simp [this]

theorem TbSame.look {L M : Tb V} (hL : TbOk L) (hM : TbOk M) (h : TbSame L M) (k : ByteArray) : Go.Proofs.YtmbhkfclpkopiaaGreatDoor.look L k = Go.Proofs.YtmbhkfclpkopiaaGreatDoor.look M k := by
  rw [hL.look_ser, hM.look_ser, h k]

theorem TbSame.length_le {L M : Tb V} (hL : TbOk L) (hM : TbOk M) (h : TbSame L M) : L.length ≤ M.length := by
  have : (L.map (·.1)).length ≤ (M.map (·.1)).length := by
    refine nodup_len hL.nodup fun k hk => ?_
    obtain ⟨⟨k', s⟩, hx, rfl⟩ := List.mem_map.1 hk
    have h1 := look_of_mem hL.nodup hx
    rw [h.look hL hM] at h1
    exact List.mem_map.2 ⟨_, look_mem h1, rfl⟩
  simpa using this

theorem TbSame.symm {L M : Tb V} (h : TbSame L M) : TbSame M L := fun k => (h k).symm
theorem TbSame.length {L M : Tb V} (hL : TbOk L) (hM : TbOk M) (h : TbSame L M) : L.length = M.length := Nat.le_antisymm (h.length_le hL hM) (h.symm.length_le hM hL)

theorem tbSame_iff {L M : Tb V} (hL : TbOk L) (hM : TbOk M) : TbSame L M ↔ L.length = M.length ∧ ∀ x ∈ L, look M x.1 = some x.2 := by
  constructor
  · intro h
    refine ⟨h.length hL hM, fun x hx => ?_⟩
    rw [← h.look hL hM]
    exact look_of_mem hL.nodup hx
  · rintro ⟨hl, hx⟩ k
    cases e : look L k with
    | some s =>
      have := hx _ (look_mem e)
      unfold ser
      rw [e, this]
    | none =>
      cases e' : look M k with
      | none => unfold ser; rw [e, e']
      | some s =>
        exfalso
        have h1 : ((k :: L.map (·.1))).length ≤ (M.map (·.1)).length := by
          refine nodup_len (List.nodup_cons.2 ⟨fun hk => ?_, hL.nodup⟩) fun q hq => ?_
          · obtain ⟨x, hx', e2⟩ := List.mem_map.1 hk
            exact (look_none.1 e) x hx' e2
          · rcases List.mem_cons.1 hq with rfl | hq
            · exact List.mem_map.2 ⟨_, look_mem e', rfl⟩
            · obtain ⟨x, hx', rfl⟩ := List.mem_map.1 hq
              exact List.mem_map.2 ⟨_, look_mem (hx x hx'), rfl⟩
        simp at h1
        omega

theorem TbSame.refl (L : Tb V) : TbSame L L := fun _ => rfl
end

structure TabSame (t o : Tab) : Prop where
  mem : TbSame t.mem o.mem
  sec : TbSame t.sec o.sec
  pri : TbSame t.pri o.pri
  hc : TbSame t.hc o.hc
theorem TabSame.refl (t : Tab) : TabSame t t := ⟨.refl _, .refl _, .refl _, .refl _⟩
theorem TabSame.symm {t o : Tab} (h : TabSame t o) : TabSame o t := ⟨h.mem.symm, h.sec.symm, h.pri.symm, h.hc.symm⟩

/-! ### Earlier days, and days without an entry -/
section
variable {V : Type}
theorem seAt_before {s : List (Int × V)} (hr : Rising s) {d : Int} (hs : stale s d = false) (v : V) {day : Int} (h : day < d) : seAt (seWith s d v) day = seAt s day := by
  unfold seAt
  split
  · congr 1
    unfold seWith
    rw [seCut_eq hr hs, List.filter_append, List.filter_filter]
    have e1 : [(d, v)].filter (fun x => decide (x.1 ≤ day)) = [] := by simp; omega
    rw [e1, List.append_nil]
    refine List.filter_congr fun x _ => ?_
    by_cases hx : x.1 ≤ day
    · have : x.1 ≠ d := by omega
      simp [hx, this]
    · simp [hx]
  · rfl

theorem seAt_same {s : List (Int × V)} {day : Int} (h1 : 1 ≤ day) (h2 : day ≤ 73048) (hno : ∀ x ∈ s, x.1 ≠ day) : seAt s day = seAt s (day - 1) := by
  have i1 : isDay day = true := by simp [isDay]; omega
  have i2 : isDay (day - 1) = true := by simp [isDay]; omega
  unfold seAt
  rw [i1, i2, if_pos rfl, if_pos rfl]
  congr 1
  refine List.filter_congr fun x hx => ?_
  have := hno x hx
  by_cases hx : x.1 ≤ day
  · have : x.1 ≤ day - 1 := by omega
    simp [hx, this]
  · have : ¬ x.1 ≤ day - 1 := by omega
    simp [hx, this]
end

/-- The keys whose entries on a day satisfy a predicate. -/
def Where {V : Type} (L : Tb V) (day : Int) (act : V → Bool) (k : ByteArray) : Prop := ∃ y, seAt (ser L k) day = some y ∧ act y.2 = true

/-- The days of all entries. -/
def HasDay (t : Tab) (d : Int) : Prop := (∃ k, ∃ x ∈ ser t.mem k, x.1 = d) ∨ (∃ k, ∃ x ∈ ser t.sec k, x.1 = d) ∨ (∃ k, ∃ x ∈ ser t.pri k, x.1 = d) ∨ (∃ k, ∃ x ∈ ser t.hc k, x.1 = d)

/-! ### The law's own additions -/
section
variable {vld : Int → ByteArray → Bool} {fok : Int → Int → Bool} {t : Tab} {e : E}

theorem tabSet_fail (h : tabCode vld fok t e ≠ 0) : tabSet vld fok t e = t := by
  unfold tabCode at h
  unfold tabSet
  by_cases h0 : e.kind = 0
  · rw [if_pos h0] at h ⊢
    unfold setMember; rw [if_neg h]
  · rw [if_neg h0] at h ⊢
    by_cases h1 : e.kind = 1
    · rw [if_pos h1] at h ⊢
      unfold setSecurity; rw [if_neg h]
    · rw [if_neg h1] at h ⊢
      by_cases h2 : e.kind = 2
      · rw [if_pos h2] at h ⊢
        unfold setPrice; rw [if_neg h]
      · rw [if_neg h2] at h ⊢
        unfold setHaircut; rw [if_neg h]

theorem setMemberE_ok {day : Int} {m : MV} (h : setMemberE vld t day m = 0) : isDay day = true ∧ vld 1 m.code = true ∧ (m.lei = ByteArray.empty ∨ (vld 3 m.lei = true ∧ Go.Proofs.YtmbhkfclpkopiaaGreatDoor.taken t m = false)) ∧ stale (ser t.mem m.code) day = false ∧ ((look t.mem m.code).isSome = true ∨ t.mem.length < 4096) := by
  unfold setMemberE at h
  cases h1 : isDay day <;> simp only [h1, Bool.not_true, Bool.not_false, if_true, if_false, Bool.false_eq_true] at h
  · cases h
  cases h2 : vld 1 m.code <;> simp only [h2, Bool.not_true, Bool.not_false, if_true, if_false, Bool.false_eq_true] at h
  · cases h
  by_cases h3 : (!decide (m.lei = ByteArray.empty) && !vld 3 m.lei) = true
  · rw [if_pos h3] at h; cases h
  rw [if_neg h3] at h
  cases h4 : stale (ser t.mem m.code) day <;> simp only [h4, if_true, if_false, Bool.false_eq_true] at h
  · by_cases h5 : (!decide (m.lei = ByteArray.empty) && Go.Proofs.YtmbhkfclpkopiaaGreatDoor.taken t m) = true
    · rw [if_pos h5] at h; cases h
    rw [if_neg h5] at h
    by_cases h6 : (!(look t.mem m.code).isSome && decide (4096 ≤ t.mem.length)) = true
    · rw [if_pos h6] at h; cases h
    refine ⟨rfl, rfl, ?_, rfl, ?_⟩
    · by_cases h7 : m.lei = ByteArray.empty
      · exact .inl h7
      · simp [h7] at h3 h5
        exact .inr ⟨h3, h5⟩
    · simp at h6
      cases h8 : (look t.mem m.code).isSome
      · right
        have := h6 (by simpa using h8)
        omega
      · exact .inl rfl
  · cases h
end
end Go.Proofs.YtmbhkfclpkopiaaGreatDoor

namespace Go.Proofs.YtmbhkfclpkopiaaGreatDoor
set_option linter.unusedVariables false
set_option linter.unusedSimpArgs false

theorem chain6 (c1 c2 c3 c4 c5 c6 : Bool) (h : (if c1 then 28 else if c2 then 6 else if c3 then 3 else if c4 then 20 else if c5 then 7 else if c6 then 8 else (0 : Int)) = 0) : c1 = false ∧ c2 = false ∧ c3 = false ∧ c4 = false ∧ c5 = false ∧ c6 = false := by
  cases c1 <;> cases c2 <;> cases c3 <;> cases c4 <;> cases c5 <;> cases c6 <;> simp_all
theorem chain7 (c1 c2 c3 c4 c5 c6 c7 : Bool) (h : (if c1 then 28 else if c2 then 6 else if c3 then 9 else if c4 then 2 else if c5 then 20 else if c6 then 11 else if c7 then 8 else (0 : Int)) = 0) : c1 = false ∧ c2 = false ∧ c3 = false ∧ c4 = false ∧ c5 = false ∧ c6 = false ∧ c7 = false := by
  cases c1 <;> cases c2 <;> cases c3 <;> cases c4 <;> cases c5 <;> cases c6 <;> cases c7 <;> simp_all
theorem chain4 (c1 c2 c3 c4 : Bool) (h : (if c1 then 28 else if c2 then 9 else if c3 then 2 else if c4 then 20 else (0 : Int)) = 0) : c1 = false ∧ c2 = false ∧ c3 = false ∧ c4 = false := by
  cases c1 <;> cases c2 <;> cases c3 <;> cases c4 <;> simp_all

section
variable {V : Type}
theorem seWith_twice (s : List (Int × V)) (d : Int) (a b : V) : seWith (seWith s d a) d b = seWith s d b := by
  have key : ∀ q : List (Int × V), seCut (q ++ [(d, a)]) d = q := by
    intro q
    unfold seCut
    simp
  have : seCut (seWith s d a) d = seCut s d := key _
  unfold seWith at this ⊢
  rw [this]
end

section
variable {vld : Int → ByteArray → Bool} {fok : Int → Int → Bool} {t : Tab} {e : E}

/-- What a success says: the day is one, the series isn't later, and the table has the new series. -/
theorem tabSet_ok (hk : e.kind = 0 ∨ e.kind = 1 ∨ e.kind = 2 ∨ e.kind = 3) (h : tabCode vld fok t e = 0) : isDay e.day = true ∧
    ((e.kind = 0 ∧ stale (ser t.mem e.key) e.day = false ∧ tabSet vld fok t e = { t with mem := upd t.mem e.key (seWith (ser t.mem e.key) e.day (mOf e)) }) ∨
     (e.kind = 1 ∧ stale (ser t.sec e.key) e.day = false ∧ tabSet vld fok t e = { t with sec := upd t.sec e.key (seWith (ser t.sec e.key) e.day (sOf e)) }) ∨
     (e.kind = 2 ∧ stale (ser t.pri e.key) e.day = false ∧ tabSet vld fok t e = { t with pri := upd t.pri e.key (seWith (ser t.pri e.key) e.day e.n) }) ∨
     (e.kind = 3 ∧ stale (ser t.hc e.key) e.day = false ∧ tabSet vld fok t e = { t with hc := upd t.hc e.key (seWith (ser t.hc e.key) e.day (fOf e)) })) := by
  unfold tabCode at h
  unfold tabSet
  rcases hk with hk | hk | hk | hk
  · rw [if_pos hk] at h ⊢
    have h' := h
    unfold setMemberE at h
    obtain ⟨h1, _, _, h4, _⟩ := chain6 _ _ _ _ _ _ h
    refine ⟨by simpa using h1, .inl ⟨hk, h4, ?_⟩⟩
    unfold setMember; rw [if_pos h']; rfl
  · rw [if_neg (by omega), if_pos hk] at h ⊢
    have h' := h
    unfold setSecurityE at h
    obtain ⟨h1, _, _, _, h5, _⟩ := chain7 _ _ _ _ _ _ _ h
    refine ⟨by simpa using h1, .inr (.inl ⟨hk, h5, ?_⟩)⟩
    unfold setSecurity; rw [if_pos h']; rfl
  · rw [if_neg (by omega), if_neg (by omega), if_pos hk] at h ⊢
    have h' := h
    unfold setE at h
    obtain ⟨h1, _, _, h4⟩ := chain4 _ _ _ _ h
    refine ⟨by simpa using h1, .inr (.inr (.inl ⟨hk, h4, ?_⟩))⟩
    unfold setPrice; rw [if_pos h']
  · rw [if_neg (by omega), if_neg (by omega), if_neg (by omega)] at h ⊢
    have h' := h
    unfold setE at h
    obtain ⟨h1, _, _, h4⟩ := chain4 _ _ _ _ h
    refine ⟨by simpa using h1, .inr (.inr (.inr ⟨hk, h4, ?_⟩))⟩
    unfold setHaircut; rw [if_pos h']

theorem ser_upd_before {V : Type} {L : Tb V} (hL : TbOk L) {k : ByteArray} {d day : Int} (hs : stale (ser L k) d = false) (v : V) (h : day < d) (q : ByteArray) :
    seAt (ser (upd L k (seWith (ser L k) d v)) q) day = seAt (ser L q) day := by
  rw [ser_upd]
  split
  · rename_i e; subst e; exact seAt_before (hL.ser_rising _) hs v h
  · rfl

/-- Earlier days stay what they were. -/
structure SameAt (t o : Tab) (day day' : Int) : Prop where
  mem : ∀ k, seAt (ser t.mem k) day = seAt (ser o.mem k) day'
  sec : ∀ k, seAt (ser t.sec k) day = seAt (ser o.sec k) day'
  pri : ∀ k, seAt (ser t.pri k) day = seAt (ser o.pri k) day'
  hc : ∀ k, seAt (ser t.hc k) day = seAt (ser o.hc k) day'

theorem tabSet_before (ht : TabOk t) (hk : e.kind = 0 ∨ e.kind = 1 ∨ e.kind = 2 ∨ e.kind = 3) (h : tabCode vld fok t e = 0) {day : Int} (hd : day < e.day) : SameAt (tabSet vld fok t e) t day day := by
  obtain ⟨_, h | h | h | h⟩ := tabSet_ok hk h
  all_goals obtain ⟨_, hs, he⟩ := h; rw [he]
  · exact ⟨fun k => ser_upd_before ht.mem hs _ hd k, fun _ => rfl, fun _ => rfl, fun _ => rfl⟩
  · exact ⟨fun _ => rfl, fun k => ser_upd_before ht.sec hs _ hd k, fun _ => rfl, fun _ => rfl⟩
  · exact ⟨fun _ => rfl, fun _ => rfl, fun k => ser_upd_before ht.pri hs _ hd k, fun _ => rfl⟩
  · exact ⟨fun _ => rfl, fun _ => rfl, fun _ => rfl, fun k => ser_upd_before ht.hc hs _ hd k⟩

theorem same_next {day : Int} (h1 : 1 ≤ day) (h2 : day ≤ 73048) (hno : ¬ HasDay t day) : SameAt t t day (day - 1) := by
  constructor <;> intro k <;> refine seAt_same h1 h2 fun x hx hd => hno ?_
  · exact .inl ⟨k, x, hx, hd⟩
  · exact .inr (.inl ⟨k, x, hx, hd⟩)
  · exact .inr (.inr (.inl ⟨k, x, hx, hd⟩))
  · exact .inr (.inr (.inr ⟨k, x, hx, hd⟩))

theorem ser_upd_twice {V : Type} (L : Tb V) (k : ByteArray) (d : Int) (a b : V) (q : ByteArray) :
    ser (upd (upd L k (seWith (ser L k) d a)) k (seWith (ser (upd L k (seWith (ser L k) d a)) k) d b)) q = ser (upd L k (seWith (ser L k) d b)) q := by
  have h1 : ser (upd L k (seWith (ser L k) d a)) k = seWith (ser L k) d a := by rw [ser_upd, if_pos rfl]
  rw [h1, seWith_twice]
  simp only [ser_upd]
  split <;> rfl

theorem mem_upd_ne {α : Type} {L : List (ByteArray × α)} (hL : KeysNodup L) {k : ByteArray} {s : α} {x : ByteArray × α} (hne : x.1 ≠ k) : x ∈ upd L k s ↔ x ∈ L := by
  have h1 : (x.1, x.2) ∈ upd L k s ↔ look (upd L k s) x.1 = some x.2 := (look_iff (keysNodup_upd hL k s)).symm
  have h2 : (x.1, x.2) ∈ L ↔ look L x.1 = some x.2 := (look_iff hL).symm
  rw [look_upd, if_neg hne] at h1
  exact h1.trans h2.symm

theorem taken_upd {L : Tb MV} (hL : KeysNodup L) (s : List (Int × MV)) (m : MV) : Go.Proofs.YtmbhkfclpkopiaaGreatDoor.taken { t with mem := upd L m.code s } m = Go.Proofs.YtmbhkfclpkopiaaGreatDoor.taken { t with mem := L } m := by
  rw [Bool.eq_iff_iff]
  unfold Go.Proofs.YtmbhkfclpkopiaaGreatDoor.taken
  simp only [List.any_eq_true]
  constructor
  · rintro ⟨x, hx, hq⟩
    have hne : x.1 ≠ m.code := by
      simp only [Bool.and_eq_true, Bool.not_eq_true', decide_eq_false_iff_not] at hq
      exact hq.1
    exact ⟨x, (mem_upd_ne hL hne).1 hx, hq⟩
  · rintro ⟨x, hx, hq⟩
    have hne : x.1 ≠ m.code := by
      simp only [Bool.and_eq_true, Bool.not_eq_true', decide_eq_false_iff_not] at hq
      exact hq.1
    exact ⟨x, (mem_upd_ne hL hne).2 hx, hq⟩

/-- A second entry of the same day in the place of the first. -/
theorem replace_pure {x y : E} (ht : TabOk t) (hk : x.kind = 0 ∨ x.kind = 1 ∨ x.kind = 2 ∨ x.kind = 3) (hkind : y.kind = x.kind) (hkey : y.key = x.key) (hday : y.day = x.day) (htext : x.kind = 1 → y.text = x.text)
    (h1 : tabCode vld fok t x = 0) (h2 : tabCode vld fok (tabSet vld fok t x) y = 0) : tabCode vld fok t y = 0 ∧ TabSame (tabSet vld fok (tabSet vld fok t x) y) (tabSet vld fok t y) := by
  have hky : y.kind = 0 ∨ y.kind = 1 ∨ y.kind = 2 ∨ y.kind = 3 := by rw [hkind]; exact hk
  have hcode : tabCode vld fok t y = 0 := by
    obtain ⟨hd, h | h | h | h⟩ := tabSet_ok hk h1
    all_goals obtain ⟨hx, hs, he⟩ := h; rw [he] at h2
    · have hy : y.kind = 0 := by omega
      unfold tabCode at h1 h2 ⊢
      rw [if_pos hx] at h1
      rw [if_pos hy] at h2 ⊢
      unfold setMemberE at h1 h2 ⊢
      obtain ⟨a1, a2, a3, a4, a5, a6⟩ := chain6 _ _ _ _ _ _ h1
      obtain ⟨b1, b2, b3, b4, b5, b6⟩ := chain6 _ _ _ _ _ _ h2
      have e5 : Go.Proofs.YtmbhkfclpkopiaaGreatDoor.taken { t with mem := upd t.mem x.key (seWith (ser t.mem x.key) x.day (mOf x)) } (mOf y) = Go.Proofs.YtmbhkfclpkopiaaGreatDoor.taken t (mOf y) := by
        have := taken_upd (t := t) (L := t.mem) ht.mem.nodup (seWith (ser t.mem x.key) x.day (mOf x)) (mOf y)
        have hc : (mOf y).code = x.key := hkey
        rw [hc] at this
        exact this
      rw [e5] at b5
      have c4 : stale (ser t.mem (mOf y).code) y.day = false := by
        show stale (ser t.mem y.key) y.day = false
        rw [hkey, hday]; exact a4
      have c6 : (!(look t.mem (mOf y).code).isSome && decide (4096 ≤ t.mem.length)) = false := by
        show (!(look t.mem y.key).isSome && _) = false
        rw [hkey]; exact a6
      rw [b1, b2, b3, c4, b5, c6]
      rfl
    · have hy : y.kind = 1 := by omega
      unfold tabCode at h1 h2 ⊢
      rw [if_neg (by omega), if_pos hx] at h1
      rw [if_neg (by omega), if_pos hy] at h2 ⊢
      unfold setSecurityE at h1 h2 ⊢
      obtain ⟨a1, a2, a3, a4, a5, a6, a7⟩ := chain7 _ _ _ _ _ _ _ h1
      obtain ⟨b1, b2, b3, b4, b5, b6, b7⟩ := chain7 _ _ _ _ _ _ _ h2
      have e1 : (sOf y).isin = (sOf x).isin := hkey
      have e2 : (sOf y).issuer = (sOf x).issuer := htext hx
      rw [e1, e2, hday, a1, a2, a3, b4, a5, a6, a7]
      rfl
    · have hy : y.kind = 2 := by omega
      unfold tabCode at h1 h2 ⊢
      rw [if_neg (by omega), if_neg (by omega), if_pos hx] at h1
      rw [if_neg (by omega), if_neg (by omega), if_pos hy] at h2 ⊢
      unfold setE at h1 h2 ⊢
      obtain ⟨a1, a2, a3, a4⟩ := chain4 _ _ _ _ h1
      obtain ⟨b1, b2, b3, b4⟩ := chain4 _ _ _ _ h2
      have c2 : (!(securityAt t y.day y.key).isSome) = false := b2
      have c4 : stale (ser t.pri y.key) y.day = false := by rw [hkey, hday]; exact a4
      rw [b1, c2, b3, c4]
      rfl
    · have hy : y.kind = 3 := by omega
      unfold tabCode at h1 h2 ⊢
      rw [if_neg (by omega), if_neg (by omega), if_neg (by omega)] at h1
      rw [if_neg (by omega), if_neg (by omega), if_neg (by omega)] at h2 ⊢
      unfold setE at h1 h2 ⊢
      obtain ⟨a1, a2, a3, a4⟩ := chain4 _ _ _ _ h1
      obtain ⟨b1, b2, b3, b4⟩ := chain4 _ _ _ _ h2
      have c2 : (!(securityAt t y.day y.key).isSome) = false := b2
      have c4 : stale (ser t.hc y.key) y.day = false := by rw [hkey, hday]; exact a4
      rw [b1, c2, b3, c4]
      rfl
  refine ⟨hcode, ?_⟩
  obtain ⟨_, h | h | h | h⟩ := tabSet_ok hk h1
  all_goals
    obtain ⟨hx, _, he⟩ := h
    rw [he] at h2 ⊢
    obtain ⟨_, g⟩ := tabSet_ok hky h2
    obtain ⟨_, g'⟩ := tabSet_ok hky hcode
  · rcases g with ⟨_, _, g⟩ | ⟨q, _⟩ | ⟨q, _⟩ | ⟨q, _⟩
    · rcases g' with ⟨_, _, g'⟩ | ⟨q, _⟩ | ⟨q, _⟩ | ⟨q, _⟩
      · rw [g, g', hkey, hday]
        exact ⟨fun q => ser_upd_twice _ _ _ _ _ q, .refl _, .refl _, .refl _⟩
      all_goals omega
    all_goals omega
  · rcases g with ⟨q, _⟩ | ⟨_, _, g⟩ | ⟨q, _⟩ | ⟨q, _⟩
    · omega
    · rcases g' with ⟨q, _⟩ | ⟨_, _, g'⟩ | ⟨q, _⟩ | ⟨q, _⟩
      · omega
      · rw [g, g', hkey, hday]
        exact ⟨.refl _, fun q => ser_upd_twice _ _ _ _ _ q, .refl _, .refl _⟩
      all_goals omega
    all_goals omega
  · rcases g with ⟨q, _⟩ | ⟨q, _⟩ | ⟨_, _, g⟩ | ⟨q, _⟩
    · omega
    · omega
    · rcases g' with ⟨q, _⟩ | ⟨q, _⟩ | ⟨_, _, g'⟩ | ⟨q, _⟩
      · omega
      · omega
      · rw [g, g', hkey, hday]
        exact ⟨.refl _, .refl _, fun q => ser_upd_twice _ _ _ _ _ q, .refl _⟩
      all_goals omega
    all_goals omega
  · rcases g with ⟨q, _⟩ | ⟨q, _⟩ | ⟨q, _⟩ | ⟨_, _, g⟩
    · omega
    · omega
    · omega
    · rcases g' with ⟨q, _⟩ | ⟨q, _⟩ | ⟨q, _⟩ | ⟨_, _, g'⟩
      · omega
      · omega
      · omega
      · rw [g, g', hkey, hday]
        exact ⟨.refl _, .refl _, .refl _, fun q => ser_upd_twice _ _ _ _ _ q⟩

/-- What an addition of a price or a haircut reads: the securities and its own series. -/
theorem code_other {x y : E} (hx : x.kind = 2 ∨ x.kind = 3) (hy : y.kind = 2 ∨ y.kind = 3) (hne : ¬ (x.kind = y.kind ∧ x.key = y.key)) : tabCode vld fok (tabSet vld fok t x) y = tabCode vld fok t y := by
  by_cases h0 : tabCode vld fok t x = 0
  · obtain ⟨_, h | h | h | h⟩ := tabSet_ok (by omega) h0
    · omega
    · omega
    · obtain ⟨hk, _, he⟩ := h
      rw [he]
      unfold tabCode
      rcases hy with hy | hy
      · have hkk : y.key ≠ x.key := fun e => hne ⟨by omega, e.symm⟩
        rw [if_neg (by omega), if_neg (by omega), if_pos hy, if_neg (by omega), if_neg (by omega), if_pos hy]
        show setE _ (ser (upd t.pri x.key _) y.key) _ _ _ = _
        rw [ser_upd, if_neg hkk]
        rfl
      · rw [if_neg (by omega), if_neg (by omega), if_neg (by omega), if_neg (by omega), if_neg (by omega), if_neg (by omega)]
        rfl
    · obtain ⟨hk, _, he⟩ := h
      rw [he]
      unfold tabCode
      rcases hy with hy | hy
      · rw [if_neg (by omega), if_neg (by omega), if_pos hy, if_neg (by omega), if_neg (by omega), if_pos hy]
        rfl
      · have hkk : y.key ≠ x.key := fun e => hne ⟨by omega, e.symm⟩
        rw [if_neg (by omega), if_neg (by omega), if_neg (by omega), if_neg (by omega), if_neg (by omega), if_neg (by omega)]
        show setE _ (ser (upd t.hc x.key _) y.key) _ _ _ = _
        rw [ser_upd, if_neg hkk]
        rfl
  · rw [tabSet_fail h0]

theorem ser_upd_comm {V : Type} (L : Tb V) {k q : ByteArray} (hne : k ≠ q) (d d' : Int) (a b : V) (r : ByteArray) :
    ser (upd (upd L k (seWith (ser L k) d a)) q (seWith (ser (upd L k (seWith (ser L k) d a)) q) d' b)) r = ser (upd (upd L q (seWith (ser L q) d' b)) k (seWith (ser (upd L q (seWith (ser L q) d' b)) k) d a)) r := by
  simp only [ser_upd]
  rw [if_neg (Ne.symm hne), if_neg hne]
  by_cases h1 : r = q
  · have h2 : ¬ r = k := fun e => hne (e.symm.trans h1)
    rw [if_pos h1, if_neg h2, if_pos h1]
  · rw [if_neg h1]
    by_cases h2 : r = k
    · rw [if_pos h2, if_pos h2]
    · rw [if_neg h2, if_neg h2, if_neg h1]

/-- Prices and haircuts with different keys may be exchanged. -/
theorem commute_pure {x y : E} (hx : x.kind = 2 ∨ x.kind = 3) (hy : y.kind = 2 ∨ y.kind = 3) (hne : ¬ (x.kind = y.kind ∧ x.key = y.key)) :
    TabSame (tabSet vld fok (tabSet vld fok t x) y) (tabSet vld fok (tabSet vld fok t y) x) := by
  have c1 := code_other (vld := vld) (fok := fok) (t := t) hx hy hne
  have c2 := code_other (vld := vld) (fok := fok) (t := t) hy hx (fun h => hne ⟨h.1.symm, h.2.symm⟩)
  by_cases h1 : tabCode vld fok t x = 0
  · by_cases h2 : tabCode vld fok t y = 0
    · have h1' := h1
      have h2' := h2
      rw [← c2] at h1'
      rw [← c1] at h2'
      obtain ⟨_, a⟩ := tabSet_ok (by omega) h1
      obtain ⟨_, b⟩ := tabSet_ok (by omega) h2
      obtain ⟨_, a'⟩ := tabSet_ok (by omega) h1'
      obtain ⟨_, b'⟩ := tabSet_ok (by omega) h2'
      have a2 : (x.kind = 2 ∧ tabSet vld fok t x = { t with pri := upd t.pri x.key (seWith (ser t.pri x.key) x.day x.n) }) ∨ (x.kind = 3 ∧ tabSet vld fok t x = { t with hc := upd t.hc x.key (seWith (ser t.hc x.key) x.day (fOf x)) }) := by
        rcases a with ⟨q, _⟩ | ⟨q, _⟩ | ⟨q, _, e⟩ | ⟨q, _, e⟩
        · omega
        · omega
        · exact .inl ⟨q, e⟩
        · exact .inr ⟨q, e⟩
      have b2 : (y.kind = 2 ∧ tabSet vld fok t y = { t with pri := upd t.pri y.key (seWith (ser t.pri y.key) y.day y.n) }) ∨ (y.kind = 3 ∧ tabSet vld fok t y = { t with hc := upd t.hc y.key (seWith (ser t.hc y.key) y.day (fOf y)) }) := by
        rcases b with ⟨q, _⟩ | ⟨q, _⟩ | ⟨q, _, e⟩ | ⟨q, _, e⟩
        · omega
        · omega
        · exact .inl ⟨q, e⟩
        · exact .inr ⟨q, e⟩
      clear a b
      rcases a' with ⟨q, _⟩ | ⟨q, _⟩ | ⟨qx, _, ea⟩ | ⟨qx, _, ea⟩
      · omega
      · omega
      · rcases b' with ⟨q, _⟩ | ⟨q, _⟩ | ⟨qy, _, eb⟩ | ⟨qy, _, eb⟩
        · omega
        · omega
        · rw [ea, eb]
          rcases a2 with ⟨_, e1⟩ | ⟨q, _⟩
          · rcases b2 with ⟨_, e2⟩ | ⟨q, _⟩
            · rw [e1, e2]
              exact ⟨.refl _, .refl _, fun r => ser_upd_comm _ (fun e => hne ⟨by omega, e⟩) _ _ _ _ r, .refl _⟩
            · omega
          · omega
        · rw [ea, eb]
          rcases a2 with ⟨_, e1⟩ | ⟨q, _⟩
          · rcases b2 with ⟨q, _⟩ | ⟨_, e2⟩
            · omega
            · rw [e1, e2]
              exact ⟨.refl _, .refl _, .refl _, .refl _⟩
          · omega
      · rcases b' with ⟨q, _⟩ | ⟨q, _⟩ | ⟨qy, _, eb⟩ | ⟨qy, _, eb⟩
        · omega
        · omega
        · rw [ea, eb]
          rcases a2 with ⟨q, _⟩ | ⟨_, e1⟩
          · omega
          · rcases b2 with ⟨_, e2⟩ | ⟨q, _⟩
            · rw [e1, e2]
              exact ⟨.refl _, .refl _, .refl _, .refl _⟩
            · omega
        · rw [ea, eb]
          rcases a2 with ⟨q, _⟩ | ⟨_, e1⟩
          · omega
          · rcases b2 with ⟨q, _⟩ | ⟨_, e2⟩
            · omega
            · rw [e1, e2]
              exact ⟨.refl _, .refl _, .refl _, fun r => ser_upd_comm _ (fun e => hne ⟨by omega, e⟩) _ _ _ _ r⟩
    · have h2' := h2
      rw [← c1] at h2'
      rw [tabSet_fail h2', tabSet_fail h2]
      exact .refl _
  · have h1' := h1
    rw [← c2] at h1'
    rw [tabSet_fail h1', tabSet_fail h1]
    exact .refl _
end
end Go.Proofs.YtmbhkfclpkopiaaGreatDoor

namespace Go.Proofs.YtmbhkfclpkopiaaGreatDoor
set_option linter.unusedVariables false
set_option linter.unusedSimpArgs false

section
variable {t : Tab} {T : List E}

theorem refAt_mem {kind day : Int} {key : ByteArray} {e : E} (h : refAt T kind day key = some e) : e ∈ T ∧ e.kind = kind ∧ e.key = key := by
  unfold refAt at h
  split at h
  · have h1 := (List.mem_filter.1 (List.mem_of_getLast? h)).1
    have h2 := List.mem_filter.1 h1
    exact ⟨h2.1, by simpa [isOf] using h2.2⟩
  · cases h

/-- The keys of active entries, of the reference. -/
def RefActive (T : List E) (kind day : Int) (k : ByteArray) : Prop := ∃ x, refAt T kind day k = some x ∧ x.active = true
def RefIssued (T : List E) (day : Int) (issuer k : ByteArray) : Prop := ∃ x, refAt T 1 day k = some x ∧ x.active = true ∧ x.text = issuer

theorem Rel.where0 (h : Rel t T) (day : Int) (k : ByteArray) : Where t.mem day (·.active) k ↔ RefActive T 0 day k := by
  have this : seAt (ser t.mem k) day = (refAt T 0 day k).map mvOf := h.memberAt day k
  unfold Where RefActive
  rw [this]
  cases refAt T 0 day k <;> simp [mvOf]
theorem Rel.where1 (h : Rel t T) (day : Int) (k : ByteArray) : Where t.sec day (·.active) k ↔ RefActive T 1 day k := by
  have this : seAt (ser t.sec k) day = (refAt T 1 day k).map svOf := h.securityAt day k
  unfold Where RefActive
  rw [this]
  cases refAt T 1 day k <;> simp [svOf]
theorem Rel.issued (h : Rel t T) (day : Int) (issuer k : ByteArray) : Where t.sec day (fun x => x.active && decide (x.issuer = issuer)) k ↔ RefIssued T day issuer k := by
  have this : seAt (ser t.sec k) day = (refAt T 1 day k).map svOf := h.securityAt day k
  unfold Where RefIssued
  rw [this]
  cases refAt T 1 day k <;> simp [svOf]

theorem Rel.days (h : Rel t T) (d : Int) : HasDay t d ↔ ∃ x ∈ T, x.day = d := by
  constructor
  · rintro (⟨k, x, hx, rfl⟩ | ⟨k, x, hx, rfl⟩ | ⟨k, x, hx, rfl⟩ | ⟨k, x, hx, rfl⟩)
    · rw [h.mem] at hx
      obtain ⟨y, hy, rfl⟩ := List.mem_map.1 hx
      exact ⟨y, (List.mem_filter.1 hy).1, rfl⟩
    · rw [h.sec] at hx
      obtain ⟨y, hy, rfl⟩ := List.mem_map.1 hx
      exact ⟨y, (List.mem_filter.1 hy).1, rfl⟩
    · rw [h.pri] at hx
      obtain ⟨y, hy, rfl⟩ := List.mem_map.1 hx
      exact ⟨y, (List.mem_filter.1 hy).1, rfl⟩
    · rw [h.hc] at hx
      obtain ⟨y, hy, rfl⟩ := List.mem_map.1 hx
      exact ⟨y, (List.mem_filter.1 hy).1, rfl⟩
  · rintro ⟨x, hx, rfl⟩
    have hs := sel_mem hx
    rcases (h.clean x hx).kind with hk | hk | hk | hk <;> rw [hk] at hs
    · exact .inl ⟨x.key, mvOf x, by rw [h.mem]; exact List.mem_map.2 ⟨x, hs, rfl⟩, rfl⟩
    · exact .inr (.inl ⟨x.key, svOf x, by rw [h.sec]; exact List.mem_map.2 ⟨x, hs, rfl⟩, rfl⟩)
    · exact .inr (.inr (.inl ⟨x.key, pvOf x, by rw [h.pri]; exact List.mem_map.2 ⟨x, hs, rfl⟩, rfl⟩))
    · exact .inr (.inr (.inr ⟨x.key, fvOf x, by rw [h.hc]; exact List.mem_map.2 ⟨x, hs, rfl⟩, rfl⟩))

theorem seWith_self {V : Type} {s : List (Int × V)} {d : Int} {v : V} : s = seWith s d v ↔ s.getLast? = some (d, v) := by
  constructor
  · intro h
    rw [h]
    unfold seWith
    simp
  · intro h
    unfold seWith seCut
    rw [h]
    simp only [if_true]
    rcases List.eq_nil_or_concat s with rfl | ⟨q, y, rfl⟩
    · simp at h
    · simp at h
      subst h
      simp

theorem refAt_last {V : Type} {f : E → Int × V} (hf : ∀ e, (f e).1 = e.day) {kind d : Int} {key : ByteArray} (hr : Rising ((sel T kind key).map f)) (hs : stale ((sel T kind key).map f) d = false) (hd : isDay d = true) :
    refAt T kind d key = (sel T kind key).getLast? := by
  unfold refAt
  rw [hd, if_pos rfl]
  congr 1
  refine List.filter_eq_self.2 fun x hx => ?_
  cases hl : (sel T kind key).getLast? with
  | none => rw [List.getLast?_eq_none_iff] at hl; rw [hl] at hx; cases hx
  | some y =>
    have h1 : ((sel T kind key).map f).getLast? = some (f y) := by rw [List.getLast?_map, hl]; rfl
    have h2 := rising_last hr h1 (f x) (List.mem_map.2 ⟨x, hx, rfl⟩)
    rw [stale_map f hf, hl] at hs
    simp only [decide_eq_false_iff_not] at hs
    rw [hf, hf] at h2
    simp only [decide_eq_true_eq]
    omega

theorem same_upd {V : Type} {L : Tb V} {k : ByteArray} {s : List (Int × V)} : TbSame L (upd L k s) ↔ ser L k = s := by
  unfold TbSame
  constructor
  · intro h
    have := h k
    rw [ser_upd, if_pos rfl] at this
    exact this
  · intro h q
    rw [ser_upd]
    split
    · rename_i e; subst e; exact h
    · rfl

/-- An addition that succeeds changes nothing exactly if the entry is there already. -/
theorem unchanged_iff {vld : Int → ByteArray → Bool} {fok : Int → Int → Bool} (h : Rel t T) {e : E} (hc : Clean e) (h0 : tabCode vld fok t e = 0) : TabSame t (tabSet vld fok t e) ↔ refAt T e.kind e.day e.key = some e := by
  obtain ⟨hd, g⟩ := tabSet_ok hc.kind h0
  have key : ∀ {V : Type} {f : E → Int × V} (hf : ∀ e, (f e).1 = e.day) {s : List (Int × V)} {v : V}, s = (sel T e.kind e.key).map f → Rising s → stale s e.day = false → (∀ y, y ∈ T → y.kind = e.kind → y.key = e.key → (f y = (e.day, v) ↔ y = e)) →
      (s = seWith s e.day v ↔ refAt T e.kind e.day e.key = some e) := by
    intro V f hf s v hs hr hst heq
    subst hs
    rw [seWith_self, refAt_last hf hr hst hd, List.getLast?_map]
    cases hl : (sel T e.kind e.key).getLast? with
    | none => simp
    | some y =>
      obtain ⟨h1, h2, h3⟩ := sel_some hl
      have := heq y h1 h2 h3
      simpa using this
  rcases g with ⟨hk, hs, he⟩ | ⟨hk, hs, he⟩ | ⟨hk, hs, he⟩ | ⟨hk, hs, he⟩ <;> rw [he]
  · have e1 : TabSame t { t with mem := upd t.mem e.key (seWith (ser t.mem e.key) e.day (mOf e)) } ↔ ser t.mem e.key = seWith (ser t.mem e.key) e.day (mOf e) :=
      ⟨fun h => same_upd.1 h.mem, fun h => ⟨same_upd.2 h, .refl _, .refl _, .refl _⟩⟩
    rw [e1]
    refine key (f := mvOf) (fun _ => rfl) (by rw [hk]; exact h.mem _) (h.ok.mem.ser_rising _) hs fun y hy h2 h3 => ?_
    have cy := h.clean y hy
    obtain ⟨a1, a2, a3⟩ := cy.k0 (h2.trans hk)
    obtain ⟨b1, b2, b3⟩ := hc.k0 hk
    cases y; cases e
    simp only [mvOf, mOf, E.mk.injEq, Prod.mk.injEq, MV.mk.injEq] at *
    constructor
    · rintro ⟨q1, q2, q3, q4⟩
      exact ⟨h2, q1, q2, q3, by omega, by omega, by omega, q4⟩
    · rintro ⟨q0, q1, q2, q3, _, _, _, q4⟩
      exact ⟨q1, q2, q3, q4⟩
  · have e1 : TabSame t { t with sec := upd t.sec e.key (seWith (ser t.sec e.key) e.day (sOf e)) } ↔ ser t.sec e.key = seWith (ser t.sec e.key) e.day (sOf e) :=
      ⟨fun h => same_upd.1 h.sec, fun h => ⟨.refl _, same_upd.2 h, .refl _, .refl _⟩⟩
    rw [e1]
    refine key (f := svOf) (fun _ => rfl) (by rw [hk]; exact h.sec _) (h.ok.sec.ser_rising _) hs fun y hy h2 h3 => ?_
    have cy := h.clean y hy
    obtain ⟨a1, a2⟩ := cy.k1 (h2.trans hk)
    obtain ⟨b1, b2⟩ := hc.k1 hk
    cases y; cases e
    simp only [svOf, sOf, E.mk.injEq, Prod.mk.injEq, SV.mk.injEq] at *
    constructor
    · rintro ⟨q1, q2, q3, q4, q5⟩
      exact ⟨h2, q1, q2, q3, q4, by omega, by omega, q5⟩
    · rintro ⟨q0, q1, q2, q3, q4, _, _, q5⟩
      exact ⟨q1, q2, q3, q4, q5⟩
  · have e1 : TabSame t { t with pri := upd t.pri e.key (seWith (ser t.pri e.key) e.day e.n) } ↔ ser t.pri e.key = seWith (ser t.pri e.key) e.day e.n :=
      ⟨fun h => same_upd.1 h.pri, fun h => ⟨.refl _, .refl _, same_upd.2 h, .refl _⟩⟩
    rw [e1]
    refine key (f := pvOf) (fun _ => rfl) (by rw [hk]; exact h.pri _) (h.ok.pri.ser_rising _) hs fun y hy h2 h3 => ?_
    have cy := h.clean y hy
    obtain ⟨a1, a2, a3, a4⟩ := cy.k2 (h2.trans hk)
    obtain ⟨b1, b2, b3, b4⟩ := hc.k2 hk
    cases y; cases e
    simp only [pvOf, E.mk.injEq, Prod.mk.injEq] at *
    constructor
    · rintro ⟨q1, q2⟩
      exact ⟨h2, q1, h3, a1.trans b1.symm, q2, by omega, by omega, a4.trans b4.symm⟩
    · rintro ⟨q0, q1, q2, q3, q4, _, _, q5⟩
      exact ⟨q1, q4⟩
  · have e1 : TabSame t { t with hc := upd t.hc e.key (seWith (ser t.hc e.key) e.day (fOf e)) } ↔ ser t.hc e.key = seWith (ser t.hc e.key) e.day (fOf e) :=
      ⟨fun h => same_upd.1 h.hc, fun h => ⟨.refl _, .refl _, .refl _, same_upd.2 h⟩⟩
    rw [e1]
    refine key (f := fvOf) (fun _ => rfl) (by rw [hk]; exact h.hc _) (h.ok.hc.ser_rising _) hs fun y hy h2 h3 => ?_
    have cy := h.clean y hy
    obtain ⟨a1, a2, a3⟩ := cy.k3 (h2.trans hk)
    obtain ⟨b1, b2, b3⟩ := hc.k3 hk
    cases y; cases e
    simp only [fvOf, fOf, E.mk.injEq, Prod.mk.injEq, FV.mk.injEq] at *
    constructor
    · rintro ⟨q1, q2, q3⟩
      exact ⟨h2, q1, h3, a1.trans b1.symm, by omega, q2, q3, a3.trans b3.symm⟩
    · rintro ⟨q0, q1, q2, q3, q4, q5, q6, q7⟩
      exact ⟨q1, q5, q6⟩
end
end Go.Proofs.YtmbhkfclpkopiaaGreatDoor
