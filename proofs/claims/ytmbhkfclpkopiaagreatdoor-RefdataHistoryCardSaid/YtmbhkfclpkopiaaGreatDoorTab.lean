/- The plain law of reference data: tables as lists of series, the reference as one list of entries; that they agree. No Go in sight. -/
import Derived.Test.YtmbhkfclpkopiaaGreatDoorMap
namespace Go.Proofs.YtmbhkfclpkopiaaGreatDoor
set_option linter.unusedVariables false
set_option linter.unusedSimpArgs false

/-! ### 1. Series -/
section
variable {V : Type}

def isDay (d : Int) : Bool := decide (0 ≤ d) && decide (d ≤ 73048)

/-- The entry that is effective on a day. -/
def seAt (s : List (Int × V)) (day : Int) : Option (Int × V) := if isDay day then (s.filter fun x => decide (x.1 ≤ day)).getLast? else none

def stale (s : List (Int × V)) (day : Int) : Bool := match s.getLast? with
  | some x => decide (day < x.1)
  | none => false

/-- The entries without one of the same day at the end. -/
def seCut (s : List (Int × V)) (day : Int) : List (Int × V) := match s.getLast? with
  | some x => if x.1 = day then s.dropLast else s
  | none => s

def seWith (s : List (Int × V)) (day : Int) (v : V) : List (Int × V) := seCut s day ++ [(day, v)]

def Rising (s : List (Int × V)) : Prop := s.Pairwise fun a b => a.1 < b.1

theorem rising_last {s : List (Int × V)} (h : Rising s) {x : Int × V} (hx : s.getLast? = some x) : ∀ y ∈ s, y.1 ≤ x.1 := by
  obtain ⟨t, rfl⟩ : ∃ t, s = t ++ [x] := by
    rcases List.eq_nil_or_concat s with rfl | ⟨t, y, rfl⟩
    · simp at hx
    · simp at hx; subst hx; exact ⟨t, by simp⟩
  intro y hy
  rcases List.mem_append.1 hy with hy | hy
  · have := (List.pairwise_append.1 h).2.2 y hy x (by simp)
    omega
  · simp at hy; subst hy; omega

theorem seCut_eq {s : List (Int × V)} (h : Rising s) {day : Int} (hs : stale s day = false) : seCut s day = s.filter fun x => decide (x.1 ≠ day) := by
  unfold seCut
  rcases List.eq_nil_or_concat s with rfl | ⟨t, y, rfl⟩
  · simp
  · have hl := rising_last h (x := y) (by simp)
    simp only [stale, List.concat_eq_append, List.getLast?_append, List.getLast?_singleton, Option.some_or, decide_eq_false_iff_not] at hs ⊢
    have ht : ∀ z ∈ t, z.1 < y.1 := fun z hz => by
      have := (List.pairwise_append.1 (by simpa [Rising] using h : List.Pairwise _ (t ++ [y]))).2.2 z hz y (by simp)
      exact this
    have e1 : t.filter (fun x => decide (x.1 ≠ day)) = t := by
      refine List.filter_eq_self.2 fun z hz => ?_
      have := ht z hz
      simp
      omega
    rw [List.filter_append, e1]
    by_cases e : y.1 = day
    · simp [e]
    · simp [e]

theorem rising_seWith {s : List (Int × V)} (h : Rising s) {day : Int} (hs : stale s day = false) (v : V) : Rising (seWith s day v) := by
  unfold seWith
  rw [seCut_eq h hs]
  refine List.pairwise_append.2 ⟨h.filter _, by simp, fun a ha b hb => ?_⟩
  simp only [List.mem_singleton] at hb
  subst hb
  simp only [List.mem_filter, decide_eq_true_eq] at ha
  obtain ⟨ha1, ha2⟩ := ha
  have : a.1 ≤ day := by
    cases hl : s.getLast? with
    | none => rw [List.getLast?_eq_none_iff] at hl; subst hl; cases ha1
    | some x =>
      have := rising_last h hl a ha1
      simp [stale, hl] at hs
      omega
  show a.1 < day
  omega

theorem seWith_ne {s : List (Int × V)} (day : Int) (v : V) : seWith s day v ≠ [] := by simp [seWith]
end

/-! ### 2. Tables -/
structure MV where
  code : ByteArray
  lei : ByteArray
  active : Bool
structure SV where
  isin : ByteArray
  issuer : ByteArray
  lot : Int
  active : Bool
structure FV where
  num : Int
  den : Int

abbrev Tb (V : Type) := List (ByteArray × List (Int × V))

structure Tab where
  mem : Tb MV
  sec : Tb SV
  pri : Tb Int
  hc : Tb FV

/-- The series of a key. -/
def ser {V : Type} (L : Tb V) (k : ByteArray) : List (Int × V) := (look L k).getD []

theorem ser_upd {V : Type} (L : Tb V) (k : ByteArray) (s : List (Int × V)) (q : ByteArray) : ser (upd L k s) q = if q = k then s else ser L q := by
  unfold ser
  rw [look_upd]
  split <;> rfl

/-- No key without entries; no key twice. -/
structure TbOk {V : Type} (L : Tb V) : Prop where
  nodup : KeysNodup L
  full : ∀ x ∈ L, x.2 ≠ []
  rising : ∀ x ∈ L, Rising x.2

theorem TbOk.ser_rising {V : Type} {L : Tb V} (h : TbOk L) (k : ByteArray) : Rising (ser L k) := by
  unfold ser
  cases e : look L k with
  | none => simp [Rising]
  | some s => exact h.rising _ (look_mem e)

theorem TbOk.known {V : Type} {L : Tb V} (h : TbOk L) (k : ByteArray) : (look L k).isSome = !(ser L k).isEmpty := by
  unfold ser
  cases e : look L k with
  | none => rfl
  | some s =>
    have := h.full _ (look_mem e)
    cases s with
    | nil => exact absurd rfl this
    | cons => rfl

theorem mem_upd {α : Type} {L : List (ByteArray × α)} {k : ByteArray} {a : α} {x : ByteArray × α} (h : x ∈ upd L k a) : x ∈ L ∨ x = (k, a) := by
  unfold upd at h
  split at h
  · obtain ⟨y, hy, e⟩ := List.mem_map.1 h
    split at e
    · rename_i hk
      simp only [beq_ba, decide_eq_true_eq] at hk
      subst hk
      exact .inr e.symm
    · subst e; exact .inl hy
  · rcases List.mem_append.1 h with h | h
    · exact .inl h
    · exact .inr (List.mem_singleton.1 h)

theorem TbOk.upd {V : Type} {L : Tb V} (h : TbOk L) (k : ByteArray) {s : List (Int × V)} (hs : s ≠ []) (hr : Rising s) : TbOk (upd L k s) :=
  ⟨keysNodup_upd h.nodup k s, fun x hx => by
    rcases mem_upd hx with hx | rfl
    · exact h.full x hx
    · exact hs, fun x hx => by
    rcases mem_upd hx with hx | rfl
    · exact h.rising x hx
    · exact hr⟩

structure TabOk (t : Tab) : Prop where
  mem : TbOk t.mem
  sec : TbOk t.sec
  pri : TbOk t.pri
  hc : TbOk t.hc

def Tab.empty : Tab := ⟨[], [], [], []⟩
theorem TbOk.nil {V : Type} : TbOk ([] : Tb V) := ⟨by simp [KeysNodup], by simp, by simp⟩
theorem TabOk.empty : TabOk Tab.empty := ⟨.nil, .nil, .nil, .nil⟩

/- What the program's own functions do. 'vld kind s': is s an identifier of that kind; 'fok n d': are these a fraction's parts. -/
section
variable (vld : Int → ByteArray → Bool) (fok : Int → Int → Bool)

def taken (t : Tab) (m : MV) : Bool := t.mem.any fun x => !decide (x.1 = m.code) && (match x.2.getLast? with
  | some y => decide (y.2.lei = m.lei)
  | none => decide (ByteArray.empty = m.lei))

def setMemberE (t : Tab) (day : Int) (m : MV) : Int :=
  if !isDay day then 28 else if !vld 1 m.code then 6 else if !decide (m.lei = ByteArray.empty) && !vld 3 m.lei then 3
  else if stale (ser t.mem m.code) day then 20 else if !decide (m.lei = ByteArray.empty) && taken t m then 7
  else if !(look t.mem m.code).isSome && decide (4096 ≤ t.mem.length) then 8 else 0

def memberAt (t : Tab) (day : Int) (k : ByteArray) : Option (Int × MV) := seAt (ser t.mem k) day
def securityAt (t : Tab) (day : Int) (k : ByteArray) : Option (Int × SV) := seAt (ser t.sec k) day

def setSecurityE (t : Tab) (day : Int) (x : SV) : Int :=
  if !isDay day then 28 else if !vld 0 x.isin then 6 else if !(memberAt t day x.issuer).isSome then 9 else if decide (x.lot < 1) || decide (1000000000000000 < x.lot) then 2
  else if stale (ser t.sec x.isin) day then 20 else if (match (ser t.sec x.isin).getLast? with | some y => !decide (y.2.issuer = x.issuer) | none => false) then 11
  else if !(look t.sec x.isin).isSome && decide (4096 ≤ t.sec.length) then 8 else 0

def setE {V : Type} (t : Tab) (s : List (Int × V)) (day : Int) (isin : ByteArray) (valid : Bool) : Int :=
  if !isDay day then 28 else if !(securityAt t day isin).isSome then 9 else if !valid then 2 else if stale s day then 20 else 0

def priceOk (p : Int) : Bool := decide (1 ≤ p) && decide (p ≤ 1000000000)
def hairOk (f : FV) : Bool := fok f.num f.den && decide (0 ≤ f.num) && decide (f.num ≤ f.den)

def setMember (t : Tab) (day : Int) (m : MV) : Tab := if setMemberE vld t day m = 0 then { t with mem := upd t.mem m.code (seWith (ser t.mem m.code) day m) } else t
def setSecurity (t : Tab) (day : Int) (x : SV) : Tab := if setSecurityE vld t day x = 0 then { t with sec := upd t.sec x.isin (seWith (ser t.sec x.isin) day x) } else t
def setPrice (t : Tab) (day : Int) (k : ByteArray) (p : Int) : Tab := if setE t (ser t.pri k) day k (priceOk p) = 0 then { t with pri := upd t.pri k (seWith (ser t.pri k) day p) } else t
def setHaircut (t : Tab) (day : Int) (k : ByteArray) (f : FV) : Tab := if setE t (ser t.hc k) day k (hairOk fok f) = 0 then { t with hc := upd t.hc k (seWith (ser t.hc k) day f) } else t
end
end Go.Proofs.YtmbhkfclpkopiaaGreatDoor
