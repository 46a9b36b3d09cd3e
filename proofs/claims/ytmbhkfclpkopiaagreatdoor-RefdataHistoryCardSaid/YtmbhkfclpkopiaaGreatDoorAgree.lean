/- The plain law of reference data, second part: the reference's one list of entries, and that the program's tables agree with it. No Go in sight. -/
import Derived.Test.YtmbhkfclpkopiaaGreatDoorTab
namespace Go.Proofs.YtmbhkfclpkopiaaGreatDoor
set_option linter.unusedVariables false
set_option linter.unusedSimpArgs false

/-! ### 3. The reference -/
structure E where
  kind : Int
  day : Int
  key : ByteArray
  text : ByteArray
  n : Int
  num : Int
  den : Int
  active : Bool

def zE : E := ⟨0, 0, ByteArray.empty, ByteArray.empty, 0, 0, 0, false⟩

/-- The entries of a kind and a key. -/
def isOf (kind : Int) (key : ByteArray) (e : E) : Bool := decide (e.kind = kind) && decide (e.key = key)
def sel (T : List E) (kind : Int) (key : ByteArray) : List E := T.filter (isOf kind key)
def refAt (T : List E) (kind day : Int) (key : ByteArray) : Option E := if isDay day then ((sel T kind key).filter fun e => decide (e.day ≤ day)).getLast? else none
def refLast (T : List E) (kind : Int) (key : ByteArray) : Option E := (sel T kind key).getLast?

/-- The keys of a kind, each once (in whatever order). -/
def refKnown (T : List E) (kind : Int) (key : ByteArray) : Bool := (refLast T kind key).isSome

section
variable (vld : Int → ByteArray → Bool) (fok : Int → Int → Bool)

/-- Another member's last entry bears the text. -/
def refTaken (T : List E) (e : E) : Bool := T.any fun x => decide (x.kind = 0) && !decide (x.key = e.key) && (match refLast T 0 x.key with
  | some y => decide (y.text = e.text)
  | none => false)

def refSubject (T : List E) (e : E) : Int :=
  if e.kind = 0 then (if !vld 1 e.key then 6 else if !decide (e.text = ByteArray.empty) && !vld 3 e.text then 3 else 0)
  else if e.kind = 1 then (if !vld 0 e.key then 6 else if !(refAt T 0 e.day e.text).isSome then 9 else if decide (e.n < 1) || decide (1000000000000000 < e.n) then 2 else 0)
  else if e.kind = 2 ∨ e.kind = 3 then (if !(refAt T 1 e.day e.key).isSome then 9 else if decide (e.kind = 2) && (decide (e.n < 1) || decide (1000000000 < e.n)) then 2
    else if decide (e.kind = 3) && (!fok e.num e.den || decide (e.num < 0) || decide (e.den < e.num)) then 2 else 0)
  else 0

/-- 'many kind': are there 4096 keys of that kind or more. -/
def refCheck (many : Int → Bool) (T : List E) (e : E) : Int :=
  if !isDay e.day then 28
  else if refSubject vld fok T e ≠ 0 then refSubject vld fok T e
  else if (match refLast T e.kind e.key with | some y => decide (e.day < y.day) | none => false) then 20
  else if decide (e.kind = 0) && !decide (e.text = ByteArray.empty) && refTaken T e then 7
  else if decide (e.kind = 1) && (match refLast T 1 e.key with | some y => !decide (y.text = e.text) | none => false) then 11
  else if decide (e.kind < 2) && !refKnown T e.kind e.key && many e.kind then 8 else 0

def refAdd (T : List E) (e : E) : List E := (T.filter fun x => !(isOf e.kind e.key x && decide (x.day = e.day))) ++ [e]
end

/-! ### 4. That they agree -/
def mvOf (e : E) : Int × MV := (e.day, ⟨e.key, e.text, e.active⟩)
def svOf (e : E) : Int × SV := (e.day, ⟨e.key, e.text, e.n, e.active⟩)
def pvOf (e : E) : Int × Int := (e.day, e.n)
def fvOf (e : E) : Int × FV := (e.day, ⟨e.num, e.den⟩)

/-- An entry bears what its kind uses, and no more. -/
structure Clean (e : E) : Prop where
  kind : e.kind = 0 ∨ e.kind = 1 ∨ e.kind = 2 ∨ e.kind = 3
  k0 : e.kind = 0 → e.n = 0 ∧ e.num = 0 ∧ e.den = 0
  k1 : e.kind = 1 → e.num = 0 ∧ e.den = 0
  k2 : e.kind = 2 → e.text = ByteArray.empty ∧ e.num = 0 ∧ e.den = 0 ∧ e.active = false
  k3 : e.kind = 3 → e.text = ByteArray.empty ∧ e.n = 0 ∧ e.active = false

structure Rel (t : Tab) (T : List E) : Prop where
  ok : TabOk t
  mem : ∀ k, ser t.mem k = (sel T 0 k).map mvOf
  sec : ∀ k, ser t.sec k = (sel T 1 k).map svOf
  pri : ∀ k, ser t.pri k = (sel T 2 k).map pvOf
  hc : ∀ k, ser t.hc k = (sel T 3 k).map fvOf
  clean : ∀ e ∈ T, Clean e

theorem seAt_map {V : Type} (f : E → Int × V) (hf : ∀ e, (f e).1 = e.day) (l : List E) (day : Int) :
    seAt (l.map f) day = (if isDay day then (l.filter fun e => decide (e.day ≤ day)).getLast? else none).map f := by
  unfold seAt
  split
  · have : ((l.map f).filter fun x => decide (x.1 ≤ day)) = (l.filter fun e => decide (e.day ≤ day)).map f := by
      rw [List.filter_map]
      congr 1
      refine List.filter_congr fun e _ => ?_
      simp [hf]
    rw [this, List.getLast?_map]
  · rfl

section
variable {t : Tab} {T : List E}
theorem Rel.memberAt (h : Rel t T) (day : Int) (k : ByteArray) : memberAt t day k = (refAt T 0 day k).map mvOf := by
  unfold Go.Proofs.YtmbhkfclpkopiaaGreatDoor.memberAt
  rw [h.mem, seAt_map mvOf (fun _ => rfl)]; rfl
theorem Rel.securityAt (h : Rel t T) (day : Int) (k : ByteArray) : securityAt t day k = (refAt T 1 day k).map svOf := by
  unfold Go.Proofs.YtmbhkfclpkopiaaGreatDoor.securityAt
  rw [h.sec, seAt_map svOf (fun _ => rfl)]; rfl
theorem Rel.priceAt (h : Rel t T) (day : Int) (k : ByteArray) : seAt (ser t.pri k) day = (refAt T 2 day k).map pvOf := by
  rw [h.pri, seAt_map pvOf (fun _ => rfl)]; rfl
theorem Rel.hairAt (h : Rel t T) (day : Int) (k : ByteArray) : seAt (ser t.hc k) day = (refAt T 3 day k).map fvOf := by
  rw [h.hc, seAt_map fvOf (fun _ => rfl)]; rfl

theorem stale_map {V : Type} (f : E → Int × V) (hf : ∀ e, (f e).1 = e.day) (l : List E) (day : Int) : stale (l.map f) day = (match l.getLast? with | some y => decide (day < y.day) | none => false) := by
  unfold stale
  rw [List.getLast?_map]
  cases l.getLast? <;> simp [hf]
end

theorem sel_refAdd (T : List E) (e : E) (kind : Int) (key : ByteArray) :
    sel (refAdd T e) kind key = if e.kind = kind ∧ e.key = key then ((sel T kind key).filter fun x => decide (x.day ≠ e.day)) ++ [e] else sel T kind key := by
  unfold sel refAdd
  rw [List.filter_append, List.filter_filter]
  by_cases h : e.kind = kind ∧ e.key = key
  · obtain ⟨rfl, rfl⟩ := h
    rw [if_pos ⟨rfl, rfl⟩, List.filter_filter]
    congr 1
    · refine List.filter_congr fun x _ => ?_
      cases isOf e.kind e.key x <;> simp
    · simp [isOf]
  · rw [if_neg h]
    have : [e].filter (isOf kind key) = [] := by
      have hb : isOf kind key e = false := by
        simp only [isOf, Bool.and_eq_false_iff, decide_eq_false_iff_not]
        by_cases h1 : e.kind = kind
        · exact .inr fun h2 => h ⟨h1, h2⟩
        · exact .inl h1
      simp [hb]
    rw [this, List.append_nil]
    refine List.filter_congr fun x _ => ?_
    cases hx : isOf kind key x
    · rfl
    · have : isOf e.kind e.key x = false := by
        simp only [isOf, Bool.and_eq_true, decide_eq_true_eq, Bool.and_eq_false_iff, decide_eq_false_iff_not] at hx ⊢
        obtain ⟨rfl, rfl⟩ := hx
        by_cases h1 : x.kind = e.kind
        · exact .inr fun h2 => h ⟨h1.symm, h2.symm⟩
        · exact .inl h1
      simp [this]

theorem seWith_sel {V : Type} (f : E → Int × V) (hf : ∀ e, (f e).1 = e.day) {T : List E} {e : E} {v : V} (hv : f e = (e.day, v)) (hr : Rising ((sel T e.kind e.key).map f))
    (hs : stale ((sel T e.kind e.key).map f) e.day = false) : seWith ((sel T e.kind e.key).map f) e.day v = (sel (refAdd T e) e.kind e.key).map f := by
  rw [sel_refAdd, if_pos ⟨rfl, rfl⟩]
  unfold seWith
  rw [seCut_eq hr hs, List.map_append, List.filter_map, List.map_cons, List.map_nil, hv]
  congr 2
  refine List.filter_congr fun x _ => ?_
  simp [hf]
end Go.Proofs.YtmbhkfclpkopiaaGreatDoor
