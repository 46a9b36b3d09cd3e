/- ident: mod97. -/
import Derived.Test.YtmbhkfclpkopiaaGreatDoorIdent2
import Derived.Laws.RangeString
namespace Go.Proofs.YtmbhkfclpkopiaaGreatDoor
open Go.RowKit
set_option linter.unusedVariables false
set_option linter.unusedSimpArgs false

def mStep (r d : Nat) : Nat := (10 * r + d) % 97
def mS (D : List Nat) : Nat := D.foldl mStep 0
def pairB (v : Nat) : List UInt8 := [UInt8.ofNat (48 + v / 10), UInt8.ofNat (48 + v % 10)]

theorem mS_lt (D : List Nat) : mS D < 97 := by
  rcases List.eq_nil_or_concat D with rfl | ⟨t, y, rfl⟩
  · simp [mS]
  · simp only [mS, List.concat_eq_append, List.foldl_append, List.foldl_cons, List.foldl_nil, mStep]
    omega

theorem size_eq {d : ByteArray} {l : List UInt8} {n : Nat} (h : d = ⟨l.toArray⟩) (hn : l.length = n) : d.size = n := by
  subst h
  show Array.size _ = _
  simpa using hn

theorem mS_take {D : List Nat} {i d : Nat} (h : D[i]? = some d) : mS (D.take (i + 1)) = (10 * mS (D.take i) + d) % 97 := by
  rw [mS, List.take_add_one, h]
  simp [List.foldl_append, mStep, mS]

set_option maxRecDepth 10000 in
set_option maxHeartbeats 1000000 in
theorem mod97_calls (s : ByteArray) (w : World) (hc : ∀ c ∈ s.data.toList, isAl c.toNat = true) (hl : s.size ≤ 50) :
    Calls Tryz.prog 254 #[.string s] w fun e w' => ∃ d, e = .returned (.string d) ∧ Hid (d = ⟨(pairB (98 - mS (dgs s.data.toList ++ [0, 0]))).toArray⟩) ∧ Below w.heap.size w w' := by
  have HX := Lib.hid (expand_calls s w hc (by omega))
  have hdig := expL_dig _ hc
  have hlen := expL_len _ hc
  have hlen : (expL s.data.toList).length ≤ 100 := by
    have e : s.data.toList.length = s.size := by simp
    omega
  unfold dgs
  generalize expL s.data.toList = x at HX hdig hlen ⊢
  obtain ⟨es, hes⟩ : ∃ es : ByteArray, es = ⟨x.toArray⟩ := ⟨_, rfl⟩
  rw [← hes] at HX
  obtain ⟨D, hD⟩ : ∃ D, D = x.map (fun c => c.toNat - 48) ++ [0, 0] := ⟨_, rfl⟩
  rw [← hD]
  have HES := Lib.hid hes
  have hesz : es.size ≤ 100 := by rw [size_eq hes rfl]; exact hlen
  have HDD := Lib.hid hD
  clear hc hes hD
  go_enter Tryz.func254, Tryz.ntmps254
  go_wp2_with (first
    | (go_at_call 263; refine HX.out.mono ?_; rintro e w1 ⟨rfl, HB1⟩))
  generalize hst : es ++ ({ data := #[48, 48] } : ByteArray) = st
  have hstl : st.data.toList = x ++ [48, 48] := by rw [← hst, HES.out]; simp
  have hDst : D = st.data.toList.map (fun c => c.toNat - 48) := by rw [HDD.out, hstl]; simp
  have hdig2 : ∀ d ∈ st.data.toList, 48 ≤ d.toNat ∧ d.toNat ≤ 57 := by
    intro d hd
    rw [hstl, List.mem_append] at hd
    rcases hd with hd | hd
    · exact hdig d hd
    · simp only [List.mem_cons, List.not_mem_nil, or_false] at hd
      rcases hd with rfl | rfl <;> decide
  have HD := Lib.hid hDst
  have HG := Lib.hid hdig2
  clear hst hDst hdig2 hdig HX HES HDD
  have hslen : st.size ≤ 200 := by
    have : st.size = st.data.toList.length := by simp
    rw [this, hstl]; simp; omega
  clear hstl
  go_loopw [3] (fun p wr => ∃ i : Nat, p = .int .i64 (mS (D.take i)) ∧ i ≤ st.size ∧ wr = w1.iter st i) (fun p wr => st.size - (match wr.heap[w1.heap.size]? with | some (.stringIter _ q) => q | _ => 0))
  case atStart => exact ⟨0, rfl, by omega, rfl⟩
  case round =>
    obtain ⟨i, rfl, hi, rfl⟩ := hrel
    have hm := mS_lt (D.take i)
    by_cases hlt : i < st.size
    · obtain ⟨c, hcc⟩ : ∃ c, st.data.toList[i]? = some c := ⟨_, List.getElem?_eq_getElem (by simpa using hlt)⟩
      have hc1 := HG.out c (List.mem_of_getElem? hcc)
      have hct : st[i] = c := by
        obtain ⟨_, e⟩ := List.getElem?_eq_some_iff.1 hcc
        rw [← e]; rfl
      have HS : Hid (mS (D.take (i + 1)) = (10 * mS (D.take i) + (c.toNat - 48)) % 97) := mS_take (by rw [HD.out, List.getElem?_map, hcc]; rfl)
      have hnx := fun ty => run_next_ascii (P := Tryz.prog) w1 st i ty hlt (by rw [hct]; omega)
      obtain ⟨hc2, hc3⟩ := hc1
      rw [hct] at hnx
      clear hcc hct
      go_wp2
      refine ⟨⟨i + 1, vint ?_, by omega, rfl⟩, ?_⟩
      · rw [HS.out]; omega
      · rw [World.iter_heap, World.iter_heap]; show st.size - (i + 1) < st.size - i; omega
    · have hnx := fun ty => run_next_end (P := Tryz.prog) w1 st i ty hlt
      obtain rfl : i = st.size := by omega
      have hT : D.take st.size = D := List.take_of_length_le (by rw [HD.out]; simp)
      rw [hT] at hm ⊢
      have hm2 : (mS D : Int) < 97 := by omega
      clear hT hlt hi
      by_cases hv : 98 - mS D < 10
      · have HP : Hid (({ data := #[48] } : ByteArray) ++ (⟨(Lib.decDigits (98 - (mS D : Int)).toNat).toArray⟩ : ByteArray) = ⟨(pairB (98 - mS D)).toArray⟩) := by
          show _ = _
          have e : (98 - (mS D : Int)).toNat = 98 - mS D := by omega
          rw [e, Lib.decDigits, dif_pos hv, pairB]
          have e1 : (98 - mS D) / 10 = 0 := by omega
          have e2 : (98 - mS D) % 10 = 98 - mS D := by omega
          rw [e1, e2]
          rfl
        have HZ : Hid ((Lib.decDigits (98 - (mS D : Int)).toNat).length = 1) := by
          show _ = _
          rw [Lib.decDigits, dif_pos (by omega)]; rfl
        clear hv
        go_wp2_with (first
          | (go_at_call 264; refine (itoa_calls _ (by omega) (by omega) _).mono ?_; rintro e w' ⟨dg, rfl, HDG, rfl⟩; have hdz : dg.size = 1 := size_eq HDG.out HZ.out))
        go_ret
        refine ⟨_, rfl, ?_, HB1.alloc (by have := HB1.size; omega) _⟩
        show _ = _
        rw [← HP.out, HDG.out]
      · have HP : Hid ((⟨(Lib.decDigits (98 - (mS D : Int)).toNat).toArray⟩ : ByteArray) = ⟨(pairB (98 - mS D)).toArray⟩) := by
          show _ = _
          have e : (98 - (mS D : Int)).toNat = 98 - mS D := by omega
          rw [e, decDigits_two (by omega) (by omega), pairB]
        have HZ : Hid ((Lib.decDigits (98 - (mS D : Int)).toNat).length = 2) := by
          show _ = _
          rw [decDigits_two (by omega) (by omega)]; rfl
        clear hv
        go_wp2_with (first
          | (go_at_call 264; refine (itoa_calls _ (by omega) (by omega) _).mono ?_; rintro e w' ⟨dg, rfl, HDG, rfl⟩; have hdz : dg.size = 2 := size_eq HDG.out HZ.out))
        go_ret
        refine ⟨_, rfl, ?_, HB1.alloc (by have := HB1.size; omega) _⟩
        show _ = _
        rw [← HP.out, HDG.out]
end Go.Proofs.YtmbhkfclpkopiaaGreatDoor
