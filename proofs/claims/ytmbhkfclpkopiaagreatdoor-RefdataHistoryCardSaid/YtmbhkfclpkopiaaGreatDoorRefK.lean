/- giroref21.keys. -/
import Derived.Test.YtmbhkfclpkopiaaGreatDoorRefC
import Derived.Test.YtmbhkfclpkopiaaGreatDoorLawA
namespace Go.Proofs.YtmbhkfclpkopiaaGreatDoor
open Go.RowKit
set_option linter.unusedVariables false
set_option linter.unusedSimpArgs false

theorem TAt.take {w : World} {b cap : Nat} {T : List E} (h : TAt w (.slice (some ⟨b, 0, none⟩) T.length cap) T) (i : Nat) (hi : i ≤ T.length) : TAt w (.slice (some ⟨b, 0, none⟩) i cap) (T.take i) := by
  have hl : (T.take i).length = i := by simp; omega
  have hfl : ∀ l : List E, (l.flatMap encT).length = l.length * 8 := by
    intro l
    induction l with
    | nil => rfl
    | cons a l ih => simp only [List.flatMap_cons, List.length_append, ih, List.length_cons, encT, List.length_nil]; omega
  rcases h.2 with ⟨h0, _⟩ | ⟨g, cap', cur, h0, hb, hh, h1, h2, h3, h4⟩
  · cases h0
  · cases h0
    refine ⟨by rw [hfl], .inr ⟨b, cap, cur, by rw [hl], hb, hh, by omega, h2, h3, ?_⟩⟩
    have e : (T.take i).flatMap encT = (T.flatMap encT).take (i * 8) := by
      have hs : T.flatMap encT = (T.take i).flatMap encT ++ (T.drop i).flatMap encT := by rw [← List.flatMap_append, List.take_append_drop]
      have hA : ∀ A B : List Value, A.length = i * 8 → (A ++ B).take (i * 8) = A := fun A B h => by rw [← h]; simp
      have := hA ((T.take i).flatMap encT) ((T.drop i).flatMap encT) (by rw [hfl, hl])
      rw [← hs] at this
      exact this.symm
    rw [hl, e, ← h4, List.take_take]
    congr 1
    omega

section
variable {w : World}
/-- append at a step of a region that draws its order: strings, from a slice that may be nil. -/
theorem step_app {ops : Array Oper} {o : Oper} {a : Act} {K : Act → World → Prop} {Q : Exit → Act → World → Prop} {E : Prop} (hgd : o.guard = none) (s x : Operand)
    (ho : o.op = .call { callee := .builtin .append, args := #[s, x], argTypes := #[53, 53] })
    (w0 : World) (hb0 : Below w0.heap.size w0 w) (i : TypeInfo) (hi : Tryz.prog.info? 9 = some i) (hz : i.zero = some (.string ⟨#[]⟩)) (hsize : i.size = 1) (hby : i.bytes = 16)
    (v : Value) (n : Nat) (xs : List Value) (hs : a.eval s = v) (hown : w.ownsRow w0.heap.size 9 1 v n xs)
    (m : Nat) (news : List Value) (hx : (a.eval x = .slice none 0 0 ∧ m = 0 ∧ news = []) ∨ ∃ ad c, a.eval x = .slice (some ad) m c ∧ news.length = m ∧ ∀ j u, news[j]? = some u → w.cell? (ad.add j) = some u) (h1 : ∀ u ∈ news, u.oneCell' = true)
    (hn : n ≤ 1000) (hm : m ≤ 1000)
    (h : ∀ v' w', w'.ownsRow w0.heap.size 9 1 v' (n + m) (xs ++ news) → Below w0.heap.size w0 w' → w.grownBy w' v.ownBlock → K (a.put o.dst v') w') :
    if Region.wanted o (yielded ops a.tmps) = true then Oper.wp Tryz.prog o a w K Q else E := by
  have hw : Region.wanted o (yielded ops a.tmps) = true := by simp [Region.wanted, hgd]
  rw [if_pos hw]
  rcases hx with ⟨hx, rfl, rfl⟩ | ⟨ad, c, hx, hl, hnews⟩
  · have hrun := run_append_owned_none (P := Tryz.prog) (w := w) w0.heap.size 53 o.type 9 i 1 Tryz.underlying53 hi v n xs hown
    unfold Oper.wp
    simp [execOp, ho, resolve, invoke, builtin, hs, hx, hrun, Result.andThen]
    exact h v w (by simpa using hown) hb0 ⟨rfl, rfl, rfl, Nat.le_refl _, fun _ _ _ => rfl⟩
  · exact wp_append_own w s x 53 ho w0.heap.size 9 i (.string ⟨#[]⟩) 1 16 Tryz.underlying53 hi hz hsize hby rfl (by decide) v n xs hs hown ad m c news hx (by omega) hnews h1 (by unfold maxLen; omega) (by omega) hb0.size fun v' w' h2 h3 _ => h v' w' h2 (grow_base hb0 hb0.size hown h3) h3
end

theorem own_empty {W : World} {g base : Nat} (h : W.heap[g]? = some (.cells #[] 9 (0, 0))) (hb : base ≤ g) : W.ownsRow base 9 1 (.slice (some ⟨g, 0, none⟩) 0 0) 0 [] :=
  ⟨rfl, .inr ⟨g, 0, #[], rfl, hb, h, Nat.le_refl _, Nat.zero_le _, rfl, rfl⟩⟩

theorem news_old {W W1 : World} {g g' n cap : Nat} {x : Value} (hg : W.grownBy W1 (Value.slice (some ⟨g, 0, none⟩) n cap).ownBlock) (h : W.heap[g']? = some (.cells #[x] 9 (0, 0))) (hne : g' ≠ g) : ∀ j u, [x][j]? = some u → W1.cell? ((⟨g', 0, none⟩ : Addr).add j) = some u :=
  World.news_of_block ((hg.block g' (Array.getElem?_eq_some_iff.1 h).1 (fun e => hne (by injection e))).trans h)

theorem str_ones (l : List ByteArray) : ∀ u ∈ l.map Value.string, u.oneCell' = true := by
  intro u hu
  obtain ⟨k, _, rfl⟩ := List.mem_map.1 hu
  rfl
theorem str_one1 (k : ByteArray) : ∀ u ∈ [Value.string k], u.oneCell' = true := by
  intro u hu
  rw [List.mem_singleton.1 hu]
  rfl

/-- Another key is in its place among the keys of the first i entries. -/
theorem keys_next {T : List E} {kind : Int} {i : Nat} {e : E} (he : T[i]? = some e) (k : ByteArray) : HasKey (T.take (i + 1)) kind k ↔ HasKey (T.take i) kind k ∨ (e.kind = kind ∧ e.key = k) := by
  unfold HasKey
  rw [List.take_add_one, he, Option.toList_some]
  simp only [List.mem_append, List.mem_singleton]
  constructor
  · rintro ⟨x, hx | rfl, h1, h2⟩
    · exact .inl ⟨x, hx, h1, h2⟩
    · exact .inr ⟨h1, h2⟩
  · rintro (⟨x, hx, h1, h2⟩ | ⟨h1, h2⟩)
    · exact ⟨x, .inl hx, h1, h2⟩
    · exact ⟨e, .inr rfl, h1, h2⟩

theorem bytesLess_true {a b : ByteArray} : Op.bytesLess a.toList b.toList = true ↔ bLt a b := by
  rw [Go.Proofs.bytesLess_eq]; simp [bLt]
theorem bytesLess_false {a b : ByteArray} : Op.bytesLess a.toList b.toList = false ↔ ¬ bLt a b := by
  rw [Go.Proofs.bytesLess_eq]; simp [bLt]

theorem own_list {W : World} {B B' A_ B_ : Nat} {v : Value} {l1 l2 : List ByteArray} {k : ByteArray} (h : W.ownsRow B 9 1 v (0 + A_ + 1 + B_) ([] ++ l1.map Value.string ++ [.string k] ++ l2.map Value.string)) (h1 : A_ = l1.length) (h2 : B_ = l2.length) (hB : B' ≤ B) : SAt B' W v (l1 ++ [k] ++ l2) := by
  subst h1 h2
  have := row_mono h hB
  unfold SAt
  have e1 : (l1 ++ [k] ++ l2).length = 0 + l1.length + 1 + l2.length := by simp; omega
  have e2 : (l1 ++ [k] ++ l2).map Value.string = [] ++ l1.map Value.string ++ [.string k] ++ l2.map Value.string := by simp
  rw [e1, e2]
  exact this

/-- The new key in its place. -/
theorem listed_insert {T : List E} {kind : Int} {i a : Nat} {e : E} {l : List ByteArray} (he : T[i]? = some e) (hk : e.kind = kind) (hL : Listed (HasKey (T.take i) kind) l) (hno : ¬ HasKey (T.take i) kind e.key)
    (hlt : ∀ x ∈ l.take a, bLt x e.key) (hge : ∀ k, l[a]? = some k → ¬ bLt k e.key) : Listed (HasKey (T.take (i + 1)) kind) (l.take a ++ [e.key] ++ l.drop a) := by
  have hne : ∀ x ∈ l, x ≠ e.key := fun x hx h => hno (by rw [← h]; exact (hL.2 x).1 hx)
  have hge' : ∀ x ∈ l.drop a, bLt e.key x := by
    intro x hx
    obtain ⟨j, hj⟩ := List.mem_iff_getElem?.1 hx
    rw [List.getElem?_drop] at hj
    have hxl : x ∈ l := List.mem_of_getElem? hj
    have ha : a < l.length := by have := (List.getElem?_eq_some_iff.1 hj).1; omega
    have hka : l[a]? = some l[a] := List.getElem?_eq_getElem ha
    have h1 := bLt_total (hge _ hka) (hne _ (List.mem_of_getElem? hka))
    rcases Nat.eq_zero_or_pos j with rfl | hpos
    · rw [Nat.add_zero, hka] at hj
      cases hj
      exact h1
    · have h2 := List.pairwise_iff_getElem.1 hL.1 a (a + j) ha (List.getElem?_eq_some_iff.1 hj).1 (by omega)
      rw [(List.getElem?_eq_some_iff.1 hj).2] at h2
      exact bLt_trans _ _ _ h1 h2
  refine ⟨sorted_insert bLt_trans hL.1 e.key a hlt hge', fun k => ?_⟩
  rw [mem_insert_mid, keys_next he, hL.2]
  constructor
  · rintro (rfl | h)
    · exact .inr ⟨hk, rfl⟩
    · exact .inl h
  · rintro (h | ⟨_, h⟩)
    · exact .inr h
    · exact .inl h.symm





set_option maxRecDepth 10000 in
set_option maxHeartbeats 4000000 in
theorem keys_says : KeysSays := by
  intro v T kind w h hl
  obtain ⟨i0, hi0, hz0, hz1, hz2⟩ := info_parts info_9
  rcases h.form with ⟨rfl, rfl⟩ | ⟨b, cap, rfl, hb, hcap⟩
  · clear h
    go_enter Tryz.func104, Tryz.ntmps104
    go_wp2
    refine wp_loop_rounds 1 ?_
    rw [rounds_succ]
    go_wp2
    go_ret
    exact ⟨_, [], rfl, SAt.nil _ _, ⟨List.Pairwise.nil, fun k => by simp [HasKey]⟩, Nat.le_refl _, Below.refl _ _⟩
  · have HC : Hid (∀ W, Below w.heap.size w W → ∀ i e, T[i]? = some e → _) := fun W hW i e hi => (h.below hW).cells (i := i) (e := e) hi
    have HT : Hid (∀ W, Below w.heap.size w W → ∀ i, i ≤ T.length → TAt W (.slice (some ⟨b, 0, none⟩) i cap) (T.take i)) := fun W hW i hi => (h.below hW).take i hi
    clear h
    go_enter Tryz.func104, Tryz.ntmps104
    go_wp2
    go_loopw [5, 6] (fun p q wr => ∃ (i : Nat) (l : List ByteArray), q = .int .i64 i ∧ i ≤ T.length ∧ SAt w.heap.size wr p l ∧ Listed (HasKey (T.take i) kind) l ∧ l.length ≤ i ∧ Below w.heap.size w wr) (fun p q wr => T.length - (intOf q).toNat)
    case atStart => exact ⟨0, [], rfl, by omega, SAt.nil _ _, ⟨List.Pairwise.nil, fun k => by simp [HasKey]⟩, Nat.le_refl _, Below.refl _ _⟩
    case round =>
      obtain ⟨i, l, rfl, hi, hS, hL, hli, HB⟩ := hrel
      have HLL := Lib.hid hL
      clear hL
      have hwr : w.heap.size ≤ wr.heap.size := HB.size
      by_cases hlt : i < T.length
      · obtain ⟨e, he⟩ : ∃ e, T[i]? = some e := ⟨_, List.getElem?_eq_getElem hlt⟩
        obtain ⟨c0, c1, c2, c3, c4, c5, c6, c7⟩ := HC.out wr HB i e he
        have HTI := HT.out wr HB i hi
        have hbwr : b < wr.heap.size := Nat.lt_of_lt_of_le hb hwr
        have FC : Hid (∀ W, Below wr.heap.size wr W → W.cell? ⟨b, i * 8 + 2, none⟩ = some (.string e.key)) := fun W hW => (hW.cell (p := ⟨b, i * 8 + 2, none⟩) (Nat.lt_of_lt_of_le hb hwr)).trans c2
        have cal : ∀ n, ((wr.drewN n).alloc (.cells #[] 9)).cell? ⟨b, i * 8 + 2, none⟩ = some (.string e.key) := fun n => FC.out _ ((pw_below_drewN' (Below.refl _ _) n).alloc (Nat.le_refl _) _)
        have HE := Lib.hid he
        have hlt1 : (i : Int) < (T.length : Int) := by omega
        have hle1 : (i : Int) ≤ (cap : Int) := by omega
        have hi0' : (0 : Int) ≤ (i : Int) := by omega
        have hlen : (T.take i).length = i := by simp; omega
        clear he
        by_cases hk : e.kind = kind
        · have hk1 : (e.kind != kind) = false := by simpa using hk
          have HKI := Lib.hid hk
          obtain ⟨m, hm⟩ : ∃ m, lastI (T.take i) kind e.key (T.take i).length = m := ⟨_, rfl⟩
          have HQ : Hid (∀ n, Calls Tryz.prog 171 #[.slice (some ⟨b, 0, none⟩) i cap, .int .i64 kind, .string e.key] (wr.drewN n) fun e w'' => e = .returned (.int .i64 m) ∧ ∃ m, w'' = wr.drewN m) := fun n => by
            have := last_quiet _ (T.take i) kind e.key wr n HTI (by rw [hlen]; omega)
            rw [hm] at this
            exact this
          have hneg := lastI_neg (T.take i) kind e.key (T.take i).length (Nat.le_refl _)
          have hlow := lastI_lt (T.take i) kind e.key (T.take i).length
          rw [hm, List.take_length] at hneg
          rw [hm] at hlow
          have HNEG := Lib.hid hneg
          by_cases hla : m = -1
          · subst hla
            have HNO : Hid (¬ HasKey (T.take i) kind e.key) := fun ⟨x, hx, h1, h2⟩ => (HNEG.out.1 rfl) x hx ⟨h1, h2⟩
            clear hk hm hneg hlow HTI hlen
            go_wp2
            go_quiet (first | (go_at_call 171; exact HQ.out _))
            go_wp2
            obtain ⟨W9, hW9⟩ : ∃ W9, W9 = wr := ⟨_, rfl⟩
            subst hW9
            rcases row_form hS with ⟨hl0, rfl⟩ | ⟨g, cap5, rfl, hg, hglt, hcap5⟩
            · obtain rfl : l = [] := List.eq_nil_of_length_eq_zero hl0
              refine wp_loop_rounds 1 ?_
              rw [rounds_succ]
              go_wp2
              go_quiet (fail)
              go_wp2
              obtain ⟨l1, hl1⟩ : ∃ l1 : List ByteArray, l1 = [] := ⟨_, rfl⟩
              obtain ⟨l2, hl2⟩ : ∃ l2 : List ByteArray, l2 = [] := ⟨_, rfl⟩
              obtain ⟨A_, hA_⟩ : ∃ A_ : Nat, A_ = 0 := ⟨_, rfl⟩
              obtain ⟨B_, hB_⟩ : ∃ B_ : Nat, B_ = 0 := ⟨_, rfl⟩
              have HA0 := Lib.hid hA_
              have HB0_ := Lib.hid hB_
              have HL1 : Hid (l1.map Value.string = []) := by show _ = _; rw [hl1]; rfl
              have HL2 : Hid (l2.map Value.string = []) := by show _ = _; rw [hl2]; rfl
              have HAL : Hid (A_ = l1.length) := by show _ = _; rw [hA_, hl1]; rfl
              have HBL : Hid (B_ = l2.length) := by show _ = _; rw [hB_, hl2]; rfl
              have HNEW : Hid (Listed (HasKey (T.take (i + 1)) kind) (l1 ++ [e.key] ++ l2)) := by
                have := listed_insert (a := 0) HE.out HKI.out HLL.out HNO.out (by simp) (by simp)
                rw [hl1, hl2]
                exact this
              have HLEN : Hid ((l1 ++ [e.key] ++ l2).length ≤ i + 1) := by show _ ≤ _; rw [hl1, hl2]; simp
              have hA9 : A_ ≤ 900 := by omega
              have hB9 : B_ ≤ 900 := by omega
              clear hl1 hl2 hA_ hB_
              go_region_law (first
                | (refine step_app rfl (.tmp 52) (.tmp 55) rfl W9 (by repeat (first | exact Below.refl _ _ | refine Below.alloc ?_ (by simp) _ | refine Below.drew ?_ | refine pw_below_drewN' ?_ _)) i0 hi0 hz0 hz1 hz2 _ 0 [] rfl (own_empty (by first | exact heap_alloc_new _ _ | exact heap_at _ _ _ (by simp) | (rw [Below.heap_alloc _ _ _ (by simp)]; first | exact heap_alloc_new _ _ | exact heap_at _ _ _ (by simp))) (by simp)) A_ (l1.map Value.string) ?_ (str_ones _) (by omega) (by omega) ?_; (first | exact .inl ⟨rfl, HA0.out, HL1.out⟩ | exact .inr ⟨_, _, rfl, HA1.out, FO.out _ (by repeat (first | exact Below.refl _ _ | refine Below.alloc ?_ (by simp) _ | refine Below.drew ?_ | refine pw_below_drewN' ?_ _))⟩); intro v1 W1 hown1 hbw1 hg1; have cW1 := FC.out _ hbw1)
                | (refine step_app rfl (.tmp 56) (.tmp 62) rfl W9 (by first | exact hbw1 | exact hbw1.alloc hbw1.size _) i0 hi0 hz0 hz1 hz2 _ _ _ rfl (by first | exact hown1 | exact hown1.alloc _) 1 [.string e.key] (.inr ⟨_, _, rfl, rfl, by first | exact World.news_of_block (heap_alloc_new _ _) | exact news_old hg1 (by first | exact heap_alloc_new _ _ | exact heap_at _ _ _ (by simp) | (rw [Below.heap_alloc _ _ _ (by simp)]; first | exact heap_alloc_new _ _ | exact heap_at _ _ _ (by simp))) (by simp)⟩) (str_one1 _) (by omega) (by omega) ?_; intro v2 W2 hown2 hbw2 hg2)
                | (refine step_app rfl (.tmp 63) (.tmp 66) rfl W9 hbw2 i0 hi0 hz0 hz1 hz2 _ _ _ rfl hown2 B_ (l2.map Value.string) ?_ (str_ones _) (by omega) (by omega) ?_; (first | exact .inl ⟨rfl, HB0_.out, HL2.out⟩ | exact .inr ⟨_, _, congrArg (fun z => Value.slice z (l.length - A_) (cap5 - A_)) HITE.out, HB1_.out, FO2.out _ hbw2⟩); intro v3 W3 hown3 hbw3 hg3))
              all_goals
                go_wp2
                refine ⟨⟨i + 1, l1 ++ [e.key] ++ l2, rfl, by omega, own_list hown3 HAL.out HBL.out hwr, HNEW.out, HLEN.out, below_over HB hbw3 hwr⟩, by simp [intOf]; omega⟩
            · have HCL : Hid (∀ (a : Nat) (k : ByteArray), l[a]? = some k → W9.cell? ⟨g, a, none⟩ = some (.string k)) := fun a k hk => SAt.cell hS hk
              go_loopw [7] (fun p wq => ∃ a : Nat, p = .int .i64 a ∧ a ≤ l.length ∧ (∀ x ∈ l.take a, bLt x e.key) ∧ ∃ nn, wq = W9.drewN nn) (fun p wq => l.length - (intOf p).toNat)
              case atStart => exact ⟨0, rfl, by omega, by simp, _, rfl⟩
              case round =>
                obtain ⟨a, rfl, ha, hall, nn, rfl⟩ := hrel
                have HALL := Lib.hid hall
                clear hall
                by_cases hal : a < l.length
                · obtain ⟨k, hk⟩ : ∃ k, l[a]? = some k := ⟨_, List.getElem?_eq_getElem hal⟩
                  have hck := HCL.out a k hk
                  have hal1 : (a : Int) < (l.length : Int) := by omega
                  have HKK := Lib.hid hk
                  clear hk
                  by_cases hb1 : bLt k e.key
                  · have hb2 : Op.bytesLess k.toList e.key.toList = true := bytesLess_true.2 hb1
                    have HALL2 : Hid (∀ x ∈ l.take (a + 1), bLt x e.key) := by
                      intro x hx
                      rw [List.take_add_one, HKK.out, Option.toList_some] at hx
                      rcases List.mem_append.1 hx with hx | hx
                      · exact HALL.out x hx
                      · rw [List.mem_singleton.1 hx]; exact hb1
                    go_wp2
                    go_quiet (fail)
                    go_wp2
                    refine ⟨⟨a + 1, rfl, by omega, HALL2.out, _, rfl⟩, by simp [intOf]; omega⟩
                  · have hb2 : Op.bytesLess k.toList e.key.toList = false := bytesLess_false.2 hb1
                    go_wp2
                    go_quiet (fail)
                    go_wp2
                    obtain ⟨l1, hl1⟩ : ∃ l1 : List ByteArray, l1 = l.take a := ⟨_, rfl⟩
                    obtain ⟨l2, hl2⟩ : ∃ l2 : List ByteArray, l2 = l.drop a := ⟨_, rfl⟩
                    obtain ⟨A_, hA_⟩ : ∃ A_ : Nat, A_ = a := ⟨_, rfl⟩
                    obtain ⟨B_, hB_⟩ : ∃ B_ : Nat, B_ = l.length - a := ⟨_, rfl⟩
                    have HAL : Hid (A_ = l1.length) := by show _ = _; rw [hA_, hl1]; simp; omega
                    have HBL : Hid (B_ = l2.length) := by show _ = _; rw [hB_, hl2]; simp
                    have HA1 : Hid ((l1.map Value.string).length = A_) := by show _ = _; rw [List.length_map, HAL.out]
                    have HB1_ : Hid ((l2.map Value.string).length = B_) := by show _ = _; rw [List.length_map, HBL.out]
                    have HNEW : Hid (Listed (HasKey (T.take (i + 1)) kind) (l1 ++ [e.key] ++ l2)) := by
                      have := listed_insert (a := a) HE.out HKI.out HLL.out HNO.out HALL.out (fun k' hk' => by rw [HKK.out] at hk'; cases hk'; exact hb1)
                      rw [hl1, hl2]
                      exact this
                    have HLEN : Hid ((l1 ++ [e.key] ++ l2).length ≤ i + 1) := by show _ ≤ _; rw [hl1, hl2]; simp; omega
                    have FO : Hid (∀ W, Below W9.heap.size W9 W → ∀ j u, (l1.map Value.string)[j]? = some u → W.cell? ((⟨g, 0, none⟩ : Addr).add j) = some u) := by
                      intro W hW j u hu
                      rw [hl1, List.getElem?_map] at hu
                      obtain ⟨k', hk', rfl⟩ := Option.map_eq_some_iff.1 hu
                      rw [List.getElem?_take] at hk'
                      split at hk'
                      · have hadd : (⟨g, 0, none⟩ : Addr).add j = ⟨g, j, none⟩ := by unfold Addr.add; split <;> simp_all
                        rw [hadd]
                        exact (hW.cell (p := ⟨g, j, none⟩) hglt).trans (HCL.out j k' hk')
                      · cases hk'
                    have FO2 : Hid (∀ W, Below W9.heap.size W9 W → ∀ j u, (l2.map Value.string)[j]? = some u → W.cell? ((⟨g, a, none⟩ : Addr).add j) = some u) := by
                      intro W hW j u hu
                      rw [hl2, List.getElem?_map] at hu
                      obtain ⟨k', hk', rfl⟩ := Option.map_eq_some_iff.1 hu
                      rw [List.getElem?_drop] at hk'
                      have hadd : (⟨g, a, none⟩ : Addr).add j = ⟨g, a + j, none⟩ := by unfold Addr.add; split <;> simp_all
                      rw [hadd]
                      exact (hW.cell (p := ⟨g, a + j, none⟩) hglt).trans (HCL.out (a + j) k' hk')
                    have HITE : Hid ((if cap5 = a then some (⟨g, 0, none⟩ : Addr) else some ⟨g, a, none⟩) = some ⟨g, a, none⟩) := by show _ = _; rw [if_neg (by omega)]
                    have hac : (a : Int) ≤ (cap5 : Int) := by omega
                    have hA9 : a ≤ 900 := by omega
                    have hB9 : l.length - a ≤ 900 := by omega
                    have hac1 : a < cap5 := by omega
                    have hac2 : ¬ cap5 - a = 0 := by omega
                    clear hl1 hl2
                    subst hA_
                    subst hB_
                    go_region_law (first
                      | (refine step_app rfl (.tmp 52) (.tmp 55) rfl W9 (by repeat (first | exact Below.refl _ _ | refine Below.alloc ?_ (by simp) _ | refine Below.drew ?_ | refine pw_below_drewN' ?_ _)) i0 hi0 hz0 hz1 hz2 _ 0 [] rfl (own_empty (by first | exact heap_alloc_new _ _ | exact heap_at _ _ _ (by simp) | (rw [Below.heap_alloc _ _ _ (by simp)]; first | exact heap_alloc_new _ _ | exact heap_at _ _ _ (by simp))) (by simp)) A_ (l1.map Value.string) ?_ (str_ones _) (by omega) (by omega) ?_; (first | exact .inl ⟨rfl, HA0.out, HL1.out⟩ | exact .inr ⟨_, _, rfl, HA1.out, FO.out _ (by repeat (first | exact Below.refl _ _ | refine Below.alloc ?_ (by simp) _ | refine Below.drew ?_ | refine pw_below_drewN' ?_ _))⟩); intro v1 W1 hown1 hbw1 hg1; have cW1 := FC.out _ hbw1)
                      | (refine step_app rfl (.tmp 56) (.tmp 62) rfl W9 (by first | exact hbw1 | exact hbw1.alloc hbw1.size _) i0 hi0 hz0 hz1 hz2 _ _ _ rfl (by first | exact hown1 | exact hown1.alloc _) 1 [.string e.key] (.inr ⟨_, _, rfl, rfl, by first | exact World.news_of_block (heap_alloc_new _ _) | exact news_old hg1 (by first | exact heap_alloc_new _ _ | exact heap_at _ _ _ (by simp) | (rw [Below.heap_alloc _ _ _ (by simp)]; first | exact heap_alloc_new _ _ | exact heap_at _ _ _ (by simp))) (by simp)⟩) (str_one1 _) (by omega) (by omega) ?_; intro v2 W2 hown2 hbw2 hg2)
                      | (refine step_app rfl (.tmp 63) (.tmp 66) rfl W9 hbw2 i0 hi0 hz0 hz1 hz2 _ _ _ rfl hown2 (l.length - A_) (l2.map Value.string) ?_ (str_ones _) (by omega) (by omega) ?_; (first | exact .inl ⟨rfl, HB0_.out, HL2.out⟩ | exact .inr ⟨_, _, congrArg (fun z => Value.slice z (l.length - A_) (cap5 - A_)) HITE.out, HB1_.out, FO2.out _ hbw2⟩); intro v3 W3 hown3 hbw3 hg3))
                    all_goals
                      go_wp2
                      refine ⟨⟨i + 1, l1 ++ [e.key] ++ l2, rfl, by omega, own_list hown3 HAL.out HBL.out hwr, HNEW.out, HLEN.out, below_over HB hbw3 hwr⟩, by simp [intOf]; omega⟩
                · obtain rfl : a = l.length := by omega
                  go_wp2
                  go_quiet (fail)
                  go_wp2
                  obtain ⟨l1, hl1⟩ : ∃ l1 : List ByteArray, l1 = l.take l.length := ⟨_, rfl⟩
                  obtain ⟨l2, hl2⟩ : ∃ l2 : List ByteArray, l2 = l.drop l.length := ⟨_, rfl⟩
                  obtain ⟨A_, hA_⟩ : ∃ A_ : Nat, A_ = l.length := ⟨_, rfl⟩
                  obtain ⟨B_, hB_⟩ : ∃ B_ : Nat, B_ = l.length - l.length := ⟨_, rfl⟩
                  have HAL : Hid (A_ = l1.length) := by show _ = _; rw [hA_, hl1]; simp
                  have HBL : Hid (B_ = l2.length) := by show _ = _; rw [hB_, hl2]; simp
                  have HA1 : Hid ((l1.map Value.string).length = A_) := by show _ = _; rw [List.length_map, HAL.out]
                  have HB1_ : Hid ((l2.map Value.string).length = B_) := by show _ = _; rw [List.length_map, HBL.out]
                  have HNEW : Hid (Listed (HasKey (T.take (i + 1)) kind) (l1 ++ [e.key] ++ l2)) := by
                    have := listed_insert (a := l.length) HE.out HKI.out HLL.out HNO.out HALL.out (fun k' hk' => by rw [List.getElem?_eq_none (Nat.le_refl _)] at hk'; cases hk')
                    rw [hl1, hl2]
                    exact this
                  have HLEN : Hid ((l1 ++ [e.key] ++ l2).length ≤ i + 1) := by show _ ≤ _; rw [hl1, hl2]; simp; omega
                  have FO : Hid (∀ W, Below W9.heap.size W9 W → ∀ j u, (l1.map Value.string)[j]? = some u → W.cell? ((⟨g, 0, none⟩ : Addr).add j) = some u) := by
                    intro W hW j u hu
                    rw [hl1, List.getElem?_map] at hu
                    obtain ⟨k', hk', rfl⟩ := Option.map_eq_some_iff.1 hu
                    rw [List.getElem?_take] at hk'
                    split at hk'
                    · have hadd : (⟨g, 0, none⟩ : Addr).add j = ⟨g, j, none⟩ := by unfold Addr.add; split <;> simp_all
                      rw [hadd]
                      exact (hW.cell (p := ⟨g, j, none⟩) hglt).trans (HCL.out j k' hk')
                    · cases hk'
                  obtain ⟨X_, hX⟩ : ∃ X_, (if cap5 = l.length then some (⟨g, 0, none⟩ : Addr) else some ⟨g, l.length, none⟩) = some ⟨g, X_, none⟩ := by split <;> exact ⟨_, rfl⟩
                  have HITE := Lib.hid hX
                  have FO2 : Hid (∀ W, Below W9.heap.size W9 W → ∀ j u, (l2.map Value.string)[j]? = some u → W.cell? ((⟨g, X_, none⟩ : Addr).add j) = some u) := by
                    intro W hW j u hu
                    rw [hl2] at hu
                    simp at hu
                  have hac : (l.length : Int) ≤ (cap5 : Int) := by omega
                  have hA9 : l.length ≤ 900 := by omega
                  clear hl1 hl2 hX
                  rw [show l.length - l.length = 0 from Nat.sub_self _] at hB_
                  subst hA_
                  subst hB_
                  go_region_law (first
                    | (refine step_app rfl (.tmp 52) (.tmp 55) rfl W9 (by repeat (first | exact Below.refl _ _ | refine Below.alloc ?_ (by simp) _ | refine Below.drew ?_ | refine pw_below_drewN' ?_ _)) i0 hi0 hz0 hz1 hz2 _ 0 [] rfl (own_empty (by first | exact heap_alloc_new _ _ | exact heap_at _ _ _ (by simp) | (rw [Below.heap_alloc _ _ _ (by simp)]; first | exact heap_alloc_new _ _ | exact heap_at _ _ _ (by simp))) (by simp)) l.length (l1.map Value.string) ?_ (str_ones _) (by omega) (by omega) ?_; (first | exact .inl ⟨rfl, HA0.out, HL1.out⟩ | exact .inr ⟨_, _, rfl, HA1.out, FO.out _ (by repeat (first | exact Below.refl _ _ | refine Below.alloc ?_ (by simp) _ | refine Below.drew ?_ | refine pw_below_drewN' ?_ _))⟩); intro v1 W1 hown1 hbw1 hg1; have cW1 := FC.out _ hbw1)
                    | (refine step_app rfl (.tmp 56) (.tmp 62) rfl W9 (by first | exact hbw1 | exact hbw1.alloc hbw1.size _) i0 hi0 hz0 hz1 hz2 _ _ _ rfl (by first | exact hown1 | exact hown1.alloc _) 1 [.string e.key] (.inr ⟨_, _, rfl, rfl, by first | exact World.news_of_block (heap_alloc_new _ _) | exact news_old hg1 (by first | exact heap_alloc_new _ _ | exact heap_at _ _ _ (by simp) | (rw [Below.heap_alloc _ _ _ (by simp)]; first | exact heap_alloc_new _ _ | exact heap_at _ _ _ (by simp))) (by simp)⟩) (str_one1 _) (by omega) (by omega) ?_; intro v2 W2 hown2 hbw2 hg2)
                    | (refine step_app rfl (.tmp 63) (.tmp 66) rfl W9 hbw2 i0 hi0 hz0 hz1 hz2 _ _ _ rfl hown2 0 (l2.map Value.string) ?_ (str_ones _) (by omega) (by omega) ?_; (first | exact .inl ⟨rfl, HB0_.out, HL2.out⟩ | exact .inr ⟨_, _, congrArg (fun z => Value.slice z 0 (cap5 - l.length)) HITE.out, HB1_.out, FO2.out _ hbw2⟩); intro v3 W3 hown3 hbw3 hg3))
                  all_goals
                    go_wp2
                    refine ⟨⟨i + 1, l1 ++ [e.key] ++ l2, rfl, by omega, own_list hown3 HAL.out HBL.out hwr, HNEW.out, HLEN.out, below_over HB hbw3 hwr⟩, by simp [intOf]; omega⟩
          · have hn : 0 ≤ m := by omega
            have HN : Hid (Listed (HasKey (T.take (i + 1)) kind) l) := ⟨HLL.out.1, fun k => by
              rw [keys_next HE.out, HLL.out.2]
              refine ⟨.inl, fun h => h.elim id fun h => ?_⟩
              obtain ⟨_, rfl⟩ := h
              refine Classical.byContradiction fun hno => hla (HNEG.out.2 fun x hx hxx => hno ⟨x, hx, hxx.1, hxx.2⟩)⟩
            clear hk hm hneg hlow hla HTI hlen
            go_wp2
            go_quiet (first | (go_at_call 171; exact HQ.out _))
            go_wp2
            refine ⟨⟨i + 1, l, rfl, by omega, SAt.below hS (pw_below_drewN' (Below.refl _ _) _), HN.out, by omega, pw_below_drewN' HB _⟩, by simp [intOf]; omega⟩
        · have hk1 : (e.kind != kind) = true := by simpa using hk
          have HN : Hid (Listed (HasKey (T.take (i + 1)) kind) l) := ⟨HLL.out.1, fun k => by rw [keys_next HE.out, HLL.out.2]; simp [hk]⟩
          clear hk
          go_wp2
          go_quiet (fail)
          go_wp2
          refine ⟨⟨i + 1, l, rfl, by omega, SAt.below hS (pw_below_drewN' (Below.refl _ _) _), HN.out, by omega, pw_below_drewN' HB _⟩, by simp [intOf]; omega⟩
      · obtain rfl : i = T.length := by omega
        have HF : Hid (Listed (HasKey T kind) l) := by have := HLL.out; rw [List.take_length] at this; exact this
        clear hlt
        go_wp2
        go_ret
        exact ⟨_, l, rfl, hS, HF.out, hli, HB⟩
end Go.Proofs.YtmbhkfclpkopiaaGreatDoor
