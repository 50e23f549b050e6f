/- Regions that draw their order, the general form: operations that store into variables, and new blocks that lie apart. -/
import Derived.Test.YtcjaplaifmhajaaDoorG4
set_option linter.all false
namespace Go.Proofs.YtcjaplaifmhajaaDoorG
open Go Go.RowKit
/-- The block that a new value leads to. -/
def vblk : Value → List Nat
  | .slice A _ _ => blk A
  | .pointer A => blk A
  | _ => []
def addO (d : Option Nat) (v : Value) (f : Fr) : Fr := match d with
  | some s => (s, v) :: f
  | none => f
def slotsX (d : Nat → Option Nat) (V : Nat → Value) : List Nat → Fr → Fr
  | [], f => f
  | i :: r, f => addO (d i) (V i) (slotsX d V r f)
theorem look_slotsX {d : Nat → Option Nat} {V : Nat → Value} {f : Fr} {s : Nat} {v : Value} : ∀ {l : List Nat}, look (slotsX d V l f) s = some v → (∃ i ∈ l, d i = some s ∧ V i = v) ∨ look f s = some v
  | [], h => .inr h
  | i :: r, h => by
    unfold slotsX addO at h
    cases hd : d i with
    | none =>
      rw [hd] at h
      rcases look_slotsX h with ⟨j, h1, h2⟩ | h1
      · exact .inl ⟨j, List.mem_cons_of_mem _ h1, h2⟩
      · exact .inr h1
    | some t =>
      rw [hd] at h
      simp only at h
      rw [look_cons] at h
      by_cases hi : t = s
      · rw [if_pos hi] at h
        exact .inl ⟨i, List.mem_cons_self, by rw [hd, hi], Option.some.inj h⟩
      · rw [if_neg hi] at h
        rcases look_slotsX h with ⟨j, h1, h2⟩ | h1
        · exact .inl ⟨j, List.mem_cons_of_mem _ h1, h2⟩
        · exact .inr h1
section
variable {P : Program} {N : Nat} {ops : Array Oper} {Q : Exit → Act → World → Prop} {w : World}
set_option maxHeartbeats 1000000 in
theorem C_drawX {id : Nat} {f : Fr} (m n : Nat) (d : Nat → Option Nat) (X : Nat → List Nat) (U : Nat → Nat) (nw : Nat → Bool) (hm : P.follows .mixedOrders = true) (hn : ops.size = n) (hB : firstB ops m = true)
    (hd : ∀ i, i < m → (ops[i]?).map (·.dst) = some (d i)) (hdd : ∀ i j s, i < m → j < m → d i = some s → d j = some s → i = j) (hdf : ∀ i s, i < m → d i = some s → look f s = none) (hdN : ∀ i s, i < m → d i = some s → s < N)
    (Φ : Nat → Value → World → Prop)
    (mono : ∀ i j, i < m → j < m → j ≠ i → j ≠ U i → (∀ o, ops[i]? = some o → j ∉ needs o) → (∀ o, ops[j]? = some o → U i ∉ needs o) → ∀ v w w', Φ i v w → Chg (X j) w w' → Φ i v w')
    (step : ∀ i, i < m → ∀ o, ops[i]? = some o → ∀ (V : Nat → Value) w' L, (∀ k ∈ L, ∃ j, j < m ∧ j ≠ i ∧ (∀ o', ops[j]? = some o' → i ∉ needs o') ∧ k ∈ X j) → Chg L w w' → (∀ j ∈ needs o, (U j = i ∨ m ≤ U j) → Φ j (V j) w') →
      Sv P N ops Q o (slotsX d V (needs o) f) w' (fun v w'' => Chg (X i) w' w'' ∧ Φ i v w'' ∧ (nw i = true → ∀ k ∈ vblk v, w'.heap.size ≤ k ∧ k < w''.heap.size)))
    (rest : ∀ (V : Nat → Value) w' L, (∀ k ∈ L, ∃ j, j < m ∧ k ∈ X j) → Chg L w w' → (∀ i, i < m → m ≤ U i → Φ i (V i) w') → (∀ i j, i < m → j < m → i ≠ j → nw i = true → nw j = true → ∀ k ∈ vblk (V i), k ∉ vblk (V j)) →
      An P N ops Q (n - m) (doneArr n m) (slotsX d V (List.range m) f) w') :
    C P N Q (.region id ops true) f w := by
  subst hn
  intro a ha
  simp only [firstB, Bool.and_eq_true, decide_eq_true_eq, List.all_eq_true] at hB
  obtain ⟨hms, hB⟩ := hB
  have hlow : ∀ j o, ops[j]? = some o → j < m → ∀ i ∈ needs o, i < j := by
    intro j o ho hj i hi
    have h1 := hB j (List.mem_range.2 (Array.getElem?_eq_some_iff.1 ho).1)
    rw [ho] at h1
    simp only [if_pos hj, List.all_eq_true, decide_eq_true_eq] at h1
    exact h1 i hi
  refine wp_region_any hm ?_
  have key : ∀ (c : Nat) (l : Array Bool) (a : Act) (w' : World), l.size = ops.size → (∀ j, m ≤ j → j < ops.size → l.getD j true = false) →
      ((List.range m).filter (fun i => !l.getD i true)).length = c →
      (∀ j o, ops[j]? = some o → j < m → l.getD j false = true → ∀ i ∈ needs o, l.getD i false = true) →
      (∃ L, (∀ k ∈ L, ∃ j, j < m ∧ l.getD j false = true ∧ k ∈ X j) ∧ Chg L w w') → Holds N f a →
      (∃ V : Nat → Value, (∀ i, i < m → l.getD i false = true → (∀ s, d i = some s → a.tmps[s]? = some (V i)) ∧ ((U i < m → l.getD (U i) false ≠ true) → Φ i (V i) w') ∧ (nw i = true → ∀ k ∈ vblk (V i), k < w'.heap.size)) ∧
        (∀ i j, i < m → j < m → i ≠ j → l.getD i false = true → l.getD j false = true → nw i = true → nw j = true → ∀ k ∈ vblk (V i), k ∉ vblk (V j))) →
      wpAny P .any ops Q (c + (ops.size - m)) l a w' := by
    intro c
    induction c with
    | zero =>
      rintro l a w' hls hrest hc hcl ⟨L, hL, hchg⟩ hh ⟨V, hall, hap⟩
      have hdone : ∀ i, i < m → l.getD i false = true := by
        intro i hi
        have : i ∉ (List.range m).filter (fun i => !l.getD i true) := by rw [List.eq_nil_of_length_eq_zero hc]; simp
        simp only [List.mem_filter, List.mem_range, Bool.not_eq_true', not_and, Bool.not_eq_false] at this
        have h1 := this hi
        have h2 : i < l.size := by omega
        simp [h2] at h1 ⊢
        exact h1
      have hl : l = doneArr ops.size m := by
        apply Array.ext
        · simp [doneArr, hls]
        · intro i h1 h2
          simp only [doneArr, List.getElem_toArray, List.getElem_map, List.getElem_range]
          by_cases him : i < m
          · have := hdone i him
            simp [h1] at this
            simp [this, him]
          · have := hrest i (by omega) (by omega)
            simp [h1] at this
            simp [this, him]
      rw [Nat.zero_add]
      have := rest V w' L (fun k hk => by obtain ⟨j, h1, _, h2⟩ := hL k hk; exact ⟨j, h1, h2⟩) hchg (fun i hi hu => (hall i hi (hdone i hi)).2.1 (fun h => absurd h (by omega)))
        (fun i j hi hj hij => hap i j hi hj hij (hdone i hi) (hdone j hj)) a ⟨hh.defers, hh.size, fun s v hs => by
        rcases look_slotsX hs with ⟨i, h1, h2, rfl⟩ | h1
        · exact (hall i (List.mem_range.1 h1) (hdone i (List.mem_range.1 h1))).1 s h2
        · exact hh.at_ s v h1⟩
      rw [hl]
      exact this
    | succ c ih =>
      rintro l a w' hls hrest hc hcl ⟨L, hL, hchg⟩ hh ⟨V, hall, hap⟩
      -- one of the first is not up yet
      have hex : ∃ i, i < m ∧ l.getD i true = false := by
        cases hq : (List.range m).filter (fun i => !l.getD i true) with
        | nil => rw [hq] at hc; simp at hc
        | cons i r =>
          have : i ∈ (List.range m).filter (fun i => !l.getD i true) := by rw [hq]; exact List.mem_cons_self
          simp only [List.mem_filter, List.mem_range, Bool.not_eq_true'] at this
          exact ⟨i, this⟩
      have hfin : ∀ i, i < m → l.getD i true = false → l.getD i false = false := by
        intro i hi h
        have h2 : i < l.size := by omega
        simp [h2] at h ⊢
        exact h
      have htf : ∀ i, i < m → l.getD i true ≠ false → l.getD i false = true := by
        intro i hi h
        have h2 : i < l.size := by omega
        simp [h2] at h ⊢
        exact h
      -- the least of them is ready
      have hready : ∀ i, i < m → l.getD i true = false → ∃ j, j ∈ Region.ready .any ops l := by
        intro i
        induction i using Nat.strongRecOn with
        | ind i ihi =>
          intro hi hu
          have ho : ops[i]? = some ops[i] := by simp
          by_cases hb : ∃ q ∈ needs ops[i], l.getD q false ≠ true
          · obtain ⟨q, hq, hne⟩ := hb
            have hqi := hlow i _ ho hi q hq
            refine ihi q hqi (by omega) ?_
            cases hqq : l.getD q true with
            | false => rfl
            | true => exact absurd (htf q (by omega) (by rw [hqq]; simp)) hne
          · refine ⟨i, ready_iff.2 ⟨_, ho, hu, fun q hq => ?_⟩⟩
            by_cases hqq : l.getD q false = true
            · exact hqq
            · exact absurd ⟨q, hq, hqq⟩ hb
      -- whatever is ready is one of the first
      have hfirst : ∀ j, j ∈ Region.ready .any ops l → j < m := by
        intro j hj
        obtain ⟨o, ho, hu, hn⟩ := ready_iff.1 hj
        rcases Nat.lt_or_ge j m with h | h
        · exact h
        · exfalso
          have hjs := (Array.getElem?_eq_some_iff.1 ho).1
          have h1 := hB j (List.mem_range.2 hjs)
          rw [ho] at h1
          simp only [if_neg (show ¬ j < m by omega), Bool.or_eq_true, List.any_eq_true, Bool.and_eq_true, decide_eq_true_eq, List.all_eq_true] at h1
          rcases h1 with ⟨q, hq, hmq, hqs⟩ | h1
          · have h2 := hn q hq
            have h3 := hrest q hmq hqs
            have h4 : q < l.size := by omega
            simp [h4] at h2 h3
            rw [h2] at h3
            cases h3
          · -- an unlisted one: walk up to one that j waits for
            obtain ⟨i, hi, hu'⟩ := hex
            have up : ∀ (t i : Nat), m - i = t → i < m → l.getD i true = false → False := by
              intro t
              induction t using Nat.strongRecOn with
              | ind t iht =>
                intro i ht hi hu'
                rcases h1 i (List.mem_range.2 hi) with h2 | ⟨i', hi', h2, h3⟩
                · have := hn i (by simpa using h2)
                  rw [hfin i hi hu'] at this
                  cases this
                · have him' := List.mem_range.1 hi'
                  cases ho' : ops[i']? with
                  | none => rw [ho'] at h3; cases h3
                  | some o' =>
                    rw [ho'] at h3
                    refine iht (m - i') (by omega) i' rfl him' ?_
                    cases hq : l.getD i' true with
                    | false => rfl
                    | true =>
                      have h4 := htf i' him' (by rw [hq]; simp)
                      have h5 := hcl i' o' ho' him' h4 i (by simpa using h3)
                      rw [hfin i hi hu'] at h5
                      cases h5
            exact up _ i rfl hi hu'
      rw [show c + 1 + (ops.size - m) = c + (ops.size - m) + 1 from by omega]
      refine ⟨fun h0 => ?_, fun i hi => ?_⟩
      · obtain ⟨i, h1, h2⟩ := hex
        obtain ⟨j, hj⟩ := hready i h1 h2
        rw [h0] at hj
        cases hj
      · have him := hfirst i hi
        obtain ⟨o, ho, hu, hn⟩ := ready_iff.1 hi
        have hund : l.getD i false = false := hfin i him hu
        have hneq : ∀ j, l.getD j false = true → j ≠ i := fun j hj h => by rw [h, hund] at hj; cases hj
        have hs' := step i him o ho V w' L (fun k hk => by
            obtain ⟨j, h1, h2, h3⟩ := hL k hk
            refine ⟨j, h1, hneq j h2, fun o' ho' hin => ?_, h3⟩
            have := hcl j o' ho' h1 h2 i hin
            rw [hund] at this
            cases this) hchg (fun j hj hav => (hall j (by have := hlow i o ho him j hj; omega) (hn j hj)).2.1 (fun h => by
              rcases hav with hav | hav
              · rw [hav, hund]; simp
              · omega)) a ⟨hh.defers, hh.size, fun s v hs => by
          rcases look_slotsX hs with ⟨j, h1, h2, rfl⟩ | h1
          · exact (hall j (by have := hlow i o ho him j h1; omega) (hn j h1)).1 s h2
          · exact hh.at_ s v h1⟩
        unfold wpOp
        rw [ho]
        unfold Op1 at hs'
        have hdi : o.dst = d i := by
          have := hd i him
          rw [ho] at this
          simpa using this
        have fin : ∀ a' w'', (∃ v, a' = a.put o.dst v ∧ Chg (X i) w' w'' ∧ Φ i v w'' ∧ (nw i = true → ∀ k ∈ vblk v, w'.heap.size ≤ k ∧ k < w''.heap.size)) → wpAny P .any ops Q (c + (ops.size - m)) (l.setIfInBounds i true) a' w'' := by
          rintro a' w'' ⟨v, rfl, h1, h2, hnb⟩
          have hilt : i < l.size := by omega
          have hget : ∀ j, j ≠ i → ∀ b, (l.setIfInBounds i true).getD j b = l.getD j b := fun j hj b => getD_set_ne b (Ne.symm hj)
          have hgi : ∀ b, (l.setIfInBounds i true).getD i b = true := by
            intro b
            simp [hilt]
          have hback : ∀ j, j ≠ i → (l.setIfInBounds i true).getD j false = true → l.getD j false = true := fun j hj h => by rwa [hget j hj] at h
          rw [hdi]
          refine ih _ _ w'' (by simp [hls]) ?_ ?_ ?_ ⟨L ++ X i, ?_, hchg.trans h1⟩ ?_ ⟨fun q => if q = i then v else V q, ?_, ?_⟩
          · intro j h3 h4
            rw [hget j (by omega)]
            exact hrest j h3 h4
          · have hc2 : ((List.range m).filter (fun q => !l.getD q true)) = (List.range m).filter (fun q => !l.getD q true) := rfl
            have hnd : ((List.range m).filter (fun q => !l.getD q true)).Nodup := List.Pairwise.filter _ List.nodup_range
            have hmem : i ∈ (List.range m).filter (fun q => !l.getD q true) := by simp only [List.mem_filter, List.mem_range, Bool.not_eq_true']; exact ⟨him, hu⟩
            have heq : (List.range m).filter (fun q => !(l.setIfInBounds i true).getD q true) = ((List.range m).filter (fun q => !l.getD q true)).erase i := by
              rw [hnd.erase_eq_filter, List.filter_filter]
              refine List.filter_congr fun q _ => ?_
              by_cases hq : q = i
              · subst hq; simp [hgi]
              · simp [hget q hq, hq]
            rw [heq, List.length_erase_of_mem hmem, hc]
            rfl
          · intro j o' ho' hj hl' q hq
            by_cases hji : j = i
            · subst hji
              rw [ho] at ho'
              obtain rfl := Option.some.inj ho'
              have hqn : q ≠ j := by have := hlow j o ho hj q hq; omega
              rw [hget q hqn]
              exact hn q hq
            · rw [hget j hji] at hl'
              by_cases hqi : q = i
              · subst hqi; exact hgi _
              · rw [hget q hqi]
                exact hcl j o' ho' hj hl' q hq
          · intro k hk
            rcases List.mem_append.1 hk with hk | hk
            · obtain ⟨j, h3, h4, h5⟩ := hL k hk
              exact ⟨j, h3, by rw [hget j (hneq j h4)]; exact h4, h5⟩
            · exact ⟨i, him, hgi _, hk⟩
          · cases hdi' : d i with
            | none => exact hh
            | some s0 =>
              have h3 := hh.put (hdN i s0 him hdi') v
              refine h3.le fun s u hs => ?_
              rw [look_cons]
              by_cases hsd : s0 = s
              · subst hsd; rw [hdf i s0 him hdi'] at hs; cases hs
              · rw [if_neg hsd]; exact hs
          · intro j hj hl'
            by_cases hji : j = i
            · subst hji
              simp only [if_true]
              refine ⟨fun s hs => ?_, fun _ => h2, fun hnw k hk => (hnb hnw k hk).2⟩
              rw [hs]
              exact (hh.put (hdN j s hj hs) v).at_ s v look_hit
            · have hlj := hback j hji hl'
              obtain ⟨h3, h4, h5⟩ := hall j hj hlj
              simp only [if_neg hji]
              refine ⟨fun s hs => ?_, fun hun => ?_, fun hnw k hk => Nat.lt_of_lt_of_le (h5 hnw k hk) h1.size⟩
              · have h6 := h3 s hs
                cases hdi' : d i with
                | none => exact h6
                | some s0 =>
                  have hne : s0 ≠ s := fun h => hji (hdd i j s him hj (by rw [hdi', h]) hs).symm
                  simp only [Act.put, Array.getElem?_setIfInBounds, if_neg hne]
                  exact h6
              · have hui : i ≠ U j := fun h => by
                  have := hun (by omega)
                  rw [← h, hgi] at this
                  exact this rfl
                refine mono j i hj him (Ne.symm hji) hui (fun o' ho' hin => ?_) (fun o' ho' hin => ?_) _ _ _ (h4 (fun hlt => ?_)) h1
                · have := hcl j o' ho' hj hlj i hin
                  rw [hund] at this
                  cases this
                · rw [ho] at ho'
                  obtain rfl := Option.some.inj ho'
                  have h7 := hlow i o ho him _ hin
                  have h8 := hun (by omega)
                  rw [hget (U j) (Ne.symm hui)] at h8
                  exact h8 (hn _ hin)
                · have := hun hlt
                  rwa [hget (U j) (Ne.symm hui)] at this
          · intro p q hp hq hpq hlp hlq hnp hnq k hk
            by_cases hpi : p = i
            · subst hpi
              have hqi : q ≠ p := Ne.symm hpq
              simp only [if_true, if_neg hqi] at hk ⊢
              intro hk2
              have h6 := (hall q hq (hback q hqi hlq)).2.2 hnq k hk2
              have h7 := (hnb hnp k hk).1
              omega
            · by_cases hqi : q = i
              · subst hqi
                simp only [if_true, if_neg hpi] at hk ⊢
                intro hk2
                have h6 := (hall p hp (hback p hpi hlp)).2.2 hnp k hk
                have h7 := (hnb hnq k hk2).1
                omega
              · simp only [if_neg hpi, if_neg hqi] at hk ⊢
                exact hap p q hp hq hpq (hback p hpi hlp) (hback q hqi hlq) hnp hnq k hk
        split at hs'
        · rename_i hwant
          simp only [hwant, if_true]
          exact hs'.imp (Oper.wp_mono fun a' w'' h => fin a' w'' h) (fun h => h)
        · rename_i hwant
          simp only [hwant, Bool.false_eq_true, if_false]
          exact fin _ _ hs'
  have hfalse : ∀ j, (Array.replicate ops.size false).getD j false ≠ true := fun j => by
    by_cases hj : j < ops.size <;> simp [hj]
  have hinit := key m (Array.replicate ops.size false) a { w with drawn := w.drawn + 1 } (by simp)
    (fun j _ hj => by simp [hj]) (by
      rw [List.filter_eq_self.2]
      · simp
      · intro i hi
        have : i < ops.size := by have := List.mem_range.1 hi; omega
        simp [this])
    (fun j o ho hj h => absurd h (hfalse j)) ⟨[], by simp, Chg.drew w⟩ ha ⟨fun _ => undef, fun i hi h => absurd h (hfalse i), fun i j _ _ _ h => absurd h (hfalse i)⟩
  rw [show m + (ops.size - m) = ops.size from by omega] at hinit
  exact hinit
theorem Sv.imp {o : Oper} {f : Fr} {k k' : Value → World → Prop} (h : Sv P N ops Q o f w k) (hk : ∀ v w', k v w' → k' v w') : Sv P N ops Q o f w k' := fun a ha => by
  have h1 := h a ha
  unfold Op1 at *
  split at h1
  · rename_i hw
    rw [if_pos hw]
    exact h1.imp (Oper.wp_mono fun a' w' ⟨v, h2, h3⟩ => ⟨v, h2, hk v w' h3⟩) id
  · rename_i hw
    rw [if_neg hw]
    obtain ⟨v, h2, h3⟩ := h1
    exact ⟨v, h2, hk v w h3⟩
/-- Every operation that may come up next. -/
def AnStep (P : Program) (N : Nat) (ops : Array Oper) (Q : Exit → Act → World → Prop) (n : Nat) (l : Array Bool) (f : Fr) (w : World) (i : Nat) : Prop :=
  ∃ o, ops[i]? = some o ∧ (∀ d, o.dst = some d → d < N) ∧ Sv P N ops Q o f w (fun v w' => An P N ops Q n (l.setIfInBounds i true) (addO o.dst v f) w')
theorem An_any {n : Nat} {l : Array Bool} {f : Fr} (is : List Nat) (hr : Region.ready .any ops l = is) (hne : is ≠ []) (h : ∀ i ∈ is, AnStep P N ops Q n l f w i) : An P N ops Q (n + 1) l f w := by
  intro a ha
  refine wpAny_all hr hne fun j hj => ?_
  obtain ⟨o, ho, hN, hs⟩ := h j hj
  have := hs a ha
  unfold wpOp
  rw [ho]
  unfold Op1 at this
  have hput : ∀ v, Holds N (addO o.dst v f) (a.put o.dst v) := fun v => by
    cases hd : o.dst with
    | none => exact ha
    | some d => exact ha.put (hN d hd) v
  split at this
  · rename_i hw; simp only [hw, if_true]
    refine this.imp (Oper.wp_mono fun a' w' ⟨v, h1, h2⟩ => ?_) id
    subst h1
    cases hd : o.dst with
    | none => rw [hd] at h2; exact h2 _ ha
    | some d => rw [hd] at h2; exact h2 _ (ha.put (hN d hd) v)
  · rename_i hw; simp only [hw]
    obtain ⟨v, h1, h2⟩ := this
    simp only [Bool.false_eq_true, if_false]
    rw [h1]
    exact h2 _ (hput v)
theorem C_any {id : Nat} {f : Fr} (n : Nat) (hm : P.follows .mixedOrders = true) (hn : ops.size = n) (h : ∀ w', Chg [] w w' → An P N ops Q n (Array.replicate n false) f w') : C P N Q (.region id ops true) f w := fun a ha => by
  subst hn
  exact wp_region_any hm (h _ (Chg.drew w) a ha)
/-- A name for what is to be shown of the operations that are left. -/
theorem An_let {n : Nat} {l : Array Bool} {f : Fr} (h : let A := An P N ops Q; A n l f w) : An P N ops Q n l f w := h
/-! ### the same with lists -/
def befX (X : List (List Nat)) (ds : List (List Nat)) (i : Nat) : List Nat := (List.range ds.length).flatMap fun j => bif j == i || (ds.getD j []).contains i then [] else X.getD j []
def aftX (X : List (List Nat)) (ds : List (List Nat)) (U : List Nat) (i : Nat) : List Nat := (List.range ds.length).flatMap fun j => bif j == i || j == U.getD i ds.length || (ds.getD i []).contains j || (ds.getD j []).contains (U.getD i ds.length) then [] else X.getD j []
def avail (U : List Nat) (m i j : Nat) : Bool := U.getD j m == i || decide (m ≤ U.getD j m)
def fits (b : Bool) (φ : Value → World → Prop) (v : Value) (w : World) : Prop := match b with
  | true => φ v w
  | false => True
def isNew (b : Bool) (v : Value) (w w' : World) : Prop := match b with
  | true => ∀ k ∈ vblk v, w.heap.size ≤ k ∧ k < w'.heap.size
  | false => True
def apart1 (v : Value) : List Value → Prop
  | [] => True
  | u :: r => (∀ k ∈ vblk v, k ∉ vblk u) ∧ apart1 v r
def apart : List Value → Prop
  | [] => True
  | v :: r => apart1 v r ∧ apart r
abbrev PhiL := List (Value → World → Prop)
def phi (Φ : PhiL) (i : Nat) : Value → World → Prop := Φ.getD i (fun _ _ => False)
def stepX (Φ : PhiL) (w : World) (dst : List (Option Nat)) (f : Fr) (av : Nat → Bool) : List Nat → (Fr → Prop) → Prop
  | [], G => G f
  | q :: r, G => ∀ v, fits (av q) (phi Φ q) v w → stepX Φ w dst f av r (fun g => G (addO (dst.getD q none) v g))
def stepR (Φ : PhiL) (w : World) (dst : List (Option Nat)) (f : Fr) (av : Nat → Bool) (nw : List Bool) : List Nat → List Value → (Fr → Prop) → Prop
  | [], acc, G => apart acc → G f
  | q :: r, acc, G => ∀ v, fits (av q) (phi Φ q) v w → stepR Φ w dst f av nw r (bif nw.getD q false then v :: acc else acc) (fun g => G (addO (dst.getD q none) v g))
def drawSX (P : Program) (N : Nat) (ops : Array Oper) (Q : Exit → Act → World → Prop) (dst : List (Option Nat)) (f : Fr) (w : World) (Φ : PhiL) (X : List (List Nat)) (ds : List (List Nat)) (U : List Nat) (nw : List Bool) : Nat → List (List Nat) → List Oper → Prop
  | _, [], _ => True
  | _, _ :: _, [] => False
  | i, d :: r, o :: os => (∀ w', Chg (befX X ds i) w w' → stepX Φ w' dst f (avail U ds.length i) d (fun g => Sv P N ops Q o g w' (fun v w'' => Chg (X.getD i []) w' w'' ∧ phi Φ i v w'' ∧ isNew (nw.getD i false) v w' w''))) ∧ drawSX P N ops Q dst f w Φ X ds U nw (i + 1) r os
def monoX (Φ : PhiL) (X ds : List (List Nat)) (U : List Nat) : Nat → List (List Nat) → Prop
  | _, [] => True
  | i, _ :: r => (∀ v w w', phi Φ i v w → Chg (aftX X ds U i) w w' → phi Φ i v w') ∧ monoX Φ X ds U (i + 1) r
theorem stepX_at {Φ : PhiL} {w : World} {dst : List (Option Nat)} {f : Fr} {av : Nat → Bool} {V : Nat → Value} : ∀ {l : List Nat} {G : Fr → Prop}, stepX Φ w dst f av l G → (∀ q ∈ l, av q = true → phi Φ q (V q) w) → G (slotsX (fun i => dst.getD i none) V l f)
  | [], G, h, _ => h
  | q :: r, G, h, hn => by
    refine stepX_at (G := fun g => G (addO (dst.getD q none) (V q) g)) (h (V q) ?_) (fun j hj => hn j (List.mem_cons_of_mem _ hj))
    cases hq : av q with
    | true => exact hn q List.mem_cons_self hq
    | false => trivial
theorem apart1_of {v : Value} : ∀ {l : List Value}, (∀ u ∈ l, ∀ k ∈ vblk v, k ∉ vblk u) → apart1 v l
  | [], _ => trivial
  | u :: r, h => ⟨h u List.mem_cons_self, apart1_of fun x hx => h x (List.mem_cons_of_mem _ hx)⟩
theorem stepR_at {Φ : PhiL} {w : World} {dst : List (Option Nat)} {f : Fr} {av : Nat → Bool} {nw : List Bool} {V : Nat → Value} : ∀ {l : List Nat} {acc : List Value} {G : Fr → Prop}, stepR Φ w dst f av nw l acc G → (∀ q ∈ l, av q = true → phi Φ q (V q) w) → l.Nodup →
    (∀ i ∈ l, ∀ j ∈ l, i ≠ j → nw.getD i false = true → nw.getD j false = true → ∀ k ∈ vblk (V i), k ∉ vblk (V j)) → (∀ i ∈ l, nw.getD i false = true → ∀ u ∈ acc, ∀ k ∈ vblk (V i), k ∉ vblk u) → apart acc → G (slotsX (fun i => dst.getD i none) V l f)
  | [], acc, G, h, _, _, _, _, ha => h ha
  | q :: r, acc, G, h, hn, hnd, hd, hacc, ha => by
    refine stepR_at (G := fun g => G (addO (dst.getD q none) (V q) g)) (h (V q) ?_) (fun j hj => hn j (List.mem_cons_of_mem _ hj)) (List.nodup_cons.1 hnd).2 (fun i hi j hj => hd i (List.mem_cons_of_mem _ hi) j (List.mem_cons_of_mem _ hj)) ?_ ?_
    · cases hq : av q with
      | true => exact hn q List.mem_cons_self hq
      | false => trivial
    · intro i hi hni u hu
      cases hq : nw.getD q false with
      | false => rw [hq] at hu; exact hacc i (List.mem_cons_of_mem _ hi) hni u hu
      | true =>
        rw [hq] at hu
        rcases List.mem_cons.1 hu with rfl | hu
        · exact hd i (List.mem_cons_of_mem _ hi) q List.mem_cons_self (fun h => (List.nodup_cons.1 hnd).1 (h ▸ hi)) hni hq
        · exact hacc i (List.mem_cons_of_mem _ hi) hni u hu
    · cases hq : nw.getD q false with
      | false => exact ha
      | true => exact ⟨apart1_of fun u hu => hacc q List.mem_cons_self hq u hu, ha⟩
theorem drawSX_at {dst : List (Option Nat)} {f : Fr} {Φ : PhiL} {X ds : List (List Nat)} {U : List Nat} {nw : List Bool} : ∀ {r : List (List Nat)} {os : List Oper} {i : Nat}, drawSX P N ops Q dst f w Φ X ds U nw i r os → ∀ (j : Nat) (d : List Nat) (o : Oper), r[j]? = some d → os[j]? = some o →
    (∀ w', Chg (befX X ds (i + j)) w w' → stepX Φ w' dst f (avail U ds.length (i + j)) d (fun g => Sv P N ops Q o g w' (fun v w'' => Chg (X.getD (i + j) []) w' w'' ∧ phi Φ (i + j) v w'' ∧ isNew (nw.getD (i + j) false) v w' w'')))
  | [], _, _, _, _, _, _, h1, _ => by simp at h1
  | _ :: _, [], _, h, _, _, _, _, _ => by simp [drawSX] at h
  | d0 :: r, o0 :: os, i, h, 0, d, o, h1, h2 => by
    simp at h1 h2
    subst h1
    subst h2
    exact h.1
  | d0 :: r, o0 :: os, i, h, j + 1, d, o, h1, h2 => by
    have := drawSX_at h.2 j d o (by simpa using h1) (by simpa using h2)
    rw [show i + (j + 1) = i + 1 + j from by omega]
    exact this
theorem monoX_at {Φ : PhiL} {X ds : List (List Nat)} {U : List Nat} : ∀ {r : List (List Nat)} {i : Nat}, monoX Φ X ds U i r → ∀ j, j < r.length → ∀ v w w', phi Φ (i + j) v w → Chg (aftX X ds U (i + j)) w w' → phi Φ (i + j) v w'
  | [], _, _, j, hj => by simp at hj
  | _ :: r, i, h, 0, _ => h.1
  | _ :: r, i, h, j + 1, hj => by
    have := monoX_at h.2 j (by simpa using hj)
    rw [show i + (j + 1) = i + 1 + j from by omega]
    exact this
def drawBX (N n : Nat) (ops : Array Oper) (f : List Nat) (ds : List (List Nat)) (dst : List (Option Nat)) (U : List Nat) : Bool :=
  (ops.size == n) && firstB ops ds.length && (dst.length == ds.length) && ((List.range ds.length).all fun i => match ops[i]? with
    | none => false
    | some o => (o.dst == dst.getD i none) && (needs o == ds.getD i []) && (match dst.getD i none with | none => true | some s => decide (s < N) && !f.contains s) && (decide (ds.length ≤ U.getD i ds.length) || (ds.getD (U.getD i ds.length) []).contains i)) &&
  ((List.range ds.length).all fun i => (List.range ds.length).all fun j => i == j || dst.getD i none == none || dst.getD i none != dst.getD j none)
theorem C_drawnX {id : Nat} {f : Fr} (n : Nat) (ds : List (List Nat)) (dst : List (Option Nat)) (fs : List Nat) (X : List (List Nat)) (U : List Nat) (nw : List Bool) (hf : f.map (·.1) = fs) (hm : P.follows .mixedOrders = true) (hB : drawBX N n ops fs ds dst U = true)
    (Φ : PhiL) (mono : monoX Φ X ds U 0 ds) (step : drawSX P N ops Q dst f w Φ X ds U nw 0 ds ops.toList)
    (rest : ∀ w', Chg X.flatten w w' → stepR Φ w' dst f (fun q => decide (ds.length ≤ U.getD q ds.length)) nw (List.range ds.length) [] (fun g => An P N ops Q (n - ds.length) (doneArr n ds.length) g w')) :
    C P N Q (.region id ops true) f w := by
  subst hf
  simp only [drawBX, Bool.and_eq_true, beq_iff_eq, List.all_eq_true, decide_eq_true_eq] at hB
  obtain ⟨⟨⟨⟨h1, h2⟩, h3⟩, h4⟩, h5⟩ := hB
  have hat : ∀ i, i < ds.length → ∃ o, ops[i]? = some o ∧ o.dst = dst.getD i none ∧ needs o = ds.getD i [] ∧ (∀ s, dst.getD i none = some s → s < N ∧ look f s = none) ∧ (U.getD i ds.length < ds.length → i ∈ ds.getD (U.getD i ds.length) []) := by
    intro i hi
    have := h4 i (List.mem_range.2 hi)
    cases ho : ops[i]? with
    | none => rw [ho] at this; cases this
    | some o =>
      rw [ho] at this
      simp only [Bool.and_eq_true, beq_iff_eq, Bool.or_eq_true, decide_eq_true_eq] at this
      obtain ⟨⟨⟨g1, g2⟩, g3⟩, g4⟩ := this
      refine ⟨o, rfl, g1, g2, fun s hs => ?_, fun h => ?_⟩
      · rw [hs] at g3
        simp only [Bool.and_eq_true, decide_eq_true_eq, Bool.not_eq_true'] at g3
        exact ⟨g3.1, look_none g3.2⟩
      · rcases g4 with g4 | g4
        · omega
        · simpa using g4
  have hne : ∀ i o, i < ds.length → ops[i]? = some o → needs o = ds.getD i [] := by
    intro i o hi ho
    obtain ⟨o', ho', _, g, _⟩ := hat i hi
    rw [ho] at ho'
    obtain rfl := Option.some.inj ho'
    exact g
  refine C_drawX ds.length n (fun i => dst.getD i none) (fun i => X.getD i []) (fun i => U.getD i ds.length) (fun i => nw.getD i false) hm h1 h2 ?_ ?_ ?_ ?_ (phi Φ) ?_ ?_ ?_
  · intro i hi
    obtain ⟨o, ho, hd, _⟩ := hat i hi
    rw [ho]
    simp [hd]
  · intro i j s hi hj hs ht
    have := h5 i (List.mem_range.2 hi) j (List.mem_range.2 hj)
    rw [hs, ht] at this
    simpa using this
  · intro i s hi hs
    obtain ⟨o, _, _, _, h, _⟩ := hat i hi
    exact (h s hs).2
  · intro i s hi hs
    obtain ⟨o, _, _, _, h, _⟩ := hat i hi
    exact (h s hs).1
  · intro i j hi hj hji hju hnin hnu v w1 w2 hp hc
    have := monoX_at mono i hi v w1 w2
    rw [Nat.zero_add] at this
    refine this hp (hc.mono fun k hk => .inl ?_)
    unfold aftX
    refine List.mem_flatMap.2 ⟨j, List.mem_range.2 hj, ?_⟩
    obtain ⟨o, ho, _, hn, _⟩ := hat i hi
    have h6 := hnin o ho
    rw [hn] at h6
    obtain ⟨oj, hoj, _, hnj, _⟩ := hat j hj
    have h7 := hnu oj hoj
    rw [hnj] at h7
    rw [show (j == i || j == U.getD i ds.length || (ds.getD i []).contains j || (ds.getD j []).contains (U.getD i ds.length)) = false from by simp only [Bool.or_eq_false_iff, beq_eq_false_iff_ne]; exact ⟨⟨⟨hji, hju⟩, by simpa using h6⟩, by simpa using h7⟩]
    exact hk
  · intro i hi o ho V w' L hL hc hn
    have h6 := drawSX_at step i (ds.getD i []) o (by simp [List.getD, hi]) (by simpa using ho) w'
    rw [Nat.zero_add] at h6
    have h7 := h6 (hc.mono fun k hk => .inl (by
      obtain ⟨j, g1, g2, g3, g4⟩ := hL k hk
      unfold befX
      refine List.mem_flatMap.2 ⟨j, List.mem_range.2 g1, ?_⟩
      obtain ⟨o', ho', _, hn', _⟩ := hat j g1
      have h8 := g3 o' ho'
      rw [hn'] at h8
      rw [show (j == i || (ds.getD j []).contains i) = false from by simp only [Bool.or_eq_false_iff, beq_eq_false_iff_ne]; exact ⟨g2, by simpa using h8⟩]
      exact g4))
    rw [hne i o hi ho] at hn ⊢
    have h8 := stepX_at (V := V) h7 (fun q hq hav => hn q hq (by
      simp only [avail, Bool.or_eq_true, beq_iff_eq, decide_eq_true_eq] at hav
      exact hav))
    refine h8.imp ?_
    rintro v w'' ⟨g2, g3, g4⟩
    refine ⟨g2, g3, fun hnw => ?_⟩
    rw [hnw] at g4
    exact g4
  · intro V w' L hL hc hn hap
    refine stepR_at (V := V) (rest w' (hc.mono fun k hk => .inl ?_)) (fun q hq hav => hn q (List.mem_range.1 hq) (by simpa using hav)) List.nodup_range (fun i hi j hj => hap i j (List.mem_range.1 hi) (List.mem_range.1 hj)) (fun _ _ _ u hu => by cases hu) trivial
    obtain ⟨j, hj, hk⟩ := hL k hk
    have hjx : j < X.length := by
      rcases Nat.lt_or_ge j X.length with h | h
      · exact h
      · simp [List.getD, List.getElem?_eq_none h] at hk
    rw [List.mem_flatten]
    exact ⟨X[j], List.getElem_mem hjx, by simpa [List.getD, hjx] using hk⟩
end
theorem one_cons {v : Value} {L : List Value} (h : v.oneCell' = true) (hL : ∀ u ∈ L, u.oneCell' = true) : ∀ u ∈ v :: L, u.oneCell' = true := fun u hu => by
  rcases List.mem_cons.1 hu with rfl | hu
  · exact h
  · exact hL u hu
theorem one_nil : ∀ u ∈ ([] : List Value), u.oneCell' = true := fun u hu => by cases hu
theorem cons_all {p : Nat → Prop} {b : Nat} {L : List Nat} (h : ∀ k ∈ [b], p k) (hL : ∀ k ∈ L, p k) : ∀ k ∈ b :: L, p k := fun k hk => by
  rcases List.mem_cons.1 hk with rfl | hk
  · exact h _ List.mem_cons_self
  · exact hL k hk
theorem nil_all {p : Nat → Prop} : ∀ k ∈ ([] : List Nat), p k := fun k hk => by cases hk
theorem notin_cons {X L : List Nat} {b : Nat} (h : ∀ k ∈ X, k ∉ [b]) (hL : ∀ k ∈ X, k ∉ L) : ∀ k ∈ X, k ∉ b :: L := fun k hk hm => by
  rcases List.mem_cons.1 hm with rfl | hm
  · exact h _ hk List.mem_cons_self
  · exact hL k hk hm
theorem notin_nil {X : List Nat} : ∀ k ∈ X, k ∉ ([] : List Nat) := fun k _ hm => by cases hm
end Go.Proofs.YtcjaplaifmhajaaDoorG
