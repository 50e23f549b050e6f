/- A region that draws its order: operations that add pieces of memory, and take those of others. -/
import Derived.Test.YtcjaplaifmhajaaDoorS4
set_option linter.all false
namespace Go.Proofs.YtcjaplaifmhajaaDoorG
open Go Go.RowKit
/-- What an operation's new pieces are told by. -/
structure Gh where
  a : Nat → Option Addr
  c : Nat → Nat
  q : Nat → Z
  b : Nat → Nat
def gh0 : Gh := ⟨fun _ => none, fun _ => 0, fun _ => zE, fun _ => 0⟩
def catR (R : Nat → Gh → List Res) (g : Nat → Gh) : List Nat → List Res
  | [] => []
  | i :: l => R i (g i) ++ catR R g l
theorem Sp.perm {X : Nat → Prop} {w0 w : World} {z : Z} {rs rs' : List Res} (h : Sp X w0 z w rs) (hp : rs.Perm rs') : Sp X w0 z w rs' :=
  ⟨h.z0, h.dz, h.chg, fun r hr => h.all r (hp.mem_iff.2 hr), fun r hr => h.new r (hp.mem_iff.2 hr), (hp.pairwise_iff (fun {x y} hxy => hxy.symm)).1 h.sep⟩
theorem catR_perm {R : Nat → Gh → List Res} {g : Nat → Gh} {l l' : List Nat} (h : l.Perm l') : (catR R g l).Perm (catR R g l') := by
  induction h with
  | nil => exact List.Perm.refl _
  | cons x _ ih => exact ih.append_left _
  | swap x y l =>
    show (R y (g y) ++ (R x (g x) ++ catR R g l)).Perm (R x (g x) ++ (R y (g y) ++ catR R g l))
    rw [← List.append_assoc, ← List.append_assoc]
    exact (List.perm_append_comm).append_right _
  | trans _ _ h1 h2 => exact h1.trans h2
theorem catR_append {R : Nat → Gh → List Res} {g : Nat → Gh} : ∀ {l l' : List Nat}, catR R g (l ++ l') = catR R g l ++ catR R g l'
  | [], l' => rfl
  | i :: l, l' => by
    show R i (g i) ++ catR R g (l ++ l') = (R i (g i) ++ catR R g l) ++ catR R g l'
    rw [catR_append, List.append_assoc]
theorem catR_congr {R : Nat → Gh → List Res} {g g' : Nat → Gh} : ∀ {l : List Nat}, (∀ i ∈ l, g i = g' i) → catR R g l = catR R g' l
  | [], _ => rfl
  | i :: l, h => by
    show R i (g i) ++ catR R g l = R i (g' i) ++ catR R g' l
    rw [h i List.mem_cons_self, catR_congr fun j hj => h j (List.mem_cons_of_mem _ hj)]
theorem Sp.bunl {X : Nat → Prop} {w0 w : World} {z : Z} {rs fr : List Res} (h : Sp X w0 z w (rs ++ fr)) : Sp X w0 z w (rs ++ [allR fr]) := by
  have h1 := List.pairwise_append.1 h.sep
  refine ⟨h.z0, h.dz, h.chg, fun r hr => ?_, fun r hr k hk => ?_, List.pairwise_append.2 ⟨h1.1, List.pairwise_singleton _ _, fun p hp q hq k hpk hqk => ?_⟩⟩
  · rcases List.mem_append.1 hr with hr | hr
    · exact h.all r (List.mem_append_left _ hr)
    · rw [List.mem_singleton.1 hr]
      exact ⟨fun q hq => h.all q (List.mem_append_right _ hq), h1.2.1⟩
  · rcases List.mem_append.1 hr with hr | hr
    · exact h.new r (List.mem_append_left _ hr) k hk
    · rw [List.mem_singleton.1 hr] at hk
      obtain ⟨q, hq, hqk⟩ := hk
      exact h.new q (List.mem_append_right _ hq) k hqk
  · rw [List.mem_singleton.1 hq] at hqk
    obtain ⟨r, hr, hrk⟩ := hqk
    exact h1.2.2 p hp r hr k hpk hrk
theorem Sp.unbl {X : Nat → Prop} {w0 w : World} {z : Z} {rs fr : List Res} (h : Sp X w0 z w (rs ++ [allR fr])) : Sp X w0 z w (rs ++ fr) := by
  have h1 := h.perm (List.perm_append_comm)
  have h2 : Sp X w0 z w (fr ++ rs) := Sp.unb h1
  exact h2.perm (List.perm_append_comm)
section
variable {P : Program} {N : Nat} {ops : Array Oper} {Q : Exit → Act → World → Prop} {w w0 : World} {X : Nat → Prop} {z : Z} {base : List Res}
/-- The operations whose pieces are there. -/
def livs (m : Nat) (U : Nat → Nat) (l : Array Bool) : List Nat := (List.range m).filter fun j => l.getD j false && !(decide (U j < m) && l.getD (U j) false)
set_option maxHeartbeats 1000000 in
theorem C_drawS {id : Nat} {f : Fr} (m n : Nat) (d : Nat → Option Nat) (val : Nat → Gh → Value) (R : Nat → Gh → List Res) (U : Nat → Nat) (con len : Nat → List Nat) (hm : P.follows .mixedOrders = true) (hn : ops.size = n) (hB : firstB ops m = true)
    (hd : ∀ i, i < m → (ops[i]?).map (·.dst) = some (d i)) (hdd : ∀ i j s, i < m → j < m → d i = some s → d j = some s → i = j) (hdf : ∀ i s, i < m → d i = some s → look f s = none) (hdN : ∀ i s, i < m → d i = some s → s < N)
    (hcon : ∀ i, i < m → ∀ o, ops[i]? = some o → ∀ j ∈ con i, j ∈ needs o ∧ U j = i) (hlen : ∀ i, i < m → ∀ o, ops[i]? = some o → ∀ j ∈ len i, j ∈ needs o ∧ m ≤ U j) (hnd : ∀ i, i < m → (con i ++ len i).Nodup)
    (hU : ∀ i j, i < m → j < m → U j = i → j ∈ con i)
    (hS : Sp X w0 z w base)
    (step : ∀ i, i < m → ∀ o, ops[i]? = some o → ∀ (g : Nat → Gh) w' fr, Sp X w0 z w' ((catR R g (con i) ++ (catR R g (len i) ++ base)) ++ [allR fr]) →
      Sv P N ops Q o (slotsX d (fun j => val j (g j)) (needs o) f) w' (fun v w'' => ∃ γ, v = val i γ ∧ Sp X w0 z w'' ((R i γ ++ (catR R g (len i) ++ base)) ++ [allR fr])))
    (rest : ∀ (g : Nat → Gh) w', Sp X w0 z w' (catR R g ((List.range m).filter fun j => !decide (U j < m)) ++ base) → An P N ops Q (n - m) (doneArr n m) (slotsX d (fun j => val j (g j)) (List.range m) f) w') :
    C P N Q (.region id ops true) f w := by
  subst hn
  intro a ha
  simp only [firstB, Bool.and_eq_true, decide_eq_true_eq, List.all_eq_true] at hB
  obtain ⟨hms, hB⟩ := hB
  have hlow : ∀ j o, ops[j]? = some o → j < m → ∀ i ∈ needs o, i < j := by
    intro j o ho hj i hi
    have h1 := hB j (List.mem_range.2 (Array.getElem?_eq_some_iff.1 ho).1)
    rw [ho] at h1
    simp only [if_pos hj, List.all_eq_true, decide_eq_true_eq] at h1
    exact h1 i hi
  refine wp_region_any hm ?_
  have key : ∀ (c : Nat) (l : Array Bool) (a : Act) (w' : World), l.size = ops.size → (∀ j, m ≤ j → j < ops.size → l.getD j true = false) →
      ((List.range m).filter (fun i => !l.getD i true)).length = c →
      (∀ j o, ops[j]? = some o → j < m → l.getD j false = true → ∀ i ∈ needs o, l.getD i false = true) → Holds N f a →
      (∃ g : Nat → Gh, (∀ i, i < m → l.getD i false = true → ∀ s, d i = some s → a.tmps[s]? = some (val i (g i))) ∧ Sp X w0 z w' (catR R g (livs m U l) ++ base)) →
      wpAny P .any ops Q (c + (ops.size - m)) l a w' := by
    intro c
    induction c with
    | zero =>
      rintro l a w' hls hrest hc hcl hh ⟨g, hall, hsp⟩
      have hdone : ∀ i, i < m → l.getD i false = true := by
        intro i hi
        have : i ∉ (List.range m).filter (fun i => !l.getD i true) := by rw [List.eq_nil_of_length_eq_zero hc]; simp
        simp only [List.mem_filter, List.mem_range, Bool.not_eq_true', not_and, Bool.not_eq_false] at this
        have h1 := this hi
        have h2 : i < l.size := by omega
        simp [h2] at h1 ⊢
        exact h1
      have hl : l = doneArr ops.size m := by
        apply Array.ext
        · simp [doneArr, hls]
        · intro i h1 h2
          simp only [doneArr, List.getElem_toArray, List.getElem_map, List.getElem_range]
          by_cases him : i < m
          · have := hdone i him
            simp [h1] at this
            simp [this, him]
          · have := hrest i (by omega) (by omega)
            simp [h1] at this
            simp [this, him]
      have hlv : livs m U l = (List.range m).filter fun j => !decide (U j < m) := by
        unfold livs
        refine List.filter_congr fun j hj => ?_
        rw [hdone j (List.mem_range.1 hj)]
        by_cases hu : U j < m
        · rw [hdone (U j) hu]; simp [hu]
        · simp [hu]
      rw [hlv] at hsp
      rw [Nat.zero_add]
      have := rest g w' hsp a ⟨hh.defers, hh.size, fun s v hs => by
        rcases look_slotsX hs with ⟨i, h1, h2, rfl⟩ | h1
        · exact hall i (List.mem_range.1 h1) (hdone i (List.mem_range.1 h1)) s h2
        · exact hh.at_ s v h1⟩
      rw [hl]
      exact this
    | succ c ih =>
      rintro l a w' hls hrest hc hcl hh ⟨g, hall, hsp⟩
      have hex : ∃ i, i < m ∧ l.getD i true = false := by
        cases hq : (List.range m).filter (fun i => !l.getD i true) with
        | nil => rw [hq] at hc; simp at hc
        | cons i r =>
          have : i ∈ (List.range m).filter (fun i => !l.getD i true) := by rw [hq]; exact List.mem_cons_self
          simp only [List.mem_filter, List.mem_range, Bool.not_eq_true'] at this
          exact ⟨i, this⟩
      have hfin : ∀ i, i < m → l.getD i true = false → l.getD i false = false := by
        intro i hi h
        have h2 : i < l.size := by omega
        simp [h2] at h ⊢
        exact h
      have htf : ∀ i, i < m → l.getD i true ≠ false → l.getD i false = true := by
        intro i hi h
        have h2 : i < l.size := by omega
        simp [h2] at h ⊢
        exact h
      have hready : ∀ i, i < m → l.getD i true = false → ∃ j, j ∈ Region.ready .any ops l := by
        intro i
        induction i using Nat.strongRecOn with
        | ind i ihi =>
          intro hi hu
          have ho : ops[i]? = some ops[i] := by simp
          by_cases hb : ∃ q ∈ needs ops[i], l.getD q false ≠ true
          · obtain ⟨q, hq, hne⟩ := hb
            have hqi := hlow i _ ho hi q hq
            refine ihi q hqi (by omega) ?_
            cases hqq : l.getD q true with
            | false => rfl
            | true => exact absurd (htf q (by omega) (by rw [hqq]; simp)) hne
          · refine ⟨i, ready_iff.2 ⟨_, ho, hu, fun q hq => ?_⟩⟩
            by_cases hqq : l.getD q false = true
            · exact hqq
            · exact absurd ⟨q, hq, hqq⟩ hb
      have hfirst : ∀ j, j ∈ Region.ready .any ops l → j < m := by
        intro j hj
        obtain ⟨o, ho, hu, hn⟩ := ready_iff.1 hj
        rcases Nat.lt_or_ge j m with h | h
        · exact h
        · exfalso
          have hjs := (Array.getElem?_eq_some_iff.1 ho).1
          have h1 := hB j (List.mem_range.2 hjs)
          rw [ho] at h1
          simp only [if_neg (show ¬ j < m by omega), Bool.or_eq_true, List.any_eq_true, Bool.and_eq_true, decide_eq_true_eq, List.all_eq_true] at h1
          rcases h1 with ⟨q, hq, hmq, hqs⟩ | h1
          · have h2 := hn q hq
            have h3 := hrest q hmq hqs
            have h4 : q < l.size := by omega
            simp [h4] at h2 h3
            rw [h2] at h3
            cases h3
          · obtain ⟨i, hi, hu'⟩ := hex
            have up : ∀ (t i : Nat), m - i = t → i < m → l.getD i true = false → False := by
              intro t
              induction t using Nat.strongRecOn with
              | ind t iht =>
                intro i ht hi hu'
                rcases h1 i (List.mem_range.2 hi) with h2 | ⟨i', hi', h2, h3⟩
                · have := hn i (by simpa using h2)
                  rw [hfin i hi hu'] at this
                  cases this
                · have him' := List.mem_range.1 hi'
                  cases ho' : ops[i']? with
                  | none => rw [ho'] at h3; cases h3
                  | some o' =>
                    rw [ho'] at h3
                    refine iht (m - i') (by omega) i' rfl him' ?_
                    cases hq : l.getD i' true with
                    | false => rfl
                    | true =>
                      have h4 := htf i' him' (by rw [hq]; simp)
                      have h5 := hcl i' o' ho' him' h4 i (by simpa using h3)
                      rw [hfin i hi hu'] at h5
                      cases h5
            exact up _ i rfl hi hu'
      rw [show c + 1 + (ops.size - m) = c + (ops.size - m) + 1 from by omega]
      refine ⟨fun h0 => ?_, fun i hi => ?_⟩
      · obtain ⟨i, h1, h2⟩ := hex
        obtain ⟨j, hj⟩ := hready i h1 h2
        rw [h0] at hj
        cases hj
      · have him := hfirst i hi
        obtain ⟨o, ho, hu, hn⟩ := ready_iff.1 hi
        have hund : l.getD i false = false := hfin i him hu
        have hneq : ∀ j, l.getD j false = true → j ≠ i := fun j hj h => by rw [h, hund] at hj; cases hj
        -- the pieces that are taken, lent, and the others
        have hmem : ∀ j, j ∈ livs m U l ↔ j < m ∧ l.getD j false = true ∧ ¬ (U j < m ∧ l.getD (U j) false = true) := fun j => by
          unfold livs
          simp only [List.mem_filter, List.mem_range, Bool.and_eq_true, Bool.not_eq_true', Bool.and_eq_false_iff, decide_eq_false_iff_not, not_and]
          constructor
          · rintro ⟨h1, h2, h3⟩
            exact ⟨h1, h2, fun h4 h5 => by rcases h3 with h3 | h3; exact h3 h4; rw [h5] at h3; cases h3⟩
          · rintro ⟨h1, h2, h3⟩
            refine ⟨h1, h2, ?_⟩
            by_cases h4 : U j < m
            · right
              have := h3 h4
              simpa using this
            · exact .inl h4
        have hnodup : (livs m U l).Nodup := List.Pairwise.filter _ List.nodup_range
        have hsub : ∀ j ∈ con i ++ len i, j ∈ livs m U l := fun j hj => by
          rw [hmem]
          rcases List.mem_append.1 hj with hj | hj
          · obtain ⟨h1, h2⟩ := hcon i him o ho j hj
            refine ⟨by have := hlow i o ho him j h1; omega, hn j h1, fun ⟨_, h4⟩ => ?_⟩
            rw [h2, hund] at h4
            cases h4
          · obtain ⟨h1, h2⟩ := hlen i him o ho j hj
            exact ⟨by have := hlow i o ho him j h1; omega, hn j h1, fun ⟨h4, _⟩ => by omega⟩
        let oth := (livs m U l).filter fun j => !(con i ++ len i).contains j
        have hperm : (livs m U l).Perm ((con i ++ len i) ++ oth) := by
          refine (List.perm_ext_iff_of_nodup hnodup ?_).2 fun j => ?_
          · refine List.nodup_append.2 ⟨hnd i him, List.Pairwise.filter _ hnodup, fun x hx y hy hxy => ?_⟩
            subst hxy
            have := (List.mem_filter.1 hy).2
            rw [List.contains_iff_mem.2 hx] at this
            cases this
          · rw [List.mem_append]
            constructor
            · intro hj
              by_cases hc : j ∈ con i ++ len i
              · exact .inl hc
              · right
                refine List.mem_filter.2 ⟨hj, ?_⟩
                have : (con i ++ len i).contains j = false := by
                  cases hb : (con i ++ len i).contains j with
                  | false => rfl
                  | true => exact absurd (List.contains_iff_mem.1 hb) hc
                rw [this]
                rfl
            · rintro (hj | hj)
              · exact hsub j hj
              · exact (List.mem_filter.1 hj).1
        have hsp2 : Sp X w0 z w' ((catR R g (con i) ++ (catR R g (len i) ++ base)) ++ catR R g oth) := by
          refine hsp.perm (((catR_perm hperm).append_right base).trans ?_)
          rw [catR_append, catR_append]
          simp only [List.append_assoc]
          exact (List.Perm.append_left _ (List.Perm.append_left _ List.perm_append_comm))
        have hs' := step i him o ho g w' (catR R g oth) hsp2.bunl a ⟨hh.defers, hh.size, fun s v hs => by
          rcases look_slotsX hs with ⟨j, h1, h2, rfl⟩ | h1
          · exact hall j (by have := hlow i o ho him j h1; omega) (hn j h1) s h2
          · exact hh.at_ s v h1⟩
        unfold wpOp
        rw [ho]
        unfold Op1 at hs'
        have hdi : o.dst = d i := by
          have := hd i him
          rw [ho] at this
          simpa using this
        have fin : ∀ a' w'', (∃ v, a' = a.put o.dst v ∧ ∃ γ, v = val i γ ∧ Sp X w0 z w'' ((R i γ ++ (catR R g (len i) ++ base)) ++ [allR (catR R g oth)])) → wpAny P .any ops Q (c + (ops.size - m)) (l.setIfInBounds i true) a' w'' := by
          rintro a' w'' ⟨v, rfl, γ, rfl, h1⟩
          have hilt : i < l.size := by omega
          have hget : ∀ j, j ≠ i → ∀ b, (l.setIfInBounds i true).getD j b = l.getD j b := fun j hj b => getD_set_ne b (Ne.symm hj)
          have hgi : ∀ b, (l.setIfInBounds i true).getD i b = true := by
            intro b
            simp [hilt]
          have hback : ∀ j, j ≠ i → (l.setIfInBounds i true).getD j false = true → l.getD j false = true := fun j hj h => by rwa [hget j hj] at h
          rw [hdi]
          refine ih _ _ w'' (by simp [hls]) ?_ ?_ ?_ ?_ ⟨fun q => if q = i then γ else g q, ?_, ?_⟩
          · intro j h3 h4
            rw [hget j (by omega)]
            exact hrest j h3 h4
          · have hnd2 : ((List.range m).filter (fun q => !l.getD q true)).Nodup := List.Pairwise.filter _ List.nodup_range
            have hmem2 : i ∈ (List.range m).filter (fun q => !l.getD q true) := by simp only [List.mem_filter, List.mem_range, Bool.not_eq_true']; exact ⟨him, hu⟩
            have heq : (List.range m).filter (fun q => !(l.setIfInBounds i true).getD q true) = ((List.range m).filter (fun q => !l.getD q true)).erase i := by
              rw [hnd2.erase_eq_filter, List.filter_filter]
              refine List.filter_congr fun q _ => ?_
              by_cases hq : q = i
              · subst hq; simp [hgi]
              · simp [hget q hq, hq]
            rw [heq, List.length_erase_of_mem hmem2, hc]
            rfl
          · intro j o' ho' hj hl' q hq
            by_cases hji : j = i
            · subst hji
              rw [ho] at ho'
              obtain rfl := Option.some.inj ho'
              have hqn : q ≠ j := by have := hlow j o ho hj q hq; omega
              rw [hget q hqn]
              exact hn q hq
            · rw [hget j hji] at hl'
              by_cases hqi : q = i
              · subst hqi; exact hgi _
              · rw [hget q hqi]
                exact hcl j o' ho' hj hl' q hq
          · cases hdi' : d i with
            | none => exact hh
            | some s0 =>
              have h3 := hh.put (hdN i s0 him hdi') (val i γ)
              refine h3.le fun s u hs => ?_
              rw [look_cons]
              by_cases hsd : s0 = s
              · subst hsd; rw [hdf i s0 him hdi'] at hs; cases hs
              · rw [if_neg hsd]; exact hs
          · intro j hj hl' s hs
            by_cases hji : j = i
            · subst hji
              simp only [if_true]
              rw [hs]
              exact (hh.put (hdN j s hj hs) (val j γ)).at_ s _ look_hit
            · simp only [if_neg hji]
              have h6 := hall j hj (hback j hji hl') s hs
              cases hdi' : d i with
              | none => exact h6
              | some s0 =>
                have hne : s0 ≠ s := fun h => hji (hdd i j s him hj (by rw [hdi', h]) hs).symm
                simp only [Act.put, Array.getElem?_setIfInBounds, if_neg hne]
                exact h6
          · -- the pieces
            have hmem' : ∀ j, j ∈ livs m U (l.setIfInBounds i true) ↔ j < m ∧ (l.setIfInBounds i true).getD j false = true ∧ ¬ (U j < m ∧ (l.setIfInBounds i true).getD (U j) false = true) := fun j => by
              unfold livs
              simp only [List.mem_filter, List.mem_range, Bool.and_eq_true, Bool.not_eq_true', Bool.and_eq_false_iff, decide_eq_false_iff_not, not_and]
              constructor
              · rintro ⟨h1, h2, h3⟩
                exact ⟨h1, h2, fun h4 h5 => by rcases h3 with h3 | h3; exact h3 h4; rw [h5] at h3; cases h3⟩
              · rintro ⟨h1, h2, h3⟩
                refine ⟨h1, h2, ?_⟩
                by_cases h4 : U j < m
                · right
                  have := h3 h4
                  simpa using this
                · exact .inl h4
            have hio : i ∉ len i ++ oth := fun hin => by
              rcases List.mem_append.1 hin with h2 | h2
              · obtain ⟨h3, _⟩ := hlen i him o ho i h2
                have := hlow i o ho him i h3
                omega
              · have := ((hmem i).1 (List.mem_filter.1 h2).1).2.1
                rw [hund] at this
                cases this
            have hp2 : (i :: (len i ++ oth)).Perm (livs m U (l.setIfInBounds i true)) := by
              refine (List.perm_ext_iff_of_nodup (List.nodup_cons.2 ⟨hio, ?_⟩) (List.Pairwise.filter _ List.nodup_range)).2 fun j => ?_
              · refine List.nodup_append.2 ⟨(List.nodup_append.1 (hnd i him)).2.1, List.Pairwise.filter _ hnodup, fun x hx y hy hxy => ?_⟩
                subst hxy
                have := (List.mem_filter.1 hy).2
                rw [List.contains_iff_mem.2 (List.mem_append_right _ hx)] at this
                cases this
              · refine Iff.trans ?_ (hmem' j).symm
                constructor
                · intro hj
                  rcases List.mem_cons.1 hj with rfl | hj
                  · refine ⟨him, hgi _, fun ⟨h3, h4⟩ => ?_⟩
                    by_cases hui : U j = j
                    · have := hU j j him him hui
                      have h5 := hlow j o ho him j (hcon j him o ho j this).1
                      omega
                    · rw [hget _ hui] at h4
                      cases ho' : ops[U j]? with
                      | none =>
                        have h6 : U j < ops.size := by omega
                        rw [Array.getElem?_eq_getElem h6] at ho'
                        cases ho'
                      | some o' =>
                        have h5 := hcl (U j) o' ho' h3 h4 j (hcon (U j) h3 o' ho' j (hU (U j) j h3 him rfl)).1
                        rw [hund] at h5
                        cases h5
                  · rcases List.mem_append.1 hj with hj | hj
                    · obtain ⟨h3, h4⟩ := hlen i him o ho j hj
                      have hlt := hlow i o ho him j h3
                      refine ⟨by omega, by rw [hget j (by omega)]; exact hn j h3, fun ⟨h5, _⟩ => by omega⟩
                    · obtain ⟨h3, h4⟩ := List.mem_filter.1 hj
                      obtain ⟨h5, h6, h7⟩ := (hmem j).1 h3
                      have hji := hneq j h6
                      refine ⟨h5, by rw [hget j hji]; exact h6, fun ⟨h8, h9⟩ => ?_⟩
                      by_cases hui : U j = i
                      · have h10 := hU i j him h5 hui
                        rw [List.contains_iff_mem.2 (List.mem_append_left _ h10)] at h4
                        cases h4
                      · rw [hget _ hui] at h9
                        exact h7 ⟨h8, h9⟩
                · rintro ⟨h3, h4, h5⟩
                  by_cases hji : j = i
                  · subst hji; exact List.mem_cons_self
                  · refine List.mem_cons_of_mem _ ?_
                    have h6 := hback j hji h4
                    have h7 : j ∈ livs m U l := (hmem j).2 ⟨h3, h6, fun ⟨h8, h9⟩ => h5 ⟨h8, by
                      by_cases hui : U j = i
                      · rw [hui]; exact hgi _
                      · rw [hget _ hui]; exact h9⟩⟩
                    have h8 := hperm.mem_iff.1 h7
                    rw [List.append_assoc] at h8
                    rcases List.mem_append.1 h8 with h9 | h9
                    · exfalso
                      have h10 := (hcon i him o ho j h9).2
                      exact h5 ⟨by omega, by rw [h10]; exact hgi _⟩
                    · exact h9
            have h2 := Sp.unbl h1
            refine h2.perm ?_
            have e1 : catR R g (len i) = catR R (fun q => if q = i then γ else g q) (len i) := catR_congr fun j hj => by
              have : j ≠ i := fun h => hio (List.mem_append_left _ (h ▸ hj))
              simp [this]
            have e2 : catR R g oth = catR R (fun q => if q = i then γ else g q) oth := catR_congr fun j hj => by
              have : j ≠ i := fun h => hio (List.mem_append_right _ (h ▸ hj))
              simp [this]
            have e3 : R i γ = R i ((fun q => if q = i then γ else g q) i) := by simp
            rw [e1, e2, e3]
            refine List.Perm.trans ?_ ((catR_perm hp2).append_right base)
            show List.Perm _ (R i _ ++ catR R _ (len i ++ oth) ++ base)
            rw [catR_append]
            simp only [List.append_assoc]
            exact List.Perm.append_left _ (List.Perm.append_left _ List.perm_append_comm)
        split at hs'
        · rename_i hwant
          simp only [hwant, if_true]
          exact hs'.imp (Oper.wp_mono fun a' w'' h => fin a' w'' h) (fun h => h)
        · rename_i hwant
          simp only [hwant, Bool.false_eq_true, if_false]
          exact fin _ _ hs'
  have hfalse : ∀ j, (Array.replicate ops.size false).getD j false ≠ true := fun j => by
    by_cases hj : j < ops.size <;> simp [hj]
  have hinit := key m (Array.replicate ops.size false) a { w with drawn := w.drawn + 1 } (by simp)
    (fun j _ hj => by simp [hj]) (by
      rw [List.filter_eq_self.2]
      · simp
      · intro i hi
        have : i < ops.size := by have := List.mem_range.1 hi; omega
        simp [this])
    (fun j o ho hj h => absurd h (hfalse j)) ha ⟨fun _ => gh0, fun i hi h => absurd h (hfalse i), by
      have : livs m U (Array.replicate ops.size false) = [] := by
        unfold livs
        rw [List.filter_eq_nil_iff]
        intro j _ h
        rw [Bool.and_eq_true] at h
        exact hfalse j h.1
      rw [this]
      exact hS.chg0 (Chg.drew w)⟩
  rw [show m + (ops.size - m) = ops.size from by omega] at hinit
  exact hinit
/-! ### the same with lists -/
def vN (vals : List (Gh → Value)) (i : Nat) : Gh → Value := vals.getD i (fun _ => undef)
def rN (Rs : List (Gh → List Res)) (i : Nat) : Gh → List Res := Rs.getD i (fun _ => [])
def drawSteps2 (P : Program) (N : Nat) (ops : Array Oper) (Q : Exit → Act → World → Prop) (X : Nat → Prop) (w0 : World) (z : Z) (base : List Res) (dst : List (Option Nat)) (f : Fr) (vals : List (Gh → Value)) (Rs : List (Gh → List Res)) (con len : List (List Nat)) : Nat → List (List Nat) → List Oper → Prop
  | _, [], _ => True
  | _, _ :: _, [] => False
  | i, ds :: r, o :: os => (∀ (g : Nat → Gh) w' fr, Sp X w0 z w' ((catR (rN Rs) g (con.getD i []) ++ (catR (rN Rs) g (len.getD i []) ++ base)) ++ [allR fr]) →
      Sv P N ops Q o (slotsX (fun i => dst.getD i none) (fun j => vN vals j (g j)) ds f) w' (fun v w'' => ∃ γ, v = vN vals i γ ∧ Sp X w0 z w'' ((rN Rs i γ ++ (catR (rN Rs) g (len.getD i []) ++ base)) ++ [allR fr]))) ∧
    drawSteps2 P N ops Q X w0 z base dst f vals Rs con len (i + 1) r os
theorem drawSteps2_at {dst : List (Option Nat)} {f : Fr} {vals : List (Gh → Value)} {Rs : List (Gh → List Res)} {con len : List (List Nat)} : ∀ {r : List (List Nat)} {os : List Oper} {i : Nat}, drawSteps2 P N ops Q X w0 z base dst f vals Rs con len i r os → ∀ (j : Nat) (ds : List Nat) (o : Oper), r[j]? = some ds → os[j]? = some o →
    (∀ (g : Nat → Gh) w' fr, Sp X w0 z w' ((catR (rN Rs) g (con.getD (i + j) []) ++ (catR (rN Rs) g (len.getD (i + j) []) ++ base)) ++ [allR fr]) →
      Sv P N ops Q o (slotsX (fun i => dst.getD i none) (fun j => vN vals j (g j)) ds f) w' (fun v w'' => ∃ γ, v = vN vals (i + j) γ ∧ Sp X w0 z w'' ((rN Rs (i + j) γ ++ (catR (rN Rs) g (len.getD (i + j) []) ++ base)) ++ [allR fr])))
  | [], _, _, _, _, _, _, h1, _ => by simp at h1
  | _ :: _, [], _, h, _, _, _, _, _ => h.elim
  | ds0 :: r, o0 :: os, i, h, 0, ds, o, h1, h2 => by
    simp at h1 h2
    subst h1
    subst h2
    exact h.1
  | ds0 :: r, o0 :: os, i, h, j + 1, ds, o, h1, h2 => by
    have := drawSteps2_at h.2 j ds o (by simpa using h1) (by simpa using h2)
    rw [show i + (j + 1) = i + 1 + j from by omega]
    exact this
/-- All the closed conditions at once. -/
def drawB2 (N n : Nat) (ops : Array Oper) (f : List Nat) (ds : List (List Nat)) (dst : List (Option Nat)) (U : List Nat) (con len : List (List Nat)) : Bool :=
  (ops.size == n) && firstB ops ds.length && (dst.length == ds.length) && ((List.range ds.length).all fun i => match ops[i]? with
    | none => false
    | some o => (o.dst == dst.getD i none) && (needs o == ds.getD i []) && (match dst.getD i none with
      | none => true
      | some s => decide (s < N) && !f.contains s) && ((con.getD i []).all fun j => (needs o).contains j && U.getD j ds.length == i) && ((len.getD i []).all fun j => (needs o).contains j && decide (ds.length ≤ U.getD j ds.length)) && decide (con.getD i [] ++ len.getD i []).Nodup) &&
  ((List.range ds.length).all fun j => (List.range ds.length).all fun i => !(U.getD j ds.length == i) || (con.getD i []).contains j) &&
  decide (dst.filterMap id).Nodup
theorem filterMap_inj : ∀ {l : List (Option Nat)} {i j s : Nat}, (l.filterMap id).Nodup → l[i]? = some (some s) → l[j]? = some (some s) → i = j
  | [], _, _, _, _, h, _ => by simp at h
  | x :: l, 0, 0, _, _, _, _ => rfl
  | x :: l, 0, j + 1, s, hn, h1, h2 => by
    simp at h1 h2
    subst h1
    simp only [List.filterMap_cons, id] at hn
    exact absurd ((List.mem_filterMap (f := id)).2 ⟨some s, List.mem_of_getElem? h2, rfl⟩) (List.nodup_cons.1 hn).1
  | x :: l, i + 1, 0, s, hn, h1, h2 => by
    simp at h1 h2
    subst h2
    simp only [List.filterMap_cons, id] at hn
    exact absurd ((List.mem_filterMap (f := id)).2 ⟨some s, List.mem_of_getElem? h1, rfl⟩) (List.nodup_cons.1 hn).1
  | x :: l, i + 1, j + 1, s, hn, h1, h2 => by
    have hn' : (l.filterMap id).Nodup := by
      cases x with
      | none => simpa using hn
      | some y => simp only [List.filterMap_cons, id] at hn; exact (List.nodup_cons.1 hn).2
    have := filterMap_inj hn' (by simpa using h1) (by simpa using h2)
    omega
theorem C_drawn2 {id : Nat} {f : Fr} (n : Nat) (ds : List (List Nat)) (dst : List (Option Nat)) (fs U : List Nat) (con len : List (List Nat)) (vals : List (Gh → Value)) (Rs : List (Gh → List Res)) (hf : f.map (·.1) = fs) (hm : P.follows .mixedOrders = true) (hB : drawB2 N n ops fs ds dst U con len = true)
    (hS : Sp X w0 z w base) (step : drawSteps2 P N ops Q X w0 z base dst f vals Rs con len 0 ds ops.toList)
    (rest : ∀ (g : Nat → Gh) w', Sp X w0 z w' (catR (rN Rs) g ((List.range ds.length).filter fun j => !decide (U.getD j ds.length < ds.length)) ++ base) → An P N ops Q (n - ds.length) (doneArr n ds.length) (slotsX (fun i => dst.getD i none) (fun j => vN vals j (g j)) (List.range ds.length) f) w') :
    C P N Q (.region id ops true) f w := by
  subst hf
  simp only [drawB2, Bool.and_eq_true, beq_iff_eq, List.all_eq_true, decide_eq_true_eq] at hB
  obtain ⟨⟨⟨⟨⟨h1, h2⟩, h3⟩, h4⟩, h5⟩, h6⟩ := hB
  have hat : ∀ i, i < ds.length → ∃ o, ops[i]? = some o ∧ o.dst = dst.getD i none ∧ needs o = ds.getD i [] ∧ (∀ s, dst.getD i none = some s → s < N ∧ look f s = none) ∧ (∀ j ∈ con.getD i [], j ∈ needs o ∧ U.getD j ds.length = i) ∧ (∀ j ∈ len.getD i [], j ∈ needs o ∧ ds.length ≤ U.getD j ds.length) ∧ (con.getD i [] ++ len.getD i []).Nodup := by
    intro i hi
    have := h4 i (List.mem_range.2 hi)
    cases ho : ops[i]? with
    | none => rw [ho] at this; cases this
    | some o =>
      rw [ho] at this
      simp only [Bool.and_eq_true, beq_iff_eq, List.all_eq_true, decide_eq_true_eq] at this
      obtain ⟨⟨⟨⟨⟨g1, g2⟩, g3⟩, g4⟩, g5⟩, g6⟩ := this
      refine ⟨o, rfl, g1, g2, fun s hs => ?_, fun j hj => ⟨List.contains_iff_mem.1 (g4 j hj).1, (g4 j hj).2⟩, fun j hj => ⟨List.contains_iff_mem.1 (g5 j hj).1, (g5 j hj).2⟩, g6⟩
      rw [hs] at g3
      simp only [Bool.and_eq_true, decide_eq_true_eq, Bool.not_eq_true'] at g3
      exact ⟨g3.1, look_none g3.2⟩
  refine C_drawS ds.length n (fun i => dst.getD i none) (vN vals) (rN Rs) (fun j => U.getD j ds.length) (fun i => con.getD i []) (fun i => len.getD i []) hm h1 h2 ?_ ?_ ?_ ?_ ?_ ?_ ?_ ?_ hS ?_ rest
  · intro i hi
    obtain ⟨o, ho, hd, _⟩ := hat i hi
    rw [ho]
    simp [hd]
  · intro i j s hi hj he he'
    have hi' : i < dst.length := by omega
    have hj' : j < dst.length := by omega
    simp only [List.getD_eq_getElem?_getD, List.getElem?_eq_getElem hi', List.getElem?_eq_getElem hj', Option.getD_some] at he he'
    exact filterMap_inj h6 (by rw [List.getElem?_eq_getElem hi', he]) (by rw [List.getElem?_eq_getElem hj', he'])
  · intro i s hi hs
    obtain ⟨o, _, _, _, h, _⟩ := hat i hi
    exact (h s hs).2
  · intro i s hi hs
    obtain ⟨o, _, _, _, h, _⟩ := hat i hi
    exact (h s hs).1
  · intro i hi o ho j hj
    obtain ⟨o', ho', _, _, _, h, _⟩ := hat i hi
    rw [ho] at ho'
    obtain rfl := Option.some.inj ho'
    exact h j hj
  · intro i hi o ho j hj
    obtain ⟨o', ho', _, _, _, _, h, _⟩ := hat i hi
    rw [ho] at ho'
    obtain rfl := Option.some.inj ho'
    exact h j hj
  · intro i hi
    obtain ⟨o', _, _, _, _, _, _, h⟩ := hat i hi
    exact h
  · intro i j hi hj hu
    have := h5 j (List.mem_range.2 hj) i (List.mem_range.2 hi)
    simp only [Bool.or_eq_true, Bool.not_eq_true', beq_eq_false_iff_ne] at this
    rcases this with h | h
    · exact absurd hu h
    · exact List.contains_iff_mem.1 h
  · intro i hi o ho g w' fr hsp
    obtain ⟨o', ho', _, hne, _⟩ := hat i hi
    rw [ho] at ho'
    obtain rfl := Option.some.inj ho'
    have := drawSteps2_at step i (ds.getD i []) o (by simp [List.getD, hi]) (by simpa using ho) g w' fr (by simpa using hsp)
    rw [hne]
    simpa using this
end
end Go.Proofs.YtcjaplaifmhajaaDoorG
