/- Memory: what is only read (a part of a heap), rows and variables of the call's own, one by one; how the world turns. -/
import Derived.Test.YtcjaplaifmhajaaDoorG1
import Derived.Laws.AppendOwn
import Derived.Maps.AppendAt
import Derived.Below
set_option linter.all false
namespace Go.Proofs.YtcjaplaifmhajaaDoorG
open Go Go.RowKit

/-! ### how the world turns -/
structure Chg (X : List Nat) (w w' : World) : Prop where
  os : w'.os = w.os
  tape : w'.tape = w.tape
  output : w'.output = w.output
  size : w.heap.size ≤ w'.heap.size
  block : ∀ k, k < w.heap.size → k ∉ X → w'.heap[k]? = w.heap[k]?
theorem Chg.refl (X : List Nat) (w : World) : Chg X w w := ⟨rfl, rfl, rfl, Nat.le_refl _, fun _ _ _ => rfl⟩
theorem Chg.trans {X Y : List Nat} {a b c : World} (h : Chg X a b) (k : Chg Y b c) : Chg (X ++ Y) a c :=
  ⟨k.os.trans h.os, k.tape.trans h.tape, k.output.trans h.output, Nat.le_trans h.size k.size, fun i hi hn => by
    rw [List.mem_append, not_or] at hn
    exact (k.block i (Nat.lt_of_lt_of_le hi h.size) hn.2).trans (h.block i hi hn.1)⟩
theorem Chg.mono {X Y : List Nat} {a b : World} (h : Chg X a b) (hs : ∀ k ∈ X, k ∈ Y ∨ a.heap.size ≤ k) : Chg Y a b :=
  ⟨h.os, h.tape, h.output, h.size, fun i hi hn => h.block i hi fun hx => (hs i hx).elim hn (fun _ => by omega)⟩
/-- Only what is named, and what is new, has turned. -/
theorem Chg.then {X Y : List Nat} {a b c : World} (h : Chg X a b) (k : Chg Y b c) (hs : ∀ i ∈ Y, i ∈ X ∨ a.heap.size ≤ i) : Chg X a c :=
  (h.trans k).mono fun i hi => by
    rcases List.mem_append.1 hi with h1 | h1
    · exact .inl h1
    · exact hs i h1
theorem Chg.below {w w' : World} (h : Chg [] w w') : Below w.heap.size w w' := ⟨h.os, h.tape, h.output, h.size, fun k hk => h.block k hk (by simp)⟩
theorem Chg.alloc (w : World) (o : Obj) : Chg [] w (w.alloc o) := ⟨rfl, rfl, rfl, by simp, fun k hk _ => Below.heap_alloc _ _ _ hk⟩
theorem Chg.drew (w : World) : Chg [] w { w with drawn := w.drawn + 1 } := ⟨rfl, rfl, rfl, Nat.le_refl _, fun _ _ _ => rfl⟩
theorem Chg.setCell (w : World) (a : Addr) (v : Value) : Chg [a.block] w (w.setCell a v) :=
  ⟨rfl, rfl, rfl, by simp [World.setCell], fun k _ hn => Below.heap_setCell _ _ _ _ (by simpa using hn)⟩
theorem Chg.grown {w w' : World} {r : Option Nat} (h : w.grownBy w' r) : Chg r.toList w w' := ⟨h.os, h.tape, h.output, h.size, fun k hk hn => h.block k hk (by
  rintro rfl
  simp at hn)⟩

/-! ### a part of a heap -/
abbrev Z := Nat → Option (Array Value)
def cellsAt (w : World) (b : Nat) : Option (Array Value) := match w.heap[b]? with
  | some (.cells c _ _) => some c
  | _ => none
def zE : Z := fun _ => none
def Sub (z : Z) (w : World) : Prop := ∀ b c, z b = some c → cellsAt w b = some c
def zle (z z' : Z) : Prop := ∀ b c, z b = some c → z' b = some c
def zor (z z' : Z) : Z := fun b => (z b).or (z' b)
def cz (z : Z) (a : Addr) : Option Value := if a.spot.isSome then none else (z a.block).bind (fun c => c[a.off]?)
theorem zle.refl (z : Z) : zle z z := fun _ _ h => h
theorem zle.trans {a b c : Z} (h : zle a b) (k : zle b c) : zle a c := fun i x hx => k i x (h i x hx)
theorem zle_E (z : Z) : zle zE z := fun _ _ h => by simp [zE] at h
theorem zle_or (z z' : Z) : zle z (zor z z') := fun _ _ h => by simp [zor, h]
theorem zle_or' {z z' : Z} (h : ∀ b, z' b ≠ none → z b = none) : zle z' (zor z z') := fun b c hc => by
  have := h b (by rw [hc]; simp)
  simp [zor, this, hc]
theorem cz_mono {z z' : Z} (h : zle z z') {a : Addr} {v : Value} (hc : cz z a = some v) : cz z' a = some v := by
  unfold cz at *
  split at hc
  · cases hc
  · rename_i hs
    rw [if_neg hs]
    cases hz : z a.block with
    | none => rw [hz] at hc; cases hc
    | some c => rw [hz] at hc; rw [h _ _ hz]; exact hc
theorem cell_of {w : World} {a : Addr} {c : Array Value} {v : Value} (hs : a.spot.isSome = false) (hb : cellsAt w a.block = some c) (hv : c[a.off]? = some v) : w.cell? a = some v := by
  unfold cellsAt at hb
  unfold World.cell?
  split at hb
  · rename_i c' e fr hh
    obtain rfl := Option.some.inj hb
    rw [hh]
    simp [hs, hv]
  · cases hb
theorem Sub.cell {z : Z} {w : World} (h : Sub z w) {a : Addr} {v : Value} (hc : cz z a = some v) : w.cell? a = some v := by
  unfold cz at hc
  split at hc
  · cases hc
  · rename_i hs
    cases hz : z a.block with
    | none => rw [hz] at hc; cases hc
    | some c => rw [hz] at hc; exact cell_of (by simpa using hs) (h _ _ hz) hc
theorem Sub.self (w : World) : Sub (cellsAt w) w := fun _ _ h => h
theorem Sub.lt {z : Z} {w : World} (h : Sub z w) {b : Nat} (hb : z b ≠ none) : b < w.heap.size := by
  cases hz : z b with
  | none => exact absurd hz hb
  | some c =>
    have := h b c hz
    unfold cellsAt at this
    split at this
    · rename_i hh; exact (Array.getElem?_eq_some_iff.1 hh).1
    · cases this
theorem cellsAt_congr {w w' : World} {b : Nat} (h : w'.heap[b]? = w.heap[b]?) : cellsAt w' b = cellsAt w b := by simp [cellsAt, h]
theorem Sub.chg {z : Z} {X : List Nat} {w w' : World} (h : Sub z w) (hc : Chg X w w') (hX : ∀ k ∈ X, z k = none) : Sub z w' := fun b c hz => by
  rw [cellsAt_congr (hc.block b (h.lt (by rw [hz]; simp)) (fun hm => by rw [hX b hm] at hz; cases hz))]
  exact h b c hz
theorem Sub.chg0 {z : Z} {w w' : World} (h : Sub z w) (hc : Chg [] w w') : Sub z w' := h.chg hc (by simp)
theorem Sub.or {z z' : Z} {w : World} (h : Sub z w) (h' : Sub z' w) : Sub (zor z z') w := fun b c hz => by
  unfold zor at hz
  cases hb : z b with
  | none => rw [hb] at hz; exact h' b c (by simpa using hz)
  | some d => rw [hb] at hz; simp at hz; subst hz; exact h b d hb
theorem Sub.E (w : World) : Sub zE w := fun _ _ h => by simp [zE] at h

/-! ### kinds -/
structure Kd (α : Type) where
  sz : Nat
  K : Z → α → List Value → Prop
  mono : ∀ {z z' x cs}, zle z z' → K z x cs → K z' x cs
  len : ∀ {z x cs}, K z x cs → cs.length = sz
  one : ∀ {z x cs}, K z x cs → ∀ u ∈ cs, u.oneCell' = true
def flat {α : Type} (n : Nat) (enc : α → List Value) (hl : ∀ x, (enc x).length = n) (h1 : ∀ x, ∀ u ∈ enc x, u.oneCell' = true) : Kd α where
  sz := n
  K := fun _ x cs => cs = enc x
  mono := fun _ h => h
  len := fun h => by rw [h]; exact hl _
  one := fun h => by rw [h]; exact h1 _
theorem one1 {v : Value} (h : v.oneCell' = true) : ∀ u ∈ [v], u.oneCell' = true := fun u hu => by rw [List.mem_singleton.1 hu]; exact h
def kint (k : IntKind) : Kd Int := flat 1 (fun n => [.int k n]) (fun _ => rfl) (fun _ => one1 rfl)
def kbool : Kd Bool := flat 1 (fun b => [.bool b]) (fun _ => rfl) (fun _ => one1 rfl)
/-- A string is told as its bytes. -/
abbrev St := List UInt8
abbrev vstr (s : St) : Value := .string ⟨s.toArray⟩
def kstr : Kd St := flat 1 (fun s => [vstr s]) (fun _ => rfl) (fun _ => one1 rfl)
/-- A row that is read. -/
def Rd {α : Type} (d : Kd α) (z : Z) (A : Option Addr) (xs : List α) : Prop :=
  ∀ i x, xs[i]? = some x → ∃ a cs, A = some a ∧ d.K z x cs ∧ ∀ j u, cs[j]? = some u → cz z (a.add (i * d.sz + j)) = some u
theorem Rd.mono {α : Type} {d : Kd α} {z z' : Z} {A : Option Addr} {xs : List α} (h : Rd d z A xs) (hz : zle z z') : Rd d z' A xs := fun i x hx => by
  obtain ⟨a, cs, h1, h2, h3⟩ := h i x hx
  exact ⟨a, cs, h1, d.mono hz h2, fun j u hu => cz_mono hz (h3 j u hu)⟩
theorem Rd.nil {α : Type} (d : Kd α) (z : Z) (A : Option Addr) : Rd d z A [] := fun i x hx => by simp at hx
theorem add_add (a : Addr) (m n : Nat) : (a.add m).add n = a.add (m + n) := by
  unfold Addr.add
  by_cases hm : m = 0
  · subst hm; simp
  · by_cases hn : n = 0
    · subst hn; simp [hm]
    · simp [hm, hn]; omega
theorem add_at (g n : Nat) : (⟨g, 0, none⟩ : Addr).add n = ⟨g, n, none⟩ := by
  unfold Addr.add
  by_cases h : n = 0
  · subst h; rfl
  · simp [h]
theorem add_zero (a : Addr) : a.add 0 = a := by simp [Addr.add]
theorem Rd.cut {α : Type} {d : Kd α} {z : Z} {A : Option Addr} {xs : List α} (h : Rd d z A xs) (lo hi : Nat) : Rd d z (A.map (·.add (lo * d.sz))) ((xs.take hi).drop lo) := fun i x hx => by
  rw [List.getElem?_drop, List.getElem?_take] at hx
  split at hx
  · obtain ⟨a, cs, h1, h2, h3⟩ := h (lo + i) x hx
    refine ⟨a.add (lo * d.sz), cs, by rw [h1]; rfl, h2, fun j u hu => ?_⟩
    rw [add_add, ← h3 j u hu, Nat.add_mul]
    congr 2
    omega
  · cases hx
theorem cut_nil {α : Type} {xs : List α} {lo hi : Nat} (h : hi ≤ lo) : (xs.take hi).drop lo = [] := List.drop_eq_nil_of_le (by rw [List.length_take]; omega)
/-- A slice's length and capacity. -/
structure Cap (A : Option Addr) (n c : Nat) : Prop where
  le : n ≤ c
  nil : A = none → c = 0
  mx : c ≤ 9223372036854775807
def kslice {α : Type} (d : Kd α) : Kd (List α) where
  sz := 1
  K := fun z xs cs => ∃ A c, cs = [.slice A xs.length c] ∧ Cap A xs.length c ∧ Rd d z A xs
  mono := by
    rintro z z' xs cs hz ⟨A, c, h1, h2, h3⟩
    exact ⟨A, c, h1, h2, h3.mono hz⟩
  len := by
    rintro z x cs ⟨A, c, rfl, _⟩
    rfl
  one := by
    rintro z x cs ⟨A, c, rfl, _⟩
    exact one1 rfl
/-- An element's cells. -/
theorem Rd.at_ {α : Type} {d : Kd α} {z : Z} {A : Option Addr} {xs : List α} (h : Rd d z A xs) (df : α) {i : Int} (h0 : 0 ≤ i) (h1 : i < xs.length) :
    ∃ a cs, A = some a ∧ d.K z (xs.getD i.toNat df) cs ∧ ∀ j u, cs[j]? = some u → cz z (a.add (i.toNat * d.sz + j)) = some u := by
  have hi : i.toNat < xs.length := by omega
  have : xs[i.toNat]? = some (xs.getD i.toNat df) := by simp [List.getD, List.getElem?_eq_getElem hi]
  exact h _ _ this

/-! ### rows of the call's own -/
def Reps {α : Type} (d : Kd α) (z : Z) : List α → List Value → Prop
  | [], cs => cs = []
  | x :: xs, cs => ∃ c r, cs = c ++ r ∧ d.K z x c ∧ Reps d z xs r
theorem Reps.len {α : Type} {d : Kd α} {z : Z} : ∀ {xs : List α} {cs : List Value}, Reps d z xs cs → cs.length = xs.length * d.sz
  | [], cs, h => by simp [Reps] at h; simp [h]
  | x :: xs, cs, h => by
    obtain ⟨c, r, rfl, h1, h2⟩ := h
    rw [List.length_append, d.len h1, h2.len, List.length_cons, Nat.add_mul]
    omega
theorem Reps.mono {α : Type} {d : Kd α} {z z' : Z} (hz : zle z z') : ∀ {xs : List α} {cs : List Value}, Reps d z xs cs → Reps d z' xs cs
  | [], cs, h => h
  | x :: xs, cs, h => by
    obtain ⟨c, r, rfl, h1, h2⟩ := h
    exact ⟨c, r, rfl, d.mono hz h1, h2.mono hz⟩
theorem Reps.append {α : Type} {d : Kd α} {z : Z} : ∀ {xs ys : List α} {cs cs' : List Value}, Reps d z xs cs → Reps d z ys cs' → Reps d z (xs ++ ys) (cs ++ cs')
  | [], ys, cs, cs', h, h' => by simp [Reps] at h; subst h; simpa using h'
  | x :: xs, ys, cs, cs', h, h' => by
    obtain ⟨c, r, rfl, h1, h2⟩ := h
    exact ⟨c, r ++ cs', by simp, h1, h2.append h'⟩
theorem Reps.one {α : Type} {d : Kd α} {z : Z} : ∀ {xs : List α} {cs : List Value}, Reps d z xs cs → ∀ u ∈ cs, u.oneCell' = true
  | [], cs, h => by simp [Reps] at h; subst h; simp
  | x :: xs, cs, h => by
    obtain ⟨c, r, rfl, h1, h2⟩ := h
    intro u hu
    rcases List.mem_append.1 hu with hu | hu
    · exact d.one h1 u hu
    · exact h2.one u hu
theorem Reps.get {α : Type} {d : Kd α} {z : Z} : ∀ {xs : List α} {cs : List Value} {i : Nat} {x : α}, Reps d z xs cs → xs[i]? = some x → ∃ c, d.K z x c ∧ ∀ j u, c[j]? = some u → cs[i * d.sz + j]? = some u
  | [], cs, i, x, h, hx => by simp at hx
  | y :: xs, cs, 0, x, h, hx => by
    obtain ⟨c, r, rfl, h1, h2⟩ := h
    simp at hx
    subst hx
    refine ⟨c, h1, fun j u hu => ?_⟩
    rw [Nat.zero_mul, Nat.zero_add, List.getElem?_append_left (List.getElem?_eq_some_iff.1 hu).1]
    exact hu
  | y :: xs, cs, i + 1, x, h, hx => by
    obtain ⟨c, r, rfl, h1, h2⟩ := h
    simp at hx
    obtain ⟨c', h3, h4⟩ := h2.get hx
    refine ⟨c', h3, fun j u hu => ?_⟩
    have hl := d.len h1
    rw [List.getElem?_append_right (by rw [hl, Nat.add_mul]; omega), hl, show (i + 1) * d.sz + j - d.sz = i * d.sz + j from by rw [Nat.add_mul]; omega]
    exact h4 j u hu
/-- A row of the call's own: blocks from B on. -/
def Own {α : Type} (d : Kd α) (e : TypeId) (B : Nat) (z : Z) (w : World) (A : Option Addr) (c : Nat) (xs : List α) : Prop :=
  ∃ inner, w.ownsRow B e d.sz (.slice A xs.length c) xs.length inner ∧ Reps d z xs inner
/-- The block of a row. -/
def blk (A : Option Addr) : List Nat := (A.map (·.block)).toList
section
variable {α : Type} {d : Kd α} {e : TypeId} {B : Nat} {z z' : Z} {w w' : World} {A : Option Addr} {c : Nat} {xs : List α}
theorem Own.cap (h : Own d e B z w A c xs) : Cap A xs.length c := by
  obtain ⟨inner, ⟨h1, h2⟩, _⟩ := h
  rcases h2 with ⟨he, hn⟩ | ⟨g, cap, cur, he, _, _, hc, hm, _⟩
  · injection he with h1 _ h3; exact ⟨by omega, fun _ => h3, by omega⟩
  · injection he with h1 _ h3; exact ⟨by omega, fun h => (by rw [h] at h1; cases h1), by simp only [maxLen] at hm; omega⟩
theorem Own.mono (h : Own d e B z w A c xs) (hz : zle z z') : Own d e B z' w A c xs := by
  obtain ⟨inner, h1, h2⟩ := h
  exact ⟨inner, h1, h2.mono hz⟩
theorem Own.lower {B' : Nat} (h : Own d e B z w A c xs) (hB : B' ≤ B) : Own d e B' z w A c xs := by
  obtain ⟨inner, ⟨h1, h2⟩, h3⟩ := h
  refine ⟨inner, ⟨h1, ?_⟩, h3⟩
  rcases h2 with h2 | ⟨g, cap, cur, he, hg, r⟩
  · exact .inl h2
  · exact .inr ⟨g, cap, cur, he, by omega, r⟩
theorem Own.base (h : Own d e B z w A c xs) : ∀ k ∈ blk A, B ≤ k := by
  obtain ⟨inner, ⟨h1, h2⟩, h3⟩ := h
  rcases h2 with ⟨he, hn⟩ | ⟨g, cap, cur, he, hg, r⟩
  · injection he with h4; subst h4; simp [blk]
  · injection he with h4; subst h4; simp [blk]; exact hg
theorem Own.lt (h : Own d e B z w A c xs) : ∀ k ∈ blk A, k < w.heap.size := by
  obtain ⟨inner, ⟨h1, h2⟩, h3⟩ := h
  rcases h2 with ⟨he, hn⟩ | ⟨g, cap, cur, he, hg, hh, r⟩
  · injection he with h4; subst h4; simp [blk]
  · injection he with h4; subst h4; simp [blk]; exact (Array.getElem?_eq_some_iff.1 hh).1
theorem Own.chg {X : List Nat} (h : Own d e B z w A c xs) (hc : Chg X w w') (hX : ∀ k ∈ blk A, k ∉ X) : Own d e B z w' A c xs := by
  have hlt := h.lt
  obtain ⟨inner, ⟨h1, h2⟩, h3⟩ := h
  refine ⟨inner, ⟨h1, ?_⟩, h3⟩
  rcases h2 with h2 | ⟨g, cap, cur, he, hg, hh, r⟩
  · exact .inl h2
  · refine .inr ⟨g, cap, cur, he, hg, ?_, r⟩
    injection he with h4
    subst h4
    rw [hc.block g (hlt g (by simp [blk])) (hX g (by simp [blk]))]
    exact hh
theorem Own.chg0 (h : Own d e B z w A c xs) (hc : Chg [] w w') : Own d e B z w' A c xs := h.chg hc (by simp)
theorem Own.nil (d : Kd α) (e : TypeId) (B : Nat) (z : Z) (w : World) : Own d e B z w none 0 [] := ⟨[], ⟨by simp, .inl ⟨rfl, rfl⟩⟩, rfl⟩
/-- The part of the heap that a row of the call's own is. -/
def zAt (w : World) (A : Option Addr) : Z := fun b => if b ∈ blk A then cellsAt w b else none
theorem zAt_none (hz : ∀ k ∈ blk A, z k = none) : ∀ b, zAt w A b ≠ none → z b = none := fun b hb => by
  unfold zAt at hb
  split at hb
  · exact hz b ‹_›
  · exact absurd rfl hb
theorem Sub.at_ (w : World) (A : Option Addr) : Sub (zAt w A) w := fun b c h => by
  unfold zAt at h
  split at h
  · exact h
  · cases h
/-- A row of the call's own, as one that is read. -/
theorem Own.lend (h : Own d e B z w A c xs) (hs : Sub z w) (hz : ∀ k ∈ blk A, z k = none) : Sub (zor z (zAt w A)) w ∧ zle z (zor z (zAt w A)) ∧ Rd d (zor z (zAt w A)) A xs := by
  refine ⟨hs.or (Sub.at_ w A), zle_or _ _, fun i x hx => ?_⟩
  obtain ⟨inner, ⟨h1, h2⟩, h3⟩ := h
  obtain ⟨cs, h4, h5⟩ := h3.get hx
  have hlt : i < xs.length := (List.getElem?_eq_some_iff.1 hx).1
  rcases h2 with ⟨he, hn⟩ | ⟨g, cap, cur, he, hg, hh, hcap, hmax, hsz, htk⟩
  · omega
  · injection he with h6 h7 h8
    subst h6
    refine ⟨_, cs, rfl, d.mono (zle_or _ _) h4, fun j u hu => ?_⟩
    have h9 := h5 j u hu
    have hzg : z g = none := hz g (by simp [blk])
    have hz' : zor z (zAt w (some ⟨g, 0, none⟩)) g = some cur := by simp [zor, hzg, zAt, blk, cellsAt, hh]
    have hget : cur[i * d.sz + j]? = some u := by
      rw [← htk, List.getElem?_take] at h9
      split at h9
      · simpa using h9
      · cases h9
    rw [add_at]
    unfold cz
    simp [hz', hget]
/-- A row that will not be written any more becomes one that is read. -/
theorem Own.freeze (h : Own d e B z w A c xs) (hs : Sub z w) (hz : ∀ k ∈ blk A, z k = none) : ∃ z', Sub z' w ∧ zle z z' ∧ Rd d z' A xs ∧ ∀ b, b ∉ blk A → z' b = z b := by
  obtain ⟨h1, h2, h3⟩ := h.lend hs hz
  refine ⟨_, h1, h2, h3, fun b hb => ?_⟩
  simp [zor, zAt, hb]
theorem not_mem_of_z {k : Nat} (hz : z k ≠ none) (hA : ∀ k ∈ blk A, z k = none) : k ∉ blk A := fun h => hz (hA k h)
end
theorem heap_new (w : World) (o : Obj) : (w.alloc o).heap[w.heap.size]? = some o := by
  show (w.heap.push o)[w.heap.size]? = some o
  simp
/-- A new row, its cells at hand. -/
theorem Own.new {α : Type} {d : Kd α} {e : TypeId} {z : Z} {w : World} {xs : List α} {cs : List Value} (hr : Reps d z xs cs) (hl : xs.length ≤ maxLen) (B : Nat) (hB : B ≤ w.heap.size) :
    Own d e B z (w.alloc (.cells cs.toArray e)) (some ⟨w.heap.size, 0, none⟩) xs.length xs := by
  have h1 := hr.len
  exact ⟨cs, ⟨h1, .inr ⟨w.heap.size, xs.length, cs.toArray, rfl, hB, heap_new w _, Nat.le_refl _, hl, by simpa using h1, by simp [← h1]⟩⟩, hr⟩
theorem blk_new (w : World) : ∀ k ∈ blk (some ⟨w.heap.size, 0, none⟩), w.heap.size ≤ k := by simp [blk]

/-! ### variables in memory -/
/-- A variable's block. -/
def Box (w : World) (b : Nat) (T : TypeId) (cs : List Value) : Prop := w.heap[b]? = some (.cells cs.toArray T (0, 0))
theorem Box.lt {w : World} {b : Nat} {T : TypeId} {cs : List Value} (h : Box w b T cs) : b < w.heap.size := (Array.getElem?_eq_some_iff.1 h).1
theorem Box.chg {w w' : World} {b : Nat} {T : TypeId} {cs : List Value} {X : List Nat} (h : Box w b T cs) (hc : Chg X w w') (hX : b ∉ X) : Box w' b T cs := by
  unfold Box
  rw [hc.block b h.lt hX]
  exact h
theorem Box.chg0 {w w' : World} {b : Nat} {T : TypeId} {cs : List Value} (h : Box w b T cs) (hc : Chg [] w w') : Box w' b T cs := h.chg hc (by simp)
theorem Box.new (w : World) (T : TypeId) (cs : List Value) : Box (w.alloc (.cells cs.toArray T)) w.heap.size T cs := heap_new w _
theorem Box.cell {w : World} {b : Nat} {T : TypeId} {cs : List Value} (h : Box w b T cs) {j : Nat} {v : Value} (hv : cs[j]? = some v) : w.cell? ⟨b, j, none⟩ = some v := by
  unfold Box at h
  simp [World.cell?, h, hv]
theorem Box.frozen {w : World} {b : Nat} {T : TypeId} {cs : List Value} (h : Box w b T cs) (j : Nat) : w.frozen? ⟨b, j, none⟩ = false := by
  unfold Box at h
  simp [World.frozen?, h]
theorem Box.set {w : World} {b : Nat} {T : TypeId} {cs : List Value} (h : Box w b T cs) (j : Nat) (v : Value) : Box (w.setCell ⟨b, j, none⟩ v) b T (cs.set j v) := by
  unfold Box at *
  simp [World.setCell, Array.getElem?_modify, h]
end Go.Proofs.YtcjaplaifmhajaaDoorG
