import Derived.Test.YtcjaplaifmhajaaDoorQL
import Derived.Test.YtcjaplaifmhajaaDoorQuS
import Derived.Deep.LoopGhost
set_option linter.all false
namespace Go.Proofs.YtcjaplaifmhajaaDoorG
open Go Go.Shelf Go.RowKit Go.Proofs
theorem own_keep {w w' : World} {B : Nat} {e : TypeId} {v : Value} {n : Nat} {xs : List Value} (h : w.ownsRow B e 1 v n xs) (hk : ∀ k, B ≤ k → k < w.heap.size → w'.heap[k]? = w.heap[k]?) : w'.ownsRow B e 1 v n xs := by
  obtain ⟨h1, h2⟩ := h
  refine ⟨h1, ?_⟩
  rcases h2 with h2 | ⟨g, cap, cur, he, hg, hh, r⟩
  · exact .inl h2
  · exact .inr ⟨g, cap, cur, he, hg, (hk g hg (Array.getElem?_eq_some_iff.1 hh).1).trans hh, r⟩
theorem bld_keep {T e : TypeId} {B b : Nat} {bs : List Value} {w w' : World} (h : Lib.IsBuilder T e B b bs w) (hk : ∀ k, B ≤ k → k < w.heap.size → w'.heap[k]? = w.heap[k]?) : Lib.IsBuilder T e B b bs w' := by
  have key : ∀ p, Lib.BuilderAt T e B b p bs w → Lib.BuilderAt T e B b p bs w' := fun p ⟨hB, v, hb, ho, hn⟩ => ⟨hB, v, (hk b hB (Array.getElem?_eq_some_iff.1 hb).1).trans hb, own_keep ho hk, hn⟩
  exact h.imp (key _) (key _)
def MaxL (w : World) : Prop := ∃ m, w.cell? ⟨rho.g 1, 0, none⟩ = some (.int .i64 m)
theorem wstr (B b : Nat) (bs : List Value) (t : St) (w : World) (h : Lib.IsBuilder 53 5 B b bs w) (hlen : bs.length + t.length ≤ 140737488355328) (hBw : B ≤ w.heap.size) :
    Calls Tryd.prog 30 #[.pointer (some ⟨b, 0, none⟩), vstr t] w fun e w' => e = .returned (.tuple #[.int .i64 t.length, .nilIface]) ∧ (Lib.IsBuilder 53 5 B b (bs ++ Lib.byteCells t) w' ∧ Below B w w') := by
  have hsz : (⟨t.toArray⟩ : ByteArray).size = t.length := by simp [ByteArray.size]
  have := Any.Builder_WriteString { lays155 with } bextra B b bs ⟨t.toArray⟩ w h (by rw [hsz]; exact hlen) hBw
  rw [hsz] at this
  exact Calls.mono this fun e w' ⟨h1, h2, h3⟩ => ⟨h1, .inr h2, h3⟩
theorem bstr (B b : Nat) (t : St) (w : World) (h : Lib.IsBuilder 53 5 B b (Lib.byteCells t) w) (hBw : B ≤ w.heap.size) :
    Calls Tryd.prog 31 #[.pointer (some ⟨b, 0, none⟩)] w fun e w' => e = .returned (vstr t) ∧ Below B w w' := Any.Builder_String_any { lays155 with } bextra B b t w h hBw
theorem bcl (t : St) : (Lib.byteCells t).length = t.length := Lib.byteCells_length t
set_option maxHeartbeats 8000000 in
set_option maxRecDepth 1000000 in
theorem joined_s (f : St → St) (bt bh : St) (w : World) (l : List St) (A : Option Addr) (c : Nat) (K : World → Prop) (hK : ∀ w', Below w.heap.size w w' → K w')
    (hF : ∀ t w, t ∈ l → K w → Calls Tryd.prog 10 #[vstr t] w fun e w' => e = .returned (vstr (f t)) ∧ Below w.heap.size w w')
    (hcell : ∀ i x, l[i]? = some x → ∃ b o, A = some ⟨b, o, none⟩ ∧ b < w.heap.size ∧ w.cell? ⟨b, o + i, none⟩ = some (vstr x)) (hl : l.length ≤ 1000000) (hb : (pieces bt bh f l).length ≤ 70368744177664) :
    Calls Tryd.prog 24 #[.slice A l.length c, vstr bt, vstr bh, .func (.func 10) #[] #[]] w fun e w' => e = .returned (vstr (pieces bt bh f l)) ∧ Below w.heap.size w w' := by
  go_enter Tryd.func24, Tryd.ntmps24
  go_wp2_with fail
  go_loopg [14] l.length (fun g v14 wx => ∃ i : Nat, i + g = l.length ∧ v14 = .int .i64 i ∧ Lib.IsBuilder 53 5 w.heap.size w.heap.size (Lib.byteCells (pieces bt bh f (l.take i))) wx ∧ Below w.heap.size w wx)
  case atStart => exact ⟨0, by omega, rfl, Lib.fresh_isBuilder 53 5 w, (Below.refl _ w).alloc (Nat.le_refl _) _⟩
  case round =>
    obtain ⟨i, hig, rfl, hI, hbw⟩ := hrel
    have hsz0 := hbw.size
    cases gk with
    | zero =>
      obtain rfl : i = l.length := by omega
      rw [List.take_length] at hI
      go_wp2_with (go_at_call 31; refine (bstr _ _ _ _ hI hsz0).mono ?_)
      rintro e w1 ⟨rfl, hb1⟩
      go_wp2
      go_ret
      exact ⟨rfl, hbw.trans hb1⟩
    | succ g =>
      have hi : i < l.length := by omega
      obtain ⟨x, hx⟩ : ∃ x, l[i]? = some x := ⟨_, List.getElem?_eq_getElem hi⟩
      obtain ⟨bk, o, rfl, hbk, hc0⟩ := hcell i x hx
      have hc1 : wr.cell? ⟨bk, o + i, none⟩ = some (vstr x) := by rw [hbw.cell hbk]; exact hc0
      have hmem : x ∈ l := List.mem_of_getElem? hx
      have htk := pieces_take bt bh f l i x hx
      have hle := pieces_take_le bt bh f l (i + 1)
      rw [htk] at hle
      simp only [List.length_append] at hle
      have hcat : (⟨(f x).toArray⟩ : ByteArray) ++ ⟨bh.toArray⟩ = ⟨(f x ++ bh).toArray⟩ := by simp [ByteArray.append, ByteArray.ext_iff]
      have hilt : (i : Int) < (l.length : Int) := by omega
      by_cases h0 : i = 0
      · subst h0
        simp only [Nat.add_zero] at hc1
        go_wp2_with (go_at_call 10; refine (hF x _ hmem (hK _ hbw)).mono ?_)
        rintro e w1 rfl b1
        have hI1 := bld_keep hI (w' := w1) fun k _ hk => b1.block k hk
        have hs1 := b1.size
        go_wp2_with (go_at_call 30; refine (wstr w.heap.size w.heap.size _ (f x ++ bh) _ hI1 (by rw [bcl]; simp only [List.length_append]; omega) (by omega)).mono ?_)
        rintro e w2 ⟨rfl, hI2, b2⟩
        go_wp2
        go_roundg g
        case measure => omega
        case rel => exact ⟨0 + 1, by omega, rfl, by rw [htk, Lib.byteCells_append]; exact hI2, hbw.trans ((b1.mono hsz0).trans b2)⟩
      · have hgt : (0 : Int) < (i : Int) := by omega
        rw [if_neg h0] at htk hle
        go_wp2_with (go_at_call 30; refine (wstr w.heap.size w.heap.size _ bt _ hI (by rw [bcl]; omega) hsz0).mono ?_)
        rintro e w0 ⟨rfl, hI0, b0⟩
        have hs0 := b0.size
        go_wp2_with (go_at_call 10; refine (hF x _ hmem (hK _ (hbw.trans b0))).mono ?_)
        rintro e w1 ⟨rfl, b1⟩
        have hI1 := bld_keep hI0 (w' := w1) fun k _ hk => b1.block k hk
        have hs1 := b1.size
        rw [← Lib.byteCells_append] at hI1
        go_wp2_with (go_at_call 30; refine (wstr w.heap.size w.heap.size _ (f x ++ bh) _ hI1 (by rw [bcl]; simp only [List.length_append]; omega) (by omega)).mono ?_)
        rintro e w2 ⟨rfl, hI2, b2⟩
        go_wp2
        go_roundg g
        case measure => omega
        case rel => exact ⟨i + 1, by omega, rfl, by rw [htk, ← List.append_assoc, Lib.byteCells_append]; exact hI2, hbw.trans (b0.trans ((b1.mono (by omega)).trans b2))⟩
theorem chp_below {Y : Nat → Prop} {a b c : World} (h : Chp Y a b) (k : Below a.heap.size b c) : Chp Y a c :=
  ⟨k.os.trans h.os, k.tape.trans h.tape, k.output.trans h.output, Nat.le_trans h.size k.size, fun i hi hn => (k.block i hi).trans (h.block i hi hn)⟩
theorem chp_chp {Y : Nat → Prop} {a b c : World} (h : Chp Y a b) (k : Chp Y b c) : Chp Y a c := h.trans k fun _ hi => .inl hi
theorem box_keep {w w' : World} {b : Nat} {T : TypeId} {cs : List Value} (h : Box w b T cs) (hk : w'.heap[b]? = w.heap[b]?) : Box w' b T cs := hk.trans h
set_option maxHeartbeats 8000000 in
set_option maxRecDepth 1000000 in
theorem joined_r (f : List St → St) (bt bh : St) (w : World) (l : List (List St)) (A : Option Addr) (c : Nat) (bf : Nat) (fine : Bool) (hbf : Box w bf 4 [.bool fine])
    (hcell : ∀ i xs, l[i]? = some xs → ∃ b o A' c', A = some ⟨b, o, none⟩ ∧ b < w.heap.size ∧ b ≠ bf ∧ w.cell? ⟨b, o + i, none⟩ = some (.slice A' xs.length c') ∧
      ∀ b' w', Chp (· = bf) w w' → Box w' bf 4 [.bool b'] → Calls Tryd.prog 23 #[.slice A' xs.length c', .pointer (some ⟨bf, 0, none⟩)] w' fun e w'' => e = .returned (vstr (f xs)) ∧ Box w'' bf 4 [.bool (b' && decide (0 < xs.length))] ∧ Chp (· = bf) w' w'')
    (hl : l.length ≤ 1000000) (hb : (pieces bt bh f l).length ≤ 70368744177664) :
    Calls Tryd.prog 22 #[.slice A l.length c, vstr bt, vstr bh, .func (.func 23) #[] #[.pointer (some ⟨bf, 0, none⟩)]] w fun e w' => e = .returned (vstr (pieces bt bh f l)) ∧ Box w' bf 4 [.bool (fine && l.all fun xs => decide (0 < xs.length))] ∧ Chp (· = bf) w w' := by
  have hbl : bf < w.heap.size := hbf.lt
  go_enter Tryd.func22, Tryd.ntmps22
  go_wp2_with fail
  go_loopg [14] l.length (fun g v14 wx => ∃ i : Nat, i + g = l.length ∧ v14 = .int .i64 i ∧ Lib.IsBuilder 53 5 w.heap.size w.heap.size (Lib.byteCells (pieces bt bh f (l.take i))) wx ∧ Chp (· = bf) w wx ∧ Box wx bf 4 [.bool (fine && (l.take i).all fun xs => decide (0 < xs.length))])
  case atStart => exact ⟨0, by omega, rfl, Lib.fresh_isBuilder 53 5 w, chp_below (Chp.refl _ w) ((Below.refl _ w).alloc (Nat.le_refl _) _), by simpa using box_keep hbf (Below.heap_alloc w _ bf hbl)⟩
  case round =>
    obtain ⟨i, hig, rfl, hI, hbw, hbx⟩ := hrel
    have hsz0 := hbw.size
    cases gk with
    | zero =>
      obtain rfl : i = l.length := by omega
      rw [List.take_length] at hI hbx
      go_wp2_with (go_at_call 31; refine (bstr _ _ _ _ hI hsz0).mono ?_)
      rintro e w1 ⟨rfl, hb1⟩
      go_wp2
      go_ret
      exact ⟨rfl, box_keep hbx (hb1.block _ hbl), chp_below hbw hb1⟩
    | succ g =>
      have hi : i < l.length := by omega
      obtain ⟨x, hx⟩ : ∃ x, l[i]? = some x := ⟨_, List.getElem?_eq_getElem hi⟩
      obtain ⟨bk, o, A', c', rfl, hbk, hbn, hc0, hF⟩ := hcell i x hx
      have hc1 : wr.cell? ⟨bk, o + i, none⟩ = some (.slice A' x.length c') := by rw [World.cell?_of_block (w := w) (hbw.block bk hbk hbn)]; exact hc0
      have htk := pieces_take bt bh f l i x hx
      have hle := pieces_take_le bt bh f l (i + 1)
      have hall : (fine && (l.take (i + 1)).all fun xs => decide (0 < xs.length)) = ((fine && (l.take i).all fun xs => decide (0 < xs.length)) && decide (0 < x.length)) := by
        rw [List.take_add_one, hx]
        simp [Bool.and_assoc]
      generalize (fine && (l.take i).all fun xs => decide (0 < xs.length)) = fi at *
      rw [htk] at hle
      simp only [List.length_append] at hle
      have hcat : (⟨(f x).toArray⟩ : ByteArray) ++ ⟨bh.toArray⟩ = ⟨(f x ++ bh).toArray⟩ := bytes_append _ _
      have hilt : (i : Int) < (l.length : Int) := by omega
      by_cases h0 : i = 0
      · subst h0
        simp only [Nat.add_zero] at hc1
        go_wp2_with (go_at_call 23; refine (hF fi _ hbw hbx).mono ?_)
        rintro e w1 rfl hbx1 b1
        have hI1 := bld_keep hI (w' := w1) fun k hB hk => b1.block k hk (by rintro rfl; omega)
        have hs1 := b1.size
        go_wp2_with (go_at_call 30; refine (wstr w.heap.size w.heap.size _ (f x ++ bh) _ hI1 (by rw [bcl]; simp only [List.length_append]; omega) (by omega)).mono ?_)
        rintro e w2 ⟨rfl, hI2, b2⟩
        go_wp2
        go_roundg g
        case measure => omega
        case rel => exact ⟨0 + 1, by omega, rfl, by rw [htk, Lib.byteCells_append]; exact hI2, chp_below (chp_chp hbw b1) b2, by rw [hall]; exact box_keep hbx1 (b2.block _ hbl)⟩
      · have hgt : (0 : Int) < (i : Int) := by omega
        rw [if_neg h0] at htk hle
        go_wp2_with (go_at_call 30; refine (wstr w.heap.size w.heap.size _ bt _ hI (by rw [bcl]; omega) hsz0).mono ?_)
        rintro e w0 ⟨rfl, hI0, b0⟩
        have hs0 := b0.size
        go_wp2_with (go_at_call 23; refine (hF fi _ (chp_below hbw b0) (box_keep hbx (b0.block _ hbl))).mono ?_)
        rintro e w1 ⟨rfl, hbx1, b1⟩
        have hI1 := bld_keep hI0 (w' := w1) fun k hB hk => b1.block k hk (by rintro rfl; omega)
        have hs1 := b1.size
        rw [← Lib.byteCells_append] at hI1
        go_wp2_with (go_at_call 30; refine (wstr w.heap.size w.heap.size _ (f x ++ bh) _ hI1 (by rw [bcl]; simp only [List.length_append]; omega) (by omega)).mono ?_)
        rintro e w2 ⟨rfl, hI2, b2⟩
        go_wp2
        go_roundg g
        case measure => omega
        case rel => exact ⟨i + 1, by omega, rfl, by rw [htk, ← List.append_assoc, Lib.byteCells_append]; exact hI2, chp_below (chp_chp (chp_below hbw b0) b1) b2, by rw [hall]; exact box_keep hbx1 (b2.block _ hbl)⟩
end Go.Proofs.YtcjaplaifmhajaaDoorG
