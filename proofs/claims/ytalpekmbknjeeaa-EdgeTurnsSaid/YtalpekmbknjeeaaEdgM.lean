/- Edges: the program's arms are the document's: the law; arms go both ways, and there are two at least. -/
import Derived.Test.YtalpekmbknjeeaaEdgL
set_option linter.all false
namespace Go.Proofs.YtalpekmbknjeeaaG
open Go Go.RowKit
theorem bits_four (f : Nat → Bool) : bitsN f 4 = b2i (f 0) 1 + b2i (f 1) 2 + b2i (f 2) 4 + b2i (f 3) 8 := by simp [bitsN, b2i]
section
variable {s : TSheet} {u v : Int}
theorem arm0 : armS (spotO s u v) (wayN 0) = ((spotO s u v).down && partsS s ((spotO s u v).row - 1) (spotO s u v).col (spotO s u v).row (spotO s u v).col) := by
  unfold armS
  rw [show (wayN 0).re.n = 1 from rfl, show min (1 : Int) 0 = 0 from rfl, Int.add_zero]
  by_cases h : (spotO s u v).across = true
  · rw [if_pos ⟨by decide, h⟩]; rfl
  · rw [if_neg (fun q => h q.2), if_pos (by decide)]; rfl
theorem arm1 : armS (spotO s u v) (wayN 1) = ((spotO s u v).across && partsS s (spotO s u v).row ((spotO s u v).col - 1) (spotO s u v).row (spotO s u v).col) := by
  unfold armS
  rw [show (wayN 1).re.n = 0 from rfl, show (wayN 1).im.n = 1 from rfl, show min (1 : Int) 0 = 0 from rfl, Int.add_zero]
  rw [if_neg (fun q => q.1 rfl), if_neg (fun q => q rfl)]
  split <;> rfl
theorem arm2 : armS (spotO s u v) (wayN 2) = ((spotO s u v).down && if (spotO s u v).across = true then partsS s ((spotO s u v).row - 1) ((spotO s u v).col - 1) (spotO s u v).row ((spotO s u v).col - 1) else partsS s ((spotO s u v).row - 1) (spotO s u v).col (spotO s u v).row (spotO s u v).col) := by
  unfold armS
  rw [show (wayN 2).re.n = -1 from rfl, show min (-1 : Int) 0 = -1 from rfl, show (spotO s u v).col + -1 = (spotO s u v).col - 1 from rfl]
  by_cases h : (spotO s u v).across = true
  · rw [if_pos ⟨by decide, h⟩, if_pos h]; rfl
  · rw [if_neg (fun q => h q.2), if_pos (by decide), if_neg h]; rfl
theorem arm3 : armS (spotO s u v) (wayN 3) = ((spotO s u v).across && if (spotO s u v).down = true then partsS s ((spotO s u v).row - 1) ((spotO s u v).col - 1) ((spotO s u v).row - 1) (spotO s u v).col else partsS s (spotO s u v).row ((spotO s u v).col - 1) (spotO s u v).row (spotO s u v).col) := by
  unfold armS
  rw [show (wayN 3).re.n = 0 from rfl, show (wayN 3).im.n = -1 from rfl, show min (-1 : Int) 0 = -1 from rfl, show (spotO s u v).row + -1 = (spotO s u v).row - 1 from rfl]
  rw [if_neg (fun q => q.1 rfl), if_neg (fun q => q rfl)]
  split <;> rfl
end
theorem off_iff (s : TSheet) (u v : Int) : offS s u v ↔ (u < 0 ∨ (startsS s.Widths).getD s.Widths.length 0 ≤ u) ∨ (v < 0 ∨ (startsS s.Heights).getD s.Heights.length 0 ≤ v) := by
  unfold offS slotsW slotsH
  rw [slots_starts, slots_starts]
  omega
theorem bord_no {s : TSheet} {u v : Int} (h : offS s u v) : rborderS s u v = false := if_pos h
theorem bool_of {b : Bool} {p : Prop} [Decidable p] (h : b = true ↔ p) : b = decide p := by
  rw [Bool.eq_iff_iff, decide_eq_true_eq]; exact h
theorem bool_no {b : Bool} (h : ¬ b = true) : b = false := by simpa using h
section
variable {s : TSheet} (hg : Good s) {u v c r : Int}
include hg
theorem Good.reg_none {i j : Int} (h : ¬ (0 ≤ i ∧ i < s.Heights.length ∧ 0 ≤ j ∧ j < s.Widths.length)) : Reg s i j = none := if_neg h
/-- What is a border beside a place where borders cross. -/
theorem Good.cross (hoff : ¬ offS s u v) (hc : PosC s.Widths u c true) (hr : PosC s.Heights v r true) :
    rborderS s (u + 1) v = decide (Reg s (r - 1) c ≠ Reg s r c) ∧ rborderS s u (v + 1) = decide (Reg s r (c - 1) ≠ Reg s r c) ∧
    rborderS s (u - 1) v = decide (Reg s (r - 1) (c - 1) ≠ Reg s r (c - 1)) ∧ rborderS s u (v - 1) = decide (Reg s (r - 1) (c - 1) ≠ Reg s (r - 1) c) := by
  rw [off_iff] at hoff
  have c0 := hc.lo
  have r0 := hr.lo
  have c1 := (hc.bord rfl).1
  have r1 := (hr.bord rfl).1
  refine ⟨?_, ?_, ?_, ?_⟩
  · by_cases h : u + 1 < (startsS s.Widths).getD s.Widths.length 0
    · have p := (((pos_next hc).1 h).1 rfl)
      have := (p.ins rfl).1
      exact bool_of ((hg.border (by rw [off_iff]; omega) p hr).trans (hg.no_ft c0 (by omega) r0 r1))
    · have := ((pos_next hc).2 (by omega)).2
      rw [bord_no (by rw [off_iff]; omega), hg.reg_none (i := r - 1) (j := c) (by omega), hg.reg_none (i := r) (j := c) (by omega)]
      rfl
  · by_cases h : v + 1 < (startsS s.Heights).getD s.Heights.length 0
    · have p := (((pos_next hr).1 h).1 rfl)
      have := (p.ins rfl).1
      exact bool_of ((hg.border (by rw [off_iff]; omega) hc p).trans (hg.no_tf c0 c1 r0 (by omega)))
    · have := ((pos_next hr).2 (by omega)).2
      rw [bord_no (by rw [off_iff]; omega), hg.reg_none (i := r) (j := c - 1) (by omega), hg.reg_none (i := r) (j := c) (by omega)]
      rfl
  · by_cases h : 0 ≤ u - 1
    · have p := (((pos_prev hc).1 h).1 rfl)
      have := (p.ins rfl).1
      have := p.lo
      exact bool_of ((hg.border (by rw [off_iff]; omega) p hr).trans (hg.no_ft (by omega) (by omega) r0 r1))
    · have := ((pos_prev hc).2 (by omega)).2
      rw [bord_no (by rw [off_iff]; omega), hg.reg_none (i := r - 1) (j := c - 1) (by omega), hg.reg_none (i := r) (j := c - 1) (by omega)]
      rfl
  · by_cases h : 0 ≤ v - 1
    · have p := (((pos_prev hr).1 h).1 rfl)
      have := (p.ins rfl).1
      have := p.lo
      exact bool_of ((hg.border (by rw [off_iff]; omega) hc p).trans (hg.no_tf c0 c1 (by omega) (by omega)))
    · have := ((pos_prev hr).2 (by omega)).2
      rw [bord_no (by rw [off_iff]; omega), hg.reg_none (i := r - 1) (j := c - 1) (by omega), hg.reg_none (i := r - 1) (j := c) (by omega)]
      rfl
/-- Within a cell there is no border. -/
theorem Good.within_no (hoff : ¬ offS s u v) (hc : PosC s.Widths u c false) (hr : PosC s.Heights v r false) : rborderS s u v = false := by
  refine bool_no fun h => ?_
  exact hg.no_ff hc.lo (hc.ins rfl).1 hr.lo (hr.ins rfl).1 ((hg.border hoff hc hr).1 h)
/-- What is a border beside a place of a border that goes down. -/
theorem Good.downs (hoff : ¬ offS s u v) (hc : PosC s.Widths u c true) (hr : PosC s.Heights v r false) :
    rborderS s u v = decide (Reg s r (c - 1) ≠ Reg s r c) ∧ rborderS s (u + 1) v = false ∧ rborderS s (u - 1) v = false ∧ (Reg s r (c - 1) ≠ Reg s r c → rborderS s u (v + 1) = true ∧ rborderS s u (v - 1) = true) := by
  have hoff' := hoff
  rw [off_iff] at hoff
  have c0 := hc.lo
  have r0 := hr.lo
  have c1 := (hc.bord rfl).1
  have r1 := (hr.ins rfl).1
  refine ⟨bool_of ((hg.border hoff' hc hr).trans (hg.no_tf c0 c1 r0 r1)), ?_, ?_, fun hne => ⟨?_, ?_⟩⟩
  · by_cases h : u + 1 < (startsS s.Widths).getD s.Widths.length 0
    · exact hg.within_no (by rw [off_iff]; omega) (((pos_next hc).1 h).1 rfl) hr
    · exact bord_no (by rw [off_iff]; omega)
  · by_cases h : 0 ≤ u - 1
    · exact hg.within_no (by rw [off_iff]; omega) (((pos_prev hc).1 h).1 rfl) hr
    · exact bord_no (by rw [off_iff]; omega)
  · by_cases h : v + 1 < (startsS s.Heights).getD s.Heights.length 0
    · rcases ((pos_next hr).1 h).2 rfl with p | p
      · exact (hg.border (by rw [off_iff]; omega) hc p).2 ((hg.no_tf c0 c1 r0 r1).2 hne)
      · have := (p.bord rfl).1
        exact (hg.border (by rw [off_iff]; omega) hc p).2 ((hg.no_tt c0 c1 p.lo this).2 fun e => hne (by have := e.1; rwa [show r + 1 - 1 = r by omega] at this))
    · have := ((pos_next hr).2 (by omega)).1
      cases this
  · by_cases h : 0 ≤ v - 1
    · rcases ((pos_prev hr).1 h).2 rfl with p | p
      · exact (hg.border (by rw [off_iff]; omega) hc p).2 ((hg.no_tf c0 c1 r0 r1).2 hne)
      · exact (hg.border (by rw [off_iff]; omega) hc p).2 ((hg.no_tt c0 c1 p.lo (p.bord rfl).1).2 fun e => hne e.2.2.symm)
    · have := ((pos_prev hr).2 (by omega)).1
      cases this
/-- What is a border beside a place of a border that goes across. -/
theorem Good.sides (hoff : ¬ offS s u v) (hc : PosC s.Widths u c false) (hr : PosC s.Heights v r true) :
    rborderS s u v = decide (Reg s (r - 1) c ≠ Reg s r c) ∧ rborderS s u (v + 1) = false ∧ rborderS s u (v - 1) = false ∧ (Reg s (r - 1) c ≠ Reg s r c → rborderS s (u + 1) v = true ∧ rborderS s (u - 1) v = true) := by
  have hoff' := hoff
  rw [off_iff] at hoff
  have c0 := hc.lo
  have r0 := hr.lo
  have c1 := (hc.ins rfl).1
  have r1 := (hr.bord rfl).1
  refine ⟨bool_of ((hg.border hoff' hc hr).trans (hg.no_ft c0 c1 r0 r1)), ?_, ?_, fun hne => ⟨?_, ?_⟩⟩
  · by_cases h : v + 1 < (startsS s.Heights).getD s.Heights.length 0
    · exact hg.within_no (by rw [off_iff]; omega) hc (((pos_next hr).1 h).1 rfl)
    · exact bord_no (by rw [off_iff]; omega)
  · by_cases h : 0 ≤ v - 1
    · exact hg.within_no (by rw [off_iff]; omega) hc (((pos_prev hr).1 h).1 rfl)
    · exact bord_no (by rw [off_iff]; omega)
  · by_cases h : u + 1 < (startsS s.Widths).getD s.Widths.length 0
    · rcases ((pos_next hc).1 h).2 rfl with p | p
      · exact (hg.border (by rw [off_iff]; omega) p hr).2 ((hg.no_ft c0 c1 r0 r1).2 hne)
      · have := (p.bord rfl).1
        refine (hg.border (by rw [off_iff]; omega) p hr).2 ((hg.no_tt p.lo this r0 r1).2 fun e => hne ?_)
        have h1 := e.1
        have h2 := e.2.2
        rw [show c + 1 - 1 = c by omega] at h1 h2
        exact h1.trans (e.2.1.trans h2)
    · have := ((pos_next hc).2 (by omega)).1
      cases this
  · by_cases h : 0 ≤ u - 1
    · rcases ((pos_prev hc).1 h).2 rfl with p | p
      · exact (hg.border (by rw [off_iff]; omega) p hr).2 ((hg.no_ft c0 c1 r0 r1).2 hne)
      · exact (hg.border (by rw [off_iff]; omega) p hr).2 ((hg.no_tt p.lo (p.bord rfl).1 r0 r1).2 fun e => hne e.2.1)
    · have := ((pos_prev hc).2 (by omega)).1
      cases this
end
theorem arms_law {s : TSheet} (hI : SheetI s) (u v : Int) : armsS s u v = rarmsS s u v := by
  by_cases hc : checkSh s = 0
  · have hg := good_of hI hc
    have hc' : rcheckSh s = 0 := by rw [← check_law hI]; exact hc
    by_cases hoff : offS s u v
    · rw [arms_far (by simp [hc]) (by rw [find_out', find_out']; exact (off_iff s u v).1 hoff), rarms_far (by simp [hc']) hoff]
    · have ho := hoff
      rw [off_iff] at ho
      have pc := pos_find (l := s.Widths) (u := u) (by omega) (by omega)
      have pr := pos_find (l := s.Heights) (u := v) (by omega) (by omega)
      rw [arms_ok (i := 4) (by simp [hc]) (by rw [find_out', find_out']; exact ho) (Nat.le_refl _) (Nat.le_refl _), bits_four, arm0, arm1, arm2, arm3]
      simp only [hg.parts]
      unfold spotO
      simp only
      generalize (findS s.Widths u).1 = c at pc
      generalize (findS s.Heights v).1 = r at pr
      generalize decide ((findS s.Widths u).2 < 0) = bc at pc
      generalize decide ((findS s.Heights v).2 < 0) = br at pr
      cases bc <;> cases br
      · rw [rarms_no (by simp [hc']) hoff (hg.within_no hoff pc pr)]
        simp [b2i]
      · obtain ⟨h1, h2, h3, h4⟩ := hg.sides hoff pc pr
        by_cases hne : Reg s (r - 1) c = Reg s r c
        · rw [rarms_no (by simp [hc']) hoff (by rw [h1]; simp [hne])]
          simp [b2i, hne]
        · rw [rarms_ok (by simp [hc']) hoff (by rw [h1]; simp [hne]), h2, h3, (h4 hne).1, (h4 hne).2]
          simp [b2i, hne]
      · obtain ⟨h1, h2, h3, h4⟩ := hg.downs hoff pc pr
        by_cases hne : Reg s r (c - 1) = Reg s r c
        · rw [rarms_no (by simp [hc']) hoff (by rw [h1]; simp [hne])]
          simp [b2i, hne]
        · rw [rarms_ok (by simp [hc']) hoff (by rw [h1]; simp [hne]), h2, h3, (h4 hne).1, (h4 hne).2]
          simp [b2i, hne]
      · obtain ⟨h1, h2, h3, h4⟩ := hg.cross hoff pc pr
        have hb := (hg.border hoff pc pr).trans (hg.no_tt pc.lo (pc.bord rfl).1 pr.lo (pr.bord rfl).1)
        by_cases he : Reg s (r - 1) (c - 1) = Reg s (r - 1) c ∧ Reg s (r - 1) c = Reg s r c ∧ Reg s r c = Reg s r (c - 1)
        · rw [rarms_no (by simp [hc']) hoff (bool_no fun h => hb.1 h he)]
          obtain ⟨e1, e2, e3⟩ := he
          simp [b2i, e1, e2, ← e3]
        · rw [rarms_ok (by simp [hc']) hoff (hb.2 he), h1, h2, h3, h4]
          simp [b2i]
  · rw [arms_bad hc, rarms_bad (by rw [← check_law hI]; exact hc), check_law hI]
end Go.Proofs.YtalpekmbknjeeaaG
