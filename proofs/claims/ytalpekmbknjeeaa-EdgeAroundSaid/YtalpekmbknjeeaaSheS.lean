/- Sheets: what the functions compute, in plain Lean. -/
import Derived.Test.YtalpekmbknjeeaaTy2
import Derived.Test.YtalpekmbknjeeaaTabS
set_option linter.all false
namespace Go.Proofs.YtalpekmbknjeeaaG
open Go Go.RowKit
/-! ### the program's -/
def shareS (a m b n : Int) : Bool := if m < 1 ∨ n < 1 then false else if a > b then decide ((IntKind.wrap IntKind.u64) ((IntKind.wrap IntKind.u64) a - (IntKind.wrap IntKind.u64) b) < (IntKind.wrap IntKind.u64) n) else decide ((IntKind.wrap IntKind.u64) ((IntKind.wrap IntKind.u64) b - (IntKind.wrap IntKind.u64) a) < (IntKind.wrap IntKind.u64) m)
def meetS (a b : TRect) : Bool := shareS a.Row a.Rows b.Row b.Rows && shareS a.Col a.Cols b.Col b.Cols
def oneS (row col : Int) : TRect := ⟨row, col, 1, 1⟩
def hasS (s : TSheet) (r : TRect) : Bool := decide (r.Row ≥ 0) && decide (r.Col ≥ 0) && decide (r.Rows ≤ (s.Heights.length : Int)) && decide (r.Cols ≤ (s.Widths.length : Int)) && decide (r.Row ≤ (IntKind.wrap IntKind.i64) ((s.Heights.length : Int) - r.Rows)) && decide (r.Col ≤ (IntKind.wrap IntKind.i64) ((s.Widths.length : Int) - r.Cols))
def overS (l : List Int) (many most : Int) : Bool := decide ((l.length : Int) > many) || hasF (fun n => decide (n > most)) l
def limitsS (s : TSheet) : Bool := !hasF (fun c : TCell => decide ((c.Text.length : Int) > 1024)) s.Cells && !overS s.Widths 16 60 && !overS s.Heights 24 12 && decide ((s.Merges.length : Int) ≤ 12)
def minS (l : List Int) : Int := l.foldl min (l.getD 0 0)
def sizesS (l : List Int) : Bool := decide ((l.length : Int) > 0) && decide (minS l ≥ 1)
def cmpS (a b : Int) : Int := if a < b then -1 else if a > b then 1 else 0
def compS : List Int → List Int → Int
  | [], [] => 0
  | [], _ :: _ => -1
  | _ :: _, [] => 1
  | a :: as, b :: bs => if cmpS a b = 0 then compS as bs else cmpS a b
def aheadS (a b : Ar2_Int) : Bool := decide (compS [a.e0, a.e1] [b.e0, b.e1] < 0)
def spotS (c : TCell) : Ar2_Int := ⟨c.Row, c.Col⟩
def cornerS (r : TRect) : Ar2_Int := ⟨r.Row, r.Col⟩
def riseU {α : Type} (f : α → Ar2_Int) (d : α) (l : List α) (n : Nat) : Bool := (List.range n).all fun i => aheadS (f (l.getD i d)) (f (l.getD (i + 1) d))
def riseS {α : Type} (f : α → Ar2_Int) (d : α) (l : List α) : Bool := riseU f d l (l.length - 1)
def styledS (x : TStyle) : Bool := decide (x.Align ≥ 0) && decide (x.Align ≤ 4) && decide (x.Wrap ≥ 0) && decide (x.Wrap ≤ 1) && decide (x.Dir ≥ 0) && decide (x.Dir ≤ 3)
def emptyS (c : TCell) : Bool := !styledS c.Style || decide (c.Text = []) && decide ((⟨c.Style.Align, c.Style.Wrap, c.Style.Dir⟩ : Ar3_Int) = ⟨0, 0, 0⟩)
def tinyS (r : TRect) : Bool := decide (r.Rows < 1) || decide (r.Cols < 1) || decide (r.Rows = 1) && decide (r.Cols = 1)
def orderS (s : TSheet) : Bool :=
  if decide (s.Right < 0) || decide (s.Right > 1) || !sizesS s.Widths || !sizesS s.Heights || !riseS spotS default s.Cells || !riseS cornerS default s.Merges then false
  else !hasF emptyS s.Cells && !hasF tinyS s.Merges
def idxM (s : TSheet) (row col : Int) : Int := idxF (fun r => meetS r (oneS row col)) s.Merges 0
def aroundS (s : TSheet) (row col : Int) : TRect := if idxM s row col < 0 then oneS row col else s.Merges.getD (idxM s row col).toNat default
def outS (s : TSheet) : Bool := hasF (fun c : TCell => !hasS s (oneS c.Row c.Col)) s.Cells || hasF (fun r => !hasS s r) s.Merges
def meetsS (s : TSheet) (i : Nat) : Bool := hasF (fun q => meetS q (s.Merges.getD i default)) (s.Merges.take i)
def underS (s : TSheet) (i : Nat) : Bool := !decide (spotS (s.Cells.getD i default) = cornerS (aroundS s (s.Cells.getD i default).Row (s.Cells.getD i default).Col))
def checkSh (s : TSheet) : Int :=
  if limitsS s = false then 3 else if orderS s = false then 1 else if outS s = true then 4 else if (List.range s.Merges.length).any (meetsS s) = true then 5
  else if (List.range s.Cells.length).any (underS s) = true then 6 else 0
def regionS (s : TSheet) (row col : Int) : TRect × Int := if checkSh s ≠ 0 then (⟨0, 0, 0, 0⟩, 1) else if hasS s (oneS row col) = false then (⟨0, 0, 0, 0⟩, 4) else (aroundS s row col, 0)
def idxC (s : TSheet) (r : TRect) : Int := idxF (fun c => decide (spotS c = cornerS r)) s.Cells 0
def cellZ (row col : Int) : TCell := ⟨row, col, [], ⟨0, 0, 0⟩⟩
def getS (s : TSheet) (row col : Int) : TCell × Int :=
  if (regionS s row col).2 ≠ 0 then (cellZ 0 0, (regionS s row col).2) else if idxC s (regionS s row col).1 < 0 then (cellZ (regionS s row col).1.Row (regionS s row col).1.Col, 0)
  else (s.Cells.getD (idxC s (regionS s row col).1).toNat default, 0)
def regAt (s : TSheet) (i j : Nat) : List TRect := if cornerS (aroundS s i j) = ⟨i, j⟩ then [aroundS s i j] else []
def regRow (s : TSheet) (i n : Nat) : List TRect := (List.range n).flatMap (regAt s i)
def regUp (s : TSheet) (n : Nat) : List TRect := (List.range n).flatMap fun i => regRow s i s.Widths.length
def regionsS (s : TSheet) : List TRect := if checkSh s ≠ 0 then [] else regUp s s.Heights.length
theorem regUp_next (s : TSheet) (n : Nat) : regUp s (n + 1) = regUp s n ++ regRow s n s.Widths.length := by simp [regUp, List.range_succ]
theorem regRow_next (s : TSheet) (i n : Nat) : regRow s i (n + 1) = regRow s i n ++ regAt s i n := by simp [regRow, List.range_succ]
/-! ### loops -/
theorem minS_next (l : List Int) (i : Nat) (h : i < l.length) : (l.take (i + 1)).foldl min (l.getD 0 0) = min ((l.take i).foldl min (l.getD 0 0)) (l.getD i 0) := by
  rw [List.take_succ_eq_append_getElem h, List.foldl_append]
  simp [List.getD, h]
theorem minS_one (l : List Int) : (l.take 1).foldl min (l.getD 0 0) = l.getD 0 0 := by
  cases l with
  | nil => rfl
  | cons a t => simp
theorem minS_end (l : List Int) (i : Nat) (h : l.length ≤ i) : (l.take i).foldl min (l.getD 0 0) = minS l := by rw [List.take_of_length_le h]; rfl
theorem compS_next (a b : List Int) (i : Nat) (ha : i < a.length) (hb : i < b.length) (h : cmpS (a.getD i 0) (b.getD i 0) = 0) : compS (a.drop i) (b.drop i) = compS (a.drop (i + 1)) (b.drop (i + 1)) := by
  rw [dropD 0 ha, dropD 0 hb]
  exact if_pos h
theorem compS_ne (a b : List Int) (i : Nat) (ha : i < a.length) (hb : i < b.length) (h : ¬ cmpS (a.getD i 0) (b.getD i 0) = 0) : compS (a.drop i) (b.drop i) = cmpS (a.getD i 0) (b.getD i 0) := by
  rw [dropD 0 ha, dropD 0 hb]
  exact if_neg h
theorem compS_long (a b : List Int) (i : Nat) (ha : i < a.length) (hb : b.length ≤ i) : compS (a.drop i) (b.drop i) = 1 := by
  rw [dropD 0 ha, List.drop_of_length_le hb]
  rfl
theorem compS_short (a b : List Int) (i : Nat) (ha : a.length ≤ i) (hb : i < b.length) : compS (a.drop i) (b.drop i) = -1 := by
  rw [dropD 0 hb, List.drop_of_length_le ha]
  rfl
theorem compS_same (a b : List Int) (i : Nat) (ha : a.length ≤ i) (hb : b.length ≤ i) : compS (a.drop i) (b.drop i) = 0 := by
  rw [List.drop_of_length_le hb, List.drop_of_length_le ha]
  rfl
theorem riseU_next {α : Type} {f : α → Ar2_Int} {d : α} {l : List α} {n : Nat} (h : riseU f d l n = true) (h1 : aheadS (f (l.getD n d)) (f (l.getD (n + 1) d)) = true) : riseU f d l (n + 1) = true := by
  unfold riseU at *
  rw [List.range_succ, List.all_append, h]
  simp only [List.all_cons, List.all_nil, Bool.and_true, Bool.true_and]
  exact h1
theorem riseU_not {α : Type} {f : α → Ar2_Int} {d : α} {l : List α} {n m : Nat} (hn : n < m) (h1 : aheadS (f (l.getD n d)) (f (l.getD (n + 1) d)) = false) : riseU f d l m = false := by
  unfold riseU
  rw [List.all_eq_false]
  exact ⟨n, List.mem_range.2 hn, by simp only [h1]; simp⟩
theorem range_any_next {p : Nat → Bool} {n : Nat} (h : (List.range n).any p = false) (h1 : p n = false) : (List.range (n + 1)).any p = false := by
  rw [List.range_succ, List.any_append, h]
  simp [h1]
theorem range_any_hit {p : Nat → Bool} {n m : Nat} (hn : n < m) (h1 : p n = true) : (List.range m).any p = true := by
  rw [List.any_eq_true]
  exact ⟨n, List.mem_range.2 hn, h1⟩
/-! ### the document's -/
def inS (x f m : Int) : Bool := if m < 1 ∨ x < f then false else if f < 0 then decide (x < (IntKind.wrap IntKind.i64) (f + m)) else decide ((IntKind.wrap IntKind.i64) (x - f) < m)
def coversS (r : TRect) (row col : Int) : Bool := inS row r.Row r.Rows && inS col r.Col r.Cols
def rmeetS (a b : TRect) : Bool := coversS a (max a.Row b.Row) (max a.Col b.Col) && coversS b (max a.Row b.Row) (max a.Col b.Col)
def rlimitsS (s : TSheet) : Bool :=
  if (s.Heights.length : Int) > 24 ∨ (s.Widths.length : Int) > 16 ∨ (s.Merges.length : Int) > 12 then false
  else !s.Heights.any (fun n => decide (n > 12)) && !s.Widths.any (fun n => decide (n > 60)) && !s.Cells.any fun c => decide ((c.Text.length : Int) > 1024)
def raheadS (row col r c : Int) : Bool := decide (row < r) || decide (row = r) && decide (col < c)
def rstyledS (x : TStyle) : Bool := decide (0 ≤ x.Align) && decide (x.Align < 5) && (decide (x.Wrap = 0) || decide (x.Wrap = 1)) && decide (0 ≤ x.Dir) && decide (x.Dir < 4)
def rcellS (s : TSheet) (i : Nat) : Bool :=
  let c := s.Cells.getD i default
  decide ((i : Int) > 0) && !raheadS (s.Cells.getD (i - 1) default).Row (s.Cells.getD (i - 1) default).Col c.Row c.Col || !rstyledS c.Style || decide (c.Text = []) && decide (c.Style.Align = 0) && decide (c.Style.Wrap = 0) && decide (c.Style.Dir = 0)
def rmergeS (s : TSheet) (i : Nat) : Bool :=
  let r := s.Merges.getD i default
  decide ((i : Int) > 0) && !raheadS (s.Merges.getD (i - 1) default).Row (s.Merges.getD (i - 1) default).Col r.Row r.Col || decide (r.Rows < 1) || decide (r.Cols < 1) || decide (r.Rows = 1) && decide (r.Cols = 1)
def rorderS (s : TSheet) : Bool :=
  if (¬ s.Right = 0 ∧ ¬ s.Right = 1) ∨ (s.Widths.length : Int) = 0 ∨ (s.Heights.length : Int) = 0 then false
  else !s.Widths.any (fun n => decide (n < 1)) && !s.Heights.any (fun n => decide (n < 1)) && !(List.range s.Cells.length).any (rcellS s) && !(List.range s.Merges.length).any (rmergeS s)
def thereS (s : TSheet) (r : TRect) : Bool := hasS s r
def rfarS (s : TSheet) (c : TCell) : Bool := decide (c.Row < 0) || decide (c.Col < 0) || decide (c.Row ≥ (s.Heights.length : Int)) || decide (c.Col ≥ (s.Widths.length : Int))
def raroundS (s : TSheet) (row col : Int) : TRect := match s.Merges.find? fun r => coversS r row col with | some r => r | none => ⟨row, col, 1, 1⟩
def rmeetsS (s : TSheet) (i : Nat) : Bool := (List.range i).any fun k => rmeetS (s.Merges.getD i default) (s.Merges.getD k default)
def runderS (s : TSheet) (c : TCell) : Bool := !(decide ((raroundS s c.Row c.Col).Row = c.Row) && decide ((raroundS s c.Row c.Col).Col = c.Col))
def rcheckSh (s : TSheet) : Int :=
  if rlimitsS s = false then 3 else if rorderS s = false then 1 else if s.Cells.any (rfarS s) = true then 4 else if s.Merges.any (fun r => !thereS s r) = true then 4
  else if (List.range s.Merges.length).any (rmeetsS s) = true then 5 else if s.Cells.any (runderS s) = true then 6 else 0
def rregionS (s : TSheet) (row col : Int) : TRect × Int := if rcheckSh s ≠ 0 then (⟨0, 0, 0, 0⟩, 1) else if row < 0 ∨ col < 0 ∨ row ≥ (s.Heights.length : Int) ∨ col ≥ (s.Widths.length : Int) then (⟨0, 0, 0, 0⟩, 4) else (raroundS s row col, 0)
def rfind (l : List TCell) (r : TRect) : TCell := match l.find? fun c => decide (c.Row = r.Row) && decide (c.Col = r.Col) with | some c => c | none => cellZ r.Row r.Col
def rgetS (s : TSheet) (row col : Int) : TCell × Int := if (rregionS s row col).2 ≠ 0 then (cellZ 0 0, (rregionS s row col).2) else (rfind s.Cells (rregionS s row col).1, 0)
/-! ### the laws' -/
def smallS : TSheet := ⟨0, [5, 5, 5], [1, 1], [⟨0, 0, [97], ⟨0, 0, 0⟩⟩], [⟨1, 1, 1, 2⟩]⟩
def withinS (r : TRect) (row col : Int) : Bool := decide (row ≥ r.Row) && decide (row < (IntKind.wrap IntKind.i64) (r.Row + r.Rows)) && decide (col ≥ r.Col) && decide (col < (IntKind.wrap IntKind.i64) (r.Col + r.Cols))
def greatS (s : TSheet) : Bool := if (s.Widths.length : Int) > 100 ∨ (s.Heights.length : Int) > 100 ∨ (s.Merges.length : Int) > 100 ∨ (s.Cells.length : Int) > 500 then true else s.Cells.any fun c => decide ((c.Text.length : Int) > 2000)
theorem any_step {α : Type} {p : α → Bool} {l : List α} {i : Nat} (d : α) (hi : i < l.length) (h : (l.take i).any p = false) (h1 : p (l.getD i d) = false) : (l.take (i + 1)).any p = false := by
  rw [List.take_succ_eq_append_getElem hi, List.any_append, h]
  simpa [List.getD, hi] using h1
theorem any_end {α : Type} {p : α → Bool} {l : List α} {i : Nat} (hi : l.length ≤ i) (h : (l.take i).any p = false) : l.any p = false := by rwa [List.take_of_length_le hi] at h
theorem any_hit {α : Type} {p : α → Bool} {l : List α} {i : Nat} (d : α) (hi : i < l.length) (h1 : p (l.getD i d) = true) : l.any p = true := by
  rw [List.any_eq_true]
  exact ⟨l[i], List.getElem_mem hi, by simpa [List.getD, hi] using h1⟩
theorem find_step {α : Type} {p : α → Bool} {l : List α} {i : Nat} (d : α) (hi : i < l.length) (h : l.find? p = (l.drop i).find? p) (h1 : p (l.getD i d) = false) : l.find? p = (l.drop (i + 1)).find? p := by
  rw [h, dropD d hi]
  simp only [List.find?_cons, h1]
theorem find_end {α : Type} {p : α → Bool} {l : List α} {i : Nat} (hi : l.length ≤ i) (h : l.find? p = (l.drop i).find? p) : l.find? p = none := by
  rw [h, List.drop_of_length_le hi]
  rfl
theorem find_hit {α : Type} {p : α → Bool} {l : List α} {i : Nat} (d : α) (hi : i < l.length) (h : l.find? p = (l.drop i).find? p) (h1 : p (l.getD i d) = true) : l.find? p = some (l.getD i d) := by
  rw [h, dropD d hi]
  simp only [List.find?_cons, h1]
end Go.Proofs.YtalpekmbknjeeaaG
