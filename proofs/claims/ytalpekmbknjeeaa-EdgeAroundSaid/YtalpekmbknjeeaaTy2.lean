/- The types' own structures, and their kinds. -/
import Derived.Test.YtalpekmbknjeeaaS8
set_option linter.all false
namespace Go.Proofs.YtalpekmbknjeeaaG
open Go Go.RowKit
structure TStyle where
  Align : Int
  Wrap : Int
  Dir : Int
  deriving DecidableEq, Inhabited
def kdTStyle : Kd TStyle := flat 3 (fun x => [.int .i64 x.Align, .int .i64 x.Wrap, .int .i64 x.Dir]) (fun _ => rfl) (fun x u hu => by simp at hu; rcases hu with rfl | rfl | rfl <;> rfl)
structure TCell where
  Row : Int
  Col : Int
  Text : St
  Style : TStyle
  deriving DecidableEq, Inhabited
def kdTCell : Kd TCell := flat 6 (fun x => [.int .i64 x.Row, .int .i64 x.Col, vstr x.Text, .int .i64 x.Style.Align, .int .i64 x.Style.Wrap, .int .i64 x.Style.Dir]) (fun _ => rfl) (fun x u hu => by simp at hu; rcases hu with rfl | rfl | rfl | rfl | rfl | rfl <;> rfl)
structure TRect where
  Row : Int
  Col : Int
  Rows : Int
  Cols : Int
  deriving DecidableEq, Inhabited
def kdTRect : Kd TRect := flat 4 (fun x => [.int .i64 x.Row, .int .i64 x.Col, .int .i64 x.Rows, .int .i64 x.Cols]) (fun _ => rfl) (fun x u hu => by simp at hu; rcases hu with rfl | rfl | rfl | rfl <;> rfl)
structure TSheet where
  Right : Int
  Widths : List Int
  Heights : List Int
  Cells : List TCell
  Merges : List TRect
  deriving DecidableEq, Inhabited
def kdTSheet : Kd TSheet where
  sz := 5
  K := fun z x cs => ∃ A_Widths c_Widths A_Heights c_Heights A_Cells c_Cells A_Merges c_Merges, cs = [.int .i64 x.Right, .slice A_Widths x.Widths.length c_Widths, .slice A_Heights x.Heights.length c_Heights, .slice A_Cells x.Cells.length c_Cells, .slice A_Merges x.Merges.length c_Merges] ∧ Cap A_Widths x.Widths.length c_Widths ∧ Rd (kint .i64) z A_Widths x.Widths ∧ Cap A_Heights x.Heights.length c_Heights ∧ Rd (kint .i64) z A_Heights x.Heights ∧ Cap A_Cells x.Cells.length c_Cells ∧ Rd kdTCell z A_Cells x.Cells ∧ Cap A_Merges x.Merges.length c_Merges ∧ Rd kdTRect z A_Merges x.Merges
  mono := by
    rintro z z' x cs hz ⟨A_Widths, c_Widths, A_Heights, c_Heights, A_Cells, c_Cells, A_Merges, c_Merges, rfl, hc0, hr0, hc1, hr1, hc2, hr2, hc3, hr3⟩
    exact ⟨_, _, _, _, _, _, _, _, rfl, hc0, hr0.mono hz, hc1, hr1.mono hz, hc2, hr2.mono hz, hc3, hr3.mono hz⟩
  len := by
    rintro z x cs ⟨_, _, _, _, _, _, _, _, rfl, _⟩
    rfl
  one := by
    rintro z x cs ⟨_, _, _, _, _, _, _, _, rfl, _⟩ u hu
    simp at hu
    rcases hu with rfl | rfl | rfl | rfl | rfl <;> rfl
structure Ar2_Int where
  e0 : Int
  e1 : Int
  deriving DecidableEq, Inhabited
def kdAr2_Int : Kd Ar2_Int := flat 2 (fun x => [.int .i64 x.e0, .int .i64 x.e1]) (fun _ => rfl) (fun x u hu => by simp at hu; rcases hu with rfl | rfl <;> rfl)
structure Ar3_Int where
  e0 : Int
  e1 : Int
  e2 : Int
  deriving DecidableEq, Inhabited
def kdAr3_Int : Kd Ar3_Int := flat 3 (fun x => [.int .i64 x.e0, .int .i64 x.e1, .int .i64 x.e2]) (fun _ => rfl) (fun x u hu => by simp at hu; rcases hu with rfl | rfl | rfl <;> rfl)
structure TSpot where
  s : TSheet
  col : Int
  row : Int
  across : Bool
  down : Bool
  deriving DecidableEq, Inhabited
def kdTSpot : Kd TSpot where
  sz := 9
  K := fun z x cs => ∃ A_s_Widths c_s_Widths A_s_Heights c_s_Heights A_s_Cells c_s_Cells A_s_Merges c_s_Merges, cs = [.int .i64 x.s.Right, .slice A_s_Widths x.s.Widths.length c_s_Widths, .slice A_s_Heights x.s.Heights.length c_s_Heights, .slice A_s_Cells x.s.Cells.length c_s_Cells, .slice A_s_Merges x.s.Merges.length c_s_Merges, .int .i64 x.col, .int .i64 x.row, .bool x.across, .bool x.down] ∧ Cap A_s_Widths x.s.Widths.length c_s_Widths ∧ Rd (kint .i64) z A_s_Widths x.s.Widths ∧ Cap A_s_Heights x.s.Heights.length c_s_Heights ∧ Rd (kint .i64) z A_s_Heights x.s.Heights ∧ Cap A_s_Cells x.s.Cells.length c_s_Cells ∧ Rd kdTCell z A_s_Cells x.s.Cells ∧ Cap A_s_Merges x.s.Merges.length c_s_Merges ∧ Rd kdTRect z A_s_Merges x.s.Merges
  mono := by
    rintro z z' x cs hz ⟨A_s_Widths, c_s_Widths, A_s_Heights, c_s_Heights, A_s_Cells, c_s_Cells, A_s_Merges, c_s_Merges, rfl, hc0, hr0, hc1, hr1, hc2, hr2, hc3, hr3⟩
    exact ⟨_, _, _, _, _, _, _, _, rfl, hc0, hr0.mono hz, hc1, hr1.mono hz, hc2, hr2.mono hz, hc3, hr3.mono hz⟩
  len := by
    rintro z x cs ⟨_, _, _, _, _, _, _, _, rfl, _⟩
    rfl
  one := by
    rintro z x cs ⟨_, _, _, _, _, _, _, _, rfl, _⟩ u hu
    simp at hu
    rcases hu with rfl | rfl | rfl | rfl | rfl | rfl | rfl | rfl | rfl <;> rfl
structure Ar4_Cx where
  e0 : Cx
  e1 : Cx
  e2 : Cx
  e3 : Cx
  deriving DecidableEq, Inhabited
def kdAr4_Cx : Kd Ar4_Cx := flat 4 (fun x => [.complex .f64 x.e0.re.bits x.e0.im.bits, .complex .f64 x.e1.re.bits x.e1.im.bits, .complex .f64 x.e2.re.bits x.e2.im.bits, .complex .f64 x.e3.re.bits x.e3.im.bits]) (fun _ => rfl) (fun x u hu => by simp at hu; rcases hu with rfl | rfl | rfl | rfl <;> rfl)
structure Ar16_Int where
  e0 : Int
  e1 : Int
  e2 : Int
  e3 : Int
  e4 : Int
  e5 : Int
  e6 : Int
  e7 : Int
  e8 : Int
  e9 : Int
  e10 : Int
  e11 : Int
  e12 : Int
  e13 : Int
  e14 : Int
  e15 : Int
  deriving DecidableEq, Inhabited
def kdAr16_Int : Kd Ar16_Int := flat 16 (fun x => [.int .i32 x.e0, .int .i32 x.e1, .int .i32 x.e2, .int .i32 x.e3, .int .i32 x.e4, .int .i32 x.e5, .int .i32 x.e6, .int .i32 x.e7, .int .i32 x.e8, .int .i32 x.e9, .int .i32 x.e10, .int .i32 x.e11, .int .i32 x.e12, .int .i32 x.e13, .int .i32 x.e14, .int .i32 x.e15]) (fun _ => rfl) (fun x u hu => by simp at hu; rcases hu with rfl | rfl | rfl | rfl | rfl | rfl | rfl | rfl | rfl | rfl | rfl | rfl | rfl | rfl | rfl | rfl <;> rfl)
end Go.Proofs.YtalpekmbknjeeaaG
