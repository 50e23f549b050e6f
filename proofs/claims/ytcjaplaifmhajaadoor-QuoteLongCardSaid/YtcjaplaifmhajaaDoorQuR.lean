import Derived.Shelf.Strings.IndexAnyAll
import Derived.Shelf.Small.Utf8
import Derived.Lib.OthersKept
import Derived.Laws.Runes
import Derived.Laws.RangeAny
import Derived.Deep.LoopGhost
import Derived.Shelf.RegionOpenPlain
import Derived.RegionTactic
import Derived.Deep.RegionWith
set_option linter.all false
namespace Go.Proofs.YtcjaplaifmhajaaDoorG
open Go Go.Shelf Go.RowKit Go.Lib Go.Proofs
variable {P : Program} {ρ : Ren}
def four : ByteArray := ⟨#[34, 44, 13, 10]⟩
theorem four_lt (i : Nat) (h : i < four.size) : (four[i]'h).toNat < 128 := by
  have h4 : i < 4 := h
  have : ∀ j : Fin 4, ((four.data.toList)[j.1]'(by have := j.2; simpa [four] using this)).toNat < 128 := by decide
  exact this ⟨i, h4⟩
set_option maxHeartbeats 8000000 in
set_option maxRecDepth 1000000 in
theorem indexRune_bad (L : Lays.n152 P ρ) (w : World) : Calls P (ρ.f 152) #[.string four, .int .i32 65533] w fun e w' => e = .returned (.int .i64 (-1)) ∧ Below w.heap.size w w' := by
  have t3 := L.t3; have a3 := L.a3; have z3 := L.z3; have v3 := L.v3
  have t4 := L.t4; have a4 := L.a4; have z4 := L.z4; have v4 := L.v4
  have t5 := L.t5; have a5 := L.a5; have z5 := L.z5; have v5 := L.v5
  have t9 := L.t9; have a9 := L.a9; have z9 := L.z9; have v9 := L.v9
  have t21 := L.t21; have a21 := L.a21; have z21 := L.z21; have v21 := L.v21
  have F : Aside (∀ (i : Nat) (h : i < four.size), (four[i]'h).toNat < 128) := four_lt
  have hsz : four.size = 4 := rfl
  generalize four = s at *
  go_enter L.f152, Body.n152_ntmps ρ
  go_wp2
  go_loopg [5, 6] 4 (fun g _ _ wx => ∃ i : Nat, i + g = 4 ∧ wx = w.iter s i)
  case atStart => exact ⟨0, by omega, rfl⟩
  case round =>
    obtain ⟨i, hig, rfl⟩ := hrel
    cases gk with
    | zero =>
      obtain rfl : i = 4 := by omega
      have hnx := fun ty => run_next_end (P := P) w s 4 ty (by omega)
      go_wp2
      go_ret
      exact ⟨rfl, ((Below.refl _ w).alloc (Nat.le_refl _) _)⟩
    | succ g =>
      have hi : i < s.size := by omega
      have hb := F.out i hi
      have hnx := fun ty => run_next_ascii (P := P) w s i ty hi hb
      have hne : ¬ (((s[i]'hi).toNat : Int) == 65533) = true := by rw [beq_iff_eq]; omega
      generalize hx : ((s[i]'hi).toNat : Int) = x at *
      go_wp2
      go_roundg g
      case measure => omega
      case rel => exact ⟨i + 1, by omega, rfl⟩
theorem indexByte_high (l : List UInt8) (c : UInt8) (h : ∀ b ∈ l, b.toNat < 128) (hc : 128 ≤ c.toNat) : indexByte l c = -1 := by
  induction l with
  | nil => rfl
  | cons b t ih =>
    have hb := h b (by simp)
    have hne : (b == c) = false := by rw [beq_eq_false_iff_ne]; rintro rfl; omega
    simp [indexByte, hne, ih (fun x hx => h x (by simp [hx]))]
set_option maxHeartbeats 8000000 in
set_option maxRecDepth 1000000 in
theorem indexRune_high (L : Lays.n152 P ρ) (r : Int) (h0 : 128 ≤ r) (h1 : r ≤ 1114111) (hr : ¬ r = 65533) (w : World) : Calls P (ρ.f 152) #[.string four, .int .i32 r] w fun e w' => e = .returned (.int .i64 (-1)) ∧ Below w.heap.size w w' := by
  have mixed := L.mixed
  have u3 := run_underlying L.t3; have t3 := L.t3; have a3 := L.a3; have z3 := L.z3; have v3 := L.v3
  have u4 := run_underlying L.t4; have t4 := L.t4; have a4 := L.a4; have z4 := L.z4; have v4 := L.v4
  have u5 := run_underlying L.t5; have t5 := L.t5; have a5 := L.a5; have z5 := L.z5; have v5 := L.v5
  have u9 := run_underlying L.t9; have t9 := L.t9; have a9 := L.a9; have z9 := L.z9; have v9 := L.v9
  have u21 := run_underlying L.t21; have t21 := L.t21; have a21 := L.a21; have z21 := L.z21; have v21 := L.v21
  have e119 : ∀ args w, (callFunc (ρ.f 119) args).run P w = .ok (.enter (ρ.f 119) args) w := enters_of L.f119 (by kernel_rfl) rfl
  have e137 : ∀ args w, (callFunc (ρ.f 137) args).run P w = .ok (.enter (ρ.f 137) args) w := enters_of L.f137 (by kernel_rfl) rfl
  have F : Aside (∀ (i : Nat) (h : i < four.size), (four[i]'h).toNat < 128) := four_lt
  have hsz : four.size = 4 := rfl
  have hr' : (r == 65533) = false := by rw [beq_eq_false_iff_ne]; exact hr
  generalize four = s at *
  go_enter L.f152, Body.n152_ntmps ρ
  go_wp2_with (go_at_fn (ρ.f 119); refine (Any.utf8_ValidRune { L with } _ _).mono ?_; rintro e w' ⟨rfl, hw⟩; rw [hw])
  · go_ret
    exact ⟨rfl, Below.refl _ _⟩
  · rename_i hv
    have hv' : Utf8.valid r = true := by rw [validRune_eq]; simp [Lib.validRune] at hv; simp [Go.validRune]; omega
    obtain ⟨f2, f4, fl⟩ := encode_facts r hv' h0
    generalize he : Utf8.encode r = e at *
    obtain ⟨i, hi⟩ : ∃ i : Nat, e.size = i + 1 := ⟨e.size - 1, by omega⟩
    have hi4 : i < s.size := by omega
    have hie : i < e.size := by omega
    have hc : 128 ≤ (e[i]'hie).toNat := by simpa [hi] using fl (by omega)
    have hs := F.out i hi4
    have hne : (((s[i]'hi4).toNat : Int) == ((e[i]'hie).toNat : Int)) = false := by rw [beq_eq_false_iff_ne]; omega
    clear fl
    go_step3
    go_wp2
    go_loopg [9] 0 (fun g v9 wx => v9 = .int .i64 i ∧ wx = w)
    case atStart => exact ⟨rfl, rfl⟩
    case round =>
      obtain ⟨rfl, rfl⟩ := hrel
      have hii : (i : Int) < 4 := by omega
      have hix : indexByte (List.take (3 - i) (List.drop (i + 1) s.data.toList)) (e[i]'hie) = -1 := indexByte_high _ _ (fun b hb => by
        have hb' := List.mem_of_mem_drop (List.mem_of_mem_take hb)
        obtain ⟨j, hj, rfl⟩ := List.getElem_of_mem hb'
        exact F.out j (by rw [Lib.size_eq]; exact hj)) hc
      have hij : (i : Int) < (i : Int) + 1 := by omega
      have hi4' : (i : Int) + 1 ≤ 4 := by omega
      have hi5 : i + 1 ≤ 4 := by omega
      have hi0 : (0 : Int) ≤ (i : Int) + 1 := by omega
      have hw1 : IntKind.i64.wrap ((i : Int) + 1) = (i : Int) + 1 := wrap_small _ (by omega) (by omega)
      have hnat : ((i : Int) + 1).toNat = i + 1 := by omega
      go_wp2
      go_step3
      go_wp2
      go_region_o
      go_wp2
      go_region_with_o (go_at_fn (ρ.f 137); refine (Any.strings_IndexByte { L with } _ _ _).mono ?_; rintro e w' ⟨rfl, rfl⟩)
      go_wp2
      refine (?_ : bodyPost P (Body.n152 ρ) (fun e w' => e = .returned (.int .i64 (-1)) ∧ Below wr.heap.size wr w') Exit.ret _ _)
      go_ret
      exact ⟨rfl, Below.drew (Below.drew (Below.refl _ _))⟩

theorem indexRune_any (L : Lays.n152 P ρ) (r : Int) (h0 : 128 ≤ r) (h1 : r ≤ 1114111) (w : World) : Calls P (ρ.f 152) #[.string four, .int .i32 r] w fun e w' => e = .returned (.int .i64 (-1)) ∧ Below w.heap.size w w' := by
  by_cases hr : r = 65533
  · subst hr
    exact indexRune_bad L w
  · exact indexRune_high L r h0 h1 hr w
theorem get_data (s : ByteArray) (k : Nat) (x : UInt8) (h : s.data.toList[k]? = some x) : s.get! k = x := by
  obtain ⟨hk, rfl⟩ := List.getElem?_eq_some_iff.1 h
  have hk' : k < s.size := by rw [Lib.size_eq]; exact hk
  have := get_at s k hk'
  rw [Nat.add_zero] at this
  rw [this]
  rfl
theorem valid_le {c : Int} (h : Utf8.valid c = true) : c ≤ 1114111 := by
  rw [validRune_eq] at h
  have := of_decide_eq_true h
  omega
theorem decode_cases (s : ByteArray) (pos : Nat) (hn : ¬ (s.get! (pos + 0)).toNat < 128) : Utf8.decode s pos = (65533, 1)
    ∨ (∃ c, Utf8.decode s pos = (c, 2) ∧ c ≤ 1114111 ∧ pos + 1 < s.size ∧ (s.get! (pos + 1)).toNat / 64 = 2)
    ∨ (∃ c, Utf8.decode s pos = (c, 3) ∧ c ≤ 1114111 ∧ pos + 2 < s.size ∧ (s.get! (pos + 1)).toNat / 64 = 2 ∧ (s.get! (pos + 2)).toNat / 64 = 2)
    ∨ (∃ c, Utf8.decode s pos = (c, 4) ∧ c ≤ 1114111 ∧ pos + 3 < s.size ∧ (s.get! (pos + 1)).toNat / 64 = 2 ∧ (s.get! (pos + 2)).toNat / 64 = 2 ∧ (s.get! (pos + 3)).toNat / 64 = 2) := by
  unfold Utf8.decode
  simp only [if_neg hn]
  split
  · rename_i h1
    simp only [Bool.and_eq_true, decide_eq_true_eq, beq_iff_eq] at h1
    split
    · exact .inr (.inl ⟨_, rfl, by omega, h1.2.1, h1.2.2⟩)
    · exact .inl rfl
  · split
    · rename_i h1
      simp only [Bool.and_eq_true, decide_eq_true_eq, beq_iff_eq] at h1
      split
      · rename_i h2
        rw [Bool.and_eq_true] at h2
        have := valid_le h2.2
        exact .inr (.inr (.inl ⟨_, rfl, by omega, h1.2.1, h1.1.2.2, h1.2.2⟩))
      · exact .inl rfl
    · split
      · rename_i h1
        simp only [Bool.and_eq_true, decide_eq_true_eq, beq_iff_eq] at h1
        split
        · rename_i h2
          rw [Bool.and_eq_true] at h2
          have := valid_le h2.2
          exact .inr (.inr (.inr ⟨_, rfl, by omega, h1.2.1, h1.1.1.2.2, h1.1.2.2, h1.2.2⟩))
        · exact .inl rfl
      · exact .inl rfl
theorem decode_bytes (s : ByteArray) (pos : Nat) (h : pos < s.size) (ha : 128 ≤ (s[pos]'h).toNat) : (Utf8.decode s pos).1 ≤ 1114111 ∧ pos + (Utf8.decode s pos).2 ≤ s.size ∧ ∀ (j : Nat) b, j < (Utf8.decode s pos).2 → s.data.toList[pos + j]? = some b → 128 ≤ b.toNat := by
  have hd0 : s.get! (pos + 0) = s[pos]'h := get_at s pos h
  have h00 : 128 ≤ (s.get! (pos + 0)).toNat := by rw [hd0]; exact ha
  have key : ∀ (j : Nat) b, s.data.toList[pos + j]? = some b → 128 ≤ (s.get! (pos + j)).toNat → 128 ≤ b.toNat := fun j b hj h1 => by rw [get_data s _ _ hj] at h1; exact h1
  rcases decode_cases s pos (by omega) with e | ⟨c, e, hc, h1, k1⟩ | ⟨c, e, hc, h1, k1, k2⟩ | ⟨c, e, hc, h1, k1, k2, k3⟩
  all_goals (rw [e]; refine ⟨by simp only; omega, by simp only; omega, fun j b hj hb => key j b hb ?_⟩; simp only at hj)
  · obtain rfl : j = 0 := by omega
    exact h00
  · have : j = 0 ∨ j = 1 := by omega
    rcases this with rfl | rfl <;> omega
  · have : j = 0 ∨ j = 1 ∨ j = 2 := by omega
    rcases this with rfl | rfl | rfl <;> omega
  · have : j = 0 ∨ j = 1 ∨ j = 2 ∨ j = 3 := by omega
    rcases this with rfl | rfl | rfl | rfl <;> omega
theorem four_contains (b : UInt8) (h : 128 ≤ b.toNat) : four.data.toList.contains b = false := by
  rw [Bool.eq_false_iff]
  intro hc
  have : b ∈ four.data.toList := by simpa using hc
  simp [four] at this
  rcases this with rfl | rfl | rfl | rfl <;> simp at h
theorem NoAny.many {s chars : List UInt8} {i n : Nat} (h : NoAny s chars i) (hn : ∀ (j : Nat) b, j < n → s[i + j]? = some b → chars.contains b = false) : NoAny s chars (i + n) := fun j b hj hb => by
  by_cases hji : j < i
  · exact h j b hji hb
  · exact hn (j - i) b (by omega) (by rw [show i + (j - i) = j by omega]; exact hb)
set_option maxHeartbeats 8000000 in
set_option maxRecDepth 1000000 in
theorem indexAny_short (L : Lays.n153 P ρ) (s : ByteArray) (w : World) (h8 : s.size ≤ 8) :
    Calls P (ρ.f 153) #[.string s, .string four] w fun e w' => e = .returned (.int .i64 (Lib.indexAny s.data.toList four.data.toList)) ∧ Below w.heap.size w w' := by
  have CR : ∀ (r : Int) (w : World), 128 ≤ r → r ≤ 1114111 → Calls P (ρ.f 152) #[.string four, .int .i32 r] w fun e w' => e = .returned (.int .i64 (-1)) ∧ Below w.heap.size w w' := fun r w h0 h1 => indexRune_any { L with } r h0 h1 w
  have FC : Aside (∀ b : UInt8, 128 ≤ b.toNat → four.data.toList.contains b = false) := four_contains
  have hemp : four.toList.isEmpty = false := by rw [Lib.toList_data]; rfl
  have hn1 : ((four.size : Int) == 1) = false := rfl
  generalize four = chars at *
  have h8z : decide ((8 : Int) < (s.size : Int)) = false := decide_eq_false (by omega)
  have t3 := L.t3; have a3 := L.a3; have z3 := L.z3; have v3 := L.v3
  have t4 := L.t4; have a4 := L.a4; have z4 := L.z4; have v4 := L.v4
  have t5 := L.t5; have a5 := L.a5; have z5 := L.z5; have v5 := L.v5
  have t9 := L.t9; have a9 := L.a9; have z9 := L.z9; have v9 := L.v9
  have t21 := L.t21; have a21 := L.a21; have z21 := L.z21; have v21 := L.v21
  have e152 : ∀ args w, (callFunc (ρ.f 152) args).run P w = .ok (.enter (ρ.f 152) args) w := enters_of L.f152 (by kernel_rfl) rfl
  have e226 : ∀ args w, (callFunc (ρ.f 226) args).run P w = .ok (.enter (ρ.f 226) args) w := enters_of L.f226 (by kernel_rfl) rfl
  go_enter L.f153, Body.n153_ntmps ρ
  go_wp2_with (go_at_fn (ρ.f 226); refine (Any.strings_shouldUseASCIISet { L with } _ _).mono ?_; rintro e w' ⟨rfl, hw⟩; rw [hw, h8z])
  go_loopg [9, 10] s.size (fun g _ _ wx => ∃ i : Nat, i + g = s.size ∧ wx.heap[w.heap.size]? = some (.stringIter s i) ∧ Below w.heap.size w wx ∧ Lib.NoAny s.data.toList chars.data.toList i)
  case atStart => exact ⟨0, by omega, World.iter_heap w s 0, (Below.refl _ w).alloc (Nat.le_refl _) _, Lib.NoAny.zero _ _⟩
  case round =>
    obtain ⟨i, hig, hit, hbw, hno⟩ := hrel
    have HN : Aside (Lib.NoAny s.data.toList chars.data.toList i) := hno
    clear hno
    cases gk with
    | zero =>
      obtain rfl : i = s.size := by omega
      have hnx := fun ty => Lib.run_next_end_at (P := P) wr w.heap.size s s.size ty hit (Nat.lt_irrefl _)
      go_wp2
      go_ret
      exact ⟨by rw [Lib.indexAny_none (by rw [← Lib.size_eq]; exact HN.out)]; rfl, hbw⟩
    | succ g =>
      have hi : i < s.size := by omega
      by_cases h128 : (s[i]'hi).toNat < 128
      · obtain ⟨x, hx⟩ : ∃ x : UInt8, s[i]'hi = x := ⟨_, rfl⟩
        have hxl : s.data.toList[i]? = some x := by rw [← hx]; exact Lib.data_getElem? s i hi
        have hx128 : x.toNat < 128 := by rw [← hx]; exact h128
        have hnx := fun ty => Lib.run_next_ascii_at (P := P) wr w.heap.size s i ty hit hi (by rw [hx]; exact hx128)
        rw [hx] at hnx
        have Hx : Aside (s.data.toList[i]? = some x) := hxl
        have hit2 := Lib.iterAt_heap wr w.heap.size s i (i + 1) hit
        have hbw2 := Lib.below_iterAt hbw (Nat.le_refl _) s (i + 1)
        clear hxl hx h128
        have hcon := Lib.contains_iff_indexByte chars.data.toList x
        have hback : ((x.toNat : Int)).toNat.toUInt8 = x := by simp
        cases hin : chars.data.toList.contains x
        · rw [hin] at hcon
          have hlt : ¬ ((0 : Int) ≤ Lib.indexByte chars.data.toList x) := of_decide_eq_false hcon.symm
          clear hcon
          go_wp2_with (go_at_fn (ρ.f 152); refine (Any.strings_IndexRune_ascii { L with } _ _ _ (by omega) (by omega)).mono ?_; rintro e w' ⟨rfl, hw⟩; rw [hw, hback])
          go_roundg g
          case measure => omega
          case rel => exact ⟨i + 1, by omega, hit2, hbw2, HN.out.succ Hx.out hin⟩
        · rw [hin] at hcon
          have hge : (0 : Int) ≤ Lib.indexByte chars.data.toList x := of_decide_eq_true hcon.symm
          clear hcon
          go_wp2_with (go_at_fn (ρ.f 152); refine (Any.strings_IndexRune_ascii { L with } _ _ _ (by omega) (by omega)).mono ?_; rintro e w' ⟨rfl, hw⟩; rw [hw, hback])
          go_ret
          exact ⟨by rw [Lib.indexAny_hit HN.out Hx.out hin]; rfl, hbw2⟩
      · have hhi : 128 ≤ (s[i]'hi).toNat := by omega
        obtain ⟨d1, d2⟩ := decode_high s i hi hhi
        obtain ⟨d3, d4, d5⟩ := decode_bytes s i hi hhi
        have hnx := fun ty => Lib.run_next_any_at (P := P) wr w.heap.size s i ty hit hi
        have hno2 : Aside (Lib.NoAny s.data.toList chars.data.toList (i + (Utf8.decode s i).2)) := NoAny.many HN.out fun j b hj hb => FC.out b (d5 j b hj hb)
        clear d5
        have hit2 := Lib.iterAt_heap wr w.heap.size s i (i + (Utf8.decode s i).2) hit
        have hbw2 := Lib.below_iterAt hbw (Nat.le_refl _) s (i + (Utf8.decode s i).2)
        have hlt0 : w.heap.size < wr.heap.size := (Array.getElem?_eq_some_iff.1 hit).1
        have hsz2 : w.heap.size < (wr.iterAt w.heap.size s (i + (Utf8.decode s i).2)).heap.size := by rw [Lib.iterAt_size]; exact hlt0
        generalize (Utf8.decode s i).1 = r at *
        generalize (Utf8.decode s i).2 = n at *
        clear h128 hhi
        go_wp2_with (go_at_fn (ρ.f 152); refine (CR _ _ (by omega) (by omega)).mono ?_)
        rintro e W1 ⟨rfl, hb1⟩
        go_wp2
        go_roundg (s.size - (i + n))
        case measure => omega
        case rel => exact ⟨i + n, by omega, (hb1.block _ hsz2).trans hit2, hbw2.trans (hb1.mono (Nat.le_of_lt hsz2)), hno2.out⟩
end Go.Proofs.YtcjaplaifmhajaaDoorG
