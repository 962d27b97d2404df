/- strings.IndexAny at two ASCII bytes that no rune's tail holds, on whatever string: the index of the first of them, also where the string is short and not ASCII (the shelf's contract asks for ASCII there). No condition. -/
import Derived.Test.YtfnjfjkkdhomcaaDoorShelfP
import Derived.Shelf.Strings.IndexAnyAll
import Derived.Shelf.Small.Utf8
import Derived.Lib.OthersKept
import Derived.Laws.RangeAny
import Derived.Laws.Runes
import Derived.WalkMore
import Derived.Shelf.RegionOpenPlain
namespace Go.Proofs.YtfnjfjkkdhomcaaDoor
open Go.Shelf Go.RowKit Go.Lib
section
variable {P : Program} {ρ : Ren}
/-- The bytes of a rune that is no ASCII byte are all from 128 on. -/
theorem dec_tail (s : ByteArray) (pos : Nat) (h : pos < s.size) (ha : 128 ≤ (s[pos]'h).toNat) :
    pos + (Utf8.decode s pos).2 ≤ s.size ∧ ∀ j, pos ≤ j → j < pos + (Utf8.decode s pos).2 → 128 ≤ (s.get! j).toNat := by
  have hn : ¬ (s[pos]'h).toNat < 128 := by omega
  have e0 := get_at s pos h
  have h0 : 128 ≤ (s.get! pos).toNat := by rw [← e0] at ha; exact ha
  have one : ∀ j, pos ≤ j → j < pos + 1 → 128 ≤ (s.get! j).toNat := fun j h1 h2 => by
    obtain rfl : j = pos := by omega
    exact h0
  simp only [Utf8.decode, get_at s pos h, hn, if_false]
  (repeat' split) <;> first
    | exact ⟨by omega, one⟩
    | (simp only [Bool.and_eq_true, decide_eq_true_eq, beq_iff_eq] at *
       refine ⟨by omega, fun j h1 h2 => ?_⟩
       rcases Nat.lt_or_ge j (pos + 1) with q | q
       · exact one j h1 q
       · rcases Nat.lt_or_ge j (pos + 2) with q2 | q2
         · obtain rfl : j = pos + 1 := by omega
           omega
         · rcases Nat.lt_or_ge j (pos + 3) with q3 | q3
           · obtain rfl : j = pos + 2 := by omega
             omega
           · obtain rfl : j = pos + 3 := by omega
             omega)
theorem get_list (s : ByteArray) (j : Nat) (b : UInt8) (h : s.data.toList[j]? = some b) : s.get! j = b := by
  have hj : j < s.size := by
    obtain ⟨hl, _⟩ := List.getElem?_eq_some_iff.1 h
    rw [Lib.size_eq]; exact hl
  have e0 := get_at s j hj
  have e1 := Lib.data_getElem? s j hj
  rw [h] at e1
  rw [Nat.add_zero] at e0
  rw [e0]
  exact (Option.some.inj e1).symm
theorem noAny_tail {s : ByteArray} {chars : List UInt8} (hc : ∀ b, chars.contains b = true → b.toNat < 128) {i k : Nat} (h : Lib.NoAny s.data.toList chars i) (ht : ∀ j, i ≤ j → j < i + k → 128 ≤ (s.get! j).toNat) : Lib.NoAny s.data.toList chars (i + k) := by
  intro j b hj hb
  rcases Nat.lt_or_ge j i with q | q
  · exact h j b q hb
  · have := ht j q hj
    rw [get_list s j b hb] at this
    cases hx : chars.contains b with
    | false => rfl
    | true => have := hc b hx; omega
set_option maxHeartbeats 4000000 in
set_option maxRecDepth 1000000 in
/-- strings.IndexRune of a rune that is no ASCII byte, in two ASCII bytes: none. -/
theorem idxRune_high (L : Lays.n152 P ρ) (chars : ByteArray) (c0 c1 : UInt8) (hc : chars = ⟨#[c0, c1]⟩) (h0 : c0.toNat < 128) (h1 : c1.toNat < 128) (r : Int) (w : World) (hr : 128 ≤ r) :
    Calls P (ρ.f 152) #[.string chars, .int .i32 r] w fun e w' => e = .returned (.int .i64 (-1)) ∧ Below w.heap.size w w' := by
  subst hc
  have mixed := L.mixed
  have t3 := L.t3; have a3 := L.a3; have z3 := L.z3; have v3 := L.v3
  have t4 := L.t4; have a4 := L.a4; have z4 := L.z4; have v4 := L.v4
  have t5 := L.t5; have a5 := L.a5; have z5 := L.z5; have v5 := L.v5
  have t9 := L.t9; have a9 := L.a9; have z9 := L.z9; have v9 := L.v9
  have t21 := L.t21; have a21 := L.a21; have z21 := L.z21; have v21 := L.v21
  have e137 : ∀ args w, (callFunc (ρ.f 137) args).run P w = .ok (.enter (ρ.f 137) args) w := enters_of L.f137 (by kernel_rfl) rfl
  have e119 : ∀ args w, (callFunc (ρ.f 119) args).run P w = .ok (.enter (ρ.f 119) args) w := enters_of L.f119 (by kernel_rfl) rfl
  have q0 : decide (r < 128) = false := decide_eq_false (by omega)
  go_enter L.f152, Body.n152_ntmps ρ
  go_wp2_with (first | (go_at_fn (ρ.f 137); refine (Any.strings_IndexByte { L with } _ _ _).mono ?_; rintro e w' ⟨rfl, hw⟩; rw [hw]) | (go_at_fn (ρ.f 119); refine (Any.utf8_ValidRune { L with } _ _).mono ?_; rintro e w' ⟨rfl, hw⟩; rw [hw]))
  · -- U+FFFD: the two bytes are gone through
    go_loopg [5, 6] 2 (fun g _ _ wx => ∃ i : Nat, i + g = 2 ∧ wx = w.iter ⟨#[c0, c1]⟩ i)
    case atStart => exact ⟨0, by omega, rfl⟩
    case round =>
      obtain ⟨i, hig, rfl⟩ := hrel
      have hsz : (⟨#[c0, c1]⟩ : ByteArray).size = 2 := rfl
      cases gk with
      | zero =>
        obtain rfl : i = 2 := by omega
        have hnx := fun ty => run_next_end (P := P) w ⟨#[c0, c1]⟩ 2 ty (by rw [hsz]; omega)
        go_wp2
        go_ret
        exact ⟨rfl, (Below.refl _ _).alloc (Nat.le_refl _) _⟩
      | succ g =>
        have hi : i < (⟨#[c0, c1]⟩ : ByteArray).size := by rw [hsz]; omega
        obtain ⟨x, hx⟩ : ∃ x : UInt8, (⟨#[c0, c1]⟩ : ByteArray)[i]'hi = x := ⟨_, rfl⟩
        have hx128 : x.toNat < 128 := by
          rcases Nat.lt_or_ge i 1 with q | q
          · obtain rfl : i = 0 := by omega
            rw [← hx]; exact h0
          · obtain rfl : i = 1 := by omega
            rw [← hx]; exact h1
        have hnx := fun ty => run_next_ascii (P := P) w ⟨#[c0, c1]⟩ i ty hi (by rw [hx]; exact hx128)
        rw [hx] at hnx
        have hne : ((x.toNat : Int) == 65533) = false := beq_eq_false_iff_ne.2 (by omega)
        clear hx
        go_wp2
        go_roundg g
        case measure => omega
        case rel => exact ⟨i + 1, by omega, rfl⟩
  · go_ret
    exact ⟨rfl, Below.refl _ _⟩
  · rename_i hv
    have hv1 : Utf8.valid r = true := by
      have : Lib.validRune r = true := by simpa using hv
      rw [validRune_eq]
      simpa [Lib.validRune, validRune] using this
    obtain ⟨n2, n4, hlast⟩ := encode_facts r hv1 hr
    obtain ⟨rs, hrs⟩ : ∃ rs, Utf8.encode r = rs := ⟨_, rfl⟩
    have hcv : ∀ w, (convert (ρ.t 21) (ρ.t 9) (.int .i32 r)).run P w = .ok (.string rs) w := fun w => by
      rw [← hrs]; exact run_convert_int_string w _ _ _ _ (by rw [t21]; rfl) t9
    rw [hrs] at n2 n4 hlast
    clear hrs
    rcases (by omega : rs.size = 2 ∨ rs.size = 3 ∨ rs.size = 4) with hz | hz | hz
    · have hzi : ((rs.size : Nat) : Int) = 2 := by omega
      obtain ⟨x, hx⟩ : ∃ x : UInt8, rs[1]'(by omega) = x := ⟨_, rfl⟩
      have hx128 : 128 ≤ x.toNat := by
        have := hlast (by omega)
        have e : rs[rs.size - 1]'(by omega) = x := by rw [← hx]; congr 1; omega
        rw [e] at this
        exact this
      have hi1 : ∀ w, (Instr.index (ρ.t 9) (.string ⟨#[c0, c1]⟩) (.int .i64 1)).run P w = .ok (.int .u8 (c1.toNat : Int)) w := fun w => by
        rw [run_index_string _ _ _ _ _ t9]; rfl
      have hi2 : ∀ w, (Instr.index (ρ.t 9) (.string rs) (.int .i64 1)).run P w = .ok (.int .u8 (x.toNat : Int)) w := fun w => by
        rw [run_index_string _ _ _ _ _ t9, dif_pos ⟨by omega, by omega⟩, ← hx]; rfl
      have hne : ((c1.toNat : Int) == (x.toNat : Int)) = false := beq_eq_false_iff_ne.2 (by omega)
      go_step3
      go_wp2
      refine wp_loop_once ?_
      go_wp2
      go_step3
      go_wp2
      go_region_o
      go_wp2
      have he : (⟨#[c0, c1]⟩ : ByteArray).extract 2 2 = ByteArray.empty := by
        apply ByteArray.ext; simp
      have hsl : ∀ w, (Instr.slice (ρ.t 9) (.string ⟨#[c0, c1]⟩) (some (.int .i64 2)) none none).run P w = .ok (.string ByteArray.empty) w := fun w => by
        rw [run_slice_string_l w _ _ t9 .i64 2 (by omega) (by show (2 : Int) ≤ ((2 : Nat) : Int); omega)]
        show Result.ok (Value.string ((⟨#[c0, c1]⟩ : ByteArray).extract 2 2)) w = _
        rw [he]
      go_region_with_o (go_at_fn (ρ.f 137); refine (Any.strings_IndexByte { L with } _ _ _).mono ?_; rintro e w' ⟨rfl, hw⟩; rw [hw])
      all_goals
        have hib : Lib.indexByte [] x = -1 := rfl
        (try go_simp)
        go_wp2
        simp (config := { zetaDelta := true }) only [Exit.noGoto_ret, Exit.inBlock, Exit.then]
        go_ret
        exact ⟨rfl, rfl, rfl, rfl, Nat.le_refl _, fun _ _ => rfl⟩
    · have hzi : ((rs.size : Nat) : Int) = 3 := by omega
      go_step3
      go_wp2
      refine wp_loop_once ?_
      go_wp2
      simp only [Exit.noGoto_ret, Exit.inBlock]
      go_ret
      exact ⟨rfl, Below.refl _ _⟩
    · have hzi : ((rs.size : Nat) : Int) = 4 := by omega
      go_step3
      go_wp2
      refine wp_loop_once ?_
      go_wp2
      simp only [Exit.noGoto_ret, Exit.inBlock]
      go_ret
      exact ⟨rfl, Below.refl _ _⟩
set_option maxHeartbeats 8000000 in
set_option maxRecDepth 1000000 in
/-- strings.IndexAny, s of at most 8 bytes, whatever they are. -/
theorem idxAny_short (L : Lays.n153 P ρ) (s chars : ByteArray) (c0 c1 : UInt8) (w : World) (hc : chars = ⟨#[c0, c1]⟩) (h0 : c0.toNat < 128) (h1 : c1.toNat < 128) (h8 : s.size ≤ 8) :
    Calls P (ρ.f 153) #[.string s, .string chars] w fun e w' => e = .returned (.int .i64 (Lib.indexAny s.data.toList chars.data.toList)) ∧ Below w.heap.size w w' := by
  have hcl : chars.data.toList = [c0, c1] := by rw [hc]
  have h2 : chars.size = 2 := by rw [hc]; rfl
  have HR := Aside.out (p := ∀ (r : Int) (w : World), 128 ≤ r → Calls P (ρ.f 152) #[.string chars, .int .i32 r] w fun e w' => e = .returned (.int .i64 (-1)) ∧ Below w.heap.size w w') (fun r w hr => idxRune_high { L with } chars c0 c1 hc h0 h1 r w hr)
  have HC : Aside (∀ b : UInt8, chars.data.toList.contains b = true → b.toNat < 128) := fun b hb => by
    rw [hcl] at hb
    simp only [List.contains_cons, List.contains_nil, Bool.or_false, Bool.or_eq_true, beq_iff_eq] at hb
    rcases hb with rfl | rfl <;> assumption
  clear hcl hc
  have hemp : chars.toList.isEmpty = false := by
    rw [Lib.toList_data]
    cases h : chars.data.toList with
    | nil => have := Lib.size_eq chars; rw [h, List.length_nil] at this; omega
    | cons _ _ => rfl
  have hn1 : ((chars.size : Int) == 1) = false := beq_eq_false_iff_ne.2 (by omega)
  have h8z : decide ((8 : Int) < (s.size : Int)) = false := decide_eq_false (by omega)
  have t3 := L.t3; have a3 := L.a3; have z3 := L.z3; have v3 := L.v3
  have t4 := L.t4; have a4 := L.a4; have z4 := L.z4; have v4 := L.v4
  have t5 := L.t5; have a5 := L.a5; have z5 := L.z5; have v5 := L.v5
  have t9 := L.t9; have a9 := L.a9; have z9 := L.z9; have v9 := L.v9
  have t21 := L.t21; have a21 := L.a21; have z21 := L.z21; have v21 := L.v21
  have e152 : ∀ args w, (callFunc (ρ.f 152) args).run P w = .ok (.enter (ρ.f 152) args) w := enters_of L.f152 (by kernel_rfl) rfl
  have e226 : ∀ args w, (callFunc (ρ.f 226) args).run P w = .ok (.enter (ρ.f 226) args) w := enters_of L.f226 (by kernel_rfl) rfl
  have HQ : Aside (∀ (r : Int) (w : World), 128 ≤ r → Calls P (ρ.f 152) #[.string chars, .int .i32 r] w fun e w' => e = .returned (.int .i64 (-1)) ∧ Below w.heap.size w w') := HR
  clear HR
  go_enter L.f153, Body.n153_ntmps ρ
  go_wp2_with (go_at_fn (ρ.f 226); refine (Any.strings_shouldUseASCIISet { L with } _ _).mono ?_; rintro e w' ⟨rfl, hw⟩; rw [hw, h8z])
  go_loopg [9, 10] s.size (fun g _ _ wx => ∃ i : Nat, i ≤ s.size ∧ s.size - i ≤ g ∧ wx.heap[w.heap.size]? = some (.stringIter s i) ∧ Aside (Below w.heap.size w wx) ∧ Lib.NoAny s.data.toList chars.data.toList i)
  case atStart => exact ⟨0, by omega, by omega, World.iter_heap w s 0, (Below.refl _ _).alloc (Nat.le_refl _) _, Lib.NoAny.zero _ _⟩
  case round =>
    obtain ⟨i, hi1, hig, hit, hB, hno⟩ := hrel
    have HN : Aside (Lib.NoAny s.data.toList chars.data.toList i) := hno
    clear hno
    by_cases hi : i < s.size
    · obtain ⟨x, hx⟩ : ∃ x : UInt8, s[i]'hi = x := ⟨_, rfl⟩
      have hxl : s.data.toList[i]? = some x := by rw [← hx]; exact Lib.data_getElem? s i hi
      have Hx : Aside (s.data.toList[i]? = some x) := hxl
      clear hxl
      by_cases hx128 : x.toNat < 128
      · have hnx := fun ty => run_next_ascii_at (P := P) wr w.heap.size s i ty hit hi (by rw [hx]; exact hx128)
        rw [hx] at hnx
        have hit2 := iterAt_heap wr w.heap.size s i (i + 1) hit
        have hB2 : Aside (Below w.heap.size w (wr.iterAt w.heap.size s (i + 1))) := below_iterAt hB.out (Nat.le_refl _) s (i + 1)
        generalize wr.iterAt w.heap.size s (i + 1) = w2 at hnx hit2 hB2
        clear hx hit hB
        have hcon := Lib.contains_iff_indexByte chars.data.toList x
        have hback : ((x.toNat : Int)).toNat.toUInt8 = x := by simp
        cases hin : chars.data.toList.contains x
        · rw [hin] at hcon
          have hlt : ¬ ((0 : Int) ≤ Lib.indexByte chars.data.toList x) := of_decide_eq_false hcon.symm
          clear hcon
          go_wp2_with (go_at_fn (ρ.f 152); refine (Any.strings_IndexRune_ascii { L with } _ _ _ (by omega) (by omega)).mono ?_; rintro e w' ⟨rfl, hw⟩; rw [hw, hback])
          go_roundg (gk - 1)
          case measure => omega
          case rel => exact ⟨i + 1, by omega, by omega, hit2, hB2, HN.out.succ Hx.out hin⟩
        · rw [hin] at hcon
          have hge : (0 : Int) ≤ Lib.indexByte chars.data.toList x := of_decide_eq_true hcon.symm
          clear hcon
          go_wp2_with (go_at_fn (ρ.f 152); refine (Any.strings_IndexRune_ascii { L with } _ _ _ (by omega) (by omega)).mono ?_; rintro e w' ⟨rfl, hw⟩; rw [hw, hback])
          go_ret
          exact ⟨by rw [Lib.indexAny_hit HN.out Hx.out hin]; rfl, hB2.out⟩
      · have hnx := fun ty => run_next_any_at (P := P) wr w.heap.size s i ty hit hi
        obtain ⟨d1, d2⟩ := decode_high s i hi (by rw [hx]; omega)
        obtain ⟨d3, d4⟩ := dec_tail s i hi (by rw [hx]; omega)
        have hno2 : Aside (Lib.NoAny s.data.toList chars.data.toList (i + (Utf8.decode s i).2)) := noAny_tail HC.out HN.out d4
        have hit2 := iterAt_heap wr w.heap.size s i (i + (Utf8.decode s i).2) hit
        have hB2 : Aside (Below w.heap.size w (wr.iterAt w.heap.size s (i + (Utf8.decode s i).2))) := below_iterAt hB.out (Nat.le_refl _) s (i + (Utf8.decode s i).2)
        generalize (Utf8.decode s i).2 = wd at *
        generalize (Utf8.decode s i).1 = r at *
        generalize wr.iterAt w.heap.size s (i + wd) = w2 at hnx hit2 hB2
        clear hx hit hB d4
        go_wp2_with (go_at_fn (ρ.f 152); refine (HQ.out _ _ (by omega)).mono ?_; rintro e w3 ⟨rfl, hb3⟩)
        go_roundg (gk - 1)
        case measure => omega
        case rel => exact ⟨i + wd, by omega, by omega, (hb3.block _ (Array.getElem?_eq_some_iff.1 hit2).1).trans hit2, hB2.out.trans (hb3.mono hB2.out.size), hno2.out⟩
    · obtain rfl : i = s.size := by omega
      have hnx := fun ty => run_next_end_at (P := P) wr w.heap.size s s.size ty hit hi
      go_wp2
      go_ret
      exact ⟨by rw [Lib.indexAny_none (by rw [← Lib.size_eq]; exact HN.out)]; rfl, hB.out⟩
/-- strings.IndexAny at two ASCII bytes, on whatever string. -/
theorem idxAny (L : Lays.n153 P ρ) (hv116 : ∀ w, (zeroValue (ρ.t 116)).run P w = .ok (.agg (Array.replicate 256 (.bool false))) w) (hi116 : (P.info? (ρ.t 116)).map (·.size) = some 256) (s chars : ByteArray) (c0 c1 : UInt8) (w : World) (hc : chars = ⟨#[c0, c1]⟩) (h0 : c0.toNat < 128) (h1 : c1.toNat < 128) (hs : s.size < 4294967281) :
    Calls P (ρ.f 153) #[.string s, .string chars] w fun e w' => e = .returned (.int .i64 (Lib.indexAny s.data.toList chars.data.toList)) ∧ Below w.heap.size w w' := by
  by_cases h8 : s.size ≤ 8
  · exact idxAny_short L s chars c0 c1 w hc h0 h1 h8
  · have h2 : chars.size = 2 := by rw [hc]; rfl
    refine (Any.strings_IndexAny_long L hv116 hi116 s chars w (by omega) (by omega) hs (by omega) (fun j b hb => ?_)).mono fun e w' ⟨h1, h2⟩ => ⟨h1, ?_⟩
    · have hm := List.mem_of_getElem? hb
      rw [hc] at hm
      simp at hm
      rcases hm with rfl | rfl <;> assumption
    · rw [h2]
      exact ((Below.refl _ _).alloc (Nat.le_refl _) _).alloc (by simp) _
theorem idxAny_laid (L : Lays.n153 P ρ) (h116 : (P.info? (ρ.t 116)).map (fun i => (i.zero, i.size)) = some (some (.agg (Array.replicate 256 (.bool false))), 256)) (s chars : ByteArray) (c0 c1 : UInt8) (w : World) (hc : chars = ⟨#[c0, c1]⟩) (h0 : c0.toNat < 128) (h1 : c1.toNat < 128) (hs : s.size < 4294967281) :
    Calls P (ρ.f 153) #[.string s, .string chars] w fun e w' => e = .returned (.int .i64 (Lib.indexAny s.data.toList chars.data.toList)) ∧ Below w.heap.size w w' :=
  idxAny L (zero_of_info h116).1 (zero_of_info h116).2 s chars c0 c1 w hc h0 h1 hs
end
end Go.Proofs.YtfnjfjkkdhomcaaDoor
