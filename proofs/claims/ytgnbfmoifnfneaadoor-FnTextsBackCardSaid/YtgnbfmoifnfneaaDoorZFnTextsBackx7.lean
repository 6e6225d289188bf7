/- Part of the proof of the law FnTextsBack: what it uses of the texts that this session and the kit's print wrote. -/
import Derived.Test.YtgnbfmoifnfneaaDoorZFnTextsBackx5
import Derived.Test.YtgnbfmoifnfneaaDoorZFnTextsBackx6
namespace Go.Proofs.YtgnbfmoifnfneaaDoor.QA
open Go.RowKit Go.Proofs.YtgnbfmoifnfneaaDoorW.PrintWords Go.Proofs.YtgnbfmoifnfneaaDoorW.PrintLast Go.Proofs.YtgnbfmoifnfneaaDoorW.PrintMore
attribute [local go_sem] max2_int min2_int max_two min_two max_three min_three max_four min_four
set_option linter.unusedVariables false
set_option linter.unusedSimpArgs false
set_option maxHeartbeats 8000000
set_option maxRecDepth 100000
section
open Go.Shelf Go.Lib Go.Proofs
variable {P : Program} {ρ : Ren}
theorem indexByte_no (l : List UInt8) (c : UInt8) (h : ∀ b, b ∈ l → b ≠ c) : Lib.indexByte l c = -1 := by
 (have h1 := Lib.indexAny_ge [c] l); (rw [Lib.indexAny_one] at h1); (have h2 := Lib.contains_iff_indexByte l c)
 have h3 : l.contains c = false := by
  cases hc : l.contains c with
  | false => rfl
  | true => exact absurd rfl (h c (by simpa using hc))
 (rw [h3] at h2); (have := of_decide_eq_false h2.symm)
 omega
set_option maxHeartbeats 4000000 in
set_option maxRecDepth 1000000 in
theorem IndexRune_err (L : Lays.n152 P ρ) (s : ByteArray) (w : World) (hs : ∀ b ∈ s.data.toList, b.toNat < 128) :
  Calls P (ρ.f 152) #[.string s, .int .i32 65533] w fun e w' => e = .returned (.int .i64 (-1)) ∧ Below w.heap.size w w' := by
 (have HA : Aside (∀ b ∈ s.data.toList, b.toNat < 128) := hs); clear hs; (have t3 := L.t3; have a3 := L.a3; have z3 := L.z3; have v3 := L.v3); (have t4 := L.t4; have a4 := L.a4; have z4 := L.z4; have v4 := L.v4); (have t5 := L.t5; have a5 := L.a5; have z5 := L.z5; have v5 := L.v5); (have t9 := L.t9; have a9 := L.a9; have z9 := L.z9; have v9 := L.v9); (have t21 := L.t21; have a21 := L.a21; have z21 := L.z21; have v21 := L.v21)
 go_enter L.f152, Body.n152_ntmps ρ
 go_wp2
 go_loopg [5, 6] s.size (fun g _ _ wx => ∃ i : Nat, i + g = s.size ∧ wx = w.iter s i)
 case atStart => exact ⟨0, by omega, rfl⟩
 case round =>
  obtain ⟨i, hig, rfl⟩ := hrel
  cases gk with
  | zero =>
   (obtain rfl : i = s.size := by omega); (have hnx := run_next_end (P := P) w s s.size)
   go_wp2
   go_ret
   exact ⟨rfl, (Below.refl _ w).alloc (Nat.le_refl _) _⟩
  | succ g =>
   (have hi : i < s.size := by omega); (obtain ⟨x, hx⟩ : ∃ x : UInt8, s[i]'hi = x := ⟨_, rfl⟩); (have hxl : s.data.toList[i]? = some x := by rw [← hx]; exact Lib.data_getElem? s i hi); (have hx128 : x.toNat < 128 := HA x (List.mem_of_getElem? hxl)); (have hnx := fun ty => run_next_ascii (P := P) w s i ty hi (by rw [hx]; exact hx128)); (rw [hx] at hnx); clear hxl hx; (have hne : ((x.toNat : Int) == 65533) = false := by rw [beq_eq_false_iff_ne]; omega)
   go_wp2
   go_roundg g
   case measure => omega
   case rel => exact ⟨i + 1, by omega, rfl⟩
set_option maxRecDepth 1000000 in
theorem IndexRune_valid (L : Lays.n152 P ρ) (s : ByteArray) (r : Int) (w : World) (h0 : 128 ≤ r) (hne : r ≠ 65533) (hs : ∀ b ∈ s.data.toList, b.toNat < 128) (hsz : s.size < 4294967281) :
  Calls P (ρ.f 152) #[.string s, .int .i32 r] w fun e w' => e = .returned (.int .i64 (-1)) ∧ Below w.heap.size w w' := by
 (have HA : Aside (∀ b ∈ s.data.toList, b.toNat < 128) := hs); clear hs; (have mixed := L.mixed); (have c1 : ¬ r < 128 := by omega); (have c2 : (r == 65533) = false := by rw [beq_eq_false_iff_ne]; exact hne); (have c3 : (0 : Int) ≤ r := by omega); (have t3 := L.t3; have a3 := L.a3; have z3 := L.z3; have v3 := L.v3); (have t4 := L.t4; have a4 := L.a4; have z4 := L.z4; have v4 := L.v4); (have t5 := L.t5; have a5 := L.a5; have z5 := L.z5; have v5 := L.v5); (have t9 := L.t9; have a9 := L.a9; have z9 := L.z9; have v9 := L.v9); (have t21 := L.t21; have a21 := L.a21; have z21 := L.z21; have v21 := L.v21); (have e119 : ∀ args w, (callFunc (ρ.f 119) args).run P w = .ok (.enter (ρ.f 119) args) w := enters_of L.f119 (by kernel_rfl) rfl); (have e137 : ∀ args w, (callFunc (ρ.f 137) args).run P w = .ok (.enter (ρ.f 137) args) w := enters_of L.f137 (by kernel_rfl) rfl)
 cases hv : Lib.validRune r with
 | false =>
  go_enter L.f152, Body.n152_ntmps ρ
  go_wp2_with (go_at_fn (ρ.f 119); refine (Any.utf8_ValidRune { L with } _ _).mono ?_; rintro e w' ⟨rfl, hw⟩; rw [hw, hv])
  go_ret
  exact ⟨rfl, Below.refl _ _⟩
 | true =>
  (obtain ⟨h2, h4, hl⟩ := encode_facts r (by rw [validRune_eq]; exact hv) h0); (obtain ⟨rs, hrs⟩ : ∃ rs : ByteArray, Utf8.encode r = rs := ⟨_, rfl⟩); (rw [hrs] at h2 h4 hl)
  go_enter L.f152, Body.n152_ntmps ρ
  go_wp2_with (go_at_fn (ρ.f 119); refine (Any.utf8_ValidRune { L with } _ _).mono ?_; rintro e w' ⟨rfl, hw⟩; rw [hw, hv])
  (obtain ⟨n, hn⟩ : ∃ n : Nat, rs.size = n + 1 := ⟨rs.size - 1, by omega⟩); (obtain ⟨c, hc⟩ : ∃ c : UInt8, rs[n]'(by omega) = c := ⟨_, rfl⟩)
  have hc128 : 128 ≤ c.toNat := by
   (have := hl (by omega)); (have e : rs.size - 1 = n := by omega); (simp only [e] at this); (rw [hc] at this)
   exact this
  clear hl; (have hw1 : IntKind.i64.wrap (((n + 1 : Nat) : Int) - 1) = (n : Int) := by rw [IntKind.wrap_i64]; omega); (have hnn : ((n : Int) < ((n + 1 : Nat) : Int)) = True := eq_true (by omega)); (have h0n : ((0 : Int) ≤ (n : Int)) = True := eq_true (by omega))
  by_cases hi : n < s.size
  ·obtain ⟨x, hx⟩ : ∃ x : UInt8, s[n]'hi = x := ⟨_, rfl⟩
   (have hxl : s.data.toList[n]? = some x := by rw [← hx]; exact Lib.data_getElem? s n hi); (have hx128 : x.toNat < 128 := HA x (List.mem_of_getElem? hxl)); clear hxl; (have hiz : ((n : Int) < (s.size : Int)) = True := eq_true (by omega)); (have hxc : ((x.toNat : Int) != (c.toNat : Int)) = true := by rw [bne_iff_ne]; omega); (have hix : Lib.indexByte (s.extract (n + 1) s.size).data.toList c = -1 := indexByte_no _ _ (fun b hb h => by have := HA b (mem_extract hb); rw [h] at this; omega)); (have hIB : ∀ w : World, Calls P (ρ.f 137) #[.string (s.extract (n + 1) s.size), .int .u8 c.toNat] w fun e w' => e = .returned (.int .i64 (-1)) ∧ w' = w := fun w => (Any.strings_IndexByte { L with } _ _ w).mono fun e w' ⟨he, hm⟩ => ⟨by rw [he, show ((c.toNat : Int)).toNat.toUInt8 = c by simp, hix], hm⟩); clear hix
   go_step3
   go_wp2
   subst hw
   go_loopg [9] 0 (fun g s9 wx => s9 = .int .i64 n ∧ wx = w')
   case atStart => exact ⟨rfl, rfl⟩
   case round =>
    obtain ⟨rfl, rfl⟩ := hrel
    go_wp2
    go_step3
    go_wp2
    have hq3 : ((n : Int) < (n : Int) + 1) = True := eq_true (by omega)
    refine wp_region_quiet_lit mixed (by kernel_rfl) ?_
    repeat (quiet_step (fail))
    refine wpQuiet_nil ?_
    intro _ hw'
    (obtain ⟨nq1, hw''⟩ := hw'); (subst hw''); (have hwn : IntKind.i64.wrap ((n : Int) + 1) = (n : Int) + 1 := by rw [IntKind.wrap_i64]; omega); (have hm0 : ((0 : Int) ≤ (n : Int) + 1) = True := eq_true (by omega)); (have hm1 : ((n : Int) + 1 ≤ (s.size : Int)) = True := eq_true (by omega)); (have hm2 : ((n : Int) + 1).toNat = n + 1 := by omega); (have hm3 : n + 1 ≤ s.size := by omega); (have hq1 : ((n : Int) < (rs.size : Int)) = True := eq_true (by omega)); (have hq2 : n < rs.size := by omega)
    go_wp2
    refine wp_region_quiet_lit mixed (by kernel_rfl) ?_
    repeat (quiet_step ((refine (hIB _).mono ?_; rintro e w'' ⟨he, hm⟩; exact ⟨he, _, hm⟩)))
    refine wpQuiet_nil ?_
    intro _ hw'
    (obtain ⟨nq2, hw''⟩ := hw'); (subst hw'')
    go_wp2
    show bodyPost P (Body.n152 ρ) (fun e w' => e = .returned (.int .i64 (-1)) ∧ Below wr.heap.size wr w') Exit.ret _ _
    go_ret
    exact ⟨rfl, pw_below_drewN (Below.refl _ _) _⟩
  ·have hiz : ((n : Int) < (s.size : Int)) = False := eq_false (by omega)
   go_step3
   go_wp2
   subst hw
   go_loopg [9] 0 (fun g s9 wx => s9 = .int .i64 n ∧ wx = w')
   case atStart => exact ⟨rfl, rfl⟩
   case round =>
    obtain ⟨rfl, rfl⟩ := hrel
    go_wp2
    rw [Exit.noGoto_ret]
    go_ret
    exact ⟨rfl, Below.refl _ _⟩
theorem IndexRune_high (L : Lays.n152 P ρ) (s : ByteArray) (r : Int) (w : World) (h0 : 128 ≤ r) (hs : ∀ b ∈ s.data.toList, b.toNat < 128) (hsz : s.size < 4294967281) :
  Calls P (ρ.f 152) #[.string s, .int .i32 r] w fun e w' => e = .returned (.int .i64 (-1)) ∧ Below w.heap.size w w' := by
 by_cases h : r = 65533
 ·subst h; exact IndexRune_err L s w hs
 ·exact IndexRune_valid L s r w h0 h hs hsz
theorem dec_wide (s : ByteArray) (pos : Nat) (h : pos < s.data.toList.length) (hb : 128 ≤ (s.data.toList.getD pos 0).toNat) :
  1 ≤ (Utf8.decode s pos).2 ∧ pos + (Utf8.decode s pos).2 ≤ s.data.toList.length ∧ 128 ≤ (Utf8.decode s pos).1 ∧ ∀ j, j < (Utf8.decode s pos).2 → 128 ≤ (s.data.toList.getD (pos + j) 0).toNat := by
 rw [Lib.decode_N]
 generalize hl : s.data.toList = bs at h hb
 rcases Lib.decodeN_shape (bs.length - pos) (bs.getD pos 0).toNat (bs.getD (pos + 1) 0).toNat (bs.getD (pos + 2) 0).toNat (bs.getD (pos + 3) 0).toNat with ⟨c, e⟩ | ⟨c1, c2, c3, cv, e⟩ | ⟨c1, c2, c3, c4, cv, cs, e⟩ | ⟨c1, c2, c3, c4, c5, cv, cw, e⟩ | e
 ·omega
 ·rw [e]
  refine ⟨by show 1 ≤ 2; omega, by show pos + 2 ≤ _; omega, cv, fun j hj => ?_⟩
  have hj : j < 2 := hj
  match j, hj with
  | 0, _ => exact hb
  | 1, _ => omega
 ·rw [e]
  refine ⟨by show 1 ≤ 3; omega, by show pos + 3 ≤ _; omega, Nat.le_trans (by omega) cv, fun j hj => ?_⟩
  have hj : j < 3 := hj
  match j, hj with
  | 0, _ => exact hb
  | 1, _ => omega
  | 2, _ => omega
 ·rw [e]
  refine ⟨by show 1 ≤ 4; omega, by show pos + 4 ≤ _; omega, Nat.le_trans (by omega) cv, fun j hj => ?_⟩
  have hj : j < 4 := hj
  match j, hj with
  | 0, _ => exact hb
  | 1, _ => omega
  | 2, _ => omega
  | 3, _ => omega
 ·rw [e]
  refine ⟨by show 1 ≤ 1; omega, by show pos + 1 ≤ _; omega, by decide, fun j hj => ?_⟩
  (have hj : j < 1 := hj); (obtain rfl : j = 0 := by omega)
  exact hb
set_option maxHeartbeats 4000000 in
set_option maxRecDepth 1000000 in
theorem IndexAny_short (L : Lays.n153 P ρ) (s chars : ByteArray) (w : World) (h2 : 2 ≤ chars.size) (hcs : chars.size < 4294967281) (h8 : s.size ≤ 8) (hascii : ∀ b ∈ chars.data.toList, b.toNat < 128) :
  Calls P (ρ.f 153) #[.string s, .string chars] w fun e w' => e = .returned (.int .i64 (Lib.indexAny s.data.toList chars.data.toList)) ∧ Below w.heap.size w w' := by
 (have HA : Aside (∀ b ∈ chars.data.toList, b.toNat < 128) := hascii); clear hascii
 have hemp : chars.toList.isEmpty = false := by
  rw [Lib.toList_data]
  cases h : chars.data.toList with
  | nil => have := Lib.size_eq chars; rw [h, List.length_nil] at this; omega
  | cons _ _ => rfl
 (have hn1 : ((chars.size : Int) == 1) = false := beq_eq_false_iff_ne.2 (by omega)); (have h8z : decide ((8 : Int) < (s.size : Int)) = false := decide_eq_false (by omega)); (have t3 := L.t3; have a3 := L.a3; have z3 := L.z3; have v3 := L.v3); (have t4 := L.t4; have a4 := L.a4; have z4 := L.z4; have v4 := L.v4); (have t5 := L.t5; have a5 := L.a5; have z5 := L.z5; have v5 := L.v5); (have t9 := L.t9; have a9 := L.a9; have z9 := L.z9; have v9 := L.v9); (have t21 := L.t21; have a21 := L.a21; have z21 := L.z21; have v21 := L.v21); (have e152 : ∀ args w, (callFunc (ρ.f 152) args).run P w = .ok (.enter (ρ.f 152) args) w := enters_of L.f152 (by kernel_rfl) rfl); (have e226 : ∀ args w, (callFunc (ρ.f 226) args).run P w = .ok (.enter (ρ.f 226) args) w := enters_of L.f226 (by kernel_rfl) rfl)
 go_enter L.f153, Body.n153_ntmps ρ
 go_wp2_with (go_at_fn (ρ.f 226); refine (Any.strings_shouldUseASCIISet { L with } _ _).mono ?_; rintro e w' ⟨rfl, hw⟩; rw [hw, h8z])
 go_loopg [9, 10] s.size (fun g _ _ wx => ∃ i : Nat, i ≤ s.size ∧ s.size - i ≤ g ∧ wx.heap[w.heap.size]? = some (.stringIter s i) ∧ Below w.heap.size w wx ∧ Lib.NoAny s.data.toList chars.data.toList i)
 case atStart => exact ⟨0, Nat.zero_le _, by omega, World.iter_heap w s 0, (Below.refl _ w).alloc (Nat.le_refl _) _, Lib.NoAny.zero _ _⟩
 case round =>
  (obtain ⟨i, hil, hig, hit, hbw, hno⟩ := hrel); (have HN : Aside (Lib.NoAny s.data.toList chars.data.toList i) := hno); (have HB : Aside (Below w.heap.size w wr) := hbw); clear hno hbw
  by_cases hi : i < s.size
  ·have hnx := fun ty => Lib.run_next_any_at (P := P) wr w.heap.size s i ty hit hi
   (have hit2 := Lib.iterAt_heap wr w.heap.size s i (i + (Utf8.decode s i).2) hit); (have HB2 : Aside (Below w.heap.size w (wr.iterAt w.heap.size s (i + (Utf8.decode s i).2))) := Lib.below_iterAt HB.out (Nat.le_refl _) s _); (have hsz2 : w.heap.size < (wr.iterAt w.heap.size s (i + (Utf8.decode s i).2)).heap.size := by rw [Lib.iterAt_size]; exact (Array.getElem?_eq_some_iff.1 hit).1); (obtain ⟨x, hx⟩ : ∃ x : UInt8, s[i]'hi = x := ⟨_, rfl⟩); (have hxl : s.data.toList[i]? = some x := by rw [← hx]; exact Lib.data_getElem? s i hi); (have hlen : s.data.toList.length = s.size := (Lib.size_eq s).symm)
   by_cases h128 : x.toNat < 128
   ·have hd := decode_ascii s i hi (by rw [hx]; exact h128)
    (rw [hx] at hd); (rw [hd] at hnx hit2 HB2 hsz2); (have HIT : Aside ((wr.iterAt w.heap.size s (i + 1)).heap[w.heap.size]? = some (.stringIter s (i + 1))) := hit2); (have Hx : Aside (s.data.toList[i]? = some x) := hxl); clear hxl hx hit2 hd hit; (have hcon := Lib.contains_iff_indexByte chars.data.toList x); (have hback : ((x.toNat : Int)).toNat.toUInt8 = x := by simp)
    cases hin : chars.data.toList.contains x
    ·rw [hin] at hcon
     (have hlt : ¬ ((0 : Int) ≤ Lib.indexByte chars.data.toList x) := of_decide_eq_false hcon.symm); clear hcon
     go_wp2_with (go_at_fn (ρ.f 152); refine (Any.strings_IndexRune_ascii { L with } _ _ _ (by omega) (by omega)).mono ?_; rintro e w' ⟨rfl, hw⟩; rw [hw, hback])
     go_roundg (s.size - (i + 1))
     case measure => omega
     case rel => exact ⟨i + 1, by omega, by omega, HIT.out, HB2.out, HN.out.succ Hx.out hin⟩
    ·rw [hin] at hcon
     (have hge : (0 : Int) ≤ Lib.indexByte chars.data.toList x := of_decide_eq_true hcon.symm); clear hcon
     go_wp2_with (go_at_fn (ρ.f 152); refine (Any.strings_IndexRune_ascii { L with } _ _ _ (by omega) (by omega)).mono ?_; rintro e w' ⟨rfl, hw⟩; rw [hw, hback])
     go_ret
     exact ⟨by rw [Lib.indexAny_hit HN.out Hx.out hin]; rfl, HB2.out⟩
   ·have hx0 : s.data.toList.getD i 0 = x := by rw [List.getD_eq_getElem?_getD, hxl]; rfl
    obtain ⟨d1, d2, d3, d4⟩ := dec_wide s i (by omega) (by rw [hx0]; omega)
    have HN2 : Aside (Lib.NoAny s.data.toList chars.data.toList (i + (Utf8.decode s i).2)) := fun j b hj hb => by
     by_cases hji : j < i
     ·exact HN.out j b hji hb
     ·have h4 := d4 (j - i) (by omega)
      rw [show i + (j - i) = j by omega, List.getD_eq_getElem?_getD, hb] at h4
      cases hc : chars.data.toList.contains b with
      | false => rfl
      | true =>
       (have := HA b (by simpa using hc)); (have h4 : 128 ≤ b.toNat := h4)
       omega
    clear hxl hx hx0 d4 hit
    generalize (Utf8.decode s i).1 = r at hnx d3
    generalize (Utf8.decode s i).2 = wd at hnx d1 d2 HN2 hit2 HB2 hsz2
    (have HIT : Aside ((wr.iterAt w.heap.size s (i + wd)).heap[w.heap.size]? = some (.stringIter s (i + wd))) := hit2); clear hit2
    generalize wr.iterAt w.heap.size s (i + wd) = wn at hnx HB2 hsz2 HIT
    have hIR : ∀ w : World, Calls P (ρ.f 152) #[.string chars, .int .i32 (r : Int)] w fun e w' => e = .returned (.int .i64 (-1)) ∧ Below w.heap.size w w' := fun w => IndexRune_high { L with } chars _ w (by omega) HA hcs
    go_wp2_with (go_at_fn (ρ.f 152); refine (hIR _).mono ?_; rintro e w' ⟨rfl, hb⟩)
    (have HB3 : Aside (Below w.heap.size w w') := HB2.out.trans (hb.mono (by omega))); (have HIT3 : Aside (w'.heap[w.heap.size]? = some (.stringIter s (i + wd))) := by rw [hb.block _ hsz2]; exact HIT.out); clear hb
    go_roundg (s.size - (i + wd))
    case measure => omega
    case rel => exact ⟨i + wd, by omega, by omega, HIT3.out, HB3.out, HN2.out⟩
  ·obtain rfl : i = s.size := by omega
   (have hnx := fun ty => Lib.run_next_end_at (P := P) wr w.heap.size s s.size ty hit (by omega)); clear hit
   go_wp2
   go_ret
   exact ⟨by rw [Lib.indexAny_none (by rw [← Lib.size_eq]; exact HN.out)]; rfl, HB.out⟩
theorem ContainsAny_any (L : Lays.n150 P ρ) (h116 : (P.info? (ρ.t 116)).map (fun i => (i.zero, i.size)) = some (some (.agg (Array.replicate 256 (.bool false))), 256)) (s chars : ByteArray) (w : World) (hs : s.size < 4294967281) (hcs : chars.size < 4294967281) (h2 : 2 ≤ chars.size)
  (hac : ∀ b ∈ chars.data.toList, b.toNat < 128) :
  Calls P (ρ.f 150) #[.string s, .string chars] w fun e w' => e = .returned (.bool (Lib.containsAny s.data.toList chars.data.toList)) ∧ Below w.heap.size w w' := by
 have hI : ∀ w : World, Calls P (ρ.f 153) #[.string s, .string chars] w fun e w' => e = .returned (.int .i64 (Lib.indexAny s.data.toList chars.data.toList)) ∧ Below w.heap.size w w' := by
  intro w
  by_cases h8 : s.size ≤ 8
  ·exact IndexAny_short { L with } s chars w h2 hcs h8 hac
  ·exact (Any.strings_IndexAny_long { L with } (zero_of_info h116).1 (zero_of_info h116).2 s chars w h2 (by omega) hs hcs (fun j b hb => hac b (List.mem_of_getElem? hb))).mono fun e w' ⟨he, hw⟩ => ⟨he, by rw [hw]; exact ((Below.refl _ w).alloc (Nat.le_refl _) _).alloc (by simp) _⟩
 clear hac; (have t3 := L.t3; have a3 := L.a3; have z3 := L.z3; have v3 := L.v3); (have t4 := L.t4; have a4 := L.a4; have z4 := L.z4; have v4 := L.v4); (have t9 := L.t9; have a9 := L.a9; have z9 := L.z9; have v9 := L.v9); (have e153 : ∀ args w, (callFunc (ρ.f 153) args).run P w = .ok (.enter (ρ.f 153) args) w := enters_of L.f153 (by kernel_rfl) rfl)
 go_enter L.f150, Body.n150_ntmps ρ
 go_wp2_with (go_at_fn (ρ.f 153); refine (hI _).mono ?_; rintro e w' ⟨rfl, hw⟩)
 go_ret
 exact ⟨rfl, hw⟩
end
def reqWordAt.f (a0 : Int) : Option ByteArray := if 0 ≤ a0 then reqWordsL[a0.toNat]? else none
theorem reqWordAt.calls : True := trivial
theorem empty_toList_u8 : (⟨#[]⟩ : ByteArray).toList = ([] : List UInt8) := by rw [Lib.toList_data]
theorem beq_nil_u8 (l : List UInt8) : (l == ([] : List UInt8)) = l.isEmpty := by cases l <;> rfl
theorem reqw_at {W : World} (hG : TabG W) {i : Int} {s : ByteArray} (h : reqWordAt.f i = some s) : W.cell? ⟨0, i.toNat, none⟩ = some (.string s) := by
 unfold reqWordAt.f at h
 split at h
 ·exact hG.reqw _ _ h
 ·cases h
theorem reqw_bd {i : Int} {s : ByteArray} (h : reqWordAt.f i = some s) : 0 ≤ i ∧ i < 7 := by
 unfold reqWordAt.f at h
 split at h
 ·rename_i h0
  (have := (List.getElem?_eq_some_iff.1 h).1); (have h7 : reqWordsL.length = 7 := rfl)
  omega
 ·cases h
theorem word_event {P : Program} {ops : Array Oper} {rest : List Oper} {o : Oper} {a : Act} {Q : Exit → Act → World → Prop} {W : World} (hgd : o.guard = none) {v : Value} (hG : TabG W) (hrun : TabG W → (execOp a.eval o).run P W = .ok (.value v) W)
  (h : ∀ w', Below W.heap.size W w' → wpList P ops Q rest (a.put o.dst v) w') : wpList P ops Q (o :: rest) a W := Kd.event_run hgd (hrun hG) (h W (Below.refl _ _))
shelf_lay Lays.n150 Nm 150 at Tryd as Tryd.lays150
theorem strings_ContainsAny.set : (Tryd.prog.info? (Tryd.lays150_ren.t 116)).map (fun i => (i.zero, i.size)) = some (some (.agg (Array.replicate 256 (.bool false))), 256) := by kernel_rfl
def strings_ContainsAny.f (a0 a1 : ByteArray) : Option Bool := if a0.size < 4294967281 ∧ a1.size < 4294967281 ∧ 2 ≤ a1.size ∧ (a1.data.toList.all fun b => decide (b.toNat < 128)) = true then some (Lib.containsAny a0.data.toList a1.data.toList) else none
theorem strings_ContainsAny.calls (a0 a1 : ByteArray) (r : Bool) (w : World) (h : strings_ContainsAny.f a0 a1 = some r) :
  Calls Tryd.prog 37 #[.string a0, .string a1] w fun e w' => e = .returned (.bool r) ∧ Below w.heap.size w w' := by
 unfold strings_ContainsAny.f at h
 split at h
 ·rename_i hs
  obtain rfl := Option.some.inj h
  exact ContainsAny_any Tryd.lays150 strings_ContainsAny.set a0 a1 w hs.1 hs.2.1 hs.2.2.1 (fun b hb => of_decide_eq_true (List.all_eq_true.1 hs.2.2.2 b hb))
 ·cases h
end Go.Proofs.YtgnbfmoifnfneaaDoor.QA
namespace Go.Proofs.YtgnbfmoifnfneaaDoor.QA
open Go.RowKit Go.Proofs.YtgnbfmoifnfneaaDoorW.PrintWords Go.Proofs.YtgnbfmoifnfneaaDoorW.PrintLast Go.Proofs.YtgnbfmoifnfneaaDoorW.PrintMore
attribute [local go_sem] max2_int min2_int max_two min_two max_three min_three max_four min_four
set_option linter.unusedVariables false
set_option linter.unusedSimpArgs false
set_option maxHeartbeats 8000000
set_option maxRecDepth 100000
attribute [local go_sem high] eqA23
mutual
def impl_reqText.j0 : Nat → ByteArray → List Int → Int → ByteArray → Int → Int → Int → Int → ByteArray → Int → ByteArray → Int → Int → Int → Int → ByteArray → Option (ByteArray)
 | 0, _, _, _, _, _, _, _, _, _, _, _, _, _, _, _, _ => none
 | k + 1, x4, x5, x142000, x142001, x142002, x142003, x142004, x142005, x142006, x144000, x144001, x144002, x144003, x144004, x144005, x144006 => if (!(x144000 == 0) || (!(x144001.toList == ([] : List UInt8)) || (!(x144002 == 0) || (!(x144003 == 0) || (!(x144004 == 0) || (!(x144005 == 0) || (!(x144006.toList == ([] : List UInt8))))))))) = true then (impl_reqText.j1 k x4 x5 true x142000 x142001 x142002 x142003 x142004 x142005 x142006) else (if x142001.toList = ([] : List UInt8) then (impl_reqText.j1 k x4 x5 true x142000 x142001 x142002 x142003 x142004 x142005 x142006) else ((strings_ContainsAny.f x142001 (⟨#[9, 10, 13, 32]⟩ : ByteArray)).bind fun t156 => (impl_reqText.j1 k x4 x5 t156 x142000 x142001 x142002 x142003 x142004 x142005 x142006)))
def impl_reqText.j1 : Nat → ByteArray → List Int → Bool → Int → ByteArray → Int → Int → Int → Int → ByteArray → Option (ByteArray)
 | 0, _, _, _, _, _, _, _, _, _, _ => none
 | k + 1, x4, x5, x72, x142000, x142001, x142002, x142003, x142004, x142005, x142006 => if x72 = true then (some (⟨#[]⟩ : ByteArray)) else (if x4.size + 1 ≤ 9223372036854775807 then (if (x4 ++ (⟨#[32]⟩ : ByteArray)).size + x142001.size ≤ 9223372036854775807 then (impl_reqText.l0 k ((x4 ++ (⟨#[32]⟩ : ByteArray)) ++ x142001) x5 (x5.length : Int) 0) else (none)) else (none))
def impl_reqText.l0 : Nat → ByteArray → List Int → Int → Int → Option (ByteArray)
 | 0, _, _, _, _ => none
 | k + 1, x6, x78, x79, x80 => if x80 < x79 then (if 0 ≤ x80 then (if x80 < (x78.length : Int) then ((impl_within.f (rd x78 x80) 0 999999999).bind fun t158 => (if t158 = true then ((strconv_Itoa_36.f (rd x78 x80)).bind fun t159 => (if 1 + t159.size ≤ 9223372036854775807 then (if x6.size + ((⟨#[32]⟩ : ByteArray) ++ t159).size ≤ 9223372036854775807 then (impl_reqText.l0 k (x6 ++ ((⟨#[32]⟩ : ByteArray) ++ t159)) x78 x79 (wrap64 (x80 + 1))) else (none)) else (none))) else (some (⟨#[]⟩ : ByteArray)))) else (none)) else (none)) else (some x6)
end
def impl_reqText.f (k : Nat) (a0_0 : Int) (a0_1 : ByteArray) (a0_2 : Int) (a0_3 : Int) (a0_4 : Int) (a0_5 : Int) (a0_6 : ByteArray) : Option (ByteArray) := (impl_isReq.f a0_0 a0_1 a0_2 a0_3 a0_4 a0_5 a0_6).bind fun t142 => (if t142 = true then ((reqWordAt.f a0_0).bind fun t144 => (if a0_0 = 6 then (if (!(a0_1.toList == ([] : List UInt8)) || (!(a0_2 == 0) || (!(a0_3 == 0) || (!(a0_4 == 0))))) = true then (some (⟨#[]⟩ : ByteArray)) else ((strings_Contains.f a0_6 (⟨#[10]⟩ : ByteArray)).bind fun t145 => (if t145 = true then (some (⟨#[]⟩ : ByteArray)) else (if t144.size + 1 ≤ 9223372036854775807 then ((strconv_Itoa_36.f a0_5).bind fun t146 => (if (t144 ++ (⟨#[32]⟩ : ByteArray)).size + t146.size ≤ 9223372036854775807 then (if ((t144 ++ (⟨#[32]⟩ : ByteArray)) ++ t146).size + 1 ≤ 9223372036854775807 then (if (((t144 ++ (⟨#[32]⟩ : ByteArray)) ++ t146) ++ (⟨#[32]⟩ : ByteArray)).size + a0_6.size ≤ 9223372036854775807 then (some ((((t144 ++ (⟨#[32]⟩ : ByteArray)) ++ t146) ++ (⟨#[32]⟩ : ByteArray)) ++ a0_6)) else (none)) else (none)) else (none))) else (none))))) else (if a0_0 = 2 then (impl_reqText.j0 k t144 (([a0_3, a0_4] : List Int)) a0_0 a0_1 a0_2 a0_3 a0_4 a0_5 a0_6 0 (⟨#[]⟩ : ByteArray) a0_2 0 0 a0_5 a0_6) else (if a0_0 = 3 then (impl_reqText.j0 k t144 (([a0_2] : List Int)) a0_0 a0_1 a0_2 a0_3 a0_4 a0_5 a0_6 0 (⟨#[]⟩ : ByteArray) 0 a0_3 a0_4 a0_5 a0_6) else (if a0_0 = 5 then (impl_reqText.j0 k t144 (([a0_2] : List Int)) a0_0 a0_1 a0_2 a0_3 a0_4 a0_5 a0_6 0 (⟨#[]⟩ : ByteArray) 0 a0_3 a0_4 a0_5 a0_6) else (impl_reqText.j0 k t144 ([] : List Int) a0_0 a0_1 a0_2 a0_3 a0_4 a0_5 a0_6 0 (⟨#[]⟩ : ByteArray) a0_2 a0_3 a0_4 a0_5 a0_6)))))) else (some (⟨#[]⟩ : ByteArray)))
def impl_reqText.T10 : Bool × List (List Nat × List Nat) := (true, [([], []), ([0], [0]), ([], []), ([2], [2]), ([3], [3]), ([1, 4], [1, 4]), ([5], [5]), ([], []), ([7], [7]), ([6, 8], [6, 8]), ([9, 4, 0, 1, 2, 3, 4, 5, 6, 7, 8, 9], [9])])
def impl_reqText.B10 : List Nat := [0, 1, 0, 4, 12, 31, 63, 0, 128, 511, 1023]
theorem impl_reqText.tab10 : rtab .any (opsOf Tryd.f19 10) = impl_reqText.T10 := by kernel_rfl
theorem impl_reqText.bits10 : waitsOk impl_reqText.T10.2 impl_reqText.B10 = true := by kernel_rfl
theorem impl_reqText.calls (k : Nat) (a0_0 : Int) (a0_1 : ByteArray) (a0_2 : Int) (a0_3 : Int) (a0_4 : Int) (a0_5 : Int) (a0_6 : ByteArray) (r : ByteArray) (w : World) (h : impl_reqText.f k a0_0 a0_1 a0_2 a0_3 a0_4 a0_5 a0_6 = some r) (hG : TabG w) :
  Calls Tryd.prog 19 #[.agg #[.int .i64 a0_0, .string a0_1, .int .i64 a0_2, .int .i64 a0_3, .int .i64 a0_4, .int .i64 a0_5, .string a0_6]] w fun e w' => e = .returned (.string r) ∧ Below w.heap.size w w' := by
 (have hu23 := Tryd.underlying23); (have HB := Aside0.mk (Below.refl w.heap.size w)); (have H : ((impl_isReq.f a0_0 a0_1 a0_2 a0_3 a0_4 a0_5 a0_6).bind fun t142 => (if t142 = true then ((reqWordAt.f a0_0).bind fun t144 => (if a0_0 = 6 then (if (!(a0_1.toList == ([] : List UInt8)) || (!(a0_2 == 0) || (!(a0_3 == 0) || (!(a0_4 == 0))))) = true then (some (⟨#[]⟩ : ByteArray)) else ((strings_Contains.f a0_6 (⟨#[10]⟩ : ByteArray)).bind fun t145 => (if t145 = true then (some (⟨#[]⟩ : ByteArray)) else (if t144.size + 1 ≤ 9223372036854775807 then ((strconv_Itoa_36.f a0_5).bind fun t146 => (if (t144 ++ (⟨#[32]⟩ : ByteArray)).size + t146.size ≤ 9223372036854775807 then (if ((t144 ++ (⟨#[32]⟩ : ByteArray)) ++ t146).size + 1 ≤ 9223372036854775807 then (if (((t144 ++ (⟨#[32]⟩ : ByteArray)) ++ t146) ++ (⟨#[32]⟩ : ByteArray)).size + a0_6.size ≤ 9223372036854775807 then (some ((((t144 ++ (⟨#[32]⟩ : ByteArray)) ++ t146) ++ (⟨#[32]⟩ : ByteArray)) ++ a0_6)) else (none)) else (none)) else (none))) else (none))))) else (if a0_0 = 2 then (impl_reqText.j0 k t144 (([a0_3, a0_4] : List Int)) a0_0 a0_1 a0_2 a0_3 a0_4 a0_5 a0_6 0 (⟨#[]⟩ : ByteArray) a0_2 0 0 a0_5 a0_6) else (if a0_0 = 3 then (impl_reqText.j0 k t144 (([a0_2] : List Int)) a0_0 a0_1 a0_2 a0_3 a0_4 a0_5 a0_6 0 (⟨#[]⟩ : ByteArray) 0 a0_3 a0_4 a0_5 a0_6) else (if a0_0 = 5 then (impl_reqText.j0 k t144 (([a0_2] : List Int)) a0_0 a0_1 a0_2 a0_3 a0_4 a0_5 a0_6 0 (⟨#[]⟩ : ByteArray) 0 a0_3 a0_4 a0_5 a0_6) else (impl_reqText.j0 k t144 ([] : List Int) a0_0 a0_1 a0_2 a0_3 a0_4 a0_5 a0_6 0 (⟨#[]⟩ : ByteArray) a0_2 a0_3 a0_4 a0_5 a0_6)))))) else (some (⟨#[]⟩ : ByteArray)))) = some r := h); clear h; (obtain ⟨t142, A2, H⟩ := qX H)
 try dsimp only at H
 by_cases c3 : t142 = true
 ·subst c3
  (have H1 : ((reqWordAt.f a0_0).bind fun t144 => (if a0_0 = 6 then (if (!(a0_1.toList == ([] : List UInt8)) || (!(a0_2 == 0) || (!(a0_3 == 0) || (!(a0_4 == 0))))) = true then (some (⟨#[]⟩ : ByteArray)) else ((strings_Contains.f a0_6 (⟨#[10]⟩ : ByteArray)).bind fun t145 => (if t145 = true then (some (⟨#[]⟩ : ByteArray)) else (if t144.size + 1 ≤ 9223372036854775807 then ((strconv_Itoa_36.f a0_5).bind fun t146 => (if (t144 ++ (⟨#[32]⟩ : ByteArray)).size + t146.size ≤ 9223372036854775807 then (if ((t144 ++ (⟨#[32]⟩ : ByteArray)) ++ t146).size + 1 ≤ 9223372036854775807 then (if (((t144 ++ (⟨#[32]⟩ : ByteArray)) ++ t146) ++ (⟨#[32]⟩ : ByteArray)).size + a0_6.size ≤ 9223372036854775807 then (some ((((t144 ++ (⟨#[32]⟩ : ByteArray)) ++ t146) ++ (⟨#[32]⟩ : ByteArray)) ++ a0_6)) else (none)) else (none)) else (none))) else (none))))) else (if a0_0 = 2 then (impl_reqText.j0 k t144 (([a0_3, a0_4] : List Int)) a0_0 a0_1 a0_2 a0_3 a0_4 a0_5 a0_6 0 (⟨#[]⟩ : ByteArray) a0_2 0 0 a0_5 a0_6) else (if a0_0 = 3 then (impl_reqText.j0 k t144 (([a0_2] : List Int)) a0_0 a0_1 a0_2 a0_3 a0_4 a0_5 a0_6 0 (⟨#[]⟩ : ByteArray) 0 a0_3 a0_4 a0_5 a0_6) else (if a0_0 = 5 then (impl_reqText.j0 k t144 (([a0_2] : List Int)) a0_0 a0_1 a0_2 a0_3 a0_4 a0_5 a0_6 0 (⟨#[]⟩ : ByteArray) 0 a0_3 a0_4 a0_5 a0_6) else (impl_reqText.j0 k t144 ([] : List Int) a0_0 a0_1 a0_2 a0_3 a0_4 a0_5 a0_6 0 (⟨#[]⟩ : ByteArray) a0_2 a0_3 a0_4 a0_5 a0_6)))))) = some r := by rw [if_pos rfl] at H; exact H); clear H; (have H := H1); clear H1; (replace H := Option.bind_eq_some_iff.mp H); (obtain ⟨t144, A40, H⟩ := H)
  try dsimp only at H
  (have A4 := Aside0.mk A40); (obtain ⟨hq0_, hq7_⟩ := reqw_bd A4.out); (have hr0_ := eq_true hq0_); (have hr7_ := eq_true hq7_); (have hr7b_ : (a0_0 < ((7 : Nat) : Int)) = True := eq_true hq7_); (have hu102_ := Tryd.underlying102); clear hq0_ hq7_ A40
  rcases qJ H with ⟨c5, H⟩ | ⟨c5, H⟩
  ·have c5b0 : (a0_0 == 6) = true := beq_iff_eq.mpr c5
   (have c5b1 : (a0_0 != 6) = false := bne_eq_false_iff_eq.mpr c5); clear c5
   rcases qJ H with ⟨c6, H⟩ | ⟨c6, H⟩
   ·have c6b0 : (!(a0_1.toList == ([] : List UInt8)) || (!(a0_2 == 0) || (!(a0_3 == 0) || (!(a0_4 == 0))))) = true := c6
    (have c6b0E := c6b0); (try simp only [empty_toList_u8, beq_nil_u8, beq_self_eq_true, Bool.not_true, Bool.false_or, List.isEmpty_nil] at c6b0E); clear c6; (obtain rfl := Option.some.inj H)
    go_enter Tryd.func19, Tryd.ntmps19
    go_wp2_with (first | ((with_reducible refine gate_dst (N := 1) rfl ?_); refine box_event ?hg (N := 1) ?hd (cs := #[.int .i64 a0_0, .string a0_1, .int .i64 a0_2, .int .i64 a0_3, .int .i64 a0_4, .int .i64 a0_5, .string a0_6]) (t := 23) ?hr ?_; (case hd => rfl); (case hg => rfl); (case hr => first | (go_simp; done) | (go_simp; rfl)); intro gb141 hg w7 hbox hb; have BK141 := Aside0.mk (hbox); have GW141 := qG hg (below_size (qS0 HB)); have GE141 := qG hg (below_size (qS0 HB)); replace HB := Aside0.mk (below_step (qS0 HB) hb); clear hb hbox hg; obtain ⟨hcz8_0, hcz8_1, hcz8_2, hcz8_3, hcz8_4, hcz8_5, hcz8_6, hfz8_0, hfz8_1, hfz8_2, hfz8_3, hfz8_4, hfz8_5, hfz8_6⟩ := qC7 BK141) | ((with_reducible refine gate_callee (f := 34) rfl ?_); refine goesL_ (some 10) rfl rfl Tryd.func34 (by kernel_rfl) rfl #[.agg #[.int .i64 a0_0, .string a0_1, .int .i64 a0_2, .int .i64 a0_3, .int .i64 a0_4, .int .i64 a0_5, .string a0_6]] rfl qL ?_; (with_reducible refine (impl_isReq.calls a0_0 a0_1 a0_2 a0_3 a0_4 a0_5 a0_6 true _ A2.out).mono ?_); rintro e w9 ⟨rfl, hb⟩; refine ⟨_, rfl, ?_⟩; replace BK141 := qD BK141 hb; replace HB := Aside0.mk (below_step (qS1 HB GE141) hb); (try clear hb); (try clear hb2); (try clear hk); (try clear hi); obtain ⟨hcz10_0, hcz10_1, hcz10_2, hcz10_3, hcz10_4, hcz10_5, hcz10_6, hfz10_0, hfz10_1, hfz10_2, hfz10_3, hfz10_4, hfz10_5, hfz10_6⟩ := qC7 BK141) | ((with_reducible refine gate_dst (N := 3) rfl ?_); refine box_event ?hg (N := 3) ?hd (cs := #[.int .i64 0, .string (⟨#[]⟩ : ByteArray), .int .i64 0, .int .i64 0, .int .i64 0, .int .i64 0, .string (⟨#[]⟩ : ByteArray)]) (t := 23) ?hr ?_; (case hd => rfl); (case hg => rfl); (case hr => first | (go_simp; done) | (go_simp; rfl)); intro gb143 hg w11 hbox hb; have BK143 := Aside0.mk (hbox); have GW143 := qG hg (below_size (qS1 HB GE141)); have GE143 := qG hg (below_size (qS1 HB GE141)); replace HB := Aside0.mk (below_step (qS1 HB GE141) hb); have NB141_143 := qN hg (blk_lt (qB BK141)); have NB143_141 := qM hg (blk_lt (qB BK141)); replace BK141 := qD BK141 hb; clear hb hbox hg; have hnb12 := NB143_141.out; have hnc12 := NB141_143.out; obtain ⟨hcz13_0, hcz13_1, hcz13_2, hcz13_3, hcz13_4, hcz13_5, hcz13_6, hfz13_0, hfz13_1, hfz13_2, hfz13_3, hfz13_4, hfz13_5, hfz13_6⟩ := qC7 BK143; obtain ⟨hcz14_0, hcz14_1, hcz14_2, hcz14_3, hcz14_4, hcz14_5, hcz14_6, hfz14_0, hfz14_1, hfz14_2, hfz14_3, hfz14_4, hfz14_5, hfz14_6⟩ := qC7 BK141) | ((with_reducible refine gate_dst (N := 17) rfl ?_); refine word_event rfl (v := .string t144) (G_below (qS2 HB GE141 GE143) hG) ?hr ?_; (case hr => intro hG_; have hgl_ := reqw_at hG_ A4.out; first | (go_simp; done) | (go_simp; rfl)); intro w15 hb; replace BK141 := Aside0.mk (blk_below (g := gb141) (o := .cells #[.int .i64 a0_0, .string a0_1, .int .i64 a0_2, .int .i64 a0_3, .int .i64 a0_4, .int .i64 a0_5, .string a0_6] 23 (0, 0)) (by (with_reducible repeat (first | refine blk_drewN ?_ _ | refine blk_drew ?_ | refine blk_alloc ?_ _)); refine blk_far ?_ NB141_143.out _; (with_reducible repeat (first | refine blk_drewN ?_ _ | refine blk_drew ?_ | refine blk_alloc ?_ _)); refine blk_far ?_ NB141_143.out _; (with_reducible repeat (first | refine blk_drewN ?_ _ | refine blk_drew ?_ | refine blk_alloc ?_ _)); refine blk_far ?_ NB141_143.out _; (with_reducible repeat (first | refine blk_drewN ?_ _ | refine blk_drew ?_ | refine blk_alloc ?_ _)); refine blk_far ?_ NB141_143.out _; (with_reducible repeat (first | refine blk_drewN ?_ _ | refine blk_drew ?_ | refine blk_alloc ?_ _)); refine blk_far ?_ NB141_143.out _; (with_reducible repeat (first | refine blk_drewN ?_ _ | refine blk_drew ?_ | refine blk_alloc ?_ _)); refine blk_far ?_ NB141_143.out _; (with_reducible repeat (first | refine blk_drewN ?_ _ | refine blk_drew ?_ | refine blk_alloc ?_ _)); refine blk_far ?_ NB141_143.out _; (with_reducible repeat (first | refine blk_drewN ?_ _ | refine blk_drew ?_ | refine blk_alloc ?_ _)); refine blk_far ?_ NB141_143.out _; (with_reducible repeat (first | refine blk_drewN ?_ _ | refine blk_drew ?_ | refine blk_alloc ?_ _)); exact BK141.out) hb); replace BK143 := Aside0.mk (blk_below (g := gb143) (o := .cells #[.int .i64 0, .string a0_1, .int .i64 a0_2, .int .i64 a0_3, .int .i64 a0_4, .int .i64 a0_5, .string a0_6] 23 (0, 0)) (by (with_reducible repeat (first | refine blk_drewN ?_ _ | refine blk_drew ?_ | refine blk_alloc ?_ _)); refine blk_put (cs := #[.int .i64 a0_0, .string a0_1, .int .i64 a0_2, .int .i64 a0_3, .int .i64 a0_4, .int .i64 a0_5, .string a0_6]) ?_ 0 _ rfl; (with_reducible repeat (first | refine blk_drewN ?_ _ | refine blk_drew ?_ | refine blk_alloc ?_ _)); refine blk_put (cs := #[.int .i64 a0_0, .string a0_1, .int .i64 a0_2, .int .i64 a0_3, .int .i64 a0_4, .int .i64 a0_5, .string (⟨#[]⟩ : ByteArray)]) ?_ 6 _ rfl; (with_reducible repeat (first | refine blk_drewN ?_ _ | refine blk_drew ?_ | refine blk_alloc ?_ _)); refine blk_put (cs := #[.int .i64 a0_0, .string a0_1, .int .i64 a0_2, .int .i64 a0_3, .int .i64 a0_4, .int .i64 0, .string (⟨#[]⟩ : ByteArray)]) ?_ 5 _ rfl; (with_reducible repeat (first | refine blk_drewN ?_ _ | refine blk_drew ?_ | refine blk_alloc ?_ _)); refine blk_put (cs := #[.int .i64 a0_0, .string a0_1, .int .i64 a0_2, .int .i64 a0_3, .int .i64 0, .int .i64 0, .string (⟨#[]⟩ : ByteArray)]) ?_ 4 _ rfl; (with_reducible repeat (first | refine blk_drewN ?_ _ | refine blk_drew ?_ | refine blk_alloc ?_ _)); refine blk_put (cs := #[.int .i64 a0_0, .string a0_1, .int .i64 a0_2, .int .i64 0, .int .i64 0, .int .i64 0, .string (⟨#[]⟩ : ByteArray)]) ?_ 3 _ rfl; (with_reducible repeat (first | refine blk_drewN ?_ _ | refine blk_drew ?_ | refine blk_alloc ?_ _)); refine blk_put (cs := #[.int .i64 a0_0, .string a0_1, .int .i64 0, .int .i64 0, .int .i64 0, .int .i64 0, .string (⟨#[]⟩ : ByteArray)]) ?_ 2 _ rfl; (with_reducible repeat (first | refine blk_drewN ?_ _ | refine blk_drew ?_ | refine blk_alloc ?_ _)); refine blk_put (cs := #[.int .i64 a0_0, .string (⟨#[]⟩ : ByteArray), .int .i64 0, .int .i64 0, .int .i64 0, .int .i64 0, .string (⟨#[]⟩ : ByteArray)]) ?_ 1 _ rfl; (with_reducible repeat (first | refine blk_drewN ?_ _ | refine blk_drew ?_ | refine blk_alloc ?_ _)); refine blk_put (cs := #[.int .i64 0, .string (⟨#[]⟩ : ByteArray), .int .i64 0, .int .i64 0, .int .i64 0, .int .i64 0, .string (⟨#[]⟩ : ByteArray)]) ?_ 0 _ rfl; (with_reducible repeat (first | refine blk_drewN ?_ _ | refine blk_drew ?_ | refine blk_alloc ?_ _)); exact BK143.out) hb); replace HB := Aside0.mk (below_step (qS2 HB GE141 GE143) hb); (try clear hb); (try clear hb2); (try clear hk); (try clear hi); obtain ⟨hcz16_0, hcz16_1, hcz16_2, hcz16_3, hcz16_4, hcz16_5, hcz16_6, hfz16_0, hfz16_1, hfz16_2, hfz16_3, hfz16_4, hfz16_5, hfz16_6⟩ := qC7 BK141; obtain ⟨hcz17_0, hcz17_1, hcz17_2, hcz17_3, hcz17_4, hcz17_5, hcz17_6, hfz17_0, hfz17_1, hfz17_2, hfz17_3, hfz17_4, hfz17_5, hfz17_6⟩ := qC7 BK143))
    go_ret
    exact ⟨qE, qS2 HB GE141 GE143⟩
   ·have c6b0 : (!(a0_1.toList == ([] : List UInt8)) || (!(a0_2 == 0) || (!(a0_3 == 0) || (!(a0_4 == 0))))) = false := by simpa using c6
    (have c6b0E := c6b0); (try simp only [empty_toList_u8, beq_nil_u8, beq_self_eq_true, Bool.not_true, Bool.false_or, List.isEmpty_nil] at c6b0E); clear c6; (obtain ⟨t145, A18, H⟩ := qX H)
    try dsimp only at H
    by_cases c19 : t145 = true
    ·subst c19
     (have H1 : (some (⟨#[]⟩ : ByteArray)) = some r := by rw [if_pos rfl] at H; exact H); clear H; (have H := H1); clear H1; (obtain rfl := Option.some.inj H)
     go_enter Tryd.func19, Tryd.ntmps19
     go_wp2_with (first | ((with_reducible refine gate_dst (N := 1) rfl ?_); refine box_event ?hg (N := 1) ?hd (cs := #[.int .i64 a0_0, .string a0_1, .int .i64 a0_2, .int .i64 a0_3, .int .i64 a0_4, .int .i64 a0_5, .string a0_6]) (t := 23) ?hr ?_; (case hd => rfl); (case hg => rfl); (case hr => first | (go_simp; done) | (go_simp; rfl)); intro gb141 hg w20 hbox hb; have BK141 := Aside0.mk (hbox); have GW141 := qG hg (below_size (qS0 HB)); have GE141 := qG hg (below_size (qS0 HB)); replace HB := Aside0.mk (below_step (qS0 HB) hb); clear hb hbox hg; obtain ⟨hcz21_0, hcz21_1, hcz21_2, hcz21_3, hcz21_4, hcz21_5, hcz21_6, hfz21_0, hfz21_1, hfz21_2, hfz21_3, hfz21_4, hfz21_5, hfz21_6⟩ := qC7 BK141) | ((with_reducible refine gate_callee (f := 34) rfl ?_); refine goesL_ (some 10) rfl rfl Tryd.func34 (by kernel_rfl) rfl #[.agg #[.int .i64 a0_0, .string a0_1, .int .i64 a0_2, .int .i64 a0_3, .int .i64 a0_4, .int .i64 a0_5, .string a0_6]] rfl qL ?_; (with_reducible refine (impl_isReq.calls a0_0 a0_1 a0_2 a0_3 a0_4 a0_5 a0_6 true _ A2.out).mono ?_); rintro e w22 ⟨rfl, hb⟩; refine ⟨_, rfl, ?_⟩; replace BK141 := qD BK141 hb; replace HB := Aside0.mk (below_step (qS1 HB GE141) hb); (try clear hb); (try clear hb2); (try clear hk); (try clear hi); obtain ⟨hcz23_0, hcz23_1, hcz23_2, hcz23_3, hcz23_4, hcz23_5, hcz23_6, hfz23_0, hfz23_1, hfz23_2, hfz23_3, hfz23_4, hfz23_5, hfz23_6⟩ := qC7 BK141) | ((with_reducible refine gate_dst (N := 3) rfl ?_); refine box_event ?hg (N := 3) ?hd (cs := #[.int .i64 0, .string (⟨#[]⟩ : ByteArray), .int .i64 0, .int .i64 0, .int .i64 0, .int .i64 0, .string (⟨#[]⟩ : ByteArray)]) (t := 23) ?hr ?_; (case hd => rfl); (case hg => rfl); (case hr => first | (go_simp; done) | (go_simp; rfl)); intro gb143 hg w24 hbox hb; have BK143 := Aside0.mk (hbox); have GW143 := qG hg (below_size (qS1 HB GE141)); have GE143 := qG hg (below_size (qS1 HB GE141)); replace HB := Aside0.mk (below_step (qS1 HB GE141) hb); have NB141_143 := qN hg (blk_lt (qB BK141)); have NB143_141 := qM hg (blk_lt (qB BK141)); replace BK141 := qD BK141 hb; clear hb hbox hg; have hnb25 := NB143_141.out; have hnc25 := NB141_143.out; obtain ⟨hcz26_0, hcz26_1, hcz26_2, hcz26_3, hcz26_4, hcz26_5, hcz26_6, hfz26_0, hfz26_1, hfz26_2, hfz26_3, hfz26_4, hfz26_5, hfz26_6⟩ := qC7 BK143; obtain ⟨hcz27_0, hcz27_1, hcz27_2, hcz27_3, hcz27_4, hcz27_5, hcz27_6, hfz27_0, hfz27_1, hfz27_2, hfz27_3, hfz27_4, hfz27_5, hfz27_6⟩ := qC7 BK141) | ((with_reducible refine gate_dst (N := 17) rfl ?_); refine word_event rfl (v := .string t144) (G_below (qS2 HB GE141 GE143) hG) ?hr ?_; (case hr => intro hG_; have hgl_ := reqw_at hG_ A4.out; first | (go_simp; done) | (go_simp; rfl)); intro w28 hb; replace BK141 := Aside0.mk (blk_below (g := gb141) (o := .cells #[.int .i64 a0_0, .string a0_1, .int .i64 a0_2, .int .i64 a0_3, .int .i64 a0_4, .int .i64 a0_5, .string a0_6] 23 (0, 0)) (by (with_reducible repeat (first | refine blk_drewN ?_ _ | refine blk_drew ?_ | refine blk_alloc ?_ _)); refine blk_far ?_ NB141_143.out _; (with_reducible repeat (first | refine blk_drewN ?_ _ | refine blk_drew ?_ | refine blk_alloc ?_ _)); refine blk_far ?_ NB141_143.out _; (with_reducible repeat (first | refine blk_drewN ?_ _ | refine blk_drew ?_ | refine blk_alloc ?_ _)); refine blk_far ?_ NB141_143.out _; (with_reducible repeat (first | refine blk_drewN ?_ _ | refine blk_drew ?_ | refine blk_alloc ?_ _)); refine blk_far ?_ NB141_143.out _; (with_reducible repeat (first | refine blk_drewN ?_ _ | refine blk_drew ?_ | refine blk_alloc ?_ _)); refine blk_far ?_ NB141_143.out _; (with_reducible repeat (first | refine blk_drewN ?_ _ | refine blk_drew ?_ | refine blk_alloc ?_ _)); refine blk_far ?_ NB141_143.out _; (with_reducible repeat (first | refine blk_drewN ?_ _ | refine blk_drew ?_ | refine blk_alloc ?_ _)); refine blk_far ?_ NB141_143.out _; (with_reducible repeat (first | refine blk_drewN ?_ _ | refine blk_drew ?_ | refine blk_alloc ?_ _)); refine blk_far ?_ NB141_143.out _; (with_reducible repeat (first | refine blk_drewN ?_ _ | refine blk_drew ?_ | refine blk_alloc ?_ _)); exact BK141.out) hb); replace BK143 := Aside0.mk (blk_below (g := gb143) (o := .cells #[.int .i64 0, .string a0_1, .int .i64 a0_2, .int .i64 a0_3, .int .i64 a0_4, .int .i64 a0_5, .string a0_6] 23 (0, 0)) (by (with_reducible repeat (first | refine blk_drewN ?_ _ | refine blk_drew ?_ | refine blk_alloc ?_ _)); refine blk_put (cs := #[.int .i64 a0_0, .string a0_1, .int .i64 a0_2, .int .i64 a0_3, .int .i64 a0_4, .int .i64 a0_5, .string a0_6]) ?_ 0 _ rfl; (with_reducible repeat (first | refine blk_drewN ?_ _ | refine blk_drew ?_ | refine blk_alloc ?_ _)); refine blk_put (cs := #[.int .i64 a0_0, .string a0_1, .int .i64 a0_2, .int .i64 a0_3, .int .i64 a0_4, .int .i64 a0_5, .string (⟨#[]⟩ : ByteArray)]) ?_ 6 _ rfl; (with_reducible repeat (first | refine blk_drewN ?_ _ | refine blk_drew ?_ | refine blk_alloc ?_ _)); refine blk_put (cs := #[.int .i64 a0_0, .string a0_1, .int .i64 a0_2, .int .i64 a0_3, .int .i64 a0_4, .int .i64 0, .string (⟨#[]⟩ : ByteArray)]) ?_ 5 _ rfl; (with_reducible repeat (first | refine blk_drewN ?_ _ | refine blk_drew ?_ | refine blk_alloc ?_ _)); refine blk_put (cs := #[.int .i64 a0_0, .string a0_1, .int .i64 a0_2, .int .i64 a0_3, .int .i64 0, .int .i64 0, .string (⟨#[]⟩ : ByteArray)]) ?_ 4 _ rfl; (with_reducible repeat (first | refine blk_drewN ?_ _ | refine blk_drew ?_ | refine blk_alloc ?_ _)); refine blk_put (cs := #[.int .i64 a0_0, .string a0_1, .int .i64 a0_2, .int .i64 0, .int .i64 0, .int .i64 0, .string (⟨#[]⟩ : ByteArray)]) ?_ 3 _ rfl; (with_reducible repeat (first | refine blk_drewN ?_ _ | refine blk_drew ?_ | refine blk_alloc ?_ _)); refine blk_put (cs := #[.int .i64 a0_0, .string a0_1, .int .i64 0, .int .i64 0, .int .i64 0, .int .i64 0, .string (⟨#[]⟩ : ByteArray)]) ?_ 2 _ rfl; (with_reducible repeat (first | refine blk_drewN ?_ _ | refine blk_drew ?_ | refine blk_alloc ?_ _)); refine blk_put (cs := #[.int .i64 a0_0, .string (⟨#[]⟩ : ByteArray), .int .i64 0, .int .i64 0, .int .i64 0, .int .i64 0, .string (⟨#[]⟩ : ByteArray)]) ?_ 1 _ rfl; (with_reducible repeat (first | refine blk_drewN ?_ _ | refine blk_drew ?_ | refine blk_alloc ?_ _)); refine blk_put (cs := #[.int .i64 0, .string (⟨#[]⟩ : ByteArray), .int .i64 0, .int .i64 0, .int .i64 0, .int .i64 0, .string (⟨#[]⟩ : ByteArray)]) ?_ 0 _ rfl; (with_reducible repeat (first | refine blk_drewN ?_ _ | refine blk_drew ?_ | refine blk_alloc ?_ _)); exact BK143.out) hb); replace HB := Aside0.mk (below_step (qS2 HB GE141 GE143) hb); (try clear hb); (try clear hb2); (try clear hk); (try clear hi); obtain ⟨hcz29_0, hcz29_1, hcz29_2, hcz29_3, hcz29_4, hcz29_5, hcz29_6, hfz29_0, hfz29_1, hfz29_2, hfz29_3, hfz29_4, hfz29_5, hfz29_6⟩ := qC7 BK141; obtain ⟨hcz30_0, hcz30_1, hcz30_2, hcz30_3, hcz30_4, hcz30_5, hcz30_6, hfz30_0, hfz30_1, hfz30_2, hfz30_3, hfz30_4, hfz30_5, hfz30_6⟩ := qC7 BK143) | (go_at_call 35; (with_reducible refine (strings_Contains.calls a0_6 (⟨#[10]⟩ : ByteArray) true _ A18.out).mono ?_); rintro e w31 ⟨rfl, hb⟩; replace BK141 := Aside0.mk (blk_below (g := gb141) (o := .cells #[.int .i64 a0_0, .string a0_1, .int .i64 a0_2, .int .i64 a0_3, .int .i64 a0_4, .int .i64 a0_5, .string a0_6] 23 (0, 0)) (by (with_reducible repeat (first | refine blk_drewN ?_ _ | refine blk_drew ?_ | refine blk_alloc ?_ _)); refine blk_far ?_ NB141_143.out _; (with_reducible repeat (first | refine blk_drewN ?_ _ | refine blk_drew ?_ | refine blk_alloc ?_ _)); refine blk_far ?_ NB141_143.out _; (with_reducible repeat (first | refine blk_drewN ?_ _ | refine blk_drew ?_ | refine blk_alloc ?_ _)); exact BK141.out) hb); replace BK143 := Aside0.mk (blk_below (g := gb143) (o := .cells #[.int .i64 0, .string a0_1, .int .i64 a0_2, .int .i64 a0_3, .int .i64 a0_4, .int .i64 0, .string (⟨#[]⟩ : ByteArray)] 23 (0, 0)) (by (with_reducible repeat (first | refine blk_drewN ?_ _ | refine blk_drew ?_ | refine blk_alloc ?_ _)); refine blk_put (cs := #[.int .i64 0, .string a0_1, .int .i64 a0_2, .int .i64 a0_3, .int .i64 a0_4, .int .i64 0, .string a0_6]) ?_ 6 _ rfl; (with_reducible repeat (first | refine blk_drewN ?_ _ | refine blk_drew ?_ | refine blk_alloc ?_ _)); refine blk_put (cs := #[.int .i64 0, .string a0_1, .int .i64 a0_2, .int .i64 a0_3, .int .i64 a0_4, .int .i64 a0_5, .string a0_6]) ?_ 5 _ rfl; (with_reducible repeat (first | refine blk_drewN ?_ _ | refine blk_drew ?_ | refine blk_alloc ?_ _)); exact BK143.out) hb); replace HB := Aside0.mk (below_step (qS2 HB GE141 GE143) hb); (try clear hb); (try clear hb2); (try clear hk); (try clear hi)))
     go_ret
     exact ⟨qE, qS2 HB GE141 GE143⟩
    ·replace c19 := Bool.eq_false_iff.mpr c19
     (subst c19); (have H1 : (if t144.size + 1 ≤ 9223372036854775807 then ((strconv_Itoa_36.f a0_5).bind fun t146 => (if (t144 ++ (⟨#[32]⟩ : ByteArray)).size + t146.size ≤ 9223372036854775807 then (if ((t144 ++ (⟨#[32]⟩ : ByteArray)) ++ t146).size + 1 ≤ 9223372036854775807 then (if (((t144 ++ (⟨#[32]⟩ : ByteArray)) ++ t146) ++ (⟨#[32]⟩ : ByteArray)).size + a0_6.size ≤ 9223372036854775807 then (some ((((t144 ++ (⟨#[32]⟩ : ByteArray)) ++ t146) ++ (⟨#[32]⟩ : ByteArray)) ++ a0_6)) else (none)) else (none)) else (none))) else (none)) = some r := by rw [if_neg (show ¬ (false = true) by decide)] at H; exact H); clear H; (have H := H1); clear H1; (obtain ⟨c32, H⟩ := qU H); (have c32b0 := eq_true c32); (have c32b1 : decide (t144.size + 1 ≤ 9223372036854775807) = true := decide_eq_true c32)
     try have c32b2 : (9223372036854775807 < t144.size + 1) = False := eq_false (Nat.not_lt.2 c32)
     obtain ⟨t146, A33, H⟩ := qX H
     try dsimp only at H
     (obtain ⟨c34, H⟩ := qU H); (have c34b0 := eq_true c34); (have c34b1 : decide ((t144 ++ (⟨#[32]⟩ : ByteArray)).size + t146.size ≤ 9223372036854775807) = true := decide_eq_true c34)
     try have c34b2 : (9223372036854775807 < (t144 ++ (⟨#[32]⟩ : ByteArray)).size + t146.size) = False := eq_false (Nat.not_lt.2 c34)
     try have c34b3 := c34b2
     try simp only [ByteArray.size_append, show (⟨#[32]⟩ : ByteArray).size = 1 from rfl] at c34b3
     (obtain ⟨c35, H⟩ := qU H); (have c35b0 := eq_true c35); (have c35b1 : decide (((t144 ++ (⟨#[32]⟩ : ByteArray)) ++ t146).size + 1 ≤ 9223372036854775807) = true := decide_eq_true c35)
     try have c35b2 : (9223372036854775807 < ((t144 ++ (⟨#[32]⟩ : ByteArray)) ++ t146).size + 1) = False := eq_false (Nat.not_lt.2 c35)
     try have c35b3 := c35b2
     try simp only [ByteArray.size_append, show (⟨#[32]⟩ : ByteArray).size = 1 from rfl] at c35b3
     (obtain ⟨c36, H⟩ := qU H); (have c36b0 := eq_true c36); (have c36b1 : decide ((((t144 ++ (⟨#[32]⟩ : ByteArray)) ++ t146) ++ (⟨#[32]⟩ : ByteArray)).size + a0_6.size ≤ 9223372036854775807) = true := decide_eq_true c36)
     try have c36b2 : (9223372036854775807 < (((t144 ++ (⟨#[32]⟩ : ByteArray)) ++ t146) ++ (⟨#[32]⟩ : ByteArray)).size + a0_6.size) = False := eq_false (Nat.not_lt.2 c36)
     try have c36b3 := c36b2
     try simp only [ByteArray.size_append, show (⟨#[32]⟩ : ByteArray).size = 1 from rfl] at c36b3
     obtain rfl := Option.some.inj H
     go_enter Tryd.func19, Tryd.ntmps19
     try go_wp2_with (first | ((with_reducible refine gate_dst (N := 1) rfl ?_); refine box_event ?hg (N := 1) ?hd (cs := #[.int .i64 a0_0, .string a0_1, .int .i64 a0_2, .int .i64 a0_3, .int .i64 a0_4, .int .i64 a0_5, .string a0_6]) (t := 23) ?hr ?_; (case hd => rfl); (case hg => rfl); (case hr => first | (go_simp; done) | (go_simp; rfl)); intro gb141 hg w37 hbox hb; have BK141 := Aside0.mk (hbox); have GW141 := qG hg (below_size (qS0 HB)); have GE141 := qG hg (below_size (qS0 HB)); replace HB := Aside0.mk (below_step (qS0 HB) hb); clear hb hbox hg; obtain ⟨hcz38_0, hcz38_1, hcz38_2, hcz38_3, hcz38_4, hcz38_5, hcz38_6, hfz38_0, hfz38_1, hfz38_2, hfz38_3, hfz38_4, hfz38_5, hfz38_6⟩ := qC7 BK141) | ((with_reducible refine gate_callee (f := 34) rfl ?_); refine goesL_ (some 10) rfl rfl Tryd.func34 (by kernel_rfl) rfl #[.agg #[.int .i64 a0_0, .string a0_1, .int .i64 a0_2, .int .i64 a0_3, .int .i64 a0_4, .int .i64 a0_5, .string a0_6]] rfl qL ?_; (with_reducible refine (impl_isReq.calls a0_0 a0_1 a0_2 a0_3 a0_4 a0_5 a0_6 true _ A2.out).mono ?_); rintro e w39 ⟨rfl, hb⟩; refine ⟨_, rfl, ?_⟩; replace BK141 := qD BK141 hb; replace HB := Aside0.mk (below_step (qS1 HB GE141) hb); (try clear hb); (try clear hb2); (try clear hk); (try clear hi); obtain ⟨hcz40_0, hcz40_1, hcz40_2, hcz40_3, hcz40_4, hcz40_5, hcz40_6, hfz40_0, hfz40_1, hfz40_2, hfz40_3, hfz40_4, hfz40_5, hfz40_6⟩ := qC7 BK141) | ((with_reducible refine gate_dst (N := 3) rfl ?_); refine box_event ?hg (N := 3) ?hd (cs := #[.int .i64 0, .string (⟨#[]⟩ : ByteArray), .int .i64 0, .int .i64 0, .int .i64 0, .int .i64 0, .string (⟨#[]⟩ : ByteArray)]) (t := 23) ?hr ?_; (case hd => rfl); (case hg => rfl); (case hr => first | (go_simp; done) | (go_simp; rfl)); intro gb143 hg w41 hbox hb; have BK143 := Aside0.mk (hbox); have GW143 := qG hg (below_size (qS1 HB GE141)); have GE143 := qG hg (below_size (qS1 HB GE141)); replace HB := Aside0.mk (below_step (qS1 HB GE141) hb); have NB141_143 := qN hg (blk_lt (qB BK141)); have NB143_141 := qM hg (blk_lt (qB BK141)); replace BK141 := qD BK141 hb; clear hb hbox hg; have hnb42 := NB143_141.out; have hnc42 := NB141_143.out; obtain ⟨hcz43_0, hcz43_1, hcz43_2, hcz43_3, hcz43_4, hcz43_5, hcz43_6, hfz43_0, hfz43_1, hfz43_2, hfz43_3, hfz43_4, hfz43_5, hfz43_6⟩ := qC7 BK143; obtain ⟨hcz44_0, hcz44_1, hcz44_2, hcz44_3, hcz44_4, hcz44_5, hcz44_6, hfz44_0, hfz44_1, hfz44_2, hfz44_3, hfz44_4, hfz44_5, hfz44_6⟩ := qC7 BK141) | ((with_reducible refine gate_dst (N := 17) rfl ?_); refine word_event rfl (v := .string t144) (G_below (qS2 HB GE141 GE143) hG) ?hr ?_; (case hr => intro hG_; have hgl_ := reqw_at hG_ A4.out; first | (go_simp; done) | (go_simp; rfl)); intro w45 hb; replace BK141 := Aside0.mk (blk_below (g := gb141) (o := .cells #[.int .i64 a0_0, .string a0_1, .int .i64 a0_2, .int .i64 a0_3, .int .i64 a0_4, .int .i64 a0_5, .string a0_6] 23 (0, 0)) (by (with_reducible repeat (first | refine blk_drewN ?_ _ | refine blk_drew ?_ | refine blk_alloc ?_ _)); refine blk_far ?_ NB141_143.out _; (with_reducible repeat (first | refine blk_drewN ?_ _ | refine blk_drew ?_ | refine blk_alloc ?_ _)); refine blk_far ?_ NB141_143.out _; (with_reducible repeat (first | refine blk_drewN ?_ _ | refine blk_drew ?_ | refine blk_alloc ?_ _)); refine blk_far ?_ NB141_143.out _; (with_reducible repeat (first | refine blk_drewN ?_ _ | refine blk_drew ?_ | refine blk_alloc ?_ _)); refine blk_far ?_ NB141_143.out _; (with_reducible repeat (first | refine blk_drewN ?_ _ | refine blk_drew ?_ | refine blk_alloc ?_ _)); refine blk_far ?_ NB141_143.out _; (with_reducible repeat (first | refine blk_drewN ?_ _ | refine blk_drew ?_ | refine blk_alloc ?_ _)); refine blk_far ?_ NB141_143.out _; (with_reducible repeat (first | refine blk_drewN ?_ _ | refine blk_drew ?_ | refine blk_alloc ?_ _)); refine blk_far ?_ NB141_143.out _; (with_reducible repeat (first | refine blk_drewN ?_ _ | refine blk_drew ?_ | refine blk_alloc ?_ _)); refine blk_far ?_ NB141_143.out _; (with_reducible repeat (first | refine blk_drewN ?_ _ | refine blk_drew ?_ | refine blk_alloc ?_ _)); exact BK141.out) hb); replace BK143 := Aside0.mk (blk_below (g := gb143) (o := .cells #[.int .i64 0, .string a0_1, .int .i64 a0_2, .int .i64 a0_3, .int .i64 a0_4, .int .i64 a0_5, .string a0_6] 23 (0, 0)) (by (with_reducible repeat (first | refine blk_drewN ?_ _ | refine blk_drew ?_ | refine blk_alloc ?_ _)); refine blk_put (cs := #[.int .i64 a0_0, .string a0_1, .int .i64 a0_2, .int .i64 a0_3, .int .i64 a0_4, .int .i64 a0_5, .string a0_6]) ?_ 0 _ rfl; (with_reducible repeat (first | refine blk_drewN ?_ _ | refine blk_drew ?_ | refine blk_alloc ?_ _)); refine blk_put (cs := #[.int .i64 a0_0, .string a0_1, .int .i64 a0_2, .int .i64 a0_3, .int .i64 a0_4, .int .i64 a0_5, .string (⟨#[]⟩ : ByteArray)]) ?_ 6 _ rfl; (with_reducible repeat (first | refine blk_drewN ?_ _ | refine blk_drew ?_ | refine blk_alloc ?_ _)); refine blk_put (cs := #[.int .i64 a0_0, .string a0_1, .int .i64 a0_2, .int .i64 a0_3, .int .i64 a0_4, .int .i64 0, .string (⟨#[]⟩ : ByteArray)]) ?_ 5 _ rfl; (with_reducible repeat (first | refine blk_drewN ?_ _ | refine blk_drew ?_ | refine blk_alloc ?_ _)); refine blk_put (cs := #[.int .i64 a0_0, .string a0_1, .int .i64 a0_2, .int .i64 a0_3, .int .i64 0, .int .i64 0, .string (⟨#[]⟩ : ByteArray)]) ?_ 4 _ rfl; (with_reducible repeat (first | refine blk_drewN ?_ _ | refine blk_drew ?_ | refine blk_alloc ?_ _)); refine blk_put (cs := #[.int .i64 a0_0, .string a0_1, .int .i64 a0_2, .int .i64 0, .int .i64 0, .int .i64 0, .string (⟨#[]⟩ : ByteArray)]) ?_ 3 _ rfl; (with_reducible repeat (first | refine blk_drewN ?_ _ | refine blk_drew ?_ | refine blk_alloc ?_ _)); refine blk_put (cs := #[.int .i64 a0_0, .string a0_1, .int .i64 0, .int .i64 0, .int .i64 0, .int .i64 0, .string (⟨#[]⟩ : ByteArray)]) ?_ 2 _ rfl; (with_reducible repeat (first | refine blk_drewN ?_ _ | refine blk_drew ?_ | refine blk_alloc ?_ _)); refine blk_put (cs := #[.int .i64 a0_0, .string (⟨#[]⟩ : ByteArray), .int .i64 0, .int .i64 0, .int .i64 0, .int .i64 0, .string (⟨#[]⟩ : ByteArray)]) ?_ 1 _ rfl; (with_reducible repeat (first | refine blk_drewN ?_ _ | refine blk_drew ?_ | refine blk_alloc ?_ _)); refine blk_put (cs := #[.int .i64 0, .string (⟨#[]⟩ : ByteArray), .int .i64 0, .int .i64 0, .int .i64 0, .int .i64 0, .string (⟨#[]⟩ : ByteArray)]) ?_ 0 _ rfl; (with_reducible repeat (first | refine blk_drewN ?_ _ | refine blk_drew ?_ | refine blk_alloc ?_ _)); exact BK143.out) hb); replace HB := Aside0.mk (below_step (qS2 HB GE141 GE143) hb); (try clear hb); (try clear hb2); (try clear hk); (try clear hi); obtain ⟨hcz46_0, hcz46_1, hcz46_2, hcz46_3, hcz46_4, hcz46_5, hcz46_6, hfz46_0, hfz46_1, hfz46_2, hfz46_3, hfz46_4, hfz46_5, hfz46_6⟩ := qC7 BK141; obtain ⟨hcz47_0, hcz47_1, hcz47_2, hcz47_3, hcz47_4, hcz47_5, hcz47_6, hfz47_0, hfz47_1, hfz47_2, hfz47_3, hfz47_4, hfz47_5, hfz47_6⟩ := qC7 BK143) | (go_at_call 35; (with_reducible refine (strings_Contains.calls a0_6 (⟨#[10]⟩ : ByteArray) false _ A18.out).mono ?_); rintro e w48 ⟨rfl, hb⟩; replace BK141 := Aside0.mk (blk_below (g := gb141) (o := .cells #[.int .i64 a0_0, .string a0_1, .int .i64 a0_2, .int .i64 a0_3, .int .i64 a0_4, .int .i64 a0_5, .string a0_6] 23 (0, 0)) (by (with_reducible repeat (first | refine blk_drewN ?_ _ | refine blk_drew ?_ | refine blk_alloc ?_ _)); refine blk_far ?_ NB141_143.out _; (with_reducible repeat (first | refine blk_drewN ?_ _ | refine blk_drew ?_ | refine blk_alloc ?_ _)); refine blk_far ?_ NB141_143.out _; (with_reducible repeat (first | refine blk_drewN ?_ _ | refine blk_drew ?_ | refine blk_alloc ?_ _)); exact BK141.out) hb); replace BK143 := Aside0.mk (blk_below (g := gb143) (o := .cells #[.int .i64 0, .string a0_1, .int .i64 a0_2, .int .i64 a0_3, .int .i64 a0_4, .int .i64 0, .string (⟨#[]⟩ : ByteArray)] 23 (0, 0)) (by (with_reducible repeat (first | refine blk_drewN ?_ _ | refine blk_drew ?_ | refine blk_alloc ?_ _)); refine blk_put (cs := #[.int .i64 0, .string a0_1, .int .i64 a0_2, .int .i64 a0_3, .int .i64 a0_4, .int .i64 0, .string a0_6]) ?_ 6 _ rfl; (with_reducible repeat (first | refine blk_drewN ?_ _ | refine blk_drew ?_ | refine blk_alloc ?_ _)); refine blk_put (cs := #[.int .i64 0, .string a0_1, .int .i64 a0_2, .int .i64 a0_3, .int .i64 a0_4, .int .i64 a0_5, .string a0_6]) ?_ 5 _ rfl; (with_reducible repeat (first | refine blk_drewN ?_ _ | refine blk_drew ?_ | refine blk_alloc ?_ _)); exact BK143.out) hb); replace HB := Aside0.mk (below_step (qS2 HB GE141 GE143) hb); (try clear hb); (try clear hb2); (try clear hk); (try clear hi)))
     (replace BK141 := Aside0.mk (blk_drew BK141.out)); (replace BK143 := Aside0.mk (blk_drew BK143.out)); (replace HB := Aside0.mk (below_drew1 HB.out))
     refine start_ (n := 11) (S := fun w' => w'.cell? ⟨gb141, 0, none⟩ = some (.int .i64 a0_0) ∧ w'.cell? ⟨gb141, 1, none⟩ = some (.string a0_1) ∧ w'.cell? ⟨gb141, 2, none⟩ = some (.int .i64 a0_2) ∧ w'.cell? ⟨gb141, 3, none⟩ = some (.int .i64 a0_3) ∧ w'.cell? ⟨gb141, 4, none⟩ = some (.int .i64 a0_4) ∧ w'.cell? ⟨gb141, 5, none⟩ = some (.int .i64 a0_5) ∧ w'.cell? ⟨gb141, 6, none⟩ = some (.string a0_6)) (ds := []) #[false, false, false, false, false, false, false, false, false, false, false] (by kernel_rfl) rfl rfl ⟨(blk_cell BK141.out 0).trans rfl, (blk_cell BK141.out 1).trans rfl, (blk_cell BK141.out 2).trans rfl, (blk_cell BK141.out 3).trans rfl, (blk_cell BK141.out 4).trans rfl, (blk_cell BK141.out 5).trans rfl, (blk_cell BK141.out 6).trans rfl⟩ (fun hHeld => ?_); refine with_tabW impl_reqText.tab10 impl_reqText.bits10 (fun HT_ HW_ => ?_)
     generalize w48.drew = w49 at BK141 BK143 HB hHeld ⊢
     refine pure_ (i := 0) (N := some 31) (v := ?_) (a' := ?_) #[true, false, false, false, false, false, false, false, false, false, false] rfl rfl (any_of HT_.out (by kernel_rfl)) (fun _ _ _ h => h) (Or.inl ⟨by rfl, ?_⟩) ?_ ?_
     rotate_left
     ·intro w'
      go_simp
      with_reducible rfl
     rotate_left
     ·exact qPu
     refine pure_ (i := 1) (N := some 32) (v := ?_) (a' := ?_) #[true, true, false, false, false, false, false, false, false, false, false] rfl rfl (any_of HT_.out (by kernel_rfl)) (fun _ _ _ h => h) (Or.inl ⟨by rfl, ?_⟩) ?_ ?_
     rotate_left
     ·intro w'
      go_simp
      with_reducible rfl
     rotate_left
     ·exact qPu
     refine pure_ (i := 2) (N := some 33) (v := ?_) (a' := ?_) #[true, true, true, false, false, false, false, false, false, false, false] rfl rfl (any_of HT_.out (by kernel_rfl)) (fun _ _ _ h => h) (Or.inl ⟨by rfl, ?_⟩) ?_ ?_
     rotate_left
     ·intro w'
      go_simp
      with_reducible rfl
     rotate_left
     ·exact qPu
     refine pure_ (i := 7) (N := some 38) (v := ?_) (a' := ?_) #[true, true, true, false, false, false, false, true, false, false, false] rfl rfl (any_of HT_.out (by kernel_rfl)) (fun _ _ _ h => h) (Or.inl ⟨by rfl, ?_⟩) ?_ ?_
     rotate_left
     ·intro w'
      go_simp
      with_reducible rfl
     rotate_left
     ·exact qPu
     refine take_ (i := 3) (N := some 34) (v := ?_) (a' := ?_) #[true, true, true, true, false, false, false, true, false, false, false] rfl rfl (take_ofW HT_.out HW_.out (by kernel_rfl)) (fun _ _ _ h => h) (Or.inl ⟨by rfl, ?_⟩) hHeld ?_ ?_
     rotate_left
     ·rintro w' ⟨s0, s1, s2, s3, s4, s5, s6⟩
      go_simp
      with_reducible rfl
     rotate_left
     ·exact qPu
     refine take_ (i := 8) (N := some 39) (v := ?_) (a' := ?_) #[true, true, true, true, false, false, false, true, true, false, false] rfl rfl (take_ofW HT_.out HW_.out (by kernel_rfl)) (fun _ _ _ h => h) (Or.inl ⟨by rfl, ?_⟩) hHeld ?_ ?_
     rotate_left
     ·rintro w' ⟨s0, s1, s2, s3, s4, s5, s6⟩
      go_simp
      with_reducible rfl
     rotate_left
     ·exact qPu
     refine one_ (i := 4) (N := some 35) #[true, true, true, true, true, false, false, true, true, false, false] rfl rfl (one_of HT_.out (by kernel_rfl)) (by decide) (fun K hK => ?_)
     refine goes_ Tryd.func36 (by kernel_rfl) rfl #[.int .i64 a0_5] (by rfl) rfl rfl qL ?_
     with_reducible refine (strconv_Itoa_36.calls a0_5 t146 _ A33.out (G_below (qS0 HB) hG)).mono ?_
     rintro e w50 ⟨rfl, hb⟩
     refine ⟨_, rfl, ?_⟩
     (replace BK141 := qD BK141 hb); (replace BK143 := qD BK143 hb); (replace HB := Aside0.mk (below_step (qS2 HB GE141 GE143) hb)); (try clear hb); (try clear hb2); (try clear hk); (try clear hi)
     refine hK.out _ _ ⟨(blk_cell BK141.out 0).trans rfl, (blk_cell BK141.out 1).trans rfl, (blk_cell BK141.out 2).trans rfl, (blk_cell BK141.out 3).trans rfl, (blk_cell BK141.out 4).trans rfl, (blk_cell BK141.out 5).trans rfl, (blk_cell BK141.out 6).trans rfl⟩ (fun hHeld => ?_)
     clear hK K
     refine norm_ (a' := ?_) ?_ ?_
     rotate_left
     ·show Act.put _ (some 35) _ = _
      exact qPu
     refine pure_ (i := 5) (N := some 36) (v := ?_) (a' := ?_) #[true, true, true, true, true, true, false, true, true, false, false] rfl rfl (any_of HT_.out (by kernel_rfl)) (fun _ _ _ h => h) (Or.inl ⟨by rfl, ?_⟩) ?_ ?_
     rotate_left
     ·intro w'
      go_simp
      with_reducible rfl
     rotate_left
     ·exact qPu
     refine pure_ (i := 6) (N := some 37) (v := ?_) (a' := ?_) #[true, true, true, true, true, true, true, true, true, false, false] rfl rfl (any_of HT_.out (by kernel_rfl)) (fun _ _ _ h => h) (Or.inl ⟨by rfl, ?_⟩) ?_ ?_
     rotate_left
     ·intro w'
      go_simp
      with_reducible rfl
     rotate_left
     ·exact qPu
     refine pure_ (i := 9) (N := some 40) (v := ?_) (a' := ?_) #[true, true, true, true, true, true, true, true, true, true, false] rfl rfl (any_of HT_.out (by kernel_rfl)) (fun _ _ _ h => h) (Or.inl ⟨by rfl, ?_⟩) ?_ ?_
     rotate_left
     ·intro w'
      go_simp
      with_reducible rfl
     rotate_left
     ·exact qPu
     refine pure_ (i := 10) (N := some 2) (v := ?_) (a' := ?_) #[true, true, true, true, true, true, true, true, true, true, true] rfl rfl (any_of HT_.out (by kernel_rfl)) (fun _ _ _ h => h) (Or.inl ⟨by rfl, ?_⟩) ?_ ?_
     rotate_left
     ·intro w'
      go_simp
      with_reducible rfl
     rotate_left
     ·exact qPu
     refine done_ (done_of HT_.out (by kernel_rfl)) ?_
     try go_wp2
     go_ret
     exact ⟨qE, qS2 HB GE141 GE143⟩
  ·have c5b0 : (a0_0 == 6) = false := beq_eq_false_iff_ne.mpr c5
   (have c5b1 : (a0_0 != 6) = true := bne_iff_ne.mpr c5); (have HC51 := Aside0.mk H); clear H
   go_enter Tryd.func19, Tryd.ntmps19
   go_upto_block 0 with (first | ((with_reducible refine gate_dst (N := 1) rfl ?_); refine box_event ?hg (N := 1) ?hd (cs := #[.int .i64 a0_0, .string a0_1, .int .i64 a0_2, .int .i64 a0_3, .int .i64 a0_4, .int .i64 a0_5, .string a0_6]) (t := 23) ?hr ?_; (case hd => rfl); (case hg => rfl); (case hr => first | (go_simp; done) | (go_simp; rfl)); intro gb141 hg w52 hbox hb; have BK141 := Aside0.mk (hbox); have GW141 := qG hg (below_size (qS0 HB)); have GE141 := qG hg (below_size (qS0 HB)); replace HB := Aside0.mk (below_step (qS0 HB) hb); clear hb hbox hg; obtain ⟨hcz53_0, hcz53_1, hcz53_2, hcz53_3, hcz53_4, hcz53_5, hcz53_6, hfz53_0, hfz53_1, hfz53_2, hfz53_3, hfz53_4, hfz53_5, hfz53_6⟩ := qC7 BK141) | ((with_reducible refine gate_callee (f := 34) rfl ?_); refine goesL_ (some 10) rfl rfl Tryd.func34 (by kernel_rfl) rfl #[.agg #[.int .i64 a0_0, .string a0_1, .int .i64 a0_2, .int .i64 a0_3, .int .i64 a0_4, .int .i64 a0_5, .string a0_6]] rfl qL ?_; (with_reducible refine (impl_isReq.calls a0_0 a0_1 a0_2 a0_3 a0_4 a0_5 a0_6 true _ A2.out).mono ?_); rintro e w54 ⟨rfl, hb⟩; refine ⟨_, rfl, ?_⟩; replace BK141 := qD BK141 hb; replace HB := Aside0.mk (below_step (qS1 HB GE141) hb); (try clear hb); (try clear hb2); (try clear hk); (try clear hi); obtain ⟨hcz55_0, hcz55_1, hcz55_2, hcz55_3, hcz55_4, hcz55_5, hcz55_6, hfz55_0, hfz55_1, hfz55_2, hfz55_3, hfz55_4, hfz55_5, hfz55_6⟩ := qC7 BK141) | ((with_reducible refine gate_dst (N := 3) rfl ?_); refine box_event ?hg (N := 3) ?hd (cs := #[.int .i64 0, .string (⟨#[]⟩ : ByteArray), .int .i64 0, .int .i64 0, .int .i64 0, .int .i64 0, .string (⟨#[]⟩ : ByteArray)]) (t := 23) ?hr ?_; (case hd => rfl); (case hg => rfl); (case hr => first | (go_simp; done) | (go_simp; rfl)); intro gb143 hg w56 hbox hb; have BK143 := Aside0.mk (hbox); have GW143 := qG hg (below_size (qS1 HB GE141)); have GE143 := qG hg (below_size (qS1 HB GE141)); replace HB := Aside0.mk (below_step (qS1 HB GE141) hb); have NB141_143 := qN hg (blk_lt (qB BK141)); have NB143_141 := qM hg (blk_lt (qB BK141)); replace BK141 := qD BK141 hb; clear hb hbox hg; have hnb57 := NB143_141.out; have hnc57 := NB141_143.out; obtain ⟨hcz58_0, hcz58_1, hcz58_2, hcz58_3, hcz58_4, hcz58_5, hcz58_6, hfz58_0, hfz58_1, hfz58_2, hfz58_3, hfz58_4, hfz58_5, hfz58_6⟩ := qC7 BK143; obtain ⟨hcz59_0, hcz59_1, hcz59_2, hcz59_3, hcz59_4, hcz59_5, hcz59_6, hfz59_0, hfz59_1, hfz59_2, hfz59_3, hfz59_4, hfz59_5, hfz59_6⟩ := qC7 BK141) | ((with_reducible refine gate_dst (N := 17) rfl ?_); refine word_event rfl (v := .string t144) (G_below (qS2 HB GE141 GE143) hG) ?hr ?_; (case hr => intro hG_; have hgl_ := reqw_at hG_ A4.out; first | (go_simp; done) | (go_simp; rfl)); intro w60 hb; replace BK141 := Aside0.mk (blk_below (g := gb141) (o := .cells #[.int .i64 a0_0, .string a0_1, .int .i64 a0_2, .int .i64 a0_3, .int .i64 a0_4, .int .i64 a0_5, .string a0_6] 23 (0, 0)) (by (with_reducible repeat (first | refine blk_drewN ?_ _ | refine blk_drew ?_ | refine blk_alloc ?_ _)); refine blk_far ?_ NB141_143.out _; (with_reducible repeat (first | refine blk_drewN ?_ _ | refine blk_drew ?_ | refine blk_alloc ?_ _)); refine blk_far ?_ NB141_143.out _; (with_reducible repeat (first | refine blk_drewN ?_ _ | refine blk_drew ?_ | refine blk_alloc ?_ _)); refine blk_far ?_ NB141_143.out _; (with_reducible repeat (first | refine blk_drewN ?_ _ | refine blk_drew ?_ | refine blk_alloc ?_ _)); refine blk_far ?_ NB141_143.out _; (with_reducible repeat (first | refine blk_drewN ?_ _ | refine blk_drew ?_ | refine blk_alloc ?_ _)); refine blk_far ?_ NB141_143.out _; (with_reducible repeat (first | refine blk_drewN ?_ _ | refine blk_drew ?_ | refine blk_alloc ?_ _)); refine blk_far ?_ NB141_143.out _; (with_reducible repeat (first | refine blk_drewN ?_ _ | refine blk_drew ?_ | refine blk_alloc ?_ _)); refine blk_far ?_ NB141_143.out _; (with_reducible repeat (first | refine blk_drewN ?_ _ | refine blk_drew ?_ | refine blk_alloc ?_ _)); refine blk_far ?_ NB141_143.out _; (with_reducible repeat (first | refine blk_drewN ?_ _ | refine blk_drew ?_ | refine blk_alloc ?_ _)); exact BK141.out) hb); replace BK143 := Aside0.mk (blk_below (g := gb143) (o := .cells #[.int .i64 0, .string a0_1, .int .i64 a0_2, .int .i64 a0_3, .int .i64 a0_4, .int .i64 a0_5, .string a0_6] 23 (0, 0)) (by (with_reducible repeat (first | refine blk_drewN ?_ _ | refine blk_drew ?_ | refine blk_alloc ?_ _)); refine blk_put (cs := #[.int .i64 a0_0, .string a0_1, .int .i64 a0_2, .int .i64 a0_3, .int .i64 a0_4, .int .i64 a0_5, .string a0_6]) ?_ 0 _ rfl; (with_reducible repeat (first | refine blk_drewN ?_ _ | refine blk_drew ?_ | refine blk_alloc ?_ _)); refine blk_put (cs := #[.int .i64 a0_0, .string a0_1, .int .i64 a0_2, .int .i64 a0_3, .int .i64 a0_4, .int .i64 a0_5, .string (⟨#[]⟩ : ByteArray)]) ?_ 6 _ rfl; (with_reducible repeat (first | refine blk_drewN ?_ _ | refine blk_drew ?_ | refine blk_alloc ?_ _)); refine blk_put (cs := #[.int .i64 a0_0, .string a0_1, .int .i64 a0_2, .int .i64 a0_3, .int .i64 a0_4, .int .i64 0, .string (⟨#[]⟩ : ByteArray)]) ?_ 5 _ rfl; (with_reducible repeat (first | refine blk_drewN ?_ _ | refine blk_drew ?_ | refine blk_alloc ?_ _)); refine blk_put (cs := #[.int .i64 a0_0, .string a0_1, .int .i64 a0_2, .int .i64 a0_3, .int .i64 0, .int .i64 0, .string (⟨#[]⟩ : ByteArray)]) ?_ 4 _ rfl; (with_reducible repeat (first | refine blk_drewN ?_ _ | refine blk_drew ?_ | refine blk_alloc ?_ _)); refine blk_put (cs := #[.int .i64 a0_0, .string a0_1, .int .i64 a0_2, .int .i64 0, .int .i64 0, .int .i64 0, .string (⟨#[]⟩ : ByteArray)]) ?_ 3 _ rfl; (with_reducible repeat (first | refine blk_drewN ?_ _ | refine blk_drew ?_ | refine blk_alloc ?_ _)); refine blk_put (cs := #[.int .i64 a0_0, .string a0_1, .int .i64 0, .int .i64 0, .int .i64 0, .int .i64 0, .string (⟨#[]⟩ : ByteArray)]) ?_ 2 _ rfl; (with_reducible repeat (first | refine blk_drewN ?_ _ | refine blk_drew ?_ | refine blk_alloc ?_ _)); refine blk_put (cs := #[.int .i64 a0_0, .string (⟨#[]⟩ : ByteArray), .int .i64 0, .int .i64 0, .int .i64 0, .int .i64 0, .string (⟨#[]⟩ : ByteArray)]) ?_ 1 _ rfl; (with_reducible repeat (first | refine blk_drewN ?_ _ | refine blk_drew ?_ | refine blk_alloc ?_ _)); refine blk_put (cs := #[.int .i64 0, .string (⟨#[]⟩ : ByteArray), .int .i64 0, .int .i64 0, .int .i64 0, .int .i64 0, .string (⟨#[]⟩ : ByteArray)]) ?_ 0 _ rfl; (with_reducible repeat (first | refine blk_drewN ?_ _ | refine blk_drew ?_ | refine blk_alloc ?_ _)); exact BK143.out) hb); replace HB := Aside0.mk (below_step (qS2 HB GE141 GE143) hb); (try clear hb); (try clear hb2); (try clear hk); (try clear hi); obtain ⟨hcz61_0, hcz61_1, hcz61_2, hcz61_3, hcz61_4, hcz61_5, hcz61_6, hfz61_0, hfz61_1, hfz61_2, hfz61_3, hfz61_4, hfz61_5, hfz61_6⟩ := qC7 BK141; obtain ⟨hcz62_0, hcz62_1, hcz62_2, hcz62_3, hcz62_4, hcz62_5, hcz62_6, hfz62_0, hfz62_1, hfz62_2, hfz62_3, hfz62_4, hfz62_5, hfz62_6⟩ := qC7 BK143))
   (try simp only [Act.put, List.setIfInBounds_toArray, List.set_cons_zero, List.set_cons_succ])
   go_cut [5] (fun v5 wc => ∃ (kq : Nat) (x5_50 : List Int) (x144002_50 : Int) (x144003_50 : Int) (x144004_50 : Int), Aside0 (impl_reqText.j0 kq t144 x5_50 a0_0 a0_1 a0_2 a0_3 a0_4 a0_5 a0_6 0 (⟨#[]⟩ : ByteArray) x144002_50 x144003_50 x144004_50 a0_5 a0_6 = some r) ∧ Aside0 (kq ≤ k) ∧ Aside0 (Kd.R (Kd.int .i64) 3 wc w.heap.size (fun _ => True) v5 x5_50) ∧ Aside0 (wc.heap[gb141]? = some (.cells #[.int .i64 a0_0, .string a0_1, .int .i64 a0_2, .int .i64 a0_3, .int .i64 a0_4, .int .i64 a0_5, .string a0_6] 23 (0, 0))) ∧ Aside0 (wc.heap[gb143]? = some (.cells #[.int .i64 0, .string (⟨#[]⟩ : ByteArray), .int .i64 x144002_50, .int .i64 x144003_50, .int .i64 x144004_50, .int .i64 a0_5, .string a0_6] 23 (0, 0))) ∧ Aside0 (Below w.heap.size w wc))
   case first =>
    (have H := HC51.out); clear HC51
    rcases qJ H with ⟨c63, H⟩ | ⟨c63, H⟩
    ·have c63b0 : (a0_0 == 2) = true := beq_iff_eq.mpr c63
     (have c63b1 : (a0_0 != 2) = false := bne_eq_false_iff_eq.mpr c63); clear c63
     (first | rw [c63b0] | (simp only [i64_w, i32_w]; rw [c63b0]) | skip)
     (obtain ⟨y147, hy147⟩ : ∃ y_ : List Int, y_ = (([a0_3, a0_4] : List Int)) := ⟨_, rfl⟩); (replace H : (impl_reqText.j0 k t144 y147 a0_0 a0_1 a0_2 a0_3 a0_4 a0_5 a0_6 0 (⟨#[]⟩ : ByteArray) a0_2 0 0 a0_5 a0_6) = some r := qY hy147 H); (have Ny147 := Aside0.mk hy147); clear hy147; (have H' := Aside0.mk H); clear H; (have hnb64 := NB143_141.out); (have hnc64 := NB141_143.out); (obtain ⟨hcz65_0, hcz65_1, hcz65_2, hcz65_3, hcz65_4, hcz65_5, hcz65_6, hfz65_0, hfz65_1, hfz65_2, hfz65_3, hfz65_4, hfz65_5, hfz65_6⟩ := qC7 BK143); (obtain ⟨hcz66_0, hcz66_1, hcz66_2, hcz66_3, hcz66_4, hcz66_5, hcz66_6, hfz66_0, hfz66_1, hfz66_2, hfz66_3, hfz66_4, hfz66_5, hfz66_6⟩ := qC7 BK141)
     go_wp2_with (first | ((with_reducible refine gate_dst (N := 52) rfl ?_); refine Kd.R_lit (Kd.int .i64) _ 3 ?hg (N := 52) ?hd (xs := ([a0_3, a0_4] : List Int)) (inner := [.int .i64 a0_3, .int .i64 a0_4]) (ok := fun _ => True) (okp := fun _ => True) ?hr ?hp (fun _ hk => hk) trivial (Below.refl _ _) (Nat.le_refl _) (by simp) ?_; (case hd => rfl); (case hg => rfl); (case hr => first | (go_simp; done) | (go_simp; rfl)); (case hp => exact (Reps.one (show Kd.M (Kd.int .i64) _ _ _ a0_3 [.int .i64 a0_3] from rfl) (Reps.one (show Kd.M (Kd.int .i64) _ _ _ a0_4 [.int .i64 a0_4] from rfl) (Reps.none _ _)))); intro v148 w67 ho68 hb hg_ hnew_; clear hg_ hnew_; (first | rw [← Ny147.out] at ho68 | (simp only [Int.reduceToNat] at ho68; rw [← Ny147.out] at ho68)); have HO149 := Aside0.mk (Kd.R_lower ho68 (below_size (qS2 HB GE141 GE143))); replace BK141 := Aside0.mk (blk_below (g := gb141) (o := .cells #[.int .i64 a0_0, .string a0_1, .int .i64 a0_2, .int .i64 a0_3, .int .i64 a0_4, .int .i64 a0_5, .string a0_6] 23 (0, 0)) (by (with_reducible repeat (first | refine blk_drewN ?_ _ | refine blk_drew ?_ | refine blk_alloc ?_ _)); refine blk_far ?_ NB141_143.out _; (with_reducible repeat (first | refine blk_drewN ?_ _ | refine blk_drew ?_ | refine blk_alloc ?_ _)); refine blk_far ?_ NB141_143.out _; (with_reducible repeat (first | refine blk_drewN ?_ _ | refine blk_drew ?_ | refine blk_alloc ?_ _)); refine blk_far ?_ NB141_143.out _; (with_reducible repeat (first | refine blk_drewN ?_ _ | refine blk_drew ?_ | refine blk_alloc ?_ _)); exact BK141.out) hb); replace BK143 := Aside0.mk (blk_below (g := gb143) (o := .cells #[.int .i64 0, .string (⟨#[]⟩ : ByteArray), .int .i64 a0_2, .int .i64 0, .int .i64 0, .int .i64 a0_5, .string a0_6] 23 (0, 0)) (by (with_reducible repeat (first | refine blk_drewN ?_ _ | refine blk_drew ?_ | refine blk_alloc ?_ _)); refine blk_put (cs := #[.int .i64 0, .string (⟨#[]⟩ : ByteArray), .int .i64 a0_2, .int .i64 0, .int .i64 a0_4, .int .i64 a0_5, .string a0_6]) ?_ 4 _ rfl; (with_reducible repeat (first | refine blk_drewN ?_ _ | refine blk_drew ?_ | refine blk_alloc ?_ _)); refine blk_put (cs := #[.int .i64 0, .string (⟨#[]⟩ : ByteArray), .int .i64 a0_2, .int .i64 a0_3, .int .i64 a0_4, .int .i64 a0_5, .string a0_6]) ?_ 3 _ rfl; (with_reducible repeat (first | refine blk_drewN ?_ _ | refine blk_drew ?_ | refine blk_alloc ?_ _)); refine blk_put (cs := #[.int .i64 0, .string a0_1, .int .i64 a0_2, .int .i64 a0_3, .int .i64 a0_4, .int .i64 a0_5, .string a0_6]) ?_ 1 _ rfl; (with_reducible repeat (first | refine blk_drewN ?_ _ | refine blk_drew ?_ | refine blk_alloc ?_ _)); exact BK143.out) hb); replace HB := Aside0.mk (below_step (qS2 HB GE141 GE143) hb); clear hb ho68))
     go_meet
     case rel => exact ⟨_, (y147), (a0_2), (0), (0), H', ⟨by first | omega | exact Nat.le_refl _⟩, ⟨qR HO149⟩, ⟨qB BK141⟩, ⟨qB BK143⟩, ⟨qS2 HB GE141 GE143⟩⟩
    ·have c63b0 : (a0_0 == 2) = false := beq_eq_false_iff_ne.mpr c63
     have c63b1 : (a0_0 != 2) = true := bne_iff_ne.mpr c63
     (first | rw [c63b0] | (simp only [i64_w, i32_w]; rw [c63b0]) | skip)
     rcases qJ H with ⟨c69, H⟩ | ⟨c69, H⟩
     ·have c69b0 : (a0_0 == 3) = true := beq_iff_eq.mpr c69
      (have c69b1 : (a0_0 != 3) = false := bne_eq_false_iff_eq.mpr c69); clear c69; (obtain ⟨y150, hy150⟩ : ∃ y_ : List Int, y_ = (([a0_2] : List Int)) := ⟨_, rfl⟩); (replace H : (impl_reqText.j0 k t144 y150 a0_0 a0_1 a0_2 a0_3 a0_4 a0_5 a0_6 0 (⟨#[]⟩ : ByteArray) 0 a0_3 a0_4 a0_5 a0_6) = some r := qY hy150 H); (have Ny150 := Aside0.mk hy150); clear hy150; (have H' := Aside0.mk H); clear H; (have hnb70 := NB143_141.out); (have hnc70 := NB141_143.out); (obtain ⟨hcz71_0, hcz71_1, hcz71_2, hcz71_3, hcz71_4, hcz71_5, hcz71_6, hfz71_0, hfz71_1, hfz71_2, hfz71_3, hfz71_4, hfz71_5, hfz71_6⟩ := qC7 BK143); (obtain ⟨hcz72_0, hcz72_1, hcz72_2, hcz72_3, hcz72_4, hcz72_5, hcz72_6, hfz72_0, hfz72_1, hfz72_2, hfz72_3, hfz72_4, hfz72_5, hfz72_6⟩ := qC7 BK141)
      go_wp2_with (first | ((with_reducible refine gate_dst (N := 59) rfl ?_); refine Kd.R_lit (Kd.int .i64) _ 3 ?hg (N := 59) ?hd (xs := ([a0_2] : List Int)) (inner := [.int .i64 a0_2]) (ok := fun _ => True) (okp := fun _ => True) ?hr ?hp (fun _ hk => hk) trivial (Below.refl _ _) (Nat.le_refl _) (by simp) ?_; (case hd => rfl); (case hg => rfl); (case hr => first | (go_simp; done) | (go_simp; rfl)); (case hp => exact (Reps.one (show Kd.M (Kd.int .i64) _ _ _ a0_2 [.int .i64 a0_2] from rfl) (Reps.none _ _))); intro v151 w73 ho74 hb hg_ hnew_; clear hg_ hnew_; (first | rw [← Ny150.out] at ho74 | (simp only [Int.reduceToNat] at ho74; rw [← Ny150.out] at ho74)); have HO152 := Aside0.mk (Kd.R_lower ho74 (below_size (qS2 HB GE141 GE143))); replace BK141 := Aside0.mk (blk_below (g := gb141) (o := .cells #[.int .i64 a0_0, .string a0_1, .int .i64 a0_2, .int .i64 a0_3, .int .i64 a0_4, .int .i64 a0_5, .string a0_6] 23 (0, 0)) (by (with_reducible repeat (first | refine blk_drewN ?_ _ | refine blk_drew ?_ | refine blk_alloc ?_ _)); refine blk_far ?_ NB141_143.out _; (with_reducible repeat (first | refine blk_drewN ?_ _ | refine blk_drew ?_ | refine blk_alloc ?_ _)); refine blk_far ?_ NB141_143.out _; (with_reducible repeat (first | refine blk_drewN ?_ _ | refine blk_drew ?_ | refine blk_alloc ?_ _)); exact BK141.out) hb); replace BK143 := Aside0.mk (blk_below (g := gb143) (o := .cells #[.int .i64 0, .string (⟨#[]⟩ : ByteArray), .int .i64 0, .int .i64 a0_3, .int .i64 a0_4, .int .i64 a0_5, .string a0_6] 23 (0, 0)) (by (with_reducible repeat (first | refine blk_drewN ?_ _ | refine blk_drew ?_ | refine blk_alloc ?_ _)); refine blk_put (cs := #[.int .i64 0, .string (⟨#[]⟩ : ByteArray), .int .i64 a0_2, .int .i64 a0_3, .int .i64 a0_4, .int .i64 a0_5, .string a0_6]) ?_ 2 _ rfl; (with_reducible repeat (first | refine blk_drewN ?_ _ | refine blk_drew ?_ | refine blk_alloc ?_ _)); refine blk_put (cs := #[.int .i64 0, .string a0_1, .int .i64 a0_2, .int .i64 a0_3, .int .i64 a0_4, .int .i64 a0_5, .string a0_6]) ?_ 1 _ rfl; (with_reducible repeat (first | refine blk_drewN ?_ _ | refine blk_drew ?_ | refine blk_alloc ?_ _)); exact BK143.out) hb); replace HB := Aside0.mk (below_step (qS2 HB GE141 GE143) hb); clear hb ho74))
      go_meet
      case rel => exact ⟨_, (y150), (0), (a0_3), (a0_4), H', ⟨by first | omega | exact Nat.le_refl _⟩, ⟨qR HO152⟩, ⟨qB BK141⟩, ⟨qB BK143⟩, ⟨qS2 HB GE141 GE143⟩⟩
     ·have c69b0 : (a0_0 == 3) = false := beq_eq_false_iff_ne.mpr c69
      have c69b1 : (a0_0 != 3) = true := bne_iff_ne.mpr c69
      rcases qJ H with ⟨c75, H⟩ | ⟨c75, H⟩
      ·have c75b0 : (a0_0 == 5) = true := beq_iff_eq.mpr c75
       (have c75b1 : (a0_0 != 5) = false := bne_eq_false_iff_eq.mpr c75); clear c75; (obtain ⟨y153, hy153⟩ : ∃ y_ : List Int, y_ = (([a0_2] : List Int)) := ⟨_, rfl⟩); (replace H : (impl_reqText.j0 k t144 y153 a0_0 a0_1 a0_2 a0_3 a0_4 a0_5 a0_6 0 (⟨#[]⟩ : ByteArray) 0 a0_3 a0_4 a0_5 a0_6) = some r := qY hy153 H); (have Ny153 := Aside0.mk hy153); clear hy153; (have H' := Aside0.mk H); clear H; (have hnb76 := NB143_141.out); (have hnc76 := NB141_143.out); (obtain ⟨hcz77_0, hcz77_1, hcz77_2, hcz77_3, hcz77_4, hcz77_5, hcz77_6, hfz77_0, hfz77_1, hfz77_2, hfz77_3, hfz77_4, hfz77_5, hfz77_6⟩ := qC7 BK143); (obtain ⟨hcz78_0, hcz78_1, hcz78_2, hcz78_3, hcz78_4, hcz78_5, hcz78_6, hfz78_0, hfz78_1, hfz78_2, hfz78_3, hfz78_4, hfz78_5, hfz78_6⟩ := qC7 BK141)
       go_wp2_with (first | ((with_reducible refine gate_dst (N := 59) rfl ?_); refine Kd.R_lit (Kd.int .i64) _ 3 ?hg (N := 59) ?hd (xs := ([a0_2] : List Int)) (inner := [.int .i64 a0_2]) (ok := fun _ => True) (okp := fun _ => True) ?hr ?hp (fun _ hk => hk) trivial (Below.refl _ _) (Nat.le_refl _) (by simp) ?_; (case hd => rfl); (case hg => rfl); (case hr => first | (go_simp; done) | (go_simp; rfl)); (case hp => exact (Reps.one (show Kd.M (Kd.int .i64) _ _ _ a0_2 [.int .i64 a0_2] from rfl) (Reps.none _ _))); intro v154 w79 ho80 hb hg_ hnew_; clear hg_ hnew_; (first | rw [← Ny153.out] at ho80 | (simp only [Int.reduceToNat] at ho80; rw [← Ny153.out] at ho80)); have HO155 := Aside0.mk (Kd.R_lower ho80 (below_size (qS2 HB GE141 GE143))); replace BK141 := Aside0.mk (blk_below (g := gb141) (o := .cells #[.int .i64 a0_0, .string a0_1, .int .i64 a0_2, .int .i64 a0_3, .int .i64 a0_4, .int .i64 a0_5, .string a0_6] 23 (0, 0)) (by (with_reducible repeat (first | refine blk_drewN ?_ _ | refine blk_drew ?_ | refine blk_alloc ?_ _)); refine blk_far ?_ NB141_143.out _; (with_reducible repeat (first | refine blk_drewN ?_ _ | refine blk_drew ?_ | refine blk_alloc ?_ _)); refine blk_far ?_ NB141_143.out _; (with_reducible repeat (first | refine blk_drewN ?_ _ | refine blk_drew ?_ | refine blk_alloc ?_ _)); exact BK141.out) hb); replace BK143 := Aside0.mk (blk_below (g := gb143) (o := .cells #[.int .i64 0, .string (⟨#[]⟩ : ByteArray), .int .i64 0, .int .i64 a0_3, .int .i64 a0_4, .int .i64 a0_5, .string a0_6] 23 (0, 0)) (by (with_reducible repeat (first | refine blk_drewN ?_ _ | refine blk_drew ?_ | refine blk_alloc ?_ _)); refine blk_put (cs := #[.int .i64 0, .string (⟨#[]⟩ : ByteArray), .int .i64 a0_2, .int .i64 a0_3, .int .i64 a0_4, .int .i64 a0_5, .string a0_6]) ?_ 2 _ rfl; (with_reducible repeat (first | refine blk_drewN ?_ _ | refine blk_drew ?_ | refine blk_alloc ?_ _)); refine blk_put (cs := #[.int .i64 0, .string a0_1, .int .i64 a0_2, .int .i64 a0_3, .int .i64 a0_4, .int .i64 a0_5, .string a0_6]) ?_ 1 _ rfl; (with_reducible repeat (first | refine blk_drewN ?_ _ | refine blk_drew ?_ | refine blk_alloc ?_ _)); exact BK143.out) hb); replace HB := Aside0.mk (below_step (qS2 HB GE141 GE143) hb); clear hb ho80))
       go_meet
       case rel => exact ⟨_, (y153), (0), (a0_3), (a0_4), H', ⟨by first | omega | exact Nat.le_refl _⟩, ⟨qR HO155⟩, ⟨qB BK141⟩, ⟨qB BK143⟩, ⟨qS2 HB GE141 GE143⟩⟩
      ·have c75b0 : (a0_0 == 5) = false := beq_eq_false_iff_ne.mpr c75
       (have c75b1 : (a0_0 != 5) = true := bne_iff_ne.mpr c75); (have H' := Aside0.mk H); clear H
       go_wp2
       go_meet
       case rel => exact ⟨_, (([] : List Int)), (a0_2), (a0_3), (a0_4), H', ⟨by first | omega | exact Nat.le_refl _⟩, ⟨by first | exact Kd.R_nil _ _ _ _ _ | exact Kd.N_nil _ _ _ _ _ | exact Kd.V_nil _ _ _ _ _ | exact Kd.Q_nil _ _ _ _ _ | exact Kd.S_nil _ _ _ _ _⟩, ⟨by (with_reducible repeat (first | refine blk_drewN ?_ _ | refine blk_drew ?_ | refine blk_alloc ?_ _)); refine blk_far ?_ NB141_143.out _; (with_reducible repeat (first | refine blk_drewN ?_ _ | refine blk_drew ?_ | refine blk_alloc ?_ _)); exact BK141.out⟩, ⟨by (with_reducible repeat (first | refine blk_drewN ?_ _ | refine blk_drew ?_ | refine blk_alloc ?_ _)); refine blk_put (cs := #[.int .i64 0, .string a0_1, .int .i64 a0_2, .int .i64 a0_3, .int .i64 a0_4, .int .i64 a0_5, .string a0_6]) ?_ 1 _ rfl; (with_reducible repeat (first | refine blk_drewN ?_ _ | refine blk_drew ?_ | refine blk_alloc ?_ _)); exact BK143.out⟩, ⟨qS2 HB GE141 GE143⟩⟩
   case rest =>
    clear HC51; (try clear c3); (try clear c5b0); (try clear c5b1); (try clear c6b0); (try clear c19); (try clear c32); (try clear c32b0); (try clear c32b1); (try clear c32b2); (try clear c34); (try clear c34b0); (try clear c34b1); (try clear c34b2); (try clear c35); (try clear c35b0); (try clear c35b1); (try clear c35b2); (try clear c36); (try clear c36b0); (try clear c36b1); (try clear c36b2); (try clear c63b0); (try clear c63b1); (try clear c69b0); (try clear c69b1); (try clear c75b0); (try clear c75b1); (try clear hcz10_0); (try clear hcz10_1); (try clear hcz10_2); (try clear hcz10_3); (try clear hcz10_4); (try clear hcz10_5); (try clear hcz10_6); (try clear hcz13_0); (try clear hcz13_1); (try clear hcz13_2); (try clear hcz13_3); (try clear hcz13_4); (try clear hcz13_5); (try clear hcz13_6); (try clear hcz14_0); (try clear hcz14_1); (try clear hcz14_2); (try clear hcz14_3); (try clear hcz14_4); (try clear hcz14_5); (try clear hcz14_6); (try clear hcz16_0); (try clear hcz16_1); (try clear hcz16_2); (try clear hcz16_3); (try clear hcz16_4); (try clear hcz16_5); (try clear hcz16_6); (try clear hcz17_0); (try clear hcz17_1); (try clear hcz17_2); (try clear hcz17_3); (try clear hcz17_4); (try clear hcz17_5); (try clear hcz17_6); (try clear hcz21_0); (try clear hcz21_1); (try clear hcz21_2); (try clear hcz21_3); (try clear hcz21_4); (try clear hcz21_5); (try clear hcz21_6); (try clear hcz23_0); (try clear hcz23_1); (try clear hcz23_2); (try clear hcz23_3); (try clear hcz23_4); (try clear hcz23_5); (try clear hcz23_6); (try clear hcz26_0); (try clear hcz26_1); (try clear hcz26_2); (try clear hcz26_3); (try clear hcz26_4); (try clear hcz26_5); (try clear hcz26_6); (try clear hcz27_0); (try clear hcz27_1); (try clear hcz27_2); (try clear hcz27_3); (try clear hcz27_4); (try clear hcz27_5); (try clear hcz27_6); (try clear hcz29_0); (try clear hcz29_1); (try clear hcz29_2); (try clear hcz29_3); (try clear hcz29_4); (try clear hcz29_5); (try clear hcz29_6); (try clear hcz30_0); (try clear hcz30_1); (try clear hcz30_2); (try clear hcz30_3); (try clear hcz30_4); (try clear hcz30_5); (try clear hcz30_6); (try clear hcz38_0); (try clear hcz38_1); (try clear hcz38_2); (try clear hcz38_3); (try clear hcz38_4); (try clear hcz38_5); (try clear hcz38_6); (try clear hcz40_0); (try clear hcz40_1); (try clear hcz40_2); (try clear hcz40_3); (try clear hcz40_4); (try clear hcz40_5); (try clear hcz40_6); (try clear hcz43_0); (try clear hcz43_1); (try clear hcz43_2); (try clear hcz43_3); (try clear hcz43_4); (try clear hcz43_5); (try clear hcz43_6); (try clear hcz44_0); (try clear hcz44_1); (try clear hcz44_2); (try clear hcz44_3); (try clear hcz44_4); (try clear hcz44_5); (try clear hcz44_6); (try clear hcz46_0); (try clear hcz46_1); (try clear hcz46_2); (try clear hcz46_3); (try clear hcz46_4); (try clear hcz46_5); (try clear hcz46_6); (try clear hcz47_0); (try clear hcz47_1); (try clear hcz47_2); (try clear hcz47_3); (try clear hcz47_4); (try clear hcz47_5); (try clear hcz47_6); (try clear hcz53_0); (try clear hcz53_1); (try clear hcz53_2); (try clear hcz53_3); (try clear hcz53_4); (try clear hcz53_5); (try clear hcz53_6); (try clear hcz55_0); (try clear hcz55_1); (try clear hcz55_2); (try clear hcz55_3); (try clear hcz55_4); (try clear hcz55_5); (try clear hcz55_6); (try clear hcz58_0); (try clear hcz58_1); (try clear hcz58_2); (try clear hcz58_3); (try clear hcz58_4); (try clear hcz58_5); (try clear hcz58_6); (try clear hcz59_0); (try clear hcz59_1); (try clear hcz59_2); (try clear hcz59_3); (try clear hcz59_4); (try clear hcz59_5); (try clear hcz59_6); (try clear hcz61_0); (try clear hcz61_1); (try clear hcz61_2); (try clear hcz61_3); (try clear hcz61_4); (try clear hcz61_5); (try clear hcz61_6); (try clear hcz62_0); (try clear hcz62_1); (try clear hcz62_2); (try clear hcz62_3); (try clear hcz62_4); (try clear hcz62_5); (try clear hcz62_6); (try clear hcz65_0); (try clear hcz65_1); (try clear hcz65_2); (try clear hcz65_3); (try clear hcz65_4); (try clear hcz65_5); (try clear hcz65_6); (try clear hcz66_0); (try clear hcz66_1); (try clear hcz66_2); (try clear hcz66_3); (try clear hcz66_4); (try clear hcz66_5); (try clear hcz66_6); (try clear hcz71_0); (try clear hcz71_1); (try clear hcz71_2); (try clear hcz71_3); (try clear hcz71_4); (try clear hcz71_5); (try clear hcz71_6); (try clear hcz72_0); (try clear hcz72_1); (try clear hcz72_2); (try clear hcz72_3); (try clear hcz72_4); (try clear hcz72_5); (try clear hcz72_6); (try clear hcz77_0); (try clear hcz77_1); (try clear hcz77_2); (try clear hcz77_3); (try clear hcz77_4); (try clear hcz77_5); (try clear hcz77_6); (try clear hcz78_0); (try clear hcz78_1); (try clear hcz78_2); (try clear hcz78_3); (try clear hcz78_4); (try clear hcz78_5); (try clear hcz78_6); (try clear hcz8_0); (try clear hcz8_1); (try clear hcz8_2); (try clear hcz8_3); (try clear hcz8_4); (try clear hcz8_5); (try clear hcz8_6); (try clear hfz10_0); (try clear hfz10_1); (try clear hfz10_2); (try clear hfz10_3); (try clear hfz10_4); (try clear hfz10_5); (try clear hfz10_6); (try clear hfz13_0); (try clear hfz13_1); (try clear hfz13_2); (try clear hfz13_3); (try clear hfz13_4); (try clear hfz13_5); (try clear hfz13_6); (try clear hfz14_0); (try clear hfz14_1); (try clear hfz14_2); (try clear hfz14_3); (try clear hfz14_4); (try clear hfz14_5); (try clear hfz14_6); (try clear hfz16_0); (try clear hfz16_1); (try clear hfz16_2); (try clear hfz16_3); (try clear hfz16_4); (try clear hfz16_5); (try clear hfz16_6); (try clear hfz17_0); (try clear hfz17_1); (try clear hfz17_2); (try clear hfz17_3); (try clear hfz17_4); (try clear hfz17_5); (try clear hfz17_6); (try clear hfz21_0); (try clear hfz21_1); (try clear hfz21_2); (try clear hfz21_3); (try clear hfz21_4); (try clear hfz21_5); (try clear hfz21_6); (try clear hfz23_0); (try clear hfz23_1); (try clear hfz23_2); (try clear hfz23_3); (try clear hfz23_4); (try clear hfz23_5); (try clear hfz23_6); (try clear hfz26_0); (try clear hfz26_1); (try clear hfz26_2); (try clear hfz26_3); (try clear hfz26_4); (try clear hfz26_5); (try clear hfz26_6); (try clear hfz27_0); (try clear hfz27_1); (try clear hfz27_2); (try clear hfz27_3); (try clear hfz27_4); (try clear hfz27_5); (try clear hfz27_6); (try clear hfz29_0); (try clear hfz29_1); (try clear hfz29_2); (try clear hfz29_3); (try clear hfz29_4); (try clear hfz29_5); (try clear hfz29_6); (try clear hfz30_0); (try clear hfz30_1); (try clear hfz30_2); (try clear hfz30_3); (try clear hfz30_4); (try clear hfz30_5); (try clear hfz30_6); (try clear hfz38_0); (try clear hfz38_1); (try clear hfz38_2); (try clear hfz38_3); (try clear hfz38_4); (try clear hfz38_5); (try clear hfz38_6); (try clear hfz40_0); (try clear hfz40_1); (try clear hfz40_2); (try clear hfz40_3); (try clear hfz40_4); (try clear hfz40_5); (try clear hfz40_6); (try clear hfz43_0); (try clear hfz43_1); (try clear hfz43_2); (try clear hfz43_3); (try clear hfz43_4); (try clear hfz43_5); (try clear hfz43_6); (try clear hfz44_0); (try clear hfz44_1); (try clear hfz44_2); (try clear hfz44_3); (try clear hfz44_4); (try clear hfz44_5); (try clear hfz44_6); (try clear hfz46_0); (try clear hfz46_1); (try clear hfz46_2); (try clear hfz46_3); (try clear hfz46_4); (try clear hfz46_5); (try clear hfz46_6); (try clear hfz47_0); (try clear hfz47_1); (try clear hfz47_2); (try clear hfz47_3); (try clear hfz47_4); (try clear hfz47_5); (try clear hfz47_6); (try clear hfz53_0); (try clear hfz53_1); (try clear hfz53_2); (try clear hfz53_3); (try clear hfz53_4); (try clear hfz53_5); (try clear hfz53_6); (try clear hfz55_0); (try clear hfz55_1); (try clear hfz55_2); (try clear hfz55_3); (try clear hfz55_4); (try clear hfz55_5); (try clear hfz55_6); (try clear hfz58_0); (try clear hfz58_1); (try clear hfz58_2); (try clear hfz58_3); (try clear hfz58_4); (try clear hfz58_5); (try clear hfz58_6); (try clear hfz59_0); (try clear hfz59_1); (try clear hfz59_2); (try clear hfz59_3); (try clear hfz59_4); (try clear hfz59_5); (try clear hfz59_6); (try clear hfz61_0); (try clear hfz61_1); (try clear hfz61_2); (try clear hfz61_3); (try clear hfz61_4); (try clear hfz61_5); (try clear hfz61_6); (try clear hfz62_0); (try clear hfz62_1); (try clear hfz62_2); (try clear hfz62_3); (try clear hfz62_4); (try clear hfz62_5); (try clear hfz62_6); (try clear hfz65_0); (try clear hfz65_1); (try clear hfz65_2); (try clear hfz65_3); (try clear hfz65_4); (try clear hfz65_5); (try clear hfz65_6); (try clear hfz66_0); (try clear hfz66_1); (try clear hfz66_2); (try clear hfz66_3); (try clear hfz66_4); (try clear hfz66_5); (try clear hfz66_6); (try clear hfz71_0); (try clear hfz71_1); (try clear hfz71_2); (try clear hfz71_3); (try clear hfz71_4); (try clear hfz71_5); (try clear hfz71_6); (try clear hfz72_0); (try clear hfz72_1); (try clear hfz72_2); (try clear hfz72_3); (try clear hfz72_4); (try clear hfz72_5); (try clear hfz72_6); (try clear hfz77_0); (try clear hfz77_1); (try clear hfz77_2); (try clear hfz77_3); (try clear hfz77_4); (try clear hfz77_5); (try clear hfz77_6); (try clear hfz78_0); (try clear hfz78_1); (try clear hfz78_2); (try clear hfz78_3); (try clear hfz78_4); (try clear hfz78_5); (try clear hfz78_6); (try clear hfz8_0); (try clear hfz8_1); (try clear hfz8_2); (try clear hfz8_3); (try clear hfz8_4); (try clear hfz8_5); (try clear hfz8_6); (obtain ⟨kq, x5_50, x144002_50, x144003_50, x144004_50, HA, HJ50, HO_5, BK141, BK143, HB⟩ := hcut)
    cases kq with
    | zero => exact absurd HA.out (by simp [impl_reqText.j0])
    | succ kj50 =>
     (have H := HA.out); clear HA; (simp only [impl_reqText.j0] at H); (have HC81 := Aside0.mk H); clear H
     go_upto_region 21 with (fail)
     go_cut [72] (fun v72 wc => ∃ (kq : Nat) (x72_80 : Bool), v72 = .bool x72_80 ∧ Aside0 (impl_reqText.j1 kq t144 x5_50 x72_80 a0_0 a0_1 a0_2 a0_3 a0_4 a0_5 a0_6 = some r) ∧ Aside0 (kq ≤ kj50) ∧ Aside0 (Kd.R (Kd.int .i64) 3 wc w.heap.size (fun _ => True) u5 x5_50) ∧ Aside0 (wc.heap[gb141]? = some (.cells #[.int .i64 a0_0, .string a0_1, .int .i64 a0_2, .int .i64 a0_3, .int .i64 a0_4, .int .i64 a0_5, .string a0_6] 23 (0, 0))) ∧ Aside0 (wc.heap[gb143]? = some (.cells #[.int .i64 0, .string (⟨#[]⟩ : ByteArray), .int .i64 x144002_50, .int .i64 x144003_50, .int .i64 x144004_50, .int .i64 a0_5, .string a0_6] 23 (0, 0))) ∧ Aside0 (Below w.heap.size w wc))
     case first =>
      (have H := HC81.out); clear HC81
      rcases qJ H with ⟨c82, H⟩ | ⟨c82, H⟩
      ·have c82b0 : (!(0 == 0) || (!((⟨#[]⟩ : ByteArray).toList == ([] : List UInt8)) || (!(x144002_50 == 0) || (!(x144003_50 == 0) || (!(x144004_50 == 0) || (!(a0_5 == 0) || (!(a0_6.toList == ([] : List UInt8))))))))) = true := c82
       (have c82b0E := c82b0); (try simp only [empty_toList_u8, beq_nil_u8, beq_self_eq_true, Bool.not_true, Bool.false_or, List.isEmpty_nil] at c82b0E); clear c82
       (first | rw [c82b0] | (simp only [i64_w, i32_w]; rw [c82b0]) | skip)
       (have H' := Aside0.mk H); clear H; (have hnb83 := NB143_141.out); (have hnc83 := NB141_143.out); (obtain ⟨hcz84_0, hcz84_1, hcz84_2, hcz84_3, hcz84_4, hcz84_5, hcz84_6, hfz84_0, hfz84_1, hfz84_2, hfz84_3, hfz84_4, hfz84_5, hfz84_6⟩ := qC7 BK143)
       go_wp2
       go_meet
       case rel => exact ⟨_, (true), qV, H', ⟨by have := HJ50.out; first | omega | exact Nat.le_refl _⟩, ⟨qR HO_5⟩, ⟨qB BK141⟩, ⟨qB BK143⟩, ⟨qS2 HB GE141 GE143⟩⟩
      ·have c82b0 : (!(0 == 0) || (!((⟨#[]⟩ : ByteArray).toList == ([] : List UInt8)) || (!(x144002_50 == 0) || (!(x144003_50 == 0) || (!(x144004_50 == 0) || (!(a0_5 == 0) || (!(a0_6.toList == ([] : List UInt8))))))))) = false := by simpa using c82
       (have c82b0E := c82b0); (try simp only [empty_toList_u8, beq_nil_u8, beq_self_eq_true, Bool.not_true, Bool.false_or, List.isEmpty_nil] at c82b0E); clear c82
       (first | rw [c82b0] | (simp only [i64_w, i32_w]; rw [c82b0]) | skip)
       rcases qJ H with ⟨c85, H⟩ | ⟨c85, H⟩
       ·have c85b0 : (a0_1.toList == ([] : List UInt8)) = true := beq_iff_eq.mpr c85
        (have c85b0E := c85b0); (try simp only [empty_toList_u8, beq_nil_u8, beq_self_eq_true, Bool.not_true, Bool.false_or, List.isEmpty_nil] at c85b0E); (have c85b1 : (a0_1.toList != ([] : List UInt8)) = false := bne_eq_false_iff_eq.mpr c85); clear c85; (have H' := Aside0.mk H); clear H; (have hnb86 := NB143_141.out); (have hnc86 := NB141_143.out); (obtain ⟨hcz87_0, hcz87_1, hcz87_2, hcz87_3, hcz87_4, hcz87_5, hcz87_6, hfz87_0, hfz87_1, hfz87_2, hfz87_3, hfz87_4, hfz87_5, hfz87_6⟩ := qC7 BK143); (obtain ⟨hcz88_0, hcz88_1, hcz88_2, hcz88_3, hcz88_4, hcz88_5, hcz88_6, hfz88_0, hfz88_1, hfz88_2, hfz88_3, hfz88_4, hfz88_5, hfz88_6⟩ := qC7 BK141)
        go_wp2
        go_meet
        case rel => exact ⟨_, (true), qV, H', ⟨by have := HJ50.out; first | omega | exact Nat.le_refl _⟩, ⟨qR HO_5⟩, ⟨qB BK141⟩, ⟨qB BK143⟩, ⟨qS2 HB GE141 GE143⟩⟩
       ·have c85b0 : (a0_1.toList == ([] : List UInt8)) = false := beq_eq_false_iff_ne.mpr c85
        (have c85b0E := c85b0); (try simp only [empty_toList_u8, beq_nil_u8, beq_self_eq_true, Bool.not_true, Bool.false_or, List.isEmpty_nil] at c85b0E); (have c85b1 : (a0_1.toList != ([] : List UInt8)) = true := bne_iff_ne.mpr c85); (obtain ⟨t156, A89, H⟩ := qX H); (replace H : (impl_reqText.j1 kj50 t144 x5_50 t156 a0_0 a0_1 a0_2 a0_3 a0_4 a0_5 a0_6) = some r := H); (have H' := Aside0.mk H); clear H; (have hnb90 := NB143_141.out); (have hnc90 := NB141_143.out); (obtain ⟨hcz91_0, hcz91_1, hcz91_2, hcz91_3, hcz91_4, hcz91_5, hcz91_6, hfz91_0, hfz91_1, hfz91_2, hfz91_3, hfz91_4, hfz91_5, hfz91_6⟩ := qC7 BK143); (obtain ⟨hcz92_0, hcz92_1, hcz92_2, hcz92_3, hcz92_4, hcz92_5, hcz92_6, hfz92_0, hfz92_1, hfz92_2, hfz92_3, hfz92_4, hfz92_5, hfz92_6⟩ := qC7 BK141)
        go_wp2_with (first | (go_at_call 37; (with_reducible refine (strings_ContainsAny.calls a0_1 (⟨#[9, 10, 13, 32]⟩ : ByteArray) t156 _ A89.out).mono ?_); rintro e w93 ⟨rfl, hb⟩; replace HO_5 := Aside0.mk (Kd.R_below (qR HO_5) hb); replace BK141 := qD BK141 hb; replace BK143 := qD BK143 hb; replace HB := Aside0.mk (below_step (qS2 HB GE141 GE143) hb); (try clear hb); (try clear hb2); (try clear hk); (try clear hi)))
        go_meet
        case rel => exact ⟨_, (t156), qV, H', ⟨by have := HJ50.out; first | omega | exact Nat.le_refl _⟩, ⟨qR HO_5⟩, ⟨qB BK141⟩, ⟨qB BK143⟩, ⟨qS2 HB GE141 GE143⟩⟩
     case rest =>
      clear HC81; (try clear c82b0); (try clear c85b0); (try clear c85b1); (try clear hcz84_0); (try clear hcz84_1); (try clear hcz84_2); (try clear hcz84_3); (try clear hcz84_4); (try clear hcz84_5); (try clear hcz84_6); (try clear hcz87_0); (try clear hcz87_1); (try clear hcz87_2); (try clear hcz87_3); (try clear hcz87_4); (try clear hcz87_5); (try clear hcz87_6); (try clear hcz88_0); (try clear hcz88_1); (try clear hcz88_2); (try clear hcz88_3); (try clear hcz88_4); (try clear hcz88_5); (try clear hcz88_6); (try clear hcz91_0); (try clear hcz91_1); (try clear hcz91_2); (try clear hcz91_3); (try clear hcz91_4); (try clear hcz91_5); (try clear hcz91_6); (try clear hcz92_0); (try clear hcz92_1); (try clear hcz92_2); (try clear hcz92_3); (try clear hcz92_4); (try clear hcz92_5); (try clear hcz92_6); (try clear hfz84_0); (try clear hfz84_1); (try clear hfz84_2); (try clear hfz84_3); (try clear hfz84_4); (try clear hfz84_5); (try clear hfz84_6); (try clear hfz87_0); (try clear hfz87_1); (try clear hfz87_2); (try clear hfz87_3); (try clear hfz87_4); (try clear hfz87_5); (try clear hfz87_6); (try clear hfz88_0); (try clear hfz88_1); (try clear hfz88_2); (try clear hfz88_3); (try clear hfz88_4); (try clear hfz88_5); (try clear hfz88_6); (try clear hfz91_0); (try clear hfz91_1); (try clear hfz91_2); (try clear hfz91_3); (try clear hfz91_4); (try clear hfz91_5); (try clear hfz91_6); (try clear hfz92_0); (try clear hfz92_1); (try clear hfz92_2); (try clear hfz92_3); (try clear hfz92_4); (try clear hfz92_5); (try clear hfz92_6); (obtain ⟨kq, x72_80, rfl, HA, HJ80, HO_5, BK141, BK143, HB⟩ := hcut)
      cases kq with
      | zero => exact absurd HA.out (by simp [impl_reqText.j1])
      | succ kj80 =>
       (have H := HA.out); clear HA; (simp only [impl_reqText.j1] at H)
       by_cases c94 : x72_80 = true
       ·subst c94
        (have H1 : (some (⟨#[]⟩ : ByteArray)) = some r := by rw [if_pos rfl] at H; exact H); clear H; (have H := H1); clear H1; (obtain rfl := Option.some.inj H)
        go_wp2
        go_ret
        exact ⟨qE, qS2 HB GE141 GE143⟩
       ·replace c94 := Bool.eq_false_iff.mpr c94
        (subst c94); (have H1 : (if t144.size + 1 ≤ 9223372036854775807 then (if (t144 ++ (⟨#[32]⟩ : ByteArray)).size + a0_1.size ≤ 9223372036854775807 then (impl_reqText.l0 kj80 ((t144 ++ (⟨#[32]⟩ : ByteArray)) ++ a0_1) x5_50 (x5_50.length : Int) 0) else (none)) else (none)) = some r := by rw [if_neg (show ¬ (false = true) by decide)] at H; exact H); clear H; (have H := H1); clear H1; (obtain ⟨c95, H⟩ := qU H); (have c95b0 := eq_true c95); (have c95b1 : decide (t144.size + 1 ≤ 9223372036854775807) = true := decide_eq_true c95)
        try have c95b2 : (9223372036854775807 < t144.size + 1) = False := eq_false (Nat.not_lt.2 c95)
        (obtain ⟨c96, H⟩ := qU H); (have c96b0 := eq_true c96); (have c96b1 : decide ((t144 ++ (⟨#[32]⟩ : ByteArray)).size + a0_1.size ≤ 9223372036854775807) = true := decide_eq_true c96)
        try have c96b2 : (9223372036854775807 < (t144 ++ (⟨#[32]⟩ : ByteArray)).size + a0_1.size) = False := eq_false (Nat.not_lt.2 c96)
        try have c96b3 := c96b2
        try simp only [ByteArray.size_append, show (⟨#[32]⟩ : ByteArray).size = 1 from rfl] at c96b3
        (have H' := Aside0.mk H); clear H; (have hnb97 := NB141_143.out); (have hnc97 := NB143_141.out); (obtain ⟨hcz98_0, hcz98_1, hcz98_2, hcz98_3, hcz98_4, hcz98_5, hcz98_6, hfz98_0, hfz98_1, hfz98_2, hfz98_3, hfz98_4, hfz98_5, hfz98_6⟩ := qC7 BK141); (obtain ⟨Ao99, co99, eo99⟩ := Kd.R_slice HO_5.out); (subst eo99)
        go_wp2
        go_loopg [6, 80] kj80 (fun kq v6 v80 w' => ∃ (x6_3 : ByteArray) (x80_3 : Int), v6 = .string x6_3 ∧ v80 = .int .i64 x80_3 ∧ Aside0 (impl_reqText.l0 kq x6_3 x5_50 (x5_50.length : Int) x80_3 = some r) ∧ Aside0 (kq ≤ kj80) ∧ Aside0 (Kd.R (Kd.int .i64) 3 w' w.heap.size (fun _ => True) (.slice Ao99 x5_50.length co99) x5_50) ∧ Aside0 (w'.heap[gb141]? = some (.cells #[.int .i64 a0_0, .string a0_1, .int .i64 a0_2, .int .i64 a0_3, .int .i64 a0_4, .int .i64 a0_5, .string a0_6] 23 (0, 0))) ∧ Aside0 (w'.heap[gb143]? = some (.cells #[.int .i64 0, .string (⟨#[]⟩ : ByteArray), .int .i64 x144002_50, .int .i64 x144003_50, .int .i64 x144004_50, .int .i64 a0_5, .string a0_6] 23 (0, 0))) ∧ Aside0 (Below w.heap.size w w'))
        case atStart => exact ⟨((t144 ++ (⟨#[32]⟩ : ByteArray)) ++ a0_1), (0), qV, qV, H', ⟨Nat.le_refl _⟩, ⟨qR HO_5⟩, ⟨qB BK141⟩, ⟨qB BK143⟩, ⟨qS2 HB GE141 GE143⟩⟩
        case round =>
         clear H'; (try clear c94); (try clear c95); (try clear c95b0); (try clear c95b1); (try clear c95b2); (try clear c96); (try clear c96b0); (try clear c96b1); (try clear c96b2); (try clear hcz98_0); (try clear hcz98_1); (try clear hcz98_2); (try clear hcz98_3); (try clear hcz98_4); (try clear hcz98_5); (try clear hcz98_6); (try clear hfz98_0); (try clear hfz98_1); (try clear hfz98_2); (try clear hfz98_3); (try clear hfz98_4); (try clear hfz98_5); (try clear hfz98_6); (obtain ⟨x6_3, x80_3, rfl, rfl, HA, HK3, HO_78, BK141, BK143, HB⟩ := hrel)
         cases gk with
         | zero => exact absurd HA.out (by simp [impl_reqText.l0])
         | succ k3 =>
          (have H := HA.out); clear HA; (simp only [impl_reqText.l0] at H)
          rcases qI H with ⟨c100b0, H⟩ | ⟨c100b0, H⟩
          ·obtain ⟨c101b0, H⟩ := qT H
           (obtain ⟨c102b0, H⟩ := qT H); (obtain ⟨t158, A103, H⟩ := qX H)
           try dsimp only at H
           by_cases c104 : t158 = true
           ·subst c104
            (have H1 : ((strconv_Itoa_36.f (rd x5_50 x80_3)).bind fun t159 => (if 1 + t159.size ≤ 9223372036854775807 then (if x6_3.size + ((⟨#[32]⟩ : ByteArray) ++ t159).size ≤ 9223372036854775807 then (impl_reqText.l0 k3 (x6_3 ++ ((⟨#[32]⟩ : ByteArray) ++ t159)) x5_50 (x5_50.length : Int) (wrap64 (x80_3 + 1))) else (none)) else (none))) = some r := by rw [if_pos rfl] at H; exact H); clear H; (have H := H1); clear H1; (obtain ⟨t159, A105, H⟩ := qX H)
            try dsimp only at H
            (obtain ⟨c106, H⟩ := qU H); (have c106b0 := eq_true c106); (have c106b1 : decide (1 + t159.size ≤ 9223372036854775807) = true := decide_eq_true c106)
            try have c106b2 : (9223372036854775807 < 1 + t159.size) = False := eq_false (Nat.not_lt.2 c106)
            (obtain ⟨c107, H⟩ := qU H); (have c107b0 := eq_true c107); (have c107b1 : decide (x6_3.size + ((⟨#[32]⟩ : ByteArray) ++ t159).size ≤ 9223372036854775807) = true := decide_eq_true c107)
            try have c107b2 : (9223372036854775807 < x6_3.size + ((⟨#[32]⟩ : ByteArray) ++ t159).size) = False := eq_false (Nat.not_lt.2 c107)
            try have c107b3 := c107b2
            try simp only [ByteArray.size_append, show (⟨#[32]⟩ : ByteArray).size = 1 from rfl] at c107b3
            (have H' := Aside0.mk H); clear H; (have p157 : 0 ≤ (x80_3 : Int) := qO); (have q157 : x80_3 < (x5_50.length : Int) := qO); (obtain ⟨ad157, e157, hx157_0⟩ := Kd.at_int (Kd.R_reads' HO_78.out).2.2 x80_3 p157 q157)
            cases e157
            (replace p157 := eq_true p157); (replace q157 := eq_true q157)
            go_wp2_with (first | ((with_reducible refine gate_callee (f := 38) rfl ?_); refine goesL_ (some 85) rfl rfl Tryd.func38 (by kernel_rfl) rfl #[.int .i64 (rd x5_50 x80_3), .int .i64 0, .int .i64 999999999] rfl qL ?_; (with_reducible refine (impl_within.calls (rd x5_50 x80_3) 0 999999999 true _ A103.out).mono ?_); rintro e w' ⟨rfl, ⟨nd, rfl⟩⟩; refine ⟨_, rfl, ?_⟩) | ((with_reducible refine gate_callee (f := 36) rfl ?_); refine goesL_ (some 89) rfl rfl Tryd.func36 (by kernel_rfl) rfl #[.int .i64 (rd x5_50 x80_3)] rfl qL ?_; (with_reducible refine (strconv_Itoa_36.calls (rd x5_50 x80_3) t159 _ A105.out (G_below (qS2 HB GE141 GE143) hG)).mono ?_); rintro e w108 ⟨rfl, hb⟩; refine ⟨_, rfl, ?_⟩; replace HO_78 := Aside0.mk (Kd.R_below (qR HO_78) hb); replace BK141 := qD BK141 hb; replace BK143 := qD BK143 hb; replace HB := Aside0.mk (below_step (qS2 HB GE141 GE143) hb); (try clear hb); (try clear hb2); (try clear hk); (try clear hi)))
            go_roundg k3
            case measure => have := HJ50.out; have := HJ80.out; have := HK3.out; omega
            case rel => exact ⟨(x6_3 ++ ((⟨#[32]⟩ : ByteArray) ++ t159)), (wrap64 (x80_3 + 1)), qV, qV, H', ⟨by have := HJ50.out; have := HJ80.out; have := HK3.out; omega⟩, ⟨qR HO_78⟩, ⟨qB BK141⟩, ⟨qB BK143⟩, ⟨qS2 HB GE141 GE143⟩⟩
           ·replace c104 := Bool.eq_false_iff.mpr c104
            (subst c104); (have H1 : (some (⟨#[]⟩ : ByteArray)) = some r := by rw [if_neg (show ¬ (false = true) by decide)] at H; exact H); clear H; (have H := H1); clear H1; (obtain rfl := Option.some.inj H); (have p157 : 0 ≤ (x80_3 : Int) := qO); (have q157 : x80_3 < (x5_50.length : Int) := qO); (obtain ⟨ad157, e157, hx157_0⟩ := Kd.at_int (Kd.R_reads' HO_78.out).2.2 x80_3 p157 q157)
            cases e157
            (replace p157 := eq_true p157); (replace q157 := eq_true q157)
            go_wp2_with (first | ((with_reducible refine gate_callee (f := 38) rfl ?_); refine goesL_ (some 85) rfl rfl Tryd.func38 (by kernel_rfl) rfl #[.int .i64 (rd x5_50 x80_3), .int .i64 0, .int .i64 999999999] rfl qL ?_; (with_reducible refine (impl_within.calls (rd x5_50 x80_3) 0 999999999 false _ A103.out).mono ?_); rintro e w' ⟨rfl, ⟨nd, rfl⟩⟩; refine ⟨_, rfl, ?_⟩))
            go_ret
            exact ⟨qE, qS2 HB GE141 GE143⟩
          ·obtain rfl := Option.some.inj H
           go_wp2
           go_ret
           exact ⟨qE, qS2 HB GE141 GE143⟩
 ·replace c3 := Bool.eq_false_iff.mpr c3
  (subst c3); (have H1 : (some (⟨#[]⟩ : ByteArray)) = some r := by rw [if_neg (show ¬ (false = true) by decide)] at H; exact H); clear H; (have H := H1); clear H1; (obtain rfl := Option.some.inj H)
  go_enter Tryd.func19, Tryd.ntmps19
  go_wp2_with (first | ((with_reducible refine gate_dst (N := 1) rfl ?_); refine box_event ?hg (N := 1) ?hd (cs := #[.int .i64 a0_0, .string a0_1, .int .i64 a0_2, .int .i64 a0_3, .int .i64 a0_4, .int .i64 a0_5, .string a0_6]) (t := 23) ?hr ?_; (case hd => rfl); (case hg => rfl); (case hr => first | (go_simp; done) | (go_simp; rfl)); intro gb141 hg w109 hbox hb; have BK141 := Aside0.mk (hbox); have GW141 := qG hg (below_size (qS0 HB)); have GE141 := qG hg (below_size (qS0 HB)); replace HB := Aside0.mk (below_step (qS0 HB) hb); clear hb hbox hg; obtain ⟨hcz110_0, hcz110_1, hcz110_2, hcz110_3, hcz110_4, hcz110_5, hcz110_6, hfz110_0, hfz110_1, hfz110_2, hfz110_3, hfz110_4, hfz110_5, hfz110_6⟩ := qC7 BK141) | ((with_reducible refine gate_callee (f := 34) rfl ?_); refine goesL_ (some 10) rfl rfl Tryd.func34 (by kernel_rfl) rfl #[.agg #[.int .i64 a0_0, .string a0_1, .int .i64 a0_2, .int .i64 a0_3, .int .i64 a0_4, .int .i64 a0_5, .string a0_6]] rfl qL ?_; (with_reducible refine (impl_isReq.calls a0_0 a0_1 a0_2 a0_3 a0_4 a0_5 a0_6 false _ A2.out).mono ?_); rintro e w111 ⟨rfl, hb⟩; refine ⟨_, rfl, ?_⟩; replace BK141 := qD BK141 hb; replace HB := Aside0.mk (below_step (qS1 HB GE141) hb); (try clear hb); (try clear hb2); (try clear hk); (try clear hi)))
  go_ret
  exact ⟨qE, qS1 HB GE141⟩
end Go.Proofs.YtgnbfmoifnfneaaDoor.QA
