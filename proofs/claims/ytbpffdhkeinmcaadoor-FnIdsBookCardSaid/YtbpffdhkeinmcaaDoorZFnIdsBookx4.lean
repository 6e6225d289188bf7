/- Part of the proof of the law FnIdsBook: what it uses of the texts that this session and the kit's print wrote. -/
import Derived.Test.YtbpffdhkeinmcaaDoorZFnIdsBookx2
import Derived.Test.YtbpffdhkeinmcaaDoorZFnIdsBookx3
namespace Go.Proofs.YtbpffdhkeinmcaaDoor.QE
open Go.RowKit Go.Proofs.YtbpffdhkeinmcaaDoorW.PrintWords Go.Proofs.YtbpffdhkeinmcaaDoorW.PrintLast Go.Proofs.YtbpffdhkeinmcaaDoorW.PrintMore
attribute [local go_sem] max2_int min2_int max_two min_two max_three min_three max_four min_four
set_option linter.unusedVariables false
set_option linter.unusedSimpArgs false
def impl_isConf.f (a0_0 : Int) (a0_1 : Int) (a0_2 : Int) (a0_3 : Int) : Option (Bool) := (impl_within.f a0_0 0 4294967295).bind fun t189 => (if t189 = true then ((impl_isDeepLog.f a0_1).bind fun t190 => (if t190 = true then ((impl_within.f a0_2 0 64).bind fun t191 => (if t191 = true then ((impl_within.f a0_3 1 64).bind fun t192 => (some t192)) else (some false))) else (some false))) else (some false))
set_option maxHeartbeats 8000000 in
set_option maxRecDepth 100000 in
theorem impl_isConf.calls (a0_0 : Int) (a0_1 : Int) (a0_2 : Int) (a0_3 : Int) (r : Bool) (w : World) (h : impl_isConf.f a0_0 a0_1 a0_2 a0_3 = some r) :
  Calls Tryd.prog 57 #[.agg #[.int .i64 a0_0, .int .i64 a0_1, .int .i64 a0_2, .int .i64 a0_3]] w fun e w' => e = .returned (.bool r) ∧ Below w.heap.size w w' := by
 (have hu25 := Tryd.underlying25); (have HB := Aside0.mk (Below.refl w.heap.size w)); (have H : ((impl_within.f a0_0 0 4294967295).bind fun t189 => (if t189 = true then ((impl_isDeepLog.f a0_1).bind fun t190 => (if t190 = true then ((impl_within.f a0_2 0 64).bind fun t191 => (if t191 = true then ((impl_within.f a0_3 1 64).bind fun t192 => (some t192)) else (some false))) else (some false))) else (some false))) = some r := h); clear h; (replace H := Option.bind_eq_some_iff.mp H); (obtain ⟨t189, A20, H⟩ := H)
 try dsimp only at H
 (have A2 := Aside0.mk A20); clear A20
 by_cases c3 : t189 = true
 ·subst c3
  (have H1 : ((impl_isDeepLog.f a0_1).bind fun t190 => (if t190 = true then ((impl_within.f a0_2 0 64).bind fun t191 => (if t191 = true then ((impl_within.f a0_3 1 64).bind fun t192 => (some t192)) else (some false))) else (some false))) = some r := by rw [if_pos rfl] at H; exact H); clear H; (have H := H1); clear H1; (replace H := Option.bind_eq_some_iff.mp H); (obtain ⟨t190, A40, H⟩ := H)
  try dsimp only at H
  (have A4 := Aside0.mk A40); clear A40
  by_cases c5 : t190 = true
  ·subst c5
   (have H1 : ((impl_within.f a0_2 0 64).bind fun t191 => (if t191 = true then ((impl_within.f a0_3 1 64).bind fun t192 => (some t192)) else (some false))) = some r := by rw [if_pos rfl] at H; exact H); clear H; (have H := H1); clear H1; (replace H := Option.bind_eq_some_iff.mp H); (obtain ⟨t191, A60, H⟩ := H)
   try dsimp only at H
   (have A6 := Aside0.mk A60); clear A60
   by_cases c7 : t191 = true
   ·subst c7
    (have H1 : ((impl_within.f a0_3 1 64).bind fun t192 => (some t192)) = some r := by rw [if_pos rfl] at H; exact H); clear H; (have H := H1); clear H1; (replace H := Option.bind_eq_some_iff.mp H); (obtain ⟨t192, A80, H⟩ := H); (replace H : (some t192) = some r := H); (have A8 := Aside0.mk A80); clear A80; (obtain rfl := Option.some.inj H)
    go_enter Tryd.func57, Tryd.ntmps57
    go_wp2_with (first | ((with_reducible refine gate_dst (N := 1) rfl ?_); refine box_event ?hg (N := 1) ?hd (cs := #[.int .i64 a0_0, .int .i64 a0_1, .int .i64 a0_2, .int .i64 a0_3]) (t := 25) ?hr ?_; (case hd => rfl); (case hg => rfl); (case hr => first | (go_simp; done) | (go_simp; rfl)); intro gb188 hg w9 hbox hb; have n0_ := Aside0.mk (below_step (qS0 HB) hb); have n1_ := Aside0.mk (hbox); have n2_ := qG hg (below_size (qS0 HB)); have n3_ := qG hg (below_size (qS0 HB)); clear HB; have HB := n0_; have BK188 := n1_; have GW188 := n2_; have GE188 := n3_; clear n0_ n1_ n2_ n3_ hb hbox hg; obtain ⟨hcz10_0, hcz10_1, hcz10_2, hcz10_3, hfz10_0, hfz10_1, hfz10_2, hfz10_3⟩ := qC4 BK188) | ((with_reducible refine gate_callee (f := 69) rfl ?_); refine goesL_ (some 5) rfl rfl Tryd.func69 (by kernel_rfl) rfl #[.int .i64 a0_0, .int .i64 0, .int .i64 4294967295] rfl qL ?_; (with_reducible refine (impl_within.calls a0_0 0 4294967295 true _ A2.out).mono ?_); rintro e w' ⟨rfl, ⟨nd, rfl⟩⟩; refine ⟨_, rfl, ?_⟩) | (go_at_call 98; (with_reducible refine (impl_isDeepLog.calls a0_1 true _ A4.out).mono ?_); rintro e w' ⟨rfl, ⟨nd, rfl⟩⟩) | (go_at_call 69; (with_reducible refine (impl_within.calls a0_2 0 64 true _ A6.out).mono ?_); rintro e w' ⟨rfl, ⟨nd, rfl⟩⟩) | (go_at_call 69; (with_reducible refine (impl_within.calls a0_3 1 64 t192 _ A8.out).mono ?_); rintro e w' ⟨rfl, ⟨nd, rfl⟩⟩))
    go_ret
    exact ⟨qE, qS1 HB GE188⟩
   ·replace c7 := Bool.eq_false_iff.mpr c7
    (subst c7); (have H1 : (some false) = some r := by rw [if_neg (show ¬ (false = true) by decide)] at H; exact H); clear H; (have H := H1); clear H1; (obtain rfl := Option.some.inj H)
    go_enter Tryd.func57, Tryd.ntmps57
    go_wp2_with (first | ((with_reducible refine gate_dst (N := 1) rfl ?_); refine box_event ?hg (N := 1) ?hd (cs := #[.int .i64 a0_0, .int .i64 a0_1, .int .i64 a0_2, .int .i64 a0_3]) (t := 25) ?hr ?_; (case hd => rfl); (case hg => rfl); (case hr => first | (go_simp; done) | (go_simp; rfl)); intro gb188 hg w11 hbox hb; have n0_ := Aside0.mk (below_step (qS0 HB) hb); have n1_ := Aside0.mk (hbox); have n2_ := qG hg (below_size (qS0 HB)); have n3_ := qG hg (below_size (qS0 HB)); clear HB; have HB := n0_; have BK188 := n1_; have GW188 := n2_; have GE188 := n3_; clear n0_ n1_ n2_ n3_ hb hbox hg; obtain ⟨hcz12_0, hcz12_1, hcz12_2, hcz12_3, hfz12_0, hfz12_1, hfz12_2, hfz12_3⟩ := qC4 BK188) | ((with_reducible refine gate_callee (f := 69) rfl ?_); refine goesL_ (some 5) rfl rfl Tryd.func69 (by kernel_rfl) rfl #[.int .i64 a0_0, .int .i64 0, .int .i64 4294967295] rfl qL ?_; (with_reducible refine (impl_within.calls a0_0 0 4294967295 true _ A2.out).mono ?_); rintro e w' ⟨rfl, ⟨nd, rfl⟩⟩; refine ⟨_, rfl, ?_⟩) | (go_at_call 98; (with_reducible refine (impl_isDeepLog.calls a0_1 true _ A4.out).mono ?_); rintro e w' ⟨rfl, ⟨nd, rfl⟩⟩) | (go_at_call 69; (with_reducible refine (impl_within.calls a0_2 0 64 false _ A6.out).mono ?_); rintro e w' ⟨rfl, ⟨nd, rfl⟩⟩))
    go_ret
    exact ⟨qE, qS1 HB GE188⟩
  ·replace c5 := Bool.eq_false_iff.mpr c5
   (subst c5); (have H1 : (some false) = some r := by rw [if_neg (show ¬ (false = true) by decide)] at H; exact H); clear H; (have H := H1); clear H1; (obtain rfl := Option.some.inj H)
   go_enter Tryd.func57, Tryd.ntmps57
   go_wp2_with (first | ((with_reducible refine gate_dst (N := 1) rfl ?_); refine box_event ?hg (N := 1) ?hd (cs := #[.int .i64 a0_0, .int .i64 a0_1, .int .i64 a0_2, .int .i64 a0_3]) (t := 25) ?hr ?_; (case hd => rfl); (case hg => rfl); (case hr => first | (go_simp; done) | (go_simp; rfl)); intro gb188 hg w13 hbox hb; have n0_ := Aside0.mk (below_step (qS0 HB) hb); have n1_ := Aside0.mk (hbox); have n2_ := qG hg (below_size (qS0 HB)); have n3_ := qG hg (below_size (qS0 HB)); clear HB; have HB := n0_; have BK188 := n1_; have GW188 := n2_; have GE188 := n3_; clear n0_ n1_ n2_ n3_ hb hbox hg; obtain ⟨hcz14_0, hcz14_1, hcz14_2, hcz14_3, hfz14_0, hfz14_1, hfz14_2, hfz14_3⟩ := qC4 BK188) | ((with_reducible refine gate_callee (f := 69) rfl ?_); refine goesL_ (some 5) rfl rfl Tryd.func69 (by kernel_rfl) rfl #[.int .i64 a0_0, .int .i64 0, .int .i64 4294967295] rfl qL ?_; (with_reducible refine (impl_within.calls a0_0 0 4294967295 true _ A2.out).mono ?_); rintro e w' ⟨rfl, ⟨nd, rfl⟩⟩; refine ⟨_, rfl, ?_⟩) | (go_at_call 98; (with_reducible refine (impl_isDeepLog.calls a0_1 false _ A4.out).mono ?_); rintro e w' ⟨rfl, ⟨nd, rfl⟩⟩))
   go_ret
   exact ⟨qE, qS1 HB GE188⟩
 ·replace c3 := Bool.eq_false_iff.mpr c3
  (subst c3); (have H1 : (some false) = some r := by rw [if_neg (show ¬ (false = true) by decide)] at H; exact H); clear H; (have H := H1); clear H1; (obtain rfl := Option.some.inj H)
  go_enter Tryd.func57, Tryd.ntmps57
  go_wp2_with (first | ((with_reducible refine gate_dst (N := 1) rfl ?_); refine box_event ?hg (N := 1) ?hd (cs := #[.int .i64 a0_0, .int .i64 a0_1, .int .i64 a0_2, .int .i64 a0_3]) (t := 25) ?hr ?_; (case hd => rfl); (case hg => rfl); (case hr => first | (go_simp; done) | (go_simp; rfl)); intro gb188 hg w15 hbox hb; have n0_ := Aside0.mk (below_step (qS0 HB) hb); have n1_ := Aside0.mk (hbox); have n2_ := qG hg (below_size (qS0 HB)); have n3_ := qG hg (below_size (qS0 HB)); clear HB; have HB := n0_; have BK188 := n1_; have GW188 := n2_; have GE188 := n3_; clear n0_ n1_ n2_ n3_ hb hbox hg; obtain ⟨hcz16_0, hcz16_1, hcz16_2, hcz16_3, hfz16_0, hfz16_1, hfz16_2, hfz16_3⟩ := qC4 BK188) | ((with_reducible refine gate_callee (f := 69) rfl ?_); refine goesL_ (some 5) rfl rfl Tryd.func69 (by kernel_rfl) rfl #[.int .i64 a0_0, .int .i64 0, .int .i64 4294967295] rfl qL ?_; (with_reducible refine (impl_within.calls a0_0 0 4294967295 false _ A2.out).mono ?_); rintro e w' ⟨rfl, ⟨nd, rfl⟩⟩; refine ⟨_, rfl, ?_⟩))
  go_ret
  exact ⟨qE, qS1 HB GE188⟩
def idxF {α : Type} (p : α → Option Bool) : List α → Nat → Option Int
 | [], _ => some (-1)
 | x :: xs, i => (p x).bind fun b => if b = true then some (i : Int) else idxF p xs (i + 1)
theorem idxF_at {α : Type} (p : α → Option Bool) (l : List α) (i j : Nat) (hj : j < l.length) : idxF p (l.drop j) i = (p (l[j]'hj)).bind fun b => if b = true then some (i : Int) else idxF p (l.drop (j + 1)) (i + 1) := by
 rw [List.drop_eq_getElem_cons hj]; rfl
def contF {α : Type} (p : α → Option Bool) (l : List α) : Option Bool := (idxF p l 0).bind fun i => some (decide (0 ≤ i))
set_option maxHeartbeats 8000000 in
set_option maxRecDepth 100000 in
theorem idx_32 (p : S32 → Option Bool) (g : Nat) (lb : Array Value) (eg : ∀ args w, (callFunc g args).run Tryd.prog w = .ok (.enter g args) w) (A0 : Option Addr) (c0 : Nat) (l0 : List S32) (r : Int) (w : World) (hr0 : Kd.C k32 w A0 l0.length l0)
  (hp : ∀ (W : World) (x : S32) (b : Bool), Below w.heap.size w W → x ∈ l0 → p x = some b → Calls Tryd.prog g (#[.agg #[.int .i64 x.f0, .string x.f1, .int .i64 x.f2, .int .i64 x.f3, .int .i64 x.f4, .int .i64 x.f5, .string x.f6]] ++ lb) W fun e w' => e = .returned (.bool b) ∧ Below W.heap.size W w')
  (h : idxF p l0 0 = some r) :
  Calls Tryd.prog 128 #[.slice A0 l0.length c0, .func (.func g) #[] lb] w fun e w' => e = .returned (.int .i64 r) ∧ Below w.heap.size w w' := by
 (have hu := Tryd.underlying32); (have HR0 := Aside0.mk hr0); (have HP := Aside0.mk hp); (have hlen : l0.length ≤ 9223372036854775807 := hr0.2.1); clear hr0 hp; (have H' := Aside0.mk h); clear h
 go_enter Tryd.func128, Tryd.ntmps128
 go_wp2
 go_loopg [5, 8] l0.length (fun gg _ s8 wr => ∃ kk : Nat, kk ≤ l0.length ∧ l0.length - kk ≤ gg ∧ s8 = .int .i64 kk ∧ Aside0 (Below w.heap.size w wr) ∧ Aside0 (idxF p (l0.drop kk) kk = some r))
 case atStart => exact ⟨0, Nat.zero_le _, by omega, rfl, ⟨Below.refl _ w⟩, by simpa using H'⟩
 case round =>
  clear H'; (obtain ⟨kk, hkk, hg, rfl, BW, A⟩ := hrel)
  by_cases hlt : kk < l0.length
  ·have hltz : decide ((kk : Int) < (l0.length : Int)) = true := decide_eq_true (by omega)
   (have A1 := A.out); (rw [idxF_at p l0 kk kk hlt] at A1); clear A; (obtain ⟨b, hb, A2⟩ := Option.bind_eq_some_iff.mp A1); clear A1; (have hmem : l0[kk] ∈ l0 := List.getElem_mem hlt); (have hcall := HP.out wr l0[kk] b BW.out hmem hb); (obtain ⟨ad1, cs1, e1, hl1, hK1, hcell1⟩ := Kd.C_get HR0.out l0[kk] (kk : Int) (by omega) (by omega)); (have hget : l0.getD ((kk : Int)).toNat l0[kk] = l0[kk] := by simp [List.getD, hlt]); (rw [hget] at hK1); clear hget; (obtain rfl := k32_open hK1); (have hx0 := hcell1 0 _ rfl); (rw [show (k32).sz = 7 from rfl, Int.toNat_natCast, Nat.add_zero] at hx0); (have hx1 := hcell1 1 _ rfl); (rw [show (k32).sz = 7 from rfl, Int.toNat_natCast, add_field _ _ 1 (by omega)] at hx1); (have hx2 := hcell1 2 _ rfl); (rw [show (k32).sz = 7 from rfl, Int.toNat_natCast, add_field _ _ 2 (by omega)] at hx2); (have hx3 := hcell1 3 _ rfl); (rw [show (k32).sz = 7 from rfl, Int.toNat_natCast, add_field _ _ 3 (by omega)] at hx3); (have hx4 := hcell1 4 _ rfl); (rw [show (k32).sz = 7 from rfl, Int.toNat_natCast, add_field _ _ 4 (by omega)] at hx4); (have hx5 := hcell1 5 _ rfl); (rw [show (k32).sz = 7 from rfl, Int.toNat_natCast, add_field _ _ 5 (by omega)] at hx5); (have hx6 := hcell1 6 _ rfl); (rw [show (k32).sz = 7 from rfl, Int.toNat_natCast, add_field _ _ 6 (by omega)] at hx6)
   cases e1
   (try clear hK1); clear hl1 hcell1; (replace hx0 := (BW.out.cell (World.block_lt_of_cell? w _ hx0)).trans hx0); (replace hx1 := (BW.out.cell (World.block_lt_of_cell? w _ hx1)).trans hx1); (replace hx2 := (BW.out.cell (World.block_lt_of_cell? w _ hx2)).trans hx2); (replace hx3 := (BW.out.cell (World.block_lt_of_cell? w _ hx3)).trans hx3); (replace hx4 := (BW.out.cell (World.block_lt_of_cell? w _ hx4)).trans hx4); (replace hx5 := (BW.out.cell (World.block_lt_of_cell? w _ hx5)).trans hx5); (replace hx6 := (BW.out.cell (World.block_lt_of_cell? w _ hx6)).trans hx6); clear hmem hb
   generalize l0[kk] = y at hcall hx0 hx1 hx2 hx3 hx4 hx5 hx6
   cases b with
   | true =>
    (obtain rfl : (kk : Int) = r := by simpa using A2); clear A2
    go_wp2_with (go_at_fn g; refine hcall.mono ?_; rintro e w' ⟨rfl, hb'⟩)
    go_ret
    exact ⟨rfl, below_then BW.out BW.out.size hb'⟩
   | false =>
    (have A3 : Aside0 (idxF p (l0.drop (kk + 1)) (kk + 1) = some r) := ⟨by simpa using A2⟩); clear A2
    go_wp2_with (go_at_fn g; refine hcall.mono ?_; rintro e w' ⟨rfl, hb'⟩)
    go_roundg (l0.length - (kk + 1))
    case measure => omega
    case rel => exact ⟨kk + 1, by omega, by omega, by go_num, ⟨below_then BW.out BW.out.size hb'⟩, A3⟩
  ·have hltz : decide ((kk : Int) < (l0.length : Int)) = false := decide_eq_false (by omega)
   obtain rfl : -1 = r := by
    (have A1 := A.out); (rw [show kk = l0.length by omega] at A1)
    simpa [idxF] using A1
   clear A
   go_wp2
   go_ret
   exact ⟨rfl, BW.out⟩
def impl_isShape.f (a0 : Int) (a1 : Int) : Option (Bool) := if a0 = 6 then ((impl_within.f a1 1 16).bind fun t193 => (some t193)) else ((impl_within.f a0 1 5).bind fun t194 => (if t194 = true then (some (a1 == 0)) else (some false)))
set_option maxHeartbeats 8000000 in
set_option maxRecDepth 100000 in
theorem impl_isShape.calls (a0 : Int) (a1 : Int) (r : Bool) (w : World) (h : impl_isShape.f a0 a1 = some r) :
  Calls Tryd.prog 67 #[.int .i64 a0, .int .i64 a1] w fun e w' => e = .returned (.bool r) ∧ Drawn0 w w' := by
 (have H : (if a0 = 6 then ((impl_within.f a1 1 16).bind fun t193 => (some t193)) else ((impl_within.f a0 1 5).bind fun t194 => (if t194 = true then (some (a1 == 0)) else (some false)))) = some r := h); clear h
 by_cases c3 : a0 = 6
 ·rw [if_pos c3] at H
  (have c3b0 : (a0 == 6) = true := beq_iff_eq.mpr c3); (have c3b1 : (a0 != 6) = false := bne_eq_false_iff_eq.mpr c3); clear c3; (replace H := Option.bind_eq_some_iff.mp H); (obtain ⟨t193, A40, H⟩ := H); (replace H : (some t193) = some r := H); (have A4 := Aside0.mk A40); clear A40; (obtain rfl := Option.some.inj H)
  go_enter Tryd.func67, Tryd.ntmps67
  go_wp2_with (first | ((with_reducible refine gate_callee (f := 69) rfl ?_); refine goesL_ (some 8) rfl rfl Tryd.func69 (by kernel_rfl) rfl #[.int .i64 a1, .int .i64 1, .int .i64 16] rfl qL ?_; (with_reducible refine (impl_within.calls a1 1 16 t193 _ A4.out).mono ?_); rintro e w' ⟨rfl, ⟨nd, rfl⟩⟩; refine ⟨_, rfl, ?_⟩))
  go_ret
  exact ⟨by first | rfl | (simp; done) | (simp [*]; done), by repeat (first | exact Drawn0.refl _ | apply Drawn0.step)⟩
 ·rw [if_neg c3] at H
  (have c3b0 : (a0 == 6) = false := beq_eq_false_iff_ne.mpr c3); (have c3b1 : (a0 != 6) = true := bne_iff_ne.mpr c3); (replace H := Option.bind_eq_some_iff.mp H); (obtain ⟨t194, A50, H⟩ := H); (replace H : (if t194 = true then (some (a1 == 0)) else (some false)) = some r := H); (have A5 := Aside0.mk A50); clear A50
  by_cases c6 : t194 = true
  ·subst c6
   (have H1 : (some (a1 == 0)) = some r := by rw [if_pos rfl] at H; exact H); clear H; (have H := H1); clear H1; (obtain rfl := Option.some.inj H)
   go_enter Tryd.func67, Tryd.ntmps67
   go_wp2_with (first | ((with_reducible refine gate_callee (f := 69) rfl ?_); refine goesL_ (some 10) rfl rfl Tryd.func69 (by kernel_rfl) rfl #[.int .i64 a0, .int .i64 1, .int .i64 5] rfl qL ?_; (with_reducible refine (impl_within.calls a0 1 5 true _ A5.out).mono ?_); rintro e w' ⟨rfl, ⟨nd, rfl⟩⟩; refine ⟨_, rfl, ?_⟩))
   go_ret
   exact ⟨by first | rfl | (simp; done) | (simp [*]; done), by repeat (first | exact Drawn0.refl _ | apply Drawn0.step)⟩
  ·replace c6 := Bool.eq_false_iff.mpr c6
   (subst c6); (have H1 : (some false) = some r := by rw [if_neg (show ¬ (false = true) by decide)] at H; exact H); clear H; (have H := H1); clear H1; (obtain rfl := Option.some.inj H)
   go_enter Tryd.func67, Tryd.ntmps67
   go_wp2_with (first | ((with_reducible refine gate_callee (f := 69) rfl ?_); refine goesL_ (some 10) rfl rfl Tryd.func69 (by kernel_rfl) rfl #[.int .i64 a0, .int .i64 1, .int .i64 5] rfl qL ?_; (with_reducible refine (impl_within.calls a0 1 5 false _ A5.out).mono ?_); rintro e w' ⟨rfl, ⟨nd, rfl⟩⟩; refine ⟨_, rfl, ?_⟩))
   go_ret
   exact ⟨by first | rfl | (simp; done) | (simp [*]; done), by repeat (first | exact Drawn0.refl _ | apply Drawn0.step)⟩
def impl_isReq.f (a0_0 : Int) (a0_1 : ByteArray) (a0_2 : Int) (a0_3 : Int) (a0_4 : Int) (a0_5 : Int) (a0_6 : ByteArray) : Option (Bool) := (impl_isShape.f a0_0 a0_5).bind fun t196 => (if t196 = true then (if (a0_1.size : Int) ≤ 100 then (some (decide ((a0_6.size : Int) ≤ 2000))) else (some false)) else (some false))
set_option maxHeartbeats 8000000 in
set_option maxRecDepth 100000 in
theorem impl_isReq.calls (a0_0 : Int) (a0_1 : ByteArray) (a0_2 : Int) (a0_3 : Int) (a0_4 : Int) (a0_5 : Int) (a0_6 : ByteArray) (r : Bool) (w : World) (h : impl_isReq.f a0_0 a0_1 a0_2 a0_3 a0_4 a0_5 a0_6 = some r) :
  Calls Tryd.prog 82 #[.agg #[.int .i64 a0_0, .string a0_1, .int .i64 a0_2, .int .i64 a0_3, .int .i64 a0_4, .int .i64 a0_5, .string a0_6]] w fun e w' => e = .returned (.bool r) ∧ Below w.heap.size w w' := by
 (have hu32 := Tryd.underlying32); (have HB := Aside0.mk (Below.refl w.heap.size w)); (have H : ((impl_isShape.f a0_0 a0_5).bind fun t196 => (if t196 = true then (if (a0_1.size : Int) ≤ 100 then (some (decide ((a0_6.size : Int) ≤ 2000))) else (some false)) else (some false))) = some r := h); clear h; (replace H := Option.bind_eq_some_iff.mp H); (obtain ⟨t196, A20, H⟩ := H)
 try dsimp only at H
 (have A2 := Aside0.mk A20); clear A20
 by_cases c3 : t196 = true
 ·subst c3
  (have H1 : (if (a0_1.size : Int) ≤ 100 then (some (decide ((a0_6.size : Int) ≤ 2000))) else (some false)) = some r := by rw [if_pos rfl] at H; exact H); clear H; (have H := H1); clear H1
  by_cases c4 : (a0_1.size : Int) ≤ 100
  ·rw [if_pos c4] at H
   (have c4b0 : decide ((a0_1.size : Int) ≤ 100) = true := decide_eq_true c4); (have c4b1 : decide (a0_1.size ≤ 100) = true := decide_eq_true (by omega)); clear c4; (obtain rfl := Option.some.inj H)
   go_enter Tryd.func82, Tryd.ntmps82
   go_wp2_with (first | ((with_reducible refine gate_dst (N := 1) rfl ?_); (try (refine gate_guard (by rfl) ?_; dsimp only)); refine box_event ?hg (N := 1) ?hd (cs := #[.int .i64 a0_0, .string a0_1, .int .i64 a0_2, .int .i64 a0_3, .int .i64 a0_4, .int .i64 a0_5, .string a0_6]) (t := 32) ?hr ?_; (case hd => rfl); (case hg => rfl); (case hr => first | (go_simp; done) | (go_simp; rfl)); intro gb195 hg w5 hbox hb; have n0_ := Aside0.mk (below_step (qS0 HB) hb); have n1_ := Aside0.mk (hbox); have n2_ := qG hg (below_size (qS0 HB)); have n3_ := qG hg (below_size (qS0 HB)); clear HB; have HB := n0_; have BK195 := n1_; have GW195 := n2_; have GE195 := n3_; clear n0_ n1_ n2_ n3_ hb hbox hg; obtain ⟨hcz6_0, hcz6_1, hcz6_2, hcz6_3, hcz6_4, hcz6_5, hcz6_6, hfz6_0, hfz6_1, hfz6_2, hfz6_3, hfz6_4, hfz6_5, hfz6_6⟩ := qC7 BK195) | ((with_reducible refine gate_callee (f := 67) rfl ?_); refine goesL_ (some 7) rfl rfl Tryd.func67 (by kernel_rfl) rfl #[.int .i64 a0_0, .int .i64 a0_5] rfl qL ?_; (with_reducible refine (impl_isShape.calls a0_0 a0_5 true _ A2.out).mono ?_); rintro e w' ⟨rfl, ⟨nd, rfl⟩⟩; refine ⟨_, rfl, ?_⟩))
   go_ret
   exact ⟨qE, qS1 HB GE195⟩
  ·rw [if_neg c4] at H
   (have c4b0 : decide ((a0_1.size : Int) ≤ 100) = false := decide_eq_false c4); (have c4b1 : decide (a0_1.size ≤ 100) = false := decide_eq_false (by omega)); clear c4; (obtain rfl := Option.some.inj H)
   go_enter Tryd.func82, Tryd.ntmps82
   go_wp2_with (first | ((with_reducible refine gate_dst (N := 1) rfl ?_); (try (refine gate_guard (by rfl) ?_; dsimp only)); refine box_event ?hg (N := 1) ?hd (cs := #[.int .i64 a0_0, .string a0_1, .int .i64 a0_2, .int .i64 a0_3, .int .i64 a0_4, .int .i64 a0_5, .string a0_6]) (t := 32) ?hr ?_; (case hd => rfl); (case hg => rfl); (case hr => first | (go_simp; done) | (go_simp; rfl)); intro gb195 hg w7 hbox hb; have n0_ := Aside0.mk (below_step (qS0 HB) hb); have n1_ := Aside0.mk (hbox); have n2_ := qG hg (below_size (qS0 HB)); have n3_ := qG hg (below_size (qS0 HB)); clear HB; have HB := n0_; have BK195 := n1_; have GW195 := n2_; have GE195 := n3_; clear n0_ n1_ n2_ n3_ hb hbox hg; obtain ⟨hcz8_0, hcz8_1, hcz8_2, hcz8_3, hcz8_4, hcz8_5, hcz8_6, hfz8_0, hfz8_1, hfz8_2, hfz8_3, hfz8_4, hfz8_5, hfz8_6⟩ := qC7 BK195) | ((with_reducible refine gate_callee (f := 67) rfl ?_); refine goesL_ (some 7) rfl rfl Tryd.func67 (by kernel_rfl) rfl #[.int .i64 a0_0, .int .i64 a0_5] rfl qL ?_; (with_reducible refine (impl_isShape.calls a0_0 a0_5 true _ A2.out).mono ?_); rintro e w' ⟨rfl, ⟨nd, rfl⟩⟩; refine ⟨_, rfl, ?_⟩))
   go_ret
   exact ⟨qE, qS1 HB GE195⟩
 ·replace c3 := Bool.eq_false_iff.mpr c3
  (subst c3); (have H1 : (some false) = some r := by rw [if_neg (show ¬ (false = true) by decide)] at H; exact H); clear H; (have H := H1); clear H1; (obtain rfl := Option.some.inj H)
  go_enter Tryd.func82, Tryd.ntmps82
  go_wp2_with (first | ((with_reducible refine gate_dst (N := 1) rfl ?_); (try (refine gate_guard (by rfl) ?_; dsimp only)); refine box_event ?hg (N := 1) ?hd (cs := #[.int .i64 a0_0, .string a0_1, .int .i64 a0_2, .int .i64 a0_3, .int .i64 a0_4, .int .i64 a0_5, .string a0_6]) (t := 32) ?hr ?_; (case hd => rfl); (case hg => rfl); (case hr => first | (go_simp; done) | (go_simp; rfl)); intro gb195 hg w9 hbox hb; have n0_ := Aside0.mk (below_step (qS0 HB) hb); have n1_ := Aside0.mk (hbox); have n2_ := qG hg (below_size (qS0 HB)); have n3_ := qG hg (below_size (qS0 HB)); clear HB; have HB := n0_; have BK195 := n1_; have GW195 := n2_; have GE195 := n3_; clear n0_ n1_ n2_ n3_ hb hbox hg; obtain ⟨hcz10_0, hcz10_1, hcz10_2, hcz10_3, hcz10_4, hcz10_5, hcz10_6, hfz10_0, hfz10_1, hfz10_2, hfz10_3, hfz10_4, hfz10_5, hfz10_6⟩ := qC7 BK195) | ((with_reducible refine gate_callee (f := 67) rfl ?_); refine goesL_ (some 7) rfl rfl Tryd.func67 (by kernel_rfl) rfl #[.int .i64 a0_0, .int .i64 a0_5] rfl qL ?_; (with_reducible refine (impl_isShape.calls a0_0 a0_5 false _ A2.out).mono ?_); rintro e w' ⟨rfl, ⟨nd, rfl⟩⟩; refine ⟨_, rfl, ?_⟩))
  go_ret
  exact ⟨qE, qS1 HB GE195⟩
def impl_areReqs_1.f (a0_0 : Int) (a0_1 : ByteArray) (a0_2 : Int) (a0_3 : Int) (a0_4 : Int) (a0_5 : Int) (a0_6 : ByteArray) : Option (Bool) := (impl_isReq.f a0_0 a0_1 a0_2 a0_3 a0_4 a0_5 a0_6).bind fun t198 => (some (!t198))
set_option maxHeartbeats 8000000 in
set_option maxRecDepth 100000 in
theorem impl_areReqs_1.calls (a0_0 : Int) (a0_1 : ByteArray) (a0_2 : Int) (a0_3 : Int) (a0_4 : Int) (a0_5 : Int) (a0_6 : ByteArray) (r : Bool) (w : World) (h : impl_areReqs_1.f a0_0 a0_1 a0_2 a0_3 a0_4 a0_5 a0_6 = some r) :
  Calls Tryd.prog 100 #[.agg #[.int .i64 a0_0, .string a0_1, .int .i64 a0_2, .int .i64 a0_3, .int .i64 a0_4, .int .i64 a0_5, .string a0_6]] w fun e w' => e = .returned (.bool r) ∧ Below w.heap.size w w' := by
 (have hu32 := Tryd.underlying32); (have HB := Aside0.mk (Below.refl w.heap.size w)); (have H : ((impl_isReq.f a0_0 a0_1 a0_2 a0_3 a0_4 a0_5 a0_6).bind fun t198 => (some (!t198))) = some r := h); clear h; (replace H := Option.bind_eq_some_iff.mp H); (obtain ⟨t198, A20, H⟩ := H); (replace H : (some (!t198)) = some r := H); (have A2 := Aside0.mk A20); clear A20; (obtain rfl := Option.some.inj H)
 go_enter Tryd.func100, Tryd.ntmps100
 go_wp2_with (first | ((with_reducible refine gate_dst (N := 1) rfl ?_); refine box_event ?hg (N := 1) ?hd (cs := #[.int .i64 a0_0, .string a0_1, .int .i64 a0_2, .int .i64 a0_3, .int .i64 a0_4, .int .i64 a0_5, .string a0_6]) (t := 32) ?hr ?_; (case hd => rfl); (case hg => rfl); (case hr => first | (go_simp; done) | (go_simp; rfl)); intro gb197 hg w3 hbox hb; have n0_ := Aside0.mk (below_step (qS0 HB) hb); have n1_ := Aside0.mk (hbox); have n2_ := qG hg (below_size (qS0 HB)); have n3_ := qG hg (below_size (qS0 HB)); clear HB; have HB := n0_; have BK197 := n1_; have GW197 := n2_; have GE197 := n3_; clear n0_ n1_ n2_ n3_ hb hbox hg; obtain ⟨hcz4_0, hcz4_1, hcz4_2, hcz4_3, hcz4_4, hcz4_5, hcz4_6, hfz4_0, hfz4_1, hfz4_2, hfz4_3, hfz4_4, hfz4_5, hfz4_6⟩ := qC7 BK197) | ((with_reducible refine gate_callee (f := 82) rfl ?_); refine goesL_ (some 4) rfl rfl Tryd.func82 (by kernel_rfl) rfl #[.agg #[.int .i64 a0_0, .string a0_1, .int .i64 a0_2, .int .i64 a0_3, .int .i64 a0_4, .int .i64 a0_5, .string a0_6]] rfl qL ?_; (with_reducible refine (impl_isReq.calls a0_0 a0_1 a0_2 a0_3 a0_4 a0_5 a0_6 t198 _ A2.out).mono ?_); rintro e w5 ⟨rfl, hb⟩; refine ⟨_, rfl, ?_⟩; have n0_ := qD BK197 hb; have n1_ := Aside0.mk (below_step (qS1 HB GE197) hb); clear BK197 HB; have BK197 := n0_; have HB := n1_; clear n0_ n1_; (try clear hb); (try clear hb2); (try clear hk); (try clear hi)))
 go_ret
 exact ⟨qE, qS1 HB GE197⟩
set_option maxHeartbeats 8000000 in
set_option maxRecDepth 100000 in
theorem cont_32 (p : S32 → Option Bool) (g : Nat) (lb : Array Value) (eg : ∀ args w, (callFunc g args).run Tryd.prog w = .ok (.enter g args) w) (A0 : Option Addr) (c0 : Nat) (l0 : List S32) (r : Bool) (w : World) (hr0 : Kd.C k32 w A0 l0.length l0)
  (hp : ∀ (W : World) (x : S32) (b : Bool), Below w.heap.size w W → x ∈ l0 → p x = some b → Calls Tryd.prog g (#[.agg #[.int .i64 x.f0, .string x.f1, .int .i64 x.f2, .int .i64 x.f3, .int .i64 x.f4, .int .i64 x.f5, .string x.f6]] ++ lb) W fun e w' => e = .returned (.bool b) ∧ Below W.heap.size W w')
  (h : contF p l0 = some r) :
  Calls Tryd.prog 99 #[.slice A0 l0.length c0, .func (.func g) #[] lb] w fun e w' => e = .returned (.bool r) ∧ Below w.heap.size w w' := by
 (obtain ⟨i, hi, h2⟩ := Option.bind_eq_some_iff.mp h); (obtain rfl : decide (0 ≤ i) = r := by simpa using h2); clear h h2; (have HI := idx_32 p g lb eg A0 c0 l0 i w hr0 hp hi); clear hi hr0 hp
 go_enter Tryd.func99, Tryd.ntmps99
 go_wp2_with (go_at_call 128; refine HI.mono ?_; rintro e w' ⟨rfl, hb'⟩)
 go_ret
 exact ⟨rfl, hb'⟩
def impl_areReqs.f (l0 : List S32) : Option Bool := if (l0.length : Int) ≤ 40 then ((contF (fun x => impl_areReqs_1.f x.f0 x.f1 x.f2 x.f3 x.f4 x.f5 x.f6) l0).bind fun b => some (!b)) else (some false)
theorem impl_areReqs.enters : ∀ args w, (callFunc 100 args).run Tryd.prog w = .ok (.enter 100 args) w := enters_of Tryd.func100 (by kernel_rfl) rfl
set_option maxHeartbeats 8000000 in
set_option maxRecDepth 100000 in
theorem impl_areReqs.calls (A0 : Option Addr) (c0 : Nat) (l0 : List S32) (r : Bool) (w : World) (hr0 : Kd.C k32 w A0 l0.length l0) (hc0 : l0.length ≤ c0) (h : impl_areReqs.f l0 = some r) :
  Calls Tryd.prog 58 #[.slice A0 l0.length c0] w fun e w' => e = .returned (.bool r) ∧ Below w.heap.size w w' := by
 unfold impl_areReqs.f at h
 by_cases c1 : (l0.length : Int) ≤ 40
 ·rw [if_pos c1] at h
  (obtain ⟨b, hb, h2⟩ := Option.bind_eq_some_iff.mp h); (obtain rfl : (!b) = r := by simpa using h2); (have HI := cont_32 (fun x => impl_areReqs_1.f x.f0 x.f1 x.f2 x.f3 x.f4 x.f5 x.f6) 100 #[] impl_areReqs.enters A0 c0 l0 b w hr0 (fun W x b hW hx h => (impl_areReqs_1.calls _ _ _ _ _ _ _ _ _ h).mono fun e w' ⟨he, hd⟩ => ⟨he, hd⟩) hb); clear h h2 hb hr0 hc0; (have c1b0 : decide ((l0.length : Int) ≤ 40) = true := decide_eq_true c1); clear c1
  go_enter Tryd.func58, Tryd.ntmps58
  go_wp2_with (go_at_call 99; refine HI.mono ?_; rintro e w' ⟨rfl, hb'⟩)
  go_ret
  exact ⟨rfl, hb'⟩
 ·rw [if_neg c1] at h
  (obtain rfl := Option.some.inj h); clear h hr0 hc0; (have c1b0 : decide ((l0.length : Int) ≤ 40) = false := decide_eq_false c1); clear c1
  go_enter Tryd.func58, Tryd.ntmps58
  go_wp2
  go_ret
  exact ⟨rfl, Below.refl _ _⟩
def impl_Fold.f (k : Nat) (a0 : ByteArray) : Option (ByteArray) := (strings_Map.f a0).bind fun t236 => (if (a0.size : Int) > 32 then (some (⟨#[]⟩ : ByteArray)) else ((impl_isWord.f k t236).bind fun t237 => (if t237 = true then (some t236) else (some (⟨#[]⟩ : ByteArray)))))
set_option maxHeartbeats 8000000 in
set_option maxRecDepth 100000 in
theorem impl_Fold.calls (k : Nat) (a0 : ByteArray) (r : ByteArray) (w : World) (h : impl_Fold.f k a0 = some r) (hG : TabG w) :
  Calls Tryd.prog 129 #[.string a0] w fun e w' => e = .returned (.string r) ∧ Below w.heap.size w w' := by
 (have HB := Aside0.mk (Below.refl w.heap.size w)); (have H : ((strings_Map.f a0).bind fun t236 => (if (a0.size : Int) > 32 then (some (⟨#[]⟩ : ByteArray)) else ((impl_isWord.f k t236).bind fun t237 => (if t237 = true then (some t236) else (some (⟨#[]⟩ : ByteArray)))))) = some r := h); clear h; (replace H := Option.bind_eq_some_iff.mp H); (obtain ⟨t236, A20, H⟩ := H)
 try dsimp only at H
 (have A2 := Aside0.mk A20); clear A20
 by_cases c3 : (a0.size : Int) > 32
 ·rw [if_pos c3] at H
  (have c3b0 : decide (32 < (a0.size : Int)) = true := decide_eq_true c3); (have c3b1 : decide (32 < a0.size) = true := decide_eq_true (by omega)); clear c3; (obtain rfl := Option.some.inj H)
  go_enter Tryd.func129, Tryd.ntmps129
  go_wp2_with (first | ((with_reducible refine gate_callee (f := 151) rfl ?_); refine goesL_ (some 5) rfl rfl Tryd.func151 (by kernel_rfl) rfl #[.func (.func 152) #[] #[], .string a0] rfl qL ?_; (with_reducible refine (strings_Map.calls a0 t236 _ A2.out (G_below (qS0 HB) hG)).mono ?_); rintro e w4 ⟨rfl, hb⟩; refine ⟨_, rfl, ?_⟩; have n0_ := Aside0.mk (below_step (qS0 HB) hb); clear HB; have HB := n0_; clear n0_; (try clear hb); (try clear hb2); (try clear hk); (try clear hi)))
  go_ret
  exact ⟨qE, qS0 HB⟩
 ·rw [if_neg c3] at H
  (have c3b0 : decide (32 < (a0.size : Int)) = false := decide_eq_false c3); (have c3b1 : decide (32 < a0.size) = false := decide_eq_false (by omega)); clear c3; (replace H := Option.bind_eq_some_iff.mp H); (obtain ⟨t237, A50, H⟩ := H); (replace H : (if t237 = true then (some t236) else (some (⟨#[]⟩ : ByteArray))) = some r := H); (have A5 := Aside0.mk A50); clear A50
  by_cases c6 : t237 = true
  ·subst c6
   (have H1 : (some t236) = some r := by rw [if_pos rfl] at H; exact H); clear H; (have H := H1); clear H1; (obtain rfl := Option.some.inj H)
   go_enter Tryd.func129, Tryd.ntmps129
   go_wp2_with (first | ((with_reducible refine gate_callee (f := 151) rfl ?_); refine goesL_ (some 5) rfl rfl Tryd.func151 (by kernel_rfl) rfl #[.func (.func 152) #[] #[], .string a0] rfl qL ?_; (with_reducible refine (strings_Map.calls a0 t236 _ A2.out (G_below (qS0 HB) hG)).mono ?_); rintro e w7 ⟨rfl, hb⟩; refine ⟨_, rfl, ?_⟩; have n0_ := Aside0.mk (below_step (qS0 HB) hb); clear HB; have HB := n0_; clear n0_; (try clear hb); (try clear hb2); (try clear hk); (try clear hi)) | (go_at_call 70; (with_reducible refine (impl_isWord.calls k t236 true _ A5.out).mono ?_); rintro e w' ⟨rfl, ⟨nd, rfl⟩⟩))
   go_ret
   exact ⟨qE, qS0 HB⟩
  ·replace c6 := Bool.eq_false_iff.mpr c6
   (subst c6); (have H1 : (some (⟨#[]⟩ : ByteArray)) = some r := by rw [if_neg (show ¬ (false = true) by decide)] at H; exact H); clear H; (have H := H1); clear H1; (obtain rfl := Option.some.inj H)
   go_enter Tryd.func129, Tryd.ntmps129
   go_wp2_with (first | ((with_reducible refine gate_callee (f := 151) rfl ?_); refine goesL_ (some 5) rfl rfl Tryd.func151 (by kernel_rfl) rfl #[.func (.func 152) #[] #[], .string a0] rfl qL ?_; (with_reducible refine (strings_Map.calls a0 t236 _ A2.out (G_below (qS0 HB) hG)).mono ?_); rintro e w8 ⟨rfl, hb⟩; refine ⟨_, rfl, ?_⟩; have n0_ := Aside0.mk (below_step (qS0 HB) hb); clear HB; have HB := n0_; clear n0_; (try clear hb); (try clear hb2); (try clear hk); (try clear hi)) | (go_at_call 70; (with_reducible refine (impl_isWord.calls k t236 false _ A5.out).mono ?_); rintro e w' ⟨rfl, ⟨nd, rfl⟩⟩))
   go_ret
   exact ⟨qE, qS0 HB⟩
def gapR (x : Nat) : Bool := if (x : Int) = 9 then true else if (x : Int) = 10 then true else if (x : Int) = 13 then true else decide ((x : Int) = 32)
set_option maxHeartbeats 8000000 in
set_option maxRecDepth 100000 in
theorem strings_FieldsFunc.closure (x : Nat) (w : World) : Calls Tryd.prog 154 #[.int .i32 (x : Int)] w fun e w' => e = .returned (.bool (gapR x)) ∧ Below w.heap.size w w' := by
 (have hx : ∃ z : Int, (x : Int) = z := ⟨_, rfl⟩); (obtain ⟨z, hz⟩ := hx)
 unfold gapR
 (rw [hz]); clear hz
 by_cases c2 : z = 9
 ·rw [if_pos c2]
  (have c2b0 : (z == 9) = true := by simp [c2]); clear c2
  go_enter Tryd.func154, Tryd.ntmps154
  go_wp2
  go_ret
  exact ⟨rfl, Below.refl _ _⟩
 ·rw [if_neg c2]
  (have c2b0 : (z == 9) = false := by simp [c2]); clear c2
  by_cases c3 : z = 10
  ·rw [if_pos c3]
   (have c3b0 : (z == 10) = true := by simp [c3]); clear c3
   go_enter Tryd.func154, Tryd.ntmps154
   go_wp2
   go_ret
   exact ⟨rfl, Below.refl _ _⟩
  ·rw [if_neg c3]
   (have c3b0 : (z == 10) = false := by simp [c3]); clear c3
   by_cases c4 : z = 13
   ·rw [if_pos c4]
    (have c4b0 : (z == 13) = true := by simp [c4]); clear c4
    go_enter Tryd.func154, Tryd.ntmps154
    go_wp2
    go_ret
    exact ⟨rfl, Below.refl _ _⟩
   ·rw [if_neg c4]
    (have c4b0 : (z == 13) = false := by simp [c4]); clear c4; (have c5b0 : (z == 32) = decide (z = 32) := by by_cases c5 : z = 32 <;> simp [c5])
    go_enter Tryd.func154, Tryd.ntmps154
    go_wp2
    go_ret
    exact ⟨rfl, Below.refl _ _⟩
theorem strings_FieldsFunc.enters : ∀ args w, (callFunc 154 args).run Tryd.prog w = .ok (.enter 154 args) w := enters_of Tryd.func154 (by kernel_rfl) rfl
shelf_lay Lays.n229 Nm 229 at Tryd as Tryd.lays229
def strings_FieldsFunc.f (a0 : ByteArray) : Option (List ByteArray) := if a0.size ≤ 4294967296 then some (Lib.goFieldsP gapR a0) else none
theorem strings_FieldsFunc.calls (a0 : ByteArray) (r : List ByteArray) (w : World) (h : strings_FieldsFunc.f a0 = some r) :
  Calls Tryd.prog 153 #[.string a0, .func (.func 154) #[] #[]] w fun e w' => ∃ v0_ : Value, e = .returned (v0_) ∧ Kd.R Kd.string 9 w' w.heap.size (fun _ => True) v0_ r ∧ Below w.heap.size w w' := by
 unfold strings_FieldsFunc.f at h
 split at h
 ·rename_i hr
  obtain rfl := Option.some.inj h
  refine (Any.strings_FieldsFunc_grows Tryd.lays229 154 #[] strings_FieldsFunc.enters gapR a0 w hr (fun W x hx _ => strings_FieldsFunc.closure x W) (by kernel_rfl) (by kernel_rfl)).mono ?_
  rintro e w' ⟨AA, rfl, _, hown, hb⟩
  exact ⟨_, rfl, Kd.R_of_own (enc := Value.string) (h1 := fun _ => rfl) hown (fun _ _ => trivial), hb⟩
 ·cases h
end Go.Proofs.YtbpffdhkeinmcaaDoor.QE
namespace Go.Proofs.YtbpffdhkeinmcaaDoor.QE
open Go.RowKit Go.Proofs.YtbpffdhkeinmcaaDoorW.PrintWords Go.Proofs.YtbpffdhkeinmcaaDoorW.PrintLast Go.Proofs.YtbpffdhkeinmcaaDoorW.PrintMore
attribute [local go_sem] max2_int min2_int max_two min_two max_three min_three max_four min_four
set_option linter.unusedVariables false
set_option linter.unusedSimpArgs false
mutual
def impl_Tokens.j0 : Nat → ByteArray → Int → Bool → Option (List ByteArray × Bool)
 | 0, _, _, _ => none
 | k + 1, x0, x1, x17 => if x17 = true then (some (([] : List ByteArray), false)) else ((strings_FieldsFunc.f x0).bind fun t239 => (if (t239.length : Int) > x1 then (some (([] : List ByteArray), false)) else (if 0 ≤ x1 then (if (x1 : Int).toNat ≤ 17592186044416 then (impl_Tokens.l0 k (List.replicate (x1 : Int).toNat (⟨#[]⟩ : ByteArray)) t239 (t239.length : Int) 0) else (none)) else (none))))
def impl_Tokens.l0 : Nat → List ByteArray → List ByteArray → Int → Int → Option (List ByteArray × Bool)
 | 0, _, _, _, _ => none
 | k + 1, x7, x26, x27, x28 => if x28 < x27 then (if 0 ≤ x28 then (if x28 < (x26.length : Int) then ((impl_Fold.f k (rdOf ByteArray.empty x26 x28)).bind fun t246 => (if x28 < (x7.length : Int) then ((some (x7.set (x28 : Int).toNat t246 : List ByteArray)).bind fun y247 => (if (rdOf ByteArray.empty y247 x28).toList = ([] : List UInt8) then (impl_Tokens.l0 k (y247.set (x28 : Int).toNat (⟨#[63]⟩ : ByteArray)) x26 x27 (wrap64 (x28 + 1))) else (impl_Tokens.l0 k y247 x26 x27 (wrap64 (x28 + 1))))) else (none))) else (none)) else (none)) else (some (x7, true))
end
def impl_Tokens.f (k : Nat) (a0 : ByteArray) (a1 : Int) : Option (List ByteArray × Bool) := if (a0.size : Int) > 2000 then (impl_Tokens.j0 k a0 a1 true) else ((impl_within.f a1 1 16).bind fun t238 => (impl_Tokens.j0 k a0 a1 (!t238)))
set_option maxHeartbeats 8000000 in
set_option maxRecDepth 100000 in
theorem impl_Tokens.calls (k : Nat) (a0 : ByteArray) (a1 : Int) (r1 : List ByteArray) (r2 : Bool) (w : World) (h : impl_Tokens.f k a0 a1 = some (r1, r2)) (hG : TabG w) :
  Calls Tryd.prog 130 #[.string a0, .int .i64 a1] w fun e w' => ∃ v0_ : Value, e = .returned (.tuple #[v0_, .bool r2]) ∧ Kd.R Kd.string 9 w' w.heap.size (fun _ => True) v0_ r1 ∧ Below w.heap.size w w' := by
 (have HB := Aside0.mk (Below.refl w.heap.size w)); (have H : (if (a0.size : Int) > 2000 then (impl_Tokens.j0 k a0 a1 true) else ((impl_within.f a1 1 16).bind fun t238 => (impl_Tokens.j0 k a0 a1 (!t238)))) = some (r1, r2) := h); clear h; (have HC3 := Aside0.mk H); clear H
 go_enter Tryd.func130, Tryd.ntmps130
 go_upto_region 1 with (fail)
 go_cut [17] (fun v17 wc => ∃ (kq : Nat) (x17_2 : Bool), v17 = .bool x17_2 ∧ Aside0 (impl_Tokens.j0 kq a0 a1 x17_2 = some (r1, r2)) ∧ Aside0 (kq ≤ k) ∧ Aside0 (Below w.heap.size w wc))
 case first =>
  (have H := HC3.out); clear HC3
  by_cases c4 : (a0.size : Int) > 2000
  ·rw [if_pos c4] at H
   (have c4b0 : decide (2000 < (a0.size : Int)) = true := decide_eq_true c4); (have c4b1 : decide (2000 < a0.size) = true := decide_eq_true (by omega)); clear c4
   (first | rw [c4b0] | (simp only [i64_w, i32_w]; rw [c4b0]) | skip)
   (have H' := Aside0.mk H); clear H
   go_wp2
   go_meet
   case rel => exact ⟨_, (true), (by first | rfl | (simp; done) | (simp [*]; done)), H', ⟨by first | omega | exact Nat.le_refl _⟩, ⟨qS0 HB⟩⟩
  ·rw [if_neg c4] at H
   (have c4b0 : decide (2000 < (a0.size : Int)) = false := decide_eq_false c4); (have c4b1 : decide (2000 < a0.size) = false := decide_eq_false (by omega)); clear c4
   (first | rw [c4b0] | (simp only [i64_w, i32_w]; rw [c4b0]) | skip)
   (replace H := Option.bind_eq_some_iff.mp H); (obtain ⟨t238, A50, H⟩ := H); (replace H : (impl_Tokens.j0 k a0 a1 (!t238)) = some (r1, r2) := H); (have A5 := Aside0.mk A50); clear A50; (have H' := Aside0.mk H); clear H
   go_wp2_with (first | (go_at_call 69; (with_reducible refine (impl_within.calls a1 1 16 t238 _ A5.out).mono ?_); rintro e w' ⟨rfl, ⟨nd, rfl⟩⟩))
   go_meet
   case rel => exact ⟨_, (!t238), (by first | rfl | (simp; done) | (simp [*]; done)), H', ⟨by first | omega | exact Nat.le_refl _⟩, ⟨qS0 HB⟩⟩
 case rest =>
  clear HC3; (try clear c1); (try clear p2); (try clear c4); (try clear c4b0); (try clear c4b1); (obtain ⟨kq, x17_2, rfl, HA, HJ2, HB⟩ := hcut)
  cases kq with
  | zero => exact absurd HA.out (by simp [impl_Tokens.j0])
  | succ kj2 =>
   (have H := HA.out); clear HA; (simp only [impl_Tokens.j0] at H)
   by_cases c6 : x17_2 = true
   ·subst c6
    (have H1 : (some (([] : List ByteArray), false)) = some (r1, r2) := by rw [if_pos rfl] at H; exact H); clear H; (have H := H1); clear H1; (simp only [Option.some.injEq, Prod.mk.injEq] at H); (obtain ⟨rfl, rfl⟩ := H)
    go_wp2
    go_ret2
    exact ⟨_, qE, by first | exact Kd.R_nil _ _ _ _ _ | exact Kd.N_nil _ _ _ _ _ | exact Kd.V_nil _ _ _ _ _ | exact Kd.Q_nil _ _ _ _ _ | exact Kd.S_nil _ _ _ _ _, qS0 HB⟩
   ·replace c6 := Bool.eq_false_iff.mpr c6
    (subst c6); (have H1 : ((strings_FieldsFunc.f a0).bind fun t239 => (if (t239.length : Int) > a1 then (some (([] : List ByteArray), false)) else (if 0 ≤ a1 then (if (a1 : Int).toNat ≤ 17592186044416 then (impl_Tokens.l0 kj2 (List.replicate (a1 : Int).toNat (⟨#[]⟩ : ByteArray)) t239 (t239.length : Int) 0) else (none)) else (none)))) = some (r1, r2) := by rw [if_neg (show ¬ (false = true) by decide)] at H; exact H); clear H; (have H := H1); clear H1; (replace H := Option.bind_eq_some_iff.mp H); (obtain ⟨t239, A70, H⟩ := H)
    try dsimp only at H
    (have A7 := Aside0.mk A70); clear A70
    by_cases c8 : (t239.length : Int) > a1
    ·rw [if_pos c8] at H
     (have c8b0 : decide (a1 < (t239.length : Int)) = true := decide_eq_true c8); clear c8; (simp only [Option.some.injEq, Prod.mk.injEq] at H); (obtain ⟨rfl, rfl⟩ := H)
     go_wp2_with (first | ((with_reducible refine gate_callee (f := 153) rfl ?_); refine goesL_ (some 19) rfl rfl Tryd.func153 (by kernel_rfl) rfl #[.string a0, .func (.func 154) #[] #[]] rfl qL ?_; (with_reducible refine (strings_FieldsFunc.calls a0 t239 _ A7.out).mono ?_); rintro e w9 ⟨v240, rfl, ho0, hb⟩; refine ⟨_, rfl, ?_⟩; have n0_ := Aside0.mk (Kd.R_lower ho0 (below_size (qS0 HB))); have n1_ := Aside0.mk (below_step (qS0 HB) hb); clear HB; have HO241 := n0_; have HB := n1_; clear n0_ n1_; (try clear hb); (try clear hb2); (try clear hk); (try clear hi); (try clear ho0); obtain ⟨Ao10, co10, eo10⟩ := Kd.R_slice HO241.out; subst eo10))
     go_ret2
     exact ⟨_, qE, by first | exact Kd.R_nil _ _ _ _ _ | exact Kd.N_nil _ _ _ _ _ | exact Kd.V_nil _ _ _ _ _ | exact Kd.Q_nil _ _ _ _ _ | exact Kd.S_nil _ _ _ _ _, qS0 HB⟩
    ·rw [if_neg c8] at H
     (have c8b0 : decide (a1 < (t239.length : Int)) = false := decide_eq_false c8); clear c8
     by_cases c11 : 0 ≤ a1
     ·rw [if_pos c11] at H
      (have c11b0 := eq_true c11); (have c11b1 : decide (0 ≤ a1) = true := decide_eq_true c11); clear c11
      by_cases c12 : (a1 : Int).toNat ≤ 17592186044416
      ·rw [if_pos c12] at H
       (have c12b0 := eq_true c12); (have c12b1 : decide ((a1 : Int).toNat ≤ 17592186044416) = true := decide_eq_true c12); clear c12; (obtain ⟨y242, hy242⟩ : ∃ y_ : List ByteArray, y_ = (List.replicate (a1 : Int).toNat (⟨#[]⟩ : ByteArray)) := ⟨_, rfl⟩); (replace H : (impl_Tokens.l0 kj2 y242 t239 (t239.length : Int) 0) = some (r1, r2) := by first | (rw [hy242]; with_reducible exact H) | (have H2_ := (Option.bind_some _ _).symm.trans H; rw [hy242]; with_reducible exact H2_) | (have H2_ := (Option.bind_some _ _).symm.trans H; with_reducible exact H2_) | with_reducible exact H | (rw [hy242]; exact H) | exact H); (have Ny242 := Aside0.mk hy242); clear hy242; (have H' := Aside0.mk H); clear H
       go_wp2_with (first | ((with_reducible refine gate_callee (f := 153) rfl ?_); refine goesL_ (some 19) rfl rfl Tryd.func153 (by kernel_rfl) rfl #[.string a0, .func (.func 154) #[] #[]] rfl qL ?_; (with_reducible refine (strings_FieldsFunc.calls a0 t239 _ A7.out).mono ?_); rintro e w13 ⟨v240, rfl, ho0, hb⟩; refine ⟨_, rfl, ?_⟩; have n0_ := Aside0.mk (Kd.R_lower ho0 (below_size (qS0 HB))); have n1_ := Aside0.mk (below_step (qS0 HB) hb); clear HB; have HO241 := n0_; have HB := n1_; clear n0_ n1_; (try clear hb); (try clear hb2); (try clear hk); (try clear hi); (try clear ho0); obtain ⟨Ao14, co14, eo14⟩ := Kd.R_slice HO241.out; subst eo14) | ((with_reducible refine gate_dst (N := 25) rfl ?_); refine Kd.R_make Kd.string _ 9 rfl (N := 25) rfl 84 _ _ rfl a1 rfl rfl Tryd.underlying84 (.string ⟨#[]⟩) 16 info9 rfl (by decide) (by omega) (⟨#[]⟩ : ByteArray) (ok := fun _ => True) (okp := fun _ => True) rfl (fun _ hk => hk) trivial (of_decide_eq_true (by first | (with_reducible assumption) | assumption)) (Nat.le_trans (Nat.mul_le_mul_right _ (of_decide_eq_true (by first | (with_reducible assumption) | assumption) : a1.toNat ≤ 17592186044416)) (by omega)) (Below.refl _ _) (Nat.le_refl _) ?_; intro v243 w15 ho16 hb hg_ hnew_; clear hg_ hnew_; (first | rw [← Ny242.out] at ho16 | (simp only [Int.reduceToNat] at ho16; rw [← Ny242.out] at ho16)); have n0_ := Aside0.mk (Kd.R_elder' (qR HO241) (Kd.R_base ho16) hb); have n1_ := Aside0.mk (Kd.R_lower (Kd.R_new' ho16 (Kd.R_lt (qR HO241))) (below_size (qS0 HB))); have n2_ := Aside0.mk (below_step (qS0 HB) hb); clear HO241 HB; have HO241 := n0_; have HO244 := n1_; have HB := n2_; clear n0_ n1_ n2_; clear hb ho16))
       go_loopg [28] kj2 (fun kq v28 w' => ∃ (x7_2 : List ByteArray) (x28_2 : Int), v28 = .int .i64 x28_2 ∧ Aside0 (impl_Tokens.l0 kq x7_2 t239 (t239.length : Int) x28_2 = some (r1, r2)) ∧ Aside0 (kq ≤ kj2) ∧ Aside0 (Kd.R Kd.string 9 w' w.heap.size (fun k_ => some k_ ≠ ((.slice Ao14 t239.length co14) : Value).ownBlock) v243 x7_2) ∧ Aside0 (Kd.R Kd.string 9 w' w.heap.size (fun k_ => some k_ ≠ (v243 : Value).ownBlock) (.slice Ao14 t239.length co14) t239) ∧ Aside0 (Below w.heap.size w w'))
       case atStart => exact ⟨(y242), (0), (by first | rfl | (simp; done) | (simp [*]; done)), H', ⟨Nat.le_refl _⟩, ⟨by (with_reducible repeat (first | apply Kd.R_alloc | apply Kd.R_drewN | apply Kd.R_drew)); exact Kd.R_mono HO244.out (fun _ hk => hk.2)⟩, ⟨by (with_reducible repeat (first | apply Kd.R_alloc | apply Kd.R_drewN | apply Kd.R_drew)); exact Kd.R_mono HO241.out (fun _ hk => hk.2)⟩, ⟨qS0 HB⟩⟩
       case round =>
        clear H'; (try clear c1); (try clear p2); (try clear c4); (try clear c4b0); (try clear c4b1); (try clear c6); (try clear c8); (try clear c8b0); (try clear c11); (try clear c11b0); (try clear c11b1); (try clear c12); (try clear c12b0); (try clear c12b1); (try clear c13); (try clear c15); (try clear p2); (obtain ⟨x7_2, x28_2, rfl, HA, HK2, HO_7, HO_26, HB⟩ := hrel)
        cases gk with
        | zero => exact absurd HA.out (by simp [impl_Tokens.l0])
        | succ k2 =>
         (have H := HA.out); clear HA; (simp only [impl_Tokens.l0] at H)
         by_cases c17 : x28_2 < (t239.length : Int)
         ·rw [if_pos c17] at H
          (have c17b0 : decide (x28_2 < (t239.length : Int)) = true := decide_eq_true c17); clear c17
          by_cases c18 : 0 ≤ x28_2
          ·rw [if_pos c18] at H
           (have c18b0 : decide (0 ≤ x28_2) = true := decide_eq_true c18); clear c18
           by_cases c19 : x28_2 < (t239.length : Int)
           ·rw [if_pos c19] at H
            (have c19b0 : decide (x28_2 < (t239.length : Int)) = true := decide_eq_true c19); clear c19; (replace H := Option.bind_eq_some_iff.mp H); (obtain ⟨t246, A200, H⟩ := H)
            try dsimp only at H
            (have A20 := Aside0.mk A200); clear A200
            by_cases c21 : x28_2 < (x7_2.length : Int)
            ·rw [if_pos c21] at H
             (have c21b0 : decide (x28_2 < (x7_2.length : Int)) = true := decide_eq_true c21); clear c21; (obtain ⟨y247, hy247⟩ : ∃ y_ : List ByteArray, y_ = (x7_2.set (x28_2 : Int).toNat t246) := ⟨_, rfl⟩); (replace H : (if (rdOf ByteArray.empty y247 x28_2).toList = ([] : List UInt8) then (impl_Tokens.l0 k2 (y247.set (x28_2 : Int).toNat (⟨#[63]⟩ : ByteArray)) t239 (t239.length : Int) (wrap64 (x28_2 + 1))) else (impl_Tokens.l0 k2 y247 t239 (t239.length : Int) (wrap64 (x28_2 + 1)))) = some (r1, r2) := by first | (rw [hy247]; with_reducible exact H) | (have H2_ := (Option.bind_some _ _).symm.trans H; rw [hy247]; with_reducible exact H2_) | (have H2_ := (Option.bind_some _ _).symm.trans H; with_reducible exact H2_) | with_reducible exact H | (rw [hy247]; exact H) | exact H); (have Ny247 := Aside0.mk hy247); clear hy247
             by_cases c23 : (rdOf ByteArray.empty y247 x28_2).toList = ([] : List UInt8)
             ·rw [if_pos c23] at H
              (have c23b0 : ((rdOf ByteArray.empty y247 x28_2).toList == ([] : List UInt8)) = true := beq_iff_eq.mpr c23); (have c23b1 : ((rdOf ByteArray.empty y247 x28_2).toList != ([] : List UInt8)) = false := bne_eq_false_iff_eq.mpr c23); clear c23; (obtain ⟨y249, hy249⟩ : ∃ y_ : List ByteArray, y_ = (y247.set (x28_2 : Int).toNat (⟨#[63]⟩ : ByteArray)) := ⟨_, rfl⟩); (replace H : (impl_Tokens.l0 k2 y249 t239 (t239.length : Int) (wrap64 (x28_2 + 1))) = some (r1, r2) := by first | (rw [hy249]; with_reducible exact H) | (have H2_ := (Option.bind_some _ _).symm.trans H; rw [hy249]; with_reducible exact H2_) | (have H2_ := (Option.bind_some _ _).symm.trans H; with_reducible exact H2_) | with_reducible exact H | (rw [hy249]; exact H) | exact H); (have Ny249 := Aside0.mk hy249); clear hy249; (have H' := Aside0.mk H); clear H; (have p245 : 0 ≤ (x28_2 : Int) := of_decide_eq_true (by first | (with_reducible assumption) | assumption)); (have q245 : x28_2 < (t239.length : Int) := of_decide_eq_true (by first | (with_reducible assumption) | assumption)); (obtain ⟨ad245, e245, hx245_0⟩ := Kd.at_string (Kd.R_reads' HO_26.out).2.2 x28_2 p245 q245)
              cases e245
              (replace p245 := eq_true p245); (replace q245 := eq_true q245)
              go_wp2_with (first | ((with_reducible refine gate_callee (f := 129) rfl ?_); refine goesL_ (some 36) rfl rfl Tryd.func129 (by kernel_rfl) rfl #[.string (rdOf ByteArray.empty t239 x28_2)] rfl qL ?_; (with_reducible refine (impl_Fold.calls k2 (rdOf ByteArray.empty t239 x28_2) t246 _ A20.out (G_below (qS0 HB) hG)).mono ?_); rintro e w25 ⟨rfl, hb⟩; refine ⟨_, rfl, ?_⟩; have n0_ := Aside0.mk (Kd.R_below (qR HO_7) hb); have n1_ := Aside0.mk (Kd.R_below (qR HO_26) hb); have n2_ := Aside0.mk (below_step (qS0 HB) hb); clear HO_7 HO_26 HB; have HO_7 := n0_; have HO_26 := n1_; have HB := n2_; clear n0_ n1_ n2_; (try clear hb); (try clear hb2); (try clear hk); (try clear hi); have p22 : 0 ≤ (x28_2 : Int) := of_decide_eq_true (by first | (with_reducible assumption) | assumption); have q22 : (x28_2 : Int) < ((x7_2.length : Int) : Int) := of_decide_eq_true (by first | (with_reducible assumption) | assumption); obtain ⟨go22, co22, eo22, gb22, gl22, cl22, HG22⟩ := Kd.R_form HO_7.out (by omega); (first | cases eo22 | (injection eo22 with ea_ en_ ec_; (first | subst ea_ | (injection ea_ with ea_; subst ea_)); subst ec_; clear en_)); have GB22 := Aside0.mk gb22; have GG22 := Aside0.mk HG22; clear gb22 gl22 HG22; obtain ⟨hx22_0, hf22_0⟩ := Kd.R_celln (⟨#[]⟩ : ByteArray) HO_7.out (x28_2 : Int) p22 q22; replace p22 := eq_true p22; replace q22 := eq_true q22; obtain ⟨hy26_, hz26_⟩ := Kd.R_celln (⟨#[]⟩ : ByteArray) HO_7.out (x28_2 : Int) (of_decide_eq_true (by first | (with_reducible assumption) | assumption)) (of_decide_eq_true (by first | (with_reducible assumption) | assumption)); have HP26 := Kd.R_putg HO_7.out (x28_2 : Int) t246) | ((with_reducible refine gate_store (t := 9) (p := 37) rfl ?_); refine store_event (t := 9) (p := 37) (v := ?vo_w27) (w1 := (w25.setCell ⟨go22, (x28_2 : Int).toNat, none⟩ (.string t246))) ?hg ?ho ?hn ?hr ?_; (case ho => rfl); (case hg => rfl); (case hn => rfl); (case hr => first | (go_simp; done) | (go_simp; rfl)); intro w27 hw; have hg : w25.grownBy w27 (some go22) := (by rw [hw]; exact HP26.2); have hp_ : Kd.R Kd.string 9 w27 w.heap.size (fun k_ => some k_ ≠ (.slice (some ad245) t239.length co14 : Value).ownBlock) (.slice (some ⟨go22, 0, none⟩) x7_2.length co22) y247 := (by rw [hw, Ny247.out]; exact HP26.1); clear HP26; have n0_ := Aside0.mk (hp_); have n1_ := Aside0.mk (Kd.R_after (v := (.slice (some ⟨go22, 0, none⟩) x7_2.length co22)) (v1 := (.slice (some ⟨go22, 0, none⟩) x7_2.length co22)) (ok := (fun _ => True)) (by (with_reducible repeat (first | apply Kd.R_alloc | apply Kd.R_drewN | apply Kd.R_drew)); exact Kd.R_mono HO_26.out (fun _ hk => ⟨trivial, hk⟩)) hg (.inl rfl)); have n2_ := Aside0.mk ((by rw [hw]; exact below_set (HB.out) GB22.out : Below w.heap.size w w27)); clear HO_7 HO_26 HB; have HO_7 := n0_; have HO_26 := n1_; have HB := n2_; clear n0_ n1_ n2_ hg hw hp_; have p248 : 0 ≤ (x28_2 : Int) := of_decide_eq_true (by first | (with_reducible assumption) | assumption); have q248 : x28_2 < (y247.length : Int) := (by have h_ : (x28_2 : Int) < ((x7_2.length : Int) : Int) := of_decide_eq_true (by first | (with_reducible assumption) | assumption); first | (have e_ := (Kd.R_reads' HO_7.out).1; omega) | simpa only [Ny247.out, List.length_set] using h_); have ql248 : ((x28_2 : Int) < ((x7_2.length : Int) : Int)) = True := eq_true (of_decide_eq_true (by first | (with_reducible assumption) | assumption)); obtain ⟨ad248, e248, hx248_0⟩ := Kd.at_string (Kd.R_reads' HO_7.out).2.2 x28_2 p248 q248; obtain rfl : (⟨go22, 0, none⟩ : Addr) = ad248 := (by injection e248); (first | simp only [add_plain] at hx248_0 | simp only [add_at] at hx248_0 | simp only [Addr.add, Nat.zero_add] at hx248_0 | skip); replace p248 := eq_true p248; replace q248 := eq_true q248; have p24 : 0 ≤ (x28_2 : Int) := of_decide_eq_true (by first | (with_reducible assumption) | assumption); have q24 : (x28_2 : Int) < ((x7_2.length : Int) : Int) := of_decide_eq_true (by first | (with_reducible assumption) | assumption); obtain ⟨hx24_0, hf24_0⟩ := Kd.R_celln (⟨#[]⟩ : ByteArray) HO_7.out (x28_2 : Int) p24 q24; replace p24 := eq_true p24; replace q24 := eq_true q24; obtain ⟨hy28_, hz28_⟩ := Kd.R_celln (⟨#[]⟩ : ByteArray) HO_7.out (x28_2 : Int) (of_decide_eq_true (by first | (with_reducible assumption) | assumption)) (of_decide_eq_true (by first | (with_reducible assumption) | assumption)); have HP28 := Kd.R_putg HO_7.out (x28_2 : Int) (⟨#[63]⟩ : ByteArray)) | ((with_reducible refine gate_store (t := 9) (p := 45) rfl ?_); refine store_event (t := 9) (p := 45) (v := ?vo_w29) (w1 := (w27.setCell ⟨go22, (x28_2 : Int).toNat, none⟩ (.string (⟨#[63]⟩ : ByteArray)))) ?hg ?ho ?hn ?hr ?_; (case ho => rfl); (case hg => rfl); (case hn => rfl); (case hr => first | (go_simp; done) | (go_simp; rfl)); intro w29 hw; have hg : w27.grownBy w29 (some go22) := (by rw [hw]; exact HP28.2); have hp_ : Kd.R Kd.string 9 w29 w.heap.size (fun k_ => some k_ ≠ (.slice (some ad245) t239.length co14 : Value).ownBlock) (.slice (some ⟨go22, 0, none⟩) x7_2.length co22) y249 := (by rw [hw, Ny249.out]; exact HP28.1); clear HP28; have n0_ := Aside0.mk (hp_); have n1_ := Aside0.mk (Kd.R_after (v := (.slice (some ⟨go22, 0, none⟩) x7_2.length co22)) (v1 := (.slice (some ⟨go22, 0, none⟩) x7_2.length co22)) (ok := (fun _ => True)) (qR HO_26) hg (.inl rfl)); have n2_ := Aside0.mk ((by rw [hw]; exact below_set (HB.out) GB22.out : Below w.heap.size w w29)); clear HO_7 HO_26 HB; have HO_7 := n0_; have HO_26 := n1_; have HB := n2_; clear n0_ n1_ n2_; clear hg hw hp_))
              go_roundg k2
              case measure => have := HJ2.out; have := HK2.out; omega
              case rel => exact ⟨(y249), (wrap64 (x28_2 + 1)), (by first | rfl | (simp; done) | (simp [*]; done)), H', ⟨by have := HJ2.out; have := HK2.out; omega⟩, ⟨qR HO_7⟩, ⟨by (with_reducible repeat (first | apply Kd.R_alloc | apply Kd.R_drewN | apply Kd.R_drew)); exact Kd.R_mono HO_26.out (fun _ hk => hk.2)⟩, ⟨qS0 HB⟩⟩
             ·rw [if_neg c23] at H
              (have c23b0 : ((rdOf ByteArray.empty y247 x28_2).toList == ([] : List UInt8)) = false := beq_eq_false_iff_ne.mpr c23); (have c23b1 : ((rdOf ByteArray.empty y247 x28_2).toList != ([] : List UInt8)) = true := bne_iff_ne.mpr c23); (have H' := Aside0.mk H); clear H; (have p245 : 0 ≤ (x28_2 : Int) := of_decide_eq_true (by first | (with_reducible assumption) | assumption)); (have q245 : x28_2 < (t239.length : Int) := of_decide_eq_true (by first | (with_reducible assumption) | assumption)); (obtain ⟨ad245, e245, hx245_0⟩ := Kd.at_string (Kd.R_reads' HO_26.out).2.2 x28_2 p245 q245)
              cases e245
              (replace p245 := eq_true p245); (replace q245 := eq_true q245)
              go_wp2_with (first | ((with_reducible refine gate_callee (f := 129) rfl ?_); refine goesL_ (some 36) rfl rfl Tryd.func129 (by kernel_rfl) rfl #[.string (rdOf ByteArray.empty t239 x28_2)] rfl qL ?_; (with_reducible refine (impl_Fold.calls k2 (rdOf ByteArray.empty t239 x28_2) t246 _ A20.out (G_below (qS0 HB) hG)).mono ?_); rintro e w30 ⟨rfl, hb⟩; refine ⟨_, rfl, ?_⟩; have n0_ := Aside0.mk (Kd.R_below (qR HO_7) hb); have n1_ := Aside0.mk (Kd.R_below (qR HO_26) hb); have n2_ := Aside0.mk (below_step (qS0 HB) hb); clear HO_7 HO_26 HB; have HO_7 := n0_; have HO_26 := n1_; have HB := n2_; clear n0_ n1_ n2_; (try clear hb); (try clear hb2); (try clear hk); (try clear hi); have p22 : 0 ≤ (x28_2 : Int) := of_decide_eq_true (by first | (with_reducible assumption) | assumption); have q22 : (x28_2 : Int) < ((x7_2.length : Int) : Int) := of_decide_eq_true (by first | (with_reducible assumption) | assumption); obtain ⟨go22, co22, eo22, gb22, gl22, cl22, HG22⟩ := Kd.R_form HO_7.out (by omega); (first | cases eo22 | (injection eo22 with ea_ en_ ec_; (first | subst ea_ | (injection ea_ with ea_; subst ea_)); subst ec_; clear en_)); have GB22 := Aside0.mk gb22; have GG22 := Aside0.mk HG22; clear gb22 gl22 HG22; obtain ⟨hx22_0, hf22_0⟩ := Kd.R_celln (⟨#[]⟩ : ByteArray) HO_7.out (x28_2 : Int) p22 q22; replace p22 := eq_true p22; replace q22 := eq_true q22; obtain ⟨hy31_, hz31_⟩ := Kd.R_celln (⟨#[]⟩ : ByteArray) HO_7.out (x28_2 : Int) (of_decide_eq_true (by first | (with_reducible assumption) | assumption)) (of_decide_eq_true (by first | (with_reducible assumption) | assumption)); have HP31 := Kd.R_putg HO_7.out (x28_2 : Int) t246) | ((with_reducible refine gate_store (t := 9) (p := 37) rfl ?_); refine store_event (t := 9) (p := 37) (v := ?vo_w32) (w1 := (w30.setCell ⟨go22, (x28_2 : Int).toNat, none⟩ (.string t246))) ?hg ?ho ?hn ?hr ?_; (case ho => rfl); (case hg => rfl); (case hn => rfl); (case hr => first | (go_simp; done) | (go_simp; rfl)); intro w32 hw; have hg : w30.grownBy w32 (some go22) := (by rw [hw]; exact HP31.2); have hp_ : Kd.R Kd.string 9 w32 w.heap.size (fun k_ => some k_ ≠ (.slice (some ad245) t239.length co14 : Value).ownBlock) (.slice (some ⟨go22, 0, none⟩) x7_2.length co22) y247 := (by rw [hw, Ny247.out]; exact HP31.1); clear HP31; have n0_ := Aside0.mk (hp_); have n1_ := Aside0.mk (Kd.R_after (v := (.slice (some ⟨go22, 0, none⟩) x7_2.length co22)) (v1 := (.slice (some ⟨go22, 0, none⟩) x7_2.length co22)) (ok := (fun _ => True)) (by (with_reducible repeat (first | apply Kd.R_alloc | apply Kd.R_drewN | apply Kd.R_drew)); exact Kd.R_mono HO_26.out (fun _ hk => ⟨trivial, hk⟩)) hg (.inl rfl)); have n2_ := Aside0.mk ((by rw [hw]; exact below_set (HB.out) GB22.out : Below w.heap.size w w32)); clear HO_7 HO_26 HB; have HO_7 := n0_; have HO_26 := n1_; have HB := n2_; clear n0_ n1_ n2_ hg hw hp_; have p248 : 0 ≤ (x28_2 : Int) := of_decide_eq_true (by first | (with_reducible assumption) | assumption); have q248 : x28_2 < (y247.length : Int) := (by have h_ : (x28_2 : Int) < ((x7_2.length : Int) : Int) := of_decide_eq_true (by first | (with_reducible assumption) | assumption); first | (have e_ := (Kd.R_reads' HO_7.out).1; omega) | simpa only [Ny247.out, List.length_set] using h_); have ql248 : ((x28_2 : Int) < ((x7_2.length : Int) : Int)) = True := eq_true (of_decide_eq_true (by first | (with_reducible assumption) | assumption)); obtain ⟨ad248, e248, hx248_0⟩ := Kd.at_string (Kd.R_reads' HO_7.out).2.2 x28_2 p248 q248; obtain rfl : (⟨go22, 0, none⟩ : Addr) = ad248 := (by injection e248); (first | simp only [add_plain] at hx248_0 | simp only [add_at] at hx248_0 | simp only [Addr.add, Nat.zero_add] at hx248_0 | skip); replace p248 := eq_true p248; replace q248 := eq_true q248))
              go_roundg k2
              case measure => have := HJ2.out; have := HK2.out; omega
              case rel => exact ⟨(y247), (wrap64 (x28_2 + 1)), (by first | rfl | (simp; done) | (simp [*]; done)), H', ⟨by have := HJ2.out; have := HK2.out; omega⟩, ⟨qR HO_7⟩, ⟨by (with_reducible repeat (first | apply Kd.R_alloc | apply Kd.R_drewN | apply Kd.R_drew)); exact Kd.R_mono HO_26.out (fun _ hk => hk.2)⟩, ⟨qS0 HB⟩⟩
            ·rw [if_neg c21] at H
             exact absurd H (by simp)
           ·rw [if_neg c19] at H
            exact absurd H (by simp)
          ·rw [if_neg c18] at H
           exact absurd H (by simp)
         ·rw [if_neg c17] at H
          (have c17b0 : decide (x28_2 < (t239.length : Int)) = false := decide_eq_false c17); clear c17; (simp only [Option.some.injEq, Prod.mk.injEq] at H); (obtain ⟨rfl, rfl⟩ := H)
          go_wp2
          go_ret2
          exact ⟨_, qE, by (with_reducible repeat (first | apply Kd.R_alloc | apply Kd.R_drewN | apply Kd.R_drew)); exact Kd.R_mono HO_7.out (fun _ hk => trivial), qS0 HB⟩
      ·rw [if_neg c12] at H
       exact absurd H (by simp)
     ·rw [if_neg c11] at H
      exact absurd H (by simp)
def impl_looksOf.f (k : Nat) (a0_0 : Int) (a0_1 : ByteArray) (a0_2 : Int) (a0_3 : Int) (a0_4 : Int) (a0_5 : Int) (a0_6 : ByteArray) : Option (List ByteArray) := if a0_0 = 1 then ((impl_Fold.f k a0_1).bind fun t251 => (some (([t251] : List ByteArray)))) else (if a0_0 = 6 then ((impl_Tokens.f k a0_6 a0_5).bind fun bt255 => (if bt255.2 = true then (some bt255.1) else (if 0 ≤ a0_5 then (if (a0_5 : Int).toNat ≤ 17592186044416 then (some (List.replicate (a0_5 : Int).toNat (⟨#[]⟩ : ByteArray))) else (none)) else (none)))) else (some ([] : List ByteArray)))
set_option maxHeartbeats 8000000 in
set_option maxRecDepth 100000 in
theorem impl_looksOf.calls (k : Nat) (a0_0 : Int) (a0_1 : ByteArray) (a0_2 : Int) (a0_3 : Int) (a0_4 : Int) (a0_5 : Int) (a0_6 : ByteArray) (r : List ByteArray) (w : World) (h : impl_looksOf.f k a0_0 a0_1 a0_2 a0_3 a0_4 a0_5 a0_6 = some r) (hG : TabG w) :
  Calls Tryd.prog 101 #[.agg #[.int .i64 a0_0, .string a0_1, .int .i64 a0_2, .int .i64 a0_3, .int .i64 a0_4, .int .i64 a0_5, .string a0_6]] w fun e w' => ∃ v0_ : Value, e = .returned (v0_) ∧ Kd.R Kd.string 9 w' w.heap.size (fun _ => True) v0_ r ∧ Below w.heap.size w w' := by
 (have hu32 := Tryd.underlying32); (have HB := Aside0.mk (Below.refl w.heap.size w)); (have H : (if a0_0 = 1 then ((impl_Fold.f k a0_1).bind fun t251 => (some (([t251] : List ByteArray)))) else (if a0_0 = 6 then ((impl_Tokens.f k a0_6 a0_5).bind fun bt255 => (if bt255.2 = true then (some bt255.1) else (if 0 ≤ a0_5 then (if (a0_5 : Int).toNat ≤ 17592186044416 then (some (List.replicate (a0_5 : Int).toNat (⟨#[]⟩ : ByteArray))) else (none)) else (none)))) else (some ([] : List ByteArray)))) = some r := h); clear h
 by_cases c2 : a0_0 = 1
 ·rw [if_pos c2] at H
  (have c2b0 : (a0_0 == 1) = true := beq_iff_eq.mpr c2); (have c2b1 : (a0_0 != 1) = false := bne_eq_false_iff_eq.mpr c2); clear c2; (replace H := Option.bind_eq_some_iff.mp H); (obtain ⟨t251, A30, H⟩ := H); (replace H : (some (([t251] : List ByteArray))) = some r := H); (have A3 := Aside0.mk A30); clear A30; (obtain ⟨y252, hy252⟩ : ∃ y_ : List ByteArray, y_ = (([t251] : List ByteArray)) := ⟨_, rfl⟩); (replace H : (some y252) = some r := by first | (rw [hy252]; with_reducible exact H) | (have H2_ := (Option.bind_some _ _).symm.trans H; rw [hy252]; with_reducible exact H2_) | (have H2_ := (Option.bind_some _ _).symm.trans H; with_reducible exact H2_) | with_reducible exact H | (rw [hy252]; exact H) | exact H); (have Ny252 := Aside0.mk hy252); clear hy252; (obtain rfl := Option.some.inj H)
  go_enter Tryd.func101, Tryd.ntmps101
  go_wp2_with (first | ((with_reducible refine gate_dst (N := 1) rfl ?_); refine box_event ?hg (N := 1) ?hd (cs := #[.int .i64 a0_0, .string a0_1, .int .i64 a0_2, .int .i64 a0_3, .int .i64 a0_4, .int .i64 a0_5, .string a0_6]) (t := 32) ?hr ?_; (case hd => rfl); (case hg => rfl); (case hr => first | (go_simp; done) | (go_simp; rfl)); intro gb250 hg w4 hbox hb; have n0_ := Aside0.mk (below_step (qS0 HB) hb); have n1_ := Aside0.mk (hbox); have n2_ := qG hg (below_size (qS0 HB)); have n3_ := qG hg (below_size (qS0 HB)); clear HB; have HB := n0_; have BK250 := n1_; have GW250 := n2_; have GE250 := n3_; clear n0_ n1_ n2_ n3_ hb hbox hg; obtain ⟨hcz5_0, hcz5_1, hcz5_2, hcz5_3, hcz5_4, hcz5_5, hcz5_6, hfz5_0, hfz5_1, hfz5_2, hfz5_3, hfz5_4, hfz5_5, hfz5_6⟩ := qC7 BK250) | ((with_reducible refine gate_callee (f := 129) rfl ?_); refine goesL_ (some 11) rfl rfl Tryd.func129 (by kernel_rfl) rfl #[.string a0_1] rfl qL ?_; (with_reducible refine (impl_Fold.calls k a0_1 t251 _ A3.out (G_below (qS1 HB GE250) hG)).mono ?_); rintro e w6 ⟨rfl, hb⟩; refine ⟨_, rfl, ?_⟩; have n0_ := qD BK250 hb; have n1_ := Aside0.mk (below_step (qS1 HB GE250) hb); clear BK250 HB; have BK250 := n0_; have HB := n1_; clear n0_ n1_; (try clear hb); (try clear hb2); (try clear hk); (try clear hi)) | ((with_reducible refine gate_dst (N := 12) rfl ?_); refine Kd.R_lit Kd.string _ 9 ?hg (N := 12) ?hd (xs := ([t251] : List ByteArray)) (inner := [.string t251]) (ok := fun _ => True) (okp := fun _ => True) ?hr ?hp (fun _ hk => hk) trivial (Below.refl _ _) (Nat.le_refl _) (by simp) ?_; (case hd => rfl); (case hg => rfl); (case hr => first | (go_simp; done) | (go_simp; rfl)); (case hp => exact (Reps.one (show Kd.M Kd.string _ _ _ t251 [.string t251] from rfl) (Reps.none _ _))); intro v253 w7 ho8 hb hg_ hnew_; clear hg_ hnew_; (first | rw [← Ny252.out] at ho8 | (simp only [Int.reduceToNat] at ho8; rw [← Ny252.out] at ho8)); have n0_ := Aside0.mk (Kd.R_lower ho8 (below_size (qS1 HB GE250))); have n1_ := qD BK250 hb; have n2_ := Aside0.mk (below_step (qS1 HB GE250) hb); clear BK250 HB; have HO254 := n0_; have BK250 := n1_; have HB := n2_; clear n0_ n1_ n2_; clear hb ho8))
  go_ret
  exact ⟨_, qE, qR HO254, qS1 HB GE250⟩
 ·rw [if_neg c2] at H
  (have c2b0 : (a0_0 == 1) = false := beq_eq_false_iff_ne.mpr c2); (have c2b1 : (a0_0 != 1) = true := bne_iff_ne.mpr c2)
  by_cases c9 : a0_0 = 6
  ·rw [if_pos c9] at H
   (have c9b0 : (a0_0 == 6) = true := beq_iff_eq.mpr c9); (have c9b1 : (a0_0 != 6) = false := bne_eq_false_iff_eq.mpr c9); clear c9; (replace H := Option.bind_eq_some_iff.mp H); (obtain ⟨⟨t255, t256⟩, A100, H⟩ := H)
   try dsimp only at H
   (have A10 := Aside0.mk A100); clear A100
   by_cases c11 : t256 = true
   ·subst c11
    (have H1 : (some t255) = some r := by rw [if_pos rfl] at H; exact H); clear H; (have H := H1); clear H1; (obtain rfl := Option.some.inj H)
    go_enter Tryd.func101, Tryd.ntmps101
    go_wp2_with (first | ((with_reducible refine gate_dst (N := 1) rfl ?_); refine box_event ?hg (N := 1) ?hd (cs := #[.int .i64 a0_0, .string a0_1, .int .i64 a0_2, .int .i64 a0_3, .int .i64 a0_4, .int .i64 a0_5, .string a0_6]) (t := 32) ?hr ?_; (case hd => rfl); (case hg => rfl); (case hr => first | (go_simp; done) | (go_simp; rfl)); intro gb250 hg w12 hbox hb; have n0_ := Aside0.mk (below_step (qS0 HB) hb); have n1_ := Aside0.mk (hbox); have n2_ := qG hg (below_size (qS0 HB)); have n3_ := qG hg (below_size (qS0 HB)); clear HB; have HB := n0_; have BK250 := n1_; have GW250 := n2_; have GE250 := n3_; clear n0_ n1_ n2_ n3_ hb hbox hg; obtain ⟨hcz13_0, hcz13_1, hcz13_2, hcz13_3, hcz13_4, hcz13_5, hcz13_6, hfz13_0, hfz13_1, hfz13_2, hfz13_3, hfz13_4, hfz13_5, hfz13_6⟩ := qC7 BK250) | ((with_reducible refine gate_callee (f := 130) rfl ?_); refine goesL_ (some 20) rfl rfl Tryd.func130 (by kernel_rfl) rfl #[.string a0_6, .int .i64 a0_5] rfl qL ?_; (with_reducible refine (impl_Tokens.calls k a0_6 a0_5 t255 true _ A10.out (G_below (qS1 HB GE250) hG)).mono ?_); rintro e w14 ⟨v257, rfl, ho0, hb⟩; refine ⟨_, rfl, ?_⟩; have n0_ := Aside0.mk (Kd.R_lower ho0 (below_size (qS1 HB GE250))); have n1_ := qD BK250 hb; have n2_ := Aside0.mk (below_step (qS1 HB GE250) hb); clear BK250 HB; have HO258 := n0_; have BK250 := n1_; have HB := n2_; clear n0_ n1_ n2_; (try clear hb); (try clear hb2); (try clear hk); (try clear hi); (try clear ho0)))
    go_ret
    exact ⟨_, qE, qR HO258, qS1 HB GE250⟩
   ·replace c11 := Bool.eq_false_iff.mpr c11
    (subst c11); (have H1 : (if 0 ≤ a0_5 then (if (a0_5 : Int).toNat ≤ 17592186044416 then (some (List.replicate (a0_5 : Int).toNat (⟨#[]⟩ : ByteArray))) else (none)) else (none)) = some r := by rw [if_neg (show ¬ (false = true) by decide)] at H; exact H); clear H; (have H := H1); clear H1
    by_cases c15 : 0 ≤ a0_5
    ·rw [if_pos c15] at H
     (have c15b0 := eq_true c15); (have c15b1 : decide (0 ≤ a0_5) = true := decide_eq_true c15); clear c15
     by_cases c16 : (a0_5 : Int).toNat ≤ 17592186044416
     ·rw [if_pos c16] at H
      (have c16b0 := eq_true c16); (have c16b1 : decide ((a0_5 : Int).toNat ≤ 17592186044416) = true := decide_eq_true c16); clear c16; (obtain ⟨y259, hy259⟩ : ∃ y_ : List ByteArray, y_ = (List.replicate (a0_5 : Int).toNat (⟨#[]⟩ : ByteArray)) := ⟨_, rfl⟩); (replace H : (some y259) = some r := by first | (rw [hy259]; with_reducible exact H) | (have H2_ := (Option.bind_some _ _).symm.trans H; rw [hy259]; with_reducible exact H2_) | (have H2_ := (Option.bind_some _ _).symm.trans H; with_reducible exact H2_) | with_reducible exact H | (rw [hy259]; exact H) | exact H); (have Ny259 := Aside0.mk hy259); clear hy259; (obtain rfl := Option.some.inj H)
      go_enter Tryd.func101, Tryd.ntmps101
      go_wp2_with (first | ((with_reducible refine gate_dst (N := 1) rfl ?_); refine box_event ?hg (N := 1) ?hd (cs := #[.int .i64 a0_0, .string a0_1, .int .i64 a0_2, .int .i64 a0_3, .int .i64 a0_4, .int .i64 a0_5, .string a0_6]) (t := 32) ?hr ?_; (case hd => rfl); (case hg => rfl); (case hr => first | (go_simp; done) | (go_simp; rfl)); intro gb250 hg w17 hbox hb; have n0_ := Aside0.mk (below_step (qS0 HB) hb); have n1_ := Aside0.mk (hbox); have n2_ := qG hg (below_size (qS0 HB)); have n3_ := qG hg (below_size (qS0 HB)); clear HB; have HB := n0_; have BK250 := n1_; have GW250 := n2_; have GE250 := n3_; clear n0_ n1_ n2_ n3_ hb hbox hg; obtain ⟨hcz18_0, hcz18_1, hcz18_2, hcz18_3, hcz18_4, hcz18_5, hcz18_6, hfz18_0, hfz18_1, hfz18_2, hfz18_3, hfz18_4, hfz18_5, hfz18_6⟩ := qC7 BK250) | ((with_reducible refine gate_callee (f := 130) rfl ?_); refine goesL_ (some 20) rfl rfl Tryd.func130 (by kernel_rfl) rfl #[.string a0_6, .int .i64 a0_5] rfl qL ?_; (with_reducible refine (impl_Tokens.calls k a0_6 a0_5 t255 false _ A10.out (G_below (qS1 HB GE250) hG)).mono ?_); rintro e w19 ⟨v257, rfl, ho0, hb⟩; refine ⟨_, rfl, ?_⟩; have n0_ := Aside0.mk (Kd.R_lower ho0 (below_size (qS1 HB GE250))); have n1_ := qD BK250 hb; have n2_ := Aside0.mk (below_step (qS1 HB GE250) hb); clear BK250 HB; have HO258 := n0_; have BK250 := n1_; have HB := n2_; clear n0_ n1_ n2_; (try clear hb); (try clear hb2); (try clear hk); (try clear hi); (try clear ho0); obtain ⟨hcz20_0, hcz20_1, hcz20_2, hcz20_3, hcz20_4, hcz20_5, hcz20_6, hfz20_0, hfz20_1, hfz20_2, hfz20_3, hfz20_4, hfz20_5, hfz20_6⟩ := qC7 BK250) | ((with_reducible refine gate_dst (N := 27) rfl ?_); refine Kd.R_make Kd.string _ 9 rfl (N := 27) rfl 84 _ _ rfl a0_5 rfl rfl Tryd.underlying84 (.string ⟨#[]⟩) 16 info9 rfl (by decide) (by omega) (⟨#[]⟩ : ByteArray) (ok := fun _ => True) (okp := fun _ => True) rfl (fun _ hk => hk) trivial (of_decide_eq_true (by first | (with_reducible assumption) | assumption)) (Nat.le_trans (Nat.mul_le_mul_right _ (of_decide_eq_true (by first | (with_reducible assumption) | assumption) : a0_5.toNat ≤ 17592186044416)) (by omega)) (Below.refl _ _) (Nat.le_refl _) ?_; intro v260 w21 ho22 hb hg_ hnew_; clear hg_ hnew_; (first | rw [← Ny259.out] at ho22 | (simp only [Int.reduceToNat] at ho22; rw [← Ny259.out] at ho22)); have n0_ := Aside0.mk (Kd.R_elder' (qR HO258) (Kd.R_base ho22) hb); have n1_ := Aside0.mk (Kd.R_lower (Kd.R_new' ho22 (Kd.R_lt (qR HO258))) (below_size (qS1 HB GE250))); have n2_ := qD BK250 hb; have n3_ := Aside0.mk (below_step (qS1 HB GE250) hb); clear HO258 BK250 HB; have HO258 := n0_; have HO261 := n1_; have BK250 := n2_; have HB := n3_; clear n0_ n1_ n2_ n3_; clear hb ho22))
      go_ret
      exact ⟨_, qE, by (with_reducible repeat (first | apply Kd.R_alloc | apply Kd.R_drewN | apply Kd.R_drew)); exact Kd.R_mono HO261.out (fun _ hk => trivial), qS1 HB GE250⟩
     ·rw [if_neg c16] at H
      exact absurd H (by simp)
    ·rw [if_neg c15] at H
     exact absurd H (by simp)
  ·rw [if_neg c9] at H
   (have c9b0 : (a0_0 == 6) = false := beq_eq_false_iff_ne.mpr c9); (have c9b1 : (a0_0 != 6) = true := bne_iff_ne.mpr c9); (obtain rfl := Option.some.inj H)
   go_enter Tryd.func101, Tryd.ntmps101
   go_wp2_with (first | ((with_reducible refine gate_dst (N := 1) rfl ?_); refine box_event ?hg (N := 1) ?hd (cs := #[.int .i64 a0_0, .string a0_1, .int .i64 a0_2, .int .i64 a0_3, .int .i64 a0_4, .int .i64 a0_5, .string a0_6]) (t := 32) ?hr ?_; (case hd => rfl); (case hg => rfl); (case hr => first | (go_simp; done) | (go_simp; rfl)); intro gb250 hg w23 hbox hb; have n0_ := Aside0.mk (below_step (qS0 HB) hb); have n1_ := Aside0.mk (hbox); have n2_ := qG hg (below_size (qS0 HB)); have n3_ := qG hg (below_size (qS0 HB)); clear HB; have HB := n0_; have BK250 := n1_; have GW250 := n2_; have GE250 := n3_; clear n0_ n1_ n2_ n3_ hb hbox hg; obtain ⟨hcz24_0, hcz24_1, hcz24_2, hcz24_3, hcz24_4, hcz24_5, hcz24_6, hfz24_0, hfz24_1, hfz24_2, hfz24_3, hfz24_4, hfz24_5, hfz24_6⟩ := qC7 BK250))
   go_ret
   exact ⟨_, qE, by first | exact Kd.R_nil _ _ _ _ _ | exact Kd.N_nil _ _ _ _ _ | exact Kd.V_nil _ _ _ _ _ | exact Kd.Q_nil _ _ _ _ _ | exact Kd.S_nil _ _ _ _ _, qS1 HB GE250⟩
def impl_bucketOf.f (k : Nat) (a0_0 : Int) (a0_1 : Int) (a0_2 : Int) (a0_3 : Int) (a1 : ByteArray) : Option (Int) := (impl_ShelfFor.f k a0_0 a1 a0_1).bind fun t273 => (some t273)
set_option maxHeartbeats 8000000 in
set_option maxRecDepth 100000 in
theorem impl_bucketOf.calls (k : Nat) (a0_0 : Int) (a0_1 : Int) (a0_2 : Int) (a0_3 : Int) (a1 : ByteArray) (r : Int) (w : World) (h : impl_bucketOf.f k a0_0 a0_1 a0_2 a0_3 a1 = some r) :
  Calls Tryd.prog 102 #[.agg #[.int .i64 a0_0, .int .i64 a0_1, .int .i64 a0_2, .int .i64 a0_3], .string a1] w fun e w' => e = .returned (.int .i64 r) ∧ Below w.heap.size w w' := by
 (have hu25 := Tryd.underlying25); (have HB := Aside0.mk (Below.refl w.heap.size w)); (have H : ((impl_ShelfFor.f k a0_0 a1 a0_1).bind fun t273 => (some t273)) = some r := h); clear h; (replace H := Option.bind_eq_some_iff.mp H); (obtain ⟨t273, A30, H⟩ := H); (replace H : (some t273) = some r := H); (have A3 := Aside0.mk A30); clear A30; (obtain rfl := Option.some.inj H)
 go_enter Tryd.func102, Tryd.ntmps102
 go_wp2_with (first | ((with_reducible refine gate_dst (N := 2) rfl ?_); refine box_event ?hg (N := 2) ?hd (cs := #[.int .i64 a0_0, .int .i64 a0_1, .int .i64 a0_2, .int .i64 a0_3]) (t := 25) ?hr ?_; (case hd => rfl); (case hg => rfl); (case hr => first | (go_simp; done) | (go_simp; rfl)); intro gb272 hg w4 hbox hb; have n0_ := Aside0.mk (below_step (qS0 HB) hb); have n1_ := Aside0.mk (hbox); have n2_ := qG hg (below_size (qS0 HB)); have n3_ := qG hg (below_size (qS0 HB)); clear HB; have HB := n0_; have BK272 := n1_; have GW272 := n2_; have GE272 := n3_; clear n0_ n1_ n2_ n3_ hb hbox hg; obtain ⟨hcz5_0, hcz5_1, hcz5_2, hcz5_3, hfz5_0, hfz5_1, hfz5_2, hfz5_3⟩ := qC4 BK272) | ((with_reducible refine gate_callee (f := 33) rfl ?_); refine goesL_ (some 10) rfl rfl Tryd.func33 (by kernel_rfl) rfl #[.int .i64 a0_0, .string a1, .int .i64 a0_1] rfl qL ?_; (with_reducible refine (impl_ShelfFor.calls k a0_0 a1 a0_1 t273 _ A3.out).mono ?_); rintro e w6 ⟨rfl, hb⟩; refine ⟨_, rfl, ?_⟩; have n0_ := qD BK272 hb; have n1_ := Aside0.mk (below_step (qS1 HB GE272) hb); clear BK272 HB; have BK272 := n0_; have HB := n1_; clear n0_ n1_; (try clear hb); (try clear hb2); (try clear hk); (try clear hi)))
 go_ret
 exact ⟨qE, qS1 HB GE272⟩
def impl_isChange.f (a0 : Int) : Option (Bool) := if a0 = 3 then (some true) else (if a0 = 4 then (some true) else (some (a0 == 5)))
set_option maxHeartbeats 8000000 in
set_option maxRecDepth 100000 in
theorem impl_isChange.calls (a0 : Int) (r : Bool) (w : World) (h : impl_isChange.f a0 = some r) :
  Calls Tryd.prog 103 #[.int .i64 a0] w fun e w' => e = .returned (.bool r) ∧ Drawn0 w w' := by
 (have H : (if a0 = 3 then (some true) else (if a0 = 4 then (some true) else (some (a0 == 5)))) = some r := h); clear h
 by_cases c2 : a0 = 3
 ·rw [if_pos c2] at H
  (have c2b0 : (a0 == 3) = true := beq_iff_eq.mpr c2); (have c2b1 : (a0 != 3) = false := bne_eq_false_iff_eq.mpr c2); clear c2; (obtain rfl := Option.some.inj H)
  go_enter Tryd.func103, Tryd.ntmps103
  go_wp2
  go_ret
  exact ⟨by first | rfl | (simp; done) | (simp [*]; done), by repeat (first | exact Drawn0.refl _ | apply Drawn0.step)⟩
 ·rw [if_neg c2] at H
  (have c2b0 : (a0 == 3) = false := beq_eq_false_iff_ne.mpr c2); (have c2b1 : (a0 != 3) = true := bne_iff_ne.mpr c2)
  by_cases c3 : a0 = 4
  ·rw [if_pos c3] at H
   (have c3b0 : (a0 == 4) = true := beq_iff_eq.mpr c3); (have c3b1 : (a0 != 4) = false := bne_eq_false_iff_eq.mpr c3); clear c3; (obtain rfl := Option.some.inj H)
   go_enter Tryd.func103, Tryd.ntmps103
   go_wp2
   go_ret
   exact ⟨by first | rfl | (simp; done) | (simp [*]; done), by repeat (first | exact Drawn0.refl _ | apply Drawn0.step)⟩
  ·rw [if_neg c3] at H
   (have c3b0 : (a0 == 4) = false := beq_eq_false_iff_ne.mpr c3); (have c3b1 : (a0 != 4) = true := bne_iff_ne.mpr c3); (obtain rfl := Option.some.inj H)
   go_enter Tryd.func103, Tryd.ntmps103
   go_wp2
   go_ret
   exact ⟨by first | rfl | (simp; done) | (simp [*]; done), by repeat (first | exact Drawn0.refl _ | apply Drawn0.step)⟩
def impl_changeOf.f (k : Nat) (a0_0 : Int) (a0_1 : ByteArray) (a0_2 : Int) (a0_3 : Int) (a0_4 : Int) (a0_5 : Int) (a0_6 : ByteArray) : Option (ByteArray × Int) := (impl_Fold.f k a0_1).bind fun t276 => (if a0_0 = 4 then (some (t276, 0)) else (some (t276, a0_2)))
def impl_changeOf.T1 : Bool × List (List Nat × List Nat) := (true, [([], []), ([0], [0]), ([1], [1]), ([], []), ([3], [3]), ([2, 4], [2, 4]), ([], []), ([6, 5, 2, 0, 1, 2, 3, 4, 5, 6], [5, 6])])
def impl_changeOf.B1 : List Nat := [0, 1, 3, 0, 8, 31, 0, 127]
theorem impl_changeOf.tab1 : rtab .any (opsOf Tryd.f104 1) = impl_changeOf.T1 := by kernel_rfl
theorem impl_changeOf.bits1 : waitsOk impl_changeOf.T1.2 impl_changeOf.B1 = true := by kernel_rfl
set_option maxHeartbeats 8000000 in
set_option maxRecDepth 100000 in
theorem impl_changeOf.calls (k : Nat) (a0_0 : Int) (a0_1 : ByteArray) (a0_2 : Int) (a0_3 : Int) (a0_4 : Int) (a0_5 : Int) (a0_6 : ByteArray) (r1 : ByteArray) (r2 : Int) (w : World) (h : impl_changeOf.f k a0_0 a0_1 a0_2 a0_3 a0_4 a0_5 a0_6 = some (r1, r2)) (hG : TabG w) :
  Calls Tryd.prog 104 #[.agg #[.int .i64 a0_0, .string a0_1, .int .i64 a0_2, .int .i64 a0_3, .int .i64 a0_4, .int .i64 a0_5, .string a0_6]] w fun e w' => e = .returned (.agg #[.string r1, .int .i64 r2]) ∧ Below w.heap.size w w' := by
 (have hu32 := Tryd.underlying32); (have hu118 := Tryd.underlying118); (have HB := Aside0.mk (Below.refl w.heap.size w)); (have H : ((impl_Fold.f k a0_1).bind fun t276 => (if a0_0 = 4 then (some (t276, 0)) else (some (t276, a0_2)))) = some (r1, r2) := h); clear h; (replace H := Option.bind_eq_some_iff.mp H); (obtain ⟨t276, A20, H⟩ := H); (replace H : (if a0_0 = 4 then (some (t276, 0)) else (some (t276, a0_2))) = some (r1, r2) := H); (have A2 := Aside0.mk A20); clear A20
 by_cases c3 : a0_0 = 4
 ·rw [if_pos c3] at H
  (have c3b0 : (a0_0 == 4) = true := beq_iff_eq.mpr c3); (have c3b1 : (a0_0 != 4) = false := bne_eq_false_iff_eq.mpr c3); clear c3; (simp only [Option.some.injEq, Prod.mk.injEq] at H); (obtain ⟨rfl, rfl⟩ := H)
  go_enter Tryd.func104, Tryd.ntmps104
  try go_wp2_with (first | ((with_reducible refine gate_dst (N := 1) rfl ?_); refine box_event ?hg (N := 1) ?hd (cs := #[.int .i64 a0_0, .string a0_1, .int .i64 a0_2, .int .i64 a0_3, .int .i64 a0_4, .int .i64 a0_5, .string a0_6]) (t := 32) ?hr ?_; (case hd => rfl); (case hg => rfl); (case hr => first | (go_simp; done) | (go_simp; rfl)); intro gb274 hg w4 hbox hb; have n0_ := Aside0.mk (below_step (qS0 HB) hb); have n1_ := Aside0.mk (hbox); have n2_ := qG hg (below_size (qS0 HB)); have n3_ := qG hg (below_size (qS0 HB)); clear HB; have HB := n0_; have BK274 := n1_; have GW274 := n2_; have GE274 := n3_; clear n0_ n1_ n2_ n3_; clear hb hbox hg) | ((with_reducible refine gate_dst (N := 2) rfl ?_); refine box_event ?hg (N := 2) ?hd (cs := #[.string (⟨#[]⟩ : ByteArray), .int .i64 0]) (t := 118) ?hr ?_; (case hd => rfl); (case hg => rfl); (case hr => first | (go_simp; done) | (go_simp; rfl)); intro gb275 hg w5 hbox hb; have n0_ := qD BK274 hb; have n1_ := Aside0.mk (below_step (qS1 HB GE274) hb); have n2_ := Aside0.mk (hbox); have n3_ := qG hg (below_size (qS1 HB GE274)); have n4_ := qG hg (below_size (qS1 HB GE274)); have n5_ := qN hg (blk_lt (qB BK274)); have n6_ := qM hg (blk_lt (qB BK274)); clear BK274 HB; have BK274 := n0_; have HB := n1_; have BK275 := n2_; have GW275 := n3_; have GE275 := n4_; have NB274_275 := n5_; have NB275_274 := n6_; clear n0_ n1_ n2_ n3_ n4_ n5_ n6_; clear hb hbox hg))
  (have n0_ := Aside0.mk (blk_drew BK274.out)); (have n1_ := Aside0.mk (blk_drew BK275.out)); (have n2_ := Aside0.mk (below_drew1 HB.out)); clear BK274 BK275 HB; (have BK274 := n0_); (have BK275 := n1_); (have HB := n2_); clear n0_ n1_ n2_
  refine start_ (n := 8) (S := fun w' => w'.cell? ⟨gb274, 0, none⟩ = some (.int .i64 a0_0) ∧ w'.cell? ⟨gb274, 1, none⟩ = some (.string a0_1) ∧ w'.cell? ⟨gb274, 2, none⟩ = some (.int .i64 a0_2) ∧ w'.cell? ⟨gb274, 3, none⟩ = some (.int .i64 a0_3) ∧ w'.cell? ⟨gb274, 4, none⟩ = some (.int .i64 a0_4) ∧ w'.cell? ⟨gb274, 5, none⟩ = some (.int .i64 a0_5) ∧ w'.cell? ⟨gb274, 6, none⟩ = some (.string a0_6)) (ds := []) #[false, false, false, false, false, false, false, false] (by kernel_rfl) rfl rfl ⟨(blk_cell BK274.out 0).trans rfl, (blk_cell BK274.out 1).trans rfl, (blk_cell BK274.out 2).trans rfl, (blk_cell BK274.out 3).trans rfl, (blk_cell BK274.out 4).trans rfl, (blk_cell BK274.out 5).trans rfl, (blk_cell BK274.out 6).trans rfl⟩ (fun hHeld => ?_); refine with_tabW impl_changeOf.tab1 impl_changeOf.bits1 (fun HT_ HW_ => ?_)
  generalize w5.drew = w6 at BK274 BK275 HB hHeld ⊢
  refine pure_ (i := 0) (N := some 4) (v := ?_) (a' := ?_) #[true, false, false, false, false, false, false, false] rfl rfl (any_of HT_.out (by kernel_rfl)) (fun _ _ _ h => h) (Or.inl ⟨by rfl, ?_⟩) ?_ ?_
  rotate_left
  ·intro w'
   go_simp
   with_reducible rfl
  rotate_left
  ·simp only [Act.put, List.setIfInBounds_toArray, List.set_cons_zero, List.set_cons_succ, i64_w, i32_w]
   rfl
  refine pure_ (i := 3) (N := some 7) (v := ?_) (a' := ?_) #[true, false, false, true, false, false, false, false] rfl rfl (any_of HT_.out (by kernel_rfl)) (fun _ _ _ h => h) (Or.inl ⟨by rfl, ?_⟩) ?_ ?_
  rotate_left
  ·intro w'
   go_simp
   with_reducible rfl
  rotate_left
  ·simp only [Act.put, List.setIfInBounds_toArray, List.set_cons_zero, List.set_cons_succ, i64_w, i32_w]
   rfl
  refine take_ (i := 1) (N := some 5) (v := ?_) (a' := ?_) #[true, true, false, true, false, false, false, false] rfl rfl (take_ofW HT_.out HW_.out (by kernel_rfl)) (fun _ _ _ h => h) (Or.inl ⟨by rfl, ?_⟩) hHeld ?_ ?_
  rotate_left
  ·rintro w' ⟨s0, s1, s2, s3, s4, s5, s6⟩
   go_simp
   with_reducible rfl
  rotate_left
  ·simp only [Act.put, List.setIfInBounds_toArray, List.set_cons_zero, List.set_cons_succ, i64_w, i32_w]
   rfl
  refine take_ (i := 4) (N := some 8) (v := ?_) (a' := ?_) #[true, true, false, true, true, false, false, false] rfl rfl (take_ofW HT_.out HW_.out (by kernel_rfl)) (fun _ _ _ h => h) (Or.inl ⟨by rfl, ?_⟩) hHeld ?_ ?_
  rotate_left
  ·rintro w' ⟨s0, s1, s2, s3, s4, s5, s6⟩
   go_simp
   with_reducible rfl
  rotate_left
  ·simp only [Act.put, List.setIfInBounds_toArray, List.set_cons_zero, List.set_cons_succ, i64_w, i32_w]
   rfl
  refine join_ (σ := Nat) 1 #[true, true, true, true, true, true, true, false] (fun s_ => [(6, .string t276), (3, .pointer (some ⟨s_, 0, none⟩)), (9, .agg #[.string t276, .int .i64 a0_2])]) (fun s_ w' => (w'.cell? ⟨gb274, 0, none⟩ = some (.int .i64 a0_0) ∧ w'.cell? ⟨gb274, 1, none⟩ = some (.string a0_1) ∧ w'.cell? ⟨gb274, 2, none⟩ = some (.int .i64 a0_2) ∧ w'.cell? ⟨gb274, 3, none⟩ = some (.int .i64 a0_3) ∧ w'.cell? ⟨gb274, 4, none⟩ = some (.int .i64 a0_4) ∧ w'.cell? ⟨gb274, 5, none⟩ = some (.int .i64 a0_5) ∧ w'.cell? ⟨gb274, 6, none⟩ = some (.string a0_6)) ∧ (w'.heap[gb274]? = some (.cells #[.int .i64 a0_0, .string a0_1, .int .i64 a0_2, .int .i64 a0_3, .int .i64 a0_4, .int .i64 a0_5, .string a0_6] 32 (0, 0))) ∧ (w'.heap[gb275]? = some (.cells #[.string (⟨#[]⟩ : ByteArray), .int .i64 0] 118 (0, 0))) ∧ (w'.heap[s_]? = some (.cells #[.string (⟨#[]⟩ : ByteArray), .int .i64 0] 118 (0, 0))) ∧ (w.heap.size ≤ s_) ∧ (w.heap.size ≤ s_) ∧ (gb274 ≠ s_) ∧ (s_ ≠ gb274) ∧ (gb275 ≠ s_) ∧ (s_ ≠ gb275) ∧ (Below w.heap.size w w')) ?_ ?_
  rotate_left
  ·intro hCont
   refine two_ (i := 2) (j := 6) (Ni := some 6) (Nj := some 3) #[true, true, true, true, true, false, false, false] #[true, true, false, true, true, false, true, false] rfl rfl rfl rfl (two_of HT_.out (by kernel_rfl)) (by decide) (by decide) (fun K hK => ?_) (fun K hK => ?_)
   ·skip
    refine goes_ Tryd.func129 (by kernel_rfl) rfl #[.string a0_1] (by rfl) rfl rfl qL ?_
    with_reducible refine (impl_Fold.calls k a0_1 t276 _ A2.out (G_below (qS0 HB) hG)).mono ?_
    rintro e w7 ⟨rfl, hb⟩
    refine ⟨_, rfl, ?_⟩
    (have n0_ := qD BK274 hb); (have n1_ := qD BK275 hb); (have n2_ := Aside0.mk (below_step (qS2 HB GE274 GE275) hb)); clear BK274 BK275 HB; (have BK274 := n0_); (have BK275 := n1_); (have HB := n2_); clear n0_ n1_ n2_; (try clear hb); (try clear hb2); (try clear hk); (try clear hi)
    refine hK.out _ _ ⟨(blk_cell BK274.out 0).trans rfl, (blk_cell BK274.out 1).trans rfl, (blk_cell BK274.out 2).trans rfl, (blk_cell BK274.out 3).trans rfl, (blk_cell BK274.out 4).trans rfl, (blk_cell BK274.out 5).trans rfl, (blk_cell BK274.out 6).trans rfl⟩ (fun hHeld => ?_)
    clear hK K
    refine norm_ (a' := ?_) ?_ ?_
    rotate_left
    ·show Act.put _ (some 6) _ = _
     simp only [Act.put, List.setIfInBounds_toArray, List.set_cons_zero, List.set_cons_succ, i64_w, i32_w]
     rfl
    refine pure_ (i := 5) (N := some 9) (v := ?_) (a' := ?_) #[true, true, true, true, true, true, false, false] rfl rfl (any_of HT_.out (by kernel_rfl)) (fun _ _ _ h => h) (Or.inl ⟨by rfl, ?_⟩) ?_ ?_
    rotate_left
    ·intro w'
     go_simp
     with_reducible rfl
    rotate_left
    ·simp only [Act.put, List.setIfInBounds_toArray, List.set_cons_zero, List.set_cons_succ, i64_w, i32_w]
     rfl
    refine one_ (i := 6) (N := some 3) #[true, true, true, true, true, true, true, false] rfl rfl (one_of HT_.out (by kernel_rfl)) (by decide) (fun K hK => ?_)
    refine box_step ?hg (N := 3) ?hd (cs := #[.string (⟨#[]⟩ : ByteArray), .int .i64 0]) (t := 118) ?hr ?_; (case hd => rfl); (case hg => rfl); (case hr => first | (go_simp; done) | (go_simp; rfl))
    intro gb277 hg w8 hbox hb
    (have n0_ := qD BK274 hb); (have n1_ := qD BK275 hb); (have n2_ := Aside0.mk (below_step (qS2 HB GE274 GE275) hb)); (have n3_ := Aside0.mk (hbox)); (have n4_ := qG hg (below_size (qS2 HB GE274 GE275))); (have n5_ := qG hg (below_size (qS2 HB GE274 GE275))); (have n6_ := qN hg (blk_lt (qB BK274))); (have n7_ := qM hg (blk_lt (qB BK274))); (have n8_ := qN hg (blk_lt (qB BK275))); (have n9_ := qM hg (blk_lt (qB BK275))); clear BK274 BK275 HB; (have BK274 := n0_); (have BK275 := n1_); (have HB := n2_); (have BK277 := n3_); (have GW277 := n4_); (have GE277 := n5_); (have NB274_277 := n6_); (have NB277_274 := n7_); (have NB275_277 := n8_); (have NB277_275 := n9_); clear n0_ n1_ n2_ n3_ n4_ n5_ n6_ n7_ n8_ n9_ hb hbox hg
    refine hK.out _ _ ⟨(blk_cell BK274.out 0).trans rfl, (blk_cell BK274.out 1).trans rfl, (blk_cell BK274.out 2).trans rfl, (blk_cell BK274.out 3).trans rfl, (blk_cell BK274.out 4).trans rfl, (blk_cell BK274.out 5).trans rfl, (blk_cell BK274.out 6).trans rfl⟩ (fun hHeld => ?_)
    clear hK K
    refine norm_ (a' := ?_) ?_ ?_
    rotate_left
    ·show Act.put _ (some 3) _ = _
     simp only [Act.put, List.setIfInBounds_toArray, List.set_cons_zero, List.set_cons_succ, i64_w, i32_w]
     rfl
    exact norm_ (by simp only [putAll, Act.put, List.setIfInBounds_toArray, List.set_cons_zero, List.set_cons_succ]) (hCont (gb277) _ ⟨hHeld, (qB BK274), (qB BK275), (qB BK277), GW277.out, GE277.out, NB274_277.out, NB277_274.out, NB275_277.out, NB277_275.out, (qS3 HB GE274 GE275 GE277)⟩)
   ·skip
    refine box_step ?hg (N := 3) ?hd (cs := #[.string (⟨#[]⟩ : ByteArray), .int .i64 0]) (t := 118) ?hr ?_; (case hd => rfl); (case hg => rfl); (case hr => first | (go_simp; done) | (go_simp; rfl))
    intro gb277 hg w7 hbox hb
    (have n0_ := qD BK274 hb); (have n1_ := qD BK275 hb); (have n2_ := Aside0.mk (below_step (qS2 HB GE274 GE275) hb)); (have n3_ := Aside0.mk (hbox)); (have n4_ := qG hg (below_size (qS2 HB GE274 GE275))); (have n5_ := qG hg (below_size (qS2 HB GE274 GE275))); (have n6_ := qN hg (blk_lt (qB BK274))); (have n7_ := qM hg (blk_lt (qB BK274))); (have n8_ := qN hg (blk_lt (qB BK275))); (have n9_ := qM hg (blk_lt (qB BK275))); clear BK274 BK275 HB; (have BK274 := n0_); (have BK275 := n1_); (have HB := n2_); (have BK277 := n3_); (have GW277 := n4_); (have GE277 := n5_); (have NB274_277 := n6_); (have NB277_274 := n7_); (have NB275_277 := n8_); (have NB277_275 := n9_); clear n0_ n1_ n2_ n3_ n4_ n5_ n6_ n7_ n8_ n9_ hb hbox hg
    refine hK.out _ _ ⟨(blk_cell BK274.out 0).trans rfl, (blk_cell BK274.out 1).trans rfl, (blk_cell BK274.out 2).trans rfl, (blk_cell BK274.out 3).trans rfl, (blk_cell BK274.out 4).trans rfl, (blk_cell BK274.out 5).trans rfl, (blk_cell BK274.out 6).trans rfl⟩ (fun hHeld => ?_)
    clear hK K
    refine norm_ (a' := ?_) ?_ ?_
    rotate_left
    ·show Act.put _ (some 3) _ = _
     simp only [Act.put, List.setIfInBounds_toArray, List.set_cons_zero, List.set_cons_succ, i64_w, i32_w]
     rfl
    refine one_ (i := 2) (N := some 6) #[true, true, true, true, true, false, true, false] rfl rfl (one_of HT_.out (by kernel_rfl)) (by decide) (fun K hK => ?_)
    refine goes_ Tryd.func129 (by kernel_rfl) rfl #[.string a0_1] (by rfl) rfl rfl qL ?_
    with_reducible refine (impl_Fold.calls k a0_1 t276 _ A2.out (G_below (qS0 HB) hG)).mono ?_
    rintro e w8 ⟨rfl, hb⟩
    refine ⟨_, rfl, ?_⟩
    (have n0_ := qD BK274 hb); (have n1_ := qD BK275 hb); (have n2_ := qD BK277 hb); (have n3_ := Aside0.mk (below_step (qS3 HB GE274 GE275 GE277) hb)); clear BK274 BK275 BK277 HB; (have BK274 := n0_); (have BK275 := n1_); (have BK277 := n2_); (have HB := n3_); clear n0_ n1_ n2_ n3_; (try clear hb); (try clear hb2); (try clear hk); (try clear hi)
    refine hK.out _ _ ⟨(blk_cell BK274.out 0).trans rfl, (blk_cell BK274.out 1).trans rfl, (blk_cell BK274.out 2).trans rfl, (blk_cell BK274.out 3).trans rfl, (blk_cell BK274.out 4).trans rfl, (blk_cell BK274.out 5).trans rfl, (blk_cell BK274.out 6).trans rfl⟩ (fun hHeld => ?_)
    clear hK K
    refine norm_ (a' := ?_) ?_ ?_
    rotate_left
    ·show Act.put _ (some 6) _ = _
     simp only [Act.put, List.setIfInBounds_toArray, List.set_cons_zero, List.set_cons_succ, i64_w, i32_w]
     rfl
    refine pure_ (i := 5) (N := some 9) (v := ?_) (a' := ?_) #[true, true, true, true, true, true, true, false] rfl rfl (any_of HT_.out (by kernel_rfl)) (fun _ _ _ h => h) (Or.inl ⟨by rfl, ?_⟩) ?_ ?_
    rotate_left
    ·intro w'
     go_simp
     with_reducible rfl
    rotate_left
    ·simp only [Act.put, List.setIfInBounds_toArray, List.set_cons_zero, List.set_cons_succ, i64_w, i32_w]
     rfl
    exact norm_ (by simp only [putAll, Act.put, List.setIfInBounds_toArray, List.set_cons_zero, List.set_cons_succ]) (hCont (gb277) _ ⟨hHeld, (qB BK274), (qB BK275), (qB BK277), GW277.out, GE277.out, NB274_277.out, NB277_274.out, NB275_277.out, NB277_275.out, (qS3 HB GE274 GE275 GE277)⟩)
  rintro gb277 w9 ⟨hS_, h0_, h1_, h2_, h3_, h4_, h5_, h6_, h7_, h8_, h9_⟩
  (have n0_ : Aside0 (w9.heap[gb274]? = some (.cells #[.int .i64 a0_0, .string a0_1, .int .i64 a0_2, .int .i64 a0_3, .int .i64 a0_4, .int .i64 a0_5, .string a0_6] 32 (0, 0))) := ⟨h0_⟩); (have n1_ : Aside0 (w9.heap[gb275]? = some (.cells #[.string (⟨#[]⟩ : ByteArray), .int .i64 0] 118 (0, 0))) := ⟨h1_⟩); (have n2_ : Aside0 (w9.heap[gb277]? = some (.cells #[.string (⟨#[]⟩ : ByteArray), .int .i64 0] 118 (0, 0))) := ⟨h2_⟩); (have n3_ : Aside0 (w.heap.size ≤ gb277) := ⟨h3_⟩); (have n4_ : Aside0 (w.heap.size ≤ gb277) := ⟨h4_⟩); (have n5_ : Aside0 (gb274 ≠ gb277) := ⟨h5_⟩); (have n6_ : Aside0 (gb277 ≠ gb274) := ⟨h6_⟩); (have n7_ : Aside0 (gb275 ≠ gb277) := ⟨h7_⟩); (have n8_ : Aside0 (gb277 ≠ gb275) := ⟨h8_⟩); (have n9_ : Aside0 (Below w.heap.size w w9) := ⟨h9_⟩); clear BK274 BK275 HB h0_ h1_ h2_ h3_ h4_ h5_ h6_ h7_ h8_ h9_; (have BK274 := n0_); (have BK275 := n1_); (have BK277 := n2_); (have GW277 := n3_); (have GE277 := n4_); (have NB274_277 := n5_); (have NB277_274 := n6_); (have NB275_277 := n7_); (have NB277_275 := n8_); (have HB := n9_); clear n0_ n1_ n2_ n3_ n4_ n5_ n6_ n7_ n8_ n9_; (have hHeld : w9.cell? ⟨gb274, 0, none⟩ = some (.int .i64 a0_0) ∧ w9.cell? ⟨gb274, 1, none⟩ = some (.string a0_1) ∧ w9.cell? ⟨gb274, 2, none⟩ = some (.int .i64 a0_2) ∧ w9.cell? ⟨gb274, 3, none⟩ = some (.int .i64 a0_3) ∧ w9.cell? ⟨gb274, 4, none⟩ = some (.int .i64 a0_4) ∧ w9.cell? ⟨gb274, 5, none⟩ = some (.int .i64 a0_5) ∧ w9.cell? ⟨gb274, 6, none⟩ = some (.string a0_6) := hS_)
  refine norm_ (a' := ?_) ?_ ?_
  rotate_left
  ·simp only [putAll, Act.put, List.setIfInBounds_toArray, List.set_cons_zero, List.set_cons_succ]
   rfl
  refine one_ (i := 7) (N := none) #[true, true, true, true, true, true, true, true] rfl rfl (one_of HT_.out (by kernel_rfl)) (by decide) (fun K hK => ?_)
  (have hs10 : w9.cell? ⟨gb277, 0, none⟩ = some (.string (⟨#[]⟩ : ByteArray)) := (blk_cell BK277.out 0).trans rfl); (have hfs10 := blk_frozen BK277.out 0); (have hns10_0 := NB274_277.out); (have hns10_1 := NB275_277.out); (have hms10_0 := NB277_274.out); (have hms10_1 := NB277_275.out); (have hs11 : w9.cell? ⟨gb277, 1, none⟩ = some (.int .i64 0) := (blk_cell BK277.out 1).trans rfl); (have hfs11 := blk_frozen BK277.out 1); (have hns11_0 := NB274_277.out); (have hns11_1 := NB275_277.out); (have hms11_0 := NB277_274.out); (have hms11_1 := NB277_275.out)
  refine skip_ (w1 := ?_) (by rfl) rfl ?_ ?_
  rotate_left
  ·go_simp
   rfl
  refine hK.out _ _ ⟨((cell_far (p := ⟨gb277, _, none⟩) NB274_277.out _).trans (((cell_far (p := ⟨gb277, _, none⟩) NB274_277.out _).trans (hHeld.1)))), ((cell_far (p := ⟨gb277, _, none⟩) NB274_277.out _).trans (((cell_far (p := ⟨gb277, _, none⟩) NB274_277.out _).trans (hHeld.2.1)))), ((cell_far (p := ⟨gb277, _, none⟩) NB274_277.out _).trans (((cell_far (p := ⟨gb277, _, none⟩) NB274_277.out _).trans (hHeld.2.2.1)))), ((cell_far (p := ⟨gb277, _, none⟩) NB274_277.out _).trans (((cell_far (p := ⟨gb277, _, none⟩) NB274_277.out _).trans (hHeld.2.2.2.1)))), ((cell_far (p := ⟨gb277, _, none⟩) NB274_277.out _).trans (((cell_far (p := ⟨gb277, _, none⟩) NB274_277.out _).trans (hHeld.2.2.2.2.1)))), ((cell_far (p := ⟨gb277, _, none⟩) NB274_277.out _).trans (((cell_far (p := ⟨gb277, _, none⟩) NB274_277.out _).trans (hHeld.2.2.2.2.2.1)))), ((cell_far (p := ⟨gb277, _, none⟩) NB274_277.out _).trans (((cell_far (p := ⟨gb277, _, none⟩) NB274_277.out _).trans (hHeld.2.2.2.2.2.2))))⟩ (fun hHeld => ?_)
  clear hK K
  refine done_ (done_of HT_.out (by kernel_rfl)) ?_
  (have hnb12 := NB274_275.out); (have hnc12 := NB275_274.out); (have hnb13 := NB274_277.out); (have hnc13 := NB277_274.out); (obtain ⟨hcz14_0, hcz14_1, hcz14_2, hcz14_3, hcz14_4, hcz14_5, hcz14_6, hfz14_0, hfz14_1, hfz14_2, hfz14_3, hfz14_4, hfz14_5, hfz14_6⟩ := qC7 BK274); (have hnb15 := NB277_275.out); (have hnc15 := NB275_277.out); (obtain ⟨hcz16_0, hcz16_1, hfz16_0, hfz16_1⟩ := qC2 BK277); (obtain ⟨hcz17_0, hcz17_1, hfz17_0, hfz17_1⟩ := qC2 BK275); (have hd1_ : ((w9.setCell ⟨gb277, 0, none⟩ (.string t276)).setCell ⟨gb277, 1, none⟩ (.int .i64 a0_2)).cell? ⟨gb277, 1, none⟩ = some (.int .i64 a0_2) := (blk_cell (blk_set (blk_set BK277.out 0 (.string t276)) 1 (.int .i64 a0_2)) 1).trans rfl); (have hd2_ : (((w9.setCell ⟨gb277, 0, none⟩ (.string t276)).setCell ⟨gb277, 1, none⟩ (.int .i64 a0_2)).setCell ⟨gb277, 1, none⟩ (.int .i64 0)).cell? ⟨gb277, 1, none⟩ = some (.int .i64 0) := (blk_cell (blk_set (blk_set (blk_set BK277.out 0 (.string t276)) 1 (.int .i64 a0_2)) 1 (.int .i64 0)) 1).trans rfl)
  try go_wp2
  refine bodyPost_ret (results_cell_row rfl _ _ gb275 118 #[.string t276, .int .i64 0] (0, 0) _ rfl (by (with_reducible repeat (first | refine blk_drewN ?_ _ | refine blk_drew ?_ | refine blk_alloc ?_ _)); refine blk_put (cs := #[.string t276, .int .i64 0]) ?_ 1 _ rfl; (with_reducible repeat (first | refine blk_drewN ?_ _ | refine blk_drew ?_ | refine blk_alloc ?_ _)); refine blk_put (cs := #[.string (⟨#[]⟩ : ByteArray), .int .i64 0]) ?_ 0 _ rfl; (with_reducible repeat (first | refine blk_drewN ?_ _ | refine blk_drew ?_ | refine blk_alloc ?_ _)); refine blk_far ?_ NB275_277.out _; (with_reducible repeat (first | refine blk_drewN ?_ _ | refine blk_drew ?_ | refine blk_alloc ?_ _)); refine blk_far ?_ NB275_277.out _; (with_reducible repeat (first | refine blk_drewN ?_ _ | refine blk_drew ?_ | refine blk_alloc ?_ _)); refine blk_far ?_ NB275_277.out _; (with_reducible repeat (first | refine blk_drewN ?_ _ | refine blk_drew ?_ | refine blk_alloc ?_ _)); exact BK275.out) Tryd.underlying118 rfl (by kernel_rfl)) rfl ?_
  exact ⟨qE, qS3 HB GE274 GE275 GE277⟩
 ·rw [if_neg c3] at H
  (have c3b0 : (a0_0 == 4) = false := beq_eq_false_iff_ne.mpr c3); (have c3b1 : (a0_0 != 4) = true := bne_iff_ne.mpr c3); (simp only [Option.some.injEq, Prod.mk.injEq] at H); (obtain ⟨rfl, rfl⟩ := H)
  go_enter Tryd.func104, Tryd.ntmps104
  try go_wp2_with (first | ((with_reducible refine gate_dst (N := 1) rfl ?_); refine box_event ?hg (N := 1) ?hd (cs := #[.int .i64 a0_0, .string a0_1, .int .i64 a0_2, .int .i64 a0_3, .int .i64 a0_4, .int .i64 a0_5, .string a0_6]) (t := 32) ?hr ?_; (case hd => rfl); (case hg => rfl); (case hr => first | (go_simp; done) | (go_simp; rfl)); intro gb274 hg w18 hbox hb; have n0_ := Aside0.mk (below_step (qS0 HB) hb); have n1_ := Aside0.mk (hbox); have n2_ := qG hg (below_size (qS0 HB)); have n3_ := qG hg (below_size (qS0 HB)); clear HB; have HB := n0_; have BK274 := n1_; have GW274 := n2_; have GE274 := n3_; clear n0_ n1_ n2_ n3_; clear hb hbox hg) | ((with_reducible refine gate_dst (N := 2) rfl ?_); refine box_event ?hg (N := 2) ?hd (cs := #[.string (⟨#[]⟩ : ByteArray), .int .i64 0]) (t := 118) ?hr ?_; (case hd => rfl); (case hg => rfl); (case hr => first | (go_simp; done) | (go_simp; rfl)); intro gb275 hg w19 hbox hb; have n0_ := qD BK274 hb; have n1_ := Aside0.mk (below_step (qS1 HB GE274) hb); have n2_ := Aside0.mk (hbox); have n3_ := qG hg (below_size (qS1 HB GE274)); have n4_ := qG hg (below_size (qS1 HB GE274)); have n5_ := qN hg (blk_lt (qB BK274)); have n6_ := qM hg (blk_lt (qB BK274)); clear BK274 HB; have BK274 := n0_; have HB := n1_; have BK275 := n2_; have GW275 := n3_; have GE275 := n4_; have NB274_275 := n5_; have NB275_274 := n6_; clear n0_ n1_ n2_ n3_ n4_ n5_ n6_; clear hb hbox hg))
  (have n0_ := Aside0.mk (blk_drew BK274.out)); (have n1_ := Aside0.mk (blk_drew BK275.out)); (have n2_ := Aside0.mk (below_drew1 HB.out)); clear BK274 BK275 HB; (have BK274 := n0_); (have BK275 := n1_); (have HB := n2_); clear n0_ n1_ n2_
  refine start_ (n := 8) (S := fun w' => w'.cell? ⟨gb274, 0, none⟩ = some (.int .i64 a0_0) ∧ w'.cell? ⟨gb274, 1, none⟩ = some (.string a0_1) ∧ w'.cell? ⟨gb274, 2, none⟩ = some (.int .i64 a0_2) ∧ w'.cell? ⟨gb274, 3, none⟩ = some (.int .i64 a0_3) ∧ w'.cell? ⟨gb274, 4, none⟩ = some (.int .i64 a0_4) ∧ w'.cell? ⟨gb274, 5, none⟩ = some (.int .i64 a0_5) ∧ w'.cell? ⟨gb274, 6, none⟩ = some (.string a0_6)) (ds := []) #[false, false, false, false, false, false, false, false] (by kernel_rfl) rfl rfl ⟨(blk_cell BK274.out 0).trans rfl, (blk_cell BK274.out 1).trans rfl, (blk_cell BK274.out 2).trans rfl, (blk_cell BK274.out 3).trans rfl, (blk_cell BK274.out 4).trans rfl, (blk_cell BK274.out 5).trans rfl, (blk_cell BK274.out 6).trans rfl⟩ (fun hHeld => ?_); refine with_tabW impl_changeOf.tab1 impl_changeOf.bits1 (fun HT_ HW_ => ?_)
  generalize w19.drew = w20 at BK274 BK275 HB hHeld ⊢
  refine pure_ (i := 0) (N := some 4) (v := ?_) (a' := ?_) #[true, false, false, false, false, false, false, false] rfl rfl (any_of HT_.out (by kernel_rfl)) (fun _ _ _ h => h) (Or.inl ⟨by rfl, ?_⟩) ?_ ?_
  rotate_left
  ·intro w'
   go_simp
   with_reducible rfl
  rotate_left
  ·simp only [Act.put, List.setIfInBounds_toArray, List.set_cons_zero, List.set_cons_succ, i64_w, i32_w]
   rfl
  refine pure_ (i := 3) (N := some 7) (v := ?_) (a' := ?_) #[true, false, false, true, false, false, false, false] rfl rfl (any_of HT_.out (by kernel_rfl)) (fun _ _ _ h => h) (Or.inl ⟨by rfl, ?_⟩) ?_ ?_
  rotate_left
  ·intro w'
   go_simp
   with_reducible rfl
  rotate_left
  ·simp only [Act.put, List.setIfInBounds_toArray, List.set_cons_zero, List.set_cons_succ, i64_w, i32_w]
   rfl
  refine take_ (i := 1) (N := some 5) (v := ?_) (a' := ?_) #[true, true, false, true, false, false, false, false] rfl rfl (take_ofW HT_.out HW_.out (by kernel_rfl)) (fun _ _ _ h => h) (Or.inl ⟨by rfl, ?_⟩) hHeld ?_ ?_
  rotate_left
  ·rintro w' ⟨s0, s1, s2, s3, s4, s5, s6⟩
   go_simp
   with_reducible rfl
  rotate_left
  ·simp only [Act.put, List.setIfInBounds_toArray, List.set_cons_zero, List.set_cons_succ, i64_w, i32_w]
   rfl
  refine take_ (i := 4) (N := some 8) (v := ?_) (a' := ?_) #[true, true, false, true, true, false, false, false] rfl rfl (take_ofW HT_.out HW_.out (by kernel_rfl)) (fun _ _ _ h => h) (Or.inl ⟨by rfl, ?_⟩) hHeld ?_ ?_
  rotate_left
  ·rintro w' ⟨s0, s1, s2, s3, s4, s5, s6⟩
   go_simp
   with_reducible rfl
  rotate_left
  ·simp only [Act.put, List.setIfInBounds_toArray, List.set_cons_zero, List.set_cons_succ, i64_w, i32_w]
   rfl
  refine join_ (σ := Nat) 1 #[true, true, true, true, true, true, true, false] (fun s_ => [(6, .string t276), (3, .pointer (some ⟨s_, 0, none⟩)), (9, .agg #[.string t276, .int .i64 a0_2])]) (fun s_ w' => (w'.cell? ⟨gb274, 0, none⟩ = some (.int .i64 a0_0) ∧ w'.cell? ⟨gb274, 1, none⟩ = some (.string a0_1) ∧ w'.cell? ⟨gb274, 2, none⟩ = some (.int .i64 a0_2) ∧ w'.cell? ⟨gb274, 3, none⟩ = some (.int .i64 a0_3) ∧ w'.cell? ⟨gb274, 4, none⟩ = some (.int .i64 a0_4) ∧ w'.cell? ⟨gb274, 5, none⟩ = some (.int .i64 a0_5) ∧ w'.cell? ⟨gb274, 6, none⟩ = some (.string a0_6)) ∧ (w'.heap[gb274]? = some (.cells #[.int .i64 a0_0, .string a0_1, .int .i64 a0_2, .int .i64 a0_3, .int .i64 a0_4, .int .i64 a0_5, .string a0_6] 32 (0, 0))) ∧ (w'.heap[gb275]? = some (.cells #[.string (⟨#[]⟩ : ByteArray), .int .i64 0] 118 (0, 0))) ∧ (w'.heap[s_]? = some (.cells #[.string (⟨#[]⟩ : ByteArray), .int .i64 0] 118 (0, 0))) ∧ (w.heap.size ≤ s_) ∧ (w.heap.size ≤ s_) ∧ (gb274 ≠ s_) ∧ (s_ ≠ gb274) ∧ (gb275 ≠ s_) ∧ (s_ ≠ gb275) ∧ (Below w.heap.size w w')) ?_ ?_
  rotate_left
  ·intro hCont
   refine two_ (i := 2) (j := 6) (Ni := some 6) (Nj := some 3) #[true, true, true, true, true, false, false, false] #[true, true, false, true, true, false, true, false] rfl rfl rfl rfl (two_of HT_.out (by kernel_rfl)) (by decide) (by decide) (fun K hK => ?_) (fun K hK => ?_)
   ·skip
    refine goes_ Tryd.func129 (by kernel_rfl) rfl #[.string a0_1] (by rfl) rfl rfl qL ?_
    with_reducible refine (impl_Fold.calls k a0_1 t276 _ A2.out (G_below (qS0 HB) hG)).mono ?_
    rintro e w21 ⟨rfl, hb⟩
    refine ⟨_, rfl, ?_⟩
    (have n0_ := qD BK274 hb); (have n1_ := qD BK275 hb); (have n2_ := Aside0.mk (below_step (qS2 HB GE274 GE275) hb)); clear BK274 BK275 HB; (have BK274 := n0_); (have BK275 := n1_); (have HB := n2_); clear n0_ n1_ n2_; (try clear hb); (try clear hb2); (try clear hk); (try clear hi)
    refine hK.out _ _ ⟨(blk_cell BK274.out 0).trans rfl, (blk_cell BK274.out 1).trans rfl, (blk_cell BK274.out 2).trans rfl, (blk_cell BK274.out 3).trans rfl, (blk_cell BK274.out 4).trans rfl, (blk_cell BK274.out 5).trans rfl, (blk_cell BK274.out 6).trans rfl⟩ (fun hHeld => ?_)
    clear hK K
    refine norm_ (a' := ?_) ?_ ?_
    rotate_left
    ·show Act.put _ (some 6) _ = _
     simp only [Act.put, List.setIfInBounds_toArray, List.set_cons_zero, List.set_cons_succ, i64_w, i32_w]
     rfl
    refine pure_ (i := 5) (N := some 9) (v := ?_) (a' := ?_) #[true, true, true, true, true, true, false, false] rfl rfl (any_of HT_.out (by kernel_rfl)) (fun _ _ _ h => h) (Or.inl ⟨by rfl, ?_⟩) ?_ ?_
    rotate_left
    ·intro w'
     go_simp
     with_reducible rfl
    rotate_left
    ·simp only [Act.put, List.setIfInBounds_toArray, List.set_cons_zero, List.set_cons_succ, i64_w, i32_w]
     rfl
    refine one_ (i := 6) (N := some 3) #[true, true, true, true, true, true, true, false] rfl rfl (one_of HT_.out (by kernel_rfl)) (by decide) (fun K hK => ?_)
    refine box_step ?hg (N := 3) ?hd (cs := #[.string (⟨#[]⟩ : ByteArray), .int .i64 0]) (t := 118) ?hr ?_; (case hd => rfl); (case hg => rfl); (case hr => first | (go_simp; done) | (go_simp; rfl))
    intro gb277 hg w22 hbox hb
    (have n0_ := qD BK274 hb); (have n1_ := qD BK275 hb); (have n2_ := Aside0.mk (below_step (qS2 HB GE274 GE275) hb)); (have n3_ := Aside0.mk (hbox)); (have n4_ := qG hg (below_size (qS2 HB GE274 GE275))); (have n5_ := qG hg (below_size (qS2 HB GE274 GE275))); (have n6_ := qN hg (blk_lt (qB BK274))); (have n7_ := qM hg (blk_lt (qB BK274))); (have n8_ := qN hg (blk_lt (qB BK275))); (have n9_ := qM hg (blk_lt (qB BK275))); clear BK274 BK275 HB; (have BK274 := n0_); (have BK275 := n1_); (have HB := n2_); (have BK277 := n3_); (have GW277 := n4_); (have GE277 := n5_); (have NB274_277 := n6_); (have NB277_274 := n7_); (have NB275_277 := n8_); (have NB277_275 := n9_); clear n0_ n1_ n2_ n3_ n4_ n5_ n6_ n7_ n8_ n9_ hb hbox hg
    refine hK.out _ _ ⟨(blk_cell BK274.out 0).trans rfl, (blk_cell BK274.out 1).trans rfl, (blk_cell BK274.out 2).trans rfl, (blk_cell BK274.out 3).trans rfl, (blk_cell BK274.out 4).trans rfl, (blk_cell BK274.out 5).trans rfl, (blk_cell BK274.out 6).trans rfl⟩ (fun hHeld => ?_)
    clear hK K
    refine norm_ (a' := ?_) ?_ ?_
    rotate_left
    ·show Act.put _ (some 3) _ = _
     simp only [Act.put, List.setIfInBounds_toArray, List.set_cons_zero, List.set_cons_succ, i64_w, i32_w]
     rfl
    exact norm_ (by simp only [putAll, Act.put, List.setIfInBounds_toArray, List.set_cons_zero, List.set_cons_succ]) (hCont (gb277) _ ⟨hHeld, (qB BK274), (qB BK275), (qB BK277), GW277.out, GE277.out, NB274_277.out, NB277_274.out, NB275_277.out, NB277_275.out, (qS3 HB GE274 GE275 GE277)⟩)
   ·skip
    refine box_step ?hg (N := 3) ?hd (cs := #[.string (⟨#[]⟩ : ByteArray), .int .i64 0]) (t := 118) ?hr ?_; (case hd => rfl); (case hg => rfl); (case hr => first | (go_simp; done) | (go_simp; rfl))
    intro gb277 hg w21 hbox hb
    (have n0_ := qD BK274 hb); (have n1_ := qD BK275 hb); (have n2_ := Aside0.mk (below_step (qS2 HB GE274 GE275) hb)); (have n3_ := Aside0.mk (hbox)); (have n4_ := qG hg (below_size (qS2 HB GE274 GE275))); (have n5_ := qG hg (below_size (qS2 HB GE274 GE275))); (have n6_ := qN hg (blk_lt (qB BK274))); (have n7_ := qM hg (blk_lt (qB BK274))); (have n8_ := qN hg (blk_lt (qB BK275))); (have n9_ := qM hg (blk_lt (qB BK275))); clear BK274 BK275 HB; (have BK274 := n0_); (have BK275 := n1_); (have HB := n2_); (have BK277 := n3_); (have GW277 := n4_); (have GE277 := n5_); (have NB274_277 := n6_); (have NB277_274 := n7_); (have NB275_277 := n8_); (have NB277_275 := n9_); clear n0_ n1_ n2_ n3_ n4_ n5_ n6_ n7_ n8_ n9_ hb hbox hg
    refine hK.out _ _ ⟨(blk_cell BK274.out 0).trans rfl, (blk_cell BK274.out 1).trans rfl, (blk_cell BK274.out 2).trans rfl, (blk_cell BK274.out 3).trans rfl, (blk_cell BK274.out 4).trans rfl, (blk_cell BK274.out 5).trans rfl, (blk_cell BK274.out 6).trans rfl⟩ (fun hHeld => ?_)
    clear hK K
    refine norm_ (a' := ?_) ?_ ?_
    rotate_left
    ·show Act.put _ (some 3) _ = _
     simp only [Act.put, List.setIfInBounds_toArray, List.set_cons_zero, List.set_cons_succ, i64_w, i32_w]
     rfl
    refine one_ (i := 2) (N := some 6) #[true, true, true, true, true, false, true, false] rfl rfl (one_of HT_.out (by kernel_rfl)) (by decide) (fun K hK => ?_)
    refine goes_ Tryd.func129 (by kernel_rfl) rfl #[.string a0_1] (by rfl) rfl rfl qL ?_
    with_reducible refine (impl_Fold.calls k a0_1 t276 _ A2.out (G_below (qS0 HB) hG)).mono ?_
    rintro e w22 ⟨rfl, hb⟩
    refine ⟨_, rfl, ?_⟩
    (have n0_ := qD BK274 hb); (have n1_ := qD BK275 hb); (have n2_ := qD BK277 hb); (have n3_ := Aside0.mk (below_step (qS3 HB GE274 GE275 GE277) hb)); clear BK274 BK275 BK277 HB; (have BK274 := n0_); (have BK275 := n1_); (have BK277 := n2_); (have HB := n3_); clear n0_ n1_ n2_ n3_; (try clear hb); (try clear hb2); (try clear hk); (try clear hi)
    refine hK.out _ _ ⟨(blk_cell BK274.out 0).trans rfl, (blk_cell BK274.out 1).trans rfl, (blk_cell BK274.out 2).trans rfl, (blk_cell BK274.out 3).trans rfl, (blk_cell BK274.out 4).trans rfl, (blk_cell BK274.out 5).trans rfl, (blk_cell BK274.out 6).trans rfl⟩ (fun hHeld => ?_)
    clear hK K
    refine norm_ (a' := ?_) ?_ ?_
    rotate_left
    ·show Act.put _ (some 6) _ = _
     simp only [Act.put, List.setIfInBounds_toArray, List.set_cons_zero, List.set_cons_succ, i64_w, i32_w]
     rfl
    refine pure_ (i := 5) (N := some 9) (v := ?_) (a' := ?_) #[true, true, true, true, true, true, true, false] rfl rfl (any_of HT_.out (by kernel_rfl)) (fun _ _ _ h => h) (Or.inl ⟨by rfl, ?_⟩) ?_ ?_
    rotate_left
    ·intro w'
     go_simp
     with_reducible rfl
    rotate_left
    ·simp only [Act.put, List.setIfInBounds_toArray, List.set_cons_zero, List.set_cons_succ, i64_w, i32_w]
     rfl
    exact norm_ (by simp only [putAll, Act.put, List.setIfInBounds_toArray, List.set_cons_zero, List.set_cons_succ]) (hCont (gb277) _ ⟨hHeld, (qB BK274), (qB BK275), (qB BK277), GW277.out, GE277.out, NB274_277.out, NB277_274.out, NB275_277.out, NB277_275.out, (qS3 HB GE274 GE275 GE277)⟩)
  rintro gb277 w23 ⟨hS_, h0_, h1_, h2_, h3_, h4_, h5_, h6_, h7_, h8_, h9_⟩
  (have n0_ : Aside0 (w23.heap[gb274]? = some (.cells #[.int .i64 a0_0, .string a0_1, .int .i64 a0_2, .int .i64 a0_3, .int .i64 a0_4, .int .i64 a0_5, .string a0_6] 32 (0, 0))) := ⟨h0_⟩); (have n1_ : Aside0 (w23.heap[gb275]? = some (.cells #[.string (⟨#[]⟩ : ByteArray), .int .i64 0] 118 (0, 0))) := ⟨h1_⟩); (have n2_ : Aside0 (w23.heap[gb277]? = some (.cells #[.string (⟨#[]⟩ : ByteArray), .int .i64 0] 118 (0, 0))) := ⟨h2_⟩); (have n3_ : Aside0 (w.heap.size ≤ gb277) := ⟨h3_⟩); (have n4_ : Aside0 (w.heap.size ≤ gb277) := ⟨h4_⟩); (have n5_ : Aside0 (gb274 ≠ gb277) := ⟨h5_⟩); (have n6_ : Aside0 (gb277 ≠ gb274) := ⟨h6_⟩); (have n7_ : Aside0 (gb275 ≠ gb277) := ⟨h7_⟩); (have n8_ : Aside0 (gb277 ≠ gb275) := ⟨h8_⟩); (have n9_ : Aside0 (Below w.heap.size w w23) := ⟨h9_⟩); clear BK274 BK275 HB h0_ h1_ h2_ h3_ h4_ h5_ h6_ h7_ h8_ h9_; (have BK274 := n0_); (have BK275 := n1_); (have BK277 := n2_); (have GW277 := n3_); (have GE277 := n4_); (have NB274_277 := n5_); (have NB277_274 := n6_); (have NB275_277 := n7_); (have NB277_275 := n8_); (have HB := n9_); clear n0_ n1_ n2_ n3_ n4_ n5_ n6_ n7_ n8_ n9_; (have hHeld : w23.cell? ⟨gb274, 0, none⟩ = some (.int .i64 a0_0) ∧ w23.cell? ⟨gb274, 1, none⟩ = some (.string a0_1) ∧ w23.cell? ⟨gb274, 2, none⟩ = some (.int .i64 a0_2) ∧ w23.cell? ⟨gb274, 3, none⟩ = some (.int .i64 a0_3) ∧ w23.cell? ⟨gb274, 4, none⟩ = some (.int .i64 a0_4) ∧ w23.cell? ⟨gb274, 5, none⟩ = some (.int .i64 a0_5) ∧ w23.cell? ⟨gb274, 6, none⟩ = some (.string a0_6) := hS_)
  refine norm_ (a' := ?_) ?_ ?_
  rotate_left
  ·simp only [putAll, Act.put, List.setIfInBounds_toArray, List.set_cons_zero, List.set_cons_succ]
   rfl
  refine one_ (i := 7) (N := none) #[true, true, true, true, true, true, true, true] rfl rfl (one_of HT_.out (by kernel_rfl)) (by decide) (fun K hK => ?_)
  (have hs24 : w23.cell? ⟨gb277, 0, none⟩ = some (.string (⟨#[]⟩ : ByteArray)) := (blk_cell BK277.out 0).trans rfl); (have hfs24 := blk_frozen BK277.out 0); (have hns24_0 := NB274_277.out); (have hns24_1 := NB275_277.out); (have hms24_0 := NB277_274.out); (have hms24_1 := NB277_275.out); (have hs25 : w23.cell? ⟨gb277, 1, none⟩ = some (.int .i64 0) := (blk_cell BK277.out 1).trans rfl); (have hfs25 := blk_frozen BK277.out 1); (have hns25_0 := NB274_277.out); (have hns25_1 := NB275_277.out); (have hms25_0 := NB277_274.out); (have hms25_1 := NB277_275.out)
  refine skip_ (w1 := ?_) (by rfl) rfl ?_ ?_
  rotate_left
  ·go_simp
   rfl
  refine hK.out _ _ ⟨((cell_far (p := ⟨gb277, _, none⟩) NB274_277.out _).trans (((cell_far (p := ⟨gb277, _, none⟩) NB274_277.out _).trans (hHeld.1)))), ((cell_far (p := ⟨gb277, _, none⟩) NB274_277.out _).trans (((cell_far (p := ⟨gb277, _, none⟩) NB274_277.out _).trans (hHeld.2.1)))), ((cell_far (p := ⟨gb277, _, none⟩) NB274_277.out _).trans (((cell_far (p := ⟨gb277, _, none⟩) NB274_277.out _).trans (hHeld.2.2.1)))), ((cell_far (p := ⟨gb277, _, none⟩) NB274_277.out _).trans (((cell_far (p := ⟨gb277, _, none⟩) NB274_277.out _).trans (hHeld.2.2.2.1)))), ((cell_far (p := ⟨gb277, _, none⟩) NB274_277.out _).trans (((cell_far (p := ⟨gb277, _, none⟩) NB274_277.out _).trans (hHeld.2.2.2.2.1)))), ((cell_far (p := ⟨gb277, _, none⟩) NB274_277.out _).trans (((cell_far (p := ⟨gb277, _, none⟩) NB274_277.out _).trans (hHeld.2.2.2.2.2.1)))), ((cell_far (p := ⟨gb277, _, none⟩) NB274_277.out _).trans (((cell_far (p := ⟨gb277, _, none⟩) NB274_277.out _).trans (hHeld.2.2.2.2.2.2))))⟩ (fun hHeld => ?_)
  clear hK K
  refine done_ (done_of HT_.out (by kernel_rfl)) ?_
  (have hnb26 := NB274_275.out); (have hnc26 := NB275_274.out); (have hnb27 := NB274_277.out); (have hnc27 := NB277_274.out); (obtain ⟨hcz28_0, hcz28_1, hcz28_2, hcz28_3, hcz28_4, hcz28_5, hcz28_6, hfz28_0, hfz28_1, hfz28_2, hfz28_3, hfz28_4, hfz28_5, hfz28_6⟩ := qC7 BK274); (have hnb29 := NB277_275.out); (have hnc29 := NB275_277.out); (obtain ⟨hcz30_0, hcz30_1, hfz30_0, hfz30_1⟩ := qC2 BK277); (obtain ⟨hcz31_0, hcz31_1, hfz31_0, hfz31_1⟩ := qC2 BK275)
  try go_wp2
  refine bodyPost_ret (results_cell_row rfl _ _ gb275 118 #[.string t276, .int .i64 a0_2] (0, 0) _ rfl (by (with_reducible repeat (first | refine blk_drewN ?_ _ | refine blk_drew ?_ | refine blk_alloc ?_ _)); refine blk_put (cs := #[.string t276, .int .i64 0]) ?_ 1 _ rfl; (with_reducible repeat (first | refine blk_drewN ?_ _ | refine blk_drew ?_ | refine blk_alloc ?_ _)); refine blk_put (cs := #[.string (⟨#[]⟩ : ByteArray), .int .i64 0]) ?_ 0 _ rfl; (with_reducible repeat (first | refine blk_drewN ?_ _ | refine blk_drew ?_ | refine blk_alloc ?_ _)); refine blk_far ?_ NB275_277.out _; (with_reducible repeat (first | refine blk_drewN ?_ _ | refine blk_drew ?_ | refine blk_alloc ?_ _)); refine blk_far ?_ NB275_277.out _; (with_reducible repeat (first | refine blk_drewN ?_ _ | refine blk_drew ?_ | refine blk_alloc ?_ _)); exact BK275.out) Tryd.underlying118 rfl (by kernel_rfl)) rfl ?_
  exact ⟨qE, qS3 HB GE274 GE275 GE277⟩
def impl_isEntry.f (k : Nat) (a0_0 : ByteArray) (a0_1 : Int) : Option (Bool) := (impl_isWord.f k a0_0).bind fun t279 => (if t279 = true then ((impl_within.f a0_1 0 65535).bind fun t280 => (some t280)) else (some false))
set_option maxHeartbeats 8000000 in
set_option maxRecDepth 100000 in
theorem impl_isEntry.calls (k : Nat) (a0_0 : ByteArray) (a0_1 : Int) (r : Bool) (w : World) (h : impl_isEntry.f k a0_0 a0_1 = some r) :
  Calls Tryd.prog 105 #[.agg #[.string a0_0, .int .i64 a0_1]] w fun e w' => e = .returned (.bool r) ∧ Below w.heap.size w w' := by
 (have hu118 := Tryd.underlying118); (have HB := Aside0.mk (Below.refl w.heap.size w)); (have H : ((impl_isWord.f k a0_0).bind fun t279 => (if t279 = true then ((impl_within.f a0_1 0 65535).bind fun t280 => (some t280)) else (some false))) = some r := h); clear h; (replace H := Option.bind_eq_some_iff.mp H); (obtain ⟨t279, A20, H⟩ := H)
 try dsimp only at H
 (have A2 := Aside0.mk A20); clear A20
 by_cases c3 : t279 = true
 ·subst c3
  (have H1 : ((impl_within.f a0_1 0 65535).bind fun t280 => (some t280)) = some r := by rw [if_pos rfl] at H; exact H); clear H; (have H := H1); clear H1; (replace H := Option.bind_eq_some_iff.mp H); (obtain ⟨t280, A40, H⟩ := H); (replace H : (some t280) = some r := H); (have A4 := Aside0.mk A40); clear A40; (obtain rfl := Option.some.inj H)
  go_enter Tryd.func105, Tryd.ntmps105
  go_wp2_with (first | ((with_reducible refine gate_dst (N := 1) rfl ?_); refine box_event ?hg (N := 1) ?hd (cs := #[.string a0_0, .int .i64 a0_1]) (t := 118) ?hr ?_; (case hd => rfl); (case hg => rfl); (case hr => first | (go_simp; done) | (go_simp; rfl)); intro gb278 hg w5 hbox hb; have n0_ := Aside0.mk (below_step (qS0 HB) hb); have n1_ := Aside0.mk (hbox); have n2_ := qG hg (below_size (qS0 HB)); have n3_ := qG hg (below_size (qS0 HB)); clear HB; have HB := n0_; have BK278 := n1_; have GW278 := n2_; have GE278 := n3_; clear n0_ n1_ n2_ n3_ hb hbox hg; obtain ⟨hcz6_0, hcz6_1, hfz6_0, hfz6_1⟩ := qC2 BK278) | ((with_reducible refine gate_callee (f := 70) rfl ?_); refine goesL_ (some 5) rfl rfl Tryd.func70 (by kernel_rfl) rfl #[.string a0_0] rfl qL ?_; (with_reducible refine (impl_isWord.calls k a0_0 true _ A2.out).mono ?_); rintro e w' ⟨rfl, ⟨nd, rfl⟩⟩; refine ⟨_, rfl, ?_⟩) | (go_at_call 69; (with_reducible refine (impl_within.calls a0_1 0 65535 t280 _ A4.out).mono ?_); rintro e w' ⟨rfl, ⟨nd, rfl⟩⟩))
  go_ret
  exact ⟨qE, qS1 HB GE278⟩
 ·replace c3 := Bool.eq_false_iff.mpr c3
  (subst c3); (have H1 : (some false) = some r := by rw [if_neg (show ¬ (false = true) by decide)] at H; exact H); clear H; (have H := H1); clear H1; (obtain rfl := Option.some.inj H)
  go_enter Tryd.func105, Tryd.ntmps105
  go_wp2_with (first | ((with_reducible refine gate_dst (N := 1) rfl ?_); refine box_event ?hg (N := 1) ?hd (cs := #[.string a0_0, .int .i64 a0_1]) (t := 118) ?hr ?_; (case hd => rfl); (case hg => rfl); (case hr => first | (go_simp; done) | (go_simp; rfl)); intro gb278 hg w7 hbox hb; have n0_ := Aside0.mk (below_step (qS0 HB) hb); have n1_ := Aside0.mk (hbox); have n2_ := qG hg (below_size (qS0 HB)); have n3_ := qG hg (below_size (qS0 HB)); clear HB; have HB := n0_; have BK278 := n1_; have GW278 := n2_; have GE278 := n3_; clear n0_ n1_ n2_ n3_ hb hbox hg; obtain ⟨hcz8_0, hcz8_1, hfz8_0, hfz8_1⟩ := qC2 BK278) | ((with_reducible refine gate_callee (f := 70) rfl ?_); refine goesL_ (some 5) rfl rfl Tryd.func70 (by kernel_rfl) rfl #[.string a0_0] rfl qL ?_; (with_reducible refine (impl_isWord.calls k a0_0 false _ A2.out).mono ?_); rintro e w' ⟨rfl, ⟨nd, rfl⟩⟩; refine ⟨_, rfl, ?_⟩))
  go_ret
  exact ⟨qE, qS1 HB GE278⟩
end Go.Proofs.YtbpffdhkeinmcaaDoor.QE
