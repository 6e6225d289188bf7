/- Part of the proof of the law FnExactSessLeaves: what it uses of the texts that this session and the kit's print wrote. -/
import Derived.Test.YtppopmajclmhjaaGreatDoorZFnExactSessLeavesx2
import Derived.Test.YtppopmajclmhjaaGreatDoorZFnExactSessLeavesx5
namespace Go.Proofs.YtppopmajclmhjaaGreatDoor.QB
open Go.RowKit Go.Proofs.YtppopmajclmhjaaGreatDoorW.PrintWords Go.Proofs.YtppopmajclmhjaaGreatDoorW.PrintLast Go.Proofs.YtppopmajclmhjaaGreatDoorW.PrintMore
attribute [local go_sem] max2_int min2_int max_two min_two max_three min_three max_four min_four
set_option linter.unusedVariables false
set_option linter.unusedSimpArgs false
def impl_areReqs_1.f (a0_0 : Int) (a0_1 : ByteArray) (a0_2 : Int) (a0_3 : Int) (a0_4 : Int) (a0_5 : Int) (a0_6 : ByteArray) : Option (Bool) := (impl_isReq.f a0_0 a0_1 a0_2 a0_3 a0_4 a0_5 a0_6).bind fun t360 => (some (!t360))
set_option maxHeartbeats 8000000 in
set_option maxRecDepth 100000 in
theorem impl_areReqs_1.calls (a0_0 : Int) (a0_1 : ByteArray) (a0_2 : Int) (a0_3 : Int) (a0_4 : Int) (a0_5 : Int) (a0_6 : ByteArray) (r : Bool) (w : World) (h : impl_areReqs_1.f a0_0 a0_1 a0_2 a0_3 a0_4 a0_5 a0_6 = some r) :
  Calls Tryz.prog 64 #[.agg #[.int .i64 a0_0, .string a0_1, .int .i64 a0_2, .int .i64 a0_3, .int .i64 a0_4, .int .i64 a0_5, .string a0_6]] w fun e w' => e = .returned (.bool r) ∧ Below w.heap.size w w' := by
 (have hu56 := Tryz.underlying56); (have HB := Aside0.mk (Below.refl w.heap.size w)); (have H : ((impl_isReq.f a0_0 a0_1 a0_2 a0_3 a0_4 a0_5 a0_6).bind fun t360 => (some (!t360))) = some r := h); clear h; (replace H := Option.bind_eq_some_iff.mp H); (obtain ⟨t360, A20, H⟩ := H); (replace H : (some (!t360)) = some r := H); (have A2 := Aside0.mk A20); clear A20; (obtain rfl := Option.some.inj H)
 go_enter Tryz.func64, Tryz.ntmps64
 go_wp2_with (first | ((with_reducible refine gate_dst (N := 1) rfl ?_); refine box_event ?hg (N := 1) ?hd (cs := #[.int .i64 a0_0, .string a0_1, .int .i64 a0_2, .int .i64 a0_3, .int .i64 a0_4, .int .i64 a0_5, .string a0_6]) (t := 56) ?hr ?_; (case hd => rfl); (case hg => rfl); (case hr => first | (go_simp; done) | (go_simp; rfl)); intro gb359 hg w3 hbox hb; have BK359 := Aside0.mk (hbox); have GW359 := qG hg (below_size (qS0 HB)); have GE359 := qG hg (below_size (qS0 HB)); replace HB := Aside0.mk (below_step (qS0 HB) hb); clear hb hbox hg; obtain ⟨hcz4_0, hcz4_1, hcz4_2, hcz4_3, hcz4_4, hcz4_5, hcz4_6, hfz4_0, hfz4_1, hfz4_2, hfz4_3, hfz4_4, hfz4_5, hfz4_6⟩ := qC7 BK359) | ((with_reducible refine gate_callee (f := 65) rfl ?_); refine goesL_ (some 4) rfl rfl Tryz.func65 (by kernel_rfl) rfl #[.agg #[.int .i64 a0_0, .string a0_1, .int .i64 a0_2, .int .i64 a0_3, .int .i64 a0_4, .int .i64 a0_5, .string a0_6]] rfl qL ?_; (with_reducible refine (impl_isReq.calls a0_0 a0_1 a0_2 a0_3 a0_4 a0_5 a0_6 t360 _ A2.out).mono ?_); rintro e w5 ⟨rfl, hb⟩; refine ⟨_, rfl, ?_⟩; replace BK359 := qD BK359 hb; replace HB := Aside0.mk (below_step (qS1 HB GE359) hb); (try clear hb); (try clear hb2); (try clear hk); (try clear hi)))
 go_ret
 exact ⟨qE, qS1 HB GE359⟩
set_option maxHeartbeats 8000000 in
set_option maxRecDepth 100000 in
theorem cont_56 (p : S56 → Option Bool) (g : Nat) (lb : Array Value) (eg : ∀ args w, (callFunc g args).run Tryz.prog w = .ok (.enter g args) w) (A0 : Option Addr) (c0 : Nat) (l0 : List S56) (r : Bool) (w : World) (hr0 : Kd.C k56 w A0 l0.length l0)
  (hp : ∀ (W : World) (x : S56) (b : Bool), Below w.heap.size w W → x ∈ l0 → p x = some b → Calls Tryz.prog g (#[.agg #[.int .i64 x.f0, .string x.f1, .int .i64 x.f2, .int .i64 x.f3, .int .i64 x.f4, .int .i64 x.f5, .string x.f6]] ++ lb) W fun e w' => e = .returned (.bool b) ∧ Below W.heap.size W w')
  (h : contF p l0 = some r) :
  Calls Tryz.prog 63 #[.slice A0 l0.length c0, .func (.func g) #[] lb] w fun e w' => e = .returned (.bool r) ∧ Below w.heap.size w w' := by
 (obtain ⟨i, hi, h2⟩ := Option.bind_eq_some_iff.mp h); (obtain rfl : decide (0 ≤ i) = r := by simpa using h2); clear h h2; (have HI := idx_56 p g lb eg A0 c0 l0 i w hr0 hp hi); clear hi hr0 hp
 go_enter Tryz.func63, Tryz.ntmps63
 go_wp2_with (go_at_call 104; refine HI.mono ?_; rintro e w' ⟨rfl, hb'⟩)
 go_ret
 exact ⟨rfl, hb'⟩
def impl_areReqs.f (l0 : List S56) : Option Bool := if (l0.length : Int) ≤ 40 then ((contF (fun x => impl_areReqs_1.f x.f0 x.f1 x.f2 x.f3 x.f4 x.f5 x.f6) l0).bind fun b => some (!b)) else (some false)
theorem impl_areReqs.enters : ∀ args w, (callFunc 64 args).run Tryz.prog w = .ok (.enter 64 args) w := enters_of Tryz.func64 (by kernel_rfl) rfl
set_option maxHeartbeats 8000000 in
set_option maxRecDepth 100000 in
theorem impl_areReqs.calls (A0 : Option Addr) (c0 : Nat) (l0 : List S56) (r : Bool) (w : World) (hr0 : Kd.C k56 w A0 l0.length l0) (hc0 : l0.length ≤ c0) (h : impl_areReqs.f l0 = some r) :
  Calls Tryz.prog 34 #[.slice A0 l0.length c0] w fun e w' => e = .returned (.bool r) ∧ Below w.heap.size w w' := by
 unfold impl_areReqs.f at h
 by_cases c1 : (l0.length : Int) ≤ 40
 ·rw [if_pos c1] at h
  (obtain ⟨b, hb, h2⟩ := Option.bind_eq_some_iff.mp h); (obtain rfl : (!b) = r := by simpa using h2); (have HI := cont_56 (fun x => impl_areReqs_1.f x.f0 x.f1 x.f2 x.f3 x.f4 x.f5 x.f6) 64 #[] impl_areReqs.enters A0 c0 l0 b w hr0 (fun W x b hW hx h => (impl_areReqs_1.calls _ _ _ _ _ _ _ _ _ h).mono fun e w' ⟨he, hd⟩ => ⟨he, hd⟩) hb); clear h h2 hb hr0 hc0; (have c1b0 : decide ((l0.length : Int) ≤ 40) = true := decide_eq_true c1); clear c1
  go_enter Tryz.func34, Tryz.ntmps34
  go_wp2_with (go_at_call 63; refine HI.mono ?_; rintro e w' ⟨rfl, hb'⟩)
  go_ret
  exact ⟨rfl, hb'⟩
 ·rw [if_neg c1] at h
  (obtain rfl := Option.some.inj h); clear h hr0 hc0; (have c1b0 : decide ((l0.length : Int) ≤ 40) = false := decide_eq_false c1); clear c1
  go_enter Tryz.func34, Tryz.ntmps34
  go_wp2
  go_ret
  exact ⟨rfl, Below.refl _ _⟩
set_option maxHeartbeats 8000000 in
set_option maxRecDepth 100000 in
theorem idx_3 (p : Int → Option Bool) (g : Nat) (lb : Array Value) (eg : ∀ args w, (callFunc g args).run Tryz.prog w = .ok (.enter g args) w) (A0 : Option Addr) (c0 : Nat) (l0 : List Int) (r : Int) (w : World) (hr0 : Kd.C (Kd.int .i64) w A0 l0.length l0)
  (hp : ∀ (W : World) (x : Int) (b : Bool), Below w.heap.size w W → x ∈ l0 → p x = some b → Calls Tryz.prog g (#[.int .i64 x] ++ lb) W fun e w' => e = .returned (.bool b) ∧ Below W.heap.size W w')
  (h : idxF p l0 0 = some r) :
  Calls Tryz.prog 106 #[.slice A0 l0.length c0, .func (.func g) #[] lb] w fun e w' => e = .returned (.int .i64 r) ∧ Below w.heap.size w w' := by
 (have hu := Tryz.underlying3); (have HR0 := Aside0.mk hr0); (have HP := Aside0.mk hp); (have hlen : l0.length ≤ 9223372036854775807 := hr0.2.1); clear hr0 hp; (have H' := Aside0.mk h); clear h
 go_enter Tryz.func106, Tryz.ntmps106
 go_wp2
 go_loopg [5, 8] l0.length (fun gg _ s8 wr => ∃ kk : Nat, kk ≤ l0.length ∧ l0.length - kk ≤ gg ∧ s8 = .int .i64 kk ∧ Aside0 (Below w.heap.size w wr) ∧ Aside0 (idxF p (l0.drop kk) kk = some r))
 case atStart => exact ⟨0, Nat.zero_le _, by omega, rfl, ⟨Below.refl _ w⟩, by simpa using H'⟩
 case round =>
  clear H'; (obtain ⟨kk, hkk, hg, rfl, BW, A⟩ := hrel)
  by_cases hlt : kk < l0.length
  ·have hltz : decide ((kk : Int) < (l0.length : Int)) = true := decide_eq_true (by omega)
   (have A1 := A.out); (rw [idxF_at p l0 kk kk hlt] at A1); clear A; (obtain ⟨b, hb, A2⟩ := Option.bind_eq_some_iff.mp A1); clear A1; (have hmem : l0[kk] ∈ l0 := List.getElem_mem hlt); (have hcall := HP.out wr l0[kk] b BW.out hmem hb); (obtain ⟨ad1, cs1, e1, hl1, hK1, hcell1⟩ := Kd.C_get HR0.out l0[kk] (kk : Int) (by omega) (by omega)); (have hget : l0.getD ((kk : Int)).toNat l0[kk] = l0[kk] := by simp [List.getD, hlt]); (rw [hget] at hK1); clear hget; (obtain rfl : cs1 = [.int .i64 (l0[kk])] := hK1); (have hx0 := hcell1 0 _ rfl); (simp only [show ((Kd.int .i64)).sz = 1 from rfl, Nat.mul_one, Nat.add_zero, Int.toNat_natCast] at hx0)
   cases e1
   (try clear hK1); clear hl1 hcell1; (replace hx0 := (BW.out.cell (World.block_lt_of_cell? w _ hx0)).trans hx0); clear hmem hb
   generalize l0[kk] = y at hcall hx0
   cases b with
   | true =>
    (obtain rfl : (kk : Int) = r := by simpa using A2); clear A2
    go_wp2_with (go_at_fn g; refine hcall.mono ?_; rintro e w' ⟨rfl, hb'⟩)
    go_ret
    exact ⟨rfl, below_then BW.out BW.out.size hb'⟩
   | false =>
    (have A3 : Aside0 (idxF p (l0.drop (kk + 1)) (kk + 1) = some r) := ⟨by simpa using A2⟩); clear A2
    go_wp2_with (go_at_fn g; refine hcall.mono ?_; rintro e w' ⟨rfl, hb'⟩)
    go_roundg (l0.length - (kk + 1))
    case measure => omega
    case rel => exact ⟨kk + 1, by omega, by omega, by go_num, ⟨below_then BW.out BW.out.size hb'⟩, A3⟩
  ·have hltz : decide ((kk : Int) < (l0.length : Int)) = false := decide_eq_false (by omega)
   obtain rfl : -1 = r := by
    (have A1 := A.out); (rw [show kk = l0.length by omega] at A1)
    simpa [idxF] using A1
   clear A
   go_wp2
   go_ret
   exact ⟨rfl, BW.out⟩
set_option maxHeartbeats 8000000 in
set_option maxRecDepth 100000 in
theorem cont_3 (p : Int → Option Bool) (g : Nat) (lb : Array Value) (eg : ∀ args w, (callFunc g args).run Tryz.prog w = .ok (.enter g args) w) (A0 : Option Addr) (c0 : Nat) (l0 : List Int) (r : Bool) (w : World) (hr0 : Kd.C (Kd.int .i64) w A0 l0.length l0)
  (hp : ∀ (W : World) (x : Int) (b : Bool), Below w.heap.size w W → x ∈ l0 → p x = some b → Calls Tryz.prog g (#[.int .i64 x] ++ lb) W fun e w' => e = .returned (.bool b) ∧ Below W.heap.size W w')
  (h : contF p l0 = some r) :
  Calls Tryz.prog 66 #[.slice A0 l0.length c0, .func (.func g) #[] lb] w fun e w' => e = .returned (.bool r) ∧ Below w.heap.size w w' := by
 (obtain ⟨i, hi, h2⟩ := Option.bind_eq_some_iff.mp h); (obtain rfl : decide (0 ≤ i) = r := by simpa using h2); clear h h2; (have HI := idx_3 p g lb eg A0 c0 l0 i w hr0 hp hi); clear hi hr0 hp
 go_enter Tryz.func66, Tryz.ntmps66
 go_wp2_with (go_at_call 106; refine HI.mono ?_; rintro e w' ⟨rfl, hb'⟩)
 go_ret
 exact ⟨rfl, hb'⟩
def impl_areDraws_1.f (a0 : Int) : Option (Bool) := (impl_within.f a0 0 65535).bind fun t361 => (some (!t361))
set_option maxHeartbeats 8000000 in
set_option maxRecDepth 100000 in
theorem impl_areDraws_1.calls (a0 : Int) (r : Bool) (w : World) (h : impl_areDraws_1.f a0 = some r) :
  Calls Tryz.prog 67 #[.int .i64 a0] w fun e w' => e = .returned (.bool r) ∧ Drawn0 w w' := by
 (have H : ((impl_within.f a0 0 65535).bind fun t361 => (some (!t361))) = some r := h); clear h; (replace H := Option.bind_eq_some_iff.mp H); (obtain ⟨t361, A20, H⟩ := H); (replace H : (some (!t361)) = some r := H); (have A2 := Aside0.mk A20); clear A20; (obtain rfl := Option.some.inj H)
 go_enter Tryz.func67, Tryz.ntmps67
 go_wp2_with (first | ((with_reducible refine gate_callee (f := 61) rfl ?_); refine goesL_ (some 4) rfl rfl Tryz.func61 (by kernel_rfl) rfl #[.int .i64 a0, .int .i64 0, .int .i64 65535] rfl qL ?_; (with_reducible refine (impl_within.calls a0 0 65535 t361 _ A2.out).mono ?_); rintro e w' ⟨rfl, ⟨nd, rfl⟩⟩; refine ⟨_, rfl, ?_⟩))
 go_ret
 exact qZ
theorem impl_areDraws.enters : ∀ args w, (callFunc 67 args).run Tryz.prog w = .ok (.enter 67 args) w := enters_of Tryz.func67 (by kernel_rfl) rfl
def impl_areDraws.f (l0 : List Int) (a1 : Int) : Option Bool := if (l0.length : Int) = a1 then (contF (fun x => impl_areDraws_1.f x) l0).bind fun b => some (!b) else some false
set_option maxHeartbeats 8000000 in
set_option maxRecDepth 100000 in
theorem impl_areDraws.calls (A0 : Option Addr) (c0 : Nat) (l0 : List Int) (a1 : Int) (r : Bool) (w : World) (hr0 : Kd.C (Kd.int .i64) w A0 l0.length l0) (hc0 : l0.length ≤ c0) (h : impl_areDraws.f l0 a1 = some r) :
  Calls Tryz.prog 35 #[.slice A0 l0.length c0, .int .i64 a1] w fun e w' => e = .returned (.bool r) ∧ Below w.heap.size w w' := by
 unfold impl_areDraws.f at h
 by_cases c1 : (l0.length : Int) = a1
 ·rw [if_pos c1] at h
  (obtain ⟨b, hb, h2⟩ := Option.bind_eq_some_iff.mp h); (obtain rfl : (!b) = r := by simpa using h2); (have HI := cont_3 (fun x => impl_areDraws_1.f x) 67 #[] impl_areDraws.enters A0 c0 l0 b w hr0 (fun W x b hW hx h => (impl_areDraws_1.calls x _ _ h).mono fun e w' ⟨he, hd⟩ => ⟨he, hd.below⟩) hb); clear h h2 hb hr0 hc0; (have c1b0 : ((l0.length : Int) == a1) = true := by simp [c1]); clear c1
  go_enter Tryz.func35, Tryz.ntmps35
  go_wp2_with (go_at_call 66; refine HI.mono ?_; rintro e w' ⟨rfl, hb'⟩)
  go_ret
  exact ⟨rfl, hb'⟩
 ·rw [if_neg c1] at h
  (obtain rfl := Option.some.inj h); clear h hr0 hc0; (have c1b0 : ((l0.length : Int) == a1) = false := by simp [c1]); clear c1
  go_enter Tryz.func35, Tryz.ntmps35
  go_wp2
  go_ret
  exact ⟨rfl, Below.refl _ _⟩
def impl_isChange.f (a0 : Int) : Option (Bool) := if a0 = 3 then (some true) else (if a0 = 4 then (some true) else (some (a0 == 5)))
set_option maxHeartbeats 8000000 in
set_option maxRecDepth 100000 in
theorem impl_isChange.calls (a0 : Int) (r : Bool) (w : World) (h : impl_isChange.f a0 = some r) :
  Calls Tryz.prog 76 #[.int .i64 a0] w fun e w' => e = .returned (.bool r) ∧ Drawn0 w w' := by
 (have H : (if a0 = 3 then (some true) else (if a0 = 4 then (some true) else (some (a0 == 5)))) = some r := h); clear h
 by_cases c2 : a0 = 3
 ·rw [if_pos c2] at H
  (have c2b0 : (a0 == 3) = true := beq_iff_eq.mpr c2); (have c2b1 : (a0 != 3) = false := bne_eq_false_iff_eq.mpr c2); clear c2; (obtain rfl := Option.some.inj H)
  go_enter Tryz.func76, Tryz.ntmps76
  go_wp2
  go_ret
  exact qZ
 ·rw [if_neg c2] at H
  (have c2b0 : (a0 == 3) = false := beq_eq_false_iff_ne.mpr c2); (have c2b1 : (a0 != 3) = true := bne_iff_ne.mpr c2)
  by_cases c3 : a0 = 4
  ·rw [if_pos c3] at H
   (have c3b0 : (a0 == 4) = true := beq_iff_eq.mpr c3); (have c3b1 : (a0 != 4) = false := bne_eq_false_iff_eq.mpr c3); clear c3; (obtain rfl := Option.some.inj H)
   go_enter Tryz.func76, Tryz.ntmps76
   go_wp2
   go_ret
   exact qZ
  ·rw [if_neg c3] at H
   (have c3b0 : (a0 == 4) = false := beq_eq_false_iff_ne.mpr c3); (have c3b1 : (a0 != 4) = true := bne_iff_ne.mpr c3); (obtain rfl := Option.some.inj H)
   go_enter Tryz.func76, Tryz.ntmps76
   go_wp2
   go_ret
   exact qZ
def impl_takes.f (a0 : Int) (a1 : Int) : Option (Int) := if a0 = 1 then (some 1) else ((impl_isChange.f a0).bind fun t362 => (if t362 = true then (some 2) else (some a1)))
set_option maxHeartbeats 8000000 in
set_option maxRecDepth 100000 in
theorem impl_takes.calls (a0 : Int) (a1 : Int) (r : Int) (w : World) (h : impl_takes.f a0 a1 = some r) :
  Calls Tryz.prog 107 #[.int .i64 a0, .int .i64 a1] w fun e w' => e = .returned (.int .i64 r) ∧ Drawn0 w w' := by
 (have H : (if a0 = 1 then (some 1) else ((impl_isChange.f a0).bind fun t362 => (if t362 = true then (some 2) else (some a1)))) = some r := h); clear h
 by_cases c3 : a0 = 1
 ·rw [if_pos c3] at H
  (have c3b0 : (a0 == 1) = true := beq_iff_eq.mpr c3); (have c3b1 : (a0 != 1) = false := bne_eq_false_iff_eq.mpr c3); clear c3; (obtain rfl := Option.some.inj H)
  go_enter Tryz.func107, Tryz.ntmps107
  go_wp2
  go_ret
  exact qZ
 ·rw [if_neg c3] at H
  (have c3b0 : (a0 == 1) = false := beq_eq_false_iff_ne.mpr c3); (have c3b1 : (a0 != 1) = true := bne_iff_ne.mpr c3); (replace H := Option.bind_eq_some_iff.mp H); (obtain ⟨t362, A40, H⟩ := H); (replace H : (if t362 = true then (some 2) else (some a1)) = some r := H); (have A4 := Aside0.mk A40); clear A40
  by_cases c5 : t362 = true
  ·subst c5
   (have H1 : (some 2) = some r := by rw [if_pos rfl] at H; exact H); clear H; (have H := H1); clear H1; (obtain rfl := Option.some.inj H)
   go_enter Tryz.func107, Tryz.ntmps107
   go_wp2_with (first | ((with_reducible refine gate_callee (f := 76) rfl ?_); refine goesL_ (some 10) rfl rfl Tryz.func76 (by kernel_rfl) rfl #[.int .i64 a0] rfl qL ?_; (with_reducible refine (impl_isChange.calls a0 true _ A4.out).mono ?_); rintro e w' ⟨rfl, ⟨nd, rfl⟩⟩; refine ⟨_, rfl, ?_⟩))
   go_ret
   exact qZ
  ·replace c5 := Bool.eq_false_iff.mpr c5
   (subst c5); (have H1 : (some a1) = some r := by rw [if_neg (show ¬ (false = true) by decide)] at H; exact H); clear H; (have H := H1); clear H1; (obtain rfl := Option.some.inj H)
   go_enter Tryz.func107, Tryz.ntmps107
   go_wp2_with (first | ((with_reducible refine gate_callee (f := 76) rfl ?_); refine goesL_ (some 10) rfl rfl Tryz.func76 (by kernel_rfl) rfl #[.int .i64 a0] rfl qL ?_; (with_reducible refine (impl_isChange.calls a0 false _ A4.out).mono ?_); rintro e w' ⟨rfl, ⟨nd, rfl⟩⟩; refine ⟨_, rfl, ?_⟩))
   go_ret
   exact qZ
def impl_sumTakes.l0 : Nat → Int → List (S79) → Int → Int → Option (Int)
 | 0, _, _, _, _ => none
 | k + 1, x3, x6, x7, x8 => if x8 < x7 then (if 0 ≤ x8 then (if x8 < (x6.length : Int) then ((impl_takes.f ((rd_T79 x6 x8).f0) ((rd_T79 x6 x8).f1)).bind fun t365 => (impl_sumTakes.l0 k (wrap64 (x3 + t365)) x6 x7 (wrap64 (x8 + 1)))) else (none)) else (none)) else (some x3)
def impl_sumTakes.f (k : Nat) (l0 : List (S79)) : Option (Int) := impl_sumTakes.l0 k 0 l0 (l0.length : Int) 0
set_option maxHeartbeats 8000000 in
set_option maxRecDepth 100000 in
theorem impl_sumTakes.calls (k : Nat) (A0 : Option Addr) (c0 : Nat) (l0 : List (S79)) (r : Int) (w : World) (hr0 : Kd.C k79 w A0 l0.length l0) (hc0 : l0.length ≤ c0) (h : impl_sumTakes.f k l0 = some r) :
  Calls Tryz.prog 68 #[.slice A0 l0.length c0] w fun e w' => e = .returned (.int .i64 r) ∧ Below w.heap.size w w' := by
 (have hu79 := Tryz.underlying79); (have HR0 := Aside0.mk hr0); (have HC0 := Aside0.mk hc0); clear hr0 hc0; (have HB := Aside0.mk (Below.refl w.heap.size w)); (have H : (impl_sumTakes.l0 k 0 l0 (l0.length : Int) 0) = some r := h); clear h; (have H' := Aside0.mk H); clear H
 go_enter Tryz.func68, Tryz.ntmps68
 go_wp2
 go_loopg [3, 8] k (fun kq v3 v8 w' => ∃ (x3_1 : Int) (x8_1 : Int), v3 = .int .i64 x3_1 ∧ v8 = .int .i64 x8_1 ∧ Aside0 (impl_sumTakes.l0 kq x3_1 l0 (l0.length : Int) x8_1 = some r) ∧ Aside0 (kq ≤ k) ∧ Aside0 (Below w.heap.size w w'))
 case atStart => exact ⟨(0), (0), qV, qV, H', ⟨Nat.le_refl _⟩, ⟨qS0 HB⟩⟩
 case round =>
  clear H'; (obtain ⟨x3_1, x8_1, rfl, rfl, HA, HK1, HB⟩ := hrel)
  cases gk with
  | zero => exact absurd HA.out (by simp [impl_sumTakes.l0])
  | succ k1 =>
   (have H := HA.out); clear HA; (simp only [impl_sumTakes.l0] at H)
   by_cases c2 : x8_1 < (l0.length : Int)
   ·rw [if_pos c2] at H
    (have c2b0 : decide (x8_1 < (l0.length : Int)) = true := decide_eq_true c2); clear c2
    by_cases c3 : 0 ≤ x8_1
    ·rw [if_pos c3] at H
     (have c3b0 : decide (0 ≤ x8_1) = true := decide_eq_true c3); clear c3
     by_cases c4 : x8_1 < (l0.length : Int)
     ·rw [if_pos c4] at H
      (have c4b0 : decide (x8_1 < (l0.length : Int)) = true := decide_eq_true c4); clear c4; (replace H := Option.bind_eq_some_iff.mp H); (obtain ⟨t365, A50, H⟩ := H)
      try dsimp only at H
      (have A5 := Aside0.mk A50); clear A50; (have H' := Aside0.mk H); clear H; (have p363 : 0 ≤ (x8_1 : Int) := qO); (have q363 : x8_1 < (l0.length : Int) := qO); (obtain ⟨ad363, e363, hx363_0, hx363_1⟩ := at_T79 HR0.out x8_1 p363 q363)
      cases e363
      (replace hx363_0 := (HB.out.cell (World.block_lt_of_cell? w _ hx363_0)).trans hx363_0); (replace hx363_1 := (HB.out.cell (World.block_lt_of_cell? w _ hx363_1)).trans hx363_1); (replace p363 := eq_true p363); (replace q363 := eq_true q363)
      go_wp2_with (first | ((with_reducible refine gate_dst (N := 5) rfl ?_); refine box_event ?hg (N := 5) ?hd (cs := #[.int .i64 0, .int .i64 0]) (t := 79) ?hr ?_; (case hd => rfl); (case hg => rfl); (case hr => first | (go_simp; done) | (go_simp; rfl)); intro gb364 hg w6 hbox hb; have BK364 := Aside0.mk (hbox); have GW364 := qG hg (below_size (qS0 HB)); have GE364 := qG hg (below_size (qS0 HB)); replace HB := Aside0.mk (below_step (qS0 HB) hb); clear hb hbox hg; obtain ⟨hcz7_0, hcz7_1, hfz7_0, hfz7_1⟩ := qC2 BK364) | ((with_reducible refine gate_callee (f := 107) rfl ?_); refine goesL_ (some 17) rfl rfl Tryz.func107 (by kernel_rfl) rfl #[.int .i64 ((rd_T79 l0 x8_1).f0), .int .i64 ((rd_T79 l0 x8_1).f1)] rfl qL ?_; (with_reducible refine (impl_takes.calls ((rd_T79 l0 x8_1).f0) ((rd_T79 l0 x8_1).f1) t365 _ A5.out).mono ?_); rintro e w' ⟨rfl, ⟨nd, rfl⟩⟩; refine ⟨_, rfl, ?_⟩))
      go_roundg k1
      case measure => have := HK1.out; omega
      case rel => exact ⟨(wrap64 (x3_1 + t365)), (wrap64 (x8_1 + 1)), qV, qV, H', ⟨by have := HK1.out; omega⟩, ⟨qS1 HB GE364⟩⟩
     ·rw [if_neg c4] at H
      exact absurd H (by simp)
    ·rw [if_neg c3] at H
     exact absurd H (by simp)
   ·rw [if_neg c2] at H
    (have c2b0 : decide (x8_1 < (l0.length : Int)) = false := decide_eq_false c2); clear c2; (obtain rfl := Option.some.inj H)
    go_wp2
    go_ret
    exact ⟨qE, qS0 HB⟩
def impl_shapeDraws.f (k : Nat) (a0_0 : Int) (a0_1 : Int) (a0_2 : Int) (a0_3 : Int) (l1 : List (S79)) : Option (Int) := if 0 ≤ (wrap64 (a0_1 - 2)) then ((impl_sumTakes.f k l1).bind fun t367 => (some (wrap64 ((shl .i64 6 (wrap64 (a0_1 - 2))) + (wrap64 (2 * t367)))))) else (none)
def impl_shapeDraws.T1 : Bool × List (List Nat × List Nat) := (true, [([], []), ([0], [0]), ([1], [1]), ([2], [2]), ([], []), ([4], [4]), ([5], [5]), ([3, 6], [3, 6]), ([7, 5, 0, 1, 2, 3, 4, 5, 6, 7], [7])])
def impl_shapeDraws.B1 : List Nat := [0, 1, 3, 7, 0, 16, 48, 127, 255]
theorem impl_shapeDraws.tab1 : rtab .any (opsOf Tryz.f36 1) = impl_shapeDraws.T1 := by kernel_rfl
theorem impl_shapeDraws.bits1 : waitsOk impl_shapeDraws.T1.2 impl_shapeDraws.B1 = true := by kernel_rfl
set_option maxHeartbeats 8000000 in
set_option maxRecDepth 100000 in
theorem impl_shapeDraws.calls (k : Nat) (a0_0 : Int) (a0_1 : Int) (a0_2 : Int) (a0_3 : Int) (A1 : Option Addr) (c1 : Nat) (l1 : List (S79)) (r : Int) (w : World) (hr1 : Kd.C k79 w A1 l1.length l1) (hc1 : l1.length ≤ c1) (h : impl_shapeDraws.f k a0_0 a0_1 a0_2 a0_3 l1 = some r) :
  Calls Tryz.prog 36 #[.agg #[.int .i64 a0_0, .int .i64 a0_1, .int .i64 a0_2, .int .i64 a0_3], .slice A1 l1.length c1] w fun e w' => e = .returned (.int .i64 r) ∧ Below w.heap.size w w' := by
 (have hu29 := Tryz.underlying29); (have HR1 := Aside0.mk hr1); (have HC1 := Aside0.mk hc1); clear hr1 hc1; (have HB := Aside0.mk (Below.refl w.heap.size w)); (have H : (if 0 ≤ (wrap64 (a0_1 - 2)) then ((impl_sumTakes.f k l1).bind fun t367 => (some (wrap64 ((shl .i64 6 (wrap64 (a0_1 - 2))) + (wrap64 (2 * t367)))))) else (none)) = some r := h); clear h; (obtain ⟨ji3, hji3⟩ : ∃ j_ : Int, (wrap64 (a0_1 - 2)) = j_ := ⟨_, rfl⟩); (replace H : (if 0 ≤ (ji3) then ((impl_sumTakes.f k l1).bind fun t367 => (some (wrap64 ((shl .i64 6 (ji3)) + (wrap64 (2 * t367)))))) else (none)) = some r := by first | (rw [hji3] at H; exact H) | (simp only [hji3] at H ⊢; exact H)); (have hji3w : (IntKind.i64.wrap (a0_1 - 2)) = ji3 := (i64_w _).trans hji3)
 by_cases c4 : 0 ≤ (ji3)
 ·rw [if_pos c4] at H
  (have c4b0 := eq_true c4); (have c4b1 : decide (0 ≤ (ji3)) = true := decide_eq_true c4); clear c4; (obtain ⟨ji5, hji5⟩ : ∃ j_ : Int, (shl .i64 6 (ji3)) = j_ := ⟨_, rfl⟩); (replace H : ((impl_sumTakes.f k l1).bind fun t367 => (some (wrap64 ((ji5) + (wrap64 (2 * t367)))))) = some r := by first | (rw [hji5] at H; exact H) | (simp only [hji5] at H ⊢; exact H)); (have hji5_ : (IntKind.i64.wrap (6 * 2 ^ min (ji3).toNat 64)) = ji5 := hji5); (have hji5z : (ji3) ≤ 64 → (IntKind.i64.wrap (6 * 2 ^ (ji3).toNat)) = ji5 := shl_small hji5); (have hji5y : (wrap64 (6 * 2 ^ min (ji3).toNat 64)) = ji5 := (i64_w _).symm.trans hji5_); (have hji5x : (ji3) ≤ 64 → (wrap64 (6 * 2 ^ (ji3).toNat)) = ji5 := fun h_ => (i64_w _).symm.trans (hji5z h_)); (replace H := Option.bind_eq_some_iff.mp H); (obtain ⟨t367, A60, H⟩ := H); (replace H : (some (wrap64 ((ji5) + (wrap64 (2 * t367))))) = some r := H); (have A6 := Aside0.mk A60); clear A60; (obtain rfl := Option.some.inj H)
  go_enter Tryz.func36, Tryz.ntmps36
  try go_wp2_with (first | ((with_reducible refine gate_dst (N := 2) rfl ?_); refine box_event ?hg (N := 2) ?hd (cs := #[.int .i64 a0_0, .int .i64 a0_1, .int .i64 a0_2, .int .i64 a0_3]) (t := 29) ?hr ?_; (case hd => rfl); (case hg => rfl); (case hr => first | (go_simp; done) | (go_simp; rfl)); intro gb366 hg w7 hbox hb; have BK366 := Aside0.mk (hbox); have GW366 := qG hg (below_size (qS0 HB)); have GE366 := qG hg (below_size (qS0 HB)); replace HB := Aside0.mk (below_step (qS0 HB) hb); clear hb hbox hg))
  (replace BK366 := Aside0.mk (blk_drew BK366.out)); (replace HB := Aside0.mk (below_drew1 HB.out))
  refine start_ (n := 9) (S := fun w' => w'.cell? ⟨gb366, 0, none⟩ = some (.int .i64 a0_0) ∧ w'.cell? ⟨gb366, 1, none⟩ = some (.int .i64 a0_1) ∧ w'.cell? ⟨gb366, 2, none⟩ = some (.int .i64 a0_2) ∧ w'.cell? ⟨gb366, 3, none⟩ = some (.int .i64 a0_3)) (ds := []) #[false, false, false, false, false, false, false, false, false] (by kernel_rfl) rfl rfl ⟨(blk_cell BK366.out 0).trans rfl, (blk_cell BK366.out 1).trans rfl, (blk_cell BK366.out 2).trans rfl, (blk_cell BK366.out 3).trans rfl⟩ (fun hHeld => ?_); refine with_tabW impl_shapeDraws.tab1 impl_shapeDraws.bits1 (fun HT_ HW_ => ?_)
  generalize w7.drew = w8 at BK366 HB hHeld ⊢
  refine pure_ (i := 0) (N := some 5) (v := ?_) (a' := ?_) #[true, false, false, false, false, false, false, false, false] rfl rfl (any_of HT_.out (by kernel_rfl)) (fun _ _ _ h => h) (Or.inl ⟨by rfl, ?_⟩) ?_ ?_
  rotate_left
  ·intro w'
   go_simp
   with_reducible rfl
  rotate_left
  ·simp only [Act.put, List.setIfInBounds_toArray, List.set_cons_zero, List.set_cons_succ, i64_w, i32_w]
   rfl
  refine pure_ (i := 4) (N := some 9) (v := ?_) (a' := ?_) #[true, false, false, false, true, false, false, false, false] rfl rfl (any_of HT_.out (by kernel_rfl)) (fun _ _ _ h => h) (Or.inl ⟨by rfl, ?_⟩) ?_ ?_
  rotate_left
  ·intro w'
   go_simp
   with_reducible rfl
  rotate_left
  ·simp only [Act.put, List.setIfInBounds_toArray, List.set_cons_zero, List.set_cons_succ, i64_w, i32_w]
   rfl
  refine take_ (i := 1) (N := some 6) (v := ?_) (a' := ?_) #[true, true, false, false, true, false, false, false, false] rfl rfl (take_ofW HT_.out HW_.out (by kernel_rfl)) (fun _ _ _ h => h) (Or.inl ⟨by rfl, ?_⟩) hHeld ?_ ?_
  rotate_left
  ·rintro w' ⟨s0, s1, s2, s3⟩
   go_simp
   with_reducible rfl
  rotate_left
  ·simp only [Act.put, List.setIfInBounds_toArray, List.set_cons_zero, List.set_cons_succ, i64_w, i32_w]
   rfl
  refine pure_ (i := 2) (N := some 7) (v := ?_) (a' := ?_) #[true, true, true, false, true, false, false, false, false] rfl rfl (any_of HT_.out (by kernel_rfl)) (fun _ _ _ h => h) (Or.inl ⟨by rfl, ?_⟩) ?_ ?_
  rotate_left
  ·intro w'
   go_simp
   with_reducible rfl
  rotate_left
  ·simp only [Act.put, List.setIfInBounds_toArray, List.set_cons_zero, List.set_cons_succ, i64_w, i32_w]
   rfl
  refine pure_ (i := 3) (N := some 8) (v := ?_) (a' := ?_) #[true, true, true, true, true, false, false, false, false] rfl rfl (any_of HT_.out (by kernel_rfl)) (fun _ _ _ h => h) (Or.inl ⟨by rfl, ?_⟩) ?_ ?_
  rotate_left
  ·intro w'
   go_simp
   with_reducible rfl
  rotate_left
  ·simp only [Act.put, List.setIfInBounds_toArray, List.set_cons_zero, List.set_cons_succ, i64_w, i32_w]
   rfl
  refine one_ (i := 5) (N := some 10) #[true, true, true, true, true, true, false, false, false] rfl rfl (one_of HT_.out (by kernel_rfl)) (by decide) (fun K hK => ?_)
  refine goes_ Tryz.func68 (by kernel_rfl) rfl #[.slice A1 l1.length c1] (by rfl) rfl rfl qL ?_
  with_reducible refine (impl_sumTakes.calls k _ _ l1 t367 _ ?side1 ?side2 A6.out).mono ?_
  (case side1 => repeat (first | exact (Kd.C_below HR1.out HB.out) | (with_reducible refine Kd.C_alloc ?_ _) | (with_reducible refine Kd.C_drewN ?_ _) | (with_reducible refine Kd.C_drew ?_)))
  (case side2 => exact HC1.out)
  rintro e w9 ⟨rfl, hb⟩
  refine ⟨_, rfl, ?_⟩
  (replace BK366 := qD BK366 hb); (replace HB := Aside0.mk (below_step (qS1 HB GE366) hb)); (try clear hb); (try clear hb2); (try clear hk); (try clear hi)
  refine hK.out _ _ ⟨(blk_cell BK366.out 0).trans rfl, (blk_cell BK366.out 1).trans rfl, (blk_cell BK366.out 2).trans rfl, (blk_cell BK366.out 3).trans rfl⟩ (fun hHeld => ?_)
  clear hK K
  refine norm_ (a' := ?_) ?_ ?_
  rotate_left
  ·show Act.put _ (some 10) _ = _
   simp only [Act.put, List.setIfInBounds_toArray, List.set_cons_zero, List.set_cons_succ, i64_w, i32_w]
   rfl
  refine pure_ (i := 6) (N := some 11) (v := ?_) (a' := ?_) #[true, true, true, true, true, true, true, false, false] rfl rfl (any_of HT_.out (by kernel_rfl)) (fun _ _ _ h => h) (Or.inl ⟨by rfl, ?_⟩) ?_ ?_
  rotate_left
  ·intro w'
   go_simp
   with_reducible rfl
  rotate_left
  ·simp only [Act.put, List.setIfInBounds_toArray, List.set_cons_zero, List.set_cons_succ, i64_w, i32_w]
   rfl
  refine pure_ (i := 7) (N := some 12) (v := ?_) (a' := ?_) #[true, true, true, true, true, true, true, true, false] rfl rfl (any_of HT_.out (by kernel_rfl)) (fun _ _ _ h => h) (Or.inl ⟨by rfl, ?_⟩) ?_ ?_
  rotate_left
  ·intro w'
   go_simp
   with_reducible rfl
  rotate_left
  ·simp only [Act.put, List.setIfInBounds_toArray, List.set_cons_zero, List.set_cons_succ, i64_w, i32_w]
   rfl
  refine pure_ (i := 8) (N := some 4) (v := ?_) (a' := ?_) #[true, true, true, true, true, true, true, true, true] rfl rfl (any_of HT_.out (by kernel_rfl)) (fun _ _ _ h => h) (Or.inl ⟨by rfl, ?_⟩) ?_ ?_
  rotate_left
  ·intro w'
   go_simp
   with_reducible rfl
  rotate_left
  ·simp only [Act.put, List.setIfInBounds_toArray, List.set_cons_zero, List.set_cons_succ, i64_w, i32_w]
   rfl
  refine done_ (done_of HT_.out (by kernel_rfl)) ?_
  try go_wp2
  go_ret
  exact ⟨by first | rfl | (simp [errW_none, errW_some] <;> rfl) | (simp only [← hji3, ← hji5]; first | rfl | (simp [errW_none, errW_some] <;> rfl)) | (simp [*, errW_none, errW_some] <;> rfl), qS1 HB GE366⟩
 ·rw [if_neg c4] at H
  exact absurd H (by simp)
def impl_shapesOf.l0 : Nat → List (S79) → List (S56) → Int → Int → Option ((List (S79)))
 | 0, _, _, _, _ => none
 | k + 1, x3, x6, x7, x8 => if x8 < x7 then (if 0 ≤ x8 then (if x8 < (x6.length : Int) then (if x3.length < 8796093022208 then (impl_shapesOf.l0 k (x3 ++ [(⟨(rd_T56 x6 x8).f0, (rd_T56 x6 x8).f5⟩ : S79)]) x6 x7 (wrap64 (x8 + 1))) else (none)) else (none)) else (none)) else (some x3)
def impl_shapesOf.f (k : Nat) (l0 : List (S56)) : Option ((List (S79))) := impl_shapesOf.l0 k ([] : List (S79)) l0 (l0.length : Int) 0
set_option maxHeartbeats 8000000 in
set_option maxRecDepth 100000 in
theorem impl_shapesOf.calls (k : Nat) (A0 : Option Addr) (c0 : Nat) (l0 : List (S56)) (r : List (S79)) (w : World) (hr0 : Kd.C k56 w A0 l0.length l0) (hc0 : l0.length ≤ c0) (h : impl_shapesOf.f k l0 = some r) :
  Calls Tryz.prog 37 #[.slice A0 l0.length c0] w fun e w' => ∃ v0_ : Value, e = .returned (v0_) ∧ Kd.R k79 79 w' w.heap.size (fun _ => True) v0_ r ∧ Below w.heap.size w w' := by
 (have hu56 := Tryz.underlying56); (have hu79 := Tryz.underlying79); (have HR0 := Aside0.mk hr0); (have HC0 := Aside0.mk hc0); clear hr0 hc0; (have HB := Aside0.mk (Below.refl w.heap.size w)); (have H : (impl_shapesOf.l0 k ([] : List (S79)) l0 (l0.length : Int) 0) = some r := h); clear h; (have H' := Aside0.mk H); clear H
 go_enter Tryz.func37, Tryz.ntmps37
 go_wp2
 go_loopg [3, 8] k (fun kq v3 v8 w' => ∃ (x3_1 : List (S79)) (x8_1 : Int), v8 = .int .i64 x8_1 ∧ Aside0 (impl_shapesOf.l0 kq x3_1 l0 (l0.length : Int) x8_1 = some r) ∧ Aside0 (kq ≤ k) ∧ Aside0 (Kd.R k79 79 w' w.heap.size (fun _ => True) v3 x3_1) ∧ Aside0 (Below w.heap.size w w'))
 case atStart => exact ⟨(([] : List (S79))), (0), qV, H', ⟨Nat.le_refl _⟩, ⟨by first | exact Kd.R_nil _ _ _ _ _ | exact Kd.N_nil _ _ _ _ _ | exact Kd.V_nil _ _ _ _ _ | exact Kd.Q_nil _ _ _ _ _ | exact Kd.S_nil _ _ _ _ _⟩, ⟨qS0 HB⟩⟩
 case round =>
  clear H'; (obtain ⟨x3_1, x8_1, rfl, HA, HK1, HO_3, HB⟩ := hrel)
  cases gk with
  | zero => exact absurd HA.out (by simp [impl_shapesOf.l0])
  | succ k1 =>
   (have H := HA.out); clear HA; (simp only [impl_shapesOf.l0] at H)
   by_cases c2 : x8_1 < (l0.length : Int)
   ·rw [if_pos c2] at H
    (have c2b0 : decide (x8_1 < (l0.length : Int)) = true := decide_eq_true c2); clear c2
    by_cases c3 : 0 ≤ x8_1
    ·rw [if_pos c3] at H
     (have c3b0 : decide (0 ≤ x8_1) = true := decide_eq_true c3); clear c3
     by_cases c4 : x8_1 < (l0.length : Int)
     ·rw [if_pos c4] at H
      (have c4b0 : decide (x8_1 < (l0.length : Int)) = true := decide_eq_true c4); clear c4
      by_cases c5 : x3_1.length < 8796093022208
      ·rw [if_pos c5] at H
       (have LMc5 := Aside0.mk c5); clear c5; (obtain ⟨y370, hy370⟩ : ∃ y_ : List (S79), y_ = (x3_1 ++ [(⟨(rd_T56 l0 x8_1).f0, (rd_T56 l0 x8_1).f5⟩ : S79)]) := ⟨_, rfl⟩); (replace H : (impl_shapesOf.l0 k1 y370 l0 (l0.length : Int) (wrap64 (x8_1 + 1))) = some r := qY hy370 H); (have Ny370 := Aside0.mk hy370); clear hy370; (have H' := Aside0.mk H); clear H; (have p368 : 0 ≤ (x8_1 : Int) := qO); (have q368 : x8_1 < (l0.length : Int) := qO); (obtain ⟨ad368, e368, hx368_0, hx368_1, hx368_2, hx368_3, hx368_4, hx368_5, hx368_6⟩ := at_T56 HR0.out x8_1 p368 q368)
       cases e368
       (replace hx368_0 := (HB.out.cell (World.block_lt_of_cell? w _ hx368_0)).trans hx368_0); (replace hx368_1 := (HB.out.cell (World.block_lt_of_cell? w _ hx368_1)).trans hx368_1); (replace hx368_2 := (HB.out.cell (World.block_lt_of_cell? w _ hx368_2)).trans hx368_2); (replace hx368_3 := (HB.out.cell (World.block_lt_of_cell? w _ hx368_3)).trans hx368_3); (replace hx368_4 := (HB.out.cell (World.block_lt_of_cell? w _ hx368_4)).trans hx368_4); (replace hx368_5 := (HB.out.cell (World.block_lt_of_cell? w _ hx368_5)).trans hx368_5); (replace hx368_6 := (HB.out.cell (World.block_lt_of_cell? w _ hx368_6)).trans hx368_6); (replace p368 := eq_true p368); (replace q368 := eq_true q368)
       go_wp2_with (first | ((with_reducible refine gate_dst (N := 5) rfl ?_); refine box_event ?hg (N := 5) ?hd (cs := #[.int .i64 0, .string (⟨#[]⟩ : ByteArray), .int .i64 0, .int .i64 0, .int .i64 0, .int .i64 0, .string (⟨#[]⟩ : ByteArray)]) (t := 56) ?hr ?_; (case hd => rfl); (case hg => rfl); (case hr => first | (go_simp; done) | (go_simp; rfl)); intro gb369 hg w6 hbox hb; replace HO_3 := Aside0.mk (Kd.R_below (qR HO_3) hb); have BK369 := Aside0.mk (hbox); have GW369 := qG hg (below_size (qS0 HB)); have GE369 := qG hg (below_size (qS0 HB)); replace HB := Aside0.mk (below_step (qS0 HB) hb); clear hb hbox hg; obtain ⟨hcz7_0, hcz7_1, hcz7_2, hcz7_3, hcz7_4, hcz7_5, hcz7_6, hfz7_0, hfz7_1, hfz7_2, hfz7_3, hfz7_4, hfz7_5, hfz7_6⟩ := qC7 BK369) | ((with_reducible refine gate_builtin (b := .append) (xs := #[.tmp 12, .tmp 18]) rfl ?_); at_builtin; refine Kd.R_append k79 (w0 := w) w.heap.size rfl (.tmp 12) (.tmp 18) 62 79 (.agg #[(.int .i64 0), (.int .i64 0)]) 16 rfl Tryz.underlying62 info79 rfl (by decide) (by omega) u3 x3_1 (⟨(rd_T56 l0 x8_1).f0, (rd_T56 l0 x8_1).f5⟩ : S79) [.int .i64 ((rd_T56 l0 x8_1).f0), .int .i64 ((rd_T56 l0 x8_1).f5)] (fun _ => True) (fun _ => False) rfl (by first | (go_simp; done) | (go_simp; rfl)) ?aP (fun _ hk => hk.elim) ?aF ?aO ?aB ?aS ?aL ?_; (case aP => exact k79_mkM _ _ _ (⟨(rd_T56 l0 x8_1).f0, (rd_T56 l0 x8_1).f5⟩ : S79)); (case aB => exact (qS1 HB GE369)); (case aF => exact (fun _ _ => trivial)); (case aO => exact (by (with_reducible repeat (first | apply Kd.R_alloc | apply Kd.R_drewN | apply Kd.R_drew)); exact Kd.R_mono (Kd.R_far (p := ⟨gb369, 6, none⟩) (Kd.R_far (p := ⟨gb369, 5, none⟩) (Kd.R_far (p := ⟨gb369, 4, none⟩) (Kd.R_far (p := ⟨gb369, 3, none⟩) (Kd.R_far (p := ⟨gb369, 2, none⟩) (Kd.R_far (p := ⟨gb369, 1, none⟩) (Kd.R_far (p := ⟨gb369, 0, none⟩) (Kd.R_types HO_3.out BK369.out (by decide)) (fun _ hk => hk.2) (.int .i64 ((rd_T56 l0 x8_1).f0))) (fun _ hk => hk.2) (.string ((rd_T56 l0 x8_1).f1))) (fun _ hk => hk.2) (.int .i64 ((rd_T56 l0 x8_1).f2))) (fun _ hk => hk.2) (.int .i64 ((rd_T56 l0 x8_1).f3))) (fun _ hk => hk.2) (.int .i64 ((rd_T56 l0 x8_1).f4))) (fun _ hk => hk.2) (.int .i64 ((rd_T56 l0 x8_1).f5))) (fun _ hk => hk.2) (.string ((rd_T56 l0 x8_1).f6))) (fun _ hk => trivial))); (case aS => exact (below_size (qS1 HB GE369))); (case aL => have := LMc5.out; omega); intro v371 w8 ho hb hg hat; rw [← Ny370.out] at ho; replace BK369 := Aside0.mk (blk_grown (g := gb369) (o := .cells #[.int .i64 ((rd_T56 l0 x8_1).f0), .string ((rd_T56 l0 x8_1).f1), .int .i64 ((rd_T56 l0 x8_1).f2), .int .i64 ((rd_T56 l0 x8_1).f3), .int .i64 ((rd_T56 l0 x8_1).f4), .int .i64 ((rd_T56 l0 x8_1).f5), .string ((rd_T56 l0 x8_1).f6)] 56 (0, 0)) (by (with_reducible repeat (first | refine blk_drewN ?_ _ | refine blk_drew ?_ | refine blk_alloc ?_ _)); refine blk_put (cs := #[.int .i64 ((rd_T56 l0 x8_1).f0), .string ((rd_T56 l0 x8_1).f1), .int .i64 ((rd_T56 l0 x8_1).f2), .int .i64 ((rd_T56 l0 x8_1).f3), .int .i64 ((rd_T56 l0 x8_1).f4), .int .i64 ((rd_T56 l0 x8_1).f5), .string (⟨#[]⟩ : ByteArray)]) ?_ 6 _ rfl; (with_reducible repeat (first | refine blk_drewN ?_ _ | refine blk_drew ?_ | refine blk_alloc ?_ _)); refine blk_put (cs := #[.int .i64 ((rd_T56 l0 x8_1).f0), .string ((rd_T56 l0 x8_1).f1), .int .i64 ((rd_T56 l0 x8_1).f2), .int .i64 ((rd_T56 l0 x8_1).f3), .int .i64 ((rd_T56 l0 x8_1).f4), .int .i64 0, .string (⟨#[]⟩ : ByteArray)]) ?_ 5 _ rfl; (with_reducible repeat (first | refine blk_drewN ?_ _ | refine blk_drew ?_ | refine blk_alloc ?_ _)); refine blk_put (cs := #[.int .i64 ((rd_T56 l0 x8_1).f0), .string ((rd_T56 l0 x8_1).f1), .int .i64 ((rd_T56 l0 x8_1).f2), .int .i64 ((rd_T56 l0 x8_1).f3), .int .i64 0, .int .i64 0, .string (⟨#[]⟩ : ByteArray)]) ?_ 4 _ rfl; (with_reducible repeat (first | refine blk_drewN ?_ _ | refine blk_drew ?_ | refine blk_alloc ?_ _)); refine blk_put (cs := #[.int .i64 ((rd_T56 l0 x8_1).f0), .string ((rd_T56 l0 x8_1).f1), .int .i64 ((rd_T56 l0 x8_1).f2), .int .i64 0, .int .i64 0, .int .i64 0, .string (⟨#[]⟩ : ByteArray)]) ?_ 3 _ rfl; (with_reducible repeat (first | refine blk_drewN ?_ _ | refine blk_drew ?_ | refine blk_alloc ?_ _)); refine blk_put (cs := #[.int .i64 ((rd_T56 l0 x8_1).f0), .string ((rd_T56 l0 x8_1).f1), .int .i64 0, .int .i64 0, .int .i64 0, .int .i64 0, .string (⟨#[]⟩ : ByteArray)]) ?_ 2 _ rfl; (with_reducible repeat (first | refine blk_drewN ?_ _ | refine blk_drew ?_ | refine blk_alloc ?_ _)); refine blk_put (cs := #[.int .i64 ((rd_T56 l0 x8_1).f0), .string (⟨#[]⟩ : ByteArray), .int .i64 0, .int .i64 0, .int .i64 0, .int .i64 0, .string (⟨#[]⟩ : ByteArray)]) ?_ 1 _ rfl; (with_reducible repeat (first | refine blk_drewN ?_ _ | refine blk_drew ?_ | refine blk_alloc ?_ _)); refine blk_put (cs := #[.int .i64 0, .string (⟨#[]⟩ : ByteArray), .int .i64 0, .int .i64 0, .int .i64 0, .int .i64 0, .string (⟨#[]⟩ : ByteArray)]) ?_ 0 _ rfl; (with_reducible repeat (first | refine blk_drewN ?_ _ | refine blk_drew ?_ | refine blk_alloc ?_ _)); exact BK369.out) hg (Kd.R_ne HO_3.out BK369.out (by decide))); replace HB := Aside0.mk (hb); have HO372 := Aside0.mk (ho); clear HO_3; clear ho hb hg hat))
       go_roundg k1
       case measure => have := HK1.out; omega
       case rel => exact ⟨(y370), (wrap64 (x8_1 + 1)), qV, H', ⟨by have := HK1.out; omega⟩, ⟨qR HO372⟩, ⟨qS1 HB GE369⟩⟩
      ·rw [if_neg c5] at H
       exact absurd H (by simp)
     ·rw [if_neg c4] at H
      exact absurd H (by simp)
    ·rw [if_neg c3] at H
     exact absurd H (by simp)
   ·rw [if_neg c2] at H
    (have c2b0 : decide (x8_1 < (l0.length : Int)) = false := decide_eq_false c2); clear c2; (obtain rfl := Option.some.inj H)
    go_wp2
    go_ret
    exact ⟨_, qE, qR HO_3, qS0 HB⟩
mutual
def impl_drawPlaces.l0 : Nat → Int → List Int → List Int → Int → Int → Int → Option (List Int × List Int)
 | 0, _, _, _, _, _, _ => none
 | k + 1, x1, x6, x7, x8, x15, x16 => if x16 < x15 then (if x6.length < 17592186044416 then ((some (([wrap64 ((wrap64 (6 * x16)) + 1), wrap64 ((wrap64 (6 * x16)) + 2), wrap64 ((wrap64 (6 * x16)) + 3), wrap64 ((wrap64 (6 * x16)) + 4)] : List Int) : List Int)).bind fun y377 => (if x7.length + y377.length < 17592186044416 then (impl_drawPlaces.l0 k x1 (x6 ++ [wrap64 ((wrap64 (6 * x16)) + 5)]) (x7 ++ y377) x8 x15 (wrap64 (x16 + 1))) else (none))) else (none)) else (impl_drawPlaces.l1 k x6 x7 x8 x1 0)
def impl_drawPlaces.l1 : Nat → List Int → List Int → Int → Int → Int → Option (List Int × List Int)
 | 0, _, _, _, _, _ => none
 | k + 1, x6, x7, x8, x41, x42 => if x42 < x41 then (if x6.length < 17592186044416 then (if x7.length < 17592186044416 then (impl_drawPlaces.l1 k (x6 ++ [wrap64 ((wrap64 (6 * x8)) + (wrap64 (2 * x42)))]) (x7 ++ [wrap64 ((wrap64 ((wrap64 (6 * x8)) + (wrap64 (2 * x42)))) + 1)]) x8 x41 (wrap64 (x42 + 1))) else (none)) else (none)) else (some (x6, x7))
end
def impl_drawPlaces.f (k : Nat) (a0_0 : Int) (a0_1 : Int) (a0_2 : Int) (a0_3 : Int) (a1 : Int) : Option (List Int × List Int) := if 0 ≤ (wrap64 (a0_1 - 2)) then (impl_drawPlaces.l0 k a1 ([] : List Int) ([] : List Int) (shl .i64 1 (wrap64 (a0_1 - 2))) (shl .i64 1 (wrap64 (a0_1 - 2))) 0) else (none)
set_option maxHeartbeats 8000000 in
set_option maxRecDepth 100000 in
theorem impl_drawPlaces.calls (k : Nat) (a0_0 : Int) (a0_1 : Int) (a0_2 : Int) (a0_3 : Int) (a1 : Int) (r1 : List Int) (r2 : List Int) (w : World) (h : impl_drawPlaces.f k a0_0 a0_1 a0_2 a0_3 a1 = some (r1, r2)) :
  Calls Tryz.prog 69 #[.agg #[.int .i64 a0_0, .int .i64 a0_1, .int .i64 a0_2, .int .i64 a0_3], .int .i64 a1] w fun e w' => ∃ v0_ v1_ : Value, e = .returned (.tuple #[v0_, v1_]) ∧ Kd.R (Kd.int .i64) 3 w' w.heap.size (fun k_ => some k_ ≠ (v1_ : Value).ownBlock) v0_ r1 ∧ Kd.R (Kd.int .i64) 3 w' w.heap.size (fun k_ => some k_ ≠ (v0_ : Value).ownBlock) v1_ r2 ∧ Below w.heap.size w w' := by
 (have hu29 := Tryz.underlying29); (have HB := Aside0.mk (Below.refl w.heap.size w)); (have H : (if 0 ≤ (wrap64 (a0_1 - 2)) then (impl_drawPlaces.l0 k a1 ([] : List Int) ([] : List Int) (shl .i64 1 (wrap64 (a0_1 - 2))) (shl .i64 1 (wrap64 (a0_1 - 2))) 0) else (none)) = some (r1, r2) := h); clear h; (obtain ⟨ji3, hji3⟩ : ∃ j_ : Int, (wrap64 (a0_1 - 2)) = j_ := ⟨_, rfl⟩); (replace H : (if 0 ≤ (ji3) then (impl_drawPlaces.l0 k a1 ([] : List Int) ([] : List Int) (shl .i64 1 (ji3)) (shl .i64 1 (ji3)) 0) else (none)) = some (r1, r2) := by first | (rw [hji3] at H; exact H) | (simp only [hji3] at H ⊢; exact H)); (have hji3w : (IntKind.i64.wrap (a0_1 - 2)) = ji3 := (i64_w _).trans hji3)
 by_cases c4 : 0 ≤ (ji3)
 ·rw [if_pos c4] at H
  (have c4b0 := eq_true c4); (have c4b1 : decide (0 ≤ (ji3)) = true := decide_eq_true c4); clear c4; (obtain ⟨ji5, hji5⟩ : ∃ j_ : Int, (shl .i64 1 (ji3)) = j_ := ⟨_, rfl⟩); (replace H : (impl_drawPlaces.l0 k a1 ([] : List Int) ([] : List Int) ji5 ji5 0) = some (r1, r2) := by first | (rw [hji5] at H; exact H) | (simp only [hji5] at H ⊢; exact H)); (have hji5_ : (IntKind.i64.wrap (1 * 2 ^ min (ji3).toNat 64)) = ji5 := hji5); (have hji5z : (ji3) ≤ 64 → (IntKind.i64.wrap (1 * 2 ^ (ji3).toNat)) = ji5 := shl_small hji5); (have hji5u : (IntKind.i64.wrap (2 ^ min (ji3).toNat 64)) = ji5 := by have h_ := hji5_; rw [Int.one_mul] at h_; exact h_); (have hji5v : (ji3) ≤ 64 → (IntKind.i64.wrap (2 ^ (ji3).toNat)) = ji5 := fun hle_ => by have h_ := hji5z hle_; rw [Int.one_mul] at h_; exact h_); (have hji5y : (wrap64 (1 * 2 ^ min (ji3).toNat 64)) = ji5 := (i64_w _).symm.trans hji5_); (have hji5x : (ji3) ≤ 64 → (wrap64 (1 * 2 ^ (ji3).toNat)) = ji5 := fun h_ => (i64_w _).symm.trans (hji5z h_)); (have H' := Aside0.mk H); clear H
  go_enter Tryz.func69, Tryz.ntmps69
  go_wp2_with (first | ((with_reducible refine gate_dst (N := 2) rfl ?_); refine box_event ?hg (N := 2) ?hd (cs := #[.int .i64 a0_0, .int .i64 a0_1, .int .i64 a0_2, .int .i64 a0_3]) (t := 29) ?hr ?_; (case hd => rfl); (case hg => rfl); (case hr => first | (go_simp; done) | (go_simp; rfl)); intro gb373 hg w6 hbox hb; have BK373 := Aside0.mk (hbox); have GW373 := qG hg (below_size (qS0 HB)); have GE373 := qG hg (below_size (qS0 HB)); replace HB := Aside0.mk (below_step (qS0 HB) hb); clear hb hbox hg; obtain ⟨hcz7_0, hcz7_1, hcz7_2, hcz7_3, hfz7_0, hfz7_1, hfz7_2, hfz7_3⟩ := qC4 BK373))
  go_loopg [6, 7, 16] k (fun kq v6 v7 v16 w' => ∃ (x6_1 : List Int) (x7_1 : List Int) (x16_1 : Int), v16 = .int .i64 x16_1 ∧ Aside0 (impl_drawPlaces.l0 kq a1 x6_1 x7_1 ji5 ji5 x16_1 = some (r1, r2)) ∧ Aside0 (kq ≤ k) ∧ Aside0 (Kd.R (Kd.int .i64) 3 w' w.heap.size (fun k_ => some k_ ≠ (v7 : Value).ownBlock) v6 x6_1) ∧ Aside0 (Kd.R (Kd.int .i64) 3 w' w.heap.size (fun k_ => some k_ ≠ (v6 : Value).ownBlock) v7 x7_1) ∧ Aside0 (w'.heap[gb373]? = some (.cells #[.int .i64 a0_0, .int .i64 a0_1, .int .i64 a0_2, .int .i64 a0_3] 29 (0, 0))) ∧ Aside0 (Below w.heap.size w w'))
  case atStart => exact ⟨(([] : List Int)), (([] : List Int)), (0), qV, H', ⟨Nat.le_refl _⟩, ⟨by first | exact Kd.R_nil _ _ _ _ _ | exact Kd.N_nil _ _ _ _ _ | exact Kd.V_nil _ _ _ _ _ | exact Kd.Q_nil _ _ _ _ _ | exact Kd.S_nil _ _ _ _ _⟩, ⟨by first | exact Kd.R_nil _ _ _ _ _ | exact Kd.N_nil _ _ _ _ _ | exact Kd.V_nil _ _ _ _ _ | exact Kd.Q_nil _ _ _ _ _ | exact Kd.S_nil _ _ _ _ _⟩, ⟨qB BK373⟩, ⟨qS1 HB GE373⟩⟩
  case round =>
   clear H'; (try clear p2); (try clear c4); (try clear c4b0); (try clear c4b1); (try clear c6); (try clear p6); (try clear hcz7_0); (try clear hcz7_1); (try clear hcz7_2); (try clear hcz7_3); (try clear hfz7_0); (try clear hfz7_1); (try clear hfz7_2); (try clear hfz7_3); (obtain ⟨x6_1, x7_1, x16_1, rfl, HA, HK1, HO_6, HO_7, BK373, HB⟩ := hrel)
   cases gk with
   | zero => exact absurd HA.out (by simp [impl_drawPlaces.l0])
   | succ k1 =>
    (have H := HA.out); clear HA; (simp only [impl_drawPlaces.l0] at H)
    by_cases c8 : x16_1 < ji5
    ·rw [if_pos c8] at H
     (have c8b0 : decide (x16_1 < ji5) = true := decide_eq_true c8); clear c8
     by_cases c9 : x6_1.length < 17592186044416
     ·rw [if_pos c9] at H
      (have LMc9 := Aside0.mk c9); clear c9; (obtain ⟨y374, hy374⟩ : ∃ y_ : List Int, y_ = (x6_1 ++ [wrap64 ((wrap64 (6 * x16_1)) + 5)]) := ⟨_, rfl⟩); (replace H : ((some (([wrap64 ((wrap64 (6 * x16_1)) + 1), wrap64 ((wrap64 (6 * x16_1)) + 2), wrap64 ((wrap64 (6 * x16_1)) + 3), wrap64 ((wrap64 (6 * x16_1)) + 4)] : List Int) : List Int)).bind fun y377 => (if x7_1.length + y377.length < 17592186044416 then (impl_drawPlaces.l0 k1 a1 y374 (x7_1 ++ y377) ji5 ji5 (wrap64 (x16_1 + 1))) else (none))) = some (r1, r2) := qY hy374 H); (have Ny374 := Aside0.mk hy374); clear hy374; (obtain ⟨y377, hy377⟩ : ∃ y_ : List Int, y_ = (([wrap64 ((wrap64 (6 * x16_1)) + 1), wrap64 ((wrap64 (6 * x16_1)) + 2), wrap64 ((wrap64 (6 * x16_1)) + 3), wrap64 ((wrap64 (6 * x16_1)) + 4)] : List Int)) := ⟨_, rfl⟩); (replace H : (if x7_1.length + y377.length < 17592186044416 then (impl_drawPlaces.l0 k1 a1 y374 (x7_1 ++ y377) ji5 ji5 (wrap64 (x16_1 + 1))) else (none)) = some (r1, r2) := qY hy377 H); (have Ny377 := Aside0.mk hy377); clear hy377
      by_cases c10 : x7_1.length + y377.length < 17592186044416
      ·rw [if_pos c10] at H
       (have LMc10 := Aside0.mk c10); clear c10; (obtain ⟨y380, hy380⟩ : ∃ y_ : List Int, y_ = (x7_1 ++ y377) := ⟨_, rfl⟩); (replace H : (impl_drawPlaces.l0 k1 a1 y374 y380 ji5 ji5 (wrap64 (x16_1 + 1))) = some (r1, r2) := qY hy380 H); (have Ny380 := Aside0.mk hy380); clear hy380; (have H' := Aside0.mk H); clear H
       go_wp2_with (first | ((with_reducible refine gate_builtin (b := .append) (xs := #[.tmp 19, .tmp 23]) rfl ?_); at_builtin; refine Kd.R_append (Kd.int .i64) (w0 := w) w.heap.size rfl (.tmp 19) (.tmp 23) 25 3 (.int .i64 0) 8 rfl Tryz.underlying25 info3 rfl (by decide) (by omega) u6 x6_1 (wrap64 ((wrap64 (6 * x16_1)) + 5)) [.int .i64 (wrap64 ((wrap64 (6 * x16_1)) + 5))] (fun k_ => some k_ ≠ (u7 : Value).ownBlock) (fun _ => False) rfl rfl ?aP (fun _ hk => hk.elim) ?aF ?aO ?aB ?aS ?aL ?_; (case aP => exact rfl); (case aB => exact (qS1 HB GE373)); (case aF => exact (fun k_ hk => Kd.fresh' (Kd.R_lt (qR HO_7)) k_ hk)); (case aO => exact (qR HO_6)); (case aS => exact (below_size (qS1 HB GE373))); (case aL => have := LMc9.out; omega); intro v375 w11 ho hb hg hat; rw [← Ny374.out] at ho; replace HO_7 := Aside0.mk (Kd.R_after (ok := (fun _ => True)) (by (with_reducible repeat (first | apply Kd.R_alloc | apply Kd.R_drewN | apply Kd.R_drew)); exact Kd.R_mono HO_7.out (fun _ hk => ⟨trivial, hk⟩)) hg hat); replace BK373 := Aside0.mk (blk_grown (qB BK373) hg (Kd.R_ne HO_6.out BK373.out (by decide))); replace HB := Aside0.mk (hb); have HO376 := Aside0.mk (ho); clear HO_6; clear ho hb hg hat) | ((with_reducible refine gate_dst (N := 38) rfl ?_); refine Kd.R_lit (Kd.int .i64) _ 3 ?hg (N := 38) ?hd (xs := ([wrap64 ((wrap64 (6 * x16_1)) + 1), wrap64 ((wrap64 (6 * x16_1)) + 2), wrap64 ((wrap64 (6 * x16_1)) + 3), wrap64 ((wrap64 (6 * x16_1)) + 4)] : List Int)) (inner := [.int .i64 (wrap64 ((wrap64 (6 * x16_1)) + 1)), .int .i64 (wrap64 ((wrap64 (6 * x16_1)) + 2)), .int .i64 (wrap64 ((wrap64 (6 * x16_1)) + 3)), .int .i64 (wrap64 ((wrap64 (6 * x16_1)) + 4))]) (ok := fun _ => True) (okp := fun _ => True) ?hr ?hp (fun _ hk => hk) trivial (Below.refl _ _) (Nat.le_refl _) (by simp) ?_; (case hd => rfl); (case hg => rfl); (case hr => first | (go_simp; done) | (go_simp; rfl)); (case hp => exact (Reps.one (show Kd.M (Kd.int .i64) _ _ _ (wrap64 ((wrap64 (6 * x16_1)) + 1)) [.int .i64 (wrap64 ((wrap64 (6 * x16_1)) + 1))] from rfl) (Reps.one (show Kd.M (Kd.int .i64) _ _ _ (wrap64 ((wrap64 (6 * x16_1)) + 2)) [.int .i64 (wrap64 ((wrap64 (6 * x16_1)) + 2))] from rfl) (Reps.one (show Kd.M (Kd.int .i64) _ _ _ (wrap64 ((wrap64 (6 * x16_1)) + 3)) [.int .i64 (wrap64 ((wrap64 (6 * x16_1)) + 3))] from rfl) (Reps.one (show Kd.M (Kd.int .i64) _ _ _ (wrap64 ((wrap64 (6 * x16_1)) + 4)) [.int .i64 (wrap64 ((wrap64 (6 * x16_1)) + 4))] from rfl) (Reps.none _ _)))))); intro v378 w12 ho13 hb hg_ hnew_; clear hg_ hnew_; (first | rw [← Ny377.out] at ho13 | (simp only [Int.reduceToNat] at ho13; rw [← Ny377.out] at ho13)); have HO379 := Aside0.mk (Kd.R_lower (Kd.R_new' (Kd.R_new' ho13 (Kd.R_lt (qR HO_7))) (Kd.R_lt (qR HO376))) (below_size (qS1 HB GE373))); replace HO_7 := Aside0.mk (Kd.R_elder' (qR HO_7) (Kd.R_base ho13) hb); replace HO376 := Aside0.mk (Kd.R_elder' (qR HO376) (Kd.R_base ho13) hb); replace BK373 := qD BK373 hb; replace HB := Aside0.mk (below_step (qS1 HB GE373) hb); clear hb ho13; obtain ⟨Ao15, co15, eo15⟩ := Kd.R_slice HO379.out; subst eo15) | ((with_reducible refine gate_builtin (b := .append) (xs := #[.tmp 25, .tmp 38]) rfl ?_); at_builtin; refine Kd.R_append_rows (Kd.int .i64) (w0 := w) w.heap.size rfl (.tmp 25) (.tmp 38) 25 3 (.int .i64 0) 8 rfl Tryz.underlying25 info3 rfl (by decide) (by omega) u7 x7_1 y377 _ _ _ (fun k_ => some k_ ≠ (v375 : Value).ownBlock ∧ some k_ ≠ (.slice Ao15 y377.length co15 : Value).ownBlock) (fun _ => False) rfl rfl ?aO ?aR (fun _ _ h => h) (fun _ h => h.elim) ?aF ?aB ?aS ?aL ?_; (case aR => repeat (first | exact (Kd.R_reads' HO379.out).2.2 | (with_reducible refine Kd.C_alloc ?_ _) | (with_reducible refine Kd.C_drewN ?_ _) | (with_reducible refine Kd.C_drew ?_))); (case aB => exact (qS1 HB GE373)); (case aF => exact (fun k_ hk => ⟨Kd.fresh' (Kd.R_lt (qR HO376)) k_ hk, Kd.fresh' (Kd.R_lt (qR HO379)) k_ hk⟩)); (case aO => exact (by (with_reducible repeat (first | apply Kd.R_alloc | apply Kd.R_drewN | apply Kd.R_drew)); exact Kd.R_mono HO_7.out (fun _ hk => ⟨hk.1.2, hk.2⟩))); (case aS => exact (below_size (qS1 HB GE373))); (case aL => have := LMc10.out; omega); intro v381 w14 ho hb hg hat; rw [← Ny380.out] at ho; replace BK373 := Aside0.mk (blk_grown (qB BK373) hg (Kd.R_ne HO_7.out BK373.out (by decide))); replace HO376 := Aside0.mk (Kd.R_after (ok := (fun k_ => some k_ ≠ (.slice Ao15 y377.length co15 : Value).ownBlock)) (by (with_reducible repeat (first | apply Kd.R_alloc | apply Kd.R_drewN | apply Kd.R_drew)); exact Kd.R_mono HO376.out (fun _ hk => ⟨hk.2, hk.1⟩)) hg hat); replace HO379 := Aside0.mk (Kd.R_after (ok := (fun k_ => some k_ ≠ (v375 : Value).ownBlock)) (by (with_reducible repeat (first | apply Kd.R_alloc | apply Kd.R_drewN | apply Kd.R_drew)); exact Kd.R_mono HO379.out (fun _ hk => ⟨hk.2, hk.1.2⟩)) hg hat); replace HB := Aside0.mk (hb); have HO382 := Aside0.mk (ho); clear HO_7; clear ho hb hg hat))
       go_roundg k1
       case measure => have := HK1.out; omega
       case rel => exact ⟨(y374), (y380), (wrap64 (x16_1 + 1)), qV, H', ⟨by have := HK1.out; omega⟩, ⟨by (with_reducible repeat (first | apply Kd.R_alloc | apply Kd.R_drewN | apply Kd.R_drew)); exact Kd.R_mono HO376.out (fun _ hk => hk.2)⟩, ⟨by (with_reducible repeat (first | apply Kd.R_alloc | apply Kd.R_drewN | apply Kd.R_drew)); exact Kd.R_mono HO382.out (fun _ hk => hk.1)⟩, ⟨qB BK373⟩, ⟨qS1 HB GE373⟩⟩
      ·rw [if_neg c10] at H
       exact absurd H (by simp)
     ·rw [if_neg c9] at H
      exact absurd H (by simp)
    ·rw [if_neg c8] at H
     (have c8b0 : decide (x16_1 < ji5) = false := decide_eq_false c8); clear c8; (have H' := Aside0.mk H); clear H
     go_wp2
     go_loopg [6, 7, 42] k1 (fun kq v6 v7 v42 w' => ∃ (x6_2 : List Int) (x7_2 : List Int) (x42_2 : Int), v42 = .int .i64 x42_2 ∧ Aside0 (impl_drawPlaces.l1 kq x6_2 x7_2 ji5 a1 x42_2 = some (r1, r2)) ∧ Aside0 (kq ≤ k1) ∧ Aside0 (Kd.R (Kd.int .i64) 3 w' w.heap.size (fun k_ => some k_ ≠ (v7 : Value).ownBlock) v6 x6_2) ∧ Aside0 (Kd.R (Kd.int .i64) 3 w' w.heap.size (fun k_ => some k_ ≠ (v6 : Value).ownBlock) v7 x7_2) ∧ Aside0 (w'.heap[gb373]? = some (.cells #[.int .i64 a0_0, .int .i64 a0_1, .int .i64 a0_2, .int .i64 a0_3] 29 (0, 0))) ∧ Aside0 (Below w.heap.size w w'))
     case atStart => exact ⟨(x6_1), (x7_1), (0), qV, H', ⟨Nat.le_refl _⟩, ⟨qR HO_6⟩, ⟨qR HO_7⟩, ⟨qB BK373⟩, ⟨qS1 HB GE373⟩⟩
     case round =>
      clear H'; (try clear c1); (try clear p2); (try clear c4); (try clear c4b0); (try clear c4b1); (try clear c6); (try clear p6); (try clear c8); (try clear c8b0); (try clear c9); (try clear c10); (try clear hcz7_0); (try clear hcz7_1); (try clear hcz7_2); (try clear hcz7_3); (try clear hfz7_0); (try clear hfz7_1); (try clear hfz7_2); (try clear hfz7_3); (try clear p2); (try clear p6); (obtain ⟨x6_2, x7_2, x42_2, rfl, HA, HK2, HO_6, HO_7, BK373, HB⟩ := hrel)
      cases gk with
      | zero => exact absurd HA.out (by simp [impl_drawPlaces.l1])
      | succ k2 =>
       (have H := HA.out); clear HA; (simp only [impl_drawPlaces.l1] at H)
       by_cases c16 : x42_2 < a1
       ·rw [if_pos c16] at H
        (have c16b0 : decide (x42_2 < a1) = true := decide_eq_true c16); clear c16
        by_cases c17 : x6_2.length < 17592186044416
        ·rw [if_pos c17] at H
         (have LMc17 := Aside0.mk c17); clear c17; (obtain ⟨y383, hy383⟩ : ∃ y_ : List Int, y_ = (x6_2 ++ [wrap64 ((wrap64 (6 * ji5)) + (wrap64 (2 * x42_2)))]) := ⟨_, rfl⟩); (replace H : (if x7_2.length < 17592186044416 then (impl_drawPlaces.l1 k2 y383 (x7_2 ++ [wrap64 ((wrap64 ((wrap64 (6 * ji5)) + (wrap64 (2 * x42_2)))) + 1)]) ji5 a1 (wrap64 (x42_2 + 1))) else (none)) = some (r1, r2) := qY hy383 H); (have Ny383 := Aside0.mk hy383); clear hy383
         by_cases c18 : x7_2.length < 17592186044416
         ·rw [if_pos c18] at H
          (have LMc18 := Aside0.mk c18); clear c18; (obtain ⟨y386, hy386⟩ : ∃ y_ : List Int, y_ = (x7_2 ++ [wrap64 ((wrap64 ((wrap64 (6 * ji5)) + (wrap64 (2 * x42_2)))) + 1)]) := ⟨_, rfl⟩); (replace H : (impl_drawPlaces.l1 k2 y383 y386 ji5 a1 (wrap64 (x42_2 + 1))) = some (r1, r2) := qY hy386 H); (have Ny386 := Aside0.mk hy386); clear hy386; (have H' := Aside0.mk H); clear H
          go_wp2_with (first | ((with_reducible refine gate_builtin (b := .append) (xs := #[.tmp 45, .tmp 51]) rfl ?_); at_builtin; refine Kd.R_append (Kd.int .i64) (w0 := w) w.heap.size rfl (.tmp 45) (.tmp 51) 25 3 (.int .i64 0) 8 rfl Tryz.underlying25 info3 rfl (by decide) (by omega) u6 x6_2 (wrap64 ((wrap64 (6 * ji5)) + (wrap64 (2 * x42_2)))) [.int .i64 (wrap64 ((wrap64 (6 * ji5)) + (wrap64 (2 * x42_2))))] (fun k_ => some k_ ≠ (u7 : Value).ownBlock) (fun _ => False) rfl rfl ?aP (fun _ hk => hk.elim) ?aF ?aO ?aB ?aS ?aL ?_; (case aP => exact rfl); (case aB => exact (qS1 HB GE373)); (case aF => exact (fun k_ hk => Kd.fresh' (Kd.R_lt (qR HO_7)) k_ hk)); (case aO => exact (qR HO_6)); (case aS => exact (below_size (qS1 HB GE373))); (case aL => have := LMc17.out; omega); intro v384 w19 ho hb hg hat; rw [← Ny383.out] at ho; replace HO_7 := Aside0.mk (Kd.R_after (ok := (fun _ => True)) (by (with_reducible repeat (first | apply Kd.R_alloc | apply Kd.R_drewN | apply Kd.R_drew)); exact Kd.R_mono HO_7.out (fun _ hk => ⟨trivial, hk⟩)) hg hat); replace BK373 := Aside0.mk (blk_grown (qB BK373) hg (Kd.R_ne HO_6.out BK373.out (by decide))); replace HB := Aside0.mk (hb); have HO385 := Aside0.mk (ho); clear HO_6; clear ho hb hg hat) | ((with_reducible refine gate_builtin (b := .append) (xs := #[.tmp 53, .tmp 60]) rfl ?_); at_builtin; refine Kd.R_append (Kd.int .i64) (w0 := w) w.heap.size rfl (.tmp 53) (.tmp 60) 25 3 (.int .i64 0) 8 rfl Tryz.underlying25 info3 rfl (by decide) (by omega) u7 x7_2 (wrap64 ((wrap64 ((wrap64 (6 * ji5)) + (wrap64 (2 * x42_2)))) + 1)) [.int .i64 (wrap64 ((wrap64 ((wrap64 (6 * ji5)) + (wrap64 (2 * x42_2)))) + 1))] (fun k_ => some k_ ≠ (v384 : Value).ownBlock) (fun _ => False) rfl rfl ?aP (fun _ hk => hk.elim) ?aF ?aO ?aB ?aS ?aL ?_; (case aP => exact rfl); (case aB => exact (qS1 HB GE373)); (case aF => exact (fun k_ hk => Kd.fresh' (Kd.R_lt (qR HO385)) k_ hk)); (case aO => exact (by (with_reducible repeat (first | apply Kd.R_alloc | apply Kd.R_drewN | apply Kd.R_drew)); exact Kd.R_mono HO_7.out (fun _ hk => hk.2))); (case aS => exact (below_size (qS1 HB GE373))); (case aL => have := LMc18.out; omega); intro v387 w20 ho hb hg hat; rw [← Ny386.out] at ho; replace BK373 := Aside0.mk (blk_grown (qB BK373) hg (Kd.R_ne HO_7.out BK373.out (by decide))); replace HO385 := Aside0.mk (Kd.R_after (ok := (fun _ => True)) (by (with_reducible repeat (first | apply Kd.R_alloc | apply Kd.R_drewN | apply Kd.R_drew)); exact Kd.R_mono HO385.out (fun _ hk => ⟨trivial, hk⟩)) hg hat); replace HB := Aside0.mk (hb); have HO388 := Aside0.mk (ho); clear HO_7; clear ho hb hg hat))
          go_roundg k2
          case measure => have := HK1.out; have := HK2.out; omega
          case rel => exact ⟨(y383), (y386), (wrap64 (x42_2 + 1)), qV, H', ⟨by have := HK1.out; have := HK2.out; omega⟩, ⟨by (with_reducible repeat (first | apply Kd.R_alloc | apply Kd.R_drewN | apply Kd.R_drew)); exact Kd.R_mono HO385.out (fun _ hk => hk.2)⟩, ⟨qR HO388⟩, ⟨qB BK373⟩, ⟨qS1 HB GE373⟩⟩
         ·rw [if_neg c18] at H
          exact absurd H (by simp)
        ·rw [if_neg c17] at H
         exact absurd H (by simp)
       ·rw [if_neg c16] at H
        (have c16b0 : decide (x42_2 < a1) = false := decide_eq_false c16); clear c16; (simp only [Option.some.injEq, Prod.mk.injEq] at H); (obtain ⟨rfl, rfl⟩ := H)
        go_wp2
        go_ret2
        exact ⟨_, _, by first | rfl | (simp [errW_none, errW_some] <;> rfl) | (simp only [← hji3, ← hji5]; first | rfl | (simp [errW_none, errW_some] <;> rfl)) | (simp [*, errW_none, errW_some] <;> rfl), qR HO_6, qR HO_7, qS1 HB GE373⟩
 ·rw [if_neg c4] at H
  exact absurd H (by simp)
def impl_LeafOf.f (a0 : Int) (a1 : Int) : Option (Int) := (impl_within.f a0 0 65535).bind fun t389 => (if t389 = true then ((impl_within.f a1 0 6).bind fun t390 => (if t390 = true then (if 0 ≤ a1 then (some (Go.bits .and .i64 a0 (wrap64 ((shl .i64 1 a1) - 1)))) else (none)) else (some (-1)))) else (some (-1)))
set_option maxHeartbeats 8000000 in
set_option maxRecDepth 100000 in
theorem impl_LeafOf.calls (a0 : Int) (a1 : Int) (r : Int) (w : World) (h : impl_LeafOf.f a0 a1 = some r) :
  Calls Tryz.prog 70 #[.int .i64 a0, .int .i64 a1] w fun e w' => e = .returned (.int .i64 r) ∧ Drawn0 w w' := by
 (have H : ((impl_within.f a0 0 65535).bind fun t389 => (if t389 = true then ((impl_within.f a1 0 6).bind fun t390 => (if t390 = true then (if 0 ≤ a1 then (some (Go.bits .and .i64 a0 (wrap64 ((shl .i64 1 a1) - 1)))) else (none)) else (some (-1)))) else (some (-1)))) = some r := h); clear h; (replace H := Option.bind_eq_some_iff.mp H); (obtain ⟨t389, A30, H⟩ := H)
 try dsimp only at H
 (have A3 := Aside0.mk A30); clear A30
 by_cases c4 : t389 = true
 ·subst c4
  (have H1 : ((impl_within.f a1 0 6).bind fun t390 => (if t390 = true then (if 0 ≤ a1 then (some (Go.bits .and .i64 a0 (wrap64 ((shl .i64 1 a1) - 1)))) else (none)) else (some (-1)))) = some r := by rw [if_pos rfl] at H; exact H); clear H; (have H := H1); clear H1; (replace H := Option.bind_eq_some_iff.mp H); (obtain ⟨t390, A50, H⟩ := H)
  try dsimp only at H
  (have A5 := Aside0.mk A50); clear A50
  by_cases c6 : t390 = true
  ·subst c6
   (have H1 : (if 0 ≤ a1 then (some (Go.bits .and .i64 a0 (wrap64 ((shl .i64 1 a1) - 1)))) else (none)) = some r := by rw [if_pos rfl] at H; exact H); clear H; (have H := H1); clear H1
   by_cases c7 : 0 ≤ a1
   ·rw [if_pos c7] at H
    (have c7b0 := eq_true c7); (have c7b1 : decide (0 ≤ a1) = true := decide_eq_true c7); clear c7; (obtain ⟨ji8, hji8⟩ : ∃ j_ : Int, (shl .i64 1 a1) = j_ := ⟨_, rfl⟩); (replace H : (some (Go.bits .and .i64 a0 (wrap64 ((ji8) - 1)))) = some r := by first | (rw [hji8] at H; exact H) | (simp only [hji8] at H ⊢; exact H)); (try rw [hji8] at A3); (try rw [hji8] at A5); (have hji8_ : (IntKind.i64.wrap (1 * 2 ^ min a1.toNat 64)) = ji8 := hji8); (have hji8z : a1 ≤ 64 → (IntKind.i64.wrap (1 * 2 ^ a1.toNat)) = ji8 := shl_small hji8); (have hji8u : (IntKind.i64.wrap (2 ^ min a1.toNat 64)) = ji8 := by have h_ := hji8_; rw [Int.one_mul] at h_; exact h_); (have hji8v : a1 ≤ 64 → (IntKind.i64.wrap (2 ^ a1.toNat)) = ji8 := fun hle_ => by have h_ := hji8z hle_; rw [Int.one_mul] at h_; exact h_); (have hji8y : (wrap64 (1 * 2 ^ min a1.toNat 64)) = ji8 := (i64_w _).symm.trans hji8_); (have hji8x : a1 ≤ 64 → (wrap64 (1 * 2 ^ a1.toNat)) = ji8 := fun h_ => (i64_w _).symm.trans (hji8z h_)); (obtain rfl := Option.some.inj H)
    go_enter Tryz.func70, Tryz.ntmps70
    go_wp2_with (first | ((with_reducible refine gate_callee (f := 61) rfl ?_); refine goesL_ (some 6) rfl rfl Tryz.func61 (by kernel_rfl) rfl #[.int .i64 a0, .int .i64 0, .int .i64 65535] rfl qL ?_; (with_reducible refine (impl_within.calls a0 0 65535 true _ A3.out).mono ?_); rintro e w' ⟨rfl, ⟨nd, rfl⟩⟩; refine ⟨_, rfl, ?_⟩) | (go_at_call 61; (with_reducible refine (impl_within.calls a1 0 6 true _ A5.out).mono ?_); rintro e w' ⟨rfl, ⟨nd, rfl⟩⟩))
    go_ret
    exact ⟨by first | rfl | (simp; done) | (simp only [← hji8] <;> (first | rfl | simp)) | (simp [*]; done), by repeat (first | exact Drawn0.refl _ | apply Drawn0.step)⟩
   ·rw [if_neg c7] at H
    exact absurd H (by simp)
  ·replace c6 := Bool.eq_false_iff.mpr c6
   (subst c6); (have H1 : (some (-1)) = some r := by rw [if_neg (show ¬ (false = true) by decide)] at H; exact H); clear H; (have H := H1); clear H1; (obtain rfl := Option.some.inj H)
   go_enter Tryz.func70, Tryz.ntmps70
   go_wp2_with (first | ((with_reducible refine gate_callee (f := 61) rfl ?_); refine goesL_ (some 6) rfl rfl Tryz.func61 (by kernel_rfl) rfl #[.int .i64 a0, .int .i64 0, .int .i64 65535] rfl qL ?_; (with_reducible refine (impl_within.calls a0 0 65535 true _ A3.out).mono ?_); rintro e w' ⟨rfl, ⟨nd, rfl⟩⟩; refine ⟨_, rfl, ?_⟩) | (go_at_call 61; (with_reducible refine (impl_within.calls a1 0 6 false _ A5.out).mono ?_); rintro e w' ⟨rfl, ⟨nd, rfl⟩⟩))
   go_ret
   exact qZ
 ·replace c4 := Bool.eq_false_iff.mpr c4
  (subst c4); (have H1 : (some (-1)) = some r := by rw [if_neg (show ¬ (false = true) by decide)] at H; exact H); clear H; (have H := H1); clear H1; (obtain rfl := Option.some.inj H)
  go_enter Tryz.func70, Tryz.ntmps70
  go_wp2_with (first | ((with_reducible refine gate_callee (f := 61) rfl ?_); refine goesL_ (some 6) rfl rfl Tryz.func61 (by kernel_rfl) rfl #[.int .i64 a0, .int .i64 0, .int .i64 65535] rfl qL ?_; (with_reducible refine (impl_within.calls a0 0 65535 false _ A3.out).mono ?_); rintro e w' ⟨rfl, ⟨nd, rfl⟩⟩; refine ⟨_, rfl, ?_⟩))
  go_ret
  exact qZ
def idB (n x : Int) : Bool := decide (-1 ≤ x ∧ x ≤ wrap64 (n - 1))
theorem within_some (x lo hi : Int) : impl_within.f x lo hi = some (decide (lo ≤ x ∧ x ≤ hi)) := by
 unfold impl_within.f
 by_cases h : x ≥ lo
 ·rw [if_pos h]
  by_cases h2 : x ≤ hi <;> simp [h2] <;> omega
 ·rw [if_neg h]
  simp
  omega
set_option maxHeartbeats 8000000 in
set_option maxRecDepth 100000 in
theorem impl_isSeq.closure (x n : Int) (g : Nat) (w : World) (hb : w.heap[g]? = some (.cells #[.int .i64 n] 3 (0, 0))) :
  Calls Tryz.prog 121 #[.int .i64 x, .pointer (some ⟨g, 0, none⟩)] w fun e w' => e = .returned (.bool (!idB n x)) ∧ Below w.heap.size w w' := by
 (have hc0 : w.cell? ⟨g, 0, none⟩ = some (.int .i64 n) := (blk_cell hb 0).trans rfl); (have hf0 := blk_frozen hb 0); (have HA := Aside0.mk (within_some x (-1) (wrap64 (n - 1)))); clear hb
 unfold idB
 generalize decide (-1 ≤ x ∧ x ≤ wrap64 (n - 1)) = b at HA
 go_enter Tryz.func121, Tryz.ntmps121
 go_wp2_with (go_at_call 61; refine (impl_within.calls x (-1) (wrap64 (n - 1)) b _ HA.out).mono ?_; rintro e w' ⟨rfl, ⟨nd, rfl⟩⟩)
 go_ret
 exact ⟨rfl, pw_below_drewN (Below.refl _ _) _⟩
theorem impl_isSeq.enters : ∀ args w, (callFunc 121 args).run Tryz.prog w = .ok (.enter 121 args) w := enters_of Tryz.func121 (by kernel_rfl) rfl
def impl_isSeq.f (a0 : Int) (l1 : List Int) : Option Bool := if decide (0 ≤ a0 ∧ a0 ≤ 256) = true then (if (l1.length : Int) ≤ 700 then (contF (fun x => some (!idB a0 x)) l1).bind fun b => some (!b) else some false) else some false
set_option maxHeartbeats 8000000 in
set_option maxRecDepth 100000 in
theorem impl_isSeq.calls (a0 : Int) (A1 : Option Addr) (c1 : Nat) (l1 : List Int) (r : Bool) (w : World) (hr1 : Kd.C (Kd.int .i64) w A1 l1.length l1) (hc1 : l1.length ≤ c1) (h : impl_isSeq.f a0 l1 = some r) :
  Calls Tryz.prog 108 #[.int .i64 a0, .slice A1 l1.length c1] w fun e w' => e = .returned (.bool r) ∧ Below w.heap.size w w' := by
 unfold impl_isSeq.f at h
 (have HW := Aside0.mk (within_some a0 0 256)); (have hbx : (w.alloc (.cells #[.int .i64 a0] 3)).heap[w.heap.size]? = some (.cells #[.int .i64 a0] 3 (0, 0)) := heap_alloc_new w _); (have hbel : Below w.heap.size w (w.alloc (.cells #[.int .i64 a0] 3)) := (Below.refl _ w).alloc (Nat.le_refl _) _)
 by_cases c1_ : decide (0 ≤ a0 ∧ a0 ≤ 256) = true
 ·rw [if_pos c1_] at h
  (rw [c1_] at HW); clear c1_
  by_cases c2_ : (l1.length : Int) ≤ 700
  ·rw [if_pos c2_] at h
   (obtain ⟨b, hb, h2⟩ := Option.bind_eq_some_iff.mp h); (obtain rfl : (!b) = r := by simpa using h2); (have c2b0 : decide ((l1.length : Int) ≤ 700) = true := decide_eq_true c2_)
   have HC := Aside0.mk (fun (m : Nat) => cont_3 (fun x => some (!idB a0 x)) 121 #[.pointer (some ⟨w.heap.size, 0, none⟩)] impl_isSeq.enters A1 c1 l1 b ((w.alloc (.cells #[.int .i64 a0] 3)).drewN m) (Kd.C_below hr1 (pw_below_drewN hbel m)) (fun W x b' hW hx h' => by
    obtain rfl : (!idB a0 x) = b' := Option.some.inj h'
    exact impl_isSeq.closure x a0 w.heap.size W (blk_below (blk_drewN hbx m) hW)) hb)
   (have hcz : (w.alloc (.cells #[.int .i64 a0] 3)).cell? ⟨w.heap.size, 0, none⟩ = some (.int .i64 a0) := (blk_cell hbx 0).trans rfl); (have HB := Aside0.mk hbel); clear h h2 hb hr1 hc1 c2_ hbx hbel
   go_enter Tryz.func108, Tryz.ntmps108
   go_wp2_with (first | (go_at_call 61; refine (impl_within.calls a0 0 256 true _ HW.out).mono ?_; rintro e w' ⟨rfl, ⟨nd, rfl⟩⟩) | (go_at_call 66; refine (HC.out _).mono ?_; rintro e w' ⟨rfl, hb'⟩))
   go_ret
   exact ⟨rfl, (pw_below_drewN HB.out _).trans (hb'.mono (by simp))⟩
  ·rw [if_neg c2_] at h
   (obtain rfl := Option.some.inj h); (have c2b0 : decide ((l1.length : Int) ≤ 700) = false := decide_eq_false c2_); (have hcz : (w.alloc (.cells #[.int .i64 a0] 3)).cell? ⟨w.heap.size, 0, none⟩ = some (.int .i64 a0) := (blk_cell hbx 0).trans rfl); (have HB := Aside0.mk hbel); clear h hr1 hc1 c2_ hbx hbel
   go_enter Tryz.func108, Tryz.ntmps108
   go_wp2_with (go_at_call 61; refine (impl_within.calls a0 0 256 true _ HW.out).mono ?_; rintro e w' ⟨rfl, ⟨nd, rfl⟩⟩)
   go_ret
   exact ⟨rfl, pw_below_drewN HB.out _⟩
 ·rw [if_neg c1_] at h
  (rw [Bool.eq_false_iff.mpr c1_] at HW); (obtain rfl := Option.some.inj h); (have hcz : (w.alloc (.cells #[.int .i64 a0] 3)).cell? ⟨w.heap.size, 0, none⟩ = some (.int .i64 a0) := (blk_cell hbx 0).trans rfl); (have HB := Aside0.mk hbel); clear h hr1 hc1 c1_ hbx hbel
  go_enter Tryz.func108, Tryz.ntmps108
  go_wp2_with (go_at_call 61; refine (impl_within.calls a0 0 256 false _ HW.out).mono ?_; rintro e w' ⟨rfl, ⟨nd, rfl⟩⟩)
  go_ret
  exact ⟨rfl, pw_below_drewN HB.out _⟩
def impl_isLog.f (a0 : Int) : Option (Bool) := (impl_within.f a0 0 6).bind fun t391 => (some t391)
set_option maxHeartbeats 8000000 in
set_option maxRecDepth 100000 in
theorem impl_isLog.calls (a0 : Int) (r : Bool) (w : World) (h : impl_isLog.f a0 = some r) :
  Calls Tryz.prog 109 #[.int .i64 a0] w fun e w' => e = .returned (.bool r) ∧ Drawn0 w w' := by
 (have H : ((impl_within.f a0 0 6).bind fun t391 => (some t391)) = some r := h); clear h; (replace H := Option.bind_eq_some_iff.mp H); (obtain ⟨t391, A20, H⟩ := H); (replace H : (some t391) = some r := H); (have A2 := Aside0.mk A20); clear A20; (obtain rfl := Option.some.inj H)
 go_enter Tryz.func109, Tryz.ntmps109
 go_wp2_with (first | ((with_reducible refine gate_callee (f := 61) rfl ?_); refine goesL_ (some 4) rfl rfl Tryz.func61 (by kernel_rfl) rfl #[.int .i64 a0, .int .i64 0, .int .i64 6] rfl qL ?_; (with_reducible refine (impl_within.calls a0 0 6 t391 _ A2.out).mono ?_); rintro e w' ⟨rfl, ⟨nd, rfl⟩⟩; refine ⟨_, rfl, ?_⟩))
 go_ret
 exact qZ
mutual
def impl_coords.l0 : Nat → Int → List Int → List Int → Int → Int → Option (List Int)
 | 0, _, _, _, _, _ => none
 | k + 1, x0, x1, x5, x13, x14 => if x14 < x13 then (if 0 ≤ x14 then (if x14 < (x5.length : Int) then (impl_coords.l0 k x0 x1 (x5.set (x14 : Int).toNat x14) x13 (wrap64 (x14 + 1))) else (none)) else (none)) else (if 0 ≤ (x1.length : Int) then (if ((x1.length : Int) : Int).toNat ≤ 35184372088832 then (impl_coords.l1 k x0 x5 (List.replicate ((x1.length : Int) : Int).toNat 0) x1 (x1.length : Int) 0) else (none)) else (none))
def impl_coords.l1 : Nat → Int → List Int → List Int → List Int → Int → Int → Option (List Int)
 | 0, _, _, _, _, _, _ => none
 | k + 1, x0, x5, x7, x25, x26, x27 => if x27 < x26 then (if 0 ≤ x27 then (if x27 < (x25.length : Int) then (if x27 < (x7.length : Int) then ((some (x7.set (x27 : Int).toNat (wrap64 (x0 + x27)) : List Int)).bind fun y400 => (if (rd x25 x27) ≥ 0 then (if 0 ≤ (rd x25 x27) then (if (rd x25 x27) < (x5.length : Int) then (impl_coords.l1 k x0 (x5.set ((rd x25 x27) : Int).toNat (wrap64 (x0 + x27))) (y400.set (x27 : Int).toNat (rd x5 (rd x25 x27))) x25 x26 (wrap64 (x27 + 1))) else (none)) else (none)) else (impl_coords.l1 k x0 x5 y400 x25 x26 (wrap64 (x27 + 1))))) else (none)) else (none)) else (none)) else (some x7)
end
def impl_coords.f (k : Nat) (a0 : Int) (l1 : List Int) : Option (List Int) := if 0 ≤ a0 then (if (a0 : Int).toNat ≤ 35184372088832 then ((some (List.replicate (a0 : Int).toNat 0 : List Int)).bind fun y392 => (impl_coords.l0 k a0 l1 y392 (y392.length : Int) 0)) else (none)) else (none)
set_option maxHeartbeats 8000000 in
set_option maxRecDepth 100000 in
theorem impl_coords.calls (k : Nat) (a0 : Int) (A1 : Option Addr) (c1 : Nat) (l1 : List Int) (r : List Int) (w : World) (hr1 : Kd.C (Kd.int .i64) w A1 l1.length l1) (hc1 : l1.length ≤ c1) (h : impl_coords.f k a0 l1 = some r) :
  Calls Tryz.prog 110 #[.int .i64 a0, .slice A1 l1.length c1] w fun e w' => ∃ v0_ : Value, e = .returned (v0_) ∧ Kd.R (Kd.int .i64) 3 w' w.heap.size (fun _ => True) v0_ r ∧ Below w.heap.size w w' := by
 (have HR1 := Aside0.mk hr1); (have HC1 := Aside0.mk hc1); clear hr1 hc1; (have HB := Aside0.mk (Below.refl w.heap.size w)); (have H : (if 0 ≤ a0 then (if (a0 : Int).toNat ≤ 35184372088832 then ((some (List.replicate (a0 : Int).toNat 0 : List Int)).bind fun y392 => (impl_coords.l0 k a0 l1 y392 (y392.length : Int) 0)) else (none)) else (none)) = some r := h); clear h
 by_cases c3 : 0 ≤ a0
 ·rw [if_pos c3] at H
  (have c3b0 := eq_true c3); (have c3b1 : decide (0 ≤ a0) = true := decide_eq_true c3); clear c3
  by_cases c4 : (a0 : Int).toNat ≤ 35184372088832
  ·rw [if_pos c4] at H
   (have c4b0 := eq_true c4); (have c4b1 : decide ((a0 : Int).toNat ≤ 35184372088832) = true := decide_eq_true c4); clear c4; (obtain ⟨y392, hy392⟩ : ∃ y_ : List Int, y_ = (List.replicate (a0 : Int).toNat 0) := ⟨_, rfl⟩); (replace H : (impl_coords.l0 k a0 l1 y392 (y392.length : Int) 0) = some r := qY hy392 H); (have Ny392 := Aside0.mk hy392); clear hy392; (have H' := Aside0.mk H); clear H
   go_enter Tryz.func110, Tryz.ntmps110
   go_wp2_with (first | ((with_reducible refine gate_dst (N := 11) rfl ?_); refine Kd.R_make (Kd.int .i64) _ 3 rfl (N := 11) rfl 25 _ _ rfl a0 rfl rfl Tryz.underlying25 (.int .i64 0) 8 info3 rfl (by decide) (by omega) 0 (ok := fun _ => True) (okp := fun _ => True) rfl (fun _ hk => hk) trivial (qO) (Nat.le_trans (Nat.mul_le_mul_right _ (qO : a0.toNat ≤ 35184372088832)) (by omega)) (Below.refl _ _) (Nat.le_refl _) ?_; intro v393 w5 ho6 hb hg_ hnew_; clear hg_ hnew_; (first | rw [← Ny392.out] at ho6 | (simp only [Int.reduceToNat] at ho6; rw [← Ny392.out] at ho6)); have HO394 := Aside0.mk (Kd.R_lower ho6 (below_size (qS0 HB))); replace HB := Aside0.mk (below_step (qS0 HB) hb); clear hb ho6; obtain ⟨Ao7, co7, eo7⟩ := Kd.R_slice HO394.out; subst eo7))
   go_loopg [14] k (fun kq v14 w' => ∃ (x5_1 : List Int) (x14_1 : Int), v14 = .int .i64 x14_1 ∧ Aside0 (impl_coords.l0 kq a0 l1 x5_1 (y392.length : Int) x14_1 = some r) ∧ Aside0 (kq ≤ k) ∧ Aside0 (Kd.R (Kd.int .i64) 3 w' w.heap.size (fun _ => True) (.slice Ao7 y392.length co7) x5_1) ∧ Aside0 (Below w.heap.size w w'))
   case atStart => exact ⟨(y392), (0), qV, H', ⟨Nat.le_refl _⟩, ⟨qR HO394⟩, ⟨qS0 HB⟩⟩
   case round =>
    clear H'; (try clear c1); (try clear p2); (try clear c3); (try clear c3b0); (try clear c3b1); (try clear c4); (try clear c4b0); (try clear c4b1); (obtain ⟨x5_1, x14_1, rfl, HA, HK1, HO_5, HB⟩ := hrel); (have hl5_1 := (Kd.R_reads' HO_5.out).1); (rw [hl5_1] at HO_5); (try simp only [hl5_1])
    cases gk with
    | zero => exact absurd HA.out (by simp [impl_coords.l0])
    | succ k1 =>
     (have H := HA.out); clear HA; (simp only [impl_coords.l0] at H)
     by_cases c8 : x14_1 < (y392.length : Int)
     ·rw [if_pos c8] at H
      (have c8b0 : decide (x14_1 < (y392.length : Int)) = true := decide_eq_true c8); (try simp only [hl5_1] at c8b0); clear c8
      by_cases c9 : 0 ≤ x14_1
      ·rw [if_pos c9] at H
       (have c9b0 : decide (0 ≤ x14_1) = true := decide_eq_true c9); clear c9
       by_cases c10 : x14_1 < (x5_1.length : Int)
       ·rw [if_pos c10] at H
        (have c10b0 : decide (x14_1 < (x5_1.length : Int)) = true := decide_eq_true c10); clear c10; (obtain ⟨y395, hy395⟩ : ∃ y_ : List Int, y_ = (x5_1.set (x14_1 : Int).toNat x14_1) := ⟨_, rfl⟩); (replace H : (impl_coords.l0 k1 a0 l1 y395 (y392.length : Int) (wrap64 (x14_1 + 1))) = some r := qY hy395 H); (have Ny395 := Aside0.mk hy395); clear hy395; (have H' := Aside0.mk H); clear H; (have p11 : 0 ≤ (x14_1 : Int) := qO); (have q11 : (x14_1 : Int) < ((x5_1.length : Int) : Int) := qO); (obtain ⟨go11, co11, eo11, gb11, gl11, cl11, HG11⟩ := Kd.R_form HO_5.out (by omega))
        (first | cases eo11 | (injection eo11 with ea_ en_ ec_; (first | subst ea_ | (injection ea_ with ea_; subst ea_)); subst ec_; clear en_))
        (have GB11 := Aside0.mk gb11); (have GG11 := Aside0.mk HG11); clear gb11 gl11 HG11; (obtain ⟨hx11_0, hf11_0⟩ := Kd.R_celln 0 HO_5.out (x14_1 : Int) p11 q11); (replace p11 := eq_true p11); (replace q11 := eq_true q11); (have HP12 := Kd.R_putg HO_5.out (x14_1 : Int) x14_1)
        go_wp2_with (first | ((with_reducible refine gate_store (t := 3) (p := 20) rfl ?_); refine store_event (t := 3) (p := 20) (v := ?vo_w13) (w1 := (wr.setCell ⟨go11, (x14_1 : Int).toNat, none⟩ (.int .i64 x14_1))) ?hg ?ho ?hn ?hr ?_; (case ho => rfl); (case hg => rfl); (case hn => rfl); (case hr => first | (go_simp; done) | (go_simp; rfl)); intro w13 hw; have hg : wr.grownBy w13 (some go11) := (by rw [hw]; exact HP12.2); have hp_ : Kd.R (Kd.int .i64) 3 w13 w.heap.size (fun _ => True) (.slice (some ⟨go11, 0, none⟩) x5_1.length co7) y395 := (by rw [hw, Ny395.out]; exact HP12.1); clear HP12; replace HO_5 := Aside0.mk (hp_); replace HB := Aside0.mk ((by rw [hw]; exact below_set (HB.out) GB11.out : Below w.heap.size w w13)); clear hg hw hp_))
        (try simp only [← hl5_1])
        go_roundg k1
        case measure => have := HK1.out; omega
        case rel => exact ⟨(y395), (wrap64 (x14_1 + 1)), qV, H', ⟨by have := HK1.out; omega⟩, ⟨by (try simp only [hl5_1]); (with_reducible repeat (first | apply Kd.R_alloc | apply Kd.R_drewN | apply Kd.R_drew)); exact HO_5.out⟩, ⟨qS0 HB⟩⟩
       ·rw [if_neg c10] at H
        exact absurd H (by simp)
      ·rw [if_neg c9] at H
       exact absurd H (by simp)
     ·rw [if_neg c8] at H
      (have c8b0 : decide (x14_1 < (y392.length : Int)) = false := decide_eq_false c8); (try simp only [hl5_1] at c8b0); clear c8
      by_cases c14 : 0 ≤ (l1.length : Int)
      ·rw [if_pos c14] at H
       (have c14b0 := eq_true c14); (have c14b1 : decide (0 ≤ (l1.length : Int)) = true := decide_eq_true c14); clear c14
       by_cases c15 : ((l1.length : Int) : Int).toNat ≤ 35184372088832
       ·rw [if_pos c15] at H
        (have c15b0 := eq_true c15); (have c15b1 : decide (((l1.length : Int) : Int).toNat ≤ 35184372088832) = true := decide_eq_true c15); clear c15; (obtain ⟨y396, hy396⟩ : ∃ y_ : List Int, y_ = (List.replicate ((l1.length : Int) : Int).toNat 0) := ⟨_, rfl⟩); (replace H : (impl_coords.l1 k1 a0 x5_1 y396 l1 (l1.length : Int) 0) = some r := qY hy396 H); (have Ny396 := Aside0.mk hy396); clear hy396; (have H' := Aside0.mk H); clear H
        go_wp2_with (first | ((with_reducible refine gate_dst (N := 24) rfl ?_); refine Kd.R_make (Kd.int .i64) _ 3 rfl (N := 24) rfl 25 _ _ rfl (l1.length : Int) rfl rfl Tryz.underlying25 (.int .i64 0) 8 info3 rfl (by decide) (by omega) 0 (ok := fun _ => True) (okp := fun _ => True) rfl (fun _ hk => hk) trivial (qO) (Nat.le_trans (Nat.mul_le_mul_right _ (qO : (l1.length : Int).toNat ≤ 35184372088832)) (by omega)) (Below.refl _ _) (Nat.le_refl _) ?_; intro v397 w16 ho17 hb hg_ hnew_; clear hg_ hnew_; (first | rw [← Ny396.out] at ho17 | (simp only [Int.reduceToNat] at ho17; rw [← Ny396.out] at ho17)); have HO398 := Aside0.mk (Kd.R_lower (Kd.R_new' ho17 (Kd.R_lt (qR HO_5))) (below_size (qS0 HB))); replace HO_5 := Aside0.mk (Kd.R_elder' (qR HO_5) (Kd.R_base ho17) hb); replace HB := Aside0.mk (below_step (qS0 HB) hb); clear hb ho17))
        go_loopg [27] k1 (fun kq v27 w' => ∃ (x5_2 : List Int) (x7_2 : List Int) (x27_2 : Int), v27 = .int .i64 x27_2 ∧ Aside0 (impl_coords.l1 kq a0 x5_2 x7_2 l1 (l1.length : Int) x27_2 = some r) ∧ Aside0 (kq ≤ k1) ∧ Aside0 (Kd.R (Kd.int .i64) 3 w' w.heap.size (fun k_ => some k_ ≠ (v397 : Value).ownBlock) (.slice Ao7 x5_1.length co7) x5_2) ∧ Aside0 (Kd.R (Kd.int .i64) 3 w' w.heap.size (fun k_ => some k_ ≠ ((.slice Ao7 x5_1.length co7) : Value).ownBlock) v397 x7_2) ∧ Aside0 (Below w.heap.size w w'))
        case atStart => exact ⟨(x5_1), (y396), (0), qV, H', ⟨Nat.le_refl _⟩, ⟨by (try simp only [hl5_1]); (with_reducible repeat (first | apply Kd.R_alloc | apply Kd.R_drewN | apply Kd.R_drew)); exact Kd.R_mono HO_5.out (fun _ hk => hk.2)⟩, ⟨by (try simp only [hl5_1]); (with_reducible repeat (first | apply Kd.R_alloc | apply Kd.R_drewN | apply Kd.R_drew)); exact Kd.R_mono HO398.out (fun _ hk => hk.2)⟩, ⟨qS0 HB⟩⟩
        case round =>
         clear H'; (try clear c1); (try clear p1); (try clear q1); (try clear hx1); (try clear p2); (try clear c3); (try clear c3b0); (try clear c3b1); (try clear c4); (try clear c4b0); (try clear c4b1); (try clear p6); (try clear c8); (try clear c8b0); (try clear c9); (try clear c9b0); (try clear c10); (try clear c10b0); (try clear c11); (try clear p11); (try clear q11); (try clear hx11); (try clear hf11); (try clear c14); (try clear c14b0); (try clear c14b1); (try clear c15); (try clear c15b0); (try clear c15b1); (try clear hx11_0); (try clear p11); (try clear p2); (try clear q11); (obtain ⟨x5_2, x7_2, x27_2, rfl, HA, HK2, HO_5, HO_7, HB⟩ := hrel); (have hl5_2 := (Kd.R_reads' HO_5.out).1); (rw [hl5_2] at HO_5); (try simp only [hl5_2]); (try simp only [hl5_2] at HO_7)
         cases gk with
         | zero => exact absurd HA.out (by simp [impl_coords.l1])
         | succ k2 =>
          (have H := HA.out); clear HA; (simp only [impl_coords.l1] at H)
          by_cases c18 : x27_2 < (l1.length : Int)
          ·rw [if_pos c18] at H
           (have c18b0 : decide (x27_2 < (l1.length : Int)) = true := decide_eq_true c18); clear c18
           by_cases c19 : 0 ≤ x27_2
           ·rw [if_pos c19] at H
            (have c19b0 : decide (0 ≤ x27_2) = true := decide_eq_true c19); clear c19
            by_cases c20 : x27_2 < (l1.length : Int)
            ·rw [if_pos c20] at H
             (have c20b0 : decide (x27_2 < (l1.length : Int)) = true := decide_eq_true c20); clear c20
             by_cases c21 : x27_2 < (x7_2.length : Int)
             ·rw [if_pos c21] at H
              (have c21b0 : decide (x27_2 < (x7_2.length : Int)) = true := decide_eq_true c21); clear c21; (obtain ⟨y400, hy400⟩ : ∃ y_ : List Int, y_ = (x7_2.set (x27_2 : Int).toNat (wrap64 (a0 + x27_2))) := ⟨_, rfl⟩); (replace H : (if (rd l1 x27_2) ≥ 0 then (if 0 ≤ (rd l1 x27_2) then (if (rd l1 x27_2) < (x5_2.length : Int) then (impl_coords.l1 k2 a0 (x5_2.set ((rd l1 x27_2) : Int).toNat (wrap64 (a0 + x27_2))) (y400.set (x27_2 : Int).toNat (rd x5_2 (rd l1 x27_2))) l1 (l1.length : Int) (wrap64 (x27_2 + 1))) else (none)) else (none)) else (impl_coords.l1 k2 a0 x5_2 y400 l1 (l1.length : Int) (wrap64 (x27_2 + 1)))) = some r := qY hy400 H); (have Ny400 := Aside0.mk hy400); clear hy400
              by_cases c23 : (rd l1 x27_2) ≥ 0
              ·rw [if_pos c23] at H
               (have c23b0 : decide (0 ≤ (rd l1 x27_2)) = true := decide_eq_true c23); clear c23
               by_cases c24 : 0 ≤ (rd l1 x27_2)
               ·rw [if_pos c24] at H
                (have c24b0 : decide (0 ≤ (rd l1 x27_2)) = true := decide_eq_true c24); clear c24
                by_cases c25 : (rd l1 x27_2) < (x5_2.length : Int)
                ·rw [if_pos c25] at H
                 (have c25b0 : decide ((rd l1 x27_2) < (x5_2.length : Int)) = true := decide_eq_true c25); clear c25; (obtain ⟨y402, hy402⟩ : ∃ y_ : List Int, y_ = (y400.set (x27_2 : Int).toNat (rd x5_2 (rd l1 x27_2))) := ⟨_, rfl⟩); (replace H : (impl_coords.l1 k2 a0 (x5_2.set ((rd l1 x27_2) : Int).toNat (wrap64 (a0 + x27_2))) y402 l1 (l1.length : Int) (wrap64 (x27_2 + 1))) = some r := qY hy402 H); (have Ny402 := Aside0.mk hy402); clear hy402; (obtain ⟨y403, hy403⟩ : ∃ y_ : List Int, y_ = (x5_2.set ((rd l1 x27_2) : Int).toNat (wrap64 (a0 + x27_2))) := ⟨_, rfl⟩); (replace H : (impl_coords.l1 k2 a0 y403 y402 l1 (l1.length : Int) (wrap64 (x27_2 + 1))) = some r := qY hy403 H); (have Ny403 := Aside0.mk hy403); clear hy403; (have H' := Aside0.mk H); clear H; (have p399 : 0 ≤ (x27_2 : Int) := qO); (have q399 : x27_2 < (l1.length : Int) := qO); (obtain ⟨ad399, e399, hx399_0⟩ := Kd.at_int HR1.out x27_2 p399 q399)
                 cases e399
                 (replace hx399_0 := (HB.out.cell (World.block_lt_of_cell? w _ hx399_0)).trans hx399_0); (replace p399 := eq_true p399); (replace q399 := eq_true q399); (have p22 : 0 ≤ (x27_2 : Int) := qO); (have q22 : (x27_2 : Int) < ((x7_2.length : Int) : Int) := qO); (obtain ⟨go22, co22, eo22, gb22, gl22, cl22, HG22⟩ := Kd.R_form HO_7.out (by omega))
                 (first | cases eo22 | (injection eo22 with ea_ en_ ec_; (first | subst ea_ | (injection ea_ with ea_; subst ea_)); subst ec_; clear en_))
                 (have GB22 := Aside0.mk gb22); (have GG22 := Aside0.mk HG22); clear gb22 gl22 HG22; (obtain ⟨hx22_0, hf22_0⟩ := Kd.R_celln 0 HO_7.out (x27_2 : Int) p22 q22); (replace p22 := eq_true p22); (replace q22 := eq_true q22); (have HP28 := Kd.R_putg HO_7.out (x27_2 : Int) (wrap64 (a0 + x27_2)))
                 go_wp2_with (first | ((with_reducible refine gate_store (t := 3) (p := 37) rfl ?_); refine store_event (t := 3) (p := 37) (v := ?vo_w29) (w1 := (wr.setCell ⟨go22, (x27_2 : Int).toNat, none⟩ (.int .i64 (wrap64 (a0 + x27_2))))) ?hg ?ho ?hn ?hr ?_; (case ho => rfl); (case hg => rfl); (case hn => rfl); (case hr => first | (go_simp; done) | (go_simp; rfl)); intro w29 hw; have hg : wr.grownBy w29 (some go22) := (by rw [hw]; exact HP28.2); have hp_ : Kd.R (Kd.int .i64) 3 w29 w.heap.size (fun k_ => some k_ ≠ (.slice Ao7 x5_2.length co7 : Value).ownBlock) (.slice (some ⟨go22, 0, none⟩) x7_2.length co22) y400 := (by rw [hw, Ny400.out]; exact HP28.1); clear HP28; replace HO_5 := Aside0.mk (Kd.R_after (v := (.slice (some ⟨go22, 0, none⟩) x7_2.length co22)) (v1 := (.slice (some ⟨go22, 0, none⟩) x7_2.length co22)) (ok := (fun _ => True)) (by (with_reducible repeat (first | apply Kd.R_alloc | apply Kd.R_drewN | apply Kd.R_drew)); exact Kd.R_mono HO_5.out (fun _ hk => ⟨trivial, hk⟩)) hg (.inl rfl)); replace HO_7 := Aside0.mk (hp_); replace HB := Aside0.mk ((by rw [hw]; exact below_set (HB.out) GB22.out : Below w.heap.size w w29)); clear hg hw hp_; have p401 : 0 ≤ ((rd l1 x27_2) : Int) := qO; have q401 : (rd l1 x27_2) < (x5_2.length : Int) := qO; obtain ⟨ad401, e401, hx401_0⟩ := Kd.at_int (Kd.R_reads' HO_5.out).2.2 (rd l1 x27_2) p401 q401; cases e401; replace p401 := eq_true p401; replace q401 := eq_true q401; have p26 : 0 ≤ (x27_2 : Int) := qO; have q26 : (x27_2 : Int) < ((x7_2.length : Int) : Int) := qO; obtain ⟨hx26_0, hf26_0⟩ := Kd.R_celln 0 HO_7.out (x27_2 : Int) p26 q26; replace p26 := eq_true p26; replace q26 := eq_true q26; obtain ⟨hy30_, hz30_⟩ := Kd.R_celln 0 HO_7.out (x27_2 : Int) (qO) (qO); have HP30 := Kd.R_putg HO_7.out (x27_2 : Int) (rd x5_2 (rd l1 x27_2))) | ((with_reducible refine gate_store (t := 3) (p := 51) rfl ?_); refine store_event (t := 3) (p := 51) (v := ?vo_w31) (w1 := (w29.setCell ⟨go22, (x27_2 : Int).toNat, none⟩ (.int .i64 (rd x5_2 (rd l1 x27_2))))) ?hg ?ho ?hn ?hr ?_; (case ho => rfl); (case hg => rfl); (case hn => rfl); (case hr => first | (go_simp; done) | (go_simp; rfl)); intro w31 hw; have hg : w29.grownBy w31 (some go22) := (by rw [hw]; exact HP30.2); have hp_ : Kd.R (Kd.int .i64) 3 w31 w.heap.size (fun k_ => some k_ ≠ (.slice (some ad401) x5_2.length co7 : Value).ownBlock) (.slice (some ⟨go22, 0, none⟩) x7_2.length co22) y402 := (by rw [hw, Ny402.out]; exact HP30.1); clear HP30; replace HO_5 := Aside0.mk (Kd.R_after (v := (.slice (some ⟨go22, 0, none⟩) x7_2.length co22)) (v1 := (.slice (some ⟨go22, 0, none⟩) x7_2.length co22)) (ok := (fun _ => True)) (qR HO_5) hg (.inl rfl)); replace HO_7 := Aside0.mk (hp_); replace HB := Aside0.mk ((by rw [hw]; exact below_set (HB.out) GB22.out : Below w.heap.size w w31)); clear hg hw hp_; have p27 : 0 ≤ ((rd l1 x27_2) : Int) := qO; have q27 : ((rd l1 x27_2) : Int) < ((x5_2.length : Int) : Int) := qO; obtain ⟨go27, co27, eo27, gb27, gl27, cl27, HG27⟩ := Kd.R_form HO_5.out (by omega); (first | cases eo27 | (injection eo27 with ea_ en_ ec_; (first | subst ea_ | (injection ea_ with ea_; subst ea_)); subst ec_; clear en_)); have GB27 := Aside0.mk gb27; have GG27 := Aside0.mk HG27; clear gb27 gl27 HG27; (first | simp only [add_plain] at hx401_0 | skip); obtain ⟨hx27_0, hf27_0⟩ := Kd.R_celln 0 HO_5.out ((rd l1 x27_2) : Int) p27 q27; replace p27 := eq_true p27; replace q27 := eq_true q27; have n_ := Aside0.mk (Kd.R_mono (ok' := (fun k_ => some k_ ≠ (.slice (some ⟨go22, 0, none⟩) x7_2.length co22 : Value).ownBlock)) HO_5.out (fun k_ hk => hk.2)); clear HO_5; have HO_5 := n_; clear n_; obtain ⟨hy32_, hz32_⟩ := Kd.R_celln 0 HO_5.out ((rd l1 x27_2) : Int) (qO) (qO); have HP32 := Kd.R_putg HO_5.out ((rd l1 x27_2) : Int) (wrap64 (a0 + x27_2))) | ((with_reducible refine gate_store (t := 3) (p := 52) rfl ?_); refine store_event (t := 3) (p := 52) (v := ?vo_w33) (w1 := (w31.setCell ⟨go27, ((rd l1 x27_2) : Int).toNat, none⟩ (.int .i64 (wrap64 (a0 + x27_2))))) ?hg ?ho ?hn ?hr ?_; (case ho => rfl); (case hg => rfl); (case hn => rfl); (case hr => first | (go_simp; done) | (go_simp; rfl)); intro w33 hw; have hg : w31.grownBy w33 (some go27) := (by rw [hw]; exact HP32.2); have hp_ : Kd.R (Kd.int .i64) 3 w33 w.heap.size (fun k_ => some k_ ≠ (.slice (some ⟨go22, 0, none⟩) x7_2.length co22 : Value).ownBlock) (.slice (some ⟨go27, 0, none⟩) x5_2.length co7) y403 := (by rw [hw, Ny403.out]; exact HP32.1); clear HP32; replace HO_5 := Aside0.mk (hp_); replace HO_7 := Aside0.mk (Kd.R_after (v := (.slice (some ⟨go27, 0, none⟩) x5_2.length co7)) (v1 := (.slice (some ⟨go27, 0, none⟩) x5_2.length co7)) (ok := (fun _ => True)) (by (with_reducible repeat (first | apply Kd.R_alloc | apply Kd.R_drewN | apply Kd.R_drew)); exact Kd.R_mono HO_7.out (fun _ hk => ⟨trivial, hk⟩)) hg (.inl rfl)); replace HB := Aside0.mk ((by rw [hw]; exact below_set (HB.out) GB27.out : Below w.heap.size w w33)); clear hg hw hp_))
                 (try simp only [← hl5_2])
                 go_roundg k2
                 case measure => have := HK1.out; have := HK2.out; omega
                 case rel => exact ⟨(y403), (y402), (wrap64 (x27_2 + 1)), qV, H', ⟨by have := HK1.out; have := HK2.out; omega⟩, ⟨by (try simp only [hl5_1]); (try simp only [hl5_2]); (with_reducible repeat (first | apply Kd.R_alloc | apply Kd.R_drewN | apply Kd.R_drew)); exact HO_5.out⟩, ⟨by (try simp only [hl5_1]); (try simp only [hl5_2]); (with_reducible repeat (first | apply Kd.R_alloc | apply Kd.R_drewN | apply Kd.R_drew)); exact Kd.R_mono HO_7.out (fun _ hk => hk.2)⟩, ⟨qS0 HB⟩⟩
                ·rw [if_neg c25] at H
                 exact absurd H (by simp)
               ·rw [if_neg c24] at H
                exact absurd H (by simp)
              ·rw [if_neg c23] at H
               (have c23b0 : decide (0 ≤ (rd l1 x27_2)) = false := decide_eq_false c23); clear c23; (have H' := Aside0.mk H); clear H; (have p399 : 0 ≤ (x27_2 : Int) := qO); (have q399 : x27_2 < (l1.length : Int) := qO); (obtain ⟨ad399, e399, hx399_0⟩ := Kd.at_int HR1.out x27_2 p399 q399)
               cases e399
               (replace hx399_0 := (HB.out.cell (World.block_lt_of_cell? w _ hx399_0)).trans hx399_0); (replace p399 := eq_true p399); (replace q399 := eq_true q399); (have p22 : 0 ≤ (x27_2 : Int) := qO); (have q22 : (x27_2 : Int) < ((x7_2.length : Int) : Int) := qO); (obtain ⟨go22, co22, eo22, gb22, gl22, cl22, HG22⟩ := Kd.R_form HO_7.out (by omega))
               (first | cases eo22 | (injection eo22 with ea_ en_ ec_; (first | subst ea_ | (injection ea_ with ea_; subst ea_)); subst ec_; clear en_))
               (have GB22 := Aside0.mk gb22); (have GG22 := Aside0.mk HG22); clear gb22 gl22 HG22; (obtain ⟨hx22_0, hf22_0⟩ := Kd.R_celln 0 HO_7.out (x27_2 : Int) p22 q22); (replace p22 := eq_true p22); (replace q22 := eq_true q22); (have HP34 := Kd.R_putg HO_7.out (x27_2 : Int) (wrap64 (a0 + x27_2)))
               go_wp2_with (first | ((with_reducible refine gate_store (t := 3) (p := 37) rfl ?_); refine store_event (t := 3) (p := 37) (v := ?vo_w35) (w1 := (wr.setCell ⟨go22, (x27_2 : Int).toNat, none⟩ (.int .i64 (wrap64 (a0 + x27_2))))) ?hg ?ho ?hn ?hr ?_; (case ho => rfl); (case hg => rfl); (case hn => rfl); (case hr => first | (go_simp; done) | (go_simp; rfl)); intro w35 hw; have hg : wr.grownBy w35 (some go22) := (by rw [hw]; exact HP34.2); have hp_ : Kd.R (Kd.int .i64) 3 w35 w.heap.size (fun k_ => some k_ ≠ (.slice Ao7 x5_2.length co7 : Value).ownBlock) (.slice (some ⟨go22, 0, none⟩) x7_2.length co22) y400 := (by rw [hw, Ny400.out]; exact HP34.1); clear HP34; replace HO_5 := Aside0.mk (Kd.R_after (v := (.slice (some ⟨go22, 0, none⟩) x7_2.length co22)) (v1 := (.slice (some ⟨go22, 0, none⟩) x7_2.length co22)) (ok := (fun _ => True)) (by (with_reducible repeat (first | apply Kd.R_alloc | apply Kd.R_drewN | apply Kd.R_drew)); exact Kd.R_mono HO_5.out (fun _ hk => ⟨trivial, hk⟩)) hg (.inl rfl)); replace HO_7 := Aside0.mk (hp_); replace HB := Aside0.mk ((by rw [hw]; exact below_set (HB.out) GB22.out : Below w.heap.size w w35)); clear hg hw hp_))
               (try simp only [← hl5_2])
               go_roundg k2
               case measure => have := HK1.out; have := HK2.out; omega
               case rel => exact ⟨(x5_2), (y400), (wrap64 (x27_2 + 1)), qV, H', ⟨by have := HK1.out; have := HK2.out; omega⟩, ⟨by (try simp only [hl5_1]); (try simp only [hl5_2]); (with_reducible repeat (first | apply Kd.R_alloc | apply Kd.R_drewN | apply Kd.R_drew)); exact Kd.R_mono HO_5.out (fun _ hk => hk.2)⟩, ⟨by (try simp only [hl5_1]); (try simp only [hl5_2]); (with_reducible repeat (first | apply Kd.R_alloc | apply Kd.R_drewN | apply Kd.R_drew)); exact HO_7.out⟩, ⟨qS0 HB⟩⟩
             ·rw [if_neg c21] at H
              exact absurd H (by simp)
            ·rw [if_neg c20] at H
             exact absurd H (by simp)
           ·rw [if_neg c19] at H
            exact absurd H (by simp)
          ·rw [if_neg c18] at H
           (have c18b0 : decide (x27_2 < (l1.length : Int)) = false := decide_eq_false c18); clear c18; (obtain rfl := Option.some.inj H)
           go_wp2
           go_ret
           exact ⟨_, qE, by (with_reducible repeat (first | apply Kd.R_alloc | apply Kd.R_drewN | apply Kd.R_drew)); exact Kd.R_mono HO_7.out (fun _ hk => trivial), qS0 HB⟩
       ·rw [if_neg c15] at H
        exact absurd H (by simp)
      ·rw [if_neg c14] at H
       exact absurd H (by simp)
  ·rw [if_neg c4] at H
   exact absurd H (by simp)
 ·rw [if_neg c3] at H
  exact absurd H (by simp)
mutual
def impl_PathSeq.j0 : Nat → Int → Int → List Int → List Int → Bool → Option (List Int × Bool)
 | 0, _, _, _, _, _ => none
 | k + 1, x0, x1, x2, x3, x30 => if x30 = true then (some (([] : List Int), false)) else ((impl_coords.f k x0 x2).bind fun t407 => (impl_PathSeq.l0 k x1 x3 t407 (t407.length : Int) 0))
def impl_PathSeq.l0 : Nat → Int → List Int → List Int → Int → Int → Option (List Int × Bool)
 | 0, _, _, _, _, _ => none
 | k + 1, x1, x3, x10, x35, x36 => if x36 < x35 then (if 0 ≤ x36 then (if x36 < (x10.length : Int) then (if 0 ≤ (rd x10 x36) then (if (rd x10 x36) < (x3.length : Int) then ((impl_LeafOf.f (rd x3 (rd x10 x36)) x1).bind fun t412 => (impl_PathSeq.l0 k x1 x3 (x10.set (x36 : Int).toNat t412) x35 (wrap64 (x36 + 1)))) else (none)) else (none)) else (none)) else (none)) else (some (x10, true))
end
def impl_PathSeq.f (k : Nat) (a0 : Int) (a1 : Int) (l2 : List Int) (l3 : List Int) : Option (List Int × Bool) := (impl_isSeq.f a0 l2).bind fun t404 => (if t404 = true then ((impl_isLog.f a1).bind fun t405 => (if t405 = true then ((impl_areDraws.f l3 (wrap64 (a0 + (l2.length : Int)))).bind fun t406 => (impl_PathSeq.j0 k a0 a1 l2 l3 (!t406))) else (impl_PathSeq.j0 k a0 a1 l2 l3 true))) else (impl_PathSeq.j0 k a0 a1 l2 l3 true))
set_option maxHeartbeats 8000000 in
set_option maxRecDepth 100000 in
theorem impl_PathSeq.calls (k : Nat) (a0 : Int) (a1 : Int) (A2 : Option Addr) (c2 : Nat) (l2 : List Int) (A3 : Option Addr) (c3 : Nat) (l3 : List Int) (r1 : List Int) (r2 : Bool) (w : World) (hr2 : Kd.C (Kd.int .i64) w A2 l2.length l2) (hc2 : l2.length ≤ c2) (hr3 : Kd.C (Kd.int .i64) w A3 l3.length l3) (hc3 : l3.length ≤ c3) (h : impl_PathSeq.f k a0 a1 l2 l3 = some (r1, r2)) :
  Calls Tryz.prog 71 #[.int .i64 a0, .int .i64 a1, .slice A2 l2.length c2, .slice A3 l3.length c3] w fun e w' => ∃ v0_ : Value, e = .returned (.tuple #[v0_, .bool r2]) ∧ Kd.R (Kd.int .i64) 3 w' w.heap.size (fun _ => True) v0_ r1 ∧ Below w.heap.size w w' := by
 (have HR2 := Aside0.mk hr2); (have HC2 := Aside0.mk hc2); clear hr2 hc2; (have HR3 := Aside0.mk hr3); (have HC3 := Aside0.mk hc3); clear hr3 hc3; (have HB := Aside0.mk (Below.refl w.heap.size w)); (have H : ((impl_isSeq.f a0 l2).bind fun t404 => (if t404 = true then ((impl_isLog.f a1).bind fun t405 => (if t405 = true then ((impl_areDraws.f l3 (wrap64 (a0 + (l2.length : Int)))).bind fun t406 => (impl_PathSeq.j0 k a0 a1 l2 l3 (!t406))) else (impl_PathSeq.j0 k a0 a1 l2 l3 true))) else (impl_PathSeq.j0 k a0 a1 l2 l3 true))) = some (r1, r2) := h); clear h; (have HC5 := Aside0.mk H); clear H
 go_enter Tryz.func71, Tryz.ntmps71
 go_upto_region 1 with (fail)
 go_cut [30] (fun v30 wc => ∃ (kq : Nat) (x30_4 : Bool), v30 = .bool x30_4 ∧ Aside0 (impl_PathSeq.j0 kq a0 a1 l2 l3 x30_4 = some (r1, r2)) ∧ Aside0 (kq ≤ k) ∧ Aside0 (Below w.heap.size w wc))
 case first =>
  (have H := HC5.out); clear HC5; (replace H := Option.bind_eq_some_iff.mp H); (obtain ⟨t404, A60, H⟩ := H)
  try dsimp only at H
  (have A6 := Aside0.mk A60); clear A60
  by_cases c7 : t404 = true
  ·subst c7
   (have H1 : ((impl_isLog.f a1).bind fun t405 => (if t405 = true then ((impl_areDraws.f l3 (wrap64 (a0 + (l2.length : Int)))).bind fun t406 => (impl_PathSeq.j0 k a0 a1 l2 l3 (!t406))) else (impl_PathSeq.j0 k a0 a1 l2 l3 true))) = some (r1, r2) := by rw [if_pos rfl] at H; exact H); clear H; (have H := H1); clear H1; (replace H := Option.bind_eq_some_iff.mp H); (obtain ⟨t405, A80, H⟩ := H)
   try dsimp only at H
   (have A8 := Aside0.mk A80); clear A80
   by_cases c9 : t405 = true
   ·subst c9
    (have H1 : ((impl_areDraws.f l3 (wrap64 (a0 + (l2.length : Int)))).bind fun t406 => (impl_PathSeq.j0 k a0 a1 l2 l3 (!t406))) = some (r1, r2) := by rw [if_pos rfl] at H; exact H); clear H; (have H := H1); clear H1; (replace H := Option.bind_eq_some_iff.mp H); (obtain ⟨t406, A100, H⟩ := H); (replace H : (impl_PathSeq.j0 k a0 a1 l2 l3 (!t406)) = some (r1, r2) := H); (have A10 := Aside0.mk A100); clear A100; (have H' := Aside0.mk H); clear H
    go_wp2_with (first | ((with_reducible refine gate_callee (f := 108) rfl ?_); refine goesL_ (some 15) rfl rfl Tryz.func108 (by kernel_rfl) rfl #[.int .i64 a0, .slice A2 l2.length c2] rfl qL ?_; (with_reducible refine (impl_isSeq.calls a0 _ _ l2 true _ ?side1 ?side2 A6.out).mono ?_); (case side1 => repeat (first | exact (Kd.C_below HR2.out HB.out) | (with_reducible refine Kd.C_alloc ?_ _) | (with_reducible refine Kd.C_drewN ?_ _) | (with_reducible refine Kd.C_drew ?_))); (case side2 => exact HC2.out); rintro e w11 ⟨rfl, hb⟩; refine ⟨_, rfl, ?_⟩; replace HB := Aside0.mk (below_step (qS0 HB) hb); (try clear hb); (try clear hb2); (try clear hk); (try clear hi)) | (go_at_call 109; (with_reducible refine (impl_isLog.calls a1 true _ A8.out).mono ?_); rintro e w' ⟨rfl, ⟨nd, rfl⟩⟩) | (go_at_call 35; (with_reducible refine (impl_areDraws.calls _ _ l3 (wrap64 (a0 + (l2.length : Int))) t406 _ ?side1 ?side2 A10.out).mono ?_); (case side1 => repeat (first | exact (Kd.C_below HR3.out (qS0 HB)) | (with_reducible refine Kd.C_alloc ?_ _) | (with_reducible refine Kd.C_drewN ?_ _) | (with_reducible refine Kd.C_drew ?_))); (case side2 => exact HC3.out); rintro e w12 ⟨rfl, hb⟩; replace HB := Aside0.mk (below_step (qS0 HB) hb); (try clear hb); (try clear hb2); (try clear hk); (try clear hi)))
    go_meet
    case rel => exact ⟨_, (!t406), qV, H', ⟨by first | omega | exact Nat.le_refl _⟩, ⟨qS0 HB⟩⟩
   ·replace c9 := Bool.eq_false_iff.mpr c9
    (subst c9); (have H1 : (impl_PathSeq.j0 k a0 a1 l2 l3 true) = some (r1, r2) := by rw [if_neg (show ¬ (false = true) by decide)] at H; exact H); clear H; (have H := H1); clear H1; (have H' := Aside0.mk H); clear H
    go_wp2_with (first | ((with_reducible refine gate_callee (f := 108) rfl ?_); refine goesL_ (some 15) rfl rfl Tryz.func108 (by kernel_rfl) rfl #[.int .i64 a0, .slice A2 l2.length c2] rfl qL ?_; (with_reducible refine (impl_isSeq.calls a0 _ _ l2 true _ ?side1 ?side2 A6.out).mono ?_); (case side1 => repeat (first | exact (Kd.C_below HR2.out HB.out) | (with_reducible refine Kd.C_alloc ?_ _) | (with_reducible refine Kd.C_drewN ?_ _) | (with_reducible refine Kd.C_drew ?_))); (case side2 => exact HC2.out); rintro e w13 ⟨rfl, hb⟩; refine ⟨_, rfl, ?_⟩; replace HB := Aside0.mk (below_step (qS0 HB) hb); (try clear hb); (try clear hb2); (try clear hk); (try clear hi)) | (go_at_call 109; (with_reducible refine (impl_isLog.calls a1 false _ A8.out).mono ?_); rintro e w' ⟨rfl, ⟨nd, rfl⟩⟩))
    go_meet
    case rel => exact ⟨_, (true), qV, H', ⟨by first | omega | exact Nat.le_refl _⟩, ⟨qS0 HB⟩⟩
  ·replace c7 := Bool.eq_false_iff.mpr c7
   (subst c7); (have H1 : (impl_PathSeq.j0 k a0 a1 l2 l3 true) = some (r1, r2) := by rw [if_neg (show ¬ (false = true) by decide)] at H; exact H); clear H; (have H := H1); clear H1; (have H' := Aside0.mk H); clear H
   go_wp2_with (first | ((with_reducible refine gate_callee (f := 108) rfl ?_); refine goesL_ (some 15) rfl rfl Tryz.func108 (by kernel_rfl) rfl #[.int .i64 a0, .slice A2 l2.length c2] rfl qL ?_; (with_reducible refine (impl_isSeq.calls a0 _ _ l2 false _ ?side1 ?side2 A6.out).mono ?_); (case side1 => repeat (first | exact (Kd.C_below HR2.out HB.out) | (with_reducible refine Kd.C_alloc ?_ _) | (with_reducible refine Kd.C_drewN ?_ _) | (with_reducible refine Kd.C_drew ?_))); (case side2 => exact HC2.out); rintro e w14 ⟨rfl, hb⟩; refine ⟨_, rfl, ?_⟩; replace HB := Aside0.mk (below_step (qS0 HB) hb); (try clear hb); (try clear hb2); (try clear hk); (try clear hi)))
   go_meet
   case rel => exact ⟨_, (true), qV, H', ⟨by first | omega | exact Nat.le_refl _⟩, ⟨qS0 HB⟩⟩
 case rest =>
  clear HC5; (try clear c1); (try clear c2); (try clear p2); (try clear c3); (try clear p6); (try clear c7); (try clear c9); (try clear c10); (obtain ⟨kq, x30_4, rfl, HA, HJ4, HB⟩ := hcut)
  cases kq with
  | zero => exact absurd HA.out (by simp [impl_PathSeq.j0])
  | succ kj4 =>
   (have H := HA.out); clear HA; (simp only [impl_PathSeq.j0] at H)
   by_cases c15 : x30_4 = true
   ·subst c15
    (have H1 : (some (([] : List Int), false)) = some (r1, r2) := by rw [if_pos rfl] at H; exact H); clear H; (have H := H1); clear H1; (simp only [Option.some.injEq, Prod.mk.injEq] at H); (obtain ⟨rfl, rfl⟩ := H)
    go_wp2
    go_ret2
    exact ⟨_, qE, by first | exact Kd.R_nil _ _ _ _ _ | exact Kd.N_nil _ _ _ _ _ | exact Kd.V_nil _ _ _ _ _ | exact Kd.Q_nil _ _ _ _ _ | exact Kd.S_nil _ _ _ _ _, qS0 HB⟩
   ·replace c15 := Bool.eq_false_iff.mpr c15
    (subst c15); (have H1 : ((impl_coords.f kj4 a0 l2).bind fun t407 => (impl_PathSeq.l0 kj4 a1 l3 t407 (t407.length : Int) 0)) = some (r1, r2) := by rw [if_neg (show ¬ (false = true) by decide)] at H; exact H); clear H; (have H := H1); clear H1; (replace H := Option.bind_eq_some_iff.mp H); (obtain ⟨t407, A160, H⟩ := H); (replace H : (impl_PathSeq.l0 kj4 a1 l3 t407 (t407.length : Int) 0) = some (r1, r2) := H); (have A16 := Aside0.mk A160); clear A160; (have H' := Aside0.mk H); clear H
    go_wp2_with (first | ((with_reducible refine gate_callee (f := 110) rfl ?_); refine goesL_ (some 33) rfl rfl Tryz.func110 (by kernel_rfl) rfl #[.int .i64 a0, .slice A2 l2.length c2] rfl qL ?_; (with_reducible refine (impl_coords.calls kj4 a0 _ _ l2 t407 _ ?side1 ?side2 A16.out).mono ?_); (case side1 => repeat (first | exact (Kd.C_below HR2.out HB.out) | (with_reducible refine Kd.C_alloc ?_ _) | (with_reducible refine Kd.C_drewN ?_ _) | (with_reducible refine Kd.C_drew ?_))); (case side2 => exact HC2.out); rintro e w17 ⟨v408, rfl, ho0, hb⟩; refine ⟨_, rfl, ?_⟩; have HO409 := Aside0.mk (Kd.R_lower ho0 (below_size (qS0 HB))); replace HB := Aside0.mk (below_step (qS0 HB) hb); (try clear hb); (try clear hb2); (try clear hk); (try clear hi); (try clear ho0); obtain ⟨Ao18, co18, eo18⟩ := Kd.R_slice HO409.out; subst eo18))
    go_loopg [36] kj4 (fun kq v36 w' => ∃ (x10_2 : List Int) (x36_2 : Int), v36 = .int .i64 x36_2 ∧ Aside0 (impl_PathSeq.l0 kq a1 l3 x10_2 (t407.length : Int) x36_2 = some (r1, r2)) ∧ Aside0 (kq ≤ kj4) ∧ Aside0 (Kd.R (Kd.int .i64) 3 w' w.heap.size (fun _ => True) (.slice Ao18 t407.length co18) x10_2) ∧ Aside0 (Below w.heap.size w w'))
    case atStart => exact ⟨(t407), (0), qV, H', ⟨Nat.le_refl _⟩, ⟨qR HO409⟩, ⟨qS0 HB⟩⟩
    case round =>
     clear H'; (try clear c1); (try clear c2); (try clear p2); (try clear c3); (try clear p6); (try clear c7); (try clear c9); (try clear c10); (try clear c11); (try clear c15); (try clear p2); (try clear p6); (obtain ⟨x10_2, x36_2, rfl, HA, HK2, HO_10, HB⟩ := hrel); (have hl10_2 := (Kd.R_reads' HO_10.out).1); (rw [hl10_2] at HO_10); (try simp only [hl10_2])
     cases gk with
     | zero => exact absurd HA.out (by simp [impl_PathSeq.l0])
     | succ k2 =>
      (have H := HA.out); clear HA; (simp only [impl_PathSeq.l0] at H)
      by_cases c19 : x36_2 < (t407.length : Int)
      ·rw [if_pos c19] at H
       (have c19b0 : decide (x36_2 < (t407.length : Int)) = true := decide_eq_true c19); (try simp only [hl10_2] at c19b0); clear c19
       by_cases c20 : 0 ≤ x36_2
       ·rw [if_pos c20] at H
        (have c20b0 : decide (0 ≤ x36_2) = true := decide_eq_true c20); clear c20
        by_cases c21 : x36_2 < (x10_2.length : Int)
        ·rw [if_pos c21] at H
         (have c21b0 : decide (x36_2 < (x10_2.length : Int)) = true := decide_eq_true c21); clear c21
         by_cases c22 : 0 ≤ (rd x10_2 x36_2)
         ·rw [if_pos c22] at H
          (have c22b0 : decide (0 ≤ (rd x10_2 x36_2)) = true := decide_eq_true c22); clear c22
          by_cases c23 : (rd x10_2 x36_2) < (l3.length : Int)
          ·rw [if_pos c23] at H
           (have c23b0 : decide ((rd x10_2 x36_2) < (l3.length : Int)) = true := decide_eq_true c23); clear c23; (replace H := Option.bind_eq_some_iff.mp H); (obtain ⟨t412, A240, H⟩ := H)
           try dsimp only at H
           (have A24 := Aside0.mk A240); clear A240; (obtain ⟨y413, hy413⟩ : ∃ y_ : List Int, y_ = (x10_2.set (x36_2 : Int).toNat t412) := ⟨_, rfl⟩); (replace H : (impl_PathSeq.l0 k2 a1 l3 y413 (t407.length : Int) (wrap64 (x36_2 + 1))) = some (r1, r2) := qY hy413 H); (have Ny413 := Aside0.mk hy413); clear hy413; (have H' := Aside0.mk H); clear H; (have p410 : 0 ≤ (x36_2 : Int) := qO); (have q410 : x36_2 < (x10_2.length : Int) := qO); (obtain ⟨ad410, e410, hx410_0⟩ := Kd.at_int (Kd.R_reads' HO_10.out).2.2 x36_2 p410 q410)
           cases e410
           (replace p410 := eq_true p410); (replace q410 := eq_true q410); (have p411 : 0 ≤ ((rd x10_2 x36_2) : Int) := qO); (have q411 : (rd x10_2 x36_2) < (l3.length : Int) := qO); (obtain ⟨ad411, e411, hx411_0⟩ := Kd.at_int HR3.out (rd x10_2 x36_2) p411 q411)
           cases e411
           (replace hx411_0 := (HB.out.cell (World.block_lt_of_cell? w _ hx411_0)).trans hx411_0); (replace p411 := eq_true p411); (replace q411 := eq_true q411)
           go_wp2_with (first | ((with_reducible refine gate_callee (f := 70) rfl ?_); refine goesL_ (some 48) rfl rfl Tryz.func70 (by kernel_rfl) rfl #[.int .i64 (rd l3 (rd x10_2 x36_2)), .int .i64 a1] rfl qL ?_; (with_reducible refine (impl_LeafOf.calls (rd l3 (rd x10_2 x36_2)) a1 t412 _ A24.out).mono ?_); rintro e w' ⟨rfl, ⟨nd, rfl⟩⟩; refine ⟨_, rfl, ?_⟩; (try (rw [drewN_self wr]; generalize hq_ : World.drewN wr _ = wr; have n0_ : Aside0 (Kd.R (Kd.int .i64) 3 wr w.heap.size (fun _ => True) (.slice (some ad410) x10_2.length co18) x10_2) := ⟨by rw [← hq_]; exact (qR HO_10)⟩; have n1_ : Aside0 (Below w.heap.size w wr) := ⟨by rw [← hq_]; exact (qS0 HB)⟩; clear HO_10 HB hq_; have HO_10 := n0_; have HB := n1_; clear n0_ n1_)); have p25 : 0 ≤ (x36_2 : Int) := qO; have q25 : (x36_2 : Int) < ((x10_2.length : Int) : Int) := qO; obtain ⟨go25, co25, eo25, gb25, gl25, cl25, HG25⟩ := Kd.R_form HO_10.out (by omega); (first | cases eo25 | (injection eo25 with ea_ en_ ec_; (first | subst ea_ | (injection ea_ with ea_; subst ea_)); subst ec_; clear en_)); have GB25 := Aside0.mk gb25; have GG25 := Aside0.mk HG25; clear gb25 gl25 HG25; (first | simp only [add_plain] at hx410_0 | skip); obtain ⟨hx25_0, hf25_0⟩ := Kd.R_celln 0 HO_10.out (x36_2 : Int) p25 q25; replace p25 := eq_true p25; replace q25 := eq_true q25; obtain ⟨hy26_, hz26_⟩ := Kd.R_celln 0 HO_10.out (x36_2 : Int) (qO) (qO); have HP26 := Kd.R_putg HO_10.out (x36_2 : Int) t412) | ((with_reducible refine gate_store (t := 3) (p := 49) rfl ?_); refine store_event (t := 3) (p := 49) (v := ?vo_w27) (w1 := (wr.setCell ⟨go25, (x36_2 : Int).toNat, none⟩ (.int .i64 t412))) ?hg ?ho ?hn ?hr ?_; (case ho => rfl); (case hg => rfl); (case hn => rfl); (case hr => first | (go_simp; done) | (go_simp; rfl)); intro w27 hw; have hg : wr.grownBy w27 (some go25) := (by rw [hw]; exact HP26.2); have hp_ : Kd.R (Kd.int .i64) 3 w27 w.heap.size (fun _ => True) (.slice (some ⟨go25, 0, none⟩) x10_2.length co18) y413 := (by rw [hw, Ny413.out]; exact HP26.1); clear HP26; replace HO_10 := Aside0.mk (hp_); replace HB := Aside0.mk ((by rw [hw]; exact below_set (HB.out) GB25.out : Below w.heap.size w w27)); clear hg hw hp_))
           (try simp only [← hl10_2])
           go_roundg k2
           case measure => have := HJ4.out; have := HK2.out; omega
           case rel => exact ⟨(y413), (wrap64 (x36_2 + 1)), qV, H', ⟨by have := HJ4.out; have := HK2.out; omega⟩, ⟨by (try simp only [hl10_2]); (with_reducible repeat (first | apply Kd.R_alloc | apply Kd.R_drewN | apply Kd.R_drew)); exact HO_10.out⟩, ⟨qS0 HB⟩⟩
          ·rw [if_neg c23] at H
           exact absurd H (by simp)
         ·rw [if_neg c22] at H
          exact absurd H (by simp)
        ·rw [if_neg c21] at H
         exact absurd H (by simp)
       ·rw [if_neg c20] at H
        exact absurd H (by simp)
      ·rw [if_neg c19] at H
       (have c19b0 : decide (x36_2 < (t407.length : Int)) = false := decide_eq_false c19); (try simp only [hl10_2] at c19b0); clear c19; (simp only [Option.some.injEq, Prod.mk.injEq] at H); (obtain ⟨rfl, rfl⟩ := H)
       go_wp2
       go_ret2
       exact ⟨_, qE, qR HO_10, qS0 HB⟩
def slices_Clone_int_int.f (l0 : List Int) : Option (List Int) := (some (([] : List Int) : List Int)).bind fun y414 => (if y414.length + l0.length < 17592186044416 then (some (y414 ++ l0)) else (none))
set_option maxHeartbeats 8000000 in
set_option maxRecDepth 100000 in
theorem slices_Clone_int_int.calls (A0 : Option Addr) (c0 : Nat) (l0 : List Int) (r : List Int) (w : World) (hr0 : Kd.C (Kd.int .i64) w A0 l0.length l0) (hc0 : l0.length ≤ c0) (h : slices_Clone_int_int.f l0 = some r) :
  Calls Tryz.prog 83 #[.slice A0 l0.length c0] w fun e w' => ∃ v0_ : Value, e = .returned (v0_) ∧ Kd.R (Kd.int .i64) 3 w' w.heap.size (fun _ => True) v0_ r ∧ Below w.heap.size w w' := by
 (have HR0 := Aside0.mk hr0); (have HC0 := Aside0.mk hc0); clear hr0 hc0; (have HB := Aside0.mk (Below.refl w.heap.size w)); (have H : ((some (([] : List Int) : List Int)).bind fun y414 => (if y414.length + l0.length < 17592186044416 then (some (y414 ++ l0)) else (none))) = some r := h); clear h; (obtain ⟨y414, hy414⟩ : ∃ y_ : List Int, y_ = (([] : List Int)) := ⟨_, rfl⟩); (replace H : (if y414.length + l0.length < 17592186044416 then (some (y414 ++ l0)) else (none)) = some r := qY hy414 H); (have Ny414 := Aside0.mk hy414); clear hy414
 by_cases c2 : y414.length + l0.length < 17592186044416
 ·rw [if_pos c2] at H
  (have LMc2 := Aside0.mk c2); clear c2; (obtain ⟨y417, hy417⟩ : ∃ y_ : List Int, y_ = (y414 ++ l0) := ⟨_, rfl⟩); (replace H : (some y417) = some r := qY hy417 H); (have Ny417 := Aside0.mk hy417); clear hy417; (obtain rfl := Option.some.inj H); (have q_eql : ∀ (w : World) (a : Option Addr) (n c : Nat), (binOp .eql 25 (.slice a n c) (.slice none 0 0)).run Tryz.prog w = .ok (.bool a.isNone) w := fun w a n c => Lib.run_eql_slice_nil w 25 3 a n c 0 0 Tryz.underlying25)
  cases A0 with
  | none =>
   obtain rfl : l0 = [] := by
    cases hl : l0 with
    | nil => rfl
    | cons x xs =>
     (have h2 := HR0.out.2.2); (rw [hl] at h2); (obtain ⟨a, ha, _⟩ := h2 (by simp))
     cases ha
   go_enter Tryz.func83, Tryz.ntmps83
   go_wp2
   go_ret
   refine ⟨_, rfl, ?_, HB.out⟩
   rw [Ny417.out, Ny414.out]
   exact Kd.R_nil _ _ _ _ _
  | some a0_ =>
   go_enter Tryz.func83, Tryz.ntmps83
   go_wp2_with (first | ((with_reducible refine gate_dst (N := 5) rfl ?_); refine Kd.R_lit (Kd.int .i64) _ 3 ?hg (N := 5) ?hd (xs := ([] : List Int)) (inner := []) (ok := fun _ => True) (okp := fun _ => True) ?hr ?hp (fun _ hk => hk) trivial (Below.refl _ _) (Nat.le_refl _) (by simp) ?_; (case hd => rfl); (case hg => rfl); (case hr => first | (go_simp; done) | (go_simp; rfl)); (case hp => exact (Reps.none _ _)); intro v415 w3 ho4 hb hg_ hnew_; clear hg_ hnew_; (first | rw [← Ny414.out] at ho4 | (simp only [Int.reduceToNat] at ho4; rw [← Ny414.out] at ho4)); have HO416 := Aside0.mk (Kd.R_lower ho4 (below_size (qS0 HB))); replace HB := Aside0.mk (below_step (qS0 HB) hb); clear hb ho4) | ((with_reducible refine gate_builtin (b := .append) (xs := #[.tmp 5, .tmp 6]) rfl ?_); at_builtin; refine Kd.R_append_rows (Kd.int .i64) (w0 := w) w.heap.size rfl (.tmp 5) (.tmp 6) 25 3 (.int .i64 0) 8 rfl Tryz.underlying25 info3 rfl (by decide) (by omega) v415 y414 l0 _ _ _ (fun _ => True) (fun _ => False) rfl rfl ?aO ?aR (fun _ _ h => h) (fun _ h => h.elim) ?aF ?aB ?aS ?aL ?_; (case aR => repeat (first | exact (Kd.C_below HR0.out HB.out) | (with_reducible refine Kd.C_alloc ?_ _) | (with_reducible refine Kd.C_drewN ?_ _) | (with_reducible refine Kd.C_drew ?_))); (case aB => exact (qS0 HB)); (case aF => exact (fun _ _ => trivial)); (case aO => exact (qR HO416)); (case aS => exact (below_size (qS0 HB))); (case aL => have := LMc2.out; omega); intro v418 w5 ho hb hg hat; rw [← Ny417.out] at ho; replace HB := Aside0.mk (hb); have HO419 := Aside0.mk (ho); clear HO416; clear ho hb hg hat))
   go_ret
   exact ⟨_, qE, qR HO419, qS0 HB⟩
 ·rw [if_neg c2] at H
  exact absurd H (by simp)
def impl_smallIds.l0 : Nat → List Int → Int → Int → Option (List Int)
 | 0, _, _, _ => none
 | k + 1, x3, x9, x10 => if x10 < x9 then (if 0 ≤ x10 then (if x10 < (x3.length : Int) then (if (rd x3 x10) ≥ 0 then (impl_smallIds.l0 k (x3.set (x10 : Int).toNat (wrap64 (Int.tdiv (rd x3 x10) 4))) x9 (wrap64 (x10 + 1))) else (impl_smallIds.l0 k x3 x9 (wrap64 (x10 + 1)))) else (none)) else (none)) else (some x3)
def impl_smallIds.f (k : Nat) (l0 : List Int) : Option (List Int) := (slices_Clone_int_int.f l0).bind fun t420 => (impl_smallIds.l0 k t420 (t420.length : Int) 0)
set_option maxHeartbeats 8000000 in
set_option maxRecDepth 100000 in
theorem impl_smallIds.calls (k : Nat) (A0 : Option Addr) (c0 : Nat) (l0 : List Int) (r : List Int) (w : World) (hr0 : Kd.C (Kd.int .i64) w A0 l0.length l0) (hc0 : l0.length ≤ c0) (h : impl_smallIds.f k l0 = some r) :
  Calls Tryz.prog 72 #[.slice A0 l0.length c0] w fun e w' => ∃ v0_ : Value, e = .returned (v0_) ∧ Kd.R (Kd.int .i64) 3 w' w.heap.size (fun _ => True) v0_ r ∧ Below w.heap.size w w' := by
 (have HR0 := Aside0.mk hr0); (have HC0 := Aside0.mk hc0); clear hr0 hc0; (have HB := Aside0.mk (Below.refl w.heap.size w)); (have H : ((slices_Clone_int_int.f l0).bind fun t420 => (impl_smallIds.l0 k t420 (t420.length : Int) 0)) = some r := h); clear h; (replace H := Option.bind_eq_some_iff.mp H); (obtain ⟨t420, A20, H⟩ := H); (replace H : (impl_smallIds.l0 k t420 (t420.length : Int) 0) = some r := H); (have A2 := Aside0.mk A20); clear A20; (have H' := Aside0.mk H); clear H
 go_enter Tryz.func72, Tryz.ntmps72
 go_wp2_with (first | ((with_reducible refine gate_callee (f := 83) rfl ?_); refine goesL_ (some 7) rfl rfl Tryz.func83 (by kernel_rfl) rfl #[.slice A0 l0.length c0] rfl qL ?_; (with_reducible refine (slices_Clone_int_int.calls _ _ l0 t420 _ ?side1 ?side2 A2.out).mono ?_); (case side1 => repeat (first | exact HR0.out | (with_reducible refine Kd.C_alloc ?_ _) | (with_reducible refine Kd.C_drewN ?_ _) | (with_reducible refine Kd.C_drew ?_))); (case side2 => exact HC0.out); rintro e w3 ⟨v421, rfl, ho0, hb⟩; refine ⟨_, rfl, ?_⟩; have HO422 := Aside0.mk (Kd.R_lower ho0 (below_size (qS0 HB))); replace HB := Aside0.mk (below_step (qS0 HB) hb); (try clear hb); (try clear hb2); (try clear hk); (try clear hi); (try clear ho0); obtain ⟨Ao4, co4, eo4⟩ := Kd.R_slice HO422.out; subst eo4))
 go_loopg [10] k (fun kq v10 w' => ∃ (x3_1 : List Int) (x10_1 : Int), v10 = .int .i64 x10_1 ∧ Aside0 (impl_smallIds.l0 kq x3_1 (t420.length : Int) x10_1 = some r) ∧ Aside0 (kq ≤ k) ∧ Aside0 (Kd.R (Kd.int .i64) 3 w' w.heap.size (fun _ => True) (.slice Ao4 t420.length co4) x3_1) ∧ Aside0 (Below w.heap.size w w'))
 case atStart => exact ⟨(t420), (0), qV, H', ⟨Nat.le_refl _⟩, ⟨qR HO422⟩, ⟨qS0 HB⟩⟩
 case round =>
  clear H'; (try clear p2); (obtain ⟨x3_1, x10_1, rfl, HA, HK1, HO_3, HB⟩ := hrel); (have hl3_1 := (Kd.R_reads' HO_3.out).1); (rw [hl3_1] at HO_3); (try simp only [hl3_1])
  cases gk with
  | zero => exact absurd HA.out (by simp [impl_smallIds.l0])
  | succ k1 =>
   (have H := HA.out); clear HA; (simp only [impl_smallIds.l0] at H)
   by_cases c5 : x10_1 < (t420.length : Int)
   ·rw [if_pos c5] at H
    (have c5b0 : decide (x10_1 < (t420.length : Int)) = true := decide_eq_true c5); (try simp only [hl3_1] at c5b0); clear c5
    by_cases c6 : 0 ≤ x10_1
    ·rw [if_pos c6] at H
     (have c6b0 : decide (0 ≤ x10_1) = true := decide_eq_true c6); clear c6
     by_cases c7 : x10_1 < (x3_1.length : Int)
     ·rw [if_pos c7] at H
      (have c7b0 : decide (x10_1 < (x3_1.length : Int)) = true := decide_eq_true c7); clear c7
      by_cases c8 : (rd x3_1 x10_1) ≥ 0
      ·rw [if_pos c8] at H
       (have c8b0 : decide (0 ≤ (rd x3_1 x10_1)) = true := decide_eq_true c8); clear c8; (obtain ⟨y424, hy424⟩ : ∃ y_ : List Int, y_ = (x3_1.set (x10_1 : Int).toNat (wrap64 (Int.tdiv (rd x3_1 x10_1) 4))) := ⟨_, rfl⟩); (replace H : (impl_smallIds.l0 k1 y424 (t420.length : Int) (wrap64 (x10_1 + 1))) = some r := qY hy424 H); (have Ny424 := Aside0.mk hy424); clear hy424; (have H' := Aside0.mk H); clear H; (have p423 : 0 ≤ (x10_1 : Int) := qO); (have q423 : x10_1 < (x3_1.length : Int) := qO); (obtain ⟨ad423, e423, hx423_0⟩ := Kd.at_int (Kd.R_reads' HO_3.out).2.2 x10_1 p423 q423)
       cases e423
       (replace p423 := eq_true p423); (replace q423 := eq_true q423); (have p9 : 0 ≤ (x10_1 : Int) := qO); (have q9 : (x10_1 : Int) < ((x3_1.length : Int) : Int) := qO); (obtain ⟨go9, co9, eo9, gb9, gl9, cl9, HG9⟩ := Kd.R_form HO_3.out (by omega))
       (first | cases eo9 | (injection eo9 with ea_ en_ ec_; (first | subst ea_ | (injection ea_ with ea_; subst ea_)); subst ec_; clear en_))
       (have GB9 := Aside0.mk gb9); (have GG9 := Aside0.mk HG9); clear gb9 gl9 HG9
       (first | simp only [add_plain] at hx423_0 | skip)
       (obtain ⟨hx9_0, hf9_0⟩ := Kd.R_celln 0 HO_3.out (x10_1 : Int) p9 q9); (replace p9 := eq_true p9); (replace q9 := eq_true q9); (have HP10 := Kd.R_putg HO_3.out (x10_1 : Int) (wrap64 (Int.tdiv (rd x3_1 x10_1) 4)))
       go_wp2_with (first | ((with_reducible refine gate_store (t := 3) (p := 21) rfl ?_); refine store_event (t := 3) (p := 21) (v := ?vo_w11) (w1 := (wr.setCell ⟨go9, (x10_1 : Int).toNat, none⟩ (.int .i64 (wrap64 (Int.tdiv (rd x3_1 x10_1) 4))))) ?hg ?ho ?hn ?hr ?_; (case ho => rfl); (case hg => rfl); (case hn => rfl); (case hr => first | (go_simp; done) | (go_simp; rfl)); intro w11 hw; have hg : wr.grownBy w11 (some go9) := (by rw [hw]; exact HP10.2); have hp_ : Kd.R (Kd.int .i64) 3 w11 w.heap.size (fun _ => True) (.slice (some ⟨go9, 0, none⟩) x3_1.length co4) y424 := (by rw [hw, Ny424.out]; exact HP10.1); clear HP10; replace HO_3 := Aside0.mk (hp_); replace HB := Aside0.mk ((by rw [hw]; exact below_set (HB.out) GB9.out : Below w.heap.size w w11)); clear hg hw hp_))
       (try simp only [← hl3_1])
       go_roundg k1
       case measure => have := HK1.out; omega
       case rel => exact ⟨(y424), (wrap64 (x10_1 + 1)), qV, H', ⟨by have := HK1.out; omega⟩, ⟨by (try simp only [hl3_1]); (with_reducible repeat (first | apply Kd.R_alloc | apply Kd.R_drewN | apply Kd.R_drew)); exact HO_3.out⟩, ⟨qS0 HB⟩⟩
      ·rw [if_neg c8] at H
       (have c8b0 : decide (0 ≤ (rd x3_1 x10_1)) = false := decide_eq_false c8); clear c8; (have H' := Aside0.mk H); clear H; (have p423 : 0 ≤ (x10_1 : Int) := qO); (have q423 : x10_1 < (x3_1.length : Int) := qO); (obtain ⟨ad423, e423, hx423_0⟩ := Kd.at_int (Kd.R_reads' HO_3.out).2.2 x10_1 p423 q423)
       cases e423
       (replace p423 := eq_true p423); (replace q423 := eq_true q423)
       go_wp2
       (try simp only [← hl3_1])
       go_roundg k1
       case measure => have := HK1.out; omega
       case rel => exact ⟨(x3_1), (wrap64 (x10_1 + 1)), qV, H', ⟨by have := HK1.out; omega⟩, ⟨by (try simp only [hl3_1]); (with_reducible repeat (first | apply Kd.R_alloc | apply Kd.R_drewN | apply Kd.R_drew)); exact HO_3.out⟩, ⟨qS0 HB⟩⟩
     ·rw [if_neg c7] at H
      exact absurd H (by simp)
    ·rw [if_neg c6] at H
     exact absurd H (by simp)
   ·rw [if_neg c5] at H
    (have c5b0 : decide (x10_1 < (t420.length : Int)) = false := decide_eq_false c5); (try simp only [hl3_1] at c5b0); clear c5; (obtain rfl := Option.some.inj H)
    go_wp2
    go_ret
    exact ⟨_, qE, qR HO_3, qS0 HB⟩
end Go.Proofs.YtppopmajclmhjaaGreatDoor.QB
