/- Part of the proof of the law FnExactSessPair: what it uses of the texts that this session and the kit's print wrote. -/
import Derived.Test.YtppopmajclmhjaaGreatDoorZFnExactSessPairx2
namespace Go.Proofs.YtppopmajclmhjaaGreatDoor.QB
open Go.RowKit Go.Proofs.YtppopmajclmhjaaGreatDoorW.PrintWords Go.Proofs.YtppopmajclmhjaaGreatDoorW.PrintLast Go.Proofs.YtppopmajclmhjaaGreatDoorW.PrintMore
attribute [local go_sem] max2_int min2_int max_two min_two max_three min_three max_four min_four
set_option linter.unusedVariables false
set_option linter.unusedSimpArgs false
set_option maxHeartbeats 8000000
set_option maxRecDepth 100000
def laws_markReqS.l0 : Nat → List (S56) → Int → Int → Option (Int × (List (S56)))
 | 0, _, _, _ => none
 | k + 1, x0, x1, x5 => if x5 < (x0.length : Int) then (if 0 ≤ x5 then ((some (x0.set (x5 : Int).toNat (⟨x1, (rd_T56 x0 x5).f1, (rd_T56 x0 x5).f2, (rd_T56 x0 x5).f3, (rd_T56 x0 x5).f4, (rd_T56 x0 x5).f5, (rd_T56 x0 x5).f6⟩ : S56) : List (S56))).bind fun y600 => ((laws_markText.f k (wrap64 (x1 + 1))).bind fun t601 => ((some (y600.set (x5 : Int).toNat (⟨(rd_T56 y600 x5).f0, t601, (rd_T56 y600 x5).f2, (rd_T56 y600 x5).f3, (rd_T56 y600 x5).f4, (rd_T56 y600 x5).f5, (rd_T56 y600 x5).f6⟩ : S56) : List (S56))).bind fun y602 => ((some (y602.set (x5 : Int).toNat (⟨(rd_T56 y602 x5).f0, (rd_T56 y602 x5).f1, wrap64 ((wrap64 (x1 + 1)) + 1), (rd_T56 y602 x5).f3, (rd_T56 y602 x5).f4, (rd_T56 y602 x5).f5, (rd_T56 y602 x5).f6⟩ : S56) : List (S56))).bind fun y603 => ((some (y603.set (x5 : Int).toNat (⟨(rd_T56 y603 x5).f0, (rd_T56 y603 x5).f1, (rd_T56 y603 x5).f2, wrap64 ((wrap64 ((wrap64 (x1 + 1)) + 1)) + 1), (rd_T56 y603 x5).f4, (rd_T56 y603 x5).f5, (rd_T56 y603 x5).f6⟩ : S56) : List (S56))).bind fun y604 => ((some (y604.set (x5 : Int).toNat (⟨(rd_T56 y604 x5).f0, (rd_T56 y604 x5).f1, (rd_T56 y604 x5).f2, (rd_T56 y604 x5).f3, wrap64 ((wrap64 ((wrap64 ((wrap64 (x1 + 1)) + 1)) + 1)) + 1), (rd_T56 y604 x5).f5, (rd_T56 y604 x5).f6⟩ : S56) : List (S56))).bind fun y605 => ((some (y605.set (x5 : Int).toNat (⟨(rd_T56 y605 x5).f0, (rd_T56 y605 x5).f1, (rd_T56 y605 x5).f2, (rd_T56 y605 x5).f3, (rd_T56 y605 x5).f4, wrap64 ((wrap64 ((wrap64 ((wrap64 ((wrap64 (x1 + 1)) + 1)) + 1)) + 1)) + 1), (rd_T56 y605 x5).f6⟩ : S56) : List (S56))).bind fun y606 => ((laws_markText.f k (wrap64 ((wrap64 ((wrap64 ((wrap64 ((wrap64 ((wrap64 (x1 + 1)) + 1)) + 1)) + 1)) + 1)) + 1))).bind fun t607 => (laws_markReqS.l0 k (y606.set (x5 : Int).toNat (⟨(rd_T56 y606 x5).f0, (rd_T56 y606 x5).f1, (rd_T56 y606 x5).f2, (rd_T56 y606 x5).f3, (rd_T56 y606 x5).f4, (rd_T56 y606 x5).f5, t607⟩ : S56)) (wrap64 ((wrap64 ((wrap64 ((wrap64 ((wrap64 ((wrap64 ((wrap64 (x1 + 1)) + 1)) + 1)) + 1)) + 1)) + 1)) + 1)) (wrap64 (x5 + 1))))))))))) else (none)) else (some (x1, x0))
def laws_markReqS.f (k : Nat) (l0 : List (S56)) (a1 : Int) : Option (Int × (List (S56))) := laws_markReqS.l0 k l0 a1 0
theorem laws_markReqS.calls (k : Nat) (P0_ : Nat → Prop) (u9000_ : Value) (l0 : List (S56)) (a1 : Int) (r1 : Int) (r2 : List (S56)) (w0 w : World) (hB : Below w0.heap.size w0 w) (ho0 : Kd.R k56 56 w w0.heap.size P0_ u9000_ l0) (h : laws_markReqS.f k l0 a1 = some (r1, r2)) :
  Calls Tryz.prog 14 #[u9000_, .int .i64 a1] w fun e w' => e = .returned (.int .i64 r1) ∧ Kd.R k56 56 w' w0.heap.size (fun k_ => (P0_ k_ ∨ w.heap.size ≤ k_)) u9000_ r2 ∧ Below w0.heap.size w0 w' ∧ Kept w w' (fun k_ => P0_ k_) := by
 (have HO0 := Aside0.mk (show Kd.R k56 56 w w0.heap.size (fun k_ => (P0_ k_ ∨ w.heap.size ≤ k_)) u9000_ l0 from Kd.R_mono ho0 (fun k_ hk => (.inl hk)))); (have HK := Aside0.mk (Kept.refl w (fun k_ => P0_ k_))); (have HW0 := Aside0.mk hB.size); (have HB := Aside0.mk hB); clear hB; (have H : (laws_markReqS.l0 k l0 a1 0) = some (r1, r2) := h); clear h; (have H' := Aside0.mk H); clear H
 go_enter Tryz.func14, Tryz.ntmps14
 go_wp2
 go_loopg [1, 5] k (fun kq v1 v5 w' => ∃ (x0_1 : List (S56)) (x1_1 : Int) (x5_1 : Int), v1 = .int .i64 x1_1 ∧ v5 = .int .i64 x5_1 ∧ Aside0 (laws_markReqS.l0 kq x0_1 x1_1 x5_1 = some (r1, r2)) ∧ Aside0 (kq ≤ k) ∧ Aside0 (Kd.R k56 56 w' w0.heap.size (fun k_ => (P0_ k_ ∨ w.heap.size ≤ k_)) u9000_ x0_1) ∧ Aside0 (Kept w w' (fun k_ => P0_ k_)) ∧ Aside0 (Below w0.heap.size w0 w'))
 case atStart => exact ⟨(l0), (a1), (0), qV, qV, H', ⟨Nat.le_refl _⟩, ⟨qR HO0⟩, ⟨by repeat (first | (with_reducible first | exact HK.out | apply Kept.alloc | apply Kept.drewN | apply Kept.drew) | exact HK.out)⟩, ⟨qS0 HB⟩⟩
 case round =>
  clear H'; (obtain ⟨x0_1, x1_1, x5_1, rfl, rfl, HA, HK1, HO_0, HK, HB⟩ := hrel)
  cases gk with
  | zero => exact absurd HA.out (by simp [laws_markReqS.l0])
  | succ k1 =>
   (have H := HA.out); clear HA; (simp only [laws_markReqS.l0] at H)
   rcases qI H with ⟨c3b0, H⟩ | ⟨c3b0, H⟩
   ·obtain ⟨c4b0, H⟩ := qT H
    (obtain ⟨y600, hy600⟩ : ∃ y_ : List (S56), y_ = (x0_1.set (x5_1 : Int).toNat (⟨x1_1, (rd_T56 x0_1 x5_1).f1, (rd_T56 x0_1 x5_1).f2, (rd_T56 x0_1 x5_1).f3, (rd_T56 x0_1 x5_1).f4, (rd_T56 x0_1 x5_1).f5, (rd_T56 x0_1 x5_1).f6⟩ : S56)) := ⟨_, rfl⟩); (replace H : ((laws_markText.f k1 (wrap64 (x1_1 + 1))).bind fun t601 => ((some (y600.set (x5_1 : Int).toNat (⟨(rd_T56 y600 x5_1).f0, t601, (rd_T56 y600 x5_1).f2, (rd_T56 y600 x5_1).f3, (rd_T56 y600 x5_1).f4, (rd_T56 y600 x5_1).f5, (rd_T56 y600 x5_1).f6⟩ : S56) : List (S56))).bind fun y602 => ((some (y602.set (x5_1 : Int).toNat (⟨(rd_T56 y602 x5_1).f0, (rd_T56 y602 x5_1).f1, wrap64 ((wrap64 (x1_1 + 1)) + 1), (rd_T56 y602 x5_1).f3, (rd_T56 y602 x5_1).f4, (rd_T56 y602 x5_1).f5, (rd_T56 y602 x5_1).f6⟩ : S56) : List (S56))).bind fun y603 => ((some (y603.set (x5_1 : Int).toNat (⟨(rd_T56 y603 x5_1).f0, (rd_T56 y603 x5_1).f1, (rd_T56 y603 x5_1).f2, wrap64 ((wrap64 ((wrap64 (x1_1 + 1)) + 1)) + 1), (rd_T56 y603 x5_1).f4, (rd_T56 y603 x5_1).f5, (rd_T56 y603 x5_1).f6⟩ : S56) : List (S56))).bind fun y604 => ((some (y604.set (x5_1 : Int).toNat (⟨(rd_T56 y604 x5_1).f0, (rd_T56 y604 x5_1).f1, (rd_T56 y604 x5_1).f2, (rd_T56 y604 x5_1).f3, wrap64 ((wrap64 ((wrap64 ((wrap64 (x1_1 + 1)) + 1)) + 1)) + 1), (rd_T56 y604 x5_1).f5, (rd_T56 y604 x5_1).f6⟩ : S56) : List (S56))).bind fun y605 => ((some (y605.set (x5_1 : Int).toNat (⟨(rd_T56 y605 x5_1).f0, (rd_T56 y605 x5_1).f1, (rd_T56 y605 x5_1).f2, (rd_T56 y605 x5_1).f3, (rd_T56 y605 x5_1).f4, wrap64 ((wrap64 ((wrap64 ((wrap64 ((wrap64 (x1_1 + 1)) + 1)) + 1)) + 1)) + 1), (rd_T56 y605 x5_1).f6⟩ : S56) : List (S56))).bind fun y606 => ((laws_markText.f k1 (wrap64 ((wrap64 ((wrap64 ((wrap64 ((wrap64 ((wrap64 (x1_1 + 1)) + 1)) + 1)) + 1)) + 1)) + 1))).bind fun t607 => (laws_markReqS.l0 k1 (y606.set (x5_1 : Int).toNat (⟨(rd_T56 y606 x5_1).f0, (rd_T56 y606 x5_1).f1, (rd_T56 y606 x5_1).f2, (rd_T56 y606 x5_1).f3, (rd_T56 y606 x5_1).f4, (rd_T56 y606 x5_1).f5, t607⟩ : S56)) (wrap64 ((wrap64 ((wrap64 ((wrap64 ((wrap64 ((wrap64 ((wrap64 (x1_1 + 1)) + 1)) + 1)) + 1)) + 1)) + 1)) + 1)) (wrap64 (x5_1 + 1)))))))))) = some (r1, r2) := qY hy600 H); (have Ny600 := Aside0.mk hy600); clear hy600; (obtain ⟨t601, A6, H⟩ := qX H)
    try dsimp only at H
    (obtain ⟨y602, hy602⟩ : ∃ y_ : List (S56), y_ = (y600.set (x5_1 : Int).toNat (⟨(rd_T56 y600 x5_1).f0, t601, (rd_T56 y600 x5_1).f2, (rd_T56 y600 x5_1).f3, (rd_T56 y600 x5_1).f4, (rd_T56 y600 x5_1).f5, (rd_T56 y600 x5_1).f6⟩ : S56)) := ⟨_, rfl⟩); (replace H : ((some (y602.set (x5_1 : Int).toNat (⟨(rd_T56 y602 x5_1).f0, (rd_T56 y602 x5_1).f1, wrap64 ((wrap64 (x1_1 + 1)) + 1), (rd_T56 y602 x5_1).f3, (rd_T56 y602 x5_1).f4, (rd_T56 y602 x5_1).f5, (rd_T56 y602 x5_1).f6⟩ : S56) : List (S56))).bind fun y603 => ((some (y603.set (x5_1 : Int).toNat (⟨(rd_T56 y603 x5_1).f0, (rd_T56 y603 x5_1).f1, (rd_T56 y603 x5_1).f2, wrap64 ((wrap64 ((wrap64 (x1_1 + 1)) + 1)) + 1), (rd_T56 y603 x5_1).f4, (rd_T56 y603 x5_1).f5, (rd_T56 y603 x5_1).f6⟩ : S56) : List (S56))).bind fun y604 => ((some (y604.set (x5_1 : Int).toNat (⟨(rd_T56 y604 x5_1).f0, (rd_T56 y604 x5_1).f1, (rd_T56 y604 x5_1).f2, (rd_T56 y604 x5_1).f3, wrap64 ((wrap64 ((wrap64 ((wrap64 (x1_1 + 1)) + 1)) + 1)) + 1), (rd_T56 y604 x5_1).f5, (rd_T56 y604 x5_1).f6⟩ : S56) : List (S56))).bind fun y605 => ((some (y605.set (x5_1 : Int).toNat (⟨(rd_T56 y605 x5_1).f0, (rd_T56 y605 x5_1).f1, (rd_T56 y605 x5_1).f2, (rd_T56 y605 x5_1).f3, (rd_T56 y605 x5_1).f4, wrap64 ((wrap64 ((wrap64 ((wrap64 ((wrap64 (x1_1 + 1)) + 1)) + 1)) + 1)) + 1), (rd_T56 y605 x5_1).f6⟩ : S56) : List (S56))).bind fun y606 => ((laws_markText.f k1 (wrap64 ((wrap64 ((wrap64 ((wrap64 ((wrap64 ((wrap64 (x1_1 + 1)) + 1)) + 1)) + 1)) + 1)) + 1))).bind fun t607 => (laws_markReqS.l0 k1 (y606.set (x5_1 : Int).toNat (⟨(rd_T56 y606 x5_1).f0, (rd_T56 y606 x5_1).f1, (rd_T56 y606 x5_1).f2, (rd_T56 y606 x5_1).f3, (rd_T56 y606 x5_1).f4, (rd_T56 y606 x5_1).f5, t607⟩ : S56)) (wrap64 ((wrap64 ((wrap64 ((wrap64 ((wrap64 ((wrap64 ((wrap64 (x1_1 + 1)) + 1)) + 1)) + 1)) + 1)) + 1)) + 1)) (wrap64 (x5_1 + 1)))))))) = some (r1, r2) := qY hy602 H); (have Ny602 := Aside0.mk hy602); clear hy602; (obtain ⟨y603, hy603⟩ : ∃ y_ : List (S56), y_ = (y602.set (x5_1 : Int).toNat (⟨(rd_T56 y602 x5_1).f0, (rd_T56 y602 x5_1).f1, wrap64 ((wrap64 (x1_1 + 1)) + 1), (rd_T56 y602 x5_1).f3, (rd_T56 y602 x5_1).f4, (rd_T56 y602 x5_1).f5, (rd_T56 y602 x5_1).f6⟩ : S56)) := ⟨_, rfl⟩); (replace H : ((some (y603.set (x5_1 : Int).toNat (⟨(rd_T56 y603 x5_1).f0, (rd_T56 y603 x5_1).f1, (rd_T56 y603 x5_1).f2, wrap64 ((wrap64 ((wrap64 (x1_1 + 1)) + 1)) + 1), (rd_T56 y603 x5_1).f4, (rd_T56 y603 x5_1).f5, (rd_T56 y603 x5_1).f6⟩ : S56) : List (S56))).bind fun y604 => ((some (y604.set (x5_1 : Int).toNat (⟨(rd_T56 y604 x5_1).f0, (rd_T56 y604 x5_1).f1, (rd_T56 y604 x5_1).f2, (rd_T56 y604 x5_1).f3, wrap64 ((wrap64 ((wrap64 ((wrap64 (x1_1 + 1)) + 1)) + 1)) + 1), (rd_T56 y604 x5_1).f5, (rd_T56 y604 x5_1).f6⟩ : S56) : List (S56))).bind fun y605 => ((some (y605.set (x5_1 : Int).toNat (⟨(rd_T56 y605 x5_1).f0, (rd_T56 y605 x5_1).f1, (rd_T56 y605 x5_1).f2, (rd_T56 y605 x5_1).f3, (rd_T56 y605 x5_1).f4, wrap64 ((wrap64 ((wrap64 ((wrap64 ((wrap64 (x1_1 + 1)) + 1)) + 1)) + 1)) + 1), (rd_T56 y605 x5_1).f6⟩ : S56) : List (S56))).bind fun y606 => ((laws_markText.f k1 (wrap64 ((wrap64 ((wrap64 ((wrap64 ((wrap64 ((wrap64 (x1_1 + 1)) + 1)) + 1)) + 1)) + 1)) + 1))).bind fun t607 => (laws_markReqS.l0 k1 (y606.set (x5_1 : Int).toNat (⟨(rd_T56 y606 x5_1).f0, (rd_T56 y606 x5_1).f1, (rd_T56 y606 x5_1).f2, (rd_T56 y606 x5_1).f3, (rd_T56 y606 x5_1).f4, (rd_T56 y606 x5_1).f5, t607⟩ : S56)) (wrap64 ((wrap64 ((wrap64 ((wrap64 ((wrap64 ((wrap64 ((wrap64 (x1_1 + 1)) + 1)) + 1)) + 1)) + 1)) + 1)) + 1)) (wrap64 (x5_1 + 1))))))) = some (r1, r2) := qY hy603 H); (have Ny603 := Aside0.mk hy603); clear hy603; (obtain ⟨y604, hy604⟩ : ∃ y_ : List (S56), y_ = (y603.set (x5_1 : Int).toNat (⟨(rd_T56 y603 x5_1).f0, (rd_T56 y603 x5_1).f1, (rd_T56 y603 x5_1).f2, wrap64 ((wrap64 ((wrap64 (x1_1 + 1)) + 1)) + 1), (rd_T56 y603 x5_1).f4, (rd_T56 y603 x5_1).f5, (rd_T56 y603 x5_1).f6⟩ : S56)) := ⟨_, rfl⟩); (replace H : ((some (y604.set (x5_1 : Int).toNat (⟨(rd_T56 y604 x5_1).f0, (rd_T56 y604 x5_1).f1, (rd_T56 y604 x5_1).f2, (rd_T56 y604 x5_1).f3, wrap64 ((wrap64 ((wrap64 ((wrap64 (x1_1 + 1)) + 1)) + 1)) + 1), (rd_T56 y604 x5_1).f5, (rd_T56 y604 x5_1).f6⟩ : S56) : List (S56))).bind fun y605 => ((some (y605.set (x5_1 : Int).toNat (⟨(rd_T56 y605 x5_1).f0, (rd_T56 y605 x5_1).f1, (rd_T56 y605 x5_1).f2, (rd_T56 y605 x5_1).f3, (rd_T56 y605 x5_1).f4, wrap64 ((wrap64 ((wrap64 ((wrap64 ((wrap64 (x1_1 + 1)) + 1)) + 1)) + 1)) + 1), (rd_T56 y605 x5_1).f6⟩ : S56) : List (S56))).bind fun y606 => ((laws_markText.f k1 (wrap64 ((wrap64 ((wrap64 ((wrap64 ((wrap64 ((wrap64 (x1_1 + 1)) + 1)) + 1)) + 1)) + 1)) + 1))).bind fun t607 => (laws_markReqS.l0 k1 (y606.set (x5_1 : Int).toNat (⟨(rd_T56 y606 x5_1).f0, (rd_T56 y606 x5_1).f1, (rd_T56 y606 x5_1).f2, (rd_T56 y606 x5_1).f3, (rd_T56 y606 x5_1).f4, (rd_T56 y606 x5_1).f5, t607⟩ : S56)) (wrap64 ((wrap64 ((wrap64 ((wrap64 ((wrap64 ((wrap64 ((wrap64 (x1_1 + 1)) + 1)) + 1)) + 1)) + 1)) + 1)) + 1)) (wrap64 (x5_1 + 1)))))) = some (r1, r2) := qY hy604 H); (have Ny604 := Aside0.mk hy604); clear hy604; (obtain ⟨y605, hy605⟩ : ∃ y_ : List (S56), y_ = (y604.set (x5_1 : Int).toNat (⟨(rd_T56 y604 x5_1).f0, (rd_T56 y604 x5_1).f1, (rd_T56 y604 x5_1).f2, (rd_T56 y604 x5_1).f3, wrap64 ((wrap64 ((wrap64 ((wrap64 (x1_1 + 1)) + 1)) + 1)) + 1), (rd_T56 y604 x5_1).f5, (rd_T56 y604 x5_1).f6⟩ : S56)) := ⟨_, rfl⟩); (replace H : ((some (y605.set (x5_1 : Int).toNat (⟨(rd_T56 y605 x5_1).f0, (rd_T56 y605 x5_1).f1, (rd_T56 y605 x5_1).f2, (rd_T56 y605 x5_1).f3, (rd_T56 y605 x5_1).f4, wrap64 ((wrap64 ((wrap64 ((wrap64 ((wrap64 (x1_1 + 1)) + 1)) + 1)) + 1)) + 1), (rd_T56 y605 x5_1).f6⟩ : S56) : List (S56))).bind fun y606 => ((laws_markText.f k1 (wrap64 ((wrap64 ((wrap64 ((wrap64 ((wrap64 ((wrap64 (x1_1 + 1)) + 1)) + 1)) + 1)) + 1)) + 1))).bind fun t607 => (laws_markReqS.l0 k1 (y606.set (x5_1 : Int).toNat (⟨(rd_T56 y606 x5_1).f0, (rd_T56 y606 x5_1).f1, (rd_T56 y606 x5_1).f2, (rd_T56 y606 x5_1).f3, (rd_T56 y606 x5_1).f4, (rd_T56 y606 x5_1).f5, t607⟩ : S56)) (wrap64 ((wrap64 ((wrap64 ((wrap64 ((wrap64 ((wrap64 ((wrap64 (x1_1 + 1)) + 1)) + 1)) + 1)) + 1)) + 1)) + 1)) (wrap64 (x5_1 + 1))))) = some (r1, r2) := qY hy605 H); (have Ny605 := Aside0.mk hy605); clear hy605; (obtain ⟨y606, hy606⟩ : ∃ y_ : List (S56), y_ = (y605.set (x5_1 : Int).toNat (⟨(rd_T56 y605 x5_1).f0, (rd_T56 y605 x5_1).f1, (rd_T56 y605 x5_1).f2, (rd_T56 y605 x5_1).f3, (rd_T56 y605 x5_1).f4, wrap64 ((wrap64 ((wrap64 ((wrap64 ((wrap64 (x1_1 + 1)) + 1)) + 1)) + 1)) + 1), (rd_T56 y605 x5_1).f6⟩ : S56)) := ⟨_, rfl⟩); (replace H : ((laws_markText.f k1 (wrap64 ((wrap64 ((wrap64 ((wrap64 ((wrap64 ((wrap64 (x1_1 + 1)) + 1)) + 1)) + 1)) + 1)) + 1))).bind fun t607 => (laws_markReqS.l0 k1 (y606.set (x5_1 : Int).toNat (⟨(rd_T56 y606 x5_1).f0, (rd_T56 y606 x5_1).f1, (rd_T56 y606 x5_1).f2, (rd_T56 y606 x5_1).f3, (rd_T56 y606 x5_1).f4, (rd_T56 y606 x5_1).f5, t607⟩ : S56)) (wrap64 ((wrap64 ((wrap64 ((wrap64 ((wrap64 ((wrap64 ((wrap64 (x1_1 + 1)) + 1)) + 1)) + 1)) + 1)) + 1)) + 1)) (wrap64 (x5_1 + 1)))) = some (r1, r2) := qY hy606 H); (have Ny606 := Aside0.mk hy606); clear hy606; (obtain ⟨t607, A12, H⟩ := qX H)
    try dsimp only at H
    (obtain ⟨y608, hy608⟩ : ∃ y_ : List (S56), y_ = (y606.set (x5_1 : Int).toNat (⟨(rd_T56 y606 x5_1).f0, (rd_T56 y606 x5_1).f1, (rd_T56 y606 x5_1).f2, (rd_T56 y606 x5_1).f3, (rd_T56 y606 x5_1).f4, (rd_T56 y606 x5_1).f5, t607⟩ : S56)) := ⟨_, rfl⟩); (replace H : (laws_markReqS.l0 k1 y608 (wrap64 ((wrap64 ((wrap64 ((wrap64 ((wrap64 ((wrap64 ((wrap64 (x1_1 + 1)) + 1)) + 1)) + 1)) + 1)) + 1)) + 1)) (wrap64 (x5_1 + 1))) = some (r1, r2) := qY hy608 H); (have Ny608 := Aside0.mk hy608); clear hy608; (have H' := Aside0.mk H); clear H; (obtain ⟨Ao14, co14, eo14⟩ := Kd.R_slice HO_0.out); (subst eo14); (have p5 : 0 ≤ (x5_1 : Int) := qO); (have q5 : (x5_1 : Int) < ((x0_1.length : Int) : Int) := qO); (obtain ⟨go5, co5, eo5, gb5, gl5, cl5, HG5⟩ := Kd.R_form HO_0.out (by omega))
    (first | cases eo5 | (injection eo5 with ea_ en_ ec_; (first | subst ea_ | (injection ea_ with ea_; subst ea_)); subst ec_; clear en_))
    (have GB5 := Aside0.mk gb5); (have GG5 := Aside0.mk HG5); clear gb5 gl5 HG5; (have HMgo5 := Aside0.mk (show (P0_ go5 ∨ w.heap.size ≤ go5) from (HO_0.out.1 _ rfl))); (obtain ⟨ce5, hcl5, hM5, hcc5, hfr5⟩ := Kd.R_elem HO_0.out z56 (x5_1 : Int) p5 q5); (obtain rfl := k56_openM hM5); (have hx5_0 : wr.cell? ⟨go5, (x5_1 : Int).toNat * 7, none⟩ = some (.int .i64 ((rd_T56 x0_1 x5_1).f0)) := hcc5 0 _ rfl); (have hx5_1 : wr.cell? ⟨go5, (x5_1 : Int).toNat * 7 + 1, none⟩ = some (.string ((rd_T56 x0_1 x5_1).f1)) := hcc5 1 _ rfl); (have hx5_2 : wr.cell? ⟨go5, (x5_1 : Int).toNat * 7 + 2, none⟩ = some (.int .i64 ((rd_T56 x0_1 x5_1).f2)) := hcc5 2 _ rfl); (have hx5_3 : wr.cell? ⟨go5, (x5_1 : Int).toNat * 7 + 3, none⟩ = some (.int .i64 ((rd_T56 x0_1 x5_1).f3)) := hcc5 3 _ rfl); (have hx5_4 : wr.cell? ⟨go5, (x5_1 : Int).toNat * 7 + 4, none⟩ = some (.int .i64 ((rd_T56 x0_1 x5_1).f4)) := hcc5 4 _ rfl); (have hx5_5 : wr.cell? ⟨go5, (x5_1 : Int).toNat * 7 + 5, none⟩ = some (.int .i64 ((rd_T56 x0_1 x5_1).f5)) := hcc5 5 _ rfl); (have hx5_6 : wr.cell? ⟨go5, (x5_1 : Int).toNat * 7 + 6, none⟩ = some (.string ((rd_T56 x0_1 x5_1).f6)) := hcc5 6 _ rfl); (have hf5_0 : wr.frozen? ⟨go5, (x5_1 : Int).toNat * 7, none⟩ = false := hfr5 0); (have hf5_1 : wr.frozen? ⟨go5, (x5_1 : Int).toNat * 7 + 1, none⟩ = false := hfr5 1); (have hf5_2 : wr.frozen? ⟨go5, (x5_1 : Int).toNat * 7 + 2, none⟩ = false := hfr5 2); (have hf5_3 : wr.frozen? ⟨go5, (x5_1 : Int).toNat * 7 + 3, none⟩ = false := hfr5 3); (have hf5_4 : wr.frozen? ⟨go5, (x5_1 : Int).toNat * 7 + 4, none⟩ = false := hfr5 4); (have hf5_5 : wr.frozen? ⟨go5, (x5_1 : Int).toNat * 7 + 5, none⟩ = false := hfr5 5); (have hf5_6 : wr.frozen? ⟨go5, (x5_1 : Int).toNat * 7 + 6, none⟩ = false := hfr5 6); clear hcl5 hcc5 hfr5 hM5; (replace p5 := eq_true p5); (replace q5 := eq_true q5); (have HX15 := Aside0.mk (show Kd.R k56 56 wr w0.heap.size (fun k_ => (P0_ k_ ∨ w.heap.size ≤ k_)) (.slice (some ⟨go5, 0, none⟩) x0_1.length co14) x0_1 from (qR HO_0))); (obtain ⟨ce15, hcl15, hM15, hcc15, hfr15⟩ := Kd.R_elem HX15.out z56 (x5_1 : Int) (qO) (by have h_ : (x5_1 : Int) < ((x0_1.length : Int) : Int) := qO; first | exact h_ | (have e_ := (Kd.R_reads' HO_0.out).1; omega) | simpa using h_)); (obtain rfl := k56_openM hM15); (have HP15 := Kd.R_seg HX15.out (x5_1 : Int) (qO) (by have h_ : (x5_1 : Int) < ((x0_1.length : Int) : Int) := qO; first | exact h_ | (have e_ := (Kd.R_reads' HO_0.out).1; omega) | simpa using h_) (seg := [.int .i64 x1_1]) (j := 0) hcl15 hcc15 (show 1 ≤ 7 from by decide) (x' := (⟨x1_1, (rd_T56 x0_1 x5_1).f1, (rd_T56 x0_1 x5_1).f2, (rd_T56 x0_1 x5_1).f3, (rd_T56 x0_1 x5_1).f4, (rd_T56 x0_1 x5_1).f5, (rd_T56 x0_1 x5_1).f6⟩ : S56)) (k56_mkM _ _ _ (⟨x1_1, (rd_T56 x0_1 x5_1).f1, (rd_T56 x0_1 x5_1).f2, (rd_T56 x0_1 x5_1).f3, (rd_T56 x0_1 x5_1).f4, (rd_T56 x0_1 x5_1).f5, (rd_T56 x0_1 x5_1).f6⟩ : S56) ) (fun _ hk => hk)); (have hx15_0 := hcc15 0 _ rfl); (try simp only [show (k56).sz = 7 from rfl, Nat.mul_one, Nat.add_zero] at hx15_0); (have hf15_0 := hfr15 0); (try simp only [show (k56).sz = 7 from rfl, Nat.mul_one, Nat.add_zero] at hf15_0); clear hcl15 hcc15 hfr15 hM15
    go_wp2_with (first | ((with_reducible refine gate_store (t := 3) (p := 16) rfl ?_); refine store_event (t := 3) (p := 16) (v := ?vo_w16) (w1 := (wr.setCell ⟨go5, (x5_1 : Int).toNat * 7, none⟩ (.int .i64 x1_1))) ?hg ?ho ?hn ?hr ?_; (case ho => rfl); (case hg => rfl); (case hn => rfl); (case hr => first | (go_simp; done) | (go_simp; rfl)); intro w16 hw; have hg : wr.grownBy w16 (some go5) := (by rw [hw]; exact HP15.2); have hp_ : Kd.R k56 56 w16 w0.heap.size (fun k_ => (P0_ k_ ∨ w.heap.size ≤ k_)) (.slice (some ⟨go5, 0, none⟩) x0_1.length co14) y600 := (by rw [hw, Ny600.out]; exact HP15.1); clear HP15; replace HB := Aside0.mk ((by rw [hw]; exact below_set (HB.out) GB5.out : Below w0.heap.size w0 w16)); replace HK := Aside0.mk (Kept.of_grown (S := (fun k_ => P0_ k_)) hg (by repeat (first | (with_reducible first | exact HK.out | apply Kept.alloc | apply Kept.drewN | apply Kept.drew) | exact HK.out)) (fun k_ e_ => (HO_0.out.1 k_ e_))); replace HO_0 := Aside0.mk (hp_); clear hg hw hp_) | ((with_reducible refine gate_callee (f := 41) rfl ?_); refine goesL_ (some 22) rfl rfl Tryz.func41 (by kernel_rfl) rfl #[.int .i64 (wrap64 (x1_1 + 1))] rfl qL ?_; (with_reducible refine (laws_markText.calls k1 (wrap64 (x1_1 + 1)) t601 _ A6.out).mono ?_); rintro e w17 ⟨rfl, hb⟩; refine ⟨_, rfl, ?_⟩; replace HO_0 := Aside0.mk (Kd.R_below (qR HO_0) hb); replace HK := Aside0.mk (Kept.below (S := (fun k_ => P0_ k_)) (by repeat (first | (with_reducible first | exact HK.out | apply Kept.alloc | apply Kept.drewN | apply Kept.drew) | exact HK.out)) hb); replace HB := Aside0.mk (below_step (qS0 HB) hb); (try clear hb); (try clear hb2); (try clear hk); (try clear hi); have p7 : 0 ≤ (x5_1 : Int) := qO; have q7 : (x5_1 : Int) < ((x0_1.length : Int) : Int) := qO; obtain ⟨ce7, hcl7, hM7, hcc7, hfr7⟩ := Kd.R_elem HO_0.out z56 (x5_1 : Int) p7 q7; obtain rfl := k56_openM hM7; have hx7_0 : w17.cell? ⟨go5, (x5_1 : Int).toNat * 7, none⟩ = some (.int .i64 ((rd_T56 y600 x5_1).f0)) := hcc7 0 _ rfl; have hx7_1 : w17.cell? ⟨go5, (x5_1 : Int).toNat * 7 + 1, none⟩ = some (.string ((rd_T56 y600 x5_1).f1)) := hcc7 1 _ rfl; have hx7_2 : w17.cell? ⟨go5, (x5_1 : Int).toNat * 7 + 2, none⟩ = some (.int .i64 ((rd_T56 y600 x5_1).f2)) := hcc7 2 _ rfl; have hx7_3 : w17.cell? ⟨go5, (x5_1 : Int).toNat * 7 + 3, none⟩ = some (.int .i64 ((rd_T56 y600 x5_1).f3)) := hcc7 3 _ rfl; have hx7_4 : w17.cell? ⟨go5, (x5_1 : Int).toNat * 7 + 4, none⟩ = some (.int .i64 ((rd_T56 y600 x5_1).f4)) := hcc7 4 _ rfl; have hx7_5 : w17.cell? ⟨go5, (x5_1 : Int).toNat * 7 + 5, none⟩ = some (.int .i64 ((rd_T56 y600 x5_1).f5)) := hcc7 5 _ rfl; have hx7_6 : w17.cell? ⟨go5, (x5_1 : Int).toNat * 7 + 6, none⟩ = some (.string ((rd_T56 y600 x5_1).f6)) := hcc7 6 _ rfl; have hf7_0 : w17.frozen? ⟨go5, (x5_1 : Int).toNat * 7, none⟩ = false := hfr7 0; have hf7_1 : w17.frozen? ⟨go5, (x5_1 : Int).toNat * 7 + 1, none⟩ = false := hfr7 1; have hf7_2 : w17.frozen? ⟨go5, (x5_1 : Int).toNat * 7 + 2, none⟩ = false := hfr7 2; have hf7_3 : w17.frozen? ⟨go5, (x5_1 : Int).toNat * 7 + 3, none⟩ = false := hfr7 3; have hf7_4 : w17.frozen? ⟨go5, (x5_1 : Int).toNat * 7 + 4, none⟩ = false := hfr7 4; have hf7_5 : w17.frozen? ⟨go5, (x5_1 : Int).toNat * 7 + 5, none⟩ = false := hfr7 5; have hf7_6 : w17.frozen? ⟨go5, (x5_1 : Int).toNat * 7 + 6, none⟩ = false := hfr7 6; clear hcl7 hcc7 hfr7 hM7; replace p7 := eq_true p7; replace q7 := eq_true q7; have HX18 := Aside0.mk (show Kd.R k56 56 w17 w0.heap.size (fun k_ => (P0_ k_ ∨ w.heap.size ≤ k_)) (.slice (some ⟨go5, 0, none⟩) x0_1.length co14) y600 from (qR HO_0)); obtain ⟨ce18, hcl18, hM18, hcc18, hfr18⟩ := Kd.R_elem HX18.out z56 (x5_1 : Int) (qO) (by have h_ : (x5_1 : Int) < ((x0_1.length : Int) : Int) := qO; first | exact h_ | (have e_ := (Kd.R_reads' HO_0.out).1; omega) | simpa using h_); obtain rfl := k56_openM hM18; have HP18 := Kd.R_seg HX18.out (x5_1 : Int) (qO) (by have h_ : (x5_1 : Int) < ((x0_1.length : Int) : Int) := qO; first | exact h_ | (have e_ := (Kd.R_reads' HO_0.out).1; omega) | simpa using h_) (seg := [.string t601]) (j := 1) hcl18 hcc18 (show 2 ≤ 7 from by decide) (x' := (⟨(rd_T56 y600 x5_1).f0, t601, (rd_T56 y600 x5_1).f2, (rd_T56 y600 x5_1).f3, (rd_T56 y600 x5_1).f4, (rd_T56 y600 x5_1).f5, (rd_T56 y600 x5_1).f6⟩ : S56)) (k56_mkM _ _ _ (⟨(rd_T56 y600 x5_1).f0, t601, (rd_T56 y600 x5_1).f2, (rd_T56 y600 x5_1).f3, (rd_T56 y600 x5_1).f4, (rd_T56 y600 x5_1).f5, (rd_T56 y600 x5_1).f6⟩ : S56) ) (fun _ hk => hk); have hx18_1 := hcc18 1 _ rfl; (try simp only [show (k56).sz = 7 from rfl, Nat.mul_one, Nat.add_zero] at hx18_1); have hf18_1 := hfr18 1; (try simp only [show (k56).sz = 7 from rfl, Nat.mul_one, Nat.add_zero] at hf18_1); clear hcl18 hcc18 hfr18 hM18) | ((with_reducible refine gate_store (t := 9) (p := 24) rfl ?_); refine store_event (t := 9) (p := 24) (v := ?vo_w19) (w1 := (w17.setCell ⟨go5, (x5_1 : Int).toNat * 7 + 1, none⟩ (.string t601))) ?hg ?ho ?hn ?hr ?_; (case ho => rfl); (case hg => rfl); (case hn => rfl); (case hr => first | (go_simp; done) | (go_simp; rfl)); intro w19 hw; have hg : w17.grownBy w19 (some go5) := (by rw [hw]; exact HP18.2); have hp_ : Kd.R k56 56 w19 w0.heap.size (fun k_ => (P0_ k_ ∨ w.heap.size ≤ k_)) (.slice (some ⟨go5, 0, none⟩) x0_1.length co14) y602 := (by rw [hw, Ny602.out]; exact HP18.1); clear HP18; replace HB := Aside0.mk ((by rw [hw]; exact below_set (HB.out) GB5.out : Below w0.heap.size w0 w19)); replace HK := Aside0.mk (Kept.of_grown (S := (fun k_ => P0_ k_)) hg (by repeat (first | (with_reducible first | exact HK.out | apply Kept.alloc | apply Kept.drewN | apply Kept.drew) | exact HK.out)) (fun k_ e_ => (HO_0.out.1 k_ e_))); replace HO_0 := Aside0.mk (hp_); clear hg hw hp_; have p8 : 0 ≤ (x5_1 : Int) := qO; have q8 : (x5_1 : Int) < ((x0_1.length : Int) : Int) := qO; obtain ⟨ce8, hcl8, hM8, hcc8, hfr8⟩ := Kd.R_elem HO_0.out z56 (x5_1 : Int) p8 q8; obtain rfl := k56_openM hM8; have hx8_0 : w19.cell? ⟨go5, (x5_1 : Int).toNat * 7, none⟩ = some (.int .i64 ((rd_T56 y602 x5_1).f0)) := hcc8 0 _ rfl; have hx8_1 : w19.cell? ⟨go5, (x5_1 : Int).toNat * 7 + 1, none⟩ = some (.string ((rd_T56 y602 x5_1).f1)) := hcc8 1 _ rfl; have hx8_2 : w19.cell? ⟨go5, (x5_1 : Int).toNat * 7 + 2, none⟩ = some (.int .i64 ((rd_T56 y602 x5_1).f2)) := hcc8 2 _ rfl; have hx8_3 : w19.cell? ⟨go5, (x5_1 : Int).toNat * 7 + 3, none⟩ = some (.int .i64 ((rd_T56 y602 x5_1).f3)) := hcc8 3 _ rfl; have hx8_4 : w19.cell? ⟨go5, (x5_1 : Int).toNat * 7 + 4, none⟩ = some (.int .i64 ((rd_T56 y602 x5_1).f4)) := hcc8 4 _ rfl; have hx8_5 : w19.cell? ⟨go5, (x5_1 : Int).toNat * 7 + 5, none⟩ = some (.int .i64 ((rd_T56 y602 x5_1).f5)) := hcc8 5 _ rfl; have hx8_6 : w19.cell? ⟨go5, (x5_1 : Int).toNat * 7 + 6, none⟩ = some (.string ((rd_T56 y602 x5_1).f6)) := hcc8 6 _ rfl; have hf8_0 : w19.frozen? ⟨go5, (x5_1 : Int).toNat * 7, none⟩ = false := hfr8 0; have hf8_1 : w19.frozen? ⟨go5, (x5_1 : Int).toNat * 7 + 1, none⟩ = false := hfr8 1; have hf8_2 : w19.frozen? ⟨go5, (x5_1 : Int).toNat * 7 + 2, none⟩ = false := hfr8 2; have hf8_3 : w19.frozen? ⟨go5, (x5_1 : Int).toNat * 7 + 3, none⟩ = false := hfr8 3; have hf8_4 : w19.frozen? ⟨go5, (x5_1 : Int).toNat * 7 + 4, none⟩ = false := hfr8 4; have hf8_5 : w19.frozen? ⟨go5, (x5_1 : Int).toNat * 7 + 5, none⟩ = false := hfr8 5; have hf8_6 : w19.frozen? ⟨go5, (x5_1 : Int).toNat * 7 + 6, none⟩ = false := hfr8 6; clear hcl8 hcc8 hfr8 hM8; replace p8 := eq_true p8; replace q8 := eq_true q8; have HX20 := Aside0.mk (show Kd.R k56 56 w19 w0.heap.size (fun k_ => (P0_ k_ ∨ w.heap.size ≤ k_)) (.slice (some ⟨go5, 0, none⟩) x0_1.length co14) y602 from (qR HO_0)); obtain ⟨ce20, hcl20, hM20, hcc20, hfr20⟩ := Kd.R_elem HX20.out z56 (x5_1 : Int) (qO) (by have h_ : (x5_1 : Int) < ((x0_1.length : Int) : Int) := qO; first | exact h_ | (have e_ := (Kd.R_reads' HO_0.out).1; omega) | simpa using h_); obtain rfl := k56_openM hM20; have HP20 := Kd.R_seg HX20.out (x5_1 : Int) (qO) (by have h_ : (x5_1 : Int) < ((x0_1.length : Int) : Int) := qO; first | exact h_ | (have e_ := (Kd.R_reads' HO_0.out).1; omega) | simpa using h_) (seg := [.int .i64 (wrap64 ((wrap64 (x1_1 + 1)) + 1))]) (j := 2) hcl20 hcc20 (show 3 ≤ 7 from by decide) (x' := (⟨(rd_T56 y602 x5_1).f0, (rd_T56 y602 x5_1).f1, wrap64 ((wrap64 (x1_1 + 1)) + 1), (rd_T56 y602 x5_1).f3, (rd_T56 y602 x5_1).f4, (rd_T56 y602 x5_1).f5, (rd_T56 y602 x5_1).f6⟩ : S56)) (k56_mkM _ _ _ (⟨(rd_T56 y602 x5_1).f0, (rd_T56 y602 x5_1).f1, wrap64 ((wrap64 (x1_1 + 1)) + 1), (rd_T56 y602 x5_1).f3, (rd_T56 y602 x5_1).f4, (rd_T56 y602 x5_1).f5, (rd_T56 y602 x5_1).f6⟩ : S56) ) (fun _ hk => hk); have hx20_2 := hcc20 2 _ rfl; (try simp only [show (k56).sz = 7 from rfl, Nat.mul_one, Nat.add_zero] at hx20_2); have hf20_2 := hfr20 2; (try simp only [show (k56).sz = 7 from rfl, Nat.mul_one, Nat.add_zero] at hf20_2); clear hcl20 hcc20 hfr20 hM20) | ((with_reducible refine gate_store (t := 3) (p := 31) rfl ?_); refine store_event (t := 3) (p := 31) (v := ?vo_w21) (w1 := (w19.setCell ⟨go5, (x5_1 : Int).toNat * 7 + 2, none⟩ (.int .i64 (wrap64 ((wrap64 (x1_1 + 1)) + 1))))) ?hg ?ho ?hn ?hr ?_; (case ho => rfl); (case hg => rfl); (case hn => rfl); (case hr => first | (go_simp; done) | (go_simp; rfl)); intro w21 hw; have hg : w19.grownBy w21 (some go5) := (by rw [hw]; exact HP20.2); have hp_ : Kd.R k56 56 w21 w0.heap.size (fun k_ => (P0_ k_ ∨ w.heap.size ≤ k_)) (.slice (some ⟨go5, 0, none⟩) x0_1.length co14) y603 := (by rw [hw, Ny603.out]; exact HP20.1); clear HP20; replace HB := Aside0.mk ((by rw [hw]; exact below_set (HB.out) GB5.out : Below w0.heap.size w0 w21)); replace HK := Aside0.mk (Kept.of_grown (S := (fun k_ => P0_ k_)) hg (by repeat (first | (with_reducible first | exact HK.out | apply Kept.alloc | apply Kept.drewN | apply Kept.drew) | exact HK.out)) (fun k_ e_ => (HO_0.out.1 k_ e_))); replace HO_0 := Aside0.mk (hp_); clear hg hw hp_; have p9 : 0 ≤ (x5_1 : Int) := qO; have q9 : (x5_1 : Int) < ((x0_1.length : Int) : Int) := qO; obtain ⟨ce9, hcl9, hM9, hcc9, hfr9⟩ := Kd.R_elem HO_0.out z56 (x5_1 : Int) p9 q9; obtain rfl := k56_openM hM9; have hx9_0 : w21.cell? ⟨go5, (x5_1 : Int).toNat * 7, none⟩ = some (.int .i64 ((rd_T56 y603 x5_1).f0)) := hcc9 0 _ rfl; have hx9_1 : w21.cell? ⟨go5, (x5_1 : Int).toNat * 7 + 1, none⟩ = some (.string ((rd_T56 y603 x5_1).f1)) := hcc9 1 _ rfl; have hx9_2 : w21.cell? ⟨go5, (x5_1 : Int).toNat * 7 + 2, none⟩ = some (.int .i64 ((rd_T56 y603 x5_1).f2)) := hcc9 2 _ rfl; have hx9_3 : w21.cell? ⟨go5, (x5_1 : Int).toNat * 7 + 3, none⟩ = some (.int .i64 ((rd_T56 y603 x5_1).f3)) := hcc9 3 _ rfl; have hx9_4 : w21.cell? ⟨go5, (x5_1 : Int).toNat * 7 + 4, none⟩ = some (.int .i64 ((rd_T56 y603 x5_1).f4)) := hcc9 4 _ rfl; have hx9_5 : w21.cell? ⟨go5, (x5_1 : Int).toNat * 7 + 5, none⟩ = some (.int .i64 ((rd_T56 y603 x5_1).f5)) := hcc9 5 _ rfl; have hx9_6 : w21.cell? ⟨go5, (x5_1 : Int).toNat * 7 + 6, none⟩ = some (.string ((rd_T56 y603 x5_1).f6)) := hcc9 6 _ rfl; have hf9_0 : w21.frozen? ⟨go5, (x5_1 : Int).toNat * 7, none⟩ = false := hfr9 0; have hf9_1 : w21.frozen? ⟨go5, (x5_1 : Int).toNat * 7 + 1, none⟩ = false := hfr9 1; have hf9_2 : w21.frozen? ⟨go5, (x5_1 : Int).toNat * 7 + 2, none⟩ = false := hfr9 2; have hf9_3 : w21.frozen? ⟨go5, (x5_1 : Int).toNat * 7 + 3, none⟩ = false := hfr9 3; have hf9_4 : w21.frozen? ⟨go5, (x5_1 : Int).toNat * 7 + 4, none⟩ = false := hfr9 4; have hf9_5 : w21.frozen? ⟨go5, (x5_1 : Int).toNat * 7 + 5, none⟩ = false := hfr9 5; have hf9_6 : w21.frozen? ⟨go5, (x5_1 : Int).toNat * 7 + 6, none⟩ = false := hfr9 6; clear hcl9 hcc9 hfr9 hM9; replace p9 := eq_true p9; replace q9 := eq_true q9; have HX22 := Aside0.mk (show Kd.R k56 56 w21 w0.heap.size (fun k_ => (P0_ k_ ∨ w.heap.size ≤ k_)) (.slice (some ⟨go5, 0, none⟩) x0_1.length co14) y603 from (qR HO_0)); obtain ⟨ce22, hcl22, hM22, hcc22, hfr22⟩ := Kd.R_elem HX22.out z56 (x5_1 : Int) (qO) (by have h_ : (x5_1 : Int) < ((x0_1.length : Int) : Int) := qO; first | exact h_ | (have e_ := (Kd.R_reads' HO_0.out).1; omega) | simpa using h_); obtain rfl := k56_openM hM22; have HP22 := Kd.R_seg HX22.out (x5_1 : Int) (qO) (by have h_ : (x5_1 : Int) < ((x0_1.length : Int) : Int) := qO; first | exact h_ | (have e_ := (Kd.R_reads' HO_0.out).1; omega) | simpa using h_) (seg := [.int .i64 (wrap64 ((wrap64 ((wrap64 (x1_1 + 1)) + 1)) + 1))]) (j := 3) hcl22 hcc22 (show 4 ≤ 7 from by decide) (x' := (⟨(rd_T56 y603 x5_1).f0, (rd_T56 y603 x5_1).f1, (rd_T56 y603 x5_1).f2, wrap64 ((wrap64 ((wrap64 (x1_1 + 1)) + 1)) + 1), (rd_T56 y603 x5_1).f4, (rd_T56 y603 x5_1).f5, (rd_T56 y603 x5_1).f6⟩ : S56)) (k56_mkM _ _ _ (⟨(rd_T56 y603 x5_1).f0, (rd_T56 y603 x5_1).f1, (rd_T56 y603 x5_1).f2, wrap64 ((wrap64 ((wrap64 (x1_1 + 1)) + 1)) + 1), (rd_T56 y603 x5_1).f4, (rd_T56 y603 x5_1).f5, (rd_T56 y603 x5_1).f6⟩ : S56) ) (fun _ hk => hk); have hx22_3 := hcc22 3 _ rfl; (try simp only [show (k56).sz = 7 from rfl, Nat.mul_one, Nat.add_zero] at hx22_3); have hf22_3 := hfr22 3; (try simp only [show (k56).sz = 7 from rfl, Nat.mul_one, Nat.add_zero] at hf22_3); clear hcl22 hcc22 hfr22 hM22) | ((with_reducible refine gate_store (t := 3) (p := 38) rfl ?_); refine store_event (t := 3) (p := 38) (v := ?vo_w23) (w1 := (w21.setCell ⟨go5, (x5_1 : Int).toNat * 7 + 3, none⟩ (.int .i64 (wrap64 ((wrap64 ((wrap64 (x1_1 + 1)) + 1)) + 1))))) ?hg ?ho ?hn ?hr ?_; (case ho => rfl); (case hg => rfl); (case hn => rfl); (case hr => first | (go_simp; done) | (go_simp; rfl)); intro w23 hw; have hg : w21.grownBy w23 (some go5) := (by rw [hw]; exact HP22.2); have hp_ : Kd.R k56 56 w23 w0.heap.size (fun k_ => (P0_ k_ ∨ w.heap.size ≤ k_)) (.slice (some ⟨go5, 0, none⟩) x0_1.length co14) y604 := (by rw [hw, Ny604.out]; exact HP22.1); clear HP22; replace HB := Aside0.mk ((by rw [hw]; exact below_set (HB.out) GB5.out : Below w0.heap.size w0 w23)); replace HK := Aside0.mk (Kept.of_grown (S := (fun k_ => P0_ k_)) hg (by repeat (first | (with_reducible first | exact HK.out | apply Kept.alloc | apply Kept.drewN | apply Kept.drew) | exact HK.out)) (fun k_ e_ => (HO_0.out.1 k_ e_))); replace HO_0 := Aside0.mk (hp_); clear hg hw hp_; have p10 : 0 ≤ (x5_1 : Int) := qO; have q10 : (x5_1 : Int) < ((x0_1.length : Int) : Int) := qO; obtain ⟨ce10, hcl10, hM10, hcc10, hfr10⟩ := Kd.R_elem HO_0.out z56 (x5_1 : Int) p10 q10; obtain rfl := k56_openM hM10; have hx10_0 : w23.cell? ⟨go5, (x5_1 : Int).toNat * 7, none⟩ = some (.int .i64 ((rd_T56 y604 x5_1).f0)) := hcc10 0 _ rfl; have hx10_1 : w23.cell? ⟨go5, (x5_1 : Int).toNat * 7 + 1, none⟩ = some (.string ((rd_T56 y604 x5_1).f1)) := hcc10 1 _ rfl; have hx10_2 : w23.cell? ⟨go5, (x5_1 : Int).toNat * 7 + 2, none⟩ = some (.int .i64 ((rd_T56 y604 x5_1).f2)) := hcc10 2 _ rfl; have hx10_3 : w23.cell? ⟨go5, (x5_1 : Int).toNat * 7 + 3, none⟩ = some (.int .i64 ((rd_T56 y604 x5_1).f3)) := hcc10 3 _ rfl; have hx10_4 : w23.cell? ⟨go5, (x5_1 : Int).toNat * 7 + 4, none⟩ = some (.int .i64 ((rd_T56 y604 x5_1).f4)) := hcc10 4 _ rfl; have hx10_5 : w23.cell? ⟨go5, (x5_1 : Int).toNat * 7 + 5, none⟩ = some (.int .i64 ((rd_T56 y604 x5_1).f5)) := hcc10 5 _ rfl; have hx10_6 : w23.cell? ⟨go5, (x5_1 : Int).toNat * 7 + 6, none⟩ = some (.string ((rd_T56 y604 x5_1).f6)) := hcc10 6 _ rfl; have hf10_0 : w23.frozen? ⟨go5, (x5_1 : Int).toNat * 7, none⟩ = false := hfr10 0; have hf10_1 : w23.frozen? ⟨go5, (x5_1 : Int).toNat * 7 + 1, none⟩ = false := hfr10 1; have hf10_2 : w23.frozen? ⟨go5, (x5_1 : Int).toNat * 7 + 2, none⟩ = false := hfr10 2; have hf10_3 : w23.frozen? ⟨go5, (x5_1 : Int).toNat * 7 + 3, none⟩ = false := hfr10 3; have hf10_4 : w23.frozen? ⟨go5, (x5_1 : Int).toNat * 7 + 4, none⟩ = false := hfr10 4; have hf10_5 : w23.frozen? ⟨go5, (x5_1 : Int).toNat * 7 + 5, none⟩ = false := hfr10 5; have hf10_6 : w23.frozen? ⟨go5, (x5_1 : Int).toNat * 7 + 6, none⟩ = false := hfr10 6; clear hcl10 hcc10 hfr10 hM10; replace p10 := eq_true p10; replace q10 := eq_true q10; have HX24 := Aside0.mk (show Kd.R k56 56 w23 w0.heap.size (fun k_ => (P0_ k_ ∨ w.heap.size ≤ k_)) (.slice (some ⟨go5, 0, none⟩) x0_1.length co14) y604 from (qR HO_0)); obtain ⟨ce24, hcl24, hM24, hcc24, hfr24⟩ := Kd.R_elem HX24.out z56 (x5_1 : Int) (qO) (by have h_ : (x5_1 : Int) < ((x0_1.length : Int) : Int) := qO; first | exact h_ | (have e_ := (Kd.R_reads' HO_0.out).1; omega) | simpa using h_); obtain rfl := k56_openM hM24; have HP24 := Kd.R_seg HX24.out (x5_1 : Int) (qO) (by have h_ : (x5_1 : Int) < ((x0_1.length : Int) : Int) := qO; first | exact h_ | (have e_ := (Kd.R_reads' HO_0.out).1; omega) | simpa using h_) (seg := [.int .i64 (wrap64 ((wrap64 ((wrap64 ((wrap64 (x1_1 + 1)) + 1)) + 1)) + 1))]) (j := 4) hcl24 hcc24 (show 5 ≤ 7 from by decide) (x' := (⟨(rd_T56 y604 x5_1).f0, (rd_T56 y604 x5_1).f1, (rd_T56 y604 x5_1).f2, (rd_T56 y604 x5_1).f3, wrap64 ((wrap64 ((wrap64 ((wrap64 (x1_1 + 1)) + 1)) + 1)) + 1), (rd_T56 y604 x5_1).f5, (rd_T56 y604 x5_1).f6⟩ : S56)) (k56_mkM _ _ _ (⟨(rd_T56 y604 x5_1).f0, (rd_T56 y604 x5_1).f1, (rd_T56 y604 x5_1).f2, (rd_T56 y604 x5_1).f3, wrap64 ((wrap64 ((wrap64 ((wrap64 (x1_1 + 1)) + 1)) + 1)) + 1), (rd_T56 y604 x5_1).f5, (rd_T56 y604 x5_1).f6⟩ : S56) ) (fun _ hk => hk); have hx24_4 := hcc24 4 _ rfl; (try simp only [show (k56).sz = 7 from rfl, Nat.mul_one, Nat.add_zero] at hx24_4); have hf24_4 := hfr24 4; (try simp only [show (k56).sz = 7 from rfl, Nat.mul_one, Nat.add_zero] at hf24_4); clear hcl24 hcc24 hfr24 hM24) | ((with_reducible refine gate_store (t := 3) (p := 45) rfl ?_); refine store_event (t := 3) (p := 45) (v := ?vo_w25) (w1 := (w23.setCell ⟨go5, (x5_1 : Int).toNat * 7 + 4, none⟩ (.int .i64 (wrap64 ((wrap64 ((wrap64 ((wrap64 (x1_1 + 1)) + 1)) + 1)) + 1))))) ?hg ?ho ?hn ?hr ?_; (case ho => rfl); (case hg => rfl); (case hn => rfl); (case hr => first | (go_simp; done) | (go_simp; rfl)); intro w25 hw; have hg : w23.grownBy w25 (some go5) := (by rw [hw]; exact HP24.2); have hp_ : Kd.R k56 56 w25 w0.heap.size (fun k_ => (P0_ k_ ∨ w.heap.size ≤ k_)) (.slice (some ⟨go5, 0, none⟩) x0_1.length co14) y605 := (by rw [hw, Ny605.out]; exact HP24.1); clear HP24; replace HB := Aside0.mk ((by rw [hw]; exact below_set (HB.out) GB5.out : Below w0.heap.size w0 w25)); replace HK := Aside0.mk (Kept.of_grown (S := (fun k_ => P0_ k_)) hg (by repeat (first | (with_reducible first | exact HK.out | apply Kept.alloc | apply Kept.drewN | apply Kept.drew) | exact HK.out)) (fun k_ e_ => (HO_0.out.1 k_ e_))); replace HO_0 := Aside0.mk (hp_); clear hg hw hp_; have p11 : 0 ≤ (x5_1 : Int) := qO; have q11 : (x5_1 : Int) < ((x0_1.length : Int) : Int) := qO; obtain ⟨ce11, hcl11, hM11, hcc11, hfr11⟩ := Kd.R_elem HO_0.out z56 (x5_1 : Int) p11 q11; obtain rfl := k56_openM hM11; have hx11_0 : w25.cell? ⟨go5, (x5_1 : Int).toNat * 7, none⟩ = some (.int .i64 ((rd_T56 y605 x5_1).f0)) := hcc11 0 _ rfl; have hx11_1 : w25.cell? ⟨go5, (x5_1 : Int).toNat * 7 + 1, none⟩ = some (.string ((rd_T56 y605 x5_1).f1)) := hcc11 1 _ rfl; have hx11_2 : w25.cell? ⟨go5, (x5_1 : Int).toNat * 7 + 2, none⟩ = some (.int .i64 ((rd_T56 y605 x5_1).f2)) := hcc11 2 _ rfl; have hx11_3 : w25.cell? ⟨go5, (x5_1 : Int).toNat * 7 + 3, none⟩ = some (.int .i64 ((rd_T56 y605 x5_1).f3)) := hcc11 3 _ rfl; have hx11_4 : w25.cell? ⟨go5, (x5_1 : Int).toNat * 7 + 4, none⟩ = some (.int .i64 ((rd_T56 y605 x5_1).f4)) := hcc11 4 _ rfl; have hx11_5 : w25.cell? ⟨go5, (x5_1 : Int).toNat * 7 + 5, none⟩ = some (.int .i64 ((rd_T56 y605 x5_1).f5)) := hcc11 5 _ rfl; have hx11_6 : w25.cell? ⟨go5, (x5_1 : Int).toNat * 7 + 6, none⟩ = some (.string ((rd_T56 y605 x5_1).f6)) := hcc11 6 _ rfl; have hf11_0 : w25.frozen? ⟨go5, (x5_1 : Int).toNat * 7, none⟩ = false := hfr11 0; have hf11_1 : w25.frozen? ⟨go5, (x5_1 : Int).toNat * 7 + 1, none⟩ = false := hfr11 1; have hf11_2 : w25.frozen? ⟨go5, (x5_1 : Int).toNat * 7 + 2, none⟩ = false := hfr11 2; have hf11_3 : w25.frozen? ⟨go5, (x5_1 : Int).toNat * 7 + 3, none⟩ = false := hfr11 3; have hf11_4 : w25.frozen? ⟨go5, (x5_1 : Int).toNat * 7 + 4, none⟩ = false := hfr11 4; have hf11_5 : w25.frozen? ⟨go5, (x5_1 : Int).toNat * 7 + 5, none⟩ = false := hfr11 5; have hf11_6 : w25.frozen? ⟨go5, (x5_1 : Int).toNat * 7 + 6, none⟩ = false := hfr11 6; clear hcl11 hcc11 hfr11 hM11; replace p11 := eq_true p11; replace q11 := eq_true q11; have HX26 := Aside0.mk (show Kd.R k56 56 w25 w0.heap.size (fun k_ => (P0_ k_ ∨ w.heap.size ≤ k_)) (.slice (some ⟨go5, 0, none⟩) x0_1.length co14) y605 from (qR HO_0)); obtain ⟨ce26, hcl26, hM26, hcc26, hfr26⟩ := Kd.R_elem HX26.out z56 (x5_1 : Int) (qO) (by have h_ : (x5_1 : Int) < ((x0_1.length : Int) : Int) := qO; first | exact h_ | (have e_ := (Kd.R_reads' HO_0.out).1; omega) | simpa using h_); obtain rfl := k56_openM hM26; have HP26 := Kd.R_seg HX26.out (x5_1 : Int) (qO) (by have h_ : (x5_1 : Int) < ((x0_1.length : Int) : Int) := qO; first | exact h_ | (have e_ := (Kd.R_reads' HO_0.out).1; omega) | simpa using h_) (seg := [.int .i64 (wrap64 ((wrap64 ((wrap64 ((wrap64 ((wrap64 (x1_1 + 1)) + 1)) + 1)) + 1)) + 1))]) (j := 5) hcl26 hcc26 (show 6 ≤ 7 from by decide) (x' := (⟨(rd_T56 y605 x5_1).f0, (rd_T56 y605 x5_1).f1, (rd_T56 y605 x5_1).f2, (rd_T56 y605 x5_1).f3, (rd_T56 y605 x5_1).f4, wrap64 ((wrap64 ((wrap64 ((wrap64 ((wrap64 (x1_1 + 1)) + 1)) + 1)) + 1)) + 1), (rd_T56 y605 x5_1).f6⟩ : S56)) (k56_mkM _ _ _ (⟨(rd_T56 y605 x5_1).f0, (rd_T56 y605 x5_1).f1, (rd_T56 y605 x5_1).f2, (rd_T56 y605 x5_1).f3, (rd_T56 y605 x5_1).f4, wrap64 ((wrap64 ((wrap64 ((wrap64 ((wrap64 (x1_1 + 1)) + 1)) + 1)) + 1)) + 1), (rd_T56 y605 x5_1).f6⟩ : S56) ) (fun _ hk => hk); have hx26_5 := hcc26 5 _ rfl; (try simp only [show (k56).sz = 7 from rfl, Nat.mul_one, Nat.add_zero] at hx26_5); have hf26_5 := hfr26 5; (try simp only [show (k56).sz = 7 from rfl, Nat.mul_one, Nat.add_zero] at hf26_5); clear hcl26 hcc26 hfr26 hM26) | ((with_reducible refine gate_store (t := 3) (p := 52) rfl ?_); refine store_event (t := 3) (p := 52) (v := ?vo_w27) (w1 := (w25.setCell ⟨go5, (x5_1 : Int).toNat * 7 + 5, none⟩ (.int .i64 (wrap64 ((wrap64 ((wrap64 ((wrap64 ((wrap64 (x1_1 + 1)) + 1)) + 1)) + 1)) + 1))))) ?hg ?ho ?hn ?hr ?_; (case ho => rfl); (case hg => rfl); (case hn => rfl); (case hr => first | (go_simp; done) | (go_simp; rfl)); intro w27 hw; have hg : w25.grownBy w27 (some go5) := (by rw [hw]; exact HP26.2); have hp_ : Kd.R k56 56 w27 w0.heap.size (fun k_ => (P0_ k_ ∨ w.heap.size ≤ k_)) (.slice (some ⟨go5, 0, none⟩) x0_1.length co14) y606 := (by rw [hw, Ny606.out]; exact HP26.1); clear HP26; replace HB := Aside0.mk ((by rw [hw]; exact below_set (HB.out) GB5.out : Below w0.heap.size w0 w27)); replace HK := Aside0.mk (Kept.of_grown (S := (fun k_ => P0_ k_)) hg (by repeat (first | (with_reducible first | exact HK.out | apply Kept.alloc | apply Kept.drewN | apply Kept.drew) | exact HK.out)) (fun k_ e_ => (HO_0.out.1 k_ e_))); replace HO_0 := Aside0.mk (hp_); clear hg hw hp_) | ((with_reducible refine gate_callee (f := 41) rfl ?_); refine goesL_ (some 58) rfl rfl Tryz.func41 (by kernel_rfl) rfl #[.int .i64 (wrap64 ((wrap64 ((wrap64 ((wrap64 ((wrap64 ((wrap64 (x1_1 + 1)) + 1)) + 1)) + 1)) + 1)) + 1))] rfl qL ?_; (with_reducible refine (laws_markText.calls k1 (wrap64 ((wrap64 ((wrap64 ((wrap64 ((wrap64 ((wrap64 (x1_1 + 1)) + 1)) + 1)) + 1)) + 1)) + 1)) t607 _ A12.out).mono ?_); rintro e w28 ⟨rfl, hb⟩; refine ⟨_, rfl, ?_⟩; replace HO_0 := Aside0.mk (Kd.R_below (qR HO_0) hb); replace HK := Aside0.mk (Kept.below (S := (fun k_ => P0_ k_)) (by repeat (first | (with_reducible first | exact HK.out | apply Kept.alloc | apply Kept.drewN | apply Kept.drew) | exact HK.out)) hb); replace HB := Aside0.mk (below_step (qS0 HB) hb); (try clear hb); (try clear hb2); (try clear hk); (try clear hi); have p13 : 0 ≤ (x5_1 : Int) := qO; have q13 : (x5_1 : Int) < ((x0_1.length : Int) : Int) := qO; obtain ⟨ce13, hcl13, hM13, hcc13, hfr13⟩ := Kd.R_elem HO_0.out z56 (x5_1 : Int) p13 q13; obtain rfl := k56_openM hM13; have hx13_0 : w28.cell? ⟨go5, (x5_1 : Int).toNat * 7, none⟩ = some (.int .i64 ((rd_T56 y606 x5_1).f0)) := hcc13 0 _ rfl; have hx13_1 : w28.cell? ⟨go5, (x5_1 : Int).toNat * 7 + 1, none⟩ = some (.string ((rd_T56 y606 x5_1).f1)) := hcc13 1 _ rfl; have hx13_2 : w28.cell? ⟨go5, (x5_1 : Int).toNat * 7 + 2, none⟩ = some (.int .i64 ((rd_T56 y606 x5_1).f2)) := hcc13 2 _ rfl; have hx13_3 : w28.cell? ⟨go5, (x5_1 : Int).toNat * 7 + 3, none⟩ = some (.int .i64 ((rd_T56 y606 x5_1).f3)) := hcc13 3 _ rfl; have hx13_4 : w28.cell? ⟨go5, (x5_1 : Int).toNat * 7 + 4, none⟩ = some (.int .i64 ((rd_T56 y606 x5_1).f4)) := hcc13 4 _ rfl; have hx13_5 : w28.cell? ⟨go5, (x5_1 : Int).toNat * 7 + 5, none⟩ = some (.int .i64 ((rd_T56 y606 x5_1).f5)) := hcc13 5 _ rfl; have hx13_6 : w28.cell? ⟨go5, (x5_1 : Int).toNat * 7 + 6, none⟩ = some (.string ((rd_T56 y606 x5_1).f6)) := hcc13 6 _ rfl; have hf13_0 : w28.frozen? ⟨go5, (x5_1 : Int).toNat * 7, none⟩ = false := hfr13 0; have hf13_1 : w28.frozen? ⟨go5, (x5_1 : Int).toNat * 7 + 1, none⟩ = false := hfr13 1; have hf13_2 : w28.frozen? ⟨go5, (x5_1 : Int).toNat * 7 + 2, none⟩ = false := hfr13 2; have hf13_3 : w28.frozen? ⟨go5, (x5_1 : Int).toNat * 7 + 3, none⟩ = false := hfr13 3; have hf13_4 : w28.frozen? ⟨go5, (x5_1 : Int).toNat * 7 + 4, none⟩ = false := hfr13 4; have hf13_5 : w28.frozen? ⟨go5, (x5_1 : Int).toNat * 7 + 5, none⟩ = false := hfr13 5; have hf13_6 : w28.frozen? ⟨go5, (x5_1 : Int).toNat * 7 + 6, none⟩ = false := hfr13 6; clear hcl13 hcc13 hfr13 hM13; replace p13 := eq_true p13; replace q13 := eq_true q13; have HX29 := Aside0.mk (show Kd.R k56 56 w28 w0.heap.size (fun k_ => (P0_ k_ ∨ w.heap.size ≤ k_)) (.slice (some ⟨go5, 0, none⟩) x0_1.length co14) y606 from (qR HO_0)); obtain ⟨ce29, hcl29, hM29, hcc29, hfr29⟩ := Kd.R_elem HX29.out z56 (x5_1 : Int) (qO) (by have h_ : (x5_1 : Int) < ((x0_1.length : Int) : Int) := qO; first | exact h_ | (have e_ := (Kd.R_reads' HO_0.out).1; omega) | simpa using h_); obtain rfl := k56_openM hM29; have HP29 := Kd.R_seg HX29.out (x5_1 : Int) (qO) (by have h_ : (x5_1 : Int) < ((x0_1.length : Int) : Int) := qO; first | exact h_ | (have e_ := (Kd.R_reads' HO_0.out).1; omega) | simpa using h_) (seg := [.string t607]) (j := 6) hcl29 hcc29 (show 7 ≤ 7 from by decide) (x' := (⟨(rd_T56 y606 x5_1).f0, (rd_T56 y606 x5_1).f1, (rd_T56 y606 x5_1).f2, (rd_T56 y606 x5_1).f3, (rd_T56 y606 x5_1).f4, (rd_T56 y606 x5_1).f5, t607⟩ : S56)) (k56_mkM _ _ _ (⟨(rd_T56 y606 x5_1).f0, (rd_T56 y606 x5_1).f1, (rd_T56 y606 x5_1).f2, (rd_T56 y606 x5_1).f3, (rd_T56 y606 x5_1).f4, (rd_T56 y606 x5_1).f5, t607⟩ : S56) ) (fun _ hk => hk); have hx29_6 := hcc29 6 _ rfl; (try simp only [show (k56).sz = 7 from rfl, Nat.mul_one, Nat.add_zero] at hx29_6); have hf29_6 := hfr29 6; (try simp only [show (k56).sz = 7 from rfl, Nat.mul_one, Nat.add_zero] at hf29_6); clear hcl29 hcc29 hfr29 hM29) | ((with_reducible refine gate_store (t := 9) (p := 60) rfl ?_); refine store_event (t := 9) (p := 60) (v := ?vo_w30) (w1 := (w28.setCell ⟨go5, (x5_1 : Int).toNat * 7 + 6, none⟩ (.string t607))) ?hg ?ho ?hn ?hr ?_; (case ho => rfl); (case hg => rfl); (case hn => rfl); (case hr => first | (go_simp; done) | (go_simp; rfl)); intro w30 hw; have hg : w28.grownBy w30 (some go5) := (by rw [hw]; exact HP29.2); have hp_ : Kd.R k56 56 w30 w0.heap.size (fun k_ => (P0_ k_ ∨ w.heap.size ≤ k_)) (.slice (some ⟨go5, 0, none⟩) x0_1.length co14) y608 := (by rw [hw, Ny608.out]; exact HP29.1); clear HP29; replace HB := Aside0.mk ((by rw [hw]; exact below_set (HB.out) GB5.out : Below w0.heap.size w0 w30)); replace HK := Aside0.mk (Kept.of_grown (S := (fun k_ => P0_ k_)) hg (by repeat (first | (with_reducible first | exact HK.out | apply Kept.alloc | apply Kept.drewN | apply Kept.drew) | exact HK.out)) (fun k_ e_ => (HO_0.out.1 k_ e_))); replace HO_0 := Aside0.mk (hp_); clear hg hw hp_))
    go_roundg k1
    case measure => have := HK1.out; omega
    case rel => exact ⟨(y608), (wrap64 ((wrap64 ((wrap64 ((wrap64 ((wrap64 ((wrap64 ((wrap64 (x1_1 + 1)) + 1)) + 1)) + 1)) + 1)) + 1)) + 1)), (wrap64 (x5_1 + 1)), qV, qV, H', ⟨by have := HK1.out; omega⟩, ⟨qR HO_0⟩, ⟨by repeat (first | (with_reducible first | exact HK.out | apply Kept.alloc | apply Kept.drewN | apply Kept.drew) | exact HK.out)⟩, ⟨qS0 HB⟩⟩
   ·simp only [Option.some.injEq, Prod.mk.injEq] at H
    (obtain ⟨rfl, rfl⟩ := H); (obtain ⟨Ao31, co31, eo31⟩ := Kd.R_slice HO_0.out); (subst eo31)
    go_wp2
    go_ret
    exact ⟨qE, qR HO_0, qS0 HB, by repeat (first | (with_reducible first | exact HK.out | apply Kept.alloc | apply Kept.drewN | apply Kept.drew) | exact HK.out)⟩
def laws_markIntS.l0 : Nat → List Int → Int → Int → Option (Int × List Int)
 | 0, _, _, _ => none
 | k + 1, x0, x1, x5 => if x5 < (x0.length : Int) then (if 0 ≤ x5 then (laws_markIntS.l0 k (x0.set (x5 : Int).toNat x1) (wrap64 (x1 + 1)) (wrap64 (x5 + 1))) else (none)) else (some (x1, x0))
def laws_markIntS.f (k : Nat) (l0 : List Int) (a1 : Int) : Option (Int × List Int) := laws_markIntS.l0 k l0 a1 0
theorem laws_markIntS.calls (k : Nat) (P0_ : Nat → Prop) (u9000_ : Value) (l0 : List Int) (a1 : Int) (r1 : Int) (r2 : List Int) (w0 w : World) (hB : Below w0.heap.size w0 w) (ho0 : Kd.R (Kd.int .i64) 3 w w0.heap.size P0_ u9000_ l0) (h : laws_markIntS.f k l0 a1 = some (r1, r2)) :
  Calls Tryz.prog 15 #[u9000_, .int .i64 a1] w fun e w' => e = .returned (.int .i64 r1) ∧ Kd.R (Kd.int .i64) 3 w' w0.heap.size (fun k_ => (P0_ k_ ∨ w.heap.size ≤ k_)) u9000_ r2 ∧ Below w0.heap.size w0 w' ∧ Kept w w' (fun k_ => P0_ k_) := by
 (have HO0 := Aside0.mk (show Kd.R (Kd.int .i64) 3 w w0.heap.size (fun k_ => (P0_ k_ ∨ w.heap.size ≤ k_)) u9000_ l0 from Kd.R_mono ho0 (fun k_ hk => (.inl hk)))); (have HK := Aside0.mk (Kept.refl w (fun k_ => P0_ k_))); (have HW0 := Aside0.mk hB.size); (have HB := Aside0.mk hB); clear hB; (have H : (laws_markIntS.l0 k l0 a1 0) = some (r1, r2) := h); clear h; (have H' := Aside0.mk H); clear H
 go_enter Tryz.func15, Tryz.ntmps15
 go_wp2
 go_loopg [1, 5] k (fun kq v1 v5 w' => ∃ (x0_1 : List Int) (x1_1 : Int) (x5_1 : Int), v1 = .int .i64 x1_1 ∧ v5 = .int .i64 x5_1 ∧ Aside0 (laws_markIntS.l0 kq x0_1 x1_1 x5_1 = some (r1, r2)) ∧ Aside0 (kq ≤ k) ∧ Aside0 (Kd.R (Kd.int .i64) 3 w' w0.heap.size (fun k_ => (P0_ k_ ∨ w.heap.size ≤ k_)) u9000_ x0_1) ∧ Aside0 (Kept w w' (fun k_ => P0_ k_)) ∧ Aside0 (Below w0.heap.size w0 w'))
 case atStart => exact ⟨(l0), (a1), (0), qV, qV, H', ⟨Nat.le_refl _⟩, ⟨qR HO0⟩, ⟨by repeat (first | (with_reducible first | exact HK.out | apply Kept.alloc | apply Kept.drewN | apply Kept.drew) | exact HK.out)⟩, ⟨qS0 HB⟩⟩
 case round =>
  clear H'; (obtain ⟨x0_1, x1_1, x5_1, rfl, rfl, HA, HK1, HO_0, HK, HB⟩ := hrel)
  cases gk with
  | zero => exact absurd HA.out (by simp [laws_markIntS.l0])
  | succ k1 =>
   (have H := HA.out); clear HA; (simp only [laws_markIntS.l0] at H)
   rcases qI H with ⟨c3b0, H⟩ | ⟨c3b0, H⟩
   ·obtain ⟨c4b0, H⟩ := qT H
    (obtain ⟨y609, hy609⟩ : ∃ y_ : List Int, y_ = (x0_1.set (x5_1 : Int).toNat x1_1) := ⟨_, rfl⟩); (replace H : (laws_markIntS.l0 k1 y609 (wrap64 (x1_1 + 1)) (wrap64 (x5_1 + 1))) = some (r1, r2) := qY hy609 H); (have Ny609 := Aside0.mk hy609); clear hy609; (have H' := Aside0.mk H); clear H; (obtain ⟨Ao6, co6, eo6⟩ := Kd.R_slice HO_0.out); (subst eo6); (have p5 : 0 ≤ (x5_1 : Int) := qO); (have q5 : (x5_1 : Int) < ((x0_1.length : Int) : Int) := qO); (obtain ⟨go5, co5, eo5, gb5, gl5, cl5, HG5⟩ := Kd.R_form HO_0.out (by omega))
    (first | cases eo5 | (injection eo5 with ea_ en_ ec_; (first | subst ea_ | (injection ea_ with ea_; subst ea_)); subst ec_; clear en_))
    (have GB5 := Aside0.mk gb5); (have GG5 := Aside0.mk HG5); clear gb5 gl5 HG5; (have HMgo5 := Aside0.mk (show (P0_ go5 ∨ w.heap.size ≤ go5) from (HO_0.out.1 _ rfl))); (obtain ⟨hx5_0, hf5_0⟩ := Kd.R_celln 0 HO_0.out (x5_1 : Int) p5 q5); (replace p5 := eq_true p5); (replace q5 := eq_true q5); (have HP7 := Kd.R_putg HO_0.out (x5_1 : Int) x1_1)
    go_wp2_with (first | ((with_reducible refine gate_store (t := 3) (p := 15) rfl ?_); refine store_event (t := 3) (p := 15) (v := ?vo_w8) (w1 := (wr.setCell ⟨go5, (x5_1 : Int).toNat, none⟩ (.int .i64 x1_1))) ?hg ?ho ?hn ?hr ?_; (case ho => rfl); (case hg => rfl); (case hn => rfl); (case hr => first | (go_simp; done) | (go_simp; rfl)); intro w8 hw; have hg : wr.grownBy w8 (some go5) := (by rw [hw]; exact HP7.2); have hp_ : Kd.R (Kd.int .i64) 3 w8 w0.heap.size (fun k_ => (P0_ k_ ∨ w.heap.size ≤ k_)) (.slice (some ⟨go5, 0, none⟩) x0_1.length co6) y609 := (by rw [hw, Ny609.out]; exact HP7.1); clear HP7; replace HB := Aside0.mk ((by rw [hw]; exact below_set (HB.out) GB5.out : Below w0.heap.size w0 w8)); replace HK := Aside0.mk (Kept.of_grown (S := (fun k_ => P0_ k_)) hg (by repeat (first | (with_reducible first | exact HK.out | apply Kept.alloc | apply Kept.drewN | apply Kept.drew) | exact HK.out)) (fun k_ e_ => (HO_0.out.1 k_ e_))); replace HO_0 := Aside0.mk (hp_); clear hg hw hp_))
    go_roundg k1
    case measure => have := HK1.out; omega
    case rel => exact ⟨(y609), (wrap64 (x1_1 + 1)), (wrap64 (x5_1 + 1)), qV, qV, H', ⟨by have := HK1.out; omega⟩, ⟨qR HO_0⟩, ⟨by repeat (first | (with_reducible first | exact HK.out | apply Kept.alloc | apply Kept.drewN | apply Kept.drew) | exact HK.out)⟩, ⟨qS0 HB⟩⟩
   ·simp only [Option.some.injEq, Prod.mk.injEq] at H
    (obtain ⟨rfl, rfl⟩ := H); (obtain ⟨Ao9, co9, eo9⟩ := Kd.R_slice HO_0.out); (subst eo9)
    go_wp2
    go_ret
    exact ⟨qE, qR HO_0, qS0 HB, by repeat (first | (with_reducible first | exact HK.out | apply Kept.alloc | apply Kept.drewN | apply Kept.drew) | exact HK.out)⟩
def laws_heldIntS.l0 : Nat → List Int → Int → Int → Option (Int)
 | 0, _, _, _ => none
 | k + 1, x0, x1, x5 => if x5 < (x0.length : Int) then (if 0 ≤ x5 then (if (rd x0 x5) = x1 then (laws_heldIntS.l0 k x0 (wrap64 (x1 + 1)) (wrap64 (x5 + 1))) else (some (-1))) else (none)) else (some x1)
def laws_heldIntS.f (k : Nat) (l0 : List Int) (a1 : Int) : Option (Int) := laws_heldIntS.l0 k l0 a1 0
theorem laws_heldIntS.calls (k : Nat) (A0 : Option Addr) (c0 : Nat) (l0 : List Int) (a1 : Int) (r : Int) (w : World) (hr0 : Kd.C (Kd.int .i64) w A0 l0.length l0) (hc0 : l0.length ≤ c0) (h : laws_heldIntS.f k l0 a1 = some r) :
  Calls Tryz.prog 16 #[.slice A0 l0.length c0, .int .i64 a1] w fun e w' => e = .returned (.int .i64 r) ∧ Drawn0 w w' := by
 (have HR0 := Aside0.mk hr0); (have HC0 := Aside0.mk hc0); clear hr0 hc0; (have H : (laws_heldIntS.l0 k l0 a1 0) = some r := h); clear h; (have H' := Aside0.mk H); clear H
 go_enter Tryz.func16, Tryz.ntmps16
 go_wp2
 go_loopg [1, 5] k (fun kq v1 v5 w' => ∃ (x1_1 : Int) (x5_1 : Int), v1 = .int .i64 x1_1 ∧ v5 = .int .i64 x5_1 ∧ Aside0 (laws_heldIntS.l0 kq l0 x1_1 x5_1 = some r) ∧ Aside0 (kq ≤ k) ∧ Drawn0 w w')
 case atStart => exact ⟨(a1), (0), qV, qV, H', ⟨Nat.le_refl _⟩, by repeat (first | exact Drawn0.refl _ | apply Drawn0.step)⟩
 case round =>
  clear H'; (obtain ⟨x1_1, x5_1, rfl, rfl, HA, HK1, ⟨m1, rfl⟩⟩ := hrel)
  cases gk with
  | zero => exact absurd HA.out (by simp [laws_heldIntS.l0])
  | succ k1 =>
   (have H := HA.out); clear HA; (simp only [laws_heldIntS.l0] at H)
   rcases qI H with ⟨c3b0, H⟩ | ⟨c3b0, H⟩
   ·obtain ⟨c4b0, H⟩ := qT H
    rcases qJ H with ⟨c5, H⟩ | ⟨c5, H⟩
    ·have c5b0 : ((rd l0 x5_1) == x1_1) = true := beq_iff_eq.mpr c5
     (have c5b1 : ((rd l0 x5_1) != x1_1) = false := bne_eq_false_iff_eq.mpr c5); clear c5; (have H' := Aside0.mk H); clear H; (have p610 : 0 ≤ (x5_1 : Int) := qO); (have q610 : x5_1 < (l0.length : Int) := qO); (obtain ⟨ad610, e610, hx610_0⟩ := Kd.at_int HR0.out x5_1 p610 q610)
     cases e610
     (replace p610 := eq_true p610); (replace q610 := eq_true q610)
     go_wp2
     go_roundg k1
     case measure => have := HK1.out; omega
     case rel => exact ⟨(wrap64 (x1_1 + 1)), (wrap64 (x5_1 + 1)), qV, qV, H', ⟨by have := HK1.out; omega⟩, by repeat (first | exact Drawn0.refl _ | apply Drawn0.step)⟩
    ·have c5b0 : ((rd l0 x5_1) == x1_1) = false := beq_eq_false_iff_ne.mpr c5
     (have c5b1 : ((rd l0 x5_1) != x1_1) = true := bne_iff_ne.mpr c5); (obtain rfl := Option.some.inj H); (have p610 : 0 ≤ (x5_1 : Int) := qO); (have q610 : x5_1 < (l0.length : Int) := qO); (obtain ⟨ad610, e610, hx610_0⟩ := Kd.at_int HR0.out x5_1 p610 q610)
     cases e610
     (replace p610 := eq_true p610); (replace q610 := eq_true q610)
     go_wp2
     go_ret
     exact qZ
   ·obtain rfl := Option.some.inj H
    go_wp2
    go_ret
    exact qZ
def spec_l02Pow.l0 : Nat → Int → Int → Option (Int)
 | 0, _, _ => none
 | k + 1, x0, x3 => if x0 > 0 then (spec_l02Pow.l0 k (wrap64 (x0 - 1)) (wrap64 (2 * x3))) else (some x3)
def spec_l02Pow.f (k : Nat) (a0 : Int) : Option (Int) := spec_l02Pow.l0 k a0 1
theorem spec_l02Pow.calls (k : Nat) (a0 : Int) (r : Int) (w : World) (h : spec_l02Pow.f k a0 = some r) :
  Calls Tryz.prog 28 #[.int .i64 a0] w fun e w' => e = .returned (.int .i64 r) ∧ Drawn0 w w' := by
 (have H : (spec_l02Pow.l0 k a0 1) = some r := h); clear h; (have H' := Aside0.mk H); clear H
 go_enter Tryz.func28, Tryz.ntmps28
 go_wp2
 go_loopg [0, 3] k (fun kq v0 v3 w' => ∃ (x0_1 : Int) (x3_1 : Int), v0 = .int .i64 x0_1 ∧ v3 = .int .i64 x3_1 ∧ Aside0 (spec_l02Pow.l0 kq x0_1 x3_1 = some r) ∧ Aside0 (kq ≤ k) ∧ Drawn0 w w')
 case atStart => exact ⟨(a0), (1), qV, qV, H', ⟨Nat.le_refl _⟩, by repeat (first | exact Drawn0.refl _ | apply Drawn0.step)⟩
 case round =>
  clear H'; (obtain ⟨x0_1, x3_1, rfl, rfl, HA, HK1, ⟨m1, rfl⟩⟩ := hrel)
  cases gk with
  | zero => exact absurd HA.out (by simp [spec_l02Pow.l0])
  | succ k1 =>
   (have H := HA.out); clear HA; (simp only [spec_l02Pow.l0] at H)
   rcases qI H with ⟨(c2b0 : decide (0 < x0_1) = true), H⟩ | ⟨(c2b0 : decide (0 < x0_1) = false), H⟩
   ·have H' := Aside0.mk H
    clear H
    go_wp2
    go_roundg k1
    case measure => have := HK1.out; omega
    case rel => exact ⟨(wrap64 (x0_1 - 1)), (wrap64 (2 * x3_1)), qV, qV, H', ⟨by have := HK1.out; omega⟩, by repeat (first | exact Drawn0.refl _ | apply Drawn0.step)⟩
   ·obtain rfl := Option.some.inj H
    go_wp2
    go_ret
    exact qZ
def spec_l16Log.f (a0 : Int) : Option (Bool) := if a0 ≥ 2 then (some (decide (a0 ≤ 6))) else (some false)
theorem spec_l16Log.calls (a0 : Int) (r : Bool) (w : World) (h : spec_l16Log.f a0 = some r) :
  Calls Tryz.prog 81 #[.int .i64 a0] w fun e w' => e = .returned (.bool r) ∧ Drawn0 w w' := by
 (have H : (if a0 ≥ 2 then (some (decide (a0 ≤ 6))) else (some false)) = some r := h); clear h
 rcases qI H with ⟨(c2b0 : decide (2 ≤ a0) = true), H⟩ | ⟨(c2b0 : decide (2 ≤ a0) = false), H⟩
 ·obtain rfl := Option.some.inj H
  go_enter Tryz.func81, Tryz.ntmps81
  go_wp2
  go_ret
  exact qZ
 ·obtain rfl := Option.some.inj H
  go_enter Tryz.func81, Tryz.ntmps81
  go_wp2
  go_ret
  exact qZ
def spec_ConfOk.f (a0_0 : Int) (a0_1 : Int) (a0_2 : Int) (a0_3 : Int) : Option (Bool) := if a0_0 ≥ 0 then (if a0_0 ≤ 4294967295 then ((spec_l16Log.f a0_1).bind fun t105 => (if t105 = true then (if a0_2 ≥ 0 then (if a0_2 ≤ 64 then (if a0_3 ≥ 1 then (some (decide (a0_3 ≤ 64))) else (some false)) else (some false)) else (some false)) else (some false))) else (some false)) else (some false)
theorem spec_ConfOk.calls (a0_0 : Int) (a0_1 : Int) (a0_2 : Int) (a0_3 : Int) (r : Bool) (w : World) (h : spec_ConfOk.f a0_0 a0_1 a0_2 a0_3 = some r) :
  Calls Tryz.prog 53 #[.agg #[.int .i64 a0_0, .int .i64 a0_1, .int .i64 a0_2, .int .i64 a0_3]] w fun e w' => e = .returned (.bool r) ∧ Below w.heap.size w w' := by
 (have hu29 := Tryz.underlying29); (have HB := Aside0.mk (Below.refl w.heap.size w)); (have H : (if a0_0 ≥ 0 then (if a0_0 ≤ 4294967295 then ((spec_l16Log.f a0_1).bind fun t105 => (if t105 = true then (if a0_2 ≥ 0 then (if a0_2 ≤ 64 then (if a0_3 ≥ 1 then (some (decide (a0_3 ≤ 64))) else (some false)) else (some false)) else (some false)) else (some false))) else (some false)) else (some false)) = some r := h); clear h
 rcases qI H with ⟨(c2b0 : decide (0 ≤ a0_0) = true), H⟩ | ⟨(c2b0 : decide (0 ≤ a0_0) = false), H⟩
 ·rcases qI H with ⟨c3b0, H⟩ | ⟨c3b0, H⟩
  ·obtain ⟨t105, A4, H⟩ := qX H
   try dsimp only at H
   by_cases c5 : t105 = true
   ·subst c5
    (have H1 : (if a0_2 ≥ 0 then (if a0_2 ≤ 64 then (if a0_3 ≥ 1 then (some (decide (a0_3 ≤ 64))) else (some false)) else (some false)) else (some false)) = some r := by rw [if_pos rfl] at H; exact H); clear H; (have H := H1); clear H1
    rcases qI H with ⟨(c6b0 : decide (0 ≤ a0_2) = true), H⟩ | ⟨(c6b0 : decide (0 ≤ a0_2) = false), H⟩
    ·rcases qI H with ⟨c7b0, H⟩ | ⟨c7b0, H⟩
     ·rcases qI H with ⟨(c8b0 : decide (1 ≤ a0_3) = true), H⟩ | ⟨(c8b0 : decide (1 ≤ a0_3) = false), H⟩
      ·obtain rfl := Option.some.inj H
       go_enter Tryz.func53, Tryz.ntmps53
       go_wp2_with (first | ((with_reducible refine gate_dst (N := 1) rfl ?_); refine box_event ?hg (N := 1) ?hd (cs := #[.int .i64 a0_0, .int .i64 a0_1, .int .i64 a0_2, .int .i64 a0_3]) (t := 29) ?hr ?_; (case hd => rfl); (case hg => rfl); (case hr => first | (go_simp; done) | (go_simp; rfl)); intro gb104 hg w9 hbox hb; have BK104 := Aside0.mk (hbox); have GW104 := qG hg (below_size (qS0 HB)); have GE104 := qG hg (below_size (qS0 HB)); replace HB := Aside0.mk (below_step (qS0 HB) hb); clear hb hbox hg; obtain ⟨hcz10_0, hcz10_1, hcz10_2, hcz10_3, hfz10_0, hfz10_1, hfz10_2, hfz10_3⟩ := qC4 BK104) | (go_at_call 81; (with_reducible refine (spec_l16Log.calls a0_1 true _ A4.out).mono ?_); rintro e w' ⟨rfl, ⟨nd, rfl⟩⟩))
       go_ret
       exact ⟨qE, qS1 HB GE104⟩
      ·obtain rfl := Option.some.inj H
       go_enter Tryz.func53, Tryz.ntmps53
       go_wp2_with (first | ((with_reducible refine gate_dst (N := 1) rfl ?_); refine box_event ?hg (N := 1) ?hd (cs := #[.int .i64 a0_0, .int .i64 a0_1, .int .i64 a0_2, .int .i64 a0_3]) (t := 29) ?hr ?_; (case hd => rfl); (case hg => rfl); (case hr => first | (go_simp; done) | (go_simp; rfl)); intro gb104 hg w11 hbox hb; have BK104 := Aside0.mk (hbox); have GW104 := qG hg (below_size (qS0 HB)); have GE104 := qG hg (below_size (qS0 HB)); replace HB := Aside0.mk (below_step (qS0 HB) hb); clear hb hbox hg; obtain ⟨hcz12_0, hcz12_1, hcz12_2, hcz12_3, hfz12_0, hfz12_1, hfz12_2, hfz12_3⟩ := qC4 BK104) | (go_at_call 81; (with_reducible refine (spec_l16Log.calls a0_1 true _ A4.out).mono ?_); rintro e w' ⟨rfl, ⟨nd, rfl⟩⟩))
       go_ret
       exact ⟨qE, qS1 HB GE104⟩
     ·obtain rfl := Option.some.inj H
      go_enter Tryz.func53, Tryz.ntmps53
      go_wp2_with (first | ((with_reducible refine gate_dst (N := 1) rfl ?_); refine box_event ?hg (N := 1) ?hd (cs := #[.int .i64 a0_0, .int .i64 a0_1, .int .i64 a0_2, .int .i64 a0_3]) (t := 29) ?hr ?_; (case hd => rfl); (case hg => rfl); (case hr => first | (go_simp; done) | (go_simp; rfl)); intro gb104 hg w13 hbox hb; have BK104 := Aside0.mk (hbox); have GW104 := qG hg (below_size (qS0 HB)); have GE104 := qG hg (below_size (qS0 HB)); replace HB := Aside0.mk (below_step (qS0 HB) hb); clear hb hbox hg; obtain ⟨hcz14_0, hcz14_1, hcz14_2, hcz14_3, hfz14_0, hfz14_1, hfz14_2, hfz14_3⟩ := qC4 BK104) | (go_at_call 81; (with_reducible refine (spec_l16Log.calls a0_1 true _ A4.out).mono ?_); rintro e w' ⟨rfl, ⟨nd, rfl⟩⟩))
      go_ret
      exact ⟨qE, qS1 HB GE104⟩
    ·obtain rfl := Option.some.inj H
     go_enter Tryz.func53, Tryz.ntmps53
     go_wp2_with (first | ((with_reducible refine gate_dst (N := 1) rfl ?_); refine box_event ?hg (N := 1) ?hd (cs := #[.int .i64 a0_0, .int .i64 a0_1, .int .i64 a0_2, .int .i64 a0_3]) (t := 29) ?hr ?_; (case hd => rfl); (case hg => rfl); (case hr => first | (go_simp; done) | (go_simp; rfl)); intro gb104 hg w15 hbox hb; have BK104 := Aside0.mk (hbox); have GW104 := qG hg (below_size (qS0 HB)); have GE104 := qG hg (below_size (qS0 HB)); replace HB := Aside0.mk (below_step (qS0 HB) hb); clear hb hbox hg; obtain ⟨hcz16_0, hcz16_1, hcz16_2, hcz16_3, hfz16_0, hfz16_1, hfz16_2, hfz16_3⟩ := qC4 BK104) | (go_at_call 81; (with_reducible refine (spec_l16Log.calls a0_1 true _ A4.out).mono ?_); rintro e w' ⟨rfl, ⟨nd, rfl⟩⟩))
     go_ret
     exact ⟨qE, qS1 HB GE104⟩
   ·replace c5 := Bool.eq_false_iff.mpr c5
    (subst c5); (have H1 : (some false) = some r := by rw [if_neg (show ¬ (false = true) by decide)] at H; exact H); clear H; (have H := H1); clear H1; (obtain rfl := Option.some.inj H)
    go_enter Tryz.func53, Tryz.ntmps53
    go_wp2_with (first | ((with_reducible refine gate_dst (N := 1) rfl ?_); refine box_event ?hg (N := 1) ?hd (cs := #[.int .i64 a0_0, .int .i64 a0_1, .int .i64 a0_2, .int .i64 a0_3]) (t := 29) ?hr ?_; (case hd => rfl); (case hg => rfl); (case hr => first | (go_simp; done) | (go_simp; rfl)); intro gb104 hg w17 hbox hb; have BK104 := Aside0.mk (hbox); have GW104 := qG hg (below_size (qS0 HB)); have GE104 := qG hg (below_size (qS0 HB)); replace HB := Aside0.mk (below_step (qS0 HB) hb); clear hb hbox hg; obtain ⟨hcz18_0, hcz18_1, hcz18_2, hcz18_3, hfz18_0, hfz18_1, hfz18_2, hfz18_3⟩ := qC4 BK104) | (go_at_call 81; (with_reducible refine (spec_l16Log.calls a0_1 false _ A4.out).mono ?_); rintro e w' ⟨rfl, ⟨nd, rfl⟩⟩))
    go_ret
    exact ⟨qE, qS1 HB GE104⟩
  ·obtain rfl := Option.some.inj H
   go_enter Tryz.func53, Tryz.ntmps53
   go_wp2_with (first | ((with_reducible refine gate_dst (N := 1) rfl ?_); refine box_event ?hg (N := 1) ?hd (cs := #[.int .i64 a0_0, .int .i64 a0_1, .int .i64 a0_2, .int .i64 a0_3]) (t := 29) ?hr ?_; (case hd => rfl); (case hg => rfl); (case hr => first | (go_simp; done) | (go_simp; rfl)); intro gb104 hg w19 hbox hb; have BK104 := Aside0.mk (hbox); have GW104 := qG hg (below_size (qS0 HB)); have GE104 := qG hg (below_size (qS0 HB)); replace HB := Aside0.mk (below_step (qS0 HB) hb); clear hb hbox hg; obtain ⟨hcz20_0, hcz20_1, hcz20_2, hcz20_3, hfz20_0, hfz20_1, hfz20_2, hfz20_3⟩ := qC4 BK104))
   go_ret
   exact ⟨qE, qS1 HB GE104⟩
 ·obtain rfl := Option.some.inj H
  go_enter Tryz.func53, Tryz.ntmps53
  go_wp2_with (first | ((with_reducible refine gate_dst (N := 1) rfl ?_); refine box_event ?hg (N := 1) ?hd (cs := #[.int .i64 a0_0, .int .i64 a0_1, .int .i64 a0_2, .int .i64 a0_3]) (t := 29) ?hr ?_; (case hd => rfl); (case hg => rfl); (case hr => first | (go_simp; done) | (go_simp; rfl)); intro gb104 hg w21 hbox hb; have BK104 := Aside0.mk (hbox); have GW104 := qG hg (below_size (qS0 HB)); have GE104 := qG hg (below_size (qS0 HB)); replace HB := Aside0.mk (below_step (qS0 HB) hb); clear hb hbox hg; obtain ⟨hcz22_0, hcz22_1, hcz22_2, hcz22_3, hfz22_0, hfz22_1, hfz22_2, hfz22_3⟩ := qC4 BK104))
  go_ret
  exact ⟨qE, qS1 HB GE104⟩
def spec_l18Shape.f (a0 : Int) (a1 : Int) : Option (Bool) := if a0 = 6 then (if a1 ≥ 1 then (some (decide (a1 ≤ 16))) else (some false)) else (if a0 ≥ 1 then (if a0 ≤ 6 then (some (a1 == 0)) else (some false)) else (some false))
theorem spec_l18Shape.calls (a0 : Int) (a1 : Int) (r : Bool) (w : World) (h : spec_l18Shape.f a0 a1 = some r) :
  Calls Tryz.prog 116 #[.int .i64 a0, .int .i64 a1] w fun e w' => e = .returned (.bool r) ∧ Drawn0 w w' := by
 (have H : (if a0 = 6 then (if a1 ≥ 1 then (some (decide (a1 ≤ 16))) else (some false)) else (if a0 ≥ 1 then (if a0 ≤ 6 then (some (a1 == 0)) else (some false)) else (some false))) = some r := h); clear h
 rcases qJ H with ⟨c3, H⟩ | ⟨c3, H⟩
 ·have c3b0 : (a0 == 6) = true := beq_iff_eq.mpr c3
  (have c3b1 : (a0 != 6) = false := bne_eq_false_iff_eq.mpr c3); clear c3
  rcases qI H with ⟨(c4b0 : decide (1 ≤ a1) = true), H⟩ | ⟨(c4b0 : decide (1 ≤ a1) = false), H⟩
  ·obtain rfl := Option.some.inj H
   go_enter Tryz.func116, Tryz.ntmps116
   go_wp2
   go_ret
   exact qZ
  ·obtain rfl := Option.some.inj H
   go_enter Tryz.func116, Tryz.ntmps116
   go_wp2
   go_ret
   exact qZ
 ·have c3b0 : (a0 == 6) = false := beq_eq_false_iff_ne.mpr c3
  have c3b1 : (a0 != 6) = true := bne_iff_ne.mpr c3
  rcases qI H with ⟨(c5b0 : decide (1 ≤ a0) = true), H⟩ | ⟨(c5b0 : decide (1 ≤ a0) = false), H⟩
  ·rcases qI H with ⟨c6b0, H⟩ | ⟨c6b0, H⟩
   ·obtain rfl := Option.some.inj H
    go_enter Tryz.func116, Tryz.ntmps116
    go_wp2
    go_ret
    exact qZ
   ·obtain rfl := Option.some.inj H
    go_enter Tryz.func116, Tryz.ntmps116
    go_wp2
    go_ret
    exact qZ
  ·obtain rfl := Option.some.inj H
   go_enter Tryz.func116, Tryz.ntmps116
   go_wp2
   go_ret
   exact qZ
def spec_ReqOk.f (a0_0 : Int) (a0_1 : ByteArray) (a0_2 : Int) (a0_3 : Int) (a0_4 : Int) (a0_5 : Int) (a0_6 : ByteArray) : Option (Bool) := (spec_l18Shape.f a0_0 a0_5).bind fun t107 => (if t107 = true then (if (a0_1.size : Int) ≤ 100 then (some (decide ((a0_6.size : Int) ≤ 2000))) else (some false)) else (some false))
theorem spec_ReqOk.calls (a0_0 : Int) (a0_1 : ByteArray) (a0_2 : Int) (a0_3 : Int) (a0_4 : Int) (a0_5 : Int) (a0_6 : ByteArray) (r : Bool) (w : World) (h : spec_ReqOk.f a0_0 a0_1 a0_2 a0_3 a0_4 a0_5 a0_6 = some r) :
  Calls Tryz.prog 97 #[.agg #[.int .i64 a0_0, .string a0_1, .int .i64 a0_2, .int .i64 a0_3, .int .i64 a0_4, .int .i64 a0_5, .string a0_6]] w fun e w' => e = .returned (.bool r) ∧ Below w.heap.size w w' := by
 (have hu56 := Tryz.underlying56); (have HB := Aside0.mk (Below.refl w.heap.size w)); (have H : ((spec_l18Shape.f a0_0 a0_5).bind fun t107 => (if t107 = true then (if (a0_1.size : Int) ≤ 100 then (some (decide ((a0_6.size : Int) ≤ 2000))) else (some false)) else (some false))) = some r := h); clear h; (obtain ⟨t107, A2, H⟩ := qX H)
 try dsimp only at H
 by_cases c3 : t107 = true
 ·subst c3
  (have H1 : (if (a0_1.size : Int) ≤ 100 then (some (decide ((a0_6.size : Int) ≤ 2000))) else (some false)) = some r := by rw [if_pos rfl] at H; exact H); clear H; (have H := H1); clear H1
  rcases qJ H with ⟨c4, H⟩ | ⟨c4, H⟩
  ·have c4b0 : decide ((a0_1.size : Int) ≤ 100) = true := decide_eq_true c4
   (have c4b1 : decide (a0_1.size ≤ 100) = true := decide_eq_true (by omega)); clear c4; (obtain rfl := Option.some.inj H)
   go_enter Tryz.func97, Tryz.ntmps97
   go_wp2_with (first | ((with_reducible refine gate_dst (N := 1) rfl ?_); (try (refine gate_guard (by rfl) ?_; dsimp only)); refine box_event ?hg (N := 1) ?hd (cs := #[.int .i64 a0_0, .string a0_1, .int .i64 a0_2, .int .i64 a0_3, .int .i64 a0_4, .int .i64 a0_5, .string a0_6]) (t := 56) ?hr ?_; (case hd => rfl); (case hg => rfl); (case hr => first | (go_simp; done) | (go_simp; rfl)); intro gb106 hg w5 hbox hb; have BK106 := Aside0.mk (hbox); have GW106 := qG hg (below_size (qS0 HB)); have GE106 := qG hg (below_size (qS0 HB)); replace HB := Aside0.mk (below_step (qS0 HB) hb); clear hb hbox hg; obtain ⟨hcz6_0, hcz6_1, hcz6_2, hcz6_3, hcz6_4, hcz6_5, hcz6_6, hfz6_0, hfz6_1, hfz6_2, hfz6_3, hfz6_4, hfz6_5, hfz6_6⟩ := qC7 BK106) | ((with_reducible refine gate_callee (f := 116) rfl ?_); refine goesL_ (some 7) rfl rfl Tryz.func116 (by kernel_rfl) rfl #[.int .i64 a0_0, .int .i64 a0_5] rfl qL ?_; (with_reducible refine (spec_l18Shape.calls a0_0 a0_5 true _ A2.out).mono ?_); rintro e w' ⟨rfl, ⟨nd, rfl⟩⟩; refine ⟨_, rfl, ?_⟩))
   go_ret
   exact ⟨qE, qS1 HB GE106⟩
  ·have c4b0 : decide ((a0_1.size : Int) ≤ 100) = false := decide_eq_false c4
   (have c4b1 : decide (a0_1.size ≤ 100) = false := decide_eq_false (by omega)); clear c4; (obtain rfl := Option.some.inj H)
   go_enter Tryz.func97, Tryz.ntmps97
   go_wp2_with (first | ((with_reducible refine gate_dst (N := 1) rfl ?_); (try (refine gate_guard (by rfl) ?_; dsimp only)); refine box_event ?hg (N := 1) ?hd (cs := #[.int .i64 a0_0, .string a0_1, .int .i64 a0_2, .int .i64 a0_3, .int .i64 a0_4, .int .i64 a0_5, .string a0_6]) (t := 56) ?hr ?_; (case hd => rfl); (case hg => rfl); (case hr => first | (go_simp; done) | (go_simp; rfl)); intro gb106 hg w7 hbox hb; have BK106 := Aside0.mk (hbox); have GW106 := qG hg (below_size (qS0 HB)); have GE106 := qG hg (below_size (qS0 HB)); replace HB := Aside0.mk (below_step (qS0 HB) hb); clear hb hbox hg; obtain ⟨hcz8_0, hcz8_1, hcz8_2, hcz8_3, hcz8_4, hcz8_5, hcz8_6, hfz8_0, hfz8_1, hfz8_2, hfz8_3, hfz8_4, hfz8_5, hfz8_6⟩ := qC7 BK106) | ((with_reducible refine gate_callee (f := 116) rfl ?_); refine goesL_ (some 7) rfl rfl Tryz.func116 (by kernel_rfl) rfl #[.int .i64 a0_0, .int .i64 a0_5] rfl qL ?_; (with_reducible refine (spec_l18Shape.calls a0_0 a0_5 true _ A2.out).mono ?_); rintro e w' ⟨rfl, ⟨nd, rfl⟩⟩; refine ⟨_, rfl, ?_⟩))
   go_ret
   exact ⟨qE, qS1 HB GE106⟩
 ·replace c3 := Bool.eq_false_iff.mpr c3
  (subst c3); (have H1 : (some false) = some r := by rw [if_neg (show ¬ (false = true) by decide)] at H; exact H); clear H; (have H := H1); clear H1; (obtain rfl := Option.some.inj H)
  go_enter Tryz.func97, Tryz.ntmps97
  go_wp2_with (first | ((with_reducible refine gate_dst (N := 1) rfl ?_); (try (refine gate_guard (by rfl) ?_; dsimp only)); refine box_event ?hg (N := 1) ?hd (cs := #[.int .i64 a0_0, .string a0_1, .int .i64 a0_2, .int .i64 a0_3, .int .i64 a0_4, .int .i64 a0_5, .string a0_6]) (t := 56) ?hr ?_; (case hd => rfl); (case hg => rfl); (case hr => first | (go_simp; done) | (go_simp; rfl)); intro gb106 hg w9 hbox hb; have BK106 := Aside0.mk (hbox); have GW106 := qG hg (below_size (qS0 HB)); have GE106 := qG hg (below_size (qS0 HB)); replace HB := Aside0.mk (below_step (qS0 HB) hb); clear hb hbox hg; obtain ⟨hcz10_0, hcz10_1, hcz10_2, hcz10_3, hcz10_4, hcz10_5, hcz10_6, hfz10_0, hfz10_1, hfz10_2, hfz10_3, hfz10_4, hfz10_5, hfz10_6⟩ := qC7 BK106) | ((with_reducible refine gate_callee (f := 116) rfl ?_); refine goesL_ (some 7) rfl rfl Tryz.func116 (by kernel_rfl) rfl #[.int .i64 a0_0, .int .i64 a0_5] rfl qL ?_; (with_reducible refine (spec_l18Shape.calls a0_0 a0_5 false _ A2.out).mono ?_); rintro e w' ⟨rfl, ⟨nd, rfl⟩⟩; refine ⟨_, rfl, ?_⟩))
  go_ret
  exact ⟨qE, qS1 HB GE106⟩
def spec_ReqsOk.l0 : Nat → List (S56) → Int → Option (Bool)
 | 0, _, _ => none
 | k + 1, x0, x3 => if x3 < (x0.length : Int) then (if 0 ≤ x3 then ((spec_ReqOk.f ((rd_T56 x0 x3).f0) ((rd_T56 x0 x3).f1) ((rd_T56 x0 x3).f2) ((rd_T56 x0 x3).f3) ((rd_T56 x0 x3).f4) ((rd_T56 x0 x3).f5) ((rd_T56 x0 x3).f6)).bind fun t109 => (if t109 = true then (spec_ReqsOk.l0 k x0 (wrap64 (x3 + 1))) else (some false))) else (none)) else (some true)
def spec_ReqsOk.f (k : Nat) (l0 : List (S56)) : Option (Bool) := if (l0.length : Int) > 40 then (some false) else (spec_ReqsOk.l0 k l0 0)
theorem spec_ReqsOk.calls (k : Nat) (A0 : Option Addr) (c0 : Nat) (l0 : List (S56)) (r : Bool) (w : World) (hr0 : Kd.C k56 w A0 l0.length l0) (hc0 : l0.length ≤ c0) (h : spec_ReqsOk.f k l0 = some r) :
  Calls Tryz.prog 54 #[.slice A0 l0.length c0] w fun e w' => e = .returned (.bool r) ∧ Below w.heap.size w w' := by
 (have hu56 := Tryz.underlying56); (have HR0 := Aside0.mk hr0); (have HC0 := Aside0.mk hc0); clear hr0 hc0; (have HB := Aside0.mk (Below.refl w.heap.size w)); (have H : (if (l0.length : Int) > 40 then (some false) else (spec_ReqsOk.l0 k l0 0)) = some r := h); clear h
 rcases qJ H with ⟨c2, H⟩ | ⟨c2, H⟩
 ·have c2b0 : decide (40 < (l0.length : Int)) = true := decide_eq_true c2
  (have c2b1 : decide (40 < l0.length) = true := decide_eq_true (by omega)); clear c2; (obtain rfl := Option.some.inj H)
  go_enter Tryz.func54, Tryz.ntmps54
  go_wp2
  go_ret
  exact ⟨qE, qS0 HB⟩
 ·have c2b0 : decide (40 < (l0.length : Int)) = false := decide_eq_false c2
  (have c2b1 : decide (40 < l0.length) = false := decide_eq_false (by omega)); clear c2; (have H' := Aside0.mk H); clear H
  go_enter Tryz.func54, Tryz.ntmps54
  go_wp2
  go_loopg [3] k (fun kq v3 w' => ∃ (x3_1 : Int), v3 = .int .i64 x3_1 ∧ Aside0 (spec_ReqsOk.l0 kq l0 x3_1 = some r) ∧ Aside0 (kq ≤ k) ∧ Aside0 (Below w.heap.size w w'))
  case atStart => exact ⟨(0), qV, H', ⟨Nat.le_refl _⟩, ⟨qS0 HB⟩⟩
  case round =>
   clear H'; (try clear c2b0); (try clear c2b1); (obtain ⟨x3_1, rfl, HA, HK1, HB⟩ := hrel)
   cases gk with
   | zero => exact absurd HA.out (by simp [spec_ReqsOk.l0])
   | succ k1 =>
    (have H := HA.out); clear HA; (simp only [spec_ReqsOk.l0] at H)
    rcases qI H with ⟨c3b0, H⟩ | ⟨c3b0, H⟩
    ·obtain ⟨c4b0, H⟩ := qT H
     (obtain ⟨t109, A5, H⟩ := qX H); (replace H : (if t109 = true then (spec_ReqsOk.l0 k1 l0 (wrap64 (x3_1 + 1))) else (some false)) = some r := H)
     by_cases c6 : t109 = true
     ·subst c6
      (have H1 : (spec_ReqsOk.l0 k1 l0 (wrap64 (x3_1 + 1))) = some r := by rw [if_pos rfl] at H; exact H); clear H; (have H := H1); clear H1; (have H' := Aside0.mk H); clear H; (have p108 : 0 ≤ (x3_1 : Int) := qO); (have q108 : x3_1 < (l0.length : Int) := qO); (obtain ⟨ad108, e108, hx108_0, hx108_1, hx108_2, hx108_3, hx108_4, hx108_5, hx108_6⟩ := at_T56 HR0.out x3_1 p108 q108)
      cases e108
      (replace hx108_0 := qF HB hx108_0); (replace hx108_1 := qF HB hx108_1); (replace hx108_2 := qF HB hx108_2); (replace hx108_3 := qF HB hx108_3); (replace hx108_4 := qF HB hx108_4); (replace hx108_5 := qF HB hx108_5); (replace hx108_6 := qF HB hx108_6); (replace p108 := eq_true p108); (replace q108 := eq_true q108)
      go_wp2_with (first | ((with_reducible refine gate_callee (f := 97) rfl ?_); refine goesL_ (some 17) rfl rfl Tryz.func97 (by kernel_rfl) rfl #[.agg #[.int .i64 ((rd_T56 l0 x3_1).f0), .string ((rd_T56 l0 x3_1).f1), .int .i64 ((rd_T56 l0 x3_1).f2), .int .i64 ((rd_T56 l0 x3_1).f3), .int .i64 ((rd_T56 l0 x3_1).f4), .int .i64 ((rd_T56 l0 x3_1).f5), .string ((rd_T56 l0 x3_1).f6)]] rfl qL ?_; (with_reducible refine (spec_ReqOk.calls ((rd_T56 l0 x3_1).f0) ((rd_T56 l0 x3_1).f1) ((rd_T56 l0 x3_1).f2) ((rd_T56 l0 x3_1).f3) ((rd_T56 l0 x3_1).f4) ((rd_T56 l0 x3_1).f5) ((rd_T56 l0 x3_1).f6) true _ A5.out).mono ?_); rintro e w7 ⟨rfl, hb⟩; refine ⟨_, rfl, ?_⟩; replace HB := Aside0.mk (below_step (qS0 HB) hb); (try clear hb); (try clear hb2); (try clear hk); (try clear hi)))
      go_roundg k1
      case measure => have := HK1.out; omega
      case rel => exact ⟨(wrap64 (x3_1 + 1)), qV, H', ⟨by have := HK1.out; omega⟩, ⟨qS0 HB⟩⟩
     ·replace c6 := Bool.eq_false_iff.mpr c6
      (subst c6); (have H1 : (some false) = some r := by rw [if_neg (show ¬ (false = true) by decide)] at H; exact H); clear H; (have H := H1); clear H1; (obtain rfl := Option.some.inj H); (have p108 : 0 ≤ (x3_1 : Int) := qO); (have q108 : x3_1 < (l0.length : Int) := qO); (obtain ⟨ad108, e108, hx108_0, hx108_1, hx108_2, hx108_3, hx108_4, hx108_5, hx108_6⟩ := at_T56 HR0.out x3_1 p108 q108)
      cases e108
      (replace hx108_0 := qF HB hx108_0); (replace hx108_1 := qF HB hx108_1); (replace hx108_2 := qF HB hx108_2); (replace hx108_3 := qF HB hx108_3); (replace hx108_4 := qF HB hx108_4); (replace hx108_5 := qF HB hx108_5); (replace hx108_6 := qF HB hx108_6); (replace p108 := eq_true p108); (replace q108 := eq_true q108)
      go_wp2_with (first | ((with_reducible refine gate_callee (f := 97) rfl ?_); refine goesL_ (some 17) rfl rfl Tryz.func97 (by kernel_rfl) rfl #[.agg #[.int .i64 ((rd_T56 l0 x3_1).f0), .string ((rd_T56 l0 x3_1).f1), .int .i64 ((rd_T56 l0 x3_1).f2), .int .i64 ((rd_T56 l0 x3_1).f3), .int .i64 ((rd_T56 l0 x3_1).f4), .int .i64 ((rd_T56 l0 x3_1).f5), .string ((rd_T56 l0 x3_1).f6)]] rfl qL ?_; (with_reducible refine (spec_ReqOk.calls ((rd_T56 l0 x3_1).f0) ((rd_T56 l0 x3_1).f1) ((rd_T56 l0 x3_1).f2) ((rd_T56 l0 x3_1).f3) ((rd_T56 l0 x3_1).f4) ((rd_T56 l0 x3_1).f5) ((rd_T56 l0 x3_1).f6) false _ A5.out).mono ?_); rintro e w8 ⟨rfl, hb⟩; refine ⟨_, rfl, ?_⟩; replace HB := Aside0.mk (below_step (qS0 HB) hb); (try clear hb); (try clear hb2); (try clear hk); (try clear hi)))
      go_ret
      exact ⟨qE, qS0 HB⟩
    ·obtain rfl := Option.some.inj H
     go_wp2
     go_ret
     exact ⟨qE, qS0 HB⟩
mutual
def spec_WordOk.j0 : Nat → ByteArray → Bool → Option (Bool)
 | 0, _, _ => none
 | k + 1, x0, x11 => if x11 = true then (some false) else (spec_WordOk.l0 k x0 0)
def spec_WordOk.l0 : Nat → ByteArray → Int → Option (Bool)
 | 0, _, _ => none
 | k + 1, x0, x3 => if x3 < (x0.size : Int) then (if 0 ≤ x3 then (if (bt x0 x3) < 97 then (some false) else (if (bt x0 x3) > 122 then (some false) else (spec_WordOk.l0 k x0 (wrap64 (x3 + 1))))) else (none)) else (some true)
end
def spec_WordOk.f (k : Nat) (a0 : ByteArray) : Option (Bool) := if (a0.size : Int) < 1 then (spec_WordOk.j0 k a0 true) else (spec_WordOk.j0 k a0 (decide ((a0.size : Int) > 32)))
theorem spec_WordOk.calls (k : Nat) (a0 : ByteArray) (r : Bool) (w : World) (h : spec_WordOk.f k a0 = some r) :
  Calls Tryz.prog 117 #[.string a0] w fun e w' => e = .returned (.bool r) ∧ Drawn0 w w' := by
 (have H : (if (a0.size : Int) < 1 then (spec_WordOk.j0 k a0 true) else (spec_WordOk.j0 k a0 (decide ((a0.size : Int) > 32)))) = some r := h); clear h; (have HC2 := Aside0.mk H); clear H
 go_enter Tryz.func117, Tryz.ntmps117
 go_upto_region 1 with (fail)
 go_cut [11] (fun v11 wc => ∃ (kq : Nat) (x11_1 : Bool), v11 = .bool x11_1 ∧ Aside0 (spec_WordOk.j0 kq a0 x11_1 = some r) ∧ Aside0 (kq ≤ k) ∧ Drawn0 w wc)
 case first =>
  (have H := HC2.out); clear HC2
  rcases qJ H with ⟨c3, H⟩ | ⟨c3, H⟩
  ·have c3b0 : decide ((a0.size : Int) < 1) = true := decide_eq_true c3
   (have c3b1 : decide (a0.size < 1) = true := decide_eq_true (by omega)); clear c3
   (first | rw [c3b0] | (simp only [i64_w, i32_w]; rw [c3b0]) | skip)
   (have H' := Aside0.mk H); clear H
   go_wp2
   go_meet
   case rel => exact ⟨_, (true), qV, H', ⟨by first | omega | exact Nat.le_refl _⟩, by repeat (first | exact Drawn0.refl _ | apply Drawn0.step)⟩
  ·have c3b0 : decide ((a0.size : Int) < 1) = false := decide_eq_false c3
   (have c3b1 : decide (a0.size < 1) = false := decide_eq_false (by omega)); clear c3
   (first | rw [c3b0] | (simp only [i64_w, i32_w]; rw [c3b0]) | skip)
   (have H' := Aside0.mk H); clear H
   go_wp2
   go_meet
   case rel => exact ⟨_, (decide ((a0.size : Int) > 32)), qV, H', ⟨by first | omega | exact Nat.le_refl _⟩, by repeat (first | exact Drawn0.refl _ | apply Drawn0.step)⟩
 case rest =>
  clear HC2; (try clear c3b0); (try clear c3b1); (obtain ⟨kq, x11_1, rfl, HA, HJ1, ⟨mc1, rfl⟩⟩ := hcut)
  cases kq with
  | zero => exact absurd HA.out (by simp [spec_WordOk.j0])
  | succ kj1 =>
   (have H := HA.out); clear HA; (simp only [spec_WordOk.j0] at H)
   by_cases c4 : x11_1 = true
   ·subst c4
    (have H1 : (some false) = some r := by rw [if_pos rfl] at H; exact H); clear H; (have H := H1); clear H1; (obtain rfl := Option.some.inj H)
    go_wp2
    go_ret
    exact qZ
   ·replace c4 := Bool.eq_false_iff.mpr c4
    (subst c4); (have H1 : (spec_WordOk.l0 kj1 a0 0) = some r := by rw [if_neg (show ¬ (false = true) by decide)] at H; exact H); clear H; (have H := H1); clear H1; (have H' := Aside0.mk H); clear H
    go_wp2
    go_loopg [3] kj1 (fun kq v3 w' => ∃ (x3_2 : Int), v3 = .int .i64 x3_2 ∧ Aside0 (spec_WordOk.l0 kq a0 x3_2 = some r) ∧ Aside0 (kq ≤ kj1) ∧ Drawn0 w w')
    case atStart => exact ⟨(0), qV, H', ⟨Nat.le_refl _⟩, by repeat (first | exact Drawn0.refl _ | apply Drawn0.step)⟩
    case round =>
     clear H'; (try clear c4); (obtain ⟨x3_2, rfl, HA, HK2, ⟨m2, rfl⟩⟩ := hrel)
     cases gk with
     | zero => exact absurd HA.out (by simp [spec_WordOk.l0])
     | succ k2 =>
      (have H := HA.out); clear HA; (simp only [spec_WordOk.l0] at H)
      rcases qI H with ⟨c5b0, H⟩ | ⟨c5b0, H⟩
      ·obtain ⟨c6b0, H⟩ := qT H
       rcases qI H with ⟨c8b0, H⟩ | ⟨c8b0, H⟩
       ·obtain rfl := Option.some.inj H
        (have p7 : 0 ≤ (x3_2 : Int) := qO); (have q7 : x3_2 < (a0.size : Int) := qO); (have hx7 := bt_at a0 x3_2); (replace p7 := eq_true p7); (replace q7 := eq_true q7)
        go_wp2
        go_ret
        exact qZ
       ·rcases qI H with ⟨(c10b0 : decide (122 < (bt a0 x3_2)) = true), H⟩ | ⟨(c10b0 : decide (122 < (bt a0 x3_2)) = false), H⟩
        ·obtain rfl := Option.some.inj H
         (have p7 : 0 ≤ (x3_2 : Int) := qO); (have q7 : x3_2 < (a0.size : Int) := qO); (have hx7 := bt_at a0 x3_2); (replace p7 := eq_true p7); (replace q7 := eq_true q7); (have p9 : 0 ≤ (x3_2 : Int) := qO); (have q9 : x3_2 < (a0.size : Int) := qO); (have hx9 := bt_at a0 x3_2); (replace p9 := eq_true p9); (replace q9 := eq_true q9)
         go_wp2
         go_ret
         exact qZ
        ·have H' := Aside0.mk H
         clear H; (have p7 : 0 ≤ (x3_2 : Int) := qO); (have q7 : x3_2 < (a0.size : Int) := qO); (have hx7 := bt_at a0 x3_2); (replace p7 := eq_true p7); (replace q7 := eq_true q7); (have p9 : 0 ≤ (x3_2 : Int) := qO); (have q9 : x3_2 < (a0.size : Int) := qO); (have hx9 := bt_at a0 x3_2); (replace p9 := eq_true p9); (replace q9 := eq_true q9)
         go_wp2
         go_roundg k2
         case measure => have := HJ1.out; have := HK2.out; omega
         case rel => exact ⟨(wrap64 (x3_2 + 1)), qV, H', ⟨by have := HJ1.out; have := HK2.out; omega⟩, by repeat (first | exact Drawn0.refl _ | apply Drawn0.step)⟩
      ·obtain rfl := Option.some.inj H
       go_wp2
       go_ret
       exact qZ
def spec_Fold.l0 : Nat → ByteArray → List Int → Int → Option (ByteArray)
 | 0, _, _, _ => none
 | k + 1, x0, x3, x4 => if x4 < (x0.size : Int) then (if 0 ≤ x4 then (if (bt x0 x4) ≥ 65 then (if (bt x0 x4) ≤ 90 then (if x3.length < 140737488355328 then (spec_Fold.l0 k x0 (x3 ++ [((bt x0 x4) + 32) % 256]) (wrap64 (x4 + 1))) else (none)) else (if x3.length < 140737488355328 then (spec_Fold.l0 k x0 (x3 ++ [bt x0 x4]) (wrap64 (x4 + 1))) else (none))) else (if x3.length < 140737488355328 then (spec_Fold.l0 k x0 (x3 ++ [bt x0 x4]) (wrap64 (x4 + 1))) else (none))) else (none)) else ((spec_WordOk.f k (strOfNums x3)).bind fun t122 => (if t122 = true then (some (strOfNums x3)) else (some (⟨#[]⟩ : ByteArray))))
def spec_Fold.f (k : Nat) (a0 : ByteArray) : Option (ByteArray) := if (a0.size : Int) > 32 then (some (⟨#[]⟩ : ByteArray)) else (spec_Fold.l0 k a0 (([] : List Int)) 0)
theorem spec_Fold.calls (k : Nat) (a0 : ByteArray) (r : ByteArray) (w : World) (h : spec_Fold.f k a0 = some r) :
  Calls Tryz.prog 98 #[.string a0] w fun e w' => e = .returned (.string r) ∧ Below w.heap.size w w' := by
 (have HB := Aside0.mk (Below.refl w.heap.size w)); (have H : (if (a0.size : Int) > 32 then (some (⟨#[]⟩ : ByteArray)) else (spec_Fold.l0 k a0 (([] : List Int)) 0)) = some r := h); clear h
 rcases qJ H with ⟨c2, H⟩ | ⟨c2, H⟩
 ·have c2b0 : decide (32 < (a0.size : Int)) = true := decide_eq_true c2
  (have c2b1 : decide (32 < a0.size) = true := decide_eq_true (by omega)); clear c2; (obtain rfl := Option.some.inj H)
  go_enter Tryz.func98, Tryz.ntmps98
  go_wp2
  go_ret
  exact ⟨qE, qS0 HB⟩
 ·have c2b0 : decide (32 < (a0.size : Int)) = false := decide_eq_false c2
  (have c2b1 : decide (32 < a0.size) = false := decide_eq_false (by omega)); clear c2; (obtain ⟨y110, hy110⟩ : ∃ y_ : List Int, y_ = (([] : List Int)) := ⟨_, rfl⟩); (replace H : (spec_Fold.l0 k a0 y110 0) = some r := qY hy110 H); (have Ny110 := Aside0.mk hy110); clear hy110; (have H' := Aside0.mk H); clear H
  go_enter Tryz.func98, Tryz.ntmps98
  go_wp2_with (first | ((with_reducible refine gate_dst (N := 9) rfl ?_); refine Kd.R_lit (Kd.int .u8) _ 5 ?hg (N := 9) ?hd (xs := ([] : List Int)) (inner := []) (ok := fun _ => True) (okp := fun _ => True) ?hr ?hp (fun _ hk => hk) trivial (Below.refl _ _) (Nat.le_refl _) (by simp) ?_; (case hd => rfl); (case hg => rfl); (case hr => first | (go_simp; done) | (go_simp; rfl)); (case hp => exact (Reps.none _ _)); intro v111 w3 ho4 hb hg_ hnew_; clear hg_ hnew_; (first | rw [← Ny110.out] at ho4 | (simp only [Int.reduceToNat] at ho4; rw [← Ny110.out] at ho4)); have HO112 := Aside0.mk (Kd.R_lower ho4 (below_size (qS0 HB))); replace HB := Aside0.mk (below_step (qS0 HB) hb); clear hb ho4))
  go_loopg [3, 4] k (fun kq v3 v4 w' => ∃ (x3_1 : List Int) (x4_1 : Int), v4 = .int .i64 x4_1 ∧ Aside0 (spec_Fold.l0 kq a0 x3_1 x4_1 = some r) ∧ Aside0 (kq ≤ k) ∧ Aside0 (Kd.R (Kd.int .u8) 5 w' w.heap.size (fun _ => True) v3 x3_1) ∧ Aside0 (Below w.heap.size w w'))
  case atStart => exact ⟨(y110), (0), qV, H', ⟨Nat.le_refl _⟩, ⟨qR HO112⟩, ⟨qS0 HB⟩⟩
  case round =>
   clear H'; (try clear c2b0); (try clear c2b1); (obtain ⟨x3_1, x4_1, rfl, HA, HK1, HO_3, HB⟩ := hrel)
   cases gk with
   | zero => exact absurd HA.out (by simp [spec_Fold.l0])
   | succ k1 =>
    (have H := HA.out); clear HA; (simp only [spec_Fold.l0] at H)
    rcases qI H with ⟨c5b0, H⟩ | ⟨c5b0, H⟩
    ·obtain ⟨c6b0, H⟩ := qT H
     rcases qI H with ⟨(c8b0 : decide (65 ≤ (bt a0 x4_1)) = true), H⟩ | ⟨(c8b0 : decide (65 ≤ (bt a0 x4_1)) = false), H⟩
     ·rcases qI H with ⟨c9b0, H⟩ | ⟨c9b0, H⟩
      ·obtain ⟨c10, H⟩ := qU H
       (have LMc10 := Aside0.mk c10); clear c10; (obtain ⟨y113, hy113⟩ : ∃ y_ : List Int, y_ = (x3_1 ++ [((bt a0 x4_1) + 32) % 256]) := ⟨_, rfl⟩); (replace H : (spec_Fold.l0 k1 a0 y113 (wrap64 (x4_1 + 1))) = some r := qY hy113 H); (have Ny113 := Aside0.mk hy113); clear hy113; (have H' := Aside0.mk H); clear H; (have p7 : 0 ≤ (x4_1 : Int) := qO); (have q7 : x4_1 < (a0.size : Int) := qO); (have hx7 := bt_at a0 x4_1); (replace p7 := eq_true p7); (replace q7 := eq_true q7)
       go_wp2_with (first | ((with_reducible refine gate_builtin (b := .append) (xs := #[.tmp 27, .tmp 29]) rfl ?_); at_builtin; refine Kd.R_append (Kd.int .u8) (w0 := w) w.heap.size rfl (.tmp 27) (.tmp 29) 42 5 (.int .u8 0) 1 rfl Tryz.underlying42 info5 rfl (by decide) (by omega) u3 x3_1 (((bt a0 x4_1) + 32) % 256) [.int .u8 (((bt a0 x4_1) + 32) % 256)] (fun _ => True) (fun _ => False) rfl rfl ?aP (fun _ hk => hk.elim) ?aF ?aO ?aB ?aS ?aL ?_; (case aP => exact rfl); (case aB => exact (qS0 HB)); (case aF => exact (fun _ _ => trivial)); (case aO => exact (qR HO_3)); (case aS => exact (below_size (qS0 HB))); (case aL => have := LMc10.out; omega); intro v114 w11 ho hb hg hat; rw [← Ny113.out] at ho; replace HB := Aside0.mk (hb); have HO115 := Aside0.mk (ho); clear HO_3; clear ho hb hg hat))
       go_roundg k1
       case measure => have := HK1.out; omega
       case rel => exact ⟨(y113), (wrap64 (x4_1 + 1)), qV, H', ⟨by have := HK1.out; omega⟩, ⟨qR HO115⟩, ⟨qS0 HB⟩⟩
      ·obtain ⟨c12, H⟩ := qU H
       (have LMc12 := Aside0.mk c12); clear c12; (obtain ⟨y116, hy116⟩ : ∃ y_ : List Int, y_ = (x3_1 ++ [bt a0 x4_1]) := ⟨_, rfl⟩); (replace H : (spec_Fold.l0 k1 a0 y116 (wrap64 (x4_1 + 1))) = some r := qY hy116 H); (have Ny116 := Aside0.mk hy116); clear hy116; (have H' := Aside0.mk H); clear H; (have p7 : 0 ≤ (x4_1 : Int) := qO); (have q7 : x4_1 < (a0.size : Int) := qO); (have hx7 := bt_at a0 x4_1); (replace p7 := eq_true p7); (replace q7 := eq_true q7)
       go_wp2_with (first | ((with_reducible refine gate_builtin (b := .append) (xs := #[.tmp 27, .tmp 29]) rfl ?_); at_builtin; refine Kd.R_append (Kd.int .u8) (w0 := w) w.heap.size rfl (.tmp 27) (.tmp 29) 42 5 (.int .u8 0) 1 rfl Tryz.underlying42 info5 rfl (by decide) (by omega) u3 x3_1 (bt a0 x4_1) [.int .u8 (bt a0 x4_1)] (fun _ => True) (fun _ => False) rfl rfl ?aP (fun _ hk => hk.elim) ?aF ?aO ?aB ?aS ?aL ?_; (case aP => exact rfl); (case aB => exact (qS0 HB)); (case aF => exact (fun _ _ => trivial)); (case aO => exact (qR HO_3)); (case aS => exact (below_size (qS0 HB))); (case aL => have := LMc12.out; omega); intro v117 w13 ho hb hg hat; rw [← Ny116.out] at ho; replace HB := Aside0.mk (hb); have HO118 := Aside0.mk (ho); clear HO_3; clear ho hb hg hat))
       go_roundg k1
       case measure => have := HK1.out; omega
       case rel => exact ⟨(y116), (wrap64 (x4_1 + 1)), qV, H', ⟨by have := HK1.out; omega⟩, ⟨qR HO118⟩, ⟨qS0 HB⟩⟩
     ·obtain ⟨c14, H⟩ := qU H
      (have LMc14 := Aside0.mk c14); clear c14; (obtain ⟨y119, hy119⟩ : ∃ y_ : List Int, y_ = (x3_1 ++ [bt a0 x4_1]) := ⟨_, rfl⟩); (replace H : (spec_Fold.l0 k1 a0 y119 (wrap64 (x4_1 + 1))) = some r := qY hy119 H); (have Ny119 := Aside0.mk hy119); clear hy119; (have H' := Aside0.mk H); clear H; (have p7 : 0 ≤ (x4_1 : Int) := qO); (have q7 : x4_1 < (a0.size : Int) := qO); (have hx7 := bt_at a0 x4_1); (replace p7 := eq_true p7); (replace q7 := eq_true q7)
      go_wp2_with (first | ((with_reducible refine gate_builtin (b := .append) (xs := #[.tmp 27, .tmp 29]) rfl ?_); at_builtin; refine Kd.R_append (Kd.int .u8) (w0 := w) w.heap.size rfl (.tmp 27) (.tmp 29) 42 5 (.int .u8 0) 1 rfl Tryz.underlying42 info5 rfl (by decide) (by omega) u3 x3_1 (bt a0 x4_1) [.int .u8 (bt a0 x4_1)] (fun _ => True) (fun _ => False) rfl rfl ?aP (fun _ hk => hk.elim) ?aF ?aO ?aB ?aS ?aL ?_; (case aP => exact rfl); (case aB => exact (qS0 HB)); (case aF => exact (fun _ _ => trivial)); (case aO => exact (qR HO_3)); (case aS => exact (below_size (qS0 HB))); (case aL => have := LMc14.out; omega); intro v120 w15 ho hb hg hat; rw [← Ny119.out] at ho; replace HB := Aside0.mk (hb); have HO121 := Aside0.mk (ho); clear HO_3; clear ho hb hg hat))
      go_roundg k1
      case measure => have := HK1.out; omega
      case rel => exact ⟨(y119), (wrap64 (x4_1 + 1)), qV, H', ⟨by have := HK1.out; omega⟩, ⟨qR HO121⟩, ⟨qS0 HB⟩⟩
    ·obtain ⟨t122, A16, H⟩ := qX H
     replace H : (if t122 = true then (some (strOfNums x3_1)) else (some (⟨#[]⟩ : ByteArray))) = some r := H
     by_cases c17 : t122 = true
     ·subst c17
      (have H1 : (some (strOfNums x3_1)) = some r := by rw [if_pos rfl] at H; exact H); clear H; (have H := H1); clear H1; (obtain rfl := Option.some.inj H); (have hcv18 := own_string (P := Tryz.prog) Tryz.underlying42 Tryz.underlying5 Tryz.underlying9 (Kd.own_of_R HO_3.out))
      go_wp2_with (first | ((with_reducible refine gate_callee (f := 117) rfl ?_); refine goesL_ (some 33) rfl rfl Tryz.func117 (by kernel_rfl) rfl #[.string (strOfNums x3_1)] rfl qL ?_; (with_reducible refine (spec_WordOk.calls k1 (strOfNums x3_1) true _ A16.out).mono ?_); rintro e w' ⟨rfl, ⟨nd, rfl⟩⟩; refine ⟨_, rfl, ?_⟩; have hcv19 := own_string (w := World.drewN wr nd) (P := Tryz.prog) Tryz.underlying42 Tryz.underlying5 Tryz.underlying9 (own_move (Kd.own_of_R HO_3.out) (fun _ _ => rfl))))
      go_ret
      exact ⟨qE, qS0 HB⟩
     ·replace c17 := Bool.eq_false_iff.mpr c17
      (subst c17); (have H1 : (some (⟨#[]⟩ : ByteArray)) = some r := by rw [if_neg (show ¬ (false = true) by decide)] at H; exact H); clear H; (have H := H1); clear H1; (obtain rfl := Option.some.inj H); (have hcv20 := own_string (P := Tryz.prog) Tryz.underlying42 Tryz.underlying5 Tryz.underlying9 (Kd.own_of_R HO_3.out))
      go_wp2_with (first | ((with_reducible refine gate_callee (f := 117) rfl ?_); refine goesL_ (some 33) rfl rfl Tryz.func117 (by kernel_rfl) rfl #[.string (strOfNums x3_1)] rfl qL ?_; (with_reducible refine (spec_WordOk.calls k1 (strOfNums x3_1) false _ A16.out).mono ?_); rintro e w' ⟨rfl, ⟨nd, rfl⟩⟩; refine ⟨_, rfl, ?_⟩))
      go_ret
      exact ⟨qE, qS0 HB⟩
def spec_l19Weight.f (a0 : Int) : Option (Bool) := if a0 ≥ 0 then (some (decide (a0 ≤ 65535))) else (some false)
theorem spec_l19Weight.calls (a0 : Int) (r : Bool) (w : World) (h : spec_l19Weight.f a0 = some r) :
  Calls Tryz.prog 99 #[.int .i64 a0] w fun e w' => e = .returned (.bool r) ∧ Drawn0 w w' := by
 (have H : (if a0 ≥ 0 then (some (decide (a0 ≤ 65535))) else (some false)) = some r := h); clear h
 rcases qI H with ⟨(c2b0 : decide (0 ≤ a0) = true), H⟩ | ⟨(c2b0 : decide (0 ≤ a0) = false), H⟩
 ·obtain rfl := Option.some.inj H
  go_enter Tryz.func99, Tryz.ntmps99
  go_wp2
  go_ret
  exact qZ
 ·obtain rfl := Option.some.inj H
  go_enter Tryz.func99, Tryz.ntmps99
  go_wp2
  go_ret
  exact qZ
def spec_l01Gap.f (a0 : Int) : Option (Bool) := if a0 = 9 then (some true) else (if a0 = 10 then (some true) else (if a0 = 13 then (some true) else (some (a0 == 32))))
theorem spec_l01Gap.calls (a0 : Int) (r : Bool) (w : World) (h : spec_l01Gap.f a0 = some r) :
  Calls Tryz.prog 118 #[.int .u8 a0] w fun e w' => e = .returned (.bool r) ∧ Drawn0 w w' := by
 (have H : (if a0 = 9 then (some true) else (if a0 = 10 then (some true) else (if a0 = 13 then (some true) else (some (a0 == 32))))) = some r := h); clear h
 rcases qJ H with ⟨c2, H⟩ | ⟨c2, H⟩
 ·have c2b0 : (a0 == 9) = true := beq_iff_eq.mpr c2
  (have c2b1 : (a0 != 9) = false := bne_eq_false_iff_eq.mpr c2); clear c2; (obtain rfl := Option.some.inj H)
  go_enter Tryz.func118, Tryz.ntmps118
  go_wp2
  go_ret
  exact qZ
 ·have c2b0 : (a0 == 9) = false := beq_eq_false_iff_ne.mpr c2
  have c2b1 : (a0 != 9) = true := bne_iff_ne.mpr c2
  rcases qJ H with ⟨c3, H⟩ | ⟨c3, H⟩
  ·have c3b0 : (a0 == 10) = true := beq_iff_eq.mpr c3
   (have c3b1 : (a0 != 10) = false := bne_eq_false_iff_eq.mpr c3); clear c3; (obtain rfl := Option.some.inj H)
   go_enter Tryz.func118, Tryz.ntmps118
   go_wp2
   go_ret
   exact qZ
  ·have c3b0 : (a0 == 10) = false := beq_eq_false_iff_ne.mpr c3
   have c3b1 : (a0 != 10) = true := bne_iff_ne.mpr c3
   rcases qJ H with ⟨c4, H⟩ | ⟨c4, H⟩
   ·have c4b0 : (a0 == 13) = true := beq_iff_eq.mpr c4
    (have c4b1 : (a0 != 13) = false := bne_eq_false_iff_eq.mpr c4); clear c4; (obtain rfl := Option.some.inj H)
    go_enter Tryz.func118, Tryz.ntmps118
    go_wp2
    go_ret
    exact qZ
   ·have c4b0 : (a0 == 13) = false := beq_eq_false_iff_ne.mpr c4
    (have c4b1 : (a0 != 13) = true := bne_iff_ne.mpr c4); (obtain rfl := Option.some.inj H)
    go_enter Tryz.func118, Tryz.ntmps118
    go_wp2
    go_ret
    exact qZ
mutual
def spec_Tokens.j0 : Nat → ByteArray → Int → Bool → Option (List ByteArray × Bool)
 | 0, _, _, _ => none
 | k + 1, x0, x1, x20 => if x20 = true then (some (([] : List ByteArray), false)) else (spec_Tokens.l0 k x0 x1 (([] : List ByteArray)) 0)
def spec_Tokens.l0 : Nat → ByteArray → Int → List ByteArray → Int → Option (List ByteArray × Bool)
 | 0, _, _, _, _ => none
 | k + 1, x0, x1, x6, x7 => if x7 < (x0.size : Int) then (if 0 ≤ x7 then ((spec_l01Gap.f (bt x0 x7)).bind fun t126 => (if t126 = true then (spec_Tokens.j2 k x0 x1 x6 x7 true) else (if x7 > 0 then (if 0 ≤ (wrap64 (x7 - 1)) then (if (wrap64 (x7 - 1)) < (x0.size : Int) then ((spec_l01Gap.f (bt x0 (wrap64 (x7 - 1)))).bind fun t127 => (spec_Tokens.j2 k x0 x1 x6 x7 (!t127))) else (none)) else (none)) else (spec_Tokens.j2 k x0 x1 x6 x7 false)))) else (none)) else (spec_Tokens.l2 k x1 x6)
def spec_Tokens.j2 : Nat → ByteArray → Int → List ByteArray → Int → Bool → Option (List ByteArray × Bool)
 | 0, _, _, _, _, _ => none
 | k + 1, x0, x1, x6, x7, x43 => if x43 = true then (spec_Tokens.l0 k x0 x1 x6 (wrap64 (x7 + 1))) else (spec_Tokens.l1 k x0 x1 x6 x7 x7)
def spec_Tokens.j4 : Nat → ByteArray → Int → List ByteArray → Int → Int → Option (List ByteArray × Bool)
 | 0, _, _, _, _, _ => none
 | k + 1, x0, x1, x6, x7, x8 => if (x6.length : Int) = x1 then (some (([] : List ByteArray), false)) else (if 0 ≤ x7 then (if x7 ≤ x8 then (if x8 ≤ (x0.size : Int) then ((spec_Fold.f k (x0.extract (x7 : Int).toNat (x8 : Int).toNat)).bind fun t129 => (if t129.toList = ([] : List UInt8) then (if x6.length < 8796093022208 then (spec_Tokens.l0 k x0 x1 (x6 ++ [(⟨#[63]⟩ : ByteArray)]) (wrap64 (x7 + 1))) else (none)) else (if x6.length < 8796093022208 then (spec_Tokens.l0 k x0 x1 (x6 ++ [t129]) (wrap64 (x7 + 1))) else (none)))) else (none)) else (none)) else (none))
def spec_Tokens.l1 : Nat → ByteArray → Int → List ByteArray → Int → Int → Option (List ByteArray × Bool)
 | 0, _, _, _, _, _ => none
 | k + 1, x0, x1, x6, x7, x8 => if x8 < (x0.size : Int) then (if 0 ≤ x8 then ((spec_l01Gap.f (bt x0 x8)).bind fun t128 => (if t128 = true then (spec_Tokens.j4 k x0 x1 x6 x7 x8) else (spec_Tokens.l1 k x0 x1 x6 x7 (wrap64 (x8 + 1))))) else (none)) else (spec_Tokens.j4 k x0 x1 x6 x7 x8)
def spec_Tokens.l2 : Nat → Int → List ByteArray → Option (List ByteArray × Bool)
 | 0, _, _ => none
 | k + 1, x1, x6 => if (x6.length : Int) < x1 then (if x6.length < 8796093022208 then (spec_Tokens.l2 k x1 (x6 ++ [(⟨#[]⟩ : ByteArray)])) else (none)) else (some (x6, true))
end
def spec_Tokens.f (k : Nat) (a0 : ByteArray) (a1 : Int) : Option (List ByteArray × Bool) := if (a0.size : Int) > 2000 then (spec_Tokens.j0 k a0 a1 true) else (if a1 < 1 then (spec_Tokens.j0 k a0 a1 true) else (spec_Tokens.j0 k a0 a1 (decide (a1 > 16))))
theorem spec_Tokens.calls (k : Nat) (a0 : ByteArray) (a1 : Int) (r1 : List ByteArray) (r2 : Bool) (w : World) (h : spec_Tokens.f k a0 a1 = some (r1, r2)) :
  Calls Tryz.prog 100 #[.string a0, .int .i64 a1] w fun e w' => ∃ v0_ : Value, e = .returned (.tuple #[v0_, .bool r2]) ∧ Kd.R Kd.string 9 w' w.heap.size (fun _ => True) v0_ r1 ∧ Below w.heap.size w w' := by
 (have HB := Aside0.mk (Below.refl w.heap.size w)); (have H : (if (a0.size : Int) > 2000 then (spec_Tokens.j0 k a0 a1 true) else (if a1 < 1 then (spec_Tokens.j0 k a0 a1 true) else (spec_Tokens.j0 k a0 a1 (decide (a1 > 16))))) = some (r1, r2) := h); clear h; (have HC3 := Aside0.mk H); clear H
 go_enter Tryz.func100, Tryz.ntmps100
 go_upto_region 1 with (fail)
 go_cut [20] (fun v20 wc => ∃ (kq : Nat) (x20_2 : Bool), v20 = .bool x20_2 ∧ Aside0 (spec_Tokens.j0 kq a0 a1 x20_2 = some (r1, r2)) ∧ Aside0 (kq ≤ k) ∧ Aside0 (Below w.heap.size w wc))
 case first =>
  (have H := HC3.out); clear HC3
  rcases qJ H with ⟨c4, H⟩ | ⟨c4, H⟩
  ·have c4b0 : decide (2000 < (a0.size : Int)) = true := decide_eq_true c4
   (have c4b1 : decide (2000 < a0.size) = true := decide_eq_true (by omega)); clear c4
   (first | rw [c4b0] | (simp only [i64_w, i32_w]; rw [c4b0]) | skip)
   (have H' := Aside0.mk H); clear H
   go_wp2
   go_meet
   case rel => exact ⟨_, (true), qV, H', ⟨by first | omega | exact Nat.le_refl _⟩, ⟨qS0 HB⟩⟩
  ·have c4b0 : decide (2000 < (a0.size : Int)) = false := decide_eq_false c4
   (have c4b1 : decide (2000 < a0.size) = false := decide_eq_false (by omega)); clear c4
   (first | rw [c4b0] | (simp only [i64_w, i32_w]; rw [c4b0]) | skip)
   rcases qI H with ⟨c5b0, H⟩ | ⟨c5b0, H⟩
   ·have H' := Aside0.mk H
    clear H
    go_wp2
    go_meet
    case rel => exact ⟨_, (true), qV, H', ⟨by first | omega | exact Nat.le_refl _⟩, ⟨qS0 HB⟩⟩
   ·have H' := Aside0.mk H
    clear H
    go_wp2
    go_meet
    case rel => exact ⟨_, (decide (a1 > 16)), qV, H', ⟨by first | omega | exact Nat.le_refl _⟩, ⟨qS0 HB⟩⟩
 case rest =>
  clear HC3; (try clear c4b0); (try clear c4b1); (try clear c5b0); (obtain ⟨kq, x20_2, rfl, HA, HJ2, HB⟩ := hcut)
  cases kq with
  | zero => exact absurd HA.out (by simp [spec_Tokens.j0])
  | succ kj2 =>
   (have H := HA.out); clear HA; (simp only [spec_Tokens.j0] at H)
   by_cases c6 : x20_2 = true
   ·subst c6
    (have H1 : (some (([] : List ByteArray), false)) = some (r1, r2) := by rw [if_pos rfl] at H; exact H); clear H; (have H := H1); clear H1; (simp only [Option.some.injEq, Prod.mk.injEq] at H); (obtain ⟨rfl, rfl⟩ := H)
    go_wp2
    go_ret2
    exact ⟨_, qE, by first | exact Kd.R_nil _ _ _ _ _ | exact Kd.N_nil _ _ _ _ _ | exact Kd.V_nil _ _ _ _ _ | exact Kd.Q_nil _ _ _ _ _ | exact Kd.S_nil _ _ _ _ _, qS0 HB⟩
   ·replace c6 := Bool.eq_false_iff.mpr c6
    (subst c6); (have H1 : (spec_Tokens.l0 kj2 a0 a1 (([] : List ByteArray)) 0) = some (r1, r2) := by rw [if_neg (show ¬ (false = true) by decide)] at H; exact H); clear H; (have H := H1); clear H1; (obtain ⟨y123, hy123⟩ : ∃ y_ : List ByteArray, y_ = (([] : List ByteArray)) := ⟨_, rfl⟩); (replace H : (spec_Tokens.l0 kj2 a0 a1 y123 0) = some (r1, r2) := qY hy123 H); (have Ny123 := Aside0.mk hy123); clear hy123; (have H' := Aside0.mk H); clear H
    go_wp2_with (first | ((with_reducible refine gate_dst (N := 21) rfl ?_); refine Kd.R_lit Kd.string _ 9 ?hg (N := 21) ?hd (xs := ([] : List ByteArray)) (inner := []) (ok := fun _ => True) (okp := fun _ => True) ?hr ?hp (fun _ hk => hk) trivial (Below.refl _ _) (Nat.le_refl _) (by simp) ?_; (case hd => rfl); (case hg => rfl); (case hr => first | (go_simp; done) | (go_simp; rfl)); (case hp => exact (Reps.none _ _)); intro v124 w7 ho8 hb hg_ hnew_; clear hg_ hnew_; (first | rw [← Ny123.out] at ho8 | (simp only [Int.reduceToNat] at ho8; rw [← Ny123.out] at ho8)); have HO125 := Aside0.mk (Kd.R_lower ho8 (below_size (qS0 HB))); replace HB := Aside0.mk (below_step (qS0 HB) hb); clear hb ho8))
    go_loopg [6, 7] kj2 (fun kq v6 v7 w' => ∃ (x6_2 : List ByteArray) (x7_2 : Int), v7 = .int .i64 x7_2 ∧ Aside0 (spec_Tokens.l0 kq a0 a1 x6_2 x7_2 = some (r1, r2)) ∧ Aside0 (kq ≤ kj2) ∧ Aside0 (Kd.R Kd.string 9 w' w.heap.size (fun _ => True) v6 x6_2) ∧ Aside0 (Below w.heap.size w w'))
    case atStart => exact ⟨(y123), (0), qV, H', ⟨Nat.le_refl _⟩, ⟨qR HO125⟩, ⟨qS0 HB⟩⟩
    case round =>
     clear H'; (try clear c6); (obtain ⟨x6_2, x7_2, rfl, HA, HK2, HO_6, HB⟩ := hrel)
     cases gk with
     | zero => exact absurd HA.out (by simp [spec_Tokens.l0])
     | succ k2 =>
      (have H := HA.out); clear HA; (simp only [spec_Tokens.l0] at H)
      rcases qI H with ⟨c9b0, H⟩ | ⟨c9b0, H⟩
      ·have HC10 := Aside0.mk H
       clear H
       go_upto_region 7 with (fail)
       go_cut [43] (fun v43 wc => ∃ (kq : Nat) (x43_9 : Bool), v43 = .bool x43_9 ∧ Aside0 (spec_Tokens.j2 kq a0 a1 x6_2 x7_2 x43_9 = some (r1, r2)) ∧ Aside0 (kq ≤ k2) ∧ Aside0 (Kd.R Kd.string 9 wc w.heap.size (fun _ => True) u6 x6_2) ∧ Aside0 (Below w.heap.size w wc))
       case first =>
        (have H := HC10.out); clear HC10; (obtain ⟨c11b0, H⟩ := qT H)
        (first | rw [c11b0] | (simp only [i64_w, i32_w]; rw [c11b0]) | skip)
        obtain ⟨t126, A13, H⟩ := qX H
        try dsimp only at H
        by_cases c14 : t126 = true
        ·subst c14
         (have H1 : (spec_Tokens.j2 k2 a0 a1 x6_2 x7_2 true) = some (r1, r2) := by rw [if_pos rfl] at H; exact H); clear H; (have H := H1); clear H1; (have H' := Aside0.mk H); clear H; (have p12 : 0 ≤ (x7_2 : Int) := qO); (have q12 : x7_2 < (a0.size : Int) := qO); (have hx12 := bt_at a0 x7_2); (replace p12 := eq_true p12); (replace q12 := eq_true q12)
         go_wp2_with (first | ((with_reducible refine gate_callee (f := 118) rfl ?_); refine goesL_ (some 31) rfl rfl Tryz.func118 (by kernel_rfl) rfl #[.int .u8 (bt a0 x7_2)] rfl qL ?_; (with_reducible refine (spec_l01Gap.calls (bt a0 x7_2) true _ A13.out).mono ?_); rintro e w' ⟨rfl, ⟨nd, rfl⟩⟩; refine ⟨_, rfl, ?_⟩))
         go_meet
         case rel => exact ⟨_, (true), qV, H', ⟨by have := HJ2.out; have := HK2.out; first | omega | exact Nat.le_refl _⟩, ⟨qR HO_6⟩, ⟨qS0 HB⟩⟩
        ·replace c14 := Bool.eq_false_iff.mpr c14
         (subst c14); (have H1 : (if x7_2 > 0 then (if 0 ≤ (wrap64 (x7_2 - 1)) then (if (wrap64 (x7_2 - 1)) < (a0.size : Int) then ((spec_l01Gap.f (bt a0 (wrap64 (x7_2 - 1)))).bind fun t127 => (spec_Tokens.j2 k2 a0 a1 x6_2 x7_2 (!t127))) else (none)) else (none)) else (spec_Tokens.j2 k2 a0 a1 x6_2 x7_2 false)) = some (r1, r2) := by rw [if_neg (show ¬ (false = true) by decide)] at H; exact H); clear H; (have H := H1); clear H1
         rcases qI H with ⟨(c15b0 : decide (0 < x7_2) = true), H⟩ | ⟨(c15b0 : decide (0 < x7_2) = false), H⟩
         ·obtain ⟨ji16, hji16⟩ : ∃ j_ : Int, (wrap64 (x7_2 - 1)) = j_ := ⟨_, rfl⟩
          (replace H : (if 0 ≤ (ji16) then (if (ji16) < (a0.size : Int) then ((spec_l01Gap.f (bt a0 (ji16))).bind fun t127 => (spec_Tokens.j2 k2 a0 a1 x6_2 x7_2 (!t127))) else (none)) else (none)) = some (r1, r2) := by first | (rw [hji16] at H; exact H) | (simp only [hji16] at H ⊢; exact H)); (try rw [hji16] at A13); (have hji16w : (IntKind.i64.wrap (x7_2 - 1)) = ji16 := (i64_w _).trans hji16); (obtain ⟨c17b0, H⟩ := qT H); (obtain ⟨c18b0, H⟩ := qT H); (obtain ⟨t127, A20, H⟩ := qX H); (replace H : (spec_Tokens.j2 k2 a0 a1 x6_2 x7_2 (!t127)) = some (r1, r2) := H); (have H' := Aside0.mk H); clear H; (have p12 : 0 ≤ (x7_2 : Int) := qO); (have q12 : x7_2 < (a0.size : Int) := qO); (have hx12 := bt_at a0 x7_2); (replace p12 := eq_true p12); (replace q12 := eq_true q12)
          go_wp2_with (first | ((with_reducible refine gate_callee (f := 118) rfl ?_); refine goesL_ (some 31) rfl rfl Tryz.func118 (by kernel_rfl) rfl #[.int .u8 (bt a0 x7_2)] rfl qL ?_; (with_reducible refine (spec_l01Gap.calls (bt a0 x7_2) false _ A13.out).mono ?_); rintro e w' ⟨rfl, ⟨nd, rfl⟩⟩; refine ⟨_, rfl, ?_⟩; have p19 : 0 ≤ ((ji16) : Int) := qO; have q19 : (ji16) < (a0.size : Int) := qO; have hx19 := bt_at a0 (ji16); replace p19 := eq_true p19; replace q19 := eq_true q19) | (go_at_call 118; (with_reducible refine (spec_l01Gap.calls (bt a0 (ji16)) t127 _ A20.out).mono ?_); rintro e w' ⟨rfl, ⟨nd, rfl⟩⟩))
          go_meet
          case rel => exact ⟨_, (!t127), qV, H', ⟨by have := HJ2.out; have := HK2.out; first | omega | exact Nat.le_refl _⟩, ⟨qR HO_6⟩, ⟨qS0 HB⟩⟩
         ·have H' := Aside0.mk H
          clear H; (have p12 : 0 ≤ (x7_2 : Int) := qO); (have q12 : x7_2 < (a0.size : Int) := qO); (have hx12 := bt_at a0 x7_2); (replace p12 := eq_true p12); (replace q12 := eq_true q12)
          go_wp2_with (first | ((with_reducible refine gate_callee (f := 118) rfl ?_); refine goesL_ (some 31) rfl rfl Tryz.func118 (by kernel_rfl) rfl #[.int .u8 (bt a0 x7_2)] rfl qL ?_; (with_reducible refine (spec_l01Gap.calls (bt a0 x7_2) false _ A13.out).mono ?_); rintro e w' ⟨rfl, ⟨nd, rfl⟩⟩; refine ⟨_, rfl, ?_⟩))
          go_meet
          case rel => exact ⟨_, (false), qV, H', ⟨by have := HJ2.out; have := HK2.out; first | omega | exact Nat.le_refl _⟩, ⟨qR HO_6⟩, ⟨qS0 HB⟩⟩
       case rest =>
        clear HC10; (try clear hx1); (try clear c9b0); (try clear c11b0); (try clear p12); (try clear q12); (try clear hx12); (try clear c14); (try clear c15b0); (try clear c17b0); (try clear c18b0); (try clear p19); (try clear q19); (try clear hx19); (obtain ⟨kq, x43_9, rfl, HA, HJ9, HO_6, HB⟩ := hcut)
        cases kq with
        | zero => exact absurd HA.out (by simp [spec_Tokens.j2])
        | succ kj9 =>
         (have H := HA.out); clear HA; (simp only [spec_Tokens.j2] at H)
         by_cases c21 : x43_9 = true
         ·subst c21
          (have H1 : (spec_Tokens.l0 kj9 a0 a1 x6_2 (wrap64 (x7_2 + 1))) = some (r1, r2) := by rw [if_pos rfl] at H; exact H); clear H; (have H := H1); clear H1; (have H' := Aside0.mk H); clear H
          go_wp2
          go_roundg kj9
          case measure => have := HJ2.out; have := HK2.out; have := HJ9.out; omega
          case rel => exact ⟨(x6_2), (wrap64 (x7_2 + 1)), qV, H', ⟨by have := HJ2.out; have := HK2.out; have := HJ9.out; omega⟩, ⟨qR HO_6⟩, ⟨qS0 HB⟩⟩
         ·replace c21 := Bool.eq_false_iff.mpr c21
          (subst c21); (have H1 : (spec_Tokens.l1 kj9 a0 a1 x6_2 x7_2 x7_2) = some (r1, r2) := by rw [if_neg (show ¬ (false = true) by decide)] at H; exact H); clear H; (have H := H1); clear H1; (have HC22 := Aside0.mk H); clear H
          go_upto_block 2 with (fail)
          go_cut [8] (fun v8 wc => ∃ (kq : Nat) (x8_21 : Int), v8 = .int .i64 x8_21 ∧ Aside0 (spec_Tokens.j4 kq a0 a1 x6_2 x7_2 x8_21 = some (r1, r2)) ∧ Aside0 (kq ≤ kj9) ∧ Aside0 (Kd.R Kd.string 9 wc w.heap.size (fun _ => True) u6 x6_2) ∧ Aside0 (Below w.heap.size w wc))
          case first =>
           (have H := HC22.out); clear HC22; (have H' := Aside0.mk H); clear H
           go_wp2
           go_loopg [8] kj9 (fun kq v8 w' => ∃ (x8_4 : Int), v8 = .int .i64 x8_4 ∧ Aside0 (spec_Tokens.l1 kq a0 a1 x6_2 x7_2 x8_4 = some (r1, r2)) ∧ Aside0 (kq ≤ kj9) ∧ Aside0 (Kd.R Kd.string 9 w' w.heap.size (fun _ => True) u6 x6_2) ∧ Aside0 (Below w.heap.size w w'))
           case atStart => exact ⟨(x7_2), qV, H', ⟨Nat.le_refl _⟩, ⟨qR HO_6⟩, ⟨qS0 HB⟩⟩
           case round =>
            clear H'; (try clear c21); (obtain ⟨x8_4, rfl, HA, HK4, HO_6, HB⟩ := hrel)
            cases gk with
            | zero => exact absurd HA.out (by simp [spec_Tokens.l1])
            | succ k4 =>
             (have H := HA.out); clear HA; (simp only [spec_Tokens.l1] at H)
             rcases qI H with ⟨c23b0, H⟩ | ⟨c23b0, H⟩
             ·(first | rw [c23b0] | (simp only [i64_w, i32_w]; rw [c23b0]) | skip)
              (obtain ⟨c24b0, H⟩ := qT H); (obtain ⟨t128, A26, H⟩ := qX H)
              try dsimp only at H
              by_cases c27 : t128 = true
              ·subst c27
               (have H1 : (spec_Tokens.j4 k4 a0 a1 x6_2 x7_2 x8_4) = some (r1, r2) := by rw [if_pos rfl] at H; exact H); clear H; (have H := H1); clear H1; (have H' := Aside0.mk H); clear H; (have p25 : 0 ≤ (x8_4 : Int) := qO); (have q25 : x8_4 < (a0.size : Int) := qO); (have hx25 := bt_at a0 x8_4); (replace p25 := eq_true p25); (replace q25 := eq_true q25)
               go_wp2_with (first | (go_at_call 118; (with_reducible refine (spec_l01Gap.calls (bt a0 x8_4) true _ A26.out).mono ?_); rintro e w' ⟨rfl, ⟨nd, rfl⟩⟩))
               go_meet
               case rel => exact ⟨_, (x8_4), qV, H', ⟨by have := HJ2.out; have := HK2.out; have := HJ9.out; have := HK4.out; first | omega | exact Nat.le_refl _⟩, ⟨qR HO_6⟩, ⟨qS0 HB⟩⟩
              ·replace c27 := Bool.eq_false_iff.mpr c27
               (subst c27); (have H1 : (spec_Tokens.l1 k4 a0 a1 x6_2 x7_2 (wrap64 (x8_4 + 1))) = some (r1, r2) := by rw [if_neg (show ¬ (false = true) by decide)] at H; exact H); clear H; (have H := H1); clear H1; (have H' := Aside0.mk H); clear H; (have p25 : 0 ≤ (x8_4 : Int) := qO); (have q25 : x8_4 < (a0.size : Int) := qO); (have hx25 := bt_at a0 x8_4); (replace p25 := eq_true p25); (replace q25 := eq_true q25)
               go_wp2_with (first | (go_at_call 118; (with_reducible refine (spec_l01Gap.calls (bt a0 x8_4) false _ A26.out).mono ?_); rintro e w' ⟨rfl, ⟨nd, rfl⟩⟩))
               go_roundg k4
               case measure => have := HJ2.out; have := HK2.out; have := HJ9.out; have := HK4.out; omega
               case rel => exact ⟨(wrap64 (x8_4 + 1)), qV, H', ⟨by have := HJ2.out; have := HK2.out; have := HJ9.out; have := HK4.out; omega⟩, ⟨qR HO_6⟩, ⟨qS0 HB⟩⟩
             ·(first | rw [c23b0] | (simp only [i64_w, i32_w]; rw [c23b0]) | skip)
              (have H' := Aside0.mk H); clear H
              go_wp2
              go_meet
              case rel => exact ⟨_, (x8_4), qV, H', ⟨by have := HJ2.out; have := HK2.out; have := HJ9.out; have := HK4.out; first | omega | exact Nat.le_refl _⟩, ⟨qR HO_6⟩, ⟨qS0 HB⟩⟩
          case rest =>
           clear HC22; (try clear hx2); (try clear c23b0); (try clear c24b0); (try clear p25); (try clear q25); (try clear hx25); (try clear c27); (obtain ⟨kq, x8_21, rfl, HA, HJ21, HO_6, HB⟩ := hcut)
           cases kq with
           | zero => exact absurd HA.out (by simp [spec_Tokens.j4])
           | succ kj21 =>
            (have H := HA.out); clear HA; (simp only [spec_Tokens.j4] at H)
            rcases qJ H with ⟨c28, H⟩ | ⟨c28, H⟩
            ·have c28b0 : ((x6_2.length : Int) == a1) = true := beq_iff_eq.mpr c28
             (have c28b1 : ((x6_2.length : Int) != a1) = false := bne_eq_false_iff_eq.mpr c28); clear c28; (simp only [Option.some.injEq, Prod.mk.injEq] at H); (obtain ⟨rfl, rfl⟩ := H); (obtain ⟨Ao29, co29, eo29⟩ := Kd.R_slice HO_6.out); (subst eo29)
             go_wp2
             go_ret2
             exact ⟨_, qE, by first | exact Kd.R_nil _ _ _ _ _ | exact Kd.N_nil _ _ _ _ _ | exact Kd.V_nil _ _ _ _ _ | exact Kd.Q_nil _ _ _ _ _ | exact Kd.S_nil _ _ _ _ _, qS0 HB⟩
            ·have c28b0 : ((x6_2.length : Int) == a1) = false := beq_eq_false_iff_ne.mpr c28
             (have c28b1 : ((x6_2.length : Int) != a1) = true := bne_iff_ne.mpr c28); (obtain ⟨c30b0, c30b1, H⟩ := qT2 H); (obtain ⟨c31b0, c31b1, H⟩ := qT2 H); (obtain ⟨c32b0, c32b1, H⟩ := qT2 H); (obtain ⟨t129, A33, H⟩ := qX H)
             try dsimp only at H
             rcases qJ H with ⟨c34, H⟩ | ⟨c34, H⟩
             ·have c34b0 : (t129.toList == ([] : List UInt8)) = true := beq_iff_eq.mpr c34
              (have c34b1 : (t129.toList != ([] : List UInt8)) = false := bne_eq_false_iff_eq.mpr c34); clear c34; (obtain ⟨c35, H⟩ := qU H); (have LMc35 := Aside0.mk c35); clear c35; (obtain ⟨y130, hy130⟩ : ∃ y_ : List ByteArray, y_ = (x6_2 ++ [(⟨#[63]⟩ : ByteArray)]) := ⟨_, rfl⟩); (replace H : (spec_Tokens.l0 kj21 a0 a1 y130 (wrap64 (x7_2 + 1))) = some (r1, r2) := qY hy130 H); (have Ny130 := Aside0.mk hy130); clear hy130; (have H' := Aside0.mk H); clear H; (obtain ⟨Ao36, co36, eo36⟩ := Kd.R_slice HO_6.out); (subst eo36)
              go_wp2_with (first | ((with_reducible refine gate_callee (f := 98) rfl ?_); refine goesL_ (some 66) rfl rfl Tryz.func98 (by kernel_rfl) rfl #[.string (a0.extract (x7_2 : Int).toNat (x8_21 : Int).toNat)] rfl qL ?_; (with_reducible refine (spec_Fold.calls kj21 (a0.extract (x7_2 : Int).toNat (x8_21 : Int).toNat) t129 _ A33.out).mono ?_); rintro e w37 ⟨rfl, hb⟩; refine ⟨_, rfl, ?_⟩; replace HO_6 := Aside0.mk (Kd.R_below (qR HO_6) hb); replace HB := Aside0.mk (below_step (qS0 HB) hb); (try clear hb); (try clear hb2); (try clear hk); (try clear hi)) | ((with_reducible refine gate_builtin (b := .append) (xs := #[.tmp 69, .tmp 71]) rfl ?_); at_builtin; refine Kd.R_append Kd.string (w0 := w) w.heap.size rfl (.tmp 69) (.tmp 71) 80 9 (.string ⟨#[]⟩) 16 rfl Tryz.underlying80 info9 rfl (by decide) (by omega) (.slice Ao36 x6_2.length co36) x6_2 (⟨#[63]⟩ : ByteArray) [.string (⟨#[63]⟩ : ByteArray)] (fun _ => True) (fun _ => False) rfl rfl ?aP (fun _ hk => hk.elim) ?aF ?aO ?aB ?aS ?aL ?_; (case aP => exact rfl); (case aB => exact (qS0 HB)); (case aF => exact (fun _ _ => trivial)); (case aO => exact (qR HO_6)); (case aS => exact (below_size (qS0 HB))); (case aL => have := LMc35.out; omega); intro v131 w38 ho hb hg hat; rw [← Ny130.out] at ho; replace HB := Aside0.mk (hb); have HO132 := Aside0.mk (ho); clear HO_6; clear ho hb hg hat))
              go_roundg kj21
              case measure => have := HJ2.out; have := HK2.out; have := HJ9.out; have := HJ21.out; omega
              case rel => exact ⟨(y130), (wrap64 (x7_2 + 1)), qV, H', ⟨by have := HJ2.out; have := HK2.out; have := HJ9.out; have := HJ21.out; omega⟩, ⟨qR HO132⟩, ⟨qS0 HB⟩⟩
             ·have c34b0 : (t129.toList == ([] : List UInt8)) = false := beq_eq_false_iff_ne.mpr c34
              (have c34b1 : (t129.toList != ([] : List UInt8)) = true := bne_iff_ne.mpr c34); (obtain ⟨c39, H⟩ := qU H); (have LMc39 := Aside0.mk c39); clear c39; (obtain ⟨y133, hy133⟩ : ∃ y_ : List ByteArray, y_ = (x6_2 ++ [t129]) := ⟨_, rfl⟩); (replace H : (spec_Tokens.l0 kj21 a0 a1 y133 (wrap64 (x7_2 + 1))) = some (r1, r2) := qY hy133 H); (have Ny133 := Aside0.mk hy133); clear hy133; (have H' := Aside0.mk H); clear H; (obtain ⟨Ao40, co40, eo40⟩ := Kd.R_slice HO_6.out); (subst eo40)
              go_wp2_with (first | ((with_reducible refine gate_callee (f := 98) rfl ?_); refine goesL_ (some 66) rfl rfl Tryz.func98 (by kernel_rfl) rfl #[.string (a0.extract (x7_2 : Int).toNat (x8_21 : Int).toNat)] rfl qL ?_; (with_reducible refine (spec_Fold.calls kj21 (a0.extract (x7_2 : Int).toNat (x8_21 : Int).toNat) t129 _ A33.out).mono ?_); rintro e w41 ⟨rfl, hb⟩; refine ⟨_, rfl, ?_⟩; replace HO_6 := Aside0.mk (Kd.R_below (qR HO_6) hb); replace HB := Aside0.mk (below_step (qS0 HB) hb); (try clear hb); (try clear hb2); (try clear hk); (try clear hi)) | ((with_reducible refine gate_builtin (b := .append) (xs := #[.tmp 69, .tmp 71]) rfl ?_); at_builtin; refine Kd.R_append Kd.string (w0 := w) w.heap.size rfl (.tmp 69) (.tmp 71) 80 9 (.string ⟨#[]⟩) 16 rfl Tryz.underlying80 info9 rfl (by decide) (by omega) (.slice Ao40 x6_2.length co40) x6_2 t129 [.string t129] (fun _ => True) (fun _ => False) rfl rfl ?aP (fun _ hk => hk.elim) ?aF ?aO ?aB ?aS ?aL ?_; (case aP => exact rfl); (case aB => exact (qS0 HB)); (case aF => exact (fun _ _ => trivial)); (case aO => exact (qR HO_6)); (case aS => exact (below_size (qS0 HB))); (case aL => have := LMc39.out; omega); intro v134 w42 ho hb hg hat; rw [← Ny133.out] at ho; replace HB := Aside0.mk (hb); have HO135 := Aside0.mk (ho); clear HO_6; clear ho hb hg hat))
              go_roundg kj21
              case measure => have := HJ2.out; have := HK2.out; have := HJ9.out; have := HJ21.out; omega
              case rel => exact ⟨(y133), (wrap64 (x7_2 + 1)), qV, H', ⟨by have := HJ2.out; have := HK2.out; have := HJ9.out; have := HJ21.out; omega⟩, ⟨qR HO135⟩, ⟨qS0 HB⟩⟩
      ·have H' := Aside0.mk H
       clear H
       go_wp2
       go_loopg [6] k2 (fun kq v6 w' => ∃ (x6_3 : List ByteArray), Aside0 (spec_Tokens.l2 kq a1 x6_3 = some (r1, r2)) ∧ Aside0 (kq ≤ k2) ∧ Aside0 (Kd.R Kd.string 9 w' w.heap.size (fun _ => True) v6 x6_3) ∧ Aside0 (Below w.heap.size w w'))
       case atStart => exact ⟨(x6_2), H', ⟨Nat.le_refl _⟩, ⟨qR HO_6⟩, ⟨qS0 HB⟩⟩
       case round =>
        clear H'; (try clear c28b0); (try clear c28b1); (try clear c30b0); (try clear c30b1); (try clear c31b0); (try clear c31b1); (try clear c32b0); (try clear c32b1); (try clear c34b0); (try clear c34b1); (obtain ⟨x6_3, HA, HK3, HO_6, HB⟩ := hrel)
        cases gk with
        | zero => exact absurd HA.out (by simp [spec_Tokens.l2])
        | succ k3 =>
         (have H := HA.out); clear HA; (simp only [spec_Tokens.l2] at H)
         rcases qI H with ⟨c43b0, H⟩ | ⟨c43b0, H⟩
         ·obtain ⟨c44, H⟩ := qU H
          (have LMc44 := Aside0.mk c44); clear c44; (obtain ⟨y136, hy136⟩ : ∃ y_ : List ByteArray, y_ = (x6_3 ++ [(⟨#[]⟩ : ByteArray)]) := ⟨_, rfl⟩); (replace H : (spec_Tokens.l2 k3 a1 y136) = some (r1, r2) := qY hy136 H); (have Ny136 := Aside0.mk hy136); clear hy136; (have H' := Aside0.mk H); clear H; (obtain ⟨Ao45, co45, eo45⟩ := Kd.R_slice HO_6.out); (subst eo45)
          go_wp2_with (first | ((with_reducible refine gate_builtin (b := .append) (xs := #[.tmp 77, .tmp 78]) rfl ?_); at_builtin; refine Kd.R_append Kd.string (w0 := w) w.heap.size rfl (.tmp 77) (.tmp 78) 80 9 (.string ⟨#[]⟩) 16 rfl Tryz.underlying80 info9 rfl (by decide) (by omega) (.slice Ao45 x6_3.length co45) x6_3 (⟨#[]⟩ : ByteArray) [.string (⟨#[]⟩ : ByteArray)] (fun _ => True) (fun _ => False) rfl rfl ?aP (fun _ hk => hk.elim) ?aF ?aO ?aB ?aS ?aL ?_; (case aP => exact rfl); (case aB => exact (qS0 HB)); (case aF => exact (fun _ _ => trivial)); (case aO => exact (qR HO_6)); (case aS => exact (below_size (qS0 HB))); (case aL => have := LMc44.out; omega); intro v137 w46 ho hb hg hat; rw [← Ny136.out] at ho; replace HB := Aside0.mk (hb); have HO138 := Aside0.mk (ho); clear HO_6; clear ho hb hg hat))
          go_roundg k3
          case measure => have := HJ2.out; have := HK2.out; have := HK3.out; omega
          case rel => exact ⟨(y136), H', ⟨by have := HJ2.out; have := HK2.out; have := HK3.out; omega⟩, ⟨qR HO138⟩, ⟨qS0 HB⟩⟩
         ·simp only [Option.some.injEq, Prod.mk.injEq] at H
          (obtain ⟨rfl, rfl⟩ := H); (obtain ⟨Ao47, co47, eo47⟩ := Kd.R_slice HO_6.out); (subst eo47)
          go_wp2
          go_ret2
          exact ⟨_, qE, qR HO_6, qS0 HB⟩
end Go.Proofs.YtppopmajclmhjaaGreatDoor.QB
