/- Part of the proof of the law FnTextsBack: what it uses of the texts that this session and the kit's print wrote. -/
import Derived.Test.YtgnbfmoifnfneaaDoorZFnTextsBackx5
import Derived.Test.YtgnbfmoifnfneaaDoorZFnTextsBackx6
import Derived.Test.YtgnbfmoifnfneaaDoorZFnTextsBackx7
namespace Go.Proofs.YtgnbfmoifnfneaaDoor.QA
open Go.RowKit Go.Proofs.YtgnbfmoifnfneaaDoorW.PrintWords Go.Proofs.YtgnbfmoifnfneaaDoorW.PrintLast Go.Proofs.YtgnbfmoifnfneaaDoorW.PrintMore
attribute [local go_sem] max2_int min2_int max_two min_two max_three min_three max_four min_four
set_option linter.unusedVariables false
set_option linter.unusedSimpArgs false
set_option maxHeartbeats 8000000
set_option maxRecDepth 100000
def impl_ReqRead.f (k : Nat) (a0 : ByteArray) : Option (Int × ByteArray × Int × Int × Int × Int × ByteArray × Bool) := (impl_readReq.f a0).bind fun bt161 => (if a0.toList = ([] : List UInt8) then (some (0, (⟨#[]⟩ : ByteArray), 0, 0, 0, 0, (⟨#[]⟩ : ByteArray), false)) else ((impl_reqText.f k bt161.1 bt161.2.1 bt161.2.2.1 bt161.2.2.2.1 bt161.2.2.2.2.1 bt161.2.2.2.2.2.1 bt161.2.2.2.2.2.2).bind fun t169 => (if t169.toList = a0.toList then (some (bt161.1, bt161.2.1, bt161.2.2.1, bt161.2.2.2.1, bt161.2.2.2.2.1, bt161.2.2.2.2.2.1, bt161.2.2.2.2.2.2, true)) else (some (0, (⟨#[]⟩ : ByteArray), 0, 0, 0, 0, (⟨#[]⟩ : ByteArray), false)))))
theorem impl_ReqRead.calls (k : Nat) (a0 : ByteArray) (r1 : Int) (r2 : ByteArray) (r3 : Int) (r4 : Int) (r5 : Int) (r6 : Int) (r7 : ByteArray) (r8 : Bool) (w : World) (h : impl_ReqRead.f k a0 = some (r1, r2, r3, r4, r5, r6, r7, r8)) (hG : TabG w) :
  Calls Tryd.prog 6 #[.string a0] w fun e w' => e = .returned (.tuple #[.agg #[.int .i64 r1, .string r2, .int .i64 r3, .int .i64 r4, .int .i64 r5, .int .i64 r6, .string r7], .bool r8]) ∧ Below w.heap.size w w' := by
 (have hu23 := Tryd.underlying23); (have HB := Aside0.mk (Below.refl w.heap.size w)); (have H : ((impl_readReq.f a0).bind fun bt161 => (if a0.toList = ([] : List UInt8) then (some (0, (⟨#[]⟩ : ByteArray), 0, 0, 0, 0, (⟨#[]⟩ : ByteArray), false)) else ((impl_reqText.f k bt161.1 bt161.2.1 bt161.2.2.1 bt161.2.2.2.1 bt161.2.2.2.2.1 bt161.2.2.2.2.2.1 bt161.2.2.2.2.2.2).bind fun t169 => (if t169.toList = a0.toList then (some (bt161.1, bt161.2.1, bt161.2.2.1, bt161.2.2.2.1, bt161.2.2.2.2.1, bt161.2.2.2.2.2.1, bt161.2.2.2.2.2.2, true)) else (some (0, (⟨#[]⟩ : ByteArray), 0, 0, 0, 0, (⟨#[]⟩ : ByteArray), false)))))) = some (r1, r2, r3, r4, r5, r6, r7, r8) := h); clear h; (obtain ⟨⟨t161, t162, t163, t164, t165, t166, t167⟩, A2, H⟩ := qX H)
 try dsimp only at H
 rcases qJ H with ⟨c3, H⟩ | ⟨c3, H⟩
 ·have c3b0 : (a0.toList == ([] : List UInt8)) = true := beq_iff_eq.mpr c3
  (have c3b1 : (a0.toList != ([] : List UInt8)) = false := bne_eq_false_iff_eq.mpr c3); clear c3; (simp only [Option.some.injEq, Prod.mk.injEq] at H); (obtain ⟨rfl, rfl, rfl, rfl, rfl, rfl, rfl, rfl⟩ := H)
  go_enter Tryd.func6, Tryd.ntmps6
  go_wp2_with (first | ((with_reducible refine gate_dst (N := 2) rfl ?_); refine box_event ?hg (N := 2) ?hd (cs := #[.int .i64 0, .string (⟨#[]⟩ : ByteArray), .int .i64 0, .int .i64 0, .int .i64 0, .int .i64 0, .string (⟨#[]⟩ : ByteArray)]) (t := 23) ?hr ?_; (case hd => rfl); (case hg => rfl); (case hr => first | (go_simp; done) | (go_simp; rfl)); intro gb160 hg w4 hbox hb; have BK160 := Aside0.mk (hbox); have GW160 := qG hg (below_size (qS0 HB)); have GE160 := qG hg (below_size (qS0 HB)); replace HB := Aside0.mk (below_step (qS0 HB) hb); clear hb hbox hg) | ((with_reducible refine gate_callee (f := 18) rfl ?_); refine goesL_ (some 6) rfl rfl Tryd.func18 (by kernel_rfl) rfl #[.string a0] rfl qL ?_; (with_reducible refine (impl_readReq.calls a0 t161 t162 t163 t164 t165 t166 t167 _ A2.out (G_below (qS1 HB GE160) hG)).mono ?_); rintro e w5 ⟨rfl, hb⟩; refine ⟨_, rfl, ?_⟩; replace BK160 := qD BK160 hb; replace HB := Aside0.mk (below_step (qS1 HB GE160) hb); (try clear hb); (try clear hb2); (try clear hk); (try clear hi)) | ((with_reducible refine gate_dst (N := 4) rfl ?_); refine box_event ?hg (N := 4) ?hd (cs := #[.int .i64 0, .string (⟨#[]⟩ : ByteArray), .int .i64 0, .int .i64 0, .int .i64 0, .int .i64 0, .string (⟨#[]⟩ : ByteArray)]) (t := 23) ?hr ?_; (case hd => rfl); (case hg => rfl); (case hr => first | (go_simp; done) | (go_simp; rfl)); intro gb168 hg w6 hbox hb; have BK168 := Aside0.mk (hbox); have GW168 := qG hg (below_size (qS1 HB GE160)); have GE168 := qG hg (below_size (qS1 HB GE160)); replace HB := Aside0.mk (below_step (qS1 HB GE160) hb); have NB160_168 := qN hg (blk_lt (qB BK160)); have NB168_160 := qM hg (blk_lt (qB BK160)); replace BK160 := qD BK160 hb; clear hb hbox hg; have hnb7 := NB168_160.out; have hnc7 := NB160_168.out; obtain ⟨hcz8_0, hcz8_1, hcz8_2, hcz8_3, hcz8_4, hcz8_5, hcz8_6, hfz8_0, hfz8_1, hfz8_2, hfz8_3, hfz8_4, hfz8_5, hfz8_6⟩ := qC7 BK168; obtain ⟨hcz9_0, hcz9_1, hcz9_2, hcz9_3, hcz9_4, hcz9_5, hcz9_6, hfz9_0, hfz9_1, hfz9_2, hfz9_3, hfz9_4, hfz9_5, hfz9_6⟩ := qC7 BK160))
  refine bodyPost_ret (results_ct rfl _ _ gb160 23 #[.int .i64 0, .string (⟨#[]⟩ : ByteArray), .int .i64 0, .int .i64 0, .int .i64 0, .int .i64 0, .string (⟨#[]⟩ : ByteArray)] (0, 0) _ rfl (by (with_reducible repeat (first | refine blk_drewN ?_ _ | refine blk_drew ?_ | refine blk_alloc ?_ _)); refine blk_put (cs := #[.int .i64 0, .string (⟨#[]⟩ : ByteArray), .int .i64 0, .int .i64 0, .int .i64 0, .int .i64 0, .string (⟨#[]⟩ : ByteArray)]) ?_ 6 _ rfl; (with_reducible repeat (first | refine blk_drewN ?_ _ | refine blk_drew ?_ | refine blk_alloc ?_ _)); refine blk_put (cs := #[.int .i64 0, .string (⟨#[]⟩ : ByteArray), .int .i64 0, .int .i64 0, .int .i64 0, .int .i64 0, .string (⟨#[]⟩ : ByteArray)]) ?_ 5 _ rfl; (with_reducible repeat (first | refine blk_drewN ?_ _ | refine blk_drew ?_ | refine blk_alloc ?_ _)); refine blk_put (cs := #[.int .i64 0, .string (⟨#[]⟩ : ByteArray), .int .i64 0, .int .i64 0, .int .i64 0, .int .i64 0, .string (⟨#[]⟩ : ByteArray)]) ?_ 4 _ rfl; (with_reducible repeat (first | refine blk_drewN ?_ _ | refine blk_drew ?_ | refine blk_alloc ?_ _)); refine blk_put (cs := #[.int .i64 0, .string (⟨#[]⟩ : ByteArray), .int .i64 0, .int .i64 0, .int .i64 0, .int .i64 0, .string (⟨#[]⟩ : ByteArray)]) ?_ 3 _ rfl; (with_reducible repeat (first | refine blk_drewN ?_ _ | refine blk_drew ?_ | refine blk_alloc ?_ _)); refine blk_put (cs := #[.int .i64 0, .string (⟨#[]⟩ : ByteArray), .int .i64 0, .int .i64 0, .int .i64 0, .int .i64 0, .string (⟨#[]⟩ : ByteArray)]) ?_ 2 _ rfl; (with_reducible repeat (first | refine blk_drewN ?_ _ | refine blk_drew ?_ | refine blk_alloc ?_ _)); refine blk_put (cs := #[.int .i64 0, .string (⟨#[]⟩ : ByteArray), .int .i64 0, .int .i64 0, .int .i64 0, .int .i64 0, .string (⟨#[]⟩ : ByteArray)]) ?_ 1 _ rfl; (with_reducible repeat (first | refine blk_drewN ?_ _ | refine blk_drew ?_ | refine blk_alloc ?_ _)); refine blk_put (cs := #[.int .i64 0, .string (⟨#[]⟩ : ByteArray), .int .i64 0, .int .i64 0, .int .i64 0, .int .i64 0, .string (⟨#[]⟩ : ByteArray)]) ?_ 0 _ rfl; (with_reducible repeat (first | refine blk_drewN ?_ _ | refine blk_drew ?_ | refine blk_alloc ?_ _)); refine blk_far ?_ NB160_168.out _; (with_reducible repeat (first | refine blk_drewN ?_ _ | refine blk_drew ?_ | refine blk_alloc ?_ _)); refine blk_far ?_ NB160_168.out _; (with_reducible repeat (first | refine blk_drewN ?_ _ | refine blk_drew ?_ | refine blk_alloc ?_ _)); refine blk_far ?_ NB160_168.out _; (with_reducible repeat (first | refine blk_drewN ?_ _ | refine blk_drew ?_ | refine blk_alloc ?_ _)); refine blk_far ?_ NB160_168.out _; (with_reducible repeat (first | refine blk_drewN ?_ _ | refine blk_drew ?_ | refine blk_alloc ?_ _)); refine blk_far ?_ NB160_168.out _; (with_reducible repeat (first | refine blk_drewN ?_ _ | refine blk_drew ?_ | refine blk_alloc ?_ _)); refine blk_far ?_ NB160_168.out _; (with_reducible repeat (first | refine blk_drewN ?_ _ | refine blk_drew ?_ | refine blk_alloc ?_ _)); refine blk_far ?_ NB160_168.out _; (with_reducible repeat (first | refine blk_drewN ?_ _ | refine blk_drew ?_ | refine blk_alloc ?_ _)); exact BK160.out) Tryd.underlying23 rfl (by kernel_rfl)) rfl ?_
  exact ⟨qE, qS2 HB GE160 GE168⟩
 ·have c3b0 : (a0.toList == ([] : List UInt8)) = false := beq_eq_false_iff_ne.mpr c3
  (have c3b1 : (a0.toList != ([] : List UInt8)) = true := bne_iff_ne.mpr c3); (obtain ⟨t169, A10, H⟩ := qX H)
  try dsimp only at H
  rcases qJ H with ⟨c11, H⟩ | ⟨c11, H⟩
  ·have c11b0 : (t169.toList == a0.toList) = true := beq_iff_eq.mpr c11
   (have c11b1 : (t169.toList != a0.toList) = false := bne_eq_false_iff_eq.mpr c11); clear c11; (simp only [Option.some.injEq, Prod.mk.injEq] at H); (obtain ⟨rfl, rfl, rfl, rfl, rfl, rfl, rfl, rfl⟩ := H)
   go_enter Tryd.func6, Tryd.ntmps6
   go_wp2_with (first | ((with_reducible refine gate_dst (N := 2) rfl ?_); refine box_event ?hg (N := 2) ?hd (cs := #[.int .i64 0, .string (⟨#[]⟩ : ByteArray), .int .i64 0, .int .i64 0, .int .i64 0, .int .i64 0, .string (⟨#[]⟩ : ByteArray)]) (t := 23) ?hr ?_; (case hd => rfl); (case hg => rfl); (case hr => first | (go_simp; done) | (go_simp; rfl)); intro gb160 hg w12 hbox hb; have BK160 := Aside0.mk (hbox); have GW160 := qG hg (below_size (qS0 HB)); have GE160 := qG hg (below_size (qS0 HB)); replace HB := Aside0.mk (below_step (qS0 HB) hb); clear hb hbox hg) | ((with_reducible refine gate_callee (f := 18) rfl ?_); refine goesL_ (some 6) rfl rfl Tryd.func18 (by kernel_rfl) rfl #[.string a0] rfl qL ?_; (with_reducible refine (impl_readReq.calls a0 t161 t162 t163 t164 t165 t166 t167 _ A2.out (G_below (qS1 HB GE160) hG)).mono ?_); rintro e w13 ⟨rfl, hb⟩; refine ⟨_, rfl, ?_⟩; replace BK160 := qD BK160 hb; replace HB := Aside0.mk (below_step (qS1 HB GE160) hb); (try clear hb); (try clear hb2); (try clear hk); (try clear hi)) | ((with_reducible refine gate_dst (N := 4) rfl ?_); refine box_event ?hg (N := 4) ?hd (cs := #[.int .i64 0, .string (⟨#[]⟩ : ByteArray), .int .i64 0, .int .i64 0, .int .i64 0, .int .i64 0, .string (⟨#[]⟩ : ByteArray)]) (t := 23) ?hr ?_; (case hd => rfl); (case hg => rfl); (case hr => first | (go_simp; done) | (go_simp; rfl)); intro gb168 hg w14 hbox hb; have BK168 := Aside0.mk (hbox); have GW168 := qG hg (below_size (qS1 HB GE160)); have GE168 := qG hg (below_size (qS1 HB GE160)); replace HB := Aside0.mk (below_step (qS1 HB GE160) hb); have NB160_168 := qN hg (blk_lt (qB BK160)); have NB168_160 := qM hg (blk_lt (qB BK160)); replace BK160 := qD BK160 hb; clear hb hbox hg; have hnb15 := NB168_160.out; have hnc15 := NB160_168.out; obtain ⟨hcz16_0, hcz16_1, hcz16_2, hcz16_3, hcz16_4, hcz16_5, hcz16_6, hfz16_0, hfz16_1, hfz16_2, hfz16_3, hfz16_4, hfz16_5, hfz16_6⟩ := qC7 BK168) | (go_at_call 19; (with_reducible refine (impl_reqText.calls k t161 t162 t163 t164 t165 t166 t167 t169 _ A10.out (G_below (qS2 HB GE160 GE168) hG)).mono ?_); rintro e w17 ⟨rfl, hb⟩; replace BK160 := Aside0.mk (blk_below (g := gb160) (o := .cells #[.int .i64 0, .string (⟨#[]⟩ : ByteArray), .int .i64 0, .int .i64 0, .int .i64 0, .int .i64 0, .string (⟨#[]⟩ : ByteArray)] 23 (0, 0)) (by (with_reducible repeat (first | refine blk_drewN ?_ _ | refine blk_drew ?_ | refine blk_alloc ?_ _)); refine blk_far ?_ NB160_168.out _; (with_reducible repeat (first | refine blk_drewN ?_ _ | refine blk_drew ?_ | refine blk_alloc ?_ _)); refine blk_far ?_ NB160_168.out _; (with_reducible repeat (first | refine blk_drewN ?_ _ | refine blk_drew ?_ | refine blk_alloc ?_ _)); refine blk_far ?_ NB160_168.out _; (with_reducible repeat (first | refine blk_drewN ?_ _ | refine blk_drew ?_ | refine blk_alloc ?_ _)); refine blk_far ?_ NB160_168.out _; (with_reducible repeat (first | refine blk_drewN ?_ _ | refine blk_drew ?_ | refine blk_alloc ?_ _)); refine blk_far ?_ NB160_168.out _; (with_reducible repeat (first | refine blk_drewN ?_ _ | refine blk_drew ?_ | refine blk_alloc ?_ _)); refine blk_far ?_ NB160_168.out _; (with_reducible repeat (first | refine blk_drewN ?_ _ | refine blk_drew ?_ | refine blk_alloc ?_ _)); refine blk_far ?_ NB160_168.out _; (with_reducible repeat (first | refine blk_drewN ?_ _ | refine blk_drew ?_ | refine blk_alloc ?_ _)); exact BK160.out) hb); replace BK168 := Aside0.mk (blk_below (g := gb168) (o := .cells #[.int .i64 t161, .string t162, .int .i64 t163, .int .i64 t164, .int .i64 t165, .int .i64 t166, .string t167] 23 (0, 0)) (by (with_reducible repeat (first | refine blk_drewN ?_ _ | refine blk_drew ?_ | refine blk_alloc ?_ _)); refine blk_put (cs := #[.int .i64 t161, .string t162, .int .i64 t163, .int .i64 t164, .int .i64 t165, .int .i64 t166, .string (⟨#[]⟩ : ByteArray)]) ?_ 6 _ rfl; (with_reducible repeat (first | refine blk_drewN ?_ _ | refine blk_drew ?_ | refine blk_alloc ?_ _)); refine blk_put (cs := #[.int .i64 t161, .string t162, .int .i64 t163, .int .i64 t164, .int .i64 t165, .int .i64 0, .string (⟨#[]⟩ : ByteArray)]) ?_ 5 _ rfl; (with_reducible repeat (first | refine blk_drewN ?_ _ | refine blk_drew ?_ | refine blk_alloc ?_ _)); refine blk_put (cs := #[.int .i64 t161, .string t162, .int .i64 t163, .int .i64 t164, .int .i64 0, .int .i64 0, .string (⟨#[]⟩ : ByteArray)]) ?_ 4 _ rfl; (with_reducible repeat (first | refine blk_drewN ?_ _ | refine blk_drew ?_ | refine blk_alloc ?_ _)); refine blk_put (cs := #[.int .i64 t161, .string t162, .int .i64 t163, .int .i64 0, .int .i64 0, .int .i64 0, .string (⟨#[]⟩ : ByteArray)]) ?_ 3 _ rfl; (with_reducible repeat (first | refine blk_drewN ?_ _ | refine blk_drew ?_ | refine blk_alloc ?_ _)); refine blk_put (cs := #[.int .i64 t161, .string t162, .int .i64 0, .int .i64 0, .int .i64 0, .int .i64 0, .string (⟨#[]⟩ : ByteArray)]) ?_ 2 _ rfl; (with_reducible repeat (first | refine blk_drewN ?_ _ | refine blk_drew ?_ | refine blk_alloc ?_ _)); refine blk_put (cs := #[.int .i64 t161, .string (⟨#[]⟩ : ByteArray), .int .i64 0, .int .i64 0, .int .i64 0, .int .i64 0, .string (⟨#[]⟩ : ByteArray)]) ?_ 1 _ rfl; (with_reducible repeat (first | refine blk_drewN ?_ _ | refine blk_drew ?_ | refine blk_alloc ?_ _)); refine blk_put (cs := #[.int .i64 0, .string (⟨#[]⟩ : ByteArray), .int .i64 0, .int .i64 0, .int .i64 0, .int .i64 0, .string (⟨#[]⟩ : ByteArray)]) ?_ 0 _ rfl; (with_reducible repeat (first | refine blk_drewN ?_ _ | refine blk_drew ?_ | refine blk_alloc ?_ _)); exact BK168.out) hb); replace HB := Aside0.mk (below_step (qS2 HB GE160 GE168) hb); (try clear hb); (try clear hb2); (try clear hk); (try clear hi); obtain ⟨hcz18_0, hcz18_1, hcz18_2, hcz18_3, hcz18_4, hcz18_5, hcz18_6, hfz18_0, hfz18_1, hfz18_2, hfz18_3, hfz18_4, hfz18_5, hfz18_6⟩ := qC7 BK168; obtain ⟨hcz19_0, hcz19_1, hcz19_2, hcz19_3, hcz19_4, hcz19_5, hcz19_6, hfz19_0, hfz19_1, hfz19_2, hfz19_3, hfz19_4, hfz19_5, hfz19_6⟩ := qC7 BK160))
   refine bodyPost_ret (results_ct rfl _ _ gb160 23 #[.int .i64 t161, .string t162, .int .i64 t163, .int .i64 t164, .int .i64 t165, .int .i64 t166, .string t167] (0, 0) _ rfl (by (with_reducible repeat (first | refine blk_drewN ?_ _ | refine blk_drew ?_ | refine blk_alloc ?_ _)); refine blk_put (cs := #[.int .i64 t161, .string t162, .int .i64 t163, .int .i64 t164, .int .i64 t165, .int .i64 t166, .string (⟨#[]⟩ : ByteArray)]) ?_ 6 _ rfl; (with_reducible repeat (first | refine blk_drewN ?_ _ | refine blk_drew ?_ | refine blk_alloc ?_ _)); refine blk_put (cs := #[.int .i64 t161, .string t162, .int .i64 t163, .int .i64 t164, .int .i64 t165, .int .i64 0, .string (⟨#[]⟩ : ByteArray)]) ?_ 5 _ rfl; (with_reducible repeat (first | refine blk_drewN ?_ _ | refine blk_drew ?_ | refine blk_alloc ?_ _)); refine blk_put (cs := #[.int .i64 t161, .string t162, .int .i64 t163, .int .i64 t164, .int .i64 0, .int .i64 0, .string (⟨#[]⟩ : ByteArray)]) ?_ 4 _ rfl; (with_reducible repeat (first | refine blk_drewN ?_ _ | refine blk_drew ?_ | refine blk_alloc ?_ _)); refine blk_put (cs := #[.int .i64 t161, .string t162, .int .i64 t163, .int .i64 0, .int .i64 0, .int .i64 0, .string (⟨#[]⟩ : ByteArray)]) ?_ 3 _ rfl; (with_reducible repeat (first | refine blk_drewN ?_ _ | refine blk_drew ?_ | refine blk_alloc ?_ _)); refine blk_put (cs := #[.int .i64 t161, .string t162, .int .i64 0, .int .i64 0, .int .i64 0, .int .i64 0, .string (⟨#[]⟩ : ByteArray)]) ?_ 2 _ rfl; (with_reducible repeat (first | refine blk_drewN ?_ _ | refine blk_drew ?_ | refine blk_alloc ?_ _)); refine blk_put (cs := #[.int .i64 t161, .string (⟨#[]⟩ : ByteArray), .int .i64 0, .int .i64 0, .int .i64 0, .int .i64 0, .string (⟨#[]⟩ : ByteArray)]) ?_ 1 _ rfl; (with_reducible repeat (first | refine blk_drewN ?_ _ | refine blk_drew ?_ | refine blk_alloc ?_ _)); refine blk_put (cs := #[.int .i64 0, .string (⟨#[]⟩ : ByteArray), .int .i64 0, .int .i64 0, .int .i64 0, .int .i64 0, .string (⟨#[]⟩ : ByteArray)]) ?_ 0 _ rfl; (with_reducible repeat (first | refine blk_drewN ?_ _ | refine blk_drew ?_ | refine blk_alloc ?_ _)); exact BK160.out) Tryd.underlying23 rfl (by kernel_rfl)) rfl ?_
   exact ⟨qE, qS2 HB GE160 GE168⟩
  ·have c11b0 : (t169.toList == a0.toList) = false := beq_eq_false_iff_ne.mpr c11
   (have c11b1 : (t169.toList != a0.toList) = true := bne_iff_ne.mpr c11); (simp only [Option.some.injEq, Prod.mk.injEq] at H); (obtain ⟨rfl, rfl, rfl, rfl, rfl, rfl, rfl, rfl⟩ := H)
   go_enter Tryd.func6, Tryd.ntmps6
   go_wp2_with (first | ((with_reducible refine gate_dst (N := 2) rfl ?_); refine box_event ?hg (N := 2) ?hd (cs := #[.int .i64 0, .string (⟨#[]⟩ : ByteArray), .int .i64 0, .int .i64 0, .int .i64 0, .int .i64 0, .string (⟨#[]⟩ : ByteArray)]) (t := 23) ?hr ?_; (case hd => rfl); (case hg => rfl); (case hr => first | (go_simp; done) | (go_simp; rfl)); intro gb160 hg w20 hbox hb; have BK160 := Aside0.mk (hbox); have GW160 := qG hg (below_size (qS0 HB)); have GE160 := qG hg (below_size (qS0 HB)); replace HB := Aside0.mk (below_step (qS0 HB) hb); clear hb hbox hg) | ((with_reducible refine gate_callee (f := 18) rfl ?_); refine goesL_ (some 6) rfl rfl Tryd.func18 (by kernel_rfl) rfl #[.string a0] rfl qL ?_; (with_reducible refine (impl_readReq.calls a0 t161 t162 t163 t164 t165 t166 t167 _ A2.out (G_below (qS1 HB GE160) hG)).mono ?_); rintro e w21 ⟨rfl, hb⟩; refine ⟨_, rfl, ?_⟩; replace BK160 := qD BK160 hb; replace HB := Aside0.mk (below_step (qS1 HB GE160) hb); (try clear hb); (try clear hb2); (try clear hk); (try clear hi)) | ((with_reducible refine gate_dst (N := 4) rfl ?_); refine box_event ?hg (N := 4) ?hd (cs := #[.int .i64 0, .string (⟨#[]⟩ : ByteArray), .int .i64 0, .int .i64 0, .int .i64 0, .int .i64 0, .string (⟨#[]⟩ : ByteArray)]) (t := 23) ?hr ?_; (case hd => rfl); (case hg => rfl); (case hr => first | (go_simp; done) | (go_simp; rfl)); intro gb168 hg w22 hbox hb; have BK168 := Aside0.mk (hbox); have GW168 := qG hg (below_size (qS1 HB GE160)); have GE168 := qG hg (below_size (qS1 HB GE160)); replace HB := Aside0.mk (below_step (qS1 HB GE160) hb); have NB160_168 := qN hg (blk_lt (qB BK160)); have NB168_160 := qM hg (blk_lt (qB BK160)); replace BK160 := qD BK160 hb; clear hb hbox hg; have hnb23 := NB168_160.out; have hnc23 := NB160_168.out; obtain ⟨hcz24_0, hcz24_1, hcz24_2, hcz24_3, hcz24_4, hcz24_5, hcz24_6, hfz24_0, hfz24_1, hfz24_2, hfz24_3, hfz24_4, hfz24_5, hfz24_6⟩ := qC7 BK168) | (go_at_call 19; (with_reducible refine (impl_reqText.calls k t161 t162 t163 t164 t165 t166 t167 t169 _ A10.out (G_below (qS2 HB GE160 GE168) hG)).mono ?_); rintro e w25 ⟨rfl, hb⟩; replace BK160 := Aside0.mk (blk_below (g := gb160) (o := .cells #[.int .i64 0, .string (⟨#[]⟩ : ByteArray), .int .i64 0, .int .i64 0, .int .i64 0, .int .i64 0, .string (⟨#[]⟩ : ByteArray)] 23 (0, 0)) (by (with_reducible repeat (first | refine blk_drewN ?_ _ | refine blk_drew ?_ | refine blk_alloc ?_ _)); refine blk_far ?_ NB160_168.out _; (with_reducible repeat (first | refine blk_drewN ?_ _ | refine blk_drew ?_ | refine blk_alloc ?_ _)); refine blk_far ?_ NB160_168.out _; (with_reducible repeat (first | refine blk_drewN ?_ _ | refine blk_drew ?_ | refine blk_alloc ?_ _)); refine blk_far ?_ NB160_168.out _; (with_reducible repeat (first | refine blk_drewN ?_ _ | refine blk_drew ?_ | refine blk_alloc ?_ _)); refine blk_far ?_ NB160_168.out _; (with_reducible repeat (first | refine blk_drewN ?_ _ | refine blk_drew ?_ | refine blk_alloc ?_ _)); refine blk_far ?_ NB160_168.out _; (with_reducible repeat (first | refine blk_drewN ?_ _ | refine blk_drew ?_ | refine blk_alloc ?_ _)); refine blk_far ?_ NB160_168.out _; (with_reducible repeat (first | refine blk_drewN ?_ _ | refine blk_drew ?_ | refine blk_alloc ?_ _)); refine blk_far ?_ NB160_168.out _; (with_reducible repeat (first | refine blk_drewN ?_ _ | refine blk_drew ?_ | refine blk_alloc ?_ _)); exact BK160.out) hb); replace BK168 := Aside0.mk (blk_below (g := gb168) (o := .cells #[.int .i64 t161, .string t162, .int .i64 t163, .int .i64 t164, .int .i64 t165, .int .i64 t166, .string t167] 23 (0, 0)) (by (with_reducible repeat (first | refine blk_drewN ?_ _ | refine blk_drew ?_ | refine blk_alloc ?_ _)); refine blk_put (cs := #[.int .i64 t161, .string t162, .int .i64 t163, .int .i64 t164, .int .i64 t165, .int .i64 t166, .string (⟨#[]⟩ : ByteArray)]) ?_ 6 _ rfl; (with_reducible repeat (first | refine blk_drewN ?_ _ | refine blk_drew ?_ | refine blk_alloc ?_ _)); refine blk_put (cs := #[.int .i64 t161, .string t162, .int .i64 t163, .int .i64 t164, .int .i64 t165, .int .i64 0, .string (⟨#[]⟩ : ByteArray)]) ?_ 5 _ rfl; (with_reducible repeat (first | refine blk_drewN ?_ _ | refine blk_drew ?_ | refine blk_alloc ?_ _)); refine blk_put (cs := #[.int .i64 t161, .string t162, .int .i64 t163, .int .i64 t164, .int .i64 0, .int .i64 0, .string (⟨#[]⟩ : ByteArray)]) ?_ 4 _ rfl; (with_reducible repeat (first | refine blk_drewN ?_ _ | refine blk_drew ?_ | refine blk_alloc ?_ _)); refine blk_put (cs := #[.int .i64 t161, .string t162, .int .i64 t163, .int .i64 0, .int .i64 0, .int .i64 0, .string (⟨#[]⟩ : ByteArray)]) ?_ 3 _ rfl; (with_reducible repeat (first | refine blk_drewN ?_ _ | refine blk_drew ?_ | refine blk_alloc ?_ _)); refine blk_put (cs := #[.int .i64 t161, .string t162, .int .i64 0, .int .i64 0, .int .i64 0, .int .i64 0, .string (⟨#[]⟩ : ByteArray)]) ?_ 2 _ rfl; (with_reducible repeat (first | refine blk_drewN ?_ _ | refine blk_drew ?_ | refine blk_alloc ?_ _)); refine blk_put (cs := #[.int .i64 t161, .string (⟨#[]⟩ : ByteArray), .int .i64 0, .int .i64 0, .int .i64 0, .int .i64 0, .string (⟨#[]⟩ : ByteArray)]) ?_ 1 _ rfl; (with_reducible repeat (first | refine blk_drewN ?_ _ | refine blk_drew ?_ | refine blk_alloc ?_ _)); refine blk_put (cs := #[.int .i64 0, .string (⟨#[]⟩ : ByteArray), .int .i64 0, .int .i64 0, .int .i64 0, .int .i64 0, .string (⟨#[]⟩ : ByteArray)]) ?_ 0 _ rfl; (with_reducible repeat (first | refine blk_drewN ?_ _ | refine blk_drew ?_ | refine blk_alloc ?_ _)); exact BK168.out) hb); replace HB := Aside0.mk (below_step (qS2 HB GE160 GE168) hb); (try clear hb); (try clear hb2); (try clear hk); (try clear hi); obtain ⟨hcz26_0, hcz26_1, hcz26_2, hcz26_3, hcz26_4, hcz26_5, hcz26_6, hfz26_0, hfz26_1, hfz26_2, hfz26_3, hfz26_4, hfz26_5, hfz26_6⟩ := qC7 BK160))
   refine bodyPost_ret (results_ct rfl _ _ gb160 23 #[.int .i64 0, .string (⟨#[]⟩ : ByteArray), .int .i64 0, .int .i64 0, .int .i64 0, .int .i64 0, .string (⟨#[]⟩ : ByteArray)] (0, 0) _ rfl (by (with_reducible repeat (first | refine blk_drewN ?_ _ | refine blk_drew ?_ | refine blk_alloc ?_ _)); refine blk_put (cs := #[.int .i64 0, .string (⟨#[]⟩ : ByteArray), .int .i64 0, .int .i64 0, .int .i64 0, .int .i64 0, .string (⟨#[]⟩ : ByteArray)]) ?_ 6 _ rfl; (with_reducible repeat (first | refine blk_drewN ?_ _ | refine blk_drew ?_ | refine blk_alloc ?_ _)); refine blk_put (cs := #[.int .i64 0, .string (⟨#[]⟩ : ByteArray), .int .i64 0, .int .i64 0, .int .i64 0, .int .i64 0, .string (⟨#[]⟩ : ByteArray)]) ?_ 5 _ rfl; (with_reducible repeat (first | refine blk_drewN ?_ _ | refine blk_drew ?_ | refine blk_alloc ?_ _)); refine blk_put (cs := #[.int .i64 0, .string (⟨#[]⟩ : ByteArray), .int .i64 0, .int .i64 0, .int .i64 0, .int .i64 0, .string (⟨#[]⟩ : ByteArray)]) ?_ 4 _ rfl; (with_reducible repeat (first | refine blk_drewN ?_ _ | refine blk_drew ?_ | refine blk_alloc ?_ _)); refine blk_put (cs := #[.int .i64 0, .string (⟨#[]⟩ : ByteArray), .int .i64 0, .int .i64 0, .int .i64 0, .int .i64 0, .string (⟨#[]⟩ : ByteArray)]) ?_ 3 _ rfl; (with_reducible repeat (first | refine blk_drewN ?_ _ | refine blk_drew ?_ | refine blk_alloc ?_ _)); refine blk_put (cs := #[.int .i64 0, .string (⟨#[]⟩ : ByteArray), .int .i64 0, .int .i64 0, .int .i64 0, .int .i64 0, .string (⟨#[]⟩ : ByteArray)]) ?_ 2 _ rfl; (with_reducible repeat (first | refine blk_drewN ?_ _ | refine blk_drew ?_ | refine blk_alloc ?_ _)); refine blk_put (cs := #[.int .i64 0, .string (⟨#[]⟩ : ByteArray), .int .i64 0, .int .i64 0, .int .i64 0, .int .i64 0, .string (⟨#[]⟩ : ByteArray)]) ?_ 1 _ rfl; (with_reducible repeat (first | refine blk_drewN ?_ _ | refine blk_drew ?_ | refine blk_alloc ?_ _)); refine blk_put (cs := #[.int .i64 0, .string (⟨#[]⟩ : ByteArray), .int .i64 0, .int .i64 0, .int .i64 0, .int .i64 0, .string (⟨#[]⟩ : ByteArray)]) ?_ 0 _ rfl; (with_reducible repeat (first | refine blk_drewN ?_ _ | refine blk_drew ?_ | refine blk_alloc ?_ _)); exact BK160.out) Tryd.underlying23 rfl (by kernel_rfl)) rfl ?_
   exact ⟨qE, qS2 HB GE160 GE168⟩
def impl_ReqText.f (k : Nat) (a0_0 : Int) (a0_1 : ByteArray) (a0_2 : Int) (a0_3 : Int) (a0_4 : Int) (a0_5 : Int) (a0_6 : ByteArray) : Option (ByteArray) := (impl_reqText.f k a0_0 a0_1 a0_2 a0_3 a0_4 a0_5 a0_6).bind fun t171 => (some t171)
theorem impl_ReqText.calls (k : Nat) (a0_0 : Int) (a0_1 : ByteArray) (a0_2 : Int) (a0_3 : Int) (a0_4 : Int) (a0_5 : Int) (a0_6 : ByteArray) (r : ByteArray) (w : World) (h : impl_ReqText.f k a0_0 a0_1 a0_2 a0_3 a0_4 a0_5 a0_6 = some r) (hG : TabG w) :
  Calls Tryd.prog 12 #[.agg #[.int .i64 a0_0, .string a0_1, .int .i64 a0_2, .int .i64 a0_3, .int .i64 a0_4, .int .i64 a0_5, .string a0_6]] w fun e w' => e = .returned (.string r) ∧ Below w.heap.size w w' := by
 (have hu23 := Tryd.underlying23); (have HB := Aside0.mk (Below.refl w.heap.size w)); (have H : ((impl_reqText.f k a0_0 a0_1 a0_2 a0_3 a0_4 a0_5 a0_6).bind fun t171 => (some t171)) = some r := h); clear h; (obtain ⟨t171, A2, H⟩ := qX H); (replace H : (some t171) = some r := H); (obtain rfl := Option.some.inj H)
 go_enter Tryd.func12, Tryd.ntmps12
 go_wp2_with (first | ((with_reducible refine gate_dst (N := 1) rfl ?_); refine box_event ?hg (N := 1) ?hd (cs := #[.int .i64 a0_0, .string a0_1, .int .i64 a0_2, .int .i64 a0_3, .int .i64 a0_4, .int .i64 a0_5, .string a0_6]) (t := 23) ?hr ?_; (case hd => rfl); (case hg => rfl); (case hr => first | (go_simp; done) | (go_simp; rfl)); intro gb170 hg w3 hbox hb; have BK170 := Aside0.mk (hbox); have GW170 := qG hg (below_size (qS0 HB)); have GE170 := qG hg (below_size (qS0 HB)); replace HB := Aside0.mk (below_step (qS0 HB) hb); clear hb hbox hg; obtain ⟨hcz4_0, hcz4_1, hcz4_2, hcz4_3, hcz4_4, hcz4_5, hcz4_6, hfz4_0, hfz4_1, hfz4_2, hfz4_3, hfz4_4, hfz4_5, hfz4_6⟩ := qC7 BK170) | ((with_reducible refine gate_callee (f := 19) rfl ?_); refine goesL_ (some 4) rfl rfl Tryd.func19 (by kernel_rfl) rfl #[.agg #[.int .i64 a0_0, .string a0_1, .int .i64 a0_2, .int .i64 a0_3, .int .i64 a0_4, .int .i64 a0_5, .string a0_6]] rfl qL ?_; (with_reducible refine (impl_reqText.calls k a0_0 a0_1 a0_2 a0_3 a0_4 a0_5 a0_6 t171 _ A2.out (G_below (qS1 HB GE170) hG)).mono ?_); rintro e w5 ⟨rfl, hb⟩; refine ⟨_, rfl, ?_⟩; replace BK170 := qD BK170 hb; replace HB := Aside0.mk (below_step (qS1 HB GE170) hb); (try clear hb); (try clear hb2); (try clear hk); (try clear hi)))
 go_ret
 exact ⟨qE, qS1 HB GE170⟩
def impl_isDeepLog.f (a0 : Int) : Option (Bool) := (impl_within.f a0 2 6).bind fun t172 => (some t172)
theorem impl_isDeepLog.calls (a0 : Int) (r : Bool) (w : World) (h : impl_isDeepLog.f a0 = some r) :
  Calls Tryd.prog 59 #[.int .i64 a0] w fun e w' => e = .returned (.bool r) ∧ Drawn0 w w' := by
 (have H : ((impl_within.f a0 2 6).bind fun t172 => (some t172)) = some r := h); clear h; (obtain ⟨t172, A2, H⟩ := qX H); (replace H : (some t172) = some r := H); (obtain rfl := Option.some.inj H)
 go_enter Tryd.func59, Tryd.ntmps59
 go_wp2_with (first | ((with_reducible refine gate_callee (f := 38) rfl ?_); refine goesL_ (some 4) rfl rfl Tryd.func38 (by kernel_rfl) rfl #[.int .i64 a0, .int .i64 2, .int .i64 6] rfl qL ?_; (with_reducible refine (impl_within.calls a0 2 6 t172 _ A2.out).mono ?_); rintro e w' ⟨rfl, ⟨nd, rfl⟩⟩; refine ⟨_, rfl, ?_⟩))
 go_ret
 exact qZ
def impl_isConf.f (a0_0 : Int) (a0_1 : Int) (a0_2 : Int) (a0_3 : Int) : Option (Bool) := (impl_within.f a0_0 0 4294967295).bind fun t174 => (if t174 = true then ((impl_isDeepLog.f a0_1).bind fun t175 => (if t175 = true then ((impl_within.f a0_2 0 64).bind fun t176 => (if t176 = true then ((impl_within.f a0_3 1 64).bind fun t177 => (some t177)) else (some false))) else (some false))) else (some false))
theorem impl_isConf.calls (a0_0 : Int) (a0_1 : Int) (a0_2 : Int) (a0_3 : Int) (r : Bool) (w : World) (h : impl_isConf.f a0_0 a0_1 a0_2 a0_3 = some r) :
  Calls Tryd.prog 45 #[.agg #[.int .i64 a0_0, .int .i64 a0_1, .int .i64 a0_2, .int .i64 a0_3]] w fun e w' => e = .returned (.bool r) ∧ Below w.heap.size w w' := by
 (have hu31 := Tryd.underlying31); (have HB := Aside0.mk (Below.refl w.heap.size w)); (have H : ((impl_within.f a0_0 0 4294967295).bind fun t174 => (if t174 = true then ((impl_isDeepLog.f a0_1).bind fun t175 => (if t175 = true then ((impl_within.f a0_2 0 64).bind fun t176 => (if t176 = true then ((impl_within.f a0_3 1 64).bind fun t177 => (some t177)) else (some false))) else (some false))) else (some false))) = some r := h); clear h; (obtain ⟨t174, A2, H⟩ := qX H)
 try dsimp only at H
 by_cases c3 : t174 = true
 ·subst c3
  (have H1 : ((impl_isDeepLog.f a0_1).bind fun t175 => (if t175 = true then ((impl_within.f a0_2 0 64).bind fun t176 => (if t176 = true then ((impl_within.f a0_3 1 64).bind fun t177 => (some t177)) else (some false))) else (some false))) = some r := by rw [if_pos rfl] at H; exact H); clear H; (have H := H1); clear H1; (obtain ⟨t175, A4, H⟩ := qX H)
  try dsimp only at H
  by_cases c5 : t175 = true
  ·subst c5
   (have H1 : ((impl_within.f a0_2 0 64).bind fun t176 => (if t176 = true then ((impl_within.f a0_3 1 64).bind fun t177 => (some t177)) else (some false))) = some r := by rw [if_pos rfl] at H; exact H); clear H; (have H := H1); clear H1; (obtain ⟨t176, A6, H⟩ := qX H)
   try dsimp only at H
   by_cases c7 : t176 = true
   ·subst c7
    (have H1 : ((impl_within.f a0_3 1 64).bind fun t177 => (some t177)) = some r := by rw [if_pos rfl] at H; exact H); clear H; (have H := H1); clear H1; (obtain ⟨t177, A8, H⟩ := qX H); (replace H : (some t177) = some r := H); (obtain rfl := Option.some.inj H)
    go_enter Tryd.func45, Tryd.ntmps45
    go_wp2_with (first | ((with_reducible refine gate_dst (N := 1) rfl ?_); refine box_event ?hg (N := 1) ?hd (cs := #[.int .i64 a0_0, .int .i64 a0_1, .int .i64 a0_2, .int .i64 a0_3]) (t := 31) ?hr ?_; (case hd => rfl); (case hg => rfl); (case hr => first | (go_simp; done) | (go_simp; rfl)); intro gb173 hg w9 hbox hb; have BK173 := Aside0.mk (hbox); have GW173 := qG hg (below_size (qS0 HB)); have GE173 := qG hg (below_size (qS0 HB)); replace HB := Aside0.mk (below_step (qS0 HB) hb); clear hb hbox hg; obtain ⟨hcz10_0, hcz10_1, hcz10_2, hcz10_3, hfz10_0, hfz10_1, hfz10_2, hfz10_3⟩ := qC4 BK173) | ((with_reducible refine gate_callee (f := 38) rfl ?_); refine goesL_ (some 5) rfl rfl Tryd.func38 (by kernel_rfl) rfl #[.int .i64 a0_0, .int .i64 0, .int .i64 4294967295] rfl qL ?_; (with_reducible refine (impl_within.calls a0_0 0 4294967295 true _ A2.out).mono ?_); rintro e w' ⟨rfl, ⟨nd, rfl⟩⟩; refine ⟨_, rfl, ?_⟩) | (go_at_call 59; (with_reducible refine (impl_isDeepLog.calls a0_1 true _ A4.out).mono ?_); rintro e w' ⟨rfl, ⟨nd, rfl⟩⟩) | (go_at_call 38; (with_reducible refine (impl_within.calls a0_2 0 64 true _ A6.out).mono ?_); rintro e w' ⟨rfl, ⟨nd, rfl⟩⟩) | (go_at_call 38; (with_reducible refine (impl_within.calls a0_3 1 64 t177 _ A8.out).mono ?_); rintro e w' ⟨rfl, ⟨nd, rfl⟩⟩))
    go_ret
    exact ⟨qE, qS1 HB GE173⟩
   ·replace c7 := Bool.eq_false_iff.mpr c7
    (subst c7); (have H1 : (some false) = some r := by rw [if_neg (show ¬ (false = true) by decide)] at H; exact H); clear H; (have H := H1); clear H1; (obtain rfl := Option.some.inj H)
    go_enter Tryd.func45, Tryd.ntmps45
    go_wp2_with (first | ((with_reducible refine gate_dst (N := 1) rfl ?_); refine box_event ?hg (N := 1) ?hd (cs := #[.int .i64 a0_0, .int .i64 a0_1, .int .i64 a0_2, .int .i64 a0_3]) (t := 31) ?hr ?_; (case hd => rfl); (case hg => rfl); (case hr => first | (go_simp; done) | (go_simp; rfl)); intro gb173 hg w11 hbox hb; have BK173 := Aside0.mk (hbox); have GW173 := qG hg (below_size (qS0 HB)); have GE173 := qG hg (below_size (qS0 HB)); replace HB := Aside0.mk (below_step (qS0 HB) hb); clear hb hbox hg; obtain ⟨hcz12_0, hcz12_1, hcz12_2, hcz12_3, hfz12_0, hfz12_1, hfz12_2, hfz12_3⟩ := qC4 BK173) | ((with_reducible refine gate_callee (f := 38) rfl ?_); refine goesL_ (some 5) rfl rfl Tryd.func38 (by kernel_rfl) rfl #[.int .i64 a0_0, .int .i64 0, .int .i64 4294967295] rfl qL ?_; (with_reducible refine (impl_within.calls a0_0 0 4294967295 true _ A2.out).mono ?_); rintro e w' ⟨rfl, ⟨nd, rfl⟩⟩; refine ⟨_, rfl, ?_⟩) | (go_at_call 59; (with_reducible refine (impl_isDeepLog.calls a0_1 true _ A4.out).mono ?_); rintro e w' ⟨rfl, ⟨nd, rfl⟩⟩) | (go_at_call 38; (with_reducible refine (impl_within.calls a0_2 0 64 false _ A6.out).mono ?_); rintro e w' ⟨rfl, ⟨nd, rfl⟩⟩))
    go_ret
    exact ⟨qE, qS1 HB GE173⟩
  ·replace c5 := Bool.eq_false_iff.mpr c5
   (subst c5); (have H1 : (some false) = some r := by rw [if_neg (show ¬ (false = true) by decide)] at H; exact H); clear H; (have H := H1); clear H1; (obtain rfl := Option.some.inj H)
   go_enter Tryd.func45, Tryd.ntmps45
   go_wp2_with (first | ((with_reducible refine gate_dst (N := 1) rfl ?_); refine box_event ?hg (N := 1) ?hd (cs := #[.int .i64 a0_0, .int .i64 a0_1, .int .i64 a0_2, .int .i64 a0_3]) (t := 31) ?hr ?_; (case hd => rfl); (case hg => rfl); (case hr => first | (go_simp; done) | (go_simp; rfl)); intro gb173 hg w13 hbox hb; have BK173 := Aside0.mk (hbox); have GW173 := qG hg (below_size (qS0 HB)); have GE173 := qG hg (below_size (qS0 HB)); replace HB := Aside0.mk (below_step (qS0 HB) hb); clear hb hbox hg; obtain ⟨hcz14_0, hcz14_1, hcz14_2, hcz14_3, hfz14_0, hfz14_1, hfz14_2, hfz14_3⟩ := qC4 BK173) | ((with_reducible refine gate_callee (f := 38) rfl ?_); refine goesL_ (some 5) rfl rfl Tryd.func38 (by kernel_rfl) rfl #[.int .i64 a0_0, .int .i64 0, .int .i64 4294967295] rfl qL ?_; (with_reducible refine (impl_within.calls a0_0 0 4294967295 true _ A2.out).mono ?_); rintro e w' ⟨rfl, ⟨nd, rfl⟩⟩; refine ⟨_, rfl, ?_⟩) | (go_at_call 59; (with_reducible refine (impl_isDeepLog.calls a0_1 false _ A4.out).mono ?_); rintro e w' ⟨rfl, ⟨nd, rfl⟩⟩))
   go_ret
   exact ⟨qE, qS1 HB GE173⟩
 ·replace c3 := Bool.eq_false_iff.mpr c3
  (subst c3); (have H1 : (some false) = some r := by rw [if_neg (show ¬ (false = true) by decide)] at H; exact H); clear H; (have H := H1); clear H1; (obtain rfl := Option.some.inj H)
  go_enter Tryd.func45, Tryd.ntmps45
  go_wp2_with (first | ((with_reducible refine gate_dst (N := 1) rfl ?_); refine box_event ?hg (N := 1) ?hd (cs := #[.int .i64 a0_0, .int .i64 a0_1, .int .i64 a0_2, .int .i64 a0_3]) (t := 31) ?hr ?_; (case hd => rfl); (case hg => rfl); (case hr => first | (go_simp; done) | (go_simp; rfl)); intro gb173 hg w15 hbox hb; have BK173 := Aside0.mk (hbox); have GW173 := qG hg (below_size (qS0 HB)); have GE173 := qG hg (below_size (qS0 HB)); replace HB := Aside0.mk (below_step (qS0 HB) hb); clear hb hbox hg; obtain ⟨hcz16_0, hcz16_1, hcz16_2, hcz16_3, hfz16_0, hfz16_1, hfz16_2, hfz16_3⟩ := qC4 BK173) | ((with_reducible refine gate_callee (f := 38) rfl ?_); refine goesL_ (some 5) rfl rfl Tryd.func38 (by kernel_rfl) rfl #[.int .i64 a0_0, .int .i64 0, .int .i64 4294967295] rfl qL ?_; (with_reducible refine (impl_within.calls a0_0 0 4294967295 false _ A2.out).mono ?_); rintro e w' ⟨rfl, ⟨nd, rfl⟩⟩; refine ⟨_, rfl, ?_⟩))
  go_ret
  exact ⟨qE, qS1 HB GE173⟩
def impl_confText.j0 : Nat → Bool → Int → Int → Int → Int → Option (ByteArray)
 | 0, _, _, _, _, _ => none
 | k + 1, x10, x179000, x179001, x179002, x179003 => if x10 = true then (some (⟨#[]⟩ : ByteArray)) else ((strconv_Itoa_36.f x179000).bind fun t180 => (if 4 + t180.size ≤ 9223372036854775807 then (if ((⟨#[107, 101, 121, 32]⟩ : ByteArray) ++ t180).size + 5 ≤ 9223372036854775807 then ((strconv_Itoa_36.f x179001).bind fun t181 => (if (((⟨#[107, 101, 121, 32]⟩ : ByteArray) ++ t180) ++ (⟨#[32, 108, 111, 103, 32]⟩ : ByteArray)).size + t181.size ≤ 9223372036854775807 then (if ((((⟨#[107, 101, 121, 32]⟩ : ByteArray) ++ t180) ++ (⟨#[32, 108, 111, 103, 32]⟩ : ByteArray)) ++ t181).size + 7 ≤ 9223372036854775807 then ((strconv_Itoa_36.f x179002).bind fun t182 => (if (((((⟨#[107, 101, 121, 32]⟩ : ByteArray) ++ t180) ++ (⟨#[32, 108, 111, 103, 32]⟩ : ByteArray)) ++ t181) ++ (⟨#[32, 98, 111, 117, 110, 100, 32]⟩ : ByteArray)).size + t182.size ≤ 9223372036854775807 then (if ((((((⟨#[107, 101, 121, 32]⟩ : ByteArray) ++ t180) ++ (⟨#[32, 108, 111, 103, 32]⟩ : ByteArray)) ++ t181) ++ (⟨#[32, 98, 111, 117, 110, 100, 32]⟩ : ByteArray)) ++ t182).size + 5 ≤ 9223372036854775807 then ((strconv_Itoa_36.f x179003).bind fun t183 => (if (((((((⟨#[107, 101, 121, 32]⟩ : ByteArray) ++ t180) ++ (⟨#[32, 108, 111, 103, 32]⟩ : ByteArray)) ++ t181) ++ (⟨#[32, 98, 111, 117, 110, 100, 32]⟩ : ByteArray)) ++ t182) ++ (⟨#[32, 99, 97, 112, 32]⟩ : ByteArray)).size + t183.size ≤ 9223372036854775807 then (some ((((((((⟨#[107, 101, 121, 32]⟩ : ByteArray) ++ t180) ++ (⟨#[32, 108, 111, 103, 32]⟩ : ByteArray)) ++ t181) ++ (⟨#[32, 98, 111, 117, 110, 100, 32]⟩ : ByteArray)) ++ t182) ++ (⟨#[32, 99, 97, 112, 32]⟩ : ByteArray)) ++ t183)) else (none))) else (none)) else (none))) else (none)) else (none))) else (none)) else (none)))
def impl_confText.f (k : Nat) (a0_0 : Int) (a0_1 : Int) (a0_2 : Int) (a0_3 : Int) : Option (ByteArray) := (impl_isConf.f a0_0 a0_1 a0_2 a0_3).bind fun t179 => (if t179 = true then (impl_confText.j0 k (decide (a0_0 > 999999999)) a0_0 a0_1 a0_2 a0_3) else (impl_confText.j0 k true a0_0 a0_1 a0_2 a0_3))
def impl_confText.T3 : Bool × List (List Nat × List Nat) := (true, [([], []), ([0], [0]), ([1], [1]), ([2], [2]), ([3], [3]), ([], []), ([5], [5]), ([6, 2], [6]), ([4, 7], [4, 7]), ([8], [8]), ([], []), ([10], [10]), ([11, 7], [11]), ([9, 12], [9, 12]), ([13], [13]), ([], []), ([15], [15]), ([16, 12], [16]), ([14, 17], [14, 17]), ([18, 17, 0, 1, 2, 3, 4, 5, 6, 7, 8, 9, 10, 11, 12, 13, 14, 15, 16, 17, 18], [18])])
def impl_confText.B3 : List Nat := [0, 1, 3, 7, 15, 0, 32, 103, 255, 511, 0, 1024, 3303, 8191, 16383, 0, 32768, 105703, 262143, 524287]
theorem impl_confText.tab3 : rtab .any (opsOf Tryd.f25 3) = impl_confText.T3 := by kernel_rfl
theorem impl_confText.bits3 : waitsOk impl_confText.T3.2 impl_confText.B3 = true := by kernel_rfl
theorem impl_confText.calls (k : Nat) (a0_0 : Int) (a0_1 : Int) (a0_2 : Int) (a0_3 : Int) (r : ByteArray) (w : World) (h : impl_confText.f k a0_0 a0_1 a0_2 a0_3 = some r) (hG : TabG w) :
  Calls Tryd.prog 25 #[.agg #[.int .i64 a0_0, .int .i64 a0_1, .int .i64 a0_2, .int .i64 a0_3]] w fun e w' => e = .returned (.string r) ∧ Below w.heap.size w w' := by
 (have hu31 := Tryd.underlying31); (have HB := Aside0.mk (Below.refl w.heap.size w)); (have H : ((impl_isConf.f a0_0 a0_1 a0_2 a0_3).bind fun t179 => (if t179 = true then (impl_confText.j0 k (decide (a0_0 > 999999999)) a0_0 a0_1 a0_2 a0_3) else (impl_confText.j0 k true a0_0 a0_1 a0_2 a0_3))) = some r := h); clear h; (have HC2 := Aside0.mk H); clear H
 go_enter Tryd.func25, Tryd.ntmps25
 go_upto_region 1 with (first | ((with_reducible refine gate_dst (N := 1) rfl ?_); refine box_event ?hg (N := 1) ?hd (cs := #[.int .i64 a0_0, .int .i64 a0_1, .int .i64 a0_2, .int .i64 a0_3]) (t := 31) ?hr ?_; (case hd => rfl); (case hg => rfl); (case hr => first | (go_simp; done) | (go_simp; rfl)); intro gb178 hg w3 hbox hb; have BK178 := Aside0.mk (hbox); have GW178 := qG hg (below_size (qS0 HB)); have GE178 := qG hg (below_size (qS0 HB)); replace HB := Aside0.mk (below_step (qS0 HB) hb); clear hb hbox hg))
 (try simp only [Act.put, List.setIfInBounds_toArray, List.set_cons_zero, List.set_cons_succ])
 go_cut [10] (fun v10 wc => ∃ (kq : Nat) (x10_1 : Bool), v10 = .bool x10_1 ∧ Aside0 (impl_confText.j0 kq x10_1 a0_0 a0_1 a0_2 a0_3 = some r) ∧ Aside0 (kq ≤ k) ∧ Aside0 (wc.heap[gb178]? = some (.cells #[.int .i64 a0_0, .int .i64 a0_1, .int .i64 a0_2, .int .i64 a0_3] 31 (0, 0))) ∧ Aside0 (Below w.heap.size w wc))
 case first =>
  (have H := HC2.out); clear HC2; (obtain ⟨t179, A4, H⟩ := qX H)
  try dsimp only at H
  by_cases c5 : t179 = true
  ·subst c5
   (have H1 : (impl_confText.j0 k (decide (a0_0 > 999999999)) a0_0 a0_1 a0_2 a0_3) = some r := by rw [if_pos rfl] at H; exact H); clear H; (have H := H1); clear H1; (have H' := Aside0.mk H); clear H; (obtain ⟨hcz6_0, hcz6_1, hcz6_2, hcz6_3, hfz6_0, hfz6_1, hfz6_2, hfz6_3⟩ := qC4 BK178)
   go_wp2_with (first | ((with_reducible refine gate_callee (f := 45) rfl ?_); refine goesL_ (some 4) rfl rfl Tryd.func45 (by kernel_rfl) rfl #[.agg #[.int .i64 a0_0, .int .i64 a0_1, .int .i64 a0_2, .int .i64 a0_3]] rfl qL ?_; (with_reducible refine (impl_isConf.calls a0_0 a0_1 a0_2 a0_3 true _ A4.out).mono ?_); rintro e w7 ⟨rfl, hb⟩; refine ⟨_, rfl, ?_⟩; replace BK178 := qD BK178 hb; replace HB := Aside0.mk (below_step (qS1 HB GE178) hb); (try clear hb); (try clear hb2); (try clear hk); (try clear hi); obtain ⟨hcz8_0, hcz8_1, hcz8_2, hcz8_3, hfz8_0, hfz8_1, hfz8_2, hfz8_3⟩ := qC4 BK178))
   go_meet
   case rel => exact ⟨_, (decide (a0_0 > 999999999)), qV, H', ⟨by first | omega | exact Nat.le_refl _⟩, ⟨qB BK178⟩, ⟨qS1 HB GE178⟩⟩
  ·replace c5 := Bool.eq_false_iff.mpr c5
   (subst c5); (have H1 : (impl_confText.j0 k true a0_0 a0_1 a0_2 a0_3) = some r := by rw [if_neg (show ¬ (false = true) by decide)] at H; exact H); clear H; (have H := H1); clear H1; (have H' := Aside0.mk H); clear H; (obtain ⟨hcz9_0, hcz9_1, hcz9_2, hcz9_3, hfz9_0, hfz9_1, hfz9_2, hfz9_3⟩ := qC4 BK178)
   go_wp2_with (first | ((with_reducible refine gate_callee (f := 45) rfl ?_); refine goesL_ (some 4) rfl rfl Tryd.func45 (by kernel_rfl) rfl #[.agg #[.int .i64 a0_0, .int .i64 a0_1, .int .i64 a0_2, .int .i64 a0_3]] rfl qL ?_; (with_reducible refine (impl_isConf.calls a0_0 a0_1 a0_2 a0_3 false _ A4.out).mono ?_); rintro e w10 ⟨rfl, hb⟩; refine ⟨_, rfl, ?_⟩; replace BK178 := qD BK178 hb; replace HB := Aside0.mk (below_step (qS1 HB GE178) hb); (try clear hb); (try clear hb2); (try clear hk); (try clear hi)))
   go_meet
   case rel => exact ⟨_, (true), qV, H', ⟨by first | omega | exact Nat.le_refl _⟩, ⟨qB BK178⟩, ⟨qS1 HB GE178⟩⟩
 case rest =>
  clear HC2; (try clear c5); (try clear hcz6_0); (try clear hcz6_1); (try clear hcz6_2); (try clear hcz6_3); (try clear hcz8_0); (try clear hcz8_1); (try clear hcz8_2); (try clear hcz8_3); (try clear hcz9_0); (try clear hcz9_1); (try clear hcz9_2); (try clear hcz9_3); (try clear hfz6_0); (try clear hfz6_1); (try clear hfz6_2); (try clear hfz6_3); (try clear hfz8_0); (try clear hfz8_1); (try clear hfz8_2); (try clear hfz8_3); (try clear hfz9_0); (try clear hfz9_1); (try clear hfz9_2); (try clear hfz9_3); (obtain ⟨kq, x10_1, rfl, HA, HJ1, BK178, HB⟩ := hcut)
  cases kq with
  | zero => exact absurd HA.out (by simp [impl_confText.j0])
  | succ kj1 =>
   (have H := HA.out); clear HA; (simp only [impl_confText.j0] at H)
   by_cases c11 : x10_1 = true
   ·subst c11
    (have H1 : (some (⟨#[]⟩ : ByteArray)) = some r := by rw [if_pos rfl] at H; exact H); clear H; (have H := H1); clear H1; (obtain rfl := Option.some.inj H)
    go_wp2
    go_ret
    exact ⟨qE, qS1 HB GE178⟩
   ·replace c11 := Bool.eq_false_iff.mpr c11
    (subst c11); (have H1 : ((strconv_Itoa_36.f a0_0).bind fun t180 => (if 4 + t180.size ≤ 9223372036854775807 then (if ((⟨#[107, 101, 121, 32]⟩ : ByteArray) ++ t180).size + 5 ≤ 9223372036854775807 then ((strconv_Itoa_36.f a0_1).bind fun t181 => (if (((⟨#[107, 101, 121, 32]⟩ : ByteArray) ++ t180) ++ (⟨#[32, 108, 111, 103, 32]⟩ : ByteArray)).size + t181.size ≤ 9223372036854775807 then (if ((((⟨#[107, 101, 121, 32]⟩ : ByteArray) ++ t180) ++ (⟨#[32, 108, 111, 103, 32]⟩ : ByteArray)) ++ t181).size + 7 ≤ 9223372036854775807 then ((strconv_Itoa_36.f a0_2).bind fun t182 => (if (((((⟨#[107, 101, 121, 32]⟩ : ByteArray) ++ t180) ++ (⟨#[32, 108, 111, 103, 32]⟩ : ByteArray)) ++ t181) ++ (⟨#[32, 98, 111, 117, 110, 100, 32]⟩ : ByteArray)).size + t182.size ≤ 9223372036854775807 then (if ((((((⟨#[107, 101, 121, 32]⟩ : ByteArray) ++ t180) ++ (⟨#[32, 108, 111, 103, 32]⟩ : ByteArray)) ++ t181) ++ (⟨#[32, 98, 111, 117, 110, 100, 32]⟩ : ByteArray)) ++ t182).size + 5 ≤ 9223372036854775807 then ((strconv_Itoa_36.f a0_3).bind fun t183 => (if (((((((⟨#[107, 101, 121, 32]⟩ : ByteArray) ++ t180) ++ (⟨#[32, 108, 111, 103, 32]⟩ : ByteArray)) ++ t181) ++ (⟨#[32, 98, 111, 117, 110, 100, 32]⟩ : ByteArray)) ++ t182) ++ (⟨#[32, 99, 97, 112, 32]⟩ : ByteArray)).size + t183.size ≤ 9223372036854775807 then (some ((((((((⟨#[107, 101, 121, 32]⟩ : ByteArray) ++ t180) ++ (⟨#[32, 108, 111, 103, 32]⟩ : ByteArray)) ++ t181) ++ (⟨#[32, 98, 111, 117, 110, 100, 32]⟩ : ByteArray)) ++ t182) ++ (⟨#[32, 99, 97, 112, 32]⟩ : ByteArray)) ++ t183)) else (none))) else (none)) else (none))) else (none)) else (none))) else (none)) else (none))) = some r := by rw [if_neg (show ¬ (false = true) by decide)] at H; exact H); clear H; (have H := H1); clear H1; (obtain ⟨t180, A12, H⟩ := qX H)
    try dsimp only at H
    (obtain ⟨c13, H⟩ := qU H); (have c13b0 := eq_true c13); (have c13b1 : decide (4 + t180.size ≤ 9223372036854775807) = true := decide_eq_true c13)
    try have c13b2 : (9223372036854775807 < 4 + t180.size) = False := eq_false (Nat.not_lt.2 c13)
    (obtain ⟨c14, H⟩ := qU H); (have c14b0 := eq_true c14); (have c14b1 : decide (((⟨#[107, 101, 121, 32]⟩ : ByteArray) ++ t180).size + 5 ≤ 9223372036854775807) = true := decide_eq_true c14)
    try have c14b2 : (9223372036854775807 < ((⟨#[107, 101, 121, 32]⟩ : ByteArray) ++ t180).size + 5) = False := eq_false (Nat.not_lt.2 c14)
    try have c14b3 := c14b2
    try simp only [ByteArray.size_append, show (⟨#[107, 101, 121, 32]⟩ : ByteArray).size = 4 from rfl] at c14b3
    obtain ⟨t181, A15, H⟩ := qX H
    try dsimp only at H
    (obtain ⟨c16, H⟩ := qU H); (have c16b0 := eq_true c16); (have c16b1 : decide ((((⟨#[107, 101, 121, 32]⟩ : ByteArray) ++ t180) ++ (⟨#[32, 108, 111, 103, 32]⟩ : ByteArray)).size + t181.size ≤ 9223372036854775807) = true := decide_eq_true c16)
    try have c16b2 : (9223372036854775807 < (((⟨#[107, 101, 121, 32]⟩ : ByteArray) ++ t180) ++ (⟨#[32, 108, 111, 103, 32]⟩ : ByteArray)).size + t181.size) = False := eq_false (Nat.not_lt.2 c16)
    try have c16b3 := c16b2
    try simp only [ByteArray.size_append, show (⟨#[107, 101, 121, 32]⟩ : ByteArray).size = 4 from rfl, show (⟨#[32, 108, 111, 103, 32]⟩ : ByteArray).size = 5 from rfl] at c16b3
    (obtain ⟨c17, H⟩ := qU H); (have c17b0 := eq_true c17); (have c17b1 : decide (((((⟨#[107, 101, 121, 32]⟩ : ByteArray) ++ t180) ++ (⟨#[32, 108, 111, 103, 32]⟩ : ByteArray)) ++ t181).size + 7 ≤ 9223372036854775807) = true := decide_eq_true c17)
    try have c17b2 : (9223372036854775807 < ((((⟨#[107, 101, 121, 32]⟩ : ByteArray) ++ t180) ++ (⟨#[32, 108, 111, 103, 32]⟩ : ByteArray)) ++ t181).size + 7) = False := eq_false (Nat.not_lt.2 c17)
    try have c17b3 := c17b2
    try simp only [ByteArray.size_append, show (⟨#[107, 101, 121, 32]⟩ : ByteArray).size = 4 from rfl, show (⟨#[32, 108, 111, 103, 32]⟩ : ByteArray).size = 5 from rfl] at c17b3
    obtain ⟨t182, A18, H⟩ := qX H
    try dsimp only at H
    (obtain ⟨c19, H⟩ := qU H); (have c19b0 := eq_true c19); (have c19b1 : decide ((((((⟨#[107, 101, 121, 32]⟩ : ByteArray) ++ t180) ++ (⟨#[32, 108, 111, 103, 32]⟩ : ByteArray)) ++ t181) ++ (⟨#[32, 98, 111, 117, 110, 100, 32]⟩ : ByteArray)).size + t182.size ≤ 9223372036854775807) = true := decide_eq_true c19)
    try have c19b2 : (9223372036854775807 < (((((⟨#[107, 101, 121, 32]⟩ : ByteArray) ++ t180) ++ (⟨#[32, 108, 111, 103, 32]⟩ : ByteArray)) ++ t181) ++ (⟨#[32, 98, 111, 117, 110, 100, 32]⟩ : ByteArray)).size + t182.size) = False := eq_false (Nat.not_lt.2 c19)
    try have c19b3 := c19b2
    try simp only [ByteArray.size_append, show (⟨#[107, 101, 121, 32]⟩ : ByteArray).size = 4 from rfl, show (⟨#[32, 108, 111, 103, 32]⟩ : ByteArray).size = 5 from rfl, show (⟨#[32, 98, 111, 117, 110, 100, 32]⟩ : ByteArray).size = 7 from rfl] at c19b3
    (obtain ⟨c20, H⟩ := qU H); (have c20b0 := eq_true c20); (have c20b1 : decide (((((((⟨#[107, 101, 121, 32]⟩ : ByteArray) ++ t180) ++ (⟨#[32, 108, 111, 103, 32]⟩ : ByteArray)) ++ t181) ++ (⟨#[32, 98, 111, 117, 110, 100, 32]⟩ : ByteArray)) ++ t182).size + 5 ≤ 9223372036854775807) = true := decide_eq_true c20)
    try have c20b2 : (9223372036854775807 < ((((((⟨#[107, 101, 121, 32]⟩ : ByteArray) ++ t180) ++ (⟨#[32, 108, 111, 103, 32]⟩ : ByteArray)) ++ t181) ++ (⟨#[32, 98, 111, 117, 110, 100, 32]⟩ : ByteArray)) ++ t182).size + 5) = False := eq_false (Nat.not_lt.2 c20)
    try have c20b3 := c20b2
    try simp only [ByteArray.size_append, show (⟨#[107, 101, 121, 32]⟩ : ByteArray).size = 4 from rfl, show (⟨#[32, 108, 111, 103, 32]⟩ : ByteArray).size = 5 from rfl, show (⟨#[32, 98, 111, 117, 110, 100, 32]⟩ : ByteArray).size = 7 from rfl] at c20b3
    obtain ⟨t183, A21, H⟩ := qX H
    try dsimp only at H
    (obtain ⟨c22, H⟩ := qU H); (have c22b0 := eq_true c22); (have c22b1 : decide ((((((((⟨#[107, 101, 121, 32]⟩ : ByteArray) ++ t180) ++ (⟨#[32, 108, 111, 103, 32]⟩ : ByteArray)) ++ t181) ++ (⟨#[32, 98, 111, 117, 110, 100, 32]⟩ : ByteArray)) ++ t182) ++ (⟨#[32, 99, 97, 112, 32]⟩ : ByteArray)).size + t183.size ≤ 9223372036854775807) = true := decide_eq_true c22)
    try have c22b2 : (9223372036854775807 < (((((((⟨#[107, 101, 121, 32]⟩ : ByteArray) ++ t180) ++ (⟨#[32, 108, 111, 103, 32]⟩ : ByteArray)) ++ t181) ++ (⟨#[32, 98, 111, 117, 110, 100, 32]⟩ : ByteArray)) ++ t182) ++ (⟨#[32, 99, 97, 112, 32]⟩ : ByteArray)).size + t183.size) = False := eq_false (Nat.not_lt.2 c22)
    try have c22b3 := c22b2
    try simp only [ByteArray.size_append, show (⟨#[107, 101, 121, 32]⟩ : ByteArray).size = 4 from rfl, show (⟨#[32, 108, 111, 103, 32]⟩ : ByteArray).size = 5 from rfl, show (⟨#[32, 98, 111, 117, 110, 100, 32]⟩ : ByteArray).size = 7 from rfl, show (⟨#[32, 99, 97, 112, 32]⟩ : ByteArray).size = 5 from rfl] at c22b3
    obtain rfl := Option.some.inj H
    try go_wp2
    (replace BK178 := Aside0.mk (blk_drew BK178.out)); (replace HB := Aside0.mk (below_drew1 HB.out))
    refine start_ (n := 20) (S := fun w' => w'.cell? ⟨gb178, 0, none⟩ = some (.int .i64 a0_0) ∧ w'.cell? ⟨gb178, 1, none⟩ = some (.int .i64 a0_1) ∧ w'.cell? ⟨gb178, 2, none⟩ = some (.int .i64 a0_2) ∧ w'.cell? ⟨gb178, 3, none⟩ = some (.int .i64 a0_3)) (ds := []) #[false, false, false, false, false, false, false, false, false, false, false, false, false, false, false, false, false, false, false, false] (by kernel_rfl) rfl rfl ⟨(blk_cell BK178.out 0).trans rfl, (blk_cell BK178.out 1).trans rfl, (blk_cell BK178.out 2).trans rfl, (blk_cell BK178.out 3).trans rfl⟩ (fun hHeld => ?_); refine with_tabW impl_confText.tab3 impl_confText.bits3 (fun HT_ HW_ => ?_)
    generalize wc.drew = w23 at BK178 HB hHeld ⊢
    refine pure_ (i := 0) (N := some 11) (v := ?_) (a' := ?_) #[true, false, false, false, false, false, false, false, false, false, false, false, false, false, false, false, false, false, false, false] rfl rfl (any_of HT_.out (by kernel_rfl)) (fun _ _ _ h => h) (Or.inl ⟨by rfl, ?_⟩) ?_ ?_
    rotate_left
    ·intro w'
     go_simp
     with_reducible rfl
    rotate_left
    ·exact qPu
    refine pure_ (i := 5) (N := some 16) (v := ?_) (a' := ?_) #[true, false, false, false, false, true, false, false, false, false, false, false, false, false, false, false, false, false, false, false] rfl rfl (any_of HT_.out (by kernel_rfl)) (fun _ _ _ h => h) (Or.inl ⟨by rfl, ?_⟩) ?_ ?_
    rotate_left
    ·intro w'
     go_simp
     with_reducible rfl
    rotate_left
    ·exact qPu
    refine pure_ (i := 10) (N := some 21) (v := ?_) (a' := ?_) #[true, false, false, false, false, true, false, false, false, false, true, false, false, false, false, false, false, false, false, false] rfl rfl (any_of HT_.out (by kernel_rfl)) (fun _ _ _ h => h) (Or.inl ⟨by rfl, ?_⟩) ?_ ?_
    rotate_left
    ·intro w'
     go_simp
     with_reducible rfl
    rotate_left
    ·exact qPu
    refine pure_ (i := 15) (N := some 26) (v := ?_) (a' := ?_) #[true, false, false, false, false, true, false, false, false, false, true, false, false, false, false, true, false, false, false, false] rfl rfl (any_of HT_.out (by kernel_rfl)) (fun _ _ _ h => h) (Or.inl ⟨by rfl, ?_⟩) ?_ ?_
    rotate_left
    ·intro w'
     go_simp
     with_reducible rfl
    rotate_left
    ·exact qPu
    refine take_ (i := 1) (N := some 12) (v := ?_) (a' := ?_) #[true, true, false, false, false, true, false, false, false, false, true, false, false, false, false, true, false, false, false, false] rfl rfl (take_ofW HT_.out HW_.out (by kernel_rfl)) (fun _ _ _ h => h) (Or.inl ⟨by rfl, ?_⟩) hHeld ?_ ?_
    rotate_left
    ·rintro w' ⟨s0, s1, s2, s3⟩
     go_simp
     with_reducible rfl
    rotate_left
    ·exact qPu
    refine take_ (i := 6) (N := some 17) (v := ?_) (a' := ?_) #[true, true, false, false, false, true, true, false, false, false, true, false, false, false, false, true, false, false, false, false] rfl rfl (take_ofW HT_.out HW_.out (by kernel_rfl)) (fun _ _ _ h => h) (Or.inl ⟨by rfl, ?_⟩) hHeld ?_ ?_
    rotate_left
    ·rintro w' ⟨s0, s1, s2, s3⟩
     go_simp
     with_reducible rfl
    rotate_left
    ·exact qPu
    refine take_ (i := 11) (N := some 22) (v := ?_) (a' := ?_) #[true, true, false, false, false, true, true, false, false, false, true, true, false, false, false, true, false, false, false, false] rfl rfl (take_ofW HT_.out HW_.out (by kernel_rfl)) (fun _ _ _ h => h) (Or.inl ⟨by rfl, ?_⟩) hHeld ?_ ?_
    rotate_left
    ·rintro w' ⟨s0, s1, s2, s3⟩
     go_simp
     with_reducible rfl
    rotate_left
    ·exact qPu
    refine take_ (i := 16) (N := some 27) (v := ?_) (a' := ?_) #[true, true, false, false, false, true, true, false, false, false, true, true, false, false, false, true, true, false, false, false] rfl rfl (take_ofW HT_.out HW_.out (by kernel_rfl)) (fun _ _ _ h => h) (Or.inl ⟨by rfl, ?_⟩) hHeld ?_ ?_
    rotate_left
    ·rintro w' ⟨s0, s1, s2, s3⟩
     go_simp
     with_reducible rfl
    rotate_left
    ·exact qPu
    refine one_ (i := 2) (N := some 13) #[true, true, true, false, false, true, true, false, false, false, true, true, false, false, false, true, true, false, false, false] rfl rfl (one_of HT_.out (by kernel_rfl)) (by decide) (fun K hK => ?_)
    refine goes_ Tryd.func36 (by kernel_rfl) rfl #[.int .i64 a0_0] (by rfl) rfl rfl qL ?_
    with_reducible refine (strconv_Itoa_36.calls a0_0 t180 _ A12.out (G_below (qS0 HB) hG)).mono ?_
    rintro e w24 ⟨rfl, hb⟩
    refine ⟨_, rfl, ?_⟩
    (replace BK178 := qD BK178 hb); (replace HB := Aside0.mk (below_step (qS1 HB GE178) hb)); (try clear hb); (try clear hb2); (try clear hk); (try clear hi)
    refine hK.out _ _ ⟨(blk_cell BK178.out 0).trans rfl, (blk_cell BK178.out 1).trans rfl, (blk_cell BK178.out 2).trans rfl, (blk_cell BK178.out 3).trans rfl⟩ (fun hHeld => ?_)
    clear hK K
    refine norm_ (a' := ?_) ?_ ?_
    rotate_left
    ·show Act.put _ (some 13) _ = _
     exact qPu
    refine pure_ (i := 3) (N := some 14) (v := ?_) (a' := ?_) #[true, true, true, true, false, true, true, false, false, false, true, true, false, false, false, true, true, false, false, false] rfl rfl (any_of HT_.out (by kernel_rfl)) (fun _ _ _ h => h) (Or.inl ⟨by rfl, ?_⟩) ?_ ?_
    rotate_left
    ·intro w'
     go_simp
     with_reducible rfl
    rotate_left
    ·exact qPu
    refine pure_ (i := 4) (N := some 15) (v := ?_) (a' := ?_) #[true, true, true, true, true, true, true, false, false, false, true, true, false, false, false, true, true, false, false, false] rfl rfl (any_of HT_.out (by kernel_rfl)) (fun _ _ _ h => h) (Or.inl ⟨by rfl, ?_⟩) ?_ ?_
    rotate_left
    ·intro w'
     go_simp
     with_reducible rfl
    rotate_left
    ·exact qPu
    refine one_ (i := 7) (N := some 18) #[true, true, true, true, true, true, true, true, false, false, true, true, false, false, false, true, true, false, false, false] rfl rfl (one_of HT_.out (by kernel_rfl)) (by decide) (fun K hK => ?_)
    refine goes_ Tryd.func36 (by kernel_rfl) rfl #[.int .i64 a0_1] (by rfl) rfl rfl qL ?_
    with_reducible refine (strconv_Itoa_36.calls a0_1 t181 _ A15.out (G_below (qS0 HB) hG)).mono ?_
    rintro e w25 ⟨rfl, hb⟩
    refine ⟨_, rfl, ?_⟩
    (replace BK178 := qD BK178 hb); (replace HB := Aside0.mk (below_step (qS1 HB GE178) hb)); (try clear hb); (try clear hb2); (try clear hk); (try clear hi)
    refine hK.out _ _ ⟨(blk_cell BK178.out 0).trans rfl, (blk_cell BK178.out 1).trans rfl, (blk_cell BK178.out 2).trans rfl, (blk_cell BK178.out 3).trans rfl⟩ (fun hHeld => ?_)
    clear hK K
    refine norm_ (a' := ?_) ?_ ?_
    rotate_left
    ·show Act.put _ (some 18) _ = _
     exact qPu
    refine pure_ (i := 8) (N := some 19) (v := ?_) (a' := ?_) #[true, true, true, true, true, true, true, true, true, false, true, true, false, false, false, true, true, false, false, false] rfl rfl (any_of HT_.out (by kernel_rfl)) (fun _ _ _ h => h) (Or.inl ⟨by rfl, ?_⟩) ?_ ?_
    rotate_left
    ·intro w'
     go_simp
     with_reducible rfl
    rotate_left
    ·exact qPu
    refine pure_ (i := 9) (N := some 20) (v := ?_) (a' := ?_) #[true, true, true, true, true, true, true, true, true, true, true, true, false, false, false, true, true, false, false, false] rfl rfl (any_of HT_.out (by kernel_rfl)) (fun _ _ _ h => h) (Or.inl ⟨by rfl, ?_⟩) ?_ ?_
    rotate_left
    ·intro w'
     go_simp
     with_reducible rfl
    rotate_left
    ·exact qPu
    refine one_ (i := 12) (N := some 23) #[true, true, true, true, true, true, true, true, true, true, true, true, true, false, false, true, true, false, false, false] rfl rfl (one_of HT_.out (by kernel_rfl)) (by decide) (fun K hK => ?_)
    refine goes_ Tryd.func36 (by kernel_rfl) rfl #[.int .i64 a0_2] (by rfl) rfl rfl qL ?_
    with_reducible refine (strconv_Itoa_36.calls a0_2 t182 _ A18.out (G_below (qS0 HB) hG)).mono ?_
    rintro e w26 ⟨rfl, hb⟩
    refine ⟨_, rfl, ?_⟩
    (replace BK178 := qD BK178 hb); (replace HB := Aside0.mk (below_step (qS1 HB GE178) hb)); (try clear hb); (try clear hb2); (try clear hk); (try clear hi)
    refine hK.out _ _ ⟨(blk_cell BK178.out 0).trans rfl, (blk_cell BK178.out 1).trans rfl, (blk_cell BK178.out 2).trans rfl, (blk_cell BK178.out 3).trans rfl⟩ (fun hHeld => ?_)
    clear hK K
    refine norm_ (a' := ?_) ?_ ?_
    rotate_left
    ·show Act.put _ (some 23) _ = _
     exact qPu
    refine pure_ (i := 13) (N := some 24) (v := ?_) (a' := ?_) #[true, true, true, true, true, true, true, true, true, true, true, true, true, true, false, true, true, false, false, false] rfl rfl (any_of HT_.out (by kernel_rfl)) (fun _ _ _ h => h) (Or.inl ⟨by rfl, ?_⟩) ?_ ?_
    rotate_left
    ·intro w'
     go_simp
     with_reducible rfl
    rotate_left
    ·exact qPu
    refine pure_ (i := 14) (N := some 25) (v := ?_) (a' := ?_) #[true, true, true, true, true, true, true, true, true, true, true, true, true, true, true, true, true, false, false, false] rfl rfl (any_of HT_.out (by kernel_rfl)) (fun _ _ _ h => h) (Or.inl ⟨by rfl, ?_⟩) ?_ ?_
    rotate_left
    ·intro w'
     go_simp
     with_reducible rfl
    rotate_left
    ·exact qPu
    refine one_ (i := 17) (N := some 28) #[true, true, true, true, true, true, true, true, true, true, true, true, true, true, true, true, true, true, false, false] rfl rfl (one_of HT_.out (by kernel_rfl)) (by decide) (fun K hK => ?_)
    refine goes_ Tryd.func36 (by kernel_rfl) rfl #[.int .i64 a0_3] (by rfl) rfl rfl qL ?_
    with_reducible refine (strconv_Itoa_36.calls a0_3 t183 _ A21.out (G_below (qS0 HB) hG)).mono ?_
    rintro e w27 ⟨rfl, hb⟩
    refine ⟨_, rfl, ?_⟩
    (replace BK178 := qD BK178 hb); (replace HB := Aside0.mk (below_step (qS1 HB GE178) hb)); (try clear hb); (try clear hb2); (try clear hk); (try clear hi)
    refine hK.out _ _ ⟨(blk_cell BK178.out 0).trans rfl, (blk_cell BK178.out 1).trans rfl, (blk_cell BK178.out 2).trans rfl, (blk_cell BK178.out 3).trans rfl⟩ (fun hHeld => ?_)
    clear hK K
    refine norm_ (a' := ?_) ?_ ?_
    rotate_left
    ·show Act.put _ (some 28) _ = _
     exact qPu
    refine pure_ (i := 18) (N := some 29) (v := ?_) (a' := ?_) #[true, true, true, true, true, true, true, true, true, true, true, true, true, true, true, true, true, true, true, false] rfl rfl (any_of HT_.out (by kernel_rfl)) (fun _ _ _ h => h) (Or.inl ⟨by rfl, ?_⟩) ?_ ?_
    rotate_left
    ·intro w'
     go_simp
     with_reducible rfl
    rotate_left
    ·exact qPu
    refine pure_ (i := 19) (N := some 2) (v := ?_) (a' := ?_) #[true, true, true, true, true, true, true, true, true, true, true, true, true, true, true, true, true, true, true, true] rfl rfl (any_of HT_.out (by kernel_rfl)) (fun _ _ _ h => h) (Or.inl ⟨by rfl, ?_⟩) ?_ ?_
    rotate_left
    ·intro w'
     go_simp
     with_reducible rfl
    rotate_left
    ·exact qPu
    refine done_ (done_of HT_.out (by kernel_rfl)) ?_
    try go_wp2
    go_ret
    exact ⟨qE, qS1 HB GE178⟩
def impl_ConfText.f (k : Nat) (a0_0 : Int) (a0_1 : Int) (a0_2 : Int) (a0_3 : Int) : Option (ByteArray) := (impl_confText.f k a0_0 a0_1 a0_2 a0_3).bind fun t185 => (some t185)
theorem impl_ConfText.calls (k : Nat) (a0_0 : Int) (a0_1 : Int) (a0_2 : Int) (a0_3 : Int) (r : ByteArray) (w : World) (h : impl_ConfText.f k a0_0 a0_1 a0_2 a0_3 = some r) (hG : TabG w) :
  Calls Tryd.prog 11 #[.agg #[.int .i64 a0_0, .int .i64 a0_1, .int .i64 a0_2, .int .i64 a0_3]] w fun e w' => e = .returned (.string r) ∧ Below w.heap.size w w' := by
 (have hu31 := Tryd.underlying31); (have HB := Aside0.mk (Below.refl w.heap.size w)); (have H : ((impl_confText.f k a0_0 a0_1 a0_2 a0_3).bind fun t185 => (some t185)) = some r := h); clear h; (obtain ⟨t185, A2, H⟩ := qX H); (replace H : (some t185) = some r := H); (obtain rfl := Option.some.inj H)
 go_enter Tryd.func11, Tryd.ntmps11
 go_wp2_with (first | ((with_reducible refine gate_dst (N := 1) rfl ?_); refine box_event ?hg (N := 1) ?hd (cs := #[.int .i64 a0_0, .int .i64 a0_1, .int .i64 a0_2, .int .i64 a0_3]) (t := 31) ?hr ?_; (case hd => rfl); (case hg => rfl); (case hr => first | (go_simp; done) | (go_simp; rfl)); intro gb184 hg w3 hbox hb; have BK184 := Aside0.mk (hbox); have GW184 := qG hg (below_size (qS0 HB)); have GE184 := qG hg (below_size (qS0 HB)); replace HB := Aside0.mk (below_step (qS0 HB) hb); clear hb hbox hg; obtain ⟨hcz4_0, hcz4_1, hcz4_2, hcz4_3, hfz4_0, hfz4_1, hfz4_2, hfz4_3⟩ := qC4 BK184) | ((with_reducible refine gate_callee (f := 25) rfl ?_); refine goesL_ (some 4) rfl rfl Tryd.func25 (by kernel_rfl) rfl #[.agg #[.int .i64 a0_0, .int .i64 a0_1, .int .i64 a0_2, .int .i64 a0_3]] rfl qL ?_; (with_reducible refine (impl_confText.calls k a0_0 a0_1 a0_2 a0_3 t185 _ A2.out (G_below (qS1 HB GE184) hG)).mono ?_); rintro e w5 ⟨rfl, hb⟩; refine ⟨_, rfl, ?_⟩; replace BK184 := qD BK184 hb; replace HB := Aside0.mk (below_step (qS1 HB GE184) hb); (try clear hb); (try clear hb2); (try clear hk); (try clear hi)))
 go_ret
 exact ⟨qE, qS1 HB GE184⟩
def spec_l16Log.f (a0 : Int) : Option (Bool) := if a0 ≥ 2 then (some (decide (a0 ≤ 6))) else (some false)
theorem spec_l16Log.calls (a0 : Int) (r : Bool) (w : World) (h : spec_l16Log.f a0 = some r) :
  Calls Tryd.prog 46 #[.int .i64 a0] w fun e w' => e = .returned (.bool r) ∧ Drawn0 w w' := by
 (have H : (if a0 ≥ 2 then (some (decide (a0 ≤ 6))) else (some false)) = some r := h); clear h
 rcases qI H with ⟨(c2b0 : decide (2 ≤ a0) = true), H⟩ | ⟨(c2b0 : decide (2 ≤ a0) = false), H⟩
 ·obtain rfl := Option.some.inj H
  go_enter Tryd.func46, Tryd.ntmps46
  go_wp2
  go_ret
  exact qZ
 ·obtain rfl := Option.some.inj H
  go_enter Tryd.func46, Tryd.ntmps46
  go_wp2
  go_ret
  exact qZ
def spec_ConfOk.f (a0_0 : Int) (a0_1 : Int) (a0_2 : Int) (a0_3 : Int) : Option (Bool) := if a0_0 ≥ 0 then (if a0_0 ≤ 4294967295 then ((spec_l16Log.f a0_1).bind fun t187 => (if t187 = true then (if a0_2 ≥ 0 then (if a0_2 ≤ 64 then (if a0_3 ≥ 1 then (some (decide (a0_3 ≤ 64))) else (some false)) else (some false)) else (some false)) else (some false))) else (some false)) else (some false)
theorem spec_ConfOk.calls (a0_0 : Int) (a0_1 : Int) (a0_2 : Int) (a0_3 : Int) (r : Bool) (w : World) (h : spec_ConfOk.f a0_0 a0_1 a0_2 a0_3 = some r) :
  Calls Tryd.prog 26 #[.agg #[.int .i64 a0_0, .int .i64 a0_1, .int .i64 a0_2, .int .i64 a0_3]] w fun e w' => e = .returned (.bool r) ∧ Below w.heap.size w w' := by
 (have hu31 := Tryd.underlying31); (have HB := Aside0.mk (Below.refl w.heap.size w)); (have H : (if a0_0 ≥ 0 then (if a0_0 ≤ 4294967295 then ((spec_l16Log.f a0_1).bind fun t187 => (if t187 = true then (if a0_2 ≥ 0 then (if a0_2 ≤ 64 then (if a0_3 ≥ 1 then (some (decide (a0_3 ≤ 64))) else (some false)) else (some false)) else (some false)) else (some false))) else (some false)) else (some false)) = some r := h); clear h
 rcases qI H with ⟨(c2b0 : decide (0 ≤ a0_0) = true), H⟩ | ⟨(c2b0 : decide (0 ≤ a0_0) = false), H⟩
 ·rcases qI H with ⟨c3b0, H⟩ | ⟨c3b0, H⟩
  ·obtain ⟨t187, A4, H⟩ := qX H
   try dsimp only at H
   by_cases c5 : t187 = true
   ·subst c5
    (have H1 : (if a0_2 ≥ 0 then (if a0_2 ≤ 64 then (if a0_3 ≥ 1 then (some (decide (a0_3 ≤ 64))) else (some false)) else (some false)) else (some false)) = some r := by rw [if_pos rfl] at H; exact H); clear H; (have H := H1); clear H1
    rcases qI H with ⟨(c6b0 : decide (0 ≤ a0_2) = true), H⟩ | ⟨(c6b0 : decide (0 ≤ a0_2) = false), H⟩
    ·rcases qI H with ⟨c7b0, H⟩ | ⟨c7b0, H⟩
     ·rcases qI H with ⟨(c8b0 : decide (1 ≤ a0_3) = true), H⟩ | ⟨(c8b0 : decide (1 ≤ a0_3) = false), H⟩
      ·obtain rfl := Option.some.inj H
       go_enter Tryd.func26, Tryd.ntmps26
       go_wp2_with (first | ((with_reducible refine gate_dst (N := 1) rfl ?_); refine box_event ?hg (N := 1) ?hd (cs := #[.int .i64 a0_0, .int .i64 a0_1, .int .i64 a0_2, .int .i64 a0_3]) (t := 31) ?hr ?_; (case hd => rfl); (case hg => rfl); (case hr => first | (go_simp; done) | (go_simp; rfl)); intro gb186 hg w9 hbox hb; have BK186 := Aside0.mk (hbox); have GW186 := qG hg (below_size (qS0 HB)); have GE186 := qG hg (below_size (qS0 HB)); replace HB := Aside0.mk (below_step (qS0 HB) hb); clear hb hbox hg; obtain ⟨hcz10_0, hcz10_1, hcz10_2, hcz10_3, hfz10_0, hfz10_1, hfz10_2, hfz10_3⟩ := qC4 BK186) | (go_at_call 46; (with_reducible refine (spec_l16Log.calls a0_1 true _ A4.out).mono ?_); rintro e w' ⟨rfl, ⟨nd, rfl⟩⟩))
       go_ret
       exact ⟨qE, qS1 HB GE186⟩
      ·obtain rfl := Option.some.inj H
       go_enter Tryd.func26, Tryd.ntmps26
       go_wp2_with (first | ((with_reducible refine gate_dst (N := 1) rfl ?_); refine box_event ?hg (N := 1) ?hd (cs := #[.int .i64 a0_0, .int .i64 a0_1, .int .i64 a0_2, .int .i64 a0_3]) (t := 31) ?hr ?_; (case hd => rfl); (case hg => rfl); (case hr => first | (go_simp; done) | (go_simp; rfl)); intro gb186 hg w11 hbox hb; have BK186 := Aside0.mk (hbox); have GW186 := qG hg (below_size (qS0 HB)); have GE186 := qG hg (below_size (qS0 HB)); replace HB := Aside0.mk (below_step (qS0 HB) hb); clear hb hbox hg; obtain ⟨hcz12_0, hcz12_1, hcz12_2, hcz12_3, hfz12_0, hfz12_1, hfz12_2, hfz12_3⟩ := qC4 BK186) | (go_at_call 46; (with_reducible refine (spec_l16Log.calls a0_1 true _ A4.out).mono ?_); rintro e w' ⟨rfl, ⟨nd, rfl⟩⟩))
       go_ret
       exact ⟨qE, qS1 HB GE186⟩
     ·obtain rfl := Option.some.inj H
      go_enter Tryd.func26, Tryd.ntmps26
      go_wp2_with (first | ((with_reducible refine gate_dst (N := 1) rfl ?_); refine box_event ?hg (N := 1) ?hd (cs := #[.int .i64 a0_0, .int .i64 a0_1, .int .i64 a0_2, .int .i64 a0_3]) (t := 31) ?hr ?_; (case hd => rfl); (case hg => rfl); (case hr => first | (go_simp; done) | (go_simp; rfl)); intro gb186 hg w13 hbox hb; have BK186 := Aside0.mk (hbox); have GW186 := qG hg (below_size (qS0 HB)); have GE186 := qG hg (below_size (qS0 HB)); replace HB := Aside0.mk (below_step (qS0 HB) hb); clear hb hbox hg; obtain ⟨hcz14_0, hcz14_1, hcz14_2, hcz14_3, hfz14_0, hfz14_1, hfz14_2, hfz14_3⟩ := qC4 BK186) | (go_at_call 46; (with_reducible refine (spec_l16Log.calls a0_1 true _ A4.out).mono ?_); rintro e w' ⟨rfl, ⟨nd, rfl⟩⟩))
      go_ret
      exact ⟨qE, qS1 HB GE186⟩
    ·obtain rfl := Option.some.inj H
     go_enter Tryd.func26, Tryd.ntmps26
     go_wp2_with (first | ((with_reducible refine gate_dst (N := 1) rfl ?_); refine box_event ?hg (N := 1) ?hd (cs := #[.int .i64 a0_0, .int .i64 a0_1, .int .i64 a0_2, .int .i64 a0_3]) (t := 31) ?hr ?_; (case hd => rfl); (case hg => rfl); (case hr => first | (go_simp; done) | (go_simp; rfl)); intro gb186 hg w15 hbox hb; have BK186 := Aside0.mk (hbox); have GW186 := qG hg (below_size (qS0 HB)); have GE186 := qG hg (below_size (qS0 HB)); replace HB := Aside0.mk (below_step (qS0 HB) hb); clear hb hbox hg; obtain ⟨hcz16_0, hcz16_1, hcz16_2, hcz16_3, hfz16_0, hfz16_1, hfz16_2, hfz16_3⟩ := qC4 BK186) | (go_at_call 46; (with_reducible refine (spec_l16Log.calls a0_1 true _ A4.out).mono ?_); rintro e w' ⟨rfl, ⟨nd, rfl⟩⟩))
     go_ret
     exact ⟨qE, qS1 HB GE186⟩
   ·replace c5 := Bool.eq_false_iff.mpr c5
    (subst c5); (have H1 : (some false) = some r := by rw [if_neg (show ¬ (false = true) by decide)] at H; exact H); clear H; (have H := H1); clear H1; (obtain rfl := Option.some.inj H)
    go_enter Tryd.func26, Tryd.ntmps26
    go_wp2_with (first | ((with_reducible refine gate_dst (N := 1) rfl ?_); refine box_event ?hg (N := 1) ?hd (cs := #[.int .i64 a0_0, .int .i64 a0_1, .int .i64 a0_2, .int .i64 a0_3]) (t := 31) ?hr ?_; (case hd => rfl); (case hg => rfl); (case hr => first | (go_simp; done) | (go_simp; rfl)); intro gb186 hg w17 hbox hb; have BK186 := Aside0.mk (hbox); have GW186 := qG hg (below_size (qS0 HB)); have GE186 := qG hg (below_size (qS0 HB)); replace HB := Aside0.mk (below_step (qS0 HB) hb); clear hb hbox hg; obtain ⟨hcz18_0, hcz18_1, hcz18_2, hcz18_3, hfz18_0, hfz18_1, hfz18_2, hfz18_3⟩ := qC4 BK186) | (go_at_call 46; (with_reducible refine (spec_l16Log.calls a0_1 false _ A4.out).mono ?_); rintro e w' ⟨rfl, ⟨nd, rfl⟩⟩))
    go_ret
    exact ⟨qE, qS1 HB GE186⟩
  ·obtain rfl := Option.some.inj H
   go_enter Tryd.func26, Tryd.ntmps26
   go_wp2_with (first | ((with_reducible refine gate_dst (N := 1) rfl ?_); refine box_event ?hg (N := 1) ?hd (cs := #[.int .i64 a0_0, .int .i64 a0_1, .int .i64 a0_2, .int .i64 a0_3]) (t := 31) ?hr ?_; (case hd => rfl); (case hg => rfl); (case hr => first | (go_simp; done) | (go_simp; rfl)); intro gb186 hg w19 hbox hb; have BK186 := Aside0.mk (hbox); have GW186 := qG hg (below_size (qS0 HB)); have GE186 := qG hg (below_size (qS0 HB)); replace HB := Aside0.mk (below_step (qS0 HB) hb); clear hb hbox hg; obtain ⟨hcz20_0, hcz20_1, hcz20_2, hcz20_3, hfz20_0, hfz20_1, hfz20_2, hfz20_3⟩ := qC4 BK186))
   go_ret
   exact ⟨qE, qS1 HB GE186⟩
 ·obtain rfl := Option.some.inj H
  go_enter Tryd.func26, Tryd.ntmps26
  go_wp2_with (first | ((with_reducible refine gate_dst (N := 1) rfl ?_); refine box_event ?hg (N := 1) ?hd (cs := #[.int .i64 a0_0, .int .i64 a0_1, .int .i64 a0_2, .int .i64 a0_3]) (t := 31) ?hr ?_; (case hd => rfl); (case hg => rfl); (case hr => first | (go_simp; done) | (go_simp; rfl)); intro gb186 hg w21 hbox hb; have BK186 := Aside0.mk (hbox); have GW186 := qG hg (below_size (qS0 HB)); have GE186 := qG hg (below_size (qS0 HB)); replace HB := Aside0.mk (below_step (qS0 HB) hb); clear hb hbox hg; obtain ⟨hcz22_0, hcz22_1, hcz22_2, hcz22_3, hfz22_0, hfz22_1, hfz22_2, hfz22_3⟩ := qC4 BK186))
  go_ret
  exact ⟨qE, qS1 HB GE186⟩
def spec_l26Num.f (a0 : Int) : Option (Bool) := if a0 ≥ 0 then (some (decide (a0 ≤ 999999999))) else (some false)
theorem spec_l26Num.calls (a0 : Int) (r : Bool) (w : World) (h : spec_l26Num.f a0 = some r) :
  Calls Tryd.prog 27 #[.int .i64 a0] w fun e w' => e = .returned (.bool r) ∧ Drawn0 w w' := by
 (have H : (if a0 ≥ 0 then (some (decide (a0 ≤ 999999999))) else (some false)) = some r := h); clear h
 rcases qI H with ⟨(c2b0 : decide (0 ≤ a0) = true), H⟩ | ⟨(c2b0 : decide (0 ≤ a0) = false), H⟩
 ·obtain rfl := Option.some.inj H
  go_enter Tryd.func27, Tryd.ntmps27
  go_wp2
  go_ret
  exact qZ
 ·obtain rfl := Option.some.inj H
  go_enter Tryd.func27, Tryd.ntmps27
  go_wp2
  go_ret
  exact qZ
def spec_l04Num.l0 : Nat → Int → List Int → Int → Option (ByteArray)
 | 0, _, _, _ => none
 | k + 1, x0, x3, x4 => if x4 = 0 then (if x0 < 0 then ((some (([45] : List Int) : List Int)).bind fun y191 => (if y191.length + x3.length < 140737488355328 then (some (strOfNums (y191 ++ x3))) else (none))) else (some (strOfNums x3))) else (if (Int.tmod x4 10) < 0 then ((some (([(wrap64 (48 + (wrap64 (-(Int.tmod x4 10))))) % 256] : List Int) : List Int)).bind fun y197 => (if y197.length + x3.length < 140737488355328 then (spec_l04Num.l0 k x0 (y197 ++ x3) (wrap64 (Int.tdiv x4 10))) else (none))) else ((some (([(wrap64 (48 + (Int.tmod x4 10))) % 256] : List Int) : List Int)).bind fun y203 => (if y203.length + x3.length < 140737488355328 then (spec_l04Num.l0 k x0 (y203 ++ x3) (wrap64 (Int.tdiv x4 10))) else (none))))
def spec_l04Num.f (k : Nat) (a0 : Int) : Option (ByteArray) := if a0 = 0 then (some (⟨#[48]⟩ : ByteArray)) else (spec_l04Num.l0 k a0 (([] : List Int)) a0)
theorem spec_l04Num.calls (k : Nat) (a0 : Int) (r : ByteArray) (w : World) (h : spec_l04Num.f k a0 = some r) :
  Calls Tryd.prog 28 #[.int .i64 a0] w fun e w' => e = .returned (.string r) ∧ Below w.heap.size w w' := by
 (have HB := Aside0.mk (Below.refl w.heap.size w)); (have H : (if a0 = 0 then (some (⟨#[48]⟩ : ByteArray)) else (spec_l04Num.l0 k a0 (([] : List Int)) a0)) = some r := h); clear h
 rcases qJ H with ⟨c2, H⟩ | ⟨c2, H⟩
 ·have c2b0 : (a0 == 0) = true := beq_iff_eq.mpr c2
  (have c2b1 : (a0 != 0) = false := bne_eq_false_iff_eq.mpr c2); clear c2; (obtain rfl := Option.some.inj H)
  go_enter Tryd.func28, Tryd.ntmps28
  go_wp2
  go_ret
  exact ⟨qE, qS0 HB⟩
 ·have c2b0 : (a0 == 0) = false := beq_eq_false_iff_ne.mpr c2
  (have c2b1 : (a0 != 0) = true := bne_iff_ne.mpr c2); (obtain ⟨y188, hy188⟩ : ∃ y_ : List Int, y_ = (([] : List Int)) := ⟨_, rfl⟩); (replace H : (spec_l04Num.l0 k a0 y188 a0) = some r := qY hy188 H); (have Ny188 := Aside0.mk hy188); clear hy188; (have H' := Aside0.mk H); clear H
  go_enter Tryd.func28, Tryd.ntmps28
  go_wp2_with (first | ((with_reducible refine gate_dst (N := 8) rfl ?_); refine Kd.R_lit (Kd.int .u8) _ 5 ?hg (N := 8) ?hd (xs := ([] : List Int)) (inner := []) (ok := fun _ => True) (okp := fun _ => True) ?hr ?hp (fun _ hk => hk) trivial (Below.refl _ _) (Nat.le_refl _) (by simp) ?_; (case hd => rfl); (case hg => rfl); (case hr => first | (go_simp; done) | (go_simp; rfl)); (case hp => exact (Reps.none _ _)); intro v189 w3 ho4 hb hg_ hnew_; clear hg_ hnew_; (first | rw [← Ny188.out] at ho4 | (simp only [Int.reduceToNat] at ho4; rw [← Ny188.out] at ho4)); have HO190 := Aside0.mk (Kd.R_lower ho4 (below_size (qS0 HB))); replace HB := Aside0.mk (below_step (qS0 HB) hb); clear hb ho4))
  go_loopg [3, 4] k (fun kq v3 v4 w' => ∃ (x3_1 : List Int) (x4_1 : Int), v4 = .int .i64 x4_1 ∧ Aside0 (spec_l04Num.l0 kq a0 x3_1 x4_1 = some r) ∧ Aside0 (kq ≤ k) ∧ Aside0 (Kd.R (Kd.int .u8) 5 w' w.heap.size (fun _ => True) v3 x3_1) ∧ Aside0 (Below w.heap.size w w'))
  case atStart => exact ⟨(y188), (a0), qV, H', ⟨Nat.le_refl _⟩, ⟨qR HO190⟩, ⟨qS0 HB⟩⟩
  case round =>
   clear H'; (try clear c2b0); (try clear c2b1); (obtain ⟨x3_1, x4_1, rfl, HA, HK1, HO_3, HB⟩ := hrel)
   cases gk with
   | zero => exact absurd HA.out (by simp [spec_l04Num.l0])
   | succ k1 =>
    (have H := HA.out); clear HA; (simp only [spec_l04Num.l0] at H)
    rcases qJ H with ⟨c5, H⟩ | ⟨c5, H⟩
    ·have c5b0 : (x4_1 == 0) = true := beq_iff_eq.mpr c5
     (have c5b1 : (x4_1 != 0) = false := bne_eq_false_iff_eq.mpr c5); clear c5
     rcases qI H with ⟨c6b0, H⟩ | ⟨c6b0, H⟩
     ·obtain ⟨y191, hy191⟩ : ∃ y_ : List Int, y_ = (([45] : List Int)) := ⟨_, rfl⟩
      (replace H : (if y191.length + x3_1.length < 140737488355328 then (some (strOfNums (y191 ++ x3_1))) else (none)) = some r := qY hy191 H); (have Ny191 := Aside0.mk hy191); clear hy191; (obtain ⟨c7, H⟩ := qU H); (have LMc7 := Aside0.mk c7); clear c7; (obtain ⟨y194, hy194⟩ : ∃ y_ : List Int, y_ = (y191 ++ x3_1) := ⟨_, rfl⟩); (replace H : (some (strOfNums y194)) = some r := qY hy194 H); (have Ny194 := Aside0.mk hy194); clear hy194; (obtain rfl := Option.some.inj H)
      go_wp2_with (first | ((with_reducible refine gate_dst (N := 28) rfl ?_); refine Kd.R_lit (Kd.int .u8) _ 5 ?hg (N := 28) ?hd (xs := ([45] : List Int)) (inner := [.int .u8 45]) (ok := fun _ => True) (okp := fun _ => True) ?hr ?hp (fun _ hk => hk) trivial (Below.refl _ _) (Nat.le_refl _) (by simp) ?_; (case hd => rfl); (case hg => rfl); (case hr => first | (go_simp; done) | (go_simp; rfl)); (case hp => exact (Reps.one (show Kd.M (Kd.int .u8) _ _ _ 45 [.int .u8 45] from rfl) (Reps.none _ _))); intro v192 w8 ho9 hb hg_ hnew_; clear hg_ hnew_; (first | rw [← Ny191.out] at ho9 | (simp only [Int.reduceToNat] at ho9; rw [← Ny191.out] at ho9)); have HO193 := Aside0.mk (Kd.R_lower (Kd.R_new' ho9 (Kd.R_lt (qR HO_3))) (below_size (qS0 HB))); replace HO_3 := Aside0.mk (Kd.R_elder' (qR HO_3) (Kd.R_base ho9) hb); replace HB := Aside0.mk (below_step (qS0 HB) hb); clear hb ho9; obtain ⟨Ao11, co11, eo11⟩ := Kd.R_slice HO_3.out; subst eo11) | ((with_reducible refine gate_builtin (b := .append) (xs := #[.tmp 28, .tmp 29]) rfl ?_); at_builtin; refine Kd.R_append_rows (Kd.int .u8) (w0 := w) w.heap.size rfl (.tmp 28) (.tmp 29) 28 5 (.int .u8 0) 1 rfl Tryd.underlying28 info5 rfl (by decide) (by omega) v192 y191 x3_1 _ _ _ (fun k_ => some k_ ≠ (.slice Ao11 x3_1.length co11 : Value).ownBlock) (fun _ => False) rfl rfl ?aO ?aR (fun _ _ h => h) (fun _ h => h.elim) ?aF ?aB ?aS ?aL ?_; (case aR => repeat (first | exact (Kd.R_reads' HO_3.out).2.2 | (with_reducible refine Kd.C_alloc ?_ _) | (with_reducible refine Kd.C_drewN ?_ _) | (with_reducible refine Kd.C_drew ?_))); (case aB => exact (qS0 HB)); (case aF => exact (fun k_ hk => Kd.fresh' (Kd.R_lt (qR HO_3)) k_ hk)); (case aO => exact (by (with_reducible repeat (first | apply Kd.R_alloc | apply Kd.R_drewN | apply Kd.R_drew)); exact Kd.R_mono HO193.out (fun _ hk => hk.2))); (case aS => exact (below_size (qS0 HB))); (case aL => have := LMc7.out; omega); intro v195 w10 ho hb hg hat; rw [← Ny194.out] at ho; replace HO_3 := Aside0.mk (Kd.R_after (ok := (fun _ => True)) (qR HO_3) hg hat); replace HB := Aside0.mk (hb); have HO196 := Aside0.mk (ho); clear HO193 ho hb hg hat; have hcv12 := own_string (P := Tryd.prog) Tryd.underlying28 Tryd.underlying5 Tryd.underlying9 (Kd.own_of_R HO196.out)))
      go_ret
      exact ⟨qE, qS0 HB⟩
     ·obtain rfl := Option.some.inj H
      have hcv13 := own_string (P := Tryd.prog) Tryd.underlying28 Tryd.underlying5 Tryd.underlying9 (Kd.own_of_R HO_3.out)
      go_wp2
      go_ret
      exact ⟨qE, qS0 HB⟩
    ·have c5b0 : (x4_1 == 0) = false := beq_eq_false_iff_ne.mpr c5
     have c5b1 : (x4_1 != 0) = true := bne_iff_ne.mpr c5
     rcases qI H with ⟨c14b0, H⟩ | ⟨c14b0, H⟩
     ·obtain ⟨y197, hy197⟩ : ∃ y_ : List Int, y_ = (([(wrap64 (48 + (wrap64 (-(Int.tmod x4_1 10))))) % 256] : List Int)) := ⟨_, rfl⟩
      (replace H : (if y197.length + x3_1.length < 140737488355328 then (spec_l04Num.l0 k1 a0 (y197 ++ x3_1) (wrap64 (Int.tdiv x4_1 10))) else (none)) = some r := qY hy197 H); (have Ny197 := Aside0.mk hy197); clear hy197; (obtain ⟨c15, H⟩ := qU H); (have LMc15 := Aside0.mk c15); clear c15; (obtain ⟨y200, hy200⟩ : ∃ y_ : List Int, y_ = (y197 ++ x3_1) := ⟨_, rfl⟩); (replace H : (spec_l04Num.l0 k1 a0 y200 (wrap64 (Int.tdiv x4_1 10))) = some r := qY hy200 H); (have Ny200 := Aside0.mk hy200); clear hy200; (have H' := Aside0.mk H); clear H
      go_wp2_with (first | ((with_reducible refine gate_dst (N := 23) rfl ?_); refine Kd.R_lit (Kd.int .u8) _ 5 ?hg (N := 23) ?hd (xs := ([(wrap64 (48 + (wrap64 (-(Int.tmod x4_1 10))))) % 256] : List Int)) (inner := [.int .u8 ((wrap64 (48 + (wrap64 (-(Int.tmod x4_1 10))))) % 256)]) (ok := fun _ => True) (okp := fun _ => True) ?hr ?hp (fun _ hk => hk) trivial (Below.refl _ _) (Nat.le_refl _) (by simp) ?_; (case hd => rfl); (case hg => rfl); (case hr => first | (go_simp; done) | (go_simp; rfl)); (case hp => exact (Reps.one (show Kd.M (Kd.int .u8) _ _ _ ((wrap64 (48 + (wrap64 (-(Int.tmod x4_1 10))))) % 256) [.int .u8 ((wrap64 (48 + (wrap64 (-(Int.tmod x4_1 10))))) % 256)] from rfl) (Reps.none _ _))); intro v198 w16 ho17 hb hg_ hnew_; clear hg_ hnew_; (first | rw [← Ny197.out] at ho17 | (simp only [Int.reduceToNat] at ho17; rw [← Ny197.out] at ho17)); have HO199 := Aside0.mk (Kd.R_lower (Kd.R_new' ho17 (Kd.R_lt (qR HO_3))) (below_size (qS0 HB))); replace HO_3 := Aside0.mk (Kd.R_elder' (qR HO_3) (Kd.R_base ho17) hb); replace HB := Aside0.mk (below_step (qS0 HB) hb); clear hb ho17; obtain ⟨Ao19, co19, eo19⟩ := Kd.R_slice HO_3.out; subst eo19) | ((with_reducible refine gate_builtin (b := .append) (xs := #[.tmp 23, .tmp 24]) rfl ?_); at_builtin; refine Kd.R_append_rows (Kd.int .u8) (w0 := w) w.heap.size rfl (.tmp 23) (.tmp 24) 28 5 (.int .u8 0) 1 rfl Tryd.underlying28 info5 rfl (by decide) (by omega) v198 y197 x3_1 _ _ _ (fun k_ => some k_ ≠ (.slice Ao19 x3_1.length co19 : Value).ownBlock) (fun _ => False) rfl rfl ?aO ?aR (fun _ _ h => h) (fun _ h => h.elim) ?aF ?aB ?aS ?aL ?_; (case aR => repeat (first | exact (Kd.R_reads' HO_3.out).2.2 | (with_reducible refine Kd.C_alloc ?_ _) | (with_reducible refine Kd.C_drewN ?_ _) | (with_reducible refine Kd.C_drew ?_))); (case aB => exact (qS0 HB)); (case aF => exact (fun k_ hk => Kd.fresh' (Kd.R_lt (qR HO_3)) k_ hk)); (case aO => exact (by (with_reducible repeat (first | apply Kd.R_alloc | apply Kd.R_drewN | apply Kd.R_drew)); exact Kd.R_mono HO199.out (fun _ hk => hk.2))); (case aS => exact (below_size (qS0 HB))); (case aL => have := LMc15.out; omega); intro v201 w18 ho hb hg hat; rw [← Ny200.out] at ho; replace HO_3 := Aside0.mk (Kd.R_after (ok := (fun _ => True)) (qR HO_3) hg hat); replace HB := Aside0.mk (hb); have HO202 := Aside0.mk (ho); clear HO199; clear ho hb hg hat))
      go_roundg k1
      case measure => have := HK1.out; omega
      case rel => exact ⟨(y200), (wrap64 (Int.tdiv x4_1 10)), qV, H', ⟨by have := HK1.out; omega⟩, ⟨by (with_reducible repeat (first | apply Kd.R_alloc | apply Kd.R_drewN | apply Kd.R_drew)); exact Kd.R_mono HO202.out (fun _ hk => trivial)⟩, ⟨qS0 HB⟩⟩
     ·obtain ⟨y203, hy203⟩ : ∃ y_ : List Int, y_ = (([(wrap64 (48 + (Int.tmod x4_1 10))) % 256] : List Int)) := ⟨_, rfl⟩
      (replace H : (if y203.length + x3_1.length < 140737488355328 then (spec_l04Num.l0 k1 a0 (y203 ++ x3_1) (wrap64 (Int.tdiv x4_1 10))) else (none)) = some r := qY hy203 H); (have Ny203 := Aside0.mk hy203); clear hy203; (obtain ⟨c20, H⟩ := qU H); (have LMc20 := Aside0.mk c20); clear c20; (obtain ⟨y206, hy206⟩ : ∃ y_ : List Int, y_ = (y203 ++ x3_1) := ⟨_, rfl⟩); (replace H : (spec_l04Num.l0 k1 a0 y206 (wrap64 (Int.tdiv x4_1 10))) = some r := qY hy206 H); (have Ny206 := Aside0.mk hy206); clear hy206; (have H' := Aside0.mk H); clear H
      go_wp2_with (first | ((with_reducible refine gate_dst (N := 23) rfl ?_); refine Kd.R_lit (Kd.int .u8) _ 5 ?hg (N := 23) ?hd (xs := ([(wrap64 (48 + (Int.tmod x4_1 10))) % 256] : List Int)) (inner := [.int .u8 ((wrap64 (48 + (Int.tmod x4_1 10))) % 256)]) (ok := fun _ => True) (okp := fun _ => True) ?hr ?hp (fun _ hk => hk) trivial (Below.refl _ _) (Nat.le_refl _) (by simp) ?_; (case hd => rfl); (case hg => rfl); (case hr => first | (go_simp; done) | (go_simp; rfl)); (case hp => exact (Reps.one (show Kd.M (Kd.int .u8) _ _ _ ((wrap64 (48 + (Int.tmod x4_1 10))) % 256) [.int .u8 ((wrap64 (48 + (Int.tmod x4_1 10))) % 256)] from rfl) (Reps.none _ _))); intro v204 w21 ho22 hb hg_ hnew_; clear hg_ hnew_; (first | rw [← Ny203.out] at ho22 | (simp only [Int.reduceToNat] at ho22; rw [← Ny203.out] at ho22)); have HO205 := Aside0.mk (Kd.R_lower (Kd.R_new' ho22 (Kd.R_lt (qR HO_3))) (below_size (qS0 HB))); replace HO_3 := Aside0.mk (Kd.R_elder' (qR HO_3) (Kd.R_base ho22) hb); replace HB := Aside0.mk (below_step (qS0 HB) hb); clear hb ho22; obtain ⟨Ao24, co24, eo24⟩ := Kd.R_slice HO_3.out; subst eo24) | ((with_reducible refine gate_builtin (b := .append) (xs := #[.tmp 23, .tmp 24]) rfl ?_); at_builtin; refine Kd.R_append_rows (Kd.int .u8) (w0 := w) w.heap.size rfl (.tmp 23) (.tmp 24) 28 5 (.int .u8 0) 1 rfl Tryd.underlying28 info5 rfl (by decide) (by omega) v204 y203 x3_1 _ _ _ (fun k_ => some k_ ≠ (.slice Ao24 x3_1.length co24 : Value).ownBlock) (fun _ => False) rfl rfl ?aO ?aR (fun _ _ h => h) (fun _ h => h.elim) ?aF ?aB ?aS ?aL ?_; (case aR => repeat (first | exact (Kd.R_reads' HO_3.out).2.2 | (with_reducible refine Kd.C_alloc ?_ _) | (with_reducible refine Kd.C_drewN ?_ _) | (with_reducible refine Kd.C_drew ?_))); (case aB => exact (qS0 HB)); (case aF => exact (fun k_ hk => Kd.fresh' (Kd.R_lt (qR HO_3)) k_ hk)); (case aO => exact (by (with_reducible repeat (first | apply Kd.R_alloc | apply Kd.R_drewN | apply Kd.R_drew)); exact Kd.R_mono HO205.out (fun _ hk => hk.2))); (case aS => exact (below_size (qS0 HB))); (case aL => have := LMc20.out; omega); intro v207 w23 ho hb hg hat; rw [← Ny206.out] at ho; replace HO_3 := Aside0.mk (Kd.R_after (ok := (fun _ => True)) (qR HO_3) hg hat); replace HB := Aside0.mk (hb); have HO208 := Aside0.mk (ho); clear HO205; clear ho hb hg hat))
      go_roundg k1
      case measure => have := HK1.out; omega
      case rel => exact ⟨(y206), (wrap64 (Int.tdiv x4_1 10)), qV, H', ⟨by have := HK1.out; omega⟩, ⟨by (with_reducible repeat (first | apply Kd.R_alloc | apply Kd.R_drewN | apply Kd.R_drew)); exact Kd.R_mono HO208.out (fun _ hk => trivial)⟩, ⟨qS0 HB⟩⟩
def spec_ConfText.j0 : Nat → Bool → Int → Int → Int → Int → Option (ByteArray)
 | 0, _, _, _, _, _ => none
 | k + 1, x11, x210000, x210001, x210002, x210003 => if x11 = true then (some (⟨#[]⟩ : ByteArray)) else ((spec_l04Num.f k x210000).bind fun t212 => (if 4 + t212.size ≤ 9223372036854775807 then (if ((⟨#[107, 101, 121, 32]⟩ : ByteArray) ++ t212).size + 5 ≤ 9223372036854775807 then ((spec_l04Num.f k x210001).bind fun t213 => (if (((⟨#[107, 101, 121, 32]⟩ : ByteArray) ++ t212) ++ (⟨#[32, 108, 111, 103, 32]⟩ : ByteArray)).size + t213.size ≤ 9223372036854775807 then (if ((((⟨#[107, 101, 121, 32]⟩ : ByteArray) ++ t212) ++ (⟨#[32, 108, 111, 103, 32]⟩ : ByteArray)) ++ t213).size + 7 ≤ 9223372036854775807 then ((spec_l04Num.f k x210002).bind fun t214 => (if (((((⟨#[107, 101, 121, 32]⟩ : ByteArray) ++ t212) ++ (⟨#[32, 108, 111, 103, 32]⟩ : ByteArray)) ++ t213) ++ (⟨#[32, 98, 111, 117, 110, 100, 32]⟩ : ByteArray)).size + t214.size ≤ 9223372036854775807 then (if ((((((⟨#[107, 101, 121, 32]⟩ : ByteArray) ++ t212) ++ (⟨#[32, 108, 111, 103, 32]⟩ : ByteArray)) ++ t213) ++ (⟨#[32, 98, 111, 117, 110, 100, 32]⟩ : ByteArray)) ++ t214).size + 5 ≤ 9223372036854775807 then ((spec_l04Num.f k x210003).bind fun t215 => (if (((((((⟨#[107, 101, 121, 32]⟩ : ByteArray) ++ t212) ++ (⟨#[32, 108, 111, 103, 32]⟩ : ByteArray)) ++ t213) ++ (⟨#[32, 98, 111, 117, 110, 100, 32]⟩ : ByteArray)) ++ t214) ++ (⟨#[32, 99, 97, 112, 32]⟩ : ByteArray)).size + t215.size ≤ 9223372036854775807 then (some ((((((((⟨#[107, 101, 121, 32]⟩ : ByteArray) ++ t212) ++ (⟨#[32, 108, 111, 103, 32]⟩ : ByteArray)) ++ t213) ++ (⟨#[32, 98, 111, 117, 110, 100, 32]⟩ : ByteArray)) ++ t214) ++ (⟨#[32, 99, 97, 112, 32]⟩ : ByteArray)) ++ t215)) else (none))) else (none)) else (none))) else (none)) else (none))) else (none)) else (none)))
def spec_ConfText.f (k : Nat) (a0_0 : Int) (a0_1 : Int) (a0_2 : Int) (a0_3 : Int) : Option (ByteArray) := (spec_ConfOk.f a0_0 a0_1 a0_2 a0_3).bind fun t210 => (if t210 = true then ((spec_l26Num.f a0_0).bind fun t211 => (spec_ConfText.j0 k (!t211) a0_0 a0_1 a0_2 a0_3)) else (spec_ConfText.j0 k true a0_0 a0_1 a0_2 a0_3))
def spec_ConfText.T3 : Bool × List (List Nat × List Nat) := (true, [([], []), ([0], [0]), ([1], [1]), ([2], [2]), ([3], [3]), ([], []), ([5], [5]), ([6, 2], [6]), ([4, 7], [4, 7]), ([8], [8]), ([], []), ([10], [10]), ([11, 7], [11]), ([9, 12], [9, 12]), ([13], [13]), ([], []), ([15], [15]), ([16, 12], [16]), ([14, 17], [14, 17]), ([18, 17, 0, 1, 2, 3, 4, 5, 6, 7, 8, 9, 10, 11, 12, 13, 14, 15, 16, 17, 18], [18])])
def spec_ConfText.B3 : List Nat := [0, 1, 3, 7, 15, 0, 32, 103, 255, 511, 0, 1024, 3303, 8191, 16383, 0, 32768, 105703, 262143, 524287]
theorem spec_ConfText.tab3 : rtab .any (opsOf Tryd.f13 3) = spec_ConfText.T3 := by kernel_rfl
theorem spec_ConfText.bits3 : waitsOk spec_ConfText.T3.2 spec_ConfText.B3 = true := by kernel_rfl
theorem spec_ConfText.calls (k : Nat) (a0_0 : Int) (a0_1 : Int) (a0_2 : Int) (a0_3 : Int) (r : ByteArray) (w : World) (h : spec_ConfText.f k a0_0 a0_1 a0_2 a0_3 = some r) :
  Calls Tryd.prog 13 #[.agg #[.int .i64 a0_0, .int .i64 a0_1, .int .i64 a0_2, .int .i64 a0_3]] w fun e w' => e = .returned (.string r) ∧ Below w.heap.size w w' := by
 (have hu31 := Tryd.underlying31); (have HB := Aside0.mk (Below.refl w.heap.size w)); (have H : ((spec_ConfOk.f a0_0 a0_1 a0_2 a0_3).bind fun t210 => (if t210 = true then ((spec_l26Num.f a0_0).bind fun t211 => (spec_ConfText.j0 k (!t211) a0_0 a0_1 a0_2 a0_3)) else (spec_ConfText.j0 k true a0_0 a0_1 a0_2 a0_3))) = some r := h); clear h; (have HC2 := Aside0.mk H); clear H
 go_enter Tryd.func13, Tryd.ntmps13
 go_upto_region 1 with (first | ((with_reducible refine gate_dst (N := 1) rfl ?_); refine box_event ?hg (N := 1) ?hd (cs := #[.int .i64 a0_0, .int .i64 a0_1, .int .i64 a0_2, .int .i64 a0_3]) (t := 31) ?hr ?_; (case hd => rfl); (case hg => rfl); (case hr => first | (go_simp; done) | (go_simp; rfl)); intro gb209 hg w3 hbox hb; have BK209 := Aside0.mk (hbox); have GW209 := qG hg (below_size (qS0 HB)); have GE209 := qG hg (below_size (qS0 HB)); replace HB := Aside0.mk (below_step (qS0 HB) hb); clear hb hbox hg))
 (try simp only [Act.put, List.setIfInBounds_toArray, List.set_cons_zero, List.set_cons_succ])
 go_cut [11] (fun v11 wc => ∃ (kq : Nat) (x11_1 : Bool), v11 = .bool x11_1 ∧ Aside0 (spec_ConfText.j0 kq x11_1 a0_0 a0_1 a0_2 a0_3 = some r) ∧ Aside0 (kq ≤ k) ∧ Aside0 (wc.heap[gb209]? = some (.cells #[.int .i64 a0_0, .int .i64 a0_1, .int .i64 a0_2, .int .i64 a0_3] 31 (0, 0))) ∧ Aside0 (Below w.heap.size w wc))
 case first =>
  (have H := HC2.out); clear HC2; (obtain ⟨t210, A4, H⟩ := qX H)
  try dsimp only at H
  by_cases c5 : t210 = true
  ·subst c5
   (have H1 : ((spec_l26Num.f a0_0).bind fun t211 => (spec_ConfText.j0 k (!t211) a0_0 a0_1 a0_2 a0_3)) = some r := by rw [if_pos rfl] at H; exact H); clear H; (have H := H1); clear H1; (obtain ⟨t211, A6, H⟩ := qX H); (replace H : (spec_ConfText.j0 k (!t211) a0_0 a0_1 a0_2 a0_3) = some r := H); (have H' := Aside0.mk H); clear H; (obtain ⟨hcz7_0, hcz7_1, hcz7_2, hcz7_3, hfz7_0, hfz7_1, hfz7_2, hfz7_3⟩ := qC4 BK209)
   go_wp2_with (first | ((with_reducible refine gate_callee (f := 26) rfl ?_); refine goesL_ (some 4) rfl rfl Tryd.func26 (by kernel_rfl) rfl #[.agg #[.int .i64 a0_0, .int .i64 a0_1, .int .i64 a0_2, .int .i64 a0_3]] rfl qL ?_; (with_reducible refine (spec_ConfOk.calls a0_0 a0_1 a0_2 a0_3 true _ A4.out).mono ?_); rintro e w8 ⟨rfl, hb⟩; refine ⟨_, rfl, ?_⟩; replace BK209 := qD BK209 hb; replace HB := Aside0.mk (below_step (qS1 HB GE209) hb); (try clear hb); (try clear hb2); (try clear hk); (try clear hi); obtain ⟨hcz9_0, hcz9_1, hcz9_2, hcz9_3, hfz9_0, hfz9_1, hfz9_2, hfz9_3⟩ := qC4 BK209) | (go_at_call 27; (with_reducible refine (spec_l26Num.calls a0_0 t211 _ A6.out).mono ?_); rintro e w' ⟨rfl, ⟨nd, rfl⟩⟩))
   go_meet
   case rel => exact ⟨_, (!t211), qV, H', ⟨by first | omega | exact Nat.le_refl _⟩, ⟨qB BK209⟩, ⟨qS1 HB GE209⟩⟩
  ·replace c5 := Bool.eq_false_iff.mpr c5
   (subst c5); (have H1 : (spec_ConfText.j0 k true a0_0 a0_1 a0_2 a0_3) = some r := by rw [if_neg (show ¬ (false = true) by decide)] at H; exact H); clear H; (have H := H1); clear H1; (have H' := Aside0.mk H); clear H; (obtain ⟨hcz10_0, hcz10_1, hcz10_2, hcz10_3, hfz10_0, hfz10_1, hfz10_2, hfz10_3⟩ := qC4 BK209)
   go_wp2_with (first | ((with_reducible refine gate_callee (f := 26) rfl ?_); refine goesL_ (some 4) rfl rfl Tryd.func26 (by kernel_rfl) rfl #[.agg #[.int .i64 a0_0, .int .i64 a0_1, .int .i64 a0_2, .int .i64 a0_3]] rfl qL ?_; (with_reducible refine (spec_ConfOk.calls a0_0 a0_1 a0_2 a0_3 false _ A4.out).mono ?_); rintro e w11 ⟨rfl, hb⟩; refine ⟨_, rfl, ?_⟩; replace BK209 := qD BK209 hb; replace HB := Aside0.mk (below_step (qS1 HB GE209) hb); (try clear hb); (try clear hb2); (try clear hk); (try clear hi)))
   go_meet
   case rel => exact ⟨_, (true), qV, H', ⟨by first | omega | exact Nat.le_refl _⟩, ⟨qB BK209⟩, ⟨qS1 HB GE209⟩⟩
 case rest =>
  clear HC2; (try clear c5); (try clear hcz10_0); (try clear hcz10_1); (try clear hcz10_2); (try clear hcz10_3); (try clear hcz7_0); (try clear hcz7_1); (try clear hcz7_2); (try clear hcz7_3); (try clear hcz9_0); (try clear hcz9_1); (try clear hcz9_2); (try clear hcz9_3); (try clear hfz10_0); (try clear hfz10_1); (try clear hfz10_2); (try clear hfz10_3); (try clear hfz7_0); (try clear hfz7_1); (try clear hfz7_2); (try clear hfz7_3); (try clear hfz9_0); (try clear hfz9_1); (try clear hfz9_2); (try clear hfz9_3); (obtain ⟨kq, x11_1, rfl, HA, HJ1, BK209, HB⟩ := hcut)
  cases kq with
  | zero => exact absurd HA.out (by simp [spec_ConfText.j0])
  | succ kj1 =>
   (have H := HA.out); clear HA; (simp only [spec_ConfText.j0] at H)
   by_cases c12 : x11_1 = true
   ·subst c12
    (have H1 : (some (⟨#[]⟩ : ByteArray)) = some r := by rw [if_pos rfl] at H; exact H); clear H; (have H := H1); clear H1; (obtain rfl := Option.some.inj H)
    go_wp2
    go_ret
    exact ⟨qE, qS1 HB GE209⟩
   ·replace c12 := Bool.eq_false_iff.mpr c12
    (subst c12); (have H1 : ((spec_l04Num.f kj1 a0_0).bind fun t212 => (if 4 + t212.size ≤ 9223372036854775807 then (if ((⟨#[107, 101, 121, 32]⟩ : ByteArray) ++ t212).size + 5 ≤ 9223372036854775807 then ((spec_l04Num.f kj1 a0_1).bind fun t213 => (if (((⟨#[107, 101, 121, 32]⟩ : ByteArray) ++ t212) ++ (⟨#[32, 108, 111, 103, 32]⟩ : ByteArray)).size + t213.size ≤ 9223372036854775807 then (if ((((⟨#[107, 101, 121, 32]⟩ : ByteArray) ++ t212) ++ (⟨#[32, 108, 111, 103, 32]⟩ : ByteArray)) ++ t213).size + 7 ≤ 9223372036854775807 then ((spec_l04Num.f kj1 a0_2).bind fun t214 => (if (((((⟨#[107, 101, 121, 32]⟩ : ByteArray) ++ t212) ++ (⟨#[32, 108, 111, 103, 32]⟩ : ByteArray)) ++ t213) ++ (⟨#[32, 98, 111, 117, 110, 100, 32]⟩ : ByteArray)).size + t214.size ≤ 9223372036854775807 then (if ((((((⟨#[107, 101, 121, 32]⟩ : ByteArray) ++ t212) ++ (⟨#[32, 108, 111, 103, 32]⟩ : ByteArray)) ++ t213) ++ (⟨#[32, 98, 111, 117, 110, 100, 32]⟩ : ByteArray)) ++ t214).size + 5 ≤ 9223372036854775807 then ((spec_l04Num.f kj1 a0_3).bind fun t215 => (if (((((((⟨#[107, 101, 121, 32]⟩ : ByteArray) ++ t212) ++ (⟨#[32, 108, 111, 103, 32]⟩ : ByteArray)) ++ t213) ++ (⟨#[32, 98, 111, 117, 110, 100, 32]⟩ : ByteArray)) ++ t214) ++ (⟨#[32, 99, 97, 112, 32]⟩ : ByteArray)).size + t215.size ≤ 9223372036854775807 then (some ((((((((⟨#[107, 101, 121, 32]⟩ : ByteArray) ++ t212) ++ (⟨#[32, 108, 111, 103, 32]⟩ : ByteArray)) ++ t213) ++ (⟨#[32, 98, 111, 117, 110, 100, 32]⟩ : ByteArray)) ++ t214) ++ (⟨#[32, 99, 97, 112, 32]⟩ : ByteArray)) ++ t215)) else (none))) else (none)) else (none))) else (none)) else (none))) else (none)) else (none))) = some r := by rw [if_neg (show ¬ (false = true) by decide)] at H; exact H); clear H; (have H := H1); clear H1; (obtain ⟨t212, A13, H⟩ := qX H)
    try dsimp only at H
    (obtain ⟨c14, H⟩ := qU H); (have c14b0 := eq_true c14); (have c14b1 : decide (4 + t212.size ≤ 9223372036854775807) = true := decide_eq_true c14)
    try have c14b2 : (9223372036854775807 < 4 + t212.size) = False := eq_false (Nat.not_lt.2 c14)
    (obtain ⟨c15, H⟩ := qU H); (have c15b0 := eq_true c15); (have c15b1 : decide (((⟨#[107, 101, 121, 32]⟩ : ByteArray) ++ t212).size + 5 ≤ 9223372036854775807) = true := decide_eq_true c15)
    try have c15b2 : (9223372036854775807 < ((⟨#[107, 101, 121, 32]⟩ : ByteArray) ++ t212).size + 5) = False := eq_false (Nat.not_lt.2 c15)
    try have c15b3 := c15b2
    try simp only [ByteArray.size_append, show (⟨#[107, 101, 121, 32]⟩ : ByteArray).size = 4 from rfl] at c15b3
    obtain ⟨t213, A16, H⟩ := qX H
    try dsimp only at H
    (obtain ⟨c17, H⟩ := qU H); (have c17b0 := eq_true c17); (have c17b1 : decide ((((⟨#[107, 101, 121, 32]⟩ : ByteArray) ++ t212) ++ (⟨#[32, 108, 111, 103, 32]⟩ : ByteArray)).size + t213.size ≤ 9223372036854775807) = true := decide_eq_true c17)
    try have c17b2 : (9223372036854775807 < (((⟨#[107, 101, 121, 32]⟩ : ByteArray) ++ t212) ++ (⟨#[32, 108, 111, 103, 32]⟩ : ByteArray)).size + t213.size) = False := eq_false (Nat.not_lt.2 c17)
    try have c17b3 := c17b2
    try simp only [ByteArray.size_append, show (⟨#[107, 101, 121, 32]⟩ : ByteArray).size = 4 from rfl, show (⟨#[32, 108, 111, 103, 32]⟩ : ByteArray).size = 5 from rfl] at c17b3
    (obtain ⟨c18, H⟩ := qU H); (have c18b0 := eq_true c18); (have c18b1 : decide (((((⟨#[107, 101, 121, 32]⟩ : ByteArray) ++ t212) ++ (⟨#[32, 108, 111, 103, 32]⟩ : ByteArray)) ++ t213).size + 7 ≤ 9223372036854775807) = true := decide_eq_true c18)
    try have c18b2 : (9223372036854775807 < ((((⟨#[107, 101, 121, 32]⟩ : ByteArray) ++ t212) ++ (⟨#[32, 108, 111, 103, 32]⟩ : ByteArray)) ++ t213).size + 7) = False := eq_false (Nat.not_lt.2 c18)
    try have c18b3 := c18b2
    try simp only [ByteArray.size_append, show (⟨#[107, 101, 121, 32]⟩ : ByteArray).size = 4 from rfl, show (⟨#[32, 108, 111, 103, 32]⟩ : ByteArray).size = 5 from rfl] at c18b3
    obtain ⟨t214, A19, H⟩ := qX H
    try dsimp only at H
    (obtain ⟨c20, H⟩ := qU H); (have c20b0 := eq_true c20); (have c20b1 : decide ((((((⟨#[107, 101, 121, 32]⟩ : ByteArray) ++ t212) ++ (⟨#[32, 108, 111, 103, 32]⟩ : ByteArray)) ++ t213) ++ (⟨#[32, 98, 111, 117, 110, 100, 32]⟩ : ByteArray)).size + t214.size ≤ 9223372036854775807) = true := decide_eq_true c20)
    try have c20b2 : (9223372036854775807 < (((((⟨#[107, 101, 121, 32]⟩ : ByteArray) ++ t212) ++ (⟨#[32, 108, 111, 103, 32]⟩ : ByteArray)) ++ t213) ++ (⟨#[32, 98, 111, 117, 110, 100, 32]⟩ : ByteArray)).size + t214.size) = False := eq_false (Nat.not_lt.2 c20)
    try have c20b3 := c20b2
    try simp only [ByteArray.size_append, show (⟨#[107, 101, 121, 32]⟩ : ByteArray).size = 4 from rfl, show (⟨#[32, 108, 111, 103, 32]⟩ : ByteArray).size = 5 from rfl, show (⟨#[32, 98, 111, 117, 110, 100, 32]⟩ : ByteArray).size = 7 from rfl] at c20b3
    (obtain ⟨c21, H⟩ := qU H); (have c21b0 := eq_true c21); (have c21b1 : decide (((((((⟨#[107, 101, 121, 32]⟩ : ByteArray) ++ t212) ++ (⟨#[32, 108, 111, 103, 32]⟩ : ByteArray)) ++ t213) ++ (⟨#[32, 98, 111, 117, 110, 100, 32]⟩ : ByteArray)) ++ t214).size + 5 ≤ 9223372036854775807) = true := decide_eq_true c21)
    try have c21b2 : (9223372036854775807 < ((((((⟨#[107, 101, 121, 32]⟩ : ByteArray) ++ t212) ++ (⟨#[32, 108, 111, 103, 32]⟩ : ByteArray)) ++ t213) ++ (⟨#[32, 98, 111, 117, 110, 100, 32]⟩ : ByteArray)) ++ t214).size + 5) = False := eq_false (Nat.not_lt.2 c21)
    try have c21b3 := c21b2
    try simp only [ByteArray.size_append, show (⟨#[107, 101, 121, 32]⟩ : ByteArray).size = 4 from rfl, show (⟨#[32, 108, 111, 103, 32]⟩ : ByteArray).size = 5 from rfl, show (⟨#[32, 98, 111, 117, 110, 100, 32]⟩ : ByteArray).size = 7 from rfl] at c21b3
    obtain ⟨t215, A22, H⟩ := qX H
    try dsimp only at H
    (obtain ⟨c23, H⟩ := qU H); (have c23b0 := eq_true c23); (have c23b1 : decide ((((((((⟨#[107, 101, 121, 32]⟩ : ByteArray) ++ t212) ++ (⟨#[32, 108, 111, 103, 32]⟩ : ByteArray)) ++ t213) ++ (⟨#[32, 98, 111, 117, 110, 100, 32]⟩ : ByteArray)) ++ t214) ++ (⟨#[32, 99, 97, 112, 32]⟩ : ByteArray)).size + t215.size ≤ 9223372036854775807) = true := decide_eq_true c23)
    try have c23b2 : (9223372036854775807 < (((((((⟨#[107, 101, 121, 32]⟩ : ByteArray) ++ t212) ++ (⟨#[32, 108, 111, 103, 32]⟩ : ByteArray)) ++ t213) ++ (⟨#[32, 98, 111, 117, 110, 100, 32]⟩ : ByteArray)) ++ t214) ++ (⟨#[32, 99, 97, 112, 32]⟩ : ByteArray)).size + t215.size) = False := eq_false (Nat.not_lt.2 c23)
    try have c23b3 := c23b2
    try simp only [ByteArray.size_append, show (⟨#[107, 101, 121, 32]⟩ : ByteArray).size = 4 from rfl, show (⟨#[32, 108, 111, 103, 32]⟩ : ByteArray).size = 5 from rfl, show (⟨#[32, 98, 111, 117, 110, 100, 32]⟩ : ByteArray).size = 7 from rfl, show (⟨#[32, 99, 97, 112, 32]⟩ : ByteArray).size = 5 from rfl] at c23b3
    obtain rfl := Option.some.inj H
    try go_wp2
    (replace BK209 := Aside0.mk (blk_drew BK209.out)); (replace HB := Aside0.mk (below_drew1 HB.out))
    refine start_ (n := 20) (S := fun w' => w'.cell? ⟨gb209, 0, none⟩ = some (.int .i64 a0_0) ∧ w'.cell? ⟨gb209, 1, none⟩ = some (.int .i64 a0_1) ∧ w'.cell? ⟨gb209, 2, none⟩ = some (.int .i64 a0_2) ∧ w'.cell? ⟨gb209, 3, none⟩ = some (.int .i64 a0_3)) (ds := []) #[false, false, false, false, false, false, false, false, false, false, false, false, false, false, false, false, false, false, false, false] (by kernel_rfl) rfl rfl ⟨(blk_cell BK209.out 0).trans rfl, (blk_cell BK209.out 1).trans rfl, (blk_cell BK209.out 2).trans rfl, (blk_cell BK209.out 3).trans rfl⟩ (fun hHeld => ?_); refine with_tabW spec_ConfText.tab3 spec_ConfText.bits3 (fun HT_ HW_ => ?_)
    generalize wc.drew = w24 at BK209 HB hHeld ⊢
    refine pure_ (i := 0) (N := some 12) (v := ?_) (a' := ?_) #[true, false, false, false, false, false, false, false, false, false, false, false, false, false, false, false, false, false, false, false] rfl rfl (any_of HT_.out (by kernel_rfl)) (fun _ _ _ h => h) (Or.inl ⟨by rfl, ?_⟩) ?_ ?_
    rotate_left
    ·intro w'
     go_simp
     with_reducible rfl
    rotate_left
    ·exact qPu
    refine pure_ (i := 5) (N := some 17) (v := ?_) (a' := ?_) #[true, false, false, false, false, true, false, false, false, false, false, false, false, false, false, false, false, false, false, false] rfl rfl (any_of HT_.out (by kernel_rfl)) (fun _ _ _ h => h) (Or.inl ⟨by rfl, ?_⟩) ?_ ?_
    rotate_left
    ·intro w'
     go_simp
     with_reducible rfl
    rotate_left
    ·exact qPu
    refine pure_ (i := 10) (N := some 22) (v := ?_) (a' := ?_) #[true, false, false, false, false, true, false, false, false, false, true, false, false, false, false, false, false, false, false, false] rfl rfl (any_of HT_.out (by kernel_rfl)) (fun _ _ _ h => h) (Or.inl ⟨by rfl, ?_⟩) ?_ ?_
    rotate_left
    ·intro w'
     go_simp
     with_reducible rfl
    rotate_left
    ·exact qPu
    refine pure_ (i := 15) (N := some 27) (v := ?_) (a' := ?_) #[true, false, false, false, false, true, false, false, false, false, true, false, false, false, false, true, false, false, false, false] rfl rfl (any_of HT_.out (by kernel_rfl)) (fun _ _ _ h => h) (Or.inl ⟨by rfl, ?_⟩) ?_ ?_
    rotate_left
    ·intro w'
     go_simp
     with_reducible rfl
    rotate_left
    ·exact qPu
    refine take_ (i := 1) (N := some 13) (v := ?_) (a' := ?_) #[true, true, false, false, false, true, false, false, false, false, true, false, false, false, false, true, false, false, false, false] rfl rfl (take_ofW HT_.out HW_.out (by kernel_rfl)) (fun _ _ _ h => h) (Or.inl ⟨by rfl, ?_⟩) hHeld ?_ ?_
    rotate_left
    ·rintro w' ⟨s0, s1, s2, s3⟩
     go_simp
     with_reducible rfl
    rotate_left
    ·exact qPu
    refine take_ (i := 6) (N := some 18) (v := ?_) (a' := ?_) #[true, true, false, false, false, true, true, false, false, false, true, false, false, false, false, true, false, false, false, false] rfl rfl (take_ofW HT_.out HW_.out (by kernel_rfl)) (fun _ _ _ h => h) (Or.inl ⟨by rfl, ?_⟩) hHeld ?_ ?_
    rotate_left
    ·rintro w' ⟨s0, s1, s2, s3⟩
     go_simp
     with_reducible rfl
    rotate_left
    ·exact qPu
    refine take_ (i := 11) (N := some 23) (v := ?_) (a' := ?_) #[true, true, false, false, false, true, true, false, false, false, true, true, false, false, false, true, false, false, false, false] rfl rfl (take_ofW HT_.out HW_.out (by kernel_rfl)) (fun _ _ _ h => h) (Or.inl ⟨by rfl, ?_⟩) hHeld ?_ ?_
    rotate_left
    ·rintro w' ⟨s0, s1, s2, s3⟩
     go_simp
     with_reducible rfl
    rotate_left
    ·exact qPu
    refine take_ (i := 16) (N := some 28) (v := ?_) (a' := ?_) #[true, true, false, false, false, true, true, false, false, false, true, true, false, false, false, true, true, false, false, false] rfl rfl (take_ofW HT_.out HW_.out (by kernel_rfl)) (fun _ _ _ h => h) (Or.inl ⟨by rfl, ?_⟩) hHeld ?_ ?_
    rotate_left
    ·rintro w' ⟨s0, s1, s2, s3⟩
     go_simp
     with_reducible rfl
    rotate_left
    ·exact qPu
    refine one_ (i := 2) (N := some 14) #[true, true, true, false, false, true, true, false, false, false, true, true, false, false, false, true, true, false, false, false] rfl rfl (one_of HT_.out (by kernel_rfl)) (by decide) (fun K hK => ?_)
    refine goes_ Tryd.func28 (by kernel_rfl) rfl #[.int .i64 a0_0] (by rfl) rfl rfl qL ?_
    with_reducible refine (spec_l04Num.calls kj1 a0_0 t212 _ A13.out).mono ?_
    rintro e w25 ⟨rfl, hb⟩
    refine ⟨_, rfl, ?_⟩
    (replace BK209 := qD BK209 hb); (replace HB := Aside0.mk (below_step (qS1 HB GE209) hb)); (try clear hb); (try clear hb2); (try clear hk); (try clear hi)
    refine hK.out _ _ ⟨(blk_cell BK209.out 0).trans rfl, (blk_cell BK209.out 1).trans rfl, (blk_cell BK209.out 2).trans rfl, (blk_cell BK209.out 3).trans rfl⟩ (fun hHeld => ?_)
    clear hK K
    refine norm_ (a' := ?_) ?_ ?_
    rotate_left
    ·show Act.put _ (some 14) _ = _
     exact qPu
    refine pure_ (i := 3) (N := some 15) (v := ?_) (a' := ?_) #[true, true, true, true, false, true, true, false, false, false, true, true, false, false, false, true, true, false, false, false] rfl rfl (any_of HT_.out (by kernel_rfl)) (fun _ _ _ h => h) (Or.inl ⟨by rfl, ?_⟩) ?_ ?_
    rotate_left
    ·intro w'
     go_simp
     with_reducible rfl
    rotate_left
    ·exact qPu
    refine pure_ (i := 4) (N := some 16) (v := ?_) (a' := ?_) #[true, true, true, true, true, true, true, false, false, false, true, true, false, false, false, true, true, false, false, false] rfl rfl (any_of HT_.out (by kernel_rfl)) (fun _ _ _ h => h) (Or.inl ⟨by rfl, ?_⟩) ?_ ?_
    rotate_left
    ·intro w'
     go_simp
     with_reducible rfl
    rotate_left
    ·exact qPu
    refine one_ (i := 7) (N := some 19) #[true, true, true, true, true, true, true, true, false, false, true, true, false, false, false, true, true, false, false, false] rfl rfl (one_of HT_.out (by kernel_rfl)) (by decide) (fun K hK => ?_)
    refine goes_ Tryd.func28 (by kernel_rfl) rfl #[.int .i64 a0_1] (by rfl) rfl rfl qL ?_
    with_reducible refine (spec_l04Num.calls kj1 a0_1 t213 _ A16.out).mono ?_
    rintro e w26 ⟨rfl, hb⟩
    refine ⟨_, rfl, ?_⟩
    (replace BK209 := qD BK209 hb); (replace HB := Aside0.mk (below_step (qS1 HB GE209) hb)); (try clear hb); (try clear hb2); (try clear hk); (try clear hi)
    refine hK.out _ _ ⟨(blk_cell BK209.out 0).trans rfl, (blk_cell BK209.out 1).trans rfl, (blk_cell BK209.out 2).trans rfl, (blk_cell BK209.out 3).trans rfl⟩ (fun hHeld => ?_)
    clear hK K
    refine norm_ (a' := ?_) ?_ ?_
    rotate_left
    ·show Act.put _ (some 19) _ = _
     exact qPu
    refine pure_ (i := 8) (N := some 20) (v := ?_) (a' := ?_) #[true, true, true, true, true, true, true, true, true, false, true, true, false, false, false, true, true, false, false, false] rfl rfl (any_of HT_.out (by kernel_rfl)) (fun _ _ _ h => h) (Or.inl ⟨by rfl, ?_⟩) ?_ ?_
    rotate_left
    ·intro w'
     go_simp
     with_reducible rfl
    rotate_left
    ·exact qPu
    refine pure_ (i := 9) (N := some 21) (v := ?_) (a' := ?_) #[true, true, true, true, true, true, true, true, true, true, true, true, false, false, false, true, true, false, false, false] rfl rfl (any_of HT_.out (by kernel_rfl)) (fun _ _ _ h => h) (Or.inl ⟨by rfl, ?_⟩) ?_ ?_
    rotate_left
    ·intro w'
     go_simp
     with_reducible rfl
    rotate_left
    ·exact qPu
    refine one_ (i := 12) (N := some 24) #[true, true, true, true, true, true, true, true, true, true, true, true, true, false, false, true, true, false, false, false] rfl rfl (one_of HT_.out (by kernel_rfl)) (by decide) (fun K hK => ?_)
    refine goes_ Tryd.func28 (by kernel_rfl) rfl #[.int .i64 a0_2] (by rfl) rfl rfl qL ?_
    with_reducible refine (spec_l04Num.calls kj1 a0_2 t214 _ A19.out).mono ?_
    rintro e w27 ⟨rfl, hb⟩
    refine ⟨_, rfl, ?_⟩
    (replace BK209 := qD BK209 hb); (replace HB := Aside0.mk (below_step (qS1 HB GE209) hb)); (try clear hb); (try clear hb2); (try clear hk); (try clear hi)
    refine hK.out _ _ ⟨(blk_cell BK209.out 0).trans rfl, (blk_cell BK209.out 1).trans rfl, (blk_cell BK209.out 2).trans rfl, (blk_cell BK209.out 3).trans rfl⟩ (fun hHeld => ?_)
    clear hK K
    refine norm_ (a' := ?_) ?_ ?_
    rotate_left
    ·show Act.put _ (some 24) _ = _
     exact qPu
    refine pure_ (i := 13) (N := some 25) (v := ?_) (a' := ?_) #[true, true, true, true, true, true, true, true, true, true, true, true, true, true, false, true, true, false, false, false] rfl rfl (any_of HT_.out (by kernel_rfl)) (fun _ _ _ h => h) (Or.inl ⟨by rfl, ?_⟩) ?_ ?_
    rotate_left
    ·intro w'
     go_simp
     with_reducible rfl
    rotate_left
    ·exact qPu
    refine pure_ (i := 14) (N := some 26) (v := ?_) (a' := ?_) #[true, true, true, true, true, true, true, true, true, true, true, true, true, true, true, true, true, false, false, false] rfl rfl (any_of HT_.out (by kernel_rfl)) (fun _ _ _ h => h) (Or.inl ⟨by rfl, ?_⟩) ?_ ?_
    rotate_left
    ·intro w'
     go_simp
     with_reducible rfl
    rotate_left
    ·exact qPu
    refine one_ (i := 17) (N := some 29) #[true, true, true, true, true, true, true, true, true, true, true, true, true, true, true, true, true, true, false, false] rfl rfl (one_of HT_.out (by kernel_rfl)) (by decide) (fun K hK => ?_)
    refine goes_ Tryd.func28 (by kernel_rfl) rfl #[.int .i64 a0_3] (by rfl) rfl rfl qL ?_
    with_reducible refine (spec_l04Num.calls kj1 a0_3 t215 _ A22.out).mono ?_
    rintro e w28 ⟨rfl, hb⟩
    refine ⟨_, rfl, ?_⟩
    (replace BK209 := qD BK209 hb); (replace HB := Aside0.mk (below_step (qS1 HB GE209) hb)); (try clear hb); (try clear hb2); (try clear hk); (try clear hi)
    refine hK.out _ _ ⟨(blk_cell BK209.out 0).trans rfl, (blk_cell BK209.out 1).trans rfl, (blk_cell BK209.out 2).trans rfl, (blk_cell BK209.out 3).trans rfl⟩ (fun hHeld => ?_)
    clear hK K
    refine norm_ (a' := ?_) ?_ ?_
    rotate_left
    ·show Act.put _ (some 29) _ = _
     exact qPu
    refine pure_ (i := 18) (N := some 30) (v := ?_) (a' := ?_) #[true, true, true, true, true, true, true, true, true, true, true, true, true, true, true, true, true, true, true, false] rfl rfl (any_of HT_.out (by kernel_rfl)) (fun _ _ _ h => h) (Or.inl ⟨by rfl, ?_⟩) ?_ ?_
    rotate_left
    ·intro w'
     go_simp
     with_reducible rfl
    rotate_left
    ·exact qPu
    refine pure_ (i := 19) (N := some 2) (v := ?_) (a' := ?_) #[true, true, true, true, true, true, true, true, true, true, true, true, true, true, true, true, true, true, true, true] rfl rfl (any_of HT_.out (by kernel_rfl)) (fun _ _ _ h => h) (Or.inl ⟨by rfl, ?_⟩) ?_ ?_
    rotate_left
    ·intro w'
     go_simp
     with_reducible rfl
    rotate_left
    ·exact qPu
    refine done_ (done_of HT_.out (by kernel_rfl)) ?_
    try go_wp2
    go_ret
    exact ⟨qE, qS1 HB GE209⟩
def spec_l18Shape.f (a0 : Int) (a1 : Int) : Option (Bool) := if a0 = 6 then (if a1 ≥ 1 then (some (decide (a1 ≤ 16))) else (some false)) else (if a0 ≥ 1 then (if a0 ≤ 6 then (some (a1 == 0)) else (some false)) else (some false))
theorem spec_l18Shape.calls (a0 : Int) (a1 : Int) (r : Bool) (w : World) (h : spec_l18Shape.f a0 a1 = some r) :
  Calls Tryd.prog 47 #[.int .i64 a0, .int .i64 a1] w fun e w' => e = .returned (.bool r) ∧ Drawn0 w w' := by
 (have H : (if a0 = 6 then (if a1 ≥ 1 then (some (decide (a1 ≤ 16))) else (some false)) else (if a0 ≥ 1 then (if a0 ≤ 6 then (some (a1 == 0)) else (some false)) else (some false))) = some r := h); clear h
 rcases qJ H with ⟨c3, H⟩ | ⟨c3, H⟩
 ·have c3b0 : (a0 == 6) = true := beq_iff_eq.mpr c3
  (have c3b1 : (a0 != 6) = false := bne_eq_false_iff_eq.mpr c3); clear c3
  rcases qI H with ⟨(c4b0 : decide (1 ≤ a1) = true), H⟩ | ⟨(c4b0 : decide (1 ≤ a1) = false), H⟩
  ·obtain rfl := Option.some.inj H
   go_enter Tryd.func47, Tryd.ntmps47
   go_wp2
   go_ret
   exact qZ
  ·obtain rfl := Option.some.inj H
   go_enter Tryd.func47, Tryd.ntmps47
   go_wp2
   go_ret
   exact qZ
 ·have c3b0 : (a0 == 6) = false := beq_eq_false_iff_ne.mpr c3
  have c3b1 : (a0 != 6) = true := bne_iff_ne.mpr c3
  rcases qI H with ⟨(c5b0 : decide (1 ≤ a0) = true), H⟩ | ⟨(c5b0 : decide (1 ≤ a0) = false), H⟩
  ·rcases qI H with ⟨c6b0, H⟩ | ⟨c6b0, H⟩
   ·obtain rfl := Option.some.inj H
    go_enter Tryd.func47, Tryd.ntmps47
    go_wp2
    go_ret
    exact qZ
   ·obtain rfl := Option.some.inj H
    go_enter Tryd.func47, Tryd.ntmps47
    go_wp2
    go_ret
    exact qZ
  ·obtain rfl := Option.some.inj H
   go_enter Tryd.func47, Tryd.ntmps47
   go_wp2
   go_ret
   exact qZ
def spec_ReqOk.f (a0_0 : Int) (a0_1 : ByteArray) (a0_2 : Int) (a0_3 : Int) (a0_4 : Int) (a0_5 : Int) (a0_6 : ByteArray) : Option (Bool) := (spec_l18Shape.f a0_0 a0_5).bind fun t217 => (if t217 = true then (if (a0_1.size : Int) ≤ 100 then (some (decide ((a0_6.size : Int) ≤ 2000))) else (some false)) else (some false))
theorem spec_ReqOk.calls (a0_0 : Int) (a0_1 : ByteArray) (a0_2 : Int) (a0_3 : Int) (a0_4 : Int) (a0_5 : Int) (a0_6 : ByteArray) (r : Bool) (w : World) (h : spec_ReqOk.f a0_0 a0_1 a0_2 a0_3 a0_4 a0_5 a0_6 = some r) :
  Calls Tryd.prog 29 #[.agg #[.int .i64 a0_0, .string a0_1, .int .i64 a0_2, .int .i64 a0_3, .int .i64 a0_4, .int .i64 a0_5, .string a0_6]] w fun e w' => e = .returned (.bool r) ∧ Below w.heap.size w w' := by
 (have hu23 := Tryd.underlying23); (have HB := Aside0.mk (Below.refl w.heap.size w)); (have H : ((spec_l18Shape.f a0_0 a0_5).bind fun t217 => (if t217 = true then (if (a0_1.size : Int) ≤ 100 then (some (decide ((a0_6.size : Int) ≤ 2000))) else (some false)) else (some false))) = some r := h); clear h; (obtain ⟨t217, A2, H⟩ := qX H)
 try dsimp only at H
 by_cases c3 : t217 = true
 ·subst c3
  (have H1 : (if (a0_1.size : Int) ≤ 100 then (some (decide ((a0_6.size : Int) ≤ 2000))) else (some false)) = some r := by rw [if_pos rfl] at H; exact H); clear H; (have H := H1); clear H1
  rcases qJ H with ⟨c4, H⟩ | ⟨c4, H⟩
  ·have c4b0 : decide ((a0_1.size : Int) ≤ 100) = true := decide_eq_true c4
   (have c4b1 : decide (a0_1.size ≤ 100) = true := decide_eq_true (by omega)); clear c4; (obtain rfl := Option.some.inj H)
   go_enter Tryd.func29, Tryd.ntmps29
   go_wp2_with (first | ((with_reducible refine gate_dst (N := 1) rfl ?_); (try (refine gate_guard (by rfl) ?_; dsimp only)); refine box_event ?hg (N := 1) ?hd (cs := #[.int .i64 a0_0, .string a0_1, .int .i64 a0_2, .int .i64 a0_3, .int .i64 a0_4, .int .i64 a0_5, .string a0_6]) (t := 23) ?hr ?_; (case hd => rfl); (case hg => rfl); (case hr => first | (go_simp; done) | (go_simp; rfl)); intro gb216 hg w5 hbox hb; have BK216 := Aside0.mk (hbox); have GW216 := qG hg (below_size (qS0 HB)); have GE216 := qG hg (below_size (qS0 HB)); replace HB := Aside0.mk (below_step (qS0 HB) hb); clear hb hbox hg; obtain ⟨hcz6_0, hcz6_1, hcz6_2, hcz6_3, hcz6_4, hcz6_5, hcz6_6, hfz6_0, hfz6_1, hfz6_2, hfz6_3, hfz6_4, hfz6_5, hfz6_6⟩ := qC7 BK216) | ((with_reducible refine gate_callee (f := 47) rfl ?_); refine goesL_ (some 7) rfl rfl Tryd.func47 (by kernel_rfl) rfl #[.int .i64 a0_0, .int .i64 a0_5] rfl qL ?_; (with_reducible refine (spec_l18Shape.calls a0_0 a0_5 true _ A2.out).mono ?_); rintro e w' ⟨rfl, ⟨nd, rfl⟩⟩; refine ⟨_, rfl, ?_⟩))
   go_ret
   exact ⟨qE, qS1 HB GE216⟩
  ·have c4b0 : decide ((a0_1.size : Int) ≤ 100) = false := decide_eq_false c4
   (have c4b1 : decide (a0_1.size ≤ 100) = false := decide_eq_false (by omega)); clear c4; (obtain rfl := Option.some.inj H)
   go_enter Tryd.func29, Tryd.ntmps29
   go_wp2_with (first | ((with_reducible refine gate_dst (N := 1) rfl ?_); (try (refine gate_guard (by rfl) ?_; dsimp only)); refine box_event ?hg (N := 1) ?hd (cs := #[.int .i64 a0_0, .string a0_1, .int .i64 a0_2, .int .i64 a0_3, .int .i64 a0_4, .int .i64 a0_5, .string a0_6]) (t := 23) ?hr ?_; (case hd => rfl); (case hg => rfl); (case hr => first | (go_simp; done) | (go_simp; rfl)); intro gb216 hg w7 hbox hb; have BK216 := Aside0.mk (hbox); have GW216 := qG hg (below_size (qS0 HB)); have GE216 := qG hg (below_size (qS0 HB)); replace HB := Aside0.mk (below_step (qS0 HB) hb); clear hb hbox hg; obtain ⟨hcz8_0, hcz8_1, hcz8_2, hcz8_3, hcz8_4, hcz8_5, hcz8_6, hfz8_0, hfz8_1, hfz8_2, hfz8_3, hfz8_4, hfz8_5, hfz8_6⟩ := qC7 BK216) | ((with_reducible refine gate_callee (f := 47) rfl ?_); refine goesL_ (some 7) rfl rfl Tryd.func47 (by kernel_rfl) rfl #[.int .i64 a0_0, .int .i64 a0_5] rfl qL ?_; (with_reducible refine (spec_l18Shape.calls a0_0 a0_5 true _ A2.out).mono ?_); rintro e w' ⟨rfl, ⟨nd, rfl⟩⟩; refine ⟨_, rfl, ?_⟩))
   go_ret
   exact ⟨qE, qS1 HB GE216⟩
 ·replace c3 := Bool.eq_false_iff.mpr c3
  (subst c3); (have H1 : (some false) = some r := by rw [if_neg (show ¬ (false = true) by decide)] at H; exact H); clear H; (have H := H1); clear H1; (obtain rfl := Option.some.inj H)
  go_enter Tryd.func29, Tryd.ntmps29
  go_wp2_with (first | ((with_reducible refine gate_dst (N := 1) rfl ?_); (try (refine gate_guard (by rfl) ?_; dsimp only)); refine box_event ?hg (N := 1) ?hd (cs := #[.int .i64 a0_0, .string a0_1, .int .i64 a0_2, .int .i64 a0_3, .int .i64 a0_4, .int .i64 a0_5, .string a0_6]) (t := 23) ?hr ?_; (case hd => rfl); (case hg => rfl); (case hr => first | (go_simp; done) | (go_simp; rfl)); intro gb216 hg w9 hbox hb; have BK216 := Aside0.mk (hbox); have GW216 := qG hg (below_size (qS0 HB)); have GE216 := qG hg (below_size (qS0 HB)); replace HB := Aside0.mk (below_step (qS0 HB) hb); clear hb hbox hg; obtain ⟨hcz10_0, hcz10_1, hcz10_2, hcz10_3, hcz10_4, hcz10_5, hcz10_6, hfz10_0, hfz10_1, hfz10_2, hfz10_3, hfz10_4, hfz10_5, hfz10_6⟩ := qC7 BK216) | ((with_reducible refine gate_callee (f := 47) rfl ?_); refine goesL_ (some 7) rfl rfl Tryd.func47 (by kernel_rfl) rfl #[.int .i64 a0_0, .int .i64 a0_5] rfl qL ?_; (with_reducible refine (spec_l18Shape.calls a0_0 a0_5 false _ A2.out).mono ?_); rintro e w' ⟨rfl, ⟨nd, rfl⟩⟩; refine ⟨_, rfl, ?_⟩))
  go_ret
  exact ⟨qE, qS1 HB GE216⟩
def spec_l01Gap.f (a0 : Int) : Option (Bool) := if a0 = 9 then (some true) else (if a0 = 10 then (some true) else (if a0 = 13 then (some true) else (some (a0 == 32))))
theorem spec_l01Gap.calls (a0 : Int) (r : Bool) (w : World) (h : spec_l01Gap.f a0 = some r) :
  Calls Tryd.prog 48 #[.int .u8 a0] w fun e w' => e = .returned (.bool r) ∧ Drawn0 w w' := by
 (have H : (if a0 = 9 then (some true) else (if a0 = 10 then (some true) else (if a0 = 13 then (some true) else (some (a0 == 32))))) = some r := h); clear h
 rcases qJ H with ⟨c2, H⟩ | ⟨c2, H⟩
 ·have c2b0 : (a0 == 9) = true := beq_iff_eq.mpr c2
  (have c2b1 : (a0 != 9) = false := bne_eq_false_iff_eq.mpr c2); clear c2; (obtain rfl := Option.some.inj H)
  go_enter Tryd.func48, Tryd.ntmps48
  go_wp2
  go_ret
  exact qZ
 ·have c2b0 : (a0 == 9) = false := beq_eq_false_iff_ne.mpr c2
  have c2b1 : (a0 != 9) = true := bne_iff_ne.mpr c2
  rcases qJ H with ⟨c3, H⟩ | ⟨c3, H⟩
  ·have c3b0 : (a0 == 10) = true := beq_iff_eq.mpr c3
   (have c3b1 : (a0 != 10) = false := bne_eq_false_iff_eq.mpr c3); clear c3; (obtain rfl := Option.some.inj H)
   go_enter Tryd.func48, Tryd.ntmps48
   go_wp2
   go_ret
   exact qZ
  ·have c3b0 : (a0 == 10) = false := beq_eq_false_iff_ne.mpr c3
   have c3b1 : (a0 != 10) = true := bne_iff_ne.mpr c3
   rcases qJ H with ⟨c4, H⟩ | ⟨c4, H⟩
   ·have c4b0 : (a0 == 13) = true := beq_iff_eq.mpr c4
    (have c4b1 : (a0 != 13) = false := bne_eq_false_iff_eq.mpr c4); clear c4; (obtain rfl := Option.some.inj H)
    go_enter Tryd.func48, Tryd.ntmps48
    go_wp2
    go_ret
    exact qZ
   ·have c4b0 : (a0 == 13) = false := beq_eq_false_iff_ne.mpr c4
    (have c4b1 : (a0 != 13) = true := bne_iff_ne.mpr c4); (obtain rfl := Option.some.inj H)
    go_enter Tryd.func48, Tryd.ntmps48
    go_wp2
    go_ret
    exact qZ
def spec_l26Word.l0 : Nat → ByteArray → Int → Option (Bool)
 | 0, _, _ => none
 | k + 1, x0, x3 => if x3 < (x0.size : Int) then (if 0 ≤ x3 then ((spec_l01Gap.f (bt x0 x3)).bind fun t218 => (if t218 = true then (some false) else (spec_l26Word.l0 k x0 (wrap64 (x3 + 1))))) else (none)) else (some (decide ((x0.size : Int) > 0)))
def spec_l26Word.f (k : Nat) (a0 : ByteArray) : Option (Bool) := spec_l26Word.l0 k a0 0
theorem spec_l26Word.calls (k : Nat) (a0 : ByteArray) (r : Bool) (w : World) (h : spec_l26Word.f k a0 = some r) :
  Calls Tryd.prog 30 #[.string a0] w fun e w' => e = .returned (.bool r) ∧ Drawn0 w w' := by
 (have H : (spec_l26Word.l0 k a0 0) = some r := h); clear h; (have H' := Aside0.mk H); clear H
 go_enter Tryd.func30, Tryd.ntmps30
 go_wp2
 go_loopg [3] k (fun kq v3 w' => ∃ (x3_1 : Int), v3 = .int .i64 x3_1 ∧ Aside0 (spec_l26Word.l0 kq a0 x3_1 = some r) ∧ Aside0 (kq ≤ k) ∧ Drawn0 w w')
 case atStart => exact ⟨(0), qV, H', ⟨Nat.le_refl _⟩, by repeat (first | exact Drawn0.refl _ | apply Drawn0.step)⟩
 case round =>
  clear H'; (obtain ⟨x3_1, rfl, HA, HK1, ⟨m1, rfl⟩⟩ := hrel)
  cases gk with
  | zero => exact absurd HA.out (by simp [spec_l26Word.l0])
  | succ k1 =>
   (have H := HA.out); clear HA; (simp only [spec_l26Word.l0] at H)
   rcases qI H with ⟨c2b0, H⟩ | ⟨c2b0, H⟩
   ·obtain ⟨c3b0, H⟩ := qT H
    (obtain ⟨t218, A5, H⟩ := qX H); (replace H : (if t218 = true then (some false) else (spec_l26Word.l0 k1 a0 (wrap64 (x3_1 + 1)))) = some r := H)
    by_cases c6 : t218 = true
    ·subst c6
     (have H1 : (some false) = some r := by rw [if_pos rfl] at H; exact H); clear H; (have H := H1); clear H1; (obtain rfl := Option.some.inj H); (have p4 : 0 ≤ (x3_1 : Int) := qO); (have q4 : x3_1 < (a0.size : Int) := qO); (have hx4 := bt_at a0 x3_1); (replace p4 := eq_true p4); (replace q4 := eq_true q4)
     go_wp2_with (first | ((with_reducible refine gate_callee (f := 48) rfl ?_); refine goesL_ (some 13) rfl rfl Tryd.func48 (by kernel_rfl) rfl #[.int .u8 (bt a0 x3_1)] rfl qL ?_; (with_reducible refine (spec_l01Gap.calls (bt a0 x3_1) true _ A5.out).mono ?_); rintro e w' ⟨rfl, ⟨nd, rfl⟩⟩; refine ⟨_, rfl, ?_⟩))
     go_ret
     exact qZ
    ·replace c6 := Bool.eq_false_iff.mpr c6
     (subst c6); (have H1 : (spec_l26Word.l0 k1 a0 (wrap64 (x3_1 + 1))) = some r := by rw [if_neg (show ¬ (false = true) by decide)] at H; exact H); clear H; (have H := H1); clear H1; (have H' := Aside0.mk H); clear H; (have p4 : 0 ≤ (x3_1 : Int) := qO); (have q4 : x3_1 < (a0.size : Int) := qO); (have hx4 := bt_at a0 x3_1); (replace p4 := eq_true p4); (replace q4 := eq_true q4)
     go_wp2_with (first | ((with_reducible refine gate_callee (f := 48) rfl ?_); refine goesL_ (some 13) rfl rfl Tryd.func48 (by kernel_rfl) rfl #[.int .u8 (bt a0 x3_1)] rfl qL ?_; (with_reducible refine (spec_l01Gap.calls (bt a0 x3_1) false _ A5.out).mono ?_); rintro e w' ⟨rfl, ⟨nd, rfl⟩⟩; refine ⟨_, rfl, ?_⟩))
     go_roundg k1
     case measure => have := HK1.out; omega
     case rel => exact ⟨(wrap64 (x3_1 + 1)), qV, H', ⟨by have := HK1.out; omega⟩, by repeat (first | exact Drawn0.refl _ | apply Drawn0.step)⟩
   ·obtain rfl := Option.some.inj H
    go_wp2
    go_ret
    exact qZ
end Go.Proofs.YtgnbfmoifnfneaaDoor.QA
