/- Part of the proof of the law FnExactSessPair: what it uses of the texts that this session and the kit's print wrote. -/
import Derived.Test.YtppopmajclmhjaaGreatDoorZFnExactSessPairx0
import Derived.Test.YtppopmajclmhjaaGreatDoorZFnExactSessPairx2
import Derived.Test.YtppopmajclmhjaaGreatDoorZFnExactSessPairx3
import Derived.Test.YtppopmajclmhjaaGreatDoorZFnExactSessPairx4
import Derived.Test.YtppopmajclmhjaaGreatDoorZFnExactSessPairx6
import Derived.Test.YtppopmajclmhjaaGreatDoorZFnExactSessPairx7
import Derived.Test.YtppopmajclmhjaaGreatDoorZFnExactSessPairx10
import Derived.Deep.Slices
import Derived.WideShapes
import Derived.ProofKit
import Derived.KernelRfl
namespace Go.Proofs.YtppopmajclmhjaaGreatDoor.QB
open Go.RowKit Go.Proofs.YtppopmajclmhjaaGreatDoorW.PrintWords Go.Proofs.YtppopmajclmhjaaGreatDoorW.PrintLast Go.Proofs.YtppopmajclmhjaaGreatDoorW.PrintMore
attribute [local go_sem] max2_int min2_int max_two min_two max_three min_three max_four min_four
set_option linter.unusedVariables false
set_option linter.unusedSimpArgs false
set_option maxHeartbeats 8000000
set_option maxRecDepth 100000
mutual
def laws_FnExactSessPair.j0 : Nat → List (S48) → List (S48) → List Int → List Int → Bool → List (S56) → List (S56) → List Int → List Int → Bool → Bool → Int → Int → Int → Int → Option (Bool)
 | 0, _, _, _, _, _, _, _, _, _, _, _, _, _, _, _ => none
 | k + 1, x1, x2, x3, x10, x11, x12, x13, x14, x15, x16, x70, x886000, x886001, x886002, x886003 => if x70 = true then (some false) else ((laws_toReqS.f k x1).bind fun t923 => ((laws_eqReqS.f k x12 t923).bind fun t926 => (if t926 = true then ((laws_toReqS.f k x2).bind fun t927 => ((laws_eqReqS.f k x13 t927).bind fun t930 => (if t930 = true then ((laws_toIntS.f k x3).bind fun t931 => ((laws_eqIntS.f k x14 t931).bind fun t934 => (if t934 = true then ((laws_markReqS.f k x12 1).bind fun bt935 => ((laws_markReqS.f k x13 bt935.1).bind fun bt937 => ((laws_markIntS.f k x14 bt937.1).bind fun bt939 => (if bt939.1 < 0 then (laws_FnExactSessPair.j1 k x1 x2 x3 x10 x11 x15 true x886000 x886001 x886002 x886003) else ((laws_eqIntS.f k x15 x10).bind fun t941 => (if t941 = true then (laws_FnExactSessPair.j1 k x1 x2 x3 x10 x11 x15 (x16 != x11) x886000 x886001 x886002 x886003) else (laws_FnExactSessPair.j1 k x1 x2 x3 x10 x11 x15 true x886000 x886001 x886002 x886003))))))) else (some false)))) else (some false)))) else (some false))))
def laws_FnExactSessPair.j1 : Nat → List (S48) → List (S48) → List Int → List Int → Bool → List Int → Bool → Int → Int → Int → Int → Option (Bool)
 | 0, _, _, _, _, _, _, _, _, _, _, _ => none
 | k + 1, x1, x2, x3, x10, x11, x15, x107, x886000, x886001, x886002, x886003 => if x107 = true then (some false) else ((laws_markIntS.f k x15 1).bind fun bt942 => ((laws_heldIntS.f k bt942.2 1).bind fun t944 => (if t944 < 0 then (some false) else (if t944 = bt942.1 then ((laws_toConf.f x886000 x886001 x886002 x886003).bind fun bt945 => ((laws_toReqS.f k x1).bind fun t949 => ((laws_toReqS.f k x2).bind fun t952 => ((laws_toIntS.f k x3).bind fun t955 => ((impl_SessPair.f k bt945.1 bt945.2.1 bt945.2.2.1 bt945.2.2.2 t949 t952 t955).bind fun bt958 => ((laws_eqIntS.f k bt958.1 x10).bind fun t962 => (if t962 = true then (laws_FnExactSessPair.j2 k bt942.2 bt942.1 (bt958.2 != x11)) else (laws_FnExactSessPair.j2 k bt942.2 bt942.1 true)))))))) else (some false)))))
def laws_FnExactSessPair.j2 : Nat → List Int → Int → Bool → Option (Bool)
 | 0, _, _, _ => none
 | k + 1, x15, x18, x139 => if x139 = true then (some false) else ((laws_heldIntS.f k x15 1).bind fun t963 => (if t963 < 0 then (some false) else (if t963 = x18 then (some true) else (some false))))
end
def laws_FnExactSessPair.f (k : Nat) (a0_0 : Int) (a0_1 : Int) (a0_2 : Int) (a0_3 : Int) (l1 : List (S48)) (l2 : List (S48)) (l3 : List Int) : Option (Bool) := if (l3.length : Int) > 1048576 then (some true) else ((laws_szReqS.f k l1 1048576).bind fun t886 => (if t886 < 0 then (some true) else ((laws_szReqS.f k l2 t886).bind fun t887 => (if t887 < 0 then (some true) else ((laws_toConf.f a0_0 a0_1 a0_2 a0_3).bind fun bt888 => ((laws_toReqS.f k l1).bind fun t892 => ((laws_toReqS.f k l2).bind fun t895 => ((laws_toIntS.f k l3).bind fun t898 => ((spec_SessPair.f k bt888.1 bt888.2.1 bt888.2.2.1 bt888.2.2.2 t892 t895 t898).bind fun bt901 => ((laws_toReqS.f k l1).bind fun t905 => ((laws_toReqS.f k l2).bind fun t908 => ((laws_toIntS.f k l3).bind fun t911 => ((laws_toConf.f a0_0 a0_1 a0_2 a0_3).bind fun bt914 => ((impl_SessPair.f k bt914.1 bt914.2.1 bt914.2.2.1 bt914.2.2.2 t905 t908 t911).bind fun bt918 => ((laws_eqIntS.f k bt918.1 bt901.1).bind fun t922 => (if t922 = true then (laws_FnExactSessPair.j0 k l1 l2 l3 bt901.1 bt901.2 t905 t908 t911 bt918.1 bt918.2 (bt918.2 != bt901.2) a0_0 a0_1 a0_2 a0_3) else (laws_FnExactSessPair.j0 k l1 l2 l3 bt901.1 bt901.2 t905 t908 t911 bt918.1 bt918.2 true a0_0 a0_1 a0_2 a0_3)))))))))))))))))
theorem laws_FnExactSessPair.calls (k : Nat) (a0_0 : Int) (a0_1 : Int) (a0_2 : Int) (a0_3 : Int) (A1 : Option Addr) (c1 : Nat) (l1 : List (S48)) (A2 : Option Addr) (c2 : Nat) (l2 : List (S48)) (A3 : Option Addr) (c3 : Nat) (l3 : List Int) (r : Bool) (w : World) (hr1 : Kd.C k48 w A1 l1.length l1) (hc1 : l1.length ≤ c1) (hr2 : Kd.C k48 w A2 l2.length l2) (hc2 : l2.length ≤ c2) (hr3 : Kd.C (Kd.int .i64) w A3 l3.length l3) (hc3 : l3.length ≤ c3) (h : laws_FnExactSessPair.f k a0_0 a0_1 a0_2 a0_3 l1 l2 l3 = some r) (hG : TabG w) :
  Calls Tryz.prog 4 #[.agg #[.int .i64 a0_0, .int .i64 a0_1, .int .i64 a0_2, .int .i64 a0_3], .slice A1 l1.length c1, .slice A2 l2.length c2, .slice A3 l3.length c3] w fun e w' => e = .returned (.bool r) ∧ Below w.heap.size w w' := by
 (have hu23 := Tryz.underlying23); (have HR1 := Aside0.mk hr1); (have HC1 := Aside0.mk hc1); clear hr1 hc1; (have HR2 := Aside0.mk hr2); (have HC2 := Aside0.mk hc2); clear hr2 hc2; (have HR3 := Aside0.mk hr3); (have HC3 := Aside0.mk hc3); clear hr3 hc3; (have HB := Aside0.mk (Below.refl w.heap.size w)); (have H : (if (l3.length : Int) > 1048576 then (some true) else ((laws_szReqS.f k l1 1048576).bind fun t886 => (if t886 < 0 then (some true) else ((laws_szReqS.f k l2 t886).bind fun t887 => (if t887 < 0 then (some true) else ((laws_toConf.f a0_0 a0_1 a0_2 a0_3).bind fun bt888 => ((laws_toReqS.f k l1).bind fun t892 => ((laws_toReqS.f k l2).bind fun t895 => ((laws_toIntS.f k l3).bind fun t898 => ((spec_SessPair.f k bt888.1 bt888.2.1 bt888.2.2.1 bt888.2.2.2 t892 t895 t898).bind fun bt901 => ((laws_toReqS.f k l1).bind fun t905 => ((laws_toReqS.f k l2).bind fun t908 => ((laws_toIntS.f k l3).bind fun t911 => ((laws_toConf.f a0_0 a0_1 a0_2 a0_3).bind fun bt914 => ((impl_SessPair.f k bt914.1 bt914.2.1 bt914.2.2.1 bt914.2.2.2 t905 t908 t911).bind fun bt918 => ((laws_eqIntS.f k bt918.1 bt901.1).bind fun t922 => (if t922 = true then (laws_FnExactSessPair.j0 k l1 l2 l3 bt901.1 bt901.2 t905 t908 t911 bt918.1 bt918.2 (bt918.2 != bt901.2) a0_0 a0_1 a0_2 a0_3) else (laws_FnExactSessPair.j0 k l1 l2 l3 bt901.1 bt901.2 t905 t908 t911 bt918.1 bt918.2 true a0_0 a0_1 a0_2 a0_3)))))))))))))))))) = some r := h); clear h
 rcases qJ H with ⟨c5, H⟩ | ⟨c5, H⟩
 ·have c5b0 : decide (1048576 < (l3.length : Int)) = true := decide_eq_true c5
  (have c5b1 : decide (1048576 < l3.length) = true := decide_eq_true (by omega)); clear c5; (obtain rfl := Option.some.inj H)
  go_enter Tryz.func4, Tryz.ntmps4
  go_wp2_with (first | ((with_reducible refine gate_dst (N := 4) rfl ?_); refine box_event ?hg (N := 4) ?hd (cs := #[.int .i64 a0_0, .int .i64 a0_1, .int .i64 a0_2, .int .i64 a0_3]) (t := 23) ?hr ?_; (case hd => rfl); (case hg => rfl); (case hr => first | (go_simp; done) | (go_simp; rfl)); intro gb885 hg w6 hbox hb; have BK885 := Aside0.mk (hbox); have GW885 := qG hg (below_size (qS0 HB)); have GE885 := qG hg (below_size (qS0 HB)); replace HB := Aside0.mk (below_step (qS0 HB) hb); clear hb hbox hg))
  go_ret
  exact ⟨qE, qS1 HB GE885⟩
 ·have c5b0 : decide (1048576 < (l3.length : Int)) = false := decide_eq_false c5
  (have c5b1 : decide (1048576 < l3.length) = false := decide_eq_false (by omega)); clear c5; (obtain ⟨t886, A7, H⟩ := qX H)
  try dsimp only at H
  rcases qI H with ⟨c8b0, H⟩ | ⟨c8b0, H⟩
  ·obtain rfl := Option.some.inj H
   go_enter Tryz.func4, Tryz.ntmps4
   go_wp2_with (first | ((with_reducible refine gate_dst (N := 4) rfl ?_); refine box_event ?hg (N := 4) ?hd (cs := #[.int .i64 a0_0, .int .i64 a0_1, .int .i64 a0_2, .int .i64 a0_3]) (t := 23) ?hr ?_; (case hd => rfl); (case hg => rfl); (case hr => first | (go_simp; done) | (go_simp; rfl)); intro gb885 hg w9 hbox hb; have BK885 := Aside0.mk (hbox); have GW885 := qG hg (below_size (qS0 HB)); have GE885 := qG hg (below_size (qS0 HB)); replace HB := Aside0.mk (below_step (qS0 HB) hb); clear hb hbox hg) | ((with_reducible refine gate_callee (f := 6) rfl ?_); refine goesL_ (some 27) rfl rfl Tryz.func6 (by kernel_rfl) rfl #[.slice A1 l1.length c1, .int .i64 1048576] rfl qL ?_; (with_reducible refine (laws_szReqS.calls k _ _ l1 1048576 t886 _ ?side1 ?side2 A7.out).mono ?_); (case side1 => exact qW (Kd.C_below HR1.out HB.out)); (case side2 => exact HC1.out); rintro e w10 ⟨rfl, hb⟩; refine ⟨_, rfl, ?_⟩; replace BK885 := qD BK885 hb; replace HB := Aside0.mk (below_step (qS1 HB GE885) hb); (try clear hb); (try clear hb2); (try clear hk); (try clear hi)))
   go_ret
   exact ⟨qE, qS1 HB GE885⟩
  ·obtain ⟨t887, A11, H⟩ := qX H
   try dsimp only at H
   rcases qI H with ⟨c12b0, H⟩ | ⟨c12b0, H⟩
   ·obtain rfl := Option.some.inj H
    go_enter Tryz.func4, Tryz.ntmps4
    go_wp2_with (first | ((with_reducible refine gate_dst (N := 4) rfl ?_); refine box_event ?hg (N := 4) ?hd (cs := #[.int .i64 a0_0, .int .i64 a0_1, .int .i64 a0_2, .int .i64 a0_3]) (t := 23) ?hr ?_; (case hd => rfl); (case hg => rfl); (case hr => first | (go_simp; done) | (go_simp; rfl)); intro gb885 hg w13 hbox hb; have BK885 := Aside0.mk (hbox); have GW885 := qG hg (below_size (qS0 HB)); have GE885 := qG hg (below_size (qS0 HB)); replace HB := Aside0.mk (below_step (qS0 HB) hb); clear hb hbox hg) | ((with_reducible refine gate_callee (f := 6) rfl ?_); refine goesL_ (some 27) rfl rfl Tryz.func6 (by kernel_rfl) rfl #[.slice A1 l1.length c1, .int .i64 1048576] rfl qL ?_; (with_reducible refine (laws_szReqS.calls k _ _ l1 1048576 t886 _ ?side1 ?side2 A7.out).mono ?_); (case side1 => exact qW (Kd.C_below HR1.out HB.out)); (case side2 => exact HC1.out); rintro e w14 ⟨rfl, hb⟩; refine ⟨_, rfl, ?_⟩; replace BK885 := qD BK885 hb; replace HB := Aside0.mk (below_step (qS1 HB GE885) hb); (try clear hb); (try clear hb2); (try clear hk); (try clear hi)) | ((with_reducible refine gate_callee (f := 6) rfl ?_); refine goesL_ (some 32) rfl rfl Tryz.func6 (by kernel_rfl) rfl #[.slice A2 l2.length c2, .int .i64 t886] rfl qL ?_; (with_reducible refine (laws_szReqS.calls k _ _ l2 t886 t887 _ ?side1 ?side2 A11.out).mono ?_); (case side1 => exact qW (Kd.C_below HR2.out HB.out)); (case side2 => exact HC2.out); rintro e w15 ⟨rfl, hb⟩; refine ⟨_, rfl, ?_⟩; replace BK885 := qD BK885 hb; replace HB := Aside0.mk (below_step (qS1 HB GE885) hb); (try clear hb); (try clear hb2); (try clear hk); (try clear hi)))
    go_ret
    exact ⟨qE, qS1 HB GE885⟩
   ·obtain ⟨⟨t888, t889, t890, t891⟩, A16, H⟩ := qX H
    try dsimp only at H
    obtain ⟨t892, A17, H⟩ := qX H
    try dsimp only at H
    obtain ⟨t895, A18, H⟩ := qX H
    try dsimp only at H
    obtain ⟨t898, A19, H⟩ := qX H
    try dsimp only at H
    obtain ⟨⟨t901, t904⟩, A20, H⟩ := qX H
    try dsimp only at H
    obtain ⟨t905, A21, H⟩ := qX H
    try dsimp only at H
    obtain ⟨t908, A22, H⟩ := qX H
    try dsimp only at H
    obtain ⟨t911, A23, H⟩ := qX H
    try dsimp only at H
    obtain ⟨⟨t914, t915, t916, t917⟩, A24, H⟩ := qX H
    try dsimp only at H
    obtain ⟨⟨t918, t921⟩, A25, H⟩ := qX H
    try dsimp only at H
    (have HC26 := Aside0.mk H); clear H
    go_enter Tryz.func4, Tryz.ntmps4
    go_upto_region 15 with (first | ((with_reducible refine gate_dst (N := 4) rfl ?_); refine box_event ?hg (N := 4) ?hd (cs := #[.int .i64 a0_0, .int .i64 a0_1, .int .i64 a0_2, .int .i64 a0_3]) (t := 23) ?hr ?_; (case hd => rfl); (case hg => rfl); (case hr => first | (go_simp; done) | (go_simp; rfl)); intro gb885 hg w27 hbox hb; have BK885 := Aside0.mk (hbox); have GW885 := qG hg (below_size (qS0 HB)); have GE885 := qG hg (below_size (qS0 HB)); replace HB := Aside0.mk (below_step (qS0 HB) hb); clear hb hbox hg) | ((with_reducible refine gate_callee (f := 6) rfl ?_); refine goesL_ (some 27) rfl rfl Tryz.func6 (by kernel_rfl) rfl #[.slice A1 l1.length c1, .int .i64 1048576] rfl qL ?_; (with_reducible refine (laws_szReqS.calls k _ _ l1 1048576 t886 _ ?side1 ?side2 A7.out).mono ?_); (case side1 => exact qW (Kd.C_below HR1.out HB.out)); (case side2 => exact HC1.out); rintro e w28 ⟨rfl, hb⟩; refine ⟨_, rfl, ?_⟩; replace BK885 := qD BK885 hb; replace HB := Aside0.mk (below_step (qS1 HB GE885) hb); (try clear hb); (try clear hb2); (try clear hk); (try clear hi)) | ((with_reducible refine gate_callee (f := 6) rfl ?_); refine goesL_ (some 32) rfl rfl Tryz.func6 (by kernel_rfl) rfl #[.slice A2 l2.length c2, .int .i64 t886] rfl qL ?_; (with_reducible refine (laws_szReqS.calls k _ _ l2 t886 t887 _ ?side1 ?side2 A11.out).mono ?_); (case side1 => exact qW (Kd.C_below HR2.out HB.out)); (case side2 => exact HC2.out); rintro e w29 ⟨rfl, hb⟩; refine ⟨_, rfl, ?_⟩; replace BK885 := qD BK885 hb; replace HB := Aside0.mk (below_step (qS1 HB GE885) hb); (try clear hb); (try clear hb2); (try clear hk); (try clear hi); obtain ⟨hcz30_0, hcz30_1, hcz30_2, hcz30_3, hfz30_0, hfz30_1, hfz30_2, hfz30_3⟩ := qC4 BK885) | ((with_reducible refine gate_callee (f := 8) rfl ?_); refine goesL_ (some 37) rfl rfl Tryz.func8 (by kernel_rfl) rfl #[.agg #[.int .i64 a0_0, .int .i64 a0_1, .int .i64 a0_2, .int .i64 a0_3]] rfl qL ?_; (with_reducible refine (laws_toConf.calls a0_0 a0_1 a0_2 a0_3 t888 t889 t890 t891 _ A16.out).mono ?_); rintro e w31 ⟨rfl, hb⟩; refine ⟨_, rfl, ?_⟩; replace BK885 := qD BK885 hb; replace HB := Aside0.mk (below_step (qS1 HB GE885) hb); (try clear hb); (try clear hb2); (try clear hk); (try clear hi)) | ((with_reducible refine gate_callee (f := 9) rfl ?_); refine goesL_ (some 39) rfl rfl Tryz.func9 (by kernel_rfl) rfl #[.slice A1 l1.length c1] rfl qL ?_; (with_reducible refine (laws_toReqS.calls k _ _ l1 t892 _ ?side1 ?side2 A17.out).mono ?_); (case side1 => exact qW (Kd.C_below HR1.out HB.out)); (case side2 => exact HC1.out); rintro e w32 ⟨v893, rfl, ho0, hb⟩; refine ⟨_, rfl, ?_⟩; have HO894 := Aside0.mk (Kd.R_lower ho0 (below_size (qS1 HB GE885))); replace BK885 := qD BK885 hb; replace HB := Aside0.mk (below_step (qS1 HB GE885) hb); (try clear hb); (try clear hb2); (try clear hk); (try clear hi); (try clear ho0)) | ((with_reducible refine gate_callee (f := 9) rfl ?_); refine goesL_ (some 41) rfl rfl Tryz.func9 (by kernel_rfl) rfl #[.slice A2 l2.length c2] rfl qL ?_; (with_reducible refine (laws_toReqS.calls k _ _ l2 t895 _ ?side1 ?side2 A18.out).mono ?_); (case side1 => exact qW (Kd.C_below HR2.out HB.out)); (case side2 => exact HC2.out); rintro e w33 ⟨v896, rfl, ho0, hb⟩; refine ⟨_, rfl, ?_⟩; have HO897 := Aside0.mk (Kd.R_lower (Kd.R_new' ho0 (Kd.R_lt (qR HO894))) (below_size (qS1 HB GE885))); replace HO894 := Aside0.mk (Kd.R_elder' (qR HO894) (Kd.R_base ho0) hb); replace BK885 := qD BK885 hb; replace HB := Aside0.mk (below_step (qS1 HB GE885) hb); (try clear hb); (try clear hb2); (try clear hk); (try clear hi); (try clear ho0)) | ((with_reducible refine gate_callee (f := 10) rfl ?_); refine goesL_ (some 43) rfl rfl Tryz.func10 (by kernel_rfl) rfl #[.slice A3 l3.length c3] rfl qL ?_; (with_reducible refine (laws_toIntS.calls k _ _ l3 t898 _ ?side1 ?side2 A19.out).mono ?_); (case side1 => exact qW (Kd.C_below HR3.out HB.out)); (case side2 => exact HC3.out); rintro e w34 ⟨v899, rfl, ho0, hb⟩; refine ⟨_, rfl, ?_⟩; replace HO894 := Aside0.mk (Kd.R_below (qR HO894) hb); replace HO897 := Aside0.mk (Kd.R_below (qR HO897) hb); have HO900 := Aside0.mk (Kd.R_lower ho0 (below_size (qS1 HB GE885))); replace BK885 := qD BK885 hb; replace HB := Aside0.mk (below_step (qS1 HB GE885) hb); (try clear hb); (try clear hb2); (try clear hk); (try clear hi); (try clear ho0); obtain ⟨Ao35, co35, eo35⟩ := Kd.R_slice HO894.out; subst eo35; obtain ⟨Ao36, co36, eo36⟩ := Kd.R_slice HO897.out; subst eo36; obtain ⟨Ao37, co37, eo37⟩ := Kd.R_slice HO900.out; subst eo37) | ((with_reducible refine gate_callee (f := 17) rfl ?_); refine goesL_ (some 44) rfl rfl Tryz.func17 (by kernel_rfl) rfl #[.agg #[.int .i64 t888, .int .i64 t889, .int .i64 t890, .int .i64 t891], .slice Ao35 t892.length co35, .slice Ao36 t895.length co36, .slice Ao37 t898.length co37] rfl qL ?_; (with_reducible refine (spec_SessPair.calls k t888 t889 t890 t891 _ _ t892 _ _ t895 _ _ t898 t901 t904 _ ?side1 ?side2 ?side3 ?side4 ?side5 ?side6 A20.out).mono ?_); (case side1 => repeat (first | exact (Kd.R_reads' HO894.out).2.2 | (with_reducible refine Kd.C_alloc ?_ _) | (with_reducible refine Kd.C_drewN ?_ _) | (with_reducible refine Kd.C_drew ?_))); (case side2 => exact (Kd.R_reads' HO894.out).2.1); (case side3 => repeat (first | exact (Kd.R_reads' HO897.out).2.2 | (with_reducible refine Kd.C_alloc ?_ _) | (with_reducible refine Kd.C_drewN ?_ _) | (with_reducible refine Kd.C_drew ?_))); (case side4 => exact (Kd.R_reads' HO897.out).2.1); (case side5 => repeat (first | exact (Kd.R_reads' HO900.out).2.2 | (with_reducible refine Kd.C_alloc ?_ _) | (with_reducible refine Kd.C_drewN ?_ _) | (with_reducible refine Kd.C_drew ?_))); (case side6 => exact (Kd.R_reads' HO900.out).2.1); rintro e w38 ⟨v902, rfl, ho0, hb⟩; refine ⟨_, rfl, ?_⟩; replace HO894 := Aside0.mk (Kd.R_below (qR HO894) hb); replace HO897 := Aside0.mk (Kd.R_below (qR HO897) hb); have HO903 := Aside0.mk (Kd.R_lower (Kd.R_new' ho0 (Kd.R_lt (qR HO900))) (below_size (qS1 HB GE885))); replace HO900 := Aside0.mk (Kd.R_elder' (qR HO900) (Kd.R_base ho0) hb); replace BK885 := qD BK885 hb; replace HB := Aside0.mk (below_step (qS1 HB GE885) hb); (try clear hb); (try clear hb2); (try clear hk); (try clear hi); (try clear ho0)) | ((with_reducible refine gate_callee (f := 9) rfl ?_); refine goesL_ (some 48) rfl rfl Tryz.func9 (by kernel_rfl) rfl #[.slice A1 l1.length c1] rfl qL ?_; (with_reducible refine (laws_toReqS.calls k _ _ l1 t905 _ ?side1 ?side2 A21.out).mono ?_); (case side1 => exact qW (Kd.C_below HR1.out HB.out)); (case side2 => exact HC1.out); rintro e w39 ⟨v906, rfl, ho0, hb⟩; refine ⟨_, rfl, ?_⟩; replace HO900 := Aside0.mk (Kd.R_below (qR HO900) hb); replace HO903 := Aside0.mk (Kd.R_below (qR HO903) hb); have HO907 := Aside0.mk (Kd.R_lower (Kd.R_new' (Kd.R_new' ho0 (Kd.R_lt (qR HO894))) (Kd.R_lt (qR HO897))) (below_size (qS1 HB GE885))); replace HO894 := Aside0.mk (Kd.R_elder' (qR HO894) (Kd.R_base ho0) hb); replace HO897 := Aside0.mk (Kd.R_elder' (qR HO897) (Kd.R_base ho0) hb); replace BK885 := qD BK885 hb; replace HB := Aside0.mk (below_step (qS1 HB GE885) hb); (try clear hb); (try clear hb2); (try clear hk); (try clear hi); (try clear ho0)) | ((with_reducible refine gate_callee (f := 9) rfl ?_); refine goesL_ (some 50) rfl rfl Tryz.func9 (by kernel_rfl) rfl #[.slice A2 l2.length c2] rfl qL ?_; (with_reducible refine (laws_toReqS.calls k _ _ l2 t908 _ ?side1 ?side2 A22.out).mono ?_); (case side1 => exact qW (Kd.C_below HR2.out HB.out)); (case side2 => exact HC2.out); rintro e w40 ⟨v909, rfl, ho0, hb⟩; refine ⟨_, rfl, ?_⟩; replace HO900 := Aside0.mk (Kd.R_below (qR HO900) hb); replace HO903 := Aside0.mk (Kd.R_below (qR HO903) hb); have HO910 := Aside0.mk (Kd.R_lower (Kd.R_new' (Kd.R_new' (Kd.R_new' ho0 (Kd.R_lt (qR HO894))) (Kd.R_lt (qR HO897))) (Kd.R_lt (qR HO907))) (below_size (qS1 HB GE885))); replace HO894 := Aside0.mk (Kd.R_elder' (qR HO894) (Kd.R_base ho0) hb); replace HO897 := Aside0.mk (Kd.R_elder' (qR HO897) (Kd.R_base ho0) hb); replace HO907 := Aside0.mk (Kd.R_elder' (qR HO907) (Kd.R_base ho0) hb); replace BK885 := qD BK885 hb; replace HB := Aside0.mk (below_step (qS1 HB GE885) hb); (try clear hb); (try clear hb2); (try clear hk); (try clear hi); (try clear ho0)) | ((with_reducible refine gate_callee (f := 10) rfl ?_); refine goesL_ (some 52) rfl rfl Tryz.func10 (by kernel_rfl) rfl #[.slice A3 l3.length c3] rfl qL ?_; (with_reducible refine (laws_toIntS.calls k _ _ l3 t911 _ ?side1 ?side2 A23.out).mono ?_); (case side1 => exact qW (Kd.C_below HR3.out HB.out)); (case side2 => exact HC3.out); rintro e w41 ⟨v912, rfl, ho0, hb⟩; refine ⟨_, rfl, ?_⟩; replace HO894 := Aside0.mk (Kd.R_below (qR HO894) hb); replace HO897 := Aside0.mk (Kd.R_below (qR HO897) hb); replace HO907 := Aside0.mk (Kd.R_below (qR HO907) hb); replace HO910 := Aside0.mk (Kd.R_below (qR HO910) hb); have HO913 := Aside0.mk (Kd.R_lower (Kd.R_new' (Kd.R_new' ho0 (Kd.R_lt (qR HO900))) (Kd.R_lt (qR HO903))) (below_size (qS1 HB GE885))); replace HO900 := Aside0.mk (Kd.R_elder' (qR HO900) (Kd.R_base ho0) hb); replace HO903 := Aside0.mk (Kd.R_elder' (qR HO903) (Kd.R_base ho0) hb); replace BK885 := qD BK885 hb; replace HB := Aside0.mk (below_step (qS1 HB GE885) hb); (try clear hb); (try clear hb2); (try clear hk); (try clear hi); (try clear ho0); obtain ⟨hcz42_0, hcz42_1, hcz42_2, hcz42_3, hfz42_0, hfz42_1, hfz42_2, hfz42_3⟩ := qC4 BK885) | ((with_reducible refine gate_callee (f := 8) rfl ?_); refine goesL_ (some 55) rfl rfl Tryz.func8 (by kernel_rfl) rfl #[.agg #[.int .i64 a0_0, .int .i64 a0_1, .int .i64 a0_2, .int .i64 a0_3]] rfl qL ?_; (with_reducible refine (laws_toConf.calls a0_0 a0_1 a0_2 a0_3 t914 t915 t916 t917 _ A24.out).mono ?_); rintro e w43 ⟨rfl, hb⟩; refine ⟨_, rfl, ?_⟩; replace HO894 := Aside0.mk (Kd.R_below (qR HO894) hb); replace HO897 := Aside0.mk (Kd.R_below (qR HO897) hb); replace HO900 := Aside0.mk (Kd.R_below (qR HO900) hb); replace HO903 := Aside0.mk (Kd.R_below (qR HO903) hb); replace HO907 := Aside0.mk (Kd.R_below (qR HO907) hb); replace HO910 := Aside0.mk (Kd.R_below (qR HO910) hb); replace HO913 := Aside0.mk (Kd.R_below (qR HO913) hb); replace BK885 := qD BK885 hb; replace HB := Aside0.mk (below_step (qS1 HB GE885) hb); (try clear hb); (try clear hb2); (try clear hk); (try clear hi); obtain ⟨Ao44, co44, eo44⟩ := Kd.R_slice HO907.out; subst eo44; obtain ⟨Ao45, co45, eo45⟩ := Kd.R_slice HO910.out; subst eo45; obtain ⟨Ao46, co46, eo46⟩ := Kd.R_slice HO913.out; subst eo46) | ((with_reducible refine gate_callee (f := 18) rfl ?_); refine goesL_ (some 59) rfl rfl Tryz.func18 (by kernel_rfl) rfl #[.agg #[.int .i64 t914, .int .i64 t915, .int .i64 t916, .int .i64 t917], .slice Ao44 t905.length co44, .slice Ao45 t908.length co45, .slice Ao46 t911.length co46] rfl qL ?_; (with_reducible refine (impl_SessPair.calls k t914 t915 t916 t917 _ _ t905 _ _ t908 _ _ t911 t918 t921 _ ?side1 ?side2 ?side3 ?side4 ?side5 ?side6 A25.out (G_below (qS1 HB GE885) hG)).mono ?_); (case side1 => repeat (first | exact (Kd.R_reads' HO907.out).2.2 | (with_reducible refine Kd.C_alloc ?_ _) | (with_reducible refine Kd.C_drewN ?_ _) | (with_reducible refine Kd.C_drew ?_))); (case side2 => exact (Kd.R_reads' HO907.out).2.1); (case side3 => repeat (first | exact (Kd.R_reads' HO910.out).2.2 | (with_reducible refine Kd.C_alloc ?_ _) | (with_reducible refine Kd.C_drewN ?_ _) | (with_reducible refine Kd.C_drew ?_))); (case side4 => exact (Kd.R_reads' HO910.out).2.1); (case side5 => repeat (first | exact (Kd.R_reads' HO913.out).2.2 | (with_reducible refine Kd.C_alloc ?_ _) | (with_reducible refine Kd.C_drewN ?_ _) | (with_reducible refine Kd.C_drew ?_))); (case side6 => exact (Kd.R_reads' HO913.out).2.1); rintro e w47 ⟨v919, rfl, ho0, hb⟩; refine ⟨_, rfl, ?_⟩; replace HO894 := Aside0.mk (Kd.R_below (qR HO894) hb); replace HO897 := Aside0.mk (Kd.R_below (qR HO897) hb); replace HO907 := Aside0.mk (Kd.R_below (qR HO907) hb); replace HO910 := Aside0.mk (Kd.R_below (qR HO910) hb); have HO920 := Aside0.mk (Kd.R_lower (Kd.R_new' (Kd.R_new' (Kd.R_new' ho0 (Kd.R_lt (qR HO900))) (Kd.R_lt (qR HO903))) (Kd.R_lt (qR HO913))) (below_size (qS1 HB GE885))); replace HO900 := Aside0.mk (Kd.R_elder' (qR HO900) (Kd.R_base ho0) hb); replace HO903 := Aside0.mk (Kd.R_elder' (qR HO903) (Kd.R_base ho0) hb); replace HO913 := Aside0.mk (Kd.R_elder' (qR HO913) (Kd.R_base ho0) hb); replace BK885 := qD BK885 hb; replace HB := Aside0.mk (below_step (qS1 HB GE885) hb); (try clear hb); (try clear hb2); (try clear hk); (try clear hi); (try clear ho0)))
    (try simp only [Act.put, List.setIfInBounds_toArray, List.set_cons_zero, List.set_cons_succ])
    go_cut [70] (fun v70 wc => ∃ (kq : Nat) (x70_25 : Bool), v70 = .bool x70_25 ∧ Aside0 (laws_FnExactSessPair.j0 kq l1 l2 l3 t901 t904 t905 t908 t911 t918 t921 x70_25 a0_0 a0_1 a0_2 a0_3 = some r) ∧ Aside0 (kq ≤ k) ∧ Aside0 (Kd.R (Kd.int .i64) 3 wc w.heap.size (fun k_ => some k_ ≠ ((.slice Ao46 t911.length co46) : Value).ownBlock ∧ some k_ ≠ (v919 : Value).ownBlock) v902 t901) ∧ Aside0 (Kd.R k56 56 wc w.heap.size (fun k_ => some k_ ≠ ((.slice Ao45 t908.length co45) : Value).ownBlock) (.slice Ao44 t905.length co44) t905) ∧ Aside0 (Kd.R k56 56 wc w.heap.size (fun k_ => some k_ ≠ ((.slice Ao44 t905.length co44) : Value).ownBlock) (.slice Ao45 t908.length co45) t908) ∧ Aside0 (Kd.R (Kd.int .i64) 3 wc w.heap.size (fun k_ => some k_ ≠ (v902 : Value).ownBlock ∧ some k_ ≠ (v919 : Value).ownBlock) (.slice Ao46 t911.length co46) t911) ∧ Aside0 (Kd.R (Kd.int .i64) 3 wc w.heap.size (fun k_ => some k_ ≠ (v902 : Value).ownBlock ∧ some k_ ≠ ((.slice Ao46 t911.length co46) : Value).ownBlock) v919 t918) ∧ Aside0 (wc.heap[gb885]? = some (.cells #[.int .i64 a0_0, .int .i64 a0_1, .int .i64 a0_2, .int .i64 a0_3] 23 (0, 0))) ∧ Aside0 (Below w.heap.size w wc))
    case first =>
     (have H := HC26.out); clear HC26; (obtain ⟨t922, A48, H⟩ := qX H)
     try dsimp only at H
     by_cases c49 : t922 = true
     ·subst c49
      (have H1 : (laws_FnExactSessPair.j0 k l1 l2 l3 t901 t904 t905 t908 t911 t918 t921 (t921 != t904) a0_0 a0_1 a0_2 a0_3) = some r := by rw [if_pos rfl] at H; exact H); clear H; (have H := H1); clear H1; (have H' := Aside0.mk H); clear H; (obtain ⟨Ao50, co50, eo50⟩ := Kd.R_slice HO920.out); (subst eo50); (obtain ⟨Ao51, co51, eo51⟩ := Kd.R_slice HO903.out); (subst eo51)
      go_wp2_with (first | ((with_reducible refine gate_callee (f := 12) rfl ?_); refine goesL_ (some 64) rfl rfl Tryz.func12 (by kernel_rfl) rfl #[.slice Ao50 t918.length co50, .slice Ao51 t901.length co51] rfl qL ?_; (with_reducible refine (laws_eqIntS.calls k _ _ t918 _ _ t901 true _ ?side1 ?side2 ?side3 ?side4 A48.out).mono ?_); (case side1 => repeat (first | exact (Kd.R_reads' HO920.out).2.2 | (with_reducible refine Kd.C_alloc ?_ _) | (with_reducible refine Kd.C_drewN ?_ _) | (with_reducible refine Kd.C_drew ?_))); (case side2 => exact (Kd.R_reads' HO920.out).2.1); (case side3 => repeat (first | exact (Kd.R_reads' HO903.out).2.2 | (with_reducible refine Kd.C_alloc ?_ _) | (with_reducible refine Kd.C_drewN ?_ _) | (with_reducible refine Kd.C_drew ?_))); (case side4 => exact (Kd.R_reads' HO903.out).2.1); rintro e w' ⟨rfl, ⟨nd, rfl⟩⟩; refine ⟨_, rfl, ?_⟩))
      go_meet
      case rel => exact ⟨_, ((t921 != t904)), qV, H', ⟨by first | omega | exact Nat.le_refl _⟩, ⟨by (with_reducible repeat (first | apply Kd.R_alloc | apply Kd.R_drewN | apply Kd.R_drew)); exact Kd.R_mono HO903.out (fun _ hk => ⟨hk.1.2, hk.2⟩)⟩, ⟨by (with_reducible repeat (first | apply Kd.R_alloc | apply Kd.R_drewN | apply Kd.R_drew)); exact Kd.R_mono HO907.out (fun _ hk => hk.2)⟩, ⟨by (with_reducible repeat (first | apply Kd.R_alloc | apply Kd.R_drewN | apply Kd.R_drew)); exact Kd.R_mono HO910.out (fun _ hk => hk.2)⟩, ⟨by (with_reducible repeat (first | apply Kd.R_alloc | apply Kd.R_drewN | apply Kd.R_drew)); exact Kd.R_mono HO913.out (fun _ hk => ⟨hk.1.2, hk.2⟩)⟩, ⟨by (with_reducible repeat (first | apply Kd.R_alloc | apply Kd.R_drewN | apply Kd.R_drew)); exact Kd.R_mono HO920.out (fun _ hk => ⟨hk.1.2, hk.2⟩)⟩, ⟨qB BK885⟩, ⟨qS1 HB GE885⟩⟩
     ·replace c49 := Bool.eq_false_iff.mpr c49
      (subst c49); (have H1 : (laws_FnExactSessPair.j0 k l1 l2 l3 t901 t904 t905 t908 t911 t918 t921 true a0_0 a0_1 a0_2 a0_3) = some r := by rw [if_neg (show ¬ (false = true) by decide)] at H; exact H); clear H; (have H := H1); clear H1; (have H' := Aside0.mk H); clear H; (obtain ⟨Ao52, co52, eo52⟩ := Kd.R_slice HO920.out); (subst eo52); (obtain ⟨Ao53, co53, eo53⟩ := Kd.R_slice HO903.out); (subst eo53)
      go_wp2_with (first | ((with_reducible refine gate_callee (f := 12) rfl ?_); refine goesL_ (some 64) rfl rfl Tryz.func12 (by kernel_rfl) rfl #[.slice Ao52 t918.length co52, .slice Ao53 t901.length co53] rfl qL ?_; (with_reducible refine (laws_eqIntS.calls k _ _ t918 _ _ t901 false _ ?side1 ?side2 ?side3 ?side4 A48.out).mono ?_); (case side1 => repeat (first | exact (Kd.R_reads' HO920.out).2.2 | (with_reducible refine Kd.C_alloc ?_ _) | (with_reducible refine Kd.C_drewN ?_ _) | (with_reducible refine Kd.C_drew ?_))); (case side2 => exact (Kd.R_reads' HO920.out).2.1); (case side3 => repeat (first | exact (Kd.R_reads' HO903.out).2.2 | (with_reducible refine Kd.C_alloc ?_ _) | (with_reducible refine Kd.C_drewN ?_ _) | (with_reducible refine Kd.C_drew ?_))); (case side4 => exact (Kd.R_reads' HO903.out).2.1); rintro e w' ⟨rfl, ⟨nd, rfl⟩⟩; refine ⟨_, rfl, ?_⟩))
      go_meet
      case rel => exact ⟨_, (true), qV, H', ⟨by first | omega | exact Nat.le_refl _⟩, ⟨by (with_reducible repeat (first | apply Kd.R_alloc | apply Kd.R_drewN | apply Kd.R_drew)); exact Kd.R_mono HO903.out (fun _ hk => ⟨hk.1.2, hk.2⟩)⟩, ⟨by (with_reducible repeat (first | apply Kd.R_alloc | apply Kd.R_drewN | apply Kd.R_drew)); exact Kd.R_mono HO907.out (fun _ hk => hk.2)⟩, ⟨by (with_reducible repeat (first | apply Kd.R_alloc | apply Kd.R_drewN | apply Kd.R_drew)); exact Kd.R_mono HO910.out (fun _ hk => hk.2)⟩, ⟨by (with_reducible repeat (first | apply Kd.R_alloc | apply Kd.R_drewN | apply Kd.R_drew)); exact Kd.R_mono HO913.out (fun _ hk => ⟨hk.1.2, hk.2⟩)⟩, ⟨by (with_reducible repeat (first | apply Kd.R_alloc | apply Kd.R_drewN | apply Kd.R_drew)); exact Kd.R_mono HO920.out (fun _ hk => ⟨hk.1.2, hk.2⟩)⟩, ⟨qB BK885⟩, ⟨qS1 HB GE885⟩⟩
    case rest =>
     clear HC26; (try clear c5b0); (try clear c5b1); (try clear c8b0); (try clear c12b0); (try clear c49); (try clear hcz30_0); (try clear hcz30_1); (try clear hcz30_2); (try clear hcz30_3); (try clear hcz42_0); (try clear hcz42_1); (try clear hcz42_2); (try clear hcz42_3); (try clear hfz30_0); (try clear hfz30_1); (try clear hfz30_2); (try clear hfz30_3); (try clear hfz42_0); (try clear hfz42_1); (try clear hfz42_2); (try clear hfz42_3); (obtain ⟨kq, x70_25, rfl, HA, HJ25, HO_10, HO_12, HO_13, HO_14, HO_15, BK885, HB⟩ := hcut)
     cases kq with
     | zero => exact absurd HA.out (by simp [laws_FnExactSessPair.j0])
     | succ kj25 =>
      (have H := HA.out); clear HA; (simp only [laws_FnExactSessPair.j0] at H)
      by_cases c54 : x70_25 = true
      ·subst c54
       (have H1 : (some false) = some r := by rw [if_pos rfl] at H; exact H); clear H; (have H := H1); clear H1; (obtain rfl := Option.some.inj H)
       go_wp2
       go_ret
       exact ⟨qE, qS1 HB GE885⟩
      ·replace c54 := Bool.eq_false_iff.mpr c54
       (subst c54); (have H1 : ((laws_toReqS.f kj25 l1).bind fun t923 => ((laws_eqReqS.f kj25 t905 t923).bind fun t926 => (if t926 = true then ((laws_toReqS.f kj25 l2).bind fun t927 => ((laws_eqReqS.f kj25 t908 t927).bind fun t930 => (if t930 = true then ((laws_toIntS.f kj25 l3).bind fun t931 => ((laws_eqIntS.f kj25 t911 t931).bind fun t934 => (if t934 = true then ((laws_markReqS.f kj25 t905 1).bind fun bt935 => ((laws_markReqS.f kj25 t908 bt935.1).bind fun bt937 => ((laws_markIntS.f kj25 t911 bt937.1).bind fun bt939 => (if bt939.1 < 0 then (laws_FnExactSessPair.j1 kj25 l1 l2 l3 t901 t904 t918 true a0_0 a0_1 a0_2 a0_3) else ((laws_eqIntS.f kj25 t918 t901).bind fun t941 => (if t941 = true then (laws_FnExactSessPair.j1 kj25 l1 l2 l3 t901 t904 t918 (t921 != t904) a0_0 a0_1 a0_2 a0_3) else (laws_FnExactSessPair.j1 kj25 l1 l2 l3 t901 t904 t918 true a0_0 a0_1 a0_2 a0_3))))))) else (some false)))) else (some false)))) else (some false)))) = some r := by rw [if_neg (show ¬ (false = true) by decide)] at H; exact H); clear H; (have H := H1); clear H1; (obtain ⟨t923, A55, H⟩ := qX H)
       try dsimp only at H
       obtain ⟨t926, A56, H⟩ := qX H
       try dsimp only at H
       by_cases c57 : t926 = true
       ·subst c57
        (have H1 : ((laws_toReqS.f kj25 l2).bind fun t927 => ((laws_eqReqS.f kj25 t908 t927).bind fun t930 => (if t930 = true then ((laws_toIntS.f kj25 l3).bind fun t931 => ((laws_eqIntS.f kj25 t911 t931).bind fun t934 => (if t934 = true then ((laws_markReqS.f kj25 t905 1).bind fun bt935 => ((laws_markReqS.f kj25 t908 bt935.1).bind fun bt937 => ((laws_markIntS.f kj25 t911 bt937.1).bind fun bt939 => (if bt939.1 < 0 then (laws_FnExactSessPair.j1 kj25 l1 l2 l3 t901 t904 t918 true a0_0 a0_1 a0_2 a0_3) else ((laws_eqIntS.f kj25 t918 t901).bind fun t941 => (if t941 = true then (laws_FnExactSessPair.j1 kj25 l1 l2 l3 t901 t904 t918 (t921 != t904) a0_0 a0_1 a0_2 a0_3) else (laws_FnExactSessPair.j1 kj25 l1 l2 l3 t901 t904 t918 true a0_0 a0_1 a0_2 a0_3))))))) else (some false)))) else (some false)))) = some r := by rw [if_pos rfl] at H; exact H); clear H; (have H := H1); clear H1; (obtain ⟨t927, A58, H⟩ := qX H)
        try dsimp only at H
        obtain ⟨t930, A59, H⟩ := qX H
        try dsimp only at H
        by_cases c60 : t930 = true
        ·subst c60
         (have H1 : ((laws_toIntS.f kj25 l3).bind fun t931 => ((laws_eqIntS.f kj25 t911 t931).bind fun t934 => (if t934 = true then ((laws_markReqS.f kj25 t905 1).bind fun bt935 => ((laws_markReqS.f kj25 t908 bt935.1).bind fun bt937 => ((laws_markIntS.f kj25 t911 bt937.1).bind fun bt939 => (if bt939.1 < 0 then (laws_FnExactSessPair.j1 kj25 l1 l2 l3 t901 t904 t918 true a0_0 a0_1 a0_2 a0_3) else ((laws_eqIntS.f kj25 t918 t901).bind fun t941 => (if t941 = true then (laws_FnExactSessPair.j1 kj25 l1 l2 l3 t901 t904 t918 (t921 != t904) a0_0 a0_1 a0_2 a0_3) else (laws_FnExactSessPair.j1 kj25 l1 l2 l3 t901 t904 t918 true a0_0 a0_1 a0_2 a0_3))))))) else (some false)))) = some r := by rw [if_pos rfl] at H; exact H); clear H; (have H := H1); clear H1; (obtain ⟨t931, A61, H⟩ := qX H)
         try dsimp only at H
         obtain ⟨t934, A62, H⟩ := qX H
         try dsimp only at H
         by_cases c63 : t934 = true
         ·subst c63
          (have H1 : ((laws_markReqS.f kj25 t905 1).bind fun bt935 => ((laws_markReqS.f kj25 t908 bt935.1).bind fun bt937 => ((laws_markIntS.f kj25 t911 bt937.1).bind fun bt939 => (if bt939.1 < 0 then (laws_FnExactSessPair.j1 kj25 l1 l2 l3 t901 t904 t918 true a0_0 a0_1 a0_2 a0_3) else ((laws_eqIntS.f kj25 t918 t901).bind fun t941 => (if t941 = true then (laws_FnExactSessPair.j1 kj25 l1 l2 l3 t901 t904 t918 (t921 != t904) a0_0 a0_1 a0_2 a0_3) else (laws_FnExactSessPair.j1 kj25 l1 l2 l3 t901 t904 t918 true a0_0 a0_1 a0_2 a0_3))))))) = some r := by rw [if_pos rfl] at H; exact H); clear H; (have H := H1); clear H1; (obtain ⟨⟨t935, t936⟩, A64, H⟩ := qX H)
          try dsimp only at H
          obtain ⟨⟨t937, t938⟩, A65, H⟩ := qX H
          try dsimp only at H
          obtain ⟨⟨t939, t940⟩, A66, H⟩ := qX H
          try dsimp only at H
          (have HC67 := Aside0.mk H); clear H
          go_upto_region 27 with (first | ((with_reducible refine gate_callee (f := 9) rfl ?_); refine goesL_ (some 73) rfl rfl Tryz.func9 (by kernel_rfl) rfl #[.slice A1 l1.length c1] rfl qL ?_; (with_reducible refine (laws_toReqS.calls kj25 _ _ l1 t923 _ ?side1 ?side2 A55.out).mono ?_); (case side1 => exact qW (Kd.C_below HR1.out HB.out)); (case side2 => exact HC1.out); rintro e w68 ⟨v924, rfl, ho0, hb⟩; refine ⟨_, rfl, ?_⟩; replace HO_10 := Aside0.mk (Kd.R_below (qR HO_10) hb); replace HO_14 := Aside0.mk (Kd.R_below (qR HO_14) hb); replace HO_15 := Aside0.mk (Kd.R_below (qR HO_15) hb); have HO925 := Aside0.mk (Kd.R_lower (Kd.R_new' (Kd.R_new' ho0 (Kd.R_lt (qR HO_12))) (Kd.R_lt (qR HO_13))) (below_size (qS1 HB GE885))); replace HO_12 := Aside0.mk (Kd.R_elder' (qR HO_12) (Kd.R_base ho0) hb); replace HO_13 := Aside0.mk (Kd.R_elder' (qR HO_13) (Kd.R_base ho0) hb); replace BK885 := qD BK885 hb; replace HB := Aside0.mk (below_step (qS1 HB GE885) hb); (try clear hb); (try clear hb2); (try clear hk); (try clear hi); (try clear ho0); obtain ⟨Ao69, co69, eo69⟩ := Kd.R_slice HO925.out; subst eo69) | ((with_reducible refine gate_callee (f := 13) rfl ?_); refine goesL_ (some 74) rfl rfl Tryz.func13 (by kernel_rfl) rfl #[.slice Ao44 t905.length co44, .slice Ao69 t923.length co69] rfl qL ?_; (with_reducible refine (laws_eqReqS.calls kj25 _ _ t905 _ _ t923 true _ ?side1 ?side2 ?side3 ?side4 A56.out).mono ?_); (case side1 => repeat (first | exact (Kd.R_reads' HO_12.out).2.2 | (with_reducible refine Kd.C_alloc ?_ _) | (with_reducible refine Kd.C_drewN ?_ _) | (with_reducible refine Kd.C_drew ?_))); (case side2 => exact (Kd.R_reads' HO_12.out).2.1); (case side3 => repeat (first | exact (Kd.R_reads' HO925.out).2.2 | (with_reducible refine Kd.C_alloc ?_ _) | (with_reducible refine Kd.C_drewN ?_ _) | (with_reducible refine Kd.C_drew ?_))); (case side4 => exact (Kd.R_reads' HO925.out).2.1); rintro e w70 ⟨rfl, hb⟩; refine ⟨_, rfl, ?_⟩; replace HO_10 := Aside0.mk (Kd.R_below (qR HO_10) hb); replace HO_12 := Aside0.mk (Kd.R_below (qR HO_12) hb); replace HO_13 := Aside0.mk (Kd.R_below (qR HO_13) hb); replace HO_14 := Aside0.mk (Kd.R_below (qR HO_14) hb); replace HO_15 := Aside0.mk (Kd.R_below (qR HO_15) hb); replace HO925 := Aside0.mk (Kd.R_below (qR HO925) hb); replace BK885 := qD BK885 hb; replace HB := Aside0.mk (below_step (qS1 HB GE885) hb); (try clear hb); (try clear hb2); (try clear hk); (try clear hi)) | ((with_reducible refine gate_callee (f := 9) rfl ?_); refine goesL_ (some 78) rfl rfl Tryz.func9 (by kernel_rfl) rfl #[.slice A2 l2.length c2] rfl qL ?_; (with_reducible refine (laws_toReqS.calls kj25 _ _ l2 t927 _ ?side1 ?side2 A58.out).mono ?_); (case side1 => exact qW (Kd.C_below HR2.out HB.out)); (case side2 => exact HC2.out); rintro e w71 ⟨v928, rfl, ho0, hb⟩; refine ⟨_, rfl, ?_⟩; replace HO_10 := Aside0.mk (Kd.R_below (qR HO_10) hb); replace HO_14 := Aside0.mk (Kd.R_below (qR HO_14) hb); replace HO_15 := Aside0.mk (Kd.R_below (qR HO_15) hb); have HO929 := Aside0.mk (Kd.R_lower (Kd.R_new' (Kd.R_new' (Kd.R_new' ho0 (Kd.R_lt (qR HO_12))) (Kd.R_lt (qR HO_13))) (Kd.R_lt (qR HO925))) (below_size (qS1 HB GE885))); replace HO_12 := Aside0.mk (Kd.R_elder' (qR HO_12) (Kd.R_base ho0) hb); replace HO_13 := Aside0.mk (Kd.R_elder' (qR HO_13) (Kd.R_base ho0) hb); replace HO925 := Aside0.mk (Kd.R_elder' (qR HO925) (Kd.R_base ho0) hb); replace BK885 := qD BK885 hb; replace HB := Aside0.mk (below_step (qS1 HB GE885) hb); (try clear hb); (try clear hb2); (try clear hk); (try clear hi); (try clear ho0); obtain ⟨Ao72, co72, eo72⟩ := Kd.R_slice HO929.out; subst eo72) | ((with_reducible refine gate_callee (f := 13) rfl ?_); refine goesL_ (some 79) rfl rfl Tryz.func13 (by kernel_rfl) rfl #[.slice Ao45 t908.length co45, .slice Ao72 t927.length co72] rfl qL ?_; (with_reducible refine (laws_eqReqS.calls kj25 _ _ t908 _ _ t927 true _ ?side1 ?side2 ?side3 ?side4 A59.out).mono ?_); (case side1 => repeat (first | exact (Kd.R_reads' HO_13.out).2.2 | (with_reducible refine Kd.C_alloc ?_ _) | (with_reducible refine Kd.C_drewN ?_ _) | (with_reducible refine Kd.C_drew ?_))); (case side2 => exact (Kd.R_reads' HO_13.out).2.1); (case side3 => repeat (first | exact (Kd.R_reads' HO929.out).2.2 | (with_reducible refine Kd.C_alloc ?_ _) | (with_reducible refine Kd.C_drewN ?_ _) | (with_reducible refine Kd.C_drew ?_))); (case side4 => exact (Kd.R_reads' HO929.out).2.1); rintro e w73 ⟨rfl, hb⟩; refine ⟨_, rfl, ?_⟩; replace HO_10 := Aside0.mk (Kd.R_below (qR HO_10) hb); replace HO_12 := Aside0.mk (Kd.R_below (qR HO_12) hb); replace HO_13 := Aside0.mk (Kd.R_below (qR HO_13) hb); replace HO_14 := Aside0.mk (Kd.R_below (qR HO_14) hb); replace HO_15 := Aside0.mk (Kd.R_below (qR HO_15) hb); replace HO925 := Aside0.mk (Kd.R_below (qR HO925) hb); replace HO929 := Aside0.mk (Kd.R_below (qR HO929) hb); replace BK885 := qD BK885 hb; replace HB := Aside0.mk (below_step (qS1 HB GE885) hb); (try clear hb); (try clear hb2); (try clear hk); (try clear hi)) | ((with_reducible refine gate_callee (f := 10) rfl ?_); refine goesL_ (some 83) rfl rfl Tryz.func10 (by kernel_rfl) rfl #[.slice A3 l3.length c3] rfl qL ?_; (with_reducible refine (laws_toIntS.calls kj25 _ _ l3 t931 _ ?side1 ?side2 A61.out).mono ?_); (case side1 => exact qW (Kd.C_below HR3.out HB.out)); (case side2 => exact HC3.out); rintro e w74 ⟨v932, rfl, ho0, hb⟩; refine ⟨_, rfl, ?_⟩; replace HO_12 := Aside0.mk (Kd.R_below (qR HO_12) hb); replace HO_13 := Aside0.mk (Kd.R_below (qR HO_13) hb); replace HO925 := Aside0.mk (Kd.R_below (qR HO925) hb); replace HO929 := Aside0.mk (Kd.R_below (qR HO929) hb); have HO933 := Aside0.mk (Kd.R_lower (Kd.R_new' (Kd.R_new' (Kd.R_new' ho0 (Kd.R_lt (qR HO_10))) (Kd.R_lt (qR HO_14))) (Kd.R_lt (qR HO_15))) (below_size (qS1 HB GE885))); replace HO_10 := Aside0.mk (Kd.R_elder' (qR HO_10) (Kd.R_base ho0) hb); replace HO_14 := Aside0.mk (Kd.R_elder' (qR HO_14) (Kd.R_base ho0) hb); replace HO_15 := Aside0.mk (Kd.R_elder' (qR HO_15) (Kd.R_base ho0) hb); replace BK885 := qD BK885 hb; replace HB := Aside0.mk (below_step (qS1 HB GE885) hb); (try clear hb); (try clear hb2); (try clear hk); (try clear hi); (try clear ho0); obtain ⟨Ao75, co75, eo75⟩ := Kd.R_slice HO933.out; subst eo75) | ((with_reducible refine gate_callee (f := 12) rfl ?_); refine goesL_ (some 84) rfl rfl Tryz.func12 (by kernel_rfl) rfl #[.slice Ao46 t911.length co46, .slice Ao75 t931.length co75] rfl qL ?_; (with_reducible refine (laws_eqIntS.calls kj25 _ _ t911 _ _ t931 true _ ?side1 ?side2 ?side3 ?side4 A62.out).mono ?_); (case side1 => repeat (first | exact (Kd.R_reads' HO_14.out).2.2 | (with_reducible refine Kd.C_alloc ?_ _) | (with_reducible refine Kd.C_drewN ?_ _) | (with_reducible refine Kd.C_drew ?_))); (case side2 => exact (Kd.R_reads' HO_14.out).2.1); (case side3 => repeat (first | exact (Kd.R_reads' HO933.out).2.2 | (with_reducible refine Kd.C_alloc ?_ _) | (with_reducible refine Kd.C_drewN ?_ _) | (with_reducible refine Kd.C_drew ?_))); (case side4 => exact (Kd.R_reads' HO933.out).2.1); rintro e w' ⟨rfl, ⟨nd, rfl⟩⟩; refine ⟨_, rfl, ?_⟩) | ((with_reducible refine gate_callee (f := 14) rfl ?_); refine goesL_ (some 88) rfl rfl Tryz.func14 (by kernel_rfl) rfl #[.slice Ao44 t905.length co44, .int .i64 1] rfl qL ?_; (with_reducible refine (laws_markReqS.calls kj25 (fun k_ => some k_ = (.slice Ao44 t905.length co44 : Value).ownBlock) (.slice Ao44 t905.length co44) t905 1 t935 t936 w _ ?side1 ?side2 A64.out).mono ?_); (case side1 => exact qS1 HB GE885); (case side2 => exact Kd.R_tight rfl HO_12.out); rintro e w76 ⟨rfl, hy0, hb, hkp⟩; refine ⟨_, rfl, ?_⟩; replace HO_10 := Aside0.mk (Kd.R_mono (ok' := fun k_ => some k_ ≠ (.slice Ao46 t911.length co46 : Value).ownBlock ∧ some k_ ≠ (v919 : Value).ownBlock ∧ some k_ ≠ (.slice Ao75 t931.length co75 : Value).ownBlock) (Kd.R_keptB ((Kd.R_apart' HO_10.out (Kd.R_typed HO_12.out) (by decide))) hkp (fun k_ hk_ hs_ => (hk_.2) hs_)) (fun k_ hk_ => ⟨hk_.1.1.1.1, hk_.1.1.1.2, hk_.1.1.2⟩)); replace HO_13 := Aside0.mk (Kd.R_mono (ok' := fun k_ => some k_ ≠ (.slice Ao44 t905.length co44 : Value).ownBlock ∧ some k_ ≠ (.slice Ao69 t923.length co69 : Value).ownBlock ∧ some k_ ≠ (.slice Ao72 t927.length co72 : Value).ownBlock) (Kd.R_keptB (HO_13.out) hkp (fun k_ hk_ hs_ => (hk_.1.1) hs_)) (fun k_ hk_ => ⟨hk_.1.1.1, hk_.1.1.2, hk_.1.2⟩)); replace HO_14 := Aside0.mk (Kd.R_mono (ok' := fun k_ => some k_ ≠ (v902 : Value).ownBlock ∧ some k_ ≠ (v919 : Value).ownBlock ∧ some k_ ≠ (.slice Ao75 t931.length co75 : Value).ownBlock) (Kd.R_keptB ((Kd.R_apart' HO_14.out (Kd.R_typed HO_12.out) (by decide))) hkp (fun k_ hk_ hs_ => (hk_.2) hs_)) (fun k_ hk_ => ⟨hk_.1.1.1.1, hk_.1.1.1.2, hk_.1.1.2⟩)); replace HO_15 := Aside0.mk (Kd.R_mono (ok' := fun k_ => some k_ ≠ (v902 : Value).ownBlock ∧ some k_ ≠ (.slice Ao46 t911.length co46 : Value).ownBlock ∧ some k_ ≠ (.slice Ao75 t931.length co75 : Value).ownBlock) (Kd.R_keptB ((Kd.R_apart' HO_15.out (Kd.R_typed HO_12.out) (by decide))) hkp (fun k_ hk_ hs_ => (hk_.2) hs_)) (fun k_ hk_ => ⟨hk_.1.1.1.1, hk_.1.1.1.2, hk_.1.1.2⟩)); replace BK885 := Aside0.mk (blk_kept (qB BK885) hkp (fun hs_ => (fun e_ => (Kd.R_ne HO_12.out BK885.out (by decide)) e_) hs_)); replace HO925 := Aside0.mk (Kd.R_mono (ok' := fun k_ => some k_ ≠ (.slice Ao44 t905.length co44 : Value).ownBlock ∧ some k_ ≠ (.slice Ao45 t908.length co45 : Value).ownBlock ∧ some k_ ≠ (.slice Ao72 t927.length co72 : Value).ownBlock) (Kd.R_keptB (HO925.out) hkp (fun k_ hk_ hs_ => (hk_.1.1.2) hs_)) (fun k_ hk_ => ⟨hk_.1.1.1.2, hk_.1.1.2, hk_.1.2⟩)); replace HO929 := Aside0.mk (Kd.R_mono (ok' := fun k_ => some k_ ≠ (.slice Ao44 t905.length co44 : Value).ownBlock ∧ some k_ ≠ (.slice Ao45 t908.length co45 : Value).ownBlock ∧ some k_ ≠ (.slice Ao69 t923.length co69 : Value).ownBlock) (Kd.R_keptB (HO929.out) hkp (fun k_ hk_ hs_ => (hk_.1.1.2) hs_)) (fun k_ hk_ => ⟨hk_.1.1.1.2, hk_.1.1.2, hk_.1.2⟩)); replace HO933 := Aside0.mk (Kd.R_mono (ok' := fun k_ => some k_ ≠ (v902 : Value).ownBlock ∧ some k_ ≠ (.slice Ao46 t911.length co46 : Value).ownBlock ∧ some k_ ≠ (v919 : Value).ownBlock) (Kd.R_keptB ((Kd.R_apart' HO933.out (Kd.R_typed HO_12.out) (by decide))) hkp (fun k_ hk_ hs_ => (hk_.2) hs_)) (fun k_ hk_ => ⟨hk_.1.1.1.1.2, hk_.1.1.1.2, hk_.1.1.2⟩)); replace HO_12 := Aside0.mk (Kd.R_reok rfl hy0 (fun k_ e_ => HO_12.out.1 k_ e_)); replace HB := Aside0.mk (hb); (try clear hb); (try clear hkp); (try clear hy0)) | ((with_reducible refine gate_callee (f := 14) rfl ?_); refine goesL_ (some 91) rfl rfl Tryz.func14 (by kernel_rfl) rfl #[.slice Ao45 t908.length co45, .int .i64 t935] rfl qL ?_; (with_reducible refine (laws_markReqS.calls kj25 (fun k_ => some k_ = (.slice Ao45 t908.length co45 : Value).ownBlock) (.slice Ao45 t908.length co45) t908 t935 t937 t938 w _ ?side1 ?side2 A65.out).mono ?_); (case side1 => exact qS1 HB GE885); (case side2 => exact Kd.R_tight rfl HO_13.out); rintro e w77 ⟨rfl, hy0, hb, hkp⟩; refine ⟨_, rfl, ?_⟩; replace HO_10 := Aside0.mk (Kd.R_mono (ok' := fun k_ => some k_ ≠ (.slice Ao46 t911.length co46 : Value).ownBlock ∧ some k_ ≠ (v919 : Value).ownBlock ∧ some k_ ≠ (.slice Ao75 t931.length co75 : Value).ownBlock) (Kd.R_keptB ((Kd.R_apart' HO_10.out (Kd.R_typed HO_13.out) (by decide))) hkp (fun k_ hk_ hs_ => (hk_.2) hs_)) (fun k_ hk_ => ⟨hk_.1.1.1, hk_.1.1.2.1, hk_.1.1.2.2⟩)); replace HO_12 := Aside0.mk (Kd.R_mono (ok' := fun k_ => some k_ ≠ (.slice Ao45 t908.length co45 : Value).ownBlock ∧ some k_ ≠ (.slice Ao69 t923.length co69 : Value).ownBlock ∧ some k_ ≠ (.slice Ao72 t927.length co72 : Value).ownBlock) (Kd.R_keptB (HO_12.out) hkp (fun k_ hk_ hs_ => (hk_.1.1) hs_)) (fun k_ hk_ => ⟨hk_.1.1.1, hk_.1.1.2, hk_.1.2⟩)); replace HO_14 := Aside0.mk (Kd.R_mono (ok' := fun k_ => some k_ ≠ (v902 : Value).ownBlock ∧ some k_ ≠ (v919 : Value).ownBlock ∧ some k_ ≠ (.slice Ao75 t931.length co75 : Value).ownBlock) (Kd.R_keptB ((Kd.R_apart' HO_14.out (Kd.R_typed HO_13.out) (by decide))) hkp (fun k_ hk_ hs_ => (hk_.2) hs_)) (fun k_ hk_ => ⟨hk_.1.1.1, hk_.1.1.2.1, hk_.1.1.2.2⟩)); replace HO_15 := Aside0.mk (Kd.R_mono (ok' := fun k_ => some k_ ≠ (v902 : Value).ownBlock ∧ some k_ ≠ (.slice Ao46 t911.length co46 : Value).ownBlock ∧ some k_ ≠ (.slice Ao75 t931.length co75 : Value).ownBlock) (Kd.R_keptB ((Kd.R_apart' HO_15.out (Kd.R_typed HO_13.out) (by decide))) hkp (fun k_ hk_ hs_ => (hk_.2) hs_)) (fun k_ hk_ => ⟨hk_.1.1.1, hk_.1.1.2.1, hk_.1.1.2.2⟩)); replace BK885 := Aside0.mk (blk_kept (qB BK885) hkp (fun hs_ => (fun e_ => (Kd.R_ne HO_13.out BK885.out (by decide)) e_) hs_)); replace HO925 := Aside0.mk (Kd.R_mono (ok' := fun k_ => some k_ ≠ (.slice Ao44 t905.length co44 : Value).ownBlock ∧ some k_ ≠ (.slice Ao45 t908.length co45 : Value).ownBlock ∧ some k_ ≠ (.slice Ao72 t927.length co72 : Value).ownBlock) (Kd.R_keptB (HO925.out) hkp (fun k_ hk_ hs_ => (hk_.2.1) hs_)) (fun k_ hk_ => ⟨hk_.1.1, hk_.1.2.1, hk_.1.2.2⟩)); replace HO929 := Aside0.mk (Kd.R_mono (ok' := fun k_ => some k_ ≠ (.slice Ao44 t905.length co44 : Value).ownBlock ∧ some k_ ≠ (.slice Ao45 t908.length co45 : Value).ownBlock ∧ some k_ ≠ (.slice Ao69 t923.length co69 : Value).ownBlock) (Kd.R_keptB (HO929.out) hkp (fun k_ hk_ hs_ => (hk_.2.1) hs_)) (fun k_ hk_ => ⟨hk_.1.1, hk_.1.2.1, hk_.1.2.2⟩)); replace HO933 := Aside0.mk (Kd.R_mono (ok' := fun k_ => some k_ ≠ (v902 : Value).ownBlock ∧ some k_ ≠ (.slice Ao46 t911.length co46 : Value).ownBlock ∧ some k_ ≠ (v919 : Value).ownBlock) (Kd.R_keptB ((Kd.R_apart' HO933.out (Kd.R_typed HO_13.out) (by decide))) hkp (fun k_ hk_ hs_ => (hk_.2) hs_)) (fun k_ hk_ => ⟨hk_.1.1.1, hk_.1.1.2.1, hk_.1.1.2.2⟩)); replace HO_13 := Aside0.mk (Kd.R_reok rfl hy0 (fun k_ e_ => HO_13.out.1 k_ e_)); replace HB := Aside0.mk (hb); (try clear hb); (try clear hkp); (try clear hy0)) | ((with_reducible refine gate_callee (f := 15) rfl ?_); refine goesL_ (some 94) rfl rfl Tryz.func15 (by kernel_rfl) rfl #[.slice Ao46 t911.length co46, .int .i64 t937] rfl qL ?_; (with_reducible refine (laws_markIntS.calls kj25 (fun k_ => some k_ = (.slice Ao46 t911.length co46 : Value).ownBlock) (.slice Ao46 t911.length co46) t911 t937 t939 t940 w _ ?side1 ?side2 A66.out).mono ?_); (case side1 => exact qS1 HB GE885); (case side2 => exact Kd.R_tight rfl HO_14.out); rintro e w78 ⟨rfl, hy0, hb, hkp⟩; refine ⟨_, rfl, ?_⟩; replace HO_10 := Aside0.mk (Kd.R_mono (ok' := fun k_ => some k_ ≠ (.slice Ao46 t911.length co46 : Value).ownBlock ∧ some k_ ≠ (v919 : Value).ownBlock ∧ some k_ ≠ (.slice Ao75 t931.length co75 : Value).ownBlock) (Kd.R_keptB (HO_10.out) hkp (fun k_ hk_ hs_ => (hk_.1) hs_)) (fun k_ hk_ => ⟨hk_.1.1, hk_.1.2.1, hk_.1.2.2⟩)); replace HO_12 := Aside0.mk (Kd.R_mono (ok' := fun k_ => some k_ ≠ (.slice Ao45 t908.length co45 : Value).ownBlock ∧ some k_ ≠ (.slice Ao69 t923.length co69 : Value).ownBlock ∧ some k_ ≠ (.slice Ao72 t927.length co72 : Value).ownBlock) (Kd.R_keptB ((Kd.R_apart' HO_12.out (Kd.R_typed HO_14.out) (by decide))) hkp (fun k_ hk_ hs_ => (hk_.2) hs_)) (fun k_ hk_ => ⟨hk_.1.1.1, hk_.1.1.2.1, hk_.1.1.2.2⟩)); replace HO_13 := Aside0.mk (Kd.R_mono (ok' := fun k_ => some k_ ≠ (.slice Ao44 t905.length co44 : Value).ownBlock ∧ some k_ ≠ (.slice Ao69 t923.length co69 : Value).ownBlock ∧ some k_ ≠ (.slice Ao72 t927.length co72 : Value).ownBlock) (Kd.R_keptB ((Kd.R_apart' HO_13.out (Kd.R_typed HO_14.out) (by decide))) hkp (fun k_ hk_ hs_ => (hk_.2) hs_)) (fun k_ hk_ => ⟨hk_.1.1.1, hk_.1.1.2.1, hk_.1.1.2.2⟩)); replace HO_15 := Aside0.mk (Kd.R_mono (ok' := fun k_ => some k_ ≠ (v902 : Value).ownBlock ∧ some k_ ≠ (.slice Ao46 t911.length co46 : Value).ownBlock ∧ some k_ ≠ (.slice Ao75 t931.length co75 : Value).ownBlock) (Kd.R_keptB (HO_15.out) hkp (fun k_ hk_ hs_ => (hk_.2.1) hs_)) (fun k_ hk_ => ⟨hk_.1.1, hk_.1.2.1, hk_.1.2.2⟩)); replace BK885 := Aside0.mk (blk_kept (qB BK885) hkp (fun hs_ => (fun e_ => (Kd.R_ne HO_14.out BK885.out (by decide)) e_) hs_)); replace HO925 := Aside0.mk (Kd.R_mono (ok' := fun k_ => some k_ ≠ (.slice Ao44 t905.length co44 : Value).ownBlock ∧ some k_ ≠ (.slice Ao45 t908.length co45 : Value).ownBlock ∧ some k_ ≠ (.slice Ao72 t927.length co72 : Value).ownBlock) (Kd.R_keptB ((Kd.R_apart' HO925.out (Kd.R_typed HO_14.out) (by decide))) hkp (fun k_ hk_ hs_ => (hk_.2) hs_)) (fun k_ hk_ => ⟨hk_.1.1.1, hk_.1.1.2.1, hk_.1.1.2.2⟩)); replace HO929 := Aside0.mk (Kd.R_mono (ok' := fun k_ => some k_ ≠ (.slice Ao44 t905.length co44 : Value).ownBlock ∧ some k_ ≠ (.slice Ao45 t908.length co45 : Value).ownBlock ∧ some k_ ≠ (.slice Ao69 t923.length co69 : Value).ownBlock) (Kd.R_keptB ((Kd.R_apart' HO929.out (Kd.R_typed HO_14.out) (by decide))) hkp (fun k_ hk_ hs_ => (hk_.2) hs_)) (fun k_ hk_ => ⟨hk_.1.1.1, hk_.1.1.2.1, hk_.1.1.2.2⟩)); replace HO_14 := Aside0.mk (Kd.R_reok rfl hy0 (fun k_ e_ => HO_14.out.1 k_ e_)); replace HO933 := Aside0.mk (Kd.R_mono (ok' := fun k_ => some k_ ≠ (v902 : Value).ownBlock ∧ some k_ ≠ (.slice Ao46 t911.length co46 : Value).ownBlock ∧ some k_ ≠ (v919 : Value).ownBlock) (Kd.R_keptB (HO933.out) hkp (fun k_ hk_ hs_ => (hk_.2.1) hs_)) (fun k_ hk_ => ⟨hk_.1.1, hk_.1.2.1, hk_.1.2.2⟩)); replace HB := Aside0.mk (hb); (try clear hb); (try clear hkp); (try clear hy0)))
          (try simp only [Act.put, List.setIfInBounds_toArray, List.set_cons_zero, List.set_cons_succ])
          go_cut [107] (fun v107 wc => ∃ (kq : Nat) (x107_66 : Bool), v107 = .bool x107_66 ∧ Aside0 (laws_FnExactSessPair.j1 kq l1 l2 l3 t901 t904 t918 x107_66 a0_0 a0_1 a0_2 a0_3 = some r) ∧ Aside0 (kq ≤ kj25) ∧ Aside0 (Kd.R (Kd.int .i64) 3 wc w.heap.size (fun k_ => some k_ ≠ (v919 : Value).ownBlock) v902 t901) ∧ Aside0 (Kd.R (Kd.int .i64) 3 wc w.heap.size (fun k_ => some k_ ≠ (v902 : Value).ownBlock) v919 t918) ∧ Aside0 (wc.heap[gb885]? = some (.cells #[.int .i64 a0_0, .int .i64 a0_1, .int .i64 a0_2, .int .i64 a0_3] 23 (0, 0))) ∧ Aside0 (Below w.heap.size w wc))
          case first =>
           (have H := HC67.out); clear HC67
           rcases qI H with ⟨c79b0, H⟩ | ⟨c79b0, H⟩
           ·(first | rw [c79b0] | (simp only [i64_w, i32_w]; rw [c79b0]) | skip)
            (have H' := Aside0.mk H); clear H
            go_wp2
            go_meet
            case rel => exact ⟨_, (true), qV, H', ⟨by have := HJ25.out; first | omega | exact Nat.le_refl _⟩, ⟨by (with_reducible repeat (first | apply Kd.R_alloc | apply Kd.R_drewN | apply Kd.R_drew)); exact Kd.R_mono HO_10.out (fun _ hk => hk.2.1)⟩, ⟨by (with_reducible repeat (first | apply Kd.R_alloc | apply Kd.R_drewN | apply Kd.R_drew)); exact Kd.R_mono HO_15.out (fun _ hk => hk.1)⟩, ⟨qB BK885⟩, ⟨qS1 HB GE885⟩⟩
           ·(first | rw [c79b0] | (simp only [i64_w, i32_w]; rw [c79b0]) | skip)
            obtain ⟨t941, A80, H⟩ := qX H
            try dsimp only at H
            by_cases c81 : t941 = true
            ·subst c81
             (have H1 : (laws_FnExactSessPair.j1 kj25 l1 l2 l3 t901 t904 t918 (t921 != t904) a0_0 a0_1 a0_2 a0_3) = some r := by rw [if_pos rfl] at H; exact H); clear H; (have H := H1); clear H1; (have H' := Aside0.mk H); clear H; (obtain ⟨Ao82, co82, eo82⟩ := Kd.R_slice HO_15.out); (subst eo82); (obtain ⟨Ao83, co83, eo83⟩ := Kd.R_slice HO_10.out); (subst eo83)
             go_wp2_with (first | (go_at_call 12; (with_reducible refine (laws_eqIntS.calls kj25 _ _ t918 _ _ t901 true _ ?side1 ?side2 ?side3 ?side4 A80.out).mono ?_); (case side1 => repeat (first | exact (Kd.R_reads' HO_15.out).2.2 | (with_reducible refine Kd.C_alloc ?_ _) | (with_reducible refine Kd.C_drewN ?_ _) | (with_reducible refine Kd.C_drew ?_))); (case side2 => exact (Kd.R_reads' HO_15.out).2.1); (case side3 => repeat (first | exact (Kd.R_reads' HO_10.out).2.2 | (with_reducible refine Kd.C_alloc ?_ _) | (with_reducible refine Kd.C_drewN ?_ _) | (with_reducible refine Kd.C_drew ?_))); (case side4 => exact (Kd.R_reads' HO_10.out).2.1); rintro e w' ⟨rfl, ⟨nd, rfl⟩⟩))
             go_meet
             case rel => exact ⟨_, ((t921 != t904)), qV, H', ⟨by have := HJ25.out; first | omega | exact Nat.le_refl _⟩, ⟨by (with_reducible repeat (first | apply Kd.R_alloc | apply Kd.R_drewN | apply Kd.R_drew)); exact Kd.R_mono HO_10.out (fun _ hk => hk.2.1)⟩, ⟨by (with_reducible repeat (first | apply Kd.R_alloc | apply Kd.R_drewN | apply Kd.R_drew)); exact Kd.R_mono HO_15.out (fun _ hk => hk.1)⟩, ⟨qB BK885⟩, ⟨qS1 HB GE885⟩⟩
            ·replace c81 := Bool.eq_false_iff.mpr c81
             (subst c81); (have H1 : (laws_FnExactSessPair.j1 kj25 l1 l2 l3 t901 t904 t918 true a0_0 a0_1 a0_2 a0_3) = some r := by rw [if_neg (show ¬ (false = true) by decide)] at H; exact H); clear H; (have H := H1); clear H1; (have H' := Aside0.mk H); clear H; (obtain ⟨Ao84, co84, eo84⟩ := Kd.R_slice HO_15.out); (subst eo84); (obtain ⟨Ao85, co85, eo85⟩ := Kd.R_slice HO_10.out); (subst eo85)
             go_wp2_with (first | (go_at_call 12; (with_reducible refine (laws_eqIntS.calls kj25 _ _ t918 _ _ t901 false _ ?side1 ?side2 ?side3 ?side4 A80.out).mono ?_); (case side1 => repeat (first | exact (Kd.R_reads' HO_15.out).2.2 | (with_reducible refine Kd.C_alloc ?_ _) | (with_reducible refine Kd.C_drewN ?_ _) | (with_reducible refine Kd.C_drew ?_))); (case side2 => exact (Kd.R_reads' HO_15.out).2.1); (case side3 => repeat (first | exact (Kd.R_reads' HO_10.out).2.2 | (with_reducible refine Kd.C_alloc ?_ _) | (with_reducible refine Kd.C_drewN ?_ _) | (with_reducible refine Kd.C_drew ?_))); (case side4 => exact (Kd.R_reads' HO_10.out).2.1); rintro e w' ⟨rfl, ⟨nd, rfl⟩⟩))
             go_meet
             case rel => exact ⟨_, (true), qV, H', ⟨by have := HJ25.out; first | omega | exact Nat.le_refl _⟩, ⟨by (with_reducible repeat (first | apply Kd.R_alloc | apply Kd.R_drewN | apply Kd.R_drew)); exact Kd.R_mono HO_10.out (fun _ hk => hk.2.1)⟩, ⟨by (with_reducible repeat (first | apply Kd.R_alloc | apply Kd.R_drewN | apply Kd.R_drew)); exact Kd.R_mono HO_15.out (fun _ hk => hk.1)⟩, ⟨qB BK885⟩, ⟨qS1 HB GE885⟩⟩
          case rest =>
           clear HC67; (try clear c54); (try clear c57); (try clear c60); (try clear c63); (try clear c79b0); (try clear c81); (obtain ⟨kq, x107_66, rfl, HA, HJ66, HO_10, HO_15, BK885, HB⟩ := hcut)
           cases kq with
           | zero => exact absurd HA.out (by simp [laws_FnExactSessPair.j1])
           | succ kj66 =>
            (have H := HA.out); clear HA; (simp only [laws_FnExactSessPair.j1] at H)
            by_cases c86 : x107_66 = true
            ·subst c86
             (have H1 : (some false) = some r := by rw [if_pos rfl] at H; exact H); clear H; (have H := H1); clear H1; (obtain rfl := Option.some.inj H)
             go_wp2
             go_ret
             exact ⟨qE, qS1 HB GE885⟩
            ·replace c86 := Bool.eq_false_iff.mpr c86
             (subst c86); (have H1 : ((laws_markIntS.f kj66 t918 1).bind fun bt942 => ((laws_heldIntS.f kj66 bt942.2 1).bind fun t944 => (if t944 < 0 then (some false) else (if t944 = bt942.1 then ((laws_toConf.f a0_0 a0_1 a0_2 a0_3).bind fun bt945 => ((laws_toReqS.f kj66 l1).bind fun t949 => ((laws_toReqS.f kj66 l2).bind fun t952 => ((laws_toIntS.f kj66 l3).bind fun t955 => ((impl_SessPair.f kj66 bt945.1 bt945.2.1 bt945.2.2.1 bt945.2.2.2 t949 t952 t955).bind fun bt958 => ((laws_eqIntS.f kj66 bt958.1 t901).bind fun t962 => (if t962 = true then (laws_FnExactSessPair.j2 kj66 bt942.2 bt942.1 (bt958.2 != t904)) else (laws_FnExactSessPair.j2 kj66 bt942.2 bt942.1 true)))))))) else (some false))))) = some r := by rw [if_neg (show ¬ (false = true) by decide)] at H; exact H); clear H; (have H := H1); clear H1; (obtain ⟨⟨t942, t943⟩, A87, H⟩ := qX H)
             try dsimp only at H
             obtain ⟨t944, A88, H⟩ := qX H
             try dsimp only at H
             rcases qI H with ⟨c89b0, H⟩ | ⟨c89b0, H⟩
             ·obtain rfl := Option.some.inj H
              (obtain ⟨Ao90, co90, eo90⟩ := Kd.R_slice HO_15.out); (subst eo90)
              go_wp2_with (first | ((with_reducible refine gate_callee (f := 15) rfl ?_); refine goesL_ (some 110) rfl rfl Tryz.func15 (by kernel_rfl) rfl #[.slice Ao90 t918.length co90, .int .i64 1] rfl qL ?_; (with_reducible refine (laws_markIntS.calls kj66 (fun k_ => some k_ = (.slice Ao90 t918.length co90 : Value).ownBlock) (.slice Ao90 t918.length co90) t918 1 t942 t943 w _ ?side1 ?side2 A87.out).mono ?_); (case side1 => exact qS1 HB GE885); (case side2 => exact Kd.R_tight rfl HO_15.out); rintro e w91 ⟨rfl, hy0, hb, hkp⟩; refine ⟨_, rfl, ?_⟩; replace HO_10 := Aside0.mk (Kd.R_mono (ok' := fun k_ => some k_ ≠ (.slice Ao90 t918.length co90 : Value).ownBlock) (Kd.R_keptB (HO_10.out) hkp (fun k_ hk_ hs_ => (hk_) hs_)) (fun k_ hk_ => hk_.1)); replace BK885 := Aside0.mk (blk_kept (qB BK885) hkp (fun hs_ => (fun e_ => (Kd.R_ne HO_15.out BK885.out (by decide)) e_) hs_)); replace HO_15 := Aside0.mk (Kd.R_reok rfl hy0 (fun k_ e_ => HO_15.out.1 k_ e_)); replace HB := Aside0.mk (hb); (try clear hb); (try clear hkp); (try clear hy0)) | ((with_reducible refine gate_callee (f := 16) rfl ?_); refine goesL_ (some 113) rfl rfl Tryz.func16 (by kernel_rfl) rfl #[.slice Ao90 t943.length co90, .int .i64 1] rfl (by (try simp only [List.map_toArray, List.map_cons, List.map_nil]); first | done | (rw [show t943.length = t918.length from (Kd.R_reads' HO_15.out).1.symm] <;> rfl) | rfl | (simp only [List.length_drop, List.length_take]; rfl)) ?_; (with_reducible refine (laws_heldIntS.calls kj66 _ _ t943 1 t944 _ ?side1 ?side2 A88.out).mono ?_); (case side1 => repeat (first | exact (Kd.R_reads' HO_15.out).2.2 | (with_reducible refine Kd.C_alloc ?_ _) | (with_reducible refine Kd.C_drewN ?_ _) | (with_reducible refine Kd.C_drew ?_))); (case side2 => rw [show t943.length = t918.length from (Kd.R_reads' HO_15.out).1.symm]; exact (Kd.R_reads' HO_15.out).2.1); rintro e w' ⟨rfl, ⟨nd, rfl⟩⟩; refine ⟨_, rfl, ?_⟩))
              go_ret
              exact ⟨qE, qS1 HB GE885⟩
             ·rcases qJ H with ⟨c92, H⟩ | ⟨c92, H⟩
              ·have c92b0 : (t944 == t942) = true := beq_iff_eq.mpr c92
               (have c92b1 : (t944 != t942) = false := bne_eq_false_iff_eq.mpr c92); clear c92; (obtain ⟨⟨t945, t946, t947, t948⟩, A93, H⟩ := qX H)
               try dsimp only at H
               obtain ⟨t949, A94, H⟩ := qX H
               try dsimp only at H
               obtain ⟨t952, A95, H⟩ := qX H
               try dsimp only at H
               obtain ⟨t955, A96, H⟩ := qX H
               try dsimp only at H
               obtain ⟨⟨t958, t961⟩, A97, H⟩ := qX H
               try dsimp only at H
               (have HC98 := Aside0.mk H); clear H; (obtain ⟨Ao99, co99, eo99⟩ := Kd.R_slice HO_15.out); (subst eo99)
               go_upto_region 38 with (first | ((with_reducible refine gate_callee (f := 15) rfl ?_); refine goesL_ (some 110) rfl rfl Tryz.func15 (by kernel_rfl) rfl #[.slice Ao99 t918.length co99, .int .i64 1] rfl qL ?_; (with_reducible refine (laws_markIntS.calls kj66 (fun k_ => some k_ = (.slice Ao99 t918.length co99 : Value).ownBlock) (.slice Ao99 t918.length co99) t918 1 t942 t943 w _ ?side1 ?side2 A87.out).mono ?_); (case side1 => exact qS1 HB GE885); (case side2 => exact Kd.R_tight rfl HO_15.out); rintro e w100 ⟨rfl, hy0, hb, hkp⟩; refine ⟨_, rfl, ?_⟩; replace HO_10 := Aside0.mk (Kd.R_mono (ok' := fun k_ => some k_ ≠ (.slice Ao99 t918.length co99 : Value).ownBlock) (Kd.R_keptB (HO_10.out) hkp (fun k_ hk_ hs_ => (hk_) hs_)) (fun k_ hk_ => hk_.1)); replace BK885 := Aside0.mk (blk_kept (qB BK885) hkp (fun hs_ => (fun e_ => (Kd.R_ne HO_15.out BK885.out (by decide)) e_) hs_)); replace HO_15 := Aside0.mk (Kd.R_reok rfl hy0 (fun k_ e_ => HO_15.out.1 k_ e_)); replace HB := Aside0.mk (hb); (try clear hb); (try clear hkp); (try clear hy0)) | ((with_reducible refine gate_callee (f := 16) rfl ?_); refine goesL_ (some 113) rfl rfl Tryz.func16 (by kernel_rfl) rfl #[.slice Ao99 t943.length co99, .int .i64 1] rfl (by (try simp only [List.map_toArray, List.map_cons, List.map_nil]); first | done | (rw [show t943.length = t918.length from (Kd.R_reads' HO_15.out).1.symm] <;> rfl) | rfl | (simp only [List.length_drop, List.length_take]; rfl)) ?_; (with_reducible refine (laws_heldIntS.calls kj66 _ _ t943 1 t944 _ ?side1 ?side2 A88.out).mono ?_); (case side1 => repeat (first | exact (Kd.R_reads' HO_15.out).2.2 | (with_reducible refine Kd.C_alloc ?_ _) | (with_reducible refine Kd.C_drewN ?_ _) | (with_reducible refine Kd.C_drew ?_))); (case side2 => rw [show t943.length = t918.length from (Kd.R_reads' HO_15.out).1.symm]; exact (Kd.R_reads' HO_15.out).2.1); rintro e w' ⟨rfl, ⟨nd, rfl⟩⟩; refine ⟨_, rfl, ?_⟩; obtain ⟨hcz101_0, hcz101_1, hcz101_2, hcz101_3, hfz101_0, hfz101_1, hfz101_2, hfz101_3⟩ := qC4 BK885) | ((with_reducible refine gate_callee (f := 8) rfl ?_); refine goesL_ (some 121) rfl rfl Tryz.func8 (by kernel_rfl) rfl #[.agg #[.int .i64 a0_0, .int .i64 a0_1, .int .i64 a0_2, .int .i64 a0_3]] rfl qL ?_; (with_reducible refine (laws_toConf.calls a0_0 a0_1 a0_2 a0_3 t945 t946 t947 t948 _ A93.out).mono ?_); rintro e w102 ⟨rfl, hb⟩; refine ⟨_, rfl, ?_⟩; replace HO_10 := Aside0.mk (Kd.R_below (qR HO_10) hb); replace HO_15 := Aside0.mk (Kd.R_below (qR HO_15) hb); replace BK885 := qD BK885 hb; replace HB := Aside0.mk (below_step (qS1 HB GE885) hb); (try clear hb); (try clear hb2); (try clear hk); (try clear hi)) | ((with_reducible refine gate_callee (f := 9) rfl ?_); refine goesL_ (some 123) rfl rfl Tryz.func9 (by kernel_rfl) rfl #[.slice A1 l1.length c1] rfl qL ?_; (with_reducible refine (laws_toReqS.calls kj66 _ _ l1 t949 _ ?side1 ?side2 A94.out).mono ?_); (case side1 => exact qW (Kd.C_below HR1.out HB.out)); (case side2 => exact HC1.out); rintro e w103 ⟨v950, rfl, ho0, hb⟩; refine ⟨_, rfl, ?_⟩; replace HO_10 := Aside0.mk (Kd.R_below (qR HO_10) hb); replace HO_15 := Aside0.mk (Kd.R_below (qR HO_15) hb); have HO951 := Aside0.mk (Kd.R_lower ho0 (below_size (qS1 HB GE885))); replace BK885 := qD BK885 hb; replace HB := Aside0.mk (below_step (qS1 HB GE885) hb); (try clear hb); (try clear hb2); (try clear hk); (try clear hi); (try clear ho0)) | ((with_reducible refine gate_callee (f := 9) rfl ?_); refine goesL_ (some 125) rfl rfl Tryz.func9 (by kernel_rfl) rfl #[.slice A2 l2.length c2] rfl qL ?_; (with_reducible refine (laws_toReqS.calls kj66 _ _ l2 t952 _ ?side1 ?side2 A95.out).mono ?_); (case side1 => exact qW (Kd.C_below HR2.out HB.out)); (case side2 => exact HC2.out); rintro e w104 ⟨v953, rfl, ho0, hb⟩; refine ⟨_, rfl, ?_⟩; replace HO_10 := Aside0.mk (Kd.R_below (qR HO_10) hb); replace HO_15 := Aside0.mk (Kd.R_below (qR HO_15) hb); have HO954 := Aside0.mk (Kd.R_lower (Kd.R_new' ho0 (Kd.R_lt (qR HO951))) (below_size (qS1 HB GE885))); replace HO951 := Aside0.mk (Kd.R_elder' (qR HO951) (Kd.R_base ho0) hb); replace BK885 := qD BK885 hb; replace HB := Aside0.mk (below_step (qS1 HB GE885) hb); (try clear hb); (try clear hb2); (try clear hk); (try clear hi); (try clear ho0)) | ((with_reducible refine gate_callee (f := 10) rfl ?_); refine goesL_ (some 127) rfl rfl Tryz.func10 (by kernel_rfl) rfl #[.slice A3 l3.length c3] rfl qL ?_; (with_reducible refine (laws_toIntS.calls kj66 _ _ l3 t955 _ ?side1 ?side2 A96.out).mono ?_); (case side1 => exact qW (Kd.C_below HR3.out HB.out)); (case side2 => exact HC3.out); rintro e w105 ⟨v956, rfl, ho0, hb⟩; refine ⟨_, rfl, ?_⟩; replace HO951 := Aside0.mk (Kd.R_below (qR HO951) hb); replace HO954 := Aside0.mk (Kd.R_below (qR HO954) hb); have HO957 := Aside0.mk (Kd.R_lower (Kd.R_new' (Kd.R_new' ho0 (Kd.R_lt (qR HO_10))) (Kd.R_lt (qR HO_15))) (below_size (qS1 HB GE885))); replace HO_10 := Aside0.mk (Kd.R_elder' (qR HO_10) (Kd.R_base ho0) hb); replace HO_15 := Aside0.mk (Kd.R_elder' (qR HO_15) (Kd.R_base ho0) hb); replace BK885 := qD BK885 hb; replace HB := Aside0.mk (below_step (qS1 HB GE885) hb); (try clear hb); (try clear hb2); (try clear hk); (try clear hi); (try clear ho0); obtain ⟨Ao106, co106, eo106⟩ := Kd.R_slice HO951.out; subst eo106; obtain ⟨Ao107, co107, eo107⟩ := Kd.R_slice HO954.out; subst eo107; obtain ⟨Ao108, co108, eo108⟩ := Kd.R_slice HO957.out; subst eo108) | ((with_reducible refine gate_callee (f := 18) rfl ?_); refine goesL_ (some 128) rfl rfl Tryz.func18 (by kernel_rfl) rfl #[.agg #[.int .i64 t945, .int .i64 t946, .int .i64 t947, .int .i64 t948], .slice Ao106 t949.length co106, .slice Ao107 t952.length co107, .slice Ao108 t955.length co108] rfl qL ?_; (with_reducible refine (impl_SessPair.calls kj66 t945 t946 t947 t948 _ _ t949 _ _ t952 _ _ t955 t958 t961 _ ?side1 ?side2 ?side3 ?side4 ?side5 ?side6 A97.out (G_below (qS1 HB GE885) hG)).mono ?_); (case side1 => repeat (first | exact (Kd.R_reads' HO951.out).2.2 | (with_reducible refine Kd.C_alloc ?_ _) | (with_reducible refine Kd.C_drewN ?_ _) | (with_reducible refine Kd.C_drew ?_))); (case side2 => exact (Kd.R_reads' HO951.out).2.1); (case side3 => repeat (first | exact (Kd.R_reads' HO954.out).2.2 | (with_reducible refine Kd.C_alloc ?_ _) | (with_reducible refine Kd.C_drewN ?_ _) | (with_reducible refine Kd.C_drew ?_))); (case side4 => exact (Kd.R_reads' HO954.out).2.1); (case side5 => repeat (first | exact (Kd.R_reads' HO957.out).2.2 | (with_reducible refine Kd.C_alloc ?_ _) | (with_reducible refine Kd.C_drewN ?_ _) | (with_reducible refine Kd.C_drew ?_))); (case side6 => exact (Kd.R_reads' HO957.out).2.1); rintro e w109 ⟨v959, rfl, ho0, hb⟩; refine ⟨_, rfl, ?_⟩; replace HO951 := Aside0.mk (Kd.R_below (qR HO951) hb); replace HO954 := Aside0.mk (Kd.R_below (qR HO954) hb); have HO960 := Aside0.mk (Kd.R_lower (Kd.R_new' (Kd.R_new' (Kd.R_new' ho0 (Kd.R_lt (qR HO_10))) (Kd.R_lt (qR HO_15))) (Kd.R_lt (qR HO957))) (below_size (qS1 HB GE885))); replace HO_10 := Aside0.mk (Kd.R_elder' (qR HO_10) (Kd.R_base ho0) hb); replace HO_15 := Aside0.mk (Kd.R_elder' (qR HO_15) (Kd.R_base ho0) hb); replace HO957 := Aside0.mk (Kd.R_elder' (qR HO957) (Kd.R_base ho0) hb); replace BK885 := qD BK885 hb; replace HB := Aside0.mk (below_step (qS1 HB GE885) hb); (try clear hb); (try clear hb2); (try clear hk); (try clear hi); (try clear ho0)))
               (try simp only [Act.put, List.setIfInBounds_toArray, List.set_cons_zero, List.set_cons_succ])
               go_cut [139] (fun v139 wc => ∃ (kq : Nat) (x139_97 : Bool), v139 = .bool x139_97 ∧ Aside0 (laws_FnExactSessPair.j2 kq t943 t942 x139_97 = some r) ∧ Aside0 (kq ≤ kj66) ∧ Aside0 (Kd.R (Kd.int .i64) 3 wc w.heap.size (fun _ => True) (.slice Ao99 t918.length co99) t943) ∧ Aside0 (wc.heap[gb885]? = some (.cells #[.int .i64 a0_0, .int .i64 a0_1, .int .i64 a0_2, .int .i64 a0_3] 23 (0, 0))) ∧ Aside0 (Below w.heap.size w wc))
               case first =>
                (have H := HC98.out); clear HC98; (obtain ⟨t962, A110, H⟩ := qX H)
                try dsimp only at H
                by_cases c111 : t962 = true
                ·subst c111
                 (have H1 : (laws_FnExactSessPair.j2 kj66 t943 t942 (t961 != t904)) = some r := by rw [if_pos rfl] at H; exact H); clear H; (have H := H1); clear H1; (have H' := Aside0.mk H); clear H; (obtain ⟨Ao112, co112, eo112⟩ := Kd.R_slice HO960.out); (subst eo112); (obtain ⟨Ao113, co113, eo113⟩ := Kd.R_slice HO_10.out); (subst eo113)
                 go_wp2_with (first | ((with_reducible refine gate_callee (f := 12) rfl ?_); refine goesL_ (some 133) rfl rfl Tryz.func12 (by kernel_rfl) rfl #[.slice Ao112 t958.length co112, .slice Ao113 t901.length co113] rfl qL ?_; (with_reducible refine (laws_eqIntS.calls kj66 _ _ t958 _ _ t901 true _ ?side1 ?side2 ?side3 ?side4 A110.out).mono ?_); (case side1 => repeat (first | exact (Kd.R_reads' HO960.out).2.2 | (with_reducible refine Kd.C_alloc ?_ _) | (with_reducible refine Kd.C_drewN ?_ _) | (with_reducible refine Kd.C_drew ?_))); (case side2 => exact (Kd.R_reads' HO960.out).2.1); (case side3 => repeat (first | exact (Kd.R_reads' HO_10.out).2.2 | (with_reducible refine Kd.C_alloc ?_ _) | (with_reducible refine Kd.C_drewN ?_ _) | (with_reducible refine Kd.C_drew ?_))); (case side4 => exact (Kd.R_reads' HO_10.out).2.1); rintro e w' ⟨rfl, ⟨nd, rfl⟩⟩; refine ⟨_, rfl, ?_⟩))
                 go_meet
                 case rel => exact ⟨_, ((t961 != t904)), qV, H', ⟨by have := HJ25.out; have := HJ66.out; first | omega | exact Nat.le_refl _⟩, ⟨by (with_reducible repeat (first | apply Kd.R_alloc | apply Kd.R_drewN | apply Kd.R_drew)); exact Kd.R_mono HO_15.out (fun _ hk => trivial)⟩, ⟨qB BK885⟩, ⟨qS1 HB GE885⟩⟩
                ·replace c111 := Bool.eq_false_iff.mpr c111
                 (subst c111); (have H1 : (laws_FnExactSessPair.j2 kj66 t943 t942 true) = some r := by rw [if_neg (show ¬ (false = true) by decide)] at H; exact H); clear H; (have H := H1); clear H1; (have H' := Aside0.mk H); clear H; (obtain ⟨Ao114, co114, eo114⟩ := Kd.R_slice HO960.out); (subst eo114); (obtain ⟨Ao115, co115, eo115⟩ := Kd.R_slice HO_10.out); (subst eo115)
                 go_wp2_with (first | ((with_reducible refine gate_callee (f := 12) rfl ?_); refine goesL_ (some 133) rfl rfl Tryz.func12 (by kernel_rfl) rfl #[.slice Ao114 t958.length co114, .slice Ao115 t901.length co115] rfl qL ?_; (with_reducible refine (laws_eqIntS.calls kj66 _ _ t958 _ _ t901 false _ ?side1 ?side2 ?side3 ?side4 A110.out).mono ?_); (case side1 => repeat (first | exact (Kd.R_reads' HO960.out).2.2 | (with_reducible refine Kd.C_alloc ?_ _) | (with_reducible refine Kd.C_drewN ?_ _) | (with_reducible refine Kd.C_drew ?_))); (case side2 => exact (Kd.R_reads' HO960.out).2.1); (case side3 => repeat (first | exact (Kd.R_reads' HO_10.out).2.2 | (with_reducible refine Kd.C_alloc ?_ _) | (with_reducible refine Kd.C_drewN ?_ _) | (with_reducible refine Kd.C_drew ?_))); (case side4 => exact (Kd.R_reads' HO_10.out).2.1); rintro e w' ⟨rfl, ⟨nd, rfl⟩⟩; refine ⟨_, rfl, ?_⟩))
                 go_meet
                 case rel => exact ⟨_, (true), qV, H', ⟨by have := HJ25.out; have := HJ66.out; first | omega | exact Nat.le_refl _⟩, ⟨by (with_reducible repeat (first | apply Kd.R_alloc | apply Kd.R_drewN | apply Kd.R_drew)); exact Kd.R_mono HO_15.out (fun _ hk => trivial)⟩, ⟨qB BK885⟩, ⟨qS1 HB GE885⟩⟩
               case rest =>
                clear HC98; (try clear c86); (try clear c89b0); (try clear c92b0); (try clear c92b1); (try clear c111); (try clear hcz101_0); (try clear hcz101_1); (try clear hcz101_2); (try clear hcz101_3); (try clear hfz101_0); (try clear hfz101_1); (try clear hfz101_2); (try clear hfz101_3); (obtain ⟨kq, x139_97, rfl, HA, HJ97, HO_15, BK885, HB⟩ := hcut); (have hl15_97 := (Kd.R_reads' HO_15.out).1); (rw [hl15_97] at HO_15); (try simp only [hl15_97]); (try simp only [hl15_97] at BK885)
                cases kq with
                | zero => exact absurd HA.out (by simp [laws_FnExactSessPair.j2])
                | succ kj97 =>
                 (have H := HA.out); clear HA; (simp only [laws_FnExactSessPair.j2] at H)
                 by_cases c116 : x139_97 = true
                 ·subst c116
                  (have H1 : (some false) = some r := by rw [if_pos rfl] at H; exact H); clear H; (have H := H1); clear H1; (obtain rfl := Option.some.inj H)
                  go_wp2
                  go_ret
                  exact ⟨qE, qS1 HB GE885⟩
                 ·replace c116 := Bool.eq_false_iff.mpr c116
                  (subst c116); (have H1 : ((laws_heldIntS.f kj97 t943 1).bind fun t963 => (if t963 < 0 then (some false) else (if t963 = t942 then (some true) else (some false)))) = some r := by rw [if_neg (show ¬ (false = true) by decide)] at H; exact H); clear H; (have H := H1); clear H1; (obtain ⟨t963, A117, H⟩ := qX H)
                  try dsimp only at H
                  rcases qI H with ⟨c118b0, H⟩ | ⟨c118b0, H⟩
                  ·obtain rfl := Option.some.inj H
                   go_wp2_with (first | ((with_reducible refine gate_callee (f := 16) rfl ?_); refine goesL_ (some 142) rfl rfl Tryz.func16 (by kernel_rfl) rfl #[.slice Ao99 t943.length co99, .int .i64 1] rfl qL ?_; (with_reducible refine (laws_heldIntS.calls kj97 _ _ t943 1 t963 _ ?side1 ?side2 A117.out).mono ?_); (case side1 => repeat (first | exact (Kd.R_reads' HO_15.out).2.2 | (with_reducible refine Kd.C_alloc ?_ _) | (with_reducible refine Kd.C_drewN ?_ _) | (with_reducible refine Kd.C_drew ?_))); (case side2 => exact (Kd.R_reads' HO_15.out).2.1); rintro e w' ⟨rfl, ⟨nd, rfl⟩⟩; refine ⟨_, rfl, ?_⟩))
                   go_ret
                   exact ⟨qE, qS1 HB GE885⟩
                  ·rcases qJ H with ⟨c119, H⟩ | ⟨c119, H⟩
                   ·have c119b0 : (t963 == t942) = true := beq_iff_eq.mpr c119
                    (have c119b1 : (t963 != t942) = false := bne_eq_false_iff_eq.mpr c119); clear c119; (obtain rfl := Option.some.inj H)
                    go_wp2_with (first | ((with_reducible refine gate_callee (f := 16) rfl ?_); refine goesL_ (some 142) rfl rfl Tryz.func16 (by kernel_rfl) rfl #[.slice Ao99 t943.length co99, .int .i64 1] rfl qL ?_; (with_reducible refine (laws_heldIntS.calls kj97 _ _ t943 1 t963 _ ?side1 ?side2 A117.out).mono ?_); (case side1 => repeat (first | exact (Kd.R_reads' HO_15.out).2.2 | (with_reducible refine Kd.C_alloc ?_ _) | (with_reducible refine Kd.C_drewN ?_ _) | (with_reducible refine Kd.C_drew ?_))); (case side2 => exact (Kd.R_reads' HO_15.out).2.1); rintro e w' ⟨rfl, ⟨nd, rfl⟩⟩; refine ⟨_, rfl, ?_⟩))
                    go_ret
                    exact ⟨qE, qS1 HB GE885⟩
                   ·have c119b0 : (t963 == t942) = false := beq_eq_false_iff_ne.mpr c119
                    (have c119b1 : (t963 != t942) = true := bne_iff_ne.mpr c119); (obtain rfl := Option.some.inj H)
                    go_wp2_with (first | ((with_reducible refine gate_callee (f := 16) rfl ?_); refine goesL_ (some 142) rfl rfl Tryz.func16 (by kernel_rfl) rfl #[.slice Ao99 t943.length co99, .int .i64 1] rfl qL ?_; (with_reducible refine (laws_heldIntS.calls kj97 _ _ t943 1 t963 _ ?side1 ?side2 A117.out).mono ?_); (case side1 => repeat (first | exact (Kd.R_reads' HO_15.out).2.2 | (with_reducible refine Kd.C_alloc ?_ _) | (with_reducible refine Kd.C_drewN ?_ _) | (with_reducible refine Kd.C_drew ?_))); (case side2 => exact (Kd.R_reads' HO_15.out).2.1); rintro e w' ⟨rfl, ⟨nd, rfl⟩⟩; refine ⟨_, rfl, ?_⟩))
                    go_ret
                    exact ⟨qE, qS1 HB GE885⟩
              ·have c92b0 : (t944 == t942) = false := beq_eq_false_iff_ne.mpr c92
               (have c92b1 : (t944 != t942) = true := bne_iff_ne.mpr c92); (obtain rfl := Option.some.inj H); (obtain ⟨Ao120, co120, eo120⟩ := Kd.R_slice HO_15.out); (subst eo120)
               go_wp2_with (first | ((with_reducible refine gate_callee (f := 15) rfl ?_); refine goesL_ (some 110) rfl rfl Tryz.func15 (by kernel_rfl) rfl #[.slice Ao120 t918.length co120, .int .i64 1] rfl qL ?_; (with_reducible refine (laws_markIntS.calls kj66 (fun k_ => some k_ = (.slice Ao120 t918.length co120 : Value).ownBlock) (.slice Ao120 t918.length co120) t918 1 t942 t943 w _ ?side1 ?side2 A87.out).mono ?_); (case side1 => exact qS1 HB GE885); (case side2 => exact Kd.R_tight rfl HO_15.out); rintro e w121 ⟨rfl, hy0, hb, hkp⟩; refine ⟨_, rfl, ?_⟩; replace HO_10 := Aside0.mk (Kd.R_mono (ok' := fun k_ => some k_ ≠ (.slice Ao120 t918.length co120 : Value).ownBlock) (Kd.R_keptB (HO_10.out) hkp (fun k_ hk_ hs_ => (hk_) hs_)) (fun k_ hk_ => hk_.1)); replace BK885 := Aside0.mk (blk_kept (qB BK885) hkp (fun hs_ => (fun e_ => (Kd.R_ne HO_15.out BK885.out (by decide)) e_) hs_)); replace HO_15 := Aside0.mk (Kd.R_reok rfl hy0 (fun k_ e_ => HO_15.out.1 k_ e_)); replace HB := Aside0.mk (hb); (try clear hb); (try clear hkp); (try clear hy0)) | ((with_reducible refine gate_callee (f := 16) rfl ?_); refine goesL_ (some 113) rfl rfl Tryz.func16 (by kernel_rfl) rfl #[.slice Ao120 t943.length co120, .int .i64 1] rfl (by (try simp only [List.map_toArray, List.map_cons, List.map_nil]); first | done | (rw [show t943.length = t918.length from (Kd.R_reads' HO_15.out).1.symm] <;> rfl) | rfl | (simp only [List.length_drop, List.length_take]; rfl)) ?_; (with_reducible refine (laws_heldIntS.calls kj66 _ _ t943 1 t944 _ ?side1 ?side2 A88.out).mono ?_); (case side1 => repeat (first | exact (Kd.R_reads' HO_15.out).2.2 | (with_reducible refine Kd.C_alloc ?_ _) | (with_reducible refine Kd.C_drewN ?_ _) | (with_reducible refine Kd.C_drew ?_))); (case side2 => rw [show t943.length = t918.length from (Kd.R_reads' HO_15.out).1.symm]; exact (Kd.R_reads' HO_15.out).2.1); rintro e w' ⟨rfl, ⟨nd, rfl⟩⟩; refine ⟨_, rfl, ?_⟩))
               go_ret
               exact ⟨qE, qS1 HB GE885⟩
         ·replace c63 := Bool.eq_false_iff.mpr c63
          (subst c63); (have H1 : (some false) = some r := by rw [if_neg (show ¬ (false = true) by decide)] at H; exact H); clear H; (have H := H1); clear H1; (obtain rfl := Option.some.inj H)
          go_wp2_with (first | ((with_reducible refine gate_callee (f := 9) rfl ?_); refine goesL_ (some 73) rfl rfl Tryz.func9 (by kernel_rfl) rfl #[.slice A1 l1.length c1] rfl qL ?_; (with_reducible refine (laws_toReqS.calls kj25 _ _ l1 t923 _ ?side1 ?side2 A55.out).mono ?_); (case side1 => exact qW (Kd.C_below HR1.out HB.out)); (case side2 => exact HC1.out); rintro e w122 ⟨v924, rfl, ho0, hb⟩; refine ⟨_, rfl, ?_⟩; replace HO_10 := Aside0.mk (Kd.R_below (qR HO_10) hb); replace HO_14 := Aside0.mk (Kd.R_below (qR HO_14) hb); replace HO_15 := Aside0.mk (Kd.R_below (qR HO_15) hb); have HO925 := Aside0.mk (Kd.R_lower (Kd.R_new' (Kd.R_new' ho0 (Kd.R_lt (qR HO_12))) (Kd.R_lt (qR HO_13))) (below_size (qS1 HB GE885))); replace HO_12 := Aside0.mk (Kd.R_elder' (qR HO_12) (Kd.R_base ho0) hb); replace HO_13 := Aside0.mk (Kd.R_elder' (qR HO_13) (Kd.R_base ho0) hb); replace BK885 := qD BK885 hb; replace HB := Aside0.mk (below_step (qS1 HB GE885) hb); (try clear hb); (try clear hb2); (try clear hk); (try clear hi); (try clear ho0); obtain ⟨Ao123, co123, eo123⟩ := Kd.R_slice HO925.out; subst eo123) | ((with_reducible refine gate_callee (f := 13) rfl ?_); refine goesL_ (some 74) rfl rfl Tryz.func13 (by kernel_rfl) rfl #[.slice Ao44 t905.length co44, .slice Ao123 t923.length co123] rfl qL ?_; (with_reducible refine (laws_eqReqS.calls kj25 _ _ t905 _ _ t923 true _ ?side1 ?side2 ?side3 ?side4 A56.out).mono ?_); (case side1 => repeat (first | exact (Kd.R_reads' HO_12.out).2.2 | (with_reducible refine Kd.C_alloc ?_ _) | (with_reducible refine Kd.C_drewN ?_ _) | (with_reducible refine Kd.C_drew ?_))); (case side2 => exact (Kd.R_reads' HO_12.out).2.1); (case side3 => repeat (first | exact (Kd.R_reads' HO925.out).2.2 | (with_reducible refine Kd.C_alloc ?_ _) | (with_reducible refine Kd.C_drewN ?_ _) | (with_reducible refine Kd.C_drew ?_))); (case side4 => exact (Kd.R_reads' HO925.out).2.1); rintro e w124 ⟨rfl, hb⟩; refine ⟨_, rfl, ?_⟩; replace HO_10 := Aside0.mk (Kd.R_below (qR HO_10) hb); replace HO_12 := Aside0.mk (Kd.R_below (qR HO_12) hb); replace HO_13 := Aside0.mk (Kd.R_below (qR HO_13) hb); replace HO_14 := Aside0.mk (Kd.R_below (qR HO_14) hb); replace HO_15 := Aside0.mk (Kd.R_below (qR HO_15) hb); replace HO925 := Aside0.mk (Kd.R_below (qR HO925) hb); replace BK885 := qD BK885 hb; replace HB := Aside0.mk (below_step (qS1 HB GE885) hb); (try clear hb); (try clear hb2); (try clear hk); (try clear hi)) | ((with_reducible refine gate_callee (f := 9) rfl ?_); refine goesL_ (some 78) rfl rfl Tryz.func9 (by kernel_rfl) rfl #[.slice A2 l2.length c2] rfl qL ?_; (with_reducible refine (laws_toReqS.calls kj25 _ _ l2 t927 _ ?side1 ?side2 A58.out).mono ?_); (case side1 => exact qW (Kd.C_below HR2.out HB.out)); (case side2 => exact HC2.out); rintro e w125 ⟨v928, rfl, ho0, hb⟩; refine ⟨_, rfl, ?_⟩; replace HO_10 := Aside0.mk (Kd.R_below (qR HO_10) hb); replace HO_14 := Aside0.mk (Kd.R_below (qR HO_14) hb); replace HO_15 := Aside0.mk (Kd.R_below (qR HO_15) hb); have HO929 := Aside0.mk (Kd.R_lower (Kd.R_new' (Kd.R_new' (Kd.R_new' ho0 (Kd.R_lt (qR HO_12))) (Kd.R_lt (qR HO_13))) (Kd.R_lt (qR HO925))) (below_size (qS1 HB GE885))); replace HO_12 := Aside0.mk (Kd.R_elder' (qR HO_12) (Kd.R_base ho0) hb); replace HO_13 := Aside0.mk (Kd.R_elder' (qR HO_13) (Kd.R_base ho0) hb); replace HO925 := Aside0.mk (Kd.R_elder' (qR HO925) (Kd.R_base ho0) hb); replace BK885 := qD BK885 hb; replace HB := Aside0.mk (below_step (qS1 HB GE885) hb); (try clear hb); (try clear hb2); (try clear hk); (try clear hi); (try clear ho0); obtain ⟨Ao126, co126, eo126⟩ := Kd.R_slice HO929.out; subst eo126) | ((with_reducible refine gate_callee (f := 13) rfl ?_); refine goesL_ (some 79) rfl rfl Tryz.func13 (by kernel_rfl) rfl #[.slice Ao45 t908.length co45, .slice Ao126 t927.length co126] rfl qL ?_; (with_reducible refine (laws_eqReqS.calls kj25 _ _ t908 _ _ t927 true _ ?side1 ?side2 ?side3 ?side4 A59.out).mono ?_); (case side1 => repeat (first | exact (Kd.R_reads' HO_13.out).2.2 | (with_reducible refine Kd.C_alloc ?_ _) | (with_reducible refine Kd.C_drewN ?_ _) | (with_reducible refine Kd.C_drew ?_))); (case side2 => exact (Kd.R_reads' HO_13.out).2.1); (case side3 => repeat (first | exact (Kd.R_reads' HO929.out).2.2 | (with_reducible refine Kd.C_alloc ?_ _) | (with_reducible refine Kd.C_drewN ?_ _) | (with_reducible refine Kd.C_drew ?_))); (case side4 => exact (Kd.R_reads' HO929.out).2.1); rintro e w127 ⟨rfl, hb⟩; refine ⟨_, rfl, ?_⟩; replace HO_10 := Aside0.mk (Kd.R_below (qR HO_10) hb); replace HO_12 := Aside0.mk (Kd.R_below (qR HO_12) hb); replace HO_13 := Aside0.mk (Kd.R_below (qR HO_13) hb); replace HO_14 := Aside0.mk (Kd.R_below (qR HO_14) hb); replace HO_15 := Aside0.mk (Kd.R_below (qR HO_15) hb); replace HO925 := Aside0.mk (Kd.R_below (qR HO925) hb); replace HO929 := Aside0.mk (Kd.R_below (qR HO929) hb); replace BK885 := qD BK885 hb; replace HB := Aside0.mk (below_step (qS1 HB GE885) hb); (try clear hb); (try clear hb2); (try clear hk); (try clear hi)) | ((with_reducible refine gate_callee (f := 10) rfl ?_); refine goesL_ (some 83) rfl rfl Tryz.func10 (by kernel_rfl) rfl #[.slice A3 l3.length c3] rfl qL ?_; (with_reducible refine (laws_toIntS.calls kj25 _ _ l3 t931 _ ?side1 ?side2 A61.out).mono ?_); (case side1 => exact qW (Kd.C_below HR3.out HB.out)); (case side2 => exact HC3.out); rintro e w128 ⟨v932, rfl, ho0, hb⟩; refine ⟨_, rfl, ?_⟩; replace HO_12 := Aside0.mk (Kd.R_below (qR HO_12) hb); replace HO_13 := Aside0.mk (Kd.R_below (qR HO_13) hb); replace HO925 := Aside0.mk (Kd.R_below (qR HO925) hb); replace HO929 := Aside0.mk (Kd.R_below (qR HO929) hb); have HO933 := Aside0.mk (Kd.R_lower (Kd.R_new' (Kd.R_new' (Kd.R_new' ho0 (Kd.R_lt (qR HO_10))) (Kd.R_lt (qR HO_14))) (Kd.R_lt (qR HO_15))) (below_size (qS1 HB GE885))); replace HO_10 := Aside0.mk (Kd.R_elder' (qR HO_10) (Kd.R_base ho0) hb); replace HO_14 := Aside0.mk (Kd.R_elder' (qR HO_14) (Kd.R_base ho0) hb); replace HO_15 := Aside0.mk (Kd.R_elder' (qR HO_15) (Kd.R_base ho0) hb); replace BK885 := qD BK885 hb; replace HB := Aside0.mk (below_step (qS1 HB GE885) hb); (try clear hb); (try clear hb2); (try clear hk); (try clear hi); (try clear ho0); obtain ⟨Ao129, co129, eo129⟩ := Kd.R_slice HO933.out; subst eo129) | ((with_reducible refine gate_callee (f := 12) rfl ?_); refine goesL_ (some 84) rfl rfl Tryz.func12 (by kernel_rfl) rfl #[.slice Ao46 t911.length co46, .slice Ao129 t931.length co129] rfl qL ?_; (with_reducible refine (laws_eqIntS.calls kj25 _ _ t911 _ _ t931 false _ ?side1 ?side2 ?side3 ?side4 A62.out).mono ?_); (case side1 => repeat (first | exact (Kd.R_reads' HO_14.out).2.2 | (with_reducible refine Kd.C_alloc ?_ _) | (with_reducible refine Kd.C_drewN ?_ _) | (with_reducible refine Kd.C_drew ?_))); (case side2 => exact (Kd.R_reads' HO_14.out).2.1); (case side3 => repeat (first | exact (Kd.R_reads' HO933.out).2.2 | (with_reducible refine Kd.C_alloc ?_ _) | (with_reducible refine Kd.C_drewN ?_ _) | (with_reducible refine Kd.C_drew ?_))); (case side4 => exact (Kd.R_reads' HO933.out).2.1); rintro e w' ⟨rfl, ⟨nd, rfl⟩⟩; refine ⟨_, rfl, ?_⟩))
          go_ret
          exact ⟨qE, qS1 HB GE885⟩
        ·replace c60 := Bool.eq_false_iff.mpr c60
         (subst c60); (have H1 : (some false) = some r := by rw [if_neg (show ¬ (false = true) by decide)] at H; exact H); clear H; (have H := H1); clear H1; (obtain rfl := Option.some.inj H)
         go_wp2_with (first | ((with_reducible refine gate_callee (f := 9) rfl ?_); refine goesL_ (some 73) rfl rfl Tryz.func9 (by kernel_rfl) rfl #[.slice A1 l1.length c1] rfl qL ?_; (with_reducible refine (laws_toReqS.calls kj25 _ _ l1 t923 _ ?side1 ?side2 A55.out).mono ?_); (case side1 => exact qW (Kd.C_below HR1.out HB.out)); (case side2 => exact HC1.out); rintro e w130 ⟨v924, rfl, ho0, hb⟩; refine ⟨_, rfl, ?_⟩; replace HO_10 := Aside0.mk (Kd.R_below (qR HO_10) hb); replace HO_14 := Aside0.mk (Kd.R_below (qR HO_14) hb); replace HO_15 := Aside0.mk (Kd.R_below (qR HO_15) hb); have HO925 := Aside0.mk (Kd.R_lower (Kd.R_new' (Kd.R_new' ho0 (Kd.R_lt (qR HO_12))) (Kd.R_lt (qR HO_13))) (below_size (qS1 HB GE885))); replace HO_12 := Aside0.mk (Kd.R_elder' (qR HO_12) (Kd.R_base ho0) hb); replace HO_13 := Aside0.mk (Kd.R_elder' (qR HO_13) (Kd.R_base ho0) hb); replace BK885 := qD BK885 hb; replace HB := Aside0.mk (below_step (qS1 HB GE885) hb); (try clear hb); (try clear hb2); (try clear hk); (try clear hi); (try clear ho0); obtain ⟨Ao131, co131, eo131⟩ := Kd.R_slice HO925.out; subst eo131) | ((with_reducible refine gate_callee (f := 13) rfl ?_); refine goesL_ (some 74) rfl rfl Tryz.func13 (by kernel_rfl) rfl #[.slice Ao44 t905.length co44, .slice Ao131 t923.length co131] rfl qL ?_; (with_reducible refine (laws_eqReqS.calls kj25 _ _ t905 _ _ t923 true _ ?side1 ?side2 ?side3 ?side4 A56.out).mono ?_); (case side1 => repeat (first | exact (Kd.R_reads' HO_12.out).2.2 | (with_reducible refine Kd.C_alloc ?_ _) | (with_reducible refine Kd.C_drewN ?_ _) | (with_reducible refine Kd.C_drew ?_))); (case side2 => exact (Kd.R_reads' HO_12.out).2.1); (case side3 => repeat (first | exact (Kd.R_reads' HO925.out).2.2 | (with_reducible refine Kd.C_alloc ?_ _) | (with_reducible refine Kd.C_drewN ?_ _) | (with_reducible refine Kd.C_drew ?_))); (case side4 => exact (Kd.R_reads' HO925.out).2.1); rintro e w132 ⟨rfl, hb⟩; refine ⟨_, rfl, ?_⟩; replace HO_10 := Aside0.mk (Kd.R_below (qR HO_10) hb); replace HO_12 := Aside0.mk (Kd.R_below (qR HO_12) hb); replace HO_13 := Aside0.mk (Kd.R_below (qR HO_13) hb); replace HO_14 := Aside0.mk (Kd.R_below (qR HO_14) hb); replace HO_15 := Aside0.mk (Kd.R_below (qR HO_15) hb); replace HO925 := Aside0.mk (Kd.R_below (qR HO925) hb); replace BK885 := qD BK885 hb; replace HB := Aside0.mk (below_step (qS1 HB GE885) hb); (try clear hb); (try clear hb2); (try clear hk); (try clear hi)) | ((with_reducible refine gate_callee (f := 9) rfl ?_); refine goesL_ (some 78) rfl rfl Tryz.func9 (by kernel_rfl) rfl #[.slice A2 l2.length c2] rfl qL ?_; (with_reducible refine (laws_toReqS.calls kj25 _ _ l2 t927 _ ?side1 ?side2 A58.out).mono ?_); (case side1 => exact qW (Kd.C_below HR2.out HB.out)); (case side2 => exact HC2.out); rintro e w133 ⟨v928, rfl, ho0, hb⟩; refine ⟨_, rfl, ?_⟩; replace HO_10 := Aside0.mk (Kd.R_below (qR HO_10) hb); replace HO_14 := Aside0.mk (Kd.R_below (qR HO_14) hb); replace HO_15 := Aside0.mk (Kd.R_below (qR HO_15) hb); have HO929 := Aside0.mk (Kd.R_lower (Kd.R_new' (Kd.R_new' (Kd.R_new' ho0 (Kd.R_lt (qR HO_12))) (Kd.R_lt (qR HO_13))) (Kd.R_lt (qR HO925))) (below_size (qS1 HB GE885))); replace HO_12 := Aside0.mk (Kd.R_elder' (qR HO_12) (Kd.R_base ho0) hb); replace HO_13 := Aside0.mk (Kd.R_elder' (qR HO_13) (Kd.R_base ho0) hb); replace HO925 := Aside0.mk (Kd.R_elder' (qR HO925) (Kd.R_base ho0) hb); replace BK885 := qD BK885 hb; replace HB := Aside0.mk (below_step (qS1 HB GE885) hb); (try clear hb); (try clear hb2); (try clear hk); (try clear hi); (try clear ho0); obtain ⟨Ao134, co134, eo134⟩ := Kd.R_slice HO929.out; subst eo134) | ((with_reducible refine gate_callee (f := 13) rfl ?_); refine goesL_ (some 79) rfl rfl Tryz.func13 (by kernel_rfl) rfl #[.slice Ao45 t908.length co45, .slice Ao134 t927.length co134] rfl qL ?_; (with_reducible refine (laws_eqReqS.calls kj25 _ _ t908 _ _ t927 false _ ?side1 ?side2 ?side3 ?side4 A59.out).mono ?_); (case side1 => repeat (first | exact (Kd.R_reads' HO_13.out).2.2 | (with_reducible refine Kd.C_alloc ?_ _) | (with_reducible refine Kd.C_drewN ?_ _) | (with_reducible refine Kd.C_drew ?_))); (case side2 => exact (Kd.R_reads' HO_13.out).2.1); (case side3 => repeat (first | exact (Kd.R_reads' HO929.out).2.2 | (with_reducible refine Kd.C_alloc ?_ _) | (with_reducible refine Kd.C_drewN ?_ _) | (with_reducible refine Kd.C_drew ?_))); (case side4 => exact (Kd.R_reads' HO929.out).2.1); rintro e w135 ⟨rfl, hb⟩; refine ⟨_, rfl, ?_⟩; replace HO_10 := Aside0.mk (Kd.R_below (qR HO_10) hb); replace HO_12 := Aside0.mk (Kd.R_below (qR HO_12) hb); replace HO_13 := Aside0.mk (Kd.R_below (qR HO_13) hb); replace HO_14 := Aside0.mk (Kd.R_below (qR HO_14) hb); replace HO_15 := Aside0.mk (Kd.R_below (qR HO_15) hb); replace HO925 := Aside0.mk (Kd.R_below (qR HO925) hb); replace HO929 := Aside0.mk (Kd.R_below (qR HO929) hb); replace BK885 := qD BK885 hb; replace HB := Aside0.mk (below_step (qS1 HB GE885) hb); (try clear hb); (try clear hb2); (try clear hk); (try clear hi)))
         go_ret
         exact ⟨qE, qS1 HB GE885⟩
       ·replace c57 := Bool.eq_false_iff.mpr c57
        (subst c57); (have H1 : (some false) = some r := by rw [if_neg (show ¬ (false = true) by decide)] at H; exact H); clear H; (have H := H1); clear H1; (obtain rfl := Option.some.inj H)
        go_wp2_with (first | ((with_reducible refine gate_callee (f := 9) rfl ?_); refine goesL_ (some 73) rfl rfl Tryz.func9 (by kernel_rfl) rfl #[.slice A1 l1.length c1] rfl qL ?_; (with_reducible refine (laws_toReqS.calls kj25 _ _ l1 t923 _ ?side1 ?side2 A55.out).mono ?_); (case side1 => exact qW (Kd.C_below HR1.out HB.out)); (case side2 => exact HC1.out); rintro e w136 ⟨v924, rfl, ho0, hb⟩; refine ⟨_, rfl, ?_⟩; replace HO_10 := Aside0.mk (Kd.R_below (qR HO_10) hb); replace HO_14 := Aside0.mk (Kd.R_below (qR HO_14) hb); replace HO_15 := Aside0.mk (Kd.R_below (qR HO_15) hb); have HO925 := Aside0.mk (Kd.R_lower (Kd.R_new' (Kd.R_new' ho0 (Kd.R_lt (qR HO_12))) (Kd.R_lt (qR HO_13))) (below_size (qS1 HB GE885))); replace HO_12 := Aside0.mk (Kd.R_elder' (qR HO_12) (Kd.R_base ho0) hb); replace HO_13 := Aside0.mk (Kd.R_elder' (qR HO_13) (Kd.R_base ho0) hb); replace BK885 := qD BK885 hb; replace HB := Aside0.mk (below_step (qS1 HB GE885) hb); (try clear hb); (try clear hb2); (try clear hk); (try clear hi); (try clear ho0); obtain ⟨Ao137, co137, eo137⟩ := Kd.R_slice HO925.out; subst eo137) | ((with_reducible refine gate_callee (f := 13) rfl ?_); refine goesL_ (some 74) rfl rfl Tryz.func13 (by kernel_rfl) rfl #[.slice Ao44 t905.length co44, .slice Ao137 t923.length co137] rfl qL ?_; (with_reducible refine (laws_eqReqS.calls kj25 _ _ t905 _ _ t923 false _ ?side1 ?side2 ?side3 ?side4 A56.out).mono ?_); (case side1 => repeat (first | exact (Kd.R_reads' HO_12.out).2.2 | (with_reducible refine Kd.C_alloc ?_ _) | (with_reducible refine Kd.C_drewN ?_ _) | (with_reducible refine Kd.C_drew ?_))); (case side2 => exact (Kd.R_reads' HO_12.out).2.1); (case side3 => repeat (first | exact (Kd.R_reads' HO925.out).2.2 | (with_reducible refine Kd.C_alloc ?_ _) | (with_reducible refine Kd.C_drewN ?_ _) | (with_reducible refine Kd.C_drew ?_))); (case side4 => exact (Kd.R_reads' HO925.out).2.1); rintro e w138 ⟨rfl, hb⟩; refine ⟨_, rfl, ?_⟩; replace HO_10 := Aside0.mk (Kd.R_below (qR HO_10) hb); replace HO_12 := Aside0.mk (Kd.R_below (qR HO_12) hb); replace HO_13 := Aside0.mk (Kd.R_below (qR HO_13) hb); replace HO_14 := Aside0.mk (Kd.R_below (qR HO_14) hb); replace HO_15 := Aside0.mk (Kd.R_below (qR HO_15) hb); replace HO925 := Aside0.mk (Kd.R_below (qR HO925) hb); replace BK885 := qD BK885 hb; replace HB := Aside0.mk (below_step (qS1 HB GE885) hb); (try clear hb); (try clear hb2); (try clear hk); (try clear hi)))
        go_ret
        exact ⟨qE, qS1 HB GE885⟩
end Go.Proofs.YtppopmajclmhjaaGreatDoor.QB
namespace Go.Proofs.YtppopmajclmhjaaGreatDoor.Open
open Go.RowKit Go.Proofs.YtppopmajclmhjaaGreatDoorW.PrintWords
open Go.ChangeShapes Go.WideShapes
set_option linter.unusedVariables false
def InK (k : IntKind) (n : Int) : Prop := (Lit.int k n).wf = true
def InS (s : ByteArray) : Prop := s.size ≤ 9223372036854775807
def InL {α : Type} (W : α → Prop) (xs : List α) : Prop := xs.length ≤ 9223372036854775807 ∧ ∀ x, x ∈ xs → W x
structure Opens {α : Type} (P : Program) (t : TypeId) (d : Kd α) (W : α → Prop) : Prop where
 cells : P.cellsOf t = d.sz
 reads : ∀ {H : Type} (enc : TypeId × Value → H) (w : World) (base fuel : Nat) (held : Bool) (cs : List Value) (x : DataW H × List MemPlace),
  DataW.trod enc P w base (fun _ => true) held fuel t cs = some x → ∃ y, d.K w y cs ∧ W y
theorem opens_int {P : Program} {t : TypeId} {k : IntKind} (ht : P.underlying t = some (.int k)) (hc : P.cellsOf t = 1) : Opens P t (Kd.int k) (InK k) := by
 refine ⟨hc, ?_⟩
 intro H enc w base fuel held cs x h
 cases fuel with
 | zero => simp [DataW.trod] at h
 | succ n =>
  unfold DataW.trod at h
  rw [ht] at h
  split at h <;> simp_all
  rename_i h2
  obtain ⟨⟨rfl, h3⟩, _⟩ := h
  exact ⟨_, rfl, h3⟩
theorem opens_string {P : Program} {t : TypeId} (ht : P.underlying t = some .string) (hc : P.cellsOf t = 1) : Opens P t Kd.string InS := by
 refine ⟨hc, ?_⟩
 intro H enc w base fuel held cs x h
 cases fuel with
 | zero => simp [DataW.trod] at h
 | succ n =>
  unfold DataW.trod at h
  rw [ht] at h
  split at h <;> simp_all
  exact ⟨_, rfl, by unfold InS; have := h.1; simpa [maxLen] using this⟩
theorem opens_slice {α : Type} {P : Program} {t e : TypeId} {d : Kd α} {W : α → Prop} (ht : P.underlying t = some (.slice e)) (hc : P.cellsOf t = 1) (z : α) (he : Opens P e d W) : Opens P t (Kd.slice e d) (InL W) := by
 refine ⟨hc, ?_⟩
 intro H enc w base fuel held cs x h
 rcases Go.Deep.open_slice ht h with ⟨rfl, _⟩ | ⟨a, len, cap, m, n, D, Pl, rfl, hb, hl, hm, hmm, rfl, hx⟩
 ·exact ⟨[], ⟨none, 0, rfl, Nat.le_refl _, rfl, by simp, fun h0 => absurd h0 (by simp)⟩, by simp, by simp⟩
 ·simp only [if_true] at hmm
  (subst hmm); (have hm' : m ≤ 9223372036854775807 := by simpa [maxLen] using hm)
  have each : ∀ i, i < m → ∃ y : α, ∃ c : List Value, c.length = d.sz ∧ d.K w y c ∧ W y ∧ ∀ j u, c[j]? = some u → w.cell? (a.add (i * d.sz + j)) = some u := by
   intro i hi
   (obtain ⟨cs', h1, h2⟩ := hx i hi); (obtain ⟨y, hK, hW⟩ := he.reads enc w base n held cs' _ h2); (obtain ⟨_, hlen, hcell⟩ := World.cells?_some h1)
   refine ⟨y, cs', d.K_len hK, hK, hW, fun j u hu => ?_⟩
   have hj : j < P.cellsOf e := by
    rw [← hlen]
    exact (List.getElem?_eq_some_iff.1 hu).1
   (have := hcell j hj); (rw [Go.Deep.add_add, he.cells] at this); (rw [this]; exact hu)
  (haveI : Inhabited α := ⟨z⟩); (obtain ⟨f, hf⟩ := Go.Deep.choose_lt each)
  refine ⟨(List.range len).map f, ⟨some a, m, ?_, ?_, ?_⟩, ?_, ?_⟩
  ·simp
  ·simp; exact hl
  ·refine ⟨by simp, by simp; omega, fun _ => ⟨a, rfl, fun j p hj => ?_⟩⟩
   (have hj1 : j < len := by have := (List.getElem?_eq_some_iff.1 hj).1; simpa using this); (have hp : f j = p := by simpa [hj1] using hj); (obtain ⟨c, h1, h2, _, h3⟩ := hf j (by omega))
   exact ⟨c, h1, hp ▸ h2, h3⟩
  ·simp; omega
  ·intro y hy
   (obtain ⟨i, hi, rfl⟩ := List.mem_map.1 hy); (obtain ⟨c, _, _, hW, _⟩ := hf i (by have := List.mem_range.1 hi; omega))
   exact hW
structure FieldsOpen {α : Type} (P : Program) (fs : List Field) (off : Nat) (d : Kd α) (W : α → Prop) : Prop where
 reads : ∀ {H : Type} (enc : TypeId × Value → H) (w : World) (base fuel : Nat) (held : Bool) (cs : List Value) (xs : List (DataW H × List MemPlace)),
  cs.length = off + d.sz → (fs.mapM fun f => DataW.trod enc P w base (fun _ => true) held fuel f.type ((cs.drop f.offset).take (P.cellsOf f.type))) = some xs → ∃ y, d.K w y (cs.drop off) ∧ W y
theorem fields_one {α : Type} {P : Program} {f : Field} {off : Nat} {d : Kd α} {W : α → Prop} (ho : f.offset = off) (h : Opens P f.type d W) : FieldsOpen P [f] off d W := by
 refine ⟨?_⟩
 intro H enc w base fuel held cs xs hl hm
 (have h1 := mapM_some_get hm 0 f rfl); (have h2 := mapM_some_length hm); (simp only [List.length_singleton] at h2); (rw [List.getElem?_eq_getElem (by omega)] at h1); (obtain ⟨y, hK, hW⟩ := h.reads enc w base fuel held _ _ h1)
 refine ⟨y, ?_, hW⟩
 rw [ho, h.cells, List.take_of_length_le (by rw [List.length_drop]; omega)] at hK
 exact hK
theorem fields_cons {α β : Type} {P : Program} {f : Field} {fs : List Field} {off : Nat} {a : Kd α} {b : Kd β} {Wa : α → Prop} {Wb : β → Prop} (ho : f.offset = off) (h : Opens P f.type a Wa) (hs : FieldsOpen P fs (off + a.sz) b Wb) :
  FieldsOpen P (f :: fs) off (Kd.pair a b) (fun x => Wa x.1 ∧ Wb x.2) := by
 refine ⟨?_⟩
 intro H enc w base fuel held cs xs hl hm
 (have hsz : (Kd.pair a b).sz = a.sz + b.sz := rfl); (rw [hsz] at hl); (rw [List.mapM_cons] at hm); (obtain ⟨x0, h0, hm⟩ := Option.bind_eq_some_iff.1 hm); (obtain ⟨xs', hm', hm⟩ := Option.bind_eq_some_iff.1 hm); (obtain ⟨y, hK, hW⟩ := h.reads enc w base fuel held _ _ h0); (obtain ⟨y', hK', hW'⟩ := hs.reads enc w base fuel held cs xs' (by omega) hm')
 refine ⟨(y, y'), ⟨(cs.drop off).take a.sz, cs.drop (off + a.sz), ?_, ?_, hK'⟩, hW, hW'⟩
 ·rw [← List.drop_drop, List.take_append_drop]
 ·rw [ho, h.cells] at hK
  exact hK
theorem opens_struct {α : Type} {P : Program} {t : TypeId} {fs : Array Field} {d : Kd α} {W : α → Prop} (ht : P.underlying t = some (.struct fs)) (hc : P.cellsOf t = d.sz) (h : FieldsOpen P fs.toList 0 d W) : Opens P t d W := by
 refine ⟨hc, ?_⟩
 intro H enc w base fuel held cs x hx
 cases fuel with
 | zero => simp [DataW.trod] at hx
 | succ n =>
  have hx' : (if cs.length = P.cellsOf t then (fs.toList.mapM fun f => DataW.trod enc P w base (fun _ => true) held n f.type ((cs.drop f.offset).take (P.cellsOf f.type))).map fun xs => (DataW.agg (xs.map (·.1)), xs.flatMap (·.2)) else none) = some x := by
   unfold DataW.trod at hx
   rw [ht] at hx
   split at hx <;> first | exact hx | simp_all
  split at hx'
  ·rename_i hlen
   (obtain ⟨xs, hm, _⟩ := Option.map_eq_some_iff.1 hx'); (obtain ⟨y, hK, hW⟩ := h.reads enc w base n held cs xs (by omega) hm); (rw [List.drop_zero] at hK)
   exact ⟨y, hK, hW⟩
  ·cases hx'
theorem opens_iso {α β : Type} {P : Program} {t : TypeId} {d : Kd α} {W : α → Prop} {f : β → α} (g : α → β) (hg : ∀ x, f (g x) = x) (h : Opens P t d W) : Opens P t (Kd.iso d f) (fun y => W (f y)) := by
 refine ⟨h.cells, ?_⟩
 intro H enc w base fuel held cs x hx
 obtain ⟨y, hK, hW⟩ := h.reads enc w base fuel held cs x hx
 refine ⟨g y, ?_, by rw [hg]; exact hW⟩
 show d.K w (f (g y)) cs
 rw [hg]; exact hK
theorem opens_mono {α : Type} {P : Program} {t : TypeId} {d : Kd α} {W W' : α → Prop} (h : Opens P t d W) (hw : ∀ x, W x → W' x) : Opens P t d W' :=
 ⟨h.cells, fun enc w base fuel held cs x hx => let ⟨y, hK, hW⟩ := h.reads enc w base fuel held cs x hx; ⟨y, hK, hw y hW⟩⟩
theorem open_arg {α : Type} {H : Type} {enc : TypeId × Value → H} {P : Program} {w : World} {t : TypeId} {d : Kd α} {W : α → Prop} (ho : Opens P t d W) {v : Value} {dd : DataW H} {ps : List MemPlace}
  (h : DataW.Trod enc P w 0 (fun _ => true) true t v dd ps) : ∃ y, d.K w y v.cells.toList ∧ W y := by
 obtain ⟨fuel, hf⟩ := h
 exact ho.reads enc w 0 fuel true _ _ hf
theorem okWide_agg {P : Program} {w : World} {r : Reach} {base : Nat} {t : TypeId} {fs : Array Field} {v : Value} (ht : P.underlying t = some (.struct fs)) (h : Value.okWide P w r base t v) : ∃ cs, v = .agg cs := by
 unfold Value.okWide at h
 (rw [ht] at h); (obtain ⟨cs, rfl, _⟩ := h)
 exact ⟨cs, rfl⟩
end Go.Proofs.YtppopmajclmhjaaGreatDoor.Open
namespace Go.Proofs.YtppopmajclmhjaaGreatDoor.QB
open Go.RowKit Go.Proofs.YtppopmajclmhjaaGreatDoorW.PrintWords Go.Proofs.YtppopmajclmhjaaGreatDoorW.PrintLast Go.Proofs.YtppopmajclmhjaaGreatDoor
def W23 (x : S23) : Prop := Open.InK .i64 x.f0 ∧ Open.InK .i64 x.f1 ∧ Open.InK .i64 x.f2 ∧ Open.InK .i64 x.f3
theorem opens23 : Open.Opens Tryz.prog 23 k23 W23 :=
 Open.opens_mono (Open.opens_iso (fun x => (⟨x.1, x.2.1, x.2.2.1, x.2.2.2⟩ : S23)) (fun _ => rfl) (Open.opens_struct Tryz.underlying23 (by kernel_rfl) (by exact (Open.fields_cons rfl (Open.opens_int (k := .i64) Tryz.underlying3 (by kernel_rfl)) (Open.fields_cons rfl (Open.opens_int (k := .i64) Tryz.underlying3 (by kernel_rfl)) (Open.fields_cons rfl (Open.opens_int (k := .i64) Tryz.underlying3 (by kernel_rfl)) (Open.fields_one rfl (Open.opens_int (k := .i64) Tryz.underlying3 (by kernel_rfl))))))))) (fun _ h => h)
def W48 (x : S48) : Prop := Open.InK .i64 x.f0 ∧ Open.InS x.f1 ∧ Open.InK .i64 x.f2 ∧ Open.InK .i64 x.f3 ∧ Open.InK .i64 x.f4 ∧ Open.InK .i64 x.f5 ∧ Open.InS x.f6
theorem opens48 : Open.Opens Tryz.prog 48 k48 W48 :=
 Open.opens_mono (Open.opens_iso (fun x => (⟨x.1, x.2.1, x.2.2.1, x.2.2.2.1, x.2.2.2.2.1, x.2.2.2.2.2.1, x.2.2.2.2.2.2⟩ : S48)) (fun _ => rfl) (Open.opens_struct Tryz.underlying48 (by kernel_rfl) (by exact (Open.fields_cons rfl (Open.opens_int (k := .i64) Tryz.underlying3 (by kernel_rfl)) (Open.fields_cons rfl (Open.opens_string Tryz.underlying9 (by kernel_rfl)) (Open.fields_cons rfl (Open.opens_int (k := .i64) Tryz.underlying3 (by kernel_rfl)) (Open.fields_cons rfl (Open.opens_int (k := .i64) Tryz.underlying3 (by kernel_rfl)) (Open.fields_cons rfl (Open.opens_int (k := .i64) Tryz.underlying3 (by kernel_rfl)) (Open.fields_cons rfl (Open.opens_int (k := .i64) Tryz.underlying3 (by kernel_rfl)) (Open.fields_one rfl (Open.opens_string Tryz.underlying9 (by kernel_rfl)))))))))))) (fun _ h => h)
def laws_FnExactSessPair.Pure : Prop := ∀ (y0 : S23) (y1 : List (S48)) (y2 : List (S48)) (y3 : List Int), W23 y0 → Open.InL (fun z => W48 z) y1 → Open.InL (fun z => W48 z) y2 → Open.InL (fun z => Open.InK .i64 z) y3 → ∃ k, laws_FnExactSessPair.f k y0.f0 y0.f1 y0.f2 y0.f3 y1 y2 y3 = some true
end Go.Proofs.YtppopmajclmhjaaGreatDoor.QB
namespace Go.Proofs.YtppopmajclmhjaaGreatDoor.L
open Go.RowKit Go.Proofs.YtppopmajclmhjaaGreatDoorW.PrintWords Go.Proofs.YtppopmajclmhjaaGreatDoorW.PrintMore
set_option linter.unusedVariables false
set_option linter.unusedSimpArgs false
theorem wrap_id {x : Int} (h0 : -9223372036854775808 ≤ x) (h1 : x ≤ 9223372036854775807) : wrap64 x = x := by unfold wrap64; omega
theorem wrap_nat_succ {i : Nat} (h : i < 9223372036854775807) : wrap64 ((i : Int) + 1) = ((i + 1 : Nat) : Int) := by unfold wrap64; omega
theorem evVal {α : Type} {g : Nat → Option α} {r r' : α} (h : Ev g r) (e : r = r') : Ev g r' := e ▸ h
theorem evConst {α : Type} {o : Option α} {r : α} (h : o = some r) : Ev (fun _ => o) r := ⟨0, fun _ _ => h⟩
theorem loop_ev {σ ρ : Type} (n : Nat) (G : Nat → σ → Int → Option ρ) (s : Nat → σ) (r : ρ)
  (hstep : ∀ i, i < n → Ev (fun k => G k (s (i + 1)) ((i + 1 : Nat) : Int)) r → Ev (fun k => G k (s i) (i : Int)) r)
  (hend : Ev (fun k => G k (s n) (n : Int)) r) : Ev (fun k => G k (s 0) 0) r := by
 have key : ∀ d i, i + d = n → Ev (fun k => G k (s i) (i : Int)) r := by
  intro d
  induction d with
  | zero =>
   intro i h
   obtain rfl : i = n := by omega
   exact hend
  | succ d ih => intro i h; exact hstep i (by omega) (ih (i + 1) (by omega))
 exact key n 0 (by omega)
theorem search_ev {ρ : Type} (n : Nat) (G : Nat → Int → Option ρ) (p : Nat → Bool) (rno ryes : ρ)
  (hgo : ∀ i, i < n → p i = true → ∀ r, Ev (fun k => G k ((i + 1 : Nat) : Int)) r → Ev (fun k => G k (i : Int)) r)
  (hstop : ∀ i, i < n → p i = false → Ev (fun k => G k (i : Int)) rno)
  (hend : Ev (fun k => G k (n : Int)) ryes) : Ev (fun k => G k 0) (if (List.range n).all p then ryes else rno) := by
 have key : ∀ d i, i + d = n → Ev (fun k => G k (i : Int)) (if ((List.range n).drop i).all p then ryes else rno) := by
  intro d
  induction d with
  | zero =>
   intro i h
   (obtain rfl : i = n := by omega); (rw [List.drop_of_length_le (by simp)])
   exact hend
  | succ d ih =>
   intro i h
   (have hi : i < n := by omega); (rw [List.drop_eq_getElem_cons (by simpa using hi), List.getElem_range, List.all_cons])
   cases hp : p i with
   | true => simpa using hgo i hi hp _ (ih (i + 1) (by omega))
   | false => simpa using hstop i hi hp
 have := key n 0 (by omega)
 simpa using this
theorem all_range {α : Type} (l : List α) (z : α) (q : α → Bool) : (List.range l.length).all (fun i => q (l.getD i z)) = l.all q := by
 induction l with
 | nil => rfl
 | cons x xs ih =>
  rw [List.length_cons, List.range_succ_eq_map, List.all_cons, List.all_map, List.all_cons, ← ih]
  rfl
theorem fill_ev {β : Type} (n : Nat) (z : β) (G : Nat → List β → Int → Option (List β)) (b : Nat → β)
  (hstep : ∀ i x3, i < n → x3.length = n → ∀ r, Ev (fun k => G k (x3.set i (b i)) ((i + 1 : Nat) : Int)) r → Ev (fun k => G k x3 (i : Int)) r)
  (hend : ∀ x3 : List β, x3.length = n → Ev (fun k => G k x3 (n : Int)) x3) : Ev (fun k => G k (List.replicate n z) 0) ((List.range n).map b) := by
 have key : ∀ d i x3, i + d = n → x3.length = n → (∀ j, j < i → x3[j]? = some (b j)) → Ev (fun k => G k x3 (i : Int)) ((List.range n).map b) := by
  intro d
  induction d with
  | zero =>
   intro i x3 h hl hx
   obtain rfl : i = n := by omega
   refine evVal (hend x3 hl) ?_
   apply List.ext_getElem?
   intro j
   by_cases hj : j < i
   ·rw [hx j hj]; simp [hj]
   ·rw [List.getElem?_eq_none (by omega), List.getElem?_eq_none (by simp; omega)]
  | succ d ih =>
   intro i x3 h hl hx
   refine hstep i x3 (by omega) hl _ (ih (i + 1) _ (by omega) (by simpa using hl) (fun j hj => ?_))
   by_cases e : j = i
   ·subst e; rw [List.getElem?_set_self (by omega)]
   ·rw [List.getElem?_set_ne (by omega)]; exact hx j (by omega)
 exact key n 0 _ (by omega) (by simp) (fun j hj => absurd hj (Nat.not_lt_zero _))
theorem map_range {α β : Type} (l : List α) (z : α) (t : α → β) : (List.range l.length).map (fun i => t (l.getD i z)) = l.map t := by
 apply List.ext_getElem?
 intro i
 by_cases hi : i < l.length
 ·simp [hi, List.getD]
 ·simp [hi]
theorem getD_lt {α : Type} {l : List α} {i : Nat} (z : α) (h : i < l.length) : l.getD i z = l[i] := by simp [List.getD, h]
def ownAt (n : Nat) (ids : List Int) : Nat → List Nat
 | 0 => List.range n
 | i + 1 => if 0 ≤ ids.getD i (-1) then (ownAt n ids i).set (ids.getD i (-1)).toNat (n + i) else ownAt n ids i
def coordAt (n : Nat) (ids : List Int) (i : Nat) : Nat := if 0 ≤ ids.getD i (-1) then (ownAt n ids i).getD (ids.getD i (-1)).toNat 0 else n + i
def coordsL (n : Nat) (ids : List Int) : List Nat := (List.range ids.length).map (coordAt n ids)
theorem coordsL_length (n : Nat) (ids : List Int) : (coordsL n ids).length = ids.length := by unfold coordsL; simp
theorem ownAt_length (n : Nat) (ids : List Int) : ∀ i, (ownAt n ids i).length = n
 | 0 => by unfold ownAt; simp
 | i + 1 => by
  unfold ownAt
  split
  ·rw [List.length_set]; exact ownAt_length n ids i
  ·exact ownAt_length n ids i
theorem ownAt_lt (n : Nat) (ids : List Int) : ∀ i x, x ∈ ownAt n ids i → x < n + i
 | 0, x, h => by unfold ownAt at h; have := List.mem_range.1 h; omega
 | i + 1, x, h => by
  unfold ownAt at h
  split at h
  ·rcases List.mem_or_eq_of_mem_set h with h | h
   ·have := ownAt_lt n ids i x h; omega
   ·omega
  ·have := ownAt_lt n ids i x h; omega
def seqOk (n : Nat) (ids : List Int) : Prop := ∀ x, x ∈ ids → -1 ≤ x ∧ x < (n : Int)
theorem seqOk_get {n : Nat} {ids : List Int} (h : seqOk n ids) {i : Nat} (hi : i < ids.length) : -1 ≤ ids.getD i (-1) ∧ ids.getD i (-1) < (n : Int) := by
 rw [getD_lt _ hi]
 exact h _ (List.getElem_mem hi)
theorem coordAt_lt {n : Nat} {ids : List Int} (h : seqOk n ids) {i : Nat} (hi : i < ids.length) : coordAt n ids i < n + i + 1 := by
 unfold coordAt
 split
 ·rename_i h0
  (have hb := seqOk_get h hi); (have hl : (ids.getD i (-1)).toNat < (ownAt n ids i).length := by rw [ownAt_length]; omega); (rw [getD_lt _ hl]); (have := ownAt_lt n ids i _ (List.getElem_mem hl))
  omega
 ·omega
theorem coordsL_lt {n : Nat} {ids : List Int} (h : seqOk n ids) : ∀ x, x ∈ coordsL n ids → x < n + ids.length := by
 intro x hx
 unfold coordsL at hx
 (obtain ⟨i, hi, rfl⟩ := List.mem_map.1 hx); (have hi := List.mem_range.1 hi); (have := coordAt_lt h hi)
 omega
theorem coords_take {n : Nat} {ids : List Int} {i : Nat} (h : i < ids.length) : (List.range (i + 1)).map (coordAt n ids) = (List.range i).map (coordAt n ids) ++ [coordAt n ids i] := by
 rw [List.range_succ, List.map_append]
 rfl
def onePl (B C : Nat) : List Nat := (List.range B).map (fun k => 6 * k + 5) ++ (List.range C).map (fun i => 6 * B + 2 * i)
def twoPl (B C : Nat) : List Nat := (List.range B).flatMap (fun k => [6 * k + 1, 6 * k + 2, 6 * k + 3, 6 * k + 4]) ++ (List.range C).map (fun i => 6 * B + 2 * i + 1)
theorem four_length (B : Nat) : ((List.range B).flatMap (fun k => [6 * k + 1, 6 * k + 2, 6 * k + 3, 6 * k + 4])).length = 4 * B := by
 induction B with
 | zero => rfl
 | succ B ih => rw [List.range_succ, List.flatMap_append, List.length_append, ih]; simp; omega
theorem onePl_length (B C : Nat) : (onePl B C).length = B + C := by unfold onePl; simp
theorem twoPl_length (B C : Nat) : (twoPl B C).length = 4 * B + C := by unfold twoPl; rw [List.length_append, four_length]; simp
theorem onePl_lt (B C : Nat) : ∀ x, x ∈ onePl B C → x < 6 * B + 2 * C := by
 intro x hx
 unfold onePl at hx
 rcases List.mem_append.1 hx with h | h
 ·obtain ⟨k, hk, rfl⟩ := List.mem_map.1 h; have := List.mem_range.1 hk; omega
 ·obtain ⟨k, hk, rfl⟩ := List.mem_map.1 h; have := List.mem_range.1 hk; omega
theorem twoPl_lt (B C : Nat) : ∀ x, x ∈ twoPl B C → x < 6 * B + 2 * C := by
 intro x hx
 unfold twoPl at hx
 rcases List.mem_append.1 hx with h | h
 ·obtain ⟨k, hk, h⟩ := List.mem_flatMap.1 h
  (have := List.mem_range.1 hk); (simp only [List.mem_cons, List.not_mem_nil, or_false] at h)
  omega
 ·obtain ⟨k, hk, rfl⟩ := List.mem_map.1 h; have := List.mem_range.1 hk; omega
def is5 (i : Nat) : Bool := i % 6 == 5
def is14 (i : Nat) : Bool := decide (0 < i % 6) && decide (i % 6 < 5)
theorem range6 (B : Nat) : List.range (6 * (B + 1)) = List.range (6 * B) ++ [6 * B, 6 * B + 1, 6 * B + 2, 6 * B + 3, 6 * B + 4, 6 * B + 5] := by
 rw [show 6 * (B + 1) = 6 * B + 1 + 1 + 1 + 1 + 1 + 1 by omega, List.range_succ, List.range_succ, List.range_succ, List.range_succ, List.range_succ, List.range_succ]
 simp
theorem filter5 : ∀ B : Nat, (List.range (6 * B)).filter is5 = (List.range B).map (fun k => 6 * k + 5)
 | 0 => rfl
 | B + 1 => by
  rw [range6, List.filter_append, filter5 B, List.range_succ, List.map_append]
  congr 1
  (have h0 : is5 (6 * B) = false := by unfold is5; rw [beq_eq_false_iff_ne]; omega); (have h1 : is5 (6 * B + 1) = false := by unfold is5; rw [beq_eq_false_iff_ne]; omega); (have h2 : is5 (6 * B + 2) = false := by unfold is5; rw [beq_eq_false_iff_ne]; omega); (have h3 : is5 (6 * B + 3) = false := by unfold is5; rw [beq_eq_false_iff_ne]; omega); (have h4 : is5 (6 * B + 4) = false := by unfold is5; rw [beq_eq_false_iff_ne]; omega); (have h5 : is5 (6 * B + 5) = true := by unfold is5; rw [beq_iff_eq]; omega)
  simp [List.filter, h0, h1, h2, h3, h4, h5]
theorem filter14 : ∀ B : Nat, (List.range (6 * B)).filter is14 = (List.range B).flatMap (fun k => [6 * k + 1, 6 * k + 2, 6 * k + 3, 6 * k + 4])
 | 0 => rfl
 | B + 1 => by
  rw [range6, List.filter_append, filter14 B, List.range_succ, List.flatMap_append]
  congr 1
  (have e : ∀ j : Nat, is14 (6 * B + j) = (decide (0 < j % 6) && decide (j % 6 < 5)) := fun j => by unfold is14; rw [Nat.mul_add_mod]); (have h0 : is14 (6 * B) = false := e 0); (have h1 : is14 (6 * B + 1) = true := e 1); (have h2 : is14 (6 * B + 2) = true := e 2); (have h3 : is14 (6 * B + 3) = true := e 3); (have h4 : is14 (6 * B + 4) = true := e 4); (have h5 : is14 (6 * B + 5) = false := e 5)
  simp [List.filter, h0, h1, h2, h3, h4, h5]
end Go.Proofs.YtppopmajclmhjaaGreatDoor.L
namespace Go.Proofs.YtppopmajclmhjaaGreatDoor.L
open Go.RowKit Go.Proofs.YtppopmajclmhjaaGreatDoor.QB Go.Proofs.YtppopmajclmhjaaGreatDoorW.PrintWords Go.Proofs.YtppopmajclmhjaaGreatDoorW.PrintLast
set_option linter.unusedVariables false
set_option linter.unusedSimpArgs false
theorem within_eq (n lo hi : Int) : impl_within.f n lo hi = some (decide (lo ≤ n ∧ n ≤ hi)) := by
 unfold impl_within.f
 by_cases h : n ≥ lo
 ·rw [if_pos h]
  by_cases h2 : n ≤ hi <;> simp [h2] <;> omega
 ·rw [if_neg h]
  simp
  omega
end Go.Proofs.YtppopmajclmhjaaGreatDoor.L
namespace Go.Proofs.YtppopmajclmhjaaGreatDoor.L
open Go.RowKit Go.Proofs.YtppopmajclmhjaaGreatDoor.QB Go.Proofs.YtppopmajclmhjaaGreatDoorW.PrintWords Go.Proofs.YtppopmajclmhjaaGreatDoorW.PrintLast Go.Proofs.YtppopmajclmhjaaGreatDoorW.PrintMore
set_option linter.unusedVariables false
set_option linter.unusedSimpArgs false
def letB (s : ByteArray) (i : Nat) : Bool := decide (97 ≤ bt s (i : Int)) && decide (bt s (i : Int) ≤ 122)
def lettersB (s : ByteArray) : Bool := (List.range s.size).all (letB s)
def wordB (s : ByteArray) : Bool := decide (1 ≤ s.size ∧ s.size ≤ 32) && lettersB s
theorem specWordOk_ev (s : ByteArray) (hs : s.size ≤ 9223372036854775807) : Ev (fun k => spec_WordOk.f k s) (wordB s) := by
 unfold spec_WordOk.f wordB
 by_cases h1 : s.size < 1
 ·simp only [if_pos (show (s.size : Int) < 1 by omega), show ¬ (1 ≤ s.size ∧ s.size ≤ 32) by omega, decide_false, Bool.false_and]
  refine Ev.step (fun k => rfl) ?_
  simp only [spec_WordOk.j0, if_true]
  exact Ev.now _
 ·simp only [if_neg (show ¬ (s.size : Int) < 1 by omega)]
  refine Ev.step (fun k => rfl) ?_
  by_cases h2 : s.size ≤ 32
  ·simp only [spec_WordOk.j0, show ¬ ((s.size : Int) > 32) by omega, decide_false, Bool.false_eq_true, if_false, show (1 ≤ s.size ∧ s.size ≤ 32) by omega, decide_true, Bool.true_and]
   refine evVal (search_ev s.size (fun k i => spec_WordOk.l0 k s i) (letB s) false true ?_ ?_ ?_) ?_
   ·intro i hi hp r hr
    unfold letB at hp
    simp only [Bool.and_eq_true, decide_eq_true_eq] at hp
    refine Ev.step (fun k => ?_) hr
    (simp only [spec_WordOk.l0]); (rw [if_pos (by omega), if_pos (by omega), if_neg (by omega), if_neg (by omega), wrap_nat_succ (by omega)])
   ·intro i hi hp
    unfold letB at hp
    refine Ev.step (f := fun _ => some false) (fun k => ?_) (Ev.now _)
    (simp only [spec_WordOk.l0]); (rw [if_pos (by omega), if_pos (by omega)])
    by_cases h97 : bt s (i : Int) < 97
    ·rw [if_pos h97]
    ·rw [if_neg h97, if_pos (by simp at hp; omega)]
   ·refine Ev.step (f := fun _ => some true) (fun k => ?_) (Ev.now _)
    (simp only [spec_WordOk.l0]); (rw [if_neg (by omega)])
   ·unfold lettersB
    cases (List.range s.size).all (letB s) <;> rfl
  ·simp only [spec_WordOk.j0, show ((s.size : Int) > 32) by omega, decide_true, if_true, show ¬ (1 ≤ s.size ∧ s.size ≤ 32) by omega, decide_false, Bool.false_and]
   exact Ev.now _
theorem isWord_ev (s : ByteArray) (hs : s.size ≤ 9223372036854775807) : Ev (fun k => impl_isWord.f k s) (wordB s) := by
 unfold impl_isWord.f wordB
 refine evVal (search_ev s.size (fun k i => impl_isWord.l0 k s (s.size : Int) i) (letB s) false (decide (1 ≤ s.size ∧ s.size ≤ 32)) ?_ ?_ ?_) ?_
 ·intro i hi hp r hr
  unfold letB at hp
  simp only [Bool.and_eq_true, decide_eq_true_eq] at hp
  refine Ev.step (fun k => ?_) hr
  (simp only [impl_isWord.l0]); (rw [if_pos (by omega), if_pos (by omega), if_pos (by omega), if_neg (by omega), if_neg (by omega), wrap_nat_succ (by omega)])
 ·intro i hi hp
  unfold letB at hp
  refine Ev.step (f := fun _ => some false) (fun k => ?_) (Ev.now _)
  (simp only [impl_isWord.l0]); (rw [if_pos (by omega), if_pos (by omega), if_pos (by omega)])
  by_cases h97 : bt s (i : Int) < 97
  ·rw [if_pos h97]
  ·rw [if_neg h97, if_pos (by simp at hp; omega)]
 ·refine Ev.step (f := fun _ => some (decide (1 ≤ s.size ∧ s.size ≤ 32))) (fun k => ?_) (Ev.now _)
  (simp only [impl_isWord.l0, within_eq, Option.bind_some]); (rw [if_neg (by omega)])
  congr 2
  apply propext
  omega
 ·unfold lettersB
  cases (List.range s.size).all (letB s) <;> simp
theorem wordB_size {s : ByteArray} (h : wordB s = true) : 1 ≤ s.size ∧ s.size ≤ 32 := by
 unfold wordB at h
 rw [Bool.and_eq_true] at h
 exact of_decide_eq_true h.1
def padW (s : ByteArray) : List Int := (s.size : Int) :: (bytesOf s ++ List.replicate (32 - s.size) 0)
def padL (s : ByteArray) : List Int := if wordB s then padW s else List.replicate 33 0
theorem padL_length (s : ByteArray) : (padL s).length = 33 := by
 unfold padL padW
 split
 ·rename_i h
  have := wordB_size h
  simp [bytesOf_length]
  omega
 ·simp
theorem implPad_ev (s : ByteArray) (hs : s.size ≤ 9223372036854775807) : Ev (fun k => impl_pad.f k s) (padL s) := by
 unfold impl_pad.f padL
 refine Ev.bind (isWord_ev s hs) ?_
 cases h : wordB s with
 | false => simp only [Bool.false_eq_true, if_false]; exact Ev.now _
 | true =>
  simp only [if_true, if_pos (wordB_size h).2]
  exact Ev.now _
theorem specPad_ev (s : ByteArray) (hs : s.size ≤ 9223372036854775807) : Ev (fun k => spec_Pad.f k s) (padL s) := by
 unfold spec_Pad.f padL
 simp only [show 33 ≤ 281474976710656 by omega, if_true, Option.bind_some]
 refine Ev.bind (specWordOk_ev s hs) ?_
 cases h : wordB s with
 | false => simp only [Bool.false_eq_true, if_false]; exact Ev.now _
 | true =>
  have hb := wordB_size h
  have e0 : (List.replicate 33 (0 : Int)).set (0 : Int).toNat ((s.size : Int) % 256) = (s.size : Int) :: List.replicate 32 0 := by
   rw [show (0 : Int).toNat = 0 from rfl, List.replicate_succ, List.set_cons_zero]
   congr 1
   omega
  simp only [if_true, List.length_replicate, if_pos (show (0 : Int) < ((33 : Nat) : Int) by omega), e0]
  have key : ∀ d i, i + d = s.size → Ev (fun k => spec_Pad.l0 k s ((s.size : Int) :: ((bytesOf s).take i ++ List.replicate (32 - i) 0)) (i : Int)) (padW s) := by
   intro d
   induction d with
   | zero =>
    intro i hi
    refine evVal (Ev.step (f := fun _ => some ((s.size : Int) :: ((bytesOf s).take i ++ List.replicate (32 - i) 0))) (fun k => ?_) (Ev.now _)) ?_
    ·simp only [spec_Pad.l0]
     rw [if_neg (by omega)]
    ·unfold padW
     rw [List.take_of_length_le (by rw [bytesOf_length]; omega), show i = s.size by omega]
   | succ d ih =>
    intro i hi
    refine Ev.step (fun k => ?_) (ih (i + 1) (by omega))
    (have hl : (((s.size : Int) :: ((bytesOf s).take i ++ List.replicate (32 - i) 0)).length : Int) = 33 := by simp [bytesOf_length]; omega); (simp only [spec_Pad.l0]); (rw [if_pos (by omega), if_pos (by omega), wrap_nat_succ (by omega), if_pos (by omega), if_pos (by rw [hl]; omega)])
    congr 1
    rw [Int.toNat_natCast, List.set_cons_succ, List.set_append_right _ _ (by rw [List.length_take, bytesOf_length]; omega), List.length_take, bytesOf_length, Nat.min_eq_left (by omega), Nat.sub_self, show 32 - i = (32 - (i + 1)) + 1 by omega, List.replicate_succ, List.set_cons_zero, List.take_succ_eq_append_getElem (by rw [bytesOf_length]; omega), List.append_assoc]
    congr 3
    have := rd_bytesOf s (i : Int)
    unfold rd at this
    rw [Int.toNat_natCast, List.getD_eq_getElem?_getD, List.getElem?_eq_getElem (by rw [bytesOf_length]; omega)] at this
    exact this.symm
  have := key s.size 0 (by omega)
  simpa using this
theorem pow2_le {n m : Nat} (h : n ≤ m) : (2 : Int) ^ n ≤ 2 ^ m := by
 have : (2 : Nat) ^ n ≤ 2 ^ m := Nat.pow_le_pow_right (by omega) h
 exact_mod_cast this
theorem pow2_pos (n : Nat) : (1 : Int) ≤ 2 ^ n := by
 have : (1 : Nat) ≤ 2 ^ n := Nat.one_le_two_pow
 exact_mod_cast this
theorem pow_ev (n : Nat) (hn : n ≤ 61) : Ev (fun k => spec_l02Pow.f k (n : Int)) (2 ^ n) := by
 have key : ∀ m : Nat, m ≤ 61 → ∀ x : Int, 1 ≤ x → x * 2 ^ m ≤ 2305843009213693952 → Ev (fun k => spec_l02Pow.l0 k (m : Int) x) (x * 2 ^ m) := by
  intro m
  induction m with
  | zero =>
   intro hm x h1 h2
   refine Ev.step (f := fun _ => some _) (fun k => ?_) (Ev.now _)
   simp [spec_l02Pow.l0]
  | succ m ih =>
   intro hm x h1 h2
   (have e : x * 2 ^ (m + 1) = (2 * x) * 2 ^ m := by rw [Int.pow_succ, Int.mul_comm (2 ^ m) 2, ← Int.mul_assoc, Int.mul_comm x 2]); (have hp := pow2_pos m); (have hx : 2 * x ≤ (2 * x) * 2 ^ m := by have := Int.mul_le_mul_of_nonneg_left hp (show 0 ≤ 2 * x by omega); omega)
   refine evVal (Ev.step (fun k => ?_) (ih (by omega) (2 * x) (by omega) (by rw [← e]; exact h2))) e.symm
   (simp only [spec_l02Pow.l0]); (rw [if_pos (by omega), wrap_id (by omega) (by omega), wrap_id (by omega) (by omega)])
   congr 1
   omega
 have hle : (1 : Int) * 2 ^ n ≤ 2305843009213693952 := by
  have : (2 : Int) ^ n ≤ 2 ^ 61 := pow2_le hn
  omega
 (have := key n hn 1 (by omega) hle); (rw [Int.one_mul] at this)
 exact this
theorem shl_pow (x : Int) (n : Nat) (hn : n ≤ 64) : shl .i64 x (n : Int) = wrap64 (x * 2 ^ n) := by
 unfold shl
 rw [Int.toNat_natCast, Nat.min_eq_left (by exact hn), Go.Proofs.YtppopmajclmhjaaGreatDoorW.PrintLast.i64_w]
theorem pow_small {b : Int} (h : 2 ≤ b ∧ b ≤ 6) : ∃ n : Nat, b - 2 = (n : Int) ∧ n ≤ 4 ∧ (1 : Int) ≤ 2 ^ n ∧ (2 : Int) ^ n ≤ 16 := by
 refine ⟨(b - 2).toNat, by omega, by omega, ?_, ?_⟩
 ·exact pow2_pos _
 ·have : (2 : Int) ^ (b - 2).toNat ≤ 2 ^ 4 := pow2_le (by omega)
  omega
end Go.Proofs.YtppopmajclmhjaaGreatDoor.L
namespace Go.Proofs.YtppopmajclmhjaaGreatDoor.L
open Go.RowKit Go.Proofs.YtppopmajclmhjaaGreatDoorW.PrintWords Go.Proofs.YtppopmajclmhjaaGreatDoorW.PrintMore
theorem evIf {α : Type} {p : Prop} [Decidable p] {g h : Nat → Option α} {r : α} (hp : p) (hg : Ev g r) : Ev (fun k => if p then g k else h k) r := by simp only [if_pos hp]; exact hg
theorem strOf_nums (l : List UInt8) : strOfNums (l.map fun b => (b.toNat : Int)) = ⟨l.toArray⟩ := by
 unfold strOfNums
 congr 1
 rw [List.map_map]
 have : (fun n : Int => UInt8.ofNat n.toNat) ∘ (fun b : UInt8 => (b.toNat : Int)) = id := by
  funext b
  simp
 rw [this]
 simp
end Go.Proofs.YtppopmajclmhjaaGreatDoor.L
