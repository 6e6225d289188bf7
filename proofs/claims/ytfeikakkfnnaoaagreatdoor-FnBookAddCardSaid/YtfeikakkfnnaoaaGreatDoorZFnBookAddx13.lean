/- Part of the proof of the law FnBookAdd: what it uses of the texts that this session and the kit's print wrote. -/
import Derived.Test.YtfeikakkfnnaoaaGreatDoorZFnBookAddx10
import Derived.Test.YtfeikakkfnnaoaaGreatDoorZFnBookAddx11
import Derived.Test.YtfeikakkfnnaoaaGreatDoorZFnBookAddx12
import Derived.KernelRfl
import Derived.WalkKit
import Derived.Deep.LoopGhost
import Derived.Deep.RegionLaw
import Derived.Lib.Walk
import Derived.Lib.SliceRun
import Derived.Shelf.RegionOpenPlain
import Derived.Lib.SlicesDelete
import Derived.Lib.AppendZeros
import Derived.Lib.Overlaps
import Derived.Laws.Externs
import Derived.Shelf.Spec.SlicesInsert
namespace Go.Proofs.YtfeikakkfnnaoaaGreatDoor.V
open Go Go.RowKit Go.Lib Go.Shelf Go.Sort Go.Proofs.YtfeikakkfnnaoaaGreatDoor.QA Go.Proofs.YtfeikakkfnnaoaaGreatDoorW.PrintWords
set_option linter.unusedVariables false
set_option linter.unusedSimpArgs false
section
variable {W : World}
theorem tab_of {w : World} {F : Nat → Prop} (hG : TabG W) (h : TabD W F w) : TabG w :=
 have H := G_below (tabW_below (W := W) (w := w) (F := ⟨F, fun _ _ => False⟩) h) hG
 ⟨H.utf8⟩
theorem e107_ok (hW : TabG W) (k : Nat) (q : List (SV DD)) (r : ByteArray) (h : e107 k q = some r) : Meets Tryz.prog LD (TabD W) (sigD 107) 107 q r ∧ Callable Tryz.prog 107 := by
 refine ⟨fun E V vals hT hnt hq hl hr => ?_, callB_ok (by kernel_rfl)⟩
 unfold e107 at h
 split at h
 ·rename_i s
  (obtain rfl := start_vals hr hl (xs := [.string s]) rfl); (have ha := start_adr hr (start_flatv (xs := [.string s]) rfl))
  refine (impl_Fold.calls k s r E.w0 h (tab_of hW hT)).mono ?_
  rintro e w' ⟨rfl, hb⟩
  exact ⟨[.string r], fun _ => (0, undef), postV_flat (s := sigD 107) ha hb rfl (by simp [Value.oneCell']) rfl⟩
 ·cases h
theorem e12_ok (k : Nat) (q : List (SV DD)) (r : ByteArray) (h : e12 k q = some r) : Meets Tryz.prog LD (TabD W) (sigD 12) 12 q r ∧ Callable Tryz.prog 12 := by
 refine ⟨fun E V vals hT hnt hq hl hr => ?_, callB_ok (by kernel_rfl)⟩
 unfold e12 at h
 split at h
 ·rename_i s
  (obtain rfl := start_vals hr hl (xs := [.string s]) rfl); (have ha := start_adr hr (start_flatv (xs := [.string s]) rfl))
  refine (spec_Fold.calls k s r E.w0 h).mono ?_
  rintro e w' ⟨rfl, hb⟩
  exact ⟨[.string r], fun _ => (0, undef), postV_flat (s := sigD 12) ha hb rfl (by simp [Value.oneCell']) rfl⟩
 ·cases h
theorem e102_ok (k : Nat) (q : List (SV DD)) (r : Int) (h : e102 k q = some r) : Meets Tryz.prog LD (TabD W) (sigD 102) 102 q r ∧ Callable Tryz.prog 102 := by
 refine ⟨fun E V vals hT hnt hq hl hr => ?_, callB_ok (by kernel_rfl)⟩
 unfold e102 at h
 split at h
 ·rename_i a s b
  (obtain rfl := start_vals hr hl (xs := [.int .i64 a, .string s, .int .i64 b]) rfl); (have ha := start_adr hr (start_flatv (xs := [.int .i64 a, .string s, .int .i64 b]) rfl))
  refine (impl_shelfFor.calls k a s b r E.w0 h).mono ?_
  rintro e w' ⟨rfl, hb⟩
  exact ⟨[.int .i64 r], fun _ => (0, undef), postV_flat (s := sigD 102) ha hb rfl (by simp [Value.oneCell']) rfl⟩
 ·cases h
theorem e130_ok (k : Nat) (q : List (SV DD)) (r : Int) (h : e130 k q = some r) : Meets Tryz.prog LD (TabD W) (sigD 130) 130 q r ∧ Callable Tryz.prog 130 := by
 refine ⟨fun E V vals hT hnt hq hl hr => ?_, callB_ok (by kernel_rfl)⟩
 unfold e130 at h
 split at h
 ·rename_i a s b
  (obtain rfl := start_vals hr hl (xs := [.int .i64 a, .string s, .int .i64 b]) rfl); (have ha := start_adr hr (start_flatv (xs := [.int .i64 a, .string s, .int .i64 b]) rfl))
  refine (spec_ShelfFor.calls k a s b r E.w0 h).mono ?_
  rintro e w' ⟨rfl, hb⟩
  exact ⟨[.int .i64 r], fun _ => (0, undef), postV_flat (s := sigD 130) ha hb rfl (by simp [Value.oneCell']) rfl⟩
 ·cases h
theorem e112_ok (k : Nat) (q : List (SV DD)) (r : Int) (h : e112 k q = some r) : Meets Tryz.prog LD (TabD W) (sigD 112) 112 q r ∧ Callable Tryz.prog 112 := by
 refine ⟨fun E V vals hT hnt hq hl hr => ?_, callB_ok (by kernel_rfl)⟩
 unfold e112 at h
 split at h
 ·rename_i a b
  (obtain rfl := start_vals hr hl (xs := [.string a, .string b]) rfl); (have ha := start_adr hr (start_flatv (xs := [.string a, .string b]) rfl))
  refine (impl_Capped.calls k a b r E.w0 h).mono ?_
  rintro e w' ⟨rfl, hb⟩
  exact ⟨[.int .i64 r], fun _ => (0, undef), postV_flat (s := sigD 112) ha hb rfl (by simp [Value.oneCell']) rfl⟩
 ·cases h
end
theorem e105_meets {W : World} (xs : List S83) (ha : appOk ([] : List S83) xs 24 = true) : Meets Tryz.prog LD (TabD W) (sigD 105) 105 [.ro 83 xs] xs := by
 refine meets_of_wp lay_ok mixed_ok (tabD_kept W) small_ok (fn := Tryz.f105) (c := bodyOf Tryz.f105) (by kernel_rfl) (by kernel_rfl) (az := [.ro 83 xs]) (show 1 ≤ Tryz.f105.ntmps by decide) ?_
 intro E V a hnt hr R Q hQ
 (have hc : bodyOf Tryz.f105 = .seq (sub (bodyOf Tryz.f105) [0]) (.seq (.seq (.region 1 #[opAt (sub (bodyOf Tryz.f105) [1, 0, 0]) 0, opAt (sub (bodyOf Tryz.f105) [1, 0, 0]) 1] false) (.cond (.tmp 4) (sub (bodyOf Tryz.f105) [1, 0, 1, 0]) .skip)) (sub (bodyOf Tryz.f105) [1, 1])) := by kernel_rfl); (rw [hc]); (have h0 : run LD sigD (noCall LD sigD) E.nt live105 0 (sub (bodyOf Tryz.f105) [0]) (start LD [.ro 83 xs]) normK = some { tmps := [(0, .ro 83 xs)], boxes := [], rows := [], imps := [] } := by rw [hnt]; kernel_rfl)
 refine wp_seq (R live105 0 _ _ normK _ V a _ h0 hr fun e st' V' a' w' hk hr' => ?_)
 obtain ⟨rfl, rfl⟩ := normK_inv hk
 refine wp_seq (nil_cond R (x := (xs : RT DD (sigD 105).all)) (live := live105) (n := 0) (n0 := 0) (n1 := 3) (n2 := 4) (T := 26) (T' := 26) (e := 83) (K := seqK LD sigD (noCall LD sigD) E.nt live105 0 (sub (bodyOf Tryz.f105) [1, 1]) (finX LD sigD 105 Tryz.f105)) (by kernel_rfl) (by kernel_rfl) (by kernel_rfl) (by kernel_rfl) (by kernel_rfl) (by kernel_rfl) (by kernel_rfl) (t := 83) (xs := xs) rfl (by kernel_rfl) (by kernel_rfl) (by rw [hnt]; decide) (by rw [hnt]; decide) hr' ?_ ?_ fun e st2 V2 a2 w2 hk2 hr2 => ?_)
 ·rintro rfl
  rw [hnt]; kernel_rfl
 ·have e0 : run LD sigD (noCall LD sigD) E.nt live105 0 (.cond (.tmp 4) (sub (bodyOf Tryz.f105) [1, 0, 1, 0]) .skip) ((({ tmps := [(0, .ro 83 xs)], boxes := [], rows := [], imps := [] } : St DD).put (some 3) { val := .ro 83 xs }).put (some 4) { val := .v (.bool false) }) (seqK LD sigD (noCall LD sigD) E.nt live105 0 (sub (bodyOf Tryz.f105) [1, 1]) (finX LD sigD 105 Tryz.f105)) = chk true (appOk ([] : List S83) xs 24) (some (([] : List S83) ++ xs)) := by rw [hnt]; kernel_rfl
  refine e0.trans ?_
  rw [ha]; rfl
 ·cases e with
  | normal => exact R live105 0 _ _ _ _ V2 a2 w2 hk2 hr2 fun e st' V' a' w' hk hr' => hQ e st' V' a' w' hk hr'
  | exit id => exact hQ _ st2 V2 a2 w2 hk2 hr2
  | ret => exact hQ _ st2 V2 a2 w2 hk2 hr2
theorem e105_ok {W : World} (k : Nat) (q : List (SV DD)) (r : List S83) (h : e105 k q = some r) : Meets Tryz.prog LD (TabD W) (sigD 105) 105 q r ∧ Callable Tryz.prog 105 := by
 refine ⟨?_, callB_ok (by kernel_rfl)⟩
 unfold e105 at h
 split at h
 ·rename_i xs
  cases ha : appOk ([] : List S83) xs 24 with
  | false => rw [ha] at h; cases h
  | true =>
   (rw [ha] at h); (obtain rfl := Option.some.inj h)
   exact e105_meets xs ha
 ·cases h
theorem e192_meets {W : World} (xs : List S43) (ha : appOk ([] : List S43) xs 40 = true) : Meets Tryz.prog LD (TabD W) (sigD 192) 192 [.ro 43 xs] xs := by
 refine meets_of_wp lay_ok mixed_ok (tabD_kept W) small_ok (fn := Tryz.f192) (c := bodyOf Tryz.f192) (by kernel_rfl) (by kernel_rfl) (az := [.ro 43 xs]) (show 1 ≤ Tryz.f192.ntmps by decide) ?_
 intro E V a hnt hr R Q hQ
 (have hc : bodyOf Tryz.f192 = .seq (sub (bodyOf Tryz.f192) [0]) (.seq (.seq (.region 1 #[opAt (sub (bodyOf Tryz.f192) [1, 0, 0]) 0, opAt (sub (bodyOf Tryz.f192) [1, 0, 0]) 1] false) (.cond (.tmp 4) (sub (bodyOf Tryz.f192) [1, 0, 1, 0]) .skip)) (sub (bodyOf Tryz.f192) [1, 1])) := by kernel_rfl); (rw [hc]); (have h0 : run LD sigD (noCall LD sigD) E.nt live192 0 (sub (bodyOf Tryz.f192) [0]) (start LD [.ro 43 xs]) normK = some { tmps := [(0, .ro 43 xs)], boxes := [], rows := [], imps := [] } := by rw [hnt]; kernel_rfl)
 refine wp_seq (R live192 0 _ _ normK _ V a _ h0 hr fun e st' V' a' w' hk hr' => ?_)
 obtain ⟨rfl, rfl⟩ := normK_inv hk
 refine wp_seq (nil_cond R (x := (xs : RT DD (sigD 192).all)) (live := live192) (n := 0) (n0 := 0) (n1 := 3) (n2 := 4) (T := 34) (T' := 34) (e := 43) (K := seqK LD sigD (noCall LD sigD) E.nt live192 0 (sub (bodyOf Tryz.f192) [1, 1]) (finX LD sigD 192 Tryz.f192)) (by kernel_rfl) (by kernel_rfl) (by kernel_rfl) (by kernel_rfl) (by kernel_rfl) (by kernel_rfl) (by kernel_rfl) (t := 43) (xs := xs) rfl (by kernel_rfl) (by kernel_rfl) (by rw [hnt]; decide) (by rw [hnt]; decide) hr' ?_ ?_ fun e st2 V2 a2 w2 hk2 hr2 => ?_)
 ·rintro rfl
  rw [hnt]; kernel_rfl
 ·have e0 : run LD sigD (noCall LD sigD) E.nt live192 0 (.cond (.tmp 4) (sub (bodyOf Tryz.f192) [1, 0, 1, 0]) .skip) ((({ tmps := [(0, .ro 43 xs)], boxes := [], rows := [], imps := [] } : St DD).put (some 3) { val := .ro 43 xs }).put (some 4) { val := .v (.bool false) }) (seqK LD sigD (noCall LD sigD) E.nt live192 0 (sub (bodyOf Tryz.f192) [1, 1]) (finX LD sigD 192 Tryz.f192)) = chk true (appOk ([] : List S43) xs 40) (some (([] : List S43) ++ xs)) := by rw [hnt]; kernel_rfl
  refine e0.trans ?_
  rw [ha]; rfl
 ·cases e with
  | normal => exact R live192 0 _ _ _ _ V2 a2 w2 hk2 hr2 fun e st' V' a' w' hk hr' => hQ e st' V' a' w' hk hr'
  | exit id => exact hQ _ st2 V2 a2 w2 hk2 hr2
  | ret => exact hQ _ st2 V2 a2 w2 hk2 hr2
theorem e192_ok {W : World} (k : Nat) (q : List (SV DD)) (r : List S43) (h : e192 k q = some r) : Meets Tryz.prog LD (TabD W) (sigD 192) 192 q r ∧ Callable Tryz.prog 192 := by
 refine ⟨?_, callB_ok (by kernel_rfl)⟩
 unfold e192 at h
 split at h
 ·rename_i xs
  cases ha : appOk ([] : List S43) xs 40 with
  | false => rw [ha] at h; cases h
  | true =>
   (rw [ha] at h); (obtain rfl := Option.some.inj h)
   exact e192_meets xs ha
 ·cases h
set_option maxHeartbeats 4000000 in
set_option maxRecDepth 1000000 in
theorem e111_walk (g cap n i j : Nat) (w : World) (cs : List Value) (hcl : cs.length = n * 2) (hcell : ∀ q u, cs[q]? = some u → w.cell? ⟨g, q, none⟩ = some u) (h1 : ∀ u ∈ cs, u.oneCell' = true) (hfz : ∀ q, q < n * 2 → w.frozen? ⟨g, q, none⟩ = false)
  (hcap : n ≤ cap) (hm : cap ≤ 9223372036854775807) (hij : i < j) (hj : j ≤ n) :
  Calls Tryz.prog 111 #[.slice (some ⟨g, 0, none⟩) n cap, .int .i64 i, .int .i64 j] w fun e w' => e = .returned (.slice (some ⟨g, 0, none⟩) (i + (n - j)) cap) ∧ w' = (w.drew.setCells g (i * 2) (cs.drop (j * 2))).setCells g ((i + (n - j)) * 2) (Builtin.zeroCells #[.string ⟨#[]⟩, .int .i64 0] (n - (i + (n - j)))).toList := by
 (have mixed := mixed_ok); (have heq : ¬ i = j := by omega); (have hic : i ≤ cap := by omega); (have hjc : j ≤ cap := by omega); (obtain ⟨i0, z0, hi0, hz1, _⟩ := lay_ok.info 83 (by simp [LD, tiD])); (have hz1 : i0.size = 2 := hz1); (have tT : Tryz.prog.underlying 26 = some (.slice 83) := by kernel_rfl); (have vE : ∀ w, (zeroValue 83).run Tryz.prog w = .ok (.agg #[.string ⟨#[]⟩, .int .i64 0]) w := fun w => by kernel_rfl); (obtain ⟨news, hnews⟩ : ∃ news, news = cs.drop (j * 2) := ⟨_, rfl⟩); (have hlen : news.length = (n - j) * 2 := by rw [hnews, List.length_drop, hcl, Nat.sub_mul])
 obtain ⟨A, hA, hsrc⟩ : ∃ A : Addr, (if cap = j then some (⟨g, 0, none⟩ : Addr) else some ⟨g, j * 2, none⟩) = some A ∧ Hid (∀ t u, news[t]? = some u → w.drew.cell? (A.add t) = some u) := by
  by_cases h : cap = j
  ·refine ⟨⟨g, 0, none⟩, by simp [h], fun t u hu => ?_⟩
   (have h0 : news.length = 0 := by rw [hlen]; omega); (rw [List.length_eq_zero_iff.1 h0] at hu)
   simp at hu
  ·refine ⟨⟨g, j * 2, none⟩, by simp [h], fun t u hu => ?_⟩
   (rw [hnews, List.getElem?_drop] at hu); (rw [Addr.add_lit])
   exact hcell _ _ hu
 have s1 : Hid (news.length = (n - j) * 2) := hlen
 have s2 : Hid (∀ u ∈ news, u.oneCell' = true) := by
  intro u hu
  rw [hnews] at hu
  exact h1 u (List.mem_of_mem_drop hu)
 have s3 : Hid (∀ t, t < news.length → (w.drew.cell? ⟨g, 0 + i * 2 + t, none⟩).isSome = true ∧ w.drew.frozen? ⟨g, 0 + i * 2 + t, none⟩ = false) := by
  intro t ht
  (rw [hlen] at ht); (have hq : 0 + i * 2 + t < n * 2 := by omega)
  refine ⟨?_, hfz _ hq⟩
  show (w.cell? _).isSome = true
  rw [hcell _ _ (List.getElem?_eq_getElem (by rw [hcl]; exact hq))]; rfl
 have hsome : ∀ q, q < n * 2 → ((w.drew.setCells g (i * 2) news).cell? ⟨g, q, none⟩).isSome = true := fun q hq => by
  have h0 : ∀ k, k < n * 2 → (w.drew.cell? ⟨g, k, none⟩).isSome = true := fun k hk => by
   show (w.cell? _).isSome = true
   rw [hcell _ _ (List.getElem?_eq_getElem (by rw [hcl]; exact hk))]; rfl
  by_cases hin : i * 2 ≤ q ∧ q < i * 2 + news.length
  ·have := World.cell?_setCells_in g news (i * 2) w.drew (fun k hk => h0 _ (by omega)) (q - i * 2) (by omega)
   (rw [show i * 2 + (q - i * 2) = q by omega] at this); (rw [this]; rfl)
  ·rw [World.cell?_setCells_out g news (i * 2) w.drew ⟨g, q, none⟩ (fun _ _ => by show q < i * 2 ∨ i * 2 + news.length ≤ q; omega)]
   exact h0 q hq
 have hcl2 : ∀ ty, (Builtin.clear_ #[26] ty #[.slice (some ⟨g, (i + (n - j)) * 2, none⟩) (n - (i + (n - j))) (cap - (i + (n - j)))]).run Tryz.prog (w.drew.setCells g (i * 2) news) = .ok (.tuple #[]) ((w.drew.setCells g (i * 2) news).setCells g ((i + (n - j)) * 2) (Builtin.zeroCells #[.string ⟨#[]⟩, .int .i64 0] (n - (i + (n - j)))).toList) := fun ty =>
  run_clear_any (z := .agg #[.string ⟨#[]⟩, .int .i64 0]) (w.drew.setCells g (i * 2) news) 26 83 ty tT vE (by intro u hu; simp [Value.cells] at hu; (repeat' (first | (obtain rfl := hu; rfl) | (rcases hu with hu | hu)))) g ((i + (n - j)) * 2) (n - (i + (n - j))) _ (by omega) (fun q hq => hsome _ (by simp [Value.cells] at hq; omega)) fun q hq => by
   rw [World.frozen?_setCells]; exact hfz _ (by simp [Value.cells] at hq; omega)
 (have hN : Hid (news = cs.drop (j * 2)) := hnews); clear hcell hfz hlen hsome hnews
 go_enter Tryz.func111, Tryz.ntmps111
 go_wp2_with fail
 go_region_law_o (refine step_append_room rfl (.tmp 22) (.tmp 25) 26 rfl 83 i0 2 tT hi0 hz1 g 0 i cap (by simp [Act.eval, Act.put]) A (n - j) (cap - j) news (by simp [Act.eval, Act.put]) s1.out hsrc.out s2.out (by omega) s3.out ?_)
 go_wp2
 go_ret
 exact ⟨rfl, by rw [hN.out]⟩
theorem e111_ok {W : World} (k : Nat) (q : List (SV DD)) (r : List S83) (h : e111 k q = some r) : Meets Tryz.prog LD (TabD W) (sigD 111) 111 q r ∧ Callable Tryz.prog 111 := by
 refine ⟨fun E V vals hT hnt hq hl hr => ?_, callB_ok (by kernel_rfl)⟩
 unfold e111 at h
 split at h
 ·rename_i xs i j
  cases hc : (decide (0 ≤ i) && decide (i < j) && decide (j ≤ (xs.length : Int))) with
  | false => rw [hc] at h; cases h
  | true =>
   (rw [hc] at h); (obtain rfl := Option.some.inj h); (simp only [Bool.and_eq_true, decide_eq_true_eq] at hc); (obtain ⟨i, rfl⟩ : ∃ q : Nat, i = (q : Int) := ⟨i.toNat, by omega⟩); (obtain ⟨j, rfl⟩ : ∃ q : Nat, j = (q : Int) := ⟨j.toNat, by omega⟩); (simp only [Int.toNat_natCast]); (have hij' : i < j := by omega); (have hj' : j ≤ xs.length := by omega)
   have hsv : ∀ s ∈ ([.fr 83 xs, .v (.int .i64 (i : Int)), .v (.int .i64 (j : Int))] : List (SV DD)), (∀ cs, s ≠ .pb cs) ∧ ∀ n, s ≠ .ct n := by
    intro s hs
    simp only [List.mem_cons, List.not_mem_nil, or_false] at hs
    rcases hs with rfl | rfl | rfl <;> exact ⟨(fun _ e => by cases e), (fun _ e => by cases e)⟩
   (have ha := start_adr hr fun s hs => (hsv s hs).1); (have hlen : vals.length = 3 := (hl.1 (ctOf_none fun s hs => (hsv s hs).2)).symm)
   obtain ⟨v0, v1, v2, rfl⟩ : ∃ v0 v1 v2, vals = [v0, v1, v2] := by
    match vals, hlen with
    | [a, b, c], _ => exact ⟨a, b, c, rfl⟩
   (obtain rfl : v1 = .int .i64 i := (start_arg hr (p := 1) (show 1 < 3 by omega) rfl (fun cs e => by cases e)).v_inv.1); (obtain rfl : v2 = .int .i64 j := (start_arg hr (p := 2) (show 2 < 3 by omega) rfl (fun cs e => by cases e)).v_inv.1); (have hrow0 : (start LD [.fr 83 xs, .v (.int .i64 (i : Int)), .v (.int .i64 (j : Int))]).row 700000 = some ⟨83, false, xs⟩ := rfl); (obtain rfl : v0 = V.rv 700000 := (hr.tmp 0 : SR LD _ _ _ V _ (.own 700000) v0).own_inv hrow0); (have hrow := (hr.row 700000 _ hrow0).2 rfl); (obtain ⟨cells, ho, h1, hcr⟩ := hrow)
   dsimp only at ho hcr
   have ho' := ho.2
   rcases ho' with ⟨_, h0⟩ | ⟨g, cap, cur, fz, hsl, hfz, hh, hnc, hcm, hcs, htake⟩
   ·have h0 : xs.length = 0 := h0
    omega
   ·rw [hsl] at ho ⊢
    (have hcl : cells.length = xs.length * 2 := ho.1); (have hsz : (LD.ti 83).sz = 2 := rfl); (rw [hsz] at hcs htake); (have hle : xs.length * 2 ≤ cap * 2 := Nat.mul_le_mul_right _ hnc)
    refine (e111_walk g cap xs.length i j E.w0 cells hcl (fun q u hu => ?_) h1 (fun q hq => notFrozen (fzW hfz) hh (by omega)) hnc (by unfold maxLen at hcm; omega) (by omega) (by omega)).mono ?_
    ·rw [← htake, List.getElem?_take] at hu
     split at hu
     ·simp [World.cell?, hh]; simpa using hu
     ·cases hu
    rintro e w' ⟨rfl, hw'⟩
    have hsame : ∀ k, k ≠ g → w'.heap[k]? = E.w0.heap[k]? := fun k hk => by
     rw [hw', setCells_other _ _ _ _ k hk, setCells_other _ _ _ _ k hk]; rfl
    (obtain ⟨a1, a2, a3, a4⟩ := setCells_meta g (cells.drop (j * 2)) (i * 2) E.w0.drew); (obtain ⟨b1, b2, b3, b4⟩ := setCells_meta g (Builtin.zeroCells #[.string ⟨#[]⟩, .int .i64 0] (xs.length - (i + (xs.length - j)))).toList ((i + (xs.length - j)) * 2) (E.w0.drew.setCells g (i * 2) (cells.drop (j * 2)))); (rw [← hw'] at b1 b2 b3 b4)
    refine ⟨[.slice (some ⟨g, 0, none⟩) (i + (xs.length - j)) cap], fun _ => (0, undef), postV_inplace (L := LD) (s := sigD 111) (t := 83) hr hrow0 rfl (fun k hk => .inl (by rw [hsl]; exact hk)) (Nat.le_of_eq (b1.trans a1).symm) (b2.trans a2) (b3.trans a3) (b4.trans a4) (fun k _ hk => hsame k fun e => hk (by rw [hsl, e]; rfl)) (fun F M => rowOk_del (L := LD) (t := 83) (xs := xs) (i := i) (j := j) (w := E.w0) (w0 := E.w0.drew) rfl ho hcr (Nat.le_of_lt hij') hj' M hw') ha rfl rfl rfl⟩
 ·cases h
set_option maxHeartbeats 4000000 in
set_option maxRecDepth 1000000 in
theorem e148_shift (g cap n i m gv cv kA kB : Nat) (w : World) (cs vs : List Value) (hcl : cs.length = n * 2) (hvl : vs.length = m * 2) (hcell : ∀ q u, cs[q]? = some u → w.cell? ⟨g, q, none⟩ = some u) (hsp : ∀ q, q < cap * 2 → (w.cell? ⟨g, q, none⟩).isSome = true) (hfz : ∀ q, q < cap * 2 → w.frozen? ⟨g, q, none⟩ = false)
  (hvc : ∀ q u, vs[q]? = some u → w.cell? ⟨gv, q, none⟩ = some u) (h1c : ∀ u ∈ cs, u.oneCell' = true) (h1v : ∀ u ∈ vs, u.oneCell' = true) (hne : gv ≠ g) (hsa : w.shape? gv = some (83, kA)) (hsb : w.shape? g = some (83, kB)) (hkB : kB ≠ 0) (hfa : w.frozen? ⟨gv, 0, none⟩ = false) (hfe : w.frozen? ⟨gv, kA, none⟩ = false)
  (hi : i < n) (hm : 0 < m) (hroom : n + m ≤ cap) (hc63 : cap ≤ 9223372036854775807) :
  Calls Tryz.prog 148 #[.slice (some ⟨g, 0, none⟩) n cap, .int .i64 i, .slice (some ⟨gv, 0, none⟩) m cv] w fun e w' => e = .returned (.slice (some ⟨g, 0, none⟩) (n + m) cap) ∧ w' = (w.drew.setCells g ((i + m) * 2) (cs.drop (i * 2))).setCells g (i * 2) vs := by
 (have mixed := mixed_ok); (obtain ⟨i0, z0, hi0, hz1, _⟩ := lay_ok.info 83 (by simp [LD, tiD])); (have hz1 : i0.size = 2 := hz1); (have tT : Tryz.prog.underlying 26 = some (.slice 83) := by kernel_rfl); (have hz : ∀ w, (Go.sizeOf 83).run Tryz.prog w = .ok 2 w := fun w => by simp [sizeOf, typeInfo, hi0, hz1]); (have hq1 : ¬ ((m : Int) = 0) := by omega); (have hq2 : ¬ ((i : Int) = (n : Int)) := by omega)
 have hov : ∀ lb cb, (callFunc 177 #[.slice (some ⟨gv, 0, none⟩) m cv, .slice (some ⟨g, (i + m) * 2, none⟩) lb cb]).run Tryz.prog w = .ok (.value (.bool false)) w := fun lb cb => by
  rw [run_callFunc_extern Tryz.func177 (by kernel_rfl) (by kernel_rfl) (by kernel_rfl) (e := Extern.SlicesOverlaps.overlaps #[26, 26] #[4]) (by kernel_rfl),
   Lib.run_overlaps_apart w 26 4 83 tT 2 hz ⟨gv, 0, none⟩ ⟨g, (i + m) * 2, none⟩ m cv lb cb hne 83 83 kA kB hsa hsb hkB hfa hfe]
  rfl
 (have hdl : (cs.drop (i * 2)).length = (n - i) * 2 := by rw [List.length_drop, hcl, Nat.sub_mul]); (have hw1 : IntKind.i64.wrap ((i : Int) + (m : Int)) = (i : Int) + (m : Int) := by rw [IntKind.wrap_i64]; omega); (have hw2 : IntKind.i64.wrap ((n : Int) + (m : Int)) = (n : Int) + (m : Int) := by rw [IntKind.wrap_i64]; omega); (have hb1 : (0 : Int) ≤ (i : Int) + (m : Int) := by omega); (have hin : i ≤ n := by omega); (have htn : ((i : Int) + (m : Int)).toNat = i + m := by omega); (have htn2 : ((n : Int) + (m : Int)).toNat = n + m := by omega); (have hb2 : ¬ (cap = i + m) := by omega); (have hb3 : (i : Int) ≤ (n : Int) + (m : Int) := by omega); (have hb4 : ¬ (cap = i) := by omega); (have hmin1 : Nat.min (n + m - i) (n + m - (i + m)) = n - i := by simp only [Nat.min_def]; split <;> omega); (have hmin2 : Nat.min m (n + m - i) = m := by simp only [Nat.min_def]; split <;> omega)
 have hcp1 : ∀ ty dc sc, (Builtin.copy_ #[26, 26] ty #[.slice (some ⟨g, (i + m) * 2, none⟩) (n + m - (i + m)) dc, .slice (some ⟨g, i * 2, none⟩) (n + m - i) sc]).run Tryz.prog w.drew = .ok (goInt ((n - i : Nat) : Int)) (w.drew.setCells g ((i + m) * 2) (cs.drop (i * 2))) := fun ty dc sc => by
  (have := run_copy_any (P := Tryz.prog) (w := w.drew) (ty := ty) tT hi0 g ((i + m) * 2) (n + m - (i + m)) dc ⟨g, i * 2, none⟩ (n + m - i) sc (cs.drop (i * 2)) (by rw [hmin1, hz1]; exact hdl) (fun j v hj => by rw [Addr.add_lit]; exact hcell _ v (by rwa [List.getElem?_drop] at hj)) (fun j hj => hsp _ (by rw [hdl] at hj; omega)) (fun j hj => hfz _ (by rw [hdl] at hj; omega)) (fun v hv => h1c v (List.mem_of_mem_drop hv))); (rw [hmin1] at this; exact this)
 obtain ⟨W1, hW1⟩ : ∃ W1, W1 = w.drew.setCells g ((i + m) * 2) (cs.drop (i * 2)) := ⟨_, rfl⟩
 have hsp1 : ∀ k, k < cap * 2 → (W1.cell? ⟨g, k, none⟩).isSome = true := fun k hk => by
  rw [hW1]
  exact isSome_setCells g (cs.drop (i * 2)) ((i + m) * 2) w.drew (fun j hj => hsp ((i + m) * 2 + j) (by rw [hdl] at hj; omega)) k (hsp k hk)
 have hcp2 : ∀ (W : World), (∀ x, W.cell? x = W1.cell? x) → (∀ x, W.frozen? x = W1.frozen? x) → ∀ ty dc, (Builtin.copy_ #[26, 26] ty #[.slice (some ⟨g, i * 2, none⟩) (n + m - i) dc, .slice (some ⟨gv, 0, none⟩) m cv]).run Tryz.prog W = .ok (goInt (m : Int)) (W.setCells g (i * 2) vs) := fun W hWc hWf ty dc => by
  have := run_copy_any (P := Tryz.prog) (w := W) (ty := ty) tT hi0 g (i * 2) (n + m - i) dc ⟨gv, 0, none⟩ m cv vs (by rw [hmin2, hz1]; exact hvl) (fun j v hj => by
    rw [Addr.add_lit, hWc, hW1, World.cell?_setCells_out g _ _ _ _ (fun h _ => absurd h hne)]
    rw [Nat.zero_add]; exact hvc j v hj) (fun j hj => by rw [hWc]; exact hsp1 _ (by omega)) (fun j hj => by rw [hWf, hW1, World.frozen?_setCells]; exact hfz _ (by omega)) h1v
  rw [hmin2] at this; exact this
 (rw [← hW1] at hcp1); clear hcell hsp hfz hvc hsp1
 go_enter Tryz.func148, Tryz.ntmps148
 go_wp2_with (simp only [hov])
 go_region_law_o (refine step_copy_runI rfl _ _ 26 26 rfl _ _ (by simp [Act.eval, Act.put]) (by simp [Act.eval, Act.put]) (hcp1 _ _ _) ?_)
 go_wp2_with (at_builtin; refine wpList_copy_runI _ rfl _ _ 26 26 rfl _ _ rfl rfl (hcp2 _ (fun _ => rfl) (fun _ => rfl) _ _) ?_)
 go_ret
 exact ⟨rfl, rfl⟩
set_option maxHeartbeats 4000000 in
set_option maxRecDepth 1000000 in
theorem e148_end (n m c cv : Nat) (p : Option Addr) (gv : Addr) (w w1 : World) (v1 : Value) (hm : 0 < m) (hnc : n ≤ c) (hc63 : c ≤ 9223372036854775807) (hrun : (Builtin.append_ #[26, 26] 26 #[.slice p n c, .slice (some gv) m cv]).run Tryz.prog w = .ok v1 w1) :
  Calls Tryz.prog 148 #[.slice p n c, .int .i64 n, .slice (some gv) m cv] w fun e w' => e = .returned v1 ∧ w' = w1 := by
 (have mixed := mixed_ok); (have hq1 : ¬ ((m : Int) = 0) := by omega)
 go_enter Tryz.func148, Tryz.ntmps148
 go_wp2_with (at_builtin; refine Lib.wpList_append_run _ rfl _ _ 26 26 rfl _ _ rfl rfl v1 w1 hrun ?_)
 all_goals (go_ret; exact ⟨rfl, rfl⟩)
set_option maxHeartbeats 4000000 in
set_option maxRecDepth 1000000 in
theorem e148_grow (g cap n i m gv cv h cap' : Nat) (w w1 : World) (cs vs : List Value) (hcl : cs.length = n * 2) (hvl : vs.length = m * 2) (hi : i < n) (hm : 0 < m) (hroom : cap < n + m) (hnc : n ≤ cap) (hc63 : n + m ≤ 9223372036854775807) (hc64 : cap' ≤ 9223372036854775807) (hcap : n + m ≤ cap')
  (hrun : (Builtin.append_ #[26, 3] 26 #[.slice (some ⟨g, 0, none⟩) i cap, .int .i64 ((n : Int) + (m : Int) - (i : Int))]).run Tryz.prog w = .ok (.slice (some ⟨h, 0, none⟩) (n + m) cap') w1)
  (hcell : ∀ q u, cs[q]? = some u → w1.cell? ⟨g, q, none⟩ = some u) (hsp : ∀ q, q < cap' * 2 → (w1.cell? ⟨h, q, none⟩).isSome = true) (hfz : ∀ q, q < cap' * 2 → w1.frozen? ⟨h, q, none⟩ = false)
  (hvc : ∀ q u, vs[q]? = some u → w1.cell? ⟨gv, q, none⟩ = some u) (h1c : ∀ u ∈ cs, u.oneCell' = true) (h1v : ∀ u ∈ vs, u.oneCell' = true) (hgh : g ≠ h) :
  Calls Tryz.prog 148 #[.slice (some ⟨g, 0, none⟩) n cap, .int .i64 i, .slice (some ⟨gv, 0, none⟩) m cv] w fun e w' => e = .returned (.slice (some ⟨h, 0, none⟩) (n + m) cap') ∧ w' = (w1.setCells h (i * 2) vs).drew.setCells h ((i + m) * 2) (cs.drop (i * 2)) := by
 (have mixed := mixed_ok); (obtain ⟨i0, z0, hi0, hz1, _⟩ := lay_ok.info 83 (by simp [LD, tiD])); (have hz1 : i0.size = 2 := hz1); (have tT : Tryz.prog.underlying 26 = some (.slice 83) := by kernel_rfl); (have hq1 : ¬ ((m : Int) = 0) := by omega); (have hq2 : ¬ ((i : Int) = (n : Int)) := by omega); (have hdl : (cs.drop (i * 2)).length = (n - i) * 2 := by rw [List.length_drop, hcl, Nat.sub_mul]); (have hw1 : IntKind.i64.wrap ((i : Int) + (m : Int)) = (i : Int) + (m : Int) := by rw [IntKind.wrap_i64]; omega); (have hw2 : IntKind.i64.wrap ((n : Int) + (m : Int)) = (n : Int) + (m : Int) := by rw [IntKind.wrap_i64]; omega); (have hw3 : IntKind.i64.wrap ((n : Int) + (m : Int) - (i : Int)) = (n : Int) + (m : Int) - (i : Int) := by rw [IntKind.wrap_i64]; omega); (have hb0 : (cap : Int) < (n : Int) + (m : Int) := by omega); (have hb1 : (0 : Int) ≤ (i : Int) + (m : Int) := by omega); (have hin : i ≤ n := by omega); (have hic : i ≤ cap := by omega); (have htn : ((i : Int) + (m : Int)).toNat = i + m := by omega); (have hb2 : ¬ (cap' = i) := by omega); (have hb3 : (i : Int) + (m : Int) ≤ (n : Int) + (m : Int) := by omega); (have hb5 : ¬ (cap = i) := by omega); (have hmin1 : Nat.min m (n + m - i) = m := by simp only [Nat.min_def]; split <;> omega); (have hmin2 : Nat.min (n - i) (n + m - (i + m)) = n - i := by simp only [Nat.min_def]; split <;> omega); (have hb4 : ¬ (cap' = i + m) := by omega)
 have hcp1 : ∀ ty dc, (Builtin.copy_ #[26, 26] ty #[.slice (some ⟨h, i * 2, none⟩) (n + m - i) dc, .slice (some ⟨gv, 0, none⟩) m cv]).run Tryz.prog w1 = .ok (goInt (m : Int)) (w1.setCells h (i * 2) vs) := fun ty dc => by
  have := run_copy_any (P := Tryz.prog) (w := w1) (ty := ty) tT hi0 h (i * 2) (n + m - i) dc ⟨gv, 0, none⟩ m cv vs (by rw [hmin1, hz1]; exact hvl) (fun j v hj => by
    rw [Addr.add_lit, Nat.zero_add]; exact hvc j v hj) (fun j hj => hsp (i * 2 + j) (by omega)) (fun j hj => hfz (i * 2 + j) (by omega)) h1v
  rw [hmin1] at this; exact this
 obtain ⟨W2, hW2⟩ : ∃ W2, W2 = w1.setCells h (i * 2) vs := ⟨_, rfl⟩
 have hsp1 : ∀ q, q < cap' * 2 → (W2.cell? ⟨h, q, none⟩).isSome = true := fun q hq => by
  rw [hW2]
  exact isSome_setCells h vs (i * 2) w1 (fun j hj => hsp (i * 2 + j) (by omega)) q (hsp q hq)
 have hcp2 : ∀ (W : World), (∀ x, W.cell? x = W2.cell? x) → (∀ x, W.frozen? x = W2.frozen? x) → ∀ ty dc sc, (Builtin.copy_ #[26, 26] ty #[.slice (some ⟨h, (i + m) * 2, none⟩) (n + m - (i + m)) dc, .slice (some ⟨g, i * 2, none⟩) (n - i) sc]).run Tryz.prog W = .ok (goInt ((n - i : Nat) : Int)) (W.setCells h ((i + m) * 2) (cs.drop (i * 2))) := fun W hWc hWf ty dc sc => by
  have := run_copy_any (P := Tryz.prog) (w := W) (ty := ty) tT hi0 h ((i + m) * 2) (n + m - (i + m)) dc ⟨g, i * 2, none⟩ (n - i) sc (cs.drop (i * 2)) (by rw [hmin2, hz1]; exact hdl) (fun j v hj => by
    rw [Addr.add_lit, hWc, hW2, World.cell?_setCells_out h _ _ _ _ (fun h' _ => absurd h' hgh)]
    exact hcell _ v (by rwa [List.getElem?_drop] at hj)) (fun j hj => by rw [hWc]; exact hsp1 ((i + m) * 2 + j) (by rw [hdl] at hj; omega)) (fun j hj => by rw [hWf, hW2, World.frozen?_setCells]; exact hfz ((i + m) * 2 + j) (by rw [hdl] at hj; omega)) (fun v hv => h1c v (List.mem_of_mem_drop hv))
  rw [hmin2] at this; exact this
 (have hcp3 := hcp2 W2.drew (fun _ => rfl) (fun _ => rfl)); (rw [← hW2] at hcp1); (have hW : Hid (W2 = w1.setCells h (i * 2) vs) := hW2); clear hcell hsp hfz hvc hsp1 hW2 hcp2
 go_enter Tryz.func148, Tryz.ntmps148
 go_wp2_with (first | (at_builtin; refine Lib.wpList_append_run _ rfl _ _ 26 3 rfl _ _ rfl rfl _ _ hrun ?_) | (at_builtin; refine wpList_copy_runI _ rfl _ _ 26 26 rfl _ _ rfl rfl (hcp1 _ _) ?_))
 go_region_law_o (refine step_copy_runI rfl _ _ 26 26 rfl _ _ (by simp [Act.eval, Act.put]) (by simp [Act.eval, Act.put]) (hcp3 _ _ _) ?_)
 go_wp2
 go_ret
 exact ⟨rfl, by rw [hW.out]⟩
theorem e148_ok {W : World} (k : Nat) (q : List (SV DD)) (r : List S83) (h : e148 k q = some r) : Meets Tryz.prog LD (TabD W) (sigD 148) 148 q r ∧ Callable Tryz.prog 148 := by
 refine ⟨fun E V vals hT hnt hq hl hr => ?_, callB_ok (by kernel_rfl)⟩
 unfold e148 at h
 split at h
 ·rename_i xs i vs
  cases hc : (decide (0 ≤ i) && decide (i ≤ (xs.length : Int)) && decide (0 < vs.length) && okLe (((xs.length : Int) + (vs.length : Int)) * 24) 70368744177664) with
  | false => rw [hc] at h; cases h
  | true =>
   (rw [hc] at h); (obtain rfl := Option.some.inj h); (simp only [Bool.and_eq_true, decide_eq_true_eq] at hc); (obtain ⟨⟨⟨hc0, hc1⟩, hm'⟩, hb'⟩ := hc); (have hb' := okLe_iff.1 hb'); (obtain ⟨i, rfl⟩ : ∃ q : Nat, i = (q : Int) := ⟨i.toNat, by omega⟩); (simp only [Int.toNat_natCast]); (have hi' : i ≤ xs.length := by omega); (have hsz : (LD.ti 83).sz = 2 := rfl); (have hk : elemOf LD 26 = some 83 := by kernel_rfl)
   have hsv : ∀ s ∈ ([.fr 83 xs, .v (.int .i64 (i : Int)), .fr 83 vs] : List (SV DD)), (∀ cs, s ≠ .pb cs) ∧ ∀ n, s ≠ .ct n := by
    intro s hs
    simp only [List.mem_cons, List.not_mem_nil, or_false] at hs
    rcases hs with rfl | rfl | rfl <;> exact ⟨(fun _ e => by cases e), (fun _ e => by cases e)⟩
   (have ha := start_adr hr fun s hs => (hsv s hs).1); (have hlen : vals.length = 3 := (hl.1 (ctOf_none fun s hs => (hsv s hs).2)).symm)
   obtain ⟨v0, v1, v2, rfl⟩ : ∃ v0 v1 v2, vals = [v0, v1, v2] := by
    match vals, hlen with
    | [a, b, c], _ => exact ⟨a, b, c, rfl⟩
   (obtain rfl : v1 = .int .i64 i := (start_arg hr (p := 1) (show 1 < 3 by omega) rfl (fun cs e => by cases e)).v_inv.1); (have hrow0 : (start LD [.fr 83 xs, .v (.int .i64 (i : Int)), .fr 83 vs]).row 700000 = some ⟨83, false, xs⟩ := rfl); (have hrow2 : (start LD [.fr 83 xs, .v (.int .i64 (i : Int)), .fr 83 vs]).row 702000 = some ⟨83, false, vs⟩ := rfl); (obtain rfl : v0 = V.rv 700000 := (hr.tmp 0 : SR LD _ _ _ V _ (.own 700000) v0).own_inv hrow0); (obtain rfl : v2 = V.rv 702000 := (hr.tmp 2 : SR LD _ _ _ V _ (.own 702000) v2).own_inv hrow2); (obtain ⟨cells, ho, h1, hcr⟩ := (hr.row 700000 _ hrow0).2 rfl); (obtain ⟨vcells, hvo, hv1, hvr⟩ := (hr.row 702000 _ hrow2).2 rfl)
   dsimp only at ho hcr hvo hvr
   (have hcl : cells.length = xs.length * 2 := ho.1); (have hvl : vcells.length = vs.length * 2 := hvo.1)
   have hapart : ∀ k, (V.rv 700000).ownBlock = some k → (V.rv 702000).ownBlock ≠ some k := fun k k1 k2 => by
    have := hr.rr 700000 702000 _ _ k hrow0 hrow2 rfl rfl k1 k2
    omega
   have hvo' := hvo.2
   rcases hvo' with ⟨_, h0⟩ | ⟨gv, cv, curv, fzv, hvsl, hvfz, hvh, hvnc, hvcm, hvcs, hvtake⟩
   ·have h0 : vs.length = 0 := h0
    omega
   (rw [hsz] at hvcs hvtake); (obtain rfl : fzv = (0, 0) := hvfz.resolve_right fun h => by have := h.2; rw [hsz] at this; omega); (have hvle : vs.length * 2 ≤ cv * 2 := Nat.mul_le_mul_right _ hvnc)
   have hvcell : ∀ q u, vcells[q]? = some u → E.w0.cell? ⟨gv, q, none⟩ = some u := fun q u hu => by
    rw [← hvtake, List.getElem?_take] at hu
    split at hu
    ·simp [World.cell?, hvh]; simpa using hu
    ·cases hu
   rw [hvsl] at hapart ⊢
   by_cases hin : i = xs.length
   ·-- at the end
    subst hin
    obtain ⟨p, c, hps, hpc, hpm⟩ : ∃ p c, V.rv 700000 = .slice p xs.length c ∧ xs.length ≤ c ∧ c ≤ maxLen := by
     rcases ho.2 with ⟨e1, e2⟩ | ⟨g, cap, cur, fz, e1, _, _, e2, e3, _⟩
     ·have e2 : xs.length = 0 := e2
      exact ⟨none, 0, by rw [e1, e2], by omega, by unfold maxLen; omega⟩
     ·exact ⟨_, _, e1, e2, e3⟩
    obtain ⟨v', w1, hrun, hown', hgrow, hblk⟩ := append_cells lay_ok hk 26 ho (A := some ⟨gv, 0, none⟩) (m := vs.length) (c := cv) (f := fun a b => vcells.getD (a * (LD.ti 83).sz + b) undef) (fun _ => ⟨gv, 0, rfl, fun a b ha hb => by
     (rw [hsz] at hb); (have hlt : a * 2 + b < vcells.length := by rw [hvl]; omega); (rw [hsz, Nat.zero_add, getD_lt hlt])
     exact hvcell _ _ (List.getElem?_eq_getElem hlt)⟩) (fun a b ha hb => by
     (rw [hsz] at hb); (have hlt : a * 2 + b < vcells.length := by rw [hvl]; omega)
     show (vcells.getD (a * (LD.ti 83).sz + b) undef).oneCell' = true
     rw [hsz, getD_lt hlt]
     exact hv1 _ (List.getElem_mem hlt)) hb'
    have hmap : ((List.range (vs.length * (LD.ti 83).sz)).map fun q => vcells.getD (q / (LD.ti 83).sz * (LD.ti 83).sz + q % (LD.ti 83).sz) undef) = vcells := by
     refine List.ext_getElem (by simp [hsz, hvl]) fun q q1 q2 => ?_
     rw [List.getElem_map, List.getElem_range, hsz, show q / 2 * 2 + q % 2 = q by omega, getD_lt q2]
    (rw [hmap] at hown'); (rw [hps] at hrun ⊢)
    refine (e148_end xs.length vs.length c cv p ⟨gv, 0, none⟩ E.w0 w1 v' hm' hpc (by unfold maxLen at hpm; omega) hrun).mono ?_
    rintro e w' ⟨rfl, rfl⟩
    refine ⟨[v'], fun _ => (0, undef), postV_inplace (L := LD) (s := sigD 148) (t := 83) hr hrow0 rfl (fun k hk => ?_) hgrow.size hgrow.os hgrow.tape hgrow.output (fun k hk hne => hgrow.block k hk fun e => hne e.symm) (fun F M => ?_) ha rfl rfl ?_⟩
    ·rcases hblk with e | e
     ·exact .inl (e ▸ hk)
     ·rw [e] at hk; exact .inr (Nat.le_of_eq (Option.some.inj hk))
    ·have hx : CellsOk LD E.w0 (Fz E (start LD [.fr 83 xs, .v (.int .i64 (xs.length : Int)), .fr 83 vs]) V E.w0) 83 xs cells := ⟨ho.1, h1, hcr⟩
     (have hy : CellsOk LD E.w0 (Fz E (start LD [.fr 83 xs, .v (.int .i64 (xs.length : Int)), .fr 83 vs]) V E.w0) 83 vs vcells := ⟨hvo.1, hv1, hvr⟩); (have hz := (hx.app hy).mono M); (have e1 : xs.take xs.length ++ vs ++ xs.drop xs.length = xs ++ vs := by simp); (rw [e1]); (have e2 : (xs ++ vs).length = xs.length + vs.length := List.length_append); (have hown2 : ownsT w' 83 (LD.ti 83).sz v' (xs ++ vs).length (cells ++ vcells) := by rw [e2]; exact hown')
     exact ⟨cells ++ vcells, hown2, hz.2.1, hz.2.2⟩
    ·rcases hown'.2 with ⟨e, _⟩ | ⟨_, _, _, _, e, _⟩ <;> rw [e] <;> rfl
   ·have hin' : i < xs.length := by omega
    have ho' := ho.2
    rcases ho' with ⟨_, h0⟩ | ⟨g, cap, cur, fz, hsl, hfz, hh, hnc, hcm, hcs, htake⟩
    ·have h0 : xs.length = 0 := h0
     omega
    (rw [hsl] at hapart ⊢); (have hne : gv ≠ g := fun e => hapart g rfl (by rw [e]; rfl)); (rw [hsz] at hcs htake); (have hle : xs.length * 2 ≤ cap * 2 := Nat.mul_le_mul_right _ hnc)
    have hcell : ∀ q u, cells[q]? = some u → E.w0.cell? ⟨g, q, none⟩ = some u := fun q u hu => by
     rw [← htake, List.getElem?_take] at hu
     split at hu
     ·simp [World.cell?, hh]; simpa using hu
     ·cases hu
    have hcm' : cap ≤ 9223372036854775807 := by unfold maxLen at hcm; omega
    have hcur : ∀ q, q < cells.length → cells[q]? = cur[q]? := fun q hq => by
     rw [← htake, List.getElem?_take, if_pos (by rw [hcl] at hq; exact hq), Array.getElem?_toList]
    by_cases hroom : xs.length + vs.length ≤ cap
    ·-- where it lies
     have hroom2 : (xs.length + vs.length) * 2 ≤ cap * 2 := Nat.mul_le_mul_right _ hroom
     refine (e148_shift g cap xs.length i vs.length gv cv curv.size cur.size E.w0 cells vcells hcl hvl hcell (fun q hq => by simp [World.cell?, hh]; omega) (fun q hq => notFrozen (fzW hfz) hh (by omega)) hvcell h1 hv1 hne (by simp [World.shape?, hvh]) (by simp [World.shape?, hh]) (by omega) (by simp [World.frozen?, hvh]) (by simp [World.frozen?, hvh]) hin' hm' hroom hcm').mono ?_
     rintro e w' ⟨rfl, hw'⟩
     (obtain ⟨cur', k1, k2, k3⟩ := setCells_two (w := E.w0.drew) (g := g) (a := (i + vs.length) * 2) (b := i * 2) (xs := cells.drop (i * 2)) (ys := vcells) (show E.w0.drew.heap[g]? = _ from hh)); (rw [← hw'] at k1)
     have hsame : ∀ k, k ≠ g → w'.heap[k]? = E.w0.heap[k]? := fun k hk => by
      rw [hw', setCells_other _ _ _ _ k hk, setCells_other _ _ _ _ k hk]; rfl
     (obtain ⟨a1, a2, a3, a4⟩ := setCells_meta g (cells.drop (i * 2)) ((i + vs.length) * 2) E.w0.drew); (obtain ⟨b1, b2, b3, b4⟩ := setCells_meta g vcells (i * 2) (E.w0.drew.setCells g ((i + vs.length) * 2) (cells.drop (i * 2)))); (rw [← hw'] at b1 b2 b3 b4); (have hdl : (cells.drop (i * 2)).length = (xs.length - i) * 2 := by rw [List.length_drop, hcl, Nat.sub_mul])
     refine ⟨[.slice (some ⟨g, 0, none⟩) (xs.length + vs.length) cap], fun _ => (0, undef), postV_inplace (L := LD) (s := sigD 148) (t := 83) hr hrow0 rfl (fun k hk => .inl (by rw [hsl]; exact hk)) (Nat.le_of_eq (b1.trans a1).symm) (b2.trans a2) (b3.trans a3) (b4.trans a4) (fun k _ hk => hsame k fun e => hk (by rw [hsl, e]; rfl)) (fun F M => ?_) ha rfl rfl rfl⟩
     refine rowOk_join (L := LD) (t := 83) (xs := xs) (vs := vs) (i := i) (w := E.w0) (cells := cells) (vcells := vcells) (by rw [k2]; exact hfz) k1 (by rw [k2, hsz]; exact hcs) hcm hi' hroom ho.1 hvo.1 M hcr hvr (fun q hq => ?_) (fun q hq => ?_) fun q hq1 hq2 => ?_
     ·rw [hsz] at hq
      rw [k3 q (by omega), if_neg (by omega), if_neg (by omega)]
      exact (hcur q (by omega)).symm
     ·rw [hsz, k3 _ (by omega), if_pos (by omega)]
      congr 1; omega
     ·rw [hsz] at hq1
      rw [k3 _ (by omega), if_neg (by omega), if_pos (by omega), List.getElem?_drop]
      congr 1; omega
    ·-- a new block
     obtain ⟨cap', w1, hrun, g1, g2, ⟨cur1, g3, g4, g5⟩, g6, g7, g8, g9, g10⟩ := append_zeros_grow lay_ok (t := 26) (t' := 3) hk (by kernel_rfl) 26 (w := E.w0) (g := g) (n := i) (cap := cap) (cells := cells.take (i * 2)) (by rw [List.length_take, hcl, hsz]; omega) (fun q u hu => by
      rw [List.getElem?_take] at hu
      split at hu
      ·exact hcell q u hu
      ·cases hu) (m := xs.length + vs.length - i) (by omega) (by omega) (by
      have e1 : ((i : Int) + ((xs.length + vs.length - i : Nat) : Int)) = (xs.length : Int) + (vs.length : Int) := by omega
      rw [e1]; exact hb')
     (rw [hsz] at g4 g5); (rw [show i + (xs.length + vs.length - i) = xs.length + vs.length by omega] at hrun g1); (rw [show ((xs.length + vs.length - i : Nat) : Int) = (xs.length : Int) + (vs.length : Int) - (i : Int) by omega] at hrun); (have hltg : g < E.w0.heap.size := (Array.getElem?_eq_some_iff.1 hh).1); (have hltv : gv < E.w0.heap.size := (Array.getElem?_eq_some_iff.1 hvh).1); (have hroom2 : (xs.length + vs.length) * 2 ≤ cap' * 2 := Nat.mul_le_mul_right _ g1); (have hb63 : xs.length + vs.length ≤ 9223372036854775807 := by omega)
     refine (e148_grow g cap xs.length i vs.length gv cv E.w0.heap.size cap' E.w0 w1 cells vcells hcl hvl hin' hm' (by omega) hnc hb63 (by unfold maxLen at g2; omega) g1 hrun (fun q u hu => (cell_same (g10 g hltg) q).trans (hcell q u hu)) (fun q hq => by simp [World.cell?, g3]; omega) (fun q hq => by simp [World.frozen?, g3]) (fun q u hu => (cell_same (g10 gv hltv) q).trans (hvcell q u hu)) h1 hv1 (by omega)).mono ?_
     rintro e w' ⟨rfl, hw'⟩
     (have hdl : (cells.drop (i * 2)).length = (xs.length - i) * 2 := by rw [List.length_drop, hcl, Nat.sub_mul]); (obtain ⟨c1, j1, j2, j3⟩ := setCells_block E.w0.heap.size vcells (i * 2) w1 cur1 83 (0, 0) g3); (obtain ⟨c2, j4, j5, j6⟩ := setCells_block E.w0.heap.size (cells.drop (i * 2)) ((i + vs.length) * 2) (w1.setCells E.w0.heap.size (i * 2) vcells).drew c1 83 (0, 0) j1); (rw [← hw'] at j4); (obtain ⟨a1, a2, a3, a4⟩ := setCells_meta E.w0.heap.size vcells (i * 2) w1); (obtain ⟨b1, b2, b3, b4⟩ := setCells_meta E.w0.heap.size (cells.drop (i * 2)) ((i + vs.length) * 2) (w1.setCells E.w0.heap.size (i * 2) vcells).drew); (rw [← hw'] at b1 b2 b3 b4); (have hsize : w'.heap.size = E.w0.heap.size + 1 := b1.trans (a1.trans g6))
     have hsame : ∀ k, k < E.w0.heap.size → w'.heap[k]? = E.w0.heap[k]? := fun k hk => by
      rw [hw', setCells_other _ _ _ _ k (by omega)]
      show (w1.setCells E.w0.heap.size (i * 2) vcells).heap[k]? = _
      rw [setCells_other _ _ _ _ k (by omega)]
      exact g10 k hk
     refine ⟨[.slice (some ⟨E.w0.heap.size, 0, none⟩) (xs.length + vs.length) cap'], fun _ => (0, undef), postV_inplace (L := LD) (s := sigD 148) (t := 83) (v := .slice (some ⟨E.w0.heap.size, 0, none⟩) (xs.length + vs.length) cap') hr hrow0 rfl (fun k hk => .inr (Nat.le_of_eq (Option.some.inj hk))) (by omega) (b2.trans (a2.trans g7)) (b3.trans (a3.trans g8)) (b4.trans (a4.trans g9)) (fun k hk _ => hsame k hk) (fun F M => ?_) ha rfl rfl rfl⟩
     have hcur1 : ∀ q, q < i * 2 → cur1[q]? = cells[q]? := fun q hq => by
      (have := congrArg (fun l => l[q]?) g5); (simp only [List.getElem?_take, if_pos hq, Array.getElem?_toList] at this)
      exact this
     refine rowOk_join (L := LD) (t := 83) (xs := xs) (vs := vs) (i := i) (w := E.w0) (cells := cells) (vcells := vcells) (.inl rfl) j4 (by rw [j5, j2, hsz]; exact g4) g2 hi' g1 ho.1 hvo.1 M hcr hvr (fun q hq => ?_) (fun q hq => ?_) fun q hq1 hq2 => ?_
     ·rw [hsz] at hq
      rw [j6 q (by omega), if_neg (by omega), j3 q (by omega), if_neg (by omega)]
      exact hcur1 q hq
     ·rw [hsz, j6 _ (by omega), if_neg (by omega), j3 _ (by omega), if_pos (by omega)]
      exact congrArg (fun z => vcells[z]?) (by omega)
     ·rw [hsz] at hq1
      rw [j6 _ (by omega), if_pos (by omega), List.getElem?_drop]
      exact congrArg (fun z => cells[z]?) (by omega)
 ·cases h
theorem ext_ok {W : World} (hW : TabG W) : ∀ (f : FuncId) (h : Nat → List (SV DD) → Option (RT DD (sigD f).all)), extD f = some h → ∀ k q r, h k q = some r → Meets Tryz.prog LD (TabD W) (sigD f) f q r ∧ Callable Tryz.prog f := by
 intro f h hx k q r hr
 unfold extD at hx
 split at hx
 ·injection hx with hx; subst hx; exact e107_ok hW k q r hr
 ·injection hx with hx; subst hx; exact e12_ok k q r hr
 ·injection hx with hx; subst hx; exact e102_ok k q r hr
 ·injection hx with hx; subst hx; exact e130_ok k q r hr
 ·injection hx with hx; subst hx; exact e112_ok k q r hr
 ·injection hx with hx; subst hx; exact e105_ok k q r hr
 ·injection hx with hx; subst hx; exact e192_ok k q r hr
 ·injection hx with hx; subst hx; exact e111_ok k q r hr
 ·injection hx with hx; subst hx; exact e148_ok k q r hr
 ·injection hx with hx; subst hx; cases hr
 ·injection hx with hx; subst hx; cases hr
 ·injection hx with hx; subst hx; cases hr
 ·injection hx with hx; subst hx; cases hr
 ·cases hx
end Go.Proofs.YtfeikakkfnnaoaaGreatDoor.V
namespace Go.Proofs.YtfeikakkfnnaoaaGreatDoor.V
open Go Go.RowKit Go.Proofs.YtfeikakkfnnaoaaGreatDoor.QA Go.Proofs.YtfeikakkfnnaoaaGreatDoorW.PrintWords
set_option linter.unusedVariables false
set_option linter.unusedSimpArgs false
theorem flat_bytes {W : World} {A : Option Addr} {c : Nat} {xs : List Int} (h : Kd.C (Kd.int .u8) W A xs.length xs) (hc : xs.length ≤ c) : FlatArg LD W (.ro 5 (xs : List (DD 5))) (.slice A xs.length c) := by
 refine ⟨(fun cs e => by cases e), fun st V tm F hF => .c ?_⟩
 by_cases hn : xs = []
 ·subst hn; exact .ro0 _ _ _
 (obtain ⟨_, _, hr⟩ := h); (have hpos : 0 < xs.length := List.length_pos_iff.2 hn); (obtain ⟨ad, rfl, hcell⟩ := hr hpos)
 have each : ∀ i (hi : i < xs.length), W.cell? (ad.add i) = some (.int .u8 xs[i]) := fun i hi => by
  (obtain ⟨q, hq, hk, hcc⟩ := hcell i xs[i] (List.getElem?_eq_getElem hi)); (have e : q = [.int .u8 xs[i]] := hk); (have h0 := hcc 0 (.int .u8 xs[i]) (by rw [e]; rfl)); (rw [show i * (Kd.int .u8).sz + 0 = i by rw [show (Kd.int .u8).sz = 1 from rfl]; omega] at h0)
  exact h0
 (have h0 := each 0 hpos); (rw [show ad.add 0 = ad by simp [Addr.add]] at h0); (obtain ⟨b, off, sp⟩ := ad)
 have hsp : sp = none := by
  unfold World.cell? at h0
  split at h0
  ·cases sp with
   | none => rfl
   | some x => simp at h0
  ·cases h0
 subst hsp
 have hb : b < W.heap.size := by
  unfold World.cell? at h0
  split at h0
  ·rename_i hh; exact (Array.getElem?_eq_some_iff.1 hh).1
  ·cases h0
 have each' : ∀ i (hi : i < xs.length), W.cell? ⟨b, off + i, none⟩ = some (.int .u8 (xs.getD i 0)) := fun i hi => by
  (have := each i hi); (rw [show (⟨b, off, none⟩ : Addr).add i = ⟨b, off + i, none⟩ by unfold Addr.add; split <;> simp_all] at this); (rw [this, getD_lt hi])
 (have key : ∀ (x z : Int), z = x → CR LD W F (.v (.int .u8 x)) (.int .u8 z) := fun x z e => by rw [e]; exact CR.v _ rfl); (have hv : ∀ i (hi : i < xs.length), xs.getD i 0 = xs[i] := fun i hi => getD_lt hi 0)
 generalize hu : (fun i => xs.getD i 0) = u at each' hv
 refine CR.ro (L := LD) 5 xs b off c (fun i j => .int .u8 (u i)) hn hc (hF b hb) (fun i j hi hj => ?_) (fun i j hi hj => ?_)
 ·have hj : j < 1 := hj
  (obtain rfl : j = 0 := by omega); (have h1 := each' i hi); (have e : off + i * (LD.ti 5).sz + 0 = off + i := by rw [show (LD.ti 5).sz = 1 from rfl]; omega); (rw [e, h1, ← hu])
 ·have hj : j < 1 := hj
  obtain rfl : j = 0 := by omega
  exact key xs[i] (u i) (by rw [← hu]; exact hv i hi)
theorem law_calls1 {kk : Nat} {A : Option Addr} {c : Nat} {y0 : List Int} {W : World} (hr : Kd.C (Kd.int .u8) W A y0.length y0) (hc : y0.length ≤ c) (hk : c3 kk [.ro 5 y0] = some true) (hG : TabG W) : Calls Tryz.prog 3 #[.slice A y0.length c] W fun | .returned v, W' => v = .bool true ∧ Below W.heap.size W W' | _, _ => False := by
 refine law_calls (C := CD) (Tab := TabD W) (ctx_ok (tabD_kept W) (ext_ok hG)) (f := 3) (b := false) (nk := []) (by kernel_rfl) (az := [.ro 5 y0]) (vals := [.slice A y0.length c]) (tabW_here W) ⟨fun _ => rfl, Nat.le_refl _⟩ ?_ (k := kk) (r := (true : Bool)) hk rfl
 intro p hp
 obtain rfl : p = 0 := by simp at hp; omega
 exact flat_bytes hr hc
end Go.Proofs.YtfeikakkfnnaoaaGreatDoor.V
namespace Go.Proofs.YtfeikakkfnnaoaaGreatDoor.QA
open Go Go.RowKit Go.Proofs.YtfeikakkfnnaoaaGreatDoorW.PrintWords
set_option linter.unusedVariables false
noncomputable def laws_FnBookAdd.f (k : Nat) (y0 : List Int) : Option Bool := open Classical in if V.c3 k [.ro 5 y0] = some true then some true else none
theorem laws_FnBookAdd.calls (k : Nat) (A0 : Option Addr) (c0 : Nat) (l0 : List Int) (r : Bool) (w : World) (hr0 : Kd.C (Kd.int .u8) w A0 l0.length l0) (hc0 : l0.length ≤ c0) (h : laws_FnBookAdd.f k l0 = some r) (hG : TabG w) :
  Calls Tryz.prog 3 #[.slice A0 l0.length c0] w fun e w' => e = .returned (.bool r) ∧ Below w.heap.size w w' := by
 unfold laws_FnBookAdd.f at h
 split at h
 ·rename_i h1
  obtain rfl := Option.some.inj h
  refine (V.law_calls1 hr0 hc0 h1 hG).mono fun e W' he => ?_
  cases e with
  | returned v => exact ⟨by rw [he.1], he.2⟩
  | panicked chain => exact he.elim
  | outgrown => exact he.elim
 ·cases h
end Go.Proofs.YtfeikakkfnnaoaaGreatDoor.QA
namespace Go.Proofs.YtfeikakkfnnaoaaGreatDoor.Pure
open Go Go.RowKit Go.Proofs.YtfeikakkfnnaoaaGreatDoor.QA
theorem FnBookAdd (y0 : List Int) (h : Open.InL (fun z => Open.InK .u8 z) y0) : ∃ k, laws_FnBookAdd.f k y0 = some true := by
 have hb : V.Byt y0 := fun x hx => by
  (have h' : (Lit.int .u8 x).wf = true := h.2 x hx); (have e1 : IntKind.u8.min = 0 := by decide); (have e2 : IntKind.u8.max = 255 := by decide); (simp only [Lit.wf, e1, e2, Bool.and_eq_true, decide_eq_true_eq] at h')
  exact h'
 obtain ⟨k, hk⟩ := V.law_ev y0 hb
 exact ⟨k, by unfold laws_FnBookAdd.f; rw [if_pos (hk k (Nat.le_refl _))]⟩
end Go.Proofs.YtfeikakkfnnaoaaGreatDoor.Pure
