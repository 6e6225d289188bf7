/- Part of the proof of the law FnTextsBack: what it uses of the texts that this session and the kit's print wrote. -/
import Derived.Test.YtgnbfmoifnfneaaDoorZFnTextsBackx5
import Derived.Test.YtgnbfmoifnfneaaDoorZFnTextsBackx8
import Derived.Test.YtgnbfmoifnfneaaDoorZFnTextsBackx9
import Derived.KernelRfl
import Derived.Test.YtgnbfmoifnfneaaDoorProg
namespace Go.Proofs.YtgnbfmoifnfneaaDoor.QA
open Go.RowKit Go.Proofs.YtgnbfmoifnfneaaDoorW.PrintWords Go.Proofs.YtgnbfmoifnfneaaDoorW.PrintLast Go.Proofs.YtgnbfmoifnfneaaDoorW.PrintMore
attribute [local go_sem] max2_int min2_int max_two min_two max_three min_three max_four min_four
set_option linter.unusedVariables false
set_option linter.unusedSimpArgs false
set_option maxHeartbeats 8000000
set_option maxRecDepth 100000
def crGo (k : Nat) (a0 : ByteArray) (ws : List ByteArray) : Nat → Nat → List Int → Option (Int × Int × Int × Int × Bool)
 | 0, _, ns => (impl_confText.f k (ns.getD 0 0) (ns.getD 1 0) (ns.getD 2 0) (ns.getD 3 0)).bind fun t => if t.toList = a0.toList then some (ns.getD 0 0, ns.getD 1 0, ns.getD 2 0, ns.getD 3 0, true) else some (0, 0, 0, 0, false)
 | d + 1, i, ns => (impl_lineNumber.f (rdOf ByteArray.empty ws ((2 * i + 1 : Nat) : Int))).bind fun p => if p.2 = true then crGo k a0 ws d (i + 1) (ns.set i p.1) else some (0, 0, 0, 0, false)
def impl_ConfRead.f (k : Nat) (a0 : ByteArray) : Option (Int × Int × Int × Int × Bool) := (strings_Split.f a0 (⟨#[32]⟩ : ByteArray)).bind fun ws => if ws.length = 8 then crGo k a0 ws 4 0 [0, 0, 0, 0] else some (0, 0, 0, 0, false)
theorem impl_ConfRead.calls (k : Nat) (a0 : ByteArray) (r1 : Int) (r2 : Int) (r3 : Int) (r4 : Int) (r5 : Bool) (w : World) (h : impl_ConfRead.f k a0 = some (r1, r2, r3, r4, r5)) (hG : TabG w) :
  Calls Tryd.prog 15 #[.string a0] w fun e w' => e = .returned (.tuple #[.agg #[.int .i64 r1, .int .i64 r2, .int .i64 r3, .int .i64 r4], .bool r5]) ∧ Below w.heap.size w w' := by
 unfold impl_ConfRead.f at h
 (obtain ⟨ws, hws, h2⟩ := Option.bind_eq_some_iff.mp h); (have HS := Aside0.mk hws); (have HG := Aside0.mk hG); (have hu25 := Tryd.underlying31); clear h hws hG
 by_cases c8 : ws.length = 8
 ·rw [if_pos c8] at h2
  (have HC := Aside0.mk h2); clear h2; (have c8b0 : ((ws.length : Int) != 8) = false := by simp [c8]); (have c8b1 : ((ws.length : Int) == 8) = true := by simp [c8])
  go_enter Tryd.func15, Tryd.ntmps15
  go_wp2_with (first | ((with_reducible refine gate_dst (N := 2) rfl ?_); refine box_event ?hg (N := 2) ?hd (cs := #[.int .i64 0, .int .i64 0, .int .i64 0, .int .i64 0]) (t := 31) ?hr ?_; (case hd => rfl); (case hg => rfl); (case hr => first | (go_simp; done) | (go_simp; rfl)); intro gb2 hg2 w2 hbox hb; have BK2 := Aside0.mk hbox; have GE2 := Aside0.mk ((by rw [hg2]; exact Nat.le_refl _) : w.heap.size ≤ gb2); have HB2 := Aside0.mk hb; clear hbox hb hg2) | (go_at_call 31; refine (strings_Split.calls a0 (⟨#[32]⟩ : ByteArray) ws _ HS.out (G_below HB2.out HG.out)).mono ?_; rintro e wB ⟨V, rfl, hO, hb⟩; obtain ⟨gW, cW, rfl⟩ : ∃ gW cW, V = .slice (some ⟨gW, 0, none⟩) ws.length cW := (by rcases (Kd.own_of_R hO).2 with ⟨_, h0⟩ | ⟨g, cap, cur, hv, _⟩; (exfalso; omega); exact ⟨g, cap, hv⟩); have HO := Aside0.mk hO; have BK2b := Aside0.mk (blk_below BK2.out hb); have HB3 := Aside0.mk (HB2.out.trans (hb.mono HB2.out.size)); clear hO hb) | ((with_reducible refine gate_dst (N := 5) rfl ?_); refine box_event ?hg (N := 5) ?hd (cs := #[.int .i64 0, .int .i64 0, .int .i64 0, .int .i64 0]) (t := 52) ?hr ?_; (case hd => rfl); (case hg => rfl); (case hr => first | (go_simp; done) | (go_simp; rfl)); intro gb5 hg5 w5 hbox hb; have BK5 := Aside0.mk hbox; have NB := Aside0.mk ((by rw [hg5]; exact Nat.ne_of_lt (blk_lt BK2b.out)) : gb2 ≠ gb5); have GE5 := Aside0.mk ((by rw [hg5]; exact HB3.out.size) : w.heap.size ≤ gb5); have GB5 := Aside0.mk ((by rw [hg5]; exact Nat.le_refl _) : wB.heap.size ≤ gb5); have BK2c := Aside0.mk (blk_below BK2b.out hb); have HB4 := Aside0.mk (HB3.out.trans (hb.mono HB3.out.size)); have HBB := Aside0.mk hb; clear hbox hb hg5))
  go_loopg [16] 4 (fun gg s16 wr => ∃ (i : Nat) (n0 n1 n2 n3 : Int), s16 = .int .i64 (i : Int) ∧ i + gg = 4 ∧ Aside0 (crGo k a0 ws gg i [n0, n1, n2, n3] = some (r1, r2, r3, r4, r5)) ∧ Aside0 (wr.heap[gb5]? = some (.cells #[.int .i64 n0, .int .i64 n1, .int .i64 n2, .int .i64 n3] 52 (0, 0))) ∧ Aside0 (wr.heap[gb2]? = some (.cells #[.int .i64 0, .int .i64 0, .int .i64 0, .int .i64 0] 31 (0, 0))) ∧ Aside0 (Below wB.heap.size wB wr) ∧ Aside0 (Below w.heap.size w wr))
  case atStart => exact ⟨0, 0, 0, 0, 0, rfl, rfl, HC, BK5, BK2c, HBB, HB4⟩
  case round =>
   clear HC BK5 BK2c HBB HB4 BK2 BK2b HB2 HB3; (obtain ⟨i, n0, n1, n2, n3, rfl, hi, HC, BK5, BK2, HBB, HB⟩ := hrel)

   rcases Nat.lt_or_ge i 4 with hlt | hge

   ·obtain ⟨g2, rfl⟩ : ∃ g2, gk = g2 + 1 := ⟨gk - 1, by omega⟩
    (have HH := HC.out); clear HC
    unfold crGo at HH
    (obtain ⟨p, hp, HH⟩ := Option.bind_eq_some_iff.mp HH); (obtain ⟨x, ok⟩ := p); (have HP := Aside0.mk hp); clear hp; (have hw := (Kd.R_cell ByteArray.empty HO.out ((2 * i + 1 : Nat) : Int) (by omega) (by omega)).1); (rw [Int.toNat_natCast] at hw); (replace hw := qF HBB hw); (have hz5_0 : wr.cell? ⟨gb5, 0, none⟩ = some (.int .i64 n0) := (blk_cell BK5.out 0).trans rfl); (have hz5_1 : wr.cell? ⟨gb5, 1, none⟩ = some (.int .i64 n1) := (blk_cell BK5.out 1).trans rfl); (have hz5_2 : wr.cell? ⟨gb5, 2, none⟩ = some (.int .i64 n2) := (blk_cell BK5.out 2).trans rfl); (have hz5_3 : wr.cell? ⟨gb5, 3, none⟩ = some (.int .i64 n3) := (blk_cell BK5.out 3).trans rfl); (have hf5_0 := blk_frozen BK5.out 0); (have hf5_1 := blk_frozen BK5.out 1); (have hf5_2 := blk_frozen BK5.out 2); (have hf5_3 := blk_frozen BK5.out 3); (have hz2_0 : wr.cell? ⟨gb2, 0, none⟩ = some (.int .i64 0) := (blk_cell BK2.out 0).trans rfl); (have hz2_1 : wr.cell? ⟨gb2, 1, none⟩ = some (.int .i64 0) := (blk_cell BK2.out 1).trans rfl); (have hz2_2 : wr.cell? ⟨gb2, 2, none⟩ = some (.int .i64 0) := (blk_cell BK2.out 2).trans rfl); (have hz2_3 : wr.cell? ⟨gb2, 3, none⟩ = some (.int .i64 0) := (blk_cell BK2.out 3).trans rfl); (have hf2_0 := blk_frozen BK2.out 0); (have hf2_1 := blk_frozen BK2.out 1); (have hf2_2 := blk_frozen BK2.out 2); (have hf2_3 := blk_frozen BK2.out 3); (have hi4 : i = 0 ∨ i = 1 ∨ i = 2 ∨ i = 3 := by omega)
    cases ok with
    | true =>
     (have HN := Aside0.mk (show crGo k a0 ws g2 (i + 1) ([n0, n1, n2, n3].set i x) = some (r1, r2, r3, r4, r5) from HH)); clear HH
     rcases hi4 with rfl | rfl | rfl | rfl
     ·replace hw : wr.cell? ⟨gW, 1, none⟩ = _ := hw
      go_wp2_with (go_at_call 32; refine (impl_lineNumber.calls _ x true _ HP.out (G_below HB.out HG.out)).mono ?_; rintro e w6 ⟨rfl, hb⟩; have BK5b := Aside0.mk (blk_below BK5.out hb); have BK2b := Aside0.mk (blk_below BK2.out hb); have HBBb := Aside0.mk (HBB.out.trans (hb.mono HBB.out.size)); have HBb := Aside0.mk (HB.out.trans (hb.mono HB.out.size)); clear hb; have hz6_0 : w6.cell? ⟨gb5, 0, none⟩ = some (.int .i64 n0) := (blk_cell BK5b.out 0).trans rfl; have hz6_1 : w6.cell? ⟨gb5, 1, none⟩ = some (.int .i64 n1) := (blk_cell BK5b.out 1).trans rfl; have hz6_2 : w6.cell? ⟨gb5, 2, none⟩ = some (.int .i64 n2) := (blk_cell BK5b.out 2).trans rfl; have hz6_3 : w6.cell? ⟨gb5, 3, none⟩ = some (.int .i64 n3) := (blk_cell BK5b.out 3).trans rfl; have hf6_0 := blk_frozen BK5b.out 0; have hf6_1 := blk_frozen BK5b.out 1; have hf6_2 := blk_frozen BK5b.out 2; have hf6_3 := blk_frozen BK5b.out 3; have hz7_0 : w6.cell? ⟨gb2, 0, none⟩ = some (.int .i64 0) := (blk_cell BK2b.out 0).trans rfl; have hz7_1 : w6.cell? ⟨gb2, 1, none⟩ = some (.int .i64 0) := (blk_cell BK2b.out 1).trans rfl; have hz7_2 : w6.cell? ⟨gb2, 2, none⟩ = some (.int .i64 0) := (blk_cell BK2b.out 2).trans rfl; have hz7_3 : w6.cell? ⟨gb2, 3, none⟩ = some (.int .i64 0) := (blk_cell BK2b.out 3).trans rfl; have hf7_0 := blk_frozen BK2b.out 0; have hf7_1 := blk_frozen BK2b.out 1; have hf7_2 := blk_frozen BK2b.out 2; have hf7_3 := blk_frozen BK2b.out 3)
      go_roundg g2
      case measure => omega
      case rel => exact ⟨1, x, n1, n2, n3, rfl, by omega, HN, ⟨blk_put BK5b.out 0 _ rfl⟩, ⟨blk_far BK2b.out NB.out _⟩, ⟨HBBb.out.setCell (p := ⟨gb5, 0, none⟩) GB5.out _⟩, ⟨below_set HBb.out GE5.out⟩⟩
     ·replace hw : wr.cell? ⟨gW, 3, none⟩ = _ := hw
      go_wp2_with (go_at_call 32; refine (impl_lineNumber.calls _ x true _ HP.out (G_below HB.out HG.out)).mono ?_; rintro e w6 ⟨rfl, hb⟩; have BK5b := Aside0.mk (blk_below BK5.out hb); have BK2b := Aside0.mk (blk_below BK2.out hb); have HBBb := Aside0.mk (HBB.out.trans (hb.mono HBB.out.size)); have HBb := Aside0.mk (HB.out.trans (hb.mono HB.out.size)); clear hb; have hz6_0 : w6.cell? ⟨gb5, 0, none⟩ = some (.int .i64 n0) := (blk_cell BK5b.out 0).trans rfl; have hz6_1 : w6.cell? ⟨gb5, 1, none⟩ = some (.int .i64 n1) := (blk_cell BK5b.out 1).trans rfl; have hz6_2 : w6.cell? ⟨gb5, 2, none⟩ = some (.int .i64 n2) := (blk_cell BK5b.out 2).trans rfl; have hz6_3 : w6.cell? ⟨gb5, 3, none⟩ = some (.int .i64 n3) := (blk_cell BK5b.out 3).trans rfl; have hf6_0 := blk_frozen BK5b.out 0; have hf6_1 := blk_frozen BK5b.out 1; have hf6_2 := blk_frozen BK5b.out 2; have hf6_3 := blk_frozen BK5b.out 3; have hz7_0 : w6.cell? ⟨gb2, 0, none⟩ = some (.int .i64 0) := (blk_cell BK2b.out 0).trans rfl; have hz7_1 : w6.cell? ⟨gb2, 1, none⟩ = some (.int .i64 0) := (blk_cell BK2b.out 1).trans rfl; have hz7_2 : w6.cell? ⟨gb2, 2, none⟩ = some (.int .i64 0) := (blk_cell BK2b.out 2).trans rfl; have hz7_3 : w6.cell? ⟨gb2, 3, none⟩ = some (.int .i64 0) := (blk_cell BK2b.out 3).trans rfl; have hf7_0 := blk_frozen BK2b.out 0; have hf7_1 := blk_frozen BK2b.out 1; have hf7_2 := blk_frozen BK2b.out 2; have hf7_3 := blk_frozen BK2b.out 3)
      go_roundg g2
      case measure => omega
      case rel => exact ⟨2, n0, x, n2, n3, rfl, by omega, HN, ⟨blk_put BK5b.out 1 _ rfl⟩, ⟨blk_far BK2b.out NB.out _⟩, ⟨HBBb.out.setCell (p := ⟨gb5, 1, none⟩) GB5.out _⟩, ⟨below_set HBb.out GE5.out⟩⟩
     ·replace hw : wr.cell? ⟨gW, 5, none⟩ = _ := hw
      go_wp2_with (go_at_call 32; refine (impl_lineNumber.calls _ x true _ HP.out (G_below HB.out HG.out)).mono ?_; rintro e w6 ⟨rfl, hb⟩; have BK5b := Aside0.mk (blk_below BK5.out hb); have BK2b := Aside0.mk (blk_below BK2.out hb); have HBBb := Aside0.mk (HBB.out.trans (hb.mono HBB.out.size)); have HBb := Aside0.mk (HB.out.trans (hb.mono HB.out.size)); clear hb; have hz6_0 : w6.cell? ⟨gb5, 0, none⟩ = some (.int .i64 n0) := (blk_cell BK5b.out 0).trans rfl; have hz6_1 : w6.cell? ⟨gb5, 1, none⟩ = some (.int .i64 n1) := (blk_cell BK5b.out 1).trans rfl; have hz6_2 : w6.cell? ⟨gb5, 2, none⟩ = some (.int .i64 n2) := (blk_cell BK5b.out 2).trans rfl; have hz6_3 : w6.cell? ⟨gb5, 3, none⟩ = some (.int .i64 n3) := (blk_cell BK5b.out 3).trans rfl; have hf6_0 := blk_frozen BK5b.out 0; have hf6_1 := blk_frozen BK5b.out 1; have hf6_2 := blk_frozen BK5b.out 2; have hf6_3 := blk_frozen BK5b.out 3; have hz7_0 : w6.cell? ⟨gb2, 0, none⟩ = some (.int .i64 0) := (blk_cell BK2b.out 0).trans rfl; have hz7_1 : w6.cell? ⟨gb2, 1, none⟩ = some (.int .i64 0) := (blk_cell BK2b.out 1).trans rfl; have hz7_2 : w6.cell? ⟨gb2, 2, none⟩ = some (.int .i64 0) := (blk_cell BK2b.out 2).trans rfl; have hz7_3 : w6.cell? ⟨gb2, 3, none⟩ = some (.int .i64 0) := (blk_cell BK2b.out 3).trans rfl; have hf7_0 := blk_frozen BK2b.out 0; have hf7_1 := blk_frozen BK2b.out 1; have hf7_2 := blk_frozen BK2b.out 2; have hf7_3 := blk_frozen BK2b.out 3)
      go_roundg g2
      case measure => omega
      case rel => exact ⟨3, n0, n1, x, n3, rfl, by omega, HN, ⟨blk_put BK5b.out 2 _ rfl⟩, ⟨blk_far BK2b.out NB.out _⟩, ⟨HBBb.out.setCell (p := ⟨gb5, 2, none⟩) GB5.out _⟩, ⟨below_set HBb.out GE5.out⟩⟩
     ·replace hw : wr.cell? ⟨gW, 7, none⟩ = _ := hw
      go_wp2_with (go_at_call 32; refine (impl_lineNumber.calls _ x true _ HP.out (G_below HB.out HG.out)).mono ?_; rintro e w6 ⟨rfl, hb⟩; have BK5b := Aside0.mk (blk_below BK5.out hb); have BK2b := Aside0.mk (blk_below BK2.out hb); have HBBb := Aside0.mk (HBB.out.trans (hb.mono HBB.out.size)); have HBb := Aside0.mk (HB.out.trans (hb.mono HB.out.size)); clear hb; have hz6_0 : w6.cell? ⟨gb5, 0, none⟩ = some (.int .i64 n0) := (blk_cell BK5b.out 0).trans rfl; have hz6_1 : w6.cell? ⟨gb5, 1, none⟩ = some (.int .i64 n1) := (blk_cell BK5b.out 1).trans rfl; have hz6_2 : w6.cell? ⟨gb5, 2, none⟩ = some (.int .i64 n2) := (blk_cell BK5b.out 2).trans rfl; have hz6_3 : w6.cell? ⟨gb5, 3, none⟩ = some (.int .i64 n3) := (blk_cell BK5b.out 3).trans rfl; have hf6_0 := blk_frozen BK5b.out 0; have hf6_1 := blk_frozen BK5b.out 1; have hf6_2 := blk_frozen BK5b.out 2; have hf6_3 := blk_frozen BK5b.out 3; have hz7_0 : w6.cell? ⟨gb2, 0, none⟩ = some (.int .i64 0) := (blk_cell BK2b.out 0).trans rfl; have hz7_1 : w6.cell? ⟨gb2, 1, none⟩ = some (.int .i64 0) := (blk_cell BK2b.out 1).trans rfl; have hz7_2 : w6.cell? ⟨gb2, 2, none⟩ = some (.int .i64 0) := (blk_cell BK2b.out 2).trans rfl; have hz7_3 : w6.cell? ⟨gb2, 3, none⟩ = some (.int .i64 0) := (blk_cell BK2b.out 3).trans rfl; have hf7_0 := blk_frozen BK2b.out 0; have hf7_1 := blk_frozen BK2b.out 1; have hf7_2 := blk_frozen BK2b.out 2; have hf7_3 := blk_frozen BK2b.out 3)
      go_roundg g2
      case measure => omega
      case rel => exact ⟨4, n0, n1, n2, x, rfl, by omega, HN, ⟨blk_put BK5b.out 3 _ rfl⟩, ⟨blk_far BK2b.out NB.out _⟩, ⟨HBBb.out.setCell (p := ⟨gb5, 3, none⟩) GB5.out _⟩, ⟨below_set HBb.out GE5.out⟩⟩
    | false =>
     (obtain ⟨rfl, rfl, rfl, rfl, rfl⟩ : 0 = r1 ∧ 0 = r2 ∧ 0 = r3 ∧ 0 = r4 ∧ false = r5 := by simpa using HH); clear HH
     rcases hi4 with rfl | rfl | rfl | rfl
     ·replace hw : wr.cell? ⟨gW, 1, none⟩ = _ := hw
      go_wp2_with (go_at_call 32; refine (impl_lineNumber.calls _ x false _ HP.out (G_below HB.out HG.out)).mono ?_; rintro e w6 ⟨rfl, hb⟩; have BK5b := Aside0.mk (blk_below BK5.out hb); have BK2b := Aside0.mk (blk_below BK2.out hb); have HBBb := Aside0.mk (HBB.out.trans (hb.mono HBB.out.size)); have HBb := Aside0.mk (HB.out.trans (hb.mono HB.out.size)); clear hb; have hz6_0 : w6.cell? ⟨gb5, 0, none⟩ = some (.int .i64 n0) := (blk_cell BK5b.out 0).trans rfl; have hz6_1 : w6.cell? ⟨gb5, 1, none⟩ = some (.int .i64 n1) := (blk_cell BK5b.out 1).trans rfl; have hz6_2 : w6.cell? ⟨gb5, 2, none⟩ = some (.int .i64 n2) := (blk_cell BK5b.out 2).trans rfl; have hz6_3 : w6.cell? ⟨gb5, 3, none⟩ = some (.int .i64 n3) := (blk_cell BK5b.out 3).trans rfl; have hf6_0 := blk_frozen BK5b.out 0; have hf6_1 := blk_frozen BK5b.out 1; have hf6_2 := blk_frozen BK5b.out 2; have hf6_3 := blk_frozen BK5b.out 3; have hz7_0 : w6.cell? ⟨gb2, 0, none⟩ = some (.int .i64 0) := (blk_cell BK2b.out 0).trans rfl; have hz7_1 : w6.cell? ⟨gb2, 1, none⟩ = some (.int .i64 0) := (blk_cell BK2b.out 1).trans rfl; have hz7_2 : w6.cell? ⟨gb2, 2, none⟩ = some (.int .i64 0) := (blk_cell BK2b.out 2).trans rfl; have hz7_3 : w6.cell? ⟨gb2, 3, none⟩ = some (.int .i64 0) := (blk_cell BK2b.out 3).trans rfl; have hf7_0 := blk_frozen BK2b.out 0; have hf7_1 := blk_frozen BK2b.out 1; have hf7_2 := blk_frozen BK2b.out 2; have hf7_3 := blk_frozen BK2b.out 3)
      refine bodyPost_ret (results_ct rfl _ _ gb2 31 #[.int .i64 0, .int .i64 0, .int .i64 0, .int .i64 0] (0, 0) _ rfl (blk_put (blk_put (blk_put (blk_put BK2b.out 0 _ rfl) 1 _ rfl) 2 _ rfl) 3 _ rfl) Tryd.underlying31 rfl (by kernel_rfl)) rfl ?_
      exact ⟨rfl, below_set (below_set (below_set (below_set HBb.out GE2.out) GE2.out) GE2.out) GE2.out⟩
     ·replace hw : wr.cell? ⟨gW, 3, none⟩ = _ := hw
      go_wp2_with (go_at_call 32; refine (impl_lineNumber.calls _ x false _ HP.out (G_below HB.out HG.out)).mono ?_; rintro e w6 ⟨rfl, hb⟩; have BK5b := Aside0.mk (blk_below BK5.out hb); have BK2b := Aside0.mk (blk_below BK2.out hb); have HBBb := Aside0.mk (HBB.out.trans (hb.mono HBB.out.size)); have HBb := Aside0.mk (HB.out.trans (hb.mono HB.out.size)); clear hb; have hz6_0 : w6.cell? ⟨gb5, 0, none⟩ = some (.int .i64 n0) := (blk_cell BK5b.out 0).trans rfl; have hz6_1 : w6.cell? ⟨gb5, 1, none⟩ = some (.int .i64 n1) := (blk_cell BK5b.out 1).trans rfl; have hz6_2 : w6.cell? ⟨gb5, 2, none⟩ = some (.int .i64 n2) := (blk_cell BK5b.out 2).trans rfl; have hz6_3 : w6.cell? ⟨gb5, 3, none⟩ = some (.int .i64 n3) := (blk_cell BK5b.out 3).trans rfl; have hf6_0 := blk_frozen BK5b.out 0; have hf6_1 := blk_frozen BK5b.out 1; have hf6_2 := blk_frozen BK5b.out 2; have hf6_3 := blk_frozen BK5b.out 3; have hz7_0 : w6.cell? ⟨gb2, 0, none⟩ = some (.int .i64 0) := (blk_cell BK2b.out 0).trans rfl; have hz7_1 : w6.cell? ⟨gb2, 1, none⟩ = some (.int .i64 0) := (blk_cell BK2b.out 1).trans rfl; have hz7_2 : w6.cell? ⟨gb2, 2, none⟩ = some (.int .i64 0) := (blk_cell BK2b.out 2).trans rfl; have hz7_3 : w6.cell? ⟨gb2, 3, none⟩ = some (.int .i64 0) := (blk_cell BK2b.out 3).trans rfl; have hf7_0 := blk_frozen BK2b.out 0; have hf7_1 := blk_frozen BK2b.out 1; have hf7_2 := blk_frozen BK2b.out 2; have hf7_3 := blk_frozen BK2b.out 3)
      refine bodyPost_ret (results_ct rfl _ _ gb2 31 #[.int .i64 0, .int .i64 0, .int .i64 0, .int .i64 0] (0, 0) _ rfl (blk_put (blk_put (blk_put (blk_put BK2b.out 0 _ rfl) 1 _ rfl) 2 _ rfl) 3 _ rfl) Tryd.underlying31 rfl (by kernel_rfl)) rfl ?_
      exact ⟨rfl, below_set (below_set (below_set (below_set HBb.out GE2.out) GE2.out) GE2.out) GE2.out⟩
     ·replace hw : wr.cell? ⟨gW, 5, none⟩ = _ := hw
      go_wp2_with (go_at_call 32; refine (impl_lineNumber.calls _ x false _ HP.out (G_below HB.out HG.out)).mono ?_; rintro e w6 ⟨rfl, hb⟩; have BK5b := Aside0.mk (blk_below BK5.out hb); have BK2b := Aside0.mk (blk_below BK2.out hb); have HBBb := Aside0.mk (HBB.out.trans (hb.mono HBB.out.size)); have HBb := Aside0.mk (HB.out.trans (hb.mono HB.out.size)); clear hb; have hz6_0 : w6.cell? ⟨gb5, 0, none⟩ = some (.int .i64 n0) := (blk_cell BK5b.out 0).trans rfl; have hz6_1 : w6.cell? ⟨gb5, 1, none⟩ = some (.int .i64 n1) := (blk_cell BK5b.out 1).trans rfl; have hz6_2 : w6.cell? ⟨gb5, 2, none⟩ = some (.int .i64 n2) := (blk_cell BK5b.out 2).trans rfl; have hz6_3 : w6.cell? ⟨gb5, 3, none⟩ = some (.int .i64 n3) := (blk_cell BK5b.out 3).trans rfl; have hf6_0 := blk_frozen BK5b.out 0; have hf6_1 := blk_frozen BK5b.out 1; have hf6_2 := blk_frozen BK5b.out 2; have hf6_3 := blk_frozen BK5b.out 3; have hz7_0 : w6.cell? ⟨gb2, 0, none⟩ = some (.int .i64 0) := (blk_cell BK2b.out 0).trans rfl; have hz7_1 : w6.cell? ⟨gb2, 1, none⟩ = some (.int .i64 0) := (blk_cell BK2b.out 1).trans rfl; have hz7_2 : w6.cell? ⟨gb2, 2, none⟩ = some (.int .i64 0) := (blk_cell BK2b.out 2).trans rfl; have hz7_3 : w6.cell? ⟨gb2, 3, none⟩ = some (.int .i64 0) := (blk_cell BK2b.out 3).trans rfl; have hf7_0 := blk_frozen BK2b.out 0; have hf7_1 := blk_frozen BK2b.out 1; have hf7_2 := blk_frozen BK2b.out 2; have hf7_3 := blk_frozen BK2b.out 3)
      refine bodyPost_ret (results_ct rfl _ _ gb2 31 #[.int .i64 0, .int .i64 0, .int .i64 0, .int .i64 0] (0, 0) _ rfl (blk_put (blk_put (blk_put (blk_put BK2b.out 0 _ rfl) 1 _ rfl) 2 _ rfl) 3 _ rfl) Tryd.underlying31 rfl (by kernel_rfl)) rfl ?_
      exact ⟨rfl, below_set (below_set (below_set (below_set HBb.out GE2.out) GE2.out) GE2.out) GE2.out⟩
     ·replace hw : wr.cell? ⟨gW, 7, none⟩ = _ := hw
      go_wp2_with (go_at_call 32; refine (impl_lineNumber.calls _ x false _ HP.out (G_below HB.out HG.out)).mono ?_; rintro e w6 ⟨rfl, hb⟩; have BK5b := Aside0.mk (blk_below BK5.out hb); have BK2b := Aside0.mk (blk_below BK2.out hb); have HBBb := Aside0.mk (HBB.out.trans (hb.mono HBB.out.size)); have HBb := Aside0.mk (HB.out.trans (hb.mono HB.out.size)); clear hb; have hz6_0 : w6.cell? ⟨gb5, 0, none⟩ = some (.int .i64 n0) := (blk_cell BK5b.out 0).trans rfl; have hz6_1 : w6.cell? ⟨gb5, 1, none⟩ = some (.int .i64 n1) := (blk_cell BK5b.out 1).trans rfl; have hz6_2 : w6.cell? ⟨gb5, 2, none⟩ = some (.int .i64 n2) := (blk_cell BK5b.out 2).trans rfl; have hz6_3 : w6.cell? ⟨gb5, 3, none⟩ = some (.int .i64 n3) := (blk_cell BK5b.out 3).trans rfl; have hf6_0 := blk_frozen BK5b.out 0; have hf6_1 := blk_frozen BK5b.out 1; have hf6_2 := blk_frozen BK5b.out 2; have hf6_3 := blk_frozen BK5b.out 3; have hz7_0 : w6.cell? ⟨gb2, 0, none⟩ = some (.int .i64 0) := (blk_cell BK2b.out 0).trans rfl; have hz7_1 : w6.cell? ⟨gb2, 1, none⟩ = some (.int .i64 0) := (blk_cell BK2b.out 1).trans rfl; have hz7_2 : w6.cell? ⟨gb2, 2, none⟩ = some (.int .i64 0) := (blk_cell BK2b.out 2).trans rfl; have hz7_3 : w6.cell? ⟨gb2, 3, none⟩ = some (.int .i64 0) := (blk_cell BK2b.out 3).trans rfl; have hf7_0 := blk_frozen BK2b.out 0; have hf7_1 := blk_frozen BK2b.out 1; have hf7_2 := blk_frozen BK2b.out 2; have hf7_3 := blk_frozen BK2b.out 3)
      refine bodyPost_ret (results_ct rfl _ _ gb2 31 #[.int .i64 0, .int .i64 0, .int .i64 0, .int .i64 0] (0, 0) _ rfl (blk_put (blk_put (blk_put (blk_put BK2b.out 0 _ rfl) 1 _ rfl) 2 _ rfl) 3 _ rfl) Tryd.underlying31 rfl (by kernel_rfl)) rfl ?_
      exact ⟨rfl, below_set (below_set (below_set (below_set HBb.out GE2.out) GE2.out) GE2.out) GE2.out⟩
   ·obtain rfl : gk = 0 := by omega
    (obtain rfl : i = 4 := by omega); (have HH := HC.out); clear HC
    unfold crGo at HH
    (obtain ⟨t, ht, HH⟩ := Option.bind_eq_some_iff.mp HH); (have HT := Aside0.mk (show impl_confText.f k n0 n1 n2 n3 = some t from ht)); clear ht; (have hz5_0 : wr.cell? ⟨gb5, 0, none⟩ = some (.int .i64 n0) := (blk_cell BK5.out 0).trans rfl); (have hz5_1 : wr.cell? ⟨gb5, 1, none⟩ = some (.int .i64 n1) := (blk_cell BK5.out 1).trans rfl); (have hz5_2 : wr.cell? ⟨gb5, 2, none⟩ = some (.int .i64 n2) := (blk_cell BK5.out 2).trans rfl); (have hz5_3 : wr.cell? ⟨gb5, 3, none⟩ = some (.int .i64 n3) := (blk_cell BK5.out 3).trans rfl); (have hf5_0 := blk_frozen BK5.out 0); (have hf5_1 := blk_frozen BK5.out 1); (have hf5_2 := blk_frozen BK5.out 2); (have hf5_3 := blk_frozen BK5.out 3); (have hz2_0 : wr.cell? ⟨gb2, 0, none⟩ = some (.int .i64 0) := (blk_cell BK2.out 0).trans rfl); (have hz2_1 : wr.cell? ⟨gb2, 1, none⟩ = some (.int .i64 0) := (blk_cell BK2.out 1).trans rfl); (have hz2_2 : wr.cell? ⟨gb2, 2, none⟩ = some (.int .i64 0) := (blk_cell BK2.out 2).trans rfl); (have hz2_3 : wr.cell? ⟨gb2, 3, none⟩ = some (.int .i64 0) := (blk_cell BK2.out 3).trans rfl); (have hf2_0 := blk_frozen BK2.out 0); (have hf2_1 := blk_frozen BK2.out 1); (have hf2_2 := blk_frozen BK2.out 2); (have hf2_3 := blk_frozen BK2.out 3)
    by_cases c9 : t.toList = a0.toList
    ·obtain ⟨rfl, rfl, rfl, rfl, rfl⟩ : n0 = r1 ∧ n1 = r2 ∧ n2 = r3 ∧ n3 = r4 ∧ true = r5 := by rw [if_pos c9] at HH; simpa using HH
     clear HH; (have c9b0 : (t.toList == a0.toList) = true := by simp [c9]); clear c9
     go_wp2_with (first | ((with_reducible refine gate_dst (N := 9) rfl ?_); refine box_event ?hg (N := 9) ?hd (cs := #[.int .i64 0, .int .i64 0, .int .i64 0, .int .i64 0]) (t := 31) ?hr ?_; (case hd => rfl); (case hg => rfl); (case hr => first | (go_simp; done) | (go_simp; rfl)); intro gb9 hg9 w9 hbox hb; have BK9 := Aside0.mk hbox; have NB9 := Aside0.mk ((by rw [hg9]; exact Nat.ne_of_lt (blk_lt BK2.out)) : gb2 ≠ gb9); have GE9 := Aside0.mk ((by rw [hg9]; exact HB.out.size) : w.heap.size ≤ gb9); have BK2b := Aside0.mk (blk_below BK2.out hb); have HBb := Aside0.mk (HB.out.trans (hb.mono HB.out.size)); clear hbox hb hg9; have hz9_0 : w9.cell? ⟨gb9, 0, none⟩ = some (.int .i64 0) := (blk_cell BK9.out 0).trans rfl; have hz9_1 : w9.cell? ⟨gb9, 1, none⟩ = some (.int .i64 0) := (blk_cell BK9.out 1).trans rfl; have hz9_2 : w9.cell? ⟨gb9, 2, none⟩ = some (.int .i64 0) := (blk_cell BK9.out 2).trans rfl; have hz9_3 : w9.cell? ⟨gb9, 3, none⟩ = some (.int .i64 0) := (blk_cell BK9.out 3).trans rfl; have hf9_0 := blk_frozen BK9.out 0; have hf9_1 := blk_frozen BK9.out 1; have hf9_2 := blk_frozen BK9.out 2; have hf9_3 := blk_frozen BK9.out 3; have hz8_0 : w9.cell? ⟨gb2, 0, none⟩ = some (.int .i64 0) := (blk_cell BK2b.out 0).trans rfl; have hz8_1 : w9.cell? ⟨gb2, 1, none⟩ = some (.int .i64 0) := (blk_cell BK2b.out 1).trans rfl; have hz8_2 : w9.cell? ⟨gb2, 2, none⟩ = some (.int .i64 0) := (blk_cell BK2b.out 2).trans rfl; have hz8_3 : w9.cell? ⟨gb2, 3, none⟩ = some (.int .i64 0) := (blk_cell BK2b.out 3).trans rfl; have hf8_0 := blk_frozen BK2b.out 0; have hf8_1 := blk_frozen BK2b.out 1; have hf8_2 := blk_frozen BK2b.out 2; have hf8_3 := blk_frozen BK2b.out 3) | (go_at_call 25; refine (impl_confText.calls k n0 n1 n2 n3 t _ HT.out (G_below (below_set (below_set (below_set (below_set HBb.out GE9.out) GE9.out) GE9.out) GE9.out) HG.out)).mono ?_; rintro e w10 ⟨rfl, hb⟩; have BK9c := Aside0.mk (blk_below (blk_put (blk_put (blk_put (blk_put BK9.out 0 (.int .i64 n0) rfl) 1 (.int .i64 n1) rfl) 2 (.int .i64 n2) rfl) 3 (.int .i64 n3) rfl) hb); have BK2c := Aside0.mk (blk_below (blk_far (blk_far (blk_far (blk_far BK2b.out NB9.out _) NB9.out _) NB9.out _) NB9.out _) hb); have HBc := Aside0.mk (below_step (below_set (below_set (below_set (below_set HBb.out GE9.out) GE9.out) GE9.out) GE9.out) hb); clear hb; have hza_0 : w10.cell? ⟨gb9, 0, none⟩ = some (.int .i64 n0) := (blk_cell BK9c.out 0).trans rfl; have hza_1 : w10.cell? ⟨gb9, 1, none⟩ = some (.int .i64 n1) := (blk_cell BK9c.out 1).trans rfl; have hza_2 : w10.cell? ⟨gb9, 2, none⟩ = some (.int .i64 n2) := (blk_cell BK9c.out 2).trans rfl; have hza_3 : w10.cell? ⟨gb9, 3, none⟩ = some (.int .i64 n3) := (blk_cell BK9c.out 3).trans rfl; have hfa_0 := blk_frozen BK9c.out 0; have hfa_1 := blk_frozen BK9c.out 1; have hfa_2 := blk_frozen BK9c.out 2; have hfa_3 := blk_frozen BK9c.out 3; have hzb_0 : w10.cell? ⟨gb2, 0, none⟩ = some (.int .i64 0) := (blk_cell BK2c.out 0).trans rfl; have hzb_1 : w10.cell? ⟨gb2, 1, none⟩ = some (.int .i64 0) := (blk_cell BK2c.out 1).trans rfl; have hzb_2 : w10.cell? ⟨gb2, 2, none⟩ = some (.int .i64 0) := (blk_cell BK2c.out 2).trans rfl; have hzb_3 : w10.cell? ⟨gb2, 3, none⟩ = some (.int .i64 0) := (blk_cell BK2c.out 3).trans rfl; have hfb_0 := blk_frozen BK2c.out 0; have hfb_1 := blk_frozen BK2c.out 1; have hfb_2 := blk_frozen BK2c.out 2; have hfb_3 := blk_frozen BK2c.out 3))
     refine bodyPost_ret (results_ct rfl _ _ gb2 31 #[.int .i64 n0, .int .i64 n1, .int .i64 n2, .int .i64 n3] (0, 0) _ rfl (blk_put (blk_put (blk_put (blk_put BK2c.out 0 _ rfl) 1 _ rfl) 2 _ rfl) 3 _ rfl) Tryd.underlying31 rfl (by kernel_rfl)) rfl ?_
     exact ⟨rfl, below_set (below_set (below_set (below_set HBc.out GE2.out) GE2.out) GE2.out) GE2.out⟩
    ·obtain ⟨rfl, rfl, rfl, rfl, rfl⟩ : 0 = r1 ∧ 0 = r2 ∧ 0 = r3 ∧ 0 = r4 ∧ false = r5 := by rw [if_neg c9] at HH; simpa using HH
     clear HH; (have c9b0 : (t.toList == a0.toList) = false := by simp [c9]); clear c9
     go_wp2_with (first | ((with_reducible refine gate_dst (N := 9) rfl ?_); refine box_event ?hg (N := 9) ?hd (cs := #[.int .i64 0, .int .i64 0, .int .i64 0, .int .i64 0]) (t := 31) ?hr ?_; (case hd => rfl); (case hg => rfl); (case hr => first | (go_simp; done) | (go_simp; rfl)); intro gb9 hg9 w9 hbox hb; have BK9 := Aside0.mk hbox; have NB9 := Aside0.mk ((by rw [hg9]; exact Nat.ne_of_lt (blk_lt BK2.out)) : gb2 ≠ gb9); have GE9 := Aside0.mk ((by rw [hg9]; exact HB.out.size) : w.heap.size ≤ gb9); have BK2b := Aside0.mk (blk_below BK2.out hb); have HBb := Aside0.mk (HB.out.trans (hb.mono HB.out.size)); clear hbox hb hg9; have hz9_0 : w9.cell? ⟨gb9, 0, none⟩ = some (.int .i64 0) := (blk_cell BK9.out 0).trans rfl; have hz9_1 : w9.cell? ⟨gb9, 1, none⟩ = some (.int .i64 0) := (blk_cell BK9.out 1).trans rfl; have hz9_2 : w9.cell? ⟨gb9, 2, none⟩ = some (.int .i64 0) := (blk_cell BK9.out 2).trans rfl; have hz9_3 : w9.cell? ⟨gb9, 3, none⟩ = some (.int .i64 0) := (blk_cell BK9.out 3).trans rfl; have hf9_0 := blk_frozen BK9.out 0; have hf9_1 := blk_frozen BK9.out 1; have hf9_2 := blk_frozen BK9.out 2; have hf9_3 := blk_frozen BK9.out 3; have hz8_0 : w9.cell? ⟨gb2, 0, none⟩ = some (.int .i64 0) := (blk_cell BK2b.out 0).trans rfl; have hz8_1 : w9.cell? ⟨gb2, 1, none⟩ = some (.int .i64 0) := (blk_cell BK2b.out 1).trans rfl; have hz8_2 : w9.cell? ⟨gb2, 2, none⟩ = some (.int .i64 0) := (blk_cell BK2b.out 2).trans rfl; have hz8_3 : w9.cell? ⟨gb2, 3, none⟩ = some (.int .i64 0) := (blk_cell BK2b.out 3).trans rfl; have hf8_0 := blk_frozen BK2b.out 0; have hf8_1 := blk_frozen BK2b.out 1; have hf8_2 := blk_frozen BK2b.out 2; have hf8_3 := blk_frozen BK2b.out 3) | (go_at_call 25; refine (impl_confText.calls k n0 n1 n2 n3 t _ HT.out (G_below (below_set (below_set (below_set (below_set HBb.out GE9.out) GE9.out) GE9.out) GE9.out) HG.out)).mono ?_; rintro e w10 ⟨rfl, hb⟩; have BK9c := Aside0.mk (blk_below (blk_put (blk_put (blk_put (blk_put BK9.out 0 (.int .i64 n0) rfl) 1 (.int .i64 n1) rfl) 2 (.int .i64 n2) rfl) 3 (.int .i64 n3) rfl) hb); have BK2c := Aside0.mk (blk_below (blk_far (blk_far (blk_far (blk_far BK2b.out NB9.out _) NB9.out _) NB9.out _) NB9.out _) hb); have HBc := Aside0.mk (below_step (below_set (below_set (below_set (below_set HBb.out GE9.out) GE9.out) GE9.out) GE9.out) hb); clear hb; have hza_0 : w10.cell? ⟨gb9, 0, none⟩ = some (.int .i64 n0) := (blk_cell BK9c.out 0).trans rfl; have hza_1 : w10.cell? ⟨gb9, 1, none⟩ = some (.int .i64 n1) := (blk_cell BK9c.out 1).trans rfl; have hza_2 : w10.cell? ⟨gb9, 2, none⟩ = some (.int .i64 n2) := (blk_cell BK9c.out 2).trans rfl; have hza_3 : w10.cell? ⟨gb9, 3, none⟩ = some (.int .i64 n3) := (blk_cell BK9c.out 3).trans rfl; have hfa_0 := blk_frozen BK9c.out 0; have hfa_1 := blk_frozen BK9c.out 1; have hfa_2 := blk_frozen BK9c.out 2; have hfa_3 := blk_frozen BK9c.out 3; have hzb_0 : w10.cell? ⟨gb2, 0, none⟩ = some (.int .i64 0) := (blk_cell BK2c.out 0).trans rfl; have hzb_1 : w10.cell? ⟨gb2, 1, none⟩ = some (.int .i64 0) := (blk_cell BK2c.out 1).trans rfl; have hzb_2 : w10.cell? ⟨gb2, 2, none⟩ = some (.int .i64 0) := (blk_cell BK2c.out 2).trans rfl; have hzb_3 : w10.cell? ⟨gb2, 3, none⟩ = some (.int .i64 0) := (blk_cell BK2c.out 3).trans rfl; have hfb_0 := blk_frozen BK2c.out 0; have hfb_1 := blk_frozen BK2c.out 1; have hfb_2 := blk_frozen BK2c.out 2; have hfb_3 := blk_frozen BK2c.out 3))
     refine bodyPost_ret (results_ct rfl _ _ gb2 31 #[.int .i64 0, .int .i64 0, .int .i64 0, .int .i64 0] (0, 0) _ rfl (blk_put (blk_put (blk_put (blk_put BK2c.out 0 _ rfl) 1 _ rfl) 2 _ rfl) 3 _ rfl) Tryd.underlying31 rfl (by kernel_rfl)) rfl ?_
     exact ⟨rfl, below_set (below_set (below_set (below_set HBc.out GE2.out) GE2.out) GE2.out) GE2.out⟩
 ·rw [if_neg c8] at h2
  (obtain ⟨rfl, rfl, rfl, rfl, rfl⟩ : 0 = r1 ∧ 0 = r2 ∧ 0 = r3 ∧ 0 = r4 ∧ false = r5 := by simpa using h2); clear h2; (have c8b0 : ((ws.length : Int) != 8) = true := by simp; omega); (have c8b1 : ((ws.length : Int) == 8) = false := by simp; omega)
  go_enter Tryd.func15, Tryd.ntmps15
  go_wp2_with (first | ((with_reducible refine gate_dst (N := 2) rfl ?_); refine box_event ?hg (N := 2) ?hd (cs := #[.int .i64 0, .int .i64 0, .int .i64 0, .int .i64 0]) (t := 31) ?hr ?_; (case hd => rfl); (case hg => rfl); (case hr => first | (go_simp; done) | (go_simp; rfl)); intro gb2 hg2 w2 hbox hb; have BK2 := Aside0.mk hbox; have GE2 := Aside0.mk ((by rw [hg2]; exact Nat.le_refl _) : w.heap.size ≤ gb2); have HB2 := Aside0.mk hb; clear hbox hb hg2) | (go_at_call 31; refine (strings_Split.calls a0 (⟨#[32]⟩ : ByteArray) ws _ HS.out (G_below HB2.out HG.out)).mono ?_; rintro e wB ⟨V, rfl, hO, hb⟩; obtain ⟨AW, cW, rfl⟩ := Kd.R_slice hO; have BK2b := Aside0.mk (blk_below BK2.out hb); have HB3 := Aside0.mk (HB2.out.trans (hb.mono HB2.out.size)); clear hO hb; have hz2_0 : wB.cell? ⟨gb2, 0, none⟩ = some (.int .i64 0) := (blk_cell BK2b.out 0).trans rfl; have hz2_1 : wB.cell? ⟨gb2, 1, none⟩ = some (.int .i64 0) := (blk_cell BK2b.out 1).trans rfl; have hz2_2 : wB.cell? ⟨gb2, 2, none⟩ = some (.int .i64 0) := (blk_cell BK2b.out 2).trans rfl; have hz2_3 : wB.cell? ⟨gb2, 3, none⟩ = some (.int .i64 0) := (blk_cell BK2b.out 3).trans rfl; have hf2_0 := blk_frozen BK2b.out 0; have hf2_1 := blk_frozen BK2b.out 1; have hf2_2 := blk_frozen BK2b.out 2; have hf2_3 := blk_frozen BK2b.out 3))
  refine bodyPost_ret (results_ct rfl _ _ gb2 31 #[.int .i64 0, .int .i64 0, .int .i64 0, .int .i64 0] (0, 0) _ rfl (blk_put (blk_put (blk_put (blk_put BK2b.out 0 _ rfl) 1 _ rfl) 2 _ rfl) 3 _ rfl) Tryd.underlying31 rfl (by kernel_rfl)) rfl ?_
  exact ⟨rfl, below_set (below_set (below_set (below_set HB3.out GE2.out) GE2.out) GE2.out) GE2.out⟩
end Go.Proofs.YtgnbfmoifnfneaaDoor.QA
namespace Go.Proofs.YtgnbfmoifnfneaaDoor.V
open Go Go.RowKit Go.Proofs.YtgnbfmoifnfneaaDoor.QA Go.Proofs.YtgnbfmoifnfneaaDoorW.PrintWords
set_option linter.unusedVariables false
set_option linter.unusedSimpArgs false
noncomputable def e6 (k : Nat) : List (SV DD) → Option (Int × ByteArray × Int × Int × Int × Int × ByteArray × Bool)
 | [.v (.string s)] => impl_ReqRead.f k s
 | _ => none
noncomputable def e11 (k : Nat) : List (SV DD) → Option ByteArray
 | [.agg [.v (.int .i64 a), .v (.int .i64 b), .v (.int .i64 c), .v (.int .i64 d)]] => impl_ConfText.f k a b c d
 | _ => none
noncomputable def e12 (k : Nat) : List (SV DD) → Option ByteArray
 | [.agg [.v (.int .i64 a), .v (.string w), .v (.int .i64 b), .v (.int .i64 c), .v (.int .i64 d), .v (.int .i64 e), .v (.string t)]] => impl_ReqText.f k a w b c d e t
 | _ => none
noncomputable def e13 (k : Nat) : List (SV DD) → Option ByteArray
 | [.agg [.v (.int .i64 a), .v (.int .i64 b), .v (.int .i64 c), .v (.int .i64 d)]] => spec_ConfText.f k a b c d
 | _ => none
noncomputable def e14 (k : Nat) : List (SV DD) → Option ByteArray
 | [.agg [.v (.int .i64 a), .v (.string w), .v (.int .i64 b), .v (.int .i64 c), .v (.int .i64 d), .v (.int .i64 e), .v (.string t)]] => spec_ReqText.f k a w b c d e t
 | _ => none
noncomputable def e15 (k : Nat) : List (SV DD) → Option (Int × Int × Int × Int × Bool)
 | [.v (.string s)] => impl_ConfRead.f k s
 | _ => none
noncomputable def extD : (f : FuncId) → Option (Nat → List (SV DD) → Option (RT DD (sigD f).all))
 | 6 => some e6
 | 11 => some e11
 | 12 => some e12
 | 13 => some e13
 | 14 => some e14
 | 15 => some e15
 | _ => none
def TabD (W : World) : TabP := TabW W
theorem tabD_kept (W : World) : TabKept (TabD W) := tabW_kept W
theorem tab_of {W w : World} {F : Nat → Prop} (hG : TabG W) (h : TabD W F w) : TabG w :=
 have H := G_below (tabW_below h) hG
 ⟨H.pow10, H.maxlen, H.syn, H.rng, H.reqw⟩
def callB (P : Program) (f : FuncId) : Bool := match P.funcs[f]? with
 | some fn => !(fn.name == "runtime.NumGoroutine") && fn.body.isSome
 | none => false
theorem callB_ok {P : Program} {f : FuncId} (h : callB P f = true) : Callable P f := by
 unfold callB at h
 split at h
 ·rename_i fn hf
  (simp only [Bool.and_eq_true, Bool.not_eq_true'] at h); (obtain ⟨c, hc⟩ := Option.isSome_iff_exists.1 h.2)
  exact ⟨fn, c, hf, h.1, hc⟩
 ·cases h
section
variable {W : World}
theorem e6_ok (hW : TabG W) (k : Nat) (q : List (SV DD)) (r : RT DD (sigD 6).all) (h : e6 k q = some r) : Meets Tryd.prog LD (TabD W) (sigD 6) 6 q r ∧ Callable Tryd.prog 6 := by
 refine ⟨fun E V vals hT hnt hl hr => ?_, callB_ok (by kernel_rfl)⟩
 unfold e6 at h
 split at h
 ·rename_i s
  (obtain rfl := start_vals hr hl (xs := [.string s]) rfl); (have ha := start_adr hr (start_flatv (xs := [.string s]) rfl)); (obtain ⟨r1, r2, r3, r4, r5, r6, r7, r8⟩ := (r : Int × ByteArray × Int × Int × Int × Int × ByteArray × Bool))
  refine (impl_ReqRead.calls k s r1 r2 r3 r4 r5 r6 r7 r8 E.w0 h (tab_of hW hT)).mono ?_
  rintro e w' ⟨rfl, hb⟩
  exact ⟨[.int .i64 r1, .string r2, .int .i64 r3, .int .i64 r4, .int .i64 r5, .int .i64 r6, .string r7, .bool r8], postV_flat (s := sigD 6) ha hb rfl (by simp [Value.oneCell']) rfl⟩
 ·cases h
theorem e11_ok (hW : TabG W) (k : Nat) (q : List (SV DD)) (r : RT DD (sigD 11).all) (h : e11 k q = some r) : Meets Tryd.prog LD (TabD W) (sigD 11) 11 q r ∧ Callable Tryd.prog 11 := by
 refine ⟨fun E V vals hT hnt hl hr => ?_, callB_ok (by kernel_rfl)⟩
 unfold e11 at h
 split at h
 ·rename_i a b c d
  (obtain rfl := start_vals hr hl (xs := [.agg #[.int .i64 a, .int .i64 b, .int .i64 c, .int .i64 d]]) rfl); (have ha := start_adr hr (start_flatv (xs := [.agg #[.int .i64 a, .int .i64 b, .int .i64 c, .int .i64 d]]) rfl))
  refine (impl_ConfText.calls k a b c d r E.w0 h (tab_of hW hT)).mono ?_
  rintro e w' ⟨rfl, hb⟩
  exact ⟨[.string r], postV_flat (s := sigD 11) ha hb rfl (by simp [Value.oneCell']) rfl⟩
 ·cases h
theorem e12_ok (hW : TabG W) (k : Nat) (q : List (SV DD)) (r : RT DD (sigD 12).all) (h : e12 k q = some r) : Meets Tryd.prog LD (TabD W) (sigD 12) 12 q r ∧ Callable Tryd.prog 12 := by
 refine ⟨fun E V vals hT hnt hl hr => ?_, callB_ok (by kernel_rfl)⟩
 unfold e12 at h
 split at h
 ·rename_i a w b c d e t
  (obtain rfl := start_vals hr hl (xs := [.agg #[.int .i64 a, .string w, .int .i64 b, .int .i64 c, .int .i64 d, .int .i64 e, .string t]]) rfl); (have ha := start_adr hr (start_flatv (xs := [.agg #[.int .i64 a, .string w, .int .i64 b, .int .i64 c, .int .i64 d, .int .i64 e, .string t]]) rfl))
  refine (impl_ReqText.calls k a w b c d e t r E.w0 h (tab_of hW hT)).mono ?_
  rintro e w' ⟨rfl, hb⟩
  exact ⟨[.string r], postV_flat (s := sigD 12) ha hb rfl (by simp [Value.oneCell']) rfl⟩
 ·cases h
theorem e13_ok (k : Nat) (q : List (SV DD)) (r : RT DD (sigD 13).all) (h : e13 k q = some r) : Meets Tryd.prog LD (TabD W) (sigD 13) 13 q r ∧ Callable Tryd.prog 13 := by
 refine ⟨fun E V vals hT hnt hl hr => ?_, callB_ok (by kernel_rfl)⟩
 unfold e13 at h
 split at h
 ·rename_i a b c d
  (obtain rfl := start_vals hr hl (xs := [.agg #[.int .i64 a, .int .i64 b, .int .i64 c, .int .i64 d]]) rfl); (have ha := start_adr hr (start_flatv (xs := [.agg #[.int .i64 a, .int .i64 b, .int .i64 c, .int .i64 d]]) rfl))
  refine (spec_ConfText.calls k a b c d r E.w0 h).mono ?_
  rintro e w' ⟨rfl, hb⟩
  exact ⟨[.string r], postV_flat (s := sigD 13) ha hb rfl (by simp [Value.oneCell']) rfl⟩
 ·cases h
theorem e14_ok (k : Nat) (q : List (SV DD)) (r : RT DD (sigD 14).all) (h : e14 k q = some r) : Meets Tryd.prog LD (TabD W) (sigD 14) 14 q r ∧ Callable Tryd.prog 14 := by
 refine ⟨fun E V vals hT hnt hl hr => ?_, callB_ok (by kernel_rfl)⟩
 unfold e14 at h
 split at h
 ·rename_i a w b c d e t
  (obtain rfl := start_vals hr hl (xs := [.agg #[.int .i64 a, .string w, .int .i64 b, .int .i64 c, .int .i64 d, .int .i64 e, .string t]]) rfl); (have ha := start_adr hr (start_flatv (xs := [.agg #[.int .i64 a, .string w, .int .i64 b, .int .i64 c, .int .i64 d, .int .i64 e, .string t]]) rfl))
  refine (spec_ReqText.calls k a w b c d e t r E.w0 h).mono ?_
  rintro e w' ⟨rfl, hb⟩
  exact ⟨[.string r], postV_flat (s := sigD 14) ha hb rfl (by simp [Value.oneCell']) rfl⟩
 ·cases h
theorem e15_ok (hW : TabG W) (k : Nat) (q : List (SV DD)) (r : RT DD (sigD 15).all) (h : e15 k q = some r) : Meets Tryd.prog LD (TabD W) (sigD 15) 15 q r ∧ Callable Tryd.prog 15 := by
 refine ⟨fun E V vals hT hnt hl hr => ?_, callB_ok (by kernel_rfl)⟩
 unfold e15 at h
 split at h
 ·rename_i s
  (obtain rfl := start_vals hr hl (xs := [.string s]) rfl); (have ha := start_adr hr (start_flatv (xs := [.string s]) rfl)); (obtain ⟨r1, r2, r3, r4, r5⟩ := (r : Int × Int × Int × Int × Bool))
  refine (impl_ConfRead.calls k s r1 r2 r3 r4 r5 E.w0 h (tab_of hW hT)).mono ?_
  rintro e w' ⟨rfl, hb⟩
  exact ⟨[.int .i64 r1, .int .i64 r2, .int .i64 r3, .int .i64 r4, .bool r5], postV_flat (s := sigD 15) ha hb rfl (by simp [Value.oneCell']) rfl⟩
 ·cases h
theorem ext_ok (hW : TabG W) : ∀ (f : FuncId) (h : Nat → List (SV DD) → Option (RT DD (sigD f).all)), extD f = some h → ∀ k q r, h k q = some r → Meets Tryd.prog LD (TabD W) (sigD f) f q r ∧ Callable Tryd.prog f := by
 intro f h hx k q r hr
 unfold extD at hx
 split at hx
 ·injection hx with hx; subst hx; exact e6_ok hW k q r hr
 ·injection hx with hx; subst hx; exact e11_ok hW k q r hr
 ·injection hx with hx; subst hx; exact e12_ok hW k q r hr
 ·injection hx with hx; subst hx; exact e13_ok k q r hr
 ·injection hx with hx; subst hx; exact e14_ok k q r hr
 ·injection hx with hx; subst hx; exact e15_ok hW k q r hr
 ·cases hx
end
end Go.Proofs.YtgnbfmoifnfneaaDoor.V
namespace Go.Proofs.YtgnbfmoifnfneaaDoor.V
open Go
noncomputable abbrev CD : Ctx := { P := Tryd.prog, L := LD, sig := sigD, live := liveD, ext := extD }
end Go.Proofs.YtgnbfmoifnfneaaDoor.V
