-- MADE BY xprint.py of this repository, out of the seat's translation, by the kit's print and this repository's hands
import Derived.Test.YtnojbokkmjhknaaDoorPChunkBackx0
import Derived.Test.YtnojbokkmjhknaaDoorPChunkBackx1
import Derived.Test.YtnojbokkmjhknaaDoorPChunkBackx4
import Derived.Test.YtnojbokkmjhknaaDoorPChunkBackx5
namespace Go.Proofs.YtnojbokkmjhknaaDoor.PChunkBack
open Go.RowKit Go.Proofs.YtnojbokkmjhknaaDoorW.PrintWords Go.Proofs.YtnojbokkmjhknaaDoorW.PrintLast Go.Proofs.YtnojbokkmjhknaaDoorW.PrintMore
attribute [local go_sem] max2_int min2_int max_two min_two max_three min_three max_four min_four   -- for this text's walks alone
set_option linter.unusedVariables false
set_option linter.unusedSimpArgs false

/-! ### newsreellaw30_ChunkBack: function 5 -/
open Sq Hand
mutual
def newsreellaw30_ChunkBack.j0 : Nat → List Int → ByteArray → ByteArray → Bool → Int → Int → Option (Bool)
  | 0, _, _, _, _, _, _ => none
  | k + 1, x0, x7, x8, x39, x162000, x162001 => if x39 = true then ((newsreellaw30_awake.f k).bind fun t163 => (some t163)) else ((chunk_Put.f k x0 x162000).bind fun t164 => (if (strOfNums t164).size + x8.size ≤ 9223372036854775807 then ((chunk_Get.f k ((strOfNums t164) ++ x8)).bind fun bt167 => (if (t164.length : Int) = 0 then (newsreellaw30_ChunkBack.j1 k x0 x7 x8 t164 true x162000 x162001) else (if bt167.2.2 = 0 then (if bt167.2.1 = (t164.length : Int) then ((newsreelref01_Bytes.f bt167.1 x0).bind fun t172 => (newsreellaw30_ChunkBack.j1 k x0 x7 x8 t164 (!t172) x162000 x162001)) else (newsreellaw30_ChunkBack.j1 k x0 x7 x8 t164 true x162000 x162001)) else (newsreellaw30_ChunkBack.j1 k x0 x7 x8 t164 true x162000 x162001)))) else (none)))
def newsreellaw30_ChunkBack.j1 : Nat → List Int → ByteArray → ByteArray → List Int → Bool → Int → Int → Option (Bool)
  | 0, _, _, _, _, _, _, _ => none
  | k + 1, x0, x7, x8, x9, x72, x162000, x162001 => if x72 = true then (none) else (if (x9.length : Int) = 0 then (none) else (if (Int.tmod x162001 (x9.length : Int)) < 0 then (newsreellaw30_ChunkBack.j2 k x0 x7 x8 x9 (wrap64 (-(Int.tmod x162001 (x9.length : Int))))) else (newsreellaw30_ChunkBack.j2 k x0 x7 x8 x9 (Int.tmod x162001 (x9.length : Int)))))
def newsreellaw30_ChunkBack.j2 : Nat → List Int → ByteArray → ByteArray → List Int → Int → Option (Bool)
  | 0, _, _, _, _, _ => none
  | k + 1, x0, x7, x8, x9, x13 => if 0 ≤ x13 then (if x13 ≤ (x9.length : Int) then ((chunk_Get.f k (strOfNums (x9.take (x13 : Int).toNat))).bind fun bt177 => (if bt177.2.2 = 11 then (if bt177.2.1 = 0 then (if (bt177.1.length : Int) > (x0.length : Int) then (newsreellaw30_ChunkBack.j3 k x7 x8 true) else (if 0 ≤ (bt177.1.length : Int) then (if (bt177.1.length : Int) ≤ (x0.length : Int) then ((newsreelref01_Bytes.f bt177.1 (x0.take ((bt177.1.length : Int) : Int).toNat)).bind fun t183 => (newsreellaw30_ChunkBack.j3 k x7 x8 (!t183))) else (none)) else (none))) else (newsreellaw30_ChunkBack.j3 k x7 x8 true)) else (newsreellaw30_ChunkBack.j3 k x7 x8 true))) else (none)) else (none)
def newsreellaw30_ChunkBack.j3 : Nat → ByteArray → ByteArray → Bool → Option (Bool)
  | 0, _, _, _ => none
  | k + 1, x7, x8, x112 => if x112 = true then (none) else ((chunk_Get.f k x7).bind fun bt184 => (if x7.size + x8.size ≤ 9223372036854775807 then ((chunk_Get.f k (x7 ++ x8)).bind fun bt189 => (if bt184.2.2 = 11 then ((newsreellaw30_awake.f k).bind fun t194 => (some t194)) else ((newsreelref01_Bytes.f bt184.1 bt189.1).bind fun t195 => (if t195 = true then (if bt184.2.1 = bt189.2.1 then (if bt184.2.2 = bt189.2.2 then ((newsreellaw30_awake.f k).bind fun t196 => (some t196)) else (none)) else (none)) else (none))))) else (none)))
end
def newsreellaw30_ChunkBack.f (k : Nat) (l0 : List Int) (a1_0 : Int) (a1_1 : Int) (a2_0 : ByteArray) (a2_1 : ByteArray) : Option (Bool) := if (l0.length : Int) > 400 then (newsreellaw30_ChunkBack.j0 k l0 a2_0 a2_1 true a1_0 a1_1) else (if (a2_0.size : Int) > 600 then (newsreellaw30_ChunkBack.j0 k l0 a2_0 a2_1 true a1_0 a1_1) else (newsreellaw30_ChunkBack.j0 k l0 a2_0 a2_1 (decide ((a2_1.size : Int) > 300)) a1_0 a1_1))
theorem newsreellaw30_ChunkBack.mono_l : ∀ k, (∀ y0 y1 y2 y3 y4 y5, LeO (newsreellaw30_ChunkBack.j0 k y0 y1 y2 y3 y4 y5) (newsreellaw30_ChunkBack.j0 (k + 1) y0 y1 y2 y3 y4 y5)) ∧ (∀ y0 y1 y2 y3 y4 y5 y6, LeO (newsreellaw30_ChunkBack.j1 k y0 y1 y2 y3 y4 y5 y6) (newsreellaw30_ChunkBack.j1 (k + 1) y0 y1 y2 y3 y4 y5 y6)) ∧ (∀ y0 y1 y2 y3 y4, LeO (newsreellaw30_ChunkBack.j2 k y0 y1 y2 y3 y4) (newsreellaw30_ChunkBack.j2 (k + 1) y0 y1 y2 y3 y4)) ∧ (∀ y0 y1 y2, LeO (newsreellaw30_ChunkBack.j3 k y0 y1 y2) (newsreellaw30_ChunkBack.j3 (k + 1) y0 y1 y2))
  | 0 => ⟨fun _ _ _ _ _ _ r h => by simp [newsreellaw30_ChunkBack.j0] at h, fun _ _ _ _ _ _ _ r h => by simp [newsreellaw30_ChunkBack.j1] at h, fun _ _ _ _ _ r h => by simp [newsreellaw30_ChunkBack.j2] at h, fun _ _ _ r h => by simp [newsreellaw30_ChunkBack.j3] at h⟩
  | k + 1 => by
   obtain ⟨ih0, ih1, ih2, ih3⟩ := newsreellaw30_ChunkBack.mono_l k
   refine ⟨?_, ?_, ?_, ?_⟩
   ·intro y0 y1 y2 y3 y4 y5
    unfold newsreellaw30_ChunkBack.j0
    repeat' first
    | (with_reducible exact ih0 _ _ _ _ _ _)
    | (with_reducible exact ih1 _ _ _ _ _ _ _)
    | (with_reducible exact ih2 _ _ _ _ _)
    | (with_reducible exact ih3 _ _ _)
    | (with_reducible exact chunk_Get.mono _ _)
    | (with_reducible exact chunk_Put.mono _ _ _)
    | (with_reducible exact newsreellaw30_awake.mono _)
    | (with_reducible exact LeO.refl _)
    | (with_reducible exact LeO.none _)
    | (with_reducible refine LeO.ite ?_ ?_)
    | (with_reducible refine LeO.bind ?_ (fun _ => ?_))
    | exact ih0 _ _ _ _ _ _
    | exact ih1 _ _ _ _ _ _ _
    | exact ih2 _ _ _ _ _
    | exact ih3 _ _ _
    | exact chunk_Get.mono _ _
    | exact chunk_Put.mono _ _ _
    | exact newsreellaw30_awake.mono _
    | exact LeO.none _
    | refine LeO.ite ?_ ?_
    | refine LeO.bind ?_ (fun _ => ?_)
   ·intro y0 y1 y2 y3 y4 y5 y6
    unfold newsreellaw30_ChunkBack.j1
    repeat' first
    | (with_reducible exact ih0 _ _ _ _ _ _)
    | (with_reducible exact ih1 _ _ _ _ _ _ _)
    | (with_reducible exact ih2 _ _ _ _ _)
    | (with_reducible exact ih3 _ _ _)
    | (with_reducible exact chunk_Get.mono _ _)
    | (with_reducible exact chunk_Put.mono _ _ _)
    | (with_reducible exact newsreellaw30_awake.mono _)
    | (with_reducible exact LeO.refl _)
    | (with_reducible exact LeO.none _)
    | (with_reducible refine LeO.ite ?_ ?_)
    | (with_reducible refine LeO.bind ?_ (fun _ => ?_))
    | exact ih0 _ _ _ _ _ _
    | exact ih1 _ _ _ _ _ _ _
    | exact ih2 _ _ _ _ _
    | exact ih3 _ _ _
    | exact chunk_Get.mono _ _
    | exact chunk_Put.mono _ _ _
    | exact newsreellaw30_awake.mono _
    | exact LeO.none _
    | refine LeO.ite ?_ ?_
    | refine LeO.bind ?_ (fun _ => ?_)
   ·intro y0 y1 y2 y3 y4
    unfold newsreellaw30_ChunkBack.j2
    repeat' first
    | (with_reducible exact ih0 _ _ _ _ _ _)
    | (with_reducible exact ih1 _ _ _ _ _ _ _)
    | (with_reducible exact ih2 _ _ _ _ _)
    | (with_reducible exact ih3 _ _ _)
    | (with_reducible exact chunk_Get.mono _ _)
    | (with_reducible exact chunk_Put.mono _ _ _)
    | (with_reducible exact newsreellaw30_awake.mono _)
    | (with_reducible exact LeO.refl _)
    | (with_reducible exact LeO.none _)
    | (with_reducible refine LeO.ite ?_ ?_)
    | (with_reducible refine LeO.bind ?_ (fun _ => ?_))
    | exact ih0 _ _ _ _ _ _
    | exact ih1 _ _ _ _ _ _ _
    | exact ih2 _ _ _ _ _
    | exact ih3 _ _ _
    | exact chunk_Get.mono _ _
    | exact chunk_Put.mono _ _ _
    | exact newsreellaw30_awake.mono _
    | exact LeO.none _
    | refine LeO.ite ?_ ?_
    | refine LeO.bind ?_ (fun _ => ?_)
   ·intro y0 y1 y2
    unfold newsreellaw30_ChunkBack.j3
    repeat' first
    | (with_reducible exact ih0 _ _ _ _ _ _)
    | (with_reducible exact ih1 _ _ _ _ _ _ _)
    | (with_reducible exact ih2 _ _ _ _ _)
    | (with_reducible exact ih3 _ _ _)
    | (with_reducible exact chunk_Get.mono _ _)
    | (with_reducible exact chunk_Put.mono _ _ _)
    | (with_reducible exact newsreellaw30_awake.mono _)
    | (with_reducible exact LeO.refl _)
    | (with_reducible exact LeO.none _)
    | (with_reducible refine LeO.ite ?_ ?_)
    | (with_reducible refine LeO.bind ?_ (fun _ => ?_))
    | exact ih0 _ _ _ _ _ _
    | exact ih1 _ _ _ _ _ _ _
    | exact ih2 _ _ _ _ _
    | exact ih3 _ _ _
    | exact chunk_Get.mono _ _
    | exact chunk_Put.mono _ _ _
    | exact newsreellaw30_awake.mono _
    | exact LeO.none _
    | refine LeO.ite ?_ ?_
    | refine LeO.bind ?_ (fun _ => ?_)
theorem newsreellaw30_ChunkBack.mono : ∀ a0 a1 a2 a3 a4 k, LeO (newsreellaw30_ChunkBack.f k a0 a1 a2 a3 a4) (newsreellaw30_ChunkBack.f (k + 1) a0 a1 a2 a3 a4) := by
  intro a0 a1 a2 a3 a4 k
  obtain ⟨ih0, ih1, ih2, ih3⟩ := newsreellaw30_ChunkBack.mono_l k
  unfold newsreellaw30_ChunkBack.f
  repeat' first
    | (with_reducible exact ih0 _ _ _ _ _ _)
    | (with_reducible exact ih1 _ _ _ _ _ _ _)
    | (with_reducible exact ih2 _ _ _ _ _)
    | (with_reducible exact ih3 _ _ _)
    | (with_reducible exact chunk_Get.mono _ _)
    | (with_reducible exact chunk_Put.mono _ _ _)
    | (with_reducible exact newsreellaw30_awake.mono _)
    | (with_reducible exact LeO.refl _)
    | (with_reducible exact LeO.none _)
    | (with_reducible refine LeO.ite ?_ ?_)
    | (with_reducible refine LeO.bind ?_ (fun _ => ?_))
    | exact ih0 _ _ _ _ _ _
    | exact ih1 _ _ _ _ _ _ _
    | exact ih2 _ _ _ _ _
    | exact ih3 _ _ _
    | exact chunk_Get.mono _ _
    | exact chunk_Put.mono _ _ _
    | exact newsreellaw30_awake.mono _
    | exact LeO.none _
    | refine LeO.ite ?_ ?_
    | refine LeO.bind ?_ (fun _ => ?_)
set_option maxHeartbeats 8000000 in
set_option maxRecDepth 100000 in
theorem newsreellaw30_ChunkBack.calls (k : Nat) (A0 : Option Addr) (c0 : Nat) (l0 : List Int) (a1_0 : Int) (a1_1 : Int) (a2_0 : ByteArray) (a2_1 : ByteArray) (r : Bool) (w : World) (hr0 : Kd.C (Kd.int .u8) w A0 l0.length l0) (hc0 : l0.length ≤ c0) (hmx : MX w) (h : newsreellaw30_ChunkBack.f k l0 a1_0 a1_1 a2_0 a2_1 = some r) :
   Calls Tryd.prog 5 #[.slice A0 l0.length c0, .agg #[.int .i64 a1_0, .int .i64 a1_1], .agg #[.string a2_0, .string a2_1]] w fun e w' => e = .returned (.bool r) ∧ Below w.heap.size w w' := by
  have HMX := Aside0.mk hmx
  clear hmx
  have hu31 := Tryd.underlying31
  have hu32 := Tryd.underlying32
  have HR0 := Aside0.mk hr0
  have HC0 := Aside0.mk hc0
  clear hr0 hc0
  have HB := Aside0.mk (Below.refl w.heap.size w)
  have H : (if (l0.length : Int) > 400 then (newsreellaw30_ChunkBack.j0 k l0 a2_0 a2_1 true a1_0 a1_1) else (if (a2_0.size : Int) > 600 then (newsreellaw30_ChunkBack.j0 k l0 a2_0 a2_1 true a1_0 a1_1) else (newsreellaw30_ChunkBack.j0 k l0 a2_0 a2_1 (decide ((a2_1.size : Int) > 300)) a1_0 a1_1))) = some r := h
  clear h
  have HC4 := Aside0.mk H
  clear H
  go_enter Tryd.func5, Tryd.ntmps5
  go_upto_region 2 with (first | ((with_reducible refine gate_dst (N := 4) rfl ?_); (try (refine gate_guard (by rfl) ?_; dsimp only)); refine box_event ?hg (N := 4) ?hd (cs := #[.int .i64 a1_0, .int .i64 a1_1]) (t := 31) ?hr ?_; (case hd => rfl); (case hg => rfl); (case hr => first | (go_simp; done) | (go_simp; rfl)); intro gb161 hg w5 hbox hb; have n0_ := Aside0.mk (below_step (bl_ HB) hb); have n1_ := Aside0.mk (hbox); have n2_ := Aside0.mk ((by rw [hg]; exact (below_size (bl_ HB)) : w.heap.size ≤ gb161)); have n3_ := Aside0.mk ((by rw [hg]; exact (below_size (bl_ HB)) : w.heap.size ≤ gb161)); clear HB; have HB := n0_; have BK161 := n1_; have GW161 := n2_; have GE161 := n3_; clear n0_ n1_ n2_ n3_; clear hb hbox hg) | ((with_reducible refine gate_dst (N := 5) rfl ?_); (try (refine gate_guard (by rfl) ?_; dsimp only)); refine box_event ?hg (N := 5) ?hd (cs := #[.string a2_0, .string a2_1]) (t := 32) ?hr ?_; (case hd => rfl); (case hg => rfl); (case hr => first | (go_simp; done) | (go_simp; rfl)); intro gb162 hg w6 hbox hb; have n0_ := Aside0.mk (blk_below (g := gb161) (o := .cells #[.int .i64 a1_0, .int .i64 a1_1] 31 (0, 0)) (sm_ BK161) hb); have n1_ := Aside0.mk (below_step (by repeat (first | (with_reducible first | exact HB.out | apply below_alloc | apply pw_below_drewN | apply below_drew1 | refine below_set ?_ GE161.out) | exact HB.out)) hb); have n2_ := Aside0.mk (hbox); have n3_ := Aside0.mk ((by rw [hg]; exact (below_size (by repeat (first | (with_reducible first | exact HB.out | apply below_alloc | apply pw_below_drewN | apply below_drew1 | refine below_set ?_ GE161.out) | exact HB.out))) : w.heap.size ≤ gb162)); have n4_ := Aside0.mk ((by rw [hg]; exact (below_size (by repeat (first | (with_reducible first | exact HB.out | apply below_alloc | apply pw_below_drewN | apply below_drew1 | refine below_set ?_ GE161.out) | exact HB.out))) : w.heap.size ≤ gb162)); have n5_ := Aside0.mk ((by rw [hg]; exact Nat.ne_of_lt (blk_lt (g := gb161) (o := .cells #[.int .i64 a1_0, .int .i64 a1_1] 31 (0, 0)) (sm_ BK161)) : gb161 ≠ gb162)); have n6_ := Aside0.mk ((by rw [hg]; exact Nat.ne_of_gt (blk_lt (g := gb161) (o := .cells #[.int .i64 a1_0, .int .i64 a1_1] 31 (0, 0)) (sm_ BK161)) : gb162 ≠ gb161)); clear BK161; clear HB; have BK161 := n0_; have HB := n1_; have BK162 := n2_; have GW162 := n3_; have GE162 := n4_; have NB161_162 := n5_; have NB162_161 := n6_; clear n0_ n1_ n2_ n3_ n4_ n5_ n6_; clear hb hbox hg; have hnb7 := NB162_161.out; have hnc7 := NB161_162.out; obtain ⟨hcz8_0, hcz8_1⟩ := c2_ BK162.out; obtain ⟨hfz8_0, hfz8_1⟩ := f2_ BK162.out))
  repeat (go_quiet (first | ((with_reducible refine gate_dst (N := 4) rfl ?_); (try (refine gate_guard (by rfl) ?_; dsimp only)); refine box_event ?hg (N := 4) ?hd (cs := #[.int .i64 a1_0, .int .i64 a1_1]) (t := 31) ?hr ?_; (case hd => rfl); (case hg => rfl); (case hr => first | (go_simp; done) | (go_simp; rfl)); intro gb161 hg w5 hbox hb; have n0_ := Aside0.mk (below_step (bl_ HB) hb); have n1_ := Aside0.mk (hbox); have n2_ := Aside0.mk ((by rw [hg]; exact (below_size (bl_ HB)) : w.heap.size ≤ gb161)); have n3_ := Aside0.mk ((by rw [hg]; exact (below_size (bl_ HB)) : w.heap.size ≤ gb161)); clear HB; have HB := n0_; have BK161 := n1_; have GW161 := n2_; have GE161 := n3_; clear n0_ n1_ n2_ n3_; clear hb hbox hg) | ((with_reducible refine gate_dst (N := 5) rfl ?_); (try (refine gate_guard (by rfl) ?_; dsimp only)); refine box_event ?hg (N := 5) ?hd (cs := #[.string a2_0, .string a2_1]) (t := 32) ?hr ?_; (case hd => rfl); (case hg => rfl); (case hr => first | (go_simp; done) | (go_simp; rfl)); intro gb162 hg w6 hbox hb; have n0_ := Aside0.mk (blk_below (g := gb161) (o := .cells #[.int .i64 a1_0, .int .i64 a1_1] 31 (0, 0)) (sm_ BK161) hb); have n1_ := Aside0.mk (below_step (by repeat (first | (with_reducible first | exact HB.out | apply below_alloc | apply pw_below_drewN | apply below_drew1 | refine below_set ?_ GE161.out) | exact HB.out)) hb); have n2_ := Aside0.mk (hbox); have n3_ := Aside0.mk ((by rw [hg]; exact (below_size (by repeat (first | (with_reducible first | exact HB.out | apply below_alloc | apply pw_below_drewN | apply below_drew1 | refine below_set ?_ GE161.out) | exact HB.out))) : w.heap.size ≤ gb162)); have n4_ := Aside0.mk ((by rw [hg]; exact (below_size (by repeat (first | (with_reducible first | exact HB.out | apply below_alloc | apply pw_below_drewN | apply below_drew1 | refine below_set ?_ GE161.out) | exact HB.out))) : w.heap.size ≤ gb162)); have n5_ := Aside0.mk ((by rw [hg]; exact Nat.ne_of_lt (blk_lt (g := gb161) (o := .cells #[.int .i64 a1_0, .int .i64 a1_1] 31 (0, 0)) (sm_ BK161)) : gb161 ≠ gb162)); have n6_ := Aside0.mk ((by rw [hg]; exact Nat.ne_of_gt (blk_lt (g := gb161) (o := .cells #[.int .i64 a1_0, .int .i64 a1_1] 31 (0, 0)) (sm_ BK161)) : gb162 ≠ gb161)); clear BK161; clear HB; have BK161 := n0_; have HB := n1_; have BK162 := n2_; have GW162 := n3_; have GE162 := n4_; have NB161_162 := n5_; have NB162_161 := n6_; clear n0_ n1_ n2_ n3_ n4_ n5_ n6_; clear hb hbox hg; have hnb7 := NB162_161.out; have hnc7 := NB161_162.out; obtain ⟨hcz8_0, hcz8_1⟩ := c2_ BK162.out; obtain ⟨hfz8_0, hfz8_1⟩ := f2_ BK162.out)); go_upto_region 2 with (first | ((with_reducible refine gate_dst (N := 4) rfl ?_); (try (refine gate_guard (by rfl) ?_; dsimp only)); refine box_event ?hg (N := 4) ?hd (cs := #[.int .i64 a1_0, .int .i64 a1_1]) (t := 31) ?hr ?_; (case hd => rfl); (case hg => rfl); (case hr => first | (go_simp; done) | (go_simp; rfl)); intro gb161 hg w5 hbox hb; have n0_ := Aside0.mk (below_step (bl_ HB) hb); have n1_ := Aside0.mk (hbox); have n2_ := Aside0.mk ((by rw [hg]; exact (below_size (bl_ HB)) : w.heap.size ≤ gb161)); have n3_ := Aside0.mk ((by rw [hg]; exact (below_size (bl_ HB)) : w.heap.size ≤ gb161)); clear HB; have HB := n0_; have BK161 := n1_; have GW161 := n2_; have GE161 := n3_; clear n0_ n1_ n2_ n3_; clear hb hbox hg) | ((with_reducible refine gate_dst (N := 5) rfl ?_); (try (refine gate_guard (by rfl) ?_; dsimp only)); refine box_event ?hg (N := 5) ?hd (cs := #[.string a2_0, .string a2_1]) (t := 32) ?hr ?_; (case hd => rfl); (case hg => rfl); (case hr => first | (go_simp; done) | (go_simp; rfl)); intro gb162 hg w6 hbox hb; have n0_ := Aside0.mk (blk_below (g := gb161) (o := .cells #[.int .i64 a1_0, .int .i64 a1_1] 31 (0, 0)) (sm_ BK161) hb); have n1_ := Aside0.mk (below_step (by repeat (first | (with_reducible first | exact HB.out | apply below_alloc | apply pw_below_drewN | apply below_drew1 | refine below_set ?_ GE161.out) | exact HB.out)) hb); have n2_ := Aside0.mk (hbox); have n3_ := Aside0.mk ((by rw [hg]; exact (below_size (by repeat (first | (with_reducible first | exact HB.out | apply below_alloc | apply pw_below_drewN | apply below_drew1 | refine below_set ?_ GE161.out) | exact HB.out))) : w.heap.size ≤ gb162)); have n4_ := Aside0.mk ((by rw [hg]; exact (below_size (by repeat (first | (with_reducible first | exact HB.out | apply below_alloc | apply pw_below_drewN | apply below_drew1 | refine below_set ?_ GE161.out) | exact HB.out))) : w.heap.size ≤ gb162)); have n5_ := Aside0.mk ((by rw [hg]; exact Nat.ne_of_lt (blk_lt (g := gb161) (o := .cells #[.int .i64 a1_0, .int .i64 a1_1] 31 (0, 0)) (sm_ BK161)) : gb161 ≠ gb162)); have n6_ := Aside0.mk ((by rw [hg]; exact Nat.ne_of_gt (blk_lt (g := gb161) (o := .cells #[.int .i64 a1_0, .int .i64 a1_1] 31 (0, 0)) (sm_ BK161)) : gb162 ≠ gb161)); clear BK161; clear HB; have BK161 := n0_; have HB := n1_; have BK162 := n2_; have GW162 := n3_; have GE162 := n4_; have NB161_162 := n5_; have NB162_161 := n6_; clear n0_ n1_ n2_ n3_ n4_ n5_ n6_; clear hb hbox hg; have hnb7 := NB162_161.out; have hnc7 := NB161_162.out; obtain ⟨hcz8_0, hcz8_1⟩ := c2_ BK162.out; obtain ⟨hfz8_0, hfz8_1⟩ := f2_ BK162.out)))
  (try simp only [Act.put, List.setIfInBounds_toArray, List.set_cons_zero, List.set_cons_succ])
  go_cut [39] (fun v39 wc => ∃ (kq : Nat) (x39_3 : Bool), v39 = .bool x39_3 ∧ Aside0 (newsreellaw30_ChunkBack.j0 kq l0 a2_0 a2_1 x39_3 a1_0 a1_1 = some r) ∧ Aside0 (kq ≤ k) ∧ Aside0 (wc.heap[gb161]? = some (.cells #[.int .i64 a1_0, .int .i64 a1_1] 31 (0, 0))) ∧ Aside0 (wc.heap[gb162]? = some (.cells #[.string a2_0, .string a2_1] 32 (0, 0))) ∧ Aside0 (Below w.heap.size w wc))
  case first =>
   have H := HC4.out
   clear HC4
   by_cases c9 : (l0.length : Int) > 400
   ·as_aux_lemma =>
    rw [if_pos c9] at H
    have c9b0 : decide (400 < (l0.length : Int)) = true := decide_eq_true c9
    have c9b1 : decide (400 < l0.length) = true := decide_eq_true (by omega)
    clear c9
    (first | rw [c9b0] | (simp only [i64_w, i32_w]; rw [c9b0]) | skip)
    have H' := Aside0.mk H
    clear H
    go_wp2
    repeat (go_quiet (fail); try go_wp2)
    go_meet
    case rel => exact ⟨_, (true), (by first | rfl | (simp; done) | (simp [*]; done)), H', ⟨by first | omega | exact Nat.le_refl _⟩, ⟨by (with_reducible repeat first | apply blk_drewN | apply blk_drew | apply blk_alloc); exact BK161.out⟩, ⟨by (with_reducible repeat first | apply blk_drewN | apply blk_drew | apply blk_alloc); exact BK162.out⟩, ⟨by repeat (with_reducible first | exact HB.out | apply below_alloc | apply pw_below_drewN | apply below_drew1 | refine below_set ?_ (Aside0.out (by assumption)))⟩⟩
   ·as_aux_lemma =>
    rw [if_neg c9] at H
    have c9b0 : decide (400 < (l0.length : Int)) = false := decide_eq_false c9
    have c9b1 : decide (400 < l0.length) = false := decide_eq_false (by omega)
    clear c9
    (first | rw [c9b0] | (simp only [i64_w, i32_w]; rw [c9b0]) | skip)
    by_cases c10 : (a2_0.size : Int) > 600
    ·as_aux_lemma =>
     rw [if_pos c10] at H
     have c10b0 : decide (600 < (a2_0.size : Int)) = true := decide_eq_true c10
     have c10b1 : decide (600 < a2_0.size) = true := decide_eq_true (by omega)
     clear c10
     have H' := Aside0.mk H
     clear H
     go_wp2
     repeat (go_quiet (fail); try go_wp2)
     go_meet
     case rel => exact ⟨_, (true), (by first | rfl | (simp; done) | (simp [*]; done)), H', ⟨by first | omega | exact Nat.le_refl _⟩, ⟨by (with_reducible repeat first | apply blk_drewN | apply blk_drew | apply blk_alloc); exact BK161.out⟩, ⟨by (with_reducible repeat first | apply blk_drewN | apply blk_drew | apply blk_alloc); exact BK162.out⟩, ⟨by repeat (with_reducible first | exact HB.out | apply below_alloc | apply pw_below_drewN | apply below_drew1 | refine below_set ?_ (Aside0.out (by assumption)))⟩⟩
    ·as_aux_lemma =>
     rw [if_neg c10] at H
     have c10b0 : decide (600 < (a2_0.size : Int)) = false := decide_eq_false c10
     have c10b1 : decide (600 < a2_0.size) = false := decide_eq_false (by omega)
     clear c10
     have H' := Aside0.mk H
     clear H
     go_wp2
     repeat (go_quiet (fail); try go_wp2)
     go_meet
     case rel => exact ⟨_, (decide ((a2_1.size : Int) > 300)), (by first | rfl | (simp; done) | (simp [*]; done)), H', ⟨by first | omega | exact Nat.le_refl _⟩, ⟨by (with_reducible repeat first | apply blk_drewN | apply blk_drew | apply blk_alloc); exact BK161.out⟩, ⟨by (with_reducible repeat first | apply blk_drewN | apply blk_drew | apply blk_alloc); exact BK162.out⟩, ⟨by repeat (with_reducible first | exact HB.out | apply below_alloc | apply pw_below_drewN | apply below_drew1 | refine below_set ?_ (Aside0.out (by assumption)))⟩⟩
  case rest =>
   clear HC4
   (try clear c1); (try clear p2); (try clear c5); (try clear c7); (try clear c9); (try clear c9b0); (try clear c9b1); (try clear c10); (try clear c10b0); (try clear c10b1); (try clear hcz8_0); (try clear hcz8_1); (try clear hfz8_0); (try clear hfz8_1)
   obtain ⟨kq, x39_3, rfl, HA, HJ3, BK161, BK162, HB⟩ := hcut
   cases kq with
   | zero => exact absurd HA.out (by simp [newsreellaw30_ChunkBack.j0])
   | succ kj3 =>
    have H := HA.out
    clear HA
    simp only [newsreellaw30_ChunkBack.j0] at H
    by_cases c11 : x39_3 = true
    ·as_aux_lemma =>
     subst c11
     have H1 : ((newsreellaw30_awake.f kj3).bind fun t163 => (some t163)) = some r := by rw [if_pos rfl] at H; exact H
     clear H
     have H := H1
     clear H1
     replace H := Option.bind_eq_some_iff.mp H
     obtain ⟨t163, A120, H⟩ := H
     replace H : (some t163) = some r := H
     have A12 := Aside0.mk A120
     clear A120
     obtain rfl := Option.some.inj H
     go_wp2_with (first | (go_at_call 6; (with_reducible refine (newsreellaw30_awake.calls kj3  t163 _ ?mx A12.out).mono ?_); (case mx => (first | (with_reducible exact HMX.out) | exact MX.below HMX.out (by repeat (first | (with_reducible first | exact HB.out | apply below_alloc | apply pw_below_drewN | apply below_drew1 | refine below_set ?_ (Aside0.out (by assumption))) | exact HB.out)) | (repeat (first | exact HMX.out | refine MX.drewN ?_ _)))); rintro e w13 ⟨rfl, hb⟩; have n0_ := Aside0.mk (blk_below (g := gb161) (o := .cells #[.int .i64 a1_0, .int .i64 a1_1] 31 (0, 0)) (sm_ BK161) hb); have n1_ := Aside0.mk (blk_below (g := gb162) (o := .cells #[.string a2_0, .string a2_1] 32 (0, 0)) (sm_ BK162) hb); have n2_ := Aside0.mk (below_step (by repeat (with_reducible first | exact HB.out | apply below_alloc | apply pw_below_drewN | apply below_drew1 | refine below_set ?_ (Aside0.out (by assumption)))) hb); clear BK161; clear BK162; clear HB; have BK161 := n0_; have BK162 := n1_; have HB := n2_; clear n0_ n1_ n2_; (try clear hb); (try clear hb2); (try clear hk); (try clear hi)))
     repeat (go_quiet (first | (go_at_call 6; (with_reducible refine (newsreellaw30_awake.calls kj3  t163 _ ?mx A12.out).mono ?_); (case mx => (first | (with_reducible exact HMX.out) | exact MX.below HMX.out (by repeat (first | (with_reducible first | exact HB.out | apply below_alloc | apply pw_below_drewN | apply below_drew1 | refine below_set ?_ (Aside0.out (by assumption))) | exact HB.out)) | (repeat (first | exact HMX.out | refine MX.drewN ?_ _)))); rintro e w13 ⟨rfl, hb⟩; have n0_ := Aside0.mk (blk_below (g := gb161) (o := .cells #[.int .i64 a1_0, .int .i64 a1_1] 31 (0, 0)) (sm_ BK161) hb); have n1_ := Aside0.mk (blk_below (g := gb162) (o := .cells #[.string a2_0, .string a2_1] 32 (0, 0)) (sm_ BK162) hb); have n2_ := Aside0.mk (below_step (by repeat (with_reducible first | exact HB.out | apply below_alloc | apply pw_below_drewN | apply below_drew1 | refine below_set ?_ (Aside0.out (by assumption)))) hb); clear BK161; clear BK162; clear HB; have BK161 := n0_; have BK162 := n1_; have HB := n2_; clear n0_ n1_ n2_; (try clear hb); (try clear hb2); (try clear hk); (try clear hi))); try go_wp2_with (first | (go_at_call 6; (with_reducible refine (newsreellaw30_awake.calls kj3  t163 _ ?mx A12.out).mono ?_); (case mx => (first | (with_reducible exact HMX.out) | exact MX.below HMX.out (by repeat (first | (with_reducible first | exact HB.out | apply below_alloc | apply pw_below_drewN | apply below_drew1 | refine below_set ?_ (Aside0.out (by assumption))) | exact HB.out)) | (repeat (first | exact HMX.out | refine MX.drewN ?_ _)))); rintro e w13 ⟨rfl, hb⟩; have n0_ := Aside0.mk (blk_below (g := gb161) (o := .cells #[.int .i64 a1_0, .int .i64 a1_1] 31 (0, 0)) (sm_ BK161) hb); have n1_ := Aside0.mk (blk_below (g := gb162) (o := .cells #[.string a2_0, .string a2_1] 32 (0, 0)) (sm_ BK162) hb); have n2_ := Aside0.mk (below_step (by repeat (with_reducible first | exact HB.out | apply below_alloc | apply pw_below_drewN | apply below_drew1 | refine below_set ?_ (Aside0.out (by assumption)))) hb); clear BK161; clear BK162; clear HB; have BK161 := n0_; have BK162 := n1_; have HB := n2_; clear n0_ n1_ n2_; (try clear hb); (try clear hb2); (try clear hk); (try clear hi))))
     go_ret
     exact ⟨by first | rfl | (simp [errW_none, errW_some] <;> rfl) | (simp [*, errW_none, errW_some] <;> rfl), by repeat (with_reducible first | exact HB.out | apply below_alloc | apply pw_below_drewN | apply below_drew1 | refine below_set ?_ (Aside0.out (by assumption)))⟩
    ·replace c11 := Bool.eq_false_iff.mpr c11
     subst c11
     have H1 : ((chunk_Put.f kj3 l0 a1_0).bind fun t164 => (if (strOfNums t164).size + a2_1.size ≤ 9223372036854775807 then ((chunk_Get.f kj3 ((strOfNums t164) ++ a2_1)).bind fun bt167 => (if (t164.length : Int) = 0 then (newsreellaw30_ChunkBack.j1 kj3 l0 a2_0 a2_1 t164 true a1_0 a1_1) else (if bt167.2.2 = 0 then (if bt167.2.1 = (t164.length : Int) then ((newsreelref01_Bytes.f bt167.1 l0).bind fun t172 => (newsreellaw30_ChunkBack.j1 kj3 l0 a2_0 a2_1 t164 (!t172) a1_0 a1_1)) else (newsreellaw30_ChunkBack.j1 kj3 l0 a2_0 a2_1 t164 true a1_0 a1_1)) else (newsreellaw30_ChunkBack.j1 kj3 l0 a2_0 a2_1 t164 true a1_0 a1_1)))) else (none))) = some r := by rw [if_neg (show ¬ (false = true) by decide)] at H; exact H
     clear H
     have H := H1
     clear H1
     replace H := Option.bind_eq_some_iff.mp H
     obtain ⟨t164, A140, H⟩ := H
     replace H : (if (strOfNums t164).size + a2_1.size ≤ 9223372036854775807 then ((chunk_Get.f kj3 ((strOfNums t164) ++ a2_1)).bind fun bt167 => (if (t164.length : Int) = 0 then (newsreellaw30_ChunkBack.j1 kj3 l0 a2_0 a2_1 t164 true a1_0 a1_1) else (if bt167.2.2 = 0 then (if bt167.2.1 = (t164.length : Int) then ((newsreelref01_Bytes.f bt167.1 l0).bind fun t172 => (newsreellaw30_ChunkBack.j1 kj3 l0 a2_0 a2_1 t164 (!t172) a1_0 a1_1)) else (newsreellaw30_ChunkBack.j1 kj3 l0 a2_0 a2_1 t164 true a1_0 a1_1)) else (newsreellaw30_ChunkBack.j1 kj3 l0 a2_0 a2_1 t164 true a1_0 a1_1)))) else (none)) = some r := H
     have A14 := Aside0.mk A140
     clear A140
     by_cases c15 : (strOfNums t164).size + a2_1.size ≤ 9223372036854775807
     ·rw [if_pos c15] at H
      have c15b0 := eq_true c15
      have c15b1 : decide ((strOfNums t164).size + a2_1.size ≤ 9223372036854775807) = true := decide_eq_true c15
      try have c15b2 : (9223372036854775807 < (strOfNums t164).size + a2_1.size) = False := eq_false (Nat.not_lt.2 c15)
      replace H := Option.bind_eq_some_iff.mp H
      obtain ⟨⟨t167, t168, t169⟩, A160, H⟩ := H
      replace H : (if (t164.length : Int) = 0 then (newsreellaw30_ChunkBack.j1 kj3 l0 a2_0 a2_1 t164 true a1_0 a1_1) else (if t169 = 0 then (if t168 = (t164.length : Int) then ((newsreelref01_Bytes.f t167 l0).bind fun t172 => (newsreellaw30_ChunkBack.j1 kj3 l0 a2_0 a2_1 t164 (!t172) a1_0 a1_1)) else (newsreellaw30_ChunkBack.j1 kj3 l0 a2_0 a2_1 t164 true a1_0 a1_1)) else (newsreellaw30_ChunkBack.j1 kj3 l0 a2_0 a2_1 t164 true a1_0 a1_1))) = some r := H
      have A16 := Aside0.mk A160
      clear A160
      have HC17 := Aside0.mk H
      clear H
      have hnb18 := NB161_162.out
      have hnc18 := NB162_161.out
      obtain ⟨hcz19_0, hcz19_1⟩ := c2_ BK161.out
      obtain ⟨hfz19_0, hfz19_1⟩ := f2_ BK161.out
      go_upto_region 6 with (first | (go_at_call 10; (with_reducible refine (chunk_Put.calls kj3 _ _ l0 a1_0 t164 _ ?side1 ?side2 A14.out).mono ?_); (case side1 => repeat (first | exact (Kd.C_below HR0.out HB.out) | (with_reducible refine Kd.C_alloc ?_ _) | (with_reducible refine Kd.C_drewN ?_ _) | (with_reducible refine Kd.C_drew ?_))); (case side2 => exact HC0.out); rintro e w20 ⟨v165, rfl, ho0, hb⟩; have n0_ := Aside0.mk (Kd.R_lower ho0 (below_size (by repeat (with_reducible first | exact HB.out | apply below_alloc | apply pw_below_drewN | apply below_drew1 | refine below_set ?_ (Aside0.out (by assumption)))))); have n1_ := Aside0.mk (blk_below (g := gb161) (o := .cells #[.int .i64 a1_0, .int .i64 a1_1] 31 (0, 0)) (sm_ BK161) hb); have n2_ := Aside0.mk (blk_below (g := gb162) (o := .cells #[.string a2_0, .string a2_1] 32 (0, 0)) (sm_ BK162) hb); have n3_ := Aside0.mk (below_step (by repeat (with_reducible first | exact HB.out | apply below_alloc | apply pw_below_drewN | apply below_drew1 | refine below_set ?_ (Aside0.out (by assumption)))) hb); clear BK161; clear BK162; clear HB; have HO166 := n0_; have BK161 := n1_; have BK162 := n2_; have HB := n3_; clear n0_ n1_ n2_ n3_; (try clear hb); (try clear hb2); (try clear hk); (try clear hi); (try clear ho0); have hcv21 := own_string (P := Tryd.prog) Tryd.underlying22 Tryd.underlying5 Tryd.underlying9 (Kd.own_of_R HO166.out)) | (go_at_call 7; (with_reducible refine (chunk_Get.calls kj3 ((strOfNums t164) ++ a2_1) t167 t168 t169 _ ?mx A16.out).mono ?_); (case mx => (first | (with_reducible exact HMX.out) | exact MX.below HMX.out (by repeat (first | (with_reducible first | exact HB.out | apply below_alloc | apply pw_below_drewN | apply below_drew1 | refine below_set ?_ (Aside0.out (by assumption))) | exact HB.out)) | (repeat (first | exact HMX.out | refine MX.drewN ?_ _)))); rintro e w22 ⟨v170, rfl, ho0, hb⟩; have n0_ := Aside0.mk (Kd.R_elder' (by (with_reducible repeat (first | apply Kd.R_alloc | apply Kd.R_drewN | apply Kd.R_drew)); exact HO166.out) (Kd.R_base ho0) hb); have n1_ := Aside0.mk (Kd.R_lower (Kd.R_new' ho0 (Kd.R_lt (by (with_reducible repeat (first | apply Kd.R_alloc | apply Kd.R_drewN | apply Kd.R_drew)); exact HO166.out))) (below_size (by repeat (with_reducible first | exact HB.out | apply below_alloc | apply pw_below_drewN | apply below_drew1 | refine below_set ?_ (Aside0.out (by assumption)))))); have n2_ := Aside0.mk (blk_below (g := gb161) (o := .cells #[.int .i64 a1_0, .int .i64 a1_1] 31 (0, 0)) (sm_ BK161) hb); have n3_ := Aside0.mk (blk_below (g := gb162) (o := .cells #[.string a2_0, .string a2_1] 32 (0, 0)) (sm_ BK162) hb); have n4_ := Aside0.mk (below_step (by repeat (with_reducible first | exact HB.out | apply below_alloc | apply pw_below_drewN | apply below_drew1 | refine below_set ?_ (Aside0.out (by assumption)))) hb); clear HO166; clear BK161; clear BK162; clear HB; have HO166 := n0_; have HO171 := n1_; have BK161 := n2_; have BK162 := n3_; have HB := n4_; clear n0_ n1_ n2_ n3_ n4_; (try clear hb); (try clear hb2); (try clear hk); (try clear hi); (try clear ho0)))
      repeat (go_quiet (first | (go_at_call 10; (with_reducible refine (chunk_Put.calls kj3 _ _ l0 a1_0 t164 _ ?side1 ?side2 A14.out).mono ?_); (case side1 => repeat (first | exact (Kd.C_below HR0.out HB.out) | (with_reducible refine Kd.C_alloc ?_ _) | (with_reducible refine Kd.C_drewN ?_ _) | (with_reducible refine Kd.C_drew ?_))); (case side2 => exact HC0.out); rintro e w20 ⟨v165, rfl, ho0, hb⟩; have n0_ := Aside0.mk (Kd.R_lower ho0 (below_size (by repeat (with_reducible first | exact HB.out | apply below_alloc | apply pw_below_drewN | apply below_drew1 | refine below_set ?_ (Aside0.out (by assumption)))))); have n1_ := Aside0.mk (blk_below (g := gb161) (o := .cells #[.int .i64 a1_0, .int .i64 a1_1] 31 (0, 0)) (sm_ BK161) hb); have n2_ := Aside0.mk (blk_below (g := gb162) (o := .cells #[.string a2_0, .string a2_1] 32 (0, 0)) (sm_ BK162) hb); have n3_ := Aside0.mk (below_step (by repeat (with_reducible first | exact HB.out | apply below_alloc | apply pw_below_drewN | apply below_drew1 | refine below_set ?_ (Aside0.out (by assumption)))) hb); clear BK161; clear BK162; clear HB; have HO166 := n0_; have BK161 := n1_; have BK162 := n2_; have HB := n3_; clear n0_ n1_ n2_ n3_; (try clear hb); (try clear hb2); (try clear hk); (try clear hi); (try clear ho0); have hcv21 := own_string (P := Tryd.prog) Tryd.underlying22 Tryd.underlying5 Tryd.underlying9 (Kd.own_of_R HO166.out)) | (go_at_call 7; (with_reducible refine (chunk_Get.calls kj3 ((strOfNums t164) ++ a2_1) t167 t168 t169 _ ?mx A16.out).mono ?_); (case mx => (first | (with_reducible exact HMX.out) | exact MX.below HMX.out (by repeat (first | (with_reducible first | exact HB.out | apply below_alloc | apply pw_below_drewN | apply below_drew1 | refine below_set ?_ (Aside0.out (by assumption))) | exact HB.out)) | (repeat (first | exact HMX.out | refine MX.drewN ?_ _)))); rintro e w22 ⟨v170, rfl, ho0, hb⟩; have n0_ := Aside0.mk (Kd.R_elder' (by (with_reducible repeat (first | apply Kd.R_alloc | apply Kd.R_drewN | apply Kd.R_drew)); exact HO166.out) (Kd.R_base ho0) hb); have n1_ := Aside0.mk (Kd.R_lower (Kd.R_new' ho0 (Kd.R_lt (by (with_reducible repeat (first | apply Kd.R_alloc | apply Kd.R_drewN | apply Kd.R_drew)); exact HO166.out))) (below_size (by repeat (with_reducible first | exact HB.out | apply below_alloc | apply pw_below_drewN | apply below_drew1 | refine below_set ?_ (Aside0.out (by assumption)))))); have n2_ := Aside0.mk (blk_below (g := gb161) (o := .cells #[.int .i64 a1_0, .int .i64 a1_1] 31 (0, 0)) (sm_ BK161) hb); have n3_ := Aside0.mk (blk_below (g := gb162) (o := .cells #[.string a2_0, .string a2_1] 32 (0, 0)) (sm_ BK162) hb); have n4_ := Aside0.mk (below_step (by repeat (with_reducible first | exact HB.out | apply below_alloc | apply pw_below_drewN | apply below_drew1 | refine below_set ?_ (Aside0.out (by assumption)))) hb); clear HO166; clear BK161; clear BK162; clear HB; have HO166 := n0_; have HO171 := n1_; have BK161 := n2_; have BK162 := n3_; have HB := n4_; clear n0_ n1_ n2_ n3_ n4_; (try clear hb); (try clear hb2); (try clear hk); (try clear hi); (try clear ho0))); go_upto_region 6 with (first | (go_at_call 10; (with_reducible refine (chunk_Put.calls kj3 _ _ l0 a1_0 t164 _ ?side1 ?side2 A14.out).mono ?_); (case side1 => repeat (first | exact (Kd.C_below HR0.out HB.out) | (with_reducible refine Kd.C_alloc ?_ _) | (with_reducible refine Kd.C_drewN ?_ _) | (with_reducible refine Kd.C_drew ?_))); (case side2 => exact HC0.out); rintro e w20 ⟨v165, rfl, ho0, hb⟩; have n0_ := Aside0.mk (Kd.R_lower ho0 (below_size (by repeat (with_reducible first | exact HB.out | apply below_alloc | apply pw_below_drewN | apply below_drew1 | refine below_set ?_ (Aside0.out (by assumption)))))); have n1_ := Aside0.mk (blk_below (g := gb161) (o := .cells #[.int .i64 a1_0, .int .i64 a1_1] 31 (0, 0)) (sm_ BK161) hb); have n2_ := Aside0.mk (blk_below (g := gb162) (o := .cells #[.string a2_0, .string a2_1] 32 (0, 0)) (sm_ BK162) hb); have n3_ := Aside0.mk (below_step (by repeat (with_reducible first | exact HB.out | apply below_alloc | apply pw_below_drewN | apply below_drew1 | refine below_set ?_ (Aside0.out (by assumption)))) hb); clear BK161; clear BK162; clear HB; have HO166 := n0_; have BK161 := n1_; have BK162 := n2_; have HB := n3_; clear n0_ n1_ n2_ n3_; (try clear hb); (try clear hb2); (try clear hk); (try clear hi); (try clear ho0); have hcv21 := own_string (P := Tryd.prog) Tryd.underlying22 Tryd.underlying5 Tryd.underlying9 (Kd.own_of_R HO166.out)) | (go_at_call 7; (with_reducible refine (chunk_Get.calls kj3 ((strOfNums t164) ++ a2_1) t167 t168 t169 _ ?mx A16.out).mono ?_); (case mx => (first | (with_reducible exact HMX.out) | exact MX.below HMX.out (by repeat (first | (with_reducible first | exact HB.out | apply below_alloc | apply pw_below_drewN | apply below_drew1 | refine below_set ?_ (Aside0.out (by assumption))) | exact HB.out)) | (repeat (first | exact HMX.out | refine MX.drewN ?_ _)))); rintro e w22 ⟨v170, rfl, ho0, hb⟩; have n0_ := Aside0.mk (Kd.R_elder' (by (with_reducible repeat (first | apply Kd.R_alloc | apply Kd.R_drewN | apply Kd.R_drew)); exact HO166.out) (Kd.R_base ho0) hb); have n1_ := Aside0.mk (Kd.R_lower (Kd.R_new' ho0 (Kd.R_lt (by (with_reducible repeat (first | apply Kd.R_alloc | apply Kd.R_drewN | apply Kd.R_drew)); exact HO166.out))) (below_size (by repeat (with_reducible first | exact HB.out | apply below_alloc | apply pw_below_drewN | apply below_drew1 | refine below_set ?_ (Aside0.out (by assumption)))))); have n2_ := Aside0.mk (blk_below (g := gb161) (o := .cells #[.int .i64 a1_0, .int .i64 a1_1] 31 (0, 0)) (sm_ BK161) hb); have n3_ := Aside0.mk (blk_below (g := gb162) (o := .cells #[.string a2_0, .string a2_1] 32 (0, 0)) (sm_ BK162) hb); have n4_ := Aside0.mk (below_step (by repeat (with_reducible first | exact HB.out | apply below_alloc | apply pw_below_drewN | apply below_drew1 | refine below_set ?_ (Aside0.out (by assumption)))) hb); clear HO166; clear BK161; clear BK162; clear HB; have HO166 := n0_; have HO171 := n1_; have BK161 := n2_; have BK162 := n3_; have HB := n4_; clear n0_ n1_ n2_ n3_ n4_; (try clear hb); (try clear hb2); (try clear hk); (try clear hi); (try clear ho0))))
      (try simp only [Act.put, List.setIfInBounds_toArray, List.set_cons_zero, List.set_cons_succ])
      go_cut [72] (fun v72 wc => ∃ (kq : Nat) (x72_16 : Bool), v72 = .bool x72_16 ∧ Aside0 (newsreellaw30_ChunkBack.j1 kq l0 a2_0 a2_1 t164 x72_16 a1_0 a1_1 = some r) ∧ Aside0 (kq ≤ kj3) ∧ Aside0 (Kd.R (Kd.int .u8) 5 wc w.heap.size (fun _ => True) v165 t164) ∧ Aside0 (wc.heap[gb161]? = some (.cells #[.int .i64 a1_0, .int .i64 a1_1] 31 (0, 0))) ∧ Aside0 (wc.heap[gb162]? = some (.cells #[.string a2_0, .string a2_1] 32 (0, 0))) ∧ Aside0 (Below w.heap.size w wc))
      case first =>
       have H := HC17.out
       clear HC17
       by_cases c23 : (t164.length : Int) = 0
       ·as_aux_lemma =>
        rw [if_pos c23] at H
        have c23b0 : ((t164.length : Int) == 0) = true := beq_iff_eq.mpr c23
        have c23b1 : ((t164.length : Int) != 0) = false := bne_eq_false_iff_eq.mpr c23
        clear c23
        (first | rw [c23b0] | (simp only [i64_w, i32_w]; rw [c23b0]) | skip)
        have H' := Aside0.mk H
        clear H
        obtain ⟨Ao24, co24, eo24⟩ := Kd.R_slice HO166.out
        subst eo24
        go_wp2
        repeat (go_quiet (fail); try go_wp2)
        go_meet
        case rel => exact ⟨_, (true), (by first | rfl | (simp; done) | (simp [*]; done)), H', ⟨by have := HJ3.out; first | omega | exact Nat.le_refl _⟩, ⟨by (with_reducible repeat (first | apply Kd.R_alloc | apply Kd.R_drewN | apply Kd.R_drew)); exact Kd.R_mono HO166.out (fun _ hk => trivial)⟩, ⟨by (with_reducible repeat first | apply blk_drewN | apply blk_drew | apply blk_alloc); exact BK161.out⟩, ⟨by (with_reducible repeat first | apply blk_drewN | apply blk_drew | apply blk_alloc); exact BK162.out⟩, ⟨by repeat (with_reducible first | exact HB.out | apply below_alloc | apply pw_below_drewN | apply below_drew1 | refine below_set ?_ (Aside0.out (by assumption)))⟩⟩
       ·as_aux_lemma =>
        rw [if_neg c23] at H
        have c23b0 : ((t164.length : Int) == 0) = false := beq_eq_false_iff_ne.mpr c23
        have c23b1 : ((t164.length : Int) != 0) = true := bne_iff_ne.mpr c23
        have c23b2 : ¬ (t164 = []) := fun h_ => c23 (by rw [h_]; rfl)
        (first | rw [c23b0] | (simp only [i64_w, i32_w]; rw [c23b0]) | skip)
        by_cases c25 : t169 = 0
        ·as_aux_lemma =>
         rw [if_pos c25] at H
         have c25b0 : (t169 == 0) = true := beq_iff_eq.mpr c25
         have c25b1 : (t169 != 0) = false := bne_eq_false_iff_eq.mpr c25
         clear c25
         by_cases c26 : t168 = (t164.length : Int)
         ·as_aux_lemma =>
          rw [if_pos c26] at H
          have c26b0 : (t168 == (t164.length : Int)) = true := beq_iff_eq.mpr c26
          have c26b1 : (t168 != (t164.length : Int)) = false := bne_eq_false_iff_eq.mpr c26
          clear c26
          replace H := Option.bind_eq_some_iff.mp H
          obtain ⟨t172, A270, H⟩ := H
          replace H : (newsreellaw30_ChunkBack.j1 kj3 l0 a2_0 a2_1 t164 (!t172) a1_0 a1_1) = some r := H
          have A27 := Aside0.mk A270
          clear A270
          have H' := Aside0.mk H
          clear H
          obtain ⟨Ao28, co28, eo28⟩ := Kd.R_slice HO166.out
          subst eo28
          obtain ⟨Ao29, co29, eo29⟩ := Kd.R_slice HO171.out
          subst eo29
          go_wp2_with (first | (go_at_call 9; (with_reducible refine (newsreelref01_Bytes.calls _ _ t167 _ _ l0 t172 _ ?side1 ?side2 ?side3 ?side4 A27.out).mono ?_); (case side1 => repeat (first | exact (Kd.R_reads' HO171.out).2.2 | (with_reducible refine Kd.C_alloc ?_ _) | (with_reducible refine Kd.C_drewN ?_ _) | (with_reducible refine Kd.C_drew ?_))); (case side2 => exact (Kd.R_reads' HO171.out).2.1); (case side3 => repeat (first | exact (Kd.C_below HR0.out HB.out) | (with_reducible refine Kd.C_alloc ?_ _) | (with_reducible refine Kd.C_drewN ?_ _) | (with_reducible refine Kd.C_drew ?_))); (case side4 => exact HC0.out); rintro e w' ⟨rfl, ⟨nd, rfl⟩⟩; (try first | exact ⟨rfl, _, World.drewN_drewN _ _ _⟩ | exact ⟨rfl, _, Eq.trans (World.drewN_drewN _ _ _) (congrArg (World.drewN _) (Nat.add_assoc _ _ _))⟩)))
          repeat (go_quiet (first | (go_at_call 9; (with_reducible refine (newsreelref01_Bytes.calls _ _ t167 _ _ l0 t172 _ ?side1 ?side2 ?side3 ?side4 A27.out).mono ?_); (case side1 => repeat (first | exact (Kd.R_reads' HO171.out).2.2 | (with_reducible refine Kd.C_alloc ?_ _) | (with_reducible refine Kd.C_drewN ?_ _) | (with_reducible refine Kd.C_drew ?_))); (case side2 => exact (Kd.R_reads' HO171.out).2.1); (case side3 => repeat (first | exact (Kd.C_below HR0.out HB.out) | (with_reducible refine Kd.C_alloc ?_ _) | (with_reducible refine Kd.C_drewN ?_ _) | (with_reducible refine Kd.C_drew ?_))); (case side4 => exact HC0.out); rintro e w' ⟨rfl, ⟨nd, rfl⟩⟩; (try first | exact ⟨rfl, _, World.drewN_drewN _ _ _⟩ | exact ⟨rfl, _, Eq.trans (World.drewN_drewN _ _ _) (congrArg (World.drewN _) (Nat.add_assoc _ _ _))⟩))); try go_wp2_with (first | (go_at_call 9; (with_reducible refine (newsreelref01_Bytes.calls _ _ t167 _ _ l0 t172 _ ?side1 ?side2 ?side3 ?side4 A27.out).mono ?_); (case side1 => repeat (first | exact (Kd.R_reads' HO171.out).2.2 | (with_reducible refine Kd.C_alloc ?_ _) | (with_reducible refine Kd.C_drewN ?_ _) | (with_reducible refine Kd.C_drew ?_))); (case side2 => exact (Kd.R_reads' HO171.out).2.1); (case side3 => repeat (first | exact (Kd.C_below HR0.out HB.out) | (with_reducible refine Kd.C_alloc ?_ _) | (with_reducible refine Kd.C_drewN ?_ _) | (with_reducible refine Kd.C_drew ?_))); (case side4 => exact HC0.out); rintro e w' ⟨rfl, ⟨nd, rfl⟩⟩; (try first | exact ⟨rfl, _, World.drewN_drewN _ _ _⟩ | exact ⟨rfl, _, Eq.trans (World.drewN_drewN _ _ _) (congrArg (World.drewN _) (Nat.add_assoc _ _ _))⟩))))
          go_meet
          case rel => exact ⟨_, (!t172), (by first | rfl | (simp; done) | (simp [*]; done)), H', ⟨by have := HJ3.out; first | omega | exact Nat.le_refl _⟩, ⟨by (with_reducible repeat (first | apply Kd.R_alloc | apply Kd.R_drewN | apply Kd.R_drew)); exact Kd.R_mono HO166.out (fun _ hk => trivial)⟩, ⟨by (with_reducible repeat first | apply blk_drewN | apply blk_drew | apply blk_alloc); exact BK161.out⟩, ⟨by (with_reducible repeat first | apply blk_drewN | apply blk_drew | apply blk_alloc); exact BK162.out⟩, ⟨by repeat (with_reducible first | exact HB.out | apply below_alloc | apply pw_below_drewN | apply below_drew1 | refine below_set ?_ (Aside0.out (by assumption)))⟩⟩
         ·as_aux_lemma =>
          rw [if_neg c26] at H
          have c26b0 : (t168 == (t164.length : Int)) = false := beq_eq_false_iff_ne.mpr c26
          have c26b1 : (t168 != (t164.length : Int)) = true := bne_iff_ne.mpr c26
          have H' := Aside0.mk H
          clear H
          obtain ⟨Ao30, co30, eo30⟩ := Kd.R_slice HO166.out
          subst eo30
          go_wp2
          repeat (go_quiet (fail); try go_wp2)
          go_meet
          case rel => exact ⟨_, (true), (by first | rfl | (simp; done) | (simp [*]; done)), H', ⟨by have := HJ3.out; first | omega | exact Nat.le_refl _⟩, ⟨by (with_reducible repeat (first | apply Kd.R_alloc | apply Kd.R_drewN | apply Kd.R_drew)); exact Kd.R_mono HO166.out (fun _ hk => trivial)⟩, ⟨by (with_reducible repeat first | apply blk_drewN | apply blk_drew | apply blk_alloc); exact BK161.out⟩, ⟨by (with_reducible repeat first | apply blk_drewN | apply blk_drew | apply blk_alloc); exact BK162.out⟩, ⟨by repeat (with_reducible first | exact HB.out | apply below_alloc | apply pw_below_drewN | apply below_drew1 | refine below_set ?_ (Aside0.out (by assumption)))⟩⟩
        ·as_aux_lemma =>
         rw [if_neg c25] at H
         have c25b0 : (t169 == 0) = false := beq_eq_false_iff_ne.mpr c25
         have c25b1 : (t169 != 0) = true := bne_iff_ne.mpr c25
         have H' := Aside0.mk H
         clear H
         obtain ⟨Ao31, co31, eo31⟩ := Kd.R_slice HO166.out
         subst eo31
         go_wp2
         repeat (go_quiet (fail); try go_wp2)
         go_meet
         case rel => exact ⟨_, (true), (by first | rfl | (simp; done) | (simp [*]; done)), H', ⟨by have := HJ3.out; first | omega | exact Nat.le_refl _⟩, ⟨by (with_reducible repeat (first | apply Kd.R_alloc | apply Kd.R_drewN | apply Kd.R_drew)); exact Kd.R_mono HO166.out (fun _ hk => trivial)⟩, ⟨by (with_reducible repeat first | apply blk_drewN | apply blk_drew | apply blk_alloc); exact BK161.out⟩, ⟨by (with_reducible repeat first | apply blk_drewN | apply blk_drew | apply blk_alloc); exact BK162.out⟩, ⟨by repeat (with_reducible first | exact HB.out | apply below_alloc | apply pw_below_drewN | apply below_drew1 | refine below_set ?_ (Aside0.out (by assumption)))⟩⟩
      case rest =>
       clear HC17
       (try clear c1); (try clear c2); (try clear p2); (try clear hcv2); (try clear c5); (try clear c7); (try clear c9); (try clear c9b0); (try clear c9b1); (try clear c10); (try clear c10b0); (try clear c10b1); (try clear c11); (try clear c15); (try clear c15b0); (try clear c15b1); (try clear c15b2); (try clear c18); (try clear hcv21); (try clear c23); (try clear c23b0); (try clear c23b1); (try clear c23b2); (try clear c25); (try clear c25b0); (try clear c25b1); (try clear c26); (try clear c26b0); (try clear c26b1); (try clear hcz19_0); (try clear hcz19_1); (try clear hcz8_0); (try clear hcz8_1); (try clear hfz19_0); (try clear hfz19_1); (try clear hfz8_0); (try clear hfz8_1); (try clear p2)
       obtain ⟨kq, x72_16, rfl, HA, HJ16, HO_9, BK161, BK162, HB⟩ := hcut
       cases kq with
       | zero => exact absurd HA.out (by simp [newsreellaw30_ChunkBack.j1])
       | succ kj16 =>
        have H := HA.out
        clear HA
        simp only [newsreellaw30_ChunkBack.j1] at H
        by_cases c32 : x72_16 = true
        ·as_aux_lemma =>
         subst c32
         have H1 : (none) = some r := by rw [if_pos rfl] at H; exact H
         clear H
         have H := H1
         clear H1
         exact absurd H (by simp)
        ·replace c32 := Bool.eq_false_iff.mpr c32
         subst c32
         have H1 : (if (t164.length : Int) = 0 then (none) else (if (Int.tmod a1_1 (t164.length : Int)) < 0 then (newsreellaw30_ChunkBack.j2 kj16 l0 a2_0 a2_1 t164 (wrap64 (-(Int.tmod a1_1 (t164.length : Int))))) else (newsreellaw30_ChunkBack.j2 kj16 l0 a2_0 a2_1 t164 (Int.tmod a1_1 (t164.length : Int))))) = some r := by rw [if_neg (show ¬ (false = true) by decide)] at H; exact H
         clear H
         have H := H1
         clear H1
         by_cases c33 : (t164.length : Int) = 0
         ·as_aux_lemma =>
          rw [if_pos c33] at H
          exact absurd H (by simp)
         ·rw [if_neg c33] at H
          have c33b0 : ((t164.length : Int) == 0) = false := beq_eq_false_iff_ne.mpr c33
          have c33b1 : ((t164.length : Int) != 0) = true := bne_iff_ne.mpr c33
          have c33b2 : ¬ (t164 = []) := fun h_ => c33 (by rw [h_]; rfl)
          have HC34 := Aside0.mk H
          clear H
          have hnb35 := NB161_162.out
          have hnc35 := NB162_161.out
          obtain ⟨hcz36_0, hcz36_1⟩ := c2_ BK161.out
          obtain ⟨hfz36_0, hfz36_1⟩ := f2_ BK161.out
          obtain ⟨Ao37, co37, eo37⟩ := Kd.R_slice HO_9.out
          subst eo37
          go_upto_if 79 with (fail)
          repeat (go_quiet (fail); go_upto_if 79 with (fail))
          go_cut [13] (fun v13 wc => ∃ (kq : Nat) (x13_33 : Int), v13 = .int .i64 x13_33 ∧ Aside0 (newsreellaw30_ChunkBack.j2 kq l0 a2_0 a2_1 t164 x13_33 = some r) ∧ Aside0 (kq ≤ kj16) ∧ Aside0 (Kd.R (Kd.int .u8) 5 wc w.heap.size (fun _ => True) (.slice Ao37 t164.length co37) t164) ∧ Aside0 (wc.heap[gb161]? = some (.cells #[.int .i64 a1_0, .int .i64 a1_1] 31 (0, 0))) ∧ Aside0 (wc.heap[gb162]? = some (.cells #[.string a2_0, .string a2_1] 32 (0, 0))) ∧ Aside0 (Below w.heap.size w wc))
          case first =>
           have H := HC34.out
           clear HC34
           by_cases c38 : (Int.tmod a1_1 (t164.length : Int)) < 0
           ·as_aux_lemma =>
            rw [if_pos c38] at H
            have c38b0 : decide ((Int.tmod a1_1 (t164.length : Int)) < 0) = true := decide_eq_true c38
            clear c38
            (first | rw [c38b0] | (simp only [i64_w, i32_w]; rw [c38b0]) | skip)
            have H' := Aside0.mk H
            clear H
            go_wp2
            repeat (go_quiet (fail); try go_wp2)
            go_meet
            case rel => exact ⟨_, (wrap64 (-(Int.tmod a1_1 (t164.length : Int)))), (by first | rfl | (simp; done) | (simp [*]; done)), H', ⟨by have := HJ3.out; have := HJ16.out; first | omega | exact Nat.le_refl _⟩, ⟨by (with_reducible repeat (first | apply Kd.R_alloc | apply Kd.R_drewN | apply Kd.R_drew)); exact HO_9.out⟩, ⟨by (with_reducible repeat first | apply blk_drewN | apply blk_drew | apply blk_alloc); exact BK161.out⟩, ⟨by (with_reducible repeat first | apply blk_drewN | apply blk_drew | apply blk_alloc); exact BK162.out⟩, ⟨by repeat (with_reducible first | exact HB.out | apply below_alloc | apply pw_below_drewN | apply below_drew1 | refine below_set ?_ (Aside0.out (by assumption)))⟩⟩
           ·as_aux_lemma =>
            rw [if_neg c38] at H
            have c38b0 : decide ((Int.tmod a1_1 (t164.length : Int)) < 0) = false := decide_eq_false c38
            clear c38
            (first | rw [c38b0] | (simp only [i64_w, i32_w]; rw [c38b0]) | skip)
            have H' := Aside0.mk H
            clear H
            go_wp2
            repeat (go_quiet (fail); try go_wp2)
            go_meet
            case rel => exact ⟨_, (Int.tmod a1_1 (t164.length : Int)), (by first | rfl | (simp; done) | (simp [*]; done)), H', ⟨by have := HJ3.out; have := HJ16.out; first | omega | exact Nat.le_refl _⟩, ⟨by (with_reducible repeat (first | apply Kd.R_alloc | apply Kd.R_drewN | apply Kd.R_drew)); exact HO_9.out⟩, ⟨by (with_reducible repeat first | apply blk_drewN | apply blk_drew | apply blk_alloc); exact BK161.out⟩, ⟨by (with_reducible repeat first | apply blk_drewN | apply blk_drew | apply blk_alloc); exact BK162.out⟩, ⟨by repeat (with_reducible first | exact HB.out | apply below_alloc | apply pw_below_drewN | apply below_drew1 | refine below_set ?_ (Aside0.out (by assumption)))⟩⟩
          case rest =>
           clear HC34
           (try clear c1); (try clear c2); (try clear p2); (try clear hcv2); (try clear c3); (try clear c5); (try clear p6); (try clear c7); (try clear c9); (try clear c9b0); (try clear c9b1); (try clear c10); (try clear c10b0); (try clear c10b1); (try clear c11); (try clear c15); (try clear c15b0); (try clear c15b1); (try clear c15b2); (try clear c18); (try clear hcv21); (try clear c23); (try clear c23b0); (try clear c23b1); (try clear c23b2); (try clear c25); (try clear c25b0); (try clear c25b1); (try clear c26); (try clear c26b0); (try clear c26b1); (try clear c32); (try clear c33); (try clear c33b0); (try clear c33b1); (try clear c33b2); (try clear c35); (try clear c38); (try clear c38b0); (try clear hcz19_0); (try clear hcz19_1); (try clear hcz36_0); (try clear hcz36_1); (try clear hcz8_0); (try clear hcz8_1); (try clear hfz19_0); (try clear hfz19_1); (try clear hfz36_0); (try clear hfz36_1); (try clear hfz8_0); (try clear hfz8_1); (try clear p2)
           obtain ⟨kq, x13_33, rfl, HA, HJ33, HO_9, BK161, BK162, HB⟩ := hcut
           cases kq with
           | zero => exact absurd HA.out (by simp [newsreellaw30_ChunkBack.j2])
           | succ kj33 =>
            have H := HA.out
            clear HA
            simp only [newsreellaw30_ChunkBack.j2] at H
            by_cases c39 : 0 ≤ x13_33
            ·rw [if_pos c39] at H
             have c39b0 := eq_true c39
             have c39b1 : decide (0 ≤ x13_33) = true := decide_eq_true c39
             clear c39
             by_cases c40 : x13_33 ≤ (t164.length : Int)
             ·rw [if_pos c40] at H
              have c40b0 := eq_true c40
              have c40b1 : decide (x13_33 ≤ (t164.length : Int)) = true := decide_eq_true c40
              clear c40
              obtain ⟨y173, hy173⟩ : ∃ y_ : List Int, y_ = (t164.take (x13_33 : Int).toNat) := ⟨_, rfl⟩
              replace H : ((chunk_Get.f kj33 (strOfNums y173)).bind fun bt177 => (if bt177.2.2 = 11 then (if bt177.2.1 = 0 then (if (bt177.1.length : Int) > (l0.length : Int) then (newsreellaw30_ChunkBack.j3 kj33 a2_0 a2_1 true) else (if 0 ≤ (bt177.1.length : Int) then (if (bt177.1.length : Int) ≤ (l0.length : Int) then ((newsreelref01_Bytes.f bt177.1 (l0.take ((bt177.1.length : Int) : Int).toNat)).bind fun t183 => (newsreellaw30_ChunkBack.j3 kj33 a2_0 a2_1 (!t183))) else (none)) else (none))) else (newsreellaw30_ChunkBack.j3 kj33 a2_0 a2_1 true)) else (newsreellaw30_ChunkBack.j3 kj33 a2_0 a2_1 true))) = some r := by first | (rw [hy173]; with_reducible exact H) | (have H2_ := (Option.bind_some _ _).symm.trans H; rw [hy173]; with_reducible exact H2_) | (have H2_ := (Option.bind_some _ _).symm.trans H; with_reducible exact H2_) | with_reducible exact H | (rw [hy173]; exact H) | exact H
              have Ny173 := Aside0.mk hy173
              clear hy173
              replace H := Option.bind_eq_some_iff.mp H
              obtain ⟨⟨t177, t178, t179⟩, A410, H⟩ := H
              replace H : (if t179 = 11 then (if t178 = 0 then (if (t177.length : Int) > (l0.length : Int) then (newsreellaw30_ChunkBack.j3 kj33 a2_0 a2_1 true) else (if 0 ≤ (t177.length : Int) then (if (t177.length : Int) ≤ (l0.length : Int) then ((newsreelref01_Bytes.f t177 (l0.take ((t177.length : Int) : Int).toNat)).bind fun t183 => (newsreellaw30_ChunkBack.j3 kj33 a2_0 a2_1 (!t183))) else (none)) else (none))) else (newsreellaw30_ChunkBack.j3 kj33 a2_0 a2_1 true)) else (newsreellaw30_ChunkBack.j3 kj33 a2_0 a2_1 true)) = some r := H
              have A41 := Aside0.mk A410
              clear A410
              have HC42 := Aside0.mk H
              clear H
              have q43 : (x13_33 : Int) ≤ ((t164.length : Int) : Int) := of_decide_eq_true (by first | (with_reducible assumption) | assumption)
              obtain ⟨i043, hi043, _, hsz43, _⟩ := info_parts info5
              have hroom43 : t164.length ≤ co37 := (Kd.R_reads' HO_9.out).2.1
              have hC43 : Kd.C (Kd.int .u8) _ Ao37 t164.length t164 := (Kd.R_reads' HO_9.out).2.2
              have hcut43 := cut_to (P := Tryd.prog) 22 5 .i64 Tryd.underlying22 hi043 Ao37 t164.length co37 x13_33 (of_decide_eq_true (by first | (with_reducible assumption) | assumption)) q43 hroom43
              have hr43 := Kd.C_take (m := (x13_33 : Int).toNat) hC43 (by omega)
              have hy43 : y173.length = (x13_33 : Int).toNat := (by rw [Ny173.out, List.length_take]; omega)
              rw [← Ny173.out] at hr43
              rw [← hy43] at hcut43
              have HR176 := Aside0.mk hr43
              have HC176 := Aside0.mk (show y173.length ≤ co37 from by omega)
              clear hr43 hC43 hroom43 hi043 hsz43
              have KY43 := Aside0.mk hy43
              clear hy43
              have KL43 := Aside0.mk (show (x13_33 : Int).toNat ≤ t164.length from by omega)
              replace q43 := eq_true q43
              have hcv44 := Kd.C_string (P := Tryd.prog) (A := Ao37) (c := co37) Tryd.underlying22 Tryd.underlying5 Tryd.underlying9 (by repeat (first | (with_reducible exact HR176.out) | (with_reducible refine Kd.C_alloc ?_ _) | (with_reducible refine Kd.C_drewN ?_ _) | (with_reducible refine Kd.C_drew ?_) | exact HR176.out))
              go_upto_region 12 with (first | (go_at_call 7; (with_reducible refine (chunk_Get.calls kj33 (strOfNums y173) t177 t178 t179 _ ?mx A41.out).mono ?_); (case mx => (first | (with_reducible exact HMX.out) | exact MX.below HMX.out (by repeat (first | (with_reducible first | exact HB.out | apply below_alloc | apply pw_below_drewN | apply below_drew1 | refine below_set ?_ (Aside0.out (by assumption))) | exact HB.out)) | (repeat (first | exact HMX.out | refine MX.drewN ?_ _)))); rintro e w45 ⟨v180, rfl, ho0, hb⟩; have n0_ := Aside0.mk (Kd.R_elder' (by (with_reducible repeat (first | apply Kd.R_alloc | apply Kd.R_drewN | apply Kd.R_drew)); exact HO_9.out) (Kd.R_base ho0) hb); have n1_ := Aside0.mk (Kd.R_lower (Kd.R_new' ho0 (Kd.R_lt (by (with_reducible repeat (first | apply Kd.R_alloc | apply Kd.R_drewN | apply Kd.R_drew)); exact HO_9.out))) (below_size (by repeat (with_reducible first | exact HB.out | apply below_alloc | apply pw_below_drewN | apply below_drew1 | refine below_set ?_ (Aside0.out (by assumption)))))); have n2_ := Aside0.mk (blk_below (g := gb161) (o := .cells #[.int .i64 a1_0, .int .i64 a1_1] 31 (0, 0)) (sm_ BK161) hb); have n3_ := Aside0.mk (blk_below (g := gb162) (o := .cells #[.string a2_0, .string a2_1] 32 (0, 0)) (sm_ BK162) hb); have n4_ := Aside0.mk (Kd.C_below (by repeat (first | (with_reducible exact HR176.out) | (with_reducible refine Kd.C_alloc ?_ _) | (with_reducible refine Kd.C_drewN ?_ _) | (with_reducible refine Kd.C_drew ?_) | exact HR176.out)) hb); have n5_ := Aside0.mk (below_step (by repeat (with_reducible first | exact HB.out | apply below_alloc | apply pw_below_drewN | apply below_drew1 | refine below_set ?_ (Aside0.out (by assumption)))) hb); clear HO_9; clear BK161; clear BK162; clear HR176; clear HB; have HO_9 := n0_; have HO181 := n1_; have BK161 := n2_; have BK162 := n3_; have HR176 := n4_; have HB := n5_; clear n0_ n1_ n2_ n3_ n4_ n5_; (try clear hb); (try clear hb2); (try clear hk); (try clear hi); (try clear ho0)))
              repeat (go_quiet (first | (go_at_call 7; (with_reducible refine (chunk_Get.calls kj33 (strOfNums y173) t177 t178 t179 _ ?mx A41.out).mono ?_); (case mx => (first | (with_reducible exact HMX.out) | exact MX.below HMX.out (by repeat (first | (with_reducible first | exact HB.out | apply below_alloc | apply pw_below_drewN | apply below_drew1 | refine below_set ?_ (Aside0.out (by assumption))) | exact HB.out)) | (repeat (first | exact HMX.out | refine MX.drewN ?_ _)))); rintro e w45 ⟨v180, rfl, ho0, hb⟩; have n0_ := Aside0.mk (Kd.R_elder' (by (with_reducible repeat (first | apply Kd.R_alloc | apply Kd.R_drewN | apply Kd.R_drew)); exact HO_9.out) (Kd.R_base ho0) hb); have n1_ := Aside0.mk (Kd.R_lower (Kd.R_new' ho0 (Kd.R_lt (by (with_reducible repeat (first | apply Kd.R_alloc | apply Kd.R_drewN | apply Kd.R_drew)); exact HO_9.out))) (below_size (by repeat (with_reducible first | exact HB.out | apply below_alloc | apply pw_below_drewN | apply below_drew1 | refine below_set ?_ (Aside0.out (by assumption)))))); have n2_ := Aside0.mk (blk_below (g := gb161) (o := .cells #[.int .i64 a1_0, .int .i64 a1_1] 31 (0, 0)) (sm_ BK161) hb); have n3_ := Aside0.mk (blk_below (g := gb162) (o := .cells #[.string a2_0, .string a2_1] 32 (0, 0)) (sm_ BK162) hb); have n4_ := Aside0.mk (Kd.C_below (by repeat (first | (with_reducible exact HR176.out) | (with_reducible refine Kd.C_alloc ?_ _) | (with_reducible refine Kd.C_drewN ?_ _) | (with_reducible refine Kd.C_drew ?_) | exact HR176.out)) hb); have n5_ := Aside0.mk (below_step (by repeat (with_reducible first | exact HB.out | apply below_alloc | apply pw_below_drewN | apply below_drew1 | refine below_set ?_ (Aside0.out (by assumption)))) hb); clear HO_9; clear BK161; clear BK162; clear HR176; clear HB; have HO_9 := n0_; have HO181 := n1_; have BK161 := n2_; have BK162 := n3_; have HR176 := n4_; have HB := n5_; clear n0_ n1_ n2_ n3_ n4_ n5_; (try clear hb); (try clear hb2); (try clear hk); (try clear hi); (try clear ho0))); go_upto_region 12 with (first | (go_at_call 7; (with_reducible refine (chunk_Get.calls kj33 (strOfNums y173) t177 t178 t179 _ ?mx A41.out).mono ?_); (case mx => (first | (with_reducible exact HMX.out) | exact MX.below HMX.out (by repeat (first | (with_reducible first | exact HB.out | apply below_alloc | apply pw_below_drewN | apply below_drew1 | refine below_set ?_ (Aside0.out (by assumption))) | exact HB.out)) | (repeat (first | exact HMX.out | refine MX.drewN ?_ _)))); rintro e w45 ⟨v180, rfl, ho0, hb⟩; have n0_ := Aside0.mk (Kd.R_elder' (by (with_reducible repeat (first | apply Kd.R_alloc | apply Kd.R_drewN | apply Kd.R_drew)); exact HO_9.out) (Kd.R_base ho0) hb); have n1_ := Aside0.mk (Kd.R_lower (Kd.R_new' ho0 (Kd.R_lt (by (with_reducible repeat (first | apply Kd.R_alloc | apply Kd.R_drewN | apply Kd.R_drew)); exact HO_9.out))) (below_size (by repeat (with_reducible first | exact HB.out | apply below_alloc | apply pw_below_drewN | apply below_drew1 | refine below_set ?_ (Aside0.out (by assumption)))))); have n2_ := Aside0.mk (blk_below (g := gb161) (o := .cells #[.int .i64 a1_0, .int .i64 a1_1] 31 (0, 0)) (sm_ BK161) hb); have n3_ := Aside0.mk (blk_below (g := gb162) (o := .cells #[.string a2_0, .string a2_1] 32 (0, 0)) (sm_ BK162) hb); have n4_ := Aside0.mk (Kd.C_below (by repeat (first | (with_reducible exact HR176.out) | (with_reducible refine Kd.C_alloc ?_ _) | (with_reducible refine Kd.C_drewN ?_ _) | (with_reducible refine Kd.C_drew ?_) | exact HR176.out)) hb); have n5_ := Aside0.mk (below_step (by repeat (with_reducible first | exact HB.out | apply below_alloc | apply pw_below_drewN | apply below_drew1 | refine below_set ?_ (Aside0.out (by assumption)))) hb); clear HO_9; clear BK161; clear BK162; clear HR176; clear HB; have HO_9 := n0_; have HO181 := n1_; have BK161 := n2_; have BK162 := n3_; have HR176 := n4_; have HB := n5_; clear n0_ n1_ n2_ n3_ n4_ n5_; (try clear hb); (try clear hb2); (try clear hk); (try clear hi); (try clear ho0))))
              (try simp only [Act.put, List.setIfInBounds_toArray, List.set_cons_zero, List.set_cons_succ])
              go_cut [112] (fun v112 wc => ∃ (kq : Nat) (x112_41 : Bool), v112 = .bool x112_41 ∧ Aside0 (newsreellaw30_ChunkBack.j3 kq a2_0 a2_1 x112_41 = some r) ∧ Aside0 (kq ≤ kj33) ∧ Aside0 (wc.heap[gb161]? = some (.cells #[.int .i64 a1_0, .int .i64 a1_1] 31 (0, 0))) ∧ Aside0 (wc.heap[gb162]? = some (.cells #[.string a2_0, .string a2_1] 32 (0, 0))) ∧ Aside0 (Kd.C (Kd.int .u8) wc Ao37 y173.length y173) ∧ Aside0 (Below w.heap.size w wc))
              case first =>
               have H := HC42.out
               clear HC42
               by_cases c46 : t179 = 11
               ·as_aux_lemma =>
                rw [if_pos c46] at H
                have c46b0 : (t179 == 11) = true := beq_iff_eq.mpr c46
                have c46b1 : (t179 != 11) = false := bne_eq_false_iff_eq.mpr c46
                clear c46
                (first | rw [c46b0] | (simp only [i64_w, i32_w]; rw [c46b0]) | skip)
                by_cases c47 : t178 = 0
                ·as_aux_lemma =>
                 rw [if_pos c47] at H
                 have c47b0 : (t178 == 0) = true := beq_iff_eq.mpr c47
                 have c47b1 : (t178 != 0) = false := bne_eq_false_iff_eq.mpr c47
                 clear c47
                 by_cases c48 : (t177.length : Int) > (l0.length : Int)
                 ·as_aux_lemma =>
                  rw [if_pos c48] at H
                  have c48b0 : decide ((l0.length : Int) < (t177.length : Int)) = true := decide_eq_true c48
                  have c48b1 : decide (l0.length < t177.length) = true := decide_eq_true (Int.ofNat_lt.mp c48)
                  clear c48
                  have H' := Aside0.mk H
                  clear H
                  obtain ⟨Ao49, co49, eo49⟩ := Kd.R_slice HO181.out
                  subst eo49
                  go_wp2
                  repeat (go_quiet (fail); try go_wp2)
                  go_meet
                  case rel => exact ⟨_, (true), (by first | rfl | (simp; done) | (simp [*]; done)), H', ⟨by have := HJ3.out; have := HJ16.out; have := HJ33.out; first | omega | exact Nat.le_refl _⟩, ⟨by (with_reducible repeat first | apply blk_drewN | apply blk_drew | apply blk_alloc); exact BK161.out⟩, ⟨by (with_reducible repeat first | apply blk_drewN | apply blk_drew | apply blk_alloc); exact BK162.out⟩, ⟨by repeat (first | (with_reducible exact HR176.out) | (with_reducible refine Kd.C_alloc ?_ _) | (with_reducible refine Kd.C_drewN ?_ _) | (with_reducible refine Kd.C_drew ?_) | exact HR176.out)⟩, ⟨by repeat (with_reducible first | exact HB.out | apply below_alloc | apply pw_below_drewN | apply below_drew1 | refine below_set ?_ (Aside0.out (by assumption)))⟩⟩
                 ·as_aux_lemma =>
                  rw [if_neg c48] at H
                  have c48b0 : decide ((l0.length : Int) < (t177.length : Int)) = false := decide_eq_false c48
                  have c48b1 : decide (l0.length < t177.length) = false := decide_eq_false (fun h => c48 (Int.ofNat_lt.mpr h))
                  clear c48
                  by_cases c50 : 0 ≤ (t177.length : Int)
                  ·as_aux_lemma =>
                   rw [if_pos c50] at H
                   have c50b0 := eq_true c50
                   have c50b1 : decide (0 ≤ (t177.length : Int)) = true := decide_eq_true c50
                   clear c50
                   by_cases c51 : (t177.length : Int) ≤ (l0.length : Int)
                   ·as_aux_lemma =>
                    rw [if_pos c51] at H
                    have c51b0 := eq_true c51
                    have c51b1 : decide ((t177.length : Int) ≤ (l0.length : Int)) = true := decide_eq_true c51
                    clear c51
                    replace H := Option.bind_eq_some_iff.mp H
                    obtain ⟨t183, A520, H⟩ := H
                    replace H : (newsreellaw30_ChunkBack.j3 kj33 a2_0 a2_1 (!t183)) = some r := H
                    have A52 := Aside0.mk A520
                    clear A520
                    have H' := Aside0.mk H
                    clear H
                    obtain ⟨Ao53, co53, eo53⟩ := Kd.R_slice HO181.out
                    subst eo53
                    obtain ⟨i054, hi054, _, hsz54, _⟩ := info_parts info5
                    obtain ⟨hcut54, hA54, hC54⟩ := print_take_of (P := Tryd.prog) (Value.int .u8) 0 22 5 .i64 Tryd.underlying22 hi054 hsz54 A0 c0 l0 (t177.length : Int) (of_decide_eq_true (by first | (with_reducible assumption) | assumption)) (of_decide_eq_true (by first | (with_reducible assumption) | assumption)) HC0.out
                    have HR182 := Aside0.mk (Kd.C_of_reads (h1 := fun _ => rfl) (hA54 _ (Kd.reads_of_C HR0.out)))
                    have HC182 := Aside0.mk hC54
                    clear hA54 hC54 hi054 hsz54
                    go_wp2_with (first | (go_at_call 9; (try rw [show min t177.length l0.length = (l0.take ((t177.length : Int) : Int).toNat).length by rw [List.length_take, Int.toNat_natCast]]); (with_reducible refine (newsreelref01_Bytes.calls _ _ t177 _ _ (l0.take ((t177.length : Int) : Int).toNat) t183 _ ?side1 ?side2 ?side3 ?side4 A52.out).mono ?_); (case side1 => repeat (first | exact (Kd.R_reads' HO181.out).2.2 | (with_reducible refine Kd.C_alloc ?_ _) | (with_reducible refine Kd.C_drewN ?_ _) | (with_reducible refine Kd.C_drew ?_))); (case side2 => exact (Kd.R_reads' HO181.out).2.1); (case side3 => repeat (first | exact (Kd.C_below HR182.out HB.out) | (with_reducible refine Kd.C_alloc ?_ _) | (with_reducible refine Kd.C_drewN ?_ _) | (with_reducible refine Kd.C_drew ?_))); (case side4 => exact HC182.out); rintro e w' ⟨rfl, ⟨nd, rfl⟩⟩; (try first | exact ⟨rfl, _, World.drewN_drewN _ _ _⟩ | exact ⟨rfl, _, Eq.trans (World.drewN_drewN _ _ _) (congrArg (World.drewN _) (Nat.add_assoc _ _ _))⟩)))
                    repeat (go_quiet (first | (go_at_call 9; (try rw [show min t177.length l0.length = (l0.take ((t177.length : Int) : Int).toNat).length by rw [List.length_take, Int.toNat_natCast]]); (with_reducible refine (newsreelref01_Bytes.calls _ _ t177 _ _ (l0.take ((t177.length : Int) : Int).toNat) t183 _ ?side1 ?side2 ?side3 ?side4 A52.out).mono ?_); (case side1 => repeat (first | exact (Kd.R_reads' HO181.out).2.2 | (with_reducible refine Kd.C_alloc ?_ _) | (with_reducible refine Kd.C_drewN ?_ _) | (with_reducible refine Kd.C_drew ?_))); (case side2 => exact (Kd.R_reads' HO181.out).2.1); (case side3 => repeat (first | exact (Kd.C_below HR182.out HB.out) | (with_reducible refine Kd.C_alloc ?_ _) | (with_reducible refine Kd.C_drewN ?_ _) | (with_reducible refine Kd.C_drew ?_))); (case side4 => exact HC182.out); rintro e w' ⟨rfl, ⟨nd, rfl⟩⟩; (try first | exact ⟨rfl, _, World.drewN_drewN _ _ _⟩ | exact ⟨rfl, _, Eq.trans (World.drewN_drewN _ _ _) (congrArg (World.drewN _) (Nat.add_assoc _ _ _))⟩))); try go_wp2_with (first | (go_at_call 9; (try rw [show min t177.length l0.length = (l0.take ((t177.length : Int) : Int).toNat).length by rw [List.length_take, Int.toNat_natCast]]); (with_reducible refine (newsreelref01_Bytes.calls _ _ t177 _ _ (l0.take ((t177.length : Int) : Int).toNat) t183 _ ?side1 ?side2 ?side3 ?side4 A52.out).mono ?_); (case side1 => repeat (first | exact (Kd.R_reads' HO181.out).2.2 | (with_reducible refine Kd.C_alloc ?_ _) | (with_reducible refine Kd.C_drewN ?_ _) | (with_reducible refine Kd.C_drew ?_))); (case side2 => exact (Kd.R_reads' HO181.out).2.1); (case side3 => repeat (first | exact (Kd.C_below HR182.out HB.out) | (with_reducible refine Kd.C_alloc ?_ _) | (with_reducible refine Kd.C_drewN ?_ _) | (with_reducible refine Kd.C_drew ?_))); (case side4 => exact HC182.out); rintro e w' ⟨rfl, ⟨nd, rfl⟩⟩; (try first | exact ⟨rfl, _, World.drewN_drewN _ _ _⟩ | exact ⟨rfl, _, Eq.trans (World.drewN_drewN _ _ _) (congrArg (World.drewN _) (Nat.add_assoc _ _ _))⟩))))
                    go_meet
                    case rel => exact ⟨_, (!t183), (by first | rfl | (simp; done) | (simp [*]; done)), H', ⟨by have := HJ3.out; have := HJ16.out; have := HJ33.out; first | omega | exact Nat.le_refl _⟩, ⟨by (with_reducible repeat first | apply blk_drewN | apply blk_drew | apply blk_alloc); exact BK161.out⟩, ⟨by (with_reducible repeat first | apply blk_drewN | apply blk_drew | apply blk_alloc); exact BK162.out⟩, ⟨by repeat (first | (with_reducible exact HR176.out) | (with_reducible refine Kd.C_alloc ?_ _) | (with_reducible refine Kd.C_drewN ?_ _) | (with_reducible refine Kd.C_drew ?_) | exact HR176.out)⟩, ⟨by repeat (with_reducible first | exact HB.out | apply below_alloc | apply pw_below_drewN | apply below_drew1 | refine below_set ?_ (Aside0.out (by assumption)))⟩⟩
                   ·as_aux_lemma =>
                    rw [if_neg c51] at H
                    exact absurd H (by simp)
                  ·as_aux_lemma =>
                   rw [if_neg c50] at H
                   exact absurd H (by simp)
                ·as_aux_lemma =>
                 rw [if_neg c47] at H
                 have c47b0 : (t178 == 0) = false := beq_eq_false_iff_ne.mpr c47
                 have c47b1 : (t178 != 0) = true := bne_iff_ne.mpr c47
                 have H' := Aside0.mk H
                 clear H
                 go_wp2
                 repeat (go_quiet (fail); try go_wp2)
                 go_meet
                 case rel => exact ⟨_, (true), (by first | rfl | (simp; done) | (simp [*]; done)), H', ⟨by have := HJ3.out; have := HJ16.out; have := HJ33.out; first | omega | exact Nat.le_refl _⟩, ⟨by (with_reducible repeat first | apply blk_drewN | apply blk_drew | apply blk_alloc); exact BK161.out⟩, ⟨by (with_reducible repeat first | apply blk_drewN | apply blk_drew | apply blk_alloc); exact BK162.out⟩, ⟨by repeat (first | (with_reducible exact HR176.out) | (with_reducible refine Kd.C_alloc ?_ _) | (with_reducible refine Kd.C_drewN ?_ _) | (with_reducible refine Kd.C_drew ?_) | exact HR176.out)⟩, ⟨by repeat (with_reducible first | exact HB.out | apply below_alloc | apply pw_below_drewN | apply below_drew1 | refine below_set ?_ (Aside0.out (by assumption)))⟩⟩
               ·as_aux_lemma =>
                rw [if_neg c46] at H
                have c46b0 : (t179 == 11) = false := beq_eq_false_iff_ne.mpr c46
                have c46b1 : (t179 != 11) = true := bne_iff_ne.mpr c46
                (first | rw [c46b0] | (simp only [i64_w, i32_w]; rw [c46b0]) | skip)
                have H' := Aside0.mk H
                clear H
                go_wp2
                repeat (go_quiet (fail); try go_wp2)
                go_meet
                case rel => exact ⟨_, (true), (by first | rfl | (simp; done) | (simp [*]; done)), H', ⟨by have := HJ3.out; have := HJ16.out; have := HJ33.out; first | omega | exact Nat.le_refl _⟩, ⟨by (with_reducible repeat first | apply blk_drewN | apply blk_drew | apply blk_alloc); exact BK161.out⟩, ⟨by (with_reducible repeat first | apply blk_drewN | apply blk_drew | apply blk_alloc); exact BK162.out⟩, ⟨by repeat (first | (with_reducible exact HR176.out) | (with_reducible refine Kd.C_alloc ?_ _) | (with_reducible refine Kd.C_drewN ?_ _) | (with_reducible refine Kd.C_drew ?_) | exact HR176.out)⟩, ⟨by repeat (with_reducible first | exact HB.out | apply below_alloc | apply pw_below_drewN | apply below_drew1 | refine below_set ?_ (Aside0.out (by assumption)))⟩⟩
              case rest =>
               clear HC42
               (try clear c1); (try clear c2); (try clear p2); (try clear hcv2); (try clear c3); (try clear c4); (try clear q4); (try clear hcv4); (try clear c5); (try clear p6); (try clear c7); (try clear c9); (try clear c9b0); (try clear c9b1); (try clear c10); (try clear c10b0); (try clear c10b1); (try clear c11); (try clear c15); (try clear c15b0); (try clear c15b1); (try clear c15b2); (try clear c18); (try clear hcv21); (try clear c23); (try clear c23b0); (try clear c23b1); (try clear c23b2); (try clear c25); (try clear c25b0); (try clear c25b1); (try clear c26); (try clear c26b0); (try clear c26b1); (try clear c32); (try clear c33); (try clear c33b0); (try clear c33b1); (try clear c33b2); (try clear c35); (try clear c38); (try clear c38b0); (try clear c39); (try clear c39b0); (try clear c39b1); (try clear c40); (try clear c40b0); (try clear c40b1); (try clear q43); (try clear hcv44); (try clear c46); (try clear c46b0); (try clear c46b1); (try clear c47); (try clear c47b0); (try clear c47b1); (try clear c48); (try clear c48b0); (try clear c48b1); (try clear c50); (try clear c50b0); (try clear c50b1); (try clear c51); (try clear c51b0); (try clear c51b1); (try clear hcz19_0); (try clear hcz19_1); (try clear hcz36_0); (try clear hcz36_1); (try clear hcz8_0); (try clear hcz8_1); (try clear hfz19_0); (try clear hfz19_1); (try clear hfz36_0); (try clear hfz36_1); (try clear hfz8_0); (try clear hfz8_1); (try clear p2); (try clear p6); (try clear q43)
               obtain ⟨kq, x112_41, rfl, HA, HJ41, BK161, BK162, HR176, HB⟩ := hcut
               cases kq with
               | zero => exact absurd HA.out (by simp [newsreellaw30_ChunkBack.j3])
               | succ kj41 =>
                have H := HA.out
                clear HA
                simp only [newsreellaw30_ChunkBack.j3] at H
                by_cases c55 : x112_41 = true
                ·as_aux_lemma =>
                 subst c55
                 have H1 : (none) = some r := by rw [if_pos rfl] at H; exact H
                 clear H
                 have H := H1
                 clear H1
                 exact absurd H (by simp)
                ·as_aux_lemma =>
                 replace c55 := Bool.eq_false_iff.mpr c55
                 subst c55
                 have H1 : ((chunk_Get.f kj41 a2_0).bind fun bt184 => (if a2_0.size + a2_1.size ≤ 9223372036854775807 then ((chunk_Get.f kj41 (a2_0 ++ a2_1)).bind fun bt189 => (if bt184.2.2 = 11 then ((newsreellaw30_awake.f kj41).bind fun t194 => (some t194)) else ((newsreelref01_Bytes.f bt184.1 bt189.1).bind fun t195 => (if t195 = true then (if bt184.2.1 = bt189.2.1 then (if bt184.2.2 = bt189.2.2 then ((newsreellaw30_awake.f kj41).bind fun t196 => (some t196)) else (none)) else (none)) else (none))))) else (none))) = some r := by rw [if_neg (show ¬ (false = true) by decide)] at H; exact H
                 clear H
                 have H := H1
                 clear H1
                 replace H := Option.bind_eq_some_iff.mp H
                 obtain ⟨⟨t184, t185, t186⟩, A560, H⟩ := H
                 replace H : (if a2_0.size + a2_1.size ≤ 9223372036854775807 then ((chunk_Get.f kj41 (a2_0 ++ a2_1)).bind fun bt189 => (if t186 = 11 then ((newsreellaw30_awake.f kj41).bind fun t194 => (some t194)) else ((newsreelref01_Bytes.f t184 bt189.1).bind fun t195 => (if t195 = true then (if t185 = bt189.2.1 then (if t186 = bt189.2.2 then ((newsreellaw30_awake.f kj41).bind fun t196 => (some t196)) else (none)) else (none)) else (none))))) else (none)) = some r := H
                 have A56 := Aside0.mk A560
                 clear A560
                 by_cases c57 : a2_0.size + a2_1.size ≤ 9223372036854775807
                 ·as_aux_lemma =>
                  rw [if_pos c57] at H
                  have c57b0 := eq_true c57
                  have c57b1 : decide (a2_0.size + a2_1.size ≤ 9223372036854775807) = true := decide_eq_true c57
                  try have c57b2 : (9223372036854775807 < a2_0.size + a2_1.size) = False := eq_false (Nat.not_lt.2 c57)
                  replace H := Option.bind_eq_some_iff.mp H
                  obtain ⟨⟨t189, t190, t191⟩, A580, H⟩ := H
                  replace H : (if t186 = 11 then ((newsreellaw30_awake.f kj41).bind fun t194 => (some t194)) else ((newsreelref01_Bytes.f t184 t189).bind fun t195 => (if t195 = true then (if t185 = t190 then (if t186 = t191 then ((newsreellaw30_awake.f kj41).bind fun t196 => (some t196)) else (none)) else (none)) else (none)))) = some r := H
                  have A58 := Aside0.mk A580
                  clear A580
                  by_cases c59 : t186 = 11
                  ·as_aux_lemma =>
                   rw [if_pos c59] at H
                   have c59b0 : (t186 == 11) = true := beq_iff_eq.mpr c59
                   have c59b1 : (t186 != 11) = false := bne_eq_false_iff_eq.mpr c59
                   clear c59
                   replace H := Option.bind_eq_some_iff.mp H
                   obtain ⟨t194, A600, H⟩ := H
                   replace H : (some t194) = some r := H
                   have A60 := Aside0.mk A600
                   clear A600
                   obtain rfl := Option.some.inj H
                   go_wp2_with (first | (go_at_call 7; (with_reducible refine (chunk_Get.calls kj41 a2_0 t184 t185 t186 _ ?mx A56.out).mono ?_); (case mx => (first | (with_reducible exact HMX.out) | exact MX.below HMX.out (by repeat (first | (with_reducible first | exact HB.out | apply below_alloc | apply pw_below_drewN | apply below_drew1 | refine below_set ?_ (Aside0.out (by assumption))) | exact HB.out)) | (repeat (first | exact HMX.out | refine MX.drewN ?_ _)))); rintro e w61 ⟨v187, rfl, ho0, hb⟩; have n0_ := Aside0.mk (Kd.R_lower ho0 (below_size (by repeat (with_reducible first | exact HB.out | apply below_alloc | apply pw_below_drewN | apply below_drew1 | refine below_set ?_ (Aside0.out (by assumption)))))); have n1_ := Aside0.mk (blk_below (g := gb161) (o := .cells #[.int .i64 a1_0, .int .i64 a1_1] 31 (0, 0)) (sm_ BK161) hb); have n2_ := Aside0.mk (blk_below (g := gb162) (o := .cells #[.string a2_0, .string a2_1] 32 (0, 0)) (sm_ BK162) hb); have n3_ := Aside0.mk (Kd.C_below (by repeat (first | (with_reducible exact HR176.out) | (with_reducible refine Kd.C_alloc ?_ _) | (with_reducible refine Kd.C_drewN ?_ _) | (with_reducible refine Kd.C_drew ?_) | exact HR176.out)) hb); have n4_ := Aside0.mk (below_step (by repeat (with_reducible first | exact HB.out | apply below_alloc | apply pw_below_drewN | apply below_drew1 | refine below_set ?_ (Aside0.out (by assumption)))) hb); clear BK161; clear BK162; clear HR176; clear HB; have HO188 := n0_; have BK161 := n1_; have BK162 := n2_; have HR176 := n3_; have HB := n4_; clear n0_ n1_ n2_ n3_ n4_; (try clear hb); (try clear hb2); (try clear hk); (try clear hi); (try clear ho0)) | (go_at_call 7; (with_reducible refine (chunk_Get.calls kj41 (a2_0 ++ a2_1) t189 t190 t191 _ ?mx A58.out).mono ?_); (case mx => (first | (with_reducible exact HMX.out) | exact MX.below HMX.out (by repeat (first | (with_reducible first | exact HB.out | apply below_alloc | apply pw_below_drewN | apply below_drew1 | refine below_set ?_ (Aside0.out (by assumption))) | exact HB.out)) | (repeat (first | exact HMX.out | refine MX.drewN ?_ _)))); rintro e w62 ⟨v192, rfl, ho0, hb⟩; have n0_ := Aside0.mk (Kd.R_elder' (by (with_reducible repeat (first | apply Kd.R_alloc | apply Kd.R_drewN | apply Kd.R_drew)); exact HO188.out) (Kd.R_base ho0) hb); have n1_ := Aside0.mk (Kd.R_lower (Kd.R_new' ho0 (Kd.R_lt (by (with_reducible repeat (first | apply Kd.R_alloc | apply Kd.R_drewN | apply Kd.R_drew)); exact HO188.out))) (below_size (by repeat (with_reducible first | exact HB.out | apply below_alloc | apply pw_below_drewN | apply below_drew1 | refine below_set ?_ (Aside0.out (by assumption)))))); have n2_ := Aside0.mk (blk_below (g := gb161) (o := .cells #[.int .i64 a1_0, .int .i64 a1_1] 31 (0, 0)) (sm_ BK161) hb); have n3_ := Aside0.mk (blk_below (g := gb162) (o := .cells #[.string a2_0, .string a2_1] 32 (0, 0)) (sm_ BK162) hb); have n4_ := Aside0.mk (Kd.C_below (by repeat (first | (with_reducible exact HR176.out) | (with_reducible refine Kd.C_alloc ?_ _) | (with_reducible refine Kd.C_drewN ?_ _) | (with_reducible refine Kd.C_drew ?_) | exact HR176.out)) hb); have n5_ := Aside0.mk (below_step (by repeat (with_reducible first | exact HB.out | apply below_alloc | apply pw_below_drewN | apply below_drew1 | refine below_set ?_ (Aside0.out (by assumption)))) hb); clear HO188; clear BK161; clear BK162; clear HR176; clear HB; have HO188 := n0_; have HO193 := n1_; have BK161 := n2_; have BK162 := n3_; have HR176 := n4_; have HB := n5_; clear n0_ n1_ n2_ n3_ n4_ n5_; (try clear hb); (try clear hb2); (try clear hk); (try clear hi); (try clear ho0)) | (go_at_call 6; (with_reducible refine (newsreellaw30_awake.calls kj41  t194 _ ?mx A60.out).mono ?_); (case mx => (first | (with_reducible exact HMX.out) | exact MX.below HMX.out (by repeat (first | (with_reducible first | exact HB.out | apply below_alloc | apply pw_below_drewN | apply below_drew1 | refine below_set ?_ (Aside0.out (by assumption))) | exact HB.out)) | (repeat (first | exact HMX.out | refine MX.drewN ?_ _)))); rintro e w63 ⟨rfl, hb⟩; have n0_ := Aside0.mk (Kd.R_below (by (with_reducible repeat (first | apply Kd.R_alloc | apply Kd.R_drewN | apply Kd.R_drew)); exact HO188.out) hb); have n1_ := Aside0.mk (Kd.R_below (by (with_reducible repeat (first | apply Kd.R_alloc | apply Kd.R_drewN | apply Kd.R_drew)); exact HO193.out) hb); have n2_ := Aside0.mk (blk_below (g := gb161) (o := .cells #[.int .i64 a1_0, .int .i64 a1_1] 31 (0, 0)) (sm_ BK161) hb); have n3_ := Aside0.mk (blk_below (g := gb162) (o := .cells #[.string a2_0, .string a2_1] 32 (0, 0)) (sm_ BK162) hb); have n4_ := Aside0.mk (Kd.C_below (by repeat (first | (with_reducible exact HR176.out) | (with_reducible refine Kd.C_alloc ?_ _) | (with_reducible refine Kd.C_drewN ?_ _) | (with_reducible refine Kd.C_drew ?_) | exact HR176.out)) hb); have n5_ := Aside0.mk (below_step (by repeat (with_reducible first | exact HB.out | apply below_alloc | apply pw_below_drewN | apply below_drew1 | refine below_set ?_ (Aside0.out (by assumption)))) hb); clear HO188; clear HO193; clear BK161; clear BK162; clear HR176; clear HB; have HO188 := n0_; have HO193 := n1_; have BK161 := n2_; have BK162 := n3_; have HR176 := n4_; have HB := n5_; clear n0_ n1_ n2_ n3_ n4_ n5_; (try clear hb); (try clear hb2); (try clear hk); (try clear hi)))
                   repeat (go_quiet (first | (go_at_call 7; (with_reducible refine (chunk_Get.calls kj41 a2_0 t184 t185 t186 _ ?mx A56.out).mono ?_); (case mx => (first | (with_reducible exact HMX.out) | exact MX.below HMX.out (by repeat (first | (with_reducible first | exact HB.out | apply below_alloc | apply pw_below_drewN | apply below_drew1 | refine below_set ?_ (Aside0.out (by assumption))) | exact HB.out)) | (repeat (first | exact HMX.out | refine MX.drewN ?_ _)))); rintro e w61 ⟨v187, rfl, ho0, hb⟩; have n0_ := Aside0.mk (Kd.R_lower ho0 (below_size (by repeat (with_reducible first | exact HB.out | apply below_alloc | apply pw_below_drewN | apply below_drew1 | refine below_set ?_ (Aside0.out (by assumption)))))); have n1_ := Aside0.mk (blk_below (g := gb161) (o := .cells #[.int .i64 a1_0, .int .i64 a1_1] 31 (0, 0)) (sm_ BK161) hb); have n2_ := Aside0.mk (blk_below (g := gb162) (o := .cells #[.string a2_0, .string a2_1] 32 (0, 0)) (sm_ BK162) hb); have n3_ := Aside0.mk (Kd.C_below (by repeat (first | (with_reducible exact HR176.out) | (with_reducible refine Kd.C_alloc ?_ _) | (with_reducible refine Kd.C_drewN ?_ _) | (with_reducible refine Kd.C_drew ?_) | exact HR176.out)) hb); have n4_ := Aside0.mk (below_step (by repeat (with_reducible first | exact HB.out | apply below_alloc | apply pw_below_drewN | apply below_drew1 | refine below_set ?_ (Aside0.out (by assumption)))) hb); clear BK161; clear BK162; clear HR176; clear HB; have HO188 := n0_; have BK161 := n1_; have BK162 := n2_; have HR176 := n3_; have HB := n4_; clear n0_ n1_ n2_ n3_ n4_; (try clear hb); (try clear hb2); (try clear hk); (try clear hi); (try clear ho0)) | (go_at_call 7; (with_reducible refine (chunk_Get.calls kj41 (a2_0 ++ a2_1) t189 t190 t191 _ ?mx A58.out).mono ?_); (case mx => (first | (with_reducible exact HMX.out) | exact MX.below HMX.out (by repeat (first | (with_reducible first | exact HB.out | apply below_alloc | apply pw_below_drewN | apply below_drew1 | refine below_set ?_ (Aside0.out (by assumption))) | exact HB.out)) | (repeat (first | exact HMX.out | refine MX.drewN ?_ _)))); rintro e w62 ⟨v192, rfl, ho0, hb⟩; have n0_ := Aside0.mk (Kd.R_elder' (by (with_reducible repeat (first | apply Kd.R_alloc | apply Kd.R_drewN | apply Kd.R_drew)); exact HO188.out) (Kd.R_base ho0) hb); have n1_ := Aside0.mk (Kd.R_lower (Kd.R_new' ho0 (Kd.R_lt (by (with_reducible repeat (first | apply Kd.R_alloc | apply Kd.R_drewN | apply Kd.R_drew)); exact HO188.out))) (below_size (by repeat (with_reducible first | exact HB.out | apply below_alloc | apply pw_below_drewN | apply below_drew1 | refine below_set ?_ (Aside0.out (by assumption)))))); have n2_ := Aside0.mk (blk_below (g := gb161) (o := .cells #[.int .i64 a1_0, .int .i64 a1_1] 31 (0, 0)) (sm_ BK161) hb); have n3_ := Aside0.mk (blk_below (g := gb162) (o := .cells #[.string a2_0, .string a2_1] 32 (0, 0)) (sm_ BK162) hb); have n4_ := Aside0.mk (Kd.C_below (by repeat (first | (with_reducible exact HR176.out) | (with_reducible refine Kd.C_alloc ?_ _) | (with_reducible refine Kd.C_drewN ?_ _) | (with_reducible refine Kd.C_drew ?_) | exact HR176.out)) hb); have n5_ := Aside0.mk (below_step (by repeat (with_reducible first | exact HB.out | apply below_alloc | apply pw_below_drewN | apply below_drew1 | refine below_set ?_ (Aside0.out (by assumption)))) hb); clear HO188; clear BK161; clear BK162; clear HR176; clear HB; have HO188 := n0_; have HO193 := n1_; have BK161 := n2_; have BK162 := n3_; have HR176 := n4_; have HB := n5_; clear n0_ n1_ n2_ n3_ n4_ n5_; (try clear hb); (try clear hb2); (try clear hk); (try clear hi); (try clear ho0)) | (go_at_call 6; (with_reducible refine (newsreellaw30_awake.calls kj41  t194 _ ?mx A60.out).mono ?_); (case mx => (first | (with_reducible exact HMX.out) | exact MX.below HMX.out (by repeat (first | (with_reducible first | exact HB.out | apply below_alloc | apply pw_below_drewN | apply below_drew1 | refine below_set ?_ (Aside0.out (by assumption))) | exact HB.out)) | (repeat (first | exact HMX.out | refine MX.drewN ?_ _)))); rintro e w63 ⟨rfl, hb⟩; have n0_ := Aside0.mk (Kd.R_below (by (with_reducible repeat (first | apply Kd.R_alloc | apply Kd.R_drewN | apply Kd.R_drew)); exact HO188.out) hb); have n1_ := Aside0.mk (Kd.R_below (by (with_reducible repeat (first | apply Kd.R_alloc | apply Kd.R_drewN | apply Kd.R_drew)); exact HO193.out) hb); have n2_ := Aside0.mk (blk_below (g := gb161) (o := .cells #[.int .i64 a1_0, .int .i64 a1_1] 31 (0, 0)) (sm_ BK161) hb); have n3_ := Aside0.mk (blk_below (g := gb162) (o := .cells #[.string a2_0, .string a2_1] 32 (0, 0)) (sm_ BK162) hb); have n4_ := Aside0.mk (Kd.C_below (by repeat (first | (with_reducible exact HR176.out) | (with_reducible refine Kd.C_alloc ?_ _) | (with_reducible refine Kd.C_drewN ?_ _) | (with_reducible refine Kd.C_drew ?_) | exact HR176.out)) hb); have n5_ := Aside0.mk (below_step (by repeat (with_reducible first | exact HB.out | apply below_alloc | apply pw_below_drewN | apply below_drew1 | refine below_set ?_ (Aside0.out (by assumption)))) hb); clear HO188; clear HO193; clear BK161; clear BK162; clear HR176; clear HB; have HO188 := n0_; have HO193 := n1_; have BK161 := n2_; have BK162 := n3_; have HR176 := n4_; have HB := n5_; clear n0_ n1_ n2_ n3_ n4_ n5_; (try clear hb); (try clear hb2); (try clear hk); (try clear hi))); try go_wp2_with (first | (go_at_call 7; (with_reducible refine (chunk_Get.calls kj41 a2_0 t184 t185 t186 _ ?mx A56.out).mono ?_); (case mx => (first | (with_reducible exact HMX.out) | exact MX.below HMX.out (by repeat (first | (with_reducible first | exact HB.out | apply below_alloc | apply pw_below_drewN | apply below_drew1 | refine below_set ?_ (Aside0.out (by assumption))) | exact HB.out)) | (repeat (first | exact HMX.out | refine MX.drewN ?_ _)))); rintro e w61 ⟨v187, rfl, ho0, hb⟩; have n0_ := Aside0.mk (Kd.R_lower ho0 (below_size (by repeat (with_reducible first | exact HB.out | apply below_alloc | apply pw_below_drewN | apply below_drew1 | refine below_set ?_ (Aside0.out (by assumption)))))); have n1_ := Aside0.mk (blk_below (g := gb161) (o := .cells #[.int .i64 a1_0, .int .i64 a1_1] 31 (0, 0)) (sm_ BK161) hb); have n2_ := Aside0.mk (blk_below (g := gb162) (o := .cells #[.string a2_0, .string a2_1] 32 (0, 0)) (sm_ BK162) hb); have n3_ := Aside0.mk (Kd.C_below (by repeat (first | (with_reducible exact HR176.out) | (with_reducible refine Kd.C_alloc ?_ _) | (with_reducible refine Kd.C_drewN ?_ _) | (with_reducible refine Kd.C_drew ?_) | exact HR176.out)) hb); have n4_ := Aside0.mk (below_step (by repeat (with_reducible first | exact HB.out | apply below_alloc | apply pw_below_drewN | apply below_drew1 | refine below_set ?_ (Aside0.out (by assumption)))) hb); clear BK161; clear BK162; clear HR176; clear HB; have HO188 := n0_; have BK161 := n1_; have BK162 := n2_; have HR176 := n3_; have HB := n4_; clear n0_ n1_ n2_ n3_ n4_; (try clear hb); (try clear hb2); (try clear hk); (try clear hi); (try clear ho0)) | (go_at_call 7; (with_reducible refine (chunk_Get.calls kj41 (a2_0 ++ a2_1) t189 t190 t191 _ ?mx A58.out).mono ?_); (case mx => (first | (with_reducible exact HMX.out) | exact MX.below HMX.out (by repeat (first | (with_reducible first | exact HB.out | apply below_alloc | apply pw_below_drewN | apply below_drew1 | refine below_set ?_ (Aside0.out (by assumption))) | exact HB.out)) | (repeat (first | exact HMX.out | refine MX.drewN ?_ _)))); rintro e w62 ⟨v192, rfl, ho0, hb⟩; have n0_ := Aside0.mk (Kd.R_elder' (by (with_reducible repeat (first | apply Kd.R_alloc | apply Kd.R_drewN | apply Kd.R_drew)); exact HO188.out) (Kd.R_base ho0) hb); have n1_ := Aside0.mk (Kd.R_lower (Kd.R_new' ho0 (Kd.R_lt (by (with_reducible repeat (first | apply Kd.R_alloc | apply Kd.R_drewN | apply Kd.R_drew)); exact HO188.out))) (below_size (by repeat (with_reducible first | exact HB.out | apply below_alloc | apply pw_below_drewN | apply below_drew1 | refine below_set ?_ (Aside0.out (by assumption)))))); have n2_ := Aside0.mk (blk_below (g := gb161) (o := .cells #[.int .i64 a1_0, .int .i64 a1_1] 31 (0, 0)) (sm_ BK161) hb); have n3_ := Aside0.mk (blk_below (g := gb162) (o := .cells #[.string a2_0, .string a2_1] 32 (0, 0)) (sm_ BK162) hb); have n4_ := Aside0.mk (Kd.C_below (by repeat (first | (with_reducible exact HR176.out) | (with_reducible refine Kd.C_alloc ?_ _) | (with_reducible refine Kd.C_drewN ?_ _) | (with_reducible refine Kd.C_drew ?_) | exact HR176.out)) hb); have n5_ := Aside0.mk (below_step (by repeat (with_reducible first | exact HB.out | apply below_alloc | apply pw_below_drewN | apply below_drew1 | refine below_set ?_ (Aside0.out (by assumption)))) hb); clear HO188; clear BK161; clear BK162; clear HR176; clear HB; have HO188 := n0_; have HO193 := n1_; have BK161 := n2_; have BK162 := n3_; have HR176 := n4_; have HB := n5_; clear n0_ n1_ n2_ n3_ n4_ n5_; (try clear hb); (try clear hb2); (try clear hk); (try clear hi); (try clear ho0)) | (go_at_call 6; (with_reducible refine (newsreellaw30_awake.calls kj41  t194 _ ?mx A60.out).mono ?_); (case mx => (first | (with_reducible exact HMX.out) | exact MX.below HMX.out (by repeat (first | (with_reducible first | exact HB.out | apply below_alloc | apply pw_below_drewN | apply below_drew1 | refine below_set ?_ (Aside0.out (by assumption))) | exact HB.out)) | (repeat (first | exact HMX.out | refine MX.drewN ?_ _)))); rintro e w63 ⟨rfl, hb⟩; have n0_ := Aside0.mk (Kd.R_below (by (with_reducible repeat (first | apply Kd.R_alloc | apply Kd.R_drewN | apply Kd.R_drew)); exact HO188.out) hb); have n1_ := Aside0.mk (Kd.R_below (by (with_reducible repeat (first | apply Kd.R_alloc | apply Kd.R_drewN | apply Kd.R_drew)); exact HO193.out) hb); have n2_ := Aside0.mk (blk_below (g := gb161) (o := .cells #[.int .i64 a1_0, .int .i64 a1_1] 31 (0, 0)) (sm_ BK161) hb); have n3_ := Aside0.mk (blk_below (g := gb162) (o := .cells #[.string a2_0, .string a2_1] 32 (0, 0)) (sm_ BK162) hb); have n4_ := Aside0.mk (Kd.C_below (by repeat (first | (with_reducible exact HR176.out) | (with_reducible refine Kd.C_alloc ?_ _) | (with_reducible refine Kd.C_drewN ?_ _) | (with_reducible refine Kd.C_drew ?_) | exact HR176.out)) hb); have n5_ := Aside0.mk (below_step (by repeat (with_reducible first | exact HB.out | apply below_alloc | apply pw_below_drewN | apply below_drew1 | refine below_set ?_ (Aside0.out (by assumption)))) hb); clear HO188; clear HO193; clear BK161; clear BK162; clear HR176; clear HB; have HO188 := n0_; have HO193 := n1_; have BK161 := n2_; have BK162 := n3_; have HR176 := n4_; have HB := n5_; clear n0_ n1_ n2_ n3_ n4_ n5_; (try clear hb); (try clear hb2); (try clear hk); (try clear hi))))
                   go_ret
                   exact ⟨by first | rfl | (simp [errW_none, errW_some] <;> rfl) | (simp [*, errW_none, errW_some] <;> rfl), by repeat (with_reducible first | exact HB.out | apply below_alloc | apply pw_below_drewN | apply below_drew1 | refine below_set ?_ (Aside0.out (by assumption)))⟩
                  ·as_aux_lemma =>
                   rw [if_neg c59] at H
                   have c59b0 : (t186 == 11) = false := beq_eq_false_iff_ne.mpr c59
                   have c59b1 : (t186 != 11) = true := bne_iff_ne.mpr c59
                   replace H := Option.bind_eq_some_iff.mp H
                   obtain ⟨t195, A640, H⟩ := H
                   replace H : (if t195 = true then (if t185 = t190 then (if t186 = t191 then ((newsreellaw30_awake.f kj41).bind fun t196 => (some t196)) else (none)) else (none)) else (none)) = some r := H
                   have A64 := Aside0.mk A640
                   clear A640
                   by_cases c65 : t195 = true
                   ·as_aux_lemma =>
                    subst c65
                    have H1 : (if t185 = t190 then (if t186 = t191 then ((newsreellaw30_awake.f kj41).bind fun t196 => (some t196)) else (none)) else (none)) = some r := by rw [if_pos rfl] at H; exact H
                    clear H
                    have H := H1
                    clear H1
                    by_cases c66 : t185 = t190
                    ·as_aux_lemma =>
                     rw [if_pos c66] at H
                     have c66b0 : (t185 == t190) = true := beq_iff_eq.mpr c66
                     have c66b1 : (t185 != t190) = false := bne_eq_false_iff_eq.mpr c66
                     clear c66
                     by_cases c67 : t186 = t191
                     ·as_aux_lemma =>
                      rw [if_pos c67] at H
                      have c67b0 : (t186 == t191) = true := beq_iff_eq.mpr c67
                      have c67b1 : (t186 != t191) = false := bne_eq_false_iff_eq.mpr c67
                      clear c67
                      replace H := Option.bind_eq_some_iff.mp H
                      obtain ⟨t196, A680, H⟩ := H
                      replace H : (some t196) = some r := H
                      have A68 := Aside0.mk A680
                      clear A680
                      obtain rfl := Option.some.inj H
                      go_wp2_with (first | (go_at_call 7; (with_reducible refine (chunk_Get.calls kj41 a2_0 t184 t185 t186 _ ?mx A56.out).mono ?_); (case mx => (first | (with_reducible exact HMX.out) | exact MX.below HMX.out (by repeat (first | (with_reducible first | exact HB.out | apply below_alloc | apply pw_below_drewN | apply below_drew1 | refine below_set ?_ (Aside0.out (by assumption))) | exact HB.out)) | (repeat (first | exact HMX.out | refine MX.drewN ?_ _)))); rintro e w69 ⟨v187, rfl, ho0, hb⟩; have n0_ := Aside0.mk (Kd.R_lower ho0 (below_size (by repeat (with_reducible first | exact HB.out | apply below_alloc | apply pw_below_drewN | apply below_drew1 | refine below_set ?_ (Aside0.out (by assumption)))))); have n1_ := Aside0.mk (blk_below (g := gb161) (o := .cells #[.int .i64 a1_0, .int .i64 a1_1] 31 (0, 0)) (sm_ BK161) hb); have n2_ := Aside0.mk (blk_below (g := gb162) (o := .cells #[.string a2_0, .string a2_1] 32 (0, 0)) (sm_ BK162) hb); have n4_ := Aside0.mk (below_step (by repeat (with_reducible first | exact HB.out | apply below_alloc | apply pw_below_drewN | apply below_drew1 | refine below_set ?_ (Aside0.out (by assumption)))) hb); clear BK161; clear BK162; clear HB; have HO188 := n0_; have BK161 := n1_; have BK162 := n2_; have HB := n4_; clear n0_ n1_ n2_ n4_; (try clear hb); (try clear hb2); (try clear hk); (try clear hi); (try clear ho0)) | (go_at_call 7; (with_reducible refine (chunk_Get.calls kj41 (a2_0 ++ a2_1) t189 t190 t191 _ ?mx A58.out).mono ?_); (case mx => (first | (with_reducible exact HMX.out) | exact MX.below HMX.out (by repeat (first | (with_reducible first | exact HB.out | apply below_alloc | apply pw_below_drewN | apply below_drew1 | refine below_set ?_ (Aside0.out (by assumption))) | exact HB.out)) | (repeat (first | exact HMX.out | refine MX.drewN ?_ _)))); rintro e w70 ⟨v192, rfl, ho0, hb⟩; have n0_ := Aside0.mk (Kd.R_elder' (by (with_reducible repeat (first | apply Kd.R_alloc | apply Kd.R_drewN | apply Kd.R_drew)); exact HO188.out) (Kd.R_base ho0) hb); have n1_ := Aside0.mk (Kd.R_lower (Kd.R_new' ho0 (Kd.R_lt (by (with_reducible repeat (first | apply Kd.R_alloc | apply Kd.R_drewN | apply Kd.R_drew)); exact HO188.out))) (below_size (by repeat (with_reducible first | exact HB.out | apply below_alloc | apply pw_below_drewN | apply below_drew1 | refine below_set ?_ (Aside0.out (by assumption)))))); have n2_ := Aside0.mk (blk_below (g := gb161) (o := .cells #[.int .i64 a1_0, .int .i64 a1_1] 31 (0, 0)) (sm_ BK161) hb); have n3_ := Aside0.mk (blk_below (g := gb162) (o := .cells #[.string a2_0, .string a2_1] 32 (0, 0)) (sm_ BK162) hb); have n5_ := Aside0.mk (below_step (by repeat (with_reducible first | exact HB.out | apply below_alloc | apply pw_below_drewN | apply below_drew1 | refine below_set ?_ (Aside0.out (by assumption)))) hb); clear HO188; clear BK161; clear BK162; clear HB; have HO188 := n0_; have HO193 := n1_; have BK161 := n2_; have BK162 := n3_; have HB := n5_; clear n0_ n1_ n2_ n3_ n5_; (try clear hb); (try clear hb2); (try clear hk); (try clear hi); (try clear ho0); obtain ⟨Ao71, co71, eo71⟩ := Kd.R_slice HO188.out; subst eo71; obtain ⟨Ao72, co72, eo72⟩ := Kd.R_slice HO193.out; subst eo72) | (go_at_call 9; (with_reducible refine (newsreelref01_Bytes.calls _ _ t184 _ _ t189 true _ ?side1 ?side2 ?side3 ?side4 A64.out).mono ?_); (case side1 => repeat (first | exact (Kd.R_reads' HO188.out).2.2 | (with_reducible refine Kd.C_alloc ?_ _) | (with_reducible refine Kd.C_drewN ?_ _) | (with_reducible refine Kd.C_drew ?_))); (case side2 => exact (Kd.R_reads' HO188.out).2.1); (case side3 => repeat (first | exact (Kd.R_reads' HO193.out).2.2 | (with_reducible refine Kd.C_alloc ?_ _) | (with_reducible refine Kd.C_drewN ?_ _) | (with_reducible refine Kd.C_drew ?_))); (case side4 => exact (Kd.R_reads' HO193.out).2.1); rintro e w' ⟨rfl, ⟨nd, rfl⟩⟩; (try first | exact ⟨rfl, _, World.drewN_drewN _ _ _⟩ | exact ⟨rfl, _, Eq.trans (World.drewN_drewN _ _ _) (congrArg (World.drewN _) (Nat.add_assoc _ _ _))⟩)) | (go_at_call 6; (with_reducible refine (newsreellaw30_awake.calls kj41  t196 _ ?mx A68.out).mono ?_); (case mx => (first | (with_reducible exact HMX.out) | exact MX.below HMX.out (by repeat (first | (with_reducible first | exact HB.out | apply below_alloc | apply pw_below_drewN | apply below_drew1 | refine below_set ?_ (Aside0.out (by assumption))) | exact HB.out)) | (repeat (first | exact HMX.out | refine MX.drewN ?_ _)))); rintro e w73 ⟨rfl, hb⟩; have n0_ := Aside0.mk (Kd.R_below (by (with_reducible repeat (first | apply Kd.R_alloc | apply Kd.R_drewN | apply Kd.R_drew)); exact HO188.out) hb); have n1_ := Aside0.mk (Kd.R_below (by (with_reducible repeat (first | apply Kd.R_alloc | apply Kd.R_drewN | apply Kd.R_drew)); exact HO193.out) hb); have n2_ := Aside0.mk (blk_below (g := gb161) (o := .cells #[.int .i64 a1_0, .int .i64 a1_1] 31 (0, 0)) (sm_ BK161) hb); have n3_ := Aside0.mk (blk_below (g := gb162) (o := .cells #[.string a2_0, .string a2_1] 32 (0, 0)) (sm_ BK162) hb); have n5_ := Aside0.mk (below_step (by repeat (with_reducible first | exact HB.out | apply below_alloc | apply pw_below_drewN | apply below_drew1 | refine below_set ?_ (Aside0.out (by assumption)))) hb); clear HO188; clear HO193; clear BK161; clear BK162; clear HB; have HO188 := n0_; have HO193 := n1_; have BK161 := n2_; have BK162 := n3_; have HB := n5_; clear n0_ n1_ n2_ n3_ n5_; (try clear hb); (try clear hb2); (try clear hk); (try clear hi)))
                      repeat (go_quiet (first | (go_at_call 7; (with_reducible refine (chunk_Get.calls kj41 a2_0 t184 t185 t186 _ ?mx A56.out).mono ?_); (case mx => (first | (with_reducible exact HMX.out) | exact MX.below HMX.out (by repeat (first | (with_reducible first | exact HB.out | apply below_alloc | apply pw_below_drewN | apply below_drew1 | refine below_set ?_ (Aside0.out (by assumption))) | exact HB.out)) | (repeat (first | exact HMX.out | refine MX.drewN ?_ _)))); rintro e w69 ⟨v187, rfl, ho0, hb⟩; have n0_ := Aside0.mk (Kd.R_lower ho0 (below_size (by repeat (with_reducible first | exact HB.out | apply below_alloc | apply pw_below_drewN | apply below_drew1 | refine below_set ?_ (Aside0.out (by assumption)))))); have n1_ := Aside0.mk (blk_below (g := gb161) (o := .cells #[.int .i64 a1_0, .int .i64 a1_1] 31 (0, 0)) (sm_ BK161) hb); have n2_ := Aside0.mk (blk_below (g := gb162) (o := .cells #[.string a2_0, .string a2_1] 32 (0, 0)) (sm_ BK162) hb); have n4_ := Aside0.mk (below_step (by repeat (with_reducible first | exact HB.out | apply below_alloc | apply pw_below_drewN | apply below_drew1 | refine below_set ?_ (Aside0.out (by assumption)))) hb); clear BK161; clear BK162; clear HB; have HO188 := n0_; have BK161 := n1_; have BK162 := n2_; have HB := n4_; clear n0_ n1_ n2_ n4_; (try clear hb); (try clear hb2); (try clear hk); (try clear hi); (try clear ho0)) | (go_at_call 7; (with_reducible refine (chunk_Get.calls kj41 (a2_0 ++ a2_1) t189 t190 t191 _ ?mx A58.out).mono ?_); (case mx => (first | (with_reducible exact HMX.out) | exact MX.below HMX.out (by repeat (first | (with_reducible first | exact HB.out | apply below_alloc | apply pw_below_drewN | apply below_drew1 | refine below_set ?_ (Aside0.out (by assumption))) | exact HB.out)) | (repeat (first | exact HMX.out | refine MX.drewN ?_ _)))); rintro e w70 ⟨v192, rfl, ho0, hb⟩; have n0_ := Aside0.mk (Kd.R_elder' (by (with_reducible repeat (first | apply Kd.R_alloc | apply Kd.R_drewN | apply Kd.R_drew)); exact HO188.out) (Kd.R_base ho0) hb); have n1_ := Aside0.mk (Kd.R_lower (Kd.R_new' ho0 (Kd.R_lt (by (with_reducible repeat (first | apply Kd.R_alloc | apply Kd.R_drewN | apply Kd.R_drew)); exact HO188.out))) (below_size (by repeat (with_reducible first | exact HB.out | apply below_alloc | apply pw_below_drewN | apply below_drew1 | refine below_set ?_ (Aside0.out (by assumption)))))); have n2_ := Aside0.mk (blk_below (g := gb161) (o := .cells #[.int .i64 a1_0, .int .i64 a1_1] 31 (0, 0)) (sm_ BK161) hb); have n3_ := Aside0.mk (blk_below (g := gb162) (o := .cells #[.string a2_0, .string a2_1] 32 (0, 0)) (sm_ BK162) hb); have n5_ := Aside0.mk (below_step (by repeat (with_reducible first | exact HB.out | apply below_alloc | apply pw_below_drewN | apply below_drew1 | refine below_set ?_ (Aside0.out (by assumption)))) hb); clear HO188; clear BK161; clear BK162; clear HB; have HO188 := n0_; have HO193 := n1_; have BK161 := n2_; have BK162 := n3_; have HB := n5_; clear n0_ n1_ n2_ n3_ n5_; (try clear hb); (try clear hb2); (try clear hk); (try clear hi); (try clear ho0); obtain ⟨Ao71, co71, eo71⟩ := Kd.R_slice HO188.out; subst eo71; obtain ⟨Ao72, co72, eo72⟩ := Kd.R_slice HO193.out; subst eo72) | (go_at_call 9; (with_reducible refine (newsreelref01_Bytes.calls _ _ t184 _ _ t189 true _ ?side1 ?side2 ?side3 ?side4 A64.out).mono ?_); (case side1 => repeat (first | exact (Kd.R_reads' HO188.out).2.2 | (with_reducible refine Kd.C_alloc ?_ _) | (with_reducible refine Kd.C_drewN ?_ _) | (with_reducible refine Kd.C_drew ?_))); (case side2 => exact (Kd.R_reads' HO188.out).2.1); (case side3 => repeat (first | exact (Kd.R_reads' HO193.out).2.2 | (with_reducible refine Kd.C_alloc ?_ _) | (with_reducible refine Kd.C_drewN ?_ _) | (with_reducible refine Kd.C_drew ?_))); (case side4 => exact (Kd.R_reads' HO193.out).2.1); rintro e w' ⟨rfl, ⟨nd, rfl⟩⟩; (try first | exact ⟨rfl, _, World.drewN_drewN _ _ _⟩ | exact ⟨rfl, _, Eq.trans (World.drewN_drewN _ _ _) (congrArg (World.drewN _) (Nat.add_assoc _ _ _))⟩)) | (go_at_call 6; (with_reducible refine (newsreellaw30_awake.calls kj41  t196 _ ?mx A68.out).mono ?_); (case mx => (first | (with_reducible exact HMX.out) | exact MX.below HMX.out (by repeat (first | (with_reducible first | exact HB.out | apply below_alloc | apply pw_below_drewN | apply below_drew1 | refine below_set ?_ (Aside0.out (by assumption))) | exact HB.out)) | (repeat (first | exact HMX.out | refine MX.drewN ?_ _)))); rintro e w73 ⟨rfl, hb⟩; have n0_ := Aside0.mk (Kd.R_below (by (with_reducible repeat (first | apply Kd.R_alloc | apply Kd.R_drewN | apply Kd.R_drew)); exact HO188.out) hb); have n1_ := Aside0.mk (Kd.R_below (by (with_reducible repeat (first | apply Kd.R_alloc | apply Kd.R_drewN | apply Kd.R_drew)); exact HO193.out) hb); have n2_ := Aside0.mk (blk_below (g := gb161) (o := .cells #[.int .i64 a1_0, .int .i64 a1_1] 31 (0, 0)) (sm_ BK161) hb); have n3_ := Aside0.mk (blk_below (g := gb162) (o := .cells #[.string a2_0, .string a2_1] 32 (0, 0)) (sm_ BK162) hb); have n5_ := Aside0.mk (below_step (by repeat (with_reducible first | exact HB.out | apply below_alloc | apply pw_below_drewN | apply below_drew1 | refine below_set ?_ (Aside0.out (by assumption)))) hb); clear HO188; clear HO193; clear BK161; clear BK162; clear HB; have HO188 := n0_; have HO193 := n1_; have BK161 := n2_; have BK162 := n3_; have HB := n5_; clear n0_ n1_ n2_ n3_ n5_; (try clear hb); (try clear hb2); (try clear hk); (try clear hi))); try go_wp2_with (first | (go_at_call 7; (with_reducible refine (chunk_Get.calls kj41 a2_0 t184 t185 t186 _ ?mx A56.out).mono ?_); (case mx => (first | (with_reducible exact HMX.out) | exact MX.below HMX.out (by repeat (first | (with_reducible first | exact HB.out | apply below_alloc | apply pw_below_drewN | apply below_drew1 | refine below_set ?_ (Aside0.out (by assumption))) | exact HB.out)) | (repeat (first | exact HMX.out | refine MX.drewN ?_ _)))); rintro e w69 ⟨v187, rfl, ho0, hb⟩; have n0_ := Aside0.mk (Kd.R_lower ho0 (below_size (by repeat (with_reducible first | exact HB.out | apply below_alloc | apply pw_below_drewN | apply below_drew1 | refine below_set ?_ (Aside0.out (by assumption)))))); have n1_ := Aside0.mk (blk_below (g := gb161) (o := .cells #[.int .i64 a1_0, .int .i64 a1_1] 31 (0, 0)) (sm_ BK161) hb); have n2_ := Aside0.mk (blk_below (g := gb162) (o := .cells #[.string a2_0, .string a2_1] 32 (0, 0)) (sm_ BK162) hb); have n4_ := Aside0.mk (below_step (by repeat (with_reducible first | exact HB.out | apply below_alloc | apply pw_below_drewN | apply below_drew1 | refine below_set ?_ (Aside0.out (by assumption)))) hb); clear BK161; clear BK162; clear HB; have HO188 := n0_; have BK161 := n1_; have BK162 := n2_; have HB := n4_; clear n0_ n1_ n2_ n4_; (try clear hb); (try clear hb2); (try clear hk); (try clear hi); (try clear ho0)) | (go_at_call 7; (with_reducible refine (chunk_Get.calls kj41 (a2_0 ++ a2_1) t189 t190 t191 _ ?mx A58.out).mono ?_); (case mx => (first | (with_reducible exact HMX.out) | exact MX.below HMX.out (by repeat (first | (with_reducible first | exact HB.out | apply below_alloc | apply pw_below_drewN | apply below_drew1 | refine below_set ?_ (Aside0.out (by assumption))) | exact HB.out)) | (repeat (first | exact HMX.out | refine MX.drewN ?_ _)))); rintro e w70 ⟨v192, rfl, ho0, hb⟩; have n0_ := Aside0.mk (Kd.R_elder' (by (with_reducible repeat (first | apply Kd.R_alloc | apply Kd.R_drewN | apply Kd.R_drew)); exact HO188.out) (Kd.R_base ho0) hb); have n1_ := Aside0.mk (Kd.R_lower (Kd.R_new' ho0 (Kd.R_lt (by (with_reducible repeat (first | apply Kd.R_alloc | apply Kd.R_drewN | apply Kd.R_drew)); exact HO188.out))) (below_size (by repeat (with_reducible first | exact HB.out | apply below_alloc | apply pw_below_drewN | apply below_drew1 | refine below_set ?_ (Aside0.out (by assumption)))))); have n2_ := Aside0.mk (blk_below (g := gb161) (o := .cells #[.int .i64 a1_0, .int .i64 a1_1] 31 (0, 0)) (sm_ BK161) hb); have n3_ := Aside0.mk (blk_below (g := gb162) (o := .cells #[.string a2_0, .string a2_1] 32 (0, 0)) (sm_ BK162) hb); have n5_ := Aside0.mk (below_step (by repeat (with_reducible first | exact HB.out | apply below_alloc | apply pw_below_drewN | apply below_drew1 | refine below_set ?_ (Aside0.out (by assumption)))) hb); clear HO188; clear BK161; clear BK162; clear HB; have HO188 := n0_; have HO193 := n1_; have BK161 := n2_; have BK162 := n3_; have HB := n5_; clear n0_ n1_ n2_ n3_ n5_; (try clear hb); (try clear hb2); (try clear hk); (try clear hi); (try clear ho0); obtain ⟨Ao71, co71, eo71⟩ := Kd.R_slice HO188.out; subst eo71; obtain ⟨Ao72, co72, eo72⟩ := Kd.R_slice HO193.out; subst eo72) | (go_at_call 9; (with_reducible refine (newsreelref01_Bytes.calls _ _ t184 _ _ t189 true _ ?side1 ?side2 ?side3 ?side4 A64.out).mono ?_); (case side1 => repeat (first | exact (Kd.R_reads' HO188.out).2.2 | (with_reducible refine Kd.C_alloc ?_ _) | (with_reducible refine Kd.C_drewN ?_ _) | (with_reducible refine Kd.C_drew ?_))); (case side2 => exact (Kd.R_reads' HO188.out).2.1); (case side3 => repeat (first | exact (Kd.R_reads' HO193.out).2.2 | (with_reducible refine Kd.C_alloc ?_ _) | (with_reducible refine Kd.C_drewN ?_ _) | (with_reducible refine Kd.C_drew ?_))); (case side4 => exact (Kd.R_reads' HO193.out).2.1); rintro e w' ⟨rfl, ⟨nd, rfl⟩⟩; (try first | exact ⟨rfl, _, World.drewN_drewN _ _ _⟩ | exact ⟨rfl, _, Eq.trans (World.drewN_drewN _ _ _) (congrArg (World.drewN _) (Nat.add_assoc _ _ _))⟩)) | (go_at_call 6; (with_reducible refine (newsreellaw30_awake.calls kj41  t196 _ ?mx A68.out).mono ?_); (case mx => (first | (with_reducible exact HMX.out) | exact MX.below HMX.out (by repeat (first | (with_reducible first | exact HB.out | apply below_alloc | apply pw_below_drewN | apply below_drew1 | refine below_set ?_ (Aside0.out (by assumption))) | exact HB.out)) | (repeat (first | exact HMX.out | refine MX.drewN ?_ _)))); rintro e w73 ⟨rfl, hb⟩; have n0_ := Aside0.mk (Kd.R_below (by (with_reducible repeat (first | apply Kd.R_alloc | apply Kd.R_drewN | apply Kd.R_drew)); exact HO188.out) hb); have n1_ := Aside0.mk (Kd.R_below (by (with_reducible repeat (first | apply Kd.R_alloc | apply Kd.R_drewN | apply Kd.R_drew)); exact HO193.out) hb); have n2_ := Aside0.mk (blk_below (g := gb161) (o := .cells #[.int .i64 a1_0, .int .i64 a1_1] 31 (0, 0)) (sm_ BK161) hb); have n3_ := Aside0.mk (blk_below (g := gb162) (o := .cells #[.string a2_0, .string a2_1] 32 (0, 0)) (sm_ BK162) hb); have n5_ := Aside0.mk (below_step (by repeat (with_reducible first | exact HB.out | apply below_alloc | apply pw_below_drewN | apply below_drew1 | refine below_set ?_ (Aside0.out (by assumption)))) hb); clear HO188; clear HO193; clear BK161; clear BK162; clear HB; have HO188 := n0_; have HO193 := n1_; have BK161 := n2_; have BK162 := n3_; have HB := n5_; clear n0_ n1_ n2_ n3_ n5_; (try clear hb); (try clear hb2); (try clear hk); (try clear hi))))
                      go_ret
                      exact ⟨by first | rfl | (simp [errW_none, errW_some] <;> rfl) | (simp [*, errW_none, errW_some] <;> rfl), by repeat (with_reducible first | exact HB.out | apply below_alloc | apply pw_below_drewN | apply below_drew1 | refine below_set ?_ (Aside0.out (by assumption)))⟩
                     ·as_aux_lemma =>
                      rw [if_neg c67] at H
                      exact absurd H (by simp)
                    ·as_aux_lemma =>
                     rw [if_neg c66] at H
                     exact absurd H (by simp)
                   ·as_aux_lemma =>
                    replace c65 := Bool.eq_false_iff.mpr c65
                    subst c65
                    have H1 : (none) = some r := by rw [if_neg (show ¬ (false = true) by decide)] at H; exact H
                    clear H
                    have H := H1
                    clear H1
                    exact absurd H (by simp)
                 ·as_aux_lemma =>
                  rw [if_neg c57] at H
                  exact absurd H (by simp)
             ·as_aux_lemma =>
              rw [if_neg c40] at H
              exact absurd H (by simp)
            ·as_aux_lemma =>
             rw [if_neg c39] at H
             exact absurd H (by simp)
     ·as_aux_lemma =>
      rw [if_neg c15] at H
      exact absurd H (by simp)

def gd31 (x : S31) : Prop := ((Lit.int .i64 x.f0).wf = true) ∧ ((Lit.int .i64 x.f1).wf = true)
def gd32 (x : S32) : Prop := (x.f0.size ≤ 140737488351232) ∧ (x.f1.size ≤ 140737488351232)
/-- THE ONE PURE STATEMENT of newsreellaw30_ChunkBack. -/
def newsreellaw30_ChunkBack.Pure : Prop := ∀ (x0 : List Int) (x1 : S31) (x2 : S32), (x0.length ≤ maxLen ∧ x0.length * 1 ≤ 140737488351232 ∧ ∀ e0 ∈ x0, (Lit.int .u8 e0).wf = true) → (gd31 x1) → (gd32 x2) → ∃ k, newsreellaw30_ChunkBack.f k x0 x1.f0 x1.f1 x2.f0 x2.f1 = some true

end Go.Proofs.YtnojbokkmjhknaaDoor.PChunkBack
