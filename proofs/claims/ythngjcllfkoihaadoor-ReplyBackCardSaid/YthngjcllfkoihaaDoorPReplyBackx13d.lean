-- MADE BY xprint.py of this repository, out of the seat's translation, by the kit's print and this repository's hands
import Derived.Test.YthngjcllfkoihaaDoorPReplyBackx0
import Derived.Test.YthngjcllfkoihaaDoorPReplyBackx1
import Derived.Test.YthngjcllfkoihaaDoorPReplyBackx2
import Derived.Test.YthngjcllfkoihaaDoorPReplyBackx5
import Derived.Test.YthngjcllfkoihaaDoorPReplyBackx11
import Derived.Test.YthngjcllfkoihaaDoorPReplyBackx12
namespace Go.Proofs.YthngjcllfkoihaaDoor.PReplyBack
open Go.RowKit Go.Proofs.YthngjcllfkoihaaDoorW.PrintWords Go.Proofs.YthngjcllfkoihaaDoorW.PrintLast Go.Proofs.YthngjcllfkoihaaDoorW.PrintMore
attribute [local go_sem] max2_int min2_int max_two min_two max_three min_three max_four min_four   -- for this text's walks alone
set_option linter.unusedVariables false
set_option linter.unusedSimpArgs false

attribute [local go_sem high] eqA38
open Sq Hand
mutual
def newsreellaw32_ReplyBack.j0 : Nat → Int → Int → Bool → Int → List (S38) → List Int → Bool → Option (Bool)
  | 0, _, _, _, _, _, _, _ => none
  | k + 1, x1, x2, x23, x301000, x301001, x301002, x301003 => if x23 = true then ((newsreellaw32_awake.f k).bind fun t303 => (some t303)) else ((reply_Put.f k x301000 x301001 x301002 x301003 x1).bind fun bt304 => (if bt304.2 = 0 then ((reply_Get.f k bt304.1).bind fun bt309 => ((newsreelref32_Bare.f x301000).bind fun t319 => (if t319 = true then (if bt309.2.2.2.2 = 0 then (if bt309.1 = x301000 then (if bt309.2.2.2.1 = true then ((newsreelref01_Bytes.f bt309.2.2.1 ([] : List Int)).bind fun t320 => (if t320 = true then (newsreellaw32_ReplyBack.j1 k x2 bt304.1 ([] : List Int) (decide ((bt309.2.1.length : Int) < (x301001.length : Int))) x301000 x301001 x301002 x301003 bt309.1 bt309.2.1 bt309.2.2.1 bt309.2.2.2.1) else (newsreellaw32_ReplyBack.j1 k x2 bt304.1 ([] : List Int) true x301000 x301001 x301002 x301003 bt309.1 bt309.2.1 bt309.2.2.1 bt309.2.2.2.1))) else (newsreellaw32_ReplyBack.j1 k x2 bt304.1 ([] : List Int) true x301000 x301001 x301002 x301003 bt309.1 bt309.2.1 bt309.2.2.1 bt309.2.2.2.1)) else (newsreellaw32_ReplyBack.j1 k x2 bt304.1 ([] : List Int) true x301000 x301001 x301002 x301003 bt309.1 bt309.2.1 bt309.2.2.1 bt309.2.2.2.1)) else (newsreellaw32_ReplyBack.j1 k x2 bt304.1 ([] : List Int) true x301000 x301001 x301002 x301003 bt309.1 bt309.2.1 bt309.2.2.1 bt309.2.2.2.1)) else (if bt309.2.2.2.2 = 0 then (if bt309.1 = x301000 then (if bt309.2.2.2.1 = true then ((newsreelref01_Bytes.f bt309.2.2.1 x301002).bind fun t345 => (if t345 = true then (newsreellaw32_ReplyBack.j3 k x2 bt304.1 x301002 (decide ((bt309.2.1.length : Int) < (x301001.length : Int))) x301000 x301001 x301002 x301003 bt309.1 bt309.2.1 bt309.2.2.1 bt309.2.2.2.1) else (newsreellaw32_ReplyBack.j3 k x2 bt304.1 x301002 true x301000 x301001 x301002 x301003 bt309.1 bt309.2.1 bt309.2.2.1 bt309.2.2.2.1))) else (newsreellaw32_ReplyBack.j3 k x2 bt304.1 x301002 true x301000 x301001 x301002 x301003 bt309.1 bt309.2.1 bt309.2.2.1 bt309.2.2.2.1)) else (newsreellaw32_ReplyBack.j3 k x2 bt304.1 x301002 true x301000 x301001 x301002 x301003 bt309.1 bt309.2.1 bt309.2.2.1 bt309.2.2.2.1)) else (newsreellaw32_ReplyBack.j3 k x2 bt304.1 x301002 true x301000 x301001 x301002 x301003 bt309.1 bt309.2.1 bt309.2.2.1 bt309.2.2.2.1))))) else (if (bt304.1.length : Int) = 0 then ((newsreellaw32_awake.f k).bind fun t308 => (some t308)) else (none))))
def newsreellaw32_ReplyBack.j1 : Nat → Int → List Int → List Int → Bool → Int → List (S38) → List Int → Bool → Int → List (S38) → List Int → Bool → Option (Bool)
  | 0, _, _, _, _, _, _, _, _, _, _, _, _ => none
  | k + 1, x2, x7, x11, x78, x301000, x301001, x301002, x301003, x319000, x319001, x319002, x319003 => if x78 = true then (none) else (newsreellaw32_ReplyBack.l0 k x2 x7 x11 0 x301000 x301001 x301002 x301003 x319000 x319001 x319002 x319003)
def newsreellaw32_ReplyBack.l0 : Nat → Int → List Int → List Int → Int → Int → List (S38) → List Int → Bool → Int → List (S38) → List Int → Bool → Option (Bool)
  | 0, _, _, _, _, _, _, _, _, _, _, _, _ => none
  | k + 1, x2, x7, x11, x12, x301000, x301001, x301002, x301003, x319000, x319001, x319002, x319003 => if x12 < (x301001.length : Int) then (if 0 ≤ x12 then (if x12 < (x319001.length : Int) then (if (!((((rd_T38 x319001 x12).f0).toList) == (((rd_T38 x301001 x12).f0).toList)) || (!((((rd_T38 x319001 x12).f1).toList) == (((rd_T38 x301001 x12).f1).toList)))) = true then (none) else (newsreellaw32_ReplyBack.l0 k x2 x7 x11 (wrap64 (x12 + 1)) x301000 x301001 x301002 x301003 x319000 x319001 x319002 x319003)) else (none)) else (none)) else (if (wrap64 ((x7.length : Int) + 1)) = 0 then (none) else (if 0 ≤ (Int.tmod (wrap64 (x2)) (wrap64 ((x7.length : Int) + 1))) then (if (Int.tmod (wrap64 (x2)) (wrap64 ((x7.length : Int) + 1))) ≤ (x7.length : Int) then ((reply_Get.f k (x7.take ((Int.tmod (wrap64 (x2)) (wrap64 ((x7.length : Int) + 1))) : Int).toNat)).bind fun bt328 => (if bt328.2.2.2.2 = 0 then (if (bt328.2.2.1.length : Int) ≤ (x11.length : Int) then (if 0 ≤ (bt328.2.2.1.length : Int) then ((newsreelref01_Bytes.f bt328.2.2.1 (x11.take ((bt328.2.2.1.length : Int) : Int).toNat)).bind fun t342 => (if t342 = true then (if (bt328.2.2.2.1 == ((Int.tmod (wrap64 (x2)) (wrap64 ((x7.length : Int) + 1))) == (x7.length : Int))) = true then ((newsreellaw32_awake.f k).bind fun t343 => (some t343)) else (none)) else (none))) else (none)) else (none)) else (if bt328.2.2.2.2 = 11 then (if (Int.tmod (wrap64 (x2)) (wrap64 ((x7.length : Int) + 1))) < (x7.length : Int) then ((newsreellaw32_awake.f k).bind fun t344 => (some t344)) else (none)) else (none)))) else (none)) else (none)))
def newsreellaw32_ReplyBack.j3 : Nat → Int → List Int → List Int → Bool → Int → List (S38) → List Int → Bool → Int → List (S38) → List Int → Bool → Option (Bool)
  | 0, _, _, _, _, _, _, _, _, _, _, _, _ => none
  | k + 1, x2, x7, x11, x78, x301000, x301001, x301002, x301003, x319000, x319001, x319002, x319003 => if x78 = true then (none) else (newsreellaw32_ReplyBack.l121 k x2 x7 x11 0 x301000 x301001 x301002 x301003 x319000 x319001 x319002 x319003)
def newsreellaw32_ReplyBack.l121 : Nat → Int → List Int → List Int → Int → Int → List (S38) → List Int → Bool → Int → List (S38) → List Int → Bool → Option (Bool)
  | 0, _, _, _, _, _, _, _, _, _, _, _, _ => none
  | k + 1, x2, x7, x11, x12, x301000, x301001, x301002, x301003, x319000, x319001, x319002, x319003 => if x12 < (x301001.length : Int) then (if 0 ≤ x12 then (if x12 < (x319001.length : Int) then (if (!((((rd_T38 x319001 x12).f0).toList) == (((rd_T38 x301001 x12).f0).toList)) || (!((((rd_T38 x319001 x12).f1).toList) == (((rd_T38 x301001 x12).f1).toList)))) = true then (none) else (newsreellaw32_ReplyBack.l121 k x2 x7 x11 (wrap64 (x12 + 1)) x301000 x301001 x301002 x301003 x319000 x319001 x319002 x319003)) else (none)) else (none)) else (if (wrap64 ((x7.length : Int) + 1)) = 0 then (none) else (if 0 ≤ (Int.tmod (wrap64 (x2)) (wrap64 ((x7.length : Int) + 1))) then (if (Int.tmod (wrap64 (x2)) (wrap64 ((x7.length : Int) + 1))) ≤ (x7.length : Int) then ((reply_Get.f k (x7.take ((Int.tmod (wrap64 (x2)) (wrap64 ((x7.length : Int) + 1))) : Int).toNat)).bind fun bt353 => (if bt353.2.2.2.2 = 0 then (if (bt353.2.2.1.length : Int) ≤ (x11.length : Int) then (if 0 ≤ (bt353.2.2.1.length : Int) then ((newsreelref01_Bytes.f bt353.2.2.1 (x11.take ((bt353.2.2.1.length : Int) : Int).toNat)).bind fun t364 => (if t364 = true then (if (bt353.2.2.2.1 == ((Int.tmod (wrap64 (x2)) (wrap64 ((x7.length : Int) + 1))) == (x7.length : Int))) = true then ((newsreellaw32_awake.f k).bind fun t365 => (some t365)) else (none)) else (none))) else (none)) else (none)) else (if bt353.2.2.2.2 = 11 then (if (Int.tmod (wrap64 (x2)) (wrap64 ((x7.length : Int) + 1))) < (x7.length : Int) then ((newsreellaw32_awake.f k).bind fun t366 => (some t366)) else (none)) else (none)))) else (none)) else (none)))
end
def newsreellaw32_ReplyBack.f (k : Nat) (a0_0 : Int) (l0_1 : List (S38)) (l0_2 : List Int) (a0_3 : Bool) (a1 : Int) (a2 : Int) : Option (Bool) := (newsreelref32_Few.f k a0_0 l0_1 l0_2 a0_3).bind fun t301 => (if t301 = true then ((newsreellaw32_named.f k l0_1).bind fun t302 => (newsreellaw32_ReplyBack.j0 k a1 a2 t302 a0_0 l0_1 l0_2 a0_3)) else (newsreellaw32_ReplyBack.j0 k a1 a2 true a0_0 l0_1 l0_2 a0_3))
theorem newsreellaw32_ReplyBack.mono_l : ∀ k, (∀ y0 y1 y2 y3 y4 y5 y6, LeO (newsreellaw32_ReplyBack.j0 k y0 y1 y2 y3 y4 y5 y6) (newsreellaw32_ReplyBack.j0 (k + 1) y0 y1 y2 y3 y4 y5 y6)) ∧ (∀ y0 y1 y2 y3 y4 y5 y6 y7 y8 y9 y10 y11, LeO (newsreellaw32_ReplyBack.j1 k y0 y1 y2 y3 y4 y5 y6 y7 y8 y9 y10 y11) (newsreellaw32_ReplyBack.j1 (k + 1) y0 y1 y2 y3 y4 y5 y6 y7 y8 y9 y10 y11)) ∧ (∀ y0 y1 y2 y3 y4 y5 y6 y7 y8 y9 y10 y11, LeO (newsreellaw32_ReplyBack.l0 k y0 y1 y2 y3 y4 y5 y6 y7 y8 y9 y10 y11) (newsreellaw32_ReplyBack.l0 (k + 1) y0 y1 y2 y3 y4 y5 y6 y7 y8 y9 y10 y11)) ∧ (∀ y0 y1 y2 y3 y4 y5 y6 y7 y8 y9 y10 y11, LeO (newsreellaw32_ReplyBack.j3 k y0 y1 y2 y3 y4 y5 y6 y7 y8 y9 y10 y11) (newsreellaw32_ReplyBack.j3 (k + 1) y0 y1 y2 y3 y4 y5 y6 y7 y8 y9 y10 y11)) ∧ (∀ y0 y1 y2 y3 y4 y5 y6 y7 y8 y9 y10 y11, LeO (newsreellaw32_ReplyBack.l121 k y0 y1 y2 y3 y4 y5 y6 y7 y8 y9 y10 y11) (newsreellaw32_ReplyBack.l121 (k + 1) y0 y1 y2 y3 y4 y5 y6 y7 y8 y9 y10 y11))
  | 0 => ⟨fun _ _ _ _ _ _ _ r h => by simp [newsreellaw32_ReplyBack.j0] at h, fun _ _ _ _ _ _ _ _ _ _ _ _ r h => by simp [newsreellaw32_ReplyBack.j1] at h, fun _ _ _ _ _ _ _ _ _ _ _ _ r h => by simp [newsreellaw32_ReplyBack.l0] at h, fun _ _ _ _ _ _ _ _ _ _ _ _ r h => by simp [newsreellaw32_ReplyBack.j3] at h, fun _ _ _ _ _ _ _ _ _ _ _ _ r h => by simp [newsreellaw32_ReplyBack.l121] at h⟩
  | k + 1 => by
   obtain ⟨ih0, ih1, ih2, ih3, ih4⟩ := newsreellaw32_ReplyBack.mono_l k
   refine ⟨?_, ?_, ?_, ?_, ?_⟩
   ·intro y0 y1 y2 y3 y4 y5 y6
    unfold newsreellaw32_ReplyBack.j0
    repeat' first
    | (with_reducible exact ih0 _ _ _ _ _ _ _)
    | (with_reducible exact ih1 _ _ _ _ _ _ _ _ _ _ _ _)
    | (with_reducible exact ih2 _ _ _ _ _ _ _ _ _ _ _ _)
    | (with_reducible exact ih3 _ _ _ _ _ _ _ _ _ _ _ _)
    | (with_reducible exact ih4 _ _ _ _ _ _ _ _ _ _ _ _)
    | (with_reducible exact newsreellaw32_awake.mono _)
    | (with_reducible exact newsreellaw32_named.mono _ _)
    | (with_reducible exact newsreelref32_Few.mono _ _ _ _ _)
    | (with_reducible exact reply_Get.mono _ _)
    | (with_reducible exact reply_Put.mono _ _ _ _ _ _)
    | (with_reducible exact LeO.refl _)
    | (with_reducible exact LeO.none _)
    | (with_reducible refine LeO.ite ?_ ?_)
    | (with_reducible refine LeO.bind ?_ (fun _ => ?_))
    | exact ih0 _ _ _ _ _ _ _
    | exact ih1 _ _ _ _ _ _ _ _ _ _ _ _
    | exact ih2 _ _ _ _ _ _ _ _ _ _ _ _
    | exact ih3 _ _ _ _ _ _ _ _ _ _ _ _
    | exact ih4 _ _ _ _ _ _ _ _ _ _ _ _
    | exact newsreellaw32_awake.mono _
    | exact newsreellaw32_named.mono _ _
    | exact newsreelref32_Few.mono _ _ _ _ _
    | exact reply_Get.mono _ _
    | exact reply_Put.mono _ _ _ _ _ _
    | exact LeO.none _
    | refine LeO.ite ?_ ?_
    | refine LeO.bind ?_ (fun _ => ?_)
   ·intro y0 y1 y2 y3 y4 y5 y6 y7 y8 y9 y10 y11
    unfold newsreellaw32_ReplyBack.j1
    repeat' first
    | (with_reducible exact ih0 _ _ _ _ _ _ _)
    | (with_reducible exact ih1 _ _ _ _ _ _ _ _ _ _ _ _)
    | (with_reducible exact ih2 _ _ _ _ _ _ _ _ _ _ _ _)
    | (with_reducible exact ih3 _ _ _ _ _ _ _ _ _ _ _ _)
    | (with_reducible exact ih4 _ _ _ _ _ _ _ _ _ _ _ _)
    | (with_reducible exact newsreellaw32_awake.mono _)
    | (with_reducible exact newsreellaw32_named.mono _ _)
    | (with_reducible exact newsreelref32_Few.mono _ _ _ _ _)
    | (with_reducible exact reply_Get.mono _ _)
    | (with_reducible exact reply_Put.mono _ _ _ _ _ _)
    | (with_reducible exact LeO.refl _)
    | (with_reducible exact LeO.none _)
    | (with_reducible refine LeO.ite ?_ ?_)
    | (with_reducible refine LeO.bind ?_ (fun _ => ?_))
    | exact ih0 _ _ _ _ _ _ _
    | exact ih1 _ _ _ _ _ _ _ _ _ _ _ _
    | exact ih2 _ _ _ _ _ _ _ _ _ _ _ _
    | exact ih3 _ _ _ _ _ _ _ _ _ _ _ _
    | exact ih4 _ _ _ _ _ _ _ _ _ _ _ _
    | exact newsreellaw32_awake.mono _
    | exact newsreellaw32_named.mono _ _
    | exact newsreelref32_Few.mono _ _ _ _ _
    | exact reply_Get.mono _ _
    | exact reply_Put.mono _ _ _ _ _ _
    | exact LeO.none _
    | refine LeO.ite ?_ ?_
    | refine LeO.bind ?_ (fun _ => ?_)
   ·intro y0 y1 y2 y3 y4 y5 y6 y7 y8 y9 y10 y11
    unfold newsreellaw32_ReplyBack.l0
    repeat' first
    | (with_reducible exact ih0 _ _ _ _ _ _ _)
    | (with_reducible exact ih1 _ _ _ _ _ _ _ _ _ _ _ _)
    | (with_reducible exact ih2 _ _ _ _ _ _ _ _ _ _ _ _)
    | (with_reducible exact ih3 _ _ _ _ _ _ _ _ _ _ _ _)
    | (with_reducible exact ih4 _ _ _ _ _ _ _ _ _ _ _ _)
    | (with_reducible exact newsreellaw32_awake.mono _)
    | (with_reducible exact newsreellaw32_named.mono _ _)
    | (with_reducible exact newsreelref32_Few.mono _ _ _ _ _)
    | (with_reducible exact reply_Get.mono _ _)
    | (with_reducible exact reply_Put.mono _ _ _ _ _ _)
    | (with_reducible exact LeO.refl _)
    | (with_reducible exact LeO.none _)
    | (with_reducible refine LeO.ite ?_ ?_)
    | (with_reducible refine LeO.bind ?_ (fun _ => ?_))
    | exact ih0 _ _ _ _ _ _ _
    | exact ih1 _ _ _ _ _ _ _ _ _ _ _ _
    | exact ih2 _ _ _ _ _ _ _ _ _ _ _ _
    | exact ih3 _ _ _ _ _ _ _ _ _ _ _ _
    | exact ih4 _ _ _ _ _ _ _ _ _ _ _ _
    | exact newsreellaw32_awake.mono _
    | exact newsreellaw32_named.mono _ _
    | exact newsreelref32_Few.mono _ _ _ _ _
    | exact reply_Get.mono _ _
    | exact reply_Put.mono _ _ _ _ _ _
    | exact LeO.none _
    | refine LeO.ite ?_ ?_
    | refine LeO.bind ?_ (fun _ => ?_)
   ·intro y0 y1 y2 y3 y4 y5 y6 y7 y8 y9 y10 y11
    unfold newsreellaw32_ReplyBack.j3
    repeat' first
    | (with_reducible exact ih0 _ _ _ _ _ _ _)
    | (with_reducible exact ih1 _ _ _ _ _ _ _ _ _ _ _ _)
    | (with_reducible exact ih2 _ _ _ _ _ _ _ _ _ _ _ _)
    | (with_reducible exact ih3 _ _ _ _ _ _ _ _ _ _ _ _)
    | (with_reducible exact ih4 _ _ _ _ _ _ _ _ _ _ _ _)
    | (with_reducible exact newsreellaw32_awake.mono _)
    | (with_reducible exact newsreellaw32_named.mono _ _)
    | (with_reducible exact newsreelref32_Few.mono _ _ _ _ _)
    | (with_reducible exact reply_Get.mono _ _)
    | (with_reducible exact reply_Put.mono _ _ _ _ _ _)
    | (with_reducible exact LeO.refl _)
    | (with_reducible exact LeO.none _)
    | (with_reducible refine LeO.ite ?_ ?_)
    | (with_reducible refine LeO.bind ?_ (fun _ => ?_))
    | exact ih0 _ _ _ _ _ _ _
    | exact ih1 _ _ _ _ _ _ _ _ _ _ _ _
    | exact ih2 _ _ _ _ _ _ _ _ _ _ _ _
    | exact ih3 _ _ _ _ _ _ _ _ _ _ _ _
    | exact ih4 _ _ _ _ _ _ _ _ _ _ _ _
    | exact newsreellaw32_awake.mono _
    | exact newsreellaw32_named.mono _ _
    | exact newsreelref32_Few.mono _ _ _ _ _
    | exact reply_Get.mono _ _
    | exact reply_Put.mono _ _ _ _ _ _
    | exact LeO.none _
    | refine LeO.ite ?_ ?_
    | refine LeO.bind ?_ (fun _ => ?_)
   ·intro y0 y1 y2 y3 y4 y5 y6 y7 y8 y9 y10 y11
    unfold newsreellaw32_ReplyBack.l121
    repeat' first
    | (with_reducible exact ih0 _ _ _ _ _ _ _)
    | (with_reducible exact ih1 _ _ _ _ _ _ _ _ _ _ _ _)
    | (with_reducible exact ih2 _ _ _ _ _ _ _ _ _ _ _ _)
    | (with_reducible exact ih3 _ _ _ _ _ _ _ _ _ _ _ _)
    | (with_reducible exact ih4 _ _ _ _ _ _ _ _ _ _ _ _)
    | (with_reducible exact newsreellaw32_awake.mono _)
    | (with_reducible exact newsreellaw32_named.mono _ _)
    | (with_reducible exact newsreelref32_Few.mono _ _ _ _ _)
    | (with_reducible exact reply_Get.mono _ _)
    | (with_reducible exact reply_Put.mono _ _ _ _ _ _)
    | (with_reducible exact LeO.refl _)
    | (with_reducible exact LeO.none _)
    | (with_reducible refine LeO.ite ?_ ?_)
    | (with_reducible refine LeO.bind ?_ (fun _ => ?_))
    | exact ih0 _ _ _ _ _ _ _
    | exact ih1 _ _ _ _ _ _ _ _ _ _ _ _
    | exact ih2 _ _ _ _ _ _ _ _ _ _ _ _
    | exact ih3 _ _ _ _ _ _ _ _ _ _ _ _
    | exact ih4 _ _ _ _ _ _ _ _ _ _ _ _
    | exact newsreellaw32_awake.mono _
    | exact newsreellaw32_named.mono _ _
    | exact newsreelref32_Few.mono _ _ _ _ _
    | exact reply_Get.mono _ _
    | exact reply_Put.mono _ _ _ _ _ _
    | exact LeO.none _
    | refine LeO.ite ?_ ?_
    | refine LeO.bind ?_ (fun _ => ?_)
theorem newsreellaw32_ReplyBack.mono : ∀ a0 a1 a2 a3 a4 a5 k, LeO (newsreellaw32_ReplyBack.f k a0 a1 a2 a3 a4 a5) (newsreellaw32_ReplyBack.f (k + 1) a0 a1 a2 a3 a4 a5) := by
  intro a0 a1 a2 a3 a4 a5 k
  obtain ⟨ih0, ih1, ih2, ih3, ih4⟩ := newsreellaw32_ReplyBack.mono_l k
  unfold newsreellaw32_ReplyBack.f
  repeat' first
    | (with_reducible exact ih0 _ _ _ _ _ _ _)
    | (with_reducible exact ih1 _ _ _ _ _ _ _ _ _ _ _ _)
    | (with_reducible exact ih2 _ _ _ _ _ _ _ _ _ _ _ _)
    | (with_reducible exact ih3 _ _ _ _ _ _ _ _ _ _ _ _)
    | (with_reducible exact ih4 _ _ _ _ _ _ _ _ _ _ _ _)
    | (with_reducible exact newsreellaw32_awake.mono _)
    | (with_reducible exact newsreellaw32_named.mono _ _)
    | (with_reducible exact newsreelref32_Few.mono _ _ _ _ _)
    | (with_reducible exact reply_Get.mono _ _)
    | (with_reducible exact reply_Put.mono _ _ _ _ _ _)
    | (with_reducible exact LeO.refl _)
    | (with_reducible exact LeO.none _)
    | (with_reducible refine LeO.ite ?_ ?_)
    | (with_reducible refine LeO.bind ?_ (fun _ => ?_))
    | exact ih0 _ _ _ _ _ _ _
    | exact ih1 _ _ _ _ _ _ _ _ _ _ _ _
    | exact ih2 _ _ _ _ _ _ _ _ _ _ _ _
    | exact ih3 _ _ _ _ _ _ _ _ _ _ _ _
    | exact ih4 _ _ _ _ _ _ _ _ _ _ _ _
    | exact newsreellaw32_awake.mono _
    | exact newsreellaw32_named.mono _ _
    | exact newsreelref32_Few.mono _ _ _ _ _
    | exact reply_Get.mono _ _
    | exact reply_Put.mono _ _ _ _ _ _
    | exact LeO.none _
    | refine LeO.ite ?_ ?_
    | refine LeO.bind ?_ (fun _ => ?_)
def newsreellaw32_ReplyBack.T15 : Bool × List (List Nat × List Nat) := (true, [([], []), ([0], [0]), ([], []), ([1, 2], [1, 2]), ([3], [3]), ([], []), ([5], [5]), ([], []), ([6, 7], [6, 7]), ([8], [8]), ([4, 9], [4, 9])])
def newsreellaw32_ReplyBack.B15 : List Nat := [0, 1, 0, 7, 15, 0, 32, 0, 224, 480, 1023]
theorem newsreellaw32_ReplyBack.tab15 : rtab .any (opsOf Tryd.f3 15) = newsreellaw32_ReplyBack.T15 := by kernel_rfl
theorem newsreellaw32_ReplyBack.bits15 : waitsOk newsreellaw32_ReplyBack.T15.2 newsreellaw32_ReplyBack.B15 = true := by kernel_rfl
def newsreellaw32_ReplyBack.T21 : Bool × List (List Nat × List Nat) := (true, [([], []), ([0], [0]), ([1], [1]), ([], []), ([3], [3]), ([2, 4], [2, 4]), ([5], [5]), ([6], [6]), ([7, 6], [6, 7]), ([6], [6]), ([6], [6]), ([10, 6], [6, 10]), ([11, 6], [6, 11]), ([9, 12, 6], [6, 9, 12]), ([8, 13, 6, 6], [6, 8, 13]), ([6, 14], [6, 14]), ([15, 14], [15]), ([16], [16]), ([17, 16], [16, 17]), ([16], [16]), ([16], [16]), ([20, 16], [16, 20]), ([19, 21, 16], [16, 19, 21]), ([18, 22, 16], [16, 18, 22]), ([16, 23], [16, 23]), ([24, 16], [24]), ([25, 25], [25]), ([25, 26], [25, 26]), ([27, 26, 0, 1, 2, 3, 4, 5, 6, 7, 8, 9, 10, 11, 12, 13, 14, 15, 16, 17, 18, 19, 20, 21, 22, 23, 24, 25, 26, 27], [27])])
def newsreellaw32_ReplyBack.B21 : List Nat := [0, 1, 3, 0, 8, 31, 63, 127, 255, 127, 127, 1151, 3199, 7807, 16383, 32767, 65535, 131071, 262143, 131071, 131071, 1179647, 3801087, 8388607, 16777215, 33554431, 67108863, 134217727, 268435455]
theorem newsreellaw32_ReplyBack.tab21 : rtab .any (opsOf Tryd.f3 21) = newsreellaw32_ReplyBack.T21 := by kernel_rfl
theorem newsreellaw32_ReplyBack.bits21 : waitsOk newsreellaw32_ReplyBack.T21.2 newsreellaw32_ReplyBack.B21 = true := by kernel_rfl
end Go.Proofs.YthngjcllfkoihaaDoor.PReplyBack

