-- MADE BY xprint.py of this repository, out of the seat's translation, by the kit's print and this repository's hands
import Derived.Test.YtpmcogaklhlakabDoorPPlanTellsx0
import Derived.Test.YtpmcogaklhlakabDoorPPlanTellsx1
import Derived.Test.YtpmcogaklhlakabDoorPPlanTellsx2
import Derived.Test.YtpmcogaklhlakabDoorPPlanTellsx4
import Derived.Test.YtpmcogaklhlakabDoorPPlanTellsx6
import Derived.Test.YtpmcogaklhlakabDoorPPlanTellsx7
import Derived.Test.YtpmcogaklhlakabDoorPPlanTellsx8
import Derived.Test.YtpmcogaklhlakabDoorPPlanTellsx12
namespace Go.Proofs.YtpmcogaklhlakabDoor.PPlanTells
open Go.RowKit Go.Proofs.YtpmcogaklhlakabDoorW.PrintWords Go.Proofs.YtpmcogaklhlakabDoorW.PrintLast Go.Proofs.YtpmcogaklhlakabDoorW.PrintMore
attribute [local go_sem] max2_int min2_int max_two min_two max_three min_three max_four min_four   -- for this text's walks alone
set_option linter.unusedVariables false
set_option linter.unusedSimpArgs false

attribute [local go_sem high] eqA23 eqA32
/-! ### newsreellaw44_PlanTells: function 3 -/
open Sq Hand
open Go.Proofs.YtpmcogaklhlakabDoor
def newsreellaw44_PlanTells.j0 : Nat → Int → Bool → Int → Int → ByteArray → ByteArray → ByteArray → Int → Int → Int → Int → Bool → Int → Int → Int → ByteArray → Int → Int → ByteArray → Int → Int → ByteArray → Int → ByteArray → ByteArray → Int → Int → Option (Bool)
  | 0, _, _, _, _, _, _, _, _, _, _, _, _, _, _, _, _, _, _, _, _, _, _, _, _, _, _, _ => none
  | k + 1, x2, x14, x327000, x327001, x327002, x327003, x327004, x327005, x327006, x327007, x327008, x327009, x327010, x327011, x327012, x327013, x327014, x327015, x327016, x327017, x327018, x327019, x328000, x328001, x328002, x328003, x328004 => if x14 = true then ((newsreellaw44_awake.f k).bind fun t330 => (some t330)) else ((plan_Begin.f k x327000 x327001 x327002 x327003 x327004 x327005 x327006 x327007 x327008 x327009 x327010 x327011 x327012 x327013 x327014 x327015 x327016 x327017 x327018 x327019).bind fun bt331 => ((newsreelref44_Begin.f k x327000 x327001 x327002 x327003 x327004 x327005 x327006 x327007 x327008 x327009 x327010 x327011 x327012 x327013 x327014 x327015 x327016 x327017 x327018 x327019).bind fun bt351 => (if (bt331.1 == bt351.1 && (bt331.2.1 == bt351.2.1 && (bt331.2.2.1.toList == bt351.2.2.1.toList && (bt331.2.2.2.1.toList == bt351.2.2.2.1.toList && (bt331.2.2.2.2.1.toList == bt351.2.2.2.2.1.toList && (bt331.2.2.2.2.2.1 == bt351.2.2.2.2.2.1 && (bt331.2.2.2.2.2.2.1 == bt351.2.2.2.2.2.2.1 && (bt331.2.2.2.2.2.2.2.1 == bt351.2.2.2.2.2.2.2.1 && (bt331.2.2.2.2.2.2.2.2.1 == bt351.2.2.2.2.2.2.2.2.1 && (bt331.2.2.2.2.2.2.2.2.2.1 == bt351.2.2.2.2.2.2.2.2.2.1 && (bt331.2.2.2.2.2.2.2.2.2.2.1 == bt351.2.2.2.2.2.2.2.2.2.2.1 && (bt331.2.2.2.2.2.2.2.2.2.2.2.1 == bt351.2.2.2.2.2.2.2.2.2.2.2.1 && (bt331.2.2.2.2.2.2.2.2.2.2.2.2.1 == bt351.2.2.2.2.2.2.2.2.2.2.2.2.1 && (bt331.2.2.2.2.2.2.2.2.2.2.2.2.2.1.toList == bt351.2.2.2.2.2.2.2.2.2.2.2.2.2.1.toList && (bt331.2.2.2.2.2.2.2.2.2.2.2.2.2.2.1 == bt351.2.2.2.2.2.2.2.2.2.2.2.2.2.2.1 && (bt331.2.2.2.2.2.2.2.2.2.2.2.2.2.2.2.1 == bt351.2.2.2.2.2.2.2.2.2.2.2.2.2.2.2.1 && (bt331.2.2.2.2.2.2.2.2.2.2.2.2.2.2.2.2.1.toList == bt351.2.2.2.2.2.2.2.2.2.2.2.2.2.2.2.2.1.toList && (bt331.2.2.2.2.2.2.2.2.2.2.2.2.2.2.2.2.2.1 == bt351.2.2.2.2.2.2.2.2.2.2.2.2.2.2.2.2.2.1 && (bt331.2.2.2.2.2.2.2.2.2.2.2.2.2.2.2.2.2.2.1 == bt351.2.2.2.2.2.2.2.2.2.2.2.2.2.2.2.2.2.2.1 && (bt331.2.2.2.2.2.2.2.2.2.2.2.2.2.2.2.2.2.2.2.toList == bt351.2.2.2.2.2.2.2.2.2.2.2.2.2.2.2.2.2.2.2.toList)))))))))))))))))))) = true then ((plan_Complete.f x327000 x327001 x327002 x327003 x327004 x327005 x327006 x327007 x327008 x327009 x327010 x327011 x327012 x327013 x327014 x327015 x327016 x327017 x327018 x327019 x2).bind fun t371 => (if x327007 = 2 then (if (t371 == (x327017 == x2)) = true then ((plan_ForFeed.f k x328000 x328001 x328002 x328003 x328004).bind fun bt372 => ((newsreelref44_ForFeed.f k x328000 x328001 x328002 x328003 x328004).bind fun bt376 => (if (bt372.1.toList == bt376.1.toList && (bt372.2.1 == bt376.2.1 && (bt372.2.2.1.toList == bt376.2.2.1.toList && (bt372.2.2.2.toList == bt376.2.2.2.toList)))) = true then ((plan_ForEp.f k x327000 x327001 x327002 x327003 x327004 x327005 x327006 x327007 x327008 x327009 x327010 x327011 x327012 x327013 x327014 x327015 x327016 x327017 x327018 x327019 x2).bind fun bt380 => ((newsreelref44_ForEp.f k x327000 x327001 x327002 x327003 x327004 x327005 x327006 x327007 x327008 x327009 x327010 x327011 x327012 x327013 x327014 x327015 x327016 x327017 x327018 x327019 x2).bind fun bt384 => (if (bt380.1.toList == bt384.1.toList && (bt380.2.1 == bt384.2.1 && (bt380.2.2.1.toList == bt384.2.2.1.toList && (bt380.2.2.2.toList == bt384.2.2.2.toList)))) = true then ((newsreellaw44_awake.f k).bind fun t388 => (some t388)) else (none)))) else (none)))) else (none)) else (if t371 = true then (none) else ((plan_ForFeed.f k x328000 x328001 x328002 x328003 x328004).bind fun bt389 => ((newsreelref44_ForFeed.f k x328000 x328001 x328002 x328003 x328004).bind fun bt393 => (if (bt389.1.toList == bt393.1.toList && (bt389.2.1 == bt393.2.1 && (bt389.2.2.1.toList == bt393.2.2.1.toList && (bt389.2.2.2.toList == bt393.2.2.2.toList)))) = true then ((plan_ForEp.f k x327000 x327001 x327002 x327003 x327004 x327005 x327006 x327007 x327008 x327009 x327010 x327011 x327012 x327013 x327014 x327015 x327016 x327017 x327018 x327019 x2).bind fun bt397 => ((newsreelref44_ForEp.f k x327000 x327001 x327002 x327003 x327004 x327005 x327006 x327007 x327008 x327009 x327010 x327011 x327012 x327013 x327014 x327015 x327016 x327017 x327018 x327019 x2).bind fun bt401 => (if (bt397.1.toList == bt401.1.toList && (bt397.2.1 == bt401.2.1 && (bt397.2.2.1.toList == bt401.2.2.1.toList && (bt397.2.2.2.toList == bt401.2.2.2.toList)))) = true then ((newsreellaw44_awake.f k).bind fun t405 => (some t405)) else (none)))) else (none))))))) else (none))))
def newsreellaw44_PlanTells.f (k : Nat) (a0_0 : Int) (a0_1 : Int) (a0_2 : ByteArray) (a0_3 : ByteArray) (a0_4 : ByteArray) (a0_5 : Int) (a0_6 : Int) (a0_7 : Int) (a0_8 : Int) (a0_9 : Bool) (a0_10 : Int) (a0_11 : Int) (a0_12 : Int) (a0_13 : ByteArray) (a0_14 : Int) (a0_15 : Int) (a0_16 : ByteArray) (a0_17 : Int) (a0_18 : Int) (a0_19 : ByteArray) (a1_0 : Int) (a1_1 : ByteArray) (a1_2 : ByteArray) (a1_3 : Int) (a1_4 : Int) (a2 : Int) : Option (Bool) := (newsreelref14_ShortEp.f a0_0 a0_1 a0_2 a0_3 a0_4 a0_5 a0_6 a0_7 a0_8 a0_9 a0_10 a0_11 a0_12 a0_13 a0_14 a0_15 a0_16 a0_17 a0_18 a0_19).bind fun t328 => (if t328 = true then ((newsreelref14_Short.f a1_0 a1_1 a1_2 a1_3 a1_4).bind fun t329 => (newsreellaw44_PlanTells.j0 k a2 (!t329) a0_0 a0_1 a0_2 a0_3 a0_4 a0_5 a0_6 a0_7 a0_8 a0_9 a0_10 a0_11 a0_12 a0_13 a0_14 a0_15 a0_16 a0_17 a0_18 a0_19 a1_0 a1_1 a1_2 a1_3 a1_4)) else (newsreellaw44_PlanTells.j0 k a2 true a0_0 a0_1 a0_2 a0_3 a0_4 a0_5 a0_6 a0_7 a0_8 a0_9 a0_10 a0_11 a0_12 a0_13 a0_14 a0_15 a0_16 a0_17 a0_18 a0_19 a1_0 a1_1 a1_2 a1_3 a1_4))
theorem newsreellaw44_PlanTells.mono_l : ∀ k, (∀ y0 y1 y2 y3 y4 y5 y6 y7 y8 y9 y10 y11 y12 y13 y14 y15 y16 y17 y18 y19 y20 y21 y22 y23 y24 y25 y26, LeO (newsreellaw44_PlanTells.j0 k y0 y1 y2 y3 y4 y5 y6 y7 y8 y9 y10 y11 y12 y13 y14 y15 y16 y17 y18 y19 y20 y21 y22 y23 y24 y25 y26) (newsreellaw44_PlanTells.j0 (k + 1) y0 y1 y2 y3 y4 y5 y6 y7 y8 y9 y10 y11 y12 y13 y14 y15 y16 y17 y18 y19 y20 y21 y22 y23 y24 y25 y26))
  | 0 => fun _ _ _ _ _ _ _ _ _ _ _ _ _ _ _ _ _ _ _ _ _ _ _ _ _ _ _ r h => by simp [newsreellaw44_PlanTells.j0] at h
  | k + 1 => by
   have ih0 := newsreellaw44_PlanTells.mono_l k
   ·intro y0 y1 y2 y3 y4 y5 y6 y7 y8 y9 y10 y11 y12 y13 y14 y15 y16 y17 y18 y19 y20 y21 y22 y23 y24 y25 y26
    unfold newsreellaw44_PlanTells.j0
    repeat' first
    | (with_reducible exact ih0 _ _ _ _ _ _ _ _ _ _ _ _ _ _ _ _ _ _ _ _ _ _ _ _ _ _ _)
    | (with_reducible exact newsreellaw44_awake.mono _)
    | (with_reducible exact newsreelref44_Begin.mono _ _ _ _ _ _ _ _ _ _ _ _ _ _ _ _ _ _ _ _ _)
    | (with_reducible exact newsreelref44_ForEp.mono _ _ _ _ _ _ _ _ _ _ _ _ _ _ _ _ _ _ _ _ _ _)
    | (with_reducible exact newsreelref44_ForFeed.mono _ _ _ _ _ _)
    | (with_reducible exact plan_Begin.mono _ _ _ _ _ _ _ _ _ _ _ _ _ _ _ _ _ _ _ _ _)
    | (with_reducible exact plan_ForEp.mono _ _ _ _ _ _ _ _ _ _ _ _ _ _ _ _ _ _ _ _ _ _)
    | (with_reducible exact plan_ForFeed.mono _ _ _ _ _ _)
    | (with_reducible exact LeO.refl _)
    | (with_reducible exact LeO.none _)
    | (with_reducible refine LeO.ite ?_ ?_)
    | (with_reducible refine LeO.bind ?_ (fun _ => ?_))
    | exact ih0 _ _ _ _ _ _ _ _ _ _ _ _ _ _ _ _ _ _ _ _ _ _ _ _ _ _ _
    | exact newsreellaw44_awake.mono _
    | exact newsreelref44_Begin.mono _ _ _ _ _ _ _ _ _ _ _ _ _ _ _ _ _ _ _ _ _
    | exact newsreelref44_ForEp.mono _ _ _ _ _ _ _ _ _ _ _ _ _ _ _ _ _ _ _ _ _ _
    | exact newsreelref44_ForFeed.mono _ _ _ _ _ _
    | exact plan_Begin.mono _ _ _ _ _ _ _ _ _ _ _ _ _ _ _ _ _ _ _ _ _
    | exact plan_ForEp.mono _ _ _ _ _ _ _ _ _ _ _ _ _ _ _ _ _ _ _ _ _ _
    | exact plan_ForFeed.mono _ _ _ _ _ _
    | exact LeO.none _
    | refine LeO.ite ?_ ?_
    | refine LeO.bind ?_ (fun _ => ?_)
theorem newsreellaw44_PlanTells.mono : ∀ a0 a1 a2 a3 a4 a5 a6 a7 a8 a9 a10 a11 a12 a13 a14 a15 a16 a17 a18 a19 a20 a21 a22 a23 a24 a25 k, LeO (newsreellaw44_PlanTells.f k a0 a1 a2 a3 a4 a5 a6 a7 a8 a9 a10 a11 a12 a13 a14 a15 a16 a17 a18 a19 a20 a21 a22 a23 a24 a25) (newsreellaw44_PlanTells.f (k + 1) a0 a1 a2 a3 a4 a5 a6 a7 a8 a9 a10 a11 a12 a13 a14 a15 a16 a17 a18 a19 a20 a21 a22 a23 a24 a25) := by
  intro a0 a1 a2 a3 a4 a5 a6 a7 a8 a9 a10 a11 a12 a13 a14 a15 a16 a17 a18 a19 a20 a21 a22 a23 a24 a25 k
  have ih0 := newsreellaw44_PlanTells.mono_l k
  unfold newsreellaw44_PlanTells.f
  repeat' first
    | (with_reducible exact ih0 _ _ _ _ _ _ _ _ _ _ _ _ _ _ _ _ _ _ _ _ _ _ _ _ _ _ _)
    | (with_reducible exact newsreellaw44_awake.mono _)
    | (with_reducible exact newsreelref44_Begin.mono _ _ _ _ _ _ _ _ _ _ _ _ _ _ _ _ _ _ _ _ _)
    | (with_reducible exact newsreelref44_ForEp.mono _ _ _ _ _ _ _ _ _ _ _ _ _ _ _ _ _ _ _ _ _ _)
    | (with_reducible exact newsreelref44_ForFeed.mono _ _ _ _ _ _)
    | (with_reducible exact plan_Begin.mono _ _ _ _ _ _ _ _ _ _ _ _ _ _ _ _ _ _ _ _ _)
    | (with_reducible exact plan_ForEp.mono _ _ _ _ _ _ _ _ _ _ _ _ _ _ _ _ _ _ _ _ _ _)
    | (with_reducible exact plan_ForFeed.mono _ _ _ _ _ _)
    | (with_reducible exact LeO.refl _)
    | (with_reducible exact LeO.none _)
    | (with_reducible refine LeO.ite ?_ ?_)
    | (with_reducible refine LeO.bind ?_ (fun _ => ?_))
    | exact ih0 _ _ _ _ _ _ _ _ _ _ _ _ _ _ _ _ _ _ _ _ _ _ _ _ _ _ _
    | exact newsreellaw44_awake.mono _
    | exact newsreelref44_Begin.mono _ _ _ _ _ _ _ _ _ _ _ _ _ _ _ _ _ _ _ _ _
    | exact newsreelref44_ForEp.mono _ _ _ _ _ _ _ _ _ _ _ _ _ _ _ _ _ _ _ _ _ _
    | exact newsreelref44_ForFeed.mono _ _ _ _ _ _
    | exact plan_Begin.mono _ _ _ _ _ _ _ _ _ _ _ _ _ _ _ _ _ _ _ _ _
    | exact plan_ForEp.mono _ _ _ _ _ _ _ _ _ _ _ _ _ _ _ _ _ _ _ _ _ _
    | exact plan_ForFeed.mono _ _ _ _ _ _
    | exact LeO.none _
    | refine LeO.ite ?_ ?_
    | refine LeO.bind ?_ (fun _ => ?_)
def newsreellaw44_PlanTells.T3 : Bool × List (List Nat × List Nat) := (true, [([], []), ([0], [0]), ([], []), ([2, 1], [2]), ([1, 3], [1, 3]), ([4, 3], [4]), ([5], [5]), ([5], [5]), ([6, 7, 5, 5], [5, 6, 7]), ([5], [5]), ([9, 5], [5, 9]), ([10, 5], [5, 10]), ([11, 8, 5], [5, 11]), ([12], [12]), ([13, 12], [12, 13]), ([12], [12]), ([14, 15, 12], [12, 14, 15]), ([12, 16, 5], [5, 12, 16]), ([8, 17, 5], [5, 8, 17]), ([5, 18], [5, 18]), ([19, 12], [19]), ([20], [20]), ([21, 20, 20], [20, 21]), ([20], [20]), ([23, 22, 20], [20, 23]), ([22, 24, 20], [20, 22, 24]), ([20, 25], [20, 25]), ([26, 24], [26]), ([27], [27]), ([27], [27]), ([28, 29, 27, 27], [27, 28, 29]), ([27], [27]), ([27], [27]), ([31, 32, 30, 27], [27, 31, 32]), ([30, 33, 27], [27, 30, 33]), ([27, 34], [27, 34]), ([35, 33], [35]), ([36, 36], [36]), ([36, 37], [36, 37]), ([38, 37, 0, 1, 2, 3, 4, 5, 6, 7, 8, 9, 10, 11, 12, 13, 14, 15, 16, 17, 18, 19, 20, 21, 22, 23, 24, 25, 26, 27, 28, 29, 30, 31, 32, 33, 34, 35, 36, 37, 38], [38])])
def newsreellaw44_PlanTells.B3 : List Nat := [0, 1, 0, 7, 15, 31, 63, 63, 255, 63, 575, 1599, 4095, 8191, 16383, 8191, 65535, 131071, 262143, 524287, 1048575, 2097151, 4194303, 2097151, 16777215, 33554431, 67108863, 134217727, 268435455, 268435455, 1073741823, 268435455, 268435455, 8589934591, 17179869183, 34359738367, 68719476735, 137438953471, 274877906943, 549755813887]
theorem newsreellaw44_PlanTells.tab3 : rtab .any (opsOf Tryd.f3 3) = newsreellaw44_PlanTells.T3 := by kernel_rfl
theorem newsreellaw44_PlanTells.bits3 : waitsOk newsreellaw44_PlanTells.T3.2 newsreellaw44_PlanTells.B3 = true := by kernel_rfl
set_option maxHeartbeats 8000000 in
set_option maxRecDepth 100000 in
theorem newsreellaw44_PlanTells.calls (k : Nat) (a0_0 : Int) (a0_1 : Int) (a0_2 : ByteArray) (a0_3 : ByteArray) (a0_4 : ByteArray) (a0_5 : Int) (a0_6 : Int) (a0_7 : Int) (a0_8 : Int) (a0_9 : Bool) (a0_10 : Int) (a0_11 : Int) (a0_12 : Int) (a0_13 : ByteArray) (a0_14 : Int) (a0_15 : Int) (a0_16 : ByteArray) (a0_17 : Int) (a0_18 : Int) (a0_19 : ByteArray) (a1_0 : Int) (a1_1 : ByteArray) (a1_2 : ByteArray) (a1_3 : Int) (a1_4 : Int) (a2 : Int) (r : Bool) (w : World) (h : newsreellaw44_PlanTells.f k a0_0 a0_1 a0_2 a0_3 a0_4 a0_5 a0_6 a0_7 a0_8 a0_9 a0_10 a0_11 a0_12 a0_13 a0_14 a0_15 a0_16 a0_17 a0_18 a0_19 a1_0 a1_1 a1_2 a1_3 a1_4 a2 = some r) :
   Calls Tryd.prog 3 #[.agg #[.int .i64 a0_0, .int .i64 a0_1, .string a0_2, .string a0_3, .string a0_4, .int .i64 a0_5, .int .i64 a0_6, .int .i64 a0_7, .int .i64 a0_8, .bool a0_9, .int .i64 a0_10, .int .i64 a0_11, .int .i64 a0_12, .string a0_13, .int .i64 a0_14, .int .i64 a0_15, .string a0_16, .int .i64 a0_17, .int .i64 a0_18, .string a0_19], .agg #[.int .i64 a1_0, .string a1_1, .string a1_2, .int .i64 a1_3, .int .i64 a1_4], .int .i64 a2] w fun e w' => e = .returned (.bool r) ∧ Below w.heap.size w w' := by
  have hu23 := Tryd.underlying23
  have hu25 := Tryd.underlying25
  have HB := Aside0.mk (Below.refl w.heap.size w)
  have H : ((newsreelref14_ShortEp.f a0_0 a0_1 a0_2 a0_3 a0_4 a0_5 a0_6 a0_7 a0_8 a0_9 a0_10 a0_11 a0_12 a0_13 a0_14 a0_15 a0_16 a0_17 a0_18 a0_19).bind fun t328 => (if t328 = true then ((newsreelref14_Short.f a1_0 a1_1 a1_2 a1_3 a1_4).bind fun t329 => (newsreellaw44_PlanTells.j0 k a2 (!t329) a0_0 a0_1 a0_2 a0_3 a0_4 a0_5 a0_6 a0_7 a0_8 a0_9 a0_10 a0_11 a0_12 a0_13 a0_14 a0_15 a0_16 a0_17 a0_18 a0_19 a1_0 a1_1 a1_2 a1_3 a1_4)) else (newsreellaw44_PlanTells.j0 k a2 true a0_0 a0_1 a0_2 a0_3 a0_4 a0_5 a0_6 a0_7 a0_8 a0_9 a0_10 a0_11 a0_12 a0_13 a0_14 a0_15 a0_16 a0_17 a0_18 a0_19 a1_0 a1_1 a1_2 a1_3 a1_4))) = some r := h
  clear h
  have HC4 := Aside0.mk H
  clear H
  go_enter Tryd.func3, Tryd.ntmps3
  go_upto_region 1 with (first | ((with_reducible first | refine gate_dst (N := 7) rfl ?_ | refine gate_dst (N := 16) rfl ?_ | refine gate_dst (N := 18) rfl ?_ | refine gate_dst (N := 22) rfl ?_ | refine gate_dst (N := 44) rfl ?_ | refine gate_dst (N := 47) rfl ?_); (first | (with_reducible refine Hand.gate_plain rfl ?_) | (with_reducible refine gate_guard ?hw ?_; (case hw => (simp [Region.wanted, yielded]; done)); dsimp only)); first | (refine Hand.wpList_load_boxn rfl 23 (.tmp 3) rfl gb326 rfl (cs := #[.int .i64 a0_0, .int .i64 a0_1, .string a0_2, .string a0_3, .string a0_4, .int .i64 a0_5, .int .i64 a0_6, .int .i64 a0_7, .int .i64 a0_8, .bool a0_9, .int .i64 a0_10, .int .i64 a0_11, .int .i64 a0_12, .string a0_13, .int .i64 a0_14, .int .i64 a0_15, .string a0_16, .int .i64 a0_17, .int .i64 a0_18, .string a0_19]) (t := 23) (by repeat' (first | (with_reducible exact BK326.out) | (with_reducible refine blk_drewN ?_ _) | (with_reducible refine blk_drew ?_) | (with_reducible refine blk_alloc ?_ _) | (with_reducible refine blk_far ?_ (Aside0.out (by assumption)) _))) rfl desc23.choose desc23.choose_spec.1 desc23.choose_spec.2 (by kernel_rfl) ?_) | (refine Hand.wpList_load_boxn rfl 23 (.tmp 3) rfl gb326 rfl (by repeat' (first | (with_reducible exact BK326.out) | (with_reducible refine blk_drewN ?_ _) | (with_reducible refine blk_drew ?_) | (with_reducible refine blk_alloc ?_ _) | (with_reducible apply blk_putq) | refine blk_far ?_ (Aside0.out (by assumption)) _)) (by first | (simp only [List.setIfInBounds_toArray, List.set_cons_zero, List.set_cons_succ]; done) | (simp only [List.setIfInBounds_toArray, List.set_cons_zero, List.set_cons_succ]; rfl) | rfl) desc23.choose desc23.choose_spec.1 desc23.choose_spec.2 (by kernel_rfl) ?_)) | ((with_reducible refine gate_dst (N := 3) rfl ?_); refine box_event ?hg (N := 3) ?hd (cs := #[.int .i64 a0_0, .int .i64 a0_1, .string a0_2, .string a0_3, .string a0_4, .int .i64 a0_5, .int .i64 a0_6, .int .i64 a0_7, .int .i64 a0_8, .bool a0_9, .int .i64 a0_10, .int .i64 a0_11, .int .i64 a0_12, .string a0_13, .int .i64 a0_14, .int .i64 a0_15, .string a0_16, .int .i64 a0_17, .int .i64 a0_18, .string a0_19]) (t := 23) ?hr ?_; (case hd => rfl); (case hg => rfl); (case hr => first | (go_simp; done) | (go_simp; rfl)); intro gb326 hg w5 hbox hb; have n0_ := Aside0.mk (below_step (bl_ HB) hb); have n1_ := Aside0.mk (hbox); have n2_ := Aside0.mk ((by rw [hg]; exact (below_size (bl_ HB)) : w.heap.size ≤ gb326)); have n3_ := Aside0.mk ((by rw [hg]; exact (below_size (bl_ HB)) : w.heap.size ≤ gb326)); clear HB; have HB := n0_; have BK326 := n1_; have GW326 := n2_; have GE326 := n3_; clear n0_ n1_ n2_ n3_; clear hb hbox hg) | ((with_reducible refine gate_dst (N := 4) rfl ?_); refine box_event ?hg (N := 4) ?hd (cs := #[.int .i64 a1_0, .string a1_1, .string a1_2, .int .i64 a1_3, .int .i64 a1_4]) (t := 25) ?hr ?_; (case hd => rfl); (case hg => rfl); (case hr => first | (go_simp; done) | (go_simp; rfl)); intro gb327 hg w6 hbox hb; have n0_ := Aside0.mk (blk_below (g := gb326) (o := .cells #[.int .i64 a0_0, .int .i64 a0_1, .string a0_2, .string a0_3, .string a0_4, .int .i64 a0_5, .int .i64 a0_6, .int .i64 a0_7, .int .i64 a0_8, .bool a0_9, .int .i64 a0_10, .int .i64 a0_11, .int .i64 a0_12, .string a0_13, .int .i64 a0_14, .int .i64 a0_15, .string a0_16, .int .i64 a0_17, .int .i64 a0_18, .string a0_19] 23 (0, 0)) (sm_ BK326) hb); have n1_ := Aside0.mk (below_step (by repeat (first | (with_reducible first | exact HB.out | apply below_alloc | apply pw_below_drewN | apply below_drew1 | refine below_set ?_ GE326.out) | exact HB.out)) hb); have n2_ := Aside0.mk (hbox); have n3_ := Aside0.mk ((by rw [hg]; exact (below_size (by repeat (first | (with_reducible first | exact HB.out | apply below_alloc | apply pw_below_drewN | apply below_drew1 | refine below_set ?_ GE326.out) | exact HB.out))) : w.heap.size ≤ gb327)); have n4_ := Aside0.mk ((by rw [hg]; exact (below_size (by repeat (first | (with_reducible first | exact HB.out | apply below_alloc | apply pw_below_drewN | apply below_drew1 | refine below_set ?_ GE326.out) | exact HB.out))) : w.heap.size ≤ gb327)); have n5_ := Aside0.mk ((by rw [hg]; exact Nat.ne_of_lt (blk_lt (g := gb326) (o := .cells #[.int .i64 a0_0, .int .i64 a0_1, .string a0_2, .string a0_3, .string a0_4, .int .i64 a0_5, .int .i64 a0_6, .int .i64 a0_7, .int .i64 a0_8, .bool a0_9, .int .i64 a0_10, .int .i64 a0_11, .int .i64 a0_12, .string a0_13, .int .i64 a0_14, .int .i64 a0_15, .string a0_16, .int .i64 a0_17, .int .i64 a0_18, .string a0_19] 23 (0, 0)) (sm_ BK326)) : gb326 ≠ gb327)); have n6_ := Aside0.mk ((by rw [hg]; exact Nat.ne_of_gt (blk_lt (g := gb326) (o := .cells #[.int .i64 a0_0, .int .i64 a0_1, .string a0_2, .string a0_3, .string a0_4, .int .i64 a0_5, .int .i64 a0_6, .int .i64 a0_7, .int .i64 a0_8, .bool a0_9, .int .i64 a0_10, .int .i64 a0_11, .int .i64 a0_12, .string a0_13, .int .i64 a0_14, .int .i64 a0_15, .string a0_16, .int .i64 a0_17, .int .i64 a0_18, .string a0_19] 23 (0, 0)) (sm_ BK326)) : gb327 ≠ gb326)); clear BK326; clear HB; have BK326 := n0_; have HB := n1_; have BK327 := n2_; have GW327 := n3_; have GE327 := n4_; have NB326_327 := n5_; have NB327_326 := n6_; clear n0_ n1_ n2_ n3_ n4_ n5_ n6_; clear hb hbox hg))
  (try simp only [Act.put, List.setIfInBounds_toArray, List.set_cons_zero, List.set_cons_succ])
  go_cut [14] (fun v14 wc => ∃ (kq : Nat) (x14_3 : Bool), v14 = .bool x14_3 ∧ Aside0 (newsreellaw44_PlanTells.j0 kq a2 x14_3 a0_0 a0_1 a0_2 a0_3 a0_4 a0_5 a0_6 a0_7 a0_8 a0_9 a0_10 a0_11 a0_12 a0_13 a0_14 a0_15 a0_16 a0_17 a0_18 a0_19 a1_0 a1_1 a1_2 a1_3 a1_4 = some r) ∧ Aside0 (kq ≤ k) ∧ Aside0 (wc.heap[gb326]? = some (.cells #[.int .i64 a0_0, .int .i64 a0_1, .string a0_2, .string a0_3, .string a0_4, .int .i64 a0_5, .int .i64 a0_6, .int .i64 a0_7, .int .i64 a0_8, .bool a0_9, .int .i64 a0_10, .int .i64 a0_11, .int .i64 a0_12, .string a0_13, .int .i64 a0_14, .int .i64 a0_15, .string a0_16, .int .i64 a0_17, .int .i64 a0_18, .string a0_19] 23 (0, 0))) ∧ Aside0 (wc.heap[gb327]? = some (.cells #[.int .i64 a1_0, .string a1_1, .string a1_2, .int .i64 a1_3, .int .i64 a1_4] 25 (0, 0))) ∧ Aside0 (Below w.heap.size w wc))
  case first =>
   have H := HC4.out
   clear HC4
   replace H := Option.bind_eq_some_iff.mp H
   obtain ⟨t328, A70, H⟩ := H
   replace H : (if t328 = true then ((newsreelref14_Short.f a1_0 a1_1 a1_2 a1_3 a1_4).bind fun t329 => (newsreellaw44_PlanTells.j0 k a2 (!t329) a0_0 a0_1 a0_2 a0_3 a0_4 a0_5 a0_6 a0_7 a0_8 a0_9 a0_10 a0_11 a0_12 a0_13 a0_14 a0_15 a0_16 a0_17 a0_18 a0_19 a1_0 a1_1 a1_2 a1_3 a1_4)) else (newsreellaw44_PlanTells.j0 k a2 true a0_0 a0_1 a0_2 a0_3 a0_4 a0_5 a0_6 a0_7 a0_8 a0_9 a0_10 a0_11 a0_12 a0_13 a0_14 a0_15 a0_16 a0_17 a0_18 a0_19 a1_0 a1_1 a1_2 a1_3 a1_4)) = some r := H
   have A7 := Aside0.mk A70
   clear A70
   by_cases c8 : t328 = true
   ·as_aux_lemma =>
    subst c8
    have H1 : ((newsreelref14_Short.f a1_0 a1_1 a1_2 a1_3 a1_4).bind fun t329 => (newsreellaw44_PlanTells.j0 k a2 (!t329) a0_0 a0_1 a0_2 a0_3 a0_4 a0_5 a0_6 a0_7 a0_8 a0_9 a0_10 a0_11 a0_12 a0_13 a0_14 a0_15 a0_16 a0_17 a0_18 a0_19 a1_0 a1_1 a1_2 a1_3 a1_4)) = some r := by rw [if_pos rfl] at H; exact H
    clear H
    have H := H1
    clear H1
    replace H := Option.bind_eq_some_iff.mp H
    obtain ⟨t329, A90, H⟩ := H
    replace H : (newsreellaw44_PlanTells.j0 k a2 (!t329) a0_0 a0_1 a0_2 a0_3 a0_4 a0_5 a0_6 a0_7 a0_8 a0_9 a0_10 a0_11 a0_12 a0_13 a0_14 a0_15 a0_16 a0_17 a0_18 a0_19 a1_0 a1_1 a1_2 a1_3 a1_4) = some r := H
    have A9 := Aside0.mk A90
    clear A90
    have H' := Aside0.mk H
    clear H
    have hnb10 := NB326_327.out
    have hnc10 := NB327_326.out
    obtain ⟨hcz11_0, hcz11_1, hcz11_2, hcz11_3, hcz11_4, hcz11_5, hcz11_6, hcz11_7, hcz11_8, hcz11_9, hcz11_10, hcz11_11, hcz11_12, hcz11_13, hcz11_14, hcz11_15, hcz11_16, hcz11_17, hcz11_18, hcz11_19⟩ := c20_ BK326.out
    obtain ⟨hfz11_0, hfz11_1, hfz11_2, hfz11_3, hfz11_4, hfz11_5, hfz11_6, hfz11_7, hfz11_8, hfz11_9, hfz11_10, hfz11_11, hfz11_12, hfz11_13, hfz11_14, hfz11_15, hfz11_16, hfz11_17, hfz11_18, hfz11_19⟩ := f20_ BK326.out
    go_wp2_with (first | ((with_reducible first | refine gate_dst (N := 7) rfl ?_ | refine gate_dst (N := 16) rfl ?_ | refine gate_dst (N := 18) rfl ?_ | refine gate_dst (N := 22) rfl ?_ | refine gate_dst (N := 44) rfl ?_ | refine gate_dst (N := 47) rfl ?_); (first | (with_reducible refine Hand.gate_plain rfl ?_) | (with_reducible refine gate_guard ?hw ?_; (case hw => (simp [Region.wanted, yielded]; done)); dsimp only)); first | (refine Hand.wpList_load_boxn rfl 23 (.tmp 3) rfl gb326 rfl (cs := #[.int .i64 a0_0, .int .i64 a0_1, .string a0_2, .string a0_3, .string a0_4, .int .i64 a0_5, .int .i64 a0_6, .int .i64 a0_7, .int .i64 a0_8, .bool a0_9, .int .i64 a0_10, .int .i64 a0_11, .int .i64 a0_12, .string a0_13, .int .i64 a0_14, .int .i64 a0_15, .string a0_16, .int .i64 a0_17, .int .i64 a0_18, .string a0_19]) (t := 23) (by repeat' (first | (with_reducible exact BK326.out) | (with_reducible refine blk_drewN ?_ _) | (with_reducible refine blk_drew ?_) | (with_reducible refine blk_alloc ?_ _) | (with_reducible refine blk_far ?_ (Aside0.out (by assumption)) _))) rfl desc23.choose desc23.choose_spec.1 desc23.choose_spec.2 (by kernel_rfl) ?_) | (refine Hand.wpList_load_boxn rfl 23 (.tmp 3) rfl gb326 rfl (by repeat' (first | (with_reducible exact BK326.out) | (with_reducible refine blk_drewN ?_ _) | (with_reducible refine blk_drew ?_) | (with_reducible refine blk_alloc ?_ _) | (with_reducible apply blk_putq) | refine blk_far ?_ (Aside0.out (by assumption)) _)) (by first | (simp only [List.setIfInBounds_toArray, List.set_cons_zero, List.set_cons_succ]; done) | (simp only [List.setIfInBounds_toArray, List.set_cons_zero, List.set_cons_succ]; rfl) | rfl) desc23.choose desc23.choose_spec.1 desc23.choose_spec.2 (by kernel_rfl) ?_)) | ((with_reducible refine gate_callee (f := 5) rfl ?_); refine goesL_ (some 8) rfl rfl Tryd.func5 (by kernel_rfl) rfl #[.agg #[.int .i64 a0_0, .int .i64 a0_1, .string a0_2, .string a0_3, .string a0_4, .int .i64 a0_5, .int .i64 a0_6, .int .i64 a0_7, .int .i64 a0_8, .bool a0_9, .int .i64 a0_10, .int .i64 a0_11, .int .i64 a0_12, .string a0_13, .int .i64 a0_14, .int .i64 a0_15, .string a0_16, .int .i64 a0_17, .int .i64 a0_18, .string a0_19]] rfl (by (try simp only [List.map_toArray, List.map_cons, List.map_nil]); first | done | rfl | (simp only [List.length_drop, List.length_take]; rfl)) ?_; (with_reducible refine (newsreelref14_ShortEp.calls a0_0 a0_1 a0_2 a0_3 a0_4 a0_5 a0_6 a0_7 a0_8 a0_9 a0_10 a0_11 a0_12 a0_13 a0_14 a0_15 a0_16 a0_17 a0_18 a0_19 true _ A7.out).mono ?_); rintro e w12 ⟨rfl, hb⟩; refine ⟨_, rfl, ?_⟩; have n0_ := Aside0.mk (blk_below (g := gb326) (o := .cells #[.int .i64 a0_0, .int .i64 a0_1, .string a0_2, .string a0_3, .string a0_4, .int .i64 a0_5, .int .i64 a0_6, .int .i64 a0_7, .int .i64 a0_8, .bool a0_9, .int .i64 a0_10, .int .i64 a0_11, .int .i64 a0_12, .string a0_13, .int .i64 a0_14, .int .i64 a0_15, .string a0_16, .int .i64 a0_17, .int .i64 a0_18, .string a0_19] 23 (0, 0)) (sm_ BK326) hb); have n1_ := Aside0.mk (blk_below (g := gb327) (o := .cells #[.int .i64 a1_0, .string a1_1, .string a1_2, .int .i64 a1_3, .int .i64 a1_4] 25 (0, 0)) (sm_ BK327) hb); have n2_ := Aside0.mk (below_step (by repeat (with_reducible first | exact HB.out | apply below_alloc | apply pw_below_drewN | apply below_drew1 | refine below_set ?_ (Aside0.out (by assumption)))) hb); clear BK326; clear BK327; clear HB; have BK326 := n0_; have BK327 := n1_; have HB := n2_; clear n0_ n1_ n2_; (try clear hb); (try clear hb2); (try clear hk); (try clear hi); obtain ⟨hcz13_0, hcz13_1, hcz13_2, hcz13_3, hcz13_4⟩ := c5_ BK327.out; obtain ⟨hfz13_0, hfz13_1, hfz13_2, hfz13_3, hfz13_4⟩ := f5_ BK327.out) | (go_at_call 6; (with_reducible refine (newsreelref14_Short.calls a1_0 a1_1 a1_2 a1_3 a1_4 t329 _ A9.out).mono ?_); rintro e w14 ⟨rfl, hb⟩; have n0_ := Aside0.mk (blk_below (g := gb326) (o := .cells #[.int .i64 a0_0, .int .i64 a0_1, .string a0_2, .string a0_3, .string a0_4, .int .i64 a0_5, .int .i64 a0_6, .int .i64 a0_7, .int .i64 a0_8, .bool a0_9, .int .i64 a0_10, .int .i64 a0_11, .int .i64 a0_12, .string a0_13, .int .i64 a0_14, .int .i64 a0_15, .string a0_16, .int .i64 a0_17, .int .i64 a0_18, .string a0_19] 23 (0, 0)) (sm_ BK326) hb); have n1_ := Aside0.mk (blk_below (g := gb327) (o := .cells #[.int .i64 a1_0, .string a1_1, .string a1_2, .int .i64 a1_3, .int .i64 a1_4] 25 (0, 0)) (sm_ BK327) hb); have n2_ := Aside0.mk (below_step (by repeat (with_reducible first | exact HB.out | apply below_alloc | apply pw_below_drewN | apply below_drew1 | refine below_set ?_ (Aside0.out (by assumption)))) hb); clear BK326; clear BK327; clear HB; have BK326 := n0_; have BK327 := n1_; have HB := n2_; clear n0_ n1_ n2_; (try clear hb); (try clear hb2); (try clear hk); (try clear hi)))
    go_meet
    case rel => exact ⟨_, (!t329), (by first | rfl | (simp; done) | (simp [*]; done)), H', ⟨by first | omega | exact Nat.le_refl _⟩, ⟨by (with_reducible repeat first | apply blk_drewN | apply blk_drew | apply blk_alloc); exact BK326.out⟩, ⟨by (with_reducible repeat first | apply blk_drewN | apply blk_drew | apply blk_alloc); exact BK327.out⟩, ⟨by repeat (with_reducible first | exact HB.out | apply below_alloc | apply pw_below_drewN | apply below_drew1 | refine below_set ?_ (Aside0.out (by assumption)))⟩⟩
   ·as_aux_lemma =>
    replace c8 := Bool.eq_false_iff.mpr c8
    subst c8
    have H1 : (newsreellaw44_PlanTells.j0 k a2 true a0_0 a0_1 a0_2 a0_3 a0_4 a0_5 a0_6 a0_7 a0_8 a0_9 a0_10 a0_11 a0_12 a0_13 a0_14 a0_15 a0_16 a0_17 a0_18 a0_19 a1_0 a1_1 a1_2 a1_3 a1_4) = some r := by rw [if_neg (show ¬ (false = true) by decide)] at H; exact H
    clear H
    have H := H1
    clear H1
    have H' := Aside0.mk H
    clear H
    have hnb15 := NB326_327.out
    have hnc15 := NB327_326.out
    obtain ⟨hcz16_0, hcz16_1, hcz16_2, hcz16_3, hcz16_4, hcz16_5, hcz16_6, hcz16_7, hcz16_8, hcz16_9, hcz16_10, hcz16_11, hcz16_12, hcz16_13, hcz16_14, hcz16_15, hcz16_16, hcz16_17, hcz16_18, hcz16_19⟩ := c20_ BK326.out
    obtain ⟨hfz16_0, hfz16_1, hfz16_2, hfz16_3, hfz16_4, hfz16_5, hfz16_6, hfz16_7, hfz16_8, hfz16_9, hfz16_10, hfz16_11, hfz16_12, hfz16_13, hfz16_14, hfz16_15, hfz16_16, hfz16_17, hfz16_18, hfz16_19⟩ := f20_ BK326.out
    go_wp2_with (first | ((with_reducible first | refine gate_dst (N := 7) rfl ?_ | refine gate_dst (N := 16) rfl ?_ | refine gate_dst (N := 18) rfl ?_ | refine gate_dst (N := 22) rfl ?_ | refine gate_dst (N := 44) rfl ?_ | refine gate_dst (N := 47) rfl ?_); (first | (with_reducible refine Hand.gate_plain rfl ?_) | (with_reducible refine gate_guard ?hw ?_; (case hw => (simp [Region.wanted, yielded]; done)); dsimp only)); first | (refine Hand.wpList_load_boxn rfl 23 (.tmp 3) rfl gb326 rfl (cs := #[.int .i64 a0_0, .int .i64 a0_1, .string a0_2, .string a0_3, .string a0_4, .int .i64 a0_5, .int .i64 a0_6, .int .i64 a0_7, .int .i64 a0_8, .bool a0_9, .int .i64 a0_10, .int .i64 a0_11, .int .i64 a0_12, .string a0_13, .int .i64 a0_14, .int .i64 a0_15, .string a0_16, .int .i64 a0_17, .int .i64 a0_18, .string a0_19]) (t := 23) (by repeat' (first | (with_reducible exact BK326.out) | (with_reducible refine blk_drewN ?_ _) | (with_reducible refine blk_drew ?_) | (with_reducible refine blk_alloc ?_ _) | (with_reducible refine blk_far ?_ (Aside0.out (by assumption)) _))) rfl desc23.choose desc23.choose_spec.1 desc23.choose_spec.2 (by kernel_rfl) ?_) | (refine Hand.wpList_load_boxn rfl 23 (.tmp 3) rfl gb326 rfl (by repeat' (first | (with_reducible exact BK326.out) | (with_reducible refine blk_drewN ?_ _) | (with_reducible refine blk_drew ?_) | (with_reducible refine blk_alloc ?_ _) | (with_reducible apply blk_putq) | refine blk_far ?_ (Aside0.out (by assumption)) _)) (by first | (simp only [List.setIfInBounds_toArray, List.set_cons_zero, List.set_cons_succ]; done) | (simp only [List.setIfInBounds_toArray, List.set_cons_zero, List.set_cons_succ]; rfl) | rfl) desc23.choose desc23.choose_spec.1 desc23.choose_spec.2 (by kernel_rfl) ?_)) | ((with_reducible refine gate_callee (f := 5) rfl ?_); refine goesL_ (some 8) rfl rfl Tryd.func5 (by kernel_rfl) rfl #[.agg #[.int .i64 a0_0, .int .i64 a0_1, .string a0_2, .string a0_3, .string a0_4, .int .i64 a0_5, .int .i64 a0_6, .int .i64 a0_7, .int .i64 a0_8, .bool a0_9, .int .i64 a0_10, .int .i64 a0_11, .int .i64 a0_12, .string a0_13, .int .i64 a0_14, .int .i64 a0_15, .string a0_16, .int .i64 a0_17, .int .i64 a0_18, .string a0_19]] rfl (by (try simp only [List.map_toArray, List.map_cons, List.map_nil]); first | done | rfl | (simp only [List.length_drop, List.length_take]; rfl)) ?_; (with_reducible refine (newsreelref14_ShortEp.calls a0_0 a0_1 a0_2 a0_3 a0_4 a0_5 a0_6 a0_7 a0_8 a0_9 a0_10 a0_11 a0_12 a0_13 a0_14 a0_15 a0_16 a0_17 a0_18 a0_19 false _ A7.out).mono ?_); rintro e w17 ⟨rfl, hb⟩; refine ⟨_, rfl, ?_⟩; have n0_ := Aside0.mk (blk_below (g := gb326) (o := .cells #[.int .i64 a0_0, .int .i64 a0_1, .string a0_2, .string a0_3, .string a0_4, .int .i64 a0_5, .int .i64 a0_6, .int .i64 a0_7, .int .i64 a0_8, .bool a0_9, .int .i64 a0_10, .int .i64 a0_11, .int .i64 a0_12, .string a0_13, .int .i64 a0_14, .int .i64 a0_15, .string a0_16, .int .i64 a0_17, .int .i64 a0_18, .string a0_19] 23 (0, 0)) (sm_ BK326) hb); have n1_ := Aside0.mk (blk_below (g := gb327) (o := .cells #[.int .i64 a1_0, .string a1_1, .string a1_2, .int .i64 a1_3, .int .i64 a1_4] 25 (0, 0)) (sm_ BK327) hb); have n2_ := Aside0.mk (below_step (by repeat (with_reducible first | exact HB.out | apply below_alloc | apply pw_below_drewN | apply below_drew1 | refine below_set ?_ (Aside0.out (by assumption)))) hb); clear BK326; clear BK327; clear HB; have BK326 := n0_; have BK327 := n1_; have HB := n2_; clear n0_ n1_ n2_; (try clear hb); (try clear hb2); (try clear hk); (try clear hi)))
    go_meet
    case rel => exact ⟨_, (true), (by first | rfl | (simp; done) | (simp [*]; done)), H', ⟨by first | omega | exact Nat.le_refl _⟩, ⟨by (with_reducible repeat first | apply blk_drewN | apply blk_drew | apply blk_alloc); exact BK326.out⟩, ⟨by (with_reducible repeat first | apply blk_drewN | apply blk_drew | apply blk_alloc); exact BK327.out⟩, ⟨by repeat (with_reducible first | exact HB.out | apply below_alloc | apply pw_below_drewN | apply below_drew1 | refine below_set ?_ (Aside0.out (by assumption)))⟩⟩
  case rest =>
   clear HC4
   (try clear c1); (try clear p2); (try clear c3); (try clear c5); (try clear c8); (try clear c10); (try clear c15); (try clear hcz11_0); (try clear hcz11_1); (try clear hcz11_10); (try clear hcz11_11); (try clear hcz11_12); (try clear hcz11_13); (try clear hcz11_14); (try clear hcz11_15); (try clear hcz11_16); (try clear hcz11_17); (try clear hcz11_18); (try clear hcz11_19); (try clear hcz11_2); (try clear hcz11_3); (try clear hcz11_4); (try clear hcz11_5); (try clear hcz11_6); (try clear hcz11_7); (try clear hcz11_8); (try clear hcz11_9); (try clear hcz13_0); (try clear hcz13_1); (try clear hcz13_2); (try clear hcz13_3); (try clear hcz13_4); (try clear hcz16_0); (try clear hcz16_1); (try clear hcz16_10); (try clear hcz16_11); (try clear hcz16_12); (try clear hcz16_13); (try clear hcz16_14); (try clear hcz16_15); (try clear hcz16_16); (try clear hcz16_17); (try clear hcz16_18); (try clear hcz16_19); (try clear hcz16_2); (try clear hcz16_3); (try clear hcz16_4); (try clear hcz16_5); (try clear hcz16_6); (try clear hcz16_7); (try clear hcz16_8); (try clear hcz16_9); (try clear hfz11_0); (try clear hfz11_1); (try clear hfz11_10); (try clear hfz11_11); (try clear hfz11_12); (try clear hfz11_13); (try clear hfz11_14); (try clear hfz11_15); (try clear hfz11_16); (try clear hfz11_17); (try clear hfz11_18); (try clear hfz11_19); (try clear hfz11_2); (try clear hfz11_3); (try clear hfz11_4); (try clear hfz11_5); (try clear hfz11_6); (try clear hfz11_7); (try clear hfz11_8); (try clear hfz11_9); (try clear hfz13_0); (try clear hfz13_1); (try clear hfz13_2); (try clear hfz13_3); (try clear hfz13_4); (try clear hfz16_0); (try clear hfz16_1); (try clear hfz16_10); (try clear hfz16_11); (try clear hfz16_12); (try clear hfz16_13); (try clear hfz16_14); (try clear hfz16_15); (try clear hfz16_16); (try clear hfz16_17); (try clear hfz16_18); (try clear hfz16_19); (try clear hfz16_2); (try clear hfz16_3); (try clear hfz16_4); (try clear hfz16_5); (try clear hfz16_6); (try clear hfz16_7); (try clear hfz16_8); (try clear hfz16_9)
   obtain ⟨kq, x14_3, rfl, HA, HJ3, BK326, BK327, HB⟩ := hcut
   cases kq with
   | zero => exact absurd HA.out (by simp [newsreellaw44_PlanTells.j0])
   | succ kj3 =>
    have H := HA.out
    clear HA
    simp only [newsreellaw44_PlanTells.j0] at H
    by_cases c18 : x14_3 = true
    ·as_aux_lemma =>
     subst c18
     have H1 : ((newsreellaw44_awake.f kj3).bind fun t330 => (some t330)) = some r := by rw [if_pos rfl] at H; exact H
     clear H
     have H := H1
     clear H1
     replace H := Option.bind_eq_some_iff.mp H
     obtain ⟨t330, A190, H⟩ := H
     replace H : (some t330) = some r := H
     have A19 := Aside0.mk A190
     clear A190
     obtain rfl := Option.some.inj H
     go_wp2_with (first | ((with_reducible first | refine gate_dst (N := 7) rfl ?_ | refine gate_dst (N := 16) rfl ?_ | refine gate_dst (N := 18) rfl ?_ | refine gate_dst (N := 22) rfl ?_ | refine gate_dst (N := 44) rfl ?_ | refine gate_dst (N := 47) rfl ?_); (first | (with_reducible refine Hand.gate_plain rfl ?_) | (with_reducible refine gate_guard ?hw ?_; (case hw => (simp [Region.wanted, yielded]; done)); dsimp only)); first | (refine Hand.wpList_load_boxn rfl 23 (.tmp 3) rfl gb326 rfl (cs := #[.int .i64 a0_0, .int .i64 a0_1, .string a0_2, .string a0_3, .string a0_4, .int .i64 a0_5, .int .i64 a0_6, .int .i64 a0_7, .int .i64 a0_8, .bool a0_9, .int .i64 a0_10, .int .i64 a0_11, .int .i64 a0_12, .string a0_13, .int .i64 a0_14, .int .i64 a0_15, .string a0_16, .int .i64 a0_17, .int .i64 a0_18, .string a0_19]) (t := 23) (by repeat' (first | (with_reducible exact BK326.out) | (with_reducible refine blk_drewN ?_ _) | (with_reducible refine blk_drew ?_) | (with_reducible refine blk_alloc ?_ _) | (with_reducible refine blk_far ?_ (Aside0.out (by assumption)) _))) rfl desc23.choose desc23.choose_spec.1 desc23.choose_spec.2 (by kernel_rfl) ?_) | (refine Hand.wpList_load_boxn rfl 23 (.tmp 3) rfl gb326 rfl (by repeat' (first | (with_reducible exact BK326.out) | (with_reducible refine blk_drewN ?_ _) | (with_reducible refine blk_drew ?_) | (with_reducible refine blk_alloc ?_ _) | (with_reducible apply blk_putq) | refine blk_far ?_ (Aside0.out (by assumption)) _)) (by first | (simp only [List.setIfInBounds_toArray, List.set_cons_zero, List.set_cons_succ]; done) | (simp only [List.setIfInBounds_toArray, List.set_cons_zero, List.set_cons_succ]; rfl) | rfl) desc23.choose desc23.choose_spec.1 desc23.choose_spec.2 (by kernel_rfl) ?_)) | ((with_reducible refine gate_callee (f := 7) rfl ?_); refine goesL_ (some 15) rfl rfl Tryd.func7 (by kernel_rfl) rfl #[] rfl (by (try simp only [List.map_toArray, List.map_cons, List.map_nil]); first | done | rfl | (simp only [List.length_drop, List.length_take]; rfl)) ?_; (with_reducible refine (newsreellaw44_awake.calls kj3  t330 _ A19.out).mono ?_); rintro e w20 ⟨rfl, hb⟩; refine ⟨_, rfl, ?_⟩; have n0_ := Aside0.mk (blk_below (g := gb326) (o := .cells #[.int .i64 a0_0, .int .i64 a0_1, .string a0_2, .string a0_3, .string a0_4, .int .i64 a0_5, .int .i64 a0_6, .int .i64 a0_7, .int .i64 a0_8, .bool a0_9, .int .i64 a0_10, .int .i64 a0_11, .int .i64 a0_12, .string a0_13, .int .i64 a0_14, .int .i64 a0_15, .string a0_16, .int .i64 a0_17, .int .i64 a0_18, .string a0_19] 23 (0, 0)) (sm_ BK326) hb); have n1_ := Aside0.mk (blk_below (g := gb327) (o := .cells #[.int .i64 a1_0, .string a1_1, .string a1_2, .int .i64 a1_3, .int .i64 a1_4] 25 (0, 0)) (sm_ BK327) hb); have n2_ := Aside0.mk (below_step (by repeat (with_reducible first | exact HB.out | apply below_alloc | apply pw_below_drewN | apply below_drew1 | refine below_set ?_ (Aside0.out (by assumption)))) hb); clear BK326; clear BK327; clear HB; have BK326 := n0_; have BK327 := n1_; have HB := n2_; clear n0_ n1_ n2_; (try clear hb); (try clear hb2); (try clear hk); (try clear hi)))
     go_ret
     exact ⟨by first | rfl | (simp [errW_none, errW_some] <;> rfl) | (simp [*, errW_none, errW_some] <;> rfl), by repeat (with_reducible first | exact HB.out | apply below_alloc | apply pw_below_drewN | apply below_drew1 | refine below_set ?_ (Aside0.out (by assumption)))⟩
    ·as_aux_lemma =>
     replace c18 := Bool.eq_false_iff.mpr c18
     subst c18
     have H1 : ((plan_Begin.f kj3 a0_0 a0_1 a0_2 a0_3 a0_4 a0_5 a0_6 a0_7 a0_8 a0_9 a0_10 a0_11 a0_12 a0_13 a0_14 a0_15 a0_16 a0_17 a0_18 a0_19).bind fun bt331 => ((newsreelref44_Begin.f kj3 a0_0 a0_1 a0_2 a0_3 a0_4 a0_5 a0_6 a0_7 a0_8 a0_9 a0_10 a0_11 a0_12 a0_13 a0_14 a0_15 a0_16 a0_17 a0_18 a0_19).bind fun bt351 => (if (bt331.1 == bt351.1 && (bt331.2.1 == bt351.2.1 && (bt331.2.2.1.toList == bt351.2.2.1.toList && (bt331.2.2.2.1.toList == bt351.2.2.2.1.toList && (bt331.2.2.2.2.1.toList == bt351.2.2.2.2.1.toList && (bt331.2.2.2.2.2.1 == bt351.2.2.2.2.2.1 && (bt331.2.2.2.2.2.2.1 == bt351.2.2.2.2.2.2.1 && (bt331.2.2.2.2.2.2.2.1 == bt351.2.2.2.2.2.2.2.1 && (bt331.2.2.2.2.2.2.2.2.1 == bt351.2.2.2.2.2.2.2.2.1 && (bt331.2.2.2.2.2.2.2.2.2.1 == bt351.2.2.2.2.2.2.2.2.2.1 && (bt331.2.2.2.2.2.2.2.2.2.2.1 == bt351.2.2.2.2.2.2.2.2.2.2.1 && (bt331.2.2.2.2.2.2.2.2.2.2.2.1 == bt351.2.2.2.2.2.2.2.2.2.2.2.1 && (bt331.2.2.2.2.2.2.2.2.2.2.2.2.1 == bt351.2.2.2.2.2.2.2.2.2.2.2.2.1 && (bt331.2.2.2.2.2.2.2.2.2.2.2.2.2.1.toList == bt351.2.2.2.2.2.2.2.2.2.2.2.2.2.1.toList && (bt331.2.2.2.2.2.2.2.2.2.2.2.2.2.2.1 == bt351.2.2.2.2.2.2.2.2.2.2.2.2.2.2.1 && (bt331.2.2.2.2.2.2.2.2.2.2.2.2.2.2.2.1 == bt351.2.2.2.2.2.2.2.2.2.2.2.2.2.2.2.1 && (bt331.2.2.2.2.2.2.2.2.2.2.2.2.2.2.2.2.1.toList == bt351.2.2.2.2.2.2.2.2.2.2.2.2.2.2.2.2.1.toList && (bt331.2.2.2.2.2.2.2.2.2.2.2.2.2.2.2.2.2.1 == bt351.2.2.2.2.2.2.2.2.2.2.2.2.2.2.2.2.2.1 && (bt331.2.2.2.2.2.2.2.2.2.2.2.2.2.2.2.2.2.2.1 == bt351.2.2.2.2.2.2.2.2.2.2.2.2.2.2.2.2.2.2.1 && (bt331.2.2.2.2.2.2.2.2.2.2.2.2.2.2.2.2.2.2.2.toList == bt351.2.2.2.2.2.2.2.2.2.2.2.2.2.2.2.2.2.2.2.toList)))))))))))))))))))) = true then ((plan_Complete.f a0_0 a0_1 a0_2 a0_3 a0_4 a0_5 a0_6 a0_7 a0_8 a0_9 a0_10 a0_11 a0_12 a0_13 a0_14 a0_15 a0_16 a0_17 a0_18 a0_19 a2).bind fun t371 => (if a0_7 = 2 then (if (t371 == (a0_17 == a2)) = true then ((plan_ForFeed.f kj3 a1_0 a1_1 a1_2 a1_3 a1_4).bind fun bt372 => ((newsreelref44_ForFeed.f kj3 a1_0 a1_1 a1_2 a1_3 a1_4).bind fun bt376 => (if (bt372.1.toList == bt376.1.toList && (bt372.2.1 == bt376.2.1 && (bt372.2.2.1.toList == bt376.2.2.1.toList && (bt372.2.2.2.toList == bt376.2.2.2.toList)))) = true then ((plan_ForEp.f kj3 a0_0 a0_1 a0_2 a0_3 a0_4 a0_5 a0_6 a0_7 a0_8 a0_9 a0_10 a0_11 a0_12 a0_13 a0_14 a0_15 a0_16 a0_17 a0_18 a0_19 a2).bind fun bt380 => ((newsreelref44_ForEp.f kj3 a0_0 a0_1 a0_2 a0_3 a0_4 a0_5 a0_6 a0_7 a0_8 a0_9 a0_10 a0_11 a0_12 a0_13 a0_14 a0_15 a0_16 a0_17 a0_18 a0_19 a2).bind fun bt384 => (if (bt380.1.toList == bt384.1.toList && (bt380.2.1 == bt384.2.1 && (bt380.2.2.1.toList == bt384.2.2.1.toList && (bt380.2.2.2.toList == bt384.2.2.2.toList)))) = true then ((newsreellaw44_awake.f kj3).bind fun t388 => (some t388)) else (none)))) else (none)))) else (none)) else (if t371 = true then (none) else ((plan_ForFeed.f kj3 a1_0 a1_1 a1_2 a1_3 a1_4).bind fun bt389 => ((newsreelref44_ForFeed.f kj3 a1_0 a1_1 a1_2 a1_3 a1_4).bind fun bt393 => (if (bt389.1.toList == bt393.1.toList && (bt389.2.1 == bt393.2.1 && (bt389.2.2.1.toList == bt393.2.2.1.toList && (bt389.2.2.2.toList == bt393.2.2.2.toList)))) = true then ((plan_ForEp.f kj3 a0_0 a0_1 a0_2 a0_3 a0_4 a0_5 a0_6 a0_7 a0_8 a0_9 a0_10 a0_11 a0_12 a0_13 a0_14 a0_15 a0_16 a0_17 a0_18 a0_19 a2).bind fun bt397 => ((newsreelref44_ForEp.f kj3 a0_0 a0_1 a0_2 a0_3 a0_4 a0_5 a0_6 a0_7 a0_8 a0_9 a0_10 a0_11 a0_12 a0_13 a0_14 a0_15 a0_16 a0_17 a0_18 a0_19 a2).bind fun bt401 => (if (bt397.1.toList == bt401.1.toList && (bt397.2.1 == bt401.2.1 && (bt397.2.2.1.toList == bt401.2.2.1.toList && (bt397.2.2.2.toList == bt401.2.2.2.toList)))) = true then ((newsreellaw44_awake.f kj3).bind fun t405 => (some t405)) else (none)))) else (none))))))) else (none)))) = some r := by rw [if_neg (show ¬ (false = true) by decide)] at H; exact H
     clear H
     have H := H1
     clear H1
     replace H := Option.bind_eq_some_iff.mp H
     obtain ⟨⟨t331, t332, t333, t334, t335, t336, t337, t338, t339, t340, t341, t342, t343, t344, t345, t346, t347, t348, t349, t350⟩, A210, H⟩ := H
     replace H : ((newsreelref44_Begin.f kj3 a0_0 a0_1 a0_2 a0_3 a0_4 a0_5 a0_6 a0_7 a0_8 a0_9 a0_10 a0_11 a0_12 a0_13 a0_14 a0_15 a0_16 a0_17 a0_18 a0_19).bind fun bt351 => (if (t331 == bt351.1 && (t332 == bt351.2.1 && (t333.toList == bt351.2.2.1.toList && (t334.toList == bt351.2.2.2.1.toList && (t335.toList == bt351.2.2.2.2.1.toList && (t336 == bt351.2.2.2.2.2.1 && (t337 == bt351.2.2.2.2.2.2.1 && (t338 == bt351.2.2.2.2.2.2.2.1 && (t339 == bt351.2.2.2.2.2.2.2.2.1 && (t340 == bt351.2.2.2.2.2.2.2.2.2.1 && (t341 == bt351.2.2.2.2.2.2.2.2.2.2.1 && (t342 == bt351.2.2.2.2.2.2.2.2.2.2.2.1 && (t343 == bt351.2.2.2.2.2.2.2.2.2.2.2.2.1 && (t344.toList == bt351.2.2.2.2.2.2.2.2.2.2.2.2.2.1.toList && (t345 == bt351.2.2.2.2.2.2.2.2.2.2.2.2.2.2.1 && (t346 == bt351.2.2.2.2.2.2.2.2.2.2.2.2.2.2.2.1 && (t347.toList == bt351.2.2.2.2.2.2.2.2.2.2.2.2.2.2.2.2.1.toList && (t348 == bt351.2.2.2.2.2.2.2.2.2.2.2.2.2.2.2.2.2.1 && (t349 == bt351.2.2.2.2.2.2.2.2.2.2.2.2.2.2.2.2.2.2.1 && (t350.toList == bt351.2.2.2.2.2.2.2.2.2.2.2.2.2.2.2.2.2.2.2.toList)))))))))))))))))))) = true then ((plan_Complete.f a0_0 a0_1 a0_2 a0_3 a0_4 a0_5 a0_6 a0_7 a0_8 a0_9 a0_10 a0_11 a0_12 a0_13 a0_14 a0_15 a0_16 a0_17 a0_18 a0_19 a2).bind fun t371 => (if a0_7 = 2 then (if (t371 == (a0_17 == a2)) = true then ((plan_ForFeed.f kj3 a1_0 a1_1 a1_2 a1_3 a1_4).bind fun bt372 => ((newsreelref44_ForFeed.f kj3 a1_0 a1_1 a1_2 a1_3 a1_4).bind fun bt376 => (if (bt372.1.toList == bt376.1.toList && (bt372.2.1 == bt376.2.1 && (bt372.2.2.1.toList == bt376.2.2.1.toList && (bt372.2.2.2.toList == bt376.2.2.2.toList)))) = true then ((plan_ForEp.f kj3 a0_0 a0_1 a0_2 a0_3 a0_4 a0_5 a0_6 a0_7 a0_8 a0_9 a0_10 a0_11 a0_12 a0_13 a0_14 a0_15 a0_16 a0_17 a0_18 a0_19 a2).bind fun bt380 => ((newsreelref44_ForEp.f kj3 a0_0 a0_1 a0_2 a0_3 a0_4 a0_5 a0_6 a0_7 a0_8 a0_9 a0_10 a0_11 a0_12 a0_13 a0_14 a0_15 a0_16 a0_17 a0_18 a0_19 a2).bind fun bt384 => (if (bt380.1.toList == bt384.1.toList && (bt380.2.1 == bt384.2.1 && (bt380.2.2.1.toList == bt384.2.2.1.toList && (bt380.2.2.2.toList == bt384.2.2.2.toList)))) = true then ((newsreellaw44_awake.f kj3).bind fun t388 => (some t388)) else (none)))) else (none)))) else (none)) else (if t371 = true then (none) else ((plan_ForFeed.f kj3 a1_0 a1_1 a1_2 a1_3 a1_4).bind fun bt389 => ((newsreelref44_ForFeed.f kj3 a1_0 a1_1 a1_2 a1_3 a1_4).bind fun bt393 => (if (bt389.1.toList == bt393.1.toList && (bt389.2.1 == bt393.2.1 && (bt389.2.2.1.toList == bt393.2.2.1.toList && (bt389.2.2.2.toList == bt393.2.2.2.toList)))) = true then ((plan_ForEp.f kj3 a0_0 a0_1 a0_2 a0_3 a0_4 a0_5 a0_6 a0_7 a0_8 a0_9 a0_10 a0_11 a0_12 a0_13 a0_14 a0_15 a0_16 a0_17 a0_18 a0_19 a2).bind fun bt397 => ((newsreelref44_ForEp.f kj3 a0_0 a0_1 a0_2 a0_3 a0_4 a0_5 a0_6 a0_7 a0_8 a0_9 a0_10 a0_11 a0_12 a0_13 a0_14 a0_15 a0_16 a0_17 a0_18 a0_19 a2).bind fun bt401 => (if (bt397.1.toList == bt401.1.toList && (bt397.2.1 == bt401.2.1 && (bt397.2.2.1.toList == bt401.2.2.1.toList && (bt397.2.2.2.toList == bt401.2.2.2.toList)))) = true then ((newsreellaw44_awake.f kj3).bind fun t405 => (some t405)) else (none)))) else (none))))))) else (none))) = some r := H
     have A21 := Aside0.mk A210
     clear A210
     replace H := Option.bind_eq_some_iff.mp H
     obtain ⟨⟨t351, t352, t353, t354, t355, t356, t357, t358, t359, t360, t361, t362, t363, t364, t365, t366, t367, t368, t369, t370⟩, A220, H⟩ := H
     replace H : (if (t331 == t351 && (t332 == t352 && (t333.toList == t353.toList && (t334.toList == t354.toList && (t335.toList == t355.toList && (t336 == t356 && (t337 == t357 && (t338 == t358 && (t339 == t359 && (t340 == t360 && (t341 == t361 && (t342 == t362 && (t343 == t363 && (t344.toList == t364.toList && (t345 == t365 && (t346 == t366 && (t347.toList == t367.toList && (t348 == t368 && (t349 == t369 && (t350.toList == t370.toList)))))))))))))))))))) = true then ((plan_Complete.f a0_0 a0_1 a0_2 a0_3 a0_4 a0_5 a0_6 a0_7 a0_8 a0_9 a0_10 a0_11 a0_12 a0_13 a0_14 a0_15 a0_16 a0_17 a0_18 a0_19 a2).bind fun t371 => (if a0_7 = 2 then (if (t371 == (a0_17 == a2)) = true then ((plan_ForFeed.f kj3 a1_0 a1_1 a1_2 a1_3 a1_4).bind fun bt372 => ((newsreelref44_ForFeed.f kj3 a1_0 a1_1 a1_2 a1_3 a1_4).bind fun bt376 => (if (bt372.1.toList == bt376.1.toList && (bt372.2.1 == bt376.2.1 && (bt372.2.2.1.toList == bt376.2.2.1.toList && (bt372.2.2.2.toList == bt376.2.2.2.toList)))) = true then ((plan_ForEp.f kj3 a0_0 a0_1 a0_2 a0_3 a0_4 a0_5 a0_6 a0_7 a0_8 a0_9 a0_10 a0_11 a0_12 a0_13 a0_14 a0_15 a0_16 a0_17 a0_18 a0_19 a2).bind fun bt380 => ((newsreelref44_ForEp.f kj3 a0_0 a0_1 a0_2 a0_3 a0_4 a0_5 a0_6 a0_7 a0_8 a0_9 a0_10 a0_11 a0_12 a0_13 a0_14 a0_15 a0_16 a0_17 a0_18 a0_19 a2).bind fun bt384 => (if (bt380.1.toList == bt384.1.toList && (bt380.2.1 == bt384.2.1 && (bt380.2.2.1.toList == bt384.2.2.1.toList && (bt380.2.2.2.toList == bt384.2.2.2.toList)))) = true then ((newsreellaw44_awake.f kj3).bind fun t388 => (some t388)) else (none)))) else (none)))) else (none)) else (if t371 = true then (none) else ((plan_ForFeed.f kj3 a1_0 a1_1 a1_2 a1_3 a1_4).bind fun bt389 => ((newsreelref44_ForFeed.f kj3 a1_0 a1_1 a1_2 a1_3 a1_4).bind fun bt393 => (if (bt389.1.toList == bt393.1.toList && (bt389.2.1 == bt393.2.1 && (bt389.2.2.1.toList == bt393.2.2.1.toList && (bt389.2.2.2.toList == bt393.2.2.2.toList)))) = true then ((plan_ForEp.f kj3 a0_0 a0_1 a0_2 a0_3 a0_4 a0_5 a0_6 a0_7 a0_8 a0_9 a0_10 a0_11 a0_12 a0_13 a0_14 a0_15 a0_16 a0_17 a0_18 a0_19 a2).bind fun bt397 => ((newsreelref44_ForEp.f kj3 a0_0 a0_1 a0_2 a0_3 a0_4 a0_5 a0_6 a0_7 a0_8 a0_9 a0_10 a0_11 a0_12 a0_13 a0_14 a0_15 a0_16 a0_17 a0_18 a0_19 a2).bind fun bt401 => (if (bt397.1.toList == bt401.1.toList && (bt397.2.1 == bt401.2.1 && (bt397.2.2.1.toList == bt401.2.2.1.toList && (bt397.2.2.2.toList == bt401.2.2.2.toList)))) = true then ((newsreellaw44_awake.f kj3).bind fun t405 => (some t405)) else (none)))) else (none))))))) else (none)) = some r := H
     have A22 := Aside0.mk A220
     clear A220
     by_cases c23 : (t331 == t351 && (t332 == t352 && (t333.toList == t353.toList && (t334.toList == t354.toList && (t335.toList == t355.toList && (t336 == t356 && (t337 == t357 && (t338 == t358 && (t339 == t359 && (t340 == t360 && (t341 == t361 && (t342 == t362 && (t343 == t363 && (t344.toList == t364.toList && (t345 == t365 && (t346 == t366 && (t347.toList == t367.toList && (t348 == t368 && (t349 == t369 && (t350.toList == t370.toList)))))))))))))))))))) = true
     ·as_aux_lemma =>
      rw [if_pos c23] at H
      have c23b0 : (t331 == t351 && (t332 == t352 && (t333.toList == t353.toList && (t334.toList == t354.toList && (t335.toList == t355.toList && (t336 == t356 && (t337 == t357 && (t338 == t358 && (t339 == t359 && (t340 == t360 && (t341 == t361 && (t342 == t362 && (t343 == t363 && (t344.toList == t364.toList && (t345 == t365 && (t346 == t366 && (t347.toList == t367.toList && (t348 == t368 && (t349 == t369 && (t350.toList == t370.toList)))))))))))))))))))) = true := c23
      (try (have c23z := c23b0; simp only [Bool.and_eq_true, beq_iff_eq] at c23z; replace c23z := eq_true c23z))
      (try (have c23b1 : decide (t331 = t351 && (t332 == t352 && (t333.toList == t353.toList && (t334.toList == t354.toList && (t335.toList == t355.toList && (t336 == t356 && (t337 == t357 && (t338 == t358 && (t339 == t359 && (t340 == t360 && (t341 == t361 && (t342 == t362 && (t343 == t363 && (t344.toList == t364.toList && (t345 == t365 && (t346 == t366 && (t347.toList == t367.toList && (t348 == t368 && (t349 == t369 && (t350.toList == t370.toList)))))))))))))))))))) = true := by simpa using c23))
      (try (have c23b2 : (t331 == t351 && (t332 == t352 && (t333.toList == t353.toList && (t334.toList == t354.toList && (t335.toList == t355.toList && (t336 == t356 && (t337 == t357 && (t338 == t358 && (t339 == t359 && (t340 == t360 && (t341 == t361 && (t342 == t362 && (t343 == t363 && (t344.toList == t364.toList && (t345 == t365 && (t346 == t366 && (t347.toList == t367.toList && (t348 == t368 && (t349 == t369 && (t350.toList == t370.toList)))))))))))))))))))) = true := by simpa using c23))
      clear c23
      replace H := Option.bind_eq_some_iff.mp H
      obtain ⟨t371, A240, H⟩ := H
      replace H : (if a0_7 = 2 then (if (t371 == (a0_17 == a2)) = true then ((plan_ForFeed.f kj3 a1_0 a1_1 a1_2 a1_3 a1_4).bind fun bt372 => ((newsreelref44_ForFeed.f kj3 a1_0 a1_1 a1_2 a1_3 a1_4).bind fun bt376 => (if (bt372.1.toList == bt376.1.toList && (bt372.2.1 == bt376.2.1 && (bt372.2.2.1.toList == bt376.2.2.1.toList && (bt372.2.2.2.toList == bt376.2.2.2.toList)))) = true then ((plan_ForEp.f kj3 a0_0 a0_1 a0_2 a0_3 a0_4 a0_5 a0_6 a0_7 a0_8 a0_9 a0_10 a0_11 a0_12 a0_13 a0_14 a0_15 a0_16 a0_17 a0_18 a0_19 a2).bind fun bt380 => ((newsreelref44_ForEp.f kj3 a0_0 a0_1 a0_2 a0_3 a0_4 a0_5 a0_6 a0_7 a0_8 a0_9 a0_10 a0_11 a0_12 a0_13 a0_14 a0_15 a0_16 a0_17 a0_18 a0_19 a2).bind fun bt384 => (if (bt380.1.toList == bt384.1.toList && (bt380.2.1 == bt384.2.1 && (bt380.2.2.1.toList == bt384.2.2.1.toList && (bt380.2.2.2.toList == bt384.2.2.2.toList)))) = true then ((newsreellaw44_awake.f kj3).bind fun t388 => (some t388)) else (none)))) else (none)))) else (none)) else (if t371 = true then (none) else ((plan_ForFeed.f kj3 a1_0 a1_1 a1_2 a1_3 a1_4).bind fun bt389 => ((newsreelref44_ForFeed.f kj3 a1_0 a1_1 a1_2 a1_3 a1_4).bind fun bt393 => (if (bt389.1.toList == bt393.1.toList && (bt389.2.1 == bt393.2.1 && (bt389.2.2.1.toList == bt393.2.2.1.toList && (bt389.2.2.2.toList == bt393.2.2.2.toList)))) = true then ((plan_ForEp.f kj3 a0_0 a0_1 a0_2 a0_3 a0_4 a0_5 a0_6 a0_7 a0_8 a0_9 a0_10 a0_11 a0_12 a0_13 a0_14 a0_15 a0_16 a0_17 a0_18 a0_19 a2).bind fun bt397 => ((newsreelref44_ForEp.f kj3 a0_0 a0_1 a0_2 a0_3 a0_4 a0_5 a0_6 a0_7 a0_8 a0_9 a0_10 a0_11 a0_12 a0_13 a0_14 a0_15 a0_16 a0_17 a0_18 a0_19 a2).bind fun bt401 => (if (bt397.1.toList == bt401.1.toList && (bt397.2.1 == bt401.2.1 && (bt397.2.2.1.toList == bt401.2.2.1.toList && (bt397.2.2.2.toList == bt401.2.2.2.toList)))) = true then ((newsreellaw44_awake.f kj3).bind fun t405 => (some t405)) else (none)))) else (none)))))) = some r := H
      have A24 := Aside0.mk A240
      clear A240
      by_cases c25 : a0_7 = 2
      ·as_aux_lemma =>
       rw [if_pos c25] at H
       have c25b0 : (a0_7 == 2) = true := beq_iff_eq.mpr c25
       have c25b1 : (a0_7 != 2) = false := bne_eq_false_iff_eq.mpr c25
       clear c25
       by_cases c26 : (t371 == (a0_17 == a2)) = true
       ·as_aux_lemma =>
        rw [if_pos c26] at H
        have c26b0 : (t371 == (a0_17 == a2)) = true := c26
        (try (have c26b1 : decide (t371 = (a0_17 == a2)) = true := by simpa using c26))
        (try (have c26b2 : (t371 == (a0_17 == a2)) = true := by simpa using c26))
        clear c26
        replace H := Option.bind_eq_some_iff.mp H
        obtain ⟨⟨t372, t373, t374, t375⟩, A270, H⟩ := H
        replace H : ((newsreelref44_ForFeed.f kj3 a1_0 a1_1 a1_2 a1_3 a1_4).bind fun bt376 => (if (t372.toList == bt376.1.toList && (t373 == bt376.2.1 && (t374.toList == bt376.2.2.1.toList && (t375.toList == bt376.2.2.2.toList)))) = true then ((plan_ForEp.f kj3 a0_0 a0_1 a0_2 a0_3 a0_4 a0_5 a0_6 a0_7 a0_8 a0_9 a0_10 a0_11 a0_12 a0_13 a0_14 a0_15 a0_16 a0_17 a0_18 a0_19 a2).bind fun bt380 => ((newsreelref44_ForEp.f kj3 a0_0 a0_1 a0_2 a0_3 a0_4 a0_5 a0_6 a0_7 a0_8 a0_9 a0_10 a0_11 a0_12 a0_13 a0_14 a0_15 a0_16 a0_17 a0_18 a0_19 a2).bind fun bt384 => (if (bt380.1.toList == bt384.1.toList && (bt380.2.1 == bt384.2.1 && (bt380.2.2.1.toList == bt384.2.2.1.toList && (bt380.2.2.2.toList == bt384.2.2.2.toList)))) = true then ((newsreellaw44_awake.f kj3).bind fun t388 => (some t388)) else (none)))) else (none))) = some r := H
        have A27 := Aside0.mk A270
        clear A270
        replace H := Option.bind_eq_some_iff.mp H
        obtain ⟨⟨t376, t377, t378, t379⟩, A280, H⟩ := H
        replace H : (if (t372.toList == t376.toList && (t373 == t377 && (t374.toList == t378.toList && (t375.toList == t379.toList)))) = true then ((plan_ForEp.f kj3 a0_0 a0_1 a0_2 a0_3 a0_4 a0_5 a0_6 a0_7 a0_8 a0_9 a0_10 a0_11 a0_12 a0_13 a0_14 a0_15 a0_16 a0_17 a0_18 a0_19 a2).bind fun bt380 => ((newsreelref44_ForEp.f kj3 a0_0 a0_1 a0_2 a0_3 a0_4 a0_5 a0_6 a0_7 a0_8 a0_9 a0_10 a0_11 a0_12 a0_13 a0_14 a0_15 a0_16 a0_17 a0_18 a0_19 a2).bind fun bt384 => (if (bt380.1.toList == bt384.1.toList && (bt380.2.1 == bt384.2.1 && (bt380.2.2.1.toList == bt384.2.2.1.toList && (bt380.2.2.2.toList == bt384.2.2.2.toList)))) = true then ((newsreellaw44_awake.f kj3).bind fun t388 => (some t388)) else (none)))) else (none)) = some r := H
        have A28 := Aside0.mk A280
        clear A280
        by_cases c29 : (t372.toList == t376.toList && (t373 == t377 && (t374.toList == t378.toList && (t375.toList == t379.toList)))) = true
        ·as_aux_lemma =>
         rw [if_pos c29] at H
         have c29b0 : (t372.toList == t376.toList && (t373 == t377 && (t374.toList == t378.toList && (t375.toList == t379.toList)))) = true := c29
         (try (have c29z := c29b0; simp only [Bool.and_eq_true, beq_iff_eq] at c29z; replace c29z := eq_true c29z))
         (try (have c29b1 : decide (t372.toList = t376.toList && (t373 == t377 && (t374.toList == t378.toList && (t375.toList == t379.toList)))) = true := by simpa using c29))
         (try (have c29b2 : (t372.toList == t376.toList && (t373 == t377 && (t374.toList == t378.toList && (t375.toList == t379.toList)))) = true := by simpa using c29))
         clear c29
         replace H := Option.bind_eq_some_iff.mp H
         obtain ⟨⟨t380, t381, t382, t383⟩, A300, H⟩ := H
         replace H : ((newsreelref44_ForEp.f kj3 a0_0 a0_1 a0_2 a0_3 a0_4 a0_5 a0_6 a0_7 a0_8 a0_9 a0_10 a0_11 a0_12 a0_13 a0_14 a0_15 a0_16 a0_17 a0_18 a0_19 a2).bind fun bt384 => (if (t380.toList == bt384.1.toList && (t381 == bt384.2.1 && (t382.toList == bt384.2.2.1.toList && (t383.toList == bt384.2.2.2.toList)))) = true then ((newsreellaw44_awake.f kj3).bind fun t388 => (some t388)) else (none))) = some r := H
         have A30 := Aside0.mk A300
         clear A300
         replace H := Option.bind_eq_some_iff.mp H
         obtain ⟨⟨t384, t385, t386, t387⟩, A310, H⟩ := H
         replace H : (if (t380.toList == t384.toList && (t381 == t385 && (t382.toList == t386.toList && (t383.toList == t387.toList)))) = true then ((newsreellaw44_awake.f kj3).bind fun t388 => (some t388)) else (none)) = some r := H
         have A31 := Aside0.mk A310
         clear A310
         by_cases c32 : (t380.toList == t384.toList && (t381 == t385 && (t382.toList == t386.toList && (t383.toList == t387.toList)))) = true
         ·as_aux_lemma =>
          rw [if_pos c32] at H
          have c32b0 : (t380.toList == t384.toList && (t381 == t385 && (t382.toList == t386.toList && (t383.toList == t387.toList)))) = true := c32
          (try (have c32z := c32b0; simp only [Bool.and_eq_true, beq_iff_eq] at c32z; replace c32z := eq_true c32z))
          (try (have c32b1 : decide (t380.toList = t384.toList && (t381 == t385 && (t382.toList == t386.toList && (t383.toList == t387.toList)))) = true := by simpa using c32))
          (try (have c32b2 : (t380.toList == t384.toList && (t381 == t385 && (t382.toList == t386.toList && (t383.toList == t387.toList)))) = true := by simpa using c32))
          clear c32
          replace H := Option.bind_eq_some_iff.mp H
          obtain ⟨t388, A330, H⟩ := H
          replace H : (some t388) = some r := H
          have A33 := Aside0.mk A330
          clear A330
          obtain rfl := Option.some.inj H
          try go_wp2
          have n0_ := Aside0.mk (blk_drew BK326.out)
          have n1_ := Aside0.mk (blk_drew BK327.out)
          have n2_ := Aside0.mk (below_drew1 HB.out)
          clear BK326
          clear BK327
          clear HB
          have BK326 := n0_
          have BK327 := n1_
          have HB := n2_
          clear n0_ n1_ n2_
          refine start_ (n := 40) (S := fun w' => w'.cell? ⟨gb326, 0, none⟩ = some (.int .i64 a0_0) ∧ w'.cell? ⟨gb326, 1, none⟩ = some (.int .i64 a0_1) ∧ w'.cell? ⟨gb326, 2, none⟩ = some (.string a0_2) ∧ w'.cell? ⟨gb326, 3, none⟩ = some (.string a0_3) ∧ w'.cell? ⟨gb326, 4, none⟩ = some (.string a0_4) ∧ w'.cell? ⟨gb326, 5, none⟩ = some (.int .i64 a0_5) ∧ w'.cell? ⟨gb326, 6, none⟩ = some (.int .i64 a0_6) ∧ w'.cell? ⟨gb326, 7, none⟩ = some (.int .i64 a0_7) ∧ w'.cell? ⟨gb326, 8, none⟩ = some (.int .i64 a0_8) ∧ w'.cell? ⟨gb326, 9, none⟩ = some (.bool a0_9) ∧ w'.cell? ⟨gb326, 10, none⟩ = some (.int .i64 a0_10) ∧ w'.cell? ⟨gb326, 11, none⟩ = some (.int .i64 a0_11) ∧ w'.cell? ⟨gb326, 12, none⟩ = some (.int .i64 a0_12) ∧ w'.cell? ⟨gb326, 13, none⟩ = some (.string a0_13) ∧ w'.cell? ⟨gb326, 14, none⟩ = some (.int .i64 a0_14) ∧ w'.cell? ⟨gb326, 15, none⟩ = some (.int .i64 a0_15) ∧ w'.cell? ⟨gb326, 16, none⟩ = some (.string a0_16) ∧ w'.cell? ⟨gb326, 17, none⟩ = some (.int .i64 a0_17) ∧ w'.cell? ⟨gb326, 18, none⟩ = some (.int .i64 a0_18) ∧ w'.cell? ⟨gb326, 19, none⟩ = some (.string a0_19) ∧ w'.cell? ⟨gb327, 0, none⟩ = some (.int .i64 a1_0) ∧ w'.cell? ⟨gb327, 1, none⟩ = some (.string a1_1) ∧ w'.cell? ⟨gb327, 2, none⟩ = some (.string a1_2) ∧ w'.cell? ⟨gb327, 3, none⟩ = some (.int .i64 a1_3) ∧ w'.cell? ⟨gb327, 4, none⟩ = some (.int .i64 a1_4)) (ds := []) #[false, false, false, false, false, false, false, false, false, false, false, false, false, false, false, false, false, false, false, false, false, false, false, false, false, false, false, false, false, false, false, false, false, false, false, false, false, false, false, false] (by kernel_rfl) rfl rfl ⟨(blk_cell BK326.out 0).trans rfl, (blk_cell BK326.out 1).trans rfl, (blk_cell BK326.out 2).trans rfl, (blk_cell BK326.out 3).trans rfl, (blk_cell BK326.out 4).trans rfl, (blk_cell BK326.out 5).trans rfl, (blk_cell BK326.out 6).trans rfl, (blk_cell BK326.out 7).trans rfl, (blk_cell BK326.out 8).trans rfl, (blk_cell BK326.out 9).trans rfl, (blk_cell BK326.out 10).trans rfl, (blk_cell BK326.out 11).trans rfl, (blk_cell BK326.out 12).trans rfl, (blk_cell BK326.out 13).trans rfl, (blk_cell BK326.out 14).trans rfl, (blk_cell BK326.out 15).trans rfl, (blk_cell BK326.out 16).trans rfl, (blk_cell BK326.out 17).trans rfl, (blk_cell BK326.out 18).trans rfl, (blk_cell BK326.out 19).trans rfl, (blk_cell BK327.out 0).trans rfl, (blk_cell BK327.out 1).trans rfl, (blk_cell BK327.out 2).trans rfl, (blk_cell BK327.out 3).trans rfl, (blk_cell BK327.out 4).trans rfl⟩ (fun hHeld => ?_); refine with_tabW newsreellaw44_PlanTells.tab3 newsreellaw44_PlanTells.bits3 (fun HT_ HW_ => ?_)
          generalize wc.drew = w34 at BK326 BK327 HB hHeld ⊢
          refine take_ (i := 0) (N := some 16) (v := ?_) (a' := ?_) #[true, false, false, false, false, false, false, false, false, false, false, false, false, false, false, false, false, false, false, false, false, false, false, false, false, false, false, false, false, false, false, false, false, false, false, false, false, false, false, false] rfl rfl (take_ofW HT_.out HW_.out (by kernel_rfl)) (fun _ _ _ h => h) (Or.inl ⟨by rfl, ?_⟩) hHeld ?_ ?_
          rotate_left
          ·rintro w' ⟨s0, s1, s2, s3, s4, s5, s6, s7, s8, s9, s10, s11, s12, s13, s14, s15, s16, s17, s18, s19, s20, s21, s22, s23, s24⟩
           refine Hand.exec_load_big 23 (.tmp 3) ?ho_ ⟨gb326, 0, none⟩ ?hx_ [.int .i64 a0_0, .int .i64 a0_1, .string a0_2, .string a0_3, .string a0_4, .int .i64 a0_5, .int .i64 a0_6, .int .i64 a0_7, .int .i64 a0_8, .bool a0_9, .int .i64 a0_10, .int .i64 a0_11, .int .i64 a0_12, .string a0_13, .int .i64 a0_14, .int .i64 a0_15, .string a0_16, .int .i64 a0_17, .int .i64 a0_18, .string a0_19] desc23.choose ?hc_ desc23.choose_spec.1 desc23.choose_spec.2 ?hi_
           case ho_ => rfl
           case hx_ => rfl
           case hc_ => exact Hand.cc_first s0 (Hand.cc_cons (b := gb326) (o := 0) 1 s1 (Hand.cc_cons (b := gb326) (o := 0) 2 s2 (Hand.cc_cons (b := gb326) (o := 0) 3 s3 (Hand.cc_cons (b := gb326) (o := 0) 4 s4 (Hand.cc_cons (b := gb326) (o := 0) 5 s5 (Hand.cc_cons (b := gb326) (o := 0) 6 s6 (Hand.cc_cons (b := gb326) (o := 0) 7 s7 (Hand.cc_cons (b := gb326) (o := 0) 8 s8 (Hand.cc_cons (b := gb326) (o := 0) 9 s9 (Hand.cc_cons (b := gb326) (o := 0) 10 s10 (Hand.cc_cons (b := gb326) (o := 0) 11 s11 (Hand.cc_cons (b := gb326) (o := 0) 12 s12 (Hand.cc_cons (b := gb326) (o := 0) 13 s13 (Hand.cc_cons (b := gb326) (o := 0) 14 s14 (Hand.cc_cons (b := gb326) (o := 0) 15 s15 (Hand.cc_cons (b := gb326) (o := 0) 16 s16 (Hand.cc_cons (b := gb326) (o := 0) 17 s17 (Hand.cc_cons (b := gb326) (o := 0) 18 s18 (Hand.cc_cons (b := gb326) (o := 0) 19 s19 (Hand.cc_nil 20))))))))))))))))))))
           case hi_ => kernel_rfl
          rotate_left
          ·simp only [Act.put, S_]
           rfl
          refine take_ (i := 2) (N := some 18) (v := ?_) (a' := ?_) #[true, false, true, false, false, false, false, false, false, false, false, false, false, false, false, false, false, false, false, false, false, false, false, false, false, false, false, false, false, false, false, false, false, false, false, false, false, false, false, false] rfl rfl (take_ofW HT_.out HW_.out (by kernel_rfl)) (fun _ _ _ h => h) (Or.inl ⟨by rfl, ?_⟩) hHeld ?_ ?_
          rotate_left
          ·rintro w' ⟨s0, s1, s2, s3, s4, s5, s6, s7, s8, s9, s10, s11, s12, s13, s14, s15, s16, s17, s18, s19, s20, s21, s22, s23, s24⟩
           refine Hand.exec_load_big 23 (.tmp 3) ?ho_ ⟨gb326, 0, none⟩ ?hx_ [.int .i64 a0_0, .int .i64 a0_1, .string a0_2, .string a0_3, .string a0_4, .int .i64 a0_5, .int .i64 a0_6, .int .i64 a0_7, .int .i64 a0_8, .bool a0_9, .int .i64 a0_10, .int .i64 a0_11, .int .i64 a0_12, .string a0_13, .int .i64 a0_14, .int .i64 a0_15, .string a0_16, .int .i64 a0_17, .int .i64 a0_18, .string a0_19] desc23.choose ?hc_ desc23.choose_spec.1 desc23.choose_spec.2 ?hi_
           case ho_ => rfl
           case hx_ => rfl
           case hc_ => exact Hand.cc_first s0 (Hand.cc_cons (b := gb326) (o := 0) 1 s1 (Hand.cc_cons (b := gb326) (o := 0) 2 s2 (Hand.cc_cons (b := gb326) (o := 0) 3 s3 (Hand.cc_cons (b := gb326) (o := 0) 4 s4 (Hand.cc_cons (b := gb326) (o := 0) 5 s5 (Hand.cc_cons (b := gb326) (o := 0) 6 s6 (Hand.cc_cons (b := gb326) (o := 0) 7 s7 (Hand.cc_cons (b := gb326) (o := 0) 8 s8 (Hand.cc_cons (b := gb326) (o := 0) 9 s9 (Hand.cc_cons (b := gb326) (o := 0) 10 s10 (Hand.cc_cons (b := gb326) (o := 0) 11 s11 (Hand.cc_cons (b := gb326) (o := 0) 12 s12 (Hand.cc_cons (b := gb326) (o := 0) 13 s13 (Hand.cc_cons (b := gb326) (o := 0) 14 s14 (Hand.cc_cons (b := gb326) (o := 0) 15 s15 (Hand.cc_cons (b := gb326) (o := 0) 16 s16 (Hand.cc_cons (b := gb326) (o := 0) 17 s17 (Hand.cc_cons (b := gb326) (o := 0) 18 s18 (Hand.cc_cons (b := gb326) (o := 0) 19 s19 (Hand.cc_nil 20))))))))))))))))))))
           case hi_ => kernel_rfl
          rotate_left
          ·simp only [Act.put, S_]
           rfl
          refine one_ (i := 1) (N := some 17) #[true, true, true, false, false, false, false, false, false, false, false, false, false, false, false, false, false, false, false, false, false, false, false, false, false, false, false, false, false, false, false, false, false, false, false, false, false, false, false, false] rfl rfl (one_of HT_.out (by kernel_rfl)) (by decide) (fun K hK => ?_)
          refine goes_ Tryd.func8 (by kernel_rfl) rfl #[.agg #[.int .i64 a0_0, .int .i64 a0_1, .string a0_2, .string a0_3, .string a0_4, .int .i64 a0_5, .int .i64 a0_6, .int .i64 a0_7, .int .i64 a0_8, .bool a0_9, .int .i64 a0_10, .int .i64 a0_11, .int .i64 a0_12, .string a0_13, .int .i64 a0_14, .int .i64 a0_15, .string a0_16, .int .i64 a0_17, .int .i64 a0_18, .string a0_19]] (by rfl) rfl rfl (by (try simp only [List.map_toArray, List.map_cons, List.map_nil]); first | done | rfl | (simp only [List.length_drop, List.length_take]; rfl)) ?_
          with_reducible refine (plan_Begin.calls kj3 a0_0 a0_1 a0_2 a0_3 a0_4 a0_5 a0_6 a0_7 a0_8 a0_9 a0_10 a0_11 a0_12 a0_13 a0_14 a0_15 a0_16 a0_17 a0_18 a0_19 t331 t332 t333 t334 t335 t336 t337 t338 t339 t340 t341 t342 t343 t344 t345 t346 t347 t348 t349 t350 _ A21.out).mono ?_
          rintro e w35 ⟨rfl, hb⟩
          refine ⟨_, rfl, ?_⟩
          have n0_ := Aside0.mk (blk_below (g := gb326) (o := .cells #[.int .i64 a0_0, .int .i64 a0_1, .string a0_2, .string a0_3, .string a0_4, .int .i64 a0_5, .int .i64 a0_6, .int .i64 a0_7, .int .i64 a0_8, .bool a0_9, .int .i64 a0_10, .int .i64 a0_11, .int .i64 a0_12, .string a0_13, .int .i64 a0_14, .int .i64 a0_15, .string a0_16, .int .i64 a0_17, .int .i64 a0_18, .string a0_19] 23 (0, 0)) (sm_ BK326) hb)
          have n1_ := Aside0.mk (blk_below (g := gb327) (o := .cells #[.int .i64 a1_0, .string a1_1, .string a1_2, .int .i64 a1_3, .int .i64 a1_4] 25 (0, 0)) (sm_ BK327) hb)
          have n2_ := Aside0.mk (below_step (by repeat (with_reducible first | exact HB.out | apply below_alloc | apply pw_below_drewN | apply below_drew1 | refine below_set ?_ (Aside0.out (by assumption)))) hb)
          clear BK326
          clear BK327
          clear HB
          have BK326 := n0_
          have BK327 := n1_
          have HB := n2_
          clear n0_ n1_ n2_
          (try clear hb)
          (try clear hb2)
          (try clear hk)
          (try clear hi)
          refine hK.out _ _ ⟨(blk_cell BK326.out 0).trans rfl, (blk_cell BK326.out 1).trans rfl, (blk_cell BK326.out 2).trans rfl, (blk_cell BK326.out 3).trans rfl, (blk_cell BK326.out 4).trans rfl, (blk_cell BK326.out 5).trans rfl, (blk_cell BK326.out 6).trans rfl, (blk_cell BK326.out 7).trans rfl, (blk_cell BK326.out 8).trans rfl, (blk_cell BK326.out 9).trans rfl, (blk_cell BK326.out 10).trans rfl, (blk_cell BK326.out 11).trans rfl, (blk_cell BK326.out 12).trans rfl, (blk_cell BK326.out 13).trans rfl, (blk_cell BK326.out 14).trans rfl, (blk_cell BK326.out 15).trans rfl, (blk_cell BK326.out 16).trans rfl, (blk_cell BK326.out 17).trans rfl, (blk_cell BK326.out 18).trans rfl, (blk_cell BK326.out 19).trans rfl, (blk_cell BK327.out 0).trans rfl, (blk_cell BK327.out 1).trans rfl, (blk_cell BK327.out 2).trans rfl, (blk_cell BK327.out 3).trans rfl, (blk_cell BK327.out 4).trans rfl⟩ (fun hHeld => ?_)
          clear hK K
          refine norm_ (a' := ?_) ?_ ?_
          rotate_left
          ·show Act.put _ (some 17) _ = _
           simp only [Act.put, S_]
           rfl
          refine one_ (i := 3) (N := some 19) #[true, true, true, true, false, false, false, false, false, false, false, false, false, false, false, false, false, false, false, false, false, false, false, false, false, false, false, false, false, false, false, false, false, false, false, false, false, false, false, false] rfl rfl (one_of HT_.out (by kernel_rfl)) (by decide) (fun K hK => ?_)
          refine goes_ Tryd.func9 (by kernel_rfl) rfl #[.agg #[.int .i64 a0_0, .int .i64 a0_1, .string a0_2, .string a0_3, .string a0_4, .int .i64 a0_5, .int .i64 a0_6, .int .i64 a0_7, .int .i64 a0_8, .bool a0_9, .int .i64 a0_10, .int .i64 a0_11, .int .i64 a0_12, .string a0_13, .int .i64 a0_14, .int .i64 a0_15, .string a0_16, .int .i64 a0_17, .int .i64 a0_18, .string a0_19]] (by rfl) rfl rfl (by (try simp only [List.map_toArray, List.map_cons, List.map_nil]); first | done | rfl | (simp only [List.length_drop, List.length_take]; rfl)) ?_
          with_reducible refine (newsreelref44_Begin.calls kj3 a0_0 a0_1 a0_2 a0_3 a0_4 a0_5 a0_6 a0_7 a0_8 a0_9 a0_10 a0_11 a0_12 a0_13 a0_14 a0_15 a0_16 a0_17 a0_18 a0_19 t351 t352 t353 t354 t355 t356 t357 t358 t359 t360 t361 t362 t363 t364 t365 t366 t367 t368 t369 t370 _ A22.out).mono ?_
          rintro e w36 ⟨rfl, hb⟩
          refine ⟨_, rfl, ?_⟩
          have n0_ := Aside0.mk (blk_below (g := gb326) (o := .cells #[.int .i64 a0_0, .int .i64 a0_1, .string a0_2, .string a0_3, .string a0_4, .int .i64 a0_5, .int .i64 a0_6, .int .i64 a0_7, .int .i64 a0_8, .bool a0_9, .int .i64 a0_10, .int .i64 a0_11, .int .i64 a0_12, .string a0_13, .int .i64 a0_14, .int .i64 a0_15, .string a0_16, .int .i64 a0_17, .int .i64 a0_18, .string a0_19] 23 (0, 0)) (sm_ BK326) hb)
          have n1_ := Aside0.mk (blk_below (g := gb327) (o := .cells #[.int .i64 a1_0, .string a1_1, .string a1_2, .int .i64 a1_3, .int .i64 a1_4] 25 (0, 0)) (sm_ BK327) hb)
          have n2_ := Aside0.mk (below_step (by repeat (with_reducible first | exact HB.out | apply below_alloc | apply pw_below_drewN | apply below_drew1 | refine below_set ?_ (Aside0.out (by assumption)))) hb)
          clear BK326
          clear BK327
          clear HB
          have BK326 := n0_
          have BK327 := n1_
          have HB := n2_
          clear n0_ n1_ n2_
          (try clear hb)
          (try clear hb2)
          (try clear hk)
          (try clear hi)
          refine hK.out _ _ ⟨(blk_cell BK326.out 0).trans rfl, (blk_cell BK326.out 1).trans rfl, (blk_cell BK326.out 2).trans rfl, (blk_cell BK326.out 3).trans rfl, (blk_cell BK326.out 4).trans rfl, (blk_cell BK326.out 5).trans rfl, (blk_cell BK326.out 6).trans rfl, (blk_cell BK326.out 7).trans rfl, (blk_cell BK326.out 8).trans rfl, (blk_cell BK326.out 9).trans rfl, (blk_cell BK326.out 10).trans rfl, (blk_cell BK326.out 11).trans rfl, (blk_cell BK326.out 12).trans rfl, (blk_cell BK326.out 13).trans rfl, (blk_cell BK326.out 14).trans rfl, (blk_cell BK326.out 15).trans rfl, (blk_cell BK326.out 16).trans rfl, (blk_cell BK326.out 17).trans rfl, (blk_cell BK326.out 18).trans rfl, (blk_cell BK326.out 19).trans rfl, (blk_cell BK327.out 0).trans rfl, (blk_cell BK327.out 1).trans rfl, (blk_cell BK327.out 2).trans rfl, (blk_cell BK327.out 3).trans rfl, (blk_cell BK327.out 4).trans rfl⟩ (fun hHeld => ?_)
          clear hK K
          refine norm_ (a' := ?_) ?_ ?_
          rotate_left
          ·show Act.put _ (some 19) _ = _
           simp only [Act.put, S_]
           rfl
          refine pure_ (i := 4) (N := some 20) (v := ?_) (a' := ?_) #[true, true, true, true, true, false, false, false, false, false, false, false, false, false, false, false, false, false, false, false, false, false, false, false, false, false, false, false, false, false, false, false, false, false, false, false, false, false, false, false] rfl rfl (any_of HT_.out (by kernel_rfl)) (fun _ _ _ h => h) (Or.inl ⟨by rfl, ?_⟩) ?_ ?_
          rotate_left
          ·intro w'
           go_simp
           with_reducible rfl
          rotate_left
          ·simp only [Act.put, S_]
           rfl
          refine pure_ (i := 5) (N := some 21) (v := ?_) (a' := ?_) #[true, true, true, true, true, true, false, false, false, false, false, false, false, false, false, false, false, false, false, false, false, false, false, false, false, false, false, false, false, false, false, false, false, false, false, false, false, false, false, false] rfl rfl (any_of HT_.out (by kernel_rfl)) (fun _ _ _ h => h) (Or.inl ⟨by rfl, ?_⟩) ?_ ?_
          rotate_left
          ·intro w'
           go_simp
           with_reducible rfl
          rotate_left
          ·simp only [Act.put, S_]
           rfl
          refine pure_ (i := 7) (N := some 23) (v := ?_) (a' := ?_) #[true, true, true, true, true, true, false, true, false, false, false, false, false, false, false, false, false, false, false, false, false, false, false, false, false, false, false, false, false, false, false, false, false, false, false, false, false, false, false, false] rfl rfl (any_of HT_.out (by kernel_rfl)) (fun _ _ _ h => h) (Or.inl ⟨by rfl, ?_⟩) ?_ ?_
          rotate_left
          ·intro w'
           go_simp
           with_reducible rfl
          rotate_left
          ·simp only [Act.put, S_]
           rfl
          refine pure_ (i := 9) (N := some 25) (v := ?_) (a' := ?_) #[true, true, true, true, true, true, false, true, false, true, false, false, false, false, false, false, false, false, false, false, false, false, false, false, false, false, false, false, false, false, false, false, false, false, false, false, false, false, false, false] rfl rfl (any_of HT_.out (by kernel_rfl)) (fun _ _ _ h => h) (Or.inl ⟨by rfl, ?_⟩) ?_ ?_
          rotate_left
          ·intro w'
           go_simp
           with_reducible rfl
          rotate_left
          ·simp only [Act.put, S_]
           rfl
          refine take_ (i := 6) (N := some 22) (v := ?_) (a' := ?_) #[true, true, true, true, true, true, true, true, false, true, false, false, false, false, false, false, false, false, false, false, false, false, false, false, false, false, false, false, false, false, false, false, false, false, false, false, false, false, false, false] rfl rfl (take_ofW HT_.out HW_.out (by kernel_rfl)) (fun _ _ _ h => h) (Or.inl ⟨by rfl, ?_⟩) hHeld ?_ ?_
          rotate_left
          ·rintro w' ⟨s0, s1, s2, s3, s4, s5, s6, s7, s8, s9, s10, s11, s12, s13, s14, s15, s16, s17, s18, s19, s20, s21, s22, s23, s24⟩
           refine Hand.exec_load_big 23 (.tmp 3) ?ho_ ⟨gb326, 0, none⟩ ?hx_ [.int .i64 a0_0, .int .i64 a0_1, .string a0_2, .string a0_3, .string a0_4, .int .i64 a0_5, .int .i64 a0_6, .int .i64 a0_7, .int .i64 a0_8, .bool a0_9, .int .i64 a0_10, .int .i64 a0_11, .int .i64 a0_12, .string a0_13, .int .i64 a0_14, .int .i64 a0_15, .string a0_16, .int .i64 a0_17, .int .i64 a0_18, .string a0_19] desc23.choose ?hc_ desc23.choose_spec.1 desc23.choose_spec.2 ?hi_
           case ho_ => rfl
           case hx_ => rfl
           case hc_ => exact Hand.cc_first s0 (Hand.cc_cons (b := gb326) (o := 0) 1 s1 (Hand.cc_cons (b := gb326) (o := 0) 2 s2 (Hand.cc_cons (b := gb326) (o := 0) 3 s3 (Hand.cc_cons (b := gb326) (o := 0) 4 s4 (Hand.cc_cons (b := gb326) (o := 0) 5 s5 (Hand.cc_cons (b := gb326) (o := 0) 6 s6 (Hand.cc_cons (b := gb326) (o := 0) 7 s7 (Hand.cc_cons (b := gb326) (o := 0) 8 s8 (Hand.cc_cons (b := gb326) (o := 0) 9 s9 (Hand.cc_cons (b := gb326) (o := 0) 10 s10 (Hand.cc_cons (b := gb326) (o := 0) 11 s11 (Hand.cc_cons (b := gb326) (o := 0) 12 s12 (Hand.cc_cons (b := gb326) (o := 0) 13 s13 (Hand.cc_cons (b := gb326) (o := 0) 14 s14 (Hand.cc_cons (b := gb326) (o := 0) 15 s15 (Hand.cc_cons (b := gb326) (o := 0) 16 s16 (Hand.cc_cons (b := gb326) (o := 0) 17 s17 (Hand.cc_cons (b := gb326) (o := 0) 18 s18 (Hand.cc_cons (b := gb326) (o := 0) 19 s19 (Hand.cc_nil 20))))))))))))))))))))
           case hi_ => kernel_rfl
          rotate_left
          ·simp only [Act.put, S_]
           rfl
          refine take_ (i := 10) (N := some 26) (v := ?_) (a' := ?_) #[true, true, true, true, true, true, true, true, false, true, true, false, false, false, false, false, false, false, false, false, false, false, false, false, false, false, false, false, false, false, false, false, false, false, false, false, false, false, false, false] rfl rfl (take_ofW HT_.out HW_.out (by kernel_rfl)) (fun _ _ _ h => h) (Or.inl ⟨by rfl, ?_⟩) hHeld ?_ ?_
          rotate_left
          ·rintro w' ⟨s0, s1, s2, s3, s4, s5, s6, s7, s8, s9, s10, s11, s12, s13, s14, s15, s16, s17, s18, s19, s20, s21, s22, s23, s24⟩
           go_simp
           with_reducible rfl
          rotate_left
          ·simp only [Act.put, S_]
           rfl
          refine pure_ (i := 11) (N := some 27) (v := ?_) (a' := ?_) #[true, true, true, true, true, true, true, true, false, true, true, true, false, false, false, false, false, false, false, false, false, false, false, false, false, false, false, false, false, false, false, false, false, false, false, false, false, false, false, false] rfl rfl (any_of HT_.out (by kernel_rfl)) (fun _ _ _ h => h) (Or.inl ⟨by rfl, ?_⟩) ?_ ?_
          rotate_left
          ·intro w'
           go_simp
           with_reducible rfl
          rotate_left
          ·simp only [Act.put, S_]
           rfl
          refine one_ (i := 8) (N := some 24) #[true, true, true, true, true, true, true, true, true, true, true, true, false, false, false, false, false, false, false, false, false, false, false, false, false, false, false, false, false, false, false, false, false, false, false, false, false, false, false, false] rfl rfl (one_of HT_.out (by kernel_rfl)) (by decide) (fun K hK => ?_)
          refine goes_ Tryd.func10 (by kernel_rfl) rfl #[.agg #[.int .i64 a0_0, .int .i64 a0_1, .string a0_2, .string a0_3, .string a0_4, .int .i64 a0_5, .int .i64 a0_6, .int .i64 a0_7, .int .i64 a0_8, .bool a0_9, .int .i64 a0_10, .int .i64 a0_11, .int .i64 a0_12, .string a0_13, .int .i64 a0_14, .int .i64 a0_15, .string a0_16, .int .i64 a0_17, .int .i64 a0_18, .string a0_19], .int .i64 a2] (by rfl) rfl rfl (by (try simp only [List.map_toArray, List.map_cons, List.map_nil]); first | done | rfl | (simp only [List.length_drop, List.length_take]; rfl)) ?_
          with_reducible refine (plan_Complete.calls a0_0 a0_1 a0_2 a0_3 a0_4 a0_5 a0_6 a0_7 a0_8 a0_9 a0_10 a0_11 a0_12 a0_13 a0_14 a0_15 a0_16 a0_17 a0_18 a0_19 a2 t371 _ A24.out).mono ?_
          rintro e w37 ⟨rfl, hb⟩
          refine ⟨_, rfl, ?_⟩
          have n0_ := Aside0.mk (blk_below (g := gb326) (o := .cells #[.int .i64 a0_0, .int .i64 a0_1, .string a0_2, .string a0_3, .string a0_4, .int .i64 a0_5, .int .i64 a0_6, .int .i64 a0_7, .int .i64 a0_8, .bool a0_9, .int .i64 a0_10, .int .i64 a0_11, .int .i64 a0_12, .string a0_13, .int .i64 a0_14, .int .i64 a0_15, .string a0_16, .int .i64 a0_17, .int .i64 a0_18, .string a0_19] 23 (0, 0)) (sm_ BK326) hb)
          have n1_ := Aside0.mk (blk_below (g := gb327) (o := .cells #[.int .i64 a1_0, .string a1_1, .string a1_2, .int .i64 a1_3, .int .i64 a1_4] 25 (0, 0)) (sm_ BK327) hb)
          have n2_ := Aside0.mk (below_step (by repeat (with_reducible first | exact HB.out | apply below_alloc | apply pw_below_drewN | apply below_drew1 | refine below_set ?_ (Aside0.out (by assumption)))) hb)
          clear BK326
          clear BK327
          clear HB
          have BK326 := n0_
          have BK327 := n1_
          have HB := n2_
          clear n0_ n1_ n2_
          (try clear hb)
          (try clear hb2)
          (try clear hk)
          (try clear hi)
          refine hK.out _ _ ⟨(blk_cell BK326.out 0).trans rfl, (blk_cell BK326.out 1).trans rfl, (blk_cell BK326.out 2).trans rfl, (blk_cell BK326.out 3).trans rfl, (blk_cell BK326.out 4).trans rfl, (blk_cell BK326.out 5).trans rfl, (blk_cell BK326.out 6).trans rfl, (blk_cell BK326.out 7).trans rfl, (blk_cell BK326.out 8).trans rfl, (blk_cell BK326.out 9).trans rfl, (blk_cell BK326.out 10).trans rfl, (blk_cell BK326.out 11).trans rfl, (blk_cell BK326.out 12).trans rfl, (blk_cell BK326.out 13).trans rfl, (blk_cell BK326.out 14).trans rfl, (blk_cell BK326.out 15).trans rfl, (blk_cell BK326.out 16).trans rfl, (blk_cell BK326.out 17).trans rfl, (blk_cell BK326.out 18).trans rfl, (blk_cell BK326.out 19).trans rfl, (blk_cell BK327.out 0).trans rfl, (blk_cell BK327.out 1).trans rfl, (blk_cell BK327.out 2).trans rfl, (blk_cell BK327.out 3).trans rfl, (blk_cell BK327.out 4).trans rfl⟩ (fun hHeld => ?_)
          clear hK K
          refine norm_ (a' := ?_) ?_ ?_
          rotate_left
          ·show Act.put _ (some 24) _ = _
           simp only [Act.put, S_]
           rfl
          refine pure_ (i := 12) (N := some 28) (v := ?_) (a' := ?_) #[true, true, true, true, true, true, true, true, true, true, true, true, true, false, false, false, false, false, false, false, false, false, false, false, false, false, false, false, false, false, false, false, false, false, false, false, false, false, false, false] rfl rfl (any_of HT_.out (by kernel_rfl)) (fun _ _ _ h => h) (Or.inl ⟨by rfl, ?_⟩) ?_ ?_
          rotate_left
          ·intro w'
           go_simp
           with_reducible rfl
          rotate_left
          ·simp only [Act.put, S_]
           rfl
          refine pure_ (i := 13) (N := some 29) (v := ?_) (a' := ?_) #[true, true, true, true, true, true, true, true, true, true, true, true, true, true, false, false, false, false, false, false, false, false, false, false, false, false, false, false, false, false, false, false, false, false, false, false, false, false, false, false] rfl rfl (any_of HT_.out (by kernel_rfl)) (fun _ _ _ h => h) (Or.inl ⟨by rfl, ?_⟩) ?_ ?_
          rotate_left
          ·intro w'
           go_simp
           with_reducible rfl
          rotate_left
          ·simp only [Act.put, S_]
           rfl
          refine pure_ (i := 15) (N := some 31) (v := ?_) (a' := ?_) #[true, true, true, true, true, true, true, true, true, true, true, true, true, true, false, true, false, false, false, false, false, false, false, false, false, false, false, false, false, false, false, false, false, false, false, false, false, false, false, false] rfl rfl (any_of HT_.out (by kernel_rfl)) (fun _ _ _ h => h) (Or.inl ⟨by rfl, ?_⟩) ?_ ?_
          rotate_left
          ·intro w'
           go_simp
           with_reducible rfl
          rotate_left
          ·simp only [Act.put, S_]
           rfl
          refine take_ (i := 14) (N := some 30) (v := ?_) (a' := ?_) #[true, true, true, true, true, true, true, true, true, true, true, true, true, true, true, true, false, false, false, false, false, false, false, false, false, false, false, false, false, false, false, false, false, false, false, false, false, false, false, false] rfl rfl (take_ofW HT_.out HW_.out (by kernel_rfl)) (fun _ _ _ h => h) (Or.inl ⟨by rfl, ?_⟩) hHeld ?_ ?_
          rotate_left
          ·rintro w' ⟨s0, s1, s2, s3, s4, s5, s6, s7, s8, s9, s10, s11, s12, s13, s14, s15, s16, s17, s18, s19, s20, s21, s22, s23, s24⟩
           go_simp
           with_reducible rfl
          rotate_left
          ·simp only [Act.put, S_]
           rfl
          refine pure_ (i := 16) (N := some 32) (v := ?_) (a' := ?_) #[true, true, true, true, true, true, true, true, true, true, true, true, true, true, true, true, true, false, false, false, false, false, false, false, false, false, false, false, false, false, false, false, false, false, false, false, false, false, false, false] rfl rfl (any_of HT_.out (by kernel_rfl)) (fun _ _ _ h => h) (Or.inl ⟨by rfl, ?_⟩) ?_ ?_
          rotate_left
          ·intro w'
           go_simp
           with_reducible rfl
          rotate_left
          ·simp only [Act.put, S_]
           rfl
          refine pure_ (i := 17) (N := some 33) (v := ?_) (a' := ?_) #[true, true, true, true, true, true, true, true, true, true, true, true, true, true, true, true, true, true, false, false, false, false, false, false, false, false, false, false, false, false, false, false, false, false, false, false, false, false, false, false] rfl rfl (any_of HT_.out (by kernel_rfl)) (fun _ _ _ h => h) (Or.inl ⟨by rfl, ?_⟩) ?_ ?_
          rotate_left
          ·intro w'
           go_simp
           with_reducible rfl
          rotate_left
          ·simp only [Act.put, S_]
           rfl
          refine pure_ (i := 18) (N := some 34) (v := ?_) (a' := ?_) #[true, true, true, true, true, true, true, true, true, true, true, true, true, true, true, true, true, true, true, false, false, false, false, false, false, false, false, false, false, false, false, false, false, false, false, false, false, false, false, false] rfl rfl (any_of HT_.out (by kernel_rfl)) (fun _ _ _ h => h) (Or.inl ⟨by rfl, ?_⟩) ?_ ?_
          rotate_left
          ·intro w'
           go_simp
           with_reducible rfl
          rotate_left
          ·simp only [Act.put, S_]
           rfl
          refine pure_ (i := 19) (N := some 35) (v := ?_) (a' := ?_) #[true, true, true, true, true, true, true, true, true, true, true, true, true, true, true, true, true, true, true, true, false, false, false, false, false, false, false, false, false, false, false, false, false, false, false, false, false, false, false, false] rfl rfl (any_of HT_.out (by kernel_rfl)) (fun _ _ _ h => h) (Or.inl ⟨by rfl, ?_⟩) ?_ ?_
          rotate_left
          ·intro w'
           go_simp
           with_reducible rfl
          rotate_left
          ·simp only [Act.put, S_]
           rfl
          refine pure_ (i := 20) (N := some 36) (v := ?_) (a' := ?_) #[true, true, true, true, true, true, true, true, true, true, true, true, true, true, true, true, true, true, true, true, true, false, false, false, false, false, false, false, false, false, false, false, false, false, false, false, false, false, false, false] rfl rfl (any_of HT_.out (by kernel_rfl)) (fun _ _ _ h => h) (Or.inl ⟨by rfl, ?_⟩) ?_ ?_
          rotate_left
          ·intro w'
           go_simp
           with_reducible rfl
          rotate_left
          ·simp only [Act.put, S_]
           rfl
          refine take_ (i := 21) (N := some 37) (v := ?_) (a' := ?_) #[true, true, true, true, true, true, true, true, true, true, true, true, true, true, true, true, true, true, true, true, true, true, false, false, false, false, false, false, false, false, false, false, false, false, false, false, false, false, false, false] rfl rfl (take_ofW HT_.out HW_.out (by kernel_rfl)) (fun _ _ _ h => h) (Or.inl ⟨by rfl, ?_⟩) hHeld ?_ ?_
          rotate_left
          ·rintro w' ⟨s0, s1, s2, s3, s4, s5, s6, s7, s8, s9, s10, s11, s12, s13, s14, s15, s16, s17, s18, s19, s20, s21, s22, s23, s24⟩
           go_simp
           with_reducible rfl
          rotate_left
          ·simp only [Act.put, S_]
           rfl
          refine take_ (i := 23) (N := some 39) (v := ?_) (a' := ?_) #[true, true, true, true, true, true, true, true, true, true, true, true, true, true, true, true, true, true, true, true, true, true, false, true, false, false, false, false, false, false, false, false, false, false, false, false, false, false, false, false] rfl rfl (take_ofW HT_.out HW_.out (by kernel_rfl)) (fun _ _ _ h => h) (Or.inl ⟨by rfl, ?_⟩) hHeld ?_ ?_
          rotate_left
          ·rintro w' ⟨s0, s1, s2, s3, s4, s5, s6, s7, s8, s9, s10, s11, s12, s13, s14, s15, s16, s17, s18, s19, s20, s21, s22, s23, s24⟩
           go_simp
           with_reducible rfl
          rotate_left
          ·simp only [Act.put, S_]
           rfl
          refine one_ (i := 22) (N := some 38) #[true, true, true, true, true, true, true, true, true, true, true, true, true, true, true, true, true, true, true, true, true, true, true, true, false, false, false, false, false, false, false, false, false, false, false, false, false, false, false, false] rfl rfl (one_of HT_.out (by kernel_rfl)) (by decide) (fun K hK => ?_)
          refine goes_ Tryd.func11 (by kernel_rfl) rfl #[.agg #[.int .i64 a1_0, .string a1_1, .string a1_2, .int .i64 a1_3, .int .i64 a1_4]] (by rfl) rfl rfl (by (try simp only [List.map_toArray, List.map_cons, List.map_nil]); first | done | rfl | (simp only [List.length_drop, List.length_take]; rfl)) ?_
          with_reducible refine (plan_ForFeed.calls kj3 a1_0 a1_1 a1_2 a1_3 a1_4 t372 t373 t374 t375 _ A27.out).mono ?_
          rintro e w38 ⟨rfl, hb⟩
          refine ⟨_, rfl, ?_⟩
          have n0_ := Aside0.mk (blk_below (g := gb326) (o := .cells #[.int .i64 a0_0, .int .i64 a0_1, .string a0_2, .string a0_3, .string a0_4, .int .i64 a0_5, .int .i64 a0_6, .int .i64 a0_7, .int .i64 a0_8, .bool a0_9, .int .i64 a0_10, .int .i64 a0_11, .int .i64 a0_12, .string a0_13, .int .i64 a0_14, .int .i64 a0_15, .string a0_16, .int .i64 a0_17, .int .i64 a0_18, .string a0_19] 23 (0, 0)) (sm_ BK326) hb)
          have n1_ := Aside0.mk (blk_below (g := gb327) (o := .cells #[.int .i64 a1_0, .string a1_1, .string a1_2, .int .i64 a1_3, .int .i64 a1_4] 25 (0, 0)) (sm_ BK327) hb)
          have n2_ := Aside0.mk (below_step (by repeat (with_reducible first | exact HB.out | apply below_alloc | apply pw_below_drewN | apply below_drew1 | refine below_set ?_ (Aside0.out (by assumption)))) hb)
          clear BK326
          clear BK327
          clear HB
          have BK326 := n0_
          have BK327 := n1_
          have HB := n2_
          clear n0_ n1_ n2_
          (try clear hb)
          (try clear hb2)
          (try clear hk)
          (try clear hi)
          refine hK.out _ _ ⟨(blk_cell BK326.out 0).trans rfl, (blk_cell BK326.out 1).trans rfl, (blk_cell BK326.out 2).trans rfl, (blk_cell BK326.out 3).trans rfl, (blk_cell BK326.out 4).trans rfl, (blk_cell BK326.out 5).trans rfl, (blk_cell BK326.out 6).trans rfl, (blk_cell BK326.out 7).trans rfl, (blk_cell BK326.out 8).trans rfl, (blk_cell BK326.out 9).trans rfl, (blk_cell BK326.out 10).trans rfl, (blk_cell BK326.out 11).trans rfl, (blk_cell BK326.out 12).trans rfl, (blk_cell BK326.out 13).trans rfl, (blk_cell BK326.out 14).trans rfl, (blk_cell BK326.out 15).trans rfl, (blk_cell BK326.out 16).trans rfl, (blk_cell BK326.out 17).trans rfl, (blk_cell BK326.out 18).trans rfl, (blk_cell BK326.out 19).trans rfl, (blk_cell BK327.out 0).trans rfl, (blk_cell BK327.out 1).trans rfl, (blk_cell BK327.out 2).trans rfl, (blk_cell BK327.out 3).trans rfl, (blk_cell BK327.out 4).trans rfl⟩ (fun hHeld => ?_)
          clear hK K
          refine norm_ (a' := ?_) ?_ ?_
          rotate_left
          ·show Act.put _ (some 38) _ = _
           simp only [Act.put, S_]
           rfl
          refine one_ (i := 24) (N := some 40) #[true, true, true, true, true, true, true, true, true, true, true, true, true, true, true, true, true, true, true, true, true, true, true, true, true, false, false, false, false, false, false, false, false, false, false, false, false, false, false, false] rfl rfl (one_of HT_.out (by kernel_rfl)) (by decide) (fun K hK => ?_)
          refine goes_ Tryd.func12 (by kernel_rfl) rfl #[.agg #[.int .i64 a1_0, .string a1_1, .string a1_2, .int .i64 a1_3, .int .i64 a1_4]] (by rfl) rfl rfl (by (try simp only [List.map_toArray, List.map_cons, List.map_nil]); first | done | rfl | (simp only [List.length_drop, List.length_take]; rfl)) ?_
          with_reducible refine (newsreelref44_ForFeed.calls kj3 a1_0 a1_1 a1_2 a1_3 a1_4 t376 t377 t378 t379 _ A28.out).mono ?_
          rintro e w39 ⟨rfl, hb⟩
          refine ⟨_, rfl, ?_⟩
          have n0_ := Aside0.mk (blk_below (g := gb326) (o := .cells #[.int .i64 a0_0, .int .i64 a0_1, .string a0_2, .string a0_3, .string a0_4, .int .i64 a0_5, .int .i64 a0_6, .int .i64 a0_7, .int .i64 a0_8, .bool a0_9, .int .i64 a0_10, .int .i64 a0_11, .int .i64 a0_12, .string a0_13, .int .i64 a0_14, .int .i64 a0_15, .string a0_16, .int .i64 a0_17, .int .i64 a0_18, .string a0_19] 23 (0, 0)) (sm_ BK326) hb)
          have n1_ := Aside0.mk (blk_below (g := gb327) (o := .cells #[.int .i64 a1_0, .string a1_1, .string a1_2, .int .i64 a1_3, .int .i64 a1_4] 25 (0, 0)) (sm_ BK327) hb)
          have n2_ := Aside0.mk (below_step (by repeat (with_reducible first | exact HB.out | apply below_alloc | apply pw_below_drewN | apply below_drew1 | refine below_set ?_ (Aside0.out (by assumption)))) hb)
          clear BK326
          clear BK327
          clear HB
          have BK326 := n0_
          have BK327 := n1_
          have HB := n2_
          clear n0_ n1_ n2_
          (try clear hb)
          (try clear hb2)
          (try clear hk)
          (try clear hi)
          refine hK.out _ _ ⟨(blk_cell BK326.out 0).trans rfl, (blk_cell BK326.out 1).trans rfl, (blk_cell BK326.out 2).trans rfl, (blk_cell BK326.out 3).trans rfl, (blk_cell BK326.out 4).trans rfl, (blk_cell BK326.out 5).trans rfl, (blk_cell BK326.out 6).trans rfl, (blk_cell BK326.out 7).trans rfl, (blk_cell BK326.out 8).trans rfl, (blk_cell BK326.out 9).trans rfl, (blk_cell BK326.out 10).trans rfl, (blk_cell BK326.out 11).trans rfl, (blk_cell BK326.out 12).trans rfl, (blk_cell BK326.out 13).trans rfl, (blk_cell BK326.out 14).trans rfl, (blk_cell BK326.out 15).trans rfl, (blk_cell BK326.out 16).trans rfl, (blk_cell BK326.out 17).trans rfl, (blk_cell BK326.out 18).trans rfl, (blk_cell BK326.out 19).trans rfl, (blk_cell BK327.out 0).trans rfl, (blk_cell BK327.out 1).trans rfl, (blk_cell BK327.out 2).trans rfl, (blk_cell BK327.out 3).trans rfl, (blk_cell BK327.out 4).trans rfl⟩ (fun hHeld => ?_)
          clear hK K
          refine norm_ (a' := ?_) ?_ ?_
          rotate_left
          ·show Act.put _ (some 40) _ = _
           simp only [Act.put, S_]
           rfl
          refine pure_ (i := 25) (N := some 41) (v := ?_) (a' := ?_) #[true, true, true, true, true, true, true, true, true, true, true, true, true, true, true, true, true, true, true, true, true, true, true, true, true, true, false, false, false, false, false, false, false, false, false, false, false, false, false, false] rfl rfl (any_of HT_.out (by kernel_rfl)) (fun _ _ _ h => h) (Or.inl ⟨by rfl, ?_⟩) ?_ ?_
          rotate_left
          ·intro w'
           go_simp
           with_reducible rfl
          rotate_left
          ·simp only [Act.put, S_]
           rfl
          refine pure_ (i := 26) (N := some 42) (v := ?_) (a' := ?_) #[true, true, true, true, true, true, true, true, true, true, true, true, true, true, true, true, true, true, true, true, true, true, true, true, true, true, true, false, false, false, false, false, false, false, false, false, false, false, false, false] rfl rfl (any_of HT_.out (by kernel_rfl)) (fun _ _ _ h => h) (Or.inl ⟨by rfl, ?_⟩) ?_ ?_
          rotate_left
          ·intro w'
           go_simp
           with_reducible rfl
          rotate_left
          ·simp only [Act.put, S_]
           rfl
          refine pure_ (i := 27) (N := some 43) (v := ?_) (a' := ?_) #[true, true, true, true, true, true, true, true, true, true, true, true, true, true, true, true, true, true, true, true, true, true, true, true, true, true, true, true, false, false, false, false, false, false, false, false, false, false, false, false] rfl rfl (any_of HT_.out (by kernel_rfl)) (fun _ _ _ h => h) (Or.inl ⟨by rfl, ?_⟩) ?_ ?_
          rotate_left
          ·intro w'
           go_simp
           with_reducible rfl
          rotate_left
          ·simp only [Act.put, S_]
           rfl
          refine pure_ (i := 29) (N := some 45) (v := ?_) (a' := ?_) #[true, true, true, true, true, true, true, true, true, true, true, true, true, true, true, true, true, true, true, true, true, true, true, true, true, true, true, true, false, true, false, false, false, false, false, false, false, false, false, false] rfl rfl (any_of HT_.out (by kernel_rfl)) (fun _ _ _ h => h) (Or.inl ⟨by rfl, ?_⟩) ?_ ?_
          rotate_left
          ·intro w'
           go_simp
           with_reducible rfl
          rotate_left
          ·simp only [Act.put, S_]
           rfl
          refine pure_ (i := 32) (N := some 48) (v := ?_) (a' := ?_) #[true, true, true, true, true, true, true, true, true, true, true, true, true, true, true, true, true, true, true, true, true, true, true, true, true, true, true, true, false, true, false, false, true, false, false, false, false, false, false, false] rfl rfl (any_of HT_.out (by kernel_rfl)) (fun _ _ _ h => h) (Or.inl ⟨by rfl, ?_⟩) ?_ ?_
          rotate_left
          ·intro w'
           go_simp
           with_reducible rfl
          rotate_left
          ·simp only [Act.put, S_]
           rfl
          refine take_ (i := 28) (N := some 44) (v := ?_) (a' := ?_) #[true, true, true, true, true, true, true, true, true, true, true, true, true, true, true, true, true, true, true, true, true, true, true, true, true, true, true, true, true, true, false, false, true, false, false, false, false, false, false, false] rfl rfl (take_ofW HT_.out HW_.out (by kernel_rfl)) (fun _ _ _ h => h) (Or.inl ⟨by rfl, ?_⟩) hHeld ?_ ?_
          rotate_left
          ·rintro w' ⟨s0, s1, s2, s3, s4, s5, s6, s7, s8, s9, s10, s11, s12, s13, s14, s15, s16, s17, s18, s19, s20, s21, s22, s23, s24⟩
           refine Hand.exec_load_big 23 (.tmp 3) ?ho_ ⟨gb326, 0, none⟩ ?hx_ [.int .i64 a0_0, .int .i64 a0_1, .string a0_2, .string a0_3, .string a0_4, .int .i64 a0_5, .int .i64 a0_6, .int .i64 a0_7, .int .i64 a0_8, .bool a0_9, .int .i64 a0_10, .int .i64 a0_11, .int .i64 a0_12, .string a0_13, .int .i64 a0_14, .int .i64 a0_15, .string a0_16, .int .i64 a0_17, .int .i64 a0_18, .string a0_19] desc23.choose ?hc_ desc23.choose_spec.1 desc23.choose_spec.2 ?hi_
           case ho_ => rfl
           case hx_ => rfl
           case hc_ => exact Hand.cc_first s0 (Hand.cc_cons (b := gb326) (o := 0) 1 s1 (Hand.cc_cons (b := gb326) (o := 0) 2 s2 (Hand.cc_cons (b := gb326) (o := 0) 3 s3 (Hand.cc_cons (b := gb326) (o := 0) 4 s4 (Hand.cc_cons (b := gb326) (o := 0) 5 s5 (Hand.cc_cons (b := gb326) (o := 0) 6 s6 (Hand.cc_cons (b := gb326) (o := 0) 7 s7 (Hand.cc_cons (b := gb326) (o := 0) 8 s8 (Hand.cc_cons (b := gb326) (o := 0) 9 s9 (Hand.cc_cons (b := gb326) (o := 0) 10 s10 (Hand.cc_cons (b := gb326) (o := 0) 11 s11 (Hand.cc_cons (b := gb326) (o := 0) 12 s12 (Hand.cc_cons (b := gb326) (o := 0) 13 s13 (Hand.cc_cons (b := gb326) (o := 0) 14 s14 (Hand.cc_cons (b := gb326) (o := 0) 15 s15 (Hand.cc_cons (b := gb326) (o := 0) 16 s16 (Hand.cc_cons (b := gb326) (o := 0) 17 s17 (Hand.cc_cons (b := gb326) (o := 0) 18 s18 (Hand.cc_cons (b := gb326) (o := 0) 19 s19 (Hand.cc_nil 20))))))))))))))))))))
           case hi_ => kernel_rfl
          rotate_left
          ·simp only [Act.put, S_]
           rfl
          refine take_ (i := 31) (N := some 47) (v := ?_) (a' := ?_) #[true, true, true, true, true, true, true, true, true, true, true, true, true, true, true, true, true, true, true, true, true, true, true, true, true, true, true, true, true, true, false, true, true, false, false, false, false, false, false, false] rfl rfl (take_ofW HT_.out HW_.out (by kernel_rfl)) (fun _ _ _ h => h) (Or.inl ⟨by rfl, ?_⟩) hHeld ?_ ?_
          rotate_left
          ·rintro w' ⟨s0, s1, s2, s3, s4, s5, s6, s7, s8, s9, s10, s11, s12, s13, s14, s15, s16, s17, s18, s19, s20, s21, s22, s23, s24⟩
           refine Hand.exec_load_big 23 (.tmp 3) ?ho_ ⟨gb326, 0, none⟩ ?hx_ [.int .i64 a0_0, .int .i64 a0_1, .string a0_2, .string a0_3, .string a0_4, .int .i64 a0_5, .int .i64 a0_6, .int .i64 a0_7, .int .i64 a0_8, .bool a0_9, .int .i64 a0_10, .int .i64 a0_11, .int .i64 a0_12, .string a0_13, .int .i64 a0_14, .int .i64 a0_15, .string a0_16, .int .i64 a0_17, .int .i64 a0_18, .string a0_19] desc23.choose ?hc_ desc23.choose_spec.1 desc23.choose_spec.2 ?hi_
           case ho_ => rfl
           case hx_ => rfl
           case hc_ => exact Hand.cc_first s0 (Hand.cc_cons (b := gb326) (o := 0) 1 s1 (Hand.cc_cons (b := gb326) (o := 0) 2 s2 (Hand.cc_cons (b := gb326) (o := 0) 3 s3 (Hand.cc_cons (b := gb326) (o := 0) 4 s4 (Hand.cc_cons (b := gb326) (o := 0) 5 s5 (Hand.cc_cons (b := gb326) (o := 0) 6 s6 (Hand.cc_cons (b := gb326) (o := 0) 7 s7 (Hand.cc_cons (b := gb326) (o := 0) 8 s8 (Hand.cc_cons (b := gb326) (o := 0) 9 s9 (Hand.cc_cons (b := gb326) (o := 0) 10 s10 (Hand.cc_cons (b := gb326) (o := 0) 11 s11 (Hand.cc_cons (b := gb326) (o := 0) 12 s12 (Hand.cc_cons (b := gb326) (o := 0) 13 s13 (Hand.cc_cons (b := gb326) (o := 0) 14 s14 (Hand.cc_cons (b := gb326) (o := 0) 15 s15 (Hand.cc_cons (b := gb326) (o := 0) 16 s16 (Hand.cc_cons (b := gb326) (o := 0) 17 s17 (Hand.cc_cons (b := gb326) (o := 0) 18 s18 (Hand.cc_cons (b := gb326) (o := 0) 19 s19 (Hand.cc_nil 20))))))))))))))))))))
           case hi_ => kernel_rfl
          rotate_left
          ·simp only [Act.put, S_]
           rfl
          refine one_ (i := 30) (N := some 46) #[true, true, true, true, true, true, true, true, true, true, true, true, true, true, true, true, true, true, true, true, true, true, true, true, true, true, true, true, true, true, true, true, true, false, false, false, false, false, false, false] rfl rfl (one_of HT_.out (by kernel_rfl)) (by decide) (fun K hK => ?_)
          refine goes_ Tryd.func13 (by kernel_rfl) rfl #[.agg #[.int .i64 a0_0, .int .i64 a0_1, .string a0_2, .string a0_3, .string a0_4, .int .i64 a0_5, .int .i64 a0_6, .int .i64 a0_7, .int .i64 a0_8, .bool a0_9, .int .i64 a0_10, .int .i64 a0_11, .int .i64 a0_12, .string a0_13, .int .i64 a0_14, .int .i64 a0_15, .string a0_16, .int .i64 a0_17, .int .i64 a0_18, .string a0_19], .int .i64 a2] (by rfl) rfl rfl (by (try simp only [List.map_toArray, List.map_cons, List.map_nil]); first | done | rfl | (simp only [List.length_drop, List.length_take]; rfl)) ?_
          with_reducible refine (plan_ForEp.calls kj3 a0_0 a0_1 a0_2 a0_3 a0_4 a0_5 a0_6 a0_7 a0_8 a0_9 a0_10 a0_11 a0_12 a0_13 a0_14 a0_15 a0_16 a0_17 a0_18 a0_19 a2 t380 t381 t382 t383 _ A30.out).mono ?_
          rintro e w40 ⟨rfl, hb⟩
          refine ⟨_, rfl, ?_⟩
          have n0_ := Aside0.mk (blk_below (g := gb326) (o := .cells #[.int .i64 a0_0, .int .i64 a0_1, .string a0_2, .string a0_3, .string a0_4, .int .i64 a0_5, .int .i64 a0_6, .int .i64 a0_7, .int .i64 a0_8, .bool a0_9, .int .i64 a0_10, .int .i64 a0_11, .int .i64 a0_12, .string a0_13, .int .i64 a0_14, .int .i64 a0_15, .string a0_16, .int .i64 a0_17, .int .i64 a0_18, .string a0_19] 23 (0, 0)) (sm_ BK326) hb)
          have n1_ := Aside0.mk (blk_below (g := gb327) (o := .cells #[.int .i64 a1_0, .string a1_1, .string a1_2, .int .i64 a1_3, .int .i64 a1_4] 25 (0, 0)) (sm_ BK327) hb)
          have n2_ := Aside0.mk (below_step (by repeat (with_reducible first | exact HB.out | apply below_alloc | apply pw_below_drewN | apply below_drew1 | refine below_set ?_ (Aside0.out (by assumption)))) hb)
          clear BK326
          clear BK327
          clear HB
          have BK326 := n0_
          have BK327 := n1_
          have HB := n2_
          clear n0_ n1_ n2_
          (try clear hb)
          (try clear hb2)
          (try clear hk)
          (try clear hi)
          refine hK.out _ _ ⟨(blk_cell BK326.out 0).trans rfl, (blk_cell BK326.out 1).trans rfl, (blk_cell BK326.out 2).trans rfl, (blk_cell BK326.out 3).trans rfl, (blk_cell BK326.out 4).trans rfl, (blk_cell BK326.out 5).trans rfl, (blk_cell BK326.out 6).trans rfl, (blk_cell BK326.out 7).trans rfl, (blk_cell BK326.out 8).trans rfl, (blk_cell BK326.out 9).trans rfl, (blk_cell BK326.out 10).trans rfl, (blk_cell BK326.out 11).trans rfl, (blk_cell BK326.out 12).trans rfl, (blk_cell BK326.out 13).trans rfl, (blk_cell BK326.out 14).trans rfl, (blk_cell BK326.out 15).trans rfl, (blk_cell BK326.out 16).trans rfl, (blk_cell BK326.out 17).trans rfl, (blk_cell BK326.out 18).trans rfl, (blk_cell BK326.out 19).trans rfl, (blk_cell BK327.out 0).trans rfl, (blk_cell BK327.out 1).trans rfl, (blk_cell BK327.out 2).trans rfl, (blk_cell BK327.out 3).trans rfl, (blk_cell BK327.out 4).trans rfl⟩ (fun hHeld => ?_)
          clear hK K
          refine norm_ (a' := ?_) ?_ ?_
          rotate_left
          ·show Act.put _ (some 46) _ = _
           simp only [Act.put, S_]
           rfl
          refine one_ (i := 33) (N := some 49) #[true, true, true, true, true, true, true, true, true, true, true, true, true, true, true, true, true, true, true, true, true, true, true, true, true, true, true, true, true, true, true, true, true, true, false, false, false, false, false, false] rfl rfl (one_of HT_.out (by kernel_rfl)) (by decide) (fun K hK => ?_)
          refine goes_ Tryd.func14 (by kernel_rfl) rfl #[.agg #[.int .i64 a0_0, .int .i64 a0_1, .string a0_2, .string a0_3, .string a0_4, .int .i64 a0_5, .int .i64 a0_6, .int .i64 a0_7, .int .i64 a0_8, .bool a0_9, .int .i64 a0_10, .int .i64 a0_11, .int .i64 a0_12, .string a0_13, .int .i64 a0_14, .int .i64 a0_15, .string a0_16, .int .i64 a0_17, .int .i64 a0_18, .string a0_19], .int .i64 a2] (by rfl) rfl rfl (by (try simp only [List.map_toArray, List.map_cons, List.map_nil]); first | done | rfl | (simp only [List.length_drop, List.length_take]; rfl)) ?_
          with_reducible refine (newsreelref44_ForEp.calls kj3 a0_0 a0_1 a0_2 a0_3 a0_4 a0_5 a0_6 a0_7 a0_8 a0_9 a0_10 a0_11 a0_12 a0_13 a0_14 a0_15 a0_16 a0_17 a0_18 a0_19 a2 t384 t385 t386 t387 _ A31.out).mono ?_
          rintro e w41 ⟨rfl, hb⟩
          refine ⟨_, rfl, ?_⟩
          have n0_ := Aside0.mk (blk_below (g := gb326) (o := .cells #[.int .i64 a0_0, .int .i64 a0_1, .string a0_2, .string a0_3, .string a0_4, .int .i64 a0_5, .int .i64 a0_6, .int .i64 a0_7, .int .i64 a0_8, .bool a0_9, .int .i64 a0_10, .int .i64 a0_11, .int .i64 a0_12, .string a0_13, .int .i64 a0_14, .int .i64 a0_15, .string a0_16, .int .i64 a0_17, .int .i64 a0_18, .string a0_19] 23 (0, 0)) (sm_ BK326) hb)
          have n1_ := Aside0.mk (blk_below (g := gb327) (o := .cells #[.int .i64 a1_0, .string a1_1, .string a1_2, .int .i64 a1_3, .int .i64 a1_4] 25 (0, 0)) (sm_ BK327) hb)
          have n2_ := Aside0.mk (below_step (by repeat (with_reducible first | exact HB.out | apply below_alloc | apply pw_below_drewN | apply below_drew1 | refine below_set ?_ (Aside0.out (by assumption)))) hb)
          clear BK326
          clear BK327
          clear HB
          have BK326 := n0_
          have BK327 := n1_
          have HB := n2_
          clear n0_ n1_ n2_
          (try clear hb)
          (try clear hb2)
          (try clear hk)
          (try clear hi)
          refine hK.out _ _ ⟨(blk_cell BK326.out 0).trans rfl, (blk_cell BK326.out 1).trans rfl, (blk_cell BK326.out 2).trans rfl, (blk_cell BK326.out 3).trans rfl, (blk_cell BK326.out 4).trans rfl, (blk_cell BK326.out 5).trans rfl, (blk_cell BK326.out 6).trans rfl, (blk_cell BK326.out 7).trans rfl, (blk_cell BK326.out 8).trans rfl, (blk_cell BK326.out 9).trans rfl, (blk_cell BK326.out 10).trans rfl, (blk_cell BK326.out 11).trans rfl, (blk_cell BK326.out 12).trans rfl, (blk_cell BK326.out 13).trans rfl, (blk_cell BK326.out 14).trans rfl, (blk_cell BK326.out 15).trans rfl, (blk_cell BK326.out 16).trans rfl, (blk_cell BK326.out 17).trans rfl, (blk_cell BK326.out 18).trans rfl, (blk_cell BK326.out 19).trans rfl, (blk_cell BK327.out 0).trans rfl, (blk_cell BK327.out 1).trans rfl, (blk_cell BK327.out 2).trans rfl, (blk_cell BK327.out 3).trans rfl, (blk_cell BK327.out 4).trans rfl⟩ (fun hHeld => ?_)
          clear hK K
          refine norm_ (a' := ?_) ?_ ?_
          rotate_left
          ·show Act.put _ (some 49) _ = _
           simp only [Act.put, S_]
           rfl
          refine pure_ (i := 34) (N := some 50) (v := ?_) (a' := ?_) #[true, true, true, true, true, true, true, true, true, true, true, true, true, true, true, true, true, true, true, true, true, true, true, true, true, true, true, true, true, true, true, true, true, true, true, false, false, false, false, false] rfl rfl (any_of HT_.out (by kernel_rfl)) (fun _ _ _ h => h) (Or.inl ⟨by rfl, ?_⟩) ?_ ?_
          rotate_left
          ·intro w'
           go_simp
           with_reducible rfl
          rotate_left
          ·simp only [Act.put, S_]
           rfl
          refine pure_ (i := 35) (N := some 51) (v := ?_) (a' := ?_) #[true, true, true, true, true, true, true, true, true, true, true, true, true, true, true, true, true, true, true, true, true, true, true, true, true, true, true, true, true, true, true, true, true, true, true, true, false, false, false, false] rfl rfl (any_of HT_.out (by kernel_rfl)) (fun _ _ _ h => h) (Or.inl ⟨by rfl, ?_⟩) ?_ ?_
          rotate_left
          ·intro w'
           go_simp
           with_reducible rfl
          rotate_left
          ·simp only [Act.put, S_]
           rfl
          refine pure_ (i := 36) (N := some 52) (v := ?_) (a' := ?_) #[true, true, true, true, true, true, true, true, true, true, true, true, true, true, true, true, true, true, true, true, true, true, true, true, true, true, true, true, true, true, true, true, true, true, true, true, true, false, false, false] rfl rfl (any_of HT_.out (by kernel_rfl)) (fun _ _ _ h => h) (Or.inl ⟨by rfl, ?_⟩) ?_ ?_
          rotate_left
          ·intro w'
           go_simp
           with_reducible rfl
          rotate_left
          ·simp only [Act.put, S_]
           rfl
          refine one_ (i := 37) (N := some 53) #[true, true, true, true, true, true, true, true, true, true, true, true, true, true, true, true, true, true, true, true, true, true, true, true, true, true, true, true, true, true, true, true, true, true, true, true, true, true, false, false] rfl rfl (one_of HT_.out (by kernel_rfl)) (by decide) (fun K hK => ?_)
          refine goes_ Tryd.func7 (by kernel_rfl) rfl #[] (by rfl) rfl rfl (by (try simp only [List.map_toArray, List.map_cons, List.map_nil]); first | done | rfl | (simp only [List.length_drop, List.length_take]; rfl)) ?_
          with_reducible refine (newsreellaw44_awake.calls kj3  t388 _ A33.out).mono ?_
          rintro e w42 ⟨rfl, hb⟩
          refine ⟨_, rfl, ?_⟩
          have n0_ := Aside0.mk (blk_below (g := gb326) (o := .cells #[.int .i64 a0_0, .int .i64 a0_1, .string a0_2, .string a0_3, .string a0_4, .int .i64 a0_5, .int .i64 a0_6, .int .i64 a0_7, .int .i64 a0_8, .bool a0_9, .int .i64 a0_10, .int .i64 a0_11, .int .i64 a0_12, .string a0_13, .int .i64 a0_14, .int .i64 a0_15, .string a0_16, .int .i64 a0_17, .int .i64 a0_18, .string a0_19] 23 (0, 0)) (sm_ BK326) hb)
          have n1_ := Aside0.mk (blk_below (g := gb327) (o := .cells #[.int .i64 a1_0, .string a1_1, .string a1_2, .int .i64 a1_3, .int .i64 a1_4] 25 (0, 0)) (sm_ BK327) hb)
          have n2_ := Aside0.mk (below_step (by repeat (with_reducible first | exact HB.out | apply below_alloc | apply pw_below_drewN | apply below_drew1 | refine below_set ?_ (Aside0.out (by assumption)))) hb)
          clear BK326
          clear BK327
          clear HB
          have BK326 := n0_
          have BK327 := n1_
          have HB := n2_
          clear n0_ n1_ n2_
          (try clear hb)
          (try clear hb2)
          (try clear hk)
          (try clear hi)
          refine hK.out _ _ ⟨(blk_cell BK326.out 0).trans rfl, (blk_cell BK326.out 1).trans rfl, (blk_cell BK326.out 2).trans rfl, (blk_cell BK326.out 3).trans rfl, (blk_cell BK326.out 4).trans rfl, (blk_cell BK326.out 5).trans rfl, (blk_cell BK326.out 6).trans rfl, (blk_cell BK326.out 7).trans rfl, (blk_cell BK326.out 8).trans rfl, (blk_cell BK326.out 9).trans rfl, (blk_cell BK326.out 10).trans rfl, (blk_cell BK326.out 11).trans rfl, (blk_cell BK326.out 12).trans rfl, (blk_cell BK326.out 13).trans rfl, (blk_cell BK326.out 14).trans rfl, (blk_cell BK326.out 15).trans rfl, (blk_cell BK326.out 16).trans rfl, (blk_cell BK326.out 17).trans rfl, (blk_cell BK326.out 18).trans rfl, (blk_cell BK326.out 19).trans rfl, (blk_cell BK327.out 0).trans rfl, (blk_cell BK327.out 1).trans rfl, (blk_cell BK327.out 2).trans rfl, (blk_cell BK327.out 3).trans rfl, (blk_cell BK327.out 4).trans rfl⟩ (fun hHeld => ?_)
          clear hK K
          refine norm_ (a' := ?_) ?_ ?_
          rotate_left
          ·show Act.put _ (some 53) _ = _
           simp only [Act.put, S_]
           rfl
          refine pure_ (i := 38) (N := some 54) (v := ?_) (a' := ?_) #[true, true, true, true, true, true, true, true, true, true, true, true, true, true, true, true, true, true, true, true, true, true, true, true, true, true, true, true, true, true, true, true, true, true, true, true, true, true, true, false] rfl rfl (any_of HT_.out (by kernel_rfl)) (fun _ _ _ h => h) (Or.inl ⟨by rfl, ?_⟩) ?_ ?_
          rotate_left
          ·intro w'
           go_simp
           with_reducible rfl
          rotate_left
          ·simp only [Act.put, S_]
           rfl
          refine pure_ (i := 39) (N := some 6) (v := ?_) (a' := ?_) #[true, true, true, true, true, true, true, true, true, true, true, true, true, true, true, true, true, true, true, true, true, true, true, true, true, true, true, true, true, true, true, true, true, true, true, true, true, true, true, true] rfl rfl (any_of HT_.out (by kernel_rfl)) (fun _ _ _ h => h) (Or.inl ⟨by rfl, ?_⟩) ?_ ?_
          rotate_left
          ·intro w'
           go_simp
           with_reducible rfl
          rotate_left
          ·simp only [Act.put, S_]
           rfl
          refine done_ (done_of HT_.out (by kernel_rfl)) ?_
          try go_wp2
          go_ret
          exact ⟨by first | rfl | (simp [errW_none, errW_some] <;> rfl) | (simp [*, errW_none, errW_some] <;> rfl), by repeat (with_reducible first | exact HB.out | apply below_alloc | apply pw_below_drewN | apply below_drew1 | refine below_set ?_ (Aside0.out (by assumption)))⟩
         ·as_aux_lemma =>
          rw [if_neg c32] at H
          have c32b0 : (t380.toList == t384.toList && (t381 == t385 && (t382.toList == t386.toList && (t383.toList == t387.toList)))) = false := by simpa using c32
          (try (have c32b1 : decide (t380.toList = t384.toList && (t381 == t385 && (t382.toList == t386.toList && (t383.toList == t387.toList)))) = false := by simpa using c32))
          (try (have c32b2 : (t380.toList == t384.toList && (t381 == t385 && (t382.toList == t386.toList && (t383.toList == t387.toList)))) = false := by simpa using c32))
          (try (have c32b3 : ¬ (t380.toList = t384.toList && (t381 == t385 && (t382.toList == t386.toList && (t383.toList == t387.toList)))) := by simpa using c32))
          clear c32
          exact absurd H (by simp)
        ·as_aux_lemma =>
         rw [if_neg c29] at H
         have c29b0 : (t372.toList == t376.toList && (t373 == t377 && (t374.toList == t378.toList && (t375.toList == t379.toList)))) = false := by simpa using c29
         (try (have c29b1 : decide (t372.toList = t376.toList && (t373 == t377 && (t374.toList == t378.toList && (t375.toList == t379.toList)))) = false := by simpa using c29))
         (try (have c29b2 : (t372.toList == t376.toList && (t373 == t377 && (t374.toList == t378.toList && (t375.toList == t379.toList)))) = false := by simpa using c29))
         (try (have c29b3 : ¬ (t372.toList = t376.toList && (t373 == t377 && (t374.toList == t378.toList && (t375.toList == t379.toList)))) := by simpa using c29))
         clear c29
         exact absurd H (by simp)
       ·as_aux_lemma =>
        rw [if_neg c26] at H
        have c26b0 : (t371 == (a0_17 == a2)) = false := by simpa using c26
        (try (have c26b1 : decide (t371 = (a0_17 == a2)) = false := by simpa using c26))
        (try (have c26b2 : (t371 == (a0_17 == a2)) = false := by simpa using c26))
        (try (have c26b3 : ¬ (t371 = (a0_17 == a2)) := by simpa using c26))
        clear c26
        exact absurd H (by simp)
      ·as_aux_lemma =>
       rw [if_neg c25] at H
       have c25b0 : (a0_7 == 2) = false := beq_eq_false_iff_ne.mpr c25
       have c25b1 : (a0_7 != 2) = true := bne_iff_ne.mpr c25
       by_cases c43 : t371 = true
       ·as_aux_lemma =>
        subst c43
        have H1 : (none) = some r := by rw [if_pos rfl] at H; exact H
        clear H
        have H := H1
        clear H1
        exact absurd H (by simp)
       ·as_aux_lemma =>
        replace c43 := Bool.eq_false_iff.mpr c43
        subst c43
        have H1 : ((plan_ForFeed.f kj3 a1_0 a1_1 a1_2 a1_3 a1_4).bind fun bt389 => ((newsreelref44_ForFeed.f kj3 a1_0 a1_1 a1_2 a1_3 a1_4).bind fun bt393 => (if (bt389.1.toList == bt393.1.toList && (bt389.2.1 == bt393.2.1 && (bt389.2.2.1.toList == bt393.2.2.1.toList && (bt389.2.2.2.toList == bt393.2.2.2.toList)))) = true then ((plan_ForEp.f kj3 a0_0 a0_1 a0_2 a0_3 a0_4 a0_5 a0_6 a0_7 a0_8 a0_9 a0_10 a0_11 a0_12 a0_13 a0_14 a0_15 a0_16 a0_17 a0_18 a0_19 a2).bind fun bt397 => ((newsreelref44_ForEp.f kj3 a0_0 a0_1 a0_2 a0_3 a0_4 a0_5 a0_6 a0_7 a0_8 a0_9 a0_10 a0_11 a0_12 a0_13 a0_14 a0_15 a0_16 a0_17 a0_18 a0_19 a2).bind fun bt401 => (if (bt397.1.toList == bt401.1.toList && (bt397.2.1 == bt401.2.1 && (bt397.2.2.1.toList == bt401.2.2.1.toList && (bt397.2.2.2.toList == bt401.2.2.2.toList)))) = true then ((newsreellaw44_awake.f kj3).bind fun t405 => (some t405)) else (none)))) else (none)))) = some r := by rw [if_neg (show ¬ (false = true) by decide)] at H; exact H
        clear H
        have H := H1
        clear H1
        replace H := Option.bind_eq_some_iff.mp H
        obtain ⟨⟨t389, t390, t391, t392⟩, A440, H⟩ := H
        replace H : ((newsreelref44_ForFeed.f kj3 a1_0 a1_1 a1_2 a1_3 a1_4).bind fun bt393 => (if (t389.toList == bt393.1.toList && (t390 == bt393.2.1 && (t391.toList == bt393.2.2.1.toList && (t392.toList == bt393.2.2.2.toList)))) = true then ((plan_ForEp.f kj3 a0_0 a0_1 a0_2 a0_3 a0_4 a0_5 a0_6 a0_7 a0_8 a0_9 a0_10 a0_11 a0_12 a0_13 a0_14 a0_15 a0_16 a0_17 a0_18 a0_19 a2).bind fun bt397 => ((newsreelref44_ForEp.f kj3 a0_0 a0_1 a0_2 a0_3 a0_4 a0_5 a0_6 a0_7 a0_8 a0_9 a0_10 a0_11 a0_12 a0_13 a0_14 a0_15 a0_16 a0_17 a0_18 a0_19 a2).bind fun bt401 => (if (bt397.1.toList == bt401.1.toList && (bt397.2.1 == bt401.2.1 && (bt397.2.2.1.toList == bt401.2.2.1.toList && (bt397.2.2.2.toList == bt401.2.2.2.toList)))) = true then ((newsreellaw44_awake.f kj3).bind fun t405 => (some t405)) else (none)))) else (none))) = some r := H
        have A44 := Aside0.mk A440
        clear A440
        replace H := Option.bind_eq_some_iff.mp H
        obtain ⟨⟨t393, t394, t395, t396⟩, A450, H⟩ := H
        replace H : (if (t389.toList == t393.toList && (t390 == t394 && (t391.toList == t395.toList && (t392.toList == t396.toList)))) = true then ((plan_ForEp.f kj3 a0_0 a0_1 a0_2 a0_3 a0_4 a0_5 a0_6 a0_7 a0_8 a0_9 a0_10 a0_11 a0_12 a0_13 a0_14 a0_15 a0_16 a0_17 a0_18 a0_19 a2).bind fun bt397 => ((newsreelref44_ForEp.f kj3 a0_0 a0_1 a0_2 a0_3 a0_4 a0_5 a0_6 a0_7 a0_8 a0_9 a0_10 a0_11 a0_12 a0_13 a0_14 a0_15 a0_16 a0_17 a0_18 a0_19 a2).bind fun bt401 => (if (bt397.1.toList == bt401.1.toList && (bt397.2.1 == bt401.2.1 && (bt397.2.2.1.toList == bt401.2.2.1.toList && (bt397.2.2.2.toList == bt401.2.2.2.toList)))) = true then ((newsreellaw44_awake.f kj3).bind fun t405 => (some t405)) else (none)))) else (none)) = some r := H
        have A45 := Aside0.mk A450
        clear A450
        by_cases c46 : (t389.toList == t393.toList && (t390 == t394 && (t391.toList == t395.toList && (t392.toList == t396.toList)))) = true
        ·as_aux_lemma =>
         rw [if_pos c46] at H
         have c46b0 : (t389.toList == t393.toList && (t390 == t394 && (t391.toList == t395.toList && (t392.toList == t396.toList)))) = true := c46
         (try (have c46z := c46b0; simp only [Bool.and_eq_true, beq_iff_eq] at c46z; replace c46z := eq_true c46z))
         (try (have c46b1 : decide (t389.toList = t393.toList && (t390 == t394 && (t391.toList == t395.toList && (t392.toList == t396.toList)))) = true := by simpa using c46))
         (try (have c46b2 : (t389.toList == t393.toList && (t390 == t394 && (t391.toList == t395.toList && (t392.toList == t396.toList)))) = true := by simpa using c46))
         clear c46
         replace H := Option.bind_eq_some_iff.mp H
         obtain ⟨⟨t397, t398, t399, t400⟩, A470, H⟩ := H
         replace H : ((newsreelref44_ForEp.f kj3 a0_0 a0_1 a0_2 a0_3 a0_4 a0_5 a0_6 a0_7 a0_8 a0_9 a0_10 a0_11 a0_12 a0_13 a0_14 a0_15 a0_16 a0_17 a0_18 a0_19 a2).bind fun bt401 => (if (t397.toList == bt401.1.toList && (t398 == bt401.2.1 && (t399.toList == bt401.2.2.1.toList && (t400.toList == bt401.2.2.2.toList)))) = true then ((newsreellaw44_awake.f kj3).bind fun t405 => (some t405)) else (none))) = some r := H
         have A47 := Aside0.mk A470
         clear A470
         replace H := Option.bind_eq_some_iff.mp H
         obtain ⟨⟨t401, t402, t403, t404⟩, A480, H⟩ := H
         replace H : (if (t397.toList == t401.toList && (t398 == t402 && (t399.toList == t403.toList && (t400.toList == t404.toList)))) = true then ((newsreellaw44_awake.f kj3).bind fun t405 => (some t405)) else (none)) = some r := H
         have A48 := Aside0.mk A480
         clear A480
         by_cases c49 : (t397.toList == t401.toList && (t398 == t402 && (t399.toList == t403.toList && (t400.toList == t404.toList)))) = true
         ·as_aux_lemma =>
          rw [if_pos c49] at H
          have c49b0 : (t397.toList == t401.toList && (t398 == t402 && (t399.toList == t403.toList && (t400.toList == t404.toList)))) = true := c49
          (try (have c49z := c49b0; simp only [Bool.and_eq_true, beq_iff_eq] at c49z; replace c49z := eq_true c49z))
          (try (have c49b1 : decide (t397.toList = t401.toList && (t398 == t402 && (t399.toList == t403.toList && (t400.toList == t404.toList)))) = true := by simpa using c49))
          (try (have c49b2 : (t397.toList == t401.toList && (t398 == t402 && (t399.toList == t403.toList && (t400.toList == t404.toList)))) = true := by simpa using c49))
          clear c49
          replace H := Option.bind_eq_some_iff.mp H
          obtain ⟨t405, A500, H⟩ := H
          replace H : (some t405) = some r := H
          have A50 := Aside0.mk A500
          clear A500
          obtain rfl := Option.some.inj H
          try go_wp2
          have n0_ := Aside0.mk (blk_drew BK326.out)
          have n1_ := Aside0.mk (blk_drew BK327.out)
          have n2_ := Aside0.mk (below_drew1 HB.out)
          clear BK326
          clear BK327
          clear HB
          have BK326 := n0_
          have BK327 := n1_
          have HB := n2_
          clear n0_ n1_ n2_
          refine start_ (n := 40) (S := fun w' => w'.cell? ⟨gb326, 0, none⟩ = some (.int .i64 a0_0) ∧ w'.cell? ⟨gb326, 1, none⟩ = some (.int .i64 a0_1) ∧ w'.cell? ⟨gb326, 2, none⟩ = some (.string a0_2) ∧ w'.cell? ⟨gb326, 3, none⟩ = some (.string a0_3) ∧ w'.cell? ⟨gb326, 4, none⟩ = some (.string a0_4) ∧ w'.cell? ⟨gb326, 5, none⟩ = some (.int .i64 a0_5) ∧ w'.cell? ⟨gb326, 6, none⟩ = some (.int .i64 a0_6) ∧ w'.cell? ⟨gb326, 7, none⟩ = some (.int .i64 a0_7) ∧ w'.cell? ⟨gb326, 8, none⟩ = some (.int .i64 a0_8) ∧ w'.cell? ⟨gb326, 9, none⟩ = some (.bool a0_9) ∧ w'.cell? ⟨gb326, 10, none⟩ = some (.int .i64 a0_10) ∧ w'.cell? ⟨gb326, 11, none⟩ = some (.int .i64 a0_11) ∧ w'.cell? ⟨gb326, 12, none⟩ = some (.int .i64 a0_12) ∧ w'.cell? ⟨gb326, 13, none⟩ = some (.string a0_13) ∧ w'.cell? ⟨gb326, 14, none⟩ = some (.int .i64 a0_14) ∧ w'.cell? ⟨gb326, 15, none⟩ = some (.int .i64 a0_15) ∧ w'.cell? ⟨gb326, 16, none⟩ = some (.string a0_16) ∧ w'.cell? ⟨gb326, 17, none⟩ = some (.int .i64 a0_17) ∧ w'.cell? ⟨gb326, 18, none⟩ = some (.int .i64 a0_18) ∧ w'.cell? ⟨gb326, 19, none⟩ = some (.string a0_19) ∧ w'.cell? ⟨gb327, 0, none⟩ = some (.int .i64 a1_0) ∧ w'.cell? ⟨gb327, 1, none⟩ = some (.string a1_1) ∧ w'.cell? ⟨gb327, 2, none⟩ = some (.string a1_2) ∧ w'.cell? ⟨gb327, 3, none⟩ = some (.int .i64 a1_3) ∧ w'.cell? ⟨gb327, 4, none⟩ = some (.int .i64 a1_4)) (ds := []) #[false, false, false, false, false, false, false, false, false, false, false, false, false, false, false, false, false, false, false, false, false, false, false, false, false, false, false, false, false, false, false, false, false, false, false, false, false, false, false, false] (by kernel_rfl) rfl rfl ⟨(blk_cell BK326.out 0).trans rfl, (blk_cell BK326.out 1).trans rfl, (blk_cell BK326.out 2).trans rfl, (blk_cell BK326.out 3).trans rfl, (blk_cell BK326.out 4).trans rfl, (blk_cell BK326.out 5).trans rfl, (blk_cell BK326.out 6).trans rfl, (blk_cell BK326.out 7).trans rfl, (blk_cell BK326.out 8).trans rfl, (blk_cell BK326.out 9).trans rfl, (blk_cell BK326.out 10).trans rfl, (blk_cell BK326.out 11).trans rfl, (blk_cell BK326.out 12).trans rfl, (blk_cell BK326.out 13).trans rfl, (blk_cell BK326.out 14).trans rfl, (blk_cell BK326.out 15).trans rfl, (blk_cell BK326.out 16).trans rfl, (blk_cell BK326.out 17).trans rfl, (blk_cell BK326.out 18).trans rfl, (blk_cell BK326.out 19).trans rfl, (blk_cell BK327.out 0).trans rfl, (blk_cell BK327.out 1).trans rfl, (blk_cell BK327.out 2).trans rfl, (blk_cell BK327.out 3).trans rfl, (blk_cell BK327.out 4).trans rfl⟩ (fun hHeld => ?_); refine with_tabW newsreellaw44_PlanTells.tab3 newsreellaw44_PlanTells.bits3 (fun HT_ HW_ => ?_)
          generalize wc.drew = w51 at BK326 BK327 HB hHeld ⊢
          refine take_ (i := 0) (N := some 16) (v := ?_) (a' := ?_) #[true, false, false, false, false, false, false, false, false, false, false, false, false, false, false, false, false, false, false, false, false, false, false, false, false, false, false, false, false, false, false, false, false, false, false, false, false, false, false, false] rfl rfl (take_ofW HT_.out HW_.out (by kernel_rfl)) (fun _ _ _ h => h) (Or.inl ⟨by rfl, ?_⟩) hHeld ?_ ?_
          rotate_left
          ·rintro w' ⟨s0, s1, s2, s3, s4, s5, s6, s7, s8, s9, s10, s11, s12, s13, s14, s15, s16, s17, s18, s19, s20, s21, s22, s23, s24⟩
           refine Hand.exec_load_big 23 (.tmp 3) ?ho_ ⟨gb326, 0, none⟩ ?hx_ [.int .i64 a0_0, .int .i64 a0_1, .string a0_2, .string a0_3, .string a0_4, .int .i64 a0_5, .int .i64 a0_6, .int .i64 a0_7, .int .i64 a0_8, .bool a0_9, .int .i64 a0_10, .int .i64 a0_11, .int .i64 a0_12, .string a0_13, .int .i64 a0_14, .int .i64 a0_15, .string a0_16, .int .i64 a0_17, .int .i64 a0_18, .string a0_19] desc23.choose ?hc_ desc23.choose_spec.1 desc23.choose_spec.2 ?hi_
           case ho_ => rfl
           case hx_ => rfl
           case hc_ => exact Hand.cc_first s0 (Hand.cc_cons (b := gb326) (o := 0) 1 s1 (Hand.cc_cons (b := gb326) (o := 0) 2 s2 (Hand.cc_cons (b := gb326) (o := 0) 3 s3 (Hand.cc_cons (b := gb326) (o := 0) 4 s4 (Hand.cc_cons (b := gb326) (o := 0) 5 s5 (Hand.cc_cons (b := gb326) (o := 0) 6 s6 (Hand.cc_cons (b := gb326) (o := 0) 7 s7 (Hand.cc_cons (b := gb326) (o := 0) 8 s8 (Hand.cc_cons (b := gb326) (o := 0) 9 s9 (Hand.cc_cons (b := gb326) (o := 0) 10 s10 (Hand.cc_cons (b := gb326) (o := 0) 11 s11 (Hand.cc_cons (b := gb326) (o := 0) 12 s12 (Hand.cc_cons (b := gb326) (o := 0) 13 s13 (Hand.cc_cons (b := gb326) (o := 0) 14 s14 (Hand.cc_cons (b := gb326) (o := 0) 15 s15 (Hand.cc_cons (b := gb326) (o := 0) 16 s16 (Hand.cc_cons (b := gb326) (o := 0) 17 s17 (Hand.cc_cons (b := gb326) (o := 0) 18 s18 (Hand.cc_cons (b := gb326) (o := 0) 19 s19 (Hand.cc_nil 20))))))))))))))))))))
           case hi_ => kernel_rfl
          rotate_left
          ·simp only [Act.put, S_]
           rfl
          refine take_ (i := 2) (N := some 18) (v := ?_) (a' := ?_) #[true, false, true, false, false, false, false, false, false, false, false, false, false, false, false, false, false, false, false, false, false, false, false, false, false, false, false, false, false, false, false, false, false, false, false, false, false, false, false, false] rfl rfl (take_ofW HT_.out HW_.out (by kernel_rfl)) (fun _ _ _ h => h) (Or.inl ⟨by rfl, ?_⟩) hHeld ?_ ?_
          rotate_left
          ·rintro w' ⟨s0, s1, s2, s3, s4, s5, s6, s7, s8, s9, s10, s11, s12, s13, s14, s15, s16, s17, s18, s19, s20, s21, s22, s23, s24⟩
           refine Hand.exec_load_big 23 (.tmp 3) ?ho_ ⟨gb326, 0, none⟩ ?hx_ [.int .i64 a0_0, .int .i64 a0_1, .string a0_2, .string a0_3, .string a0_4, .int .i64 a0_5, .int .i64 a0_6, .int .i64 a0_7, .int .i64 a0_8, .bool a0_9, .int .i64 a0_10, .int .i64 a0_11, .int .i64 a0_12, .string a0_13, .int .i64 a0_14, .int .i64 a0_15, .string a0_16, .int .i64 a0_17, .int .i64 a0_18, .string a0_19] desc23.choose ?hc_ desc23.choose_spec.1 desc23.choose_spec.2 ?hi_
           case ho_ => rfl
           case hx_ => rfl
           case hc_ => exact Hand.cc_first s0 (Hand.cc_cons (b := gb326) (o := 0) 1 s1 (Hand.cc_cons (b := gb326) (o := 0) 2 s2 (Hand.cc_cons (b := gb326) (o := 0) 3 s3 (Hand.cc_cons (b := gb326) (o := 0) 4 s4 (Hand.cc_cons (b := gb326) (o := 0) 5 s5 (Hand.cc_cons (b := gb326) (o := 0) 6 s6 (Hand.cc_cons (b := gb326) (o := 0) 7 s7 (Hand.cc_cons (b := gb326) (o := 0) 8 s8 (Hand.cc_cons (b := gb326) (o := 0) 9 s9 (Hand.cc_cons (b := gb326) (o := 0) 10 s10 (Hand.cc_cons (b := gb326) (o := 0) 11 s11 (Hand.cc_cons (b := gb326) (o := 0) 12 s12 (Hand.cc_cons (b := gb326) (o := 0) 13 s13 (Hand.cc_cons (b := gb326) (o := 0) 14 s14 (Hand.cc_cons (b := gb326) (o := 0) 15 s15 (Hand.cc_cons (b := gb326) (o := 0) 16 s16 (Hand.cc_cons (b := gb326) (o := 0) 17 s17 (Hand.cc_cons (b := gb326) (o := 0) 18 s18 (Hand.cc_cons (b := gb326) (o := 0) 19 s19 (Hand.cc_nil 20))))))))))))))))))))
           case hi_ => kernel_rfl
          rotate_left
          ·simp only [Act.put, S_]
           rfl
          refine one_ (i := 1) (N := some 17) #[true, true, true, false, false, false, false, false, false, false, false, false, false, false, false, false, false, false, false, false, false, false, false, false, false, false, false, false, false, false, false, false, false, false, false, false, false, false, false, false] rfl rfl (one_of HT_.out (by kernel_rfl)) (by decide) (fun K hK => ?_)
          refine goes_ Tryd.func8 (by kernel_rfl) rfl #[.agg #[.int .i64 a0_0, .int .i64 a0_1, .string a0_2, .string a0_3, .string a0_4, .int .i64 a0_5, .int .i64 a0_6, .int .i64 a0_7, .int .i64 a0_8, .bool a0_9, .int .i64 a0_10, .int .i64 a0_11, .int .i64 a0_12, .string a0_13, .int .i64 a0_14, .int .i64 a0_15, .string a0_16, .int .i64 a0_17, .int .i64 a0_18, .string a0_19]] (by rfl) rfl rfl (by (try simp only [List.map_toArray, List.map_cons, List.map_nil]); first | done | rfl | (simp only [List.length_drop, List.length_take]; rfl)) ?_
          with_reducible refine (plan_Begin.calls kj3 a0_0 a0_1 a0_2 a0_3 a0_4 a0_5 a0_6 a0_7 a0_8 a0_9 a0_10 a0_11 a0_12 a0_13 a0_14 a0_15 a0_16 a0_17 a0_18 a0_19 t331 t332 t333 t334 t335 t336 t337 t338 t339 t340 t341 t342 t343 t344 t345 t346 t347 t348 t349 t350 _ A21.out).mono ?_
          rintro e w52 ⟨rfl, hb⟩
          refine ⟨_, rfl, ?_⟩
          have n0_ := Aside0.mk (blk_below (g := gb326) (o := .cells #[.int .i64 a0_0, .int .i64 a0_1, .string a0_2, .string a0_3, .string a0_4, .int .i64 a0_5, .int .i64 a0_6, .int .i64 a0_7, .int .i64 a0_8, .bool a0_9, .int .i64 a0_10, .int .i64 a0_11, .int .i64 a0_12, .string a0_13, .int .i64 a0_14, .int .i64 a0_15, .string a0_16, .int .i64 a0_17, .int .i64 a0_18, .string a0_19] 23 (0, 0)) (sm_ BK326) hb)
          have n1_ := Aside0.mk (blk_below (g := gb327) (o := .cells #[.int .i64 a1_0, .string a1_1, .string a1_2, .int .i64 a1_3, .int .i64 a1_4] 25 (0, 0)) (sm_ BK327) hb)
          have n2_ := Aside0.mk (below_step (by repeat (with_reducible first | exact HB.out | apply below_alloc | apply pw_below_drewN | apply below_drew1 | refine below_set ?_ (Aside0.out (by assumption)))) hb)
          clear BK326
          clear BK327
          clear HB
          have BK326 := n0_
          have BK327 := n1_
          have HB := n2_
          clear n0_ n1_ n2_
          (try clear hb)
          (try clear hb2)
          (try clear hk)
          (try clear hi)
          refine hK.out _ _ ⟨(blk_cell BK326.out 0).trans rfl, (blk_cell BK326.out 1).trans rfl, (blk_cell BK326.out 2).trans rfl, (blk_cell BK326.out 3).trans rfl, (blk_cell BK326.out 4).trans rfl, (blk_cell BK326.out 5).trans rfl, (blk_cell BK326.out 6).trans rfl, (blk_cell BK326.out 7).trans rfl, (blk_cell BK326.out 8).trans rfl, (blk_cell BK326.out 9).trans rfl, (blk_cell BK326.out 10).trans rfl, (blk_cell BK326.out 11).trans rfl, (blk_cell BK326.out 12).trans rfl, (blk_cell BK326.out 13).trans rfl, (blk_cell BK326.out 14).trans rfl, (blk_cell BK326.out 15).trans rfl, (blk_cell BK326.out 16).trans rfl, (blk_cell BK326.out 17).trans rfl, (blk_cell BK326.out 18).trans rfl, (blk_cell BK326.out 19).trans rfl, (blk_cell BK327.out 0).trans rfl, (blk_cell BK327.out 1).trans rfl, (blk_cell BK327.out 2).trans rfl, (blk_cell BK327.out 3).trans rfl, (blk_cell BK327.out 4).trans rfl⟩ (fun hHeld => ?_)
          clear hK K
          refine norm_ (a' := ?_) ?_ ?_
          rotate_left
          ·show Act.put _ (some 17) _ = _
           simp only [Act.put, S_]
           rfl
          refine one_ (i := 3) (N := some 19) #[true, true, true, true, false, false, false, false, false, false, false, false, false, false, false, false, false, false, false, false, false, false, false, false, false, false, false, false, false, false, false, false, false, false, false, false, false, false, false, false] rfl rfl (one_of HT_.out (by kernel_rfl)) (by decide) (fun K hK => ?_)
          refine goes_ Tryd.func9 (by kernel_rfl) rfl #[.agg #[.int .i64 a0_0, .int .i64 a0_1, .string a0_2, .string a0_3, .string a0_4, .int .i64 a0_5, .int .i64 a0_6, .int .i64 a0_7, .int .i64 a0_8, .bool a0_9, .int .i64 a0_10, .int .i64 a0_11, .int .i64 a0_12, .string a0_13, .int .i64 a0_14, .int .i64 a0_15, .string a0_16, .int .i64 a0_17, .int .i64 a0_18, .string a0_19]] (by rfl) rfl rfl (by (try simp only [List.map_toArray, List.map_cons, List.map_nil]); first | done | rfl | (simp only [List.length_drop, List.length_take]; rfl)) ?_
          with_reducible refine (newsreelref44_Begin.calls kj3 a0_0 a0_1 a0_2 a0_3 a0_4 a0_5 a0_6 a0_7 a0_8 a0_9 a0_10 a0_11 a0_12 a0_13 a0_14 a0_15 a0_16 a0_17 a0_18 a0_19 t351 t352 t353 t354 t355 t356 t357 t358 t359 t360 t361 t362 t363 t364 t365 t366 t367 t368 t369 t370 _ A22.out).mono ?_
          rintro e w53 ⟨rfl, hb⟩
          refine ⟨_, rfl, ?_⟩
          have n0_ := Aside0.mk (blk_below (g := gb326) (o := .cells #[.int .i64 a0_0, .int .i64 a0_1, .string a0_2, .string a0_3, .string a0_4, .int .i64 a0_5, .int .i64 a0_6, .int .i64 a0_7, .int .i64 a0_8, .bool a0_9, .int .i64 a0_10, .int .i64 a0_11, .int .i64 a0_12, .string a0_13, .int .i64 a0_14, .int .i64 a0_15, .string a0_16, .int .i64 a0_17, .int .i64 a0_18, .string a0_19] 23 (0, 0)) (sm_ BK326) hb)
          have n1_ := Aside0.mk (blk_below (g := gb327) (o := .cells #[.int .i64 a1_0, .string a1_1, .string a1_2, .int .i64 a1_3, .int .i64 a1_4] 25 (0, 0)) (sm_ BK327) hb)
          have n2_ := Aside0.mk (below_step (by repeat (with_reducible first | exact HB.out | apply below_alloc | apply pw_below_drewN | apply below_drew1 | refine below_set ?_ (Aside0.out (by assumption)))) hb)
          clear BK326
          clear BK327
          clear HB
          have BK326 := n0_
          have BK327 := n1_
          have HB := n2_
          clear n0_ n1_ n2_
          (try clear hb)
          (try clear hb2)
          (try clear hk)
          (try clear hi)
          refine hK.out _ _ ⟨(blk_cell BK326.out 0).trans rfl, (blk_cell BK326.out 1).trans rfl, (blk_cell BK326.out 2).trans rfl, (blk_cell BK326.out 3).trans rfl, (blk_cell BK326.out 4).trans rfl, (blk_cell BK326.out 5).trans rfl, (blk_cell BK326.out 6).trans rfl, (blk_cell BK326.out 7).trans rfl, (blk_cell BK326.out 8).trans rfl, (blk_cell BK326.out 9).trans rfl, (blk_cell BK326.out 10).trans rfl, (blk_cell BK326.out 11).trans rfl, (blk_cell BK326.out 12).trans rfl, (blk_cell BK326.out 13).trans rfl, (blk_cell BK326.out 14).trans rfl, (blk_cell BK326.out 15).trans rfl, (blk_cell BK326.out 16).trans rfl, (blk_cell BK326.out 17).trans rfl, (blk_cell BK326.out 18).trans rfl, (blk_cell BK326.out 19).trans rfl, (blk_cell BK327.out 0).trans rfl, (blk_cell BK327.out 1).trans rfl, (blk_cell BK327.out 2).trans rfl, (blk_cell BK327.out 3).trans rfl, (blk_cell BK327.out 4).trans rfl⟩ (fun hHeld => ?_)
          clear hK K
          refine norm_ (a' := ?_) ?_ ?_
          rotate_left
          ·show Act.put _ (some 19) _ = _
           simp only [Act.put, S_]
           rfl
          refine pure_ (i := 4) (N := some 20) (v := ?_) (a' := ?_) #[true, true, true, true, true, false, false, false, false, false, false, false, false, false, false, false, false, false, false, false, false, false, false, false, false, false, false, false, false, false, false, false, false, false, false, false, false, false, false, false] rfl rfl (any_of HT_.out (by kernel_rfl)) (fun _ _ _ h => h) (Or.inl ⟨by rfl, ?_⟩) ?_ ?_
          rotate_left
          ·intro w'
           go_simp
           with_reducible rfl
          rotate_left
          ·simp only [Act.put, S_]
           rfl
          refine pure_ (i := 5) (N := some 21) (v := ?_) (a' := ?_) #[true, true, true, true, true, true, false, false, false, false, false, false, false, false, false, false, false, false, false, false, false, false, false, false, false, false, false, false, false, false, false, false, false, false, false, false, false, false, false, false] rfl rfl (any_of HT_.out (by kernel_rfl)) (fun _ _ _ h => h) (Or.inl ⟨by rfl, ?_⟩) ?_ ?_
          rotate_left
          ·intro w'
           go_simp
           with_reducible rfl
          rotate_left
          ·simp only [Act.put, S_]
           rfl
          refine pure_ (i := 7) (N := some 23) (v := ?_) (a' := ?_) #[true, true, true, true, true, true, false, true, false, false, false, false, false, false, false, false, false, false, false, false, false, false, false, false, false, false, false, false, false, false, false, false, false, false, false, false, false, false, false, false] rfl rfl (any_of HT_.out (by kernel_rfl)) (fun _ _ _ h => h) (Or.inl ⟨by rfl, ?_⟩) ?_ ?_
          rotate_left
          ·intro w'
           go_simp
           with_reducible rfl
          rotate_left
          ·simp only [Act.put, S_]
           rfl
          refine pure_ (i := 9) (N := some 25) (v := ?_) (a' := ?_) #[true, true, true, true, true, true, false, true, false, true, false, false, false, false, false, false, false, false, false, false, false, false, false, false, false, false, false, false, false, false, false, false, false, false, false, false, false, false, false, false] rfl rfl (any_of HT_.out (by kernel_rfl)) (fun _ _ _ h => h) (Or.inl ⟨by rfl, ?_⟩) ?_ ?_
          rotate_left
          ·intro w'
           go_simp
           with_reducible rfl
          rotate_left
          ·simp only [Act.put, S_]
           rfl
          refine take_ (i := 6) (N := some 22) (v := ?_) (a' := ?_) #[true, true, true, true, true, true, true, true, false, true, false, false, false, false, false, false, false, false, false, false, false, false, false, false, false, false, false, false, false, false, false, false, false, false, false, false, false, false, false, false] rfl rfl (take_ofW HT_.out HW_.out (by kernel_rfl)) (fun _ _ _ h => h) (Or.inl ⟨by rfl, ?_⟩) hHeld ?_ ?_
          rotate_left
          ·rintro w' ⟨s0, s1, s2, s3, s4, s5, s6, s7, s8, s9, s10, s11, s12, s13, s14, s15, s16, s17, s18, s19, s20, s21, s22, s23, s24⟩
           refine Hand.exec_load_big 23 (.tmp 3) ?ho_ ⟨gb326, 0, none⟩ ?hx_ [.int .i64 a0_0, .int .i64 a0_1, .string a0_2, .string a0_3, .string a0_4, .int .i64 a0_5, .int .i64 a0_6, .int .i64 a0_7, .int .i64 a0_8, .bool a0_9, .int .i64 a0_10, .int .i64 a0_11, .int .i64 a0_12, .string a0_13, .int .i64 a0_14, .int .i64 a0_15, .string a0_16, .int .i64 a0_17, .int .i64 a0_18, .string a0_19] desc23.choose ?hc_ desc23.choose_spec.1 desc23.choose_spec.2 ?hi_
           case ho_ => rfl
           case hx_ => rfl
           case hc_ => exact Hand.cc_first s0 (Hand.cc_cons (b := gb326) (o := 0) 1 s1 (Hand.cc_cons (b := gb326) (o := 0) 2 s2 (Hand.cc_cons (b := gb326) (o := 0) 3 s3 (Hand.cc_cons (b := gb326) (o := 0) 4 s4 (Hand.cc_cons (b := gb326) (o := 0) 5 s5 (Hand.cc_cons (b := gb326) (o := 0) 6 s6 (Hand.cc_cons (b := gb326) (o := 0) 7 s7 (Hand.cc_cons (b := gb326) (o := 0) 8 s8 (Hand.cc_cons (b := gb326) (o := 0) 9 s9 (Hand.cc_cons (b := gb326) (o := 0) 10 s10 (Hand.cc_cons (b := gb326) (o := 0) 11 s11 (Hand.cc_cons (b := gb326) (o := 0) 12 s12 (Hand.cc_cons (b := gb326) (o := 0) 13 s13 (Hand.cc_cons (b := gb326) (o := 0) 14 s14 (Hand.cc_cons (b := gb326) (o := 0) 15 s15 (Hand.cc_cons (b := gb326) (o := 0) 16 s16 (Hand.cc_cons (b := gb326) (o := 0) 17 s17 (Hand.cc_cons (b := gb326) (o := 0) 18 s18 (Hand.cc_cons (b := gb326) (o := 0) 19 s19 (Hand.cc_nil 20))))))))))))))))))))
           case hi_ => kernel_rfl
          rotate_left
          ·simp only [Act.put, S_]
           rfl
          refine take_ (i := 10) (N := some 26) (v := ?_) (a' := ?_) #[true, true, true, true, true, true, true, true, false, true, true, false, false, false, false, false, false, false, false, false, false, false, false, false, false, false, false, false, false, false, false, false, false, false, false, false, false, false, false, false] rfl rfl (take_ofW HT_.out HW_.out (by kernel_rfl)) (fun _ _ _ h => h) (Or.inl ⟨by rfl, ?_⟩) hHeld ?_ ?_
          rotate_left
          ·rintro w' ⟨s0, s1, s2, s3, s4, s5, s6, s7, s8, s9, s10, s11, s12, s13, s14, s15, s16, s17, s18, s19, s20, s21, s22, s23, s24⟩
           go_simp
           with_reducible rfl
          rotate_left
          ·simp only [Act.put, S_]
           rfl
          refine pure_ (i := 11) (N := some 27) (v := ?_) (a' := ?_) #[true, true, true, true, true, true, true, true, false, true, true, true, false, false, false, false, false, false, false, false, false, false, false, false, false, false, false, false, false, false, false, false, false, false, false, false, false, false, false, false] rfl rfl (any_of HT_.out (by kernel_rfl)) (fun _ _ _ h => h) (Or.inl ⟨by rfl, ?_⟩) ?_ ?_
          rotate_left
          ·intro w'
           go_simp
           with_reducible rfl
          rotate_left
          ·simp only [Act.put, S_]
           rfl
          refine one_ (i := 8) (N := some 24) #[true, true, true, true, true, true, true, true, true, true, true, true, false, false, false, false, false, false, false, false, false, false, false, false, false, false, false, false, false, false, false, false, false, false, false, false, false, false, false, false] rfl rfl (one_of HT_.out (by kernel_rfl)) (by decide) (fun K hK => ?_)
          refine goes_ Tryd.func10 (by kernel_rfl) rfl #[.agg #[.int .i64 a0_0, .int .i64 a0_1, .string a0_2, .string a0_3, .string a0_4, .int .i64 a0_5, .int .i64 a0_6, .int .i64 a0_7, .int .i64 a0_8, .bool a0_9, .int .i64 a0_10, .int .i64 a0_11, .int .i64 a0_12, .string a0_13, .int .i64 a0_14, .int .i64 a0_15, .string a0_16, .int .i64 a0_17, .int .i64 a0_18, .string a0_19], .int .i64 a2] (by rfl) rfl rfl (by (try simp only [List.map_toArray, List.map_cons, List.map_nil]); first | done | rfl | (simp only [List.length_drop, List.length_take]; rfl)) ?_
          with_reducible refine (plan_Complete.calls a0_0 a0_1 a0_2 a0_3 a0_4 a0_5 a0_6 a0_7 a0_8 a0_9 a0_10 a0_11 a0_12 a0_13 a0_14 a0_15 a0_16 a0_17 a0_18 a0_19 a2 false _ A24.out).mono ?_
          rintro e w54 ⟨rfl, hb⟩
          refine ⟨_, rfl, ?_⟩
          have n0_ := Aside0.mk (blk_below (g := gb326) (o := .cells #[.int .i64 a0_0, .int .i64 a0_1, .string a0_2, .string a0_3, .string a0_4, .int .i64 a0_5, .int .i64 a0_6, .int .i64 a0_7, .int .i64 a0_8, .bool a0_9, .int .i64 a0_10, .int .i64 a0_11, .int .i64 a0_12, .string a0_13, .int .i64 a0_14, .int .i64 a0_15, .string a0_16, .int .i64 a0_17, .int .i64 a0_18, .string a0_19] 23 (0, 0)) (sm_ BK326) hb)
          have n1_ := Aside0.mk (blk_below (g := gb327) (o := .cells #[.int .i64 a1_0, .string a1_1, .string a1_2, .int .i64 a1_3, .int .i64 a1_4] 25 (0, 0)) (sm_ BK327) hb)
          have n2_ := Aside0.mk (below_step (by repeat (with_reducible first | exact HB.out | apply below_alloc | apply pw_below_drewN | apply below_drew1 | refine below_set ?_ (Aside0.out (by assumption)))) hb)
          clear BK326
          clear BK327
          clear HB
          have BK326 := n0_
          have BK327 := n1_
          have HB := n2_
          clear n0_ n1_ n2_
          (try clear hb)
          (try clear hb2)
          (try clear hk)
          (try clear hi)
          refine hK.out _ _ ⟨(blk_cell BK326.out 0).trans rfl, (blk_cell BK326.out 1).trans rfl, (blk_cell BK326.out 2).trans rfl, (blk_cell BK326.out 3).trans rfl, (blk_cell BK326.out 4).trans rfl, (blk_cell BK326.out 5).trans rfl, (blk_cell BK326.out 6).trans rfl, (blk_cell BK326.out 7).trans rfl, (blk_cell BK326.out 8).trans rfl, (blk_cell BK326.out 9).trans rfl, (blk_cell BK326.out 10).trans rfl, (blk_cell BK326.out 11).trans rfl, (blk_cell BK326.out 12).trans rfl, (blk_cell BK326.out 13).trans rfl, (blk_cell BK326.out 14).trans rfl, (blk_cell BK326.out 15).trans rfl, (blk_cell BK326.out 16).trans rfl, (blk_cell BK326.out 17).trans rfl, (blk_cell BK326.out 18).trans rfl, (blk_cell BK326.out 19).trans rfl, (blk_cell BK327.out 0).trans rfl, (blk_cell BK327.out 1).trans rfl, (blk_cell BK327.out 2).trans rfl, (blk_cell BK327.out 3).trans rfl, (blk_cell BK327.out 4).trans rfl⟩ (fun hHeld => ?_)
          clear hK K
          refine norm_ (a' := ?_) ?_ ?_
          rotate_left
          ·show Act.put _ (some 24) _ = _
           simp only [Act.put, S_]
           rfl
          refine pure_ (i := 12) (N := some 28) (v := ?_) (a' := ?_) #[true, true, true, true, true, true, true, true, true, true, true, true, true, false, false, false, false, false, false, false, false, false, false, false, false, false, false, false, false, false, false, false, false, false, false, false, false, false, false, false] rfl rfl (any_of HT_.out (by kernel_rfl)) (fun _ _ _ h => h) (Or.inl ⟨by rfl, ?_⟩) ?_ ?_
          rotate_left
          ·intro w'
           go_simp
           with_reducible rfl
          rotate_left
          ·simp only [Act.put, S_]
           rfl
          refine pure_ (i := 13) (N := some 29) (v := undef) (a' := ?_) #[true, true, true, true, true, true, true, true, true, true, true, true, true, true, false, false, false, false, false, false, false, false, false, false, false, false, false, false, false, false, false, false, false, false, false, false, false, false, false, false] rfl rfl (any_of HT_.out (by kernel_rfl)) (fun _ _ _ h => h) (Or.inr ⟨by rfl, rfl⟩) ?_ ?_
          rotate_left
          ·simp only [Act.put, S_]
           rfl
          refine pure_ (i := 14) (N := some 30) (v := undef) (a' := ?_) #[true, true, true, true, true, true, true, true, true, true, true, true, true, true, true, false, false, false, false, false, false, false, false, false, false, false, false, false, false, false, false, false, false, false, false, false, false, false, false, false] rfl rfl (any_of HT_.out (by kernel_rfl)) (fun _ _ _ h => h) (Or.inr ⟨by rfl, rfl⟩) ?_ ?_
          rotate_left
          ·simp only [Act.put, S_]
           rfl
          refine pure_ (i := 15) (N := some 31) (v := undef) (a' := ?_) #[true, true, true, true, true, true, true, true, true, true, true, true, true, true, true, true, false, false, false, false, false, false, false, false, false, false, false, false, false, false, false, false, false, false, false, false, false, false, false, false] rfl rfl (any_of HT_.out (by kernel_rfl)) (fun _ _ _ h => h) (Or.inr ⟨by rfl, rfl⟩) ?_ ?_
          rotate_left
          ·simp only [Act.put, S_]
           rfl
          refine pure_ (i := 16) (N := some 32) (v := undef) (a' := ?_) #[true, true, true, true, true, true, true, true, true, true, true, true, true, true, true, true, true, false, false, false, false, false, false, false, false, false, false, false, false, false, false, false, false, false, false, false, false, false, false, false] rfl rfl (any_of HT_.out (by kernel_rfl)) (fun _ _ _ h => h) (Or.inr ⟨by rfl, rfl⟩) ?_ ?_
          rotate_left
          ·simp only [Act.put, S_]
           rfl
          refine pure_ (i := 17) (N := some 33) (v := ?_) (a' := ?_) #[true, true, true, true, true, true, true, true, true, true, true, true, true, true, true, true, true, true, false, false, false, false, false, false, false, false, false, false, false, false, false, false, false, false, false, false, false, false, false, false] rfl rfl (any_of HT_.out (by kernel_rfl)) (fun _ _ _ h => h) (Or.inl ⟨by rfl, ?_⟩) ?_ ?_
          rotate_left
          ·intro w'
           go_simp
           with_reducible rfl
          rotate_left
          ·simp only [Act.put, S_]
           rfl
          refine pure_ (i := 18) (N := some 34) (v := ?_) (a' := ?_) #[true, true, true, true, true, true, true, true, true, true, true, true, true, true, true, true, true, true, true, false, false, false, false, false, false, false, false, false, false, false, false, false, false, false, false, false, false, false, false, false] rfl rfl (any_of HT_.out (by kernel_rfl)) (fun _ _ _ h => h) (Or.inl ⟨by rfl, ?_⟩) ?_ ?_
          rotate_left
          ·intro w'
           go_simp
           with_reducible rfl
          rotate_left
          ·simp only [Act.put, S_]
           rfl
          refine pure_ (i := 19) (N := some 35) (v := ?_) (a' := ?_) #[true, true, true, true, true, true, true, true, true, true, true, true, true, true, true, true, true, true, true, true, false, false, false, false, false, false, false, false, false, false, false, false, false, false, false, false, false, false, false, false] rfl rfl (any_of HT_.out (by kernel_rfl)) (fun _ _ _ h => h) (Or.inl ⟨by rfl, ?_⟩) ?_ ?_
          rotate_left
          ·intro w'
           go_simp
           with_reducible rfl
          rotate_left
          ·simp only [Act.put, S_]
           rfl
          refine pure_ (i := 20) (N := some 36) (v := ?_) (a' := ?_) #[true, true, true, true, true, true, true, true, true, true, true, true, true, true, true, true, true, true, true, true, true, false, false, false, false, false, false, false, false, false, false, false, false, false, false, false, false, false, false, false] rfl rfl (any_of HT_.out (by kernel_rfl)) (fun _ _ _ h => h) (Or.inl ⟨by rfl, ?_⟩) ?_ ?_
          rotate_left
          ·intro w'
           go_simp
           with_reducible rfl
          rotate_left
          ·simp only [Act.put, S_]
           rfl
          refine take_ (i := 21) (N := some 37) (v := ?_) (a' := ?_) #[true, true, true, true, true, true, true, true, true, true, true, true, true, true, true, true, true, true, true, true, true, true, false, false, false, false, false, false, false, false, false, false, false, false, false, false, false, false, false, false] rfl rfl (take_ofW HT_.out HW_.out (by kernel_rfl)) (fun _ _ _ h => h) (Or.inl ⟨by rfl, ?_⟩) hHeld ?_ ?_
          rotate_left
          ·rintro w' ⟨s0, s1, s2, s3, s4, s5, s6, s7, s8, s9, s10, s11, s12, s13, s14, s15, s16, s17, s18, s19, s20, s21, s22, s23, s24⟩
           go_simp
           with_reducible rfl
          rotate_left
          ·simp only [Act.put, S_]
           rfl
          refine take_ (i := 23) (N := some 39) (v := ?_) (a' := ?_) #[true, true, true, true, true, true, true, true, true, true, true, true, true, true, true, true, true, true, true, true, true, true, false, true, false, false, false, false, false, false, false, false, false, false, false, false, false, false, false, false] rfl rfl (take_ofW HT_.out HW_.out (by kernel_rfl)) (fun _ _ _ h => h) (Or.inl ⟨by rfl, ?_⟩) hHeld ?_ ?_
          rotate_left
          ·rintro w' ⟨s0, s1, s2, s3, s4, s5, s6, s7, s8, s9, s10, s11, s12, s13, s14, s15, s16, s17, s18, s19, s20, s21, s22, s23, s24⟩
           go_simp
           with_reducible rfl
          rotate_left
          ·simp only [Act.put, S_]
           rfl
          refine one_ (i := 22) (N := some 38) #[true, true, true, true, true, true, true, true, true, true, true, true, true, true, true, true, true, true, true, true, true, true, true, true, false, false, false, false, false, false, false, false, false, false, false, false, false, false, false, false] rfl rfl (one_of HT_.out (by kernel_rfl)) (by decide) (fun K hK => ?_)
          refine goes_ Tryd.func11 (by kernel_rfl) rfl #[.agg #[.int .i64 a1_0, .string a1_1, .string a1_2, .int .i64 a1_3, .int .i64 a1_4]] (by rfl) rfl rfl (by (try simp only [List.map_toArray, List.map_cons, List.map_nil]); first | done | rfl | (simp only [List.length_drop, List.length_take]; rfl)) ?_
          with_reducible refine (plan_ForFeed.calls kj3 a1_0 a1_1 a1_2 a1_3 a1_4 t389 t390 t391 t392 _ A44.out).mono ?_
          rintro e w55 ⟨rfl, hb⟩
          refine ⟨_, rfl, ?_⟩
          have n0_ := Aside0.mk (blk_below (g := gb326) (o := .cells #[.int .i64 a0_0, .int .i64 a0_1, .string a0_2, .string a0_3, .string a0_4, .int .i64 a0_5, .int .i64 a0_6, .int .i64 a0_7, .int .i64 a0_8, .bool a0_9, .int .i64 a0_10, .int .i64 a0_11, .int .i64 a0_12, .string a0_13, .int .i64 a0_14, .int .i64 a0_15, .string a0_16, .int .i64 a0_17, .int .i64 a0_18, .string a0_19] 23 (0, 0)) (sm_ BK326) hb)
          have n1_ := Aside0.mk (blk_below (g := gb327) (o := .cells #[.int .i64 a1_0, .string a1_1, .string a1_2, .int .i64 a1_3, .int .i64 a1_4] 25 (0, 0)) (sm_ BK327) hb)
          have n2_ := Aside0.mk (below_step (by repeat (with_reducible first | exact HB.out | apply below_alloc | apply pw_below_drewN | apply below_drew1 | refine below_set ?_ (Aside0.out (by assumption)))) hb)
          clear BK326
          clear BK327
          clear HB
          have BK326 := n0_
          have BK327 := n1_
          have HB := n2_
          clear n0_ n1_ n2_
          (try clear hb)
          (try clear hb2)
          (try clear hk)
          (try clear hi)
          refine hK.out _ _ ⟨(blk_cell BK326.out 0).trans rfl, (blk_cell BK326.out 1).trans rfl, (blk_cell BK326.out 2).trans rfl, (blk_cell BK326.out 3).trans rfl, (blk_cell BK326.out 4).trans rfl, (blk_cell BK326.out 5).trans rfl, (blk_cell BK326.out 6).trans rfl, (blk_cell BK326.out 7).trans rfl, (blk_cell BK326.out 8).trans rfl, (blk_cell BK326.out 9).trans rfl, (blk_cell BK326.out 10).trans rfl, (blk_cell BK326.out 11).trans rfl, (blk_cell BK326.out 12).trans rfl, (blk_cell BK326.out 13).trans rfl, (blk_cell BK326.out 14).trans rfl, (blk_cell BK326.out 15).trans rfl, (blk_cell BK326.out 16).trans rfl, (blk_cell BK326.out 17).trans rfl, (blk_cell BK326.out 18).trans rfl, (blk_cell BK326.out 19).trans rfl, (blk_cell BK327.out 0).trans rfl, (blk_cell BK327.out 1).trans rfl, (blk_cell BK327.out 2).trans rfl, (blk_cell BK327.out 3).trans rfl, (blk_cell BK327.out 4).trans rfl⟩ (fun hHeld => ?_)
          clear hK K
          refine norm_ (a' := ?_) ?_ ?_
          rotate_left
          ·show Act.put _ (some 38) _ = _
           simp only [Act.put, S_]
           rfl
          refine one_ (i := 24) (N := some 40) #[true, true, true, true, true, true, true, true, true, true, true, true, true, true, true, true, true, true, true, true, true, true, true, true, true, false, false, false, false, false, false, false, false, false, false, false, false, false, false, false] rfl rfl (one_of HT_.out (by kernel_rfl)) (by decide) (fun K hK => ?_)
          refine goes_ Tryd.func12 (by kernel_rfl) rfl #[.agg #[.int .i64 a1_0, .string a1_1, .string a1_2, .int .i64 a1_3, .int .i64 a1_4]] (by rfl) rfl rfl (by (try simp only [List.map_toArray, List.map_cons, List.map_nil]); first | done | rfl | (simp only [List.length_drop, List.length_take]; rfl)) ?_
          with_reducible refine (newsreelref44_ForFeed.calls kj3 a1_0 a1_1 a1_2 a1_3 a1_4 t393 t394 t395 t396 _ A45.out).mono ?_
          rintro e w56 ⟨rfl, hb⟩
          refine ⟨_, rfl, ?_⟩
          have n0_ := Aside0.mk (blk_below (g := gb326) (o := .cells #[.int .i64 a0_0, .int .i64 a0_1, .string a0_2, .string a0_3, .string a0_4, .int .i64 a0_5, .int .i64 a0_6, .int .i64 a0_7, .int .i64 a0_8, .bool a0_9, .int .i64 a0_10, .int .i64 a0_11, .int .i64 a0_12, .string a0_13, .int .i64 a0_14, .int .i64 a0_15, .string a0_16, .int .i64 a0_17, .int .i64 a0_18, .string a0_19] 23 (0, 0)) (sm_ BK326) hb)
          have n1_ := Aside0.mk (blk_below (g := gb327) (o := .cells #[.int .i64 a1_0, .string a1_1, .string a1_2, .int .i64 a1_3, .int .i64 a1_4] 25 (0, 0)) (sm_ BK327) hb)
          have n2_ := Aside0.mk (below_step (by repeat (with_reducible first | exact HB.out | apply below_alloc | apply pw_below_drewN | apply below_drew1 | refine below_set ?_ (Aside0.out (by assumption)))) hb)
          clear BK326
          clear BK327
          clear HB
          have BK326 := n0_
          have BK327 := n1_
          have HB := n2_
          clear n0_ n1_ n2_
          (try clear hb)
          (try clear hb2)
          (try clear hk)
          (try clear hi)
          refine hK.out _ _ ⟨(blk_cell BK326.out 0).trans rfl, (blk_cell BK326.out 1).trans rfl, (blk_cell BK326.out 2).trans rfl, (blk_cell BK326.out 3).trans rfl, (blk_cell BK326.out 4).trans rfl, (blk_cell BK326.out 5).trans rfl, (blk_cell BK326.out 6).trans rfl, (blk_cell BK326.out 7).trans rfl, (blk_cell BK326.out 8).trans rfl, (blk_cell BK326.out 9).trans rfl, (blk_cell BK326.out 10).trans rfl, (blk_cell BK326.out 11).trans rfl, (blk_cell BK326.out 12).trans rfl, (blk_cell BK326.out 13).trans rfl, (blk_cell BK326.out 14).trans rfl, (blk_cell BK326.out 15).trans rfl, (blk_cell BK326.out 16).trans rfl, (blk_cell BK326.out 17).trans rfl, (blk_cell BK326.out 18).trans rfl, (blk_cell BK326.out 19).trans rfl, (blk_cell BK327.out 0).trans rfl, (blk_cell BK327.out 1).trans rfl, (blk_cell BK327.out 2).trans rfl, (blk_cell BK327.out 3).trans rfl, (blk_cell BK327.out 4).trans rfl⟩ (fun hHeld => ?_)
          clear hK K
          refine norm_ (a' := ?_) ?_ ?_
          rotate_left
          ·show Act.put _ (some 40) _ = _
           simp only [Act.put, S_]
           rfl
          refine pure_ (i := 25) (N := some 41) (v := ?_) (a' := ?_) #[true, true, true, true, true, true, true, true, true, true, true, true, true, true, true, true, true, true, true, true, true, true, true, true, true, true, false, false, false, false, false, false, false, false, false, false, false, false, false, false] rfl rfl (any_of HT_.out (by kernel_rfl)) (fun _ _ _ h => h) (Or.inl ⟨by rfl, ?_⟩) ?_ ?_
          rotate_left
          ·intro w'
           go_simp
           with_reducible rfl
          rotate_left
          ·simp only [Act.put, S_]
           rfl
          refine pure_ (i := 26) (N := some 42) (v := ?_) (a' := ?_) #[true, true, true, true, true, true, true, true, true, true, true, true, true, true, true, true, true, true, true, true, true, true, true, true, true, true, true, false, false, false, false, false, false, false, false, false, false, false, false, false] rfl rfl (any_of HT_.out (by kernel_rfl)) (fun _ _ _ h => h) (Or.inl ⟨by rfl, ?_⟩) ?_ ?_
          rotate_left
          ·intro w'
           go_simp
           with_reducible rfl
          rotate_left
          ·simp only [Act.put, S_]
           rfl
          refine pure_ (i := 27) (N := some 43) (v := ?_) (a' := ?_) #[true, true, true, true, true, true, true, true, true, true, true, true, true, true, true, true, true, true, true, true, true, true, true, true, true, true, true, true, false, false, false, false, false, false, false, false, false, false, false, false] rfl rfl (any_of HT_.out (by kernel_rfl)) (fun _ _ _ h => h) (Or.inl ⟨by rfl, ?_⟩) ?_ ?_
          rotate_left
          ·intro w'
           go_simp
           with_reducible rfl
          rotate_left
          ·simp only [Act.put, S_]
           rfl
          refine pure_ (i := 29) (N := some 45) (v := ?_) (a' := ?_) #[true, true, true, true, true, true, true, true, true, true, true, true, true, true, true, true, true, true, true, true, true, true, true, true, true, true, true, true, false, true, false, false, false, false, false, false, false, false, false, false] rfl rfl (any_of HT_.out (by kernel_rfl)) (fun _ _ _ h => h) (Or.inl ⟨by rfl, ?_⟩) ?_ ?_
          rotate_left
          ·intro w'
           go_simp
           with_reducible rfl
          rotate_left
          ·simp only [Act.put, S_]
           rfl
          refine pure_ (i := 32) (N := some 48) (v := ?_) (a' := ?_) #[true, true, true, true, true, true, true, true, true, true, true, true, true, true, true, true, true, true, true, true, true, true, true, true, true, true, true, true, false, true, false, false, true, false, false, false, false, false, false, false] rfl rfl (any_of HT_.out (by kernel_rfl)) (fun _ _ _ h => h) (Or.inl ⟨by rfl, ?_⟩) ?_ ?_
          rotate_left
          ·intro w'
           go_simp
           with_reducible rfl
          rotate_left
          ·simp only [Act.put, S_]
           rfl
          refine take_ (i := 28) (N := some 44) (v := ?_) (a' := ?_) #[true, true, true, true, true, true, true, true, true, true, true, true, true, true, true, true, true, true, true, true, true, true, true, true, true, true, true, true, true, true, false, false, true, false, false, false, false, false, false, false] rfl rfl (take_ofW HT_.out HW_.out (by kernel_rfl)) (fun _ _ _ h => h) (Or.inl ⟨by rfl, ?_⟩) hHeld ?_ ?_
          rotate_left
          ·rintro w' ⟨s0, s1, s2, s3, s4, s5, s6, s7, s8, s9, s10, s11, s12, s13, s14, s15, s16, s17, s18, s19, s20, s21, s22, s23, s24⟩
           refine Hand.exec_load_big 23 (.tmp 3) ?ho_ ⟨gb326, 0, none⟩ ?hx_ [.int .i64 a0_0, .int .i64 a0_1, .string a0_2, .string a0_3, .string a0_4, .int .i64 a0_5, .int .i64 a0_6, .int .i64 a0_7, .int .i64 a0_8, .bool a0_9, .int .i64 a0_10, .int .i64 a0_11, .int .i64 a0_12, .string a0_13, .int .i64 a0_14, .int .i64 a0_15, .string a0_16, .int .i64 a0_17, .int .i64 a0_18, .string a0_19] desc23.choose ?hc_ desc23.choose_spec.1 desc23.choose_spec.2 ?hi_
           case ho_ => rfl
           case hx_ => rfl
           case hc_ => exact Hand.cc_first s0 (Hand.cc_cons (b := gb326) (o := 0) 1 s1 (Hand.cc_cons (b := gb326) (o := 0) 2 s2 (Hand.cc_cons (b := gb326) (o := 0) 3 s3 (Hand.cc_cons (b := gb326) (o := 0) 4 s4 (Hand.cc_cons (b := gb326) (o := 0) 5 s5 (Hand.cc_cons (b := gb326) (o := 0) 6 s6 (Hand.cc_cons (b := gb326) (o := 0) 7 s7 (Hand.cc_cons (b := gb326) (o := 0) 8 s8 (Hand.cc_cons (b := gb326) (o := 0) 9 s9 (Hand.cc_cons (b := gb326) (o := 0) 10 s10 (Hand.cc_cons (b := gb326) (o := 0) 11 s11 (Hand.cc_cons (b := gb326) (o := 0) 12 s12 (Hand.cc_cons (b := gb326) (o := 0) 13 s13 (Hand.cc_cons (b := gb326) (o := 0) 14 s14 (Hand.cc_cons (b := gb326) (o := 0) 15 s15 (Hand.cc_cons (b := gb326) (o := 0) 16 s16 (Hand.cc_cons (b := gb326) (o := 0) 17 s17 (Hand.cc_cons (b := gb326) (o := 0) 18 s18 (Hand.cc_cons (b := gb326) (o := 0) 19 s19 (Hand.cc_nil 20))))))))))))))))))))
           case hi_ => kernel_rfl
          rotate_left
          ·simp only [Act.put, S_]
           rfl
          refine take_ (i := 31) (N := some 47) (v := ?_) (a' := ?_) #[true, true, true, true, true, true, true, true, true, true, true, true, true, true, true, true, true, true, true, true, true, true, true, true, true, true, true, true, true, true, false, true, true, false, false, false, false, false, false, false] rfl rfl (take_ofW HT_.out HW_.out (by kernel_rfl)) (fun _ _ _ h => h) (Or.inl ⟨by rfl, ?_⟩) hHeld ?_ ?_
          rotate_left
          ·rintro w' ⟨s0, s1, s2, s3, s4, s5, s6, s7, s8, s9, s10, s11, s12, s13, s14, s15, s16, s17, s18, s19, s20, s21, s22, s23, s24⟩
           refine Hand.exec_load_big 23 (.tmp 3) ?ho_ ⟨gb326, 0, none⟩ ?hx_ [.int .i64 a0_0, .int .i64 a0_1, .string a0_2, .string a0_3, .string a0_4, .int .i64 a0_5, .int .i64 a0_6, .int .i64 a0_7, .int .i64 a0_8, .bool a0_9, .int .i64 a0_10, .int .i64 a0_11, .int .i64 a0_12, .string a0_13, .int .i64 a0_14, .int .i64 a0_15, .string a0_16, .int .i64 a0_17, .int .i64 a0_18, .string a0_19] desc23.choose ?hc_ desc23.choose_spec.1 desc23.choose_spec.2 ?hi_
           case ho_ => rfl
           case hx_ => rfl
           case hc_ => exact Hand.cc_first s0 (Hand.cc_cons (b := gb326) (o := 0) 1 s1 (Hand.cc_cons (b := gb326) (o := 0) 2 s2 (Hand.cc_cons (b := gb326) (o := 0) 3 s3 (Hand.cc_cons (b := gb326) (o := 0) 4 s4 (Hand.cc_cons (b := gb326) (o := 0) 5 s5 (Hand.cc_cons (b := gb326) (o := 0) 6 s6 (Hand.cc_cons (b := gb326) (o := 0) 7 s7 (Hand.cc_cons (b := gb326) (o := 0) 8 s8 (Hand.cc_cons (b := gb326) (o := 0) 9 s9 (Hand.cc_cons (b := gb326) (o := 0) 10 s10 (Hand.cc_cons (b := gb326) (o := 0) 11 s11 (Hand.cc_cons (b := gb326) (o := 0) 12 s12 (Hand.cc_cons (b := gb326) (o := 0) 13 s13 (Hand.cc_cons (b := gb326) (o := 0) 14 s14 (Hand.cc_cons (b := gb326) (o := 0) 15 s15 (Hand.cc_cons (b := gb326) (o := 0) 16 s16 (Hand.cc_cons (b := gb326) (o := 0) 17 s17 (Hand.cc_cons (b := gb326) (o := 0) 18 s18 (Hand.cc_cons (b := gb326) (o := 0) 19 s19 (Hand.cc_nil 20))))))))))))))))))))
           case hi_ => kernel_rfl
          rotate_left
          ·simp only [Act.put, S_]
           rfl
          refine one_ (i := 30) (N := some 46) #[true, true, true, true, true, true, true, true, true, true, true, true, true, true, true, true, true, true, true, true, true, true, true, true, true, true, true, true, true, true, true, true, true, false, false, false, false, false, false, false] rfl rfl (one_of HT_.out (by kernel_rfl)) (by decide) (fun K hK => ?_)
          refine goes_ Tryd.func13 (by kernel_rfl) rfl #[.agg #[.int .i64 a0_0, .int .i64 a0_1, .string a0_2, .string a0_3, .string a0_4, .int .i64 a0_5, .int .i64 a0_6, .int .i64 a0_7, .int .i64 a0_8, .bool a0_9, .int .i64 a0_10, .int .i64 a0_11, .int .i64 a0_12, .string a0_13, .int .i64 a0_14, .int .i64 a0_15, .string a0_16, .int .i64 a0_17, .int .i64 a0_18, .string a0_19], .int .i64 a2] (by rfl) rfl rfl (by (try simp only [List.map_toArray, List.map_cons, List.map_nil]); first | done | rfl | (simp only [List.length_drop, List.length_take]; rfl)) ?_
          with_reducible refine (plan_ForEp.calls kj3 a0_0 a0_1 a0_2 a0_3 a0_4 a0_5 a0_6 a0_7 a0_8 a0_9 a0_10 a0_11 a0_12 a0_13 a0_14 a0_15 a0_16 a0_17 a0_18 a0_19 a2 t397 t398 t399 t400 _ A47.out).mono ?_
          rintro e w57 ⟨rfl, hb⟩
          refine ⟨_, rfl, ?_⟩
          have n0_ := Aside0.mk (blk_below (g := gb326) (o := .cells #[.int .i64 a0_0, .int .i64 a0_1, .string a0_2, .string a0_3, .string a0_4, .int .i64 a0_5, .int .i64 a0_6, .int .i64 a0_7, .int .i64 a0_8, .bool a0_9, .int .i64 a0_10, .int .i64 a0_11, .int .i64 a0_12, .string a0_13, .int .i64 a0_14, .int .i64 a0_15, .string a0_16, .int .i64 a0_17, .int .i64 a0_18, .string a0_19] 23 (0, 0)) (sm_ BK326) hb)
          have n1_ := Aside0.mk (blk_below (g := gb327) (o := .cells #[.int .i64 a1_0, .string a1_1, .string a1_2, .int .i64 a1_3, .int .i64 a1_4] 25 (0, 0)) (sm_ BK327) hb)
          have n2_ := Aside0.mk (below_step (by repeat (with_reducible first | exact HB.out | apply below_alloc | apply pw_below_drewN | apply below_drew1 | refine below_set ?_ (Aside0.out (by assumption)))) hb)
          clear BK326
          clear BK327
          clear HB
          have BK326 := n0_
          have BK327 := n1_
          have HB := n2_
          clear n0_ n1_ n2_
          (try clear hb)
          (try clear hb2)
          (try clear hk)
          (try clear hi)
          refine hK.out _ _ ⟨(blk_cell BK326.out 0).trans rfl, (blk_cell BK326.out 1).trans rfl, (blk_cell BK326.out 2).trans rfl, (blk_cell BK326.out 3).trans rfl, (blk_cell BK326.out 4).trans rfl, (blk_cell BK326.out 5).trans rfl, (blk_cell BK326.out 6).trans rfl, (blk_cell BK326.out 7).trans rfl, (blk_cell BK326.out 8).trans rfl, (blk_cell BK326.out 9).trans rfl, (blk_cell BK326.out 10).trans rfl, (blk_cell BK326.out 11).trans rfl, (blk_cell BK326.out 12).trans rfl, (blk_cell BK326.out 13).trans rfl, (blk_cell BK326.out 14).trans rfl, (blk_cell BK326.out 15).trans rfl, (blk_cell BK326.out 16).trans rfl, (blk_cell BK326.out 17).trans rfl, (blk_cell BK326.out 18).trans rfl, (blk_cell BK326.out 19).trans rfl, (blk_cell BK327.out 0).trans rfl, (blk_cell BK327.out 1).trans rfl, (blk_cell BK327.out 2).trans rfl, (blk_cell BK327.out 3).trans rfl, (blk_cell BK327.out 4).trans rfl⟩ (fun hHeld => ?_)
          clear hK K
          refine norm_ (a' := ?_) ?_ ?_
          rotate_left
          ·show Act.put _ (some 46) _ = _
           simp only [Act.put, S_]
           rfl
          refine one_ (i := 33) (N := some 49) #[true, true, true, true, true, true, true, true, true, true, true, true, true, true, true, true, true, true, true, true, true, true, true, true, true, true, true, true, true, true, true, true, true, true, false, false, false, false, false, false] rfl rfl (one_of HT_.out (by kernel_rfl)) (by decide) (fun K hK => ?_)
          refine goes_ Tryd.func14 (by kernel_rfl) rfl #[.agg #[.int .i64 a0_0, .int .i64 a0_1, .string a0_2, .string a0_3, .string a0_4, .int .i64 a0_5, .int .i64 a0_6, .int .i64 a0_7, .int .i64 a0_8, .bool a0_9, .int .i64 a0_10, .int .i64 a0_11, .int .i64 a0_12, .string a0_13, .int .i64 a0_14, .int .i64 a0_15, .string a0_16, .int .i64 a0_17, .int .i64 a0_18, .string a0_19], .int .i64 a2] (by rfl) rfl rfl (by (try simp only [List.map_toArray, List.map_cons, List.map_nil]); first | done | rfl | (simp only [List.length_drop, List.length_take]; rfl)) ?_
          with_reducible refine (newsreelref44_ForEp.calls kj3 a0_0 a0_1 a0_2 a0_3 a0_4 a0_5 a0_6 a0_7 a0_8 a0_9 a0_10 a0_11 a0_12 a0_13 a0_14 a0_15 a0_16 a0_17 a0_18 a0_19 a2 t401 t402 t403 t404 _ A48.out).mono ?_
          rintro e w58 ⟨rfl, hb⟩
          refine ⟨_, rfl, ?_⟩
          have n0_ := Aside0.mk (blk_below (g := gb326) (o := .cells #[.int .i64 a0_0, .int .i64 a0_1, .string a0_2, .string a0_3, .string a0_4, .int .i64 a0_5, .int .i64 a0_6, .int .i64 a0_7, .int .i64 a0_8, .bool a0_9, .int .i64 a0_10, .int .i64 a0_11, .int .i64 a0_12, .string a0_13, .int .i64 a0_14, .int .i64 a0_15, .string a0_16, .int .i64 a0_17, .int .i64 a0_18, .string a0_19] 23 (0, 0)) (sm_ BK326) hb)
          have n1_ := Aside0.mk (blk_below (g := gb327) (o := .cells #[.int .i64 a1_0, .string a1_1, .string a1_2, .int .i64 a1_3, .int .i64 a1_4] 25 (0, 0)) (sm_ BK327) hb)
          have n2_ := Aside0.mk (below_step (by repeat (with_reducible first | exact HB.out | apply below_alloc | apply pw_below_drewN | apply below_drew1 | refine below_set ?_ (Aside0.out (by assumption)))) hb)
          clear BK326
          clear BK327
          clear HB
          have BK326 := n0_
          have BK327 := n1_
          have HB := n2_
          clear n0_ n1_ n2_
          (try clear hb)
          (try clear hb2)
          (try clear hk)
          (try clear hi)
          refine hK.out _ _ ⟨(blk_cell BK326.out 0).trans rfl, (blk_cell BK326.out 1).trans rfl, (blk_cell BK326.out 2).trans rfl, (blk_cell BK326.out 3).trans rfl, (blk_cell BK326.out 4).trans rfl, (blk_cell BK326.out 5).trans rfl, (blk_cell BK326.out 6).trans rfl, (blk_cell BK326.out 7).trans rfl, (blk_cell BK326.out 8).trans rfl, (blk_cell BK326.out 9).trans rfl, (blk_cell BK326.out 10).trans rfl, (blk_cell BK326.out 11).trans rfl, (blk_cell BK326.out 12).trans rfl, (blk_cell BK326.out 13).trans rfl, (blk_cell BK326.out 14).trans rfl, (blk_cell BK326.out 15).trans rfl, (blk_cell BK326.out 16).trans rfl, (blk_cell BK326.out 17).trans rfl, (blk_cell BK326.out 18).trans rfl, (blk_cell BK326.out 19).trans rfl, (blk_cell BK327.out 0).trans rfl, (blk_cell BK327.out 1).trans rfl, (blk_cell BK327.out 2).trans rfl, (blk_cell BK327.out 3).trans rfl, (blk_cell BK327.out 4).trans rfl⟩ (fun hHeld => ?_)
          clear hK K
          refine norm_ (a' := ?_) ?_ ?_
          rotate_left
          ·show Act.put _ (some 49) _ = _
           simp only [Act.put, S_]
           rfl
          refine pure_ (i := 34) (N := some 50) (v := ?_) (a' := ?_) #[true, true, true, true, true, true, true, true, true, true, true, true, true, true, true, true, true, true, true, true, true, true, true, true, true, true, true, true, true, true, true, true, true, true, true, false, false, false, false, false] rfl rfl (any_of HT_.out (by kernel_rfl)) (fun _ _ _ h => h) (Or.inl ⟨by rfl, ?_⟩) ?_ ?_
          rotate_left
          ·intro w'
           go_simp
           with_reducible rfl
          rotate_left
          ·simp only [Act.put, S_]
           rfl
          refine pure_ (i := 35) (N := some 51) (v := ?_) (a' := ?_) #[true, true, true, true, true, true, true, true, true, true, true, true, true, true, true, true, true, true, true, true, true, true, true, true, true, true, true, true, true, true, true, true, true, true, true, true, false, false, false, false] rfl rfl (any_of HT_.out (by kernel_rfl)) (fun _ _ _ h => h) (Or.inl ⟨by rfl, ?_⟩) ?_ ?_
          rotate_left
          ·intro w'
           go_simp
           with_reducible rfl
          rotate_left
          ·simp only [Act.put, S_]
           rfl
          refine pure_ (i := 36) (N := some 52) (v := ?_) (a' := ?_) #[true, true, true, true, true, true, true, true, true, true, true, true, true, true, true, true, true, true, true, true, true, true, true, true, true, true, true, true, true, true, true, true, true, true, true, true, true, false, false, false] rfl rfl (any_of HT_.out (by kernel_rfl)) (fun _ _ _ h => h) (Or.inl ⟨by rfl, ?_⟩) ?_ ?_
          rotate_left
          ·intro w'
           go_simp
           with_reducible rfl
          rotate_left
          ·simp only [Act.put, S_]
           rfl
          refine one_ (i := 37) (N := some 53) #[true, true, true, true, true, true, true, true, true, true, true, true, true, true, true, true, true, true, true, true, true, true, true, true, true, true, true, true, true, true, true, true, true, true, true, true, true, true, false, false] rfl rfl (one_of HT_.out (by kernel_rfl)) (by decide) (fun K hK => ?_)
          refine goes_ Tryd.func7 (by kernel_rfl) rfl #[] (by rfl) rfl rfl (by (try simp only [List.map_toArray, List.map_cons, List.map_nil]); first | done | rfl | (simp only [List.length_drop, List.length_take]; rfl)) ?_
          with_reducible refine (newsreellaw44_awake.calls kj3  t405 _ A50.out).mono ?_
          rintro e w59 ⟨rfl, hb⟩
          refine ⟨_, rfl, ?_⟩
          have n0_ := Aside0.mk (blk_below (g := gb326) (o := .cells #[.int .i64 a0_0, .int .i64 a0_1, .string a0_2, .string a0_3, .string a0_4, .int .i64 a0_5, .int .i64 a0_6, .int .i64 a0_7, .int .i64 a0_8, .bool a0_9, .int .i64 a0_10, .int .i64 a0_11, .int .i64 a0_12, .string a0_13, .int .i64 a0_14, .int .i64 a0_15, .string a0_16, .int .i64 a0_17, .int .i64 a0_18, .string a0_19] 23 (0, 0)) (sm_ BK326) hb)
          have n1_ := Aside0.mk (blk_below (g := gb327) (o := .cells #[.int .i64 a1_0, .string a1_1, .string a1_2, .int .i64 a1_3, .int .i64 a1_4] 25 (0, 0)) (sm_ BK327) hb)
          have n2_ := Aside0.mk (below_step (by repeat (with_reducible first | exact HB.out | apply below_alloc | apply pw_below_drewN | apply below_drew1 | refine below_set ?_ (Aside0.out (by assumption)))) hb)
          clear BK326
          clear BK327
          clear HB
          have BK326 := n0_
          have BK327 := n1_
          have HB := n2_
          clear n0_ n1_ n2_
          (try clear hb)
          (try clear hb2)
          (try clear hk)
          (try clear hi)
          refine hK.out _ _ ⟨(blk_cell BK326.out 0).trans rfl, (blk_cell BK326.out 1).trans rfl, (blk_cell BK326.out 2).trans rfl, (blk_cell BK326.out 3).trans rfl, (blk_cell BK326.out 4).trans rfl, (blk_cell BK326.out 5).trans rfl, (blk_cell BK326.out 6).trans rfl, (blk_cell BK326.out 7).trans rfl, (blk_cell BK326.out 8).trans rfl, (blk_cell BK326.out 9).trans rfl, (blk_cell BK326.out 10).trans rfl, (blk_cell BK326.out 11).trans rfl, (blk_cell BK326.out 12).trans rfl, (blk_cell BK326.out 13).trans rfl, (blk_cell BK326.out 14).trans rfl, (blk_cell BK326.out 15).trans rfl, (blk_cell BK326.out 16).trans rfl, (blk_cell BK326.out 17).trans rfl, (blk_cell BK326.out 18).trans rfl, (blk_cell BK326.out 19).trans rfl, (blk_cell BK327.out 0).trans rfl, (blk_cell BK327.out 1).trans rfl, (blk_cell BK327.out 2).trans rfl, (blk_cell BK327.out 3).trans rfl, (blk_cell BK327.out 4).trans rfl⟩ (fun hHeld => ?_)
          clear hK K
          refine norm_ (a' := ?_) ?_ ?_
          rotate_left
          ·show Act.put _ (some 53) _ = _
           simp only [Act.put, S_]
           rfl
          refine pure_ (i := 38) (N := some 54) (v := ?_) (a' := ?_) #[true, true, true, true, true, true, true, true, true, true, true, true, true, true, true, true, true, true, true, true, true, true, true, true, true, true, true, true, true, true, true, true, true, true, true, true, true, true, true, false] rfl rfl (any_of HT_.out (by kernel_rfl)) (fun _ _ _ h => h) (Or.inl ⟨by rfl, ?_⟩) ?_ ?_
          rotate_left
          ·intro w'
           go_simp
           with_reducible rfl
          rotate_left
          ·simp only [Act.put, S_]
           rfl
          refine pure_ (i := 39) (N := some 6) (v := ?_) (a' := ?_) #[true, true, true, true, true, true, true, true, true, true, true, true, true, true, true, true, true, true, true, true, true, true, true, true, true, true, true, true, true, true, true, true, true, true, true, true, true, true, true, true] rfl rfl (any_of HT_.out (by kernel_rfl)) (fun _ _ _ h => h) (Or.inl ⟨by rfl, ?_⟩) ?_ ?_
          rotate_left
          ·intro w'
           go_simp
           with_reducible rfl
          rotate_left
          ·simp only [Act.put, S_]
           rfl
          refine done_ (done_of HT_.out (by kernel_rfl)) ?_
          try go_wp2
          go_ret
          exact ⟨by first | rfl | (simp [errW_none, errW_some] <;> rfl) | (simp [*, errW_none, errW_some] <;> rfl), by repeat (with_reducible first | exact HB.out | apply below_alloc | apply pw_below_drewN | apply below_drew1 | refine below_set ?_ (Aside0.out (by assumption)))⟩
         ·as_aux_lemma =>
          rw [if_neg c49] at H
          have c49b0 : (t397.toList == t401.toList && (t398 == t402 && (t399.toList == t403.toList && (t400.toList == t404.toList)))) = false := by simpa using c49
          (try (have c49b1 : decide (t397.toList = t401.toList && (t398 == t402 && (t399.toList == t403.toList && (t400.toList == t404.toList)))) = false := by simpa using c49))
          (try (have c49b2 : (t397.toList == t401.toList && (t398 == t402 && (t399.toList == t403.toList && (t400.toList == t404.toList)))) = false := by simpa using c49))
          (try (have c49b3 : ¬ (t397.toList = t401.toList && (t398 == t402 && (t399.toList == t403.toList && (t400.toList == t404.toList)))) := by simpa using c49))
          clear c49
          exact absurd H (by simp)
        ·as_aux_lemma =>
         rw [if_neg c46] at H
         have c46b0 : (t389.toList == t393.toList && (t390 == t394 && (t391.toList == t395.toList && (t392.toList == t396.toList)))) = false := by simpa using c46
         (try (have c46b1 : decide (t389.toList = t393.toList && (t390 == t394 && (t391.toList == t395.toList && (t392.toList == t396.toList)))) = false := by simpa using c46))
         (try (have c46b2 : (t389.toList == t393.toList && (t390 == t394 && (t391.toList == t395.toList && (t392.toList == t396.toList)))) = false := by simpa using c46))
         (try (have c46b3 : ¬ (t389.toList = t393.toList && (t390 == t394 && (t391.toList == t395.toList && (t392.toList == t396.toList)))) := by simpa using c46))
         clear c46
         exact absurd H (by simp)
     ·as_aux_lemma =>
      rw [if_neg c23] at H
      have c23b0 : (t331 == t351 && (t332 == t352 && (t333.toList == t353.toList && (t334.toList == t354.toList && (t335.toList == t355.toList && (t336 == t356 && (t337 == t357 && (t338 == t358 && (t339 == t359 && (t340 == t360 && (t341 == t361 && (t342 == t362 && (t343 == t363 && (t344.toList == t364.toList && (t345 == t365 && (t346 == t366 && (t347.toList == t367.toList && (t348 == t368 && (t349 == t369 && (t350.toList == t370.toList)))))))))))))))))))) = false := by simpa using c23
      (try (have c23b1 : decide (t331 = t351 && (t332 == t352 && (t333.toList == t353.toList && (t334.toList == t354.toList && (t335.toList == t355.toList && (t336 == t356 && (t337 == t357 && (t338 == t358 && (t339 == t359 && (t340 == t360 && (t341 == t361 && (t342 == t362 && (t343 == t363 && (t344.toList == t364.toList && (t345 == t365 && (t346 == t366 && (t347.toList == t367.toList && (t348 == t368 && (t349 == t369 && (t350.toList == t370.toList)))))))))))))))))))) = false := by simpa using c23))
      (try (have c23b2 : (t331 == t351 && (t332 == t352 && (t333.toList == t353.toList && (t334.toList == t354.toList && (t335.toList == t355.toList && (t336 == t356 && (t337 == t357 && (t338 == t358 && (t339 == t359 && (t340 == t360 && (t341 == t361 && (t342 == t362 && (t343 == t363 && (t344.toList == t364.toList && (t345 == t365 && (t346 == t366 && (t347.toList == t367.toList && (t348 == t368 && (t349 == t369 && (t350.toList == t370.toList)))))))))))))))))))) = false := by simpa using c23))
      (try (have c23b3 : ¬ (t331 = t351 && (t332 == t352 && (t333.toList == t353.toList && (t334.toList == t354.toList && (t335.toList == t355.toList && (t336 == t356 && (t337 == t357 && (t338 == t358 && (t339 == t359 && (t340 == t360 && (t341 == t361 && (t342 == t362 && (t343 == t363 && (t344.toList == t364.toList && (t345 == t365 && (t346 == t366 && (t347.toList == t367.toList && (t348 == t368 && (t349 == t369 && (t350.toList == t370.toList)))))))))))))))))))) := by simpa using c23))
      clear c23
      exact absurd H (by simp)

def gd23 (x : S23) : Prop := ((Lit.int .i64 x.f0).wf = true) ∧ ((Lit.int .i64 x.f1).wf = true) ∧ (x.f2.size ≤ 140737488351232) ∧ (x.f3.size ≤ 140737488351232) ∧ (x.f4.size ≤ 140737488351232) ∧ ((Lit.int .i64 x.f5).wf = true) ∧ ((Lit.int .i64 x.f6).wf = true) ∧ ((Lit.int .i64 x.f7).wf = true) ∧ ((Lit.int .i64 x.f8).wf = true) ∧ (True) ∧ ((Lit.int .i64 x.f10).wf = true) ∧ ((Lit.int .i64 x.f11).wf = true) ∧ ((Lit.int .i64 x.f12).wf = true) ∧ (x.f13.size ≤ 140737488351232) ∧ ((Lit.int .i64 x.f14).wf = true) ∧ ((Lit.int .i64 x.f15).wf = true) ∧ (x.f16.size ≤ 140737488351232) ∧ ((Lit.int .i64 x.f17).wf = true) ∧ ((Lit.int .i64 x.f18).wf = true) ∧ (x.f19.size ≤ 140737488351232)
def gd25 (x : S25) : Prop := ((Lit.int .i64 x.f0).wf = true) ∧ (x.f1.size ≤ 140737488351232) ∧ (x.f2.size ≤ 140737488351232) ∧ ((Lit.int .i64 x.f3).wf = true) ∧ ((Lit.int .i64 x.f4).wf = true)
/-- THE ONE PURE STATEMENT of newsreellaw44_PlanTells. -/
def newsreellaw44_PlanTells.Pure : Prop := ∀ (x0 : S23) (x1 : S25) (x2 : Int), (gd23 x0) → (gd25 x1) → ((Lit.int .i64 x2).wf = true) → ∃ k, newsreellaw44_PlanTells.f k x0.f0 x0.f1 x0.f2 x0.f3 x0.f4 x0.f5 x0.f6 x0.f7 x0.f8 x0.f9 x0.f10 x0.f11 x0.f12 x0.f13 x0.f14 x0.f15 x0.f16 x0.f17 x0.f18 x0.f19 x1.f0 x1.f1 x1.f2 x1.f3 x1.f4 x2 = some true

end Go.Proofs.YtpmcogaklhlakabDoor.PPlanTells
