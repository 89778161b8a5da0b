-- MADE BY xprint.py of this repository, out of the seat's translation, by the kit's print and this repository's hands
import Derived.Test.YtbncdnkleodciabPEtagTellsx0
import Derived.Test.YtbncdnkleodciabPEtagTellsx1
import Derived.Test.YtbncdnkleodciabPEtagTellsx2
import Derived.Test.YtbncdnkleodciabPEtagTellsx3
import Derived.Test.YtbncdnkleodciabPEtagTellsx4
namespace Go.Proofs.Ytbncdnkleodciab.PEtagTells
open Go.RowKit Go.Proofs.YtbncdnkleodciabW.PrintWords Go.Proofs.YtbncdnkleodciabW.PrintLast Go.Proofs.YtbncdnkleodciabW.PrintMore
attribute [local go_sem] max2_int min2_int max_two min_two max_three min_three max_four min_four   -- for this text's walks alone
set_option linter.unusedVariables false
set_option linter.unusedSimpArgs false

attribute [local go_sem high] eqA47
/-! ### newsreellaw27_EtagTells: function 6 -/
namespace newsreellaw27_EtagTells
abbrev m0_ : Array Bool := #[false, false, false, false, false, false, false, false, false, false, false, false, false, false, false, false, false, false, false, false, false, false, false, false, false, false, false, false, false, false, false, false, false, false, false, false, false, false, false, false, false, false, false, false, false, false, false]
abbrev m1_ : Array Bool := #[true, false, false, false, false, false, false, false, false, false, false, false, false, false, false, false, false, false, false, false, false, false, false, false, false, false, false, false, false, false, false, false, false, false, false, false, false, false, false, false, false, false, false, false, false, false, false]
abbrev m2_ : Array Bool := #[true, false, true, false, false, false, false, false, false, false, false, false, false, false, false, false, false, false, false, false, false, false, false, false, false, false, false, false, false, false, false, false, false, false, false, false, false, false, false, false, false, false, false, false, false, false, false]
abbrev m3_ : Array Bool := #[true, true, true, false, false, false, false, false, false, false, false, false, false, false, false, false, false, false, false, false, false, false, false, false, false, false, false, false, false, false, false, false, false, false, false, false, false, false, false, false, false, false, false, false, false, false, false]
abbrev m4_ : Array Bool := #[true, true, true, true, false, false, false, false, false, false, false, false, false, false, false, false, false, false, false, false, false, false, false, false, false, false, false, false, false, false, false, false, false, false, false, false, false, false, false, false, false, false, false, false, false, false, false]
abbrev m5_ : Array Bool := #[true, true, true, true, true, false, false, false, false, false, false, false, false, false, false, false, false, false, false, false, false, false, false, false, false, false, false, false, false, false, false, false, false, false, false, false, false, false, false, false, false, false, false, false, false, false, false]
abbrev m6_ : Array Bool := #[true, true, true, true, true, true, false, false, false, false, false, false, false, false, false, false, false, false, false, false, false, false, false, false, false, false, false, false, false, false, false, false, false, false, false, false, false, false, false, false, false, false, false, false, false, false, false]
abbrev m7_ : Array Bool := #[true, true, true, true, true, true, true, false, false, false, false, false, false, false, false, false, false, false, false, false, false, false, false, false, false, false, false, false, false, false, false, false, false, false, false, false, false, false, false, false, false, false, false, false, false, false, false]
abbrev m8_ : Array Bool := #[true, true, true, true, true, true, true, true, false, false, false, false, false, false, false, false, false, false, false, false, false, false, false, false, false, false, false, false, false, false, false, false, false, false, false, false, false, false, false, false, false, false, false, false, false, false, false]
abbrev m9_ : Array Bool := #[true, true, true, true, true, true, true, true, true, false, false, false, false, false, false, false, false, false, false, false, false, false, false, false, false, false, false, false, false, false, false, false, false, false, false, false, false, false, false, false, false, false, false, false, false, false, false]
abbrev m10_ : Array Bool := #[true, true, true, true, true, true, true, true, true, true, false, false, false, false, false, false, false, false, false, false, false, false, false, false, false, false, false, false, false, false, false, false, false, false, false, false, false, false, false, false, false, false, false, false, false, false, false]
abbrev m11_ : Array Bool := #[true, true, true, true, true, true, true, true, true, true, true, false, false, false, false, false, false, false, false, false, false, false, false, false, false, false, false, false, false, false, false, false, false, false, false, false, false, false, false, false, false, false, false, false, false, false, false]
abbrev m12_ : Array Bool := #[true, true, true, true, true, true, true, true, true, true, true, true, false, false, false, false, false, false, false, false, false, false, false, false, false, false, false, false, false, false, false, false, false, false, false, false, false, false, false, false, false, false, false, false, false, false, false]
abbrev m13_ : Array Bool := #[true, true, true, true, true, true, true, true, true, true, true, true, true, false, false, false, false, false, false, false, false, false, false, false, false, false, false, false, false, false, false, false, false, false, false, false, false, false, false, false, false, false, false, false, false, false, false]
abbrev m14_ : Array Bool := #[true, true, true, true, true, true, true, true, true, true, true, true, true, true, false, false, false, false, false, false, false, false, false, false, false, false, false, false, false, false, false, false, false, false, false, false, false, false, false, false, false, false, false, false, false, false, false]
abbrev m15_ : Array Bool := #[true, true, true, true, true, true, true, true, true, true, true, true, true, true, true, false, false, false, false, false, false, false, false, false, false, false, false, false, false, false, false, false, false, false, false, false, false, false, false, false, false, false, false, false, false, false, false]
abbrev m16_ : Array Bool := #[true, true, true, true, true, true, true, true, true, true, true, true, true, true, true, true, false, false, false, false, false, false, false, false, false, false, false, false, false, false, false, false, false, false, false, false, false, false, false, false, false, false, false, false, false, false, false]
abbrev m17_ : Array Bool := #[true, true, true, true, true, true, true, true, true, true, true, true, true, true, true, true, true, false, false, false, false, false, false, false, false, false, false, false, false, false, false, false, false, false, false, false, false, false, false, false, false, false, false, false, false, false, false]
abbrev m18_ : Array Bool := #[true, true, true, true, true, true, true, true, true, true, true, true, true, true, true, true, true, true, false, false, false, false, false, false, false, false, false, false, false, false, false, false, false, false, false, false, false, false, false, false, false, false, false, false, false, false, false]
abbrev m19_ : Array Bool := #[true, true, true, true, true, true, true, true, true, true, true, true, true, true, true, true, true, true, true, false, false, false, false, false, false, false, false, false, false, false, false, false, false, false, false, false, false, false, false, false, false, false, false, false, false, false, false]
abbrev m20_ : Array Bool := #[true, true, true, true, true, true, true, true, true, true, true, true, true, true, true, true, true, true, true, true, false, false, false, false, false, false, false, false, false, false, false, false, false, false, false, false, false, false, false, false, false, false, false, false, false, false, false]
abbrev m21_ : Array Bool := #[true, true, true, true, true, true, true, true, true, true, true, true, true, true, true, true, true, true, true, true, true, false, false, false, false, false, false, false, false, false, false, false, false, false, false, false, false, false, false, false, false, false, false, false, false, false, false]
abbrev m22_ : Array Bool := #[true, true, true, true, true, true, true, true, true, true, true, true, true, true, true, true, true, true, true, true, true, true, false, false, false, false, false, false, false, false, false, false, false, false, false, false, false, false, false, false, false, false, false, false, false, false, false]
abbrev m23_ : Array Bool := #[true, true, true, true, true, true, true, true, true, true, true, true, true, true, true, true, true, true, true, true, true, true, true, false, false, false, false, false, false, false, false, false, false, false, false, false, false, false, false, false, false, false, false, false, false, false, false]
abbrev m24_ : Array Bool := #[true, true, true, true, true, true, true, true, true, true, true, true, true, true, true, true, true, true, true, true, true, true, true, true, false, false, false, false, false, false, false, false, false, false, false, false, false, false, false, false, false, false, false, false, false, false, false]
abbrev m25_ : Array Bool := #[true, true, true, true, true, true, true, true, true, true, true, true, true, true, true, true, true, true, true, true, true, true, true, true, true, false, false, false, false, false, false, false, false, false, false, false, false, false, false, false, false, false, false, false, false, false, false]
abbrev m26_ : Array Bool := #[true, true, true, true, true, true, true, true, true, true, true, true, true, true, true, true, true, true, true, true, true, true, true, true, true, true, false, false, false, false, false, false, false, false, false, false, false, false, false, false, false, false, false, false, false, false, false]
abbrev m27_ : Array Bool := #[true, true, true, true, true, true, true, true, true, true, true, true, true, true, true, true, true, true, true, true, true, true, true, true, true, true, true, false, false, false, false, false, false, false, false, false, false, false, false, false, false, false, false, false, false, false, false]
abbrev m28_ : Array Bool := #[true, true, true, true, true, true, true, true, true, true, true, true, true, true, true, true, true, true, true, true, true, true, true, true, true, true, true, true, false, false, false, false, false, false, false, false, false, false, false, false, false, false, false, false, false, false, false]
abbrev m29_ : Array Bool := #[true, true, true, true, true, true, true, true, true, true, true, true, true, true, true, true, true, true, true, true, true, true, true, true, true, true, true, true, false, true, false, false, false, false, false, false, false, false, false, false, false, false, false, false, false, false, false]
abbrev m30_ : Array Bool := #[true, true, true, true, true, true, true, true, true, true, true, true, true, true, true, true, true, true, true, true, true, true, true, true, true, true, true, true, false, true, true, false, false, false, false, false, false, false, false, false, false, false, false, false, false, false, false]
abbrev m31_ : Array Bool := #[true, true, true, true, true, true, true, true, true, true, true, true, true, true, true, true, true, true, true, true, true, true, true, true, true, true, true, true, true, false, false, false, false, false, false, false, false, false, false, false, false, false, false, false, false, false, false]
abbrev m32_ : Array Bool := #[true, true, true, true, true, true, true, true, true, true, true, true, true, true, true, true, true, true, true, true, true, true, true, true, true, true, true, true, true, true, false, false, false, false, false, false, false, false, false, false, false, false, false, false, false, false, false]
abbrev m33_ : Array Bool := #[true, true, true, true, true, true, true, true, true, true, true, true, true, true, true, true, true, true, true, true, true, true, true, true, true, true, true, true, true, true, true, false, false, false, false, false, false, false, false, false, false, false, false, false, false, false, false]
abbrev m34_ : Array Bool := #[true, true, true, true, true, true, true, true, true, true, true, true, true, true, true, true, true, true, true, true, true, true, true, true, true, true, true, true, true, true, true, true, false, false, false, false, false, false, false, false, false, false, false, false, false, false, false]
abbrev m35_ : Array Bool := #[true, true, true, true, true, true, true, true, true, true, true, true, true, true, true, true, true, true, true, true, true, true, true, true, true, true, true, true, true, true, true, true, true, false, false, false, false, false, false, false, false, false, false, false, false, false, false]
abbrev m36_ : Array Bool := #[true, true, true, true, true, true, true, true, true, true, true, true, true, true, true, true, true, true, true, true, true, true, true, true, true, true, true, true, true, true, true, true, true, true, false, false, false, false, false, false, false, false, false, false, false, false, false]
abbrev m37_ : Array Bool := #[true, true, true, true, true, true, true, true, true, true, true, true, true, true, true, true, true, true, true, true, true, true, true, true, true, true, true, true, true, true, true, true, true, true, true, false, false, false, false, false, false, false, false, false, false, false, false]
abbrev m38_ : Array Bool := #[true, true, true, true, true, true, true, true, true, true, true, true, true, true, true, true, true, true, true, true, true, true, true, true, true, true, true, true, true, true, true, true, true, true, true, true, false, false, false, false, false, false, false, false, false, false, false]
abbrev m39_ : Array Bool := #[true, true, true, true, true, true, true, true, true, true, true, true, true, true, true, true, true, true, true, true, true, true, true, true, true, true, true, true, true, true, true, true, true, true, true, true, true, false, false, false, false, false, false, false, false, false, false]
abbrev m40_ : Array Bool := #[true, true, true, true, true, true, true, true, true, true, true, true, true, true, true, true, true, true, true, true, true, true, true, true, true, true, true, true, true, true, true, true, true, true, true, true, true, false, true, false, false, false, false, false, false, false, false]
abbrev m41_ : Array Bool := #[true, true, true, true, true, true, true, true, true, true, true, true, true, true, true, true, true, true, true, true, true, true, true, true, true, true, true, true, true, true, true, true, true, true, true, true, true, false, true, true, false, false, false, false, false, false, false]
abbrev m42_ : Array Bool := #[true, true, true, true, true, true, true, true, true, true, true, true, true, true, true, true, true, true, true, true, true, true, true, true, true, true, true, true, true, true, true, true, true, true, true, true, true, true, false, false, false, false, false, false, false, false, false]
abbrev m43_ : Array Bool := #[true, true, true, true, true, true, true, true, true, true, true, true, true, true, true, true, true, true, true, true, true, true, true, true, true, true, true, true, true, true, true, true, true, true, true, true, true, true, true, false, false, false, false, false, false, false, false]
abbrev m44_ : Array Bool := #[true, true, true, true, true, true, true, true, true, true, true, true, true, true, true, true, true, true, true, true, true, true, true, true, true, true, true, true, true, true, true, true, true, true, true, true, true, true, true, true, false, false, false, false, false, false, false]
abbrev m45_ : Array Bool := #[true, true, true, true, true, true, true, true, true, true, true, true, true, true, true, true, true, true, true, true, true, true, true, true, true, true, true, true, true, true, true, true, true, true, true, true, true, true, true, true, true, false, false, false, false, false, false]
abbrev m46_ : Array Bool := #[true, true, true, true, true, true, true, true, true, true, true, true, true, true, true, true, true, true, true, true, true, true, true, true, true, true, true, true, true, true, true, true, true, true, true, true, true, true, true, true, true, true, false, false, false, false, false]
abbrev m47_ : Array Bool := #[true, true, true, true, true, true, true, true, true, true, true, true, true, true, true, true, true, true, true, true, true, true, true, true, true, true, true, true, true, true, true, true, true, true, true, true, true, true, true, true, true, true, true, false, false, false, false]
abbrev m48_ : Array Bool := #[true, true, true, true, true, true, true, true, true, true, true, true, true, true, true, true, true, true, true, true, true, true, true, true, true, true, true, true, true, true, true, true, true, true, true, true, true, true, true, true, true, true, true, true, false, false, false]
abbrev m49_ : Array Bool := #[true, true, true, true, true, true, true, true, true, true, true, true, true, true, true, true, true, true, true, true, true, true, true, true, true, true, true, true, true, true, true, true, true, true, true, true, true, true, true, true, true, true, true, true, true, false, false]
abbrev m50_ : Array Bool := #[true, true, true, true, true, true, true, true, true, true, true, true, true, true, true, true, true, true, true, true, true, true, true, true, true, true, true, true, true, true, true, true, true, true, true, true, true, true, true, true, true, true, true, true, true, true, false]
abbrev m51_ : Array Bool := #[true, true, true, true, true, true, true, true, true, true, true, true, true, true, true, true, true, true, true, true, true, true, true, true, true, true, true, true, true, true, true, true, true, true, true, true, true, true, true, true, true, true, true, true, true, true, true]
end newsreellaw27_EtagTells
open newsreellaw27_EtagTells Go.Proofs.Ytbncdnkleodciab.Hand
def newsreellaw27_EtagTells.j0 : Nat → ByteArray → ByteArray → Bool → Bool → ByteArray → Option (Bool)
  | 0, _, _, _, _, _ => none
  | k + 1, x1, x2, x28, x183000, x183001 => if x28 = true then ((newsreellaw27_awake.f k).bind fun t183 => (some t183)) else ((etag_Put.f k x183000 x183001).bind fun bt184 => ((newsreelref27_Put.f k x183000 x183001).bind fun bt186 => ((etag_Get.f k x1).bind fun bt188 => ((newsreelref27_Get.f k x1).bind fun bt192 => ((etag_Right.f k x183000 x183001).bind fun t196 => ((newsreelref27_Right.f k x183000 x183001).bind fun t197 => (if (t196 == t197) = true then (if bt184.1.toList = bt186.1.toList then (if bt184.2 = bt186.2 then (if (bt188.1 == bt192.1 && (bt188.2.1.toList == bt192.2.1.toList)) = true then (if bt188.2.2 = bt192.2.2 then ((etag_Strong.f k x1 x2).bind fun t198 => ((newsreelref27_Strong.f k x1 x2).bind fun t199 => (if (t198 == t199) = true then ((etag_Weak.f k x1 x2).bind fun t200 => ((newsreelref27_Weak.f k x1 x2).bind fun t201 => (if (t200 == t201) = true then ((newsreellaw27_awake.f k).bind fun t202 => (some t202)) else (some false)))) else (some false)))) else (some false)) else (some false)) else (some false)) else (some false)) else (some false))))))))
def newsreellaw27_EtagTells.f (k : Nat) (a0_0 : Bool) (a0_1 : ByteArray) (a1 : ByteArray) (a2 : ByteArray) : Option (Bool) := if (a0_1.size : Int) > 300 then (newsreellaw27_EtagTells.j0 k a1 a2 true a0_0 a0_1) else (if (a1.size : Int) > 300 then (newsreellaw27_EtagTells.j0 k a1 a2 true a0_0 a0_1) else (newsreellaw27_EtagTells.j0 k a1 a2 (decide ((a2.size : Int) > 300)) a0_0 a0_1))
theorem newsreellaw27_EtagTells.mono_l : ∀ k, (∀ y0 y1 y2 y3 y4, LeO (newsreellaw27_EtagTells.j0 k y0 y1 y2 y3 y4) (newsreellaw27_EtagTells.j0 (k + 1) y0 y1 y2 y3 y4))
  | 0 => fun _ _ _ _ _ r h => by simp [newsreellaw27_EtagTells.j0] at h
  | k + 1 => by
   have ih0 := newsreellaw27_EtagTells.mono_l k
   ·intro y0 y1 y2 y3 y4
    unfold newsreellaw27_EtagTells.j0
    repeat' first
    | (with_reducible exact ih0 _ _ _ _ _)
    | (with_reducible exact etag_Get.mono _ _)
    | (with_reducible exact etag_Put.mono _ _ _)
    | (with_reducible exact etag_Right.mono _ _ _)
    | (with_reducible exact etag_Strong.mono _ _ _)
    | (with_reducible exact etag_Weak.mono _ _ _)
    | (with_reducible exact newsreellaw27_awake.mono _)
    | (with_reducible exact newsreelref27_Get.mono _ _)
    | (with_reducible exact newsreelref27_Put.mono _ _ _)
    | (with_reducible exact newsreelref27_Right.mono _ _ _)
    | (with_reducible exact newsreelref27_Strong.mono _ _ _)
    | (with_reducible exact newsreelref27_Weak.mono _ _ _)
    | (with_reducible exact LeO.refl _)
    | (with_reducible exact LeO.none _)
    | (with_reducible refine LeO.ite ?_ ?_)
    | (with_reducible refine LeO.bind ?_ (fun _ => ?_))
    | exact ih0 _ _ _ _ _
    | exact etag_Get.mono _ _
    | exact etag_Put.mono _ _ _
    | exact etag_Right.mono _ _ _
    | exact etag_Strong.mono _ _ _
    | exact etag_Weak.mono _ _ _
    | exact newsreellaw27_awake.mono _
    | exact newsreelref27_Get.mono _ _
    | exact newsreelref27_Put.mono _ _ _
    | exact newsreelref27_Right.mono _ _ _
    | exact newsreelref27_Strong.mono _ _ _
    | exact newsreelref27_Weak.mono _ _ _
    | exact LeO.none _
    | refine LeO.ite ?_ ?_
    | refine LeO.bind ?_ (fun _ => ?_)
theorem newsreellaw27_EtagTells.mono : ∀ a0 a1 a2 a3 k, LeO (newsreellaw27_EtagTells.f k a0 a1 a2 a3) (newsreellaw27_EtagTells.f (k + 1) a0 a1 a2 a3) := by
  intro a0 a1 a2 a3 k
  have ih0 := newsreellaw27_EtagTells.mono_l k
  unfold newsreellaw27_EtagTells.f
  repeat' first
    | (with_reducible exact ih0 _ _ _ _ _)
    | (with_reducible exact etag_Get.mono _ _)
    | (with_reducible exact etag_Put.mono _ _ _)
    | (with_reducible exact etag_Right.mono _ _ _)
    | (with_reducible exact etag_Strong.mono _ _ _)
    | (with_reducible exact etag_Weak.mono _ _ _)
    | (with_reducible exact newsreellaw27_awake.mono _)
    | (with_reducible exact newsreelref27_Get.mono _ _)
    | (with_reducible exact newsreelref27_Put.mono _ _ _)
    | (with_reducible exact newsreelref27_Right.mono _ _ _)
    | (with_reducible exact newsreelref27_Strong.mono _ _ _)
    | (with_reducible exact newsreelref27_Weak.mono _ _ _)
    | (with_reducible exact LeO.refl _)
    | (with_reducible exact LeO.none _)
    | (with_reducible refine LeO.ite ?_ ?_)
    | (with_reducible refine LeO.bind ?_ (fun _ => ?_))
    | exact ih0 _ _ _ _ _
    | exact etag_Get.mono _ _
    | exact etag_Put.mono _ _ _
    | exact etag_Right.mono _ _ _
    | exact etag_Strong.mono _ _ _
    | exact etag_Weak.mono _ _ _
    | exact newsreellaw27_awake.mono _
    | exact newsreelref27_Get.mono _ _
    | exact newsreelref27_Put.mono _ _ _
    | exact newsreelref27_Right.mono _ _ _
    | exact newsreelref27_Strong.mono _ _ _
    | exact newsreelref27_Weak.mono _ _ _
    | exact LeO.none _
    | refine LeO.ite ?_ ?_
    | refine LeO.bind ?_ (fun _ => ?_)
def newsreellaw27_EtagTells.T7 : Bool × List (List Nat × List Nat) := (true, [([], []), ([0], [0]), ([], []), ([2, 1], [2]), ([1, 3], [1, 3]), ([4, 3], [4]), ([5], [5]), ([5], [5]), ([6, 7, 5], [5, 6, 7]), ([5, 8], [5, 8]), ([9, 5], [9]), ([10], [10]), ([10], [10]), ([11, 12, 10], [10, 11, 12]), ([10, 13], [10, 13]), ([14, 10], [14]), ([15], [15]), ([15], [15]), ([16, 17, 15], [15, 16, 17]), ([15, 18], [15, 18]), ([19, 15], [19]), ([20], [20]), ([20], [20]), ([21, 22, 20], [20, 21, 22]), ([20, 23], [20, 23]), ([24, 20], [24]), ([25], [25]), ([25], [25]), ([26, 27, 25, 25], [25, 26, 27]), ([25], [25]), ([25], [25]), ([29, 30, 28, 25], [25, 29, 30]), ([28, 31, 25], [25, 28, 31]), ([25, 32], [25, 32]), ([33, 31], [33]), ([34], [34]), ([34], [34]), ([35, 36, 34, 34], [34, 35, 36]), ([34], [34]), ([34], [34]), ([38, 39, 37, 34], [34, 38, 39]), ([37, 40, 34], [34, 37, 40]), ([34, 41], [34, 41]), ([42, 40], [42]), ([43, 43], [43]), ([43, 44], [43, 44]), ([45, 44, 0, 1, 2, 3, 4, 5, 6, 7, 8, 9, 10, 11, 12, 13, 14, 15, 16, 17, 18, 19, 20, 21, 22, 23, 24, 25, 26, 27, 28, 29, 30, 31, 32, 33, 34, 35, 36, 37, 38, 39, 40, 41, 42, 43, 44, 45], [45])])
def newsreellaw27_EtagTells.B7 : List Nat := [0, 1, 0, 7, 15, 31, 63, 63, 255, 511, 1023, 2047, 2047, 8191, 16383, 32767, 65535, 65535, 262143, 524287, 1048575, 2097151, 2097151, 8388607, 16777215, 33554431, 67108863, 67108863, 268435455, 67108863, 67108863, 2147483647, 4294967295, 8589934591, 17179869183, 34359738367, 34359738367, 137438953471, 34359738367, 34359738367, 1099511627775, 2199023255551, 4398046511103, 8796093022207, 17592186044415, 35184372088831, 70368744177663]
theorem newsreellaw27_EtagTells.tab7 : rtab .any (opsOf Try.f6 7) = newsreellaw27_EtagTells.T7 := by kernel_rfl
theorem newsreellaw27_EtagTells.bits7 : waitsOk newsreellaw27_EtagTells.T7.2 newsreellaw27_EtagTells.B7 = true := by kernel_rfl
set_option maxHeartbeats 8000000 in
set_option maxRecDepth 100000 in
theorem newsreellaw27_EtagTells.calls (k : Nat) (a0_0 : Bool) (a0_1 : ByteArray) (a1 : ByteArray) (a2 : ByteArray) (r : Bool) (w : World) (h : newsreellaw27_EtagTells.f k a0_0 a0_1 a1 a2 = some r) :
   Calls Try.prog 6 #[.agg #[.bool a0_0, .string a0_1], .string a1, .string a2] w fun e w' => e = .returned (.bool r) ∧ Below w.heap.size w w' := by
  have hu47 := Try.underlying47
  have HB := Aside0.mk (Below.refl w.heap.size w)
  have H : (if (a0_1.size : Int) > 300 then (newsreellaw27_EtagTells.j0 k a1 a2 true a0_0 a0_1) else (if (a1.size : Int) > 300 then (newsreellaw27_EtagTells.j0 k a1 a2 true a0_0 a0_1) else (newsreellaw27_EtagTells.j0 k a1 a2 (decide ((a2.size : Int) > 300)) a0_0 a0_1))) = some r := h
  clear h
  have HC4 := Aside0.mk H
  clear H
  go_enter Try.func6, Try.ntmps6
  go_upto_region 1 with (first | ((with_reducible refine gate_dst (N := 3) rfl ?_); (try (refine gate_guard (by rfl) ?_; dsimp only)); refine box_event ?hg (N := 3) ?hd (cs := #[.bool a0_0, .string a0_1]) (t := 47) ?hr ?_; (case hd => rfl); (case hg => rfl); (case hr => first | (go_simp; done) | (go_simp; rfl)); intro gb182 hg w5 hbox hb; have n0_ := Aside0.mk (below_step (by repeat (first | (with_reducible first | exact HB.out | apply below_alloc | apply pw_below_drewN | apply below_drew1) | exact HB.out)) hb); have n1_ := Aside0.mk (hbox); have n2_ := Aside0.mk ((by rw [hg]; exact (below_size (by repeat (first | (with_reducible first | exact HB.out | apply below_alloc | apply pw_below_drewN | apply below_drew1) | exact HB.out))) : w.heap.size ≤ gb182)); have n3_ := Aside0.mk ((by rw [hg]; exact (below_size (by repeat (first | (with_reducible first | exact HB.out | apply below_alloc | apply pw_below_drewN | apply below_drew1) | exact HB.out))) : w.heap.size ≤ gb182)); clear HB; have HB := n0_; have BK182 := n1_; have GW182 := n2_; have GE182 := n3_; clear n0_ n1_ n2_ n3_; clear hb hbox hg))
  (try simp only [Act.put, List.setIfInBounds_toArray, List.set_cons_zero, List.set_cons_succ])
  go_cut [28] (fun v28 wc => ∃ (kq : Nat) (x28_3 : Bool), v28 = .bool x28_3 ∧ Aside0 (newsreellaw27_EtagTells.j0 kq a1 a2 x28_3 a0_0 a0_1 = some r) ∧ Aside0 (kq ≤ k) ∧ Aside0 (wc.heap[gb182]? = some (.cells #[.bool a0_0, .string a0_1] 47 (0, 0))) ∧ Aside0 (Below w.heap.size w wc))
  case first =>
   have H := HC4.out
   clear HC4
   by_cases c6 : (a0_1.size : Int) > 300
   ·rw [if_pos c6] at H
    have c6b0 : decide (300 < (a0_1.size : Int)) = true := decide_eq_true c6
    have c6b1 : decide (300 < a0_1.size) = true := decide_eq_true (by omega)
    clear c6
    (first | rw [c6b0] | (simp only [i64_w, i32_w]; rw [c6b0]) | skip)
    have H' := Aside0.mk H
    clear H
    have hcz7_0 : w5.cell? ⟨gb182, 0, none⟩ = some (.bool a0_0) := (blk_cell BK182.out 0).trans rfl
    have hcz7_1 : w5.cell? ⟨gb182, 1, none⟩ = some (.string a0_1) := (blk_cell BK182.out 1).trans rfl
    have hfz7_0 := blk_frozen BK182.out 0
    have hfz7_1 := blk_frozen BK182.out 1
    go_wp2
    go_meet
    case rel => exact ⟨_, (true), (by first | rfl | (simp; done) | (simp [*]; done)), H', ⟨by first | omega | exact Nat.le_refl _⟩, ⟨by (with_reducible repeat (first | refine blk_drewN ?_ _ | refine blk_drew ?_ | refine blk_alloc ?_ _)); exact BK182.out⟩, ⟨by repeat (first | (with_reducible first | exact HB.out | apply below_alloc | apply pw_below_drewN | apply below_drew1 | refine below_set ?_ GE182.out) | exact HB.out)⟩⟩
   ·rw [if_neg c6] at H
    have c6b0 : decide (300 < (a0_1.size : Int)) = false := decide_eq_false c6
    have c6b1 : decide (300 < a0_1.size) = false := decide_eq_false (by omega)
    clear c6
    (first | rw [c6b0] | (simp only [i64_w, i32_w]; rw [c6b0]) | skip)
    by_cases c8 : (a1.size : Int) > 300
    ·rw [if_pos c8] at H
     have c8b0 : decide (300 < (a1.size : Int)) = true := decide_eq_true c8
     have c8b1 : decide (300 < a1.size) = true := decide_eq_true (by omega)
     clear c8
     have H' := Aside0.mk H
     clear H
     have hcz9_0 : w5.cell? ⟨gb182, 0, none⟩ = some (.bool a0_0) := (blk_cell BK182.out 0).trans rfl
     have hcz9_1 : w5.cell? ⟨gb182, 1, none⟩ = some (.string a0_1) := (blk_cell BK182.out 1).trans rfl
     have hfz9_0 := blk_frozen BK182.out 0
     have hfz9_1 := blk_frozen BK182.out 1
     go_wp2
     go_meet
     case rel => exact ⟨_, (true), (by first | rfl | (simp; done) | (simp [*]; done)), H', ⟨by first | omega | exact Nat.le_refl _⟩, ⟨by (with_reducible repeat (first | refine blk_drewN ?_ _ | refine blk_drew ?_ | refine blk_alloc ?_ _)); exact BK182.out⟩, ⟨by repeat (first | (with_reducible first | exact HB.out | apply below_alloc | apply pw_below_drewN | apply below_drew1 | refine below_set ?_ GE182.out) | exact HB.out)⟩⟩
    ·rw [if_neg c8] at H
     have c8b0 : decide (300 < (a1.size : Int)) = false := decide_eq_false c8
     have c8b1 : decide (300 < a1.size) = false := decide_eq_false (by omega)
     clear c8
     have H' := Aside0.mk H
     clear H
     have hcz10_0 : w5.cell? ⟨gb182, 0, none⟩ = some (.bool a0_0) := (blk_cell BK182.out 0).trans rfl
     have hcz10_1 : w5.cell? ⟨gb182, 1, none⟩ = some (.string a0_1) := (blk_cell BK182.out 1).trans rfl
     have hfz10_0 := blk_frozen BK182.out 0
     have hfz10_1 := blk_frozen BK182.out 1
     go_wp2
     go_meet
     case rel => exact ⟨_, (decide ((a2.size : Int) > 300)), (by first | rfl | (simp; done) | (simp [*]; done)), H', ⟨by first | omega | exact Nat.le_refl _⟩, ⟨by (with_reducible repeat (first | refine blk_drewN ?_ _ | refine blk_drew ?_ | refine blk_alloc ?_ _)); exact BK182.out⟩, ⟨by repeat (first | (with_reducible first | exact HB.out | apply below_alloc | apply pw_below_drewN | apply below_drew1 | refine below_set ?_ GE182.out) | exact HB.out)⟩⟩
  case rest =>
   clear HC4
   try clear p2
   try clear c6
   try clear c6b0
   try clear c6b1
   try clear c8
   try clear c8b0
   try clear c8b1
   try clear hcz10_0
   try clear hcz10_1
   try clear hcz7_0
   try clear hcz7_1
   try clear hcz9_0
   try clear hcz9_1
   try clear hfz10_0
   try clear hfz10_1
   try clear hfz7_0
   try clear hfz7_1
   try clear hfz9_0
   try clear hfz9_1
   obtain ⟨kq, x28_3, rfl, HA, HJ3, BK182, HB⟩ := hcut
   cases kq with
   | zero => exact absurd HA.out (by simp [newsreellaw27_EtagTells.j0])
   | succ kj3 =>
    have H := HA.out
    clear HA
    simp only [newsreellaw27_EtagTells.j0] at H
    by_cases c11 : x28_3 = true
    ·subst c11
     have H1 : ((newsreellaw27_awake.f kj3).bind fun t183 => (some t183)) = some r := by rw [if_pos rfl] at H; exact H
     clear H
     have H := H1
     clear H1
     replace H := Option.bind_eq_some_iff.mp H
     obtain ⟨t183, A120, H⟩ := H
     replace H : (some t183) = some r := H
     have A12 := Aside0.mk A120
     clear A120
     obtain rfl := Option.some.inj H
     go_wp2_with (first | ((with_reducible refine gate_callee (f := 21) rfl ?_); refine goesL_ (some 29) rfl rfl Try.func21 (by kernel_rfl) rfl #[] rfl (by (try simp only [List.map_toArray, List.map_cons, List.map_nil]); first | done | rfl | (simp only [List.length_drop, List.length_take]; rfl)) ?_; (with_reducible refine (newsreellaw27_awake.calls kj3  t183 _ A12.out).mono ?_); rintro e w13 ⟨rfl, hb⟩; refine ⟨_, rfl, ?_⟩; have n0_ := Aside0.mk (blk_below (g := gb182) (o := .cells #[.bool a0_0, .string a0_1] 47 (0, 0)) (sm_ BK182) hb); have n1_ := Aside0.mk (below_step (by repeat (first | (with_reducible first | exact HB.out | apply below_alloc | apply pw_below_drewN | apply below_drew1 | refine below_set ?_ GE182.out) | exact HB.out)) hb); clear BK182; clear HB; have BK182 := n0_; have HB := n1_; clear n0_ n1_; (try clear hb); (try clear hb2); (try clear hk); (try clear hi)))
     go_ret
     exact ⟨by first | rfl | (simp [errW_none, errW_some] <;> rfl) | (simp [*, errW_none, errW_some] <;> rfl), by repeat (first | (with_reducible first | exact HB.out | apply below_alloc | apply pw_below_drewN | apply below_drew1 | refine below_set ?_ GE182.out) | exact HB.out)⟩
    ·replace c11 := Bool.eq_false_iff.mpr c11
     subst c11
     have H1 : ((etag_Put.f kj3 a0_0 a0_1).bind fun bt184 => ((newsreelref27_Put.f kj3 a0_0 a0_1).bind fun bt186 => ((etag_Get.f kj3 a1).bind fun bt188 => ((newsreelref27_Get.f kj3 a1).bind fun bt192 => ((etag_Right.f kj3 a0_0 a0_1).bind fun t196 => ((newsreelref27_Right.f kj3 a0_0 a0_1).bind fun t197 => (if (t196 == t197) = true then (if bt184.1.toList = bt186.1.toList then (if bt184.2 = bt186.2 then (if (bt188.1 == bt192.1 && (bt188.2.1.toList == bt192.2.1.toList)) = true then (if bt188.2.2 = bt192.2.2 then ((etag_Strong.f kj3 a1 a2).bind fun t198 => ((newsreelref27_Strong.f kj3 a1 a2).bind fun t199 => (if (t198 == t199) = true then ((etag_Weak.f kj3 a1 a2).bind fun t200 => ((newsreelref27_Weak.f kj3 a1 a2).bind fun t201 => (if (t200 == t201) = true then ((newsreellaw27_awake.f kj3).bind fun t202 => (some t202)) else (some false)))) else (some false)))) else (some false)) else (some false)) else (some false)) else (some false)) else (some false)))))))) = some r := by rw [if_neg (show ¬ (false = true) by decide)] at H; exact H
     clear H
     have H := H1
     clear H1
     replace H := Option.bind_eq_some_iff.mp H
     obtain ⟨⟨t184, t185⟩, A140, H⟩ := H
     replace H : ((newsreelref27_Put.f kj3 a0_0 a0_1).bind fun bt186 => ((etag_Get.f kj3 a1).bind fun bt188 => ((newsreelref27_Get.f kj3 a1).bind fun bt192 => ((etag_Right.f kj3 a0_0 a0_1).bind fun t196 => ((newsreelref27_Right.f kj3 a0_0 a0_1).bind fun t197 => (if (t196 == t197) = true then (if t184.toList = bt186.1.toList then (if t185 = bt186.2 then (if (bt188.1 == bt192.1 && (bt188.2.1.toList == bt192.2.1.toList)) = true then (if bt188.2.2 = bt192.2.2 then ((etag_Strong.f kj3 a1 a2).bind fun t198 => ((newsreelref27_Strong.f kj3 a1 a2).bind fun t199 => (if (t198 == t199) = true then ((etag_Weak.f kj3 a1 a2).bind fun t200 => ((newsreelref27_Weak.f kj3 a1 a2).bind fun t201 => (if (t200 == t201) = true then ((newsreellaw27_awake.f kj3).bind fun t202 => (some t202)) else (some false)))) else (some false)))) else (some false)) else (some false)) else (some false)) else (some false)) else (some false))))))) = some r := H
     have A14 := Aside0.mk A140
     clear A140
     replace H := Option.bind_eq_some_iff.mp H
     obtain ⟨⟨t186, t187⟩, A150, H⟩ := H
     replace H : ((etag_Get.f kj3 a1).bind fun bt188 => ((newsreelref27_Get.f kj3 a1).bind fun bt192 => ((etag_Right.f kj3 a0_0 a0_1).bind fun t196 => ((newsreelref27_Right.f kj3 a0_0 a0_1).bind fun t197 => (if (t196 == t197) = true then (if t184.toList = t186.toList then (if t185 = t187 then (if (bt188.1 == bt192.1 && (bt188.2.1.toList == bt192.2.1.toList)) = true then (if bt188.2.2 = bt192.2.2 then ((etag_Strong.f kj3 a1 a2).bind fun t198 => ((newsreelref27_Strong.f kj3 a1 a2).bind fun t199 => (if (t198 == t199) = true then ((etag_Weak.f kj3 a1 a2).bind fun t200 => ((newsreelref27_Weak.f kj3 a1 a2).bind fun t201 => (if (t200 == t201) = true then ((newsreellaw27_awake.f kj3).bind fun t202 => (some t202)) else (some false)))) else (some false)))) else (some false)) else (some false)) else (some false)) else (some false)) else (some false)))))) = some r := H
     have A15 := Aside0.mk A150
     clear A150
     replace H := Option.bind_eq_some_iff.mp H
     obtain ⟨⟨t188, t189, t190⟩, A160, H⟩ := H
     replace H : ((newsreelref27_Get.f kj3 a1).bind fun bt192 => ((etag_Right.f kj3 a0_0 a0_1).bind fun t196 => ((newsreelref27_Right.f kj3 a0_0 a0_1).bind fun t197 => (if (t196 == t197) = true then (if t184.toList = t186.toList then (if t185 = t187 then (if (t188 == bt192.1 && (t189.toList == bt192.2.1.toList)) = true then (if t190 = bt192.2.2 then ((etag_Strong.f kj3 a1 a2).bind fun t198 => ((newsreelref27_Strong.f kj3 a1 a2).bind fun t199 => (if (t198 == t199) = true then ((etag_Weak.f kj3 a1 a2).bind fun t200 => ((newsreelref27_Weak.f kj3 a1 a2).bind fun t201 => (if (t200 == t201) = true then ((newsreellaw27_awake.f kj3).bind fun t202 => (some t202)) else (some false)))) else (some false)))) else (some false)) else (some false)) else (some false)) else (some false)) else (some false))))) = some r := H
     have A16 := Aside0.mk A160
     clear A160
     replace H := Option.bind_eq_some_iff.mp H
     obtain ⟨⟨t192, t193, t194⟩, A170, H⟩ := H
     replace H : ((etag_Right.f kj3 a0_0 a0_1).bind fun t196 => ((newsreelref27_Right.f kj3 a0_0 a0_1).bind fun t197 => (if (t196 == t197) = true then (if t184.toList = t186.toList then (if t185 = t187 then (if (t188 == t192 && (t189.toList == t193.toList)) = true then (if t190 = t194 then ((etag_Strong.f kj3 a1 a2).bind fun t198 => ((newsreelref27_Strong.f kj3 a1 a2).bind fun t199 => (if (t198 == t199) = true then ((etag_Weak.f kj3 a1 a2).bind fun t200 => ((newsreelref27_Weak.f kj3 a1 a2).bind fun t201 => (if (t200 == t201) = true then ((newsreellaw27_awake.f kj3).bind fun t202 => (some t202)) else (some false)))) else (some false)))) else (some false)) else (some false)) else (some false)) else (some false)) else (some false)))) = some r := H
     have A17 := Aside0.mk A170
     clear A170
     replace H := Option.bind_eq_some_iff.mp H
     obtain ⟨t196, A180, H⟩ := H
     replace H : ((newsreelref27_Right.f kj3 a0_0 a0_1).bind fun t197 => (if (t196 == t197) = true then (if t184.toList = t186.toList then (if t185 = t187 then (if (t188 == t192 && (t189.toList == t193.toList)) = true then (if t190 = t194 then ((etag_Strong.f kj3 a1 a2).bind fun t198 => ((newsreelref27_Strong.f kj3 a1 a2).bind fun t199 => (if (t198 == t199) = true then ((etag_Weak.f kj3 a1 a2).bind fun t200 => ((newsreelref27_Weak.f kj3 a1 a2).bind fun t201 => (if (t200 == t201) = true then ((newsreellaw27_awake.f kj3).bind fun t202 => (some t202)) else (some false)))) else (some false)))) else (some false)) else (some false)) else (some false)) else (some false)) else (some false))) = some r := H
     have A18 := Aside0.mk A180
     clear A180
     replace H := Option.bind_eq_some_iff.mp H
     obtain ⟨t197, A190, H⟩ := H
     replace H : (if (t196 == t197) = true then (if t184.toList = t186.toList then (if t185 = t187 then (if (t188 == t192 && (t189.toList == t193.toList)) = true then (if t190 = t194 then ((etag_Strong.f kj3 a1 a2).bind fun t198 => ((newsreelref27_Strong.f kj3 a1 a2).bind fun t199 => (if (t198 == t199) = true then ((etag_Weak.f kj3 a1 a2).bind fun t200 => ((newsreelref27_Weak.f kj3 a1 a2).bind fun t201 => (if (t200 == t201) = true then ((newsreellaw27_awake.f kj3).bind fun t202 => (some t202)) else (some false)))) else (some false)))) else (some false)) else (some false)) else (some false)) else (some false)) else (some false)) = some r := H
     have A19 := Aside0.mk A190
     clear A190
     by_cases c20 : (t196 == t197) = true
     ·rw [if_pos c20] at H
      have c20b0 : (t196 == t197) = true := c20
      (try (have c20b1 : decide (t196 = t197) = true := by simpa using c20))
      (try (have c20b2 : (t196 == t197) = true := by simpa using c20))
      clear c20
      by_cases c21 : t184.toList = t186.toList
      ·rw [if_pos c21] at H
       have c21b0 : (t184.toList == t186.toList) = true := beq_iff_eq.mpr c21
       have c21b1 : (t184.toList != t186.toList) = false := bne_eq_false_iff_eq.mpr c21
       clear c21
       by_cases c22 : t185 = t187
       ·rw [if_pos c22] at H
        have c22b0 : (t185 == t187) = true := beq_iff_eq.mpr c22
        have c22b1 : (t185 != t187) = false := bne_eq_false_iff_eq.mpr c22
        clear c22
        by_cases c23 : (t188 == t192 && (t189.toList == t193.toList)) = true
        ·rw [if_pos c23] at H
         have c23b0 : (t188 == t192 && (t189.toList == t193.toList)) = true := c23
         (try (have c23b1 : decide (t188 = t192 && (t189.toList == t193.toList)) = true := by simpa using c23))
         (try (have c23b2 : (t188 == t192 && (t189.toList == t193.toList)) = true := by simpa using c23))
         clear c23
         by_cases c24 : t190 = t194
         ·rw [if_pos c24] at H
          have c24b0 : (t190 == t194) = true := beq_iff_eq.mpr c24
          have c24b1 : (t190 != t194) = false := bne_eq_false_iff_eq.mpr c24
          clear c24
          replace H := Option.bind_eq_some_iff.mp H
          obtain ⟨t198, A250, H⟩ := H
          replace H : ((newsreelref27_Strong.f kj3 a1 a2).bind fun t199 => (if (t198 == t199) = true then ((etag_Weak.f kj3 a1 a2).bind fun t200 => ((newsreelref27_Weak.f kj3 a1 a2).bind fun t201 => (if (t200 == t201) = true then ((newsreellaw27_awake.f kj3).bind fun t202 => (some t202)) else (some false)))) else (some false))) = some r := H
          have A25 := Aside0.mk A250
          clear A250
          replace H := Option.bind_eq_some_iff.mp H
          obtain ⟨t199, A260, H⟩ := H
          replace H : (if (t198 == t199) = true then ((etag_Weak.f kj3 a1 a2).bind fun t200 => ((newsreelref27_Weak.f kj3 a1 a2).bind fun t201 => (if (t200 == t201) = true then ((newsreellaw27_awake.f kj3).bind fun t202 => (some t202)) else (some false)))) else (some false)) = some r := H
          have A26 := Aside0.mk A260
          clear A260
          by_cases c27 : (t198 == t199) = true
          ·rw [if_pos c27] at H
           have c27b0 : (t198 == t199) = true := c27
           (try (have c27b1 : decide (t198 = t199) = true := by simpa using c27))
           (try (have c27b2 : (t198 == t199) = true := by simpa using c27))
           clear c27
           replace H := Option.bind_eq_some_iff.mp H
           obtain ⟨t200, A280, H⟩ := H
           replace H : ((newsreelref27_Weak.f kj3 a1 a2).bind fun t201 => (if (t200 == t201) = true then ((newsreellaw27_awake.f kj3).bind fun t202 => (some t202)) else (some false))) = some r := H
           have A28 := Aside0.mk A280
           clear A280
           replace H := Option.bind_eq_some_iff.mp H
           obtain ⟨t201, A290, H⟩ := H
           replace H : (if (t200 == t201) = true then ((newsreellaw27_awake.f kj3).bind fun t202 => (some t202)) else (some false)) = some r := H
           have A29 := Aside0.mk A290
           clear A290
           by_cases c30 : (t200 == t201) = true
           ·rw [if_pos c30] at H
            have c30b0 : (t200 == t201) = true := c30
            (try (have c30b1 : decide (t200 = t201) = true := by simpa using c30))
            (try (have c30b2 : (t200 == t201) = true := by simpa using c30))
            clear c30
            replace H := Option.bind_eq_some_iff.mp H
            obtain ⟨t202, A310, H⟩ := H
            replace H : (some t202) = some r := H
            have A31 := Aside0.mk A310
            clear A310
            obtain rfl := Option.some.inj H
            have hcz32_0 : wc.cell? ⟨gb182, 0, none⟩ = some (.bool a0_0) := (blk_cell BK182.out 0).trans rfl
            have hcz32_1 : wc.cell? ⟨gb182, 1, none⟩ = some (.string a0_1) := (blk_cell BK182.out 1).trans rfl
            have hfz32_0 := blk_frozen BK182.out 0
            have hfz32_1 := blk_frozen BK182.out 1
            try go_wp2_with (first | ((with_reducible refine gate_callee (f := 22) rfl ?_); refine goesL_ (some 32) rfl rfl Try.func22 (by kernel_rfl) rfl #[.agg #[.bool a0_0, .string a0_1]] rfl (by (try simp only [List.map_toArray, List.map_cons, List.map_nil]); first | done | rfl | (simp only [List.length_drop, List.length_take]; rfl)) ?_; (with_reducible refine (etag_Put.calls kj3 a0_0 a0_1 t184 t185 _ A14.out).mono ?_); rintro e w33 ⟨rfl, hb⟩; refine ⟨_, rfl, ?_⟩; have n0_ := Aside0.mk (blk_below (g := gb182) (o := .cells #[.bool a0_0, .string a0_1] 47 (0, 0)) (sm_ BK182) hb); have n1_ := Aside0.mk (below_step (by repeat (first | (with_reducible first | exact HB.out | apply below_alloc | apply pw_below_drewN | apply below_drew1 | refine below_set ?_ GE182.out) | exact HB.out)) hb); clear BK182; clear HB; have BK182 := n0_; have HB := n1_; clear n0_ n1_; (try clear hb); (try clear hb2); (try clear hk); (try clear hi); have hcz34_0 : w33.cell? ⟨gb182, 0, none⟩ = some (.bool a0_0) := (blk_cell BK182.out 0).trans rfl; have hcz34_1 : w33.cell? ⟨gb182, 1, none⟩ = some (.string a0_1) := (blk_cell BK182.out 1).trans rfl; have hfz34_0 := blk_frozen BK182.out 0; have hfz34_1 := blk_frozen BK182.out 1) | ((with_reducible refine gate_callee (f := 23) rfl ?_); refine goesL_ (some 37) rfl rfl Try.func23 (by kernel_rfl) rfl #[.agg #[.bool a0_0, .string a0_1]] rfl (by (try simp only [List.map_toArray, List.map_cons, List.map_nil]); first | done | rfl | (simp only [List.length_drop, List.length_take]; rfl)) ?_; (with_reducible refine (newsreelref27_Put.calls kj3 a0_0 a0_1 t186 t187 _ A15.out).mono ?_); rintro e w35 ⟨rfl, hb⟩; refine ⟨_, rfl, ?_⟩; have n0_ := Aside0.mk (blk_below (g := gb182) (o := .cells #[.bool a0_0, .string a0_1] 47 (0, 0)) (sm_ BK182) hb); have n1_ := Aside0.mk (below_step (by repeat (first | (with_reducible first | exact HB.out | apply below_alloc | apply pw_below_drewN | apply below_drew1 | refine below_set ?_ GE182.out) | exact HB.out)) hb); clear BK182; clear HB; have BK182 := n0_; have HB := n1_; clear n0_ n1_; (try clear hb); (try clear hb2); (try clear hk); (try clear hi)) | ((with_reducible refine gate_callee (f := 24) rfl ?_); refine goesL_ (some 42) rfl rfl Try.func24 (by kernel_rfl) rfl #[.string a1] rfl (by (try simp only [List.map_toArray, List.map_cons, List.map_nil]); first | done | rfl | (simp only [List.length_drop, List.length_take]; rfl)) ?_; (with_reducible refine (etag_Get.calls kj3 a1 t188 t189 t190 _ A16.out).mono ?_); rintro e w36 ⟨rfl, hb⟩; refine ⟨_, rfl, ?_⟩; have n0_ := Aside0.mk (blk_below (g := gb182) (o := .cells #[.bool a0_0, .string a0_1] 47 (0, 0)) (sm_ BK182) hb); have n1_ := Aside0.mk (below_step (by repeat (first | (with_reducible first | exact HB.out | apply below_alloc | apply pw_below_drewN | apply below_drew1 | refine below_set ?_ GE182.out) | exact HB.out)) hb); clear BK182; clear HB; have BK182 := n0_; have HB := n1_; clear n0_ n1_; (try clear hb); (try clear hb2); (try clear hk); (try clear hi)) | ((with_reducible refine gate_dst (N := 11) rfl ?_); (try (refine gate_guard (by rfl) ?_; dsimp only)); refine box_event ?hg (N := 11) ?hd (cs := #[.bool false, .string (⟨#[]⟩ : ByteArray)]) (t := 47) ?hr ?_; (case hd => rfl); (case hg => rfl); (case hr => first | (go_simp; done) | (go_simp; rfl)); intro gb191 hg w37 hbox hb; have n0_ := Aside0.mk (blk_below (g := gb182) (o := .cells #[.bool a0_0, .string a0_1] 47 (0, 0)) (sm_ BK182) hb); have n1_ := Aside0.mk (below_step (by repeat (first | (with_reducible first | exact HB.out | apply below_alloc | apply pw_below_drewN | apply below_drew1 | refine below_set ?_ GE182.out) | exact HB.out)) hb); have n2_ := Aside0.mk (hbox); have n3_ := Aside0.mk ((by rw [hg]; exact (below_size (by repeat (first | (with_reducible first | exact HB.out | apply below_alloc | apply pw_below_drewN | apply below_drew1 | refine below_set ?_ GE182.out) | exact HB.out))) : w.heap.size ≤ gb191)); have n4_ := Aside0.mk ((by rw [hg]; exact (below_size (by repeat (first | (with_reducible first | exact HB.out | apply below_alloc | apply pw_below_drewN | apply below_drew1 | refine below_set ?_ GE182.out) | exact HB.out))) : w.heap.size ≤ gb191)); have n5_ := Aside0.mk ((by rw [hg]; exact Nat.ne_of_lt (blk_lt (g := gb182) (o := .cells #[.bool a0_0, .string a0_1] 47 (0, 0)) (sm_ BK182)) : gb182 ≠ gb191)); have n6_ := Aside0.mk ((by rw [hg]; exact Nat.ne_of_gt (blk_lt (g := gb182) (o := .cells #[.bool a0_0, .string a0_1] 47 (0, 0)) (sm_ BK182)) : gb191 ≠ gb182)); clear BK182; clear HB; have BK182 := n0_; have HB := n1_; have BK191 := n2_; have GW191 := n3_; have GE191 := n4_; have NB182_191 := n5_; have NB191_182 := n6_; clear n0_ n1_ n2_ n3_ n4_ n5_ n6_; clear hb hbox hg; have hnb38 := NB191_182.out; have hnc38 := NB182_191.out; have hcz39_0 : w37.cell? ⟨gb191, 0, none⟩ = some (.bool false) := (blk_cell BK191.out 0).trans rfl; have hcz39_1 : w37.cell? ⟨gb191, 1, none⟩ = some (.string (⟨#[]⟩ : ByteArray)) := (blk_cell BK191.out 1).trans rfl; have hfz39_0 := blk_frozen BK191.out 0; have hfz39_1 := blk_frozen BK191.out 1) | ((with_reducible refine gate_callee (f := 25) rfl ?_); refine goesL_ (some 47) rfl rfl Try.func25 (by kernel_rfl) rfl #[.string a1] rfl (by (try simp only [List.map_toArray, List.map_cons, List.map_nil]); first | done | rfl | (simp only [List.length_drop, List.length_take]; rfl)) ?_; (with_reducible refine (newsreelref27_Get.calls kj3 a1 t192 t193 t194 _ A17.out).mono ?_); rintro e w40 ⟨rfl, hb⟩; refine ⟨_, rfl, ?_⟩; have n0_ := Aside0.mk (blk_below (g := gb182) (o := .cells #[.bool a0_0, .string a0_1] 47 (0, 0)) (by (with_reducible repeat (first | refine blk_drewN ?_ _ | refine blk_drew ?_ | refine blk_alloc ?_ _)); refine blk_far ?_ NB182_191.out _; (with_reducible repeat (first | refine blk_drewN ?_ _ | refine blk_drew ?_ | refine blk_alloc ?_ _)); refine blk_far ?_ NB182_191.out _; (with_reducible repeat (first | refine blk_drewN ?_ _ | refine blk_drew ?_ | refine blk_alloc ?_ _)); exact BK182.out) hb); have n1_ := Aside0.mk (blk_below (g := gb191) (o := .cells #[.bool t188, .string t189] 47 (0, 0)) (by (with_reducible repeat (first | refine blk_drewN ?_ _ | refine blk_drew ?_ | refine blk_alloc ?_ _)); refine blk_put (cs := #[.bool t188, .string (⟨#[]⟩ : ByteArray)]) ?_ 1 _ rfl; (with_reducible repeat (first | refine blk_drewN ?_ _ | refine blk_drew ?_ | refine blk_alloc ?_ _)); refine blk_put (cs := #[.bool false, .string (⟨#[]⟩ : ByteArray)]) ?_ 0 _ rfl; (with_reducible repeat (first | refine blk_drewN ?_ _ | refine blk_drew ?_ | refine blk_alloc ?_ _)); exact BK191.out) hb); have n2_ := Aside0.mk (below_step (by repeat (first | (with_reducible first | exact HB.out | apply below_alloc | apply pw_below_drewN | apply below_drew1 | refine below_set ?_ GE182.out | refine below_set ?_ GE191.out) | exact HB.out)) hb); clear BK182; clear BK191; clear HB; have BK182 := n0_; have BK191 := n1_; have HB := n2_; clear n0_ n1_ n2_; (try clear hb); (try clear hb2); (try clear hk); (try clear hi)) | ((with_reducible refine gate_dst (N := 13) rfl ?_); (try (refine gate_guard (by rfl) ?_; dsimp only)); refine box_event ?hg (N := 13) ?hd (cs := #[.bool false, .string (⟨#[]⟩ : ByteArray)]) (t := 47) ?hr ?_; (case hd => rfl); (case hg => rfl); (case hr => first | (go_simp; done) | (go_simp; rfl)); intro gb195 hg w41 hbox hb; have n0_ := Aside0.mk (blk_below (g := gb182) (o := .cells #[.bool a0_0, .string a0_1] 47 (0, 0)) (sm_ BK182) hb); have n1_ := Aside0.mk (blk_below (g := gb191) (o := .cells #[.bool t188, .string t189] 47 (0, 0)) (sm_ BK191) hb); have n2_ := Aside0.mk (below_step (by repeat (first | (with_reducible first | exact HB.out | apply below_alloc | apply pw_below_drewN | apply below_drew1 | refine below_set ?_ GE182.out | refine below_set ?_ GE191.out) | exact HB.out)) hb); have n3_ := Aside0.mk (hbox); have n4_ := Aside0.mk ((by rw [hg]; exact (below_size (by repeat (first | (with_reducible first | exact HB.out | apply below_alloc | apply pw_below_drewN | apply below_drew1 | refine below_set ?_ GE182.out | refine below_set ?_ GE191.out) | exact HB.out))) : w.heap.size ≤ gb195)); have n5_ := Aside0.mk ((by rw [hg]; exact (below_size (by repeat (first | (with_reducible first | exact HB.out | apply below_alloc | apply pw_below_drewN | apply below_drew1 | refine below_set ?_ GE182.out | refine below_set ?_ GE191.out) | exact HB.out))) : w.heap.size ≤ gb195)); have n6_ := Aside0.mk ((by rw [hg]; exact Nat.ne_of_lt (blk_lt (g := gb182) (o := .cells #[.bool a0_0, .string a0_1] 47 (0, 0)) (sm_ BK182)) : gb182 ≠ gb195)); have n7_ := Aside0.mk ((by rw [hg]; exact Nat.ne_of_gt (blk_lt (g := gb182) (o := .cells #[.bool a0_0, .string a0_1] 47 (0, 0)) (sm_ BK182)) : gb195 ≠ gb182)); have n8_ := Aside0.mk ((by rw [hg]; exact Nat.ne_of_lt (blk_lt (g := gb191) (o := .cells #[.bool t188, .string t189] 47 (0, 0)) (sm_ BK191)) : gb191 ≠ gb195)); have n9_ := Aside0.mk ((by rw [hg]; exact Nat.ne_of_gt (blk_lt (g := gb191) (o := .cells #[.bool t188, .string t189] 47 (0, 0)) (sm_ BK191)) : gb195 ≠ gb191)); clear BK182; clear BK191; clear HB; have BK182 := n0_; have BK191 := n1_; have HB := n2_; have BK195 := n3_; have GW195 := n4_; have GE195 := n5_; have NB182_195 := n6_; have NB195_182 := n7_; have NB191_195 := n8_; have NB195_191 := n9_; clear n0_ n1_ n2_ n3_ n4_ n5_ n6_ n7_ n8_ n9_; clear hb hbox hg; have hnb42 := NB195_182.out; have hnc42 := NB182_195.out; have hnb43 := NB195_191.out; have hnc43 := NB191_195.out; have hcz44_0 : w41.cell? ⟨gb195, 0, none⟩ = some (.bool false) := (blk_cell BK195.out 0).trans rfl; have hcz44_1 : w41.cell? ⟨gb195, 1, none⟩ = some (.string (⟨#[]⟩ : ByteArray)) := (blk_cell BK195.out 1).trans rfl; have hfz44_0 := blk_frozen BK195.out 0; have hfz44_1 := blk_frozen BK195.out 1))
            have n0_ : Aside0 (((w41.setCell ⟨gb195, 0, none⟩ (.bool t192)).setCell ⟨gb195, 1, none⟩ (.string t193)).heap[gb182]? = some (.cells #[.bool a0_0, .string a0_1] 47 (0, 0))) := ⟨by (with_reducible repeat (first | refine blk_drewN ?_ _ | refine blk_drew ?_ | refine blk_alloc ?_ _)); refine blk_far ?_ NB182_195.out _; (with_reducible repeat (first | refine blk_drewN ?_ _ | refine blk_drew ?_ | refine blk_alloc ?_ _)); refine blk_far ?_ NB182_195.out _; (with_reducible repeat (first | refine blk_drewN ?_ _ | refine blk_drew ?_ | refine blk_alloc ?_ _)); exact BK182.out⟩
            have n1_ : Aside0 (((w41.setCell ⟨gb195, 0, none⟩ (.bool t192)).setCell ⟨gb195, 1, none⟩ (.string t193)).heap[gb191]? = some (.cells #[.bool t188, .string t189] 47 (0, 0))) := ⟨by (with_reducible repeat (first | refine blk_drewN ?_ _ | refine blk_drew ?_ | refine blk_alloc ?_ _)); refine blk_far ?_ NB191_195.out _; (with_reducible repeat (first | refine blk_drewN ?_ _ | refine blk_drew ?_ | refine blk_alloc ?_ _)); refine blk_far ?_ NB191_195.out _; (with_reducible repeat (first | refine blk_drewN ?_ _ | refine blk_drew ?_ | refine blk_alloc ?_ _)); exact BK191.out⟩
            have n2_ : Aside0 (((w41.setCell ⟨gb195, 0, none⟩ (.bool t192)).setCell ⟨gb195, 1, none⟩ (.string t193)).heap[gb195]? = some (.cells #[.bool t192, .string t193] 47 (0, 0))) := ⟨by (with_reducible repeat (first | refine blk_drewN ?_ _ | refine blk_drew ?_ | refine blk_alloc ?_ _)); refine blk_put (cs := #[.bool t192, .string (⟨#[]⟩ : ByteArray)]) ?_ 1 _ rfl; (with_reducible repeat (first | refine blk_drewN ?_ _ | refine blk_drew ?_ | refine blk_alloc ?_ _)); refine blk_put (cs := #[.bool false, .string (⟨#[]⟩ : ByteArray)]) ?_ 0 _ rfl; (with_reducible repeat (first | refine blk_drewN ?_ _ | refine blk_drew ?_ | refine blk_alloc ?_ _)); exact BK195.out⟩
            have n3_ : Aside0 (Below w.heap.size w ((w41.setCell ⟨gb195, 0, none⟩ (.bool t192)).setCell ⟨gb195, 1, none⟩ (.string t193))) := ⟨by repeat (first | (with_reducible first | exact HB.out | apply below_alloc | apply pw_below_drewN | apply below_drew1 | refine below_set ?_ GE182.out | refine below_set ?_ GE191.out | refine below_set ?_ GE195.out) | exact HB.out)⟩
            (try clear BK182)
            (try clear BK191)
            (try clear BK195)
            (try clear HB)
            generalize ((w41.setCell ⟨gb195, 0, none⟩ (.bool t192)).setCell ⟨gb195, 1, none⟩ (.string t193)) = w45 at n0_ n1_ n2_ n3_ ⊢
            have BK182 := n0_
            have BK191 := n1_
            have BK195 := n2_
            have HB := n3_
            clear n0_ n1_ n2_ n3_
            have n0_ := Aside0.mk (blk_drew BK182.out)
            have n1_ := Aside0.mk (blk_drew BK191.out)
            have n2_ := Aside0.mk (blk_drew BK195.out)
            have n3_ := Aside0.mk (below_drew1 HB.out)
            clear BK182
            clear BK191
            clear BK195
            clear HB
            have BK182 := n0_
            have BK191 := n1_
            have BK195 := n2_
            have HB := n3_
            clear n0_ n1_ n2_ n3_
            refine start_ (n := 47) (S := fun w' => w'.cell? ⟨gb182, 0, none⟩ = some (.bool a0_0) ∧ w'.cell? ⟨gb182, 1, none⟩ = some (.string a0_1) ∧ w'.cell? ⟨gb191, 0, none⟩ = some (.bool t188) ∧ w'.cell? ⟨gb191, 1, none⟩ = some (.string t189) ∧ w'.cell? ⟨gb195, 0, none⟩ = some (.bool t192) ∧ w'.cell? ⟨gb195, 1, none⟩ = some (.string t193)) (ds := []) m0_ (by kernel_rfl) rfl rfl ⟨(blk_cell BK182.out 0).trans rfl, (blk_cell BK182.out 1).trans rfl, (blk_cell BK191.out 0).trans rfl, (blk_cell BK191.out 1).trans rfl, (blk_cell BK195.out 0).trans rfl, (blk_cell BK195.out 1).trans rfl⟩ (fun hHeld => ?_); refine with_tabW newsreellaw27_EtagTells.tab7 newsreellaw27_EtagTells.bits7 (fun HT_ HW_ => ?_)
            generalize w45.drew = w46 at BK182 BK191 BK195 HB hHeld ⊢
            refine take_ (i := 0) (N := some 50) (v := ?_) (a' := ?_) m1_ rfl rfl (take_ofW HT_.out HW_.out (by kernel_rfl)) (fun _ _ _ h => h) (Or.inl ⟨by rfl, ?_⟩) hHeld ?_ ?_
            rotate_left
            ·rintro w' ⟨s0, s1, s2, s3, s4, s5⟩
             go_simp
             with_reducible rfl
            rotate_left
            ·simp only [Act.put, S_]
             rfl
            refine take_ (i := 2) (N := some 52) (v := ?_) (a' := ?_) m2_ rfl rfl (take_ofW HT_.out HW_.out (by kernel_rfl)) (fun _ _ _ h => h) (Or.inl ⟨by rfl, ?_⟩) hHeld ?_ ?_
            rotate_left
            ·rintro w' ⟨s0, s1, s2, s3, s4, s5⟩
             go_simp
             with_reducible rfl
            rotate_left
            ·simp only [Act.put, S_]
             rfl
            refine one_ (i := 1) (N := some 51) m3_ rfl rfl (one_of HT_.out (by kernel_rfl)) (by decide) (fun K hK => ?_)
            refine goes_ Try.func26 (by kernel_rfl) rfl #[.agg #[.bool a0_0, .string a0_1]] (by rfl) rfl rfl (by (try simp only [List.map_toArray, List.map_cons, List.map_nil]); first | done | rfl | (simp only [List.length_drop, List.length_take]; rfl)) ?_
            with_reducible refine (etag_Right.calls kj3 a0_0 a0_1 t196 _ A18.out).mono ?_
            rintro e w47 ⟨rfl, hb⟩
            refine ⟨_, rfl, ?_⟩
            have n0_ := Aside0.mk (blk_below (g := gb182) (o := .cells #[.bool a0_0, .string a0_1] 47 (0, 0)) (sm_ BK182) hb)
            have n1_ := Aside0.mk (blk_below (g := gb191) (o := .cells #[.bool t188, .string t189] 47 (0, 0)) (sm_ BK191) hb)
            have n2_ := Aside0.mk (blk_below (g := gb195) (o := .cells #[.bool t192, .string t193] 47 (0, 0)) (sm_ BK195) hb)
            have n3_ := Aside0.mk (below_step (by repeat (first | (with_reducible first | exact HB.out | apply below_alloc | apply pw_below_drewN | apply below_drew1 | refine below_set ?_ GE182.out | refine below_set ?_ GE191.out | refine below_set ?_ GE195.out) | exact HB.out)) hb)
            clear BK182
            clear BK191
            clear BK195
            clear HB
            have BK182 := n0_
            have BK191 := n1_
            have BK195 := n2_
            have HB := n3_
            clear n0_ n1_ n2_ n3_
            (try clear hb)
            (try clear hb2)
            (try clear hk)
            (try clear hi)
            refine hK.out _ _ ⟨(blk_cell BK182.out 0).trans rfl, (blk_cell BK182.out 1).trans rfl, (blk_cell BK191.out 0).trans rfl, (blk_cell BK191.out 1).trans rfl, (blk_cell BK195.out 0).trans rfl, (blk_cell BK195.out 1).trans rfl⟩ (fun hHeld => ?_); clear hK K
            refine norm_ (a' := ?_) ?_ ?_; rotate_left; (· show Act.put _ (some 51) _ = _; simp only [Act.put, S_]; rfl)
            refine one_ (i := 3) (N := some 53) m4_ rfl rfl (one_of HT_.out (by kernel_rfl)) (by decide) (fun K hK => ?_)
            refine goes_ Try.func27 (by kernel_rfl) rfl #[.agg #[.bool a0_0, .string a0_1]] (by rfl) rfl rfl (by (try simp only [List.map_toArray, List.map_cons, List.map_nil]); first | done | rfl | (simp only [List.length_drop, List.length_take]; rfl)) ?_
            with_reducible refine (newsreelref27_Right.calls kj3 a0_0 a0_1 t197 _ A19.out).mono ?_
            rintro e w48 ⟨rfl, hb⟩
            refine ⟨_, rfl, ?_⟩
            have n0_ := Aside0.mk (blk_below (g := gb182) (o := .cells #[.bool a0_0, .string a0_1] 47 (0, 0)) (sm_ BK182) hb)
            have n1_ := Aside0.mk (blk_below (g := gb191) (o := .cells #[.bool t188, .string t189] 47 (0, 0)) (sm_ BK191) hb)
            have n2_ := Aside0.mk (blk_below (g := gb195) (o := .cells #[.bool t192, .string t193] 47 (0, 0)) (sm_ BK195) hb)
            have n3_ := Aside0.mk (below_step (by repeat (first | (with_reducible first | exact HB.out | apply below_alloc | apply pw_below_drewN | apply below_drew1 | refine below_set ?_ GE182.out | refine below_set ?_ GE191.out | refine below_set ?_ GE195.out) | exact HB.out)) hb)
            clear BK182
            clear BK191
            clear BK195
            clear HB
            have BK182 := n0_
            have BK191 := n1_
            have BK195 := n2_
            have HB := n3_
            clear n0_ n1_ n2_ n3_
            (try clear hb)
            (try clear hb2)
            (try clear hk)
            (try clear hi)
            refine hK.out _ _ ⟨(blk_cell BK182.out 0).trans rfl, (blk_cell BK182.out 1).trans rfl, (blk_cell BK191.out 0).trans rfl, (blk_cell BK191.out 1).trans rfl, (blk_cell BK195.out 0).trans rfl, (blk_cell BK195.out 1).trans rfl⟩ (fun hHeld => ?_); clear hK K
            refine norm_ (a' := ?_) ?_ ?_; rotate_left; (· show Act.put _ (some 53) _ = _; simp only [Act.put, S_]; rfl)
            refine pure_ (i := 4) (N := some 54) (v := ?_) (a' := ?_) m5_ rfl rfl (an_ HT_) (fun _ _ _ h => h) (Or.inl ⟨by rfl, ?_⟩) ?_ ?_; rotate_left; (· intro w'; go_simp; with_reducible rfl); rotate_left; (· simp only [Act.put, S_]; rfl)
            refine pure_ (i := 5) (N := some 55) (v := ?_) (a' := ?_) m6_ rfl rfl (an_ HT_) (fun _ _ _ h => h) (Or.inl ⟨by rfl, ?_⟩) ?_ ?_; rotate_left; (· intro w'; go_simp; with_reducible rfl); rotate_left; (· simp only [Act.put, S_]; rfl)
            refine pure_ (i := 6) (N := some 56) (v := ?_) (a' := ?_) m7_ rfl rfl (an_ HT_) (fun _ _ _ h => h) (Or.inl ⟨by rfl, ?_⟩) ?_ ?_; rotate_left; (· intro w'; go_simp; with_reducible rfl); rotate_left; (· simp only [Act.put, S_]; rfl)
            refine pure_ (i := 7) (N := some 57) (v := ?_) (a' := ?_) m8_ rfl rfl (an_ HT_) (fun _ _ _ h => h) (Or.inl ⟨by rfl, ?_⟩) ?_ ?_; rotate_left; (· intro w'; go_simp; with_reducible rfl); rotate_left; (· simp only [Act.put, S_]; rfl)
            refine pure_ (i := 8) (N := some 58) (v := ?_) (a' := ?_) m9_ rfl rfl (an_ HT_) (fun _ _ _ h => h) (Or.inl ⟨by rfl, ?_⟩) ?_ ?_; rotate_left; (· intro w'; go_simp; with_reducible rfl); rotate_left; (· simp only [Act.put, S_]; rfl)
            refine pure_ (i := 9) (N := some 59) (v := ?_) (a' := ?_) m10_ rfl rfl (an_ HT_) (fun _ _ _ h => h) (Or.inl ⟨by rfl, ?_⟩) ?_ ?_; rotate_left; (· intro w'; go_simp; with_reducible rfl); rotate_left; (· simp only [Act.put, S_]; rfl)
            refine pure_ (i := 10) (N := some 60) (v := ?_) (a' := ?_) m11_ rfl rfl (an_ HT_) (fun _ _ _ h => h) (Or.inl ⟨by rfl, ?_⟩) ?_ ?_; rotate_left; (· intro w'; go_simp; with_reducible rfl); rotate_left; (· simp only [Act.put, S_]; rfl)
            refine pure_ (i := 11) (N := some 61) (v := ?_) (a' := ?_) m12_ rfl rfl (an_ HT_) (fun _ _ _ h => h) (Or.inl ⟨by rfl, ?_⟩) ?_ ?_; rotate_left; (· intro w'; go_simp; with_reducible rfl); rotate_left; (· simp only [Act.put, S_]; rfl)
            refine pure_ (i := 12) (N := some 62) (v := ?_) (a' := ?_) m13_ rfl rfl (an_ HT_) (fun _ _ _ h => h) (Or.inl ⟨by rfl, ?_⟩) ?_ ?_; rotate_left; (· intro w'; go_simp; with_reducible rfl); rotate_left; (· simp only [Act.put, S_]; rfl)
            refine pure_ (i := 13) (N := some 63) (v := ?_) (a' := ?_) m14_ rfl rfl (an_ HT_) (fun _ _ _ h => h) (Or.inl ⟨by rfl, ?_⟩) ?_ ?_; rotate_left; (· intro w'; go_simp; with_reducible rfl); rotate_left; (· simp only [Act.put, S_]; rfl)
            refine pure_ (i := 14) (N := some 64) (v := ?_) (a' := ?_) m15_ rfl rfl (an_ HT_) (fun _ _ _ h => h) (Or.inl ⟨by rfl, ?_⟩) ?_ ?_; rotate_left; (· intro w'; go_simp; with_reducible rfl); rotate_left; (· simp only [Act.put, S_]; rfl)
            refine pure_ (i := 15) (N := some 65) (v := ?_) (a' := ?_) m16_ rfl rfl (an_ HT_) (fun _ _ _ h => h) (Or.inl ⟨by rfl, ?_⟩) ?_ ?_; rotate_left; (· intro w'; go_simp; with_reducible rfl); rotate_left; (· simp only [Act.put, S_]; rfl)
            refine take_ (i := 16) (N := some 66) (v := ?_) (a' := ?_) m17_ rfl rfl (take_ofW HT_.out HW_.out (by kernel_rfl)) (fun _ _ _ h => h) (Or.inl ⟨by rfl, ?_⟩) hHeld ?_ ?_
            rotate_left
            ·rintro w' ⟨s0, s1, s2, s3, s4, s5⟩
             go_simp
             with_reducible rfl
            rotate_left
            ·simp only [Act.put, S_]
             rfl
            refine take_ (i := 17) (N := some 67) (v := ?_) (a' := ?_) m18_ rfl rfl (take_ofW HT_.out HW_.out (by kernel_rfl)) (fun _ _ _ h => h) (Or.inl ⟨by rfl, ?_⟩) hHeld ?_ ?_
            rotate_left
            ·rintro w' ⟨s0, s1, s2, s3, s4, s5⟩
             go_simp
             with_reducible rfl
            rotate_left
            ·simp only [Act.put, S_]
             rfl
            refine pure_ (i := 18) (N := some 68) (v := ?_) (a' := ?_) m19_ rfl rfl (an_ HT_) (fun _ _ _ h => h) (Or.inl ⟨by rfl, ?_⟩) ?_ ?_; rotate_left; (· intro w'; go_simp; with_reducible rfl); rotate_left; (· simp only [Act.put, S_]; rfl)
            refine pure_ (i := 19) (N := some 69) (v := ?_) (a' := ?_) m20_ rfl rfl (an_ HT_) (fun _ _ _ h => h) (Or.inl ⟨by rfl, ?_⟩) ?_ ?_; rotate_left; (· intro w'; go_simp; with_reducible rfl); rotate_left; (· simp only [Act.put, S_]; rfl)
            refine pure_ (i := 20) (N := some 70) (v := ?_) (a' := ?_) m21_ rfl rfl (an_ HT_) (fun _ _ _ h => h) (Or.inl ⟨by rfl, ?_⟩) ?_ ?_; rotate_left; (· intro w'; go_simp; with_reducible rfl); rotate_left; (· simp only [Act.put, S_]; rfl)
            refine pure_ (i := 21) (N := some 71) (v := ?_) (a' := ?_) m22_ rfl rfl (an_ HT_) (fun _ _ _ h => h) (Or.inl ⟨by rfl, ?_⟩) ?_ ?_; rotate_left; (· intro w'; go_simp; with_reducible rfl); rotate_left; (· simp only [Act.put, S_]; rfl)
            refine pure_ (i := 22) (N := some 72) (v := ?_) (a' := ?_) m23_ rfl rfl (an_ HT_) (fun _ _ _ h => h) (Or.inl ⟨by rfl, ?_⟩) ?_ ?_; rotate_left; (· intro w'; go_simp; with_reducible rfl); rotate_left; (· simp only [Act.put, S_]; rfl)
            refine pure_ (i := 23) (N := some 73) (v := ?_) (a' := ?_) m24_ rfl rfl (an_ HT_) (fun _ _ _ h => h) (Or.inl ⟨by rfl, ?_⟩) ?_ ?_; rotate_left; (· intro w'; go_simp; with_reducible rfl); rotate_left; (· simp only [Act.put, S_]; rfl)
            refine pure_ (i := 24) (N := some 74) (v := ?_) (a' := ?_) m25_ rfl rfl (an_ HT_) (fun _ _ _ h => h) (Or.inl ⟨by rfl, ?_⟩) ?_ ?_; rotate_left; (· intro w'; go_simp; with_reducible rfl); rotate_left; (· simp only [Act.put, S_]; rfl)
            refine pure_ (i := 25) (N := some 75) (v := ?_) (a' := ?_) m26_ rfl rfl (an_ HT_) (fun _ _ _ h => h) (Or.inl ⟨by rfl, ?_⟩) ?_ ?_; rotate_left; (· intro w'; go_simp; with_reducible rfl); rotate_left; (· simp only [Act.put, S_]; rfl)
            refine pure_ (i := 26) (N := some 76) (v := ?_) (a' := ?_) m27_ rfl rfl (an_ HT_) (fun _ _ _ h => h) (Or.inl ⟨by rfl, ?_⟩) ?_ ?_; rotate_left; (· intro w'; go_simp; with_reducible rfl); rotate_left; (· simp only [Act.put, S_]; rfl)
            refine pure_ (i := 27) (N := some 77) (v := ?_) (a' := ?_) m28_ rfl rfl (an_ HT_) (fun _ _ _ h => h) (Or.inl ⟨by rfl, ?_⟩) ?_ ?_; rotate_left; (· intro w'; go_simp; with_reducible rfl); rotate_left; (· simp only [Act.put, S_]; rfl)
            refine pure_ (i := 29) (N := some 79) (v := ?_) (a' := ?_) m29_ rfl rfl (an_ HT_) (fun _ _ _ h => h) (Or.inl ⟨by rfl, ?_⟩) ?_ ?_; rotate_left; (· intro w'; go_simp; with_reducible rfl); rotate_left; (· simp only [Act.put, S_]; rfl)
            refine pure_ (i := 30) (N := some 80) (v := ?_) (a' := ?_) m30_ rfl rfl (an_ HT_) (fun _ _ _ h => h) (Or.inl ⟨by rfl, ?_⟩) ?_ ?_; rotate_left; (· intro w'; go_simp; with_reducible rfl); rotate_left; (· simp only [Act.put, S_]; rfl)
            refine one_ (i := 28) (N := some 78) m33_ rfl rfl (one_of HT_.out (by kernel_rfl)) (by decide) (fun K hK => ?_)
            refine goes_ Try.func28 (by kernel_rfl) rfl #[.string a1, .string a2] (by rfl) rfl rfl (by (try simp only [List.map_toArray, List.map_cons, List.map_nil]); first | done | rfl | (simp only [List.length_drop, List.length_take]; rfl)) ?_
            with_reducible refine (etag_Strong.calls kj3 a1 a2 t198 _ A25.out).mono ?_
            rintro e w49 ⟨rfl, hb⟩
            refine ⟨_, rfl, ?_⟩
            have n0_ := Aside0.mk (blk_below (g := gb182) (o := .cells #[.bool a0_0, .string a0_1] 47 (0, 0)) (sm_ BK182) hb)
            have n1_ := Aside0.mk (blk_below (g := gb191) (o := .cells #[.bool t188, .string t189] 47 (0, 0)) (sm_ BK191) hb)
            have n2_ := Aside0.mk (blk_below (g := gb195) (o := .cells #[.bool t192, .string t193] 47 (0, 0)) (sm_ BK195) hb)
            have n3_ := Aside0.mk (below_step (by repeat (first | (with_reducible first | exact HB.out | apply below_alloc | apply pw_below_drewN | apply below_drew1 | refine below_set ?_ GE182.out | refine below_set ?_ GE191.out | refine below_set ?_ GE195.out) | exact HB.out)) hb)
            clear BK182
            clear BK191
            clear BK195
            clear HB
            have BK182 := n0_
            have BK191 := n1_
            have BK195 := n2_
            have HB := n3_
            clear n0_ n1_ n2_ n3_
            (try clear hb)
            (try clear hb2)
            (try clear hk)
            (try clear hi)
            refine hK.out _ _ ⟨(blk_cell BK182.out 0).trans rfl, (blk_cell BK182.out 1).trans rfl, (blk_cell BK191.out 0).trans rfl, (blk_cell BK191.out 1).trans rfl, (blk_cell BK195.out 0).trans rfl, (blk_cell BK195.out 1).trans rfl⟩ (fun hHeld => ?_); clear hK K
            refine norm_ (a' := ?_) ?_ ?_; rotate_left; (· show Act.put _ (some 78) _ = _; simp only [Act.put, S_]; rfl)
            refine one_ (i := 31) (N := some 81) m34_ rfl rfl (one_of HT_.out (by kernel_rfl)) (by decide) (fun K hK => ?_)
            refine goes_ Try.func29 (by kernel_rfl) rfl #[.string a1, .string a2] (by rfl) rfl rfl (by (try simp only [List.map_toArray, List.map_cons, List.map_nil]); first | done | rfl | (simp only [List.length_drop, List.length_take]; rfl)) ?_
            with_reducible refine (newsreelref27_Strong.calls kj3 a1 a2 t199 _ A26.out).mono ?_
            rintro e w50 ⟨rfl, hb⟩
            refine ⟨_, rfl, ?_⟩
            have n0_ := Aside0.mk (blk_below (g := gb182) (o := .cells #[.bool a0_0, .string a0_1] 47 (0, 0)) (sm_ BK182) hb)
            have n1_ := Aside0.mk (blk_below (g := gb191) (o := .cells #[.bool t188, .string t189] 47 (0, 0)) (sm_ BK191) hb)
            have n2_ := Aside0.mk (blk_below (g := gb195) (o := .cells #[.bool t192, .string t193] 47 (0, 0)) (sm_ BK195) hb)
            have n3_ := Aside0.mk (below_step (by repeat (first | (with_reducible first | exact HB.out | apply below_alloc | apply pw_below_drewN | apply below_drew1 | refine below_set ?_ GE182.out | refine below_set ?_ GE191.out | refine below_set ?_ GE195.out) | exact HB.out)) hb)
            clear BK182
            clear BK191
            clear BK195
            clear HB
            have BK182 := n0_
            have BK191 := n1_
            have BK195 := n2_
            have HB := n3_
            clear n0_ n1_ n2_ n3_
            (try clear hb)
            (try clear hb2)
            (try clear hk)
            (try clear hi)
            refine hK.out _ _ ⟨(blk_cell BK182.out 0).trans rfl, (blk_cell BK182.out 1).trans rfl, (blk_cell BK191.out 0).trans rfl, (blk_cell BK191.out 1).trans rfl, (blk_cell BK195.out 0).trans rfl, (blk_cell BK195.out 1).trans rfl⟩ (fun hHeld => ?_); clear hK K
            refine norm_ (a' := ?_) ?_ ?_; rotate_left; (· show Act.put _ (some 81) _ = _; simp only [Act.put, S_]; rfl)
            refine pure_ (i := 32) (N := some 82) (v := ?_) (a' := ?_) m35_ rfl rfl (an_ HT_) (fun _ _ _ h => h) (Or.inl ⟨by rfl, ?_⟩) ?_ ?_; rotate_left; (· intro w'; go_simp; with_reducible rfl); rotate_left; (· simp only [Act.put, S_]; rfl)
            refine pure_ (i := 33) (N := some 83) (v := ?_) (a' := ?_) m36_ rfl rfl (an_ HT_) (fun _ _ _ h => h) (Or.inl ⟨by rfl, ?_⟩) ?_ ?_; rotate_left; (· intro w'; go_simp; with_reducible rfl); rotate_left; (· simp only [Act.put, S_]; rfl)
            refine pure_ (i := 34) (N := some 84) (v := ?_) (a' := ?_) m37_ rfl rfl (an_ HT_) (fun _ _ _ h => h) (Or.inl ⟨by rfl, ?_⟩) ?_ ?_; rotate_left; (· intro w'; go_simp; with_reducible rfl); rotate_left; (· simp only [Act.put, S_]; rfl)
            refine pure_ (i := 35) (N := some 85) (v := ?_) (a' := ?_) m38_ rfl rfl (an_ HT_) (fun _ _ _ h => h) (Or.inl ⟨by rfl, ?_⟩) ?_ ?_; rotate_left; (· intro w'; go_simp; with_reducible rfl); rotate_left; (· simp only [Act.put, S_]; rfl)
            refine pure_ (i := 36) (N := some 86) (v := ?_) (a' := ?_) m39_ rfl rfl (an_ HT_) (fun _ _ _ h => h) (Or.inl ⟨by rfl, ?_⟩) ?_ ?_; rotate_left; (· intro w'; go_simp; with_reducible rfl); rotate_left; (· simp only [Act.put, S_]; rfl)
            refine pure_ (i := 38) (N := some 88) (v := ?_) (a' := ?_) m40_ rfl rfl (an_ HT_) (fun _ _ _ h => h) (Or.inl ⟨by rfl, ?_⟩) ?_ ?_; rotate_left; (· intro w'; go_simp; with_reducible rfl); rotate_left; (· simp only [Act.put, S_]; rfl)
            refine pure_ (i := 39) (N := some 89) (v := ?_) (a' := ?_) m41_ rfl rfl (an_ HT_) (fun _ _ _ h => h) (Or.inl ⟨by rfl, ?_⟩) ?_ ?_; rotate_left; (· intro w'; go_simp; with_reducible rfl); rotate_left; (· simp only [Act.put, S_]; rfl)
            refine one_ (i := 37) (N := some 87) m44_ rfl rfl (one_of HT_.out (by kernel_rfl)) (by decide) (fun K hK => ?_)
            refine goes_ Try.func30 (by kernel_rfl) rfl #[.string a1, .string a2] (by rfl) rfl rfl (by (try simp only [List.map_toArray, List.map_cons, List.map_nil]); first | done | rfl | (simp only [List.length_drop, List.length_take]; rfl)) ?_
            with_reducible refine (etag_Weak.calls kj3 a1 a2 t200 _ A28.out).mono ?_
            rintro e w51 ⟨rfl, hb⟩
            refine ⟨_, rfl, ?_⟩
            have n0_ := Aside0.mk (blk_below (g := gb182) (o := .cells #[.bool a0_0, .string a0_1] 47 (0, 0)) (sm_ BK182) hb)
            have n1_ := Aside0.mk (blk_below (g := gb191) (o := .cells #[.bool t188, .string t189] 47 (0, 0)) (sm_ BK191) hb)
            have n2_ := Aside0.mk (blk_below (g := gb195) (o := .cells #[.bool t192, .string t193] 47 (0, 0)) (sm_ BK195) hb)
            have n3_ := Aside0.mk (below_step (by repeat (first | (with_reducible first | exact HB.out | apply below_alloc | apply pw_below_drewN | apply below_drew1 | refine below_set ?_ GE182.out | refine below_set ?_ GE191.out | refine below_set ?_ GE195.out) | exact HB.out)) hb)
            clear BK182
            clear BK191
            clear BK195
            clear HB
            have BK182 := n0_
            have BK191 := n1_
            have BK195 := n2_
            have HB := n3_
            clear n0_ n1_ n2_ n3_
            (try clear hb)
            (try clear hb2)
            (try clear hk)
            (try clear hi)
            refine hK.out _ _ ⟨(blk_cell BK182.out 0).trans rfl, (blk_cell BK182.out 1).trans rfl, (blk_cell BK191.out 0).trans rfl, (blk_cell BK191.out 1).trans rfl, (blk_cell BK195.out 0).trans rfl, (blk_cell BK195.out 1).trans rfl⟩ (fun hHeld => ?_); clear hK K
            refine norm_ (a' := ?_) ?_ ?_; rotate_left; (· show Act.put _ (some 87) _ = _; simp only [Act.put, S_]; rfl)
            refine one_ (i := 40) (N := some 90) m45_ rfl rfl (one_of HT_.out (by kernel_rfl)) (by decide) (fun K hK => ?_)
            refine goes_ Try.func31 (by kernel_rfl) rfl #[.string a1, .string a2] (by rfl) rfl rfl (by (try simp only [List.map_toArray, List.map_cons, List.map_nil]); first | done | rfl | (simp only [List.length_drop, List.length_take]; rfl)) ?_
            with_reducible refine (newsreelref27_Weak.calls kj3 a1 a2 t201 _ A29.out).mono ?_
            rintro e w52 ⟨rfl, hb⟩
            refine ⟨_, rfl, ?_⟩
            have n0_ := Aside0.mk (blk_below (g := gb182) (o := .cells #[.bool a0_0, .string a0_1] 47 (0, 0)) (sm_ BK182) hb)
            have n1_ := Aside0.mk (blk_below (g := gb191) (o := .cells #[.bool t188, .string t189] 47 (0, 0)) (sm_ BK191) hb)
            have n2_ := Aside0.mk (blk_below (g := gb195) (o := .cells #[.bool t192, .string t193] 47 (0, 0)) (sm_ BK195) hb)
            have n3_ := Aside0.mk (below_step (by repeat (first | (with_reducible first | exact HB.out | apply below_alloc | apply pw_below_drewN | apply below_drew1 | refine below_set ?_ GE182.out | refine below_set ?_ GE191.out | refine below_set ?_ GE195.out) | exact HB.out)) hb)
            clear BK182
            clear BK191
            clear BK195
            clear HB
            have BK182 := n0_
            have BK191 := n1_
            have BK195 := n2_
            have HB := n3_
            clear n0_ n1_ n2_ n3_
            (try clear hb)
            (try clear hb2)
            (try clear hk)
            (try clear hi)
            refine hK.out _ _ ⟨(blk_cell BK182.out 0).trans rfl, (blk_cell BK182.out 1).trans rfl, (blk_cell BK191.out 0).trans rfl, (blk_cell BK191.out 1).trans rfl, (blk_cell BK195.out 0).trans rfl, (blk_cell BK195.out 1).trans rfl⟩ (fun hHeld => ?_); clear hK K
            refine norm_ (a' := ?_) ?_ ?_; rotate_left; (· show Act.put _ (some 90) _ = _; simp only [Act.put, S_]; rfl)
            refine pure_ (i := 41) (N := some 91) (v := ?_) (a' := ?_) m46_ rfl rfl (an_ HT_) (fun _ _ _ h => h) (Or.inl ⟨by rfl, ?_⟩) ?_ ?_; rotate_left; (· intro w'; go_simp; with_reducible rfl); rotate_left; (· simp only [Act.put, S_]; rfl)
            refine pure_ (i := 42) (N := some 92) (v := ?_) (a' := ?_) m47_ rfl rfl (an_ HT_) (fun _ _ _ h => h) (Or.inl ⟨by rfl, ?_⟩) ?_ ?_; rotate_left; (· intro w'; go_simp; with_reducible rfl); rotate_left; (· simp only [Act.put, S_]; rfl)
            refine pure_ (i := 43) (N := some 93) (v := ?_) (a' := ?_) m48_ rfl rfl (an_ HT_) (fun _ _ _ h => h) (Or.inl ⟨by rfl, ?_⟩) ?_ ?_; rotate_left; (· intro w'; go_simp; with_reducible rfl); rotate_left; (· simp only [Act.put, S_]; rfl)
            refine one_ (i := 44) (N := some 94) m49_ rfl rfl (one_of HT_.out (by kernel_rfl)) (by decide) (fun K hK => ?_)
            refine goes_ Try.func21 (by kernel_rfl) rfl #[] (by rfl) rfl rfl (by (try simp only [List.map_toArray, List.map_cons, List.map_nil]); first | done | rfl | (simp only [List.length_drop, List.length_take]; rfl)) ?_
            with_reducible refine (newsreellaw27_awake.calls kj3  t202 _ A31.out).mono ?_
            rintro e w53 ⟨rfl, hb⟩
            refine ⟨_, rfl, ?_⟩
            have n0_ := Aside0.mk (blk_below (g := gb182) (o := .cells #[.bool a0_0, .string a0_1] 47 (0, 0)) (sm_ BK182) hb)
            have n1_ := Aside0.mk (blk_below (g := gb191) (o := .cells #[.bool t188, .string t189] 47 (0, 0)) (sm_ BK191) hb)
            have n2_ := Aside0.mk (blk_below (g := gb195) (o := .cells #[.bool t192, .string t193] 47 (0, 0)) (sm_ BK195) hb)
            have n3_ := Aside0.mk (below_step (by repeat (first | (with_reducible first | exact HB.out | apply below_alloc | apply pw_below_drewN | apply below_drew1 | refine below_set ?_ GE182.out | refine below_set ?_ GE191.out | refine below_set ?_ GE195.out) | exact HB.out)) hb)
            clear BK182
            clear BK191
            clear BK195
            clear HB
            have BK182 := n0_
            have BK191 := n1_
            have BK195 := n2_
            have HB := n3_
            clear n0_ n1_ n2_ n3_
            (try clear hb)
            (try clear hb2)
            (try clear hk)
            (try clear hi)
            refine hK.out _ _ ⟨(blk_cell BK182.out 0).trans rfl, (blk_cell BK182.out 1).trans rfl, (blk_cell BK191.out 0).trans rfl, (blk_cell BK191.out 1).trans rfl, (blk_cell BK195.out 0).trans rfl, (blk_cell BK195.out 1).trans rfl⟩ (fun hHeld => ?_); clear hK K
            refine norm_ (a' := ?_) ?_ ?_; rotate_left; (· show Act.put _ (some 94) _ = _; simp only [Act.put, S_]; rfl)
            refine pure_ (i := 45) (N := some 95) (v := ?_) (a' := ?_) m50_ rfl rfl (an_ HT_) (fun _ _ _ h => h) (Or.inl ⟨by rfl, ?_⟩) ?_ ?_; rotate_left; (· intro w'; go_simp; with_reducible rfl); rotate_left; (· simp only [Act.put, S_]; rfl)
            refine pure_ (i := 46) (N := some 6) (v := ?_) (a' := ?_) m51_ rfl rfl (an_ HT_) (fun _ _ _ h => h) (Or.inl ⟨by rfl, ?_⟩) ?_ ?_; rotate_left; (· intro w'; go_simp; with_reducible rfl); rotate_left; (· simp only [Act.put, S_]; rfl)
            refine done_ (done_of HT_.out (by kernel_rfl)) ?_
            try go_wp2
            go_ret
            exact ⟨by first | rfl | (simp [errW_none, errW_some] <;> rfl) | (simp [*, errW_none, errW_some] <;> rfl), by repeat (first | (with_reducible first | exact HB.out | apply below_alloc | apply pw_below_drewN | apply below_drew1 | refine below_set ?_ GE182.out | refine below_set ?_ GE191.out | refine below_set ?_ GE195.out) | exact HB.out)⟩
           ·rw [if_neg c30] at H
            have c30b0 : (t200 == t201) = false := by simpa using c30
            (try (have c30b1 : decide (t200 = t201) = false := by simpa using c30))
            (try (have c30b2 : (t200 == t201) = false := by simpa using c30))
            (try (have c30b3 : ¬ (t200 = t201) := by simpa using c30))
            clear c30
            obtain rfl := Option.some.inj H
            have hcz54_0 : wc.cell? ⟨gb182, 0, none⟩ = some (.bool a0_0) := (blk_cell BK182.out 0).trans rfl
            have hcz54_1 : wc.cell? ⟨gb182, 1, none⟩ = some (.string a0_1) := (blk_cell BK182.out 1).trans rfl
            have hfz54_0 := blk_frozen BK182.out 0
            have hfz54_1 := blk_frozen BK182.out 1
            try go_wp2_with (first | ((with_reducible refine gate_callee (f := 22) rfl ?_); refine goesL_ (some 32) rfl rfl Try.func22 (by kernel_rfl) rfl #[.agg #[.bool a0_0, .string a0_1]] rfl (by (try simp only [List.map_toArray, List.map_cons, List.map_nil]); first | done | rfl | (simp only [List.length_drop, List.length_take]; rfl)) ?_; (with_reducible refine (etag_Put.calls kj3 a0_0 a0_1 t184 t185 _ A14.out).mono ?_); rintro e w55 ⟨rfl, hb⟩; refine ⟨_, rfl, ?_⟩; have n0_ := Aside0.mk (blk_below (g := gb182) (o := .cells #[.bool a0_0, .string a0_1] 47 (0, 0)) (sm_ BK182) hb); have n1_ := Aside0.mk (below_step (by repeat (first | (with_reducible first | exact HB.out | apply below_alloc | apply pw_below_drewN | apply below_drew1 | refine below_set ?_ GE182.out) | exact HB.out)) hb); clear BK182; clear HB; have BK182 := n0_; have HB := n1_; clear n0_ n1_; (try clear hb); (try clear hb2); (try clear hk); (try clear hi); have hcz56_0 : w55.cell? ⟨gb182, 0, none⟩ = some (.bool a0_0) := (blk_cell BK182.out 0).trans rfl; have hcz56_1 : w55.cell? ⟨gb182, 1, none⟩ = some (.string a0_1) := (blk_cell BK182.out 1).trans rfl; have hfz56_0 := blk_frozen BK182.out 0; have hfz56_1 := blk_frozen BK182.out 1) | ((with_reducible refine gate_callee (f := 23) rfl ?_); refine goesL_ (some 37) rfl rfl Try.func23 (by kernel_rfl) rfl #[.agg #[.bool a0_0, .string a0_1]] rfl (by (try simp only [List.map_toArray, List.map_cons, List.map_nil]); first | done | rfl | (simp only [List.length_drop, List.length_take]; rfl)) ?_; (with_reducible refine (newsreelref27_Put.calls kj3 a0_0 a0_1 t186 t187 _ A15.out).mono ?_); rintro e w57 ⟨rfl, hb⟩; refine ⟨_, rfl, ?_⟩; have n0_ := Aside0.mk (blk_below (g := gb182) (o := .cells #[.bool a0_0, .string a0_1] 47 (0, 0)) (sm_ BK182) hb); have n1_ := Aside0.mk (below_step (by repeat (first | (with_reducible first | exact HB.out | apply below_alloc | apply pw_below_drewN | apply below_drew1 | refine below_set ?_ GE182.out) | exact HB.out)) hb); clear BK182; clear HB; have BK182 := n0_; have HB := n1_; clear n0_ n1_; (try clear hb); (try clear hb2); (try clear hk); (try clear hi)) | ((with_reducible refine gate_callee (f := 24) rfl ?_); refine goesL_ (some 42) rfl rfl Try.func24 (by kernel_rfl) rfl #[.string a1] rfl (by (try simp only [List.map_toArray, List.map_cons, List.map_nil]); first | done | rfl | (simp only [List.length_drop, List.length_take]; rfl)) ?_; (with_reducible refine (etag_Get.calls kj3 a1 t188 t189 t190 _ A16.out).mono ?_); rintro e w58 ⟨rfl, hb⟩; refine ⟨_, rfl, ?_⟩; have n0_ := Aside0.mk (blk_below (g := gb182) (o := .cells #[.bool a0_0, .string a0_1] 47 (0, 0)) (sm_ BK182) hb); have n1_ := Aside0.mk (below_step (by repeat (first | (with_reducible first | exact HB.out | apply below_alloc | apply pw_below_drewN | apply below_drew1 | refine below_set ?_ GE182.out) | exact HB.out)) hb); clear BK182; clear HB; have BK182 := n0_; have HB := n1_; clear n0_ n1_; (try clear hb); (try clear hb2); (try clear hk); (try clear hi)) | ((with_reducible refine gate_dst (N := 11) rfl ?_); (try (refine gate_guard (by rfl) ?_; dsimp only)); refine box_event ?hg (N := 11) ?hd (cs := #[.bool false, .string (⟨#[]⟩ : ByteArray)]) (t := 47) ?hr ?_; (case hd => rfl); (case hg => rfl); (case hr => first | (go_simp; done) | (go_simp; rfl)); intro gb191 hg w59 hbox hb; have n0_ := Aside0.mk (blk_below (g := gb182) (o := .cells #[.bool a0_0, .string a0_1] 47 (0, 0)) (sm_ BK182) hb); have n1_ := Aside0.mk (below_step (by repeat (first | (with_reducible first | exact HB.out | apply below_alloc | apply pw_below_drewN | apply below_drew1 | refine below_set ?_ GE182.out) | exact HB.out)) hb); have n2_ := Aside0.mk (hbox); have n3_ := Aside0.mk ((by rw [hg]; exact (below_size (by repeat (first | (with_reducible first | exact HB.out | apply below_alloc | apply pw_below_drewN | apply below_drew1 | refine below_set ?_ GE182.out) | exact HB.out))) : w.heap.size ≤ gb191)); have n4_ := Aside0.mk ((by rw [hg]; exact (below_size (by repeat (first | (with_reducible first | exact HB.out | apply below_alloc | apply pw_below_drewN | apply below_drew1 | refine below_set ?_ GE182.out) | exact HB.out))) : w.heap.size ≤ gb191)); have n5_ := Aside0.mk ((by rw [hg]; exact Nat.ne_of_lt (blk_lt (g := gb182) (o := .cells #[.bool a0_0, .string a0_1] 47 (0, 0)) (sm_ BK182)) : gb182 ≠ gb191)); have n6_ := Aside0.mk ((by rw [hg]; exact Nat.ne_of_gt (blk_lt (g := gb182) (o := .cells #[.bool a0_0, .string a0_1] 47 (0, 0)) (sm_ BK182)) : gb191 ≠ gb182)); clear BK182; clear HB; have BK182 := n0_; have HB := n1_; have BK191 := n2_; have GW191 := n3_; have GE191 := n4_; have NB182_191 := n5_; have NB191_182 := n6_; clear n0_ n1_ n2_ n3_ n4_ n5_ n6_; clear hb hbox hg; have hnb60 := NB191_182.out; have hnc60 := NB182_191.out; have hcz61_0 : w59.cell? ⟨gb191, 0, none⟩ = some (.bool false) := (blk_cell BK191.out 0).trans rfl; have hcz61_1 : w59.cell? ⟨gb191, 1, none⟩ = some (.string (⟨#[]⟩ : ByteArray)) := (blk_cell BK191.out 1).trans rfl; have hfz61_0 := blk_frozen BK191.out 0; have hfz61_1 := blk_frozen BK191.out 1) | ((with_reducible refine gate_callee (f := 25) rfl ?_); refine goesL_ (some 47) rfl rfl Try.func25 (by kernel_rfl) rfl #[.string a1] rfl (by (try simp only [List.map_toArray, List.map_cons, List.map_nil]); first | done | rfl | (simp only [List.length_drop, List.length_take]; rfl)) ?_; (with_reducible refine (newsreelref27_Get.calls kj3 a1 t192 t193 t194 _ A17.out).mono ?_); rintro e w62 ⟨rfl, hb⟩; refine ⟨_, rfl, ?_⟩; have n0_ := Aside0.mk (blk_below (g := gb182) (o := .cells #[.bool a0_0, .string a0_1] 47 (0, 0)) (by (with_reducible repeat (first | refine blk_drewN ?_ _ | refine blk_drew ?_ | refine blk_alloc ?_ _)); refine blk_far ?_ NB182_191.out _; (with_reducible repeat (first | refine blk_drewN ?_ _ | refine blk_drew ?_ | refine blk_alloc ?_ _)); refine blk_far ?_ NB182_191.out _; (with_reducible repeat (first | refine blk_drewN ?_ _ | refine blk_drew ?_ | refine blk_alloc ?_ _)); exact BK182.out) hb); have n1_ := Aside0.mk (blk_below (g := gb191) (o := .cells #[.bool t188, .string t189] 47 (0, 0)) (by (with_reducible repeat (first | refine blk_drewN ?_ _ | refine blk_drew ?_ | refine blk_alloc ?_ _)); refine blk_put (cs := #[.bool t188, .string (⟨#[]⟩ : ByteArray)]) ?_ 1 _ rfl; (with_reducible repeat (first | refine blk_drewN ?_ _ | refine blk_drew ?_ | refine blk_alloc ?_ _)); refine blk_put (cs := #[.bool false, .string (⟨#[]⟩ : ByteArray)]) ?_ 0 _ rfl; (with_reducible repeat (first | refine blk_drewN ?_ _ | refine blk_drew ?_ | refine blk_alloc ?_ _)); exact BK191.out) hb); have n2_ := Aside0.mk (below_step (by repeat (first | (with_reducible first | exact HB.out | apply below_alloc | apply pw_below_drewN | apply below_drew1 | refine below_set ?_ GE182.out | refine below_set ?_ GE191.out) | exact HB.out)) hb); clear BK182; clear BK191; clear HB; have BK182 := n0_; have BK191 := n1_; have HB := n2_; clear n0_ n1_ n2_; (try clear hb); (try clear hb2); (try clear hk); (try clear hi)) | ((with_reducible refine gate_dst (N := 13) rfl ?_); (try (refine gate_guard (by rfl) ?_; dsimp only)); refine box_event ?hg (N := 13) ?hd (cs := #[.bool false, .string (⟨#[]⟩ : ByteArray)]) (t := 47) ?hr ?_; (case hd => rfl); (case hg => rfl); (case hr => first | (go_simp; done) | (go_simp; rfl)); intro gb195 hg w63 hbox hb; have n0_ := Aside0.mk (blk_below (g := gb182) (o := .cells #[.bool a0_0, .string a0_1] 47 (0, 0)) (sm_ BK182) hb); have n1_ := Aside0.mk (blk_below (g := gb191) (o := .cells #[.bool t188, .string t189] 47 (0, 0)) (sm_ BK191) hb); have n2_ := Aside0.mk (below_step (by repeat (first | (with_reducible first | exact HB.out | apply below_alloc | apply pw_below_drewN | apply below_drew1 | refine below_set ?_ GE182.out | refine below_set ?_ GE191.out) | exact HB.out)) hb); have n3_ := Aside0.mk (hbox); have n4_ := Aside0.mk ((by rw [hg]; exact (below_size (by repeat (first | (with_reducible first | exact HB.out | apply below_alloc | apply pw_below_drewN | apply below_drew1 | refine below_set ?_ GE182.out | refine below_set ?_ GE191.out) | exact HB.out))) : w.heap.size ≤ gb195)); have n5_ := Aside0.mk ((by rw [hg]; exact (below_size (by repeat (first | (with_reducible first | exact HB.out | apply below_alloc | apply pw_below_drewN | apply below_drew1 | refine below_set ?_ GE182.out | refine below_set ?_ GE191.out) | exact HB.out))) : w.heap.size ≤ gb195)); have n6_ := Aside0.mk ((by rw [hg]; exact Nat.ne_of_lt (blk_lt (g := gb182) (o := .cells #[.bool a0_0, .string a0_1] 47 (0, 0)) (sm_ BK182)) : gb182 ≠ gb195)); have n7_ := Aside0.mk ((by rw [hg]; exact Nat.ne_of_gt (blk_lt (g := gb182) (o := .cells #[.bool a0_0, .string a0_1] 47 (0, 0)) (sm_ BK182)) : gb195 ≠ gb182)); have n8_ := Aside0.mk ((by rw [hg]; exact Nat.ne_of_lt (blk_lt (g := gb191) (o := .cells #[.bool t188, .string t189] 47 (0, 0)) (sm_ BK191)) : gb191 ≠ gb195)); have n9_ := Aside0.mk ((by rw [hg]; exact Nat.ne_of_gt (blk_lt (g := gb191) (o := .cells #[.bool t188, .string t189] 47 (0, 0)) (sm_ BK191)) : gb195 ≠ gb191)); clear BK182; clear BK191; clear HB; have BK182 := n0_; have BK191 := n1_; have HB := n2_; have BK195 := n3_; have GW195 := n4_; have GE195 := n5_; have NB182_195 := n6_; have NB195_182 := n7_; have NB191_195 := n8_; have NB195_191 := n9_; clear n0_ n1_ n2_ n3_ n4_ n5_ n6_ n7_ n8_ n9_; clear hb hbox hg; have hnb64 := NB195_182.out; have hnc64 := NB182_195.out; have hnb65 := NB195_191.out; have hnc65 := NB191_195.out; have hcz66_0 : w63.cell? ⟨gb195, 0, none⟩ = some (.bool false) := (blk_cell BK195.out 0).trans rfl; have hcz66_1 : w63.cell? ⟨gb195, 1, none⟩ = some (.string (⟨#[]⟩ : ByteArray)) := (blk_cell BK195.out 1).trans rfl; have hfz66_0 := blk_frozen BK195.out 0; have hfz66_1 := blk_frozen BK195.out 1))
            have n0_ : Aside0 (((w63.setCell ⟨gb195, 0, none⟩ (.bool t192)).setCell ⟨gb195, 1, none⟩ (.string t193)).heap[gb182]? = some (.cells #[.bool a0_0, .string a0_1] 47 (0, 0))) := ⟨by (with_reducible repeat (first | refine blk_drewN ?_ _ | refine blk_drew ?_ | refine blk_alloc ?_ _)); refine blk_far ?_ NB182_195.out _; (with_reducible repeat (first | refine blk_drewN ?_ _ | refine blk_drew ?_ | refine blk_alloc ?_ _)); refine blk_far ?_ NB182_195.out _; (with_reducible repeat (first | refine blk_drewN ?_ _ | refine blk_drew ?_ | refine blk_alloc ?_ _)); exact BK182.out⟩
            have n1_ : Aside0 (((w63.setCell ⟨gb195, 0, none⟩ (.bool t192)).setCell ⟨gb195, 1, none⟩ (.string t193)).heap[gb191]? = some (.cells #[.bool t188, .string t189] 47 (0, 0))) := ⟨by (with_reducible repeat (first | refine blk_drewN ?_ _ | refine blk_drew ?_ | refine blk_alloc ?_ _)); refine blk_far ?_ NB191_195.out _; (with_reducible repeat (first | refine blk_drewN ?_ _ | refine blk_drew ?_ | refine blk_alloc ?_ _)); refine blk_far ?_ NB191_195.out _; (with_reducible repeat (first | refine blk_drewN ?_ _ | refine blk_drew ?_ | refine blk_alloc ?_ _)); exact BK191.out⟩
            have n2_ : Aside0 (((w63.setCell ⟨gb195, 0, none⟩ (.bool t192)).setCell ⟨gb195, 1, none⟩ (.string t193)).heap[gb195]? = some (.cells #[.bool t192, .string t193] 47 (0, 0))) := ⟨by (with_reducible repeat (first | refine blk_drewN ?_ _ | refine blk_drew ?_ | refine blk_alloc ?_ _)); refine blk_put (cs := #[.bool t192, .string (⟨#[]⟩ : ByteArray)]) ?_ 1 _ rfl; (with_reducible repeat (first | refine blk_drewN ?_ _ | refine blk_drew ?_ | refine blk_alloc ?_ _)); refine blk_put (cs := #[.bool false, .string (⟨#[]⟩ : ByteArray)]) ?_ 0 _ rfl; (with_reducible repeat (first | refine blk_drewN ?_ _ | refine blk_drew ?_ | refine blk_alloc ?_ _)); exact BK195.out⟩
            have n3_ : Aside0 (Below w.heap.size w ((w63.setCell ⟨gb195, 0, none⟩ (.bool t192)).setCell ⟨gb195, 1, none⟩ (.string t193))) := ⟨by repeat (first | (with_reducible first | exact HB.out | apply below_alloc | apply pw_below_drewN | apply below_drew1 | refine below_set ?_ GE182.out | refine below_set ?_ GE191.out | refine below_set ?_ GE195.out) | exact HB.out)⟩
            (try clear BK182)
            (try clear BK191)
            (try clear BK195)
            (try clear HB)
            generalize ((w63.setCell ⟨gb195, 0, none⟩ (.bool t192)).setCell ⟨gb195, 1, none⟩ (.string t193)) = w67 at n0_ n1_ n2_ n3_ ⊢
            have BK182 := n0_
            have BK191 := n1_
            have BK195 := n2_
            have HB := n3_
            clear n0_ n1_ n2_ n3_
            have n0_ := Aside0.mk (blk_drew BK182.out)
            have n1_ := Aside0.mk (blk_drew BK191.out)
            have n2_ := Aside0.mk (blk_drew BK195.out)
            have n3_ := Aside0.mk (below_drew1 HB.out)
            clear BK182
            clear BK191
            clear BK195
            clear HB
            have BK182 := n0_
            have BK191 := n1_
            have BK195 := n2_
            have HB := n3_
            clear n0_ n1_ n2_ n3_
            refine start_ (n := 47) (S := fun w' => w'.cell? ⟨gb182, 0, none⟩ = some (.bool a0_0) ∧ w'.cell? ⟨gb182, 1, none⟩ = some (.string a0_1) ∧ w'.cell? ⟨gb191, 0, none⟩ = some (.bool t188) ∧ w'.cell? ⟨gb191, 1, none⟩ = some (.string t189) ∧ w'.cell? ⟨gb195, 0, none⟩ = some (.bool t192) ∧ w'.cell? ⟨gb195, 1, none⟩ = some (.string t193)) (ds := []) m0_ (by kernel_rfl) rfl rfl ⟨(blk_cell BK182.out 0).trans rfl, (blk_cell BK182.out 1).trans rfl, (blk_cell BK191.out 0).trans rfl, (blk_cell BK191.out 1).trans rfl, (blk_cell BK195.out 0).trans rfl, (blk_cell BK195.out 1).trans rfl⟩ (fun hHeld => ?_); refine with_tabW newsreellaw27_EtagTells.tab7 newsreellaw27_EtagTells.bits7 (fun HT_ HW_ => ?_)
            generalize w67.drew = w68 at BK182 BK191 BK195 HB hHeld ⊢
            refine take_ (i := 0) (N := some 50) (v := ?_) (a' := ?_) m1_ rfl rfl (take_ofW HT_.out HW_.out (by kernel_rfl)) (fun _ _ _ h => h) (Or.inl ⟨by rfl, ?_⟩) hHeld ?_ ?_
            rotate_left
            ·rintro w' ⟨s0, s1, s2, s3, s4, s5⟩
             go_simp
             with_reducible rfl
            rotate_left
            ·simp only [Act.put, S_]
             rfl
            refine take_ (i := 2) (N := some 52) (v := ?_) (a' := ?_) m2_ rfl rfl (take_ofW HT_.out HW_.out (by kernel_rfl)) (fun _ _ _ h => h) (Or.inl ⟨by rfl, ?_⟩) hHeld ?_ ?_
            rotate_left
            ·rintro w' ⟨s0, s1, s2, s3, s4, s5⟩
             go_simp
             with_reducible rfl
            rotate_left
            ·simp only [Act.put, S_]
             rfl
            refine one_ (i := 1) (N := some 51) m3_ rfl rfl (one_of HT_.out (by kernel_rfl)) (by decide) (fun K hK => ?_)
            refine goes_ Try.func26 (by kernel_rfl) rfl #[.agg #[.bool a0_0, .string a0_1]] (by rfl) rfl rfl (by (try simp only [List.map_toArray, List.map_cons, List.map_nil]); first | done | rfl | (simp only [List.length_drop, List.length_take]; rfl)) ?_
            with_reducible refine (etag_Right.calls kj3 a0_0 a0_1 t196 _ A18.out).mono ?_
            rintro e w69 ⟨rfl, hb⟩
            refine ⟨_, rfl, ?_⟩
            have n0_ := Aside0.mk (blk_below (g := gb182) (o := .cells #[.bool a0_0, .string a0_1] 47 (0, 0)) (sm_ BK182) hb)
            have n1_ := Aside0.mk (blk_below (g := gb191) (o := .cells #[.bool t188, .string t189] 47 (0, 0)) (sm_ BK191) hb)
            have n2_ := Aside0.mk (blk_below (g := gb195) (o := .cells #[.bool t192, .string t193] 47 (0, 0)) (sm_ BK195) hb)
            have n3_ := Aside0.mk (below_step (by repeat (first | (with_reducible first | exact HB.out | apply below_alloc | apply pw_below_drewN | apply below_drew1 | refine below_set ?_ GE182.out | refine below_set ?_ GE191.out | refine below_set ?_ GE195.out) | exact HB.out)) hb)
            clear BK182
            clear BK191
            clear BK195
            clear HB
            have BK182 := n0_
            have BK191 := n1_
            have BK195 := n2_
            have HB := n3_
            clear n0_ n1_ n2_ n3_
            (try clear hb)
            (try clear hb2)
            (try clear hk)
            (try clear hi)
            refine hK.out _ _ ⟨(blk_cell BK182.out 0).trans rfl, (blk_cell BK182.out 1).trans rfl, (blk_cell BK191.out 0).trans rfl, (blk_cell BK191.out 1).trans rfl, (blk_cell BK195.out 0).trans rfl, (blk_cell BK195.out 1).trans rfl⟩ (fun hHeld => ?_); clear hK K
            refine norm_ (a' := ?_) ?_ ?_; rotate_left; (· show Act.put _ (some 51) _ = _; simp only [Act.put, S_]; rfl)
            refine one_ (i := 3) (N := some 53) m4_ rfl rfl (one_of HT_.out (by kernel_rfl)) (by decide) (fun K hK => ?_)
            refine goes_ Try.func27 (by kernel_rfl) rfl #[.agg #[.bool a0_0, .string a0_1]] (by rfl) rfl rfl (by (try simp only [List.map_toArray, List.map_cons, List.map_nil]); first | done | rfl | (simp only [List.length_drop, List.length_take]; rfl)) ?_
            with_reducible refine (newsreelref27_Right.calls kj3 a0_0 a0_1 t197 _ A19.out).mono ?_
            rintro e w70 ⟨rfl, hb⟩
            refine ⟨_, rfl, ?_⟩
            have n0_ := Aside0.mk (blk_below (g := gb182) (o := .cells #[.bool a0_0, .string a0_1] 47 (0, 0)) (sm_ BK182) hb)
            have n1_ := Aside0.mk (blk_below (g := gb191) (o := .cells #[.bool t188, .string t189] 47 (0, 0)) (sm_ BK191) hb)
            have n2_ := Aside0.mk (blk_below (g := gb195) (o := .cells #[.bool t192, .string t193] 47 (0, 0)) (sm_ BK195) hb)
            have n3_ := Aside0.mk (below_step (by repeat (first | (with_reducible first | exact HB.out | apply below_alloc | apply pw_below_drewN | apply below_drew1 | refine below_set ?_ GE182.out | refine below_set ?_ GE191.out | refine below_set ?_ GE195.out) | exact HB.out)) hb)
            clear BK182
            clear BK191
            clear BK195
            clear HB
            have BK182 := n0_
            have BK191 := n1_
            have BK195 := n2_
            have HB := n3_
            clear n0_ n1_ n2_ n3_
            (try clear hb)
            (try clear hb2)
            (try clear hk)
            (try clear hi)
            refine hK.out _ _ ⟨(blk_cell BK182.out 0).trans rfl, (blk_cell BK182.out 1).trans rfl, (blk_cell BK191.out 0).trans rfl, (blk_cell BK191.out 1).trans rfl, (blk_cell BK195.out 0).trans rfl, (blk_cell BK195.out 1).trans rfl⟩ (fun hHeld => ?_); clear hK K
            refine norm_ (a' := ?_) ?_ ?_; rotate_left; (· show Act.put _ (some 53) _ = _; simp only [Act.put, S_]; rfl)
            refine pure_ (i := 4) (N := some 54) (v := ?_) (a' := ?_) m5_ rfl rfl (an_ HT_) (fun _ _ _ h => h) (Or.inl ⟨by rfl, ?_⟩) ?_ ?_; rotate_left; (· intro w'; go_simp; with_reducible rfl); rotate_left; (· simp only [Act.put, S_]; rfl)
            refine pure_ (i := 5) (N := some 55) (v := ?_) (a' := ?_) m6_ rfl rfl (an_ HT_) (fun _ _ _ h => h) (Or.inl ⟨by rfl, ?_⟩) ?_ ?_; rotate_left; (· intro w'; go_simp; with_reducible rfl); rotate_left; (· simp only [Act.put, S_]; rfl)
            refine pure_ (i := 6) (N := some 56) (v := ?_) (a' := ?_) m7_ rfl rfl (an_ HT_) (fun _ _ _ h => h) (Or.inl ⟨by rfl, ?_⟩) ?_ ?_; rotate_left; (· intro w'; go_simp; with_reducible rfl); rotate_left; (· simp only [Act.put, S_]; rfl)
            refine pure_ (i := 7) (N := some 57) (v := ?_) (a' := ?_) m8_ rfl rfl (an_ HT_) (fun _ _ _ h => h) (Or.inl ⟨by rfl, ?_⟩) ?_ ?_; rotate_left; (· intro w'; go_simp; with_reducible rfl); rotate_left; (· simp only [Act.put, S_]; rfl)
            refine pure_ (i := 8) (N := some 58) (v := ?_) (a' := ?_) m9_ rfl rfl (an_ HT_) (fun _ _ _ h => h) (Or.inl ⟨by rfl, ?_⟩) ?_ ?_; rotate_left; (· intro w'; go_simp; with_reducible rfl); rotate_left; (· simp only [Act.put, S_]; rfl)
            refine pure_ (i := 9) (N := some 59) (v := ?_) (a' := ?_) m10_ rfl rfl (an_ HT_) (fun _ _ _ h => h) (Or.inl ⟨by rfl, ?_⟩) ?_ ?_; rotate_left; (· intro w'; go_simp; with_reducible rfl); rotate_left; (· simp only [Act.put, S_]; rfl)
            refine pure_ (i := 10) (N := some 60) (v := ?_) (a' := ?_) m11_ rfl rfl (an_ HT_) (fun _ _ _ h => h) (Or.inl ⟨by rfl, ?_⟩) ?_ ?_; rotate_left; (· intro w'; go_simp; with_reducible rfl); rotate_left; (· simp only [Act.put, S_]; rfl)
            refine pure_ (i := 11) (N := some 61) (v := ?_) (a' := ?_) m12_ rfl rfl (an_ HT_) (fun _ _ _ h => h) (Or.inl ⟨by rfl, ?_⟩) ?_ ?_; rotate_left; (· intro w'; go_simp; with_reducible rfl); rotate_left; (· simp only [Act.put, S_]; rfl)
            refine pure_ (i := 12) (N := some 62) (v := ?_) (a' := ?_) m13_ rfl rfl (an_ HT_) (fun _ _ _ h => h) (Or.inl ⟨by rfl, ?_⟩) ?_ ?_; rotate_left; (· intro w'; go_simp; with_reducible rfl); rotate_left; (· simp only [Act.put, S_]; rfl)
            refine pure_ (i := 13) (N := some 63) (v := ?_) (a' := ?_) m14_ rfl rfl (an_ HT_) (fun _ _ _ h => h) (Or.inl ⟨by rfl, ?_⟩) ?_ ?_; rotate_left; (· intro w'; go_simp; with_reducible rfl); rotate_left; (· simp only [Act.put, S_]; rfl)
            refine pure_ (i := 14) (N := some 64) (v := ?_) (a' := ?_) m15_ rfl rfl (an_ HT_) (fun _ _ _ h => h) (Or.inl ⟨by rfl, ?_⟩) ?_ ?_; rotate_left; (· intro w'; go_simp; with_reducible rfl); rotate_left; (· simp only [Act.put, S_]; rfl)
            refine pure_ (i := 15) (N := some 65) (v := ?_) (a' := ?_) m16_ rfl rfl (an_ HT_) (fun _ _ _ h => h) (Or.inl ⟨by rfl, ?_⟩) ?_ ?_; rotate_left; (· intro w'; go_simp; with_reducible rfl); rotate_left; (· simp only [Act.put, S_]; rfl)
            refine take_ (i := 16) (N := some 66) (v := ?_) (a' := ?_) m17_ rfl rfl (take_ofW HT_.out HW_.out (by kernel_rfl)) (fun _ _ _ h => h) (Or.inl ⟨by rfl, ?_⟩) hHeld ?_ ?_
            rotate_left
            ·rintro w' ⟨s0, s1, s2, s3, s4, s5⟩
             go_simp
             with_reducible rfl
            rotate_left
            ·simp only [Act.put, S_]
             rfl
            refine take_ (i := 17) (N := some 67) (v := ?_) (a' := ?_) m18_ rfl rfl (take_ofW HT_.out HW_.out (by kernel_rfl)) (fun _ _ _ h => h) (Or.inl ⟨by rfl, ?_⟩) hHeld ?_ ?_
            rotate_left
            ·rintro w' ⟨s0, s1, s2, s3, s4, s5⟩
             go_simp
             with_reducible rfl
            rotate_left
            ·simp only [Act.put, S_]
             rfl
            refine pure_ (i := 18) (N := some 68) (v := ?_) (a' := ?_) m19_ rfl rfl (an_ HT_) (fun _ _ _ h => h) (Or.inl ⟨by rfl, ?_⟩) ?_ ?_; rotate_left; (· intro w'; go_simp; with_reducible rfl); rotate_left; (· simp only [Act.put, S_]; rfl)
            refine pure_ (i := 19) (N := some 69) (v := ?_) (a' := ?_) m20_ rfl rfl (an_ HT_) (fun _ _ _ h => h) (Or.inl ⟨by rfl, ?_⟩) ?_ ?_; rotate_left; (· intro w'; go_simp; with_reducible rfl); rotate_left; (· simp only [Act.put, S_]; rfl)
            refine pure_ (i := 20) (N := some 70) (v := ?_) (a' := ?_) m21_ rfl rfl (an_ HT_) (fun _ _ _ h => h) (Or.inl ⟨by rfl, ?_⟩) ?_ ?_; rotate_left; (· intro w'; go_simp; with_reducible rfl); rotate_left; (· simp only [Act.put, S_]; rfl)
            refine pure_ (i := 21) (N := some 71) (v := ?_) (a' := ?_) m22_ rfl rfl (an_ HT_) (fun _ _ _ h => h) (Or.inl ⟨by rfl, ?_⟩) ?_ ?_; rotate_left; (· intro w'; go_simp; with_reducible rfl); rotate_left; (· simp only [Act.put, S_]; rfl)
            refine pure_ (i := 22) (N := some 72) (v := ?_) (a' := ?_) m23_ rfl rfl (an_ HT_) (fun _ _ _ h => h) (Or.inl ⟨by rfl, ?_⟩) ?_ ?_; rotate_left; (· intro w'; go_simp; with_reducible rfl); rotate_left; (· simp only [Act.put, S_]; rfl)
            refine pure_ (i := 23) (N := some 73) (v := ?_) (a' := ?_) m24_ rfl rfl (an_ HT_) (fun _ _ _ h => h) (Or.inl ⟨by rfl, ?_⟩) ?_ ?_; rotate_left; (· intro w'; go_simp; with_reducible rfl); rotate_left; (· simp only [Act.put, S_]; rfl)
            refine pure_ (i := 24) (N := some 74) (v := ?_) (a' := ?_) m25_ rfl rfl (an_ HT_) (fun _ _ _ h => h) (Or.inl ⟨by rfl, ?_⟩) ?_ ?_; rotate_left; (· intro w'; go_simp; with_reducible rfl); rotate_left; (· simp only [Act.put, S_]; rfl)
            refine pure_ (i := 25) (N := some 75) (v := ?_) (a' := ?_) m26_ rfl rfl (an_ HT_) (fun _ _ _ h => h) (Or.inl ⟨by rfl, ?_⟩) ?_ ?_; rotate_left; (· intro w'; go_simp; with_reducible rfl); rotate_left; (· simp only [Act.put, S_]; rfl)
            refine pure_ (i := 26) (N := some 76) (v := ?_) (a' := ?_) m27_ rfl rfl (an_ HT_) (fun _ _ _ h => h) (Or.inl ⟨by rfl, ?_⟩) ?_ ?_; rotate_left; (· intro w'; go_simp; with_reducible rfl); rotate_left; (· simp only [Act.put, S_]; rfl)
            refine pure_ (i := 27) (N := some 77) (v := ?_) (a' := ?_) m28_ rfl rfl (an_ HT_) (fun _ _ _ h => h) (Or.inl ⟨by rfl, ?_⟩) ?_ ?_; rotate_left; (· intro w'; go_simp; with_reducible rfl); rotate_left; (· simp only [Act.put, S_]; rfl)
            refine pure_ (i := 29) (N := some 79) (v := ?_) (a' := ?_) m29_ rfl rfl (an_ HT_) (fun _ _ _ h => h) (Or.inl ⟨by rfl, ?_⟩) ?_ ?_; rotate_left; (· intro w'; go_simp; with_reducible rfl); rotate_left; (· simp only [Act.put, S_]; rfl)
            refine pure_ (i := 30) (N := some 80) (v := ?_) (a' := ?_) m30_ rfl rfl (an_ HT_) (fun _ _ _ h => h) (Or.inl ⟨by rfl, ?_⟩) ?_ ?_; rotate_left; (· intro w'; go_simp; with_reducible rfl); rotate_left; (· simp only [Act.put, S_]; rfl)
            refine one_ (i := 28) (N := some 78) m33_ rfl rfl (one_of HT_.out (by kernel_rfl)) (by decide) (fun K hK => ?_)
            refine goes_ Try.func28 (by kernel_rfl) rfl #[.string a1, .string a2] (by rfl) rfl rfl (by (try simp only [List.map_toArray, List.map_cons, List.map_nil]); first | done | rfl | (simp only [List.length_drop, List.length_take]; rfl)) ?_
            with_reducible refine (etag_Strong.calls kj3 a1 a2 t198 _ A25.out).mono ?_
            rintro e w71 ⟨rfl, hb⟩
            refine ⟨_, rfl, ?_⟩
            have n0_ := Aside0.mk (blk_below (g := gb182) (o := .cells #[.bool a0_0, .string a0_1] 47 (0, 0)) (sm_ BK182) hb)
            have n1_ := Aside0.mk (blk_below (g := gb191) (o := .cells #[.bool t188, .string t189] 47 (0, 0)) (sm_ BK191) hb)
            have n2_ := Aside0.mk (blk_below (g := gb195) (o := .cells #[.bool t192, .string t193] 47 (0, 0)) (sm_ BK195) hb)
            have n3_ := Aside0.mk (below_step (by repeat (first | (with_reducible first | exact HB.out | apply below_alloc | apply pw_below_drewN | apply below_drew1 | refine below_set ?_ GE182.out | refine below_set ?_ GE191.out | refine below_set ?_ GE195.out) | exact HB.out)) hb)
            clear BK182
            clear BK191
            clear BK195
            clear HB
            have BK182 := n0_
            have BK191 := n1_
            have BK195 := n2_
            have HB := n3_
            clear n0_ n1_ n2_ n3_
            (try clear hb)
            (try clear hb2)
            (try clear hk)
            (try clear hi)
            refine hK.out _ _ ⟨(blk_cell BK182.out 0).trans rfl, (blk_cell BK182.out 1).trans rfl, (blk_cell BK191.out 0).trans rfl, (blk_cell BK191.out 1).trans rfl, (blk_cell BK195.out 0).trans rfl, (blk_cell BK195.out 1).trans rfl⟩ (fun hHeld => ?_); clear hK K
            refine norm_ (a' := ?_) ?_ ?_; rotate_left; (· show Act.put _ (some 78) _ = _; simp only [Act.put, S_]; rfl)
            refine one_ (i := 31) (N := some 81) m34_ rfl rfl (one_of HT_.out (by kernel_rfl)) (by decide) (fun K hK => ?_)
            refine goes_ Try.func29 (by kernel_rfl) rfl #[.string a1, .string a2] (by rfl) rfl rfl (by (try simp only [List.map_toArray, List.map_cons, List.map_nil]); first | done | rfl | (simp only [List.length_drop, List.length_take]; rfl)) ?_
            with_reducible refine (newsreelref27_Strong.calls kj3 a1 a2 t199 _ A26.out).mono ?_
            rintro e w72 ⟨rfl, hb⟩
            refine ⟨_, rfl, ?_⟩
            have n0_ := Aside0.mk (blk_below (g := gb182) (o := .cells #[.bool a0_0, .string a0_1] 47 (0, 0)) (sm_ BK182) hb)
            have n1_ := Aside0.mk (blk_below (g := gb191) (o := .cells #[.bool t188, .string t189] 47 (0, 0)) (sm_ BK191) hb)
            have n2_ := Aside0.mk (blk_below (g := gb195) (o := .cells #[.bool t192, .string t193] 47 (0, 0)) (sm_ BK195) hb)
            have n3_ := Aside0.mk (below_step (by repeat (first | (with_reducible first | exact HB.out | apply below_alloc | apply pw_below_drewN | apply below_drew1 | refine below_set ?_ GE182.out | refine below_set ?_ GE191.out | refine below_set ?_ GE195.out) | exact HB.out)) hb)
            clear BK182
            clear BK191
            clear BK195
            clear HB
            have BK182 := n0_
            have BK191 := n1_
            have BK195 := n2_
            have HB := n3_
            clear n0_ n1_ n2_ n3_
            (try clear hb)
            (try clear hb2)
            (try clear hk)
            (try clear hi)
            refine hK.out _ _ ⟨(blk_cell BK182.out 0).trans rfl, (blk_cell BK182.out 1).trans rfl, (blk_cell BK191.out 0).trans rfl, (blk_cell BK191.out 1).trans rfl, (blk_cell BK195.out 0).trans rfl, (blk_cell BK195.out 1).trans rfl⟩ (fun hHeld => ?_); clear hK K
            refine norm_ (a' := ?_) ?_ ?_; rotate_left; (· show Act.put _ (some 81) _ = _; simp only [Act.put, S_]; rfl)
            refine pure_ (i := 32) (N := some 82) (v := ?_) (a' := ?_) m35_ rfl rfl (an_ HT_) (fun _ _ _ h => h) (Or.inl ⟨by rfl, ?_⟩) ?_ ?_; rotate_left; (· intro w'; go_simp; with_reducible rfl); rotate_left; (· simp only [Act.put, S_]; rfl)
            refine pure_ (i := 33) (N := some 83) (v := ?_) (a' := ?_) m36_ rfl rfl (an_ HT_) (fun _ _ _ h => h) (Or.inl ⟨by rfl, ?_⟩) ?_ ?_; rotate_left; (· intro w'; go_simp; with_reducible rfl); rotate_left; (· simp only [Act.put, S_]; rfl)
            refine pure_ (i := 34) (N := some 84) (v := ?_) (a' := ?_) m37_ rfl rfl (an_ HT_) (fun _ _ _ h => h) (Or.inl ⟨by rfl, ?_⟩) ?_ ?_; rotate_left; (· intro w'; go_simp; with_reducible rfl); rotate_left; (· simp only [Act.put, S_]; rfl)
            refine pure_ (i := 35) (N := some 85) (v := ?_) (a' := ?_) m38_ rfl rfl (an_ HT_) (fun _ _ _ h => h) (Or.inl ⟨by rfl, ?_⟩) ?_ ?_; rotate_left; (· intro w'; go_simp; with_reducible rfl); rotate_left; (· simp only [Act.put, S_]; rfl)
            refine pure_ (i := 36) (N := some 86) (v := ?_) (a' := ?_) m39_ rfl rfl (an_ HT_) (fun _ _ _ h => h) (Or.inl ⟨by rfl, ?_⟩) ?_ ?_; rotate_left; (· intro w'; go_simp; with_reducible rfl); rotate_left; (· simp only [Act.put, S_]; rfl)
            refine pure_ (i := 38) (N := some 88) (v := ?_) (a' := ?_) m40_ rfl rfl (an_ HT_) (fun _ _ _ h => h) (Or.inl ⟨by rfl, ?_⟩) ?_ ?_; rotate_left; (· intro w'; go_simp; with_reducible rfl); rotate_left; (· simp only [Act.put, S_]; rfl)
            refine pure_ (i := 39) (N := some 89) (v := ?_) (a' := ?_) m41_ rfl rfl (an_ HT_) (fun _ _ _ h => h) (Or.inl ⟨by rfl, ?_⟩) ?_ ?_; rotate_left; (· intro w'; go_simp; with_reducible rfl); rotate_left; (· simp only [Act.put, S_]; rfl)
            refine one_ (i := 37) (N := some 87) m44_ rfl rfl (one_of HT_.out (by kernel_rfl)) (by decide) (fun K hK => ?_)
            refine goes_ Try.func30 (by kernel_rfl) rfl #[.string a1, .string a2] (by rfl) rfl rfl (by (try simp only [List.map_toArray, List.map_cons, List.map_nil]); first | done | rfl | (simp only [List.length_drop, List.length_take]; rfl)) ?_
            with_reducible refine (etag_Weak.calls kj3 a1 a2 t200 _ A28.out).mono ?_
            rintro e w73 ⟨rfl, hb⟩
            refine ⟨_, rfl, ?_⟩
            have n0_ := Aside0.mk (blk_below (g := gb182) (o := .cells #[.bool a0_0, .string a0_1] 47 (0, 0)) (sm_ BK182) hb)
            have n1_ := Aside0.mk (blk_below (g := gb191) (o := .cells #[.bool t188, .string t189] 47 (0, 0)) (sm_ BK191) hb)
            have n2_ := Aside0.mk (blk_below (g := gb195) (o := .cells #[.bool t192, .string t193] 47 (0, 0)) (sm_ BK195) hb)
            have n3_ := Aside0.mk (below_step (by repeat (first | (with_reducible first | exact HB.out | apply below_alloc | apply pw_below_drewN | apply below_drew1 | refine below_set ?_ GE182.out | refine below_set ?_ GE191.out | refine below_set ?_ GE195.out) | exact HB.out)) hb)
            clear BK182
            clear BK191
            clear BK195
            clear HB
            have BK182 := n0_
            have BK191 := n1_
            have BK195 := n2_
            have HB := n3_
            clear n0_ n1_ n2_ n3_
            (try clear hb)
            (try clear hb2)
            (try clear hk)
            (try clear hi)
            refine hK.out _ _ ⟨(blk_cell BK182.out 0).trans rfl, (blk_cell BK182.out 1).trans rfl, (blk_cell BK191.out 0).trans rfl, (blk_cell BK191.out 1).trans rfl, (blk_cell BK195.out 0).trans rfl, (blk_cell BK195.out 1).trans rfl⟩ (fun hHeld => ?_); clear hK K
            refine norm_ (a' := ?_) ?_ ?_; rotate_left; (· show Act.put _ (some 87) _ = _; simp only [Act.put, S_]; rfl)
            refine one_ (i := 40) (N := some 90) m45_ rfl rfl (one_of HT_.out (by kernel_rfl)) (by decide) (fun K hK => ?_)
            refine goes_ Try.func31 (by kernel_rfl) rfl #[.string a1, .string a2] (by rfl) rfl rfl (by (try simp only [List.map_toArray, List.map_cons, List.map_nil]); first | done | rfl | (simp only [List.length_drop, List.length_take]; rfl)) ?_
            with_reducible refine (newsreelref27_Weak.calls kj3 a1 a2 t201 _ A29.out).mono ?_
            rintro e w74 ⟨rfl, hb⟩
            refine ⟨_, rfl, ?_⟩
            have n0_ := Aside0.mk (blk_below (g := gb182) (o := .cells #[.bool a0_0, .string a0_1] 47 (0, 0)) (sm_ BK182) hb)
            have n1_ := Aside0.mk (blk_below (g := gb191) (o := .cells #[.bool t188, .string t189] 47 (0, 0)) (sm_ BK191) hb)
            have n2_ := Aside0.mk (blk_below (g := gb195) (o := .cells #[.bool t192, .string t193] 47 (0, 0)) (sm_ BK195) hb)
            have n3_ := Aside0.mk (below_step (by repeat (first | (with_reducible first | exact HB.out | apply below_alloc | apply pw_below_drewN | apply below_drew1 | refine below_set ?_ GE182.out | refine below_set ?_ GE191.out | refine below_set ?_ GE195.out) | exact HB.out)) hb)
            clear BK182
            clear BK191
            clear BK195
            clear HB
            have BK182 := n0_
            have BK191 := n1_
            have BK195 := n2_
            have HB := n3_
            clear n0_ n1_ n2_ n3_
            (try clear hb)
            (try clear hb2)
            (try clear hk)
            (try clear hi)
            refine hK.out _ _ ⟨(blk_cell BK182.out 0).trans rfl, (blk_cell BK182.out 1).trans rfl, (blk_cell BK191.out 0).trans rfl, (blk_cell BK191.out 1).trans rfl, (blk_cell BK195.out 0).trans rfl, (blk_cell BK195.out 1).trans rfl⟩ (fun hHeld => ?_); clear hK K
            refine norm_ (a' := ?_) ?_ ?_; rotate_left; (· show Act.put _ (some 90) _ = _; simp only [Act.put, S_]; rfl)
            refine pure_ (i := 41) (N := some 91) (v := ?_) (a' := ?_) m46_ rfl rfl (an_ HT_) (fun _ _ _ h => h) (Or.inl ⟨by rfl, ?_⟩) ?_ ?_; rotate_left; (· intro w'; go_simp; with_reducible rfl); rotate_left; (· simp only [Act.put, S_]; rfl)
            refine pure_ (i := 42) (N := some 92) (v := ?_) (a' := ?_) m47_ rfl rfl (an_ HT_) (fun _ _ _ h => h) (Or.inl ⟨by rfl, ?_⟩) ?_ ?_; rotate_left; (· intro w'; go_simp; with_reducible rfl); rotate_left; (· simp only [Act.put, S_]; rfl)
            refine pure_ (i := 43) (N := some 93) (v := ?_) (a' := ?_) m48_ rfl rfl (an_ HT_) (fun _ _ _ h => h) (Or.inl ⟨by rfl, ?_⟩) ?_ ?_; rotate_left; (· intro w'; go_simp; with_reducible rfl); rotate_left; (· simp only [Act.put, S_]; rfl)
            refine pure_ (i := 44) (N := some 94) (v := undef) (a' := ?_) m49_ rfl rfl (an_ HT_) (fun _ _ _ h => h) (Or.inr ⟨by rfl, rfl⟩) ?_ ?_; rotate_left; (· simp only [Act.put, S_]; rfl)
            refine pure_ (i := 45) (N := some 95) (v := ?_) (a' := ?_) m50_ rfl rfl (an_ HT_) (fun _ _ _ h => h) (Or.inl ⟨by rfl, ?_⟩) ?_ ?_; rotate_left; (· intro w'; go_simp; with_reducible rfl); rotate_left; (· simp only [Act.put, S_]; rfl)
            refine pure_ (i := 46) (N := some 6) (v := ?_) (a' := ?_) m51_ rfl rfl (an_ HT_) (fun _ _ _ h => h) (Or.inl ⟨by rfl, ?_⟩) ?_ ?_; rotate_left; (· intro w'; go_simp; with_reducible rfl); rotate_left; (· simp only [Act.put, S_]; rfl)
            refine done_ (done_of HT_.out (by kernel_rfl)) ?_
            try go_wp2
            go_ret
            exact ⟨by first | rfl | (simp [errW_none, errW_some] <;> rfl) | (simp [*, errW_none, errW_some] <;> rfl), by repeat (first | (with_reducible first | exact HB.out | apply below_alloc | apply pw_below_drewN | apply below_drew1 | refine below_set ?_ GE182.out | refine below_set ?_ GE191.out | refine below_set ?_ GE195.out) | exact HB.out)⟩
          ·rw [if_neg c27] at H
           have c27b0 : (t198 == t199) = false := by simpa using c27
           (try (have c27b1 : decide (t198 = t199) = false := by simpa using c27))
           (try (have c27b2 : (t198 == t199) = false := by simpa using c27))
           (try (have c27b3 : ¬ (t198 = t199) := by simpa using c27))
           clear c27
           obtain rfl := Option.some.inj H
           have hcz75_0 : wc.cell? ⟨gb182, 0, none⟩ = some (.bool a0_0) := (blk_cell BK182.out 0).trans rfl
           have hcz75_1 : wc.cell? ⟨gb182, 1, none⟩ = some (.string a0_1) := (blk_cell BK182.out 1).trans rfl
           have hfz75_0 := blk_frozen BK182.out 0
           have hfz75_1 := blk_frozen BK182.out 1
           try go_wp2_with (first | ((with_reducible refine gate_callee (f := 22) rfl ?_); refine goesL_ (some 32) rfl rfl Try.func22 (by kernel_rfl) rfl #[.agg #[.bool a0_0, .string a0_1]] rfl (by (try simp only [List.map_toArray, List.map_cons, List.map_nil]); first | done | rfl | (simp only [List.length_drop, List.length_take]; rfl)) ?_; (with_reducible refine (etag_Put.calls kj3 a0_0 a0_1 t184 t185 _ A14.out).mono ?_); rintro e w76 ⟨rfl, hb⟩; refine ⟨_, rfl, ?_⟩; have n0_ := Aside0.mk (blk_below (g := gb182) (o := .cells #[.bool a0_0, .string a0_1] 47 (0, 0)) (sm_ BK182) hb); have n1_ := Aside0.mk (below_step (by repeat (first | (with_reducible first | exact HB.out | apply below_alloc | apply pw_below_drewN | apply below_drew1 | refine below_set ?_ GE182.out) | exact HB.out)) hb); clear BK182; clear HB; have BK182 := n0_; have HB := n1_; clear n0_ n1_; (try clear hb); (try clear hb2); (try clear hk); (try clear hi); have hcz77_0 : w76.cell? ⟨gb182, 0, none⟩ = some (.bool a0_0) := (blk_cell BK182.out 0).trans rfl; have hcz77_1 : w76.cell? ⟨gb182, 1, none⟩ = some (.string a0_1) := (blk_cell BK182.out 1).trans rfl; have hfz77_0 := blk_frozen BK182.out 0; have hfz77_1 := blk_frozen BK182.out 1) | ((with_reducible refine gate_callee (f := 23) rfl ?_); refine goesL_ (some 37) rfl rfl Try.func23 (by kernel_rfl) rfl #[.agg #[.bool a0_0, .string a0_1]] rfl (by (try simp only [List.map_toArray, List.map_cons, List.map_nil]); first | done | rfl | (simp only [List.length_drop, List.length_take]; rfl)) ?_; (with_reducible refine (newsreelref27_Put.calls kj3 a0_0 a0_1 t186 t187 _ A15.out).mono ?_); rintro e w78 ⟨rfl, hb⟩; refine ⟨_, rfl, ?_⟩; have n0_ := Aside0.mk (blk_below (g := gb182) (o := .cells #[.bool a0_0, .string a0_1] 47 (0, 0)) (sm_ BK182) hb); have n1_ := Aside0.mk (below_step (by repeat (first | (with_reducible first | exact HB.out | apply below_alloc | apply pw_below_drewN | apply below_drew1 | refine below_set ?_ GE182.out) | exact HB.out)) hb); clear BK182; clear HB; have BK182 := n0_; have HB := n1_; clear n0_ n1_; (try clear hb); (try clear hb2); (try clear hk); (try clear hi)) | ((with_reducible refine gate_callee (f := 24) rfl ?_); refine goesL_ (some 42) rfl rfl Try.func24 (by kernel_rfl) rfl #[.string a1] rfl (by (try simp only [List.map_toArray, List.map_cons, List.map_nil]); first | done | rfl | (simp only [List.length_drop, List.length_take]; rfl)) ?_; (with_reducible refine (etag_Get.calls kj3 a1 t188 t189 t190 _ A16.out).mono ?_); rintro e w79 ⟨rfl, hb⟩; refine ⟨_, rfl, ?_⟩; have n0_ := Aside0.mk (blk_below (g := gb182) (o := .cells #[.bool a0_0, .string a0_1] 47 (0, 0)) (sm_ BK182) hb); have n1_ := Aside0.mk (below_step (by repeat (first | (with_reducible first | exact HB.out | apply below_alloc | apply pw_below_drewN | apply below_drew1 | refine below_set ?_ GE182.out) | exact HB.out)) hb); clear BK182; clear HB; have BK182 := n0_; have HB := n1_; clear n0_ n1_; (try clear hb); (try clear hb2); (try clear hk); (try clear hi)) | ((with_reducible refine gate_dst (N := 11) rfl ?_); (try (refine gate_guard (by rfl) ?_; dsimp only)); refine box_event ?hg (N := 11) ?hd (cs := #[.bool false, .string (⟨#[]⟩ : ByteArray)]) (t := 47) ?hr ?_; (case hd => rfl); (case hg => rfl); (case hr => first | (go_simp; done) | (go_simp; rfl)); intro gb191 hg w80 hbox hb; have n0_ := Aside0.mk (blk_below (g := gb182) (o := .cells #[.bool a0_0, .string a0_1] 47 (0, 0)) (sm_ BK182) hb); have n1_ := Aside0.mk (below_step (by repeat (first | (with_reducible first | exact HB.out | apply below_alloc | apply pw_below_drewN | apply below_drew1 | refine below_set ?_ GE182.out) | exact HB.out)) hb); have n2_ := Aside0.mk (hbox); have n3_ := Aside0.mk ((by rw [hg]; exact (below_size (by repeat (first | (with_reducible first | exact HB.out | apply below_alloc | apply pw_below_drewN | apply below_drew1 | refine below_set ?_ GE182.out) | exact HB.out))) : w.heap.size ≤ gb191)); have n4_ := Aside0.mk ((by rw [hg]; exact (below_size (by repeat (first | (with_reducible first | exact HB.out | apply below_alloc | apply pw_below_drewN | apply below_drew1 | refine below_set ?_ GE182.out) | exact HB.out))) : w.heap.size ≤ gb191)); have n5_ := Aside0.mk ((by rw [hg]; exact Nat.ne_of_lt (blk_lt (g := gb182) (o := .cells #[.bool a0_0, .string a0_1] 47 (0, 0)) (sm_ BK182)) : gb182 ≠ gb191)); have n6_ := Aside0.mk ((by rw [hg]; exact Nat.ne_of_gt (blk_lt (g := gb182) (o := .cells #[.bool a0_0, .string a0_1] 47 (0, 0)) (sm_ BK182)) : gb191 ≠ gb182)); clear BK182; clear HB; have BK182 := n0_; have HB := n1_; have BK191 := n2_; have GW191 := n3_; have GE191 := n4_; have NB182_191 := n5_; have NB191_182 := n6_; clear n0_ n1_ n2_ n3_ n4_ n5_ n6_; clear hb hbox hg; have hnb81 := NB191_182.out; have hnc81 := NB182_191.out; have hcz82_0 : w80.cell? ⟨gb191, 0, none⟩ = some (.bool false) := (blk_cell BK191.out 0).trans rfl; have hcz82_1 : w80.cell? ⟨gb191, 1, none⟩ = some (.string (⟨#[]⟩ : ByteArray)) := (blk_cell BK191.out 1).trans rfl; have hfz82_0 := blk_frozen BK191.out 0; have hfz82_1 := blk_frozen BK191.out 1) | ((with_reducible refine gate_callee (f := 25) rfl ?_); refine goesL_ (some 47) rfl rfl Try.func25 (by kernel_rfl) rfl #[.string a1] rfl (by (try simp only [List.map_toArray, List.map_cons, List.map_nil]); first | done | rfl | (simp only [List.length_drop, List.length_take]; rfl)) ?_; (with_reducible refine (newsreelref27_Get.calls kj3 a1 t192 t193 t194 _ A17.out).mono ?_); rintro e w83 ⟨rfl, hb⟩; refine ⟨_, rfl, ?_⟩; have n0_ := Aside0.mk (blk_below (g := gb182) (o := .cells #[.bool a0_0, .string a0_1] 47 (0, 0)) (by (with_reducible repeat (first | refine blk_drewN ?_ _ | refine blk_drew ?_ | refine blk_alloc ?_ _)); refine blk_far ?_ NB182_191.out _; (with_reducible repeat (first | refine blk_drewN ?_ _ | refine blk_drew ?_ | refine blk_alloc ?_ _)); refine blk_far ?_ NB182_191.out _; (with_reducible repeat (first | refine blk_drewN ?_ _ | refine blk_drew ?_ | refine blk_alloc ?_ _)); exact BK182.out) hb); have n1_ := Aside0.mk (blk_below (g := gb191) (o := .cells #[.bool t188, .string t189] 47 (0, 0)) (by (with_reducible repeat (first | refine blk_drewN ?_ _ | refine blk_drew ?_ | refine blk_alloc ?_ _)); refine blk_put (cs := #[.bool t188, .string (⟨#[]⟩ : ByteArray)]) ?_ 1 _ rfl; (with_reducible repeat (first | refine blk_drewN ?_ _ | refine blk_drew ?_ | refine blk_alloc ?_ _)); refine blk_put (cs := #[.bool false, .string (⟨#[]⟩ : ByteArray)]) ?_ 0 _ rfl; (with_reducible repeat (first | refine blk_drewN ?_ _ | refine blk_drew ?_ | refine blk_alloc ?_ _)); exact BK191.out) hb); have n2_ := Aside0.mk (below_step (by repeat (first | (with_reducible first | exact HB.out | apply below_alloc | apply pw_below_drewN | apply below_drew1 | refine below_set ?_ GE182.out | refine below_set ?_ GE191.out) | exact HB.out)) hb); clear BK182; clear BK191; clear HB; have BK182 := n0_; have BK191 := n1_; have HB := n2_; clear n0_ n1_ n2_; (try clear hb); (try clear hb2); (try clear hk); (try clear hi)) | ((with_reducible refine gate_dst (N := 13) rfl ?_); (try (refine gate_guard (by rfl) ?_; dsimp only)); refine box_event ?hg (N := 13) ?hd (cs := #[.bool false, .string (⟨#[]⟩ : ByteArray)]) (t := 47) ?hr ?_; (case hd => rfl); (case hg => rfl); (case hr => first | (go_simp; done) | (go_simp; rfl)); intro gb195 hg w84 hbox hb; have n0_ := Aside0.mk (blk_below (g := gb182) (o := .cells #[.bool a0_0, .string a0_1] 47 (0, 0)) (sm_ BK182) hb); have n1_ := Aside0.mk (blk_below (g := gb191) (o := .cells #[.bool t188, .string t189] 47 (0, 0)) (sm_ BK191) hb); have n2_ := Aside0.mk (below_step (by repeat (first | (with_reducible first | exact HB.out | apply below_alloc | apply pw_below_drewN | apply below_drew1 | refine below_set ?_ GE182.out | refine below_set ?_ GE191.out) | exact HB.out)) hb); have n3_ := Aside0.mk (hbox); have n4_ := Aside0.mk ((by rw [hg]; exact (below_size (by repeat (first | (with_reducible first | exact HB.out | apply below_alloc | apply pw_below_drewN | apply below_drew1 | refine below_set ?_ GE182.out | refine below_set ?_ GE191.out) | exact HB.out))) : w.heap.size ≤ gb195)); have n5_ := Aside0.mk ((by rw [hg]; exact (below_size (by repeat (first | (with_reducible first | exact HB.out | apply below_alloc | apply pw_below_drewN | apply below_drew1 | refine below_set ?_ GE182.out | refine below_set ?_ GE191.out) | exact HB.out))) : w.heap.size ≤ gb195)); have n6_ := Aside0.mk ((by rw [hg]; exact Nat.ne_of_lt (blk_lt (g := gb182) (o := .cells #[.bool a0_0, .string a0_1] 47 (0, 0)) (sm_ BK182)) : gb182 ≠ gb195)); have n7_ := Aside0.mk ((by rw [hg]; exact Nat.ne_of_gt (blk_lt (g := gb182) (o := .cells #[.bool a0_0, .string a0_1] 47 (0, 0)) (sm_ BK182)) : gb195 ≠ gb182)); have n8_ := Aside0.mk ((by rw [hg]; exact Nat.ne_of_lt (blk_lt (g := gb191) (o := .cells #[.bool t188, .string t189] 47 (0, 0)) (sm_ BK191)) : gb191 ≠ gb195)); have n9_ := Aside0.mk ((by rw [hg]; exact Nat.ne_of_gt (blk_lt (g := gb191) (o := .cells #[.bool t188, .string t189] 47 (0, 0)) (sm_ BK191)) : gb195 ≠ gb191)); clear BK182; clear BK191; clear HB; have BK182 := n0_; have BK191 := n1_; have HB := n2_; have BK195 := n3_; have GW195 := n4_; have GE195 := n5_; have NB182_195 := n6_; have NB195_182 := n7_; have NB191_195 := n8_; have NB195_191 := n9_; clear n0_ n1_ n2_ n3_ n4_ n5_ n6_ n7_ n8_ n9_; clear hb hbox hg; have hnb85 := NB195_182.out; have hnc85 := NB182_195.out; have hnb86 := NB195_191.out; have hnc86 := NB191_195.out; have hcz87_0 : w84.cell? ⟨gb195, 0, none⟩ = some (.bool false) := (blk_cell BK195.out 0).trans rfl; have hcz87_1 : w84.cell? ⟨gb195, 1, none⟩ = some (.string (⟨#[]⟩ : ByteArray)) := (blk_cell BK195.out 1).trans rfl; have hfz87_0 := blk_frozen BK195.out 0; have hfz87_1 := blk_frozen BK195.out 1))
           have n0_ : Aside0 (((w84.setCell ⟨gb195, 0, none⟩ (.bool t192)).setCell ⟨gb195, 1, none⟩ (.string t193)).heap[gb182]? = some (.cells #[.bool a0_0, .string a0_1] 47 (0, 0))) := ⟨by (with_reducible repeat (first | refine blk_drewN ?_ _ | refine blk_drew ?_ | refine blk_alloc ?_ _)); refine blk_far ?_ NB182_195.out _; (with_reducible repeat (first | refine blk_drewN ?_ _ | refine blk_drew ?_ | refine blk_alloc ?_ _)); refine blk_far ?_ NB182_195.out _; (with_reducible repeat (first | refine blk_drewN ?_ _ | refine blk_drew ?_ | refine blk_alloc ?_ _)); exact BK182.out⟩
           have n1_ : Aside0 (((w84.setCell ⟨gb195, 0, none⟩ (.bool t192)).setCell ⟨gb195, 1, none⟩ (.string t193)).heap[gb191]? = some (.cells #[.bool t188, .string t189] 47 (0, 0))) := ⟨by (with_reducible repeat (first | refine blk_drewN ?_ _ | refine blk_drew ?_ | refine blk_alloc ?_ _)); refine blk_far ?_ NB191_195.out _; (with_reducible repeat (first | refine blk_drewN ?_ _ | refine blk_drew ?_ | refine blk_alloc ?_ _)); refine blk_far ?_ NB191_195.out _; (with_reducible repeat (first | refine blk_drewN ?_ _ | refine blk_drew ?_ | refine blk_alloc ?_ _)); exact BK191.out⟩
           have n2_ : Aside0 (((w84.setCell ⟨gb195, 0, none⟩ (.bool t192)).setCell ⟨gb195, 1, none⟩ (.string t193)).heap[gb195]? = some (.cells #[.bool t192, .string t193] 47 (0, 0))) := ⟨by (with_reducible repeat (first | refine blk_drewN ?_ _ | refine blk_drew ?_ | refine blk_alloc ?_ _)); refine blk_put (cs := #[.bool t192, .string (⟨#[]⟩ : ByteArray)]) ?_ 1 _ rfl; (with_reducible repeat (first | refine blk_drewN ?_ _ | refine blk_drew ?_ | refine blk_alloc ?_ _)); refine blk_put (cs := #[.bool false, .string (⟨#[]⟩ : ByteArray)]) ?_ 0 _ rfl; (with_reducible repeat (first | refine blk_drewN ?_ _ | refine blk_drew ?_ | refine blk_alloc ?_ _)); exact BK195.out⟩
           have n3_ : Aside0 (Below w.heap.size w ((w84.setCell ⟨gb195, 0, none⟩ (.bool t192)).setCell ⟨gb195, 1, none⟩ (.string t193))) := ⟨by repeat (first | (with_reducible first | exact HB.out | apply below_alloc | apply pw_below_drewN | apply below_drew1 | refine below_set ?_ GE182.out | refine below_set ?_ GE191.out | refine below_set ?_ GE195.out) | exact HB.out)⟩
           (try clear BK182)
           (try clear BK191)
           (try clear BK195)
           (try clear HB)
           generalize ((w84.setCell ⟨gb195, 0, none⟩ (.bool t192)).setCell ⟨gb195, 1, none⟩ (.string t193)) = w88 at n0_ n1_ n2_ n3_ ⊢
           have BK182 := n0_
           have BK191 := n1_
           have BK195 := n2_
           have HB := n3_
           clear n0_ n1_ n2_ n3_
           have n0_ := Aside0.mk (blk_drew BK182.out)
           have n1_ := Aside0.mk (blk_drew BK191.out)
           have n2_ := Aside0.mk (blk_drew BK195.out)
           have n3_ := Aside0.mk (below_drew1 HB.out)
           clear BK182
           clear BK191
           clear BK195
           clear HB
           have BK182 := n0_
           have BK191 := n1_
           have BK195 := n2_
           have HB := n3_
           clear n0_ n1_ n2_ n3_
           refine start_ (n := 47) (S := fun w' => w'.cell? ⟨gb182, 0, none⟩ = some (.bool a0_0) ∧ w'.cell? ⟨gb182, 1, none⟩ = some (.string a0_1) ∧ w'.cell? ⟨gb191, 0, none⟩ = some (.bool t188) ∧ w'.cell? ⟨gb191, 1, none⟩ = some (.string t189) ∧ w'.cell? ⟨gb195, 0, none⟩ = some (.bool t192) ∧ w'.cell? ⟨gb195, 1, none⟩ = some (.string t193)) (ds := []) m0_ (by kernel_rfl) rfl rfl ⟨(blk_cell BK182.out 0).trans rfl, (blk_cell BK182.out 1).trans rfl, (blk_cell BK191.out 0).trans rfl, (blk_cell BK191.out 1).trans rfl, (blk_cell BK195.out 0).trans rfl, (blk_cell BK195.out 1).trans rfl⟩ (fun hHeld => ?_); refine with_tabW newsreellaw27_EtagTells.tab7 newsreellaw27_EtagTells.bits7 (fun HT_ HW_ => ?_)
           generalize w88.drew = w89 at BK182 BK191 BK195 HB hHeld ⊢
           refine take_ (i := 0) (N := some 50) (v := ?_) (a' := ?_) m1_ rfl rfl (take_ofW HT_.out HW_.out (by kernel_rfl)) (fun _ _ _ h => h) (Or.inl ⟨by rfl, ?_⟩) hHeld ?_ ?_
           rotate_left
           ·rintro w' ⟨s0, s1, s2, s3, s4, s5⟩
            go_simp
            with_reducible rfl
           rotate_left
           ·simp only [Act.put, S_]
            rfl
           refine take_ (i := 2) (N := some 52) (v := ?_) (a' := ?_) m2_ rfl rfl (take_ofW HT_.out HW_.out (by kernel_rfl)) (fun _ _ _ h => h) (Or.inl ⟨by rfl, ?_⟩) hHeld ?_ ?_
           rotate_left
           ·rintro w' ⟨s0, s1, s2, s3, s4, s5⟩
            go_simp
            with_reducible rfl
           rotate_left
           ·simp only [Act.put, S_]
            rfl
           refine one_ (i := 1) (N := some 51) m3_ rfl rfl (one_of HT_.out (by kernel_rfl)) (by decide) (fun K hK => ?_)
           refine goes_ Try.func26 (by kernel_rfl) rfl #[.agg #[.bool a0_0, .string a0_1]] (by rfl) rfl rfl (by (try simp only [List.map_toArray, List.map_cons, List.map_nil]); first | done | rfl | (simp only [List.length_drop, List.length_take]; rfl)) ?_
           with_reducible refine (etag_Right.calls kj3 a0_0 a0_1 t196 _ A18.out).mono ?_
           rintro e w90 ⟨rfl, hb⟩
           refine ⟨_, rfl, ?_⟩
           have n0_ := Aside0.mk (blk_below (g := gb182) (o := .cells #[.bool a0_0, .string a0_1] 47 (0, 0)) (sm_ BK182) hb)
           have n1_ := Aside0.mk (blk_below (g := gb191) (o := .cells #[.bool t188, .string t189] 47 (0, 0)) (sm_ BK191) hb)
           have n2_ := Aside0.mk (blk_below (g := gb195) (o := .cells #[.bool t192, .string t193] 47 (0, 0)) (sm_ BK195) hb)
           have n3_ := Aside0.mk (below_step (by repeat (first | (with_reducible first | exact HB.out | apply below_alloc | apply pw_below_drewN | apply below_drew1 | refine below_set ?_ GE182.out | refine below_set ?_ GE191.out | refine below_set ?_ GE195.out) | exact HB.out)) hb)
           clear BK182
           clear BK191
           clear BK195
           clear HB
           have BK182 := n0_
           have BK191 := n1_
           have BK195 := n2_
           have HB := n3_
           clear n0_ n1_ n2_ n3_
           (try clear hb)
           (try clear hb2)
           (try clear hk)
           (try clear hi)
           refine hK.out _ _ ⟨(blk_cell BK182.out 0).trans rfl, (blk_cell BK182.out 1).trans rfl, (blk_cell BK191.out 0).trans rfl, (blk_cell BK191.out 1).trans rfl, (blk_cell BK195.out 0).trans rfl, (blk_cell BK195.out 1).trans rfl⟩ (fun hHeld => ?_); clear hK K
           refine norm_ (a' := ?_) ?_ ?_; rotate_left; (· show Act.put _ (some 51) _ = _; simp only [Act.put, S_]; rfl)
           refine one_ (i := 3) (N := some 53) m4_ rfl rfl (one_of HT_.out (by kernel_rfl)) (by decide) (fun K hK => ?_)
           refine goes_ Try.func27 (by kernel_rfl) rfl #[.agg #[.bool a0_0, .string a0_1]] (by rfl) rfl rfl (by (try simp only [List.map_toArray, List.map_cons, List.map_nil]); first | done | rfl | (simp only [List.length_drop, List.length_take]; rfl)) ?_
           with_reducible refine (newsreelref27_Right.calls kj3 a0_0 a0_1 t197 _ A19.out).mono ?_
           rintro e w91 ⟨rfl, hb⟩
           refine ⟨_, rfl, ?_⟩
           have n0_ := Aside0.mk (blk_below (g := gb182) (o := .cells #[.bool a0_0, .string a0_1] 47 (0, 0)) (sm_ BK182) hb)
           have n1_ := Aside0.mk (blk_below (g := gb191) (o := .cells #[.bool t188, .string t189] 47 (0, 0)) (sm_ BK191) hb)
           have n2_ := Aside0.mk (blk_below (g := gb195) (o := .cells #[.bool t192, .string t193] 47 (0, 0)) (sm_ BK195) hb)
           have n3_ := Aside0.mk (below_step (by repeat (first | (with_reducible first | exact HB.out | apply below_alloc | apply pw_below_drewN | apply below_drew1 | refine below_set ?_ GE182.out | refine below_set ?_ GE191.out | refine below_set ?_ GE195.out) | exact HB.out)) hb)
           clear BK182
           clear BK191
           clear BK195
           clear HB
           have BK182 := n0_
           have BK191 := n1_
           have BK195 := n2_
           have HB := n3_
           clear n0_ n1_ n2_ n3_
           (try clear hb)
           (try clear hb2)
           (try clear hk)
           (try clear hi)
           refine hK.out _ _ ⟨(blk_cell BK182.out 0).trans rfl, (blk_cell BK182.out 1).trans rfl, (blk_cell BK191.out 0).trans rfl, (blk_cell BK191.out 1).trans rfl, (blk_cell BK195.out 0).trans rfl, (blk_cell BK195.out 1).trans rfl⟩ (fun hHeld => ?_); clear hK K
           refine norm_ (a' := ?_) ?_ ?_; rotate_left; (· show Act.put _ (some 53) _ = _; simp only [Act.put, S_]; rfl)
           refine pure_ (i := 4) (N := some 54) (v := ?_) (a' := ?_) m5_ rfl rfl (an_ HT_) (fun _ _ _ h => h) (Or.inl ⟨by rfl, ?_⟩) ?_ ?_; rotate_left; (· intro w'; go_simp; with_reducible rfl); rotate_left; (· simp only [Act.put, S_]; rfl)
           refine pure_ (i := 5) (N := some 55) (v := ?_) (a' := ?_) m6_ rfl rfl (an_ HT_) (fun _ _ _ h => h) (Or.inl ⟨by rfl, ?_⟩) ?_ ?_; rotate_left; (· intro w'; go_simp; with_reducible rfl); rotate_left; (· simp only [Act.put, S_]; rfl)
           refine pure_ (i := 6) (N := some 56) (v := ?_) (a' := ?_) m7_ rfl rfl (an_ HT_) (fun _ _ _ h => h) (Or.inl ⟨by rfl, ?_⟩) ?_ ?_; rotate_left; (· intro w'; go_simp; with_reducible rfl); rotate_left; (· simp only [Act.put, S_]; rfl)
           refine pure_ (i := 7) (N := some 57) (v := ?_) (a' := ?_) m8_ rfl rfl (an_ HT_) (fun _ _ _ h => h) (Or.inl ⟨by rfl, ?_⟩) ?_ ?_; rotate_left; (· intro w'; go_simp; with_reducible rfl); rotate_left; (· simp only [Act.put, S_]; rfl)
           refine pure_ (i := 8) (N := some 58) (v := ?_) (a' := ?_) m9_ rfl rfl (an_ HT_) (fun _ _ _ h => h) (Or.inl ⟨by rfl, ?_⟩) ?_ ?_; rotate_left; (· intro w'; go_simp; with_reducible rfl); rotate_left; (· simp only [Act.put, S_]; rfl)
           refine pure_ (i := 9) (N := some 59) (v := ?_) (a' := ?_) m10_ rfl rfl (an_ HT_) (fun _ _ _ h => h) (Or.inl ⟨by rfl, ?_⟩) ?_ ?_; rotate_left; (· intro w'; go_simp; with_reducible rfl); rotate_left; (· simp only [Act.put, S_]; rfl)
           refine pure_ (i := 10) (N := some 60) (v := ?_) (a' := ?_) m11_ rfl rfl (an_ HT_) (fun _ _ _ h => h) (Or.inl ⟨by rfl, ?_⟩) ?_ ?_; rotate_left; (· intro w'; go_simp; with_reducible rfl); rotate_left; (· simp only [Act.put, S_]; rfl)
           refine pure_ (i := 11) (N := some 61) (v := ?_) (a' := ?_) m12_ rfl rfl (an_ HT_) (fun _ _ _ h => h) (Or.inl ⟨by rfl, ?_⟩) ?_ ?_; rotate_left; (· intro w'; go_simp; with_reducible rfl); rotate_left; (· simp only [Act.put, S_]; rfl)
           refine pure_ (i := 12) (N := some 62) (v := ?_) (a' := ?_) m13_ rfl rfl (an_ HT_) (fun _ _ _ h => h) (Or.inl ⟨by rfl, ?_⟩) ?_ ?_; rotate_left; (· intro w'; go_simp; with_reducible rfl); rotate_left; (· simp only [Act.put, S_]; rfl)
           refine pure_ (i := 13) (N := some 63) (v := ?_) (a' := ?_) m14_ rfl rfl (an_ HT_) (fun _ _ _ h => h) (Or.inl ⟨by rfl, ?_⟩) ?_ ?_; rotate_left; (· intro w'; go_simp; with_reducible rfl); rotate_left; (· simp only [Act.put, S_]; rfl)
           refine pure_ (i := 14) (N := some 64) (v := ?_) (a' := ?_) m15_ rfl rfl (an_ HT_) (fun _ _ _ h => h) (Or.inl ⟨by rfl, ?_⟩) ?_ ?_; rotate_left; (· intro w'; go_simp; with_reducible rfl); rotate_left; (· simp only [Act.put, S_]; rfl)
           refine pure_ (i := 15) (N := some 65) (v := ?_) (a' := ?_) m16_ rfl rfl (an_ HT_) (fun _ _ _ h => h) (Or.inl ⟨by rfl, ?_⟩) ?_ ?_; rotate_left; (· intro w'; go_simp; with_reducible rfl); rotate_left; (· simp only [Act.put, S_]; rfl)
           refine take_ (i := 16) (N := some 66) (v := ?_) (a' := ?_) m17_ rfl rfl (take_ofW HT_.out HW_.out (by kernel_rfl)) (fun _ _ _ h => h) (Or.inl ⟨by rfl, ?_⟩) hHeld ?_ ?_
           rotate_left
           ·rintro w' ⟨s0, s1, s2, s3, s4, s5⟩
            go_simp
            with_reducible rfl
           rotate_left
           ·simp only [Act.put, S_]
            rfl
           refine take_ (i := 17) (N := some 67) (v := ?_) (a' := ?_) m18_ rfl rfl (take_ofW HT_.out HW_.out (by kernel_rfl)) (fun _ _ _ h => h) (Or.inl ⟨by rfl, ?_⟩) hHeld ?_ ?_
           rotate_left
           ·rintro w' ⟨s0, s1, s2, s3, s4, s5⟩
            go_simp
            with_reducible rfl
           rotate_left
           ·simp only [Act.put, S_]
            rfl
           refine pure_ (i := 18) (N := some 68) (v := ?_) (a' := ?_) m19_ rfl rfl (an_ HT_) (fun _ _ _ h => h) (Or.inl ⟨by rfl, ?_⟩) ?_ ?_; rotate_left; (· intro w'; go_simp; with_reducible rfl); rotate_left; (· simp only [Act.put, S_]; rfl)
           refine pure_ (i := 19) (N := some 69) (v := ?_) (a' := ?_) m20_ rfl rfl (an_ HT_) (fun _ _ _ h => h) (Or.inl ⟨by rfl, ?_⟩) ?_ ?_; rotate_left; (· intro w'; go_simp; with_reducible rfl); rotate_left; (· simp only [Act.put, S_]; rfl)
           refine pure_ (i := 20) (N := some 70) (v := ?_) (a' := ?_) m21_ rfl rfl (an_ HT_) (fun _ _ _ h => h) (Or.inl ⟨by rfl, ?_⟩) ?_ ?_; rotate_left; (· intro w'; go_simp; with_reducible rfl); rotate_left; (· simp only [Act.put, S_]; rfl)
           refine pure_ (i := 21) (N := some 71) (v := ?_) (a' := ?_) m22_ rfl rfl (an_ HT_) (fun _ _ _ h => h) (Or.inl ⟨by rfl, ?_⟩) ?_ ?_; rotate_left; (· intro w'; go_simp; with_reducible rfl); rotate_left; (· simp only [Act.put, S_]; rfl)
           refine pure_ (i := 22) (N := some 72) (v := ?_) (a' := ?_) m23_ rfl rfl (an_ HT_) (fun _ _ _ h => h) (Or.inl ⟨by rfl, ?_⟩) ?_ ?_; rotate_left; (· intro w'; go_simp; with_reducible rfl); rotate_left; (· simp only [Act.put, S_]; rfl)
           refine pure_ (i := 23) (N := some 73) (v := ?_) (a' := ?_) m24_ rfl rfl (an_ HT_) (fun _ _ _ h => h) (Or.inl ⟨by rfl, ?_⟩) ?_ ?_; rotate_left; (· intro w'; go_simp; with_reducible rfl); rotate_left; (· simp only [Act.put, S_]; rfl)
           refine pure_ (i := 24) (N := some 74) (v := ?_) (a' := ?_) m25_ rfl rfl (an_ HT_) (fun _ _ _ h => h) (Or.inl ⟨by rfl, ?_⟩) ?_ ?_; rotate_left; (· intro w'; go_simp; with_reducible rfl); rotate_left; (· simp only [Act.put, S_]; rfl)
           refine pure_ (i := 25) (N := some 75) (v := ?_) (a' := ?_) m26_ rfl rfl (an_ HT_) (fun _ _ _ h => h) (Or.inl ⟨by rfl, ?_⟩) ?_ ?_; rotate_left; (· intro w'; go_simp; with_reducible rfl); rotate_left; (· simp only [Act.put, S_]; rfl)
           refine pure_ (i := 26) (N := some 76) (v := ?_) (a' := ?_) m27_ rfl rfl (an_ HT_) (fun _ _ _ h => h) (Or.inl ⟨by rfl, ?_⟩) ?_ ?_; rotate_left; (· intro w'; go_simp; with_reducible rfl); rotate_left; (· simp only [Act.put, S_]; rfl)
           refine pure_ (i := 27) (N := some 77) (v := ?_) (a' := ?_) m28_ rfl rfl (an_ HT_) (fun _ _ _ h => h) (Or.inl ⟨by rfl, ?_⟩) ?_ ?_; rotate_left; (· intro w'; go_simp; with_reducible rfl); rotate_left; (· simp only [Act.put, S_]; rfl)
           refine pure_ (i := 29) (N := some 79) (v := ?_) (a' := ?_) m29_ rfl rfl (an_ HT_) (fun _ _ _ h => h) (Or.inl ⟨by rfl, ?_⟩) ?_ ?_; rotate_left; (· intro w'; go_simp; with_reducible rfl); rotate_left; (· simp only [Act.put, S_]; rfl)
           refine pure_ (i := 30) (N := some 80) (v := ?_) (a' := ?_) m30_ rfl rfl (an_ HT_) (fun _ _ _ h => h) (Or.inl ⟨by rfl, ?_⟩) ?_ ?_; rotate_left; (· intro w'; go_simp; with_reducible rfl); rotate_left; (· simp only [Act.put, S_]; rfl)
           refine one_ (i := 28) (N := some 78) m33_ rfl rfl (one_of HT_.out (by kernel_rfl)) (by decide) (fun K hK => ?_)
           refine goes_ Try.func28 (by kernel_rfl) rfl #[.string a1, .string a2] (by rfl) rfl rfl (by (try simp only [List.map_toArray, List.map_cons, List.map_nil]); first | done | rfl | (simp only [List.length_drop, List.length_take]; rfl)) ?_
           with_reducible refine (etag_Strong.calls kj3 a1 a2 t198 _ A25.out).mono ?_
           rintro e w92 ⟨rfl, hb⟩
           refine ⟨_, rfl, ?_⟩
           have n0_ := Aside0.mk (blk_below (g := gb182) (o := .cells #[.bool a0_0, .string a0_1] 47 (0, 0)) (sm_ BK182) hb)
           have n1_ := Aside0.mk (blk_below (g := gb191) (o := .cells #[.bool t188, .string t189] 47 (0, 0)) (sm_ BK191) hb)
           have n2_ := Aside0.mk (blk_below (g := gb195) (o := .cells #[.bool t192, .string t193] 47 (0, 0)) (sm_ BK195) hb)
           have n3_ := Aside0.mk (below_step (by repeat (first | (with_reducible first | exact HB.out | apply below_alloc | apply pw_below_drewN | apply below_drew1 | refine below_set ?_ GE182.out | refine below_set ?_ GE191.out | refine below_set ?_ GE195.out) | exact HB.out)) hb)
           clear BK182
           clear BK191
           clear BK195
           clear HB
           have BK182 := n0_
           have BK191 := n1_
           have BK195 := n2_
           have HB := n3_
           clear n0_ n1_ n2_ n3_
           (try clear hb)
           (try clear hb2)
           (try clear hk)
           (try clear hi)
           refine hK.out _ _ ⟨(blk_cell BK182.out 0).trans rfl, (blk_cell BK182.out 1).trans rfl, (blk_cell BK191.out 0).trans rfl, (blk_cell BK191.out 1).trans rfl, (blk_cell BK195.out 0).trans rfl, (blk_cell BK195.out 1).trans rfl⟩ (fun hHeld => ?_); clear hK K
           refine norm_ (a' := ?_) ?_ ?_; rotate_left; (· show Act.put _ (some 78) _ = _; simp only [Act.put, S_]; rfl)
           refine one_ (i := 31) (N := some 81) m34_ rfl rfl (one_of HT_.out (by kernel_rfl)) (by decide) (fun K hK => ?_)
           refine goes_ Try.func29 (by kernel_rfl) rfl #[.string a1, .string a2] (by rfl) rfl rfl (by (try simp only [List.map_toArray, List.map_cons, List.map_nil]); first | done | rfl | (simp only [List.length_drop, List.length_take]; rfl)) ?_
           with_reducible refine (newsreelref27_Strong.calls kj3 a1 a2 t199 _ A26.out).mono ?_
           rintro e w93 ⟨rfl, hb⟩
           refine ⟨_, rfl, ?_⟩
           have n0_ := Aside0.mk (blk_below (g := gb182) (o := .cells #[.bool a0_0, .string a0_1] 47 (0, 0)) (sm_ BK182) hb)
           have n1_ := Aside0.mk (blk_below (g := gb191) (o := .cells #[.bool t188, .string t189] 47 (0, 0)) (sm_ BK191) hb)
           have n2_ := Aside0.mk (blk_below (g := gb195) (o := .cells #[.bool t192, .string t193] 47 (0, 0)) (sm_ BK195) hb)
           have n3_ := Aside0.mk (below_step (by repeat (first | (with_reducible first | exact HB.out | apply below_alloc | apply pw_below_drewN | apply below_drew1 | refine below_set ?_ GE182.out | refine below_set ?_ GE191.out | refine below_set ?_ GE195.out) | exact HB.out)) hb)
           clear BK182
           clear BK191
           clear BK195
           clear HB
           have BK182 := n0_
           have BK191 := n1_
           have BK195 := n2_
           have HB := n3_
           clear n0_ n1_ n2_ n3_
           (try clear hb)
           (try clear hb2)
           (try clear hk)
           (try clear hi)
           refine hK.out _ _ ⟨(blk_cell BK182.out 0).trans rfl, (blk_cell BK182.out 1).trans rfl, (blk_cell BK191.out 0).trans rfl, (blk_cell BK191.out 1).trans rfl, (blk_cell BK195.out 0).trans rfl, (blk_cell BK195.out 1).trans rfl⟩ (fun hHeld => ?_); clear hK K
           refine norm_ (a' := ?_) ?_ ?_; rotate_left; (· show Act.put _ (some 81) _ = _; simp only [Act.put, S_]; rfl)
           refine pure_ (i := 32) (N := some 82) (v := ?_) (a' := ?_) m35_ rfl rfl (an_ HT_) (fun _ _ _ h => h) (Or.inl ⟨by rfl, ?_⟩) ?_ ?_; rotate_left; (· intro w'; go_simp; with_reducible rfl); rotate_left; (· simp only [Act.put, S_]; rfl)
           refine pure_ (i := 33) (N := some 83) (v := ?_) (a' := ?_) m36_ rfl rfl (an_ HT_) (fun _ _ _ h => h) (Or.inl ⟨by rfl, ?_⟩) ?_ ?_; rotate_left; (· intro w'; go_simp; with_reducible rfl); rotate_left; (· simp only [Act.put, S_]; rfl)
           refine pure_ (i := 34) (N := some 84) (v := ?_) (a' := ?_) m37_ rfl rfl (an_ HT_) (fun _ _ _ h => h) (Or.inl ⟨by rfl, ?_⟩) ?_ ?_; rotate_left; (· intro w'; go_simp; with_reducible rfl); rotate_left; (· simp only [Act.put, S_]; rfl)
           refine pure_ (i := 35) (N := some 85) (v := undef) (a' := ?_) m38_ rfl rfl (an_ HT_) (fun _ _ _ h => h) (Or.inr ⟨by rfl, rfl⟩) ?_ ?_; rotate_left; (· simp only [Act.put, S_]; rfl)
           refine pure_ (i := 36) (N := some 86) (v := undef) (a' := ?_) m39_ rfl rfl (an_ HT_) (fun _ _ _ h => h) (Or.inr ⟨by rfl, rfl⟩) ?_ ?_; rotate_left; (· simp only [Act.put, S_]; rfl)
           refine pure_ (i := 37) (N := some 87) (v := undef) (a' := ?_) m42_ rfl rfl (an_ HT_) (fun _ _ _ h => h) (Or.inr ⟨by rfl, rfl⟩) ?_ ?_; rotate_left; (· simp only [Act.put, S_]; rfl)
           refine pure_ (i := 38) (N := some 88) (v := undef) (a' := ?_) m43_ rfl rfl (an_ HT_) (fun _ _ _ h => h) (Or.inr ⟨by rfl, rfl⟩) ?_ ?_; rotate_left; (· simp only [Act.put, S_]; rfl)
           refine pure_ (i := 39) (N := some 89) (v := undef) (a' := ?_) m44_ rfl rfl (an_ HT_) (fun _ _ _ h => h) (Or.inr ⟨by rfl, rfl⟩) ?_ ?_; rotate_left; (· simp only [Act.put, S_]; rfl)
           refine pure_ (i := 40) (N := some 90) (v := undef) (a' := ?_) m45_ rfl rfl (an_ HT_) (fun _ _ _ h => h) (Or.inr ⟨by rfl, rfl⟩) ?_ ?_; rotate_left; (· simp only [Act.put, S_]; rfl)
           refine pure_ (i := 41) (N := some 91) (v := undef) (a' := ?_) m46_ rfl rfl (an_ HT_) (fun _ _ _ h => h) (Or.inr ⟨by rfl, rfl⟩) ?_ ?_; rotate_left; (· simp only [Act.put, S_]; rfl)
           refine pure_ (i := 42) (N := some 92) (v := ?_) (a' := ?_) m47_ rfl rfl (an_ HT_) (fun _ _ _ h => h) (Or.inl ⟨by rfl, ?_⟩) ?_ ?_; rotate_left; (· intro w'; go_simp; with_reducible rfl); rotate_left; (· simp only [Act.put, S_]; rfl)
           refine pure_ (i := 43) (N := some 93) (v := ?_) (a' := ?_) m48_ rfl rfl (an_ HT_) (fun _ _ _ h => h) (Or.inl ⟨by rfl, ?_⟩) ?_ ?_; rotate_left; (· intro w'; go_simp; with_reducible rfl); rotate_left; (· simp only [Act.put, S_]; rfl)
           refine pure_ (i := 44) (N := some 94) (v := undef) (a' := ?_) m49_ rfl rfl (an_ HT_) (fun _ _ _ h => h) (Or.inr ⟨by rfl, rfl⟩) ?_ ?_; rotate_left; (· simp only [Act.put, S_]; rfl)
           refine pure_ (i := 45) (N := some 95) (v := ?_) (a' := ?_) m50_ rfl rfl (an_ HT_) (fun _ _ _ h => h) (Or.inl ⟨by rfl, ?_⟩) ?_ ?_; rotate_left; (· intro w'; go_simp; with_reducible rfl); rotate_left; (· simp only [Act.put, S_]; rfl)
           refine pure_ (i := 46) (N := some 6) (v := ?_) (a' := ?_) m51_ rfl rfl (an_ HT_) (fun _ _ _ h => h) (Or.inl ⟨by rfl, ?_⟩) ?_ ?_; rotate_left; (· intro w'; go_simp; with_reducible rfl); rotate_left; (· simp only [Act.put, S_]; rfl)
           refine done_ (done_of HT_.out (by kernel_rfl)) ?_
           try go_wp2
           go_ret
           exact ⟨by first | rfl | (simp [errW_none, errW_some] <;> rfl) | (simp [*, errW_none, errW_some] <;> rfl), by repeat (first | (with_reducible first | exact HB.out | apply below_alloc | apply pw_below_drewN | apply below_drew1 | refine below_set ?_ GE182.out | refine below_set ?_ GE191.out | refine below_set ?_ GE195.out) | exact HB.out)⟩
         ·rw [if_neg c24] at H
          have c24b0 : (t190 == t194) = false := beq_eq_false_iff_ne.mpr c24
          have c24b1 : (t190 != t194) = true := bne_iff_ne.mpr c24
          obtain rfl := Option.some.inj H
          have hcz94_0 : wc.cell? ⟨gb182, 0, none⟩ = some (.bool a0_0) := (blk_cell BK182.out 0).trans rfl
          have hcz94_1 : wc.cell? ⟨gb182, 1, none⟩ = some (.string a0_1) := (blk_cell BK182.out 1).trans rfl
          have hfz94_0 := blk_frozen BK182.out 0
          have hfz94_1 := blk_frozen BK182.out 1
          try go_wp2_with (first | ((with_reducible refine gate_callee (f := 22) rfl ?_); refine goesL_ (some 32) rfl rfl Try.func22 (by kernel_rfl) rfl #[.agg #[.bool a0_0, .string a0_1]] rfl (by (try simp only [List.map_toArray, List.map_cons, List.map_nil]); first | done | rfl | (simp only [List.length_drop, List.length_take]; rfl)) ?_; (with_reducible refine (etag_Put.calls kj3 a0_0 a0_1 t184 t185 _ A14.out).mono ?_); rintro e w95 ⟨rfl, hb⟩; refine ⟨_, rfl, ?_⟩; have n0_ := Aside0.mk (blk_below (g := gb182) (o := .cells #[.bool a0_0, .string a0_1] 47 (0, 0)) (sm_ BK182) hb); have n1_ := Aside0.mk (below_step (by repeat (first | (with_reducible first | exact HB.out | apply below_alloc | apply pw_below_drewN | apply below_drew1 | refine below_set ?_ GE182.out) | exact HB.out)) hb); clear BK182; clear HB; have BK182 := n0_; have HB := n1_; clear n0_ n1_; (try clear hb); (try clear hb2); (try clear hk); (try clear hi); have hcz96_0 : w95.cell? ⟨gb182, 0, none⟩ = some (.bool a0_0) := (blk_cell BK182.out 0).trans rfl; have hcz96_1 : w95.cell? ⟨gb182, 1, none⟩ = some (.string a0_1) := (blk_cell BK182.out 1).trans rfl; have hfz96_0 := blk_frozen BK182.out 0; have hfz96_1 := blk_frozen BK182.out 1) | ((with_reducible refine gate_callee (f := 23) rfl ?_); refine goesL_ (some 37) rfl rfl Try.func23 (by kernel_rfl) rfl #[.agg #[.bool a0_0, .string a0_1]] rfl (by (try simp only [List.map_toArray, List.map_cons, List.map_nil]); first | done | rfl | (simp only [List.length_drop, List.length_take]; rfl)) ?_; (with_reducible refine (newsreelref27_Put.calls kj3 a0_0 a0_1 t186 t187 _ A15.out).mono ?_); rintro e w97 ⟨rfl, hb⟩; refine ⟨_, rfl, ?_⟩; have n0_ := Aside0.mk (blk_below (g := gb182) (o := .cells #[.bool a0_0, .string a0_1] 47 (0, 0)) (sm_ BK182) hb); have n1_ := Aside0.mk (below_step (by repeat (first | (with_reducible first | exact HB.out | apply below_alloc | apply pw_below_drewN | apply below_drew1 | refine below_set ?_ GE182.out) | exact HB.out)) hb); clear BK182; clear HB; have BK182 := n0_; have HB := n1_; clear n0_ n1_; (try clear hb); (try clear hb2); (try clear hk); (try clear hi)) | ((with_reducible refine gate_callee (f := 24) rfl ?_); refine goesL_ (some 42) rfl rfl Try.func24 (by kernel_rfl) rfl #[.string a1] rfl (by (try simp only [List.map_toArray, List.map_cons, List.map_nil]); first | done | rfl | (simp only [List.length_drop, List.length_take]; rfl)) ?_; (with_reducible refine (etag_Get.calls kj3 a1 t188 t189 t190 _ A16.out).mono ?_); rintro e w98 ⟨rfl, hb⟩; refine ⟨_, rfl, ?_⟩; have n0_ := Aside0.mk (blk_below (g := gb182) (o := .cells #[.bool a0_0, .string a0_1] 47 (0, 0)) (sm_ BK182) hb); have n1_ := Aside0.mk (below_step (by repeat (first | (with_reducible first | exact HB.out | apply below_alloc | apply pw_below_drewN | apply below_drew1 | refine below_set ?_ GE182.out) | exact HB.out)) hb); clear BK182; clear HB; have BK182 := n0_; have HB := n1_; clear n0_ n1_; (try clear hb); (try clear hb2); (try clear hk); (try clear hi)) | ((with_reducible refine gate_dst (N := 11) rfl ?_); (try (refine gate_guard (by rfl) ?_; dsimp only)); refine box_event ?hg (N := 11) ?hd (cs := #[.bool false, .string (⟨#[]⟩ : ByteArray)]) (t := 47) ?hr ?_; (case hd => rfl); (case hg => rfl); (case hr => first | (go_simp; done) | (go_simp; rfl)); intro gb191 hg w99 hbox hb; have n0_ := Aside0.mk (blk_below (g := gb182) (o := .cells #[.bool a0_0, .string a0_1] 47 (0, 0)) (sm_ BK182) hb); have n1_ := Aside0.mk (below_step (by repeat (first | (with_reducible first | exact HB.out | apply below_alloc | apply pw_below_drewN | apply below_drew1 | refine below_set ?_ GE182.out) | exact HB.out)) hb); have n2_ := Aside0.mk (hbox); have n3_ := Aside0.mk ((by rw [hg]; exact (below_size (by repeat (first | (with_reducible first | exact HB.out | apply below_alloc | apply pw_below_drewN | apply below_drew1 | refine below_set ?_ GE182.out) | exact HB.out))) : w.heap.size ≤ gb191)); have n4_ := Aside0.mk ((by rw [hg]; exact (below_size (by repeat (first | (with_reducible first | exact HB.out | apply below_alloc | apply pw_below_drewN | apply below_drew1 | refine below_set ?_ GE182.out) | exact HB.out))) : w.heap.size ≤ gb191)); have n5_ := Aside0.mk ((by rw [hg]; exact Nat.ne_of_lt (blk_lt (g := gb182) (o := .cells #[.bool a0_0, .string a0_1] 47 (0, 0)) (sm_ BK182)) : gb182 ≠ gb191)); have n6_ := Aside0.mk ((by rw [hg]; exact Nat.ne_of_gt (blk_lt (g := gb182) (o := .cells #[.bool a0_0, .string a0_1] 47 (0, 0)) (sm_ BK182)) : gb191 ≠ gb182)); clear BK182; clear HB; have BK182 := n0_; have HB := n1_; have BK191 := n2_; have GW191 := n3_; have GE191 := n4_; have NB182_191 := n5_; have NB191_182 := n6_; clear n0_ n1_ n2_ n3_ n4_ n5_ n6_; clear hb hbox hg; have hnb100 := NB191_182.out; have hnc100 := NB182_191.out; have hcz101_0 : w99.cell? ⟨gb191, 0, none⟩ = some (.bool false) := (blk_cell BK191.out 0).trans rfl; have hcz101_1 : w99.cell? ⟨gb191, 1, none⟩ = some (.string (⟨#[]⟩ : ByteArray)) := (blk_cell BK191.out 1).trans rfl; have hfz101_0 := blk_frozen BK191.out 0; have hfz101_1 := blk_frozen BK191.out 1) | ((with_reducible refine gate_callee (f := 25) rfl ?_); refine goesL_ (some 47) rfl rfl Try.func25 (by kernel_rfl) rfl #[.string a1] rfl (by (try simp only [List.map_toArray, List.map_cons, List.map_nil]); first | done | rfl | (simp only [List.length_drop, List.length_take]; rfl)) ?_; (with_reducible refine (newsreelref27_Get.calls kj3 a1 t192 t193 t194 _ A17.out).mono ?_); rintro e w102 ⟨rfl, hb⟩; refine ⟨_, rfl, ?_⟩; have n0_ := Aside0.mk (blk_below (g := gb182) (o := .cells #[.bool a0_0, .string a0_1] 47 (0, 0)) (by (with_reducible repeat (first | refine blk_drewN ?_ _ | refine blk_drew ?_ | refine blk_alloc ?_ _)); refine blk_far ?_ NB182_191.out _; (with_reducible repeat (first | refine blk_drewN ?_ _ | refine blk_drew ?_ | refine blk_alloc ?_ _)); refine blk_far ?_ NB182_191.out _; (with_reducible repeat (first | refine blk_drewN ?_ _ | refine blk_drew ?_ | refine blk_alloc ?_ _)); exact BK182.out) hb); have n1_ := Aside0.mk (blk_below (g := gb191) (o := .cells #[.bool t188, .string t189] 47 (0, 0)) (by (with_reducible repeat (first | refine blk_drewN ?_ _ | refine blk_drew ?_ | refine blk_alloc ?_ _)); refine blk_put (cs := #[.bool t188, .string (⟨#[]⟩ : ByteArray)]) ?_ 1 _ rfl; (with_reducible repeat (first | refine blk_drewN ?_ _ | refine blk_drew ?_ | refine blk_alloc ?_ _)); refine blk_put (cs := #[.bool false, .string (⟨#[]⟩ : ByteArray)]) ?_ 0 _ rfl; (with_reducible repeat (first | refine blk_drewN ?_ _ | refine blk_drew ?_ | refine blk_alloc ?_ _)); exact BK191.out) hb); have n2_ := Aside0.mk (below_step (by repeat (first | (with_reducible first | exact HB.out | apply below_alloc | apply pw_below_drewN | apply below_drew1 | refine below_set ?_ GE182.out | refine below_set ?_ GE191.out) | exact HB.out)) hb); clear BK182; clear BK191; clear HB; have BK182 := n0_; have BK191 := n1_; have HB := n2_; clear n0_ n1_ n2_; (try clear hb); (try clear hb2); (try clear hk); (try clear hi)) | ((with_reducible refine gate_dst (N := 13) rfl ?_); (try (refine gate_guard (by rfl) ?_; dsimp only)); refine box_event ?hg (N := 13) ?hd (cs := #[.bool false, .string (⟨#[]⟩ : ByteArray)]) (t := 47) ?hr ?_; (case hd => rfl); (case hg => rfl); (case hr => first | (go_simp; done) | (go_simp; rfl)); intro gb195 hg w103 hbox hb; have n0_ := Aside0.mk (blk_below (g := gb182) (o := .cells #[.bool a0_0, .string a0_1] 47 (0, 0)) (sm_ BK182) hb); have n1_ := Aside0.mk (blk_below (g := gb191) (o := .cells #[.bool t188, .string t189] 47 (0, 0)) (sm_ BK191) hb); have n2_ := Aside0.mk (below_step (by repeat (first | (with_reducible first | exact HB.out | apply below_alloc | apply pw_below_drewN | apply below_drew1 | refine below_set ?_ GE182.out | refine below_set ?_ GE191.out) | exact HB.out)) hb); have n3_ := Aside0.mk (hbox); have n4_ := Aside0.mk ((by rw [hg]; exact (below_size (by repeat (first | (with_reducible first | exact HB.out | apply below_alloc | apply pw_below_drewN | apply below_drew1 | refine below_set ?_ GE182.out | refine below_set ?_ GE191.out) | exact HB.out))) : w.heap.size ≤ gb195)); have n5_ := Aside0.mk ((by rw [hg]; exact (below_size (by repeat (first | (with_reducible first | exact HB.out | apply below_alloc | apply pw_below_drewN | apply below_drew1 | refine below_set ?_ GE182.out | refine below_set ?_ GE191.out) | exact HB.out))) : w.heap.size ≤ gb195)); have n6_ := Aside0.mk ((by rw [hg]; exact Nat.ne_of_lt (blk_lt (g := gb182) (o := .cells #[.bool a0_0, .string a0_1] 47 (0, 0)) (sm_ BK182)) : gb182 ≠ gb195)); have n7_ := Aside0.mk ((by rw [hg]; exact Nat.ne_of_gt (blk_lt (g := gb182) (o := .cells #[.bool a0_0, .string a0_1] 47 (0, 0)) (sm_ BK182)) : gb195 ≠ gb182)); have n8_ := Aside0.mk ((by rw [hg]; exact Nat.ne_of_lt (blk_lt (g := gb191) (o := .cells #[.bool t188, .string t189] 47 (0, 0)) (sm_ BK191)) : gb191 ≠ gb195)); have n9_ := Aside0.mk ((by rw [hg]; exact Nat.ne_of_gt (blk_lt (g := gb191) (o := .cells #[.bool t188, .string t189] 47 (0, 0)) (sm_ BK191)) : gb195 ≠ gb191)); clear BK182; clear BK191; clear HB; have BK182 := n0_; have BK191 := n1_; have HB := n2_; have BK195 := n3_; have GW195 := n4_; have GE195 := n5_; have NB182_195 := n6_; have NB195_182 := n7_; have NB191_195 := n8_; have NB195_191 := n9_; clear n0_ n1_ n2_ n3_ n4_ n5_ n6_ n7_ n8_ n9_; clear hb hbox hg; have hnb104 := NB195_182.out; have hnc104 := NB182_195.out; have hnb105 := NB195_191.out; have hnc105 := NB191_195.out; have hcz106_0 : w103.cell? ⟨gb195, 0, none⟩ = some (.bool false) := (blk_cell BK195.out 0).trans rfl; have hcz106_1 : w103.cell? ⟨gb195, 1, none⟩ = some (.string (⟨#[]⟩ : ByteArray)) := (blk_cell BK195.out 1).trans rfl; have hfz106_0 := blk_frozen BK195.out 0; have hfz106_1 := blk_frozen BK195.out 1))
          have n0_ : Aside0 (((w103.setCell ⟨gb195, 0, none⟩ (.bool t192)).setCell ⟨gb195, 1, none⟩ (.string t193)).heap[gb182]? = some (.cells #[.bool a0_0, .string a0_1] 47 (0, 0))) := ⟨by (with_reducible repeat (first | refine blk_drewN ?_ _ | refine blk_drew ?_ | refine blk_alloc ?_ _)); refine blk_far ?_ NB182_195.out _; (with_reducible repeat (first | refine blk_drewN ?_ _ | refine blk_drew ?_ | refine blk_alloc ?_ _)); refine blk_far ?_ NB182_195.out _; (with_reducible repeat (first | refine blk_drewN ?_ _ | refine blk_drew ?_ | refine blk_alloc ?_ _)); exact BK182.out⟩
          have n1_ : Aside0 (((w103.setCell ⟨gb195, 0, none⟩ (.bool t192)).setCell ⟨gb195, 1, none⟩ (.string t193)).heap[gb191]? = some (.cells #[.bool t188, .string t189] 47 (0, 0))) := ⟨by (with_reducible repeat (first | refine blk_drewN ?_ _ | refine blk_drew ?_ | refine blk_alloc ?_ _)); refine blk_far ?_ NB191_195.out _; (with_reducible repeat (first | refine blk_drewN ?_ _ | refine blk_drew ?_ | refine blk_alloc ?_ _)); refine blk_far ?_ NB191_195.out _; (with_reducible repeat (first | refine blk_drewN ?_ _ | refine blk_drew ?_ | refine blk_alloc ?_ _)); exact BK191.out⟩
          have n2_ : Aside0 (((w103.setCell ⟨gb195, 0, none⟩ (.bool t192)).setCell ⟨gb195, 1, none⟩ (.string t193)).heap[gb195]? = some (.cells #[.bool t192, .string t193] 47 (0, 0))) := ⟨by (with_reducible repeat (first | refine blk_drewN ?_ _ | refine blk_drew ?_ | refine blk_alloc ?_ _)); refine blk_put (cs := #[.bool t192, .string (⟨#[]⟩ : ByteArray)]) ?_ 1 _ rfl; (with_reducible repeat (first | refine blk_drewN ?_ _ | refine blk_drew ?_ | refine blk_alloc ?_ _)); refine blk_put (cs := #[.bool false, .string (⟨#[]⟩ : ByteArray)]) ?_ 0 _ rfl; (with_reducible repeat (first | refine blk_drewN ?_ _ | refine blk_drew ?_ | refine blk_alloc ?_ _)); exact BK195.out⟩
          have n3_ : Aside0 (Below w.heap.size w ((w103.setCell ⟨gb195, 0, none⟩ (.bool t192)).setCell ⟨gb195, 1, none⟩ (.string t193))) := ⟨by repeat (first | (with_reducible first | exact HB.out | apply below_alloc | apply pw_below_drewN | apply below_drew1 | refine below_set ?_ GE182.out | refine below_set ?_ GE191.out | refine below_set ?_ GE195.out) | exact HB.out)⟩
          (try clear BK182)
          (try clear BK191)
          (try clear BK195)
          (try clear HB)
          generalize ((w103.setCell ⟨gb195, 0, none⟩ (.bool t192)).setCell ⟨gb195, 1, none⟩ (.string t193)) = w107 at n0_ n1_ n2_ n3_ ⊢
          have BK182 := n0_
          have BK191 := n1_
          have BK195 := n2_
          have HB := n3_
          clear n0_ n1_ n2_ n3_
          have n0_ := Aside0.mk (blk_drew BK182.out)
          have n1_ := Aside0.mk (blk_drew BK191.out)
          have n2_ := Aside0.mk (blk_drew BK195.out)
          have n3_ := Aside0.mk (below_drew1 HB.out)
          clear BK182
          clear BK191
          clear BK195
          clear HB
          have BK182 := n0_
          have BK191 := n1_
          have BK195 := n2_
          have HB := n3_
          clear n0_ n1_ n2_ n3_
          refine start_ (n := 47) (S := fun w' => w'.cell? ⟨gb182, 0, none⟩ = some (.bool a0_0) ∧ w'.cell? ⟨gb182, 1, none⟩ = some (.string a0_1) ∧ w'.cell? ⟨gb191, 0, none⟩ = some (.bool t188) ∧ w'.cell? ⟨gb191, 1, none⟩ = some (.string t189) ∧ w'.cell? ⟨gb195, 0, none⟩ = some (.bool t192) ∧ w'.cell? ⟨gb195, 1, none⟩ = some (.string t193)) (ds := []) m0_ (by kernel_rfl) rfl rfl ⟨(blk_cell BK182.out 0).trans rfl, (blk_cell BK182.out 1).trans rfl, (blk_cell BK191.out 0).trans rfl, (blk_cell BK191.out 1).trans rfl, (blk_cell BK195.out 0).trans rfl, (blk_cell BK195.out 1).trans rfl⟩ (fun hHeld => ?_); refine with_tabW newsreellaw27_EtagTells.tab7 newsreellaw27_EtagTells.bits7 (fun HT_ HW_ => ?_)
          generalize w107.drew = w108 at BK182 BK191 BK195 HB hHeld ⊢
          refine take_ (i := 0) (N := some 50) (v := ?_) (a' := ?_) m1_ rfl rfl (take_ofW HT_.out HW_.out (by kernel_rfl)) (fun _ _ _ h => h) (Or.inl ⟨by rfl, ?_⟩) hHeld ?_ ?_
          rotate_left
          ·rintro w' ⟨s0, s1, s2, s3, s4, s5⟩
           go_simp
           with_reducible rfl
          rotate_left
          ·simp only [Act.put, S_]
           rfl
          refine take_ (i := 2) (N := some 52) (v := ?_) (a' := ?_) m2_ rfl rfl (take_ofW HT_.out HW_.out (by kernel_rfl)) (fun _ _ _ h => h) (Or.inl ⟨by rfl, ?_⟩) hHeld ?_ ?_
          rotate_left
          ·rintro w' ⟨s0, s1, s2, s3, s4, s5⟩
           go_simp
           with_reducible rfl
          rotate_left
          ·simp only [Act.put, S_]
           rfl
          refine one_ (i := 1) (N := some 51) m3_ rfl rfl (one_of HT_.out (by kernel_rfl)) (by decide) (fun K hK => ?_)
          refine goes_ Try.func26 (by kernel_rfl) rfl #[.agg #[.bool a0_0, .string a0_1]] (by rfl) rfl rfl (by (try simp only [List.map_toArray, List.map_cons, List.map_nil]); first | done | rfl | (simp only [List.length_drop, List.length_take]; rfl)) ?_
          with_reducible refine (etag_Right.calls kj3 a0_0 a0_1 t196 _ A18.out).mono ?_
          rintro e w109 ⟨rfl, hb⟩
          refine ⟨_, rfl, ?_⟩
          have n0_ := Aside0.mk (blk_below (g := gb182) (o := .cells #[.bool a0_0, .string a0_1] 47 (0, 0)) (sm_ BK182) hb)
          have n1_ := Aside0.mk (blk_below (g := gb191) (o := .cells #[.bool t188, .string t189] 47 (0, 0)) (sm_ BK191) hb)
          have n2_ := Aside0.mk (blk_below (g := gb195) (o := .cells #[.bool t192, .string t193] 47 (0, 0)) (sm_ BK195) hb)
          have n3_ := Aside0.mk (below_step (by repeat (first | (with_reducible first | exact HB.out | apply below_alloc | apply pw_below_drewN | apply below_drew1 | refine below_set ?_ GE182.out | refine below_set ?_ GE191.out | refine below_set ?_ GE195.out) | exact HB.out)) hb)
          clear BK182
          clear BK191
          clear BK195
          clear HB
          have BK182 := n0_
          have BK191 := n1_
          have BK195 := n2_
          have HB := n3_
          clear n0_ n1_ n2_ n3_
          (try clear hb)
          (try clear hb2)
          (try clear hk)
          (try clear hi)
          refine hK.out _ _ ⟨(blk_cell BK182.out 0).trans rfl, (blk_cell BK182.out 1).trans rfl, (blk_cell BK191.out 0).trans rfl, (blk_cell BK191.out 1).trans rfl, (blk_cell BK195.out 0).trans rfl, (blk_cell BK195.out 1).trans rfl⟩ (fun hHeld => ?_); clear hK K
          refine norm_ (a' := ?_) ?_ ?_; rotate_left; (· show Act.put _ (some 51) _ = _; simp only [Act.put, S_]; rfl)
          refine one_ (i := 3) (N := some 53) m4_ rfl rfl (one_of HT_.out (by kernel_rfl)) (by decide) (fun K hK => ?_)
          refine goes_ Try.func27 (by kernel_rfl) rfl #[.agg #[.bool a0_0, .string a0_1]] (by rfl) rfl rfl (by (try simp only [List.map_toArray, List.map_cons, List.map_nil]); first | done | rfl | (simp only [List.length_drop, List.length_take]; rfl)) ?_
          with_reducible refine (newsreelref27_Right.calls kj3 a0_0 a0_1 t197 _ A19.out).mono ?_
          rintro e w110 ⟨rfl, hb⟩
          refine ⟨_, rfl, ?_⟩
          have n0_ := Aside0.mk (blk_below (g := gb182) (o := .cells #[.bool a0_0, .string a0_1] 47 (0, 0)) (sm_ BK182) hb)
          have n1_ := Aside0.mk (blk_below (g := gb191) (o := .cells #[.bool t188, .string t189] 47 (0, 0)) (sm_ BK191) hb)
          have n2_ := Aside0.mk (blk_below (g := gb195) (o := .cells #[.bool t192, .string t193] 47 (0, 0)) (sm_ BK195) hb)
          have n3_ := Aside0.mk (below_step (by repeat (first | (with_reducible first | exact HB.out | apply below_alloc | apply pw_below_drewN | apply below_drew1 | refine below_set ?_ GE182.out | refine below_set ?_ GE191.out | refine below_set ?_ GE195.out) | exact HB.out)) hb)
          clear BK182
          clear BK191
          clear BK195
          clear HB
          have BK182 := n0_
          have BK191 := n1_
          have BK195 := n2_
          have HB := n3_
          clear n0_ n1_ n2_ n3_
          (try clear hb)
          (try clear hb2)
          (try clear hk)
          (try clear hi)
          refine hK.out _ _ ⟨(blk_cell BK182.out 0).trans rfl, (blk_cell BK182.out 1).trans rfl, (blk_cell BK191.out 0).trans rfl, (blk_cell BK191.out 1).trans rfl, (blk_cell BK195.out 0).trans rfl, (blk_cell BK195.out 1).trans rfl⟩ (fun hHeld => ?_); clear hK K
          refine norm_ (a' := ?_) ?_ ?_; rotate_left; (· show Act.put _ (some 53) _ = _; simp only [Act.put, S_]; rfl)
          refine pure_ (i := 4) (N := some 54) (v := ?_) (a' := ?_) m5_ rfl rfl (an_ HT_) (fun _ _ _ h => h) (Or.inl ⟨by rfl, ?_⟩) ?_ ?_; rotate_left; (· intro w'; go_simp; with_reducible rfl); rotate_left; (· simp only [Act.put, S_]; rfl)
          refine pure_ (i := 5) (N := some 55) (v := ?_) (a' := ?_) m6_ rfl rfl (an_ HT_) (fun _ _ _ h => h) (Or.inl ⟨by rfl, ?_⟩) ?_ ?_; rotate_left; (· intro w'; go_simp; with_reducible rfl); rotate_left; (· simp only [Act.put, S_]; rfl)
          refine pure_ (i := 6) (N := some 56) (v := ?_) (a' := ?_) m7_ rfl rfl (an_ HT_) (fun _ _ _ h => h) (Or.inl ⟨by rfl, ?_⟩) ?_ ?_; rotate_left; (· intro w'; go_simp; with_reducible rfl); rotate_left; (· simp only [Act.put, S_]; rfl)
          refine pure_ (i := 7) (N := some 57) (v := ?_) (a' := ?_) m8_ rfl rfl (an_ HT_) (fun _ _ _ h => h) (Or.inl ⟨by rfl, ?_⟩) ?_ ?_; rotate_left; (· intro w'; go_simp; with_reducible rfl); rotate_left; (· simp only [Act.put, S_]; rfl)
          refine pure_ (i := 8) (N := some 58) (v := ?_) (a' := ?_) m9_ rfl rfl (an_ HT_) (fun _ _ _ h => h) (Or.inl ⟨by rfl, ?_⟩) ?_ ?_; rotate_left; (· intro w'; go_simp; with_reducible rfl); rotate_left; (· simp only [Act.put, S_]; rfl)
          refine pure_ (i := 9) (N := some 59) (v := ?_) (a' := ?_) m10_ rfl rfl (an_ HT_) (fun _ _ _ h => h) (Or.inl ⟨by rfl, ?_⟩) ?_ ?_; rotate_left; (· intro w'; go_simp; with_reducible rfl); rotate_left; (· simp only [Act.put, S_]; rfl)
          refine pure_ (i := 10) (N := some 60) (v := ?_) (a' := ?_) m11_ rfl rfl (an_ HT_) (fun _ _ _ h => h) (Or.inl ⟨by rfl, ?_⟩) ?_ ?_; rotate_left; (· intro w'; go_simp; with_reducible rfl); rotate_left; (· simp only [Act.put, S_]; rfl)
          refine pure_ (i := 11) (N := some 61) (v := ?_) (a' := ?_) m12_ rfl rfl (an_ HT_) (fun _ _ _ h => h) (Or.inl ⟨by rfl, ?_⟩) ?_ ?_; rotate_left; (· intro w'; go_simp; with_reducible rfl); rotate_left; (· simp only [Act.put, S_]; rfl)
          refine pure_ (i := 12) (N := some 62) (v := ?_) (a' := ?_) m13_ rfl rfl (an_ HT_) (fun _ _ _ h => h) (Or.inl ⟨by rfl, ?_⟩) ?_ ?_; rotate_left; (· intro w'; go_simp; with_reducible rfl); rotate_left; (· simp only [Act.put, S_]; rfl)
          refine pure_ (i := 13) (N := some 63) (v := ?_) (a' := ?_) m14_ rfl rfl (an_ HT_) (fun _ _ _ h => h) (Or.inl ⟨by rfl, ?_⟩) ?_ ?_; rotate_left; (· intro w'; go_simp; with_reducible rfl); rotate_left; (· simp only [Act.put, S_]; rfl)
          refine pure_ (i := 14) (N := some 64) (v := ?_) (a' := ?_) m15_ rfl rfl (an_ HT_) (fun _ _ _ h => h) (Or.inl ⟨by rfl, ?_⟩) ?_ ?_; rotate_left; (· intro w'; go_simp; with_reducible rfl); rotate_left; (· simp only [Act.put, S_]; rfl)
          refine pure_ (i := 15) (N := some 65) (v := ?_) (a' := ?_) m16_ rfl rfl (an_ HT_) (fun _ _ _ h => h) (Or.inl ⟨by rfl, ?_⟩) ?_ ?_; rotate_left; (· intro w'; go_simp; with_reducible rfl); rotate_left; (· simp only [Act.put, S_]; rfl)
          refine take_ (i := 16) (N := some 66) (v := ?_) (a' := ?_) m17_ rfl rfl (take_ofW HT_.out HW_.out (by kernel_rfl)) (fun _ _ _ h => h) (Or.inl ⟨by rfl, ?_⟩) hHeld ?_ ?_
          rotate_left
          ·rintro w' ⟨s0, s1, s2, s3, s4, s5⟩
           go_simp
           with_reducible rfl
          rotate_left
          ·simp only [Act.put, S_]
           rfl
          refine take_ (i := 17) (N := some 67) (v := ?_) (a' := ?_) m18_ rfl rfl (take_ofW HT_.out HW_.out (by kernel_rfl)) (fun _ _ _ h => h) (Or.inl ⟨by rfl, ?_⟩) hHeld ?_ ?_
          rotate_left
          ·rintro w' ⟨s0, s1, s2, s3, s4, s5⟩
           go_simp
           with_reducible rfl
          rotate_left
          ·simp only [Act.put, S_]
           rfl
          refine pure_ (i := 18) (N := some 68) (v := ?_) (a' := ?_) m19_ rfl rfl (an_ HT_) (fun _ _ _ h => h) (Or.inl ⟨by rfl, ?_⟩) ?_ ?_; rotate_left; (· intro w'; go_simp; with_reducible rfl); rotate_left; (· simp only [Act.put, S_]; rfl)
          refine pure_ (i := 19) (N := some 69) (v := ?_) (a' := ?_) m20_ rfl rfl (an_ HT_) (fun _ _ _ h => h) (Or.inl ⟨by rfl, ?_⟩) ?_ ?_; rotate_left; (· intro w'; go_simp; with_reducible rfl); rotate_left; (· simp only [Act.put, S_]; rfl)
          refine pure_ (i := 20) (N := some 70) (v := ?_) (a' := ?_) m21_ rfl rfl (an_ HT_) (fun _ _ _ h => h) (Or.inl ⟨by rfl, ?_⟩) ?_ ?_; rotate_left; (· intro w'; go_simp; with_reducible rfl); rotate_left; (· simp only [Act.put, S_]; rfl)
          refine pure_ (i := 21) (N := some 71) (v := ?_) (a' := ?_) m22_ rfl rfl (an_ HT_) (fun _ _ _ h => h) (Or.inl ⟨by rfl, ?_⟩) ?_ ?_; rotate_left; (· intro w'; go_simp; with_reducible rfl); rotate_left; (· simp only [Act.put, S_]; rfl)
          refine pure_ (i := 22) (N := some 72) (v := ?_) (a' := ?_) m23_ rfl rfl (an_ HT_) (fun _ _ _ h => h) (Or.inl ⟨by rfl, ?_⟩) ?_ ?_; rotate_left; (· intro w'; go_simp; with_reducible rfl); rotate_left; (· simp only [Act.put, S_]; rfl)
          refine pure_ (i := 23) (N := some 73) (v := ?_) (a' := ?_) m24_ rfl rfl (an_ HT_) (fun _ _ _ h => h) (Or.inl ⟨by rfl, ?_⟩) ?_ ?_; rotate_left; (· intro w'; go_simp; with_reducible rfl); rotate_left; (· simp only [Act.put, S_]; rfl)
          refine pure_ (i := 24) (N := some 74) (v := ?_) (a' := ?_) m25_ rfl rfl (an_ HT_) (fun _ _ _ h => h) (Or.inl ⟨by rfl, ?_⟩) ?_ ?_; rotate_left; (· intro w'; go_simp; with_reducible rfl); rotate_left; (· simp only [Act.put, S_]; rfl)
          refine pure_ (i := 25) (N := some 75) (v := ?_) (a' := ?_) m26_ rfl rfl (an_ HT_) (fun _ _ _ h => h) (Or.inl ⟨by rfl, ?_⟩) ?_ ?_; rotate_left; (· intro w'; go_simp; with_reducible rfl); rotate_left; (· simp only [Act.put, S_]; rfl)
          refine pure_ (i := 26) (N := some 76) (v := undef) (a' := ?_) m27_ rfl rfl (an_ HT_) (fun _ _ _ h => h) (Or.inr ⟨by rfl, rfl⟩) ?_ ?_; rotate_left; (· simp only [Act.put, S_]; rfl)
          refine pure_ (i := 27) (N := some 77) (v := undef) (a' := ?_) m28_ rfl rfl (an_ HT_) (fun _ _ _ h => h) (Or.inr ⟨by rfl, rfl⟩) ?_ ?_; rotate_left; (· simp only [Act.put, S_]; rfl)
          refine pure_ (i := 28) (N := some 78) (v := undef) (a' := ?_) m31_ rfl rfl (an_ HT_) (fun _ _ _ h => h) (Or.inr ⟨by rfl, rfl⟩) ?_ ?_; rotate_left; (· simp only [Act.put, S_]; rfl)
          refine pure_ (i := 29) (N := some 79) (v := undef) (a' := ?_) m32_ rfl rfl (an_ HT_) (fun _ _ _ h => h) (Or.inr ⟨by rfl, rfl⟩) ?_ ?_; rotate_left; (· simp only [Act.put, S_]; rfl)
          refine pure_ (i := 30) (N := some 80) (v := undef) (a' := ?_) m33_ rfl rfl (an_ HT_) (fun _ _ _ h => h) (Or.inr ⟨by rfl, rfl⟩) ?_ ?_; rotate_left; (· simp only [Act.put, S_]; rfl)
          refine pure_ (i := 31) (N := some 81) (v := undef) (a' := ?_) m34_ rfl rfl (an_ HT_) (fun _ _ _ h => h) (Or.inr ⟨by rfl, rfl⟩) ?_ ?_; rotate_left; (· simp only [Act.put, S_]; rfl)
          refine pure_ (i := 32) (N := some 82) (v := undef) (a' := ?_) m35_ rfl rfl (an_ HT_) (fun _ _ _ h => h) (Or.inr ⟨by rfl, rfl⟩) ?_ ?_; rotate_left; (· simp only [Act.put, S_]; rfl)
          refine pure_ (i := 33) (N := some 83) (v := ?_) (a' := ?_) m36_ rfl rfl (an_ HT_) (fun _ _ _ h => h) (Or.inl ⟨by rfl, ?_⟩) ?_ ?_; rotate_left; (· intro w'; go_simp; with_reducible rfl); rotate_left; (· simp only [Act.put, S_]; rfl)
          refine pure_ (i := 34) (N := some 84) (v := ?_) (a' := ?_) m37_ rfl rfl (an_ HT_) (fun _ _ _ h => h) (Or.inl ⟨by rfl, ?_⟩) ?_ ?_; rotate_left; (· intro w'; go_simp; with_reducible rfl); rotate_left; (· simp only [Act.put, S_]; rfl)
          refine pure_ (i := 35) (N := some 85) (v := undef) (a' := ?_) m38_ rfl rfl (an_ HT_) (fun _ _ _ h => h) (Or.inr ⟨by rfl, rfl⟩) ?_ ?_; rotate_left; (· simp only [Act.put, S_]; rfl)
          refine pure_ (i := 36) (N := some 86) (v := undef) (a' := ?_) m39_ rfl rfl (an_ HT_) (fun _ _ _ h => h) (Or.inr ⟨by rfl, rfl⟩) ?_ ?_; rotate_left; (· simp only [Act.put, S_]; rfl)
          refine pure_ (i := 37) (N := some 87) (v := undef) (a' := ?_) m42_ rfl rfl (an_ HT_) (fun _ _ _ h => h) (Or.inr ⟨by rfl, rfl⟩) ?_ ?_; rotate_left; (· simp only [Act.put, S_]; rfl)
          refine pure_ (i := 38) (N := some 88) (v := undef) (a' := ?_) m43_ rfl rfl (an_ HT_) (fun _ _ _ h => h) (Or.inr ⟨by rfl, rfl⟩) ?_ ?_; rotate_left; (· simp only [Act.put, S_]; rfl)
          refine pure_ (i := 39) (N := some 89) (v := undef) (a' := ?_) m44_ rfl rfl (an_ HT_) (fun _ _ _ h => h) (Or.inr ⟨by rfl, rfl⟩) ?_ ?_; rotate_left; (· simp only [Act.put, S_]; rfl)
          refine pure_ (i := 40) (N := some 90) (v := undef) (a' := ?_) m45_ rfl rfl (an_ HT_) (fun _ _ _ h => h) (Or.inr ⟨by rfl, rfl⟩) ?_ ?_; rotate_left; (· simp only [Act.put, S_]; rfl)
          refine pure_ (i := 41) (N := some 91) (v := undef) (a' := ?_) m46_ rfl rfl (an_ HT_) (fun _ _ _ h => h) (Or.inr ⟨by rfl, rfl⟩) ?_ ?_; rotate_left; (· simp only [Act.put, S_]; rfl)
          refine pure_ (i := 42) (N := some 92) (v := ?_) (a' := ?_) m47_ rfl rfl (an_ HT_) (fun _ _ _ h => h) (Or.inl ⟨by rfl, ?_⟩) ?_ ?_; rotate_left; (· intro w'; go_simp; with_reducible rfl); rotate_left; (· simp only [Act.put, S_]; rfl)
          refine pure_ (i := 43) (N := some 93) (v := ?_) (a' := ?_) m48_ rfl rfl (an_ HT_) (fun _ _ _ h => h) (Or.inl ⟨by rfl, ?_⟩) ?_ ?_; rotate_left; (· intro w'; go_simp; with_reducible rfl); rotate_left; (· simp only [Act.put, S_]; rfl)
          refine pure_ (i := 44) (N := some 94) (v := undef) (a' := ?_) m49_ rfl rfl (an_ HT_) (fun _ _ _ h => h) (Or.inr ⟨by rfl, rfl⟩) ?_ ?_; rotate_left; (· simp only [Act.put, S_]; rfl)
          refine pure_ (i := 45) (N := some 95) (v := ?_) (a' := ?_) m50_ rfl rfl (an_ HT_) (fun _ _ _ h => h) (Or.inl ⟨by rfl, ?_⟩) ?_ ?_; rotate_left; (· intro w'; go_simp; with_reducible rfl); rotate_left; (· simp only [Act.put, S_]; rfl)
          refine pure_ (i := 46) (N := some 6) (v := ?_) (a' := ?_) m51_ rfl rfl (an_ HT_) (fun _ _ _ h => h) (Or.inl ⟨by rfl, ?_⟩) ?_ ?_; rotate_left; (· intro w'; go_simp; with_reducible rfl); rotate_left; (· simp only [Act.put, S_]; rfl)
          refine done_ (done_of HT_.out (by kernel_rfl)) ?_
          try go_wp2
          go_ret
          exact ⟨by first | rfl | (simp [errW_none, errW_some] <;> rfl) | (simp [*, errW_none, errW_some] <;> rfl), by repeat (first | (with_reducible first | exact HB.out | apply below_alloc | apply pw_below_drewN | apply below_drew1 | refine below_set ?_ GE182.out | refine below_set ?_ GE191.out | refine below_set ?_ GE195.out) | exact HB.out)⟩
        ·rw [if_neg c23] at H
         have c23b0 : (t188 == t192 && (t189.toList == t193.toList)) = false := by simpa using c23
         (try (have c23b1 : decide (t188 = t192 && (t189.toList == t193.toList)) = false := by simpa using c23))
         (try (have c23b2 : (t188 == t192 && (t189.toList == t193.toList)) = false := by simpa using c23))
         (try (have c23b3 : ¬ (t188 = t192 && (t189.toList == t193.toList)) := by simpa using c23))
         clear c23
         obtain rfl := Option.some.inj H
         have hcz111_0 : wc.cell? ⟨gb182, 0, none⟩ = some (.bool a0_0) := (blk_cell BK182.out 0).trans rfl
         have hcz111_1 : wc.cell? ⟨gb182, 1, none⟩ = some (.string a0_1) := (blk_cell BK182.out 1).trans rfl
         have hfz111_0 := blk_frozen BK182.out 0
         have hfz111_1 := blk_frozen BK182.out 1
         try go_wp2_with (first | ((with_reducible refine gate_callee (f := 22) rfl ?_); refine goesL_ (some 32) rfl rfl Try.func22 (by kernel_rfl) rfl #[.agg #[.bool a0_0, .string a0_1]] rfl (by (try simp only [List.map_toArray, List.map_cons, List.map_nil]); first | done | rfl | (simp only [List.length_drop, List.length_take]; rfl)) ?_; (with_reducible refine (etag_Put.calls kj3 a0_0 a0_1 t184 t185 _ A14.out).mono ?_); rintro e w112 ⟨rfl, hb⟩; refine ⟨_, rfl, ?_⟩; have n0_ := Aside0.mk (blk_below (g := gb182) (o := .cells #[.bool a0_0, .string a0_1] 47 (0, 0)) (sm_ BK182) hb); have n1_ := Aside0.mk (below_step (by repeat (first | (with_reducible first | exact HB.out | apply below_alloc | apply pw_below_drewN | apply below_drew1 | refine below_set ?_ GE182.out) | exact HB.out)) hb); clear BK182; clear HB; have BK182 := n0_; have HB := n1_; clear n0_ n1_; (try clear hb); (try clear hb2); (try clear hk); (try clear hi); have hcz113_0 : w112.cell? ⟨gb182, 0, none⟩ = some (.bool a0_0) := (blk_cell BK182.out 0).trans rfl; have hcz113_1 : w112.cell? ⟨gb182, 1, none⟩ = some (.string a0_1) := (blk_cell BK182.out 1).trans rfl; have hfz113_0 := blk_frozen BK182.out 0; have hfz113_1 := blk_frozen BK182.out 1) | ((with_reducible refine gate_callee (f := 23) rfl ?_); refine goesL_ (some 37) rfl rfl Try.func23 (by kernel_rfl) rfl #[.agg #[.bool a0_0, .string a0_1]] rfl (by (try simp only [List.map_toArray, List.map_cons, List.map_nil]); first | done | rfl | (simp only [List.length_drop, List.length_take]; rfl)) ?_; (with_reducible refine (newsreelref27_Put.calls kj3 a0_0 a0_1 t186 t187 _ A15.out).mono ?_); rintro e w114 ⟨rfl, hb⟩; refine ⟨_, rfl, ?_⟩; have n0_ := Aside0.mk (blk_below (g := gb182) (o := .cells #[.bool a0_0, .string a0_1] 47 (0, 0)) (sm_ BK182) hb); have n1_ := Aside0.mk (below_step (by repeat (first | (with_reducible first | exact HB.out | apply below_alloc | apply pw_below_drewN | apply below_drew1 | refine below_set ?_ GE182.out) | exact HB.out)) hb); clear BK182; clear HB; have BK182 := n0_; have HB := n1_; clear n0_ n1_; (try clear hb); (try clear hb2); (try clear hk); (try clear hi)) | ((with_reducible refine gate_callee (f := 24) rfl ?_); refine goesL_ (some 42) rfl rfl Try.func24 (by kernel_rfl) rfl #[.string a1] rfl (by (try simp only [List.map_toArray, List.map_cons, List.map_nil]); first | done | rfl | (simp only [List.length_drop, List.length_take]; rfl)) ?_; (with_reducible refine (etag_Get.calls kj3 a1 t188 t189 t190 _ A16.out).mono ?_); rintro e w115 ⟨rfl, hb⟩; refine ⟨_, rfl, ?_⟩; have n0_ := Aside0.mk (blk_below (g := gb182) (o := .cells #[.bool a0_0, .string a0_1] 47 (0, 0)) (sm_ BK182) hb); have n1_ := Aside0.mk (below_step (by repeat (first | (with_reducible first | exact HB.out | apply below_alloc | apply pw_below_drewN | apply below_drew1 | refine below_set ?_ GE182.out) | exact HB.out)) hb); clear BK182; clear HB; have BK182 := n0_; have HB := n1_; clear n0_ n1_; (try clear hb); (try clear hb2); (try clear hk); (try clear hi)) | ((with_reducible refine gate_dst (N := 11) rfl ?_); (try (refine gate_guard (by rfl) ?_; dsimp only)); refine box_event ?hg (N := 11) ?hd (cs := #[.bool false, .string (⟨#[]⟩ : ByteArray)]) (t := 47) ?hr ?_; (case hd => rfl); (case hg => rfl); (case hr => first | (go_simp; done) | (go_simp; rfl)); intro gb191 hg w116 hbox hb; have n0_ := Aside0.mk (blk_below (g := gb182) (o := .cells #[.bool a0_0, .string a0_1] 47 (0, 0)) (sm_ BK182) hb); have n1_ := Aside0.mk (below_step (by repeat (first | (with_reducible first | exact HB.out | apply below_alloc | apply pw_below_drewN | apply below_drew1 | refine below_set ?_ GE182.out) | exact HB.out)) hb); have n2_ := Aside0.mk (hbox); have n3_ := Aside0.mk ((by rw [hg]; exact (below_size (by repeat (first | (with_reducible first | exact HB.out | apply below_alloc | apply pw_below_drewN | apply below_drew1 | refine below_set ?_ GE182.out) | exact HB.out))) : w.heap.size ≤ gb191)); have n4_ := Aside0.mk ((by rw [hg]; exact (below_size (by repeat (first | (with_reducible first | exact HB.out | apply below_alloc | apply pw_below_drewN | apply below_drew1 | refine below_set ?_ GE182.out) | exact HB.out))) : w.heap.size ≤ gb191)); have n5_ := Aside0.mk ((by rw [hg]; exact Nat.ne_of_lt (blk_lt (g := gb182) (o := .cells #[.bool a0_0, .string a0_1] 47 (0, 0)) (sm_ BK182)) : gb182 ≠ gb191)); have n6_ := Aside0.mk ((by rw [hg]; exact Nat.ne_of_gt (blk_lt (g := gb182) (o := .cells #[.bool a0_0, .string a0_1] 47 (0, 0)) (sm_ BK182)) : gb191 ≠ gb182)); clear BK182; clear HB; have BK182 := n0_; have HB := n1_; have BK191 := n2_; have GW191 := n3_; have GE191 := n4_; have NB182_191 := n5_; have NB191_182 := n6_; clear n0_ n1_ n2_ n3_ n4_ n5_ n6_; clear hb hbox hg; have hnb117 := NB191_182.out; have hnc117 := NB182_191.out; have hcz118_0 : w116.cell? ⟨gb191, 0, none⟩ = some (.bool false) := (blk_cell BK191.out 0).trans rfl; have hcz118_1 : w116.cell? ⟨gb191, 1, none⟩ = some (.string (⟨#[]⟩ : ByteArray)) := (blk_cell BK191.out 1).trans rfl; have hfz118_0 := blk_frozen BK191.out 0; have hfz118_1 := blk_frozen BK191.out 1) | ((with_reducible refine gate_callee (f := 25) rfl ?_); refine goesL_ (some 47) rfl rfl Try.func25 (by kernel_rfl) rfl #[.string a1] rfl (by (try simp only [List.map_toArray, List.map_cons, List.map_nil]); first | done | rfl | (simp only [List.length_drop, List.length_take]; rfl)) ?_; (with_reducible refine (newsreelref27_Get.calls kj3 a1 t192 t193 t194 _ A17.out).mono ?_); rintro e w119 ⟨rfl, hb⟩; refine ⟨_, rfl, ?_⟩; have n0_ := Aside0.mk (blk_below (g := gb182) (o := .cells #[.bool a0_0, .string a0_1] 47 (0, 0)) (by (with_reducible repeat (first | refine blk_drewN ?_ _ | refine blk_drew ?_ | refine blk_alloc ?_ _)); refine blk_far ?_ NB182_191.out _; (with_reducible repeat (first | refine blk_drewN ?_ _ | refine blk_drew ?_ | refine blk_alloc ?_ _)); refine blk_far ?_ NB182_191.out _; (with_reducible repeat (first | refine blk_drewN ?_ _ | refine blk_drew ?_ | refine blk_alloc ?_ _)); exact BK182.out) hb); have n1_ := Aside0.mk (blk_below (g := gb191) (o := .cells #[.bool t188, .string t189] 47 (0, 0)) (by (with_reducible repeat (first | refine blk_drewN ?_ _ | refine blk_drew ?_ | refine blk_alloc ?_ _)); refine blk_put (cs := #[.bool t188, .string (⟨#[]⟩ : ByteArray)]) ?_ 1 _ rfl; (with_reducible repeat (first | refine blk_drewN ?_ _ | refine blk_drew ?_ | refine blk_alloc ?_ _)); refine blk_put (cs := #[.bool false, .string (⟨#[]⟩ : ByteArray)]) ?_ 0 _ rfl; (with_reducible repeat (first | refine blk_drewN ?_ _ | refine blk_drew ?_ | refine blk_alloc ?_ _)); exact BK191.out) hb); have n2_ := Aside0.mk (below_step (by repeat (first | (with_reducible first | exact HB.out | apply below_alloc | apply pw_below_drewN | apply below_drew1 | refine below_set ?_ GE182.out | refine below_set ?_ GE191.out) | exact HB.out)) hb); clear BK182; clear BK191; clear HB; have BK182 := n0_; have BK191 := n1_; have HB := n2_; clear n0_ n1_ n2_; (try clear hb); (try clear hb2); (try clear hk); (try clear hi)) | ((with_reducible refine gate_dst (N := 13) rfl ?_); (try (refine gate_guard (by rfl) ?_; dsimp only)); refine box_event ?hg (N := 13) ?hd (cs := #[.bool false, .string (⟨#[]⟩ : ByteArray)]) (t := 47) ?hr ?_; (case hd => rfl); (case hg => rfl); (case hr => first | (go_simp; done) | (go_simp; rfl)); intro gb195 hg w120 hbox hb; have n0_ := Aside0.mk (blk_below (g := gb182) (o := .cells #[.bool a0_0, .string a0_1] 47 (0, 0)) (sm_ BK182) hb); have n1_ := Aside0.mk (blk_below (g := gb191) (o := .cells #[.bool t188, .string t189] 47 (0, 0)) (sm_ BK191) hb); have n2_ := Aside0.mk (below_step (by repeat (first | (with_reducible first | exact HB.out | apply below_alloc | apply pw_below_drewN | apply below_drew1 | refine below_set ?_ GE182.out | refine below_set ?_ GE191.out) | exact HB.out)) hb); have n3_ := Aside0.mk (hbox); have n4_ := Aside0.mk ((by rw [hg]; exact (below_size (by repeat (first | (with_reducible first | exact HB.out | apply below_alloc | apply pw_below_drewN | apply below_drew1 | refine below_set ?_ GE182.out | refine below_set ?_ GE191.out) | exact HB.out))) : w.heap.size ≤ gb195)); have n5_ := Aside0.mk ((by rw [hg]; exact (below_size (by repeat (first | (with_reducible first | exact HB.out | apply below_alloc | apply pw_below_drewN | apply below_drew1 | refine below_set ?_ GE182.out | refine below_set ?_ GE191.out) | exact HB.out))) : w.heap.size ≤ gb195)); have n6_ := Aside0.mk ((by rw [hg]; exact Nat.ne_of_lt (blk_lt (g := gb182) (o := .cells #[.bool a0_0, .string a0_1] 47 (0, 0)) (sm_ BK182)) : gb182 ≠ gb195)); have n7_ := Aside0.mk ((by rw [hg]; exact Nat.ne_of_gt (blk_lt (g := gb182) (o := .cells #[.bool a0_0, .string a0_1] 47 (0, 0)) (sm_ BK182)) : gb195 ≠ gb182)); have n8_ := Aside0.mk ((by rw [hg]; exact Nat.ne_of_lt (blk_lt (g := gb191) (o := .cells #[.bool t188, .string t189] 47 (0, 0)) (sm_ BK191)) : gb191 ≠ gb195)); have n9_ := Aside0.mk ((by rw [hg]; exact Nat.ne_of_gt (blk_lt (g := gb191) (o := .cells #[.bool t188, .string t189] 47 (0, 0)) (sm_ BK191)) : gb195 ≠ gb191)); clear BK182; clear BK191; clear HB; have BK182 := n0_; have BK191 := n1_; have HB := n2_; have BK195 := n3_; have GW195 := n4_; have GE195 := n5_; have NB182_195 := n6_; have NB195_182 := n7_; have NB191_195 := n8_; have NB195_191 := n9_; clear n0_ n1_ n2_ n3_ n4_ n5_ n6_ n7_ n8_ n9_; clear hb hbox hg; have hnb121 := NB195_182.out; have hnc121 := NB182_195.out; have hnb122 := NB195_191.out; have hnc122 := NB191_195.out; have hcz123_0 : w120.cell? ⟨gb195, 0, none⟩ = some (.bool false) := (blk_cell BK195.out 0).trans rfl; have hcz123_1 : w120.cell? ⟨gb195, 1, none⟩ = some (.string (⟨#[]⟩ : ByteArray)) := (blk_cell BK195.out 1).trans rfl; have hfz123_0 := blk_frozen BK195.out 0; have hfz123_1 := blk_frozen BK195.out 1))
         have n0_ : Aside0 (((w120.setCell ⟨gb195, 0, none⟩ (.bool t192)).setCell ⟨gb195, 1, none⟩ (.string t193)).heap[gb182]? = some (.cells #[.bool a0_0, .string a0_1] 47 (0, 0))) := ⟨by (with_reducible repeat (first | refine blk_drewN ?_ _ | refine blk_drew ?_ | refine blk_alloc ?_ _)); refine blk_far ?_ NB182_195.out _; (with_reducible repeat (first | refine blk_drewN ?_ _ | refine blk_drew ?_ | refine blk_alloc ?_ _)); refine blk_far ?_ NB182_195.out _; (with_reducible repeat (first | refine blk_drewN ?_ _ | refine blk_drew ?_ | refine blk_alloc ?_ _)); exact BK182.out⟩
         have n1_ : Aside0 (((w120.setCell ⟨gb195, 0, none⟩ (.bool t192)).setCell ⟨gb195, 1, none⟩ (.string t193)).heap[gb191]? = some (.cells #[.bool t188, .string t189] 47 (0, 0))) := ⟨by (with_reducible repeat (first | refine blk_drewN ?_ _ | refine blk_drew ?_ | refine blk_alloc ?_ _)); refine blk_far ?_ NB191_195.out _; (with_reducible repeat (first | refine blk_drewN ?_ _ | refine blk_drew ?_ | refine blk_alloc ?_ _)); refine blk_far ?_ NB191_195.out _; (with_reducible repeat (first | refine blk_drewN ?_ _ | refine blk_drew ?_ | refine blk_alloc ?_ _)); exact BK191.out⟩
         have n2_ : Aside0 (((w120.setCell ⟨gb195, 0, none⟩ (.bool t192)).setCell ⟨gb195, 1, none⟩ (.string t193)).heap[gb195]? = some (.cells #[.bool t192, .string t193] 47 (0, 0))) := ⟨by (with_reducible repeat (first | refine blk_drewN ?_ _ | refine blk_drew ?_ | refine blk_alloc ?_ _)); refine blk_put (cs := #[.bool t192, .string (⟨#[]⟩ : ByteArray)]) ?_ 1 _ rfl; (with_reducible repeat (first | refine blk_drewN ?_ _ | refine blk_drew ?_ | refine blk_alloc ?_ _)); refine blk_put (cs := #[.bool false, .string (⟨#[]⟩ : ByteArray)]) ?_ 0 _ rfl; (with_reducible repeat (first | refine blk_drewN ?_ _ | refine blk_drew ?_ | refine blk_alloc ?_ _)); exact BK195.out⟩
         have n3_ : Aside0 (Below w.heap.size w ((w120.setCell ⟨gb195, 0, none⟩ (.bool t192)).setCell ⟨gb195, 1, none⟩ (.string t193))) := ⟨by repeat (first | (with_reducible first | exact HB.out | apply below_alloc | apply pw_below_drewN | apply below_drew1 | refine below_set ?_ GE182.out | refine below_set ?_ GE191.out | refine below_set ?_ GE195.out) | exact HB.out)⟩
         (try clear BK182)
         (try clear BK191)
         (try clear BK195)
         (try clear HB)
         generalize ((w120.setCell ⟨gb195, 0, none⟩ (.bool t192)).setCell ⟨gb195, 1, none⟩ (.string t193)) = w124 at n0_ n1_ n2_ n3_ ⊢
         have BK182 := n0_
         have BK191 := n1_
         have BK195 := n2_
         have HB := n3_
         clear n0_ n1_ n2_ n3_
         have n0_ := Aside0.mk (blk_drew BK182.out)
         have n1_ := Aside0.mk (blk_drew BK191.out)
         have n2_ := Aside0.mk (blk_drew BK195.out)
         have n3_ := Aside0.mk (below_drew1 HB.out)
         clear BK182
         clear BK191
         clear BK195
         clear HB
         have BK182 := n0_
         have BK191 := n1_
         have BK195 := n2_
         have HB := n3_
         clear n0_ n1_ n2_ n3_
         refine start_ (n := 47) (S := fun w' => w'.cell? ⟨gb182, 0, none⟩ = some (.bool a0_0) ∧ w'.cell? ⟨gb182, 1, none⟩ = some (.string a0_1) ∧ w'.cell? ⟨gb191, 0, none⟩ = some (.bool t188) ∧ w'.cell? ⟨gb191, 1, none⟩ = some (.string t189) ∧ w'.cell? ⟨gb195, 0, none⟩ = some (.bool t192) ∧ w'.cell? ⟨gb195, 1, none⟩ = some (.string t193)) (ds := []) m0_ (by kernel_rfl) rfl rfl ⟨(blk_cell BK182.out 0).trans rfl, (blk_cell BK182.out 1).trans rfl, (blk_cell BK191.out 0).trans rfl, (blk_cell BK191.out 1).trans rfl, (blk_cell BK195.out 0).trans rfl, (blk_cell BK195.out 1).trans rfl⟩ (fun hHeld => ?_); refine with_tabW newsreellaw27_EtagTells.tab7 newsreellaw27_EtagTells.bits7 (fun HT_ HW_ => ?_)
         generalize w124.drew = w125 at BK182 BK191 BK195 HB hHeld ⊢
         refine take_ (i := 0) (N := some 50) (v := ?_) (a' := ?_) m1_ rfl rfl (take_ofW HT_.out HW_.out (by kernel_rfl)) (fun _ _ _ h => h) (Or.inl ⟨by rfl, ?_⟩) hHeld ?_ ?_
         rotate_left
         ·rintro w' ⟨s0, s1, s2, s3, s4, s5⟩
          go_simp
          with_reducible rfl
         rotate_left
         ·simp only [Act.put, S_]
          rfl
         refine take_ (i := 2) (N := some 52) (v := ?_) (a' := ?_) m2_ rfl rfl (take_ofW HT_.out HW_.out (by kernel_rfl)) (fun _ _ _ h => h) (Or.inl ⟨by rfl, ?_⟩) hHeld ?_ ?_
         rotate_left
         ·rintro w' ⟨s0, s1, s2, s3, s4, s5⟩
          go_simp
          with_reducible rfl
         rotate_left
         ·simp only [Act.put, S_]
          rfl
         refine one_ (i := 1) (N := some 51) m3_ rfl rfl (one_of HT_.out (by kernel_rfl)) (by decide) (fun K hK => ?_)
         refine goes_ Try.func26 (by kernel_rfl) rfl #[.agg #[.bool a0_0, .string a0_1]] (by rfl) rfl rfl (by (try simp only [List.map_toArray, List.map_cons, List.map_nil]); first | done | rfl | (simp only [List.length_drop, List.length_take]; rfl)) ?_
         with_reducible refine (etag_Right.calls kj3 a0_0 a0_1 t196 _ A18.out).mono ?_
         rintro e w126 ⟨rfl, hb⟩
         refine ⟨_, rfl, ?_⟩
         have n0_ := Aside0.mk (blk_below (g := gb182) (o := .cells #[.bool a0_0, .string a0_1] 47 (0, 0)) (sm_ BK182) hb)
         have n1_ := Aside0.mk (blk_below (g := gb191) (o := .cells #[.bool t188, .string t189] 47 (0, 0)) (sm_ BK191) hb)
         have n2_ := Aside0.mk (blk_below (g := gb195) (o := .cells #[.bool t192, .string t193] 47 (0, 0)) (sm_ BK195) hb)
         have n3_ := Aside0.mk (below_step (by repeat (first | (with_reducible first | exact HB.out | apply below_alloc | apply pw_below_drewN | apply below_drew1 | refine below_set ?_ GE182.out | refine below_set ?_ GE191.out | refine below_set ?_ GE195.out) | exact HB.out)) hb)
         clear BK182
         clear BK191
         clear BK195
         clear HB
         have BK182 := n0_
         have BK191 := n1_
         have BK195 := n2_
         have HB := n3_
         clear n0_ n1_ n2_ n3_
         (try clear hb)
         (try clear hb2)
         (try clear hk)
         (try clear hi)
         refine hK.out _ _ ⟨(blk_cell BK182.out 0).trans rfl, (blk_cell BK182.out 1).trans rfl, (blk_cell BK191.out 0).trans rfl, (blk_cell BK191.out 1).trans rfl, (blk_cell BK195.out 0).trans rfl, (blk_cell BK195.out 1).trans rfl⟩ (fun hHeld => ?_); clear hK K
         refine norm_ (a' := ?_) ?_ ?_; rotate_left; (· show Act.put _ (some 51) _ = _; simp only [Act.put, S_]; rfl)
         refine one_ (i := 3) (N := some 53) m4_ rfl rfl (one_of HT_.out (by kernel_rfl)) (by decide) (fun K hK => ?_)
         refine goes_ Try.func27 (by kernel_rfl) rfl #[.agg #[.bool a0_0, .string a0_1]] (by rfl) rfl rfl (by (try simp only [List.map_toArray, List.map_cons, List.map_nil]); first | done | rfl | (simp only [List.length_drop, List.length_take]; rfl)) ?_
         with_reducible refine (newsreelref27_Right.calls kj3 a0_0 a0_1 t197 _ A19.out).mono ?_
         rintro e w127 ⟨rfl, hb⟩
         refine ⟨_, rfl, ?_⟩
         have n0_ := Aside0.mk (blk_below (g := gb182) (o := .cells #[.bool a0_0, .string a0_1] 47 (0, 0)) (sm_ BK182) hb)
         have n1_ := Aside0.mk (blk_below (g := gb191) (o := .cells #[.bool t188, .string t189] 47 (0, 0)) (sm_ BK191) hb)
         have n2_ := Aside0.mk (blk_below (g := gb195) (o := .cells #[.bool t192, .string t193] 47 (0, 0)) (sm_ BK195) hb)
         have n3_ := Aside0.mk (below_step (by repeat (first | (with_reducible first | exact HB.out | apply below_alloc | apply pw_below_drewN | apply below_drew1 | refine below_set ?_ GE182.out | refine below_set ?_ GE191.out | refine below_set ?_ GE195.out) | exact HB.out)) hb)
         clear BK182
         clear BK191
         clear BK195
         clear HB
         have BK182 := n0_
         have BK191 := n1_
         have BK195 := n2_
         have HB := n3_
         clear n0_ n1_ n2_ n3_
         (try clear hb)
         (try clear hb2)
         (try clear hk)
         (try clear hi)
         refine hK.out _ _ ⟨(blk_cell BK182.out 0).trans rfl, (blk_cell BK182.out 1).trans rfl, (blk_cell BK191.out 0).trans rfl, (blk_cell BK191.out 1).trans rfl, (blk_cell BK195.out 0).trans rfl, (blk_cell BK195.out 1).trans rfl⟩ (fun hHeld => ?_); clear hK K
         refine norm_ (a' := ?_) ?_ ?_; rotate_left; (· show Act.put _ (some 53) _ = _; simp only [Act.put, S_]; rfl)
         refine pure_ (i := 4) (N := some 54) (v := ?_) (a' := ?_) m5_ rfl rfl (an_ HT_) (fun _ _ _ h => h) (Or.inl ⟨by rfl, ?_⟩) ?_ ?_; rotate_left; (· intro w'; go_simp; with_reducible rfl); rotate_left; (· simp only [Act.put, S_]; rfl)
         refine pure_ (i := 5) (N := some 55) (v := ?_) (a' := ?_) m6_ rfl rfl (an_ HT_) (fun _ _ _ h => h) (Or.inl ⟨by rfl, ?_⟩) ?_ ?_; rotate_left; (· intro w'; go_simp; with_reducible rfl); rotate_left; (· simp only [Act.put, S_]; rfl)
         refine pure_ (i := 6) (N := some 56) (v := ?_) (a' := ?_) m7_ rfl rfl (an_ HT_) (fun _ _ _ h => h) (Or.inl ⟨by rfl, ?_⟩) ?_ ?_; rotate_left; (· intro w'; go_simp; with_reducible rfl); rotate_left; (· simp only [Act.put, S_]; rfl)
         refine pure_ (i := 7) (N := some 57) (v := ?_) (a' := ?_) m8_ rfl rfl (an_ HT_) (fun _ _ _ h => h) (Or.inl ⟨by rfl, ?_⟩) ?_ ?_; rotate_left; (· intro w'; go_simp; with_reducible rfl); rotate_left; (· simp only [Act.put, S_]; rfl)
         refine pure_ (i := 8) (N := some 58) (v := ?_) (a' := ?_) m9_ rfl rfl (an_ HT_) (fun _ _ _ h => h) (Or.inl ⟨by rfl, ?_⟩) ?_ ?_; rotate_left; (· intro w'; go_simp; with_reducible rfl); rotate_left; (· simp only [Act.put, S_]; rfl)
         refine pure_ (i := 9) (N := some 59) (v := ?_) (a' := ?_) m10_ rfl rfl (an_ HT_) (fun _ _ _ h => h) (Or.inl ⟨by rfl, ?_⟩) ?_ ?_; rotate_left; (· intro w'; go_simp; with_reducible rfl); rotate_left; (· simp only [Act.put, S_]; rfl)
         refine pure_ (i := 10) (N := some 60) (v := ?_) (a' := ?_) m11_ rfl rfl (an_ HT_) (fun _ _ _ h => h) (Or.inl ⟨by rfl, ?_⟩) ?_ ?_; rotate_left; (· intro w'; go_simp; with_reducible rfl); rotate_left; (· simp only [Act.put, S_]; rfl)
         refine pure_ (i := 11) (N := some 61) (v := ?_) (a' := ?_) m12_ rfl rfl (an_ HT_) (fun _ _ _ h => h) (Or.inl ⟨by rfl, ?_⟩) ?_ ?_; rotate_left; (· intro w'; go_simp; with_reducible rfl); rotate_left; (· simp only [Act.put, S_]; rfl)
         refine pure_ (i := 12) (N := some 62) (v := ?_) (a' := ?_) m13_ rfl rfl (an_ HT_) (fun _ _ _ h => h) (Or.inl ⟨by rfl, ?_⟩) ?_ ?_; rotate_left; (· intro w'; go_simp; with_reducible rfl); rotate_left; (· simp only [Act.put, S_]; rfl)
         refine pure_ (i := 13) (N := some 63) (v := ?_) (a' := ?_) m14_ rfl rfl (an_ HT_) (fun _ _ _ h => h) (Or.inl ⟨by rfl, ?_⟩) ?_ ?_; rotate_left; (· intro w'; go_simp; with_reducible rfl); rotate_left; (· simp only [Act.put, S_]; rfl)
         refine pure_ (i := 14) (N := some 64) (v := ?_) (a' := ?_) m15_ rfl rfl (an_ HT_) (fun _ _ _ h => h) (Or.inl ⟨by rfl, ?_⟩) ?_ ?_; rotate_left; (· intro w'; go_simp; with_reducible rfl); rotate_left; (· simp only [Act.put, S_]; rfl)
         refine pure_ (i := 15) (N := some 65) (v := ?_) (a' := ?_) m16_ rfl rfl (an_ HT_) (fun _ _ _ h => h) (Or.inl ⟨by rfl, ?_⟩) ?_ ?_; rotate_left; (· intro w'; go_simp; with_reducible rfl); rotate_left; (· simp only [Act.put, S_]; rfl)
         refine take_ (i := 16) (N := some 66) (v := ?_) (a' := ?_) m17_ rfl rfl (take_ofW HT_.out HW_.out (by kernel_rfl)) (fun _ _ _ h => h) (Or.inl ⟨by rfl, ?_⟩) hHeld ?_ ?_
         rotate_left
         ·rintro w' ⟨s0, s1, s2, s3, s4, s5⟩
          go_simp
          with_reducible rfl
         rotate_left
         ·simp only [Act.put, S_]
          rfl
         refine take_ (i := 17) (N := some 67) (v := ?_) (a' := ?_) m18_ rfl rfl (take_ofW HT_.out HW_.out (by kernel_rfl)) (fun _ _ _ h => h) (Or.inl ⟨by rfl, ?_⟩) hHeld ?_ ?_
         rotate_left
         ·rintro w' ⟨s0, s1, s2, s3, s4, s5⟩
          go_simp
          with_reducible rfl
         rotate_left
         ·simp only [Act.put, S_]
          rfl
         refine pure_ (i := 18) (N := some 68) (v := ?_) (a' := ?_) m19_ rfl rfl (an_ HT_) (fun _ _ _ h => h) (Or.inl ⟨by rfl, ?_⟩) ?_ ?_; rotate_left; (· intro w'; go_simp; with_reducible rfl); rotate_left; (· simp only [Act.put, S_]; rfl)
         refine pure_ (i := 19) (N := some 69) (v := ?_) (a' := ?_) m20_ rfl rfl (an_ HT_) (fun _ _ _ h => h) (Or.inl ⟨by rfl, ?_⟩) ?_ ?_; rotate_left; (· intro w'; go_simp; with_reducible rfl); rotate_left; (· simp only [Act.put, S_]; rfl)
         refine pure_ (i := 20) (N := some 70) (v := ?_) (a' := ?_) m21_ rfl rfl (an_ HT_) (fun _ _ _ h => h) (Or.inl ⟨by rfl, ?_⟩) ?_ ?_; rotate_left; (· intro w'; go_simp; with_reducible rfl); rotate_left; (· simp only [Act.put, S_]; rfl)
         refine pure_ (i := 21) (N := some 71) (v := undef) (a' := ?_) m22_ rfl rfl (an_ HT_) (fun _ _ _ h => h) (Or.inr ⟨by rfl, rfl⟩) ?_ ?_; rotate_left; (· simp only [Act.put, S_]; rfl)
         refine pure_ (i := 22) (N := some 72) (v := undef) (a' := ?_) m23_ rfl rfl (an_ HT_) (fun _ _ _ h => h) (Or.inr ⟨by rfl, rfl⟩) ?_ ?_; rotate_left; (· simp only [Act.put, S_]; rfl)
         refine pure_ (i := 23) (N := some 73) (v := undef) (a' := ?_) m24_ rfl rfl (an_ HT_) (fun _ _ _ h => h) (Or.inr ⟨by rfl, rfl⟩) ?_ ?_; rotate_left; (· simp only [Act.put, S_]; rfl)
         refine pure_ (i := 24) (N := some 74) (v := ?_) (a' := ?_) m25_ rfl rfl (an_ HT_) (fun _ _ _ h => h) (Or.inl ⟨by rfl, ?_⟩) ?_ ?_; rotate_left; (· intro w'; go_simp; with_reducible rfl); rotate_left; (· simp only [Act.put, S_]; rfl)
         refine pure_ (i := 25) (N := some 75) (v := ?_) (a' := ?_) m26_ rfl rfl (an_ HT_) (fun _ _ _ h => h) (Or.inl ⟨by rfl, ?_⟩) ?_ ?_; rotate_left; (· intro w'; go_simp; with_reducible rfl); rotate_left; (· simp only [Act.put, S_]; rfl)
         refine pure_ (i := 26) (N := some 76) (v := undef) (a' := ?_) m27_ rfl rfl (an_ HT_) (fun _ _ _ h => h) (Or.inr ⟨by rfl, rfl⟩) ?_ ?_; rotate_left; (· simp only [Act.put, S_]; rfl)
         refine pure_ (i := 27) (N := some 77) (v := undef) (a' := ?_) m28_ rfl rfl (an_ HT_) (fun _ _ _ h => h) (Or.inr ⟨by rfl, rfl⟩) ?_ ?_; rotate_left; (· simp only [Act.put, S_]; rfl)
         refine pure_ (i := 28) (N := some 78) (v := undef) (a' := ?_) m31_ rfl rfl (an_ HT_) (fun _ _ _ h => h) (Or.inr ⟨by rfl, rfl⟩) ?_ ?_; rotate_left; (· simp only [Act.put, S_]; rfl)
         refine pure_ (i := 29) (N := some 79) (v := undef) (a' := ?_) m32_ rfl rfl (an_ HT_) (fun _ _ _ h => h) (Or.inr ⟨by rfl, rfl⟩) ?_ ?_; rotate_left; (· simp only [Act.put, S_]; rfl)
         refine pure_ (i := 30) (N := some 80) (v := undef) (a' := ?_) m33_ rfl rfl (an_ HT_) (fun _ _ _ h => h) (Or.inr ⟨by rfl, rfl⟩) ?_ ?_; rotate_left; (· simp only [Act.put, S_]; rfl)
         refine pure_ (i := 31) (N := some 81) (v := undef) (a' := ?_) m34_ rfl rfl (an_ HT_) (fun _ _ _ h => h) (Or.inr ⟨by rfl, rfl⟩) ?_ ?_; rotate_left; (· simp only [Act.put, S_]; rfl)
         refine pure_ (i := 32) (N := some 82) (v := undef) (a' := ?_) m35_ rfl rfl (an_ HT_) (fun _ _ _ h => h) (Or.inr ⟨by rfl, rfl⟩) ?_ ?_; rotate_left; (· simp only [Act.put, S_]; rfl)
         refine pure_ (i := 33) (N := some 83) (v := ?_) (a' := ?_) m36_ rfl rfl (an_ HT_) (fun _ _ _ h => h) (Or.inl ⟨by rfl, ?_⟩) ?_ ?_; rotate_left; (· intro w'; go_simp; with_reducible rfl); rotate_left; (· simp only [Act.put, S_]; rfl)
         refine pure_ (i := 34) (N := some 84) (v := ?_) (a' := ?_) m37_ rfl rfl (an_ HT_) (fun _ _ _ h => h) (Or.inl ⟨by rfl, ?_⟩) ?_ ?_; rotate_left; (· intro w'; go_simp; with_reducible rfl); rotate_left; (· simp only [Act.put, S_]; rfl)
         refine pure_ (i := 35) (N := some 85) (v := undef) (a' := ?_) m38_ rfl rfl (an_ HT_) (fun _ _ _ h => h) (Or.inr ⟨by rfl, rfl⟩) ?_ ?_; rotate_left; (· simp only [Act.put, S_]; rfl)
         refine pure_ (i := 36) (N := some 86) (v := undef) (a' := ?_) m39_ rfl rfl (an_ HT_) (fun _ _ _ h => h) (Or.inr ⟨by rfl, rfl⟩) ?_ ?_; rotate_left; (· simp only [Act.put, S_]; rfl)
         refine pure_ (i := 37) (N := some 87) (v := undef) (a' := ?_) m42_ rfl rfl (an_ HT_) (fun _ _ _ h => h) (Or.inr ⟨by rfl, rfl⟩) ?_ ?_; rotate_left; (· simp only [Act.put, S_]; rfl)
         refine pure_ (i := 38) (N := some 88) (v := undef) (a' := ?_) m43_ rfl rfl (an_ HT_) (fun _ _ _ h => h) (Or.inr ⟨by rfl, rfl⟩) ?_ ?_; rotate_left; (· simp only [Act.put, S_]; rfl)
         refine pure_ (i := 39) (N := some 89) (v := undef) (a' := ?_) m44_ rfl rfl (an_ HT_) (fun _ _ _ h => h) (Or.inr ⟨by rfl, rfl⟩) ?_ ?_; rotate_left; (· simp only [Act.put, S_]; rfl)
         refine pure_ (i := 40) (N := some 90) (v := undef) (a' := ?_) m45_ rfl rfl (an_ HT_) (fun _ _ _ h => h) (Or.inr ⟨by rfl, rfl⟩) ?_ ?_; rotate_left; (· simp only [Act.put, S_]; rfl)
         refine pure_ (i := 41) (N := some 91) (v := undef) (a' := ?_) m46_ rfl rfl (an_ HT_) (fun _ _ _ h => h) (Or.inr ⟨by rfl, rfl⟩) ?_ ?_; rotate_left; (· simp only [Act.put, S_]; rfl)
         refine pure_ (i := 42) (N := some 92) (v := ?_) (a' := ?_) m47_ rfl rfl (an_ HT_) (fun _ _ _ h => h) (Or.inl ⟨by rfl, ?_⟩) ?_ ?_; rotate_left; (· intro w'; go_simp; with_reducible rfl); rotate_left; (· simp only [Act.put, S_]; rfl)
         refine pure_ (i := 43) (N := some 93) (v := ?_) (a' := ?_) m48_ rfl rfl (an_ HT_) (fun _ _ _ h => h) (Or.inl ⟨by rfl, ?_⟩) ?_ ?_; rotate_left; (· intro w'; go_simp; with_reducible rfl); rotate_left; (· simp only [Act.put, S_]; rfl)
         refine pure_ (i := 44) (N := some 94) (v := undef) (a' := ?_) m49_ rfl rfl (an_ HT_) (fun _ _ _ h => h) (Or.inr ⟨by rfl, rfl⟩) ?_ ?_; rotate_left; (· simp only [Act.put, S_]; rfl)
         refine pure_ (i := 45) (N := some 95) (v := ?_) (a' := ?_) m50_ rfl rfl (an_ HT_) (fun _ _ _ h => h) (Or.inl ⟨by rfl, ?_⟩) ?_ ?_; rotate_left; (· intro w'; go_simp; with_reducible rfl); rotate_left; (· simp only [Act.put, S_]; rfl)
         refine pure_ (i := 46) (N := some 6) (v := ?_) (a' := ?_) m51_ rfl rfl (an_ HT_) (fun _ _ _ h => h) (Or.inl ⟨by rfl, ?_⟩) ?_ ?_; rotate_left; (· intro w'; go_simp; with_reducible rfl); rotate_left; (· simp only [Act.put, S_]; rfl)
         refine done_ (done_of HT_.out (by kernel_rfl)) ?_
         try go_wp2
         go_ret
         exact ⟨by first | rfl | (simp [errW_none, errW_some] <;> rfl) | (simp [*, errW_none, errW_some] <;> rfl), by repeat (first | (with_reducible first | exact HB.out | apply below_alloc | apply pw_below_drewN | apply below_drew1 | refine below_set ?_ GE182.out | refine below_set ?_ GE191.out | refine below_set ?_ GE195.out) | exact HB.out)⟩
       ·rw [if_neg c22] at H
        have c22b0 : (t185 == t187) = false := beq_eq_false_iff_ne.mpr c22
        have c22b1 : (t185 != t187) = true := bne_iff_ne.mpr c22
        obtain rfl := Option.some.inj H
        have hcz128_0 : wc.cell? ⟨gb182, 0, none⟩ = some (.bool a0_0) := (blk_cell BK182.out 0).trans rfl
        have hcz128_1 : wc.cell? ⟨gb182, 1, none⟩ = some (.string a0_1) := (blk_cell BK182.out 1).trans rfl
        have hfz128_0 := blk_frozen BK182.out 0
        have hfz128_1 := blk_frozen BK182.out 1
        try go_wp2_with (first | ((with_reducible refine gate_callee (f := 22) rfl ?_); refine goesL_ (some 32) rfl rfl Try.func22 (by kernel_rfl) rfl #[.agg #[.bool a0_0, .string a0_1]] rfl (by (try simp only [List.map_toArray, List.map_cons, List.map_nil]); first | done | rfl | (simp only [List.length_drop, List.length_take]; rfl)) ?_; (with_reducible refine (etag_Put.calls kj3 a0_0 a0_1 t184 t185 _ A14.out).mono ?_); rintro e w129 ⟨rfl, hb⟩; refine ⟨_, rfl, ?_⟩; have n0_ := Aside0.mk (blk_below (g := gb182) (o := .cells #[.bool a0_0, .string a0_1] 47 (0, 0)) (sm_ BK182) hb); have n1_ := Aside0.mk (below_step (by repeat (first | (with_reducible first | exact HB.out | apply below_alloc | apply pw_below_drewN | apply below_drew1 | refine below_set ?_ GE182.out) | exact HB.out)) hb); clear BK182; clear HB; have BK182 := n0_; have HB := n1_; clear n0_ n1_; (try clear hb); (try clear hb2); (try clear hk); (try clear hi); have hcz130_0 : w129.cell? ⟨gb182, 0, none⟩ = some (.bool a0_0) := (blk_cell BK182.out 0).trans rfl; have hcz130_1 : w129.cell? ⟨gb182, 1, none⟩ = some (.string a0_1) := (blk_cell BK182.out 1).trans rfl; have hfz130_0 := blk_frozen BK182.out 0; have hfz130_1 := blk_frozen BK182.out 1) | ((with_reducible refine gate_callee (f := 23) rfl ?_); refine goesL_ (some 37) rfl rfl Try.func23 (by kernel_rfl) rfl #[.agg #[.bool a0_0, .string a0_1]] rfl (by (try simp only [List.map_toArray, List.map_cons, List.map_nil]); first | done | rfl | (simp only [List.length_drop, List.length_take]; rfl)) ?_; (with_reducible refine (newsreelref27_Put.calls kj3 a0_0 a0_1 t186 t187 _ A15.out).mono ?_); rintro e w131 ⟨rfl, hb⟩; refine ⟨_, rfl, ?_⟩; have n0_ := Aside0.mk (blk_below (g := gb182) (o := .cells #[.bool a0_0, .string a0_1] 47 (0, 0)) (sm_ BK182) hb); have n1_ := Aside0.mk (below_step (by repeat (first | (with_reducible first | exact HB.out | apply below_alloc | apply pw_below_drewN | apply below_drew1 | refine below_set ?_ GE182.out) | exact HB.out)) hb); clear BK182; clear HB; have BK182 := n0_; have HB := n1_; clear n0_ n1_; (try clear hb); (try clear hb2); (try clear hk); (try clear hi)) | ((with_reducible refine gate_callee (f := 24) rfl ?_); refine goesL_ (some 42) rfl rfl Try.func24 (by kernel_rfl) rfl #[.string a1] rfl (by (try simp only [List.map_toArray, List.map_cons, List.map_nil]); first | done | rfl | (simp only [List.length_drop, List.length_take]; rfl)) ?_; (with_reducible refine (etag_Get.calls kj3 a1 t188 t189 t190 _ A16.out).mono ?_); rintro e w132 ⟨rfl, hb⟩; refine ⟨_, rfl, ?_⟩; have n0_ := Aside0.mk (blk_below (g := gb182) (o := .cells #[.bool a0_0, .string a0_1] 47 (0, 0)) (sm_ BK182) hb); have n1_ := Aside0.mk (below_step (by repeat (first | (with_reducible first | exact HB.out | apply below_alloc | apply pw_below_drewN | apply below_drew1 | refine below_set ?_ GE182.out) | exact HB.out)) hb); clear BK182; clear HB; have BK182 := n0_; have HB := n1_; clear n0_ n1_; (try clear hb); (try clear hb2); (try clear hk); (try clear hi)) | ((with_reducible refine gate_dst (N := 11) rfl ?_); (try (refine gate_guard (by rfl) ?_; dsimp only)); refine box_event ?hg (N := 11) ?hd (cs := #[.bool false, .string (⟨#[]⟩ : ByteArray)]) (t := 47) ?hr ?_; (case hd => rfl); (case hg => rfl); (case hr => first | (go_simp; done) | (go_simp; rfl)); intro gb191 hg w133 hbox hb; have n0_ := Aside0.mk (blk_below (g := gb182) (o := .cells #[.bool a0_0, .string a0_1] 47 (0, 0)) (sm_ BK182) hb); have n1_ := Aside0.mk (below_step (by repeat (first | (with_reducible first | exact HB.out | apply below_alloc | apply pw_below_drewN | apply below_drew1 | refine below_set ?_ GE182.out) | exact HB.out)) hb); have n2_ := Aside0.mk (hbox); have n3_ := Aside0.mk ((by rw [hg]; exact (below_size (by repeat (first | (with_reducible first | exact HB.out | apply below_alloc | apply pw_below_drewN | apply below_drew1 | refine below_set ?_ GE182.out) | exact HB.out))) : w.heap.size ≤ gb191)); have n4_ := Aside0.mk ((by rw [hg]; exact (below_size (by repeat (first | (with_reducible first | exact HB.out | apply below_alloc | apply pw_below_drewN | apply below_drew1 | refine below_set ?_ GE182.out) | exact HB.out))) : w.heap.size ≤ gb191)); have n5_ := Aside0.mk ((by rw [hg]; exact Nat.ne_of_lt (blk_lt (g := gb182) (o := .cells #[.bool a0_0, .string a0_1] 47 (0, 0)) (sm_ BK182)) : gb182 ≠ gb191)); have n6_ := Aside0.mk ((by rw [hg]; exact Nat.ne_of_gt (blk_lt (g := gb182) (o := .cells #[.bool a0_0, .string a0_1] 47 (0, 0)) (sm_ BK182)) : gb191 ≠ gb182)); clear BK182; clear HB; have BK182 := n0_; have HB := n1_; have BK191 := n2_; have GW191 := n3_; have GE191 := n4_; have NB182_191 := n5_; have NB191_182 := n6_; clear n0_ n1_ n2_ n3_ n4_ n5_ n6_; clear hb hbox hg; have hnb134 := NB191_182.out; have hnc134 := NB182_191.out; have hcz135_0 : w133.cell? ⟨gb191, 0, none⟩ = some (.bool false) := (blk_cell BK191.out 0).trans rfl; have hcz135_1 : w133.cell? ⟨gb191, 1, none⟩ = some (.string (⟨#[]⟩ : ByteArray)) := (blk_cell BK191.out 1).trans rfl; have hfz135_0 := blk_frozen BK191.out 0; have hfz135_1 := blk_frozen BK191.out 1) | ((with_reducible refine gate_callee (f := 25) rfl ?_); refine goesL_ (some 47) rfl rfl Try.func25 (by kernel_rfl) rfl #[.string a1] rfl (by (try simp only [List.map_toArray, List.map_cons, List.map_nil]); first | done | rfl | (simp only [List.length_drop, List.length_take]; rfl)) ?_; (with_reducible refine (newsreelref27_Get.calls kj3 a1 t192 t193 t194 _ A17.out).mono ?_); rintro e w136 ⟨rfl, hb⟩; refine ⟨_, rfl, ?_⟩; have n0_ := Aside0.mk (blk_below (g := gb182) (o := .cells #[.bool a0_0, .string a0_1] 47 (0, 0)) (by (with_reducible repeat (first | refine blk_drewN ?_ _ | refine blk_drew ?_ | refine blk_alloc ?_ _)); refine blk_far ?_ NB182_191.out _; (with_reducible repeat (first | refine blk_drewN ?_ _ | refine blk_drew ?_ | refine blk_alloc ?_ _)); refine blk_far ?_ NB182_191.out _; (with_reducible repeat (first | refine blk_drewN ?_ _ | refine blk_drew ?_ | refine blk_alloc ?_ _)); exact BK182.out) hb); have n1_ := Aside0.mk (blk_below (g := gb191) (o := .cells #[.bool t188, .string t189] 47 (0, 0)) (by (with_reducible repeat (first | refine blk_drewN ?_ _ | refine blk_drew ?_ | refine blk_alloc ?_ _)); refine blk_put (cs := #[.bool t188, .string (⟨#[]⟩ : ByteArray)]) ?_ 1 _ rfl; (with_reducible repeat (first | refine blk_drewN ?_ _ | refine blk_drew ?_ | refine blk_alloc ?_ _)); refine blk_put (cs := #[.bool false, .string (⟨#[]⟩ : ByteArray)]) ?_ 0 _ rfl; (with_reducible repeat (first | refine blk_drewN ?_ _ | refine blk_drew ?_ | refine blk_alloc ?_ _)); exact BK191.out) hb); have n2_ := Aside0.mk (below_step (by repeat (first | (with_reducible first | exact HB.out | apply below_alloc | apply pw_below_drewN | apply below_drew1 | refine below_set ?_ GE182.out | refine below_set ?_ GE191.out) | exact HB.out)) hb); clear BK182; clear BK191; clear HB; have BK182 := n0_; have BK191 := n1_; have HB := n2_; clear n0_ n1_ n2_; (try clear hb); (try clear hb2); (try clear hk); (try clear hi)) | ((with_reducible refine gate_dst (N := 13) rfl ?_); (try (refine gate_guard (by rfl) ?_; dsimp only)); refine box_event ?hg (N := 13) ?hd (cs := #[.bool false, .string (⟨#[]⟩ : ByteArray)]) (t := 47) ?hr ?_; (case hd => rfl); (case hg => rfl); (case hr => first | (go_simp; done) | (go_simp; rfl)); intro gb195 hg w137 hbox hb; have n0_ := Aside0.mk (blk_below (g := gb182) (o := .cells #[.bool a0_0, .string a0_1] 47 (0, 0)) (sm_ BK182) hb); have n1_ := Aside0.mk (blk_below (g := gb191) (o := .cells #[.bool t188, .string t189] 47 (0, 0)) (sm_ BK191) hb); have n2_ := Aside0.mk (below_step (by repeat (first | (with_reducible first | exact HB.out | apply below_alloc | apply pw_below_drewN | apply below_drew1 | refine below_set ?_ GE182.out | refine below_set ?_ GE191.out) | exact HB.out)) hb); have n3_ := Aside0.mk (hbox); have n4_ := Aside0.mk ((by rw [hg]; exact (below_size (by repeat (first | (with_reducible first | exact HB.out | apply below_alloc | apply pw_below_drewN | apply below_drew1 | refine below_set ?_ GE182.out | refine below_set ?_ GE191.out) | exact HB.out))) : w.heap.size ≤ gb195)); have n5_ := Aside0.mk ((by rw [hg]; exact (below_size (by repeat (first | (with_reducible first | exact HB.out | apply below_alloc | apply pw_below_drewN | apply below_drew1 | refine below_set ?_ GE182.out | refine below_set ?_ GE191.out) | exact HB.out))) : w.heap.size ≤ gb195)); have n6_ := Aside0.mk ((by rw [hg]; exact Nat.ne_of_lt (blk_lt (g := gb182) (o := .cells #[.bool a0_0, .string a0_1] 47 (0, 0)) (sm_ BK182)) : gb182 ≠ gb195)); have n7_ := Aside0.mk ((by rw [hg]; exact Nat.ne_of_gt (blk_lt (g := gb182) (o := .cells #[.bool a0_0, .string a0_1] 47 (0, 0)) (sm_ BK182)) : gb195 ≠ gb182)); have n8_ := Aside0.mk ((by rw [hg]; exact Nat.ne_of_lt (blk_lt (g := gb191) (o := .cells #[.bool t188, .string t189] 47 (0, 0)) (sm_ BK191)) : gb191 ≠ gb195)); have n9_ := Aside0.mk ((by rw [hg]; exact Nat.ne_of_gt (blk_lt (g := gb191) (o := .cells #[.bool t188, .string t189] 47 (0, 0)) (sm_ BK191)) : gb195 ≠ gb191)); clear BK182; clear BK191; clear HB; have BK182 := n0_; have BK191 := n1_; have HB := n2_; have BK195 := n3_; have GW195 := n4_; have GE195 := n5_; have NB182_195 := n6_; have NB195_182 := n7_; have NB191_195 := n8_; have NB195_191 := n9_; clear n0_ n1_ n2_ n3_ n4_ n5_ n6_ n7_ n8_ n9_; clear hb hbox hg; have hnb138 := NB195_182.out; have hnc138 := NB182_195.out; have hnb139 := NB195_191.out; have hnc139 := NB191_195.out; have hcz140_0 : w137.cell? ⟨gb195, 0, none⟩ = some (.bool false) := (blk_cell BK195.out 0).trans rfl; have hcz140_1 : w137.cell? ⟨gb195, 1, none⟩ = some (.string (⟨#[]⟩ : ByteArray)) := (blk_cell BK195.out 1).trans rfl; have hfz140_0 := blk_frozen BK195.out 0; have hfz140_1 := blk_frozen BK195.out 1))
        have n0_ : Aside0 (((w137.setCell ⟨gb195, 0, none⟩ (.bool t192)).setCell ⟨gb195, 1, none⟩ (.string t193)).heap[gb182]? = some (.cells #[.bool a0_0, .string a0_1] 47 (0, 0))) := ⟨by (with_reducible repeat (first | refine blk_drewN ?_ _ | refine blk_drew ?_ | refine blk_alloc ?_ _)); refine blk_far ?_ NB182_195.out _; (with_reducible repeat (first | refine blk_drewN ?_ _ | refine blk_drew ?_ | refine blk_alloc ?_ _)); refine blk_far ?_ NB182_195.out _; (with_reducible repeat (first | refine blk_drewN ?_ _ | refine blk_drew ?_ | refine blk_alloc ?_ _)); exact BK182.out⟩
        have n1_ : Aside0 (((w137.setCell ⟨gb195, 0, none⟩ (.bool t192)).setCell ⟨gb195, 1, none⟩ (.string t193)).heap[gb191]? = some (.cells #[.bool t188, .string t189] 47 (0, 0))) := ⟨by (with_reducible repeat (first | refine blk_drewN ?_ _ | refine blk_drew ?_ | refine blk_alloc ?_ _)); refine blk_far ?_ NB191_195.out _; (with_reducible repeat (first | refine blk_drewN ?_ _ | refine blk_drew ?_ | refine blk_alloc ?_ _)); refine blk_far ?_ NB191_195.out _; (with_reducible repeat (first | refine blk_drewN ?_ _ | refine blk_drew ?_ | refine blk_alloc ?_ _)); exact BK191.out⟩
        have n2_ : Aside0 (((w137.setCell ⟨gb195, 0, none⟩ (.bool t192)).setCell ⟨gb195, 1, none⟩ (.string t193)).heap[gb195]? = some (.cells #[.bool t192, .string t193] 47 (0, 0))) := ⟨by (with_reducible repeat (first | refine blk_drewN ?_ _ | refine blk_drew ?_ | refine blk_alloc ?_ _)); refine blk_put (cs := #[.bool t192, .string (⟨#[]⟩ : ByteArray)]) ?_ 1 _ rfl; (with_reducible repeat (first | refine blk_drewN ?_ _ | refine blk_drew ?_ | refine blk_alloc ?_ _)); refine blk_put (cs := #[.bool false, .string (⟨#[]⟩ : ByteArray)]) ?_ 0 _ rfl; (with_reducible repeat (first | refine blk_drewN ?_ _ | refine blk_drew ?_ | refine blk_alloc ?_ _)); exact BK195.out⟩
        have n3_ : Aside0 (Below w.heap.size w ((w137.setCell ⟨gb195, 0, none⟩ (.bool t192)).setCell ⟨gb195, 1, none⟩ (.string t193))) := ⟨by repeat (first | (with_reducible first | exact HB.out | apply below_alloc | apply pw_below_drewN | apply below_drew1 | refine below_set ?_ GE182.out | refine below_set ?_ GE191.out | refine below_set ?_ GE195.out) | exact HB.out)⟩
        (try clear BK182)
        (try clear BK191)
        (try clear BK195)
        (try clear HB)
        generalize ((w137.setCell ⟨gb195, 0, none⟩ (.bool t192)).setCell ⟨gb195, 1, none⟩ (.string t193)) = w141 at n0_ n1_ n2_ n3_ ⊢
        have BK182 := n0_
        have BK191 := n1_
        have BK195 := n2_
        have HB := n3_
        clear n0_ n1_ n2_ n3_
        have n0_ := Aside0.mk (blk_drew BK182.out)
        have n1_ := Aside0.mk (blk_drew BK191.out)
        have n2_ := Aside0.mk (blk_drew BK195.out)
        have n3_ := Aside0.mk (below_drew1 HB.out)
        clear BK182
        clear BK191
        clear BK195
        clear HB
        have BK182 := n0_
        have BK191 := n1_
        have BK195 := n2_
        have HB := n3_
        clear n0_ n1_ n2_ n3_
        refine start_ (n := 47) (S := fun w' => w'.cell? ⟨gb182, 0, none⟩ = some (.bool a0_0) ∧ w'.cell? ⟨gb182, 1, none⟩ = some (.string a0_1)) (ds := []) m0_ (by kernel_rfl) rfl rfl ⟨(blk_cell BK182.out 0).trans rfl, (blk_cell BK182.out 1).trans rfl⟩ (fun hHeld => ?_); refine with_tabW newsreellaw27_EtagTells.tab7 newsreellaw27_EtagTells.bits7 (fun HT_ HW_ => ?_)
        generalize w141.drew = w142 at BK182 BK191 BK195 HB hHeld ⊢
        refine take_ (i := 0) (N := some 50) (v := ?_) (a' := ?_) m1_ rfl rfl (take_ofW HT_.out HW_.out (by kernel_rfl)) (fun _ _ _ h => h) (Or.inl ⟨by rfl, ?_⟩) hHeld ?_ ?_
        rotate_left
        ·rintro w' ⟨s0, s1⟩
         go_simp
         with_reducible rfl
        rotate_left
        ·simp only [Act.put, S_]
         rfl
        refine take_ (i := 2) (N := some 52) (v := ?_) (a' := ?_) m2_ rfl rfl (take_ofW HT_.out HW_.out (by kernel_rfl)) (fun _ _ _ h => h) (Or.inl ⟨by rfl, ?_⟩) hHeld ?_ ?_
        rotate_left
        ·rintro w' ⟨s0, s1⟩
         go_simp
         with_reducible rfl
        rotate_left
        ·simp only [Act.put, S_]
         rfl
        refine one_ (i := 1) (N := some 51) m3_ rfl rfl (one_of HT_.out (by kernel_rfl)) (by decide) (fun K hK => ?_)
        refine goes_ Try.func26 (by kernel_rfl) rfl #[.agg #[.bool a0_0, .string a0_1]] (by rfl) rfl rfl (by (try simp only [List.map_toArray, List.map_cons, List.map_nil]); first | done | rfl | (simp only [List.length_drop, List.length_take]; rfl)) ?_
        with_reducible refine (etag_Right.calls kj3 a0_0 a0_1 t196 _ A18.out).mono ?_
        rintro e w143 ⟨rfl, hb⟩
        refine ⟨_, rfl, ?_⟩
        have n0_ := Aside0.mk (blk_below (g := gb182) (o := .cells #[.bool a0_0, .string a0_1] 47 (0, 0)) (sm_ BK182) hb)
        have n1_ := Aside0.mk (blk_below (g := gb191) (o := .cells #[.bool t188, .string t189] 47 (0, 0)) (sm_ BK191) hb)
        have n2_ := Aside0.mk (blk_below (g := gb195) (o := .cells #[.bool t192, .string t193] 47 (0, 0)) (sm_ BK195) hb)
        have n3_ := Aside0.mk (below_step (by repeat (first | (with_reducible first | exact HB.out | apply below_alloc | apply pw_below_drewN | apply below_drew1 | refine below_set ?_ GE182.out | refine below_set ?_ GE191.out | refine below_set ?_ GE195.out) | exact HB.out)) hb)
        clear BK182
        clear BK191
        clear BK195
        clear HB
        have BK182 := n0_
        have BK191 := n1_
        have BK195 := n2_
        have HB := n3_
        clear n0_ n1_ n2_ n3_
        (try clear hb)
        (try clear hb2)
        (try clear hk)
        (try clear hi)
        refine hK.out _ _ ⟨(blk_cell BK182.out 0).trans rfl, (blk_cell BK182.out 1).trans rfl⟩ (fun hHeld => ?_); clear hK K
        refine norm_ (a' := ?_) ?_ ?_; rotate_left; (· show Act.put _ (some 51) _ = _; simp only [Act.put, S_]; rfl)
        refine one_ (i := 3) (N := some 53) m4_ rfl rfl (one_of HT_.out (by kernel_rfl)) (by decide) (fun K hK => ?_)
        refine goes_ Try.func27 (by kernel_rfl) rfl #[.agg #[.bool a0_0, .string a0_1]] (by rfl) rfl rfl (by (try simp only [List.map_toArray, List.map_cons, List.map_nil]); first | done | rfl | (simp only [List.length_drop, List.length_take]; rfl)) ?_
        with_reducible refine (newsreelref27_Right.calls kj3 a0_0 a0_1 t197 _ A19.out).mono ?_
        rintro e w144 ⟨rfl, hb⟩
        refine ⟨_, rfl, ?_⟩
        have n0_ := Aside0.mk (blk_below (g := gb182) (o := .cells #[.bool a0_0, .string a0_1] 47 (0, 0)) (sm_ BK182) hb)
        have n1_ := Aside0.mk (blk_below (g := gb191) (o := .cells #[.bool t188, .string t189] 47 (0, 0)) (sm_ BK191) hb)
        have n2_ := Aside0.mk (blk_below (g := gb195) (o := .cells #[.bool t192, .string t193] 47 (0, 0)) (sm_ BK195) hb)
        have n3_ := Aside0.mk (below_step (by repeat (first | (with_reducible first | exact HB.out | apply below_alloc | apply pw_below_drewN | apply below_drew1 | refine below_set ?_ GE182.out | refine below_set ?_ GE191.out | refine below_set ?_ GE195.out) | exact HB.out)) hb)
        clear BK182
        clear BK191
        clear BK195
        clear HB
        have BK182 := n0_
        have BK191 := n1_
        have BK195 := n2_
        have HB := n3_
        clear n0_ n1_ n2_ n3_
        (try clear hb)
        (try clear hb2)
        (try clear hk)
        (try clear hi)
        refine hK.out _ _ ⟨(blk_cell BK182.out 0).trans rfl, (blk_cell BK182.out 1).trans rfl⟩ (fun hHeld => ?_); clear hK K
        refine norm_ (a' := ?_) ?_ ?_; rotate_left; (· show Act.put _ (some 53) _ = _; simp only [Act.put, S_]; rfl)
        refine pure_ (i := 4) (N := some 54) (v := ?_) (a' := ?_) m5_ rfl rfl (an_ HT_) (fun _ _ _ h => h) (Or.inl ⟨by rfl, ?_⟩) ?_ ?_; rotate_left; (· intro w'; go_simp; with_reducible rfl); rotate_left; (· simp only [Act.put, S_]; rfl)
        refine pure_ (i := 5) (N := some 55) (v := ?_) (a' := ?_) m6_ rfl rfl (an_ HT_) (fun _ _ _ h => h) (Or.inl ⟨by rfl, ?_⟩) ?_ ?_; rotate_left; (· intro w'; go_simp; with_reducible rfl); rotate_left; (· simp only [Act.put, S_]; rfl)
        refine pure_ (i := 6) (N := some 56) (v := ?_) (a' := ?_) m7_ rfl rfl (an_ HT_) (fun _ _ _ h => h) (Or.inl ⟨by rfl, ?_⟩) ?_ ?_; rotate_left; (· intro w'; go_simp; with_reducible rfl); rotate_left; (· simp only [Act.put, S_]; rfl)
        refine pure_ (i := 7) (N := some 57) (v := ?_) (a' := ?_) m8_ rfl rfl (an_ HT_) (fun _ _ _ h => h) (Or.inl ⟨by rfl, ?_⟩) ?_ ?_; rotate_left; (· intro w'; go_simp; with_reducible rfl); rotate_left; (· simp only [Act.put, S_]; rfl)
        refine pure_ (i := 8) (N := some 58) (v := ?_) (a' := ?_) m9_ rfl rfl (an_ HT_) (fun _ _ _ h => h) (Or.inl ⟨by rfl, ?_⟩) ?_ ?_; rotate_left; (· intro w'; go_simp; with_reducible rfl); rotate_left; (· simp only [Act.put, S_]; rfl)
        refine pure_ (i := 9) (N := some 59) (v := ?_) (a' := ?_) m10_ rfl rfl (an_ HT_) (fun _ _ _ h => h) (Or.inl ⟨by rfl, ?_⟩) ?_ ?_; rotate_left; (· intro w'; go_simp; with_reducible rfl); rotate_left; (· simp only [Act.put, S_]; rfl)
        refine pure_ (i := 10) (N := some 60) (v := ?_) (a' := ?_) m11_ rfl rfl (an_ HT_) (fun _ _ _ h => h) (Or.inl ⟨by rfl, ?_⟩) ?_ ?_; rotate_left; (· intro w'; go_simp; with_reducible rfl); rotate_left; (· simp only [Act.put, S_]; rfl)
        refine pure_ (i := 11) (N := some 61) (v := ?_) (a' := ?_) m12_ rfl rfl (an_ HT_) (fun _ _ _ h => h) (Or.inl ⟨by rfl, ?_⟩) ?_ ?_; rotate_left; (· intro w'; go_simp; with_reducible rfl); rotate_left; (· simp only [Act.put, S_]; rfl)
        refine pure_ (i := 12) (N := some 62) (v := ?_) (a' := ?_) m13_ rfl rfl (an_ HT_) (fun _ _ _ h => h) (Or.inl ⟨by rfl, ?_⟩) ?_ ?_; rotate_left; (· intro w'; go_simp; with_reducible rfl); rotate_left; (· simp only [Act.put, S_]; rfl)
        refine pure_ (i := 13) (N := some 63) (v := ?_) (a' := ?_) m14_ rfl rfl (an_ HT_) (fun _ _ _ h => h) (Or.inl ⟨by rfl, ?_⟩) ?_ ?_; rotate_left; (· intro w'; go_simp; with_reducible rfl); rotate_left; (· simp only [Act.put, S_]; rfl)
        refine pure_ (i := 14) (N := some 64) (v := ?_) (a' := ?_) m15_ rfl rfl (an_ HT_) (fun _ _ _ h => h) (Or.inl ⟨by rfl, ?_⟩) ?_ ?_; rotate_left; (· intro w'; go_simp; with_reducible rfl); rotate_left; (· simp only [Act.put, S_]; rfl)
        refine pure_ (i := 15) (N := some 65) (v := ?_) (a' := ?_) m16_ rfl rfl (an_ HT_) (fun _ _ _ h => h) (Or.inl ⟨by rfl, ?_⟩) ?_ ?_; rotate_left; (· intro w'; go_simp; with_reducible rfl); rotate_left; (· simp only [Act.put, S_]; rfl)
        refine pure_ (i := 16) (N := some 66) (v := undef) (a' := ?_) m17_ rfl rfl (an_ HT_) (fun _ _ _ h => h) (Or.inr ⟨by rfl, rfl⟩) ?_ ?_; rotate_left; (· simp only [Act.put, S_]; rfl)
        refine pure_ (i := 17) (N := some 67) (v := undef) (a' := ?_) m18_ rfl rfl (an_ HT_) (fun _ _ _ h => h) (Or.inr ⟨by rfl, rfl⟩) ?_ ?_; rotate_left; (· simp only [Act.put, S_]; rfl)
        refine pure_ (i := 18) (N := some 68) (v := undef) (a' := ?_) m19_ rfl rfl (an_ HT_) (fun _ _ _ h => h) (Or.inr ⟨by rfl, rfl⟩) ?_ ?_; rotate_left; (· simp only [Act.put, S_]; rfl)
        refine pure_ (i := 19) (N := some 69) (v := ?_) (a' := ?_) m20_ rfl rfl (an_ HT_) (fun _ _ _ h => h) (Or.inl ⟨by rfl, ?_⟩) ?_ ?_; rotate_left; (· intro w'; go_simp; with_reducible rfl); rotate_left; (· simp only [Act.put, S_]; rfl)
        refine pure_ (i := 20) (N := some 70) (v := ?_) (a' := ?_) m21_ rfl rfl (an_ HT_) (fun _ _ _ h => h) (Or.inl ⟨by rfl, ?_⟩) ?_ ?_; rotate_left; (· intro w'; go_simp; with_reducible rfl); rotate_left; (· simp only [Act.put, S_]; rfl)
        refine pure_ (i := 21) (N := some 71) (v := undef) (a' := ?_) m22_ rfl rfl (an_ HT_) (fun _ _ _ h => h) (Or.inr ⟨by rfl, rfl⟩) ?_ ?_; rotate_left; (· simp only [Act.put, S_]; rfl)
        refine pure_ (i := 22) (N := some 72) (v := undef) (a' := ?_) m23_ rfl rfl (an_ HT_) (fun _ _ _ h => h) (Or.inr ⟨by rfl, rfl⟩) ?_ ?_; rotate_left; (· simp only [Act.put, S_]; rfl)
        refine pure_ (i := 23) (N := some 73) (v := undef) (a' := ?_) m24_ rfl rfl (an_ HT_) (fun _ _ _ h => h) (Or.inr ⟨by rfl, rfl⟩) ?_ ?_; rotate_left; (· simp only [Act.put, S_]; rfl)
        refine pure_ (i := 24) (N := some 74) (v := ?_) (a' := ?_) m25_ rfl rfl (an_ HT_) (fun _ _ _ h => h) (Or.inl ⟨by rfl, ?_⟩) ?_ ?_; rotate_left; (· intro w'; go_simp; with_reducible rfl); rotate_left; (· simp only [Act.put, S_]; rfl)
        refine pure_ (i := 25) (N := some 75) (v := ?_) (a' := ?_) m26_ rfl rfl (an_ HT_) (fun _ _ _ h => h) (Or.inl ⟨by rfl, ?_⟩) ?_ ?_; rotate_left; (· intro w'; go_simp; with_reducible rfl); rotate_left; (· simp only [Act.put, S_]; rfl)
        refine pure_ (i := 26) (N := some 76) (v := undef) (a' := ?_) m27_ rfl rfl (an_ HT_) (fun _ _ _ h => h) (Or.inr ⟨by rfl, rfl⟩) ?_ ?_; rotate_left; (· simp only [Act.put, S_]; rfl)
        refine pure_ (i := 27) (N := some 77) (v := undef) (a' := ?_) m28_ rfl rfl (an_ HT_) (fun _ _ _ h => h) (Or.inr ⟨by rfl, rfl⟩) ?_ ?_; rotate_left; (· simp only [Act.put, S_]; rfl)
        refine pure_ (i := 28) (N := some 78) (v := undef) (a' := ?_) m31_ rfl rfl (an_ HT_) (fun _ _ _ h => h) (Or.inr ⟨by rfl, rfl⟩) ?_ ?_; rotate_left; (· simp only [Act.put, S_]; rfl)
        refine pure_ (i := 29) (N := some 79) (v := undef) (a' := ?_) m32_ rfl rfl (an_ HT_) (fun _ _ _ h => h) (Or.inr ⟨by rfl, rfl⟩) ?_ ?_; rotate_left; (· simp only [Act.put, S_]; rfl)
        refine pure_ (i := 30) (N := some 80) (v := undef) (a' := ?_) m33_ rfl rfl (an_ HT_) (fun _ _ _ h => h) (Or.inr ⟨by rfl, rfl⟩) ?_ ?_; rotate_left; (· simp only [Act.put, S_]; rfl)
        refine pure_ (i := 31) (N := some 81) (v := undef) (a' := ?_) m34_ rfl rfl (an_ HT_) (fun _ _ _ h => h) (Or.inr ⟨by rfl, rfl⟩) ?_ ?_; rotate_left; (· simp only [Act.put, S_]; rfl)
        refine pure_ (i := 32) (N := some 82) (v := undef) (a' := ?_) m35_ rfl rfl (an_ HT_) (fun _ _ _ h => h) (Or.inr ⟨by rfl, rfl⟩) ?_ ?_; rotate_left; (· simp only [Act.put, S_]; rfl)
        refine pure_ (i := 33) (N := some 83) (v := ?_) (a' := ?_) m36_ rfl rfl (an_ HT_) (fun _ _ _ h => h) (Or.inl ⟨by rfl, ?_⟩) ?_ ?_; rotate_left; (· intro w'; go_simp; with_reducible rfl); rotate_left; (· simp only [Act.put, S_]; rfl)
        refine pure_ (i := 34) (N := some 84) (v := ?_) (a' := ?_) m37_ rfl rfl (an_ HT_) (fun _ _ _ h => h) (Or.inl ⟨by rfl, ?_⟩) ?_ ?_; rotate_left; (· intro w'; go_simp; with_reducible rfl); rotate_left; (· simp only [Act.put, S_]; rfl)
        refine pure_ (i := 35) (N := some 85) (v := undef) (a' := ?_) m38_ rfl rfl (an_ HT_) (fun _ _ _ h => h) (Or.inr ⟨by rfl, rfl⟩) ?_ ?_; rotate_left; (· simp only [Act.put, S_]; rfl)
        refine pure_ (i := 36) (N := some 86) (v := undef) (a' := ?_) m39_ rfl rfl (an_ HT_) (fun _ _ _ h => h) (Or.inr ⟨by rfl, rfl⟩) ?_ ?_; rotate_left; (· simp only [Act.put, S_]; rfl)
        refine pure_ (i := 37) (N := some 87) (v := undef) (a' := ?_) m42_ rfl rfl (an_ HT_) (fun _ _ _ h => h) (Or.inr ⟨by rfl, rfl⟩) ?_ ?_; rotate_left; (· simp only [Act.put, S_]; rfl)
        refine pure_ (i := 38) (N := some 88) (v := undef) (a' := ?_) m43_ rfl rfl (an_ HT_) (fun _ _ _ h => h) (Or.inr ⟨by rfl, rfl⟩) ?_ ?_; rotate_left; (· simp only [Act.put, S_]; rfl)
        refine pure_ (i := 39) (N := some 89) (v := undef) (a' := ?_) m44_ rfl rfl (an_ HT_) (fun _ _ _ h => h) (Or.inr ⟨by rfl, rfl⟩) ?_ ?_; rotate_left; (· simp only [Act.put, S_]; rfl)
        refine pure_ (i := 40) (N := some 90) (v := undef) (a' := ?_) m45_ rfl rfl (an_ HT_) (fun _ _ _ h => h) (Or.inr ⟨by rfl, rfl⟩) ?_ ?_; rotate_left; (· simp only [Act.put, S_]; rfl)
        refine pure_ (i := 41) (N := some 91) (v := undef) (a' := ?_) m46_ rfl rfl (an_ HT_) (fun _ _ _ h => h) (Or.inr ⟨by rfl, rfl⟩) ?_ ?_; rotate_left; (· simp only [Act.put, S_]; rfl)
        refine pure_ (i := 42) (N := some 92) (v := ?_) (a' := ?_) m47_ rfl rfl (an_ HT_) (fun _ _ _ h => h) (Or.inl ⟨by rfl, ?_⟩) ?_ ?_; rotate_left; (· intro w'; go_simp; with_reducible rfl); rotate_left; (· simp only [Act.put, S_]; rfl)
        refine pure_ (i := 43) (N := some 93) (v := ?_) (a' := ?_) m48_ rfl rfl (an_ HT_) (fun _ _ _ h => h) (Or.inl ⟨by rfl, ?_⟩) ?_ ?_; rotate_left; (· intro w'; go_simp; with_reducible rfl); rotate_left; (· simp only [Act.put, S_]; rfl)
        refine pure_ (i := 44) (N := some 94) (v := undef) (a' := ?_) m49_ rfl rfl (an_ HT_) (fun _ _ _ h => h) (Or.inr ⟨by rfl, rfl⟩) ?_ ?_; rotate_left; (· simp only [Act.put, S_]; rfl)
        refine pure_ (i := 45) (N := some 95) (v := ?_) (a' := ?_) m50_ rfl rfl (an_ HT_) (fun _ _ _ h => h) (Or.inl ⟨by rfl, ?_⟩) ?_ ?_; rotate_left; (· intro w'; go_simp; with_reducible rfl); rotate_left; (· simp only [Act.put, S_]; rfl)
        refine pure_ (i := 46) (N := some 6) (v := ?_) (a' := ?_) m51_ rfl rfl (an_ HT_) (fun _ _ _ h => h) (Or.inl ⟨by rfl, ?_⟩) ?_ ?_; rotate_left; (· intro w'; go_simp; with_reducible rfl); rotate_left; (· simp only [Act.put, S_]; rfl)
        refine done_ (done_of HT_.out (by kernel_rfl)) ?_
        try go_wp2
        go_ret
        exact ⟨by first | rfl | (simp [errW_none, errW_some] <;> rfl) | (simp [*, errW_none, errW_some] <;> rfl), by repeat (first | (with_reducible first | exact HB.out | apply below_alloc | apply pw_below_drewN | apply below_drew1 | refine below_set ?_ GE182.out | refine below_set ?_ GE191.out | refine below_set ?_ GE195.out) | exact HB.out)⟩
      ·rw [if_neg c21] at H
       have c21b0 : (t184.toList == t186.toList) = false := beq_eq_false_iff_ne.mpr c21
       have c21b1 : (t184.toList != t186.toList) = true := bne_iff_ne.mpr c21
       obtain rfl := Option.some.inj H
       have hcz145_0 : wc.cell? ⟨gb182, 0, none⟩ = some (.bool a0_0) := (blk_cell BK182.out 0).trans rfl
       have hcz145_1 : wc.cell? ⟨gb182, 1, none⟩ = some (.string a0_1) := (blk_cell BK182.out 1).trans rfl
       have hfz145_0 := blk_frozen BK182.out 0
       have hfz145_1 := blk_frozen BK182.out 1
       try go_wp2_with (first | ((with_reducible refine gate_callee (f := 22) rfl ?_); refine goesL_ (some 32) rfl rfl Try.func22 (by kernel_rfl) rfl #[.agg #[.bool a0_0, .string a0_1]] rfl (by (try simp only [List.map_toArray, List.map_cons, List.map_nil]); first | done | rfl | (simp only [List.length_drop, List.length_take]; rfl)) ?_; (with_reducible refine (etag_Put.calls kj3 a0_0 a0_1 t184 t185 _ A14.out).mono ?_); rintro e w146 ⟨rfl, hb⟩; refine ⟨_, rfl, ?_⟩; have n0_ := Aside0.mk (blk_below (g := gb182) (o := .cells #[.bool a0_0, .string a0_1] 47 (0, 0)) (sm_ BK182) hb); have n1_ := Aside0.mk (below_step (by repeat (first | (with_reducible first | exact HB.out | apply below_alloc | apply pw_below_drewN | apply below_drew1 | refine below_set ?_ GE182.out) | exact HB.out)) hb); clear BK182; clear HB; have BK182 := n0_; have HB := n1_; clear n0_ n1_; (try clear hb); (try clear hb2); (try clear hk); (try clear hi); have hcz147_0 : w146.cell? ⟨gb182, 0, none⟩ = some (.bool a0_0) := (blk_cell BK182.out 0).trans rfl; have hcz147_1 : w146.cell? ⟨gb182, 1, none⟩ = some (.string a0_1) := (blk_cell BK182.out 1).trans rfl; have hfz147_0 := blk_frozen BK182.out 0; have hfz147_1 := blk_frozen BK182.out 1) | ((with_reducible refine gate_callee (f := 23) rfl ?_); refine goesL_ (some 37) rfl rfl Try.func23 (by kernel_rfl) rfl #[.agg #[.bool a0_0, .string a0_1]] rfl (by (try simp only [List.map_toArray, List.map_cons, List.map_nil]); first | done | rfl | (simp only [List.length_drop, List.length_take]; rfl)) ?_; (with_reducible refine (newsreelref27_Put.calls kj3 a0_0 a0_1 t186 t187 _ A15.out).mono ?_); rintro e w148 ⟨rfl, hb⟩; refine ⟨_, rfl, ?_⟩; have n0_ := Aside0.mk (blk_below (g := gb182) (o := .cells #[.bool a0_0, .string a0_1] 47 (0, 0)) (sm_ BK182) hb); have n1_ := Aside0.mk (below_step (by repeat (first | (with_reducible first | exact HB.out | apply below_alloc | apply pw_below_drewN | apply below_drew1 | refine below_set ?_ GE182.out) | exact HB.out)) hb); clear BK182; clear HB; have BK182 := n0_; have HB := n1_; clear n0_ n1_; (try clear hb); (try clear hb2); (try clear hk); (try clear hi)) | ((with_reducible refine gate_callee (f := 24) rfl ?_); refine goesL_ (some 42) rfl rfl Try.func24 (by kernel_rfl) rfl #[.string a1] rfl (by (try simp only [List.map_toArray, List.map_cons, List.map_nil]); first | done | rfl | (simp only [List.length_drop, List.length_take]; rfl)) ?_; (with_reducible refine (etag_Get.calls kj3 a1 t188 t189 t190 _ A16.out).mono ?_); rintro e w149 ⟨rfl, hb⟩; refine ⟨_, rfl, ?_⟩; have n0_ := Aside0.mk (blk_below (g := gb182) (o := .cells #[.bool a0_0, .string a0_1] 47 (0, 0)) (sm_ BK182) hb); have n1_ := Aside0.mk (below_step (by repeat (first | (with_reducible first | exact HB.out | apply below_alloc | apply pw_below_drewN | apply below_drew1 | refine below_set ?_ GE182.out) | exact HB.out)) hb); clear BK182; clear HB; have BK182 := n0_; have HB := n1_; clear n0_ n1_; (try clear hb); (try clear hb2); (try clear hk); (try clear hi)) | ((with_reducible refine gate_dst (N := 11) rfl ?_); (try (refine gate_guard (by rfl) ?_; dsimp only)); refine box_event ?hg (N := 11) ?hd (cs := #[.bool false, .string (⟨#[]⟩ : ByteArray)]) (t := 47) ?hr ?_; (case hd => rfl); (case hg => rfl); (case hr => first | (go_simp; done) | (go_simp; rfl)); intro gb191 hg w150 hbox hb; have n0_ := Aside0.mk (blk_below (g := gb182) (o := .cells #[.bool a0_0, .string a0_1] 47 (0, 0)) (sm_ BK182) hb); have n1_ := Aside0.mk (below_step (by repeat (first | (with_reducible first | exact HB.out | apply below_alloc | apply pw_below_drewN | apply below_drew1 | refine below_set ?_ GE182.out) | exact HB.out)) hb); have n2_ := Aside0.mk (hbox); have n3_ := Aside0.mk ((by rw [hg]; exact (below_size (by repeat (first | (with_reducible first | exact HB.out | apply below_alloc | apply pw_below_drewN | apply below_drew1 | refine below_set ?_ GE182.out) | exact HB.out))) : w.heap.size ≤ gb191)); have n4_ := Aside0.mk ((by rw [hg]; exact (below_size (by repeat (first | (with_reducible first | exact HB.out | apply below_alloc | apply pw_below_drewN | apply below_drew1 | refine below_set ?_ GE182.out) | exact HB.out))) : w.heap.size ≤ gb191)); have n5_ := Aside0.mk ((by rw [hg]; exact Nat.ne_of_lt (blk_lt (g := gb182) (o := .cells #[.bool a0_0, .string a0_1] 47 (0, 0)) (sm_ BK182)) : gb182 ≠ gb191)); have n6_ := Aside0.mk ((by rw [hg]; exact Nat.ne_of_gt (blk_lt (g := gb182) (o := .cells #[.bool a0_0, .string a0_1] 47 (0, 0)) (sm_ BK182)) : gb191 ≠ gb182)); clear BK182; clear HB; have BK182 := n0_; have HB := n1_; have BK191 := n2_; have GW191 := n3_; have GE191 := n4_; have NB182_191 := n5_; have NB191_182 := n6_; clear n0_ n1_ n2_ n3_ n4_ n5_ n6_; clear hb hbox hg; have hnb151 := NB191_182.out; have hnc151 := NB182_191.out; have hcz152_0 : w150.cell? ⟨gb191, 0, none⟩ = some (.bool false) := (blk_cell BK191.out 0).trans rfl; have hcz152_1 : w150.cell? ⟨gb191, 1, none⟩ = some (.string (⟨#[]⟩ : ByteArray)) := (blk_cell BK191.out 1).trans rfl; have hfz152_0 := blk_frozen BK191.out 0; have hfz152_1 := blk_frozen BK191.out 1) | ((with_reducible refine gate_callee (f := 25) rfl ?_); refine goesL_ (some 47) rfl rfl Try.func25 (by kernel_rfl) rfl #[.string a1] rfl (by (try simp only [List.map_toArray, List.map_cons, List.map_nil]); first | done | rfl | (simp only [List.length_drop, List.length_take]; rfl)) ?_; (with_reducible refine (newsreelref27_Get.calls kj3 a1 t192 t193 t194 _ A17.out).mono ?_); rintro e w153 ⟨rfl, hb⟩; refine ⟨_, rfl, ?_⟩; have n0_ := Aside0.mk (blk_below (g := gb182) (o := .cells #[.bool a0_0, .string a0_1] 47 (0, 0)) (by (with_reducible repeat (first | refine blk_drewN ?_ _ | refine blk_drew ?_ | refine blk_alloc ?_ _)); refine blk_far ?_ NB182_191.out _; (with_reducible repeat (first | refine blk_drewN ?_ _ | refine blk_drew ?_ | refine blk_alloc ?_ _)); refine blk_far ?_ NB182_191.out _; (with_reducible repeat (first | refine blk_drewN ?_ _ | refine blk_drew ?_ | refine blk_alloc ?_ _)); exact BK182.out) hb); have n1_ := Aside0.mk (blk_below (g := gb191) (o := .cells #[.bool t188, .string t189] 47 (0, 0)) (by (with_reducible repeat (first | refine blk_drewN ?_ _ | refine blk_drew ?_ | refine blk_alloc ?_ _)); refine blk_put (cs := #[.bool t188, .string (⟨#[]⟩ : ByteArray)]) ?_ 1 _ rfl; (with_reducible repeat (first | refine blk_drewN ?_ _ | refine blk_drew ?_ | refine blk_alloc ?_ _)); refine blk_put (cs := #[.bool false, .string (⟨#[]⟩ : ByteArray)]) ?_ 0 _ rfl; (with_reducible repeat (first | refine blk_drewN ?_ _ | refine blk_drew ?_ | refine blk_alloc ?_ _)); exact BK191.out) hb); have n2_ := Aside0.mk (below_step (by repeat (first | (with_reducible first | exact HB.out | apply below_alloc | apply pw_below_drewN | apply below_drew1 | refine below_set ?_ GE182.out | refine below_set ?_ GE191.out) | exact HB.out)) hb); clear BK182; clear BK191; clear HB; have BK182 := n0_; have BK191 := n1_; have HB := n2_; clear n0_ n1_ n2_; (try clear hb); (try clear hb2); (try clear hk); (try clear hi)) | ((with_reducible refine gate_dst (N := 13) rfl ?_); (try (refine gate_guard (by rfl) ?_; dsimp only)); refine box_event ?hg (N := 13) ?hd (cs := #[.bool false, .string (⟨#[]⟩ : ByteArray)]) (t := 47) ?hr ?_; (case hd => rfl); (case hg => rfl); (case hr => first | (go_simp; done) | (go_simp; rfl)); intro gb195 hg w154 hbox hb; have n0_ := Aside0.mk (blk_below (g := gb182) (o := .cells #[.bool a0_0, .string a0_1] 47 (0, 0)) (sm_ BK182) hb); have n1_ := Aside0.mk (blk_below (g := gb191) (o := .cells #[.bool t188, .string t189] 47 (0, 0)) (sm_ BK191) hb); have n2_ := Aside0.mk (below_step (by repeat (first | (with_reducible first | exact HB.out | apply below_alloc | apply pw_below_drewN | apply below_drew1 | refine below_set ?_ GE182.out | refine below_set ?_ GE191.out) | exact HB.out)) hb); have n3_ := Aside0.mk (hbox); have n4_ := Aside0.mk ((by rw [hg]; exact (below_size (by repeat (first | (with_reducible first | exact HB.out | apply below_alloc | apply pw_below_drewN | apply below_drew1 | refine below_set ?_ GE182.out | refine below_set ?_ GE191.out) | exact HB.out))) : w.heap.size ≤ gb195)); have n5_ := Aside0.mk ((by rw [hg]; exact (below_size (by repeat (first | (with_reducible first | exact HB.out | apply below_alloc | apply pw_below_drewN | apply below_drew1 | refine below_set ?_ GE182.out | refine below_set ?_ GE191.out) | exact HB.out))) : w.heap.size ≤ gb195)); have n6_ := Aside0.mk ((by rw [hg]; exact Nat.ne_of_lt (blk_lt (g := gb182) (o := .cells #[.bool a0_0, .string a0_1] 47 (0, 0)) (sm_ BK182)) : gb182 ≠ gb195)); have n7_ := Aside0.mk ((by rw [hg]; exact Nat.ne_of_gt (blk_lt (g := gb182) (o := .cells #[.bool a0_0, .string a0_1] 47 (0, 0)) (sm_ BK182)) : gb195 ≠ gb182)); have n8_ := Aside0.mk ((by rw [hg]; exact Nat.ne_of_lt (blk_lt (g := gb191) (o := .cells #[.bool t188, .string t189] 47 (0, 0)) (sm_ BK191)) : gb191 ≠ gb195)); have n9_ := Aside0.mk ((by rw [hg]; exact Nat.ne_of_gt (blk_lt (g := gb191) (o := .cells #[.bool t188, .string t189] 47 (0, 0)) (sm_ BK191)) : gb195 ≠ gb191)); clear BK182; clear BK191; clear HB; have BK182 := n0_; have BK191 := n1_; have HB := n2_; have BK195 := n3_; have GW195 := n4_; have GE195 := n5_; have NB182_195 := n6_; have NB195_182 := n7_; have NB191_195 := n8_; have NB195_191 := n9_; clear n0_ n1_ n2_ n3_ n4_ n5_ n6_ n7_ n8_ n9_; clear hb hbox hg; have hnb155 := NB195_182.out; have hnc155 := NB182_195.out; have hnb156 := NB195_191.out; have hnc156 := NB191_195.out; have hcz157_0 : w154.cell? ⟨gb195, 0, none⟩ = some (.bool false) := (blk_cell BK195.out 0).trans rfl; have hcz157_1 : w154.cell? ⟨gb195, 1, none⟩ = some (.string (⟨#[]⟩ : ByteArray)) := (blk_cell BK195.out 1).trans rfl; have hfz157_0 := blk_frozen BK195.out 0; have hfz157_1 := blk_frozen BK195.out 1))
       have n0_ : Aside0 (((w154.setCell ⟨gb195, 0, none⟩ (.bool t192)).setCell ⟨gb195, 1, none⟩ (.string t193)).heap[gb182]? = some (.cells #[.bool a0_0, .string a0_1] 47 (0, 0))) := ⟨by (with_reducible repeat (first | refine blk_drewN ?_ _ | refine blk_drew ?_ | refine blk_alloc ?_ _)); refine blk_far ?_ NB182_195.out _; (with_reducible repeat (first | refine blk_drewN ?_ _ | refine blk_drew ?_ | refine blk_alloc ?_ _)); refine blk_far ?_ NB182_195.out _; (with_reducible repeat (first | refine blk_drewN ?_ _ | refine blk_drew ?_ | refine blk_alloc ?_ _)); exact BK182.out⟩
       have n1_ : Aside0 (((w154.setCell ⟨gb195, 0, none⟩ (.bool t192)).setCell ⟨gb195, 1, none⟩ (.string t193)).heap[gb191]? = some (.cells #[.bool t188, .string t189] 47 (0, 0))) := ⟨by (with_reducible repeat (first | refine blk_drewN ?_ _ | refine blk_drew ?_ | refine blk_alloc ?_ _)); refine blk_far ?_ NB191_195.out _; (with_reducible repeat (first | refine blk_drewN ?_ _ | refine blk_drew ?_ | refine blk_alloc ?_ _)); refine blk_far ?_ NB191_195.out _; (with_reducible repeat (first | refine blk_drewN ?_ _ | refine blk_drew ?_ | refine blk_alloc ?_ _)); exact BK191.out⟩
       have n2_ : Aside0 (((w154.setCell ⟨gb195, 0, none⟩ (.bool t192)).setCell ⟨gb195, 1, none⟩ (.string t193)).heap[gb195]? = some (.cells #[.bool t192, .string t193] 47 (0, 0))) := ⟨by (with_reducible repeat (first | refine blk_drewN ?_ _ | refine blk_drew ?_ | refine blk_alloc ?_ _)); refine blk_put (cs := #[.bool t192, .string (⟨#[]⟩ : ByteArray)]) ?_ 1 _ rfl; (with_reducible repeat (first | refine blk_drewN ?_ _ | refine blk_drew ?_ | refine blk_alloc ?_ _)); refine blk_put (cs := #[.bool false, .string (⟨#[]⟩ : ByteArray)]) ?_ 0 _ rfl; (with_reducible repeat (first | refine blk_drewN ?_ _ | refine blk_drew ?_ | refine blk_alloc ?_ _)); exact BK195.out⟩
       have n3_ : Aside0 (Below w.heap.size w ((w154.setCell ⟨gb195, 0, none⟩ (.bool t192)).setCell ⟨gb195, 1, none⟩ (.string t193))) := ⟨by repeat (first | (with_reducible first | exact HB.out | apply below_alloc | apply pw_below_drewN | apply below_drew1 | refine below_set ?_ GE182.out | refine below_set ?_ GE191.out | refine below_set ?_ GE195.out) | exact HB.out)⟩
       (try clear BK182)
       (try clear BK191)
       (try clear BK195)
       (try clear HB)
       generalize ((w154.setCell ⟨gb195, 0, none⟩ (.bool t192)).setCell ⟨gb195, 1, none⟩ (.string t193)) = w158 at n0_ n1_ n2_ n3_ ⊢
       have BK182 := n0_
       have BK191 := n1_
       have BK195 := n2_
       have HB := n3_
       clear n0_ n1_ n2_ n3_
       have n0_ := Aside0.mk (blk_drew BK182.out)
       have n1_ := Aside0.mk (blk_drew BK191.out)
       have n2_ := Aside0.mk (blk_drew BK195.out)
       have n3_ := Aside0.mk (below_drew1 HB.out)
       clear BK182
       clear BK191
       clear BK195
       clear HB
       have BK182 := n0_
       have BK191 := n1_
       have BK195 := n2_
       have HB := n3_
       clear n0_ n1_ n2_ n3_
       refine start_ (n := 47) (S := fun w' => w'.cell? ⟨gb182, 0, none⟩ = some (.bool a0_0) ∧ w'.cell? ⟨gb182, 1, none⟩ = some (.string a0_1)) (ds := []) m0_ (by kernel_rfl) rfl rfl ⟨(blk_cell BK182.out 0).trans rfl, (blk_cell BK182.out 1).trans rfl⟩ (fun hHeld => ?_); refine with_tabW newsreellaw27_EtagTells.tab7 newsreellaw27_EtagTells.bits7 (fun HT_ HW_ => ?_)
       generalize w158.drew = w159 at BK182 BK191 BK195 HB hHeld ⊢
       refine take_ (i := 0) (N := some 50) (v := ?_) (a' := ?_) m1_ rfl rfl (take_ofW HT_.out HW_.out (by kernel_rfl)) (fun _ _ _ h => h) (Or.inl ⟨by rfl, ?_⟩) hHeld ?_ ?_
       rotate_left
       ·rintro w' ⟨s0, s1⟩
        go_simp
        with_reducible rfl
       rotate_left
       ·simp only [Act.put, S_]
        rfl
       refine take_ (i := 2) (N := some 52) (v := ?_) (a' := ?_) m2_ rfl rfl (take_ofW HT_.out HW_.out (by kernel_rfl)) (fun _ _ _ h => h) (Or.inl ⟨by rfl, ?_⟩) hHeld ?_ ?_
       rotate_left
       ·rintro w' ⟨s0, s1⟩
        go_simp
        with_reducible rfl
       rotate_left
       ·simp only [Act.put, S_]
        rfl
       refine one_ (i := 1) (N := some 51) m3_ rfl rfl (one_of HT_.out (by kernel_rfl)) (by decide) (fun K hK => ?_)
       refine goes_ Try.func26 (by kernel_rfl) rfl #[.agg #[.bool a0_0, .string a0_1]] (by rfl) rfl rfl (by (try simp only [List.map_toArray, List.map_cons, List.map_nil]); first | done | rfl | (simp only [List.length_drop, List.length_take]; rfl)) ?_
       with_reducible refine (etag_Right.calls kj3 a0_0 a0_1 t196 _ A18.out).mono ?_
       rintro e w160 ⟨rfl, hb⟩
       refine ⟨_, rfl, ?_⟩
       have n0_ := Aside0.mk (blk_below (g := gb182) (o := .cells #[.bool a0_0, .string a0_1] 47 (0, 0)) (sm_ BK182) hb)
       have n1_ := Aside0.mk (blk_below (g := gb191) (o := .cells #[.bool t188, .string t189] 47 (0, 0)) (sm_ BK191) hb)
       have n2_ := Aside0.mk (blk_below (g := gb195) (o := .cells #[.bool t192, .string t193] 47 (0, 0)) (sm_ BK195) hb)
       have n3_ := Aside0.mk (below_step (by repeat (first | (with_reducible first | exact HB.out | apply below_alloc | apply pw_below_drewN | apply below_drew1 | refine below_set ?_ GE182.out | refine below_set ?_ GE191.out | refine below_set ?_ GE195.out) | exact HB.out)) hb)
       clear BK182
       clear BK191
       clear BK195
       clear HB
       have BK182 := n0_
       have BK191 := n1_
       have BK195 := n2_
       have HB := n3_
       clear n0_ n1_ n2_ n3_
       (try clear hb)
       (try clear hb2)
       (try clear hk)
       (try clear hi)
       refine hK.out _ _ ⟨(blk_cell BK182.out 0).trans rfl, (blk_cell BK182.out 1).trans rfl⟩ (fun hHeld => ?_); clear hK K
       refine norm_ (a' := ?_) ?_ ?_; rotate_left; (· show Act.put _ (some 51) _ = _; simp only [Act.put, S_]; rfl)
       refine one_ (i := 3) (N := some 53) m4_ rfl rfl (one_of HT_.out (by kernel_rfl)) (by decide) (fun K hK => ?_)
       refine goes_ Try.func27 (by kernel_rfl) rfl #[.agg #[.bool a0_0, .string a0_1]] (by rfl) rfl rfl (by (try simp only [List.map_toArray, List.map_cons, List.map_nil]); first | done | rfl | (simp only [List.length_drop, List.length_take]; rfl)) ?_
       with_reducible refine (newsreelref27_Right.calls kj3 a0_0 a0_1 t197 _ A19.out).mono ?_
       rintro e w161 ⟨rfl, hb⟩
       refine ⟨_, rfl, ?_⟩
       have n0_ := Aside0.mk (blk_below (g := gb182) (o := .cells #[.bool a0_0, .string a0_1] 47 (0, 0)) (sm_ BK182) hb)
       have n1_ := Aside0.mk (blk_below (g := gb191) (o := .cells #[.bool t188, .string t189] 47 (0, 0)) (sm_ BK191) hb)
       have n2_ := Aside0.mk (blk_below (g := gb195) (o := .cells #[.bool t192, .string t193] 47 (0, 0)) (sm_ BK195) hb)
       have n3_ := Aside0.mk (below_step (by repeat (first | (with_reducible first | exact HB.out | apply below_alloc | apply pw_below_drewN | apply below_drew1 | refine below_set ?_ GE182.out | refine below_set ?_ GE191.out | refine below_set ?_ GE195.out) | exact HB.out)) hb)
       clear BK182
       clear BK191
       clear BK195
       clear HB
       have BK182 := n0_
       have BK191 := n1_
       have BK195 := n2_
       have HB := n3_
       clear n0_ n1_ n2_ n3_
       (try clear hb)
       (try clear hb2)
       (try clear hk)
       (try clear hi)
       refine hK.out _ _ ⟨(blk_cell BK182.out 0).trans rfl, (blk_cell BK182.out 1).trans rfl⟩ (fun hHeld => ?_); clear hK K
       refine norm_ (a' := ?_) ?_ ?_; rotate_left; (· show Act.put _ (some 53) _ = _; simp only [Act.put, S_]; rfl)
       refine pure_ (i := 4) (N := some 54) (v := ?_) (a' := ?_) m5_ rfl rfl (an_ HT_) (fun _ _ _ h => h) (Or.inl ⟨by rfl, ?_⟩) ?_ ?_; rotate_left; (· intro w'; go_simp; with_reducible rfl); rotate_left; (· simp only [Act.put, S_]; rfl)
       refine pure_ (i := 5) (N := some 55) (v := ?_) (a' := ?_) m6_ rfl rfl (an_ HT_) (fun _ _ _ h => h) (Or.inl ⟨by rfl, ?_⟩) ?_ ?_; rotate_left; (· intro w'; go_simp; with_reducible rfl); rotate_left; (· simp only [Act.put, S_]; rfl)
       refine pure_ (i := 6) (N := some 56) (v := ?_) (a' := ?_) m7_ rfl rfl (an_ HT_) (fun _ _ _ h => h) (Or.inl ⟨by rfl, ?_⟩) ?_ ?_; rotate_left; (· intro w'; go_simp; with_reducible rfl); rotate_left; (· simp only [Act.put, S_]; rfl)
       refine pure_ (i := 7) (N := some 57) (v := ?_) (a' := ?_) m8_ rfl rfl (an_ HT_) (fun _ _ _ h => h) (Or.inl ⟨by rfl, ?_⟩) ?_ ?_; rotate_left; (· intro w'; go_simp; with_reducible rfl); rotate_left; (· simp only [Act.put, S_]; rfl)
       refine pure_ (i := 8) (N := some 58) (v := ?_) (a' := ?_) m9_ rfl rfl (an_ HT_) (fun _ _ _ h => h) (Or.inl ⟨by rfl, ?_⟩) ?_ ?_; rotate_left; (· intro w'; go_simp; with_reducible rfl); rotate_left; (· simp only [Act.put, S_]; rfl)
       refine pure_ (i := 9) (N := some 59) (v := ?_) (a' := ?_) m10_ rfl rfl (an_ HT_) (fun _ _ _ h => h) (Or.inl ⟨by rfl, ?_⟩) ?_ ?_; rotate_left; (· intro w'; go_simp; with_reducible rfl); rotate_left; (· simp only [Act.put, S_]; rfl)
       refine pure_ (i := 10) (N := some 60) (v := ?_) (a' := ?_) m11_ rfl rfl (an_ HT_) (fun _ _ _ h => h) (Or.inl ⟨by rfl, ?_⟩) ?_ ?_; rotate_left; (· intro w'; go_simp; with_reducible rfl); rotate_left; (· simp only [Act.put, S_]; rfl)
       refine pure_ (i := 11) (N := some 61) (v := undef) (a' := ?_) m12_ rfl rfl (an_ HT_) (fun _ _ _ h => h) (Or.inr ⟨by rfl, rfl⟩) ?_ ?_; rotate_left; (· simp only [Act.put, S_]; rfl)
       refine pure_ (i := 12) (N := some 62) (v := undef) (a' := ?_) m13_ rfl rfl (an_ HT_) (fun _ _ _ h => h) (Or.inr ⟨by rfl, rfl⟩) ?_ ?_; rotate_left; (· simp only [Act.put, S_]; rfl)
       refine pure_ (i := 13) (N := some 63) (v := undef) (a' := ?_) m14_ rfl rfl (an_ HT_) (fun _ _ _ h => h) (Or.inr ⟨by rfl, rfl⟩) ?_ ?_; rotate_left; (· simp only [Act.put, S_]; rfl)
       refine pure_ (i := 14) (N := some 64) (v := ?_) (a' := ?_) m15_ rfl rfl (an_ HT_) (fun _ _ _ h => h) (Or.inl ⟨by rfl, ?_⟩) ?_ ?_; rotate_left; (· intro w'; go_simp; with_reducible rfl); rotate_left; (· simp only [Act.put, S_]; rfl)
       refine pure_ (i := 15) (N := some 65) (v := ?_) (a' := ?_) m16_ rfl rfl (an_ HT_) (fun _ _ _ h => h) (Or.inl ⟨by rfl, ?_⟩) ?_ ?_; rotate_left; (· intro w'; go_simp; with_reducible rfl); rotate_left; (· simp only [Act.put, S_]; rfl)
       refine pure_ (i := 16) (N := some 66) (v := undef) (a' := ?_) m17_ rfl rfl (an_ HT_) (fun _ _ _ h => h) (Or.inr ⟨by rfl, rfl⟩) ?_ ?_; rotate_left; (· simp only [Act.put, S_]; rfl)
       refine pure_ (i := 17) (N := some 67) (v := undef) (a' := ?_) m18_ rfl rfl (an_ HT_) (fun _ _ _ h => h) (Or.inr ⟨by rfl, rfl⟩) ?_ ?_; rotate_left; (· simp only [Act.put, S_]; rfl)
       refine pure_ (i := 18) (N := some 68) (v := undef) (a' := ?_) m19_ rfl rfl (an_ HT_) (fun _ _ _ h => h) (Or.inr ⟨by rfl, rfl⟩) ?_ ?_; rotate_left; (· simp only [Act.put, S_]; rfl)
       refine pure_ (i := 19) (N := some 69) (v := ?_) (a' := ?_) m20_ rfl rfl (an_ HT_) (fun _ _ _ h => h) (Or.inl ⟨by rfl, ?_⟩) ?_ ?_; rotate_left; (· intro w'; go_simp; with_reducible rfl); rotate_left; (· simp only [Act.put, S_]; rfl)
       refine pure_ (i := 20) (N := some 70) (v := ?_) (a' := ?_) m21_ rfl rfl (an_ HT_) (fun _ _ _ h => h) (Or.inl ⟨by rfl, ?_⟩) ?_ ?_; rotate_left; (· intro w'; go_simp; with_reducible rfl); rotate_left; (· simp only [Act.put, S_]; rfl)
       refine pure_ (i := 21) (N := some 71) (v := undef) (a' := ?_) m22_ rfl rfl (an_ HT_) (fun _ _ _ h => h) (Or.inr ⟨by rfl, rfl⟩) ?_ ?_; rotate_left; (· simp only [Act.put, S_]; rfl)
       refine pure_ (i := 22) (N := some 72) (v := undef) (a' := ?_) m23_ rfl rfl (an_ HT_) (fun _ _ _ h => h) (Or.inr ⟨by rfl, rfl⟩) ?_ ?_; rotate_left; (· simp only [Act.put, S_]; rfl)
       refine pure_ (i := 23) (N := some 73) (v := undef) (a' := ?_) m24_ rfl rfl (an_ HT_) (fun _ _ _ h => h) (Or.inr ⟨by rfl, rfl⟩) ?_ ?_; rotate_left; (· simp only [Act.put, S_]; rfl)
       refine pure_ (i := 24) (N := some 74) (v := ?_) (a' := ?_) m25_ rfl rfl (an_ HT_) (fun _ _ _ h => h) (Or.inl ⟨by rfl, ?_⟩) ?_ ?_; rotate_left; (· intro w'; go_simp; with_reducible rfl); rotate_left; (· simp only [Act.put, S_]; rfl)
       refine pure_ (i := 25) (N := some 75) (v := ?_) (a' := ?_) m26_ rfl rfl (an_ HT_) (fun _ _ _ h => h) (Or.inl ⟨by rfl, ?_⟩) ?_ ?_; rotate_left; (· intro w'; go_simp; with_reducible rfl); rotate_left; (· simp only [Act.put, S_]; rfl)
       refine pure_ (i := 26) (N := some 76) (v := undef) (a' := ?_) m27_ rfl rfl (an_ HT_) (fun _ _ _ h => h) (Or.inr ⟨by rfl, rfl⟩) ?_ ?_; rotate_left; (· simp only [Act.put, S_]; rfl)
       refine pure_ (i := 27) (N := some 77) (v := undef) (a' := ?_) m28_ rfl rfl (an_ HT_) (fun _ _ _ h => h) (Or.inr ⟨by rfl, rfl⟩) ?_ ?_; rotate_left; (· simp only [Act.put, S_]; rfl)
       refine pure_ (i := 28) (N := some 78) (v := undef) (a' := ?_) m31_ rfl rfl (an_ HT_) (fun _ _ _ h => h) (Or.inr ⟨by rfl, rfl⟩) ?_ ?_; rotate_left; (· simp only [Act.put, S_]; rfl)
       refine pure_ (i := 29) (N := some 79) (v := undef) (a' := ?_) m32_ rfl rfl (an_ HT_) (fun _ _ _ h => h) (Or.inr ⟨by rfl, rfl⟩) ?_ ?_; rotate_left; (· simp only [Act.put, S_]; rfl)
       refine pure_ (i := 30) (N := some 80) (v := undef) (a' := ?_) m33_ rfl rfl (an_ HT_) (fun _ _ _ h => h) (Or.inr ⟨by rfl, rfl⟩) ?_ ?_; rotate_left; (· simp only [Act.put, S_]; rfl)
       refine pure_ (i := 31) (N := some 81) (v := undef) (a' := ?_) m34_ rfl rfl (an_ HT_) (fun _ _ _ h => h) (Or.inr ⟨by rfl, rfl⟩) ?_ ?_; rotate_left; (· simp only [Act.put, S_]; rfl)
       refine pure_ (i := 32) (N := some 82) (v := undef) (a' := ?_) m35_ rfl rfl (an_ HT_) (fun _ _ _ h => h) (Or.inr ⟨by rfl, rfl⟩) ?_ ?_; rotate_left; (· simp only [Act.put, S_]; rfl)
       refine pure_ (i := 33) (N := some 83) (v := ?_) (a' := ?_) m36_ rfl rfl (an_ HT_) (fun _ _ _ h => h) (Or.inl ⟨by rfl, ?_⟩) ?_ ?_; rotate_left; (· intro w'; go_simp; with_reducible rfl); rotate_left; (· simp only [Act.put, S_]; rfl)
       refine pure_ (i := 34) (N := some 84) (v := ?_) (a' := ?_) m37_ rfl rfl (an_ HT_) (fun _ _ _ h => h) (Or.inl ⟨by rfl, ?_⟩) ?_ ?_; rotate_left; (· intro w'; go_simp; with_reducible rfl); rotate_left; (· simp only [Act.put, S_]; rfl)
       refine pure_ (i := 35) (N := some 85) (v := undef) (a' := ?_) m38_ rfl rfl (an_ HT_) (fun _ _ _ h => h) (Or.inr ⟨by rfl, rfl⟩) ?_ ?_; rotate_left; (· simp only [Act.put, S_]; rfl)
       refine pure_ (i := 36) (N := some 86) (v := undef) (a' := ?_) m39_ rfl rfl (an_ HT_) (fun _ _ _ h => h) (Or.inr ⟨by rfl, rfl⟩) ?_ ?_; rotate_left; (· simp only [Act.put, S_]; rfl)
       refine pure_ (i := 37) (N := some 87) (v := undef) (a' := ?_) m42_ rfl rfl (an_ HT_) (fun _ _ _ h => h) (Or.inr ⟨by rfl, rfl⟩) ?_ ?_; rotate_left; (· simp only [Act.put, S_]; rfl)
       refine pure_ (i := 38) (N := some 88) (v := undef) (a' := ?_) m43_ rfl rfl (an_ HT_) (fun _ _ _ h => h) (Or.inr ⟨by rfl, rfl⟩) ?_ ?_; rotate_left; (· simp only [Act.put, S_]; rfl)
       refine pure_ (i := 39) (N := some 89) (v := undef) (a' := ?_) m44_ rfl rfl (an_ HT_) (fun _ _ _ h => h) (Or.inr ⟨by rfl, rfl⟩) ?_ ?_; rotate_left; (· simp only [Act.put, S_]; rfl)
       refine pure_ (i := 40) (N := some 90) (v := undef) (a' := ?_) m45_ rfl rfl (an_ HT_) (fun _ _ _ h => h) (Or.inr ⟨by rfl, rfl⟩) ?_ ?_; rotate_left; (· simp only [Act.put, S_]; rfl)
       refine pure_ (i := 41) (N := some 91) (v := undef) (a' := ?_) m46_ rfl rfl (an_ HT_) (fun _ _ _ h => h) (Or.inr ⟨by rfl, rfl⟩) ?_ ?_; rotate_left; (· simp only [Act.put, S_]; rfl)
       refine pure_ (i := 42) (N := some 92) (v := ?_) (a' := ?_) m47_ rfl rfl (an_ HT_) (fun _ _ _ h => h) (Or.inl ⟨by rfl, ?_⟩) ?_ ?_; rotate_left; (· intro w'; go_simp; with_reducible rfl); rotate_left; (· simp only [Act.put, S_]; rfl)
       refine pure_ (i := 43) (N := some 93) (v := ?_) (a' := ?_) m48_ rfl rfl (an_ HT_) (fun _ _ _ h => h) (Or.inl ⟨by rfl, ?_⟩) ?_ ?_; rotate_left; (· intro w'; go_simp; with_reducible rfl); rotate_left; (· simp only [Act.put, S_]; rfl)
       refine pure_ (i := 44) (N := some 94) (v := undef) (a' := ?_) m49_ rfl rfl (an_ HT_) (fun _ _ _ h => h) (Or.inr ⟨by rfl, rfl⟩) ?_ ?_; rotate_left; (· simp only [Act.put, S_]; rfl)
       refine pure_ (i := 45) (N := some 95) (v := ?_) (a' := ?_) m50_ rfl rfl (an_ HT_) (fun _ _ _ h => h) (Or.inl ⟨by rfl, ?_⟩) ?_ ?_; rotate_left; (· intro w'; go_simp; with_reducible rfl); rotate_left; (· simp only [Act.put, S_]; rfl)
       refine pure_ (i := 46) (N := some 6) (v := ?_) (a' := ?_) m51_ rfl rfl (an_ HT_) (fun _ _ _ h => h) (Or.inl ⟨by rfl, ?_⟩) ?_ ?_; rotate_left; (· intro w'; go_simp; with_reducible rfl); rotate_left; (· simp only [Act.put, S_]; rfl)
       refine done_ (done_of HT_.out (by kernel_rfl)) ?_
       try go_wp2
       go_ret
       exact ⟨by first | rfl | (simp [errW_none, errW_some] <;> rfl) | (simp [*, errW_none, errW_some] <;> rfl), by repeat (first | (with_reducible first | exact HB.out | apply below_alloc | apply pw_below_drewN | apply below_drew1 | refine below_set ?_ GE182.out | refine below_set ?_ GE191.out | refine below_set ?_ GE195.out) | exact HB.out)⟩
     ·rw [if_neg c20] at H
      have c20b0 : (t196 == t197) = false := by simpa using c20
      (try (have c20b1 : decide (t196 = t197) = false := by simpa using c20))
      (try (have c20b2 : (t196 == t197) = false := by simpa using c20))
      (try (have c20b3 : ¬ (t196 = t197) := by simpa using c20))
      clear c20
      obtain rfl := Option.some.inj H
      have hcz162_0 : wc.cell? ⟨gb182, 0, none⟩ = some (.bool a0_0) := (blk_cell BK182.out 0).trans rfl
      have hcz162_1 : wc.cell? ⟨gb182, 1, none⟩ = some (.string a0_1) := (blk_cell BK182.out 1).trans rfl
      have hfz162_0 := blk_frozen BK182.out 0
      have hfz162_1 := blk_frozen BK182.out 1
      try go_wp2_with (first | ((with_reducible refine gate_callee (f := 22) rfl ?_); refine goesL_ (some 32) rfl rfl Try.func22 (by kernel_rfl) rfl #[.agg #[.bool a0_0, .string a0_1]] rfl (by (try simp only [List.map_toArray, List.map_cons, List.map_nil]); first | done | rfl | (simp only [List.length_drop, List.length_take]; rfl)) ?_; (with_reducible refine (etag_Put.calls kj3 a0_0 a0_1 t184 t185 _ A14.out).mono ?_); rintro e w163 ⟨rfl, hb⟩; refine ⟨_, rfl, ?_⟩; have n0_ := Aside0.mk (blk_below (g := gb182) (o := .cells #[.bool a0_0, .string a0_1] 47 (0, 0)) (sm_ BK182) hb); have n1_ := Aside0.mk (below_step (by repeat (first | (with_reducible first | exact HB.out | apply below_alloc | apply pw_below_drewN | apply below_drew1 | refine below_set ?_ GE182.out) | exact HB.out)) hb); clear BK182; clear HB; have BK182 := n0_; have HB := n1_; clear n0_ n1_; (try clear hb); (try clear hb2); (try clear hk); (try clear hi); have hcz164_0 : w163.cell? ⟨gb182, 0, none⟩ = some (.bool a0_0) := (blk_cell BK182.out 0).trans rfl; have hcz164_1 : w163.cell? ⟨gb182, 1, none⟩ = some (.string a0_1) := (blk_cell BK182.out 1).trans rfl; have hfz164_0 := blk_frozen BK182.out 0; have hfz164_1 := blk_frozen BK182.out 1) | ((with_reducible refine gate_callee (f := 23) rfl ?_); refine goesL_ (some 37) rfl rfl Try.func23 (by kernel_rfl) rfl #[.agg #[.bool a0_0, .string a0_1]] rfl (by (try simp only [List.map_toArray, List.map_cons, List.map_nil]); first | done | rfl | (simp only [List.length_drop, List.length_take]; rfl)) ?_; (with_reducible refine (newsreelref27_Put.calls kj3 a0_0 a0_1 t186 t187 _ A15.out).mono ?_); rintro e w165 ⟨rfl, hb⟩; refine ⟨_, rfl, ?_⟩; have n0_ := Aside0.mk (blk_below (g := gb182) (o := .cells #[.bool a0_0, .string a0_1] 47 (0, 0)) (sm_ BK182) hb); have n1_ := Aside0.mk (below_step (by repeat (first | (with_reducible first | exact HB.out | apply below_alloc | apply pw_below_drewN | apply below_drew1 | refine below_set ?_ GE182.out) | exact HB.out)) hb); clear BK182; clear HB; have BK182 := n0_; have HB := n1_; clear n0_ n1_; (try clear hb); (try clear hb2); (try clear hk); (try clear hi)) | ((with_reducible refine gate_callee (f := 24) rfl ?_); refine goesL_ (some 42) rfl rfl Try.func24 (by kernel_rfl) rfl #[.string a1] rfl (by (try simp only [List.map_toArray, List.map_cons, List.map_nil]); first | done | rfl | (simp only [List.length_drop, List.length_take]; rfl)) ?_; (with_reducible refine (etag_Get.calls kj3 a1 t188 t189 t190 _ A16.out).mono ?_); rintro e w166 ⟨rfl, hb⟩; refine ⟨_, rfl, ?_⟩; have n0_ := Aside0.mk (blk_below (g := gb182) (o := .cells #[.bool a0_0, .string a0_1] 47 (0, 0)) (sm_ BK182) hb); have n1_ := Aside0.mk (below_step (by repeat (first | (with_reducible first | exact HB.out | apply below_alloc | apply pw_below_drewN | apply below_drew1 | refine below_set ?_ GE182.out) | exact HB.out)) hb); clear BK182; clear HB; have BK182 := n0_; have HB := n1_; clear n0_ n1_; (try clear hb); (try clear hb2); (try clear hk); (try clear hi)) | ((with_reducible refine gate_dst (N := 11) rfl ?_); (try (refine gate_guard (by rfl) ?_; dsimp only)); refine box_event ?hg (N := 11) ?hd (cs := #[.bool false, .string (⟨#[]⟩ : ByteArray)]) (t := 47) ?hr ?_; (case hd => rfl); (case hg => rfl); (case hr => first | (go_simp; done) | (go_simp; rfl)); intro gb191 hg w167 hbox hb; have n0_ := Aside0.mk (blk_below (g := gb182) (o := .cells #[.bool a0_0, .string a0_1] 47 (0, 0)) (sm_ BK182) hb); have n1_ := Aside0.mk (below_step (by repeat (first | (with_reducible first | exact HB.out | apply below_alloc | apply pw_below_drewN | apply below_drew1 | refine below_set ?_ GE182.out) | exact HB.out)) hb); have n2_ := Aside0.mk (hbox); have n3_ := Aside0.mk ((by rw [hg]; exact (below_size (by repeat (first | (with_reducible first | exact HB.out | apply below_alloc | apply pw_below_drewN | apply below_drew1 | refine below_set ?_ GE182.out) | exact HB.out))) : w.heap.size ≤ gb191)); have n4_ := Aside0.mk ((by rw [hg]; exact (below_size (by repeat (first | (with_reducible first | exact HB.out | apply below_alloc | apply pw_below_drewN | apply below_drew1 | refine below_set ?_ GE182.out) | exact HB.out))) : w.heap.size ≤ gb191)); have n5_ := Aside0.mk ((by rw [hg]; exact Nat.ne_of_lt (blk_lt (g := gb182) (o := .cells #[.bool a0_0, .string a0_1] 47 (0, 0)) (sm_ BK182)) : gb182 ≠ gb191)); have n6_ := Aside0.mk ((by rw [hg]; exact Nat.ne_of_gt (blk_lt (g := gb182) (o := .cells #[.bool a0_0, .string a0_1] 47 (0, 0)) (sm_ BK182)) : gb191 ≠ gb182)); clear BK182; clear HB; have BK182 := n0_; have HB := n1_; have BK191 := n2_; have GW191 := n3_; have GE191 := n4_; have NB182_191 := n5_; have NB191_182 := n6_; clear n0_ n1_ n2_ n3_ n4_ n5_ n6_; clear hb hbox hg; have hnb168 := NB191_182.out; have hnc168 := NB182_191.out; have hcz169_0 : w167.cell? ⟨gb191, 0, none⟩ = some (.bool false) := (blk_cell BK191.out 0).trans rfl; have hcz169_1 : w167.cell? ⟨gb191, 1, none⟩ = some (.string (⟨#[]⟩ : ByteArray)) := (blk_cell BK191.out 1).trans rfl; have hfz169_0 := blk_frozen BK191.out 0; have hfz169_1 := blk_frozen BK191.out 1) | ((with_reducible refine gate_callee (f := 25) rfl ?_); refine goesL_ (some 47) rfl rfl Try.func25 (by kernel_rfl) rfl #[.string a1] rfl (by (try simp only [List.map_toArray, List.map_cons, List.map_nil]); first | done | rfl | (simp only [List.length_drop, List.length_take]; rfl)) ?_; (with_reducible refine (newsreelref27_Get.calls kj3 a1 t192 t193 t194 _ A17.out).mono ?_); rintro e w170 ⟨rfl, hb⟩; refine ⟨_, rfl, ?_⟩; have n0_ := Aside0.mk (blk_below (g := gb182) (o := .cells #[.bool a0_0, .string a0_1] 47 (0, 0)) (by (with_reducible repeat (first | refine blk_drewN ?_ _ | refine blk_drew ?_ | refine blk_alloc ?_ _)); refine blk_far ?_ NB182_191.out _; (with_reducible repeat (first | refine blk_drewN ?_ _ | refine blk_drew ?_ | refine blk_alloc ?_ _)); refine blk_far ?_ NB182_191.out _; (with_reducible repeat (first | refine blk_drewN ?_ _ | refine blk_drew ?_ | refine blk_alloc ?_ _)); exact BK182.out) hb); have n1_ := Aside0.mk (blk_below (g := gb191) (o := .cells #[.bool t188, .string t189] 47 (0, 0)) (by (with_reducible repeat (first | refine blk_drewN ?_ _ | refine blk_drew ?_ | refine blk_alloc ?_ _)); refine blk_put (cs := #[.bool t188, .string (⟨#[]⟩ : ByteArray)]) ?_ 1 _ rfl; (with_reducible repeat (first | refine blk_drewN ?_ _ | refine blk_drew ?_ | refine blk_alloc ?_ _)); refine blk_put (cs := #[.bool false, .string (⟨#[]⟩ : ByteArray)]) ?_ 0 _ rfl; (with_reducible repeat (first | refine blk_drewN ?_ _ | refine blk_drew ?_ | refine blk_alloc ?_ _)); exact BK191.out) hb); have n2_ := Aside0.mk (below_step (by repeat (first | (with_reducible first | exact HB.out | apply below_alloc | apply pw_below_drewN | apply below_drew1 | refine below_set ?_ GE182.out | refine below_set ?_ GE191.out) | exact HB.out)) hb); clear BK182; clear BK191; clear HB; have BK182 := n0_; have BK191 := n1_; have HB := n2_; clear n0_ n1_ n2_; (try clear hb); (try clear hb2); (try clear hk); (try clear hi)) | ((with_reducible refine gate_dst (N := 13) rfl ?_); (try (refine gate_guard (by rfl) ?_; dsimp only)); refine box_event ?hg (N := 13) ?hd (cs := #[.bool false, .string (⟨#[]⟩ : ByteArray)]) (t := 47) ?hr ?_; (case hd => rfl); (case hg => rfl); (case hr => first | (go_simp; done) | (go_simp; rfl)); intro gb195 hg w171 hbox hb; have n0_ := Aside0.mk (blk_below (g := gb182) (o := .cells #[.bool a0_0, .string a0_1] 47 (0, 0)) (sm_ BK182) hb); have n1_ := Aside0.mk (blk_below (g := gb191) (o := .cells #[.bool t188, .string t189] 47 (0, 0)) (sm_ BK191) hb); have n2_ := Aside0.mk (below_step (by repeat (first | (with_reducible first | exact HB.out | apply below_alloc | apply pw_below_drewN | apply below_drew1 | refine below_set ?_ GE182.out | refine below_set ?_ GE191.out) | exact HB.out)) hb); have n3_ := Aside0.mk (hbox); have n4_ := Aside0.mk ((by rw [hg]; exact (below_size (by repeat (first | (with_reducible first | exact HB.out | apply below_alloc | apply pw_below_drewN | apply below_drew1 | refine below_set ?_ GE182.out | refine below_set ?_ GE191.out) | exact HB.out))) : w.heap.size ≤ gb195)); have n5_ := Aside0.mk ((by rw [hg]; exact (below_size (by repeat (first | (with_reducible first | exact HB.out | apply below_alloc | apply pw_below_drewN | apply below_drew1 | refine below_set ?_ GE182.out | refine below_set ?_ GE191.out) | exact HB.out))) : w.heap.size ≤ gb195)); have n6_ := Aside0.mk ((by rw [hg]; exact Nat.ne_of_lt (blk_lt (g := gb182) (o := .cells #[.bool a0_0, .string a0_1] 47 (0, 0)) (sm_ BK182)) : gb182 ≠ gb195)); have n7_ := Aside0.mk ((by rw [hg]; exact Nat.ne_of_gt (blk_lt (g := gb182) (o := .cells #[.bool a0_0, .string a0_1] 47 (0, 0)) (sm_ BK182)) : gb195 ≠ gb182)); have n8_ := Aside0.mk ((by rw [hg]; exact Nat.ne_of_lt (blk_lt (g := gb191) (o := .cells #[.bool t188, .string t189] 47 (0, 0)) (sm_ BK191)) : gb191 ≠ gb195)); have n9_ := Aside0.mk ((by rw [hg]; exact Nat.ne_of_gt (blk_lt (g := gb191) (o := .cells #[.bool t188, .string t189] 47 (0, 0)) (sm_ BK191)) : gb195 ≠ gb191)); clear BK182; clear BK191; clear HB; have BK182 := n0_; have BK191 := n1_; have HB := n2_; have BK195 := n3_; have GW195 := n4_; have GE195 := n5_; have NB182_195 := n6_; have NB195_182 := n7_; have NB191_195 := n8_; have NB195_191 := n9_; clear n0_ n1_ n2_ n3_ n4_ n5_ n6_ n7_ n8_ n9_; clear hb hbox hg; have hnb172 := NB195_182.out; have hnc172 := NB182_195.out; have hnb173 := NB195_191.out; have hnc173 := NB191_195.out; have hcz174_0 : w171.cell? ⟨gb195, 0, none⟩ = some (.bool false) := (blk_cell BK195.out 0).trans rfl; have hcz174_1 : w171.cell? ⟨gb195, 1, none⟩ = some (.string (⟨#[]⟩ : ByteArray)) := (blk_cell BK195.out 1).trans rfl; have hfz174_0 := blk_frozen BK195.out 0; have hfz174_1 := blk_frozen BK195.out 1))
      have n0_ : Aside0 (((w171.setCell ⟨gb195, 0, none⟩ (.bool t192)).setCell ⟨gb195, 1, none⟩ (.string t193)).heap[gb182]? = some (.cells #[.bool a0_0, .string a0_1] 47 (0, 0))) := ⟨by (with_reducible repeat (first | refine blk_drewN ?_ _ | refine blk_drew ?_ | refine blk_alloc ?_ _)); refine blk_far ?_ NB182_195.out _; (with_reducible repeat (first | refine blk_drewN ?_ _ | refine blk_drew ?_ | refine blk_alloc ?_ _)); refine blk_far ?_ NB182_195.out _; (with_reducible repeat (first | refine blk_drewN ?_ _ | refine blk_drew ?_ | refine blk_alloc ?_ _)); exact BK182.out⟩
      have n1_ : Aside0 (((w171.setCell ⟨gb195, 0, none⟩ (.bool t192)).setCell ⟨gb195, 1, none⟩ (.string t193)).heap[gb191]? = some (.cells #[.bool t188, .string t189] 47 (0, 0))) := ⟨by (with_reducible repeat (first | refine blk_drewN ?_ _ | refine blk_drew ?_ | refine blk_alloc ?_ _)); refine blk_far ?_ NB191_195.out _; (with_reducible repeat (first | refine blk_drewN ?_ _ | refine blk_drew ?_ | refine blk_alloc ?_ _)); refine blk_far ?_ NB191_195.out _; (with_reducible repeat (first | refine blk_drewN ?_ _ | refine blk_drew ?_ | refine blk_alloc ?_ _)); exact BK191.out⟩
      have n2_ : Aside0 (((w171.setCell ⟨gb195, 0, none⟩ (.bool t192)).setCell ⟨gb195, 1, none⟩ (.string t193)).heap[gb195]? = some (.cells #[.bool t192, .string t193] 47 (0, 0))) := ⟨by (with_reducible repeat (first | refine blk_drewN ?_ _ | refine blk_drew ?_ | refine blk_alloc ?_ _)); refine blk_put (cs := #[.bool t192, .string (⟨#[]⟩ : ByteArray)]) ?_ 1 _ rfl; (with_reducible repeat (first | refine blk_drewN ?_ _ | refine blk_drew ?_ | refine blk_alloc ?_ _)); refine blk_put (cs := #[.bool false, .string (⟨#[]⟩ : ByteArray)]) ?_ 0 _ rfl; (with_reducible repeat (first | refine blk_drewN ?_ _ | refine blk_drew ?_ | refine blk_alloc ?_ _)); exact BK195.out⟩
      have n3_ : Aside0 (Below w.heap.size w ((w171.setCell ⟨gb195, 0, none⟩ (.bool t192)).setCell ⟨gb195, 1, none⟩ (.string t193))) := ⟨by repeat (first | (with_reducible first | exact HB.out | apply below_alloc | apply pw_below_drewN | apply below_drew1 | refine below_set ?_ GE182.out | refine below_set ?_ GE191.out | refine below_set ?_ GE195.out) | exact HB.out)⟩
      (try clear BK182)
      (try clear BK191)
      (try clear BK195)
      (try clear HB)
      generalize ((w171.setCell ⟨gb195, 0, none⟩ (.bool t192)).setCell ⟨gb195, 1, none⟩ (.string t193)) = w175 at n0_ n1_ n2_ n3_ ⊢
      have BK182 := n0_
      have BK191 := n1_
      have BK195 := n2_
      have HB := n3_
      clear n0_ n1_ n2_ n3_
      have n0_ := Aside0.mk (blk_drew BK182.out)
      have n1_ := Aside0.mk (blk_drew BK191.out)
      have n2_ := Aside0.mk (blk_drew BK195.out)
      have n3_ := Aside0.mk (below_drew1 HB.out)
      clear BK182
      clear BK191
      clear BK195
      clear HB
      have BK182 := n0_
      have BK191 := n1_
      have BK195 := n2_
      have HB := n3_
      clear n0_ n1_ n2_ n3_
      refine start_ (n := 47) (S := fun w' => w'.cell? ⟨gb182, 0, none⟩ = some (.bool a0_0) ∧ w'.cell? ⟨gb182, 1, none⟩ = some (.string a0_1)) (ds := []) m0_ (by kernel_rfl) rfl rfl ⟨(blk_cell BK182.out 0).trans rfl, (blk_cell BK182.out 1).trans rfl⟩ (fun hHeld => ?_); refine with_tabW newsreellaw27_EtagTells.tab7 newsreellaw27_EtagTells.bits7 (fun HT_ HW_ => ?_)
      generalize w175.drew = w176 at BK182 BK191 BK195 HB hHeld ⊢
      refine take_ (i := 0) (N := some 50) (v := ?_) (a' := ?_) m1_ rfl rfl (take_ofW HT_.out HW_.out (by kernel_rfl)) (fun _ _ _ h => h) (Or.inl ⟨by rfl, ?_⟩) hHeld ?_ ?_
      rotate_left
      ·rintro w' ⟨s0, s1⟩
       go_simp
       with_reducible rfl
      rotate_left
      ·simp only [Act.put, S_]
       rfl
      refine take_ (i := 2) (N := some 52) (v := ?_) (a' := ?_) m2_ rfl rfl (take_ofW HT_.out HW_.out (by kernel_rfl)) (fun _ _ _ h => h) (Or.inl ⟨by rfl, ?_⟩) hHeld ?_ ?_
      rotate_left
      ·rintro w' ⟨s0, s1⟩
       go_simp
       with_reducible rfl
      rotate_left
      ·simp only [Act.put, S_]
       rfl
      refine one_ (i := 1) (N := some 51) m3_ rfl rfl (one_of HT_.out (by kernel_rfl)) (by decide) (fun K hK => ?_)
      refine goes_ Try.func26 (by kernel_rfl) rfl #[.agg #[.bool a0_0, .string a0_1]] (by rfl) rfl rfl (by (try simp only [List.map_toArray, List.map_cons, List.map_nil]); first | done | rfl | (simp only [List.length_drop, List.length_take]; rfl)) ?_
      with_reducible refine (etag_Right.calls kj3 a0_0 a0_1 t196 _ A18.out).mono ?_
      rintro e w177 ⟨rfl, hb⟩
      refine ⟨_, rfl, ?_⟩
      have n0_ := Aside0.mk (blk_below (g := gb182) (o := .cells #[.bool a0_0, .string a0_1] 47 (0, 0)) (sm_ BK182) hb)
      have n1_ := Aside0.mk (blk_below (g := gb191) (o := .cells #[.bool t188, .string t189] 47 (0, 0)) (sm_ BK191) hb)
      have n2_ := Aside0.mk (blk_below (g := gb195) (o := .cells #[.bool t192, .string t193] 47 (0, 0)) (sm_ BK195) hb)
      have n3_ := Aside0.mk (below_step (by repeat (first | (with_reducible first | exact HB.out | apply below_alloc | apply pw_below_drewN | apply below_drew1 | refine below_set ?_ GE182.out | refine below_set ?_ GE191.out | refine below_set ?_ GE195.out) | exact HB.out)) hb)
      clear BK182
      clear BK191
      clear BK195
      clear HB
      have BK182 := n0_
      have BK191 := n1_
      have BK195 := n2_
      have HB := n3_
      clear n0_ n1_ n2_ n3_
      (try clear hb)
      (try clear hb2)
      (try clear hk)
      (try clear hi)
      refine hK.out _ _ ⟨(blk_cell BK182.out 0).trans rfl, (blk_cell BK182.out 1).trans rfl⟩ (fun hHeld => ?_); clear hK K
      refine norm_ (a' := ?_) ?_ ?_; rotate_left; (· show Act.put _ (some 51) _ = _; simp only [Act.put, S_]; rfl)
      refine one_ (i := 3) (N := some 53) m4_ rfl rfl (one_of HT_.out (by kernel_rfl)) (by decide) (fun K hK => ?_)
      refine goes_ Try.func27 (by kernel_rfl) rfl #[.agg #[.bool a0_0, .string a0_1]] (by rfl) rfl rfl (by (try simp only [List.map_toArray, List.map_cons, List.map_nil]); first | done | rfl | (simp only [List.length_drop, List.length_take]; rfl)) ?_
      with_reducible refine (newsreelref27_Right.calls kj3 a0_0 a0_1 t197 _ A19.out).mono ?_
      rintro e w178 ⟨rfl, hb⟩
      refine ⟨_, rfl, ?_⟩
      have n0_ := Aside0.mk (blk_below (g := gb182) (o := .cells #[.bool a0_0, .string a0_1] 47 (0, 0)) (sm_ BK182) hb)
      have n1_ := Aside0.mk (blk_below (g := gb191) (o := .cells #[.bool t188, .string t189] 47 (0, 0)) (sm_ BK191) hb)
      have n2_ := Aside0.mk (blk_below (g := gb195) (o := .cells #[.bool t192, .string t193] 47 (0, 0)) (sm_ BK195) hb)
      have n3_ := Aside0.mk (below_step (by repeat (first | (with_reducible first | exact HB.out | apply below_alloc | apply pw_below_drewN | apply below_drew1 | refine below_set ?_ GE182.out | refine below_set ?_ GE191.out | refine below_set ?_ GE195.out) | exact HB.out)) hb)
      clear BK182
      clear BK191
      clear BK195
      clear HB
      have BK182 := n0_
      have BK191 := n1_
      have BK195 := n2_
      have HB := n3_
      clear n0_ n1_ n2_ n3_
      (try clear hb)
      (try clear hb2)
      (try clear hk)
      (try clear hi)
      refine hK.out _ _ ⟨(blk_cell BK182.out 0).trans rfl, (blk_cell BK182.out 1).trans rfl⟩ (fun hHeld => ?_); clear hK K
      refine norm_ (a' := ?_) ?_ ?_; rotate_left; (· show Act.put _ (some 53) _ = _; simp only [Act.put, S_]; rfl)
      refine pure_ (i := 4) (N := some 54) (v := ?_) (a' := ?_) m5_ rfl rfl (an_ HT_) (fun _ _ _ h => h) (Or.inl ⟨by rfl, ?_⟩) ?_ ?_; rotate_left; (· intro w'; go_simp; with_reducible rfl); rotate_left; (· simp only [Act.put, S_]; rfl)
      refine pure_ (i := 5) (N := some 55) (v := ?_) (a' := ?_) m6_ rfl rfl (an_ HT_) (fun _ _ _ h => h) (Or.inl ⟨by rfl, ?_⟩) ?_ ?_; rotate_left; (· intro w'; go_simp; with_reducible rfl); rotate_left; (· simp only [Act.put, S_]; rfl)
      refine pure_ (i := 6) (N := some 56) (v := undef) (a' := ?_) m7_ rfl rfl (an_ HT_) (fun _ _ _ h => h) (Or.inr ⟨by rfl, rfl⟩) ?_ ?_; rotate_left; (· simp only [Act.put, S_]; rfl)
      refine pure_ (i := 7) (N := some 57) (v := undef) (a' := ?_) m8_ rfl rfl (an_ HT_) (fun _ _ _ h => h) (Or.inr ⟨by rfl, rfl⟩) ?_ ?_; rotate_left; (· simp only [Act.put, S_]; rfl)
      refine pure_ (i := 8) (N := some 58) (v := undef) (a' := ?_) m9_ rfl rfl (an_ HT_) (fun _ _ _ h => h) (Or.inr ⟨by rfl, rfl⟩) ?_ ?_; rotate_left; (· simp only [Act.put, S_]; rfl)
      refine pure_ (i := 9) (N := some 59) (v := ?_) (a' := ?_) m10_ rfl rfl (an_ HT_) (fun _ _ _ h => h) (Or.inl ⟨by rfl, ?_⟩) ?_ ?_; rotate_left; (· intro w'; go_simp; with_reducible rfl); rotate_left; (· simp only [Act.put, S_]; rfl)
      refine pure_ (i := 10) (N := some 60) (v := ?_) (a' := ?_) m11_ rfl rfl (an_ HT_) (fun _ _ _ h => h) (Or.inl ⟨by rfl, ?_⟩) ?_ ?_; rotate_left; (· intro w'; go_simp; with_reducible rfl); rotate_left; (· simp only [Act.put, S_]; rfl)
      refine pure_ (i := 11) (N := some 61) (v := undef) (a' := ?_) m12_ rfl rfl (an_ HT_) (fun _ _ _ h => h) (Or.inr ⟨by rfl, rfl⟩) ?_ ?_; rotate_left; (· simp only [Act.put, S_]; rfl)
      refine pure_ (i := 12) (N := some 62) (v := undef) (a' := ?_) m13_ rfl rfl (an_ HT_) (fun _ _ _ h => h) (Or.inr ⟨by rfl, rfl⟩) ?_ ?_; rotate_left; (· simp only [Act.put, S_]; rfl)
      refine pure_ (i := 13) (N := some 63) (v := undef) (a' := ?_) m14_ rfl rfl (an_ HT_) (fun _ _ _ h => h) (Or.inr ⟨by rfl, rfl⟩) ?_ ?_; rotate_left; (· simp only [Act.put, S_]; rfl)
      refine pure_ (i := 14) (N := some 64) (v := ?_) (a' := ?_) m15_ rfl rfl (an_ HT_) (fun _ _ _ h => h) (Or.inl ⟨by rfl, ?_⟩) ?_ ?_; rotate_left; (· intro w'; go_simp; with_reducible rfl); rotate_left; (· simp only [Act.put, S_]; rfl)
      refine pure_ (i := 15) (N := some 65) (v := ?_) (a' := ?_) m16_ rfl rfl (an_ HT_) (fun _ _ _ h => h) (Or.inl ⟨by rfl, ?_⟩) ?_ ?_; rotate_left; (· intro w'; go_simp; with_reducible rfl); rotate_left; (· simp only [Act.put, S_]; rfl)
      refine pure_ (i := 16) (N := some 66) (v := undef) (a' := ?_) m17_ rfl rfl (an_ HT_) (fun _ _ _ h => h) (Or.inr ⟨by rfl, rfl⟩) ?_ ?_; rotate_left; (· simp only [Act.put, S_]; rfl)
      refine pure_ (i := 17) (N := some 67) (v := undef) (a' := ?_) m18_ rfl rfl (an_ HT_) (fun _ _ _ h => h) (Or.inr ⟨by rfl, rfl⟩) ?_ ?_; rotate_left; (· simp only [Act.put, S_]; rfl)
      refine pure_ (i := 18) (N := some 68) (v := undef) (a' := ?_) m19_ rfl rfl (an_ HT_) (fun _ _ _ h => h) (Or.inr ⟨by rfl, rfl⟩) ?_ ?_; rotate_left; (· simp only [Act.put, S_]; rfl)
      refine pure_ (i := 19) (N := some 69) (v := ?_) (a' := ?_) m20_ rfl rfl (an_ HT_) (fun _ _ _ h => h) (Or.inl ⟨by rfl, ?_⟩) ?_ ?_; rotate_left; (· intro w'; go_simp; with_reducible rfl); rotate_left; (· simp only [Act.put, S_]; rfl)
      refine pure_ (i := 20) (N := some 70) (v := ?_) (a' := ?_) m21_ rfl rfl (an_ HT_) (fun _ _ _ h => h) (Or.inl ⟨by rfl, ?_⟩) ?_ ?_; rotate_left; (· intro w'; go_simp; with_reducible rfl); rotate_left; (· simp only [Act.put, S_]; rfl)
      refine pure_ (i := 21) (N := some 71) (v := undef) (a' := ?_) m22_ rfl rfl (an_ HT_) (fun _ _ _ h => h) (Or.inr ⟨by rfl, rfl⟩) ?_ ?_; rotate_left; (· simp only [Act.put, S_]; rfl)
      refine pure_ (i := 22) (N := some 72) (v := undef) (a' := ?_) m23_ rfl rfl (an_ HT_) (fun _ _ _ h => h) (Or.inr ⟨by rfl, rfl⟩) ?_ ?_; rotate_left; (· simp only [Act.put, S_]; rfl)
      refine pure_ (i := 23) (N := some 73) (v := undef) (a' := ?_) m24_ rfl rfl (an_ HT_) (fun _ _ _ h => h) (Or.inr ⟨by rfl, rfl⟩) ?_ ?_; rotate_left; (· simp only [Act.put, S_]; rfl)
      refine pure_ (i := 24) (N := some 74) (v := ?_) (a' := ?_) m25_ rfl rfl (an_ HT_) (fun _ _ _ h => h) (Or.inl ⟨by rfl, ?_⟩) ?_ ?_; rotate_left; (· intro w'; go_simp; with_reducible rfl); rotate_left; (· simp only [Act.put, S_]; rfl)
      refine pure_ (i := 25) (N := some 75) (v := ?_) (a' := ?_) m26_ rfl rfl (an_ HT_) (fun _ _ _ h => h) (Or.inl ⟨by rfl, ?_⟩) ?_ ?_; rotate_left; (· intro w'; go_simp; with_reducible rfl); rotate_left; (· simp only [Act.put, S_]; rfl)
      refine pure_ (i := 26) (N := some 76) (v := undef) (a' := ?_) m27_ rfl rfl (an_ HT_) (fun _ _ _ h => h) (Or.inr ⟨by rfl, rfl⟩) ?_ ?_; rotate_left; (· simp only [Act.put, S_]; rfl)
      refine pure_ (i := 27) (N := some 77) (v := undef) (a' := ?_) m28_ rfl rfl (an_ HT_) (fun _ _ _ h => h) (Or.inr ⟨by rfl, rfl⟩) ?_ ?_; rotate_left; (· simp only [Act.put, S_]; rfl)
      refine pure_ (i := 28) (N := some 78) (v := undef) (a' := ?_) m31_ rfl rfl (an_ HT_) (fun _ _ _ h => h) (Or.inr ⟨by rfl, rfl⟩) ?_ ?_; rotate_left; (· simp only [Act.put, S_]; rfl)
      refine pure_ (i := 29) (N := some 79) (v := undef) (a' := ?_) m32_ rfl rfl (an_ HT_) (fun _ _ _ h => h) (Or.inr ⟨by rfl, rfl⟩) ?_ ?_; rotate_left; (· simp only [Act.put, S_]; rfl)
      refine pure_ (i := 30) (N := some 80) (v := undef) (a' := ?_) m33_ rfl rfl (an_ HT_) (fun _ _ _ h => h) (Or.inr ⟨by rfl, rfl⟩) ?_ ?_; rotate_left; (· simp only [Act.put, S_]; rfl)
      refine pure_ (i := 31) (N := some 81) (v := undef) (a' := ?_) m34_ rfl rfl (an_ HT_) (fun _ _ _ h => h) (Or.inr ⟨by rfl, rfl⟩) ?_ ?_; rotate_left; (· simp only [Act.put, S_]; rfl)
      refine pure_ (i := 32) (N := some 82) (v := undef) (a' := ?_) m35_ rfl rfl (an_ HT_) (fun _ _ _ h => h) (Or.inr ⟨by rfl, rfl⟩) ?_ ?_; rotate_left; (· simp only [Act.put, S_]; rfl)
      refine pure_ (i := 33) (N := some 83) (v := ?_) (a' := ?_) m36_ rfl rfl (an_ HT_) (fun _ _ _ h => h) (Or.inl ⟨by rfl, ?_⟩) ?_ ?_; rotate_left; (· intro w'; go_simp; with_reducible rfl); rotate_left; (· simp only [Act.put, S_]; rfl)
      refine pure_ (i := 34) (N := some 84) (v := ?_) (a' := ?_) m37_ rfl rfl (an_ HT_) (fun _ _ _ h => h) (Or.inl ⟨by rfl, ?_⟩) ?_ ?_; rotate_left; (· intro w'; go_simp; with_reducible rfl); rotate_left; (· simp only [Act.put, S_]; rfl)
      refine pure_ (i := 35) (N := some 85) (v := undef) (a' := ?_) m38_ rfl rfl (an_ HT_) (fun _ _ _ h => h) (Or.inr ⟨by rfl, rfl⟩) ?_ ?_; rotate_left; (· simp only [Act.put, S_]; rfl)
      refine pure_ (i := 36) (N := some 86) (v := undef) (a' := ?_) m39_ rfl rfl (an_ HT_) (fun _ _ _ h => h) (Or.inr ⟨by rfl, rfl⟩) ?_ ?_; rotate_left; (· simp only [Act.put, S_]; rfl)
      refine pure_ (i := 37) (N := some 87) (v := undef) (a' := ?_) m42_ rfl rfl (an_ HT_) (fun _ _ _ h => h) (Or.inr ⟨by rfl, rfl⟩) ?_ ?_; rotate_left; (· simp only [Act.put, S_]; rfl)
      refine pure_ (i := 38) (N := some 88) (v := undef) (a' := ?_) m43_ rfl rfl (an_ HT_) (fun _ _ _ h => h) (Or.inr ⟨by rfl, rfl⟩) ?_ ?_; rotate_left; (· simp only [Act.put, S_]; rfl)
      refine pure_ (i := 39) (N := some 89) (v := undef) (a' := ?_) m44_ rfl rfl (an_ HT_) (fun _ _ _ h => h) (Or.inr ⟨by rfl, rfl⟩) ?_ ?_; rotate_left; (· simp only [Act.put, S_]; rfl)
      refine pure_ (i := 40) (N := some 90) (v := undef) (a' := ?_) m45_ rfl rfl (an_ HT_) (fun _ _ _ h => h) (Or.inr ⟨by rfl, rfl⟩) ?_ ?_; rotate_left; (· simp only [Act.put, S_]; rfl)
      refine pure_ (i := 41) (N := some 91) (v := undef) (a' := ?_) m46_ rfl rfl (an_ HT_) (fun _ _ _ h => h) (Or.inr ⟨by rfl, rfl⟩) ?_ ?_; rotate_left; (· simp only [Act.put, S_]; rfl)
      refine pure_ (i := 42) (N := some 92) (v := ?_) (a' := ?_) m47_ rfl rfl (an_ HT_) (fun _ _ _ h => h) (Or.inl ⟨by rfl, ?_⟩) ?_ ?_; rotate_left; (· intro w'; go_simp; with_reducible rfl); rotate_left; (· simp only [Act.put, S_]; rfl)
      refine pure_ (i := 43) (N := some 93) (v := ?_) (a' := ?_) m48_ rfl rfl (an_ HT_) (fun _ _ _ h => h) (Or.inl ⟨by rfl, ?_⟩) ?_ ?_; rotate_left; (· intro w'; go_simp; with_reducible rfl); rotate_left; (· simp only [Act.put, S_]; rfl)
      refine pure_ (i := 44) (N := some 94) (v := undef) (a' := ?_) m49_ rfl rfl (an_ HT_) (fun _ _ _ h => h) (Or.inr ⟨by rfl, rfl⟩) ?_ ?_; rotate_left; (· simp only [Act.put, S_]; rfl)
      refine pure_ (i := 45) (N := some 95) (v := ?_) (a' := ?_) m50_ rfl rfl (an_ HT_) (fun _ _ _ h => h) (Or.inl ⟨by rfl, ?_⟩) ?_ ?_; rotate_left; (· intro w'; go_simp; with_reducible rfl); rotate_left; (· simp only [Act.put, S_]; rfl)
      refine pure_ (i := 46) (N := some 6) (v := ?_) (a' := ?_) m51_ rfl rfl (an_ HT_) (fun _ _ _ h => h) (Or.inl ⟨by rfl, ?_⟩) ?_ ?_; rotate_left; (· intro w'; go_simp; with_reducible rfl); rotate_left; (· simp only [Act.put, S_]; rfl)
      refine done_ (done_of HT_.out (by kernel_rfl)) ?_
      try go_wp2
      go_ret
      exact ⟨by first | rfl | (simp [errW_none, errW_some] <;> rfl) | (simp [*, errW_none, errW_some] <;> rfl), by repeat (first | (with_reducible first | exact HB.out | apply below_alloc | apply pw_below_drewN | apply below_drew1 | refine below_set ?_ GE182.out | refine below_set ?_ GE191.out | refine below_set ?_ GE195.out) | exact HB.out)⟩

def gd47 (x : S47) : Prop := (True) ∧ (x.f1.size ≤ 140737488351232)
/-- THE ONE PURE STATEMENT of newsreellaw27_EtagTells. -/
def newsreellaw27_EtagTells.Pure : Prop := ∀ (x0 : S47) (x1 : ByteArray) (x2 : ByteArray), (gd47 x0) → (x1.size ≤ 140737488351232) → (x2.size ≤ 140737488351232) → ∃ k, newsreellaw27_EtagTells.f k x0.f0 x0.f1 x1 x2 = some true

end Go.Proofs.Ytbncdnkleodciab.PEtagTells
