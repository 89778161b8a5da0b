-- MADE BY xprint.py of this repository, out of the seat's translation, by the kit's print and this repository's hands
import Derived.Test.YtmkajenlncfhbacPEntityBackx0
import Derived.Test.YtmkajenlncfhbacPEntityBackx1
import Derived.Test.YtmkajenlncfhbacPEntityBackx2
namespace Go.Proofs.Ytmkajenlncfhbac.PEntityBack
open Go.RowKit Go.Proofs.YtmkajenlncfhbacW.PrintWords Go.Proofs.YtmkajenlncfhbacW.PrintLast Go.Proofs.YtmkajenlncfhbacW.PrintMore
attribute [local go_sem] max2_int min2_int max_two min_two max_three min_three max_four min_four   -- for this text's walks alone
set_option linter.unusedVariables false
set_option linter.unusedSimpArgs false

/-! ### entity_Put: function 9 -/
def entity_Put.c (x : Int) : List Int := if x = 60 then [38, 108, 116, 59] else if x = 62 then [38, 103, 116, 59] else if x = 38 then [38, 97, 109, 112, 59] else if x = 34 then [38, 113, 117, 111, 116, 59] else if x = 39 then [38, 97, 112, 111, 115, 59] else [x]
def entity_Put.all (l : List Int) : List Int := (l.map entity_Put.c).flatten
def entity_Put.cs (l : List Int) : List Value := (entity_Put.all l).map fun x => Value.int .u8 x
def entity_Put.f (a0 : ByteArray) : Option (ByteArray) := if a0.size ≤ 1000000000 then some (strOfNums (entity_Put.all (bytesOf a0))) else none
theorem entity_Put.c_len (x : Int) : (entity_Put.c x).length ≤ 6 := by
  unfold entity_Put.c
  repeat' (first | split | simp)
theorem entity_Put.len (p : List Int) : (entity_Put.cs p).length ≤ 6 * p.length := by
  induction p with
  | nil => simp [entity_Put.cs, entity_Put.all]
  | cons c p ih =>
    have := entity_Put.c_len c
    simp only [entity_Put.cs, entity_Put.all, List.length_map, List.map_cons, List.flatten_cons, List.length_append, List.length_cons] at ih ⊢
    omega
theorem entity_Put.snoc (p : List Int) (c : Int) : entity_Put.cs (p ++ [c]) = entity_Put.cs p ++ (entity_Put.c c).map (fun x => Value.int .u8 x) := by
  simp [entity_Put.cs, entity_Put.all]
theorem entity_Put.range (l : List Int) (h : ∀ x ∈ l, 0 ≤ x ∧ x < 256) : ∀ x ∈ entity_Put.all l, 0 ≤ x ∧ x < 256 := by
  intro x hx
  unfold entity_Put.all at hx
  obtain ⟨y, hy, hxy⟩ := List.mem_flatten.mp hx
  obtain ⟨c, hc, rfl⟩ := List.mem_map.mp hy
  unfold entity_Put.c at hxy
  repeat' (first | (split at hxy) | (simp only [List.mem_cons, List.not_mem_nil, or_false] at hxy))
  all_goals first | (rw [hxy]; exact h c hc) | omega
def entity_Put.rel (w : World) (a0 : ByteArray) (v7 : Value) (wr : World) : Prop :=
  ∃ (p t : List Int), v7 = .int .i64 (p.length : Int) ∧ Aside0 (bytesOf a0 = p ++ t) ∧ Aside0 (Below w.heap.size w wr) ∧ Aside0 (Lib.IsBuilder 47 5 w.heap.size w.heap.size (entity_Put.cs p) wr)
theorem entity_Put.io (k : IntKind) (x : Int) : intOf (Value.int k x) = x := rfl
theorem entity_Put.meas (n p : Nat) (h : p < n) (hw : wrap64 ((p : Int) + 1) = (p : Int) + 1) : n - (intOf (.int .i64 (wrap64 ((p : Int) + 1)))).toNat < n - (intOf (.int .i64 (p : Int))).toNat := by
  rw [hw, entity_Put.io, entity_Put.io]
  omega
set_option maxHeartbeats 4000000 in
set_option maxRecDepth 100000 in
theorem entity_Put.calls (a0 : ByteArray) (r : ByteArray) (w : World) (h : entity_Put.f a0 = some r) :
    Calls Try.prog 9 #[.string a0] w fun e w' => e = .returned (.string r) ∧ Below w.heap.size w w' := by
  unfold entity_Put.f at h
  split at h
  case isFalse => cases h
  case isTrue hb =>
  have HR := Aside0.mk (Option.some.inj h)
  have HD := Aside0.mk hb
  clear h hb
  go_enter Try.func9, Try.ntmps9
  go_wp2
  go_loopw [7] (fun v7 wr => entity_Put.rel w a0 v7 wr) (fun v7 _ => a0.size - (intOf v7).toNat)
  case atStart => exact ⟨[], bytesOf a0, rfl, ⟨rfl⟩, ⟨below_alloc (Below.refl _ _) _⟩, ⟨Lib.fresh_isBuilder _ _ w⟩⟩
  case round =>
    obtain ⟨p, t, rfl, HE, HB, HI⟩ := hrel
    have hlen : a0.size = p.length + t.length := by rw [← bytesOf_length, HE.out, List.length_append]
    have hsz : w.heap.size ≤ wr.heap.size := HB.out.size
    have hbr : ∀ x ∈ bytesOf a0, 0 ≤ x ∧ x < 256 := fun x hx => by
      obtain ⟨b, _, rfl⟩ := List.mem_map.mp hx
      have := b.toNat_lt
      omega
    cases t with
    | nil =>
      have hpl : (p.length : Int) = (a0.size : Int) := by rw [hlen]; simp
      have hpb : bytesOf a0 = p := by rw [HE.out, List.append_nil]
      have hr : strOfNums (entity_Put.all p) = r := by rw [← hpb]; exact HR.out
      rw [hpb] at hbr
      have hI := HI.out
      unfold entity_Put.cs at hI
      rw [Bld.cells _ (entity_Put.range p hbr)] at hI
      have hcon := Bld.st w.heap.size w.heap.size _ wr hI hsz
      rw [show (⟨((entity_Put.all p).map fun x => x.toNat.toUInt8).toArray⟩ : ByteArray) = r from hr] at hcon
      clear hr hI hbr hpb hlen
      rw [hpl]
      go_wp2_with (go_at_call 27; refine hcon.mono ?_; rintro e w' ⟨rfl, hb⟩)
      go_ret
      exact ⟨rfl, HB.out.trans hb⟩
    | cons c t =>
      have HLEN := Aside0.mk hlen
      have HW : Aside0 (wrap64 ((p.length : Int) + 1) = (p.length : Int) + 1) := ⟨by have e_ := HLEN.out; have d_ := HD.out; simp at e_; unfold wrap64; omega⟩
      have hlt : p.length < a0.size := by rw [hlen]; simp
      have hn := entity_Put.len p
      have hD := HD.out
      have hl : ∀ s : ByteArray, s.size ≤ 6 → (entity_Put.cs p).length + s.size ≤ 140737488355328 := fun s hs => by omega
      have hl1 : (entity_Put.cs p).length + 1 ≤ 140737488355328 := by omega
      have hbt : bt a0 (p.length : Int) = c := by
        rw [← rd_bytesOf, HE.out]
        simp [rd]
      have hx0 := bt_at a0 (p.length : Int)
      rw [hbt] at hx0
      have hx : ((a0[p.length]'hlt).toNat : Int) = c := by simpa using hx0 (by simpa using hlt)
      clear hx0
      have p1 : (0 ≤ (p.length : Int)) = True := eq_true (by omega)
      have q1 : ((p.length : Int) < (a0.size : Int)) = True := eq_true (by omega)
      clear hlen hn hD hbt hbr
      have h6 : c = 60 ∨ c = 62 ∨ c = 38 ∨ c = 34 ∨ c = 39 ∨ (c ≠ 60 ∧ c ≠ 62 ∧ c ≠ 38 ∧ c ≠ 34 ∧ c ≠ 39) := by omega
      rcases h6 with rfl | rfl | rfl | rfl | rfl | ho
      · go_wp2_with (go_at_call 26; refine (Bld.ws w.heap.size w.heap.size _ _ wr HI.out (hl _ (by decide)) hsz).mono ?_; rintro e w1 ⟨rfl, hb1, hB1⟩; have HB1 := Aside0.mk hb1; clear hb1)
        go_roundw
        case measure => exact entity_Put.meas _ _ hlt HW.out
        case rel => exact ⟨p ++ [60], t, by simp [HW.out], ⟨by rw [HE.out]; simp⟩, ⟨HB.out.trans hB1⟩, ⟨Or.inr (by rw [entity_Put.snoc]; exact HB1.out)⟩⟩
      · go_wp2_with (go_at_call 26; refine (Bld.ws w.heap.size w.heap.size _ _ wr HI.out (hl _ (by decide)) hsz).mono ?_; rintro e w1 ⟨rfl, hb1, hB1⟩; have HB1 := Aside0.mk hb1; clear hb1)
        go_roundw
        case measure => exact entity_Put.meas _ _ hlt HW.out
        case rel => exact ⟨p ++ [62], t, by simp [HW.out], ⟨by rw [HE.out]; simp⟩, ⟨HB.out.trans hB1⟩, ⟨Or.inr (by rw [entity_Put.snoc]; exact HB1.out)⟩⟩
      · go_wp2_with (go_at_call 26; refine (Bld.ws w.heap.size w.heap.size _ _ wr HI.out (hl _ (by decide)) hsz).mono ?_; rintro e w1 ⟨rfl, hb1, hB1⟩; have HB1 := Aside0.mk hb1; clear hb1)
        go_roundw
        case measure => exact entity_Put.meas _ _ hlt HW.out
        case rel => exact ⟨p ++ [38], t, by simp [HW.out], ⟨by rw [HE.out]; simp⟩, ⟨HB.out.trans hB1⟩, ⟨Or.inr (by rw [entity_Put.snoc]; exact HB1.out)⟩⟩
      · go_wp2_with (go_at_call 26; refine (Bld.ws w.heap.size w.heap.size _ _ wr HI.out (hl _ (by decide)) hsz).mono ?_; rintro e w1 ⟨rfl, hb1, hB1⟩; have HB1 := Aside0.mk hb1; clear hb1)
        go_roundw
        case measure => exact entity_Put.meas _ _ hlt HW.out
        case rel => exact ⟨p ++ [34], t, by simp [HW.out], ⟨by rw [HE.out]; simp⟩, ⟨HB.out.trans hB1⟩, ⟨Or.inr (by rw [entity_Put.snoc]; exact HB1.out)⟩⟩
      · go_wp2_with (go_at_call 26; refine (Bld.ws w.heap.size w.heap.size _ _ wr HI.out (hl _ (by decide)) hsz).mono ?_; rintro e w1 ⟨rfl, hb1, hB1⟩; have HB1 := Aside0.mk hb1; clear hb1)
        go_roundw
        case measure => exact entity_Put.meas _ _ hlt HW.out
        case rel => exact ⟨p ++ [39], t, by simp [HW.out], ⟨by rw [HE.out]; simp⟩, ⟨HB.out.trans hB1⟩, ⟨Or.inr (by rw [entity_Put.snoc]; exact HB1.out)⟩⟩
      · obtain ⟨o1, o2, o3, o4, o5⟩ := ho
        have e1 : (c == 60) = false := beq_eq_false_iff_ne.mpr o1
        have e2 : (c == 62) = false := beq_eq_false_iff_ne.mpr o2
        have e3 : (c == 38) = false := beq_eq_false_iff_ne.mpr o3
        have e4 : (c == 34) = false := beq_eq_false_iff_ne.mpr o4
        have e5 : (c == 39) = false := beq_eq_false_iff_ne.mpr o5
        go_wp2_with (go_at_call 30; refine (Bld.wb w.heap.size w.heap.size _ _ wr HI.out hl1 hsz).mono ?_; rintro e w1 ⟨rfl, hb1, hB1⟩; have HB1 := Aside0.mk hb1; clear hb1)
        go_roundw
        case measure => exact entity_Put.meas _ _ hlt HW.out
        case rel =>
          refine ⟨p ++ [c], t, by simp [HW.out], ⟨by rw [HE.out]; simp⟩, ⟨HB.out.trans hB1⟩, ⟨Or.inr ?_⟩⟩
          rw [entity_Put.snoc, show entity_Put.c c = [c] by unfold entity_Put.c; rw [if_neg o1, if_neg o2, if_neg o3, if_neg o4, if_neg o5]]
          exact HB1.out

/-! ### newsreellaw19_awake: function 6 -/
def newsreellaw19_awake.f (k : Nat)  : Option (Bool) := (entity_Get.f k (⟨#[38, 35, 120, 52, 49, 59, 38, 108, 116, 59, 38, 35, 50, 51, 51, 59]⟩ : ByteArray)).bind fun bt162 => ((entity_Get.f k (⟨#[97, 38, 98]⟩ : ByteArray)).bind fun bt164 => ((entity_Get.f k (⟨#[38, 35, 48, 59]⟩ : ByteArray)).bind fun bt166 => ((entity_Get.f k (⟨#[38, 35, 120, 100, 56, 48, 48, 59]⟩ : ByteArray)).bind fun bt168 => (if bt162.1.toList = ([65, 60, 195, 169] : List UInt8) then (if bt162.2 = 0 then (if bt164.2 = 12 then (if bt166.2 = 3 then (if bt168.2 = 3 then ((entity_Put.f (⟨#[60, 39, 97, 39, 38]⟩ : ByteArray)).bind fun t170 => (some (t170.toList == ([38, 108, 116, 59, 38, 97, 112, 111, 115, 59, 97, 38, 97, 112, 111, 115, 59, 38, 97, 109, 112, 59] : List UInt8)))) else (none)) else (none)) else (none)) else (none)) else (none)))))
theorem newsreellaw19_awake.mono : ∀ k, LeO (newsreellaw19_awake.f k ) (newsreellaw19_awake.f (k + 1) ) := by
  intro  k
  unfold newsreellaw19_awake.f
  repeat' first
      | (with_reducible exact entity_Get.mono _ _)
      | (with_reducible exact LeO.refl _)
      | (with_reducible exact LeO.none _)
      | (with_reducible refine LeO.ite ?_ ?_)
      | (with_reducible refine LeO.bind ?_ (fun _ => ?_))
      | exact entity_Get.mono _ _
      | exact LeO.none _
      | refine LeO.ite ?_ ?_
      | refine LeO.bind ?_ (fun _ => ?_)
set_option maxHeartbeats 8000000 in
set_option maxRecDepth 100000 in
theorem newsreellaw19_awake.calls (k : Nat)  (r : Bool) (w : World) (h : newsreellaw19_awake.f k  = some r) :
    Calls Try.prog 6 #[] w fun e w' => e = .returned (.bool r) ∧ Below w.heap.size w w' := by
  have HB := Aside0.mk (Below.refl w.heap.size w)
  have H : ((entity_Get.f k (⟨#[38, 35, 120, 52, 49, 59, 38, 108, 116, 59, 38, 35, 50, 51, 51, 59]⟩ : ByteArray)).bind fun bt162 => ((entity_Get.f k (⟨#[97, 38, 98]⟩ : ByteArray)).bind fun bt164 => ((entity_Get.f k (⟨#[38, 35, 48, 59]⟩ : ByteArray)).bind fun bt166 => ((entity_Get.f k (⟨#[38, 35, 120, 100, 56, 48, 48, 59]⟩ : ByteArray)).bind fun bt168 => (if bt162.1.toList = ([65, 60, 195, 169] : List UInt8) then (if bt162.2 = 0 then (if bt164.2 = 12 then (if bt166.2 = 3 then (if bt168.2 = 3 then ((entity_Put.f (⟨#[60, 39, 97, 39, 38]⟩ : ByteArray)).bind fun t170 => (some (t170.toList == ([38, 108, 116, 59, 38, 97, 112, 111, 115, 59, 97, 38, 97, 112, 111, 115, 59, 38, 97, 109, 112, 59] : List UInt8)))) else (none)) else (none)) else (none)) else (none)) else (none)))))) = some r := h
  clear h
  replace H := Option.bind_eq_some_iff.mp H
  obtain ⟨⟨t162, t163⟩, A10, H⟩ := H
  replace H : ((entity_Get.f k (⟨#[97, 38, 98]⟩ : ByteArray)).bind fun bt164 => ((entity_Get.f k (⟨#[38, 35, 48, 59]⟩ : ByteArray)).bind fun bt166 => ((entity_Get.f k (⟨#[38, 35, 120, 100, 56, 48, 48, 59]⟩ : ByteArray)).bind fun bt168 => (if t162.toList = ([65, 60, 195, 169] : List UInt8) then (if t163 = 0 then (if bt164.2 = 12 then (if bt166.2 = 3 then (if bt168.2 = 3 then ((entity_Put.f (⟨#[60, 39, 97, 39, 38]⟩ : ByteArray)).bind fun t170 => (some (t170.toList == ([38, 108, 116, 59, 38, 97, 112, 111, 115, 59, 97, 38, 97, 112, 111, 115, 59, 38, 97, 109, 112, 59] : List UInt8)))) else (none)) else (none)) else (none)) else (none)) else (none))))) = some r := H
  have A1 := Aside0.mk A10
  clear A10
  replace H := Option.bind_eq_some_iff.mp H
  obtain ⟨⟨t164, t165⟩, A20, H⟩ := H
  replace H : ((entity_Get.f k (⟨#[38, 35, 48, 59]⟩ : ByteArray)).bind fun bt166 => ((entity_Get.f k (⟨#[38, 35, 120, 100, 56, 48, 48, 59]⟩ : ByteArray)).bind fun bt168 => (if t162.toList = ([65, 60, 195, 169] : List UInt8) then (if t163 = 0 then (if t165 = 12 then (if bt166.2 = 3 then (if bt168.2 = 3 then ((entity_Put.f (⟨#[60, 39, 97, 39, 38]⟩ : ByteArray)).bind fun t170 => (some (t170.toList == ([38, 108, 116, 59, 38, 97, 112, 111, 115, 59, 97, 38, 97, 112, 111, 115, 59, 38, 97, 109, 112, 59] : List UInt8)))) else (none)) else (none)) else (none)) else (none)) else (none)))) = some r := H
  have A2 := Aside0.mk A20
  clear A20
  replace H := Option.bind_eq_some_iff.mp H
  obtain ⟨⟨t166, t167⟩, A30, H⟩ := H
  replace H : ((entity_Get.f k (⟨#[38, 35, 120, 100, 56, 48, 48, 59]⟩ : ByteArray)).bind fun bt168 => (if t162.toList = ([65, 60, 195, 169] : List UInt8) then (if t163 = 0 then (if t165 = 12 then (if t167 = 3 then (if bt168.2 = 3 then ((entity_Put.f (⟨#[60, 39, 97, 39, 38]⟩ : ByteArray)).bind fun t170 => (some (t170.toList == ([38, 108, 116, 59, 38, 97, 112, 111, 115, 59, 97, 38, 97, 112, 111, 115, 59, 38, 97, 109, 112, 59] : List UInt8)))) else (none)) else (none)) else (none)) else (none)) else (none))) = some r := H
  have A3 := Aside0.mk A30
  clear A30
  replace H := Option.bind_eq_some_iff.mp H
  obtain ⟨⟨t168, t169⟩, A40, H⟩ := H
  replace H : (if t162.toList = ([65, 60, 195, 169] : List UInt8) then (if t163 = 0 then (if t165 = 12 then (if t167 = 3 then (if t169 = 3 then ((entity_Put.f (⟨#[60, 39, 97, 39, 38]⟩ : ByteArray)).bind fun t170 => (some (t170.toList == ([38, 108, 116, 59, 38, 97, 112, 111, 115, 59, 97, 38, 97, 112, 111, 115, 59, 38, 97, 109, 112, 59] : List UInt8)))) else (none)) else (none)) else (none)) else (none)) else (none)) = some r := H
  have A4 := Aside0.mk A40
  clear A40
  by_cases c5 : t162.toList = ([65, 60, 195, 169] : List UInt8)
  · rw [if_pos c5] at H
    have c5b0 : (t162.toList == ([65, 60, 195, 169] : List UInt8)) = true := beq_iff_eq.mpr c5
    have c5b1 : (t162.toList != ([65, 60, 195, 169] : List UInt8)) = false := bne_eq_false_iff_eq.mpr c5
    clear c5
    by_cases c6 : t163 = 0
    · rw [if_pos c6] at H
      have c6b0 : (t163 == 0) = true := beq_iff_eq.mpr c6
      have c6b1 : (t163 != 0) = false := bne_eq_false_iff_eq.mpr c6
      clear c6
      by_cases c7 : t165 = 12
      · rw [if_pos c7] at H
        have c7b0 : (t165 == 12) = true := beq_iff_eq.mpr c7
        have c7b1 : (t165 != 12) = false := bne_eq_false_iff_eq.mpr c7
        clear c7
        by_cases c8 : t167 = 3
        · rw [if_pos c8] at H
          have c8b0 : (t167 == 3) = true := beq_iff_eq.mpr c8
          have c8b1 : (t167 != 3) = false := bne_eq_false_iff_eq.mpr c8
          clear c8
          by_cases c9 : t169 = 3
          · rw [if_pos c9] at H
            have c9b0 : (t169 == 3) = true := beq_iff_eq.mpr c9
            have c9b1 : (t169 != 3) = false := bne_eq_false_iff_eq.mpr c9
            clear c9
            replace H := Option.bind_eq_some_iff.mp H
            obtain ⟨t170, A100, H⟩ := H
            replace H : (some (t170.toList == ([38, 108, 116, 59, 38, 97, 112, 111, 115, 59, 97, 38, 97, 112, 111, 115, 59, 38, 97, 109, 112, 59] : List UInt8))) = some r := H
            have A10 := Aside0.mk A100
            clear A100
            obtain rfl := Option.some.inj H
            go_enter Try.func6, Try.ntmps6
            go_wp2_with (first | ((with_reducible refine gate_callee (f := 7) rfl ?_); refine goesL_ (some 10) rfl rfl Try.func7 (by kernel_rfl) rfl #[.string (⟨#[38, 35, 120, 52, 49, 59, 38, 108, 116, 59, 38, 35, 50, 51, 51, 59]⟩ : ByteArray)] rfl (by (try simp only [List.map_toArray, List.map_cons, List.map_nil]); first | done | rfl | (simp only [List.length_drop, List.length_take]; rfl)) ?_; (with_reducible refine (entity_Get.calls k (⟨#[38, 35, 120, 52, 49, 59, 38, 108, 116, 59, 38, 35, 50, 51, 51, 59]⟩ : ByteArray) t162 t163 _ A1.out).mono ?_); rintro e w11 ⟨rfl, hb⟩; refine ⟨_, rfl, ?_⟩; have n0_ := Aside0.mk (below_step (by repeat (first | (with_reducible first | exact HB.out | apply below_alloc | apply pw_below_drewN | apply below_drew1) | exact HB.out)) hb); clear HB; have HB := n0_; clear n0_; (try clear hb); (try clear hb2); (try clear hk); (try clear hi)) | ((with_reducible refine gate_callee (f := 7) rfl ?_); refine goesL_ (some 14) rfl rfl Try.func7 (by kernel_rfl) rfl #[.string (⟨#[97, 38, 98]⟩ : ByteArray)] rfl (by (try simp only [List.map_toArray, List.map_cons, List.map_nil]); first | done | rfl | (simp only [List.length_drop, List.length_take]; rfl)) ?_; (with_reducible refine (entity_Get.calls k (⟨#[97, 38, 98]⟩ : ByteArray) t164 t165 _ A2.out).mono ?_); rintro e w12 ⟨rfl, hb⟩; refine ⟨_, rfl, ?_⟩; have n0_ := Aside0.mk (below_step (by repeat (first | (with_reducible first | exact HB.out | apply below_alloc | apply pw_below_drewN | apply below_drew1) | exact HB.out)) hb); clear HB; have HB := n0_; clear n0_; (try clear hb); (try clear hb2); (try clear hk); (try clear hi)) | ((with_reducible refine gate_callee (f := 7) rfl ?_); refine goesL_ (some 18) rfl rfl Try.func7 (by kernel_rfl) rfl #[.string (⟨#[38, 35, 48, 59]⟩ : ByteArray)] rfl (by (try simp only [List.map_toArray, List.map_cons, List.map_nil]); first | done | rfl | (simp only [List.length_drop, List.length_take]; rfl)) ?_; (with_reducible refine (entity_Get.calls k (⟨#[38, 35, 48, 59]⟩ : ByteArray) t166 t167 _ A3.out).mono ?_); rintro e w13 ⟨rfl, hb⟩; refine ⟨_, rfl, ?_⟩; have n0_ := Aside0.mk (below_step (by repeat (first | (with_reducible first | exact HB.out | apply below_alloc | apply pw_below_drewN | apply below_drew1) | exact HB.out)) hb); clear HB; have HB := n0_; clear n0_; (try clear hb); (try clear hb2); (try clear hk); (try clear hi)) | ((with_reducible refine gate_callee (f := 7) rfl ?_); refine goesL_ (some 22) rfl rfl Try.func7 (by kernel_rfl) rfl #[.string (⟨#[38, 35, 120, 100, 56, 48, 48, 59]⟩ : ByteArray)] rfl (by (try simp only [List.map_toArray, List.map_cons, List.map_nil]); first | done | rfl | (simp only [List.length_drop, List.length_take]; rfl)) ?_; (with_reducible refine (entity_Get.calls k (⟨#[38, 35, 120, 100, 56, 48, 48, 59]⟩ : ByteArray) t168 t169 _ A4.out).mono ?_); rintro e w14 ⟨rfl, hb⟩; refine ⟨_, rfl, ?_⟩; have n0_ := Aside0.mk (below_step (by repeat (first | (with_reducible first | exact HB.out | apply below_alloc | apply pw_below_drewN | apply below_drew1) | exact HB.out)) hb); clear HB; have HB := n0_; clear n0_; (try clear hb); (try clear hb2); (try clear hk); (try clear hi)) | (go_at_call 9; (with_reducible refine (entity_Put.calls (⟨#[60, 39, 97, 39, 38]⟩ : ByteArray) t170 _ A10.out).mono ?_); rintro e w15 ⟨rfl, hb⟩; have n0_ := Aside0.mk (below_step (by repeat (first | (with_reducible first | exact HB.out | apply below_alloc | apply pw_below_drewN | apply below_drew1) | exact HB.out)) hb); clear HB; have HB := n0_; clear n0_; (try clear hb); (try clear hb2); (try clear hk); (try clear hi)))
            go_ret
            exact ⟨by first | rfl | (simp [errW_none, errW_some] <;> rfl) | (simp [*, errW_none, errW_some] <;> rfl), by repeat (first | (with_reducible first | exact HB.out | apply below_alloc | apply pw_below_drewN | apply below_drew1) | exact HB.out)⟩
          · rw [if_neg c9] at H
            exact absurd H (by simp)
        · rw [if_neg c8] at H
          exact absurd H (by simp)
      · rw [if_neg c7] at H
        exact absurd H (by simp)
    · rw [if_neg c6] at H
      exact absurd H (by simp)
  · rw [if_neg c5] at H
    exact absurd H (by simp)

/-! ### newsreelref02_In: function 11 -/
def newsreelref02_In.l0 : Nat → ByteArray → Int → Int → Option (Bool)
  | 0, _, _, _ => none
  | k + 1, x0, x1, x5 => if x5 < (x0.size : Int) then (if 0 ≤ x5 then (if (bt x0 x5) = x1 then (some true) else (newsreelref02_In.l0 k x0 x1 (wrap64 (x5 + 1)))) else (none)) else (some false)
def newsreelref02_In.f (k : Nat) (a0 : ByteArray) (a1 : Int) : Option (Bool) := newsreelref02_In.l0 k a0 a1 0
theorem newsreelref02_In.mono_l : ∀ k, (∀ y0 y1 y2, LeO (newsreelref02_In.l0 k y0 y1 y2) (newsreelref02_In.l0 (k + 1) y0 y1 y2))
  | 0 => fun _ _ _ r h => by simp [newsreelref02_In.l0] at h
  | k + 1 => by
    have ih0 := newsreelref02_In.mono_l k
    · intro y0 y1 y2
      unfold newsreelref02_In.l0
      repeat' first
      | (with_reducible exact ih0 _ _ _)
      | (with_reducible exact LeO.refl _)
      | (with_reducible exact LeO.none _)
      | (with_reducible refine LeO.ite ?_ ?_)
      | (with_reducible refine LeO.bind ?_ (fun _ => ?_))
      | exact ih0 _ _ _
      | exact LeO.none _
      | refine LeO.ite ?_ ?_
      | refine LeO.bind ?_ (fun _ => ?_)
theorem newsreelref02_In.mono : ∀ a0 a1 k, LeO (newsreelref02_In.f k a0 a1) (newsreelref02_In.f (k + 1) a0 a1) := by
  intro a0 a1 k
  have ih0 := newsreelref02_In.mono_l k
  unfold newsreelref02_In.f
  repeat' first
      | (with_reducible exact ih0 _ _ _)
      | (with_reducible exact LeO.refl _)
      | (with_reducible exact LeO.none _)
      | (with_reducible refine LeO.ite ?_ ?_)
      | (with_reducible refine LeO.bind ?_ (fun _ => ?_))
      | exact ih0 _ _ _
      | exact LeO.none _
      | refine LeO.ite ?_ ?_
      | refine LeO.bind ?_ (fun _ => ?_)
set_option maxHeartbeats 8000000 in
set_option maxRecDepth 100000 in
theorem newsreelref02_In.calls (k : Nat) (a0 : ByteArray) (a1 : Int) (r : Bool) (w : World) (h : newsreelref02_In.f k a0 a1 = some r) :
    Calls Try.prog 11 #[.string a0, .int .u8 a1] w fun e w' => e = .returned (.bool r) ∧ Drawn0 w w' := by
  have H : (newsreelref02_In.l0 k a0 a1 0) = some r := h
  clear h
  have H' := Aside0.mk H
  clear H
  go_enter Try.func11, Try.ntmps11
  go_wp2
  go_loopg [5] k (fun kq v5 w' => ∃ (x5_1 : Int), v5 = .int .i64 x5_1 ∧ Aside0 (newsreelref02_In.l0 kq a0 a1 x5_1 = some r) ∧ Aside0 (kq ≤ k) ∧ Drawn0 w w')
  case atStart => exact ⟨(0), (by first | rfl | (simp; done) | (simp [*]; done)), H', ⟨Nat.le_refl _⟩, by repeat (first | exact Drawn0.refl _ | apply Drawn0.step)⟩
  case round =>
    clear H'
    try clear c1
    try clear p2
    obtain ⟨x5_1, rfl, HA, HK1, ⟨m1, rfl⟩⟩ := hrel
    cases gk with
    | zero => exact absurd HA.out (by simp [newsreelref02_In.l0])
    | succ k1 =>
      have H := HA.out
      clear HA
      simp only [newsreelref02_In.l0] at H
      by_cases c3 : x5_1 < (a0.size : Int)
      · rw [if_pos c3] at H
        have c3b0 : decide (x5_1 < (a0.size : Int)) = true := decide_eq_true c3
        clear c3
        by_cases c4 : 0 ≤ x5_1
        · rw [if_pos c4] at H
          have c4b0 : decide (0 ≤ x5_1) = true := decide_eq_true c4
          clear c4
          by_cases c6 : (bt a0 x5_1) = a1
          · rw [if_pos c6] at H
            have c6b0 : ((bt a0 x5_1) == a1) = true := beq_iff_eq.mpr c6
            have c6b1 : ((bt a0 x5_1) != a1) = false := bne_eq_false_iff_eq.mpr c6
            clear c6
            obtain rfl := Option.some.inj H
            have p5 : 0 ≤ (x5_1 : Int) := of_decide_eq_true (by first | (with_reducible assumption) | assumption)
            have q5 : x5_1 < (a0.size : Int) := of_decide_eq_true (by first | (with_reducible assumption) | assumption)
            have hx5 := bt_at a0 x5_1
            replace p5 := eq_true p5
            replace q5 := eq_true q5
            go_wp2
            go_ret
            exact ⟨by first | rfl | (simp; done) | (simp [*]; done), by repeat (first | exact Drawn0.refl _ | apply Drawn0.step)⟩
          · rw [if_neg c6] at H
            have c6b0 : ((bt a0 x5_1) == a1) = false := beq_eq_false_iff_ne.mpr c6
            have c6b1 : ((bt a0 x5_1) != a1) = true := bne_iff_ne.mpr c6
            have H' := Aside0.mk H
            clear H
            have p5 : 0 ≤ (x5_1 : Int) := of_decide_eq_true (by first | (with_reducible assumption) | assumption)
            have q5 : x5_1 < (a0.size : Int) := of_decide_eq_true (by first | (with_reducible assumption) | assumption)
            have hx5 := bt_at a0 x5_1
            replace p5 := eq_true p5
            replace q5 := eq_true q5
            go_wp2
            go_roundg k1
            case measure => have := HK1.out; omega
            case rel => exact ⟨(wrap64 (x5_1 + 1)), (by first | rfl | (simp; done) | (simp [*]; done)), H', ⟨by have := HK1.out; omega⟩, by repeat (first | exact Drawn0.refl _ | apply Drawn0.step)⟩
        · rw [if_neg c4] at H
          exact absurd H (by simp)
      · rw [if_neg c3] at H
        have c3b0 : decide (x5_1 < (a0.size : Int)) = false := decide_eq_false c3
        clear c3
        obtain rfl := Option.some.inj H
        go_wp2
        go_ret
        exact ⟨by first | rfl | (simp; done) | (simp [*]; done), by repeat (first | exact Drawn0.refl _ | apply Drawn0.step)⟩

/-! ### newsreellaw19_EntityBack: function 4 -/
def newsreellaw19_EntityBack.j0 : Nat → ByteArray → ByteArray → Int → Bool → Option (Bool)
  | 0, _, _, _, _ => none
  | k + 1, x0, x6, x7, x38 => if x38 = true then (none) else ((newsreelref02_In.f k x0 38).bind fun t179 => (if t179 = true then ((newsreellaw19_awake.f k).bind fun t180 => (some t180)) else (if x7 = 0 then (if x6.toList = x0.toList then ((newsreellaw19_awake.f k).bind fun t181 => (some t181)) else (none)) else (none))))
def newsreellaw19_EntityBack.f (k : Nat) (a0 : ByteArray) : Option (Bool) := if (a0.size : Int) > 400 then ((newsreellaw19_awake.f k).bind fun t171 => (some t171)) else ((entity_Put.f a0).bind fun t172 => ((entity_Get.f k t172).bind fun bt173 => ((entity_Get.f k a0).bind fun bt175 => (if bt173.2 = 0 then (if bt173.1.toList = a0.toList then ((newsreelref02_In.f k t172 60).bind fun t177 => (if t177 = true then (newsreellaw19_EntityBack.j0 k a0 bt175.1 bt175.2 true) else ((newsreelref02_In.f k t172 34).bind fun t178 => (newsreellaw19_EntityBack.j0 k a0 bt175.1 bt175.2 t178)))) else (newsreellaw19_EntityBack.j0 k a0 bt175.1 bt175.2 true)) else (newsreellaw19_EntityBack.j0 k a0 bt175.1 bt175.2 true)))))
theorem newsreellaw19_EntityBack.mono_l : ∀ k, (∀ y0 y1 y2 y3, LeO (newsreellaw19_EntityBack.j0 k y0 y1 y2 y3) (newsreellaw19_EntityBack.j0 (k + 1) y0 y1 y2 y3))
  | 0 => fun _ _ _ _ r h => by simp [newsreellaw19_EntityBack.j0] at h
  | k + 1 => by
    have ih0 := newsreellaw19_EntityBack.mono_l k
    · intro y0 y1 y2 y3
      unfold newsreellaw19_EntityBack.j0
      repeat' first
      | (with_reducible exact ih0 _ _ _ _)
      | (with_reducible exact entity_Get.mono _ _)
      | (with_reducible exact newsreellaw19_awake.mono _)
      | (with_reducible exact newsreelref02_In.mono _ _ _)
      | (with_reducible exact LeO.refl _)
      | (with_reducible exact LeO.none _)
      | (with_reducible refine LeO.ite ?_ ?_)
      | (with_reducible refine LeO.bind ?_ (fun _ => ?_))
      | exact ih0 _ _ _ _
      | exact entity_Get.mono _ _
      | exact newsreellaw19_awake.mono _
      | exact newsreelref02_In.mono _ _ _
      | exact LeO.none _
      | refine LeO.ite ?_ ?_
      | refine LeO.bind ?_ (fun _ => ?_)
theorem newsreellaw19_EntityBack.mono : ∀ a0 k, LeO (newsreellaw19_EntityBack.f k a0) (newsreellaw19_EntityBack.f (k + 1) a0) := by
  intro a0 k
  have ih0 := newsreellaw19_EntityBack.mono_l k
  unfold newsreellaw19_EntityBack.f
  repeat' first
      | (with_reducible exact ih0 _ _ _ _)
      | (with_reducible exact entity_Get.mono _ _)
      | (with_reducible exact newsreellaw19_awake.mono _)
      | (with_reducible exact newsreelref02_In.mono _ _ _)
      | (with_reducible exact LeO.refl _)
      | (with_reducible exact LeO.none _)
      | (with_reducible refine LeO.ite ?_ ?_)
      | (with_reducible refine LeO.bind ?_ (fun _ => ?_))
      | exact ih0 _ _ _ _
      | exact entity_Get.mono _ _
      | exact newsreellaw19_awake.mono _
      | exact newsreelref02_In.mono _ _ _
      | exact LeO.none _
      | refine LeO.ite ?_ ?_
      | refine LeO.bind ?_ (fun _ => ?_)
set_option maxHeartbeats 8000000 in
set_option maxRecDepth 100000 in
theorem newsreellaw19_EntityBack.calls (k : Nat) (a0 : ByteArray) (r : Bool) (w : World) (h : newsreellaw19_EntityBack.f k a0 = some r) :
    Calls Try.prog 4 #[.string a0] w fun e w' => e = .returned (.bool r) ∧ Below w.heap.size w w' := by
  have HB := Aside0.mk (Below.refl w.heap.size w)
  have H : (if (a0.size : Int) > 400 then ((newsreellaw19_awake.f k).bind fun t171 => (some t171)) else ((entity_Put.f a0).bind fun t172 => ((entity_Get.f k t172).bind fun bt173 => ((entity_Get.f k a0).bind fun bt175 => (if bt173.2 = 0 then (if bt173.1.toList = a0.toList then ((newsreelref02_In.f k t172 60).bind fun t177 => (if t177 = true then (newsreellaw19_EntityBack.j0 k a0 bt175.1 bt175.2 true) else ((newsreelref02_In.f k t172 34).bind fun t178 => (newsreellaw19_EntityBack.j0 k a0 bt175.1 bt175.2 t178)))) else (newsreellaw19_EntityBack.j0 k a0 bt175.1 bt175.2 true)) else (newsreellaw19_EntityBack.j0 k a0 bt175.1 bt175.2 true)))))) = some r := h
  clear h
  by_cases c2 : (a0.size : Int) > 400
  · rw [if_pos c2] at H
    have c2b0 : decide (400 < (a0.size : Int)) = true := decide_eq_true c2
    have c2b1 : decide (400 < a0.size) = true := decide_eq_true (by omega)
    clear c2
    replace H := Option.bind_eq_some_iff.mp H
    obtain ⟨t171, A30, H⟩ := H
    replace H : (some t171) = some r := H
    have A3 := Aside0.mk A30
    clear A30
    obtain rfl := Option.some.inj H
    go_enter Try.func4, Try.ntmps4
    go_wp2_with (first | ((with_reducible refine gate_callee (f := 6) rfl ?_); refine goesL_ (some 11) rfl rfl Try.func6 (by kernel_rfl) rfl #[] rfl (by (try simp only [List.map_toArray, List.map_cons, List.map_nil]); first | done | rfl | (simp only [List.length_drop, List.length_take]; rfl)) ?_; (with_reducible refine (newsreellaw19_awake.calls k  t171 _ A3.out).mono ?_); rintro e w4 ⟨rfl, hb⟩; refine ⟨_, rfl, ?_⟩; have n0_ := Aside0.mk (below_step (by repeat (first | (with_reducible first | exact HB.out | apply below_alloc | apply pw_below_drewN | apply below_drew1) | exact HB.out)) hb); clear HB; have HB := n0_; clear n0_; (try clear hb); (try clear hb2); (try clear hk); (try clear hi)))
    go_ret
    exact ⟨by first | rfl | (simp [errW_none, errW_some] <;> rfl) | (simp [*, errW_none, errW_some] <;> rfl), by repeat (first | (with_reducible first | exact HB.out | apply below_alloc | apply pw_below_drewN | apply below_drew1) | exact HB.out)⟩
  · rw [if_neg c2] at H
    have c2b0 : decide (400 < (a0.size : Int)) = false := decide_eq_false c2
    have c2b1 : decide (400 < a0.size) = false := decide_eq_false (by omega)
    clear c2
    replace H := Option.bind_eq_some_iff.mp H
    obtain ⟨t172, A50, H⟩ := H
    replace H : ((entity_Get.f k t172).bind fun bt173 => ((entity_Get.f k a0).bind fun bt175 => (if bt173.2 = 0 then (if bt173.1.toList = a0.toList then ((newsreelref02_In.f k t172 60).bind fun t177 => (if t177 = true then (newsreellaw19_EntityBack.j0 k a0 bt175.1 bt175.2 true) else ((newsreelref02_In.f k t172 34).bind fun t178 => (newsreellaw19_EntityBack.j0 k a0 bt175.1 bt175.2 t178)))) else (newsreellaw19_EntityBack.j0 k a0 bt175.1 bt175.2 true)) else (newsreellaw19_EntityBack.j0 k a0 bt175.1 bt175.2 true)))) = some r := H
    have A5 := Aside0.mk A50
    clear A50
    replace H := Option.bind_eq_some_iff.mp H
    obtain ⟨⟨t173, t174⟩, A60, H⟩ := H
    replace H : ((entity_Get.f k a0).bind fun bt175 => (if t174 = 0 then (if t173.toList = a0.toList then ((newsreelref02_In.f k t172 60).bind fun t177 => (if t177 = true then (newsreellaw19_EntityBack.j0 k a0 bt175.1 bt175.2 true) else ((newsreelref02_In.f k t172 34).bind fun t178 => (newsreellaw19_EntityBack.j0 k a0 bt175.1 bt175.2 t178)))) else (newsreellaw19_EntityBack.j0 k a0 bt175.1 bt175.2 true)) else (newsreellaw19_EntityBack.j0 k a0 bt175.1 bt175.2 true))) = some r := H
    have A6 := Aside0.mk A60
    clear A60
    replace H := Option.bind_eq_some_iff.mp H
    obtain ⟨⟨t175, t176⟩, A70, H⟩ := H
    replace H : (if t174 = 0 then (if t173.toList = a0.toList then ((newsreelref02_In.f k t172 60).bind fun t177 => (if t177 = true then (newsreellaw19_EntityBack.j0 k a0 t175 t176 true) else ((newsreelref02_In.f k t172 34).bind fun t178 => (newsreellaw19_EntityBack.j0 k a0 t175 t176 t178)))) else (newsreellaw19_EntityBack.j0 k a0 t175 t176 true)) else (newsreellaw19_EntityBack.j0 k a0 t175 t176 true)) = some r := H
    have A7 := Aside0.mk A70
    clear A70
    have HC8 := Aside0.mk H
    clear H
    go_enter Try.func4, Try.ntmps4
    go_upto_region 6 with (first | ((with_reducible refine gate_callee (f := 9) rfl ?_); refine goesL_ (some 13) rfl rfl Try.func9 (by kernel_rfl) rfl #[.string a0] rfl (by (try simp only [List.map_toArray, List.map_cons, List.map_nil]); first | done | rfl | (simp only [List.length_drop, List.length_take]; rfl)) ?_; (with_reducible refine (entity_Put.calls a0 t172 _ A5.out).mono ?_); rintro e w9 ⟨rfl, hb⟩; refine ⟨_, rfl, ?_⟩; have n0_ := Aside0.mk (below_step (by repeat (first | (with_reducible first | exact HB.out | apply below_alloc | apply pw_below_drewN | apply below_drew1) | exact HB.out)) hb); clear HB; have HB := n0_; clear n0_; (try clear hb); (try clear hb2); (try clear hk); (try clear hi)) | ((with_reducible refine gate_callee (f := 7) rfl ?_); refine goesL_ (some 16) rfl rfl Try.func7 (by kernel_rfl) rfl #[.string t172] rfl (by (try simp only [List.map_toArray, List.map_cons, List.map_nil]); first | done | rfl | (simp only [List.length_drop, List.length_take]; rfl)) ?_; (with_reducible refine (entity_Get.calls k t172 t173 t174 _ A6.out).mono ?_); rintro e w10 ⟨rfl, hb⟩; refine ⟨_, rfl, ?_⟩; have n0_ := Aside0.mk (below_step (by repeat (first | (with_reducible first | exact HB.out | apply below_alloc | apply pw_below_drewN | apply below_drew1) | exact HB.out)) hb); clear HB; have HB := n0_; clear n0_; (try clear hb); (try clear hb2); (try clear hk); (try clear hi)) | ((with_reducible refine gate_callee (f := 7) rfl ?_); refine goesL_ (some 21) rfl rfl Try.func7 (by kernel_rfl) rfl #[.string a0] rfl (by (try simp only [List.map_toArray, List.map_cons, List.map_nil]); first | done | rfl | (simp only [List.length_drop, List.length_take]; rfl)) ?_; (with_reducible refine (entity_Get.calls k a0 t175 t176 _ A7.out).mono ?_); rintro e w11 ⟨rfl, hb⟩; refine ⟨_, rfl, ?_⟩; have n0_ := Aside0.mk (below_step (by repeat (first | (with_reducible first | exact HB.out | apply below_alloc | apply pw_below_drewN | apply below_drew1) | exact HB.out)) hb); clear HB; have HB := n0_; clear n0_; (try clear hb); (try clear hb2); (try clear hk); (try clear hi)))
    (try simp only [Act.put, List.setIfInBounds_toArray, List.set_cons_zero, List.set_cons_succ])
    go_cut [38] (fun v38 wc => ∃ (kq : Nat) (x38_7 : Bool), v38 = .bool x38_7 ∧ Aside0 (newsreellaw19_EntityBack.j0 kq a0 t175 t176 x38_7 = some r) ∧ Aside0 (kq ≤ k) ∧ Aside0 (Below w.heap.size w wc))
    case first =>
      have H := HC8.out
      clear HC8
      by_cases c12 : t174 = 0
      · rw [if_pos c12] at H
        have c12b0 : (t174 == 0) = true := beq_iff_eq.mpr c12
        have c12b1 : (t174 != 0) = false := bne_eq_false_iff_eq.mpr c12
        clear c12
        (first | rw [c12b0] | (simp only [i64_w, i32_w]; rw [c12b0]) | skip)
        by_cases c13 : t173.toList = a0.toList
        · rw [if_pos c13] at H
          have c13b0 : (t173.toList == a0.toList) = true := beq_iff_eq.mpr c13
          have c13b1 : (t173.toList != a0.toList) = false := bne_eq_false_iff_eq.mpr c13
          clear c13
          replace H := Option.bind_eq_some_iff.mp H
          obtain ⟨t177, A140, H⟩ := H
          replace H : (if t177 = true then (newsreellaw19_EntityBack.j0 k a0 t175 t176 true) else ((newsreelref02_In.f k t172 34).bind fun t178 => (newsreellaw19_EntityBack.j0 k a0 t175 t176 t178))) = some r := H
          have A14 := Aside0.mk A140
          clear A140
          by_cases c15 : t177 = true
          · subst c15
            have H1 : (newsreellaw19_EntityBack.j0 k a0 t175 t176 true) = some r := by rw [if_pos rfl] at H; exact H
            clear H
            have H := H1
            clear H1
            have H' := Aside0.mk H
            clear H
            go_wp2_with (first | (go_at_call 11; (with_reducible refine (newsreelref02_In.calls k t172 60 true _ A14.out).mono ?_); rintro e w' ⟨rfl, ⟨nd, rfl⟩⟩))
            go_meet
            case rel => exact ⟨_, (true), (by first | rfl | (simp; done) | (simp [*]; done)), H', ⟨by first | omega | exact Nat.le_refl _⟩, ⟨by repeat (first | (with_reducible first | exact HB.out | apply below_alloc | apply pw_below_drewN | apply below_drew1) | exact HB.out)⟩⟩
          · replace c15 := Bool.eq_false_iff.mpr c15
            subst c15
            have H1 : ((newsreelref02_In.f k t172 34).bind fun t178 => (newsreellaw19_EntityBack.j0 k a0 t175 t176 t178)) = some r := by rw [if_neg (show ¬ (false = true) by decide)] at H; exact H
            clear H
            have H := H1
            clear H1
            replace H := Option.bind_eq_some_iff.mp H
            obtain ⟨t178, A160, H⟩ := H
            replace H : (newsreellaw19_EntityBack.j0 k a0 t175 t176 t178) = some r := H
            have A16 := Aside0.mk A160
            clear A160
            have H' := Aside0.mk H
            clear H
            go_wp2_with (first | (go_at_call 11; (with_reducible refine (newsreelref02_In.calls k t172 60 false _ A14.out).mono ?_); rintro e w' ⟨rfl, ⟨nd, rfl⟩⟩) | (go_at_call 11; (with_reducible refine (newsreelref02_In.calls k t172 34 t178 _ A16.out).mono ?_); rintro e w' ⟨rfl, ⟨nd, rfl⟩⟩))
            go_meet
            case rel => exact ⟨_, (t178), (by first | rfl | (simp; done) | (simp [*]; done)), H', ⟨by first | omega | exact Nat.le_refl _⟩, ⟨by repeat (first | (with_reducible first | exact HB.out | apply below_alloc | apply pw_below_drewN | apply below_drew1) | exact HB.out)⟩⟩
        · rw [if_neg c13] at H
          have c13b0 : (t173.toList == a0.toList) = false := beq_eq_false_iff_ne.mpr c13
          have c13b1 : (t173.toList != a0.toList) = true := bne_iff_ne.mpr c13
          have H' := Aside0.mk H
          clear H
          go_wp2
          go_meet
          case rel => exact ⟨_, (true), (by first | rfl | (simp; done) | (simp [*]; done)), H', ⟨by first | omega | exact Nat.le_refl _⟩, ⟨by repeat (first | (with_reducible first | exact HB.out | apply below_alloc | apply pw_below_drewN | apply below_drew1) | exact HB.out)⟩⟩
      · rw [if_neg c12] at H
        have c12b0 : (t174 == 0) = false := beq_eq_false_iff_ne.mpr c12
        have c12b1 : (t174 != 0) = true := bne_iff_ne.mpr c12
        (first | rw [c12b0] | (simp only [i64_w, i32_w]; rw [c12b0]) | skip)
        have H' := Aside0.mk H
        clear H
        go_wp2
        go_meet
        case rel => exact ⟨_, (true), (by first | rfl | (simp; done) | (simp [*]; done)), H', ⟨by first | omega | exact Nat.le_refl _⟩, ⟨by repeat (first | (with_reducible first | exact HB.out | apply below_alloc | apply pw_below_drewN | apply below_drew1) | exact HB.out)⟩⟩
    case rest =>
      clear HC8
      try clear c1
      try clear c2
      try clear c2b0
      try clear c2b1
      try clear p2
      try clear c4
      try clear c6
      try clear c7
      try clear c9
      try clear c12
      try clear c12b0
      try clear c12b1
      try clear c13
      try clear c13b0
      try clear c13b1
      try clear c15
      obtain ⟨kq, x38_7, rfl, HA, HJ7, HB⟩ := hcut
      cases kq with
      | zero => exact absurd HA.out (by simp [newsreellaw19_EntityBack.j0])
      | succ kj7 =>
        have H := HA.out
        clear HA
        simp only [newsreellaw19_EntityBack.j0] at H
        by_cases c17 : x38_7 = true
        · subst c17
          have H1 : (none) = some r := by rw [if_pos rfl] at H; exact H
          clear H
          have H := H1
          clear H1
          exact absurd H (by simp)
        · replace c17 := Bool.eq_false_iff.mpr c17
          subst c17
          have H1 : ((newsreelref02_In.f kj7 a0 38).bind fun t179 => (if t179 = true then ((newsreellaw19_awake.f kj7).bind fun t180 => (some t180)) else (if t176 = 0 then (if t175.toList = a0.toList then ((newsreellaw19_awake.f kj7).bind fun t181 => (some t181)) else (none)) else (none)))) = some r := by rw [if_neg (show ¬ (false = true) by decide)] at H; exact H
          clear H
          have H := H1
          clear H1
          replace H := Option.bind_eq_some_iff.mp H
          obtain ⟨t179, A180, H⟩ := H
          replace H : (if t179 = true then ((newsreellaw19_awake.f kj7).bind fun t180 => (some t180)) else (if t176 = 0 then (if t175.toList = a0.toList then ((newsreellaw19_awake.f kj7).bind fun t181 => (some t181)) else (none)) else (none))) = some r := H
          have A18 := Aside0.mk A180
          clear A180
          by_cases c19 : t179 = true
          · subst c19
            have H1 : ((newsreellaw19_awake.f kj7).bind fun t180 => (some t180)) = some r := by rw [if_pos rfl] at H; exact H
            clear H
            have H := H1
            clear H1
            replace H := Option.bind_eq_some_iff.mp H
            obtain ⟨t180, A200, H⟩ := H
            replace H : (some t180) = some r := H
            have A20 := Aside0.mk A200
            clear A200
            obtain rfl := Option.some.inj H
            go_wp2_with (first | ((with_reducible refine gate_callee (f := 11) rfl ?_); refine goesL_ (some 40) rfl rfl Try.func11 (by kernel_rfl) rfl #[.string a0, .int .u8 38] rfl (by (try simp only [List.map_toArray, List.map_cons, List.map_nil]); first | done | rfl | (simp only [List.length_drop, List.length_take]; rfl)) ?_; (with_reducible refine (newsreelref02_In.calls kj7 a0 38 true _ A18.out).mono ?_); rintro e w' ⟨rfl, ⟨nd, rfl⟩⟩; refine ⟨_, rfl, ?_⟩) | (go_at_call 6; (with_reducible refine (newsreellaw19_awake.calls kj7  t180 _ A20.out).mono ?_); rintro e w21 ⟨rfl, hb⟩; have n0_ := Aside0.mk (below_step (by repeat (first | (with_reducible first | exact HB.out | apply below_alloc | apply pw_below_drewN | apply below_drew1) | exact HB.out)) hb); clear HB; have HB := n0_; clear n0_; (try clear hb); (try clear hb2); (try clear hk); (try clear hi)))
            go_ret
            exact ⟨by first | rfl | (simp [errW_none, errW_some] <;> rfl) | (simp [*, errW_none, errW_some] <;> rfl), by repeat (first | (with_reducible first | exact HB.out | apply below_alloc | apply pw_below_drewN | apply below_drew1) | exact HB.out)⟩
          · replace c19 := Bool.eq_false_iff.mpr c19
            subst c19
            have H1 : (if t176 = 0 then (if t175.toList = a0.toList then ((newsreellaw19_awake.f kj7).bind fun t181 => (some t181)) else (none)) else (none)) = some r := by rw [if_neg (show ¬ (false = true) by decide)] at H; exact H
            clear H
            have H := H1
            clear H1
            by_cases c22 : t176 = 0
            · rw [if_pos c22] at H
              have c22b0 : (t176 == 0) = true := beq_iff_eq.mpr c22
              have c22b1 : (t176 != 0) = false := bne_eq_false_iff_eq.mpr c22
              clear c22
              by_cases c23 : t175.toList = a0.toList
              · rw [if_pos c23] at H
                have c23b0 : (t175.toList == a0.toList) = true := beq_iff_eq.mpr c23
                have c23b1 : (t175.toList != a0.toList) = false := bne_eq_false_iff_eq.mpr c23
                clear c23
                replace H := Option.bind_eq_some_iff.mp H
                obtain ⟨t181, A240, H⟩ := H
                replace H : (some t181) = some r := H
                have A24 := Aside0.mk A240
                clear A240
                obtain rfl := Option.some.inj H
                go_wp2_with (first | ((with_reducible refine gate_callee (f := 11) rfl ?_); refine goesL_ (some 40) rfl rfl Try.func11 (by kernel_rfl) rfl #[.string a0, .int .u8 38] rfl (by (try simp only [List.map_toArray, List.map_cons, List.map_nil]); first | done | rfl | (simp only [List.length_drop, List.length_take]; rfl)) ?_; (with_reducible refine (newsreelref02_In.calls kj7 a0 38 false _ A18.out).mono ?_); rintro e w' ⟨rfl, ⟨nd, rfl⟩⟩; refine ⟨_, rfl, ?_⟩) | (go_at_call 6; (with_reducible refine (newsreellaw19_awake.calls kj7  t181 _ A24.out).mono ?_); rintro e w25 ⟨rfl, hb⟩; have n0_ := Aside0.mk (below_step (by repeat (first | (with_reducible first | exact HB.out | apply below_alloc | apply pw_below_drewN | apply below_drew1) | exact HB.out)) hb); clear HB; have HB := n0_; clear n0_; (try clear hb); (try clear hb2); (try clear hk); (try clear hi)))
                go_ret
                exact ⟨by first | rfl | (simp [errW_none, errW_some] <;> rfl) | (simp [*, errW_none, errW_some] <;> rfl), by repeat (first | (with_reducible first | exact HB.out | apply below_alloc | apply pw_below_drewN | apply below_drew1) | exact HB.out)⟩
              · rw [if_neg c23] at H
                exact absurd H (by simp)
            · rw [if_neg c22] at H
              exact absurd H (by simp)

/-- THE ONE PURE STATEMENT of newsreellaw19_EntityBack. -/
def newsreellaw19_EntityBack.Pure : Prop := ∀ (x0 : ByteArray), (x0.size ≤ 140737488351232) → ∃ k, newsreellaw19_EntityBack.f k x0 = some true

end Go.Proofs.Ytmkajenlncfhbac.PEntityBack
