-- MADE BY xprint.py of this repository, out of the seat's translation, by the kit's print and this repository's hands
import Derived.Test.YtmkajenlncfhbacPEntityTellsx0
import Derived.Test.YtmkajenlncfhbacPEntityTellsx1
import Derived.Test.YtmkajenlncfhbacPEntityTellsx2
namespace Go.Proofs.Ytmkajenlncfhbac.PEntityTells
open Go.RowKit Go.Proofs.YtmkajenlncfhbacW.PrintWords Go.Proofs.YtmkajenlncfhbacW.PrintLast Go.Proofs.YtmkajenlncfhbacW.PrintMore
attribute [local go_sem] max2_int min2_int max_two min_two max_three min_three max_four min_four   -- for this text's walks alone
set_option linter.unusedVariables false
set_option linter.unusedSimpArgs false

/-! ### entity_Put: function 9 -/
def entity_Put.c (x : Int) : List Int := if x = 60 then [38, 108, 116, 59] else if x = 62 then [38, 103, 116, 59] else if x = 38 then [38, 97, 109, 112, 59] else if x = 34 then [38, 113, 117, 111, 116, 59] else if x = 39 then [38, 97, 112, 111, 115, 59] else [x]
def entity_Put.all (l : List Int) : List Int := (l.map entity_Put.c).flatten
def entity_Put.cs (l : List Int) : List Value := (entity_Put.all l).map fun x => Value.int .u8 x
def entity_Put.f (a0 : ByteArray) : Option (ByteArray) := if a0.size ≤ 1000000000 then some (strOfNums (entity_Put.all (bytesOf a0))) else none
theorem entity_Put.c_len (x : Int) : (entity_Put.c x).length ≤ 6 := by
  unfold entity_Put.c
  repeat' (first | split | simp)
theorem entity_Put.len (p : List Int) : (entity_Put.cs p).length ≤ 6 * p.length := by
  induction p with
  | nil => simp [entity_Put.cs, entity_Put.all]
  | cons c p ih =>
    have := entity_Put.c_len c
    simp only [entity_Put.cs, entity_Put.all, List.length_map, List.map_cons, List.flatten_cons, List.length_append, List.length_cons] at ih ⊢
    omega
theorem entity_Put.snoc (p : List Int) (c : Int) : entity_Put.cs (p ++ [c]) = entity_Put.cs p ++ (entity_Put.c c).map (fun x => Value.int .u8 x) := by
  simp [entity_Put.cs, entity_Put.all]
theorem entity_Put.range (l : List Int) (h : ∀ x ∈ l, 0 ≤ x ∧ x < 256) : ∀ x ∈ entity_Put.all l, 0 ≤ x ∧ x < 256 := by
  intro x hx
  unfold entity_Put.all at hx
  obtain ⟨y, hy, hxy⟩ := List.mem_flatten.mp hx
  obtain ⟨c, hc, rfl⟩ := List.mem_map.mp hy
  unfold entity_Put.c at hxy
  repeat' (first | (split at hxy) | (simp only [List.mem_cons, List.not_mem_nil, or_false] at hxy))
  all_goals first | (rw [hxy]; exact h c hc) | omega
def entity_Put.rel (w : World) (a0 : ByteArray) (v7 : Value) (wr : World) : Prop :=
  ∃ (p t : List Int), v7 = .int .i64 (p.length : Int) ∧ Aside0 (bytesOf a0 = p ++ t) ∧ Aside0 (Below w.heap.size w wr) ∧ Aside0 (Lib.IsBuilder 47 5 w.heap.size w.heap.size (entity_Put.cs p) wr)
theorem entity_Put.io (k : IntKind) (x : Int) : intOf (Value.int k x) = x := rfl
theorem entity_Put.meas (n p : Nat) (h : p < n) (hw : wrap64 ((p : Int) + 1) = (p : Int) + 1) : n - (intOf (.int .i64 (wrap64 ((p : Int) + 1)))).toNat < n - (intOf (.int .i64 (p : Int))).toNat := by
  rw [hw, entity_Put.io, entity_Put.io]
  omega
set_option maxHeartbeats 4000000 in
set_option maxRecDepth 100000 in
theorem entity_Put.calls (a0 : ByteArray) (r : ByteArray) (w : World) (h : entity_Put.f a0 = some r) :
    Calls Try.prog 9 #[.string a0] w fun e w' => e = .returned (.string r) ∧ Below w.heap.size w w' := by
  unfold entity_Put.f at h
  split at h
  case isFalse => cases h
  case isTrue hb =>
  have HR := Aside0.mk (Option.some.inj h)
  have HD := Aside0.mk hb
  clear h hb
  go_enter Try.func9, Try.ntmps9
  go_wp2
  go_loopw [7] (fun v7 wr => entity_Put.rel w a0 v7 wr) (fun v7 _ => a0.size - (intOf v7).toNat)
  case atStart => exact ⟨[], bytesOf a0, rfl, ⟨rfl⟩, ⟨below_alloc (Below.refl _ _) _⟩, ⟨Lib.fresh_isBuilder _ _ w⟩⟩
  case round =>
    obtain ⟨p, t, rfl, HE, HB, HI⟩ := hrel
    have hlen : a0.size = p.length + t.length := by rw [← bytesOf_length, HE.out, List.length_append]
    have hsz : w.heap.size ≤ wr.heap.size := HB.out.size
    have hbr : ∀ x ∈ bytesOf a0, 0 ≤ x ∧ x < 256 := fun x hx => by
      obtain ⟨b, _, rfl⟩ := List.mem_map.mp hx
      have := b.toNat_lt
      omega
    cases t with
    | nil =>
      have hpl : (p.length : Int) = (a0.size : Int) := by rw [hlen]; simp
      have hpb : bytesOf a0 = p := by rw [HE.out, List.append_nil]
      have hr : strOfNums (entity_Put.all p) = r := by rw [← hpb]; exact HR.out
      rw [hpb] at hbr
      have hI := HI.out
      unfold entity_Put.cs at hI
      rw [Bld.cells _ (entity_Put.range p hbr)] at hI
      have hcon := Bld.st w.heap.size w.heap.size _ wr hI hsz
      rw [show (⟨((entity_Put.all p).map fun x => x.toNat.toUInt8).toArray⟩ : ByteArray) = r from hr] at hcon
      clear hr hI hbr hpb hlen
      rw [hpl]
      go_wp2_with (go_at_call 27; refine hcon.mono ?_; rintro e w' ⟨rfl, hb⟩)
      go_ret
      exact ⟨rfl, HB.out.trans hb⟩
    | cons c t =>
      have HLEN := Aside0.mk hlen
      have HW : Aside0 (wrap64 ((p.length : Int) + 1) = (p.length : Int) + 1) := ⟨by have e_ := HLEN.out; have d_ := HD.out; simp at e_; unfold wrap64; omega⟩
      have hlt : p.length < a0.size := by rw [hlen]; simp
      have hn := entity_Put.len p
      have hD := HD.out
      have hl : ∀ s : ByteArray, s.size ≤ 6 → (entity_Put.cs p).length + s.size ≤ 140737488355328 := fun s hs => by omega
      have hl1 : (entity_Put.cs p).length + 1 ≤ 140737488355328 := by omega
      have hbt : bt a0 (p.length : Int) = c := by
        rw [← rd_bytesOf, HE.out]
        simp [rd]
      have hx0 := bt_at a0 (p.length : Int)
      rw [hbt] at hx0
      have hx : ((a0[p.length]'hlt).toNat : Int) = c := by simpa using hx0 (by simpa using hlt)
      clear hx0
      have p1 : (0 ≤ (p.length : Int)) = True := eq_true (by omega)
      have q1 : ((p.length : Int) < (a0.size : Int)) = True := eq_true (by omega)
      clear hlen hn hD hbt hbr
      have h6 : c = 60 ∨ c = 62 ∨ c = 38 ∨ c = 34 ∨ c = 39 ∨ (c ≠ 60 ∧ c ≠ 62 ∧ c ≠ 38 ∧ c ≠ 34 ∧ c ≠ 39) := by omega
      rcases h6 with rfl | rfl | rfl | rfl | rfl | ho
      · go_wp2_with (go_at_call 26; refine (Bld.ws w.heap.size w.heap.size _ _ wr HI.out (hl _ (by decide)) hsz).mono ?_; rintro e w1 ⟨rfl, hb1, hB1⟩; have HB1 := Aside0.mk hb1; clear hb1)
        go_roundw
        case measure => exact entity_Put.meas _ _ hlt HW.out
        case rel => exact ⟨p ++ [60], t, by simp [HW.out], ⟨by rw [HE.out]; simp⟩, ⟨HB.out.trans hB1⟩, ⟨Or.inr (by rw [entity_Put.snoc]; exact HB1.out)⟩⟩
      · go_wp2_with (go_at_call 26; refine (Bld.ws w.heap.size w.heap.size _ _ wr HI.out (hl _ (by decide)) hsz).mono ?_; rintro e w1 ⟨rfl, hb1, hB1⟩; have HB1 := Aside0.mk hb1; clear hb1)
        go_roundw
        case measure => exact entity_Put.meas _ _ hlt HW.out
        case rel => exact ⟨p ++ [62], t, by simp [HW.out], ⟨by rw [HE.out]; simp⟩, ⟨HB.out.trans hB1⟩, ⟨Or.inr (by rw [entity_Put.snoc]; exact HB1.out)⟩⟩
      · go_wp2_with (go_at_call 26; refine (Bld.ws w.heap.size w.heap.size _ _ wr HI.out (hl _ (by decide)) hsz).mono ?_; rintro e w1 ⟨rfl, hb1, hB1⟩; have HB1 := Aside0.mk hb1; clear hb1)
        go_roundw
        case measure => exact entity_Put.meas _ _ hlt HW.out
        case rel => exact ⟨p ++ [38], t, by simp [HW.out], ⟨by rw [HE.out]; simp⟩, ⟨HB.out.trans hB1⟩, ⟨Or.inr (by rw [entity_Put.snoc]; exact HB1.out)⟩⟩
      · go_wp2_with (go_at_call 26; refine (Bld.ws w.heap.size w.heap.size _ _ wr HI.out (hl _ (by decide)) hsz).mono ?_; rintro e w1 ⟨rfl, hb1, hB1⟩; have HB1 := Aside0.mk hb1; clear hb1)
        go_roundw
        case measure => exact entity_Put.meas _ _ hlt HW.out
        case rel => exact ⟨p ++ [34], t, by simp [HW.out], ⟨by rw [HE.out]; simp⟩, ⟨HB.out.trans hB1⟩, ⟨Or.inr (by rw [entity_Put.snoc]; exact HB1.out)⟩⟩
      · go_wp2_with (go_at_call 26; refine (Bld.ws w.heap.size w.heap.size _ _ wr HI.out (hl _ (by decide)) hsz).mono ?_; rintro e w1 ⟨rfl, hb1, hB1⟩; have HB1 := Aside0.mk hb1; clear hb1)
        go_roundw
        case measure => exact entity_Put.meas _ _ hlt HW.out
        case rel => exact ⟨p ++ [39], t, by simp [HW.out], ⟨by rw [HE.out]; simp⟩, ⟨HB.out.trans hB1⟩, ⟨Or.inr (by rw [entity_Put.snoc]; exact HB1.out)⟩⟩
      · obtain ⟨o1, o2, o3, o4, o5⟩ := ho
        have e1 : (c == 60) = false := beq_eq_false_iff_ne.mpr o1
        have e2 : (c == 62) = false := beq_eq_false_iff_ne.mpr o2
        have e3 : (c == 38) = false := beq_eq_false_iff_ne.mpr o3
        have e4 : (c == 34) = false := beq_eq_false_iff_ne.mpr o4
        have e5 : (c == 39) = false := beq_eq_false_iff_ne.mpr o5
        go_wp2_with (go_at_call 30; refine (Bld.wb w.heap.size w.heap.size _ _ wr HI.out hl1 hsz).mono ?_; rintro e w1 ⟨rfl, hb1, hB1⟩; have HB1 := Aside0.mk hb1; clear hb1)
        go_roundw
        case measure => exact entity_Put.meas _ _ hlt HW.out
        case rel =>
          refine ⟨p ++ [c], t, by simp [HW.out], ⟨by rw [HE.out]; simp⟩, ⟨HB.out.trans hB1⟩, ⟨Or.inr ?_⟩⟩
          rw [entity_Put.snoc, show entity_Put.c c = [c] by unfold entity_Put.c; rw [if_neg o1, if_neg o2, if_neg o3, if_neg o4, if_neg o5]]
          exact HB1.out

/-! ### newsreellaw19_awake: function 6 -/
def newsreellaw19_awake.f (k : Nat)  : Option (Bool) := (entity_Get.f k (⟨#[38, 35, 120, 52, 49, 59, 38, 108, 116, 59, 38, 35, 50, 51, 51, 59]⟩ : ByteArray)).bind fun bt162 => ((entity_Get.f k (⟨#[97, 38, 98]⟩ : ByteArray)).bind fun bt164 => ((entity_Get.f k (⟨#[38, 35, 48, 59]⟩ : ByteArray)).bind fun bt166 => ((entity_Get.f k (⟨#[38, 35, 120, 100, 56, 48, 48, 59]⟩ : ByteArray)).bind fun bt168 => (if bt162.1.toList = ([65, 60, 195, 169] : List UInt8) then (if bt162.2 = 0 then (if bt164.2 = 12 then (if bt166.2 = 3 then (if bt168.2 = 3 then ((entity_Put.f (⟨#[60, 39, 97, 39, 38]⟩ : ByteArray)).bind fun t170 => (some (t170.toList == ([38, 108, 116, 59, 38, 97, 112, 111, 115, 59, 97, 38, 97, 112, 111, 115, 59, 38, 97, 109, 112, 59] : List UInt8)))) else (none)) else (none)) else (none)) else (none)) else (none)))))
theorem newsreellaw19_awake.mono : ∀ k, LeO (newsreellaw19_awake.f k ) (newsreellaw19_awake.f (k + 1) ) := by
  intro  k
  unfold newsreellaw19_awake.f
  repeat' first
      | (with_reducible exact entity_Get.mono _ _)
      | (with_reducible exact LeO.refl _)
      | (with_reducible exact LeO.none _)
      | (with_reducible refine LeO.ite ?_ ?_)
      | (with_reducible refine LeO.bind ?_ (fun _ => ?_))
      | exact entity_Get.mono _ _
      | exact LeO.none _
      | refine LeO.ite ?_ ?_
      | refine LeO.bind ?_ (fun _ => ?_)
set_option maxHeartbeats 8000000 in
set_option maxRecDepth 100000 in
theorem newsreellaw19_awake.calls (k : Nat)  (r : Bool) (w : World) (h : newsreellaw19_awake.f k  = some r) :
    Calls Try.prog 6 #[] w fun e w' => e = .returned (.bool r) ∧ Below w.heap.size w w' := by
  have HB := Aside0.mk (Below.refl w.heap.size w)
  have H : ((entity_Get.f k (⟨#[38, 35, 120, 52, 49, 59, 38, 108, 116, 59, 38, 35, 50, 51, 51, 59]⟩ : ByteArray)).bind fun bt162 => ((entity_Get.f k (⟨#[97, 38, 98]⟩ : ByteArray)).bind fun bt164 => ((entity_Get.f k (⟨#[38, 35, 48, 59]⟩ : ByteArray)).bind fun bt166 => ((entity_Get.f k (⟨#[38, 35, 120, 100, 56, 48, 48, 59]⟩ : ByteArray)).bind fun bt168 => (if bt162.1.toList = ([65, 60, 195, 169] : List UInt8) then (if bt162.2 = 0 then (if bt164.2 = 12 then (if bt166.2 = 3 then (if bt168.2 = 3 then ((entity_Put.f (⟨#[60, 39, 97, 39, 38]⟩ : ByteArray)).bind fun t170 => (some (t170.toList == ([38, 108, 116, 59, 38, 97, 112, 111, 115, 59, 97, 38, 97, 112, 111, 115, 59, 38, 97, 109, 112, 59] : List UInt8)))) else (none)) else (none)) else (none)) else (none)) else (none)))))) = some r := h
  clear h
  replace H := Option.bind_eq_some_iff.mp H
  obtain ⟨⟨t162, t163⟩, A10, H⟩ := H
  replace H : ((entity_Get.f k (⟨#[97, 38, 98]⟩ : ByteArray)).bind fun bt164 => ((entity_Get.f k (⟨#[38, 35, 48, 59]⟩ : ByteArray)).bind fun bt166 => ((entity_Get.f k (⟨#[38, 35, 120, 100, 56, 48, 48, 59]⟩ : ByteArray)).bind fun bt168 => (if t162.toList = ([65, 60, 195, 169] : List UInt8) then (if t163 = 0 then (if bt164.2 = 12 then (if bt166.2 = 3 then (if bt168.2 = 3 then ((entity_Put.f (⟨#[60, 39, 97, 39, 38]⟩ : ByteArray)).bind fun t170 => (some (t170.toList == ([38, 108, 116, 59, 38, 97, 112, 111, 115, 59, 97, 38, 97, 112, 111, 115, 59, 38, 97, 109, 112, 59] : List UInt8)))) else (none)) else (none)) else (none)) else (none)) else (none))))) = some r := H
  have A1 := Aside0.mk A10
  clear A10
  replace H := Option.bind_eq_some_iff.mp H
  obtain ⟨⟨t164, t165⟩, A20, H⟩ := H
  replace H : ((entity_Get.f k (⟨#[38, 35, 48, 59]⟩ : ByteArray)).bind fun bt166 => ((entity_Get.f k (⟨#[38, 35, 120, 100, 56, 48, 48, 59]⟩ : ByteArray)).bind fun bt168 => (if t162.toList = ([65, 60, 195, 169] : List UInt8) then (if t163 = 0 then (if t165 = 12 then (if bt166.2 = 3 then (if bt168.2 = 3 then ((entity_Put.f (⟨#[60, 39, 97, 39, 38]⟩ : ByteArray)).bind fun t170 => (some (t170.toList == ([38, 108, 116, 59, 38, 97, 112, 111, 115, 59, 97, 38, 97, 112, 111, 115, 59, 38, 97, 109, 112, 59] : List UInt8)))) else (none)) else (none)) else (none)) else (none)) else (none)))) = some r := H
  have A2 := Aside0.mk A20
  clear A20
  replace H := Option.bind_eq_some_iff.mp H
  obtain ⟨⟨t166, t167⟩, A30, H⟩ := H
  replace H : ((entity_Get.f k (⟨#[38, 35, 120, 100, 56, 48, 48, 59]⟩ : ByteArray)).bind fun bt168 => (if t162.toList = ([65, 60, 195, 169] : List UInt8) then (if t163 = 0 then (if t165 = 12 then (if t167 = 3 then (if bt168.2 = 3 then ((entity_Put.f (⟨#[60, 39, 97, 39, 38]⟩ : ByteArray)).bind fun t170 => (some (t170.toList == ([38, 108, 116, 59, 38, 97, 112, 111, 115, 59, 97, 38, 97, 112, 111, 115, 59, 38, 97, 109, 112, 59] : List UInt8)))) else (none)) else (none)) else (none)) else (none)) else (none))) = some r := H
  have A3 := Aside0.mk A30
  clear A30
  replace H := Option.bind_eq_some_iff.mp H
  obtain ⟨⟨t168, t169⟩, A40, H⟩ := H
  replace H : (if t162.toList = ([65, 60, 195, 169] : List UInt8) then (if t163 = 0 then (if t165 = 12 then (if t167 = 3 then (if t169 = 3 then ((entity_Put.f (⟨#[60, 39, 97, 39, 38]⟩ : ByteArray)).bind fun t170 => (some (t170.toList == ([38, 108, 116, 59, 38, 97, 112, 111, 115, 59, 97, 38, 97, 112, 111, 115, 59, 38, 97, 109, 112, 59] : List UInt8)))) else (none)) else (none)) else (none)) else (none)) else (none)) = some r := H
  have A4 := Aside0.mk A40
  clear A40
  by_cases c5 : t162.toList = ([65, 60, 195, 169] : List UInt8)
  · rw [if_pos c5] at H
    have c5b0 : (t162.toList == ([65, 60, 195, 169] : List UInt8)) = true := beq_iff_eq.mpr c5
    have c5b1 : (t162.toList != ([65, 60, 195, 169] : List UInt8)) = false := bne_eq_false_iff_eq.mpr c5
    clear c5
    by_cases c6 : t163 = 0
    · rw [if_pos c6] at H
      have c6b0 : (t163 == 0) = true := beq_iff_eq.mpr c6
      have c6b1 : (t163 != 0) = false := bne_eq_false_iff_eq.mpr c6
      clear c6
      by_cases c7 : t165 = 12
      · rw [if_pos c7] at H
        have c7b0 : (t165 == 12) = true := beq_iff_eq.mpr c7
        have c7b1 : (t165 != 12) = false := bne_eq_false_iff_eq.mpr c7
        clear c7
        by_cases c8 : t167 = 3
        · rw [if_pos c8] at H
          have c8b0 : (t167 == 3) = true := beq_iff_eq.mpr c8
          have c8b1 : (t167 != 3) = false := bne_eq_false_iff_eq.mpr c8
          clear c8
          by_cases c9 : t169 = 3
          · rw [if_pos c9] at H
            have c9b0 : (t169 == 3) = true := beq_iff_eq.mpr c9
            have c9b1 : (t169 != 3) = false := bne_eq_false_iff_eq.mpr c9
            clear c9
            replace H := Option.bind_eq_some_iff.mp H
            obtain ⟨t170, A100, H⟩ := H
            replace H : (some (t170.toList == ([38, 108, 116, 59, 38, 97, 112, 111, 115, 59, 97, 38, 97, 112, 111, 115, 59, 38, 97, 109, 112, 59] : List UInt8))) = some r := H
            have A10 := Aside0.mk A100
            clear A100
            obtain rfl := Option.some.inj H
            go_enter Try.func6, Try.ntmps6
            go_wp2_with (first | ((with_reducible refine gate_callee (f := 7) rfl ?_); refine goesL_ (some 10) rfl rfl Try.func7 (by kernel_rfl) rfl #[.string (⟨#[38, 35, 120, 52, 49, 59, 38, 108, 116, 59, 38, 35, 50, 51, 51, 59]⟩ : ByteArray)] rfl (by (try simp only [List.map_toArray, List.map_cons, List.map_nil]); first | done | rfl | (simp only [List.length_drop, List.length_take]; rfl)) ?_; (with_reducible refine (entity_Get.calls k (⟨#[38, 35, 120, 52, 49, 59, 38, 108, 116, 59, 38, 35, 50, 51, 51, 59]⟩ : ByteArray) t162 t163 _ A1.out).mono ?_); rintro e w11 ⟨rfl, hb⟩; refine ⟨_, rfl, ?_⟩; have n0_ := Aside0.mk (below_step (by repeat (first | (with_reducible first | exact HB.out | apply below_alloc | apply pw_below_drewN | apply below_drew1) | exact HB.out)) hb); clear HB; have HB := n0_; clear n0_; (try clear hb); (try clear hb2); (try clear hk); (try clear hi)) | ((with_reducible refine gate_callee (f := 7) rfl ?_); refine goesL_ (some 14) rfl rfl Try.func7 (by kernel_rfl) rfl #[.string (⟨#[97, 38, 98]⟩ : ByteArray)] rfl (by (try simp only [List.map_toArray, List.map_cons, List.map_nil]); first | done | rfl | (simp only [List.length_drop, List.length_take]; rfl)) ?_; (with_reducible refine (entity_Get.calls k (⟨#[97, 38, 98]⟩ : ByteArray) t164 t165 _ A2.out).mono ?_); rintro e w12 ⟨rfl, hb⟩; refine ⟨_, rfl, ?_⟩; have n0_ := Aside0.mk (below_step (by repeat (first | (with_reducible first | exact HB.out | apply below_alloc | apply pw_below_drewN | apply below_drew1) | exact HB.out)) hb); clear HB; have HB := n0_; clear n0_; (try clear hb); (try clear hb2); (try clear hk); (try clear hi)) | ((with_reducible refine gate_callee (f := 7) rfl ?_); refine goesL_ (some 18) rfl rfl Try.func7 (by kernel_rfl) rfl #[.string (⟨#[38, 35, 48, 59]⟩ : ByteArray)] rfl (by (try simp only [List.map_toArray, List.map_cons, List.map_nil]); first | done | rfl | (simp only [List.length_drop, List.length_take]; rfl)) ?_; (with_reducible refine (entity_Get.calls k (⟨#[38, 35, 48, 59]⟩ : ByteArray) t166 t167 _ A3.out).mono ?_); rintro e w13 ⟨rfl, hb⟩; refine ⟨_, rfl, ?_⟩; have n0_ := Aside0.mk (below_step (by repeat (first | (with_reducible first | exact HB.out | apply below_alloc | apply pw_below_drewN | apply below_drew1) | exact HB.out)) hb); clear HB; have HB := n0_; clear n0_; (try clear hb); (try clear hb2); (try clear hk); (try clear hi)) | ((with_reducible refine gate_callee (f := 7) rfl ?_); refine goesL_ (some 22) rfl rfl Try.func7 (by kernel_rfl) rfl #[.string (⟨#[38, 35, 120, 100, 56, 48, 48, 59]⟩ : ByteArray)] rfl (by (try simp only [List.map_toArray, List.map_cons, List.map_nil]); first | done | rfl | (simp only [List.length_drop, List.length_take]; rfl)) ?_; (with_reducible refine (entity_Get.calls k (⟨#[38, 35, 120, 100, 56, 48, 48, 59]⟩ : ByteArray) t168 t169 _ A4.out).mono ?_); rintro e w14 ⟨rfl, hb⟩; refine ⟨_, rfl, ?_⟩; have n0_ := Aside0.mk (below_step (by repeat (first | (with_reducible first | exact HB.out | apply below_alloc | apply pw_below_drewN | apply below_drew1) | exact HB.out)) hb); clear HB; have HB := n0_; clear n0_; (try clear hb); (try clear hb2); (try clear hk); (try clear hi)) | (go_at_call 9; (with_reducible refine (entity_Put.calls (⟨#[60, 39, 97, 39, 38]⟩ : ByteArray) t170 _ A10.out).mono ?_); rintro e w15 ⟨rfl, hb⟩; have n0_ := Aside0.mk (below_step (by repeat (first | (with_reducible first | exact HB.out | apply below_alloc | apply pw_below_drewN | apply below_drew1) | exact HB.out)) hb); clear HB; have HB := n0_; clear n0_; (try clear hb); (try clear hb2); (try clear hk); (try clear hi)))
            go_ret
            exact ⟨by first | rfl | (simp [errW_none, errW_some] <;> rfl) | (simp [*, errW_none, errW_some] <;> rfl), by repeat (first | (with_reducible first | exact HB.out | apply below_alloc | apply pw_below_drewN | apply below_drew1) | exact HB.out)⟩
          · rw [if_neg c9] at H
            exact absurd H (by simp)
        · rw [if_neg c8] at H
          exact absurd H (by simp)
      · rw [if_neg c7] at H
        exact absurd H (by simp)
    · rw [if_neg c6] at H
      exact absurd H (by simp)
  · rw [if_neg c5] at H
    exact absurd H (by simp)

/-! ### newsreelref03_digit: function 84 -/
def newsreelref03_digit.f (a0 : Int) : Option (Int) := if a0 < 10 then (some ((wrap64 (48 + a0)) % 256)) else (some ((wrap64 (87 + a0)) % 256))
set_option maxHeartbeats 8000000 in
set_option maxRecDepth 100000 in
theorem newsreelref03_digit.calls (a0 : Int) (r : Int) (w : World) (h : newsreelref03_digit.f a0 = some r) :
    Calls Try.prog 84 #[.int .i64 a0] w fun e w' => e = .returned (.int .u8 r) ∧ Drawn0 w w' := by
  have H : (if a0 < 10 then (some ((wrap64 (48 + a0)) % 256)) else (some ((wrap64 (87 + a0)) % 256))) = some r := h
  clear h
  by_cases c2 : a0 < 10
  · rw [if_pos c2] at H
    have c2b0 : decide (a0 < 10) = true := decide_eq_true c2
    clear c2
    obtain rfl := Option.some.inj H
    go_enter Try.func84, Try.ntmps84
    go_wp2
    go_ret
    exact ⟨by first | rfl | (simp; done) | (simp [*]; done), by repeat (first | exact Drawn0.refl _ | apply Drawn0.step)⟩
  · rw [if_neg c2] at H
    have c2b0 : decide (a0 < 10) = false := decide_eq_false c2
    clear c2
    obtain rfl := Option.some.inj H
    go_enter Try.func84, Try.ntmps84
    go_wp2
    go_ret
    exact ⟨by first | rfl | (simp; done) | (simp [*]; done), by repeat (first | exact Drawn0.refl _ | apply Drawn0.step)⟩

/-! ### newsreelref03_Value: function 69 -/
def newsreelref03_Value.l0 : Nat → Int → Int → Option (Int)
  | 0, _, _ => none
  | k + 1, x0, x3 => if x3 < 16 then ((newsreelref03_digit.f x3).bind fun t171 => (if t171 = x0 then (some x3) else (if x3 > 9 then ((newsreelref03_digit.f x3).bind fun t172 => (if ((t172 - 32) % 256) = x0 then (some x3) else (newsreelref03_Value.l0 k x0 (wrap64 (x3 + 1))))) else (newsreelref03_Value.l0 k x0 (wrap64 (x3 + 1)))))) else (some (-1))
def newsreelref03_Value.f (k : Nat) (a0 : Int) : Option (Int) := newsreelref03_Value.l0 k a0 0
theorem newsreelref03_Value.mono_l : ∀ k, (∀ y0 y1, LeO (newsreelref03_Value.l0 k y0 y1) (newsreelref03_Value.l0 (k + 1) y0 y1))
  | 0 => fun _ _ r h => by simp [newsreelref03_Value.l0] at h
  | k + 1 => by
    have ih0 := newsreelref03_Value.mono_l k
    · intro y0 y1
      unfold newsreelref03_Value.l0
      repeat' first
      | (with_reducible exact ih0 _ _)
      | (with_reducible exact LeO.refl _)
      | (with_reducible exact LeO.none _)
      | (with_reducible refine LeO.ite ?_ ?_)
      | (with_reducible refine LeO.bind ?_ (fun _ => ?_))
      | exact ih0 _ _
      | exact LeO.none _
      | refine LeO.ite ?_ ?_
      | refine LeO.bind ?_ (fun _ => ?_)
theorem newsreelref03_Value.mono : ∀ a0 k, LeO (newsreelref03_Value.f k a0) (newsreelref03_Value.f (k + 1) a0) := by
  intro a0 k
  have ih0 := newsreelref03_Value.mono_l k
  unfold newsreelref03_Value.f
  repeat' first
      | (with_reducible exact ih0 _ _)
      | (with_reducible exact LeO.refl _)
      | (with_reducible exact LeO.none _)
      | (with_reducible refine LeO.ite ?_ ?_)
      | (with_reducible refine LeO.bind ?_ (fun _ => ?_))
      | exact ih0 _ _
      | exact LeO.none _
      | refine LeO.ite ?_ ?_
      | refine LeO.bind ?_ (fun _ => ?_)
set_option maxHeartbeats 8000000 in
set_option maxRecDepth 100000 in
theorem newsreelref03_Value.calls (k : Nat) (a0 : Int) (r : Int) (w : World) (h : newsreelref03_Value.f k a0 = some r) :
    Calls Try.prog 69 #[.int .u8 a0] w fun e w' => e = .returned (.int .i64 r) ∧ Drawn0 w w' := by
  have H : (newsreelref03_Value.l0 k a0 0) = some r := h
  clear h
  have H' := Aside0.mk H
  clear H
  go_enter Try.func69, Try.ntmps69
  go_wp2
  go_loopg [3] k (fun kq v3 w' => ∃ (x3_1 : Int), v3 = .int .i64 x3_1 ∧ Aside0 (newsreelref03_Value.l0 kq a0 x3_1 = some r) ∧ Aside0 (kq ≤ k) ∧ Drawn0 w w')
  case atStart => exact ⟨(0), (by first | rfl | (simp; done) | (simp [*]; done)), H', ⟨Nat.le_refl _⟩, by repeat (first | exact Drawn0.refl _ | apply Drawn0.step)⟩
  case round =>
    clear H'
    obtain ⟨x3_1, rfl, HA, HK1, ⟨m1, rfl⟩⟩ := hrel
    cases gk with
    | zero => exact absurd HA.out (by simp [newsreelref03_Value.l0])
    | succ k1 =>
      have H := HA.out
      clear HA
      simp only [newsreelref03_Value.l0] at H
      by_cases c2 : x3_1 < 16
      · rw [if_pos c2] at H
        have c2b0 : decide (x3_1 < 16) = true := decide_eq_true c2
        clear c2
        replace H := Option.bind_eq_some_iff.mp H
        obtain ⟨t171, A30, H⟩ := H
        replace H : (if t171 = a0 then (some x3_1) else (if x3_1 > 9 then ((newsreelref03_digit.f x3_1).bind fun t172 => (if ((t172 - 32) % 256) = a0 then (some x3_1) else (newsreelref03_Value.l0 k1 a0 (wrap64 (x3_1 + 1))))) else (newsreelref03_Value.l0 k1 a0 (wrap64 (x3_1 + 1))))) = some r := H
        have A3 := Aside0.mk A30
        clear A30
        by_cases c4 : t171 = a0
        · rw [if_pos c4] at H
          have c4b0 : (t171 == a0) = true := beq_iff_eq.mpr c4
          have c4b1 : (t171 != a0) = false := bne_eq_false_iff_eq.mpr c4
          clear c4
          obtain rfl := Option.some.inj H
          go_wp2_with (first | ((with_reducible refine gate_callee (f := 84) rfl ?_); refine goesL_ (some 9) rfl rfl Try.func84 (by kernel_rfl) rfl #[.int .i64 x3_1] rfl (by (try simp only [List.map_toArray, List.map_cons, List.map_nil]); first | done | rfl | (simp only [List.length_drop, List.length_take]; rfl)) ?_; (with_reducible refine (newsreelref03_digit.calls x3_1 t171 _ A3.out).mono ?_); rintro e w' ⟨rfl, ⟨nd, rfl⟩⟩; refine ⟨_, rfl, ?_⟩))
          go_ret
          exact ⟨by first | rfl | (simp; done) | (simp [*]; done), by repeat (first | exact Drawn0.refl _ | apply Drawn0.step)⟩
        · rw [if_neg c4] at H
          have c4b0 : (t171 == a0) = false := beq_eq_false_iff_ne.mpr c4
          have c4b1 : (t171 != a0) = true := bne_iff_ne.mpr c4
          by_cases c5 : x3_1 > 9
          · rw [if_pos c5] at H
            have c5b0 : decide (9 < x3_1) = true := decide_eq_true c5
            clear c5
            replace H := Option.bind_eq_some_iff.mp H
            obtain ⟨t172, A60, H⟩ := H
            replace H : (if ((t172 - 32) % 256) = a0 then (some x3_1) else (newsreelref03_Value.l0 k1 a0 (wrap64 (x3_1 + 1)))) = some r := H
            have A6 := Aside0.mk A60
            clear A60
            by_cases c7 : ((t172 - 32) % 256) = a0
            · rw [if_pos c7] at H
              have c7b0 : (((t172 - 32) % 256) == a0) = true := beq_iff_eq.mpr c7
              have c7b1 : (((t172 - 32) % 256) != a0) = false := bne_eq_false_iff_eq.mpr c7
              clear c7
              obtain rfl := Option.some.inj H
              go_wp2_with (first | ((with_reducible refine gate_callee (f := 84) rfl ?_); refine goesL_ (some 9) rfl rfl Try.func84 (by kernel_rfl) rfl #[.int .i64 x3_1] rfl (by (try simp only [List.map_toArray, List.map_cons, List.map_nil]); first | done | rfl | (simp only [List.length_drop, List.length_take]; rfl)) ?_; (with_reducible refine (newsreelref03_digit.calls x3_1 t171 _ A3.out).mono ?_); rintro e w' ⟨rfl, ⟨nd, rfl⟩⟩; refine ⟨_, rfl, ?_⟩) | (go_at_call 84; (with_reducible refine (newsreelref03_digit.calls x3_1 t172 _ A6.out).mono ?_); rintro e w' ⟨rfl, ⟨nd, rfl⟩⟩))
              go_ret
              exact ⟨by first | rfl | (simp; done) | (simp [*]; done), by repeat (first | exact Drawn0.refl _ | apply Drawn0.step)⟩
            · rw [if_neg c7] at H
              have c7b0 : (((t172 - 32) % 256) == a0) = false := beq_eq_false_iff_ne.mpr c7
              have c7b1 : (((t172 - 32) % 256) != a0) = true := bne_iff_ne.mpr c7
              have H' := Aside0.mk H
              clear H
              go_wp2_with (first | ((with_reducible refine gate_callee (f := 84) rfl ?_); refine goesL_ (some 9) rfl rfl Try.func84 (by kernel_rfl) rfl #[.int .i64 x3_1] rfl (by (try simp only [List.map_toArray, List.map_cons, List.map_nil]); first | done | rfl | (simp only [List.length_drop, List.length_take]; rfl)) ?_; (with_reducible refine (newsreelref03_digit.calls x3_1 t171 _ A3.out).mono ?_); rintro e w' ⟨rfl, ⟨nd, rfl⟩⟩; refine ⟨_, rfl, ?_⟩) | (go_at_call 84; (with_reducible refine (newsreelref03_digit.calls x3_1 t172 _ A6.out).mono ?_); rintro e w' ⟨rfl, ⟨nd, rfl⟩⟩))
              go_roundg k1
              case measure => have := HK1.out; omega
              case rel => exact ⟨(wrap64 (x3_1 + 1)), (by first | rfl | (simp; done) | (simp [*]; done)), H', ⟨by have := HK1.out; omega⟩, by repeat (first | exact Drawn0.refl _ | apply Drawn0.step)⟩
          · rw [if_neg c5] at H
            have c5b0 : decide (9 < x3_1) = false := decide_eq_false c5
            clear c5
            have H' := Aside0.mk H
            clear H
            go_wp2_with (first | ((with_reducible refine gate_callee (f := 84) rfl ?_); refine goesL_ (some 9) rfl rfl Try.func84 (by kernel_rfl) rfl #[.int .i64 x3_1] rfl (by (try simp only [List.map_toArray, List.map_cons, List.map_nil]); first | done | rfl | (simp only [List.length_drop, List.length_take]; rfl)) ?_; (with_reducible refine (newsreelref03_digit.calls x3_1 t171 _ A3.out).mono ?_); rintro e w' ⟨rfl, ⟨nd, rfl⟩⟩; refine ⟨_, rfl, ?_⟩))
            go_roundg k1
            case measure => have := HK1.out; omega
            case rel => exact ⟨(wrap64 (x3_1 + 1)), (by first | rfl | (simp; done) | (simp [*]; done)), H', ⟨by have := HK1.out; omega⟩, by repeat (first | exact Drawn0.refl _ | apply Drawn0.step)⟩
      · rw [if_neg c2] at H
        have c2b0 : decide (x3_1 < 16) = false := decide_eq_false c2
        clear c2
        obtain rfl := Option.some.inj H
        go_wp2
        go_ret
        exact ⟨by first | rfl | (simp; done) | (simp [*]; done), by repeat (first | exact Drawn0.refl _ | apply Drawn0.step)⟩

/-! ### newsreelref19_number: function 47 -/
mutual
def newsreelref19_number.j0 : Nat → ByteArray → Int → Bool → Option (Int)
  | 0, _, _, _ => none
  | k + 1, x0, x1, x18 => if x18 = true then (some (-1)) else (newsreelref19_number.l0 k x0 x1 0 0)
def newsreelref19_number.l0 : Nat → ByteArray → Int → Int → Int → Option (Int)
  | 0, _, _, _, _ => none
  | k + 1, x0, x1, x7, x8 => if x8 < (x0.size : Int) then (if 0 ≤ x8 then ((newsreelref03_Value.f k (bt x0 x8)).bind fun t173 => (if t173 < 0 then (some (-1)) else (if t173 ≥ x1 then (some (-1)) else (newsreelref19_number.l0 k x0 x1 (wrap64 ((wrap64 (x1 * x7)) + t173)) (wrap64 (x8 + 1)))))) else (none)) else (some x7)
end
def newsreelref19_number.f (k : Nat) (a0 : ByteArray) (a1 : Int) (a2 : Int) : Option (Int) := if (a0.size : Int) < 1 then (newsreelref19_number.j0 k a0 a1 true) else (newsreelref19_number.j0 k a0 a1 (decide ((a0.size : Int) > a2)))
theorem newsreelref19_number.mono_l : ∀ k, (∀ y0 y1 y2, LeO (newsreelref19_number.j0 k y0 y1 y2) (newsreelref19_number.j0 (k + 1) y0 y1 y2)) ∧ (∀ y0 y1 y2 y3, LeO (newsreelref19_number.l0 k y0 y1 y2 y3) (newsreelref19_number.l0 (k + 1) y0 y1 y2 y3))
  | 0 => ⟨fun _ _ _ r h => by simp [newsreelref19_number.j0] at h, fun _ _ _ _ r h => by simp [newsreelref19_number.l0] at h⟩
  | k + 1 => by
    obtain ⟨ih0, ih1⟩ := newsreelref19_number.mono_l k
    refine ⟨?_, ?_⟩
    · intro y0 y1 y2
      unfold newsreelref19_number.j0
      repeat' first
      | (with_reducible exact ih0 _ _ _)
      | (with_reducible exact ih1 _ _ _ _)
      | (with_reducible exact newsreelref03_Value.mono _ _)
      | (with_reducible exact LeO.refl _)
      | (with_reducible exact LeO.none _)
      | (with_reducible refine LeO.ite ?_ ?_)
      | (with_reducible refine LeO.bind ?_ (fun _ => ?_))
      | exact ih0 _ _ _
      | exact ih1 _ _ _ _
      | exact newsreelref03_Value.mono _ _
      | exact LeO.none _
      | refine LeO.ite ?_ ?_
      | refine LeO.bind ?_ (fun _ => ?_)
    · intro y0 y1 y2 y3
      unfold newsreelref19_number.l0
      repeat' first
      | (with_reducible exact ih0 _ _ _)
      | (with_reducible exact ih1 _ _ _ _)
      | (with_reducible exact newsreelref03_Value.mono _ _)
      | (with_reducible exact LeO.refl _)
      | (with_reducible exact LeO.none _)
      | (with_reducible refine LeO.ite ?_ ?_)
      | (with_reducible refine LeO.bind ?_ (fun _ => ?_))
      | exact ih0 _ _ _
      | exact ih1 _ _ _ _
      | exact newsreelref03_Value.mono _ _
      | exact LeO.none _
      | refine LeO.ite ?_ ?_
      | refine LeO.bind ?_ (fun _ => ?_)
theorem newsreelref19_number.mono : ∀ a0 a1 a2 k, LeO (newsreelref19_number.f k a0 a1 a2) (newsreelref19_number.f (k + 1) a0 a1 a2) := by
  intro a0 a1 a2 k
  obtain ⟨ih0, ih1⟩ := newsreelref19_number.mono_l k
  unfold newsreelref19_number.f
  repeat' first
      | (with_reducible exact ih0 _ _ _)
      | (with_reducible exact ih1 _ _ _ _)
      | (with_reducible exact newsreelref03_Value.mono _ _)
      | (with_reducible exact LeO.refl _)
      | (with_reducible exact LeO.none _)
      | (with_reducible refine LeO.ite ?_ ?_)
      | (with_reducible refine LeO.bind ?_ (fun _ => ?_))
      | exact ih0 _ _ _
      | exact ih1 _ _ _ _
      | exact newsreelref03_Value.mono _ _
      | exact LeO.none _
      | refine LeO.ite ?_ ?_
      | refine LeO.bind ?_ (fun _ => ?_)
set_option maxHeartbeats 8000000 in
set_option maxRecDepth 100000 in
theorem newsreelref19_number.calls (k : Nat) (a0 : ByteArray) (a1 : Int) (a2 : Int) (r : Int) (w : World) (h : newsreelref19_number.f k a0 a1 a2 = some r) :
    Calls Try.prog 47 #[.string a0, .int .i64 a1, .int .i64 a2] w fun e w' => e = .returned (.int .i64 r) ∧ Drawn0 w w' := by
  have H : (if (a0.size : Int) < 1 then (newsreelref19_number.j0 k a0 a1 true) else (newsreelref19_number.j0 k a0 a1 (decide ((a0.size : Int) > a2)))) = some r := h
  clear h
  have HC4 := Aside0.mk H
  clear H
  go_enter Try.func47, Try.ntmps47
  go_upto_region 1 with (fail)
  go_cut [18] (fun v18 wc => ∃ (kq : Nat) (x18_3 : Bool), v18 = .bool x18_3 ∧ Aside0 (newsreelref19_number.j0 kq a0 a1 x18_3 = some r) ∧ Aside0 (kq ≤ k) ∧ Drawn0 w wc)
  case first =>
    have H := HC4.out
    clear HC4
    by_cases c5 : (a0.size : Int) < 1
    · rw [if_pos c5] at H
      have c5b0 : decide ((a0.size : Int) < 1) = true := decide_eq_true c5
      have c5b1 : decide (a0.size < 1) = true := decide_eq_true (by omega)
      clear c5
      (first | rw [c5b0] | (simp only [i64_w, i32_w]; rw [c5b0]) | skip)
      have H' := Aside0.mk H
      clear H
      go_wp2
      go_meet
      case rel => exact ⟨_, (true), (by first | rfl | (simp; done) | (simp [*]; done)), H', ⟨by first | omega | exact Nat.le_refl _⟩, by repeat (first | exact Drawn0.refl _ | apply Drawn0.step)⟩
    · rw [if_neg c5] at H
      have c5b0 : decide ((a0.size : Int) < 1) = false := decide_eq_false c5
      have c5b1 : decide (a0.size < 1) = false := decide_eq_false (by omega)
      clear c5
      (first | rw [c5b0] | (simp only [i64_w, i32_w]; rw [c5b0]) | skip)
      have H' := Aside0.mk H
      clear H
      go_wp2
      go_meet
      case rel => exact ⟨_, (decide ((a0.size : Int) > a2)), (by first | rfl | (simp; done) | (simp [*]; done)), H', ⟨by first | omega | exact Nat.le_refl _⟩, by repeat (first | exact Drawn0.refl _ | apply Drawn0.step)⟩
  case rest =>
    clear HC4
    try clear p2
    try clear c4
    try clear c5
    try clear c5b0
    try clear c5b1
    obtain ⟨kq, x18_3, rfl, HA, HJ3, ⟨mc3, rfl⟩⟩ := hcut
    cases kq with
    | zero => exact absurd HA.out (by simp [newsreelref19_number.j0])
    | succ kj3 =>
      have H := HA.out
      clear HA
      simp only [newsreelref19_number.j0] at H
      by_cases c6 : x18_3 = true
      · subst c6
        have H1 : (some (-1)) = some r := by rw [if_pos rfl] at H; exact H
        clear H
        have H := H1
        clear H1
        obtain rfl := Option.some.inj H
        go_wp2
        go_ret
        exact ⟨by first | rfl | (simp; done) | (simp [*]; done), by repeat (first | exact Drawn0.refl _ | apply Drawn0.step)⟩
      · replace c6 := Bool.eq_false_iff.mpr c6
        subst c6
        have H1 : (newsreelref19_number.l0 kj3 a0 a1 0 0) = some r := by rw [if_neg (show ¬ (false = true) by decide)] at H; exact H
        clear H
        have H := H1
        clear H1
        have H' := Aside0.mk H
        clear H
        go_wp2
        go_loopg [7, 8] kj3 (fun kq v7 v8 w' => ∃ (x7_2 : Int) (x8_2 : Int), v7 = .int .i64 x7_2 ∧ v8 = .int .i64 x8_2 ∧ Aside0 (newsreelref19_number.l0 kq a0 a1 x7_2 x8_2 = some r) ∧ Aside0 (kq ≤ kj3) ∧ Drawn0 w w')
        case atStart => exact ⟨(0), (0), (by first | rfl | (simp; done) | (simp [*]; done)), (by first | rfl | (simp; done) | (simp [*]; done)), H', ⟨Nat.le_refl _⟩, by repeat (first | exact Drawn0.refl _ | apply Drawn0.step)⟩
        case round =>
          clear H'
          try clear p2
          try clear c3
          try clear c4
          try clear c5
          try clear c5b0
          try clear c5b1
          try clear c6
          try clear p2
          obtain ⟨x7_2, x8_2, rfl, rfl, HA, HK2, ⟨m2, rfl⟩⟩ := hrel
          cases gk with
          | zero => exact absurd HA.out (by simp [newsreelref19_number.l0])
          | succ k2 =>
            have H := HA.out
            clear HA
            simp only [newsreelref19_number.l0] at H
            by_cases c7 : x8_2 < (a0.size : Int)
            · rw [if_pos c7] at H
              have c7b0 : decide (x8_2 < (a0.size : Int)) = true := decide_eq_true c7
              clear c7
              by_cases c8 : 0 ≤ x8_2
              · rw [if_pos c8] at H
                have c8b0 : decide (0 ≤ x8_2) = true := decide_eq_true c8
                clear c8
                replace H := Option.bind_eq_some_iff.mp H
                obtain ⟨t173, A100, H⟩ := H
                replace H : (if t173 < 0 then (some (-1)) else (if t173 ≥ a1 then (some (-1)) else (newsreelref19_number.l0 k2 a0 a1 (wrap64 ((wrap64 (a1 * x7_2)) + t173)) (wrap64 (x8_2 + 1))))) = some r := H
                have A10 := Aside0.mk A100
                clear A100
                by_cases c11 : t173 < 0
                · rw [if_pos c11] at H
                  have c11b0 : decide (t173 < 0) = true := decide_eq_true c11
                  clear c11
                  obtain rfl := Option.some.inj H
                  have p9 : 0 ≤ (x8_2 : Int) := of_decide_eq_true (by first | (with_reducible assumption) | assumption)
                  have q9 : x8_2 < (a0.size : Int) := of_decide_eq_true (by first | (with_reducible assumption) | assumption)
                  have hx9 := bt_at a0 x8_2
                  replace p9 := eq_true p9
                  replace q9 := eq_true q9
                  go_wp2_with (first | ((with_reducible refine gate_callee (f := 69) rfl ?_); refine goesL_ (some 28) rfl rfl Try.func69 (by kernel_rfl) rfl #[.int .u8 (bt a0 x8_2)] rfl (by (try simp only [List.map_toArray, List.map_cons, List.map_nil]); first | done | rfl | (simp only [List.length_drop, List.length_take]; rfl)) ?_; (with_reducible refine (newsreelref03_Value.calls k2 (bt a0 x8_2) t173 _ A10.out).mono ?_); rintro e w' ⟨rfl, ⟨nd, rfl⟩⟩; refine ⟨_, rfl, ?_⟩))
                  go_ret
                  exact ⟨by first | rfl | (simp; done) | (simp [*]; done), by repeat (first | exact Drawn0.refl _ | apply Drawn0.step)⟩
                · rw [if_neg c11] at H
                  have c11b0 : decide (t173 < 0) = false := decide_eq_false c11
                  clear c11
                  by_cases c12 : t173 ≥ a1
                  · rw [if_pos c12] at H
                    have c12b0 : decide (a1 ≤ t173) = true := decide_eq_true c12
                    clear c12
                    obtain rfl := Option.some.inj H
                    have p9 : 0 ≤ (x8_2 : Int) := of_decide_eq_true (by first | (with_reducible assumption) | assumption)
                    have q9 : x8_2 < (a0.size : Int) := of_decide_eq_true (by first | (with_reducible assumption) | assumption)
                    have hx9 := bt_at a0 x8_2
                    replace p9 := eq_true p9
                    replace q9 := eq_true q9
                    go_wp2_with (first | ((with_reducible refine gate_callee (f := 69) rfl ?_); refine goesL_ (some 28) rfl rfl Try.func69 (by kernel_rfl) rfl #[.int .u8 (bt a0 x8_2)] rfl (by (try simp only [List.map_toArray, List.map_cons, List.map_nil]); first | done | rfl | (simp only [List.length_drop, List.length_take]; rfl)) ?_; (with_reducible refine (newsreelref03_Value.calls k2 (bt a0 x8_2) t173 _ A10.out).mono ?_); rintro e w' ⟨rfl, ⟨nd, rfl⟩⟩; refine ⟨_, rfl, ?_⟩))
                    go_ret
                    exact ⟨by first | rfl | (simp; done) | (simp [*]; done), by repeat (first | exact Drawn0.refl _ | apply Drawn0.step)⟩
                  · rw [if_neg c12] at H
                    have c12b0 : decide (a1 ≤ t173) = false := decide_eq_false c12
                    clear c12
                    have H' := Aside0.mk H
                    clear H
                    have p9 : 0 ≤ (x8_2 : Int) := of_decide_eq_true (by first | (with_reducible assumption) | assumption)
                    have q9 : x8_2 < (a0.size : Int) := of_decide_eq_true (by first | (with_reducible assumption) | assumption)
                    have hx9 := bt_at a0 x8_2
                    replace p9 := eq_true p9
                    replace q9 := eq_true q9
                    go_wp2_with (first | ((with_reducible refine gate_callee (f := 69) rfl ?_); refine goesL_ (some 28) rfl rfl Try.func69 (by kernel_rfl) rfl #[.int .u8 (bt a0 x8_2)] rfl (by (try simp only [List.map_toArray, List.map_cons, List.map_nil]); first | done | rfl | (simp only [List.length_drop, List.length_take]; rfl)) ?_; (with_reducible refine (newsreelref03_Value.calls k2 (bt a0 x8_2) t173 _ A10.out).mono ?_); rintro e w' ⟨rfl, ⟨nd, rfl⟩⟩; refine ⟨_, rfl, ?_⟩))
                    go_roundg k2
                    case measure => have := HJ3.out; have := HK2.out; omega
                    case rel => exact ⟨(wrap64 ((wrap64 (a1 * x7_2)) + t173)), (wrap64 (x8_2 + 1)), (by first | rfl | (simp; done) | (simp [*]; done)), (by first | rfl | (simp; done) | (simp [*]; done)), H', ⟨by have := HJ3.out; have := HK2.out; omega⟩, by repeat (first | exact Drawn0.refl _ | apply Drawn0.step)⟩
              · rw [if_neg c8] at H
                exact absurd H (by simp)
            · rw [if_neg c7] at H
              have c7b0 : decide (x8_2 < (a0.size : Int)) = false := decide_eq_false c7
              clear c7
              obtain rfl := Option.some.inj H
              go_wp2
              go_ret
              exact ⟨by first | rfl | (simp; done) | (simp [*]; done), by repeat (first | exact Drawn0.refl _ | apply Drawn0.step)⟩

/-! ### newsreelref19_utf: function 48 -/
def newsreelref19_utf.f (a0 : Int) : Option (ByteArray) := if a0 < 128 then (some (strOfNums (([(a0) % 256] : List Int)))) else (if a0 < 2048 then (some (strOfNums (([(wrap64 (192 + (wrap64 (Int.tdiv a0 64)))) % 256, (wrap64 (128 + (Int.tmod a0 64))) % 256] : List Int)))) else (if a0 < 65536 then (some (strOfNums (([(wrap64 (224 + (wrap64 (Int.tdiv a0 4096)))) % 256, (wrap64 (128 + (Int.tmod (wrap64 (Int.tdiv a0 64)) 64))) % 256, (wrap64 (128 + (Int.tmod a0 64))) % 256] : List Int)))) else (some (strOfNums (([(wrap64 (240 + (wrap64 (Int.tdiv a0 262144)))) % 256, (wrap64 (128 + (Int.tmod (wrap64 (Int.tdiv a0 4096)) 64))) % 256, (wrap64 (128 + (Int.tmod (wrap64 (Int.tdiv a0 64)) 64))) % 256, (wrap64 (128 + (Int.tmod a0 64))) % 256] : List Int))))))
set_option maxHeartbeats 8000000 in
set_option maxRecDepth 100000 in
theorem newsreelref19_utf.calls (a0 : Int) (r : ByteArray) (w : World) (h : newsreelref19_utf.f a0 = some r) :
    Calls Try.prog 48 #[.int .i64 a0] w fun e w' => e = .returned (.string r) ∧ Below w.heap.size w w' := by
  have HB := Aside0.mk (Below.refl w.heap.size w)
  have H : (if a0 < 128 then (some (strOfNums (([(a0) % 256] : List Int)))) else (if a0 < 2048 then (some (strOfNums (([(wrap64 (192 + (wrap64 (Int.tdiv a0 64)))) % 256, (wrap64 (128 + (Int.tmod a0 64))) % 256] : List Int)))) else (if a0 < 65536 then (some (strOfNums (([(wrap64 (224 + (wrap64 (Int.tdiv a0 4096)))) % 256, (wrap64 (128 + (Int.tmod (wrap64 (Int.tdiv a0 64)) 64))) % 256, (wrap64 (128 + (Int.tmod a0 64))) % 256] : List Int)))) else (some (strOfNums (([(wrap64 (240 + (wrap64 (Int.tdiv a0 262144)))) % 256, (wrap64 (128 + (Int.tmod (wrap64 (Int.tdiv a0 4096)) 64))) % 256, (wrap64 (128 + (Int.tmod (wrap64 (Int.tdiv a0 64)) 64))) % 256, (wrap64 (128 + (Int.tmod a0 64))) % 256] : List Int))))))) = some r := h
  clear h
  by_cases c2 : a0 < 128
  · rw [if_pos c2] at H
    have c2b0 : decide (a0 < 128) = true := decide_eq_true c2
    clear c2
    obtain ⟨y174, hy174⟩ : ∃ y_ : List Int, y_ = (([(a0) % 256] : List Int)) := ⟨_, rfl⟩
    replace H : (some (strOfNums y174)) = some r := by first | (rw [hy174]; with_reducible exact H) | (have H2_ := (Option.bind_some _ _).symm.trans H; rw [hy174]; with_reducible exact H2_) | (have H2_ := (Option.bind_some _ _).symm.trans H; with_reducible exact H2_) | with_reducible exact H | (rw [hy174]; exact H) | exact H
    have Ny174 := Aside0.mk hy174
    clear hy174
    obtain rfl := Option.some.inj H
    go_enter Try.func48, Try.ntmps48
    go_wp2_with (first | ((with_reducible refine gate_dst (N := 8) rfl ?_); refine Kd.R_lit (Kd.int .u8) _ 5 ?hg (N := 8) ?hd (xs := ([(a0) % 256] : List Int)) (inner := [.int .u8 ((a0) % 256)]) (ok := fun _ => True) (okp := fun _ => True) ?hr ?hp (fun _ hk => hk) trivial (Below.refl _ _) (Nat.le_refl _) (by simp) ?_; (case hd => rfl); (case hg => rfl); (case hr => first | (go_simp; done) | (go_simp; rfl)); (case hp => exact (Reps.one (show Kd.M (Kd.int .u8) _ _ _ ((a0) % 256) [.int .u8 ((a0) % 256)] from rfl) (Reps.none _ _))); intro v175 w3 ho4 hb hg_ hnew_; clear hg_ hnew_; (first | rw [← Ny174.out] at ho4 | (simp only [Int.reduceToNat] at ho4; rw [← Ny174.out] at ho4)); have n0_ := Aside0.mk (Kd.R_lower ho4 (below_size (by repeat (first | (with_reducible first | exact HB.out | apply below_alloc | apply pw_below_drewN | apply below_drew1) | exact HB.out)))); have n1_ := Aside0.mk (below_step (by repeat (first | (with_reducible first | exact HB.out | apply below_alloc | apply pw_below_drewN | apply below_drew1) | exact HB.out)) hb); clear HB; have HO176 := n0_; have HB := n1_; clear n0_ n1_; clear hb ho4; have hcv5 := own_string (P := Try.prog) Try.underlying45 Try.underlying5 Try.underlying9 (Kd.own_of_R HO176.out)))
    go_ret
    exact ⟨by first | rfl | (simp [errW_none, errW_some] <;> rfl) | (simp [*, errW_none, errW_some] <;> rfl), by repeat (first | (with_reducible first | exact HB.out | apply below_alloc | apply pw_below_drewN | apply below_drew1) | exact HB.out)⟩
  · rw [if_neg c2] at H
    have c2b0 : decide (a0 < 128) = false := decide_eq_false c2
    clear c2
    by_cases c6 : a0 < 2048
    · rw [if_pos c6] at H
      have c6b0 : decide (a0 < 2048) = true := decide_eq_true c6
      clear c6
      obtain ⟨y177, hy177⟩ : ∃ y_ : List Int, y_ = (([(wrap64 (192 + (wrap64 (Int.tdiv a0 64)))) % 256, (wrap64 (128 + (Int.tmod a0 64))) % 256] : List Int)) := ⟨_, rfl⟩
      replace H : (some (strOfNums y177)) = some r := by first | (rw [hy177]; with_reducible exact H) | (have H2_ := (Option.bind_some _ _).symm.trans H; rw [hy177]; with_reducible exact H2_) | (have H2_ := (Option.bind_some _ _).symm.trans H; with_reducible exact H2_) | with_reducible exact H | (rw [hy177]; exact H) | exact H
      have Ny177 := Aside0.mk hy177
      clear hy177
      obtain rfl := Option.some.inj H
      go_enter Try.func48, Try.ntmps48
      go_wp2_with (first | ((with_reducible refine gate_dst (N := 21) rfl ?_); refine Kd.R_lit (Kd.int .u8) _ 5 ?hg (N := 21) ?hd (xs := ([(wrap64 (192 + (wrap64 (Int.tdiv a0 64)))) % 256, (wrap64 (128 + (Int.tmod a0 64))) % 256] : List Int)) (inner := [.int .u8 ((wrap64 (192 + (wrap64 (Int.tdiv a0 64)))) % 256), .int .u8 ((wrap64 (128 + (Int.tmod a0 64))) % 256)]) (ok := fun _ => True) (okp := fun _ => True) ?hr ?hp (fun _ hk => hk) trivial (Below.refl _ _) (Nat.le_refl _) (by simp) ?_; (case hd => rfl); (case hg => rfl); (case hr => first | (go_simp; done) | (go_simp; rfl)); (case hp => exact (Reps.one (show Kd.M (Kd.int .u8) _ _ _ ((wrap64 (192 + (wrap64 (Int.tdiv a0 64)))) % 256) [.int .u8 ((wrap64 (192 + (wrap64 (Int.tdiv a0 64)))) % 256)] from rfl) (Reps.one (show Kd.M (Kd.int .u8) _ _ _ ((wrap64 (128 + (Int.tmod a0 64))) % 256) [.int .u8 ((wrap64 (128 + (Int.tmod a0 64))) % 256)] from rfl) (Reps.none _ _)))); intro v178 w7 ho8 hb hg_ hnew_; clear hg_ hnew_; (first | rw [← Ny177.out] at ho8 | (simp only [Int.reduceToNat] at ho8; rw [← Ny177.out] at ho8)); have n0_ := Aside0.mk (Kd.R_lower ho8 (below_size (by repeat (first | (with_reducible first | exact HB.out | apply below_alloc | apply pw_below_drewN | apply below_drew1) | exact HB.out)))); have n1_ := Aside0.mk (below_step (by repeat (first | (with_reducible first | exact HB.out | apply below_alloc | apply pw_below_drewN | apply below_drew1) | exact HB.out)) hb); clear HB; have HO179 := n0_; have HB := n1_; clear n0_ n1_; clear hb ho8; have hcv9 := own_string (P := Try.prog) Try.underlying45 Try.underlying5 Try.underlying9 (Kd.own_of_R HO179.out)))
      go_ret
      exact ⟨by first | rfl | (simp [errW_none, errW_some] <;> rfl) | (simp [*, errW_none, errW_some] <;> rfl), by repeat (first | (with_reducible first | exact HB.out | apply below_alloc | apply pw_below_drewN | apply below_drew1) | exact HB.out)⟩
    · rw [if_neg c6] at H
      have c6b0 : decide (a0 < 2048) = false := decide_eq_false c6
      clear c6
      by_cases c10 : a0 < 65536
      · rw [if_pos c10] at H
        have c10b0 : decide (a0 < 65536) = true := decide_eq_true c10
        clear c10
        obtain ⟨y180, hy180⟩ : ∃ y_ : List Int, y_ = (([(wrap64 (224 + (wrap64 (Int.tdiv a0 4096)))) % 256, (wrap64 (128 + (Int.tmod (wrap64 (Int.tdiv a0 64)) 64))) % 256, (wrap64 (128 + (Int.tmod a0 64))) % 256] : List Int)) := ⟨_, rfl⟩
        replace H : (some (strOfNums y180)) = some r := by first | (rw [hy180]; with_reducible exact H) | (have H2_ := (Option.bind_some _ _).symm.trans H; rw [hy180]; with_reducible exact H2_) | (have H2_ := (Option.bind_some _ _).symm.trans H; with_reducible exact H2_) | with_reducible exact H | (rw [hy180]; exact H) | exact H
        have Ny180 := Aside0.mk hy180
        clear hy180
        obtain rfl := Option.some.inj H
        go_enter Try.func48, Try.ntmps48
        go_wp2_with (first | ((with_reducible refine gate_dst (N := 39) rfl ?_); refine Kd.R_lit (Kd.int .u8) _ 5 ?hg (N := 39) ?hd (xs := ([(wrap64 (224 + (wrap64 (Int.tdiv a0 4096)))) % 256, (wrap64 (128 + (Int.tmod (wrap64 (Int.tdiv a0 64)) 64))) % 256, (wrap64 (128 + (Int.tmod a0 64))) % 256] : List Int)) (inner := [.int .u8 ((wrap64 (224 + (wrap64 (Int.tdiv a0 4096)))) % 256), .int .u8 ((wrap64 (128 + (Int.tmod (wrap64 (Int.tdiv a0 64)) 64))) % 256), .int .u8 ((wrap64 (128 + (Int.tmod a0 64))) % 256)]) (ok := fun _ => True) (okp := fun _ => True) ?hr ?hp (fun _ hk => hk) trivial (Below.refl _ _) (Nat.le_refl _) (by simp) ?_; (case hd => rfl); (case hg => rfl); (case hr => first | (go_simp; done) | (go_simp; rfl)); (case hp => exact (Reps.one (show Kd.M (Kd.int .u8) _ _ _ ((wrap64 (224 + (wrap64 (Int.tdiv a0 4096)))) % 256) [.int .u8 ((wrap64 (224 + (wrap64 (Int.tdiv a0 4096)))) % 256)] from rfl) (Reps.one (show Kd.M (Kd.int .u8) _ _ _ ((wrap64 (128 + (Int.tmod (wrap64 (Int.tdiv a0 64)) 64))) % 256) [.int .u8 ((wrap64 (128 + (Int.tmod (wrap64 (Int.tdiv a0 64)) 64))) % 256)] from rfl) (Reps.one (show Kd.M (Kd.int .u8) _ _ _ ((wrap64 (128 + (Int.tmod a0 64))) % 256) [.int .u8 ((wrap64 (128 + (Int.tmod a0 64))) % 256)] from rfl) (Reps.none _ _))))); intro v181 w11 ho12 hb hg_ hnew_; clear hg_ hnew_; (first | rw [← Ny180.out] at ho12 | (simp only [Int.reduceToNat] at ho12; rw [← Ny180.out] at ho12)); have n0_ := Aside0.mk (Kd.R_lower ho12 (below_size (by repeat (first | (with_reducible first | exact HB.out | apply below_alloc | apply pw_below_drewN | apply below_drew1) | exact HB.out)))); have n1_ := Aside0.mk (below_step (by repeat (first | (with_reducible first | exact HB.out | apply below_alloc | apply pw_below_drewN | apply below_drew1) | exact HB.out)) hb); clear HB; have HO182 := n0_; have HB := n1_; clear n0_ n1_; clear hb ho12; have hcv13 := own_string (P := Try.prog) Try.underlying45 Try.underlying5 Try.underlying9 (Kd.own_of_R HO182.out)))
        go_ret
        exact ⟨by first | rfl | (simp [errW_none, errW_some] <;> rfl) | (simp [*, errW_none, errW_some] <;> rfl), by repeat (first | (with_reducible first | exact HB.out | apply below_alloc | apply pw_below_drewN | apply below_drew1) | exact HB.out)⟩
      · rw [if_neg c10] at H
        have c10b0 : decide (a0 < 65536) = false := decide_eq_false c10
        clear c10
        obtain ⟨y183, hy183⟩ : ∃ y_ : List Int, y_ = (([(wrap64 (240 + (wrap64 (Int.tdiv a0 262144)))) % 256, (wrap64 (128 + (Int.tmod (wrap64 (Int.tdiv a0 4096)) 64))) % 256, (wrap64 (128 + (Int.tmod (wrap64 (Int.tdiv a0 64)) 64))) % 256, (wrap64 (128 + (Int.tmod a0 64))) % 256] : List Int)) := ⟨_, rfl⟩
        replace H : (some (strOfNums y183)) = some r := by first | (rw [hy183]; with_reducible exact H) | (have H2_ := (Option.bind_some _ _).symm.trans H; rw [hy183]; with_reducible exact H2_) | (have H2_ := (Option.bind_some _ _).symm.trans H; with_reducible exact H2_) | with_reducible exact H | (rw [hy183]; exact H) | exact H
        have Ny183 := Aside0.mk hy183
        clear hy183
        obtain rfl := Option.some.inj H
        go_enter Try.func48, Try.ntmps48
        go_wp2_with (first | ((with_reducible refine gate_dst (N := 59) rfl ?_); refine Kd.R_lit (Kd.int .u8) _ 5 ?hg (N := 59) ?hd (xs := ([(wrap64 (240 + (wrap64 (Int.tdiv a0 262144)))) % 256, (wrap64 (128 + (Int.tmod (wrap64 (Int.tdiv a0 4096)) 64))) % 256, (wrap64 (128 + (Int.tmod (wrap64 (Int.tdiv a0 64)) 64))) % 256, (wrap64 (128 + (Int.tmod a0 64))) % 256] : List Int)) (inner := [.int .u8 ((wrap64 (240 + (wrap64 (Int.tdiv a0 262144)))) % 256), .int .u8 ((wrap64 (128 + (Int.tmod (wrap64 (Int.tdiv a0 4096)) 64))) % 256), .int .u8 ((wrap64 (128 + (Int.tmod (wrap64 (Int.tdiv a0 64)) 64))) % 256), .int .u8 ((wrap64 (128 + (Int.tmod a0 64))) % 256)]) (ok := fun _ => True) (okp := fun _ => True) ?hr ?hp (fun _ hk => hk) trivial (Below.refl _ _) (Nat.le_refl _) (by simp) ?_; (case hd => rfl); (case hg => rfl); (case hr => first | (go_simp; done) | (go_simp; rfl)); (case hp => exact (Reps.one (show Kd.M (Kd.int .u8) _ _ _ ((wrap64 (240 + (wrap64 (Int.tdiv a0 262144)))) % 256) [.int .u8 ((wrap64 (240 + (wrap64 (Int.tdiv a0 262144)))) % 256)] from rfl) (Reps.one (show Kd.M (Kd.int .u8) _ _ _ ((wrap64 (128 + (Int.tmod (wrap64 (Int.tdiv a0 4096)) 64))) % 256) [.int .u8 ((wrap64 (128 + (Int.tmod (wrap64 (Int.tdiv a0 4096)) 64))) % 256)] from rfl) (Reps.one (show Kd.M (Kd.int .u8) _ _ _ ((wrap64 (128 + (Int.tmod (wrap64 (Int.tdiv a0 64)) 64))) % 256) [.int .u8 ((wrap64 (128 + (Int.tmod (wrap64 (Int.tdiv a0 64)) 64))) % 256)] from rfl) (Reps.one (show Kd.M (Kd.int .u8) _ _ _ ((wrap64 (128 + (Int.tmod a0 64))) % 256) [.int .u8 ((wrap64 (128 + (Int.tmod a0 64))) % 256)] from rfl) (Reps.none _ _)))))); intro v184 w14 ho15 hb hg_ hnew_; clear hg_ hnew_; (first | rw [← Ny183.out] at ho15 | (simp only [Int.reduceToNat] at ho15; rw [← Ny183.out] at ho15)); have n0_ := Aside0.mk (Kd.R_lower ho15 (below_size (by repeat (first | (with_reducible first | exact HB.out | apply below_alloc | apply pw_below_drewN | apply below_drew1) | exact HB.out)))); have n1_ := Aside0.mk (below_step (by repeat (first | (with_reducible first | exact HB.out | apply below_alloc | apply pw_below_drewN | apply below_drew1) | exact HB.out)) hb); clear HB; have HO185 := n0_; have HB := n1_; clear n0_ n1_; clear hb ho15; have hcv16 := own_string (P := Try.prog) Try.underlying45 Try.underlying5 Try.underlying9 (Kd.own_of_R HO185.out)))
        go_ret
        exact ⟨by first | rfl | (simp [errW_none, errW_some] <;> rfl) | (simp [*, errW_none, errW_some] <;> rfl), by repeat (first | (with_reducible first | exact HB.out | apply below_alloc | apply pw_below_drewN | apply below_drew1) | exact HB.out)⟩

end Go.Proofs.Ytmkajenlncfhbac.PEntityTells
