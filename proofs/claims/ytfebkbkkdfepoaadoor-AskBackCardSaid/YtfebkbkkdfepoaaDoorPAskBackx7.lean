-- MADE BY xprint.py of this repository, out of the seat's translation, by the kit's print and this repository's hands
import Derived.Test.YtfebkbkkdfepoaaDoorPAskBackx0
import Derived.Test.YtfebkbkkdfepoaaDoorPAskBackx4
import Derived.Test.YtfebkbkkdfepoaaDoorPAskBackx5
import Derived.Test.YtfebkbkkdfepoaaDoorPAskBackx6
namespace Go.Proofs.YtfebkbkkdfepoaaDoor.PAskBack
open Go.RowKit Go.Proofs.YtfebkbkkdfepoaaDoorW.PrintWords Go.Proofs.YtfebkbkkdfepoaaDoorW.PrintLast Go.Proofs.YtfebkbkkdfepoaaDoorW.PrintMore
attribute [local go_sem] max2_int min2_int max_two min_two max_three min_three max_four min_four   -- for this text's walks alone
set_option linter.unusedVariables false
set_option linter.unusedSimpArgs false

/-! ### strings_Builder_WriteString: function 26 -/
def lays166_ren : Go.Shelf.Ren := ⟨fun | 166 => 26 | 240 => 48 | 276 => 66 | n => n, fun | 0 => 0 | 3 => 3 | 4 => 4 | 5 => 5 | 9 => 9 | 20 => 20 | 37 => 24 | 70 => 62 | 72 => 64 | 75 => 67 | 80 => 71 | 164 => 103 | n => n, fun n => n⟩
theorem lays166 : Lays.n166 Tryd.prog lays166_ren where
  mixed := by kernel_rfl
  f166 := Tryd.func26.trans (congrArg some (by kernel_rfl))
  f240 := Tryd.func48.trans (congrArg some (by kernel_rfl))
  f276 := Tryd.func66.trans (congrArg some (by kernel_rfl))
  t0 := Tryd.underlying0
  a0 := Tryd.isAgg0
  z0 := Tryd.sizeOf0
  v0 := Tryd.zeroValue0
  t3 := Tryd.underlying3
  a3 := Tryd.isAgg3
  z3 := Tryd.sizeOf3
  v3 := Tryd.zeroValue3
  t4 := Tryd.underlying4
  a4 := Tryd.isAgg4
  z4 := Tryd.sizeOf4
  v4 := Tryd.zeroValue4
  t9 := Tryd.underlying9
  a9 := Tryd.isAgg9
  z9 := Tryd.sizeOf9
  v9 := Tryd.zeroValue9
  t20 := Tryd.underlying20
  a20 := Tryd.isAgg20
  z20 := Tryd.sizeOf20
  v20 := Tryd.zeroValue20
  t37 := Tryd.underlying24
  a37 := Tryd.isAgg24
  z37 := Tryd.sizeOf24
  v37 := Tryd.zeroValue24
  t70 := Tryd.underlying62
  a70 := Tryd.isAgg62
  z70 := Tryd.sizeOf62
  v70 := Tryd.zeroValue62
  t72 := Tryd.underlying64
  a72 := Tryd.isAgg64
  z72 := Tryd.sizeOf64
  v72 := Tryd.zeroValue64
  t75 := Tryd.underlying67
  a75 := Tryd.isAgg67
  z75 := Tryd.sizeOf67
  v75 := Tryd.zeroValue67
  t164 := Tryd.underlying103
  a164 := Tryd.isAgg103
  z164 := Tryd.sizeOf103
  v164 := Tryd.zeroValue103
theorem bx166 : Builder.Extra Tryd.prog lays166_ren where
  sizeBuilder := by kernel_rfl
  liesBuilder := by kernel_rfl
  t5 := Tryd.underlying5
  a5 := run_isAgg_plain Tryd.underlying5 rfl
  z5 := fun w => by kernel_rfl
  v5 := fun w => by kernel_rfl
  infoByte := by kernel_rfl
  cellsByte := by kernel_rfl
  sizeByte := by kernel_rfl
  neB5 := by decide
theorem Bld.ws (B b : Nat) (bs : List Value) (s : ByteArray) (w : World) (h : Lib.IsBuilder 64 5 B b bs w) (hlen : bs.length + s.size ≤ 140737488355328) (hBw : B ≤ w.heap.size) :
    Calls Tryd.prog 26 #[.pointer (some ⟨b, 0, none⟩), .string s] w fun e w' => e = .returned (.tuple #[.int .i64 s.size, .nilIface]) ∧ (Lib.BuilderAt 64 5 B b (.pointer (some ⟨b, 0, none⟩)) (bs ++ Lib.strCells s) w' ∧ Below B w w') := Any.Builder_WriteString lays166 bx166 B b bs s w h hlen hBw

/-! ### strings_Builder_Len: function 27 -/
def lays170_ren : Go.Shelf.Ren := ⟨fun | 170 => 27 | n => n, fun | 70 => 62 | 3 => 3 | 0 => 0 | 72 => 64 | 37 => 24 | 5 => 5 | n => n, fun | n => n⟩
theorem lays170 : Go.Proofs.Lays.n170 Tryd.prog lays170_ren := {
  mixed := by kernel_rfl
  f170 := Tryd.func27.trans (congrArg some (by kernel_rfl))
  t0 := Tryd.underlying0
  a0 := Tryd.isAgg0
  z0 := Tryd.sizeOf0
  v0 := Tryd.zeroValue0
  t3 := Tryd.underlying3
  a3 := Tryd.isAgg3
  z3 := Tryd.sizeOf3
  v3 := Tryd.zeroValue3
  t37 := Tryd.underlying24
  a37 := Tryd.isAgg24
  z37 := Tryd.sizeOf24
  v37 := Tryd.zeroValue24
  t70 := Tryd.underlying62
  a70 := Tryd.isAgg62
  z70 := Tryd.sizeOf62
  v70 := Tryd.zeroValue62
  t72 := Tryd.underlying64
  a72 := Tryd.isAgg64
  z72 := Tryd.sizeOf64
  v72 := Tryd.zeroValue64 }
theorem Bld.len (B b : Nat) (bs : List Value) (w : World) (h : Lib.IsBuilder 64 5 B b bs w) :
    Calls Tryd.prog 27 #[.pointer (some ⟨b, 0, none⟩)] w fun e w' => e = .returned (.int .i64 bs.length) ∧ w' = w := Any.Builder_Len lays170 B b bs w h

/-! ### strings_Builder_String: function 28 -/
def lays169_ren : Go.Shelf.Ren := ⟨fun | 169 => 28 | n => n, fun | 70 => 62 | 9 => 9 | 0 => 0 | 72 => 64 | 37 => 24 | 127 => 89 | 3 => 3 | 5 => 5 | n => n, fun | n => n⟩
theorem lays169 : Go.Proofs.Lays.n169 Tryd.prog lays169_ren := {
  mixed := by kernel_rfl
  f169 := Tryd.func28.trans (congrArg some (by kernel_rfl))
  t0 := Tryd.underlying0
  a0 := Tryd.isAgg0
  z0 := Tryd.sizeOf0
  v0 := Tryd.zeroValue0
  t3 := Tryd.underlying3
  a3 := Tryd.isAgg3
  z3 := Tryd.sizeOf3
  v3 := Tryd.zeroValue3
  t9 := Tryd.underlying9
  a9 := Tryd.isAgg9
  z9 := Tryd.sizeOf9
  v9 := Tryd.zeroValue9
  t37 := Tryd.underlying24
  a37 := Tryd.isAgg24
  z37 := Tryd.sizeOf24
  v37 := Tryd.zeroValue24
  t70 := Tryd.underlying62
  a70 := Tryd.isAgg62
  z70 := Tryd.sizeOf62
  v70 := Tryd.zeroValue62
  t72 := Tryd.underlying64
  a72 := Tryd.isAgg64
  z72 := Tryd.sizeOf64
  v72 := Tryd.zeroValue64
  t127 := Tryd.underlying89
  a127 := Tryd.isAgg89
  z127 := Tryd.sizeOf89
  v127 := Tryd.zeroValue89 }
theorem bx169 : Builder.Extra Tryd.prog lays169_ren where
  sizeBuilder := by kernel_rfl
  liesBuilder := by kernel_rfl
  t5 := Tryd.underlying5
  a5 := run_isAgg_plain Tryd.underlying5 rfl
  z5 := fun w => by kernel_rfl
  v5 := fun w => by kernel_rfl
  infoByte := by kernel_rfl
  cellsByte := by kernel_rfl
  sizeByte := by kernel_rfl
  neB5 := by decide
theorem Bld.st (B b : Nat) (l : List UInt8) (w : World) (h : Lib.IsBuilder 64 5 B b (Lib.byteCells l) w) (hBw : B ≤ w.heap.size) :
    Calls Tryd.prog 28 #[.pointer (some ⟨b, 0, none⟩)] w fun e w' => e = .returned (.string ⟨l.toArray⟩) ∧ Below B w w' := by
  by_cases h0 : l = []
  · subst h0
    exact Any.Builder_String_empty lays169 bx169 B b w h hBw
  · exact Any.Builder_String lays169 bx169 B b l w h h0
theorem Bld.cells (l : List Int) (h : ∀ x ∈ l, 0 ≤ x ∧ x < 256) : (l.map fun x => Value.int .u8 x) = Lib.byteCells (l.map fun x => x.toNat.toUInt8) := by
  unfold Lib.byteCells
  rw [List.map_map]
  refine List.map_congr_left fun x hx => ?_
  have := h x hx
  simp only [Function.comp, Nat.toUInt8, UInt8.toNat_ofNat']
  congr 1
  omega
theorem Bld.below {B b : Nat} {p : Value} {bs : List Value} {w w' : World} (h : Lib.BuilderAt 64 5 B b p bs w) (hb : Below w.heap.size w w') : Lib.BuilderAt 64 5 B b p bs w' := by
  have hlt := h.lt
  obtain ⟨h1, v, h2, h3, h4⟩ := h
  refine ⟨h1, v, (hb.block b hlt).trans h2, h3.kept (grown_of_below hb none) ?_, h4⟩
  cases hv : v.ownBlock with
  | none => exact Or.inl rfl
  | some k => exact Or.inr (by simp)

/-! ### field_Put: function 12 -/
def field_Put.line (x : S39) : List Int := bytesOf x.f0 ++ [58, 32] ++ bytesOf x.f1 ++ [13, 10]
def field_Put.l0 (k : Nat) : List S39 → List Int → Option (ByteArray × Int)
  | [], acc => if acc.length ≤ 1000000000 then (if acc.length + 2 > 2000 then some ((⟨#[]⟩ : ByteArray), 4) else some (strOfNums (acc ++ [13, 10]), 0)) else none
  | x :: t, acc => (field_Right.f k x.f0 x.f1).bind fun b => (if b = true then (if acc.length + x.f0.size + x.f1.size + 4 ≤ 1000000000 then (field_Put.l0 k t (acc ++ field_Put.line x)) else none) else some ((⟨#[]⟩ : ByteArray), 1))
def field_Put.f (k : Nat) (l0 : List S39) : Option (ByteArray × Int) := field_Put.l0 k l0 []
theorem field_Put.mono_l (k : Nat) : ∀ y0 y1, LeO (field_Put.l0 k y0 y1) (field_Put.l0 (k + 1) y0 y1)
  | [], _ => LeO.refl _
  | x :: t, y1 => by
    unfold field_Put.l0
    refine LeO.bind (field_Right.mono _ _ _) (fun b => ?_)
    refine LeO.ite ?_ (LeO.refl _)
    exact LeO.ite (field_Put.mono_l k t _) (LeO.none _)
theorem field_Put.mono : ∀ a0 k, LeO (field_Put.f k a0) (field_Put.f (k + 1) a0) := fun a0 k => field_Put.mono_l k a0 []
theorem field_Put.strc (s : ByteArray) : Lib.strCells s = (bytesOf s).map fun x => Value.int .u8 x := by
  unfold Lib.strCells bytesOf
  rw [List.map_map]
  rfl
theorem field_Put.rangeS (s : ByteArray) : ∀ x ∈ bytesOf s, 0 ≤ x ∧ x < 256 := fun x hx => by
  obtain ⟨b, _, rfl⟩ := List.mem_map.mp hx
  have := b.toNat_lt
  omega
theorem field_Put.range (f : S39) : ∀ x ∈ field_Put.line f, 0 ≤ x ∧ x < 256 := by
  intro x hx
  unfold field_Put.line at hx
  rcases List.mem_append.mp hx with hx | hx
  · rcases List.mem_append.mp hx with hx | hx
    · rcases List.mem_append.mp hx with hx | hx
      · exact field_Put.rangeS _ x hx
      · simp only [List.mem_cons, List.not_mem_nil, or_false] at hx
        omega
    · exact field_Put.rangeS _ x hx
  · simp only [List.mem_cons, List.not_mem_nil, or_false] at hx
    omega
/-- The text that is written for a field. -/
def field_Put.txt (x : S39) : ByteArray := x.f0 ++ (⟨#[58, 32]⟩ : ByteArray) ++ x.f1 ++ (⟨#[13, 10]⟩ : ByteArray)
theorem field_Put.bytes_app (a b : ByteArray) : bytesOf (a ++ b) = bytesOf a ++ bytesOf b := by
  unfold bytesOf
  rw [show (a ++ b).data = a.data ++ b.data from ByteArray.data_append, Array.toList_append, List.map_append]
theorem field_Put.txt_bytes (x : S39) : bytesOf (field_Put.txt x) = field_Put.line x := by
  unfold field_Put.txt field_Put.line
  rw [field_Put.bytes_app, field_Put.bytes_app, field_Put.bytes_app]
  rfl
theorem field_Put.txt_size (x : S39) : (field_Put.txt x).size = x.f0.size + x.f1.size + 4 := by
  unfold field_Put.txt
  simp only [ByteArray.size_append]
  show x.f0.size + 2 + x.f1.size + 2 = _
  omega
theorem Bld.isb {B b : Nat} {bs : List Value} {w w' : World} (h : Lib.IsBuilder 64 5 B b bs w) (hb : Below w.heap.size w w') : Lib.IsBuilder 64 5 B b bs w' :=
  h.elim (fun x => .inl (Bld.below x hb)) (fun x => .inr (Bld.below x hb))
def field_Put.rel (w : World) (k : Nat) (l0 : List S39) (r1 : ByteArray) (r2 : Int) (v9 : Value) (wr : World) : Prop :=
  ∃ (p t : List S39) (acc : List Int), v9 = .int .i64 (p.length : Int) ∧ Aside0 (l0 = p ++ t) ∧ Aside0 (field_Put.l0 k t acc = some (r1, r2)) ∧ Aside0 (∀ x ∈ acc, 0 ≤ x ∧ x < 256) ∧ Aside0 (Below w.heap.size w wr) ∧ Aside0 (Lib.IsBuilder 64 5 w.heap.size w.heap.size (acc.map fun x => Value.int .u8 x) wr)
theorem field_Put.io (k : IntKind) (x : Int) : intOf (Value.int k x) = x := rfl
theorem field_Put.meas (n p : Nat) (h : p < n) (hw : wrap64 ((p : Int) + 1) = (p : Int) + 1) : n - (intOf (.int .i64 (wrap64 ((p : Int) + 1)))).toNat < n - (intOf (.int .i64 (p : Int))).toNat := by
  rw [hw, field_Put.io, field_Put.io]
  omega
set_option maxHeartbeats 4000000 in
set_option maxRecDepth 100000 in
theorem field_Put.calls (k : Nat) (A0 : Option Addr) (c0 : Nat) (l0 : List S39) (r1 : ByteArray) (r2 : Int) (w : World) (hr0 : Kd.C k39 w A0 l0.length l0) (hc0 : l0.length ≤ c0) (h : field_Put.f k l0 = some (r1, r2)) :
    Calls Tryd.prog 12 #[.slice A0 l0.length c0] w fun e w' => e = .returned (.tuple #[.string r1, .int .i64 r2]) ∧ Below w.heap.size w w' := by
  have hu27 := Tryd.underlying39
  have HR0 := Aside0.mk hr0
  have HC0 := Aside0.mk hc0
  have HM0 := Aside0.mk hr0.2.1
  clear hr0 hc0
  have H' := Aside0.mk (show field_Put.l0 k l0 [] = some (r1, r2) from h)
  clear h
  go_enter Tryd.func12, Tryd.ntmps12
  go_wp2
  go_loopw [9] (fun v9 wr => field_Put.rel w k l0 r1 r2 v9 wr) (fun v9 _ => l0.length - (intOf v9).toNat)
  case atStart => exact ⟨[], l0, [], rfl, ⟨rfl⟩, H', ⟨fun x hx => by cases hx⟩, ⟨below_alloc (Below.refl _ _) _⟩, ⟨Lib.fresh_isBuilder _ _ w⟩⟩
  case round =>
    clear H'
    obtain ⟨p, t, acc, rfl, HE, HA, HR, HB, HI⟩ := hrel
    have hsz : w.heap.size ≤ wr.heap.size := HB.out.size
    have hlen : l0.length = p.length + t.length := by rw [HE.out, List.length_append]
    cases t with
    | nil =>
      have H := HA.out
      clear HA
      simp only [field_Put.l0] at H
      by_cases hl : acc.length ≤ 1000000000
      · rw [if_pos hl] at H
        have hpl : (p.length : Int) = (l0.length : Int) := by rw [hlen]; simp
        have hws := Bld.ws w.heap.size w.heap.size _ (⟨#[13, 10]⟩ : ByteArray) wr HI.out (by rw [List.length_map, show (⟨#[13, 10]⟩ : ByteArray).size = 2 from rfl]; omega) hsz
        have hacc : (acc.map fun x => Value.int .u8 x) ++ Lib.strCells (⟨#[13, 10]⟩ : ByteArray) = (acc ++ [13, 10]).map fun x => Value.int .u8 x := by rw [List.map_append]; rfl
        rw [hacc] at hws
        have hr2 : ∀ x ∈ acc ++ [13, 10], 0 ≤ x ∧ x < 256 := fun x hx => (List.mem_append.mp hx).elim (HR.out x) (fun hx => by simp only [List.mem_cons, List.not_mem_nil, or_false] at hx; omega)
        have hln : (((acc ++ [13, 10]).map fun x => Value.int .u8 x).length : Int) = (acc.length : Int) + 2 := by simp
        have HWS := Aside0.mk hws
        clear hws hacc hl hlen
        by_cases hg : acc.length + 2 > 2000
        · have he := Option.some.inj ((if_pos hg).symm.trans H)
          injection he with he1 he2
          subst he1
          subst he2
          clear H
          have hg2 : ((acc.length : Int) + 2 > 2000) = True := eq_true (by omega)
          have hg3 : ((2000 : Int) < (acc.length : Int) + 2) = True := eq_true (by omega)
          rw [hpl]
          go_wp2_with (first | (go_at_call 26; refine HWS.out.mono ?_; rintro e w2 ⟨rfl, hb2, hB2⟩; have HB2 := Aside0.mk hb2; have HBB := Aside0.mk (HB.out.trans hB2); clear hb2 hB2) | (go_at_call 27; refine (Bld.len _ _ _ w2 (Or.inr HB2.out)).mono ?_; rintro e w3 ⟨rfl, rfl⟩; rw [hln]))
          go_ret2
          exact ⟨rfl, HBB.out⟩
        · have he := Option.some.inj ((if_neg hg).symm.trans H)
          injection he with he1 he2
          subst he2
          clear H
          have hg2 : ((acc.length : Int) + 2 > 2000) = False := eq_false (by omega)
          have hg3 : ((2000 : Int) < (acc.length : Int) + 2) = False := eq_false (by omega)
          have hst := fun (wx : World) (hbx : Below w.heap.size w wx) (hix : Lib.IsBuilder 64 5 w.heap.size w.heap.size ((acc ++ [13, 10]).map fun x => Value.int .u8 x) wx) => Bld.st w.heap.size w.heap.size ((acc ++ [13, 10]).map fun x : Int => x.toNat.toUInt8) wx (Bld.cells _ hr2 ▸ hix) hbx.size
          have he3 : (⟨((acc ++ [13, 10]).map fun x : Int => x.toNat.toUInt8).toArray⟩ : ByteArray) = r1 := he1
          rw [he3] at hst
          have HST := Aside0.mk hst
          clear hst he1 he3
          rw [hpl]
          go_wp2_with (first | (go_at_call 26; refine HWS.out.mono ?_; rintro e w2 ⟨rfl, hb2, hB2⟩; have HB2 := Aside0.mk hb2; have HBB := Aside0.mk (HB.out.trans hB2); clear hb2 hB2) | (go_at_call 27; refine (Bld.len _ _ _ w2 (Or.inr HB2.out)).mono ?_; rintro e w3 ⟨rfl, rfl⟩; rw [hln]) | (go_at_call 28; refine (HST.out _ HBB.out (Or.inr HB2.out)).mono ?_; rintro e w4 ⟨rfl, hB3⟩))
          go_ret2
          exact ⟨rfl, HBB.out.trans hB3⟩
      · rw [if_neg hl] at H
        cases H
    | cons x t =>
      have H := HA.out
      clear HA
      simp only [field_Put.l0] at H
      obtain ⟨b, hc1, H⟩ := Option.bind_eq_some_iff.mp H
      have C1 := Aside0.mk hc1
      clear hc1
      have hlt : p.length < l0.length := by rw [hlen]; simp
      have hrx : rd_T39 l0 (p.length : Int) = x := by rw [HE.out]; simp [rd_T39]
      have q1 : (p.length : Int) < (l0.length : Int) := by omega
      obtain ⟨ad, ead, hx0, hx1⟩ := at_T39 HR0.out (p.length : Int) (by omega) q1
      cases ead
      rw [hrx] at hx0 hx1
      replace hx0 := (HB.out.cell (World.block_lt_of_cell? w _ hx0)).trans hx0
      replace hx1 := (HB.out.cell (World.block_lt_of_cell? w _ hx1)).trans hx1
      have p1 : (0 ≤ (p.length : Int)) = True := eq_true (by omega)
      replace q1 := eq_true q1
      simp only [Int.toNat_natCast] at hx0 hx1
      clear hrx hlen
      cases b with
      | false =>
        have he := Option.some.inj ((if_neg (by decide : ¬ false = true)).symm.trans H)
        injection he with he1 he2
        subst he1
        subst he2
        clear H
        go_wp2_with (first | ((with_reducible refine gate_dst (N := 6) rfl ?_); refine box_event ?hg (N := 6) ?hd (cs := #[.string (⟨#[]⟩ : ByteArray), .string (⟨#[]⟩ : ByteArray)]) (t := 39) ?hr ?_; (case hd => rfl); (case hg => rfl); (case hr => first | (go_simp; done) | (go_simp; rfl)); intro gb hg w9 hbox hb; have n1_ := Aside0.mk (below_step HB.out hb); have n2_ := Aside0.mk hbox; have GE := Aside0.mk (by rw [hg]; exact hsz : w.heap.size ≤ gb); clear HB; have HB := n1_; have BK := n2_; clear n1_ n2_ hb hbox hg; have hcz0 : w9.cell? ⟨gb, 0, none⟩ = some (.string (⟨#[]⟩ : ByteArray)) := (blk_cell BK.out 0).trans rfl; have hcz1 : w9.cell? ⟨gb, 1, none⟩ = some (.string (⟨#[]⟩ : ByteArray)) := (blk_cell BK.out 1).trans rfl; have hfz0 := blk_frozen BK.out 0; have hfz1 := blk_frozen BK.out 1) | (go_at_call 25; (with_reducible refine (field_Right.calls k x.f0 x.f1 false _ C1.out).mono ?_); rintro e w4 ⟨rfl, hB4⟩; have HB4 := Aside0.mk (below_step (by repeat (first | (with_reducible first | exact HB.out | apply below_alloc | apply pw_below_drewN | apply below_drew1 | refine below_set ?_ GE.out) | exact HB.out)) hB4); clear hB4))
        go_ret2
        exact ⟨rfl, HB4.out⟩
      | true =>
        rw [if_pos rfl] at H
        by_cases hl : acc.length + x.f0.size + x.f1.size + 4 ≤ 1000000000
        · rw [if_pos hl] at H
          have HH := Aside0.mk H
          clear H
          have hl2 : (acc.map fun x => Value.int .u8 x).length + (field_Put.txt x).size ≤ 140737488355328 := by rw [List.length_map, field_Put.txt_size]; omega
          have hws := fun (wx : World) (hbx : Below w.heap.size w wx) (hix : Lib.IsBuilder 64 5 w.heap.size w.heap.size (acc.map fun x => Value.int .u8 x) wx) => Bld.ws w.heap.size w.heap.size _ (field_Put.txt x) wx hix hl2 hbx.size
          have hacc : (acc.map fun x => Value.int .u8 x) ++ Lib.strCells (field_Put.txt x) = (acc ++ field_Put.line x).map fun x => Value.int .u8 x := by rw [field_Put.strc, field_Put.txt_bytes, List.map_append]
          rw [hacc] at hws
          have HWS := Aside0.mk hws
          have HW : Aside0 (wrap64 ((p.length : Int) + 1) = (p.length : Int) + 1) := ⟨by have := HM0.out; unfold wrap64; omega⟩
          have s1 : (9223372036854775807 < x.f0.size + 2) = False := eq_false (by omega)
          have s2 : (9223372036854775807 < x.f0.size + 2 + x.f1.size) = False := eq_false (by omega)
          have s3 : (9223372036854775807 < x.f0.size + 2 + x.f1.size + 2) = False := eq_false (by omega)
          clear hws hacc hl hl2
          go_wp2_with (first | ((with_reducible refine gate_dst (N := 6) rfl ?_); refine box_event ?hg (N := 6) ?hd (cs := #[.string (⟨#[]⟩ : ByteArray), .string (⟨#[]⟩ : ByteArray)]) (t := 39) ?hr ?_; (case hd => rfl); (case hg => rfl); (case hr => first | (go_simp; done) | (go_simp; rfl)); intro gb hg w9 hbox hb; have n1_ := Aside0.mk (below_step HB.out hb); have HJ := Aside0.mk hb; have n2_ := Aside0.mk hbox; have GE := Aside0.mk (by rw [hg]; exact hsz : w.heap.size ≤ gb); have GJ := Aside0.mk (by rw [hg]; exact Nat.le_refl _ : wr.heap.size ≤ gb); clear HB; have HB := n1_; have BK := n2_; clear n1_ n2_ hb hbox hg; have hcz0 : w9.cell? ⟨gb, 0, none⟩ = some (.string (⟨#[]⟩ : ByteArray)) := (blk_cell BK.out 0).trans rfl; have hcz1 : w9.cell? ⟨gb, 1, none⟩ = some (.string (⟨#[]⟩ : ByteArray)) := (blk_cell BK.out 1).trans rfl; have hfz0 := blk_frozen BK.out 0; have hfz1 := blk_frozen BK.out 1) | (go_at_call 25; (with_reducible refine (field_Right.calls k x.f0 x.f1 true _ C1.out).mono ?_); rintro e w4 ⟨rfl, hB4⟩; have HB4 := Aside0.mk (below_step (by repeat (first | (with_reducible first | exact HB.out | apply below_alloc | apply pw_below_drewN | apply below_drew1 | refine below_set ?_ GE.out) | exact HB.out)) hB4); have HJ4 := Aside0.mk (below_step (by repeat (first | (with_reducible first | exact HJ.out | apply below_alloc | apply pw_below_drewN | apply below_drew1 | refine below_set ?_ GJ.out) | exact HJ.out)) hB4); have BK4 := Aside0.mk (blk_below (g := gb) (o := .cells #[.string x.f0, .string x.f1] 39 (0, 0)) (by (with_reducible repeat (first | refine blk_drewN ?_ _ | refine blk_drew ?_ | refine blk_alloc ?_ _)); refine blk_put (cs := #[.string x.f0, .string (⟨#[]⟩ : ByteArray)]) ?_ 1 _ rfl; (with_reducible repeat (first | refine blk_drewN ?_ _ | refine blk_drew ?_ | refine blk_alloc ?_ _)); refine blk_put (cs := #[.string (⟨#[]⟩ : ByteArray), .string (⟨#[]⟩ : ByteArray)]) ?_ 0 _ rfl; (with_reducible repeat (first | refine blk_drewN ?_ _ | refine blk_drew ?_ | refine blk_alloc ?_ _)); exact BK.out) hB4); have hcy0 : w4.cell? ⟨gb, 0, none⟩ = some (.string x.f0) := (blk_cell BK4.out 0).trans rfl; have hcy1 : w4.cell? ⟨gb, 1, none⟩ = some (.string x.f1) := (blk_cell BK4.out 1).trans rfl; clear hB4) | (go_at_call 26; refine (HWS.out _ (pw_below_drewN HB4.out 0) (Bld.isb HI.out HJ4.out)).mono ?_; rintro e w5 ⟨rfl, hb5, hB5⟩; have HB5 := Aside0.mk hb5; have HBD := Aside0.mk (HB4.out.trans hB5); clear hb5 hB5))
          go_roundw
          case measure => exact field_Put.meas _ _ hlt HW.out
          case rel => exact ⟨p ++ [x], t, acc ++ field_Put.line x, by simp [HW.out], ⟨by rw [HE.out]; simp⟩, HH, ⟨fun y hy => (List.mem_append.mp hy).elim (HR.out y) (field_Put.range x y)⟩, HBD, ⟨Or.inr HB5.out⟩⟩
        · rw [if_neg hl] at H
          cases H

/-! ### ask_Put: function 6 -/
open Sq Hand
def ask_Put.j0 : Nat → List (S39) → ByteArray → Int → ByteArray → ByteArray → ByteArray → Int → ByteArray → Option (List Int × Int)
  | 0, _, _, _, _, _, _, _, _ => none
  | k + 1, x6, x196000, x196001, x196002, x196003, x202000, x202001, x202002 => if x196002.toList = ([] : List UInt8) then (if x196003.toList = ([] : List UInt8) then (if x6.length < 4398046511104 then ((field_Put.f k (x6 ++ [(⟨(⟨#[67, 111, 110, 110, 101, 99, 116, 105, 111, 110]⟩ : ByteArray), (⟨#[99, 108, 111, 115, 101]⟩ : ByteArray)⟩ : S39)])).bind fun bt214 => (if 4 + x202002.size ≤ 9223372036854775807 then (if 4 + x202002.size + 1 ≤ 9223372036854775807 then (if 4 + x202002.size + 1 + 8 ≤ 9223372036854775807 then (if 4 + x202002.size + 1 + 8 + 2 ≤ 9223372036854775807 then (if 4 + x202002.size + 1 + 8 + 2 + bt214.1.size ≤ 9223372036854775807 then ((conv_bytes.f ((((((⟨#[71, 69, 84, 32]⟩ : ByteArray) ++ x202002) ++ (⟨#[32]⟩ : ByteArray)) ++ (⟨#[72, 84, 84, 80, 47, 49, 46, 49]⟩ : ByteArray)) ++ (⟨#[13, 10]⟩ : ByteArray)) ++ bt214.1)).bind fun t216 => (some (t216, 0))) else (none)) else (none)) else (none)) else (none)) else (none))) else (none)) else (if x6.length < 4398046511104 then ((some (x6 ++ [(⟨(⟨#[73, 102, 45, 78, 111, 110, 101, 45, 77, 97, 116, 99, 104]⟩ : ByteArray), x196003⟩ : S39)] : List (S39))).bind fun y219 => (if y219.length < 4398046511104 then ((field_Put.f k (y219 ++ [(⟨(⟨#[67, 111, 110, 110, 101, 99, 116, 105, 111, 110]⟩ : ByteArray), (⟨#[99, 108, 111, 115, 101]⟩ : ByteArray)⟩ : S39)])).bind fun bt225 => (if 4 + x202002.size ≤ 9223372036854775807 then (if 4 + x202002.size + 1 ≤ 9223372036854775807 then (if 4 + x202002.size + 1 + 8 ≤ 9223372036854775807 then (if 4 + x202002.size + 1 + 8 + 2 ≤ 9223372036854775807 then (if 4 + x202002.size + 1 + 8 + 2 + bt225.1.size ≤ 9223372036854775807 then ((conv_bytes.f ((((((⟨#[71, 69, 84, 32]⟩ : ByteArray) ++ x202002) ++ (⟨#[32]⟩ : ByteArray)) ++ (⟨#[72, 84, 84, 80, 47, 49, 46, 49]⟩ : ByteArray)) ++ (⟨#[13, 10]⟩ : ByteArray)) ++ bt225.1)).bind fun t227 => (some (t227, 0))) else (none)) else (none)) else (none)) else (none)) else (none))) else (none))) else (none))) else (if x6.length < 4398046511104 then ((some (x6 ++ [(⟨(⟨#[73, 102, 45, 82, 97, 110, 103, 101]⟩ : ByteArray), x196002⟩ : S39)] : List (S39))).bind fun y230 => (if x196003.toList = ([] : List UInt8) then (if y230.length < 4398046511104 then ((field_Put.f k (y230 ++ [(⟨(⟨#[67, 111, 110, 110, 101, 99, 116, 105, 111, 110]⟩ : ByteArray), (⟨#[99, 108, 111, 115, 101]⟩ : ByteArray)⟩ : S39)])).bind fun bt236 => (if 4 + x202002.size ≤ 9223372036854775807 then (if 4 + x202002.size + 1 ≤ 9223372036854775807 then (if 4 + x202002.size + 1 + 8 ≤ 9223372036854775807 then (if 4 + x202002.size + 1 + 8 + 2 ≤ 9223372036854775807 then (if 4 + x202002.size + 1 + 8 + 2 + bt236.1.size ≤ 9223372036854775807 then ((conv_bytes.f ((((((⟨#[71, 69, 84, 32]⟩ : ByteArray) ++ x202002) ++ (⟨#[32]⟩ : ByteArray)) ++ (⟨#[72, 84, 84, 80, 47, 49, 46, 49]⟩ : ByteArray)) ++ (⟨#[13, 10]⟩ : ByteArray)) ++ bt236.1)).bind fun t238 => (some (t238, 0))) else (none)) else (none)) else (none)) else (none)) else (none))) else (none)) else (if y230.length < 4398046511104 then ((some (y230 ++ [(⟨(⟨#[73, 102, 45, 78, 111, 110, 101, 45, 77, 97, 116, 99, 104]⟩ : ByteArray), x196003⟩ : S39)] : List (S39))).bind fun y241 => (if y241.length < 4398046511104 then ((field_Put.f k (y241 ++ [(⟨(⟨#[67, 111, 110, 110, 101, 99, 116, 105, 111, 110]⟩ : ByteArray), (⟨#[99, 108, 111, 115, 101]⟩ : ByteArray)⟩ : S39)])).bind fun bt247 => (if 4 + x202002.size ≤ 9223372036854775807 then (if 4 + x202002.size + 1 ≤ 9223372036854775807 then (if 4 + x202002.size + 1 + 8 ≤ 9223372036854775807 then (if 4 + x202002.size + 1 + 8 + 2 ≤ 9223372036854775807 then (if 4 + x202002.size + 1 + 8 + 2 + bt247.1.size ≤ 9223372036854775807 then ((conv_bytes.f ((((((⟨#[71, 69, 84, 32]⟩ : ByteArray) ++ x202002) ++ (⟨#[32]⟩ : ByteArray)) ++ (⟨#[72, 84, 84, 80, 47, 49, 46, 49]⟩ : ByteArray)) ++ (⟨#[13, 10]⟩ : ByteArray)) ++ bt247.1)).bind fun t249 => (some (t249, 0))) else (none)) else (none)) else (none)) else (none)) else (none))) else (none))) else (none)))) else (none))
def ask_Put.f (k : Nat) (a0_0 : ByteArray) (a0_1 : Int) (a0_2 : ByteArray) (a0_3 : ByteArray) : Option (List Int × Int) := (ask_Right.f k a0_0 a0_1 a0_2 a0_3).bind fun t196 => (if t196 = true then ((ask_place.f k a0_0).bind fun bt197 => ((ask_host.f bt197.1 bt197.2.1 bt197.2.2.1).bind fun t202 => ((some (([(⟨(⟨#[72, 111, 115, 116]⟩ : ByteArray), t202⟩ : S39)] : List (S39)) : List (S39))).bind fun y203 => (if a0_1 ≥ 0 then ((crange_Want.f a0_1).bind fun bt206 => (if y203.length < 4398046511104 then (ask_Put.j0 k (y203 ++ [(⟨(⟨#[82, 97, 110, 103, 101]⟩ : ByteArray), bt206.1⟩ : S39)]) a0_0 a0_1 a0_2 a0_3 bt197.1 bt197.2.1 bt197.2.2.1) else (none))) else (ask_Put.j0 k y203 a0_0 a0_1 a0_2 a0_3 bt197.1 bt197.2.1 bt197.2.2.1))))) else (some (([] : List Int), 1)))
theorem ask_Put.mono_l : ∀ k, (∀ y0 y1 y2 y3 y4 y5 y6 y7, LeO (ask_Put.j0 k y0 y1 y2 y3 y4 y5 y6 y7) (ask_Put.j0 (k + 1) y0 y1 y2 y3 y4 y5 y6 y7))
  | 0 => fun _ _ _ _ _ _ _ _ r h => by simp [ask_Put.j0] at h
  | k + 1 => by
   have ih0 := ask_Put.mono_l k
   ·intro y0 y1 y2 y3 y4 y5 y6 y7
    unfold ask_Put.j0
    repeat' first
    | (with_reducible exact ih0 _ _ _ _ _ _ _ _)
    | (with_reducible exact ask_Right.mono _ _ _ _ _)
    | (with_reducible exact ask_place.mono _ _)
    | (with_reducible exact field_Put.mono _ _)
    | (with_reducible exact LeO.refl _)
    | (with_reducible exact LeO.none _)
    | (with_reducible refine LeO.ite ?_ ?_)
    | (with_reducible refine LeO.bind ?_ (fun _ => ?_))
    | exact ih0 _ _ _ _ _ _ _ _
    | exact ask_Right.mono _ _ _ _ _
    | exact ask_place.mono _ _
    | exact field_Put.mono _ _
    | exact LeO.none _
    | refine LeO.ite ?_ ?_
    | refine LeO.bind ?_ (fun _ => ?_)
theorem ask_Put.mono : ∀ a0 a1 a2 a3 k, LeO (ask_Put.f k a0 a1 a2 a3) (ask_Put.f (k + 1) a0 a1 a2 a3) := by
  intro a0 a1 a2 a3 k
  have ih0 := ask_Put.mono_l k
  unfold ask_Put.f
  repeat' first
    | (with_reducible exact ih0 _ _ _ _ _ _ _ _)
    | (with_reducible exact ask_Right.mono _ _ _ _ _)
    | (with_reducible exact ask_place.mono _ _)
    | (with_reducible exact field_Put.mono _ _)
    | (with_reducible exact LeO.refl _)
    | (with_reducible exact LeO.none _)
    | (with_reducible refine LeO.ite ?_ ?_)
    | (with_reducible refine LeO.bind ?_ (fun _ => ?_))
    | exact ih0 _ _ _ _ _ _ _ _
    | exact ask_Right.mono _ _ _ _ _
    | exact ask_place.mono _ _
    | exact field_Put.mono _ _
    | exact LeO.none _
    | refine LeO.ite ?_ ?_
    | refine LeO.bind ?_ (fun _ => ?_)
set_option maxHeartbeats 8000000 in
set_option maxRecDepth 100000 in
theorem ask_Put.calls (k : Nat) (a0_0 : ByteArray) (a0_1 : Int) (a0_2 : ByteArray) (a0_3 : ByteArray) (r1 : List Int) (r2 : Int) (w : World) (h : ask_Put.f k a0_0 a0_1 a0_2 a0_3 = some (r1, r2)) :
   Calls Tryd.prog 6 #[.agg #[.string a0_0, .int .i64 a0_1, .string a0_2, .string a0_3]] w fun e w' => ∃ v0_ : Value, e = .returned (.tuple #[v0_, .int .i64 r2]) ∧ Kd.V (Kd.int .u8) 5 w' w.heap.size (fun k_ => (w.heap.size ≤ k_)) v0_ r1 ∧ Below w.heap.size w w' := by
  have hu23 := Tryd.underlying23
  have hu34 := Tryd.underlying34
  have hu39 := Tryd.underlying39
  have HB := Aside0.mk (Below.refl w.heap.size w)
  have H : ((ask_Right.f k a0_0 a0_1 a0_2 a0_3).bind fun t196 => (if t196 = true then ((ask_place.f k a0_0).bind fun bt197 => ((ask_host.f bt197.1 bt197.2.1 bt197.2.2.1).bind fun t202 => ((some (([(⟨(⟨#[72, 111, 115, 116]⟩ : ByteArray), t202⟩ : S39)] : List (S39)) : List (S39))).bind fun y203 => (if a0_1 ≥ 0 then ((crange_Want.f a0_1).bind fun bt206 => (if y203.length < 4398046511104 then (ask_Put.j0 k (y203 ++ [(⟨(⟨#[82, 97, 110, 103, 101]⟩ : ByteArray), bt206.1⟩ : S39)]) a0_0 a0_1 a0_2 a0_3 bt197.1 bt197.2.1 bt197.2.2.1) else (none))) else (ask_Put.j0 k y203 a0_0 a0_1 a0_2 a0_3 bt197.1 bt197.2.1 bt197.2.2.1))))) else (some (([] : List Int), 1)))) = some (r1, r2) := h
  clear h
  replace H := Option.bind_eq_some_iff.mp H
  obtain ⟨t196, A20, H⟩ := H
  replace H : (if t196 = true then ((ask_place.f k a0_0).bind fun bt197 => ((ask_host.f bt197.1 bt197.2.1 bt197.2.2.1).bind fun t202 => ((some (([(⟨(⟨#[72, 111, 115, 116]⟩ : ByteArray), t202⟩ : S39)] : List (S39)) : List (S39))).bind fun y203 => (if a0_1 ≥ 0 then ((crange_Want.f a0_1).bind fun bt206 => (if y203.length < 4398046511104 then (ask_Put.j0 k (y203 ++ [(⟨(⟨#[82, 97, 110, 103, 101]⟩ : ByteArray), bt206.1⟩ : S39)]) a0_0 a0_1 a0_2 a0_3 bt197.1 bt197.2.1 bt197.2.2.1) else (none))) else (ask_Put.j0 k y203 a0_0 a0_1 a0_2 a0_3 bt197.1 bt197.2.1 bt197.2.2.1))))) else (some (([] : List Int), 1))) = some (r1, r2) := H
  have A2 := Aside0.mk A20
  clear A20
  by_cases c3 : t196 = true
  ·subst c3
   have H1 : ((ask_place.f k a0_0).bind fun bt197 => ((ask_host.f bt197.1 bt197.2.1 bt197.2.2.1).bind fun t202 => ((some (([(⟨(⟨#[72, 111, 115, 116]⟩ : ByteArray), t202⟩ : S39)] : List (S39)) : List (S39))).bind fun y203 => (if a0_1 ≥ 0 then ((crange_Want.f a0_1).bind fun bt206 => (if y203.length < 4398046511104 then (ask_Put.j0 k (y203 ++ [(⟨(⟨#[82, 97, 110, 103, 101]⟩ : ByteArray), bt206.1⟩ : S39)]) a0_0 a0_1 a0_2 a0_3 bt197.1 bt197.2.1 bt197.2.2.1) else (none))) else (ask_Put.j0 k y203 a0_0 a0_1 a0_2 a0_3 bt197.1 bt197.2.1 bt197.2.2.1))))) = some (r1, r2) := by rw [if_pos rfl] at H; exact H
   clear H
   have H := H1
   clear H1
   replace H := Option.bind_eq_some_iff.mp H
   obtain ⟨⟨t197, t198, t199, t200⟩, A40, H⟩ := H
   replace H : ((ask_host.f t197 t198 t199).bind fun t202 => ((some (([(⟨(⟨#[72, 111, 115, 116]⟩ : ByteArray), t202⟩ : S39)] : List (S39)) : List (S39))).bind fun y203 => (if a0_1 ≥ 0 then ((crange_Want.f a0_1).bind fun bt206 => (if y203.length < 4398046511104 then (ask_Put.j0 k (y203 ++ [(⟨(⟨#[82, 97, 110, 103, 101]⟩ : ByteArray), bt206.1⟩ : S39)]) a0_0 a0_1 a0_2 a0_3 t197 t198 t199) else (none))) else (ask_Put.j0 k y203 a0_0 a0_1 a0_2 a0_3 t197 t198 t199)))) = some (r1, r2) := H
   have A4 := Aside0.mk A40
   clear A40
   replace H := Option.bind_eq_some_iff.mp H
   obtain ⟨t202, A50, H⟩ := H
   replace H : ((some (([(⟨(⟨#[72, 111, 115, 116]⟩ : ByteArray), t202⟩ : S39)] : List (S39)) : List (S39))).bind fun y203 => (if a0_1 ≥ 0 then ((crange_Want.f a0_1).bind fun bt206 => (if y203.length < 4398046511104 then (ask_Put.j0 k (y203 ++ [(⟨(⟨#[82, 97, 110, 103, 101]⟩ : ByteArray), bt206.1⟩ : S39)]) a0_0 a0_1 a0_2 a0_3 t197 t198 t199) else (none))) else (ask_Put.j0 k y203 a0_0 a0_1 a0_2 a0_3 t197 t198 t199))) = some (r1, r2) := H
   have A5 := Aside0.mk A50
   clear A50
   obtain ⟨y203, hy203⟩ : ∃ y_ : List (S39), y_ = (([(⟨(⟨#[72, 111, 115, 116]⟩ : ByteArray), t202⟩ : S39)] : List (S39))) := ⟨_, rfl⟩
   replace H : (if a0_1 ≥ 0 then ((crange_Want.f a0_1).bind fun bt206 => (if y203.length < 4398046511104 then (ask_Put.j0 k (y203 ++ [(⟨(⟨#[82, 97, 110, 103, 101]⟩ : ByteArray), bt206.1⟩ : S39)]) a0_0 a0_1 a0_2 a0_3 t197 t198 t199) else (none))) else (ask_Put.j0 k y203 a0_0 a0_1 a0_2 a0_3 t197 t198 t199)) = some (r1, r2) := by first | (rw [hy203]; with_reducible exact H) | (have H2_ := (Option.bind_some _ _).symm.trans H; rw [hy203]; with_reducible exact H2_) | (have H2_ := (Option.bind_some _ _).symm.trans H; with_reducible exact H2_) | with_reducible exact H | (rw [hy203]; exact H) | exact H
   have Ny203 := Aside0.mk hy203
   clear hy203
   have HC6 := Aside0.mk H
   clear H
   go_enter Tryd.func6, Tryd.ntmps6
   go_upto_if 26 with (first | ((with_reducible refine gate_dst (N := 1) rfl ?_); refine box_event ?hg (N := 1) ?hd (cs := #[.string a0_0, .int .i64 a0_1, .string a0_2, .string a0_3]) (t := 23) ?hr ?_; (case hd => rfl); (case hg => rfl); (case hr => first | (go_simp; done) | (go_simp; rfl)); intro gb195 hg w7 hbox hb; have n0_ := Aside0.mk (below_step (bl_ HB) hb); have n1_ := Aside0.mk (hbox); have n2_ := Aside0.mk ((by rw [hg]; exact (below_size (bl_ HB)) : w.heap.size ≤ gb195)); have n3_ := Aside0.mk ((by rw [hg]; exact (below_size (bl_ HB)) : w.heap.size ≤ gb195)); clear HB; have HB := n0_; have BK195 := n1_; have GW195 := n2_; have GE195 := n3_; clear n0_ n1_ n2_ n3_; clear hb hbox hg; obtain ⟨hcz8_0, hcz8_1, hcz8_2, hcz8_3⟩ := c4_ BK195.out; obtain ⟨hfz8_0, hfz8_1, hfz8_2, hfz8_3⟩ := f4_ BK195.out) | ((with_reducible refine gate_callee (f := 8) rfl ?_); refine goesL_ (some 12) rfl rfl Tryd.func8 (by kernel_rfl) rfl #[.agg #[.string a0_0, .int .i64 a0_1, .string a0_2, .string a0_3]] rfl (by (try simp only [List.map_toArray, List.map_cons, List.map_nil]); first | done | rfl | (simp only [List.length_drop, List.length_take]; rfl)) ?_; (with_reducible refine (ask_Right.calls k a0_0 a0_1 a0_2 a0_3 true _ A2.out).mono ?_); rintro e w9 ⟨rfl, hb⟩; refine ⟨_, rfl, ?_⟩; have n0_ := Aside0.mk (blk_below (g := gb195) (o := .cells #[.string a0_0, .int .i64 a0_1, .string a0_2, .string a0_3] 23 (0, 0)) (sm_ BK195) hb); have n1_ := Aside0.mk (below_step (by repeat (first | (with_reducible first | exact HB.out | apply below_alloc | apply pw_below_drewN | apply below_drew1 | refine below_set ?_ GE195.out) | exact HB.out)) hb); clear BK195; clear HB; have BK195 := n0_; have HB := n1_; clear n0_ n1_; (try clear hb); (try clear hb2); (try clear hk); (try clear hi); obtain ⟨hcz10_0, hcz10_1, hcz10_2, hcz10_3⟩ := c4_ BK195.out; obtain ⟨hfz10_0, hfz10_1, hfz10_2, hfz10_3⟩ := f4_ BK195.out) | ((with_reducible refine gate_callee (f := 9) rfl ?_); refine goesL_ (some 17) rfl rfl Tryd.func9 (by kernel_rfl) rfl #[.string a0_0] rfl (by (try simp only [List.map_toArray, List.map_cons, List.map_nil]); first | done | rfl | (simp only [List.length_drop, List.length_take]; rfl)) ?_; (with_reducible refine (ask_place.calls k a0_0 t197 t198 t199 t200 _ A4.out).mono ?_); rintro e w11 ⟨rfl, hb⟩; refine ⟨_, rfl, ?_⟩; have n0_ := Aside0.mk (blk_below (g := gb195) (o := .cells #[.string a0_0, .int .i64 a0_1, .string a0_2, .string a0_3] 23 (0, 0)) (sm_ BK195) hb); have n1_ := Aside0.mk (below_step (by repeat (first | (with_reducible first | exact HB.out | apply below_alloc | apply pw_below_drewN | apply below_drew1 | refine below_set ?_ GE195.out) | exact HB.out)) hb); clear BK195; clear HB; have BK195 := n0_; have HB := n1_; clear n0_ n1_; (try clear hb); (try clear hb2); (try clear hk); (try clear hi)) | ((with_reducible refine gate_dst (N := 4) rfl ?_); refine box_event ?hg (N := 4) ?hd (cs := #[.string (⟨#[]⟩ : ByteArray), .int .i64 0, .string (⟨#[]⟩ : ByteArray)]) (t := 34) ?hr ?_; (case hd => rfl); (case hg => rfl); (case hr => first | (go_simp; done) | (go_simp; rfl)); intro gb201 hg w12 hbox hb; have n0_ := Aside0.mk (blk_below (g := gb195) (o := .cells #[.string a0_0, .int .i64 a0_1, .string a0_2, .string a0_3] 23 (0, 0)) (sm_ BK195) hb); have n1_ := Aside0.mk (below_step (by repeat (first | (with_reducible first | exact HB.out | apply below_alloc | apply pw_below_drewN | apply below_drew1 | refine below_set ?_ GE195.out) | exact HB.out)) hb); have n2_ := Aside0.mk (hbox); have n3_ := Aside0.mk ((by rw [hg]; exact (below_size (by repeat (first | (with_reducible first | exact HB.out | apply below_alloc | apply pw_below_drewN | apply below_drew1 | refine below_set ?_ GE195.out) | exact HB.out))) : w.heap.size ≤ gb201)); have n4_ := Aside0.mk ((by rw [hg]; exact (below_size (by repeat (first | (with_reducible first | exact HB.out | apply below_alloc | apply pw_below_drewN | apply below_drew1 | refine below_set ?_ GE195.out) | exact HB.out))) : w.heap.size ≤ gb201)); have n5_ := Aside0.mk ((by rw [hg]; exact Nat.ne_of_lt (blk_lt (g := gb195) (o := .cells #[.string a0_0, .int .i64 a0_1, .string a0_2, .string a0_3] 23 (0, 0)) (sm_ BK195)) : gb195 ≠ gb201)); have n6_ := Aside0.mk ((by rw [hg]; exact Nat.ne_of_gt (blk_lt (g := gb195) (o := .cells #[.string a0_0, .int .i64 a0_1, .string a0_2, .string a0_3] 23 (0, 0)) (sm_ BK195)) : gb201 ≠ gb195)); clear BK195; clear HB; have BK195 := n0_; have HB := n1_; have BK201 := n2_; have GW201 := n3_; have GE201 := n4_; have NB195_201 := n5_; have NB201_195 := n6_; clear n0_ n1_ n2_ n3_ n4_ n5_ n6_; clear hb hbox hg; have hnb13 := NB201_195.out; have hnc13 := NB195_201.out; obtain ⟨hcz14_0, hcz14_1, hcz14_2⟩ := c3_ BK201.out; obtain ⟨hfz14_0, hfz14_1, hfz14_2⟩ := f3_ BK201.out) | ((with_reducible refine gate_callee (f := 10) rfl ?_); refine goesL_ (some 21) rfl rfl Tryd.func10 (by kernel_rfl) rfl #[.agg #[.string t197, .int .i64 t198, .string t199]] rfl (by (try simp only [List.map_toArray, List.map_cons, List.map_nil]); first | done | rfl | (simp only [List.length_drop, List.length_take]; rfl)) ?_; (with_reducible refine (ask_host.calls t197 t198 t199 t202 _ A5.out).mono ?_); rintro e w15 ⟨rfl, hb⟩; refine ⟨_, rfl, ?_⟩; have n0_ := Aside0.mk (blk_below (g := gb195) (o := .cells #[.string a0_0, .int .i64 a0_1, .string a0_2, .string a0_3] 23 (0, 0)) (by (with_reducible repeat first | apply blk_drewN | apply blk_drew | apply blk_alloc); refine blk_far ?_ NB195_201.out _; (with_reducible repeat first | apply blk_drewN | apply blk_drew | apply blk_alloc); refine blk_far ?_ NB195_201.out _; (with_reducible repeat first | apply blk_drewN | apply blk_drew | apply blk_alloc); refine blk_far ?_ NB195_201.out _; (with_reducible repeat first | apply blk_drewN | apply blk_drew | apply blk_alloc); exact BK195.out) hb); have n1_ := Aside0.mk (blk_below (g := gb201) (o := .cells #[.string t197, .int .i64 t198, .string t199] 34 (0, 0)) (by (with_reducible repeat first | apply blk_drewN | apply blk_drew | apply blk_alloc); refine blk_put (cs := #[.string t197, .int .i64 t198, .string (⟨#[]⟩ : ByteArray)]) ?_ 2 _ rfl; (with_reducible repeat first | apply blk_drewN | apply blk_drew | apply blk_alloc); refine blk_put (cs := #[.string t197, .int .i64 0, .string (⟨#[]⟩ : ByteArray)]) ?_ 1 _ rfl; (with_reducible repeat first | apply blk_drewN | apply blk_drew | apply blk_alloc); refine blk_put (cs := #[.string (⟨#[]⟩ : ByteArray), .int .i64 0, .string (⟨#[]⟩ : ByteArray)]) ?_ 0 _ rfl; (with_reducible repeat first | apply blk_drewN | apply blk_drew | apply blk_alloc); exact BK201.out) hb); have n2_ := Aside0.mk (below_step (by repeat (with_reducible first | exact HB.out | apply below_alloc | apply pw_below_drewN | apply below_drew1 | refine below_set ?_ (Aside0.out (by assumption)))) hb); clear BK195; clear BK201; clear HB; have BK195 := n0_; have BK201 := n1_; have HB := n2_; clear n0_ n1_ n2_; (try clear hb); (try clear hb2); (try clear hk); (try clear hi)) | ((with_reducible refine gate_dst (N := 23) rfl ?_); refine Kd.R_lit k39 _ 39 ?hg (N := 23) ?hd (xs := ([(⟨(⟨#[72, 111, 115, 116]⟩ : ByteArray), t202⟩ : S39)] : List (S39))) (inner := [.string (⟨#[72, 111, 115, 116]⟩ : ByteArray), .string t202]) (ok := fun _ => True) (okp := fun _ => True) ?hr ?hp (fun _ hk => hk) trivial (Below.refl _ _) (Nat.le_refl _) (by simp) ?_; (case hd => rfl); (case hg => rfl); (case hr => first | (go_simp; done) | (go_simp; rfl)); (case hp => exact (Reps.c2 (show Kd.M k39 _ _ _ (⟨(⟨#[72, 111, 115, 116]⟩ : ByteArray), t202⟩ : S39) [.string (⟨#[72, 111, 115, 116]⟩ : ByteArray), .string t202] from (k39_mkM _ _ _ (⟨(⟨#[72, 111, 115, 116]⟩ : ByteArray), t202⟩ : S39) )) (Reps.none _ _))); intro v204 w16 ho17 hb hg_ hnew_; clear hg_ hnew_; (first | rw [← Ny203.out] at ho17 | (simp only [Int.reduceToNat] at ho17; rw [← Ny203.out] at ho17)); have n0_ := Aside0.mk (Kd.R_lower (Kd.R_newM (M := fun k_ => (w.heap.size ≤ k_)) ho17 (below_size (by repeat (with_reducible first | exact HB.out | apply below_alloc | apply pw_below_drewN | apply below_drew1 | refine below_set ?_ (Aside0.out (by assumption))))) (fun k_ h_ => h_)) (below_size (by repeat (with_reducible first | exact HB.out | apply below_alloc | apply pw_below_drewN | apply below_drew1 | refine below_set ?_ (Aside0.out (by assumption)))))); have n1_ := Aside0.mk (blk_below (g := gb195) (o := .cells #[.string a0_0, .int .i64 a0_1, .string a0_2, .string a0_3] 23 (0, 0)) (sm_ BK195) hb); have n2_ := Aside0.mk (blk_below (g := gb201) (o := .cells #[.string t197, .int .i64 t198, .string t199] 34 (0, 0)) (sm_ BK201) hb); have n3_ := Aside0.mk (below_step (by repeat (with_reducible first | exact HB.out | apply below_alloc | apply pw_below_drewN | apply below_drew1 | refine below_set ?_ (Aside0.out (by assumption)))) hb); clear BK195; clear BK201; clear HB; have HO205 := n0_; have BK195 := n1_; have BK201 := n2_; have HB := n3_; clear n0_ n1_ n2_ n3_; clear hb ho17; obtain ⟨hcz18_0, hcz18_1, hcz18_2, hcz18_3⟩ := c4_ BK195.out; obtain ⟨hfz18_0, hfz18_1, hfz18_2, hfz18_3⟩ := f4_ BK195.out))
   (try simp only [Act.put, List.setIfInBounds_toArray, List.set_cons_zero, List.set_cons_succ])
   go_cut [6] (fun v6 wc => ∃ (kq : Nat) (x6_5 : List (S39)), Aside0 (ask_Put.j0 kq x6_5 a0_0 a0_1 a0_2 a0_3 t197 t198 t199 = some (r1, r2)) ∧ Aside0 (kq ≤ k) ∧ Aside0 (Kd.R k39 39 wc w.heap.size (fun k_ => (w.heap.size ≤ k_)) v6 x6_5) ∧ Aside0 (wc.heap[gb195]? = some (.cells #[.string a0_0, .int .i64 a0_1, .string a0_2, .string a0_3] 23 (0, 0))) ∧ Aside0 (wc.heap[gb201]? = some (.cells #[.string t197, .int .i64 t198, .string t199] 34 (0, 0))) ∧ Aside0 (Below w.heap.size w wc))
   case first =>
    have H := HC6.out
    clear HC6
    by_cases c19 : a0_1 ≥ 0
    ·as_aux_lemma =>
     rw [if_pos c19] at H
     have c19b0 : decide (0 ≤ a0_1) = true := decide_eq_true c19
     clear c19
     (first | rw [c19b0] | (simp only [i64_w, i32_w]; rw [c19b0]) | skip)
     replace H := Option.bind_eq_some_iff.mp H
     obtain ⟨⟨t206, t207⟩, A200, H⟩ := H
     replace H : (if y203.length < 4398046511104 then (ask_Put.j0 k (y203 ++ [(⟨(⟨#[82, 97, 110, 103, 101]⟩ : ByteArray), t206⟩ : S39)]) a0_0 a0_1 a0_2 a0_3 t197 t198 t199) else (none)) = some (r1, r2) := H
     have A20 := Aside0.mk A200
     clear A200
     by_cases c21 : y203.length < 4398046511104
     ·as_aux_lemma =>
      rw [if_pos c21] at H
      have LMc21 := Aside0.mk c21
      clear c21
      obtain ⟨y208, hy208⟩ : ∃ y_ : List (S39), y_ = (y203 ++ [(⟨(⟨#[82, 97, 110, 103, 101]⟩ : ByteArray), t206⟩ : S39)]) := ⟨_, rfl⟩
      replace H : (ask_Put.j0 k y208 a0_0 a0_1 a0_2 a0_3 t197 t198 t199) = some (r1, r2) := by first | (rw [hy208]; with_reducible exact H) | (have H2_ := (Option.bind_some _ _).symm.trans H; rw [hy208]; with_reducible exact H2_) | (have H2_ := (Option.bind_some _ _).symm.trans H; with_reducible exact H2_) | with_reducible exact H | (rw [hy208]; exact H) | exact H
      have Ny208 := Aside0.mk hy208
      clear hy208
      have H' := Aside0.mk H
      clear H
      have hnb22 := NB195_201.out
      have hnc22 := NB201_195.out
      obtain ⟨hcz23_0, hcz23_1, hcz23_2, hcz23_3⟩ := c4_ BK195.out
      obtain ⟨hfz23_0, hfz23_1, hfz23_2, hfz23_3⟩ := f4_ BK195.out
      go_wp2_with (first | ((with_reducible refine gate_callee (f := 11) rfl ?_); refine goesL_ (some 30) rfl rfl Tryd.func11 (by kernel_rfl) rfl #[.int .i64 a0_1] rfl (by (try simp only [List.map_toArray, List.map_cons, List.map_nil]); first | done | rfl | (simp only [List.length_drop, List.length_take]; rfl)) ?_; (with_reducible refine (crange_Want.calls a0_1 t206 t207 _ A20.out).mono ?_); rintro e w24 ⟨rfl, hb⟩; refine ⟨_, rfl, ?_⟩; have n0_ := Aside0.mk (Kd.R_below (by (with_reducible repeat (first | apply Kd.R_alloc | apply Kd.R_drewN | apply Kd.R_drew)); exact HO205.out) hb); have n1_ := Aside0.mk (blk_below (g := gb195) (o := .cells #[.string a0_0, .int .i64 a0_1, .string a0_2, .string a0_3] 23 (0, 0)) (sm_ BK195) hb); have n2_ := Aside0.mk (blk_below (g := gb201) (o := .cells #[.string t197, .int .i64 t198, .string t199] 34 (0, 0)) (sm_ BK201) hb); have n3_ := Aside0.mk (below_step (by repeat (with_reducible first | exact HB.out | apply below_alloc | apply pw_below_drewN | apply below_drew1 | refine below_set ?_ (Aside0.out (by assumption)))) hb); clear HO205; clear BK195; clear BK201; clear HB; have HO205 := n0_; have BK195 := n1_; have BK201 := n2_; have HB := n3_; clear n0_ n1_ n2_ n3_; (try clear hb); (try clear hb2); (try clear hk); (try clear hi)) | ((with_reducible refine gate_builtin (b := .append) (xs := #[.tmp 33, .tmp 36]) rfl ?_); at_builtin; refine Kd.R_append k39 (w0 := w) w.heap.size rfl (.tmp 33) (.tmp 36) 40 39 (.agg #[(.string ⟨#[]⟩), (.string ⟨#[]⟩)]) 32 rfl Tryd.underlying40 info39 rfl (by decide) (by omega) v204 y203 (⟨(⟨#[82, 97, 110, 103, 101]⟩ : ByteArray), t206⟩ : S39) [.string (⟨#[82, 97, 110, 103, 101]⟩ : ByteArray), .string t206] (fun k_ => (w.heap.size ≤ k_)) (fun _ => False) rfl rfl ?aP (fun _ hk => hk.elim) ?aF ?aO ?aB ?aS ?aL ?_; (case aP => exact k39_mkM _ _ _ (⟨(⟨#[82, 97, 110, 103, 101]⟩ : ByteArray), t206⟩ : S39)); (case aB => exact (by repeat (with_reducible first | exact HB.out | apply below_alloc | apply pw_below_drewN | apply below_drew1 | refine below_set ?_ (Aside0.out (by assumption))))); (case aF => exact (fun k_ hk => (Nat.le_trans (below_size (by repeat (with_reducible first | exact HB.out | apply below_alloc | apply pw_below_drewN | apply below_drew1 | refine below_set ?_ (Aside0.out (by assumption))))) hk))); (case aO => exact (by (with_reducible repeat (first | apply Kd.R_alloc | apply Kd.R_drewN | apply Kd.R_drew)); exact Kd.R_mono HO205.out (fun _ hk => hk.1))); (case aS => exact (below_size (by repeat (with_reducible first | exact HB.out | apply below_alloc | apply pw_below_drewN | apply below_drew1 | refine below_set ?_ (Aside0.out (by assumption)))))); (case aL => have := LMc21.out; omega); intro v209 w25 ho hb hg hat; rw [← Ny208.out] at ho; have n0_ := Aside0.mk (blk_grown (g := gb195) (o := .cells #[.string a0_0, .int .i64 a0_1, .string a0_2, .string a0_3] 23 (0, 0)) (sm_ BK195) hg (Kd.R_ne HO205.out BK195.out (by decide))); have n1_ := Aside0.mk (blk_grown (g := gb201) (o := .cells #[.string t197, .int .i64 t198, .string t199] 34 (0, 0)) (sm_ BK201) hg (Kd.R_ne HO205.out BK201.out (by decide))); have n2_ := Aside0.mk (hb); have n3_ := Aside0.mk (ho); clear BK195; clear BK201; clear HB; clear HO205; have BK195 := n0_; have BK201 := n1_; have HB := n2_; have HO210 := n3_; clear n0_ n1_ n2_ n3_; clear ho hb hg hat))
      go_meet
      case rel => exact ⟨_, (y208), H', ⟨by first | omega | exact Nat.le_refl _⟩, ⟨by (with_reducible repeat (first | apply Kd.R_alloc | apply Kd.R_drewN | apply Kd.R_drew)); exact HO210.out⟩, ⟨by (with_reducible repeat first | apply blk_drewN | apply blk_drew | apply blk_alloc); exact BK195.out⟩, ⟨by (with_reducible repeat first | apply blk_drewN | apply blk_drew | apply blk_alloc); exact BK201.out⟩, ⟨by repeat (with_reducible first | exact HB.out | apply below_alloc | apply pw_below_drewN | apply below_drew1 | refine below_set ?_ (Aside0.out (by assumption)))⟩⟩
     ·as_aux_lemma =>
      rw [if_neg c21] at H
      exact absurd H (by simp)
    ·as_aux_lemma =>
     rw [if_neg c19] at H
     have c19b0 : decide (0 ≤ a0_1) = false := decide_eq_false c19
     clear c19
     (first | rw [c19b0] | (simp only [i64_w, i32_w]; rw [c19b0]) | skip)
     have H' := Aside0.mk H
     clear H
     go_wp2
     go_meet
     case rel => exact ⟨_, (y203), H', ⟨by first | omega | exact Nat.le_refl _⟩, ⟨by (with_reducible repeat (first | apply Kd.R_alloc | apply Kd.R_drewN | apply Kd.R_drew)); exact Kd.R_mono HO205.out (fun _ hk => hk.1)⟩, ⟨by (with_reducible repeat first | apply blk_drewN | apply blk_drew | apply blk_alloc); exact BK195.out⟩, ⟨by (with_reducible repeat first | apply blk_drewN | apply blk_drew | apply blk_alloc); exact BK201.out⟩, ⟨by repeat (with_reducible first | exact HB.out | apply below_alloc | apply pw_below_drewN | apply below_drew1 | refine below_set ?_ (Aside0.out (by assumption)))⟩⟩
   case rest =>
    clear HC6
    (try clear c1); (try clear c2); (try clear p2); (try clear c3); (try clear c6); (try clear c8); (try clear c9); (try clear c10); (try clear c11); (try clear c13); (try clear c19); (try clear c19b0); (try clear c21); (try clear c22); (try clear hcz10_0); (try clear hcz10_1); (try clear hcz10_2); (try clear hcz10_3); (try clear hcz14_0); (try clear hcz14_1); (try clear hcz14_2); (try clear hcz18_0); (try clear hcz18_1); (try clear hcz18_2); (try clear hcz18_3); (try clear hcz23_0); (try clear hcz23_1); (try clear hcz23_2); (try clear hcz23_3); (try clear hcz8_0); (try clear hcz8_1); (try clear hcz8_2); (try clear hcz8_3); (try clear hfz10_0); (try clear hfz10_1); (try clear hfz10_2); (try clear hfz10_3); (try clear hfz14_0); (try clear hfz14_1); (try clear hfz14_2); (try clear hfz18_0); (try clear hfz18_1); (try clear hfz18_2); (try clear hfz18_3); (try clear hfz23_0); (try clear hfz23_1); (try clear hfz23_2); (try clear hfz23_3); (try clear hfz8_0); (try clear hfz8_1); (try clear hfz8_2); (try clear hfz8_3)
    obtain ⟨kq, x6_5, HA, HJ5, HO_6, BK195, BK201, HB⟩ := hcut
    cases kq with
    | zero => exact absurd HA.out (by simp [ask_Put.j0])
    | succ kj5 =>
     have H := HA.out
     clear HA
     simp only [ask_Put.j0] at H
     by_cases c26 : a0_2.toList = ([] : List UInt8)
     ·as_aux_lemma =>
      rw [if_pos c26] at H
      have c26b0 : (a0_2.toList == ([] : List UInt8)) = true := beq_iff_eq.mpr c26
      have c26b1 : (a0_2.toList != ([] : List UInt8)) = false := bne_eq_false_iff_eq.mpr c26
      have c26b2 : a0_2.toList.isEmpty = true := List.isEmpty_iff.mpr c26
      clear c26
      by_cases c27 : a0_3.toList = ([] : List UInt8)
      ·as_aux_lemma =>
       rw [if_pos c27] at H
       have c27b0 : (a0_3.toList == ([] : List UInt8)) = true := beq_iff_eq.mpr c27
       have c27b1 : (a0_3.toList != ([] : List UInt8)) = false := bne_eq_false_iff_eq.mpr c27
       have c27b2 : a0_3.toList.isEmpty = true := List.isEmpty_iff.mpr c27
       clear c27
       by_cases c28 : x6_5.length < 4398046511104
       ·as_aux_lemma =>
        rw [if_pos c28] at H
        have LMc28 := Aside0.mk c28
        clear c28
        obtain ⟨y211, hy211⟩ : ∃ y_ : List (S39), y_ = (x6_5 ++ [(⟨(⟨#[67, 111, 110, 110, 101, 99, 116, 105, 111, 110]⟩ : ByteArray), (⟨#[99, 108, 111, 115, 101]⟩ : ByteArray)⟩ : S39)]) := ⟨_, rfl⟩
        replace H : ((field_Put.f kj5 y211).bind fun bt214 => (if 4 + t199.size ≤ 9223372036854775807 then (if 4 + t199.size + 1 ≤ 9223372036854775807 then (if 4 + t199.size + 1 + 8 ≤ 9223372036854775807 then (if 4 + t199.size + 1 + 8 + 2 ≤ 9223372036854775807 then (if 4 + t199.size + 1 + 8 + 2 + bt214.1.size ≤ 9223372036854775807 then ((conv_bytes.f ((((((⟨#[71, 69, 84, 32]⟩ : ByteArray) ++ t199) ++ (⟨#[32]⟩ : ByteArray)) ++ (⟨#[72, 84, 84, 80, 47, 49, 46, 49]⟩ : ByteArray)) ++ (⟨#[13, 10]⟩ : ByteArray)) ++ bt214.1)).bind fun t216 => (some (t216, 0))) else (none)) else (none)) else (none)) else (none)) else (none))) = some (r1, r2) := by first | (rw [hy211]; with_reducible exact H) | (have H2_ := (Option.bind_some _ _).symm.trans H; rw [hy211]; with_reducible exact H2_) | (have H2_ := (Option.bind_some _ _).symm.trans H; with_reducible exact H2_) | with_reducible exact H | (rw [hy211]; exact H) | exact H
        have Ny211 := Aside0.mk hy211
        clear hy211
        replace H := Option.bind_eq_some_iff.mp H
        obtain ⟨⟨t214, t215⟩, A290, H⟩ := H
        replace H : (if 4 + t199.size ≤ 9223372036854775807 then (if 4 + t199.size + 1 ≤ 9223372036854775807 then (if 4 + t199.size + 1 + 8 ≤ 9223372036854775807 then (if 4 + t199.size + 1 + 8 + 2 ≤ 9223372036854775807 then (if 4 + t199.size + 1 + 8 + 2 + t214.size ≤ 9223372036854775807 then ((conv_bytes.f ((((((⟨#[71, 69, 84, 32]⟩ : ByteArray) ++ t199) ++ (⟨#[32]⟩ : ByteArray)) ++ (⟨#[72, 84, 84, 80, 47, 49, 46, 49]⟩ : ByteArray)) ++ (⟨#[13, 10]⟩ : ByteArray)) ++ t214)).bind fun t216 => (some (t216, 0))) else (none)) else (none)) else (none)) else (none)) else (none)) = some (r1, r2) := H
        have A29 := Aside0.mk A290
        clear A290
        by_cases c30 : 4 + t199.size ≤ 9223372036854775807
        ·as_aux_lemma =>
         rw [if_pos c30] at H
         have c30b0 := eq_true c30
         have c30b1 : decide (4 + t199.size ≤ 9223372036854775807) = true := decide_eq_true c30
         try have c30b2 : (9223372036854775807 < 4 + t199.size) = False := eq_false (Nat.not_lt.2 c30)
         by_cases c31 : 4 + t199.size + 1 ≤ 9223372036854775807
         ·as_aux_lemma =>
          rw [if_pos c31] at H
          have c31b0 := eq_true c31
          have c31b1 : decide (4 + t199.size + 1 ≤ 9223372036854775807) = true := decide_eq_true c31
          try have c31b2 : (9223372036854775807 < 4 + t199.size + 1) = False := eq_false (Nat.not_lt.2 c31)
          by_cases c32 : 4 + t199.size + 1 + 8 ≤ 9223372036854775807
          ·as_aux_lemma =>
           rw [if_pos c32] at H
           have c32b0 := eq_true c32
           have c32b1 : decide (4 + t199.size + 1 + 8 ≤ 9223372036854775807) = true := decide_eq_true c32
           try have c32b2 : (9223372036854775807 < 4 + t199.size + 1 + 8) = False := eq_false (Nat.not_lt.2 c32)
           by_cases c33 : 4 + t199.size + 1 + 8 + 2 ≤ 9223372036854775807
           ·as_aux_lemma =>
            rw [if_pos c33] at H
            have c33b0 := eq_true c33
            have c33b1 : decide (4 + t199.size + 1 + 8 + 2 ≤ 9223372036854775807) = true := decide_eq_true c33
            try have c33b2 : (9223372036854775807 < 4 + t199.size + 1 + 8 + 2) = False := eq_false (Nat.not_lt.2 c33)
            by_cases c34 : 4 + t199.size + 1 + 8 + 2 + t214.size ≤ 9223372036854775807
            ·as_aux_lemma =>
             rw [if_pos c34] at H
             have c34b0 := eq_true c34
             have c34b1 : decide (4 + t199.size + 1 + 8 + 2 + t214.size ≤ 9223372036854775807) = true := decide_eq_true c34
             try have c34b2 : (9223372036854775807 < 4 + t199.size + 1 + 8 + 2 + t214.size) = False := eq_false (Nat.not_lt.2 c34)
             replace H := Option.bind_eq_some_iff.mp H
             obtain ⟨t216, A350, H⟩ := H
             replace H : (some (t216, 0)) = some (r1, r2) := H
             have A35 := Aside0.mk A350
             clear A350
             simp only [Option.some.injEq, Prod.mk.injEq] at H
             obtain ⟨rfl, rfl⟩ := H
             have hnb36 := NB195_201.out
             have hnc36 := NB201_195.out
             obtain ⟨hcz37_0, hcz37_1, hcz37_2, hcz37_3⟩ := c4_ BK195.out
             obtain ⟨hfz37_0, hfz37_1, hfz37_2, hfz37_3⟩ := f4_ BK195.out
             go_wp2_with (first | ((with_reducible refine gate_builtin (b := .append) (xs := #[.tmp 57, .tmp 59]) rfl ?_); at_builtin; refine Kd.R_append k39 (w0 := w) w.heap.size rfl (.tmp 57) (.tmp 59) 40 39 (.agg #[(.string ⟨#[]⟩), (.string ⟨#[]⟩)]) 32 rfl Tryd.underlying40 info39 rfl (by decide) (by omega) u6 x6_5 (⟨(⟨#[67, 111, 110, 110, 101, 99, 116, 105, 111, 110]⟩ : ByteArray), (⟨#[99, 108, 111, 115, 101]⟩ : ByteArray)⟩ : S39) [.string (⟨#[67, 111, 110, 110, 101, 99, 116, 105, 111, 110]⟩ : ByteArray), .string (⟨#[99, 108, 111, 115, 101]⟩ : ByteArray)] (fun k_ => (w.heap.size ≤ k_)) (fun _ => False) rfl rfl ?aP (fun _ hk => hk.elim) ?aF ?aO ?aB ?aS ?aL ?_; (case aP => exact k39_mkM _ _ _ (⟨(⟨#[67, 111, 110, 110, 101, 99, 116, 105, 111, 110]⟩ : ByteArray), (⟨#[99, 108, 111, 115, 101]⟩ : ByteArray)⟩ : S39)); (case aB => exact (by repeat (with_reducible first | exact HB.out | apply below_alloc | apply pw_below_drewN | apply below_drew1 | refine below_set ?_ (Aside0.out (by assumption))))); (case aF => exact (fun k_ hk => (Nat.le_trans (below_size (by repeat (with_reducible first | exact HB.out | apply below_alloc | apply pw_below_drewN | apply below_drew1 | refine below_set ?_ (Aside0.out (by assumption))))) hk))); (case aO => exact (by (with_reducible repeat (first | apply Kd.R_alloc | apply Kd.R_drewN | apply Kd.R_drew)); exact HO_6.out)); (case aS => exact (below_size (by repeat (with_reducible first | exact HB.out | apply below_alloc | apply pw_below_drewN | apply below_drew1 | refine below_set ?_ (Aside0.out (by assumption)))))); (case aL => have := LMc28.out; omega); intro v212 w38 ho hb hg hat; rw [← Ny211.out] at ho; have n0_ := Aside0.mk (blk_grown (g := gb195) (o := .cells #[.string a0_0, .int .i64 a0_1, .string a0_2, .string a0_3] 23 (0, 0)) (sm_ BK195) hg (Kd.R_ne HO_6.out BK195.out (by decide))); have n1_ := Aside0.mk (blk_grown (g := gb201) (o := .cells #[.string t197, .int .i64 t198, .string t199] 34 (0, 0)) (sm_ BK201) hg (Kd.R_ne HO_6.out BK201.out (by decide))); have n2_ := Aside0.mk (hb); have n3_ := Aside0.mk (ho); clear BK195; clear BK201; clear HB; clear HO_6; have BK195 := n0_; have BK201 := n1_; have HB := n2_; have HO213 := n3_; clear n0_ n1_ n2_ n3_; clear ho hb hg hat; obtain ⟨Ao39, co39, eo39⟩ := Kd.R_slice HO213.out; subst eo39) | ((with_reducible refine gate_callee (f := 12) rfl ?_); refine goesL_ (some 61) rfl rfl Tryd.func12 (by kernel_rfl) rfl #[.slice Ao39 y211.length co39] rfl (by (try simp only [List.map_toArray, List.map_cons, List.map_nil]); first | done | rfl | (simp only [List.length_drop, List.length_take]; rfl)) ?_; (with_reducible refine (field_Put.calls kj5 _ _ y211 t214 t215 _ ?side1 ?side2 A29.out).mono ?_); (case side1 => repeat (first | exact (Kd.R_reads' HO213.out).2.2 | (with_reducible refine Kd.C_alloc ?_ _) | (with_reducible refine Kd.C_drewN ?_ _) | (with_reducible refine Kd.C_drew ?_))); (case side2 => exact (Kd.R_reads' HO213.out).2.1); rintro e w40 ⟨rfl, hb⟩; refine ⟨_, rfl, ?_⟩; have n0_ := Aside0.mk (Kd.R_below (by (with_reducible repeat (first | apply Kd.R_alloc | apply Kd.R_drewN | apply Kd.R_drew)); exact HO213.out) hb); have n1_ := Aside0.mk (blk_below (g := gb195) (o := .cells #[.string a0_0, .int .i64 a0_1, .string a0_2, .string a0_3] 23 (0, 0)) (sm_ BK195) hb); have n2_ := Aside0.mk (blk_below (g := gb201) (o := .cells #[.string t197, .int .i64 t198, .string t199] 34 (0, 0)) (sm_ BK201) hb); have n3_ := Aside0.mk (below_step (by repeat (with_reducible first | exact HB.out | apply below_alloc | apply pw_below_drewN | apply below_drew1 | refine below_set ?_ (Aside0.out (by assumption)))) hb); clear HO213; clear BK195; clear BK201; clear HB; have HO213 := n0_; have BK195 := n1_; have BK201 := n2_; have HB := n3_; clear n0_ n1_ n2_ n3_; (try clear hb); (try clear hb2); (try clear hk); (try clear hi); obtain ⟨hcz41_0, hcz41_1, hcz41_2⟩ := c3_ BK201.out; obtain ⟨hfz41_0, hfz41_1, hfz41_2⟩ := f3_ BK201.out) | ((with_reducible refine gate_dst (N := 72) rfl ?_); refine Hand.conv_event rfl 9 24 5 (.tmp 71) rfl Tryd.underlying9 Tryd.underlying24 Tryd.underlying5 ((((((⟨#[71, 69, 84, 32]⟩ : ByteArray) ++ t199) ++ (⟨#[32]⟩ : ByteArray)) ++ (⟨#[72, 84, 84, 80, 47, 49, 46, 49]⟩ : ByteArray)) ++ (⟨#[13, 10]⟩ : ByteArray)) ++ t214) t216 ?co A35.out ?_; (case co => first | rfl | (go_simp; done) | (go_simp; rfl)); intro v217 w42 ho0 hb; have n0_ := Aside0.mk (Kd.R_below (by (with_reducible repeat (first | apply Kd.R_alloc | apply Kd.R_drewN | apply Kd.R_drew)); exact HO213.out) hb); have n1_ := Aside0.mk (Kd.V_lower (Kd.V_mono (ok' := fun k_ => (w.heap.size ≤ k_) ∧ some k_ ≠ (.slice Ao39 y211.length co39 : Value).ownBlock ∧ k_ ≠ gb195 ∧ k_ ≠ gb201) ho0 (fun k_ hk_ => ⟨(Nat.le_trans (below_size (by repeat (with_reducible first | exact HB.out | apply below_alloc | apply pw_below_drewN | apply below_drew1 | refine below_set ?_ (Aside0.out (by assumption))))) hk_), (Kd.fresh' (Kd.R_lt (by (with_reducible repeat (first | apply Kd.R_alloc | apply Kd.R_drewN | apply Kd.R_drew)); exact HO213.out)) k_ hk_), (Kd.freshB (g := gb195) (o := .cells #[.string a0_0, .int .i64 a0_1, .string a0_2, .string a0_3] 23 (0, 0)) (sm_ BK195) k_ hk_), (Kd.freshB (g := gb201) (o := .cells #[.string t197, .int .i64 t198, .string t199] 34 (0, 0)) (sm_ BK201) k_ hk_)⟩)) (below_size (by repeat (with_reducible first | exact HB.out | apply below_alloc | apply pw_below_drewN | apply below_drew1 | refine below_set ?_ (Aside0.out (by assumption)))))); have n2_ := Aside0.mk (blk_below (g := gb195) (o := .cells #[.string a0_0, .int .i64 a0_1, .string a0_2, .string a0_3] 23 (0, 0)) (sm_ BK195) hb); have n3_ := Aside0.mk (blk_below (g := gb201) (o := .cells #[.string t197, .int .i64 t198, .string t199] 34 (0, 0)) (sm_ BK201) hb); have n4_ := Aside0.mk (below_step (by repeat (with_reducible first | exact HB.out | apply below_alloc | apply pw_below_drewN | apply below_drew1 | refine below_set ?_ (Aside0.out (by assumption)))) hb); clear HO213; clear BK195; clear BK201; clear HB; have HO213 := n0_; have HO218 := n1_; have BK195 := n2_; have BK201 := n3_; have HB := n4_; clear n0_ n1_ n2_ n3_ n4_; (try clear hb); (try clear hb2); (try clear hk); (try clear hi); (try clear ho0)))
             go_ret2
             exact ⟨_, by first | rfl | (simp [errW_none, errW_some] <;> rfl) | (simp [*, errW_none, errW_some] <;> rfl), by (with_reducible repeat (first | apply Kd.V_alloc | apply Kd.V_drewN | apply Kd.V_drew)); exact Kd.V_mono HO218.out (fun _ hk => hk.1), by repeat (with_reducible first | exact HB.out | apply below_alloc | apply pw_below_drewN | apply below_drew1 | refine below_set ?_ (Aside0.out (by assumption)))⟩
            ·as_aux_lemma =>
             rw [if_neg c34] at H
             exact absurd H (by simp)
           ·as_aux_lemma =>
            rw [if_neg c33] at H
            exact absurd H (by simp)
          ·as_aux_lemma =>
           rw [if_neg c32] at H
           exact absurd H (by simp)
         ·as_aux_lemma =>
          rw [if_neg c31] at H
          exact absurd H (by simp)
        ·as_aux_lemma =>
         rw [if_neg c30] at H
         exact absurd H (by simp)
       ·as_aux_lemma =>
        rw [if_neg c28] at H
        exact absurd H (by simp)
      ·as_aux_lemma =>
       rw [if_neg c27] at H
       have c27b0 : (a0_3.toList == ([] : List UInt8)) = false := beq_eq_false_iff_ne.mpr c27
       have c27b1 : (a0_3.toList != ([] : List UInt8)) = true := bne_iff_ne.mpr c27
       have c27b2 : a0_3.toList.isEmpty = false := Bool.eq_false_iff.mpr fun h_ => c27 (List.isEmpty_iff.mp h_)
       by_cases c43 : x6_5.length < 4398046511104
       ·as_aux_lemma =>
        rw [if_pos c43] at H
        have LMc43 := Aside0.mk c43
        clear c43
        obtain ⟨y219, hy219⟩ : ∃ y_ : List (S39), y_ = (x6_5 ++ [(⟨(⟨#[73, 102, 45, 78, 111, 110, 101, 45, 77, 97, 116, 99, 104]⟩ : ByteArray), a0_3⟩ : S39)]) := ⟨_, rfl⟩
        replace H : (if y219.length < 4398046511104 then ((field_Put.f kj5 (y219 ++ [(⟨(⟨#[67, 111, 110, 110, 101, 99, 116, 105, 111, 110]⟩ : ByteArray), (⟨#[99, 108, 111, 115, 101]⟩ : ByteArray)⟩ : S39)])).bind fun bt225 => (if 4 + t199.size ≤ 9223372036854775807 then (if 4 + t199.size + 1 ≤ 9223372036854775807 then (if 4 + t199.size + 1 + 8 ≤ 9223372036854775807 then (if 4 + t199.size + 1 + 8 + 2 ≤ 9223372036854775807 then (if 4 + t199.size + 1 + 8 + 2 + bt225.1.size ≤ 9223372036854775807 then ((conv_bytes.f ((((((⟨#[71, 69, 84, 32]⟩ : ByteArray) ++ t199) ++ (⟨#[32]⟩ : ByteArray)) ++ (⟨#[72, 84, 84, 80, 47, 49, 46, 49]⟩ : ByteArray)) ++ (⟨#[13, 10]⟩ : ByteArray)) ++ bt225.1)).bind fun t227 => (some (t227, 0))) else (none)) else (none)) else (none)) else (none)) else (none))) else (none)) = some (r1, r2) := by first | (rw [hy219]; with_reducible exact H) | (have H2_ := (Option.bind_some _ _).symm.trans H; rw [hy219]; with_reducible exact H2_) | (have H2_ := (Option.bind_some _ _).symm.trans H; with_reducible exact H2_) | with_reducible exact H | (rw [hy219]; exact H) | exact H
        have Ny219 := Aside0.mk hy219
        clear hy219
        by_cases c44 : y219.length < 4398046511104
        ·as_aux_lemma =>
         rw [if_pos c44] at H
         have LMc44 := Aside0.mk c44
         clear c44
         obtain ⟨y222, hy222⟩ : ∃ y_ : List (S39), y_ = (y219 ++ [(⟨(⟨#[67, 111, 110, 110, 101, 99, 116, 105, 111, 110]⟩ : ByteArray), (⟨#[99, 108, 111, 115, 101]⟩ : ByteArray)⟩ : S39)]) := ⟨_, rfl⟩
         replace H : ((field_Put.f kj5 y222).bind fun bt225 => (if 4 + t199.size ≤ 9223372036854775807 then (if 4 + t199.size + 1 ≤ 9223372036854775807 then (if 4 + t199.size + 1 + 8 ≤ 9223372036854775807 then (if 4 + t199.size + 1 + 8 + 2 ≤ 9223372036854775807 then (if 4 + t199.size + 1 + 8 + 2 + bt225.1.size ≤ 9223372036854775807 then ((conv_bytes.f ((((((⟨#[71, 69, 84, 32]⟩ : ByteArray) ++ t199) ++ (⟨#[32]⟩ : ByteArray)) ++ (⟨#[72, 84, 84, 80, 47, 49, 46, 49]⟩ : ByteArray)) ++ (⟨#[13, 10]⟩ : ByteArray)) ++ bt225.1)).bind fun t227 => (some (t227, 0))) else (none)) else (none)) else (none)) else (none)) else (none))) = some (r1, r2) := by first | (rw [hy222]; with_reducible exact H) | (have H2_ := (Option.bind_some _ _).symm.trans H; rw [hy222]; with_reducible exact H2_) | (have H2_ := (Option.bind_some _ _).symm.trans H; with_reducible exact H2_) | with_reducible exact H | (rw [hy222]; exact H) | exact H
         have Ny222 := Aside0.mk hy222
         clear hy222
         replace H := Option.bind_eq_some_iff.mp H
         obtain ⟨⟨t225, t226⟩, A450, H⟩ := H
         replace H : (if 4 + t199.size ≤ 9223372036854775807 then (if 4 + t199.size + 1 ≤ 9223372036854775807 then (if 4 + t199.size + 1 + 8 ≤ 9223372036854775807 then (if 4 + t199.size + 1 + 8 + 2 ≤ 9223372036854775807 then (if 4 + t199.size + 1 + 8 + 2 + t225.size ≤ 9223372036854775807 then ((conv_bytes.f ((((((⟨#[71, 69, 84, 32]⟩ : ByteArray) ++ t199) ++ (⟨#[32]⟩ : ByteArray)) ++ (⟨#[72, 84, 84, 80, 47, 49, 46, 49]⟩ : ByteArray)) ++ (⟨#[13, 10]⟩ : ByteArray)) ++ t225)).bind fun t227 => (some (t227, 0))) else (none)) else (none)) else (none)) else (none)) else (none)) = some (r1, r2) := H
         have A45 := Aside0.mk A450
         clear A450
         by_cases c46 : 4 + t199.size ≤ 9223372036854775807
         ·as_aux_lemma =>
          rw [if_pos c46] at H
          have c46b0 := eq_true c46
          have c46b1 : decide (4 + t199.size ≤ 9223372036854775807) = true := decide_eq_true c46
          try have c46b2 : (9223372036854775807 < 4 + t199.size) = False := eq_false (Nat.not_lt.2 c46)
          by_cases c47 : 4 + t199.size + 1 ≤ 9223372036854775807
          ·as_aux_lemma =>
           rw [if_pos c47] at H
           have c47b0 := eq_true c47
           have c47b1 : decide (4 + t199.size + 1 ≤ 9223372036854775807) = true := decide_eq_true c47
           try have c47b2 : (9223372036854775807 < 4 + t199.size + 1) = False := eq_false (Nat.not_lt.2 c47)
           by_cases c48 : 4 + t199.size + 1 + 8 ≤ 9223372036854775807
           ·as_aux_lemma =>
            rw [if_pos c48] at H
            have c48b0 := eq_true c48
            have c48b1 : decide (4 + t199.size + 1 + 8 ≤ 9223372036854775807) = true := decide_eq_true c48
            try have c48b2 : (9223372036854775807 < 4 + t199.size + 1 + 8) = False := eq_false (Nat.not_lt.2 c48)
            by_cases c49 : 4 + t199.size + 1 + 8 + 2 ≤ 9223372036854775807
            ·as_aux_lemma =>
             rw [if_pos c49] at H
             have c49b0 := eq_true c49
             have c49b1 : decide (4 + t199.size + 1 + 8 + 2 ≤ 9223372036854775807) = true := decide_eq_true c49
             try have c49b2 : (9223372036854775807 < 4 + t199.size + 1 + 8 + 2) = False := eq_false (Nat.not_lt.2 c49)
             by_cases c50 : 4 + t199.size + 1 + 8 + 2 + t225.size ≤ 9223372036854775807
             ·as_aux_lemma =>
              rw [if_pos c50] at H
              have c50b0 := eq_true c50
              have c50b1 : decide (4 + t199.size + 1 + 8 + 2 + t225.size ≤ 9223372036854775807) = true := decide_eq_true c50
              try have c50b2 : (9223372036854775807 < 4 + t199.size + 1 + 8 + 2 + t225.size) = False := eq_false (Nat.not_lt.2 c50)
              replace H := Option.bind_eq_some_iff.mp H
              obtain ⟨t227, A510, H⟩ := H
              replace H : (some (t227, 0)) = some (r1, r2) := H
              have A51 := Aside0.mk A510
              clear A510
              simp only [Option.some.injEq, Prod.mk.injEq] at H
              obtain ⟨rfl, rfl⟩ := H
              have hnb52 := NB195_201.out
              have hnc52 := NB201_195.out
              obtain ⟨hcz53_0, hcz53_1, hcz53_2, hcz53_3⟩ := c4_ BK195.out
              obtain ⟨hfz53_0, hfz53_1, hfz53_2, hfz53_3⟩ := f4_ BK195.out
              go_wp2_with (first | ((with_reducible refine gate_builtin (b := .append) (xs := #[.tmp 50, .tmp 54]) rfl ?_); at_builtin; refine Kd.R_append k39 (w0 := w) w.heap.size rfl (.tmp 50) (.tmp 54) 40 39 (.agg #[(.string ⟨#[]⟩), (.string ⟨#[]⟩)]) 32 rfl Tryd.underlying40 info39 rfl (by decide) (by omega) u6 x6_5 (⟨(⟨#[73, 102, 45, 78, 111, 110, 101, 45, 77, 97, 116, 99, 104]⟩ : ByteArray), a0_3⟩ : S39) [.string (⟨#[73, 102, 45, 78, 111, 110, 101, 45, 77, 97, 116, 99, 104]⟩ : ByteArray), .string a0_3] (fun k_ => (w.heap.size ≤ k_)) (fun _ => False) rfl rfl ?aP (fun _ hk => hk.elim) ?aF ?aO ?aB ?aS ?aL ?_; (case aP => exact k39_mkM _ _ _ (⟨(⟨#[73, 102, 45, 78, 111, 110, 101, 45, 77, 97, 116, 99, 104]⟩ : ByteArray), a0_3⟩ : S39)); (case aB => exact (by repeat (with_reducible first | exact HB.out | apply below_alloc | apply pw_below_drewN | apply below_drew1 | refine below_set ?_ (Aside0.out (by assumption))))); (case aF => exact (fun k_ hk => (Nat.le_trans (below_size (by repeat (with_reducible first | exact HB.out | apply below_alloc | apply pw_below_drewN | apply below_drew1 | refine below_set ?_ (Aside0.out (by assumption))))) hk))); (case aO => exact (by (with_reducible repeat (first | apply Kd.R_alloc | apply Kd.R_drewN | apply Kd.R_drew)); exact HO_6.out)); (case aS => exact (below_size (by repeat (with_reducible first | exact HB.out | apply below_alloc | apply pw_below_drewN | apply below_drew1 | refine below_set ?_ (Aside0.out (by assumption)))))); (case aL => have := LMc43.out; omega); intro v220 w54 ho hb hg hat; rw [← Ny219.out] at ho; have n0_ := Aside0.mk (blk_grown (g := gb195) (o := .cells #[.string a0_0, .int .i64 a0_1, .string a0_2, .string a0_3] 23 (0, 0)) (sm_ BK195) hg (Kd.R_ne HO_6.out BK195.out (by decide))); have n1_ := Aside0.mk (blk_grown (g := gb201) (o := .cells #[.string t197, .int .i64 t198, .string t199] 34 (0, 0)) (sm_ BK201) hg (Kd.R_ne HO_6.out BK201.out (by decide))); have n2_ := Aside0.mk (hb); have n3_ := Aside0.mk (ho); clear BK195; clear BK201; clear HB; clear HO_6; have BK195 := n0_; have BK201 := n1_; have HB := n2_; have HO221 := n3_; clear n0_ n1_ n2_ n3_; clear ho hb hg hat) | ((with_reducible refine gate_builtin (b := .append) (xs := #[.tmp 57, .tmp 59]) rfl ?_); at_builtin; refine Kd.R_append k39 (w0 := w) w.heap.size rfl (.tmp 57) (.tmp 59) 40 39 (.agg #[(.string ⟨#[]⟩), (.string ⟨#[]⟩)]) 32 rfl Tryd.underlying40 info39 rfl (by decide) (by omega) v220 y219 (⟨(⟨#[67, 111, 110, 110, 101, 99, 116, 105, 111, 110]⟩ : ByteArray), (⟨#[99, 108, 111, 115, 101]⟩ : ByteArray)⟩ : S39) [.string (⟨#[67, 111, 110, 110, 101, 99, 116, 105, 111, 110]⟩ : ByteArray), .string (⟨#[99, 108, 111, 115, 101]⟩ : ByteArray)] (fun k_ => (w.heap.size ≤ k_)) (fun _ => False) rfl rfl ?aP (fun _ hk => hk.elim) ?aF ?aO ?aB ?aS ?aL ?_; (case aP => exact k39_mkM _ _ _ (⟨(⟨#[67, 111, 110, 110, 101, 99, 116, 105, 111, 110]⟩ : ByteArray), (⟨#[99, 108, 111, 115, 101]⟩ : ByteArray)⟩ : S39)); (case aB => exact (by repeat (with_reducible first | exact HB.out | apply below_alloc | apply pw_below_drewN | apply below_drew1 | refine below_set ?_ (Aside0.out (by assumption))))); (case aF => exact (fun k_ hk => (Nat.le_trans (below_size (by repeat (with_reducible first | exact HB.out | apply below_alloc | apply pw_below_drewN | apply below_drew1 | refine below_set ?_ (Aside0.out (by assumption))))) hk))); (case aO => exact (by (with_reducible repeat (first | apply Kd.R_alloc | apply Kd.R_drewN | apply Kd.R_drew)); exact HO221.out)); (case aS => exact (below_size (by repeat (with_reducible first | exact HB.out | apply below_alloc | apply pw_below_drewN | apply below_drew1 | refine below_set ?_ (Aside0.out (by assumption)))))); (case aL => have := LMc44.out; omega); intro v223 w55 ho hb hg hat; rw [← Ny222.out] at ho; have n0_ := Aside0.mk (blk_grown (g := gb195) (o := .cells #[.string a0_0, .int .i64 a0_1, .string a0_2, .string a0_3] 23 (0, 0)) (sm_ BK195) hg (Kd.R_ne HO221.out BK195.out (by decide))); have n1_ := Aside0.mk (blk_grown (g := gb201) (o := .cells #[.string t197, .int .i64 t198, .string t199] 34 (0, 0)) (sm_ BK201) hg (Kd.R_ne HO221.out BK201.out (by decide))); have n2_ := Aside0.mk (hb); have n3_ := Aside0.mk (ho); clear BK195; clear BK201; clear HB; clear HO221; have BK195 := n0_; have BK201 := n1_; have HB := n2_; have HO224 := n3_; clear n0_ n1_ n2_ n3_; clear ho hb hg hat; obtain ⟨Ao56, co56, eo56⟩ := Kd.R_slice HO224.out; subst eo56) | ((with_reducible refine gate_callee (f := 12) rfl ?_); refine goesL_ (some 61) rfl rfl Tryd.func12 (by kernel_rfl) rfl #[.slice Ao56 y222.length co56] rfl (by (try simp only [List.map_toArray, List.map_cons, List.map_nil]); first | done | rfl | (simp only [List.length_drop, List.length_take]; rfl)) ?_; (with_reducible refine (field_Put.calls kj5 _ _ y222 t225 t226 _ ?side1 ?side2 A45.out).mono ?_); (case side1 => repeat (first | exact (Kd.R_reads' HO224.out).2.2 | (with_reducible refine Kd.C_alloc ?_ _) | (with_reducible refine Kd.C_drewN ?_ _) | (with_reducible refine Kd.C_drew ?_))); (case side2 => exact (Kd.R_reads' HO224.out).2.1); rintro e w57 ⟨rfl, hb⟩; refine ⟨_, rfl, ?_⟩; have n0_ := Aside0.mk (Kd.R_below (by (with_reducible repeat (first | apply Kd.R_alloc | apply Kd.R_drewN | apply Kd.R_drew)); exact HO224.out) hb); have n1_ := Aside0.mk (blk_below (g := gb195) (o := .cells #[.string a0_0, .int .i64 a0_1, .string a0_2, .string a0_3] 23 (0, 0)) (sm_ BK195) hb); have n2_ := Aside0.mk (blk_below (g := gb201) (o := .cells #[.string t197, .int .i64 t198, .string t199] 34 (0, 0)) (sm_ BK201) hb); have n3_ := Aside0.mk (below_step (by repeat (with_reducible first | exact HB.out | apply below_alloc | apply pw_below_drewN | apply below_drew1 | refine below_set ?_ (Aside0.out (by assumption)))) hb); clear HO224; clear BK195; clear BK201; clear HB; have HO224 := n0_; have BK195 := n1_; have BK201 := n2_; have HB := n3_; clear n0_ n1_ n2_ n3_; (try clear hb); (try clear hb2); (try clear hk); (try clear hi); obtain ⟨hcz58_0, hcz58_1, hcz58_2⟩ := c3_ BK201.out; obtain ⟨hfz58_0, hfz58_1, hfz58_2⟩ := f3_ BK201.out) | ((with_reducible refine gate_dst (N := 72) rfl ?_); refine Hand.conv_event rfl 9 24 5 (.tmp 71) rfl Tryd.underlying9 Tryd.underlying24 Tryd.underlying5 ((((((⟨#[71, 69, 84, 32]⟩ : ByteArray) ++ t199) ++ (⟨#[32]⟩ : ByteArray)) ++ (⟨#[72, 84, 84, 80, 47, 49, 46, 49]⟩ : ByteArray)) ++ (⟨#[13, 10]⟩ : ByteArray)) ++ t225) t227 ?co A51.out ?_; (case co => first | rfl | (go_simp; done) | (go_simp; rfl)); intro v228 w59 ho0 hb; have n0_ := Aside0.mk (Kd.R_below (by (with_reducible repeat (first | apply Kd.R_alloc | apply Kd.R_drewN | apply Kd.R_drew)); exact HO224.out) hb); have n1_ := Aside0.mk (Kd.V_lower (Kd.V_mono (ok' := fun k_ => (w.heap.size ≤ k_) ∧ some k_ ≠ (.slice Ao56 y222.length co56 : Value).ownBlock ∧ k_ ≠ gb195 ∧ k_ ≠ gb201) ho0 (fun k_ hk_ => ⟨(Nat.le_trans (below_size (by repeat (with_reducible first | exact HB.out | apply below_alloc | apply pw_below_drewN | apply below_drew1 | refine below_set ?_ (Aside0.out (by assumption))))) hk_), (Kd.fresh' (Kd.R_lt (by (with_reducible repeat (first | apply Kd.R_alloc | apply Kd.R_drewN | apply Kd.R_drew)); exact HO224.out)) k_ hk_), (Kd.freshB (g := gb195) (o := .cells #[.string a0_0, .int .i64 a0_1, .string a0_2, .string a0_3] 23 (0, 0)) (sm_ BK195) k_ hk_), (Kd.freshB (g := gb201) (o := .cells #[.string t197, .int .i64 t198, .string t199] 34 (0, 0)) (sm_ BK201) k_ hk_)⟩)) (below_size (by repeat (with_reducible first | exact HB.out | apply below_alloc | apply pw_below_drewN | apply below_drew1 | refine below_set ?_ (Aside0.out (by assumption)))))); have n2_ := Aside0.mk (blk_below (g := gb195) (o := .cells #[.string a0_0, .int .i64 a0_1, .string a0_2, .string a0_3] 23 (0, 0)) (sm_ BK195) hb); have n3_ := Aside0.mk (blk_below (g := gb201) (o := .cells #[.string t197, .int .i64 t198, .string t199] 34 (0, 0)) (sm_ BK201) hb); have n4_ := Aside0.mk (below_step (by repeat (with_reducible first | exact HB.out | apply below_alloc | apply pw_below_drewN | apply below_drew1 | refine below_set ?_ (Aside0.out (by assumption)))) hb); clear HO224; clear BK195; clear BK201; clear HB; have HO224 := n0_; have HO229 := n1_; have BK195 := n2_; have BK201 := n3_; have HB := n4_; clear n0_ n1_ n2_ n3_ n4_; (try clear hb); (try clear hb2); (try clear hk); (try clear hi); (try clear ho0)))
              go_ret2
              exact ⟨_, by first | rfl | (simp [errW_none, errW_some] <;> rfl) | (simp [*, errW_none, errW_some] <;> rfl), by (with_reducible repeat (first | apply Kd.V_alloc | apply Kd.V_drewN | apply Kd.V_drew)); exact Kd.V_mono HO229.out (fun _ hk => hk.1), by repeat (with_reducible first | exact HB.out | apply below_alloc | apply pw_below_drewN | apply below_drew1 | refine below_set ?_ (Aside0.out (by assumption)))⟩
             ·as_aux_lemma =>
              rw [if_neg c50] at H
              exact absurd H (by simp)
            ·as_aux_lemma =>
             rw [if_neg c49] at H
             exact absurd H (by simp)
           ·as_aux_lemma =>
            rw [if_neg c48] at H
            exact absurd H (by simp)
          ·as_aux_lemma =>
           rw [if_neg c47] at H
           exact absurd H (by simp)
         ·as_aux_lemma =>
          rw [if_neg c46] at H
          exact absurd H (by simp)
        ·as_aux_lemma =>
         rw [if_neg c44] at H
         exact absurd H (by simp)
       ·as_aux_lemma =>
        rw [if_neg c43] at H
        exact absurd H (by simp)
     ·as_aux_lemma =>
      rw [if_neg c26] at H
      have c26b0 : (a0_2.toList == ([] : List UInt8)) = false := beq_eq_false_iff_ne.mpr c26
      have c26b1 : (a0_2.toList != ([] : List UInt8)) = true := bne_iff_ne.mpr c26
      have c26b2 : a0_2.toList.isEmpty = false := Bool.eq_false_iff.mpr fun h_ => c26 (List.isEmpty_iff.mp h_)
      by_cases c60 : x6_5.length < 4398046511104
      ·as_aux_lemma =>
       rw [if_pos c60] at H
       have LMc60 := Aside0.mk c60
       clear c60
       obtain ⟨y230, hy230⟩ : ∃ y_ : List (S39), y_ = (x6_5 ++ [(⟨(⟨#[73, 102, 45, 82, 97, 110, 103, 101]⟩ : ByteArray), a0_2⟩ : S39)]) := ⟨_, rfl⟩
       replace H : (if a0_3.toList = ([] : List UInt8) then (if y230.length < 4398046511104 then ((field_Put.f kj5 (y230 ++ [(⟨(⟨#[67, 111, 110, 110, 101, 99, 116, 105, 111, 110]⟩ : ByteArray), (⟨#[99, 108, 111, 115, 101]⟩ : ByteArray)⟩ : S39)])).bind fun bt236 => (if 4 + t199.size ≤ 9223372036854775807 then (if 4 + t199.size + 1 ≤ 9223372036854775807 then (if 4 + t199.size + 1 + 8 ≤ 9223372036854775807 then (if 4 + t199.size + 1 + 8 + 2 ≤ 9223372036854775807 then (if 4 + t199.size + 1 + 8 + 2 + bt236.1.size ≤ 9223372036854775807 then ((conv_bytes.f ((((((⟨#[71, 69, 84, 32]⟩ : ByteArray) ++ t199) ++ (⟨#[32]⟩ : ByteArray)) ++ (⟨#[72, 84, 84, 80, 47, 49, 46, 49]⟩ : ByteArray)) ++ (⟨#[13, 10]⟩ : ByteArray)) ++ bt236.1)).bind fun t238 => (some (t238, 0))) else (none)) else (none)) else (none)) else (none)) else (none))) else (none)) else (if y230.length < 4398046511104 then ((some (y230 ++ [(⟨(⟨#[73, 102, 45, 78, 111, 110, 101, 45, 77, 97, 116, 99, 104]⟩ : ByteArray), a0_3⟩ : S39)] : List (S39))).bind fun y241 => (if y241.length < 4398046511104 then ((field_Put.f kj5 (y241 ++ [(⟨(⟨#[67, 111, 110, 110, 101, 99, 116, 105, 111, 110]⟩ : ByteArray), (⟨#[99, 108, 111, 115, 101]⟩ : ByteArray)⟩ : S39)])).bind fun bt247 => (if 4 + t199.size ≤ 9223372036854775807 then (if 4 + t199.size + 1 ≤ 9223372036854775807 then (if 4 + t199.size + 1 + 8 ≤ 9223372036854775807 then (if 4 + t199.size + 1 + 8 + 2 ≤ 9223372036854775807 then (if 4 + t199.size + 1 + 8 + 2 + bt247.1.size ≤ 9223372036854775807 then ((conv_bytes.f ((((((⟨#[71, 69, 84, 32]⟩ : ByteArray) ++ t199) ++ (⟨#[32]⟩ : ByteArray)) ++ (⟨#[72, 84, 84, 80, 47, 49, 46, 49]⟩ : ByteArray)) ++ (⟨#[13, 10]⟩ : ByteArray)) ++ bt247.1)).bind fun t249 => (some (t249, 0))) else (none)) else (none)) else (none)) else (none)) else (none))) else (none))) else (none))) = some (r1, r2) := by first | (rw [hy230]; with_reducible exact H) | (have H2_ := (Option.bind_some _ _).symm.trans H; rw [hy230]; with_reducible exact H2_) | (have H2_ := (Option.bind_some _ _).symm.trans H; with_reducible exact H2_) | with_reducible exact H | (rw [hy230]; exact H) | exact H
       have Ny230 := Aside0.mk hy230
       clear hy230
       by_cases c61 : a0_3.toList = ([] : List UInt8)
       ·as_aux_lemma =>
        rw [if_pos c61] at H
        have c61b0 : (a0_3.toList == ([] : List UInt8)) = true := beq_iff_eq.mpr c61
        have c61b1 : (a0_3.toList != ([] : List UInt8)) = false := bne_eq_false_iff_eq.mpr c61
        have c61b2 : a0_3.toList.isEmpty = true := List.isEmpty_iff.mpr c61
        clear c61
        by_cases c62 : y230.length < 4398046511104
        ·as_aux_lemma =>
         rw [if_pos c62] at H
         have LMc62 := Aside0.mk c62
         clear c62
         obtain ⟨y233, hy233⟩ : ∃ y_ : List (S39), y_ = (y230 ++ [(⟨(⟨#[67, 111, 110, 110, 101, 99, 116, 105, 111, 110]⟩ : ByteArray), (⟨#[99, 108, 111, 115, 101]⟩ : ByteArray)⟩ : S39)]) := ⟨_, rfl⟩
         replace H : ((field_Put.f kj5 y233).bind fun bt236 => (if 4 + t199.size ≤ 9223372036854775807 then (if 4 + t199.size + 1 ≤ 9223372036854775807 then (if 4 + t199.size + 1 + 8 ≤ 9223372036854775807 then (if 4 + t199.size + 1 + 8 + 2 ≤ 9223372036854775807 then (if 4 + t199.size + 1 + 8 + 2 + bt236.1.size ≤ 9223372036854775807 then ((conv_bytes.f ((((((⟨#[71, 69, 84, 32]⟩ : ByteArray) ++ t199) ++ (⟨#[32]⟩ : ByteArray)) ++ (⟨#[72, 84, 84, 80, 47, 49, 46, 49]⟩ : ByteArray)) ++ (⟨#[13, 10]⟩ : ByteArray)) ++ bt236.1)).bind fun t238 => (some (t238, 0))) else (none)) else (none)) else (none)) else (none)) else (none))) = some (r1, r2) := by first | (rw [hy233]; with_reducible exact H) | (have H2_ := (Option.bind_some _ _).symm.trans H; rw [hy233]; with_reducible exact H2_) | (have H2_ := (Option.bind_some _ _).symm.trans H; with_reducible exact H2_) | with_reducible exact H | (rw [hy233]; exact H) | exact H
         have Ny233 := Aside0.mk hy233
         clear hy233
         replace H := Option.bind_eq_some_iff.mp H
         obtain ⟨⟨t236, t237⟩, A630, H⟩ := H
         replace H : (if 4 + t199.size ≤ 9223372036854775807 then (if 4 + t199.size + 1 ≤ 9223372036854775807 then (if 4 + t199.size + 1 + 8 ≤ 9223372036854775807 then (if 4 + t199.size + 1 + 8 + 2 ≤ 9223372036854775807 then (if 4 + t199.size + 1 + 8 + 2 + t236.size ≤ 9223372036854775807 then ((conv_bytes.f ((((((⟨#[71, 69, 84, 32]⟩ : ByteArray) ++ t199) ++ (⟨#[32]⟩ : ByteArray)) ++ (⟨#[72, 84, 84, 80, 47, 49, 46, 49]⟩ : ByteArray)) ++ (⟨#[13, 10]⟩ : ByteArray)) ++ t236)).bind fun t238 => (some (t238, 0))) else (none)) else (none)) else (none)) else (none)) else (none)) = some (r1, r2) := H
         have A63 := Aside0.mk A630
         clear A630
         by_cases c64 : 4 + t199.size ≤ 9223372036854775807
         ·as_aux_lemma =>
          rw [if_pos c64] at H
          have c64b0 := eq_true c64
          have c64b1 : decide (4 + t199.size ≤ 9223372036854775807) = true := decide_eq_true c64
          try have c64b2 : (9223372036854775807 < 4 + t199.size) = False := eq_false (Nat.not_lt.2 c64)
          by_cases c65 : 4 + t199.size + 1 ≤ 9223372036854775807
          ·as_aux_lemma =>
           rw [if_pos c65] at H
           have c65b0 := eq_true c65
           have c65b1 : decide (4 + t199.size + 1 ≤ 9223372036854775807) = true := decide_eq_true c65
           try have c65b2 : (9223372036854775807 < 4 + t199.size + 1) = False := eq_false (Nat.not_lt.2 c65)
           by_cases c66 : 4 + t199.size + 1 + 8 ≤ 9223372036854775807
           ·as_aux_lemma =>
            rw [if_pos c66] at H
            have c66b0 := eq_true c66
            have c66b1 : decide (4 + t199.size + 1 + 8 ≤ 9223372036854775807) = true := decide_eq_true c66
            try have c66b2 : (9223372036854775807 < 4 + t199.size + 1 + 8) = False := eq_false (Nat.not_lt.2 c66)
            by_cases c67 : 4 + t199.size + 1 + 8 + 2 ≤ 9223372036854775807
            ·as_aux_lemma =>
             rw [if_pos c67] at H
             have c67b0 := eq_true c67
             have c67b1 : decide (4 + t199.size + 1 + 8 + 2 ≤ 9223372036854775807) = true := decide_eq_true c67
             try have c67b2 : (9223372036854775807 < 4 + t199.size + 1 + 8 + 2) = False := eq_false (Nat.not_lt.2 c67)
             by_cases c68 : 4 + t199.size + 1 + 8 + 2 + t236.size ≤ 9223372036854775807
             ·as_aux_lemma =>
              rw [if_pos c68] at H
              have c68b0 := eq_true c68
              have c68b1 : decide (4 + t199.size + 1 + 8 + 2 + t236.size ≤ 9223372036854775807) = true := decide_eq_true c68
              try have c68b2 : (9223372036854775807 < 4 + t199.size + 1 + 8 + 2 + t236.size) = False := eq_false (Nat.not_lt.2 c68)
              replace H := Option.bind_eq_some_iff.mp H
              obtain ⟨t238, A690, H⟩ := H
              replace H : (some (t238, 0)) = some (r1, r2) := H
              have A69 := Aside0.mk A690
              clear A690
              simp only [Option.some.injEq, Prod.mk.injEq] at H
              obtain ⟨rfl, rfl⟩ := H
              have hnb70 := NB195_201.out
              have hnc70 := NB201_195.out
              obtain ⟨hcz71_0, hcz71_1, hcz71_2, hcz71_3⟩ := c4_ BK195.out
              obtain ⟨hfz71_0, hfz71_1, hfz71_2, hfz71_3⟩ := f4_ BK195.out
              go_wp2_with (first | ((with_reducible refine gate_builtin (b := .append) (xs := #[.tmp 41, .tmp 45]) rfl ?_); at_builtin; refine Kd.R_append k39 (w0 := w) w.heap.size rfl (.tmp 41) (.tmp 45) 40 39 (.agg #[(.string ⟨#[]⟩), (.string ⟨#[]⟩)]) 32 rfl Tryd.underlying40 info39 rfl (by decide) (by omega) u6 x6_5 (⟨(⟨#[73, 102, 45, 82, 97, 110, 103, 101]⟩ : ByteArray), a0_2⟩ : S39) [.string (⟨#[73, 102, 45, 82, 97, 110, 103, 101]⟩ : ByteArray), .string a0_2] (fun k_ => (w.heap.size ≤ k_)) (fun _ => False) rfl rfl ?aP (fun _ hk => hk.elim) ?aF ?aO ?aB ?aS ?aL ?_; (case aP => exact k39_mkM _ _ _ (⟨(⟨#[73, 102, 45, 82, 97, 110, 103, 101]⟩ : ByteArray), a0_2⟩ : S39)); (case aB => exact (by repeat (with_reducible first | exact HB.out | apply below_alloc | apply pw_below_drewN | apply below_drew1 | refine below_set ?_ (Aside0.out (by assumption))))); (case aF => exact (fun k_ hk => (Nat.le_trans (below_size (by repeat (with_reducible first | exact HB.out | apply below_alloc | apply pw_below_drewN | apply below_drew1 | refine below_set ?_ (Aside0.out (by assumption))))) hk))); (case aO => exact (by (with_reducible repeat (first | apply Kd.R_alloc | apply Kd.R_drewN | apply Kd.R_drew)); exact HO_6.out)); (case aS => exact (below_size (by repeat (with_reducible first | exact HB.out | apply below_alloc | apply pw_below_drewN | apply below_drew1 | refine below_set ?_ (Aside0.out (by assumption)))))); (case aL => have := LMc60.out; omega); intro v231 w72 ho hb hg hat; rw [← Ny230.out] at ho; have n0_ := Aside0.mk (blk_grown (g := gb195) (o := .cells #[.string a0_0, .int .i64 a0_1, .string a0_2, .string a0_3] 23 (0, 0)) (sm_ BK195) hg (Kd.R_ne HO_6.out BK195.out (by decide))); have n1_ := Aside0.mk (blk_grown (g := gb201) (o := .cells #[.string t197, .int .i64 t198, .string t199] 34 (0, 0)) (sm_ BK201) hg (Kd.R_ne HO_6.out BK201.out (by decide))); have n2_ := Aside0.mk (hb); have n3_ := Aside0.mk (ho); clear BK195; clear BK201; clear HB; clear HO_6; have BK195 := n0_; have BK201 := n1_; have HB := n2_; have HO232 := n3_; clear n0_ n1_ n2_ n3_; clear ho hb hg hat; obtain ⟨hcz73_0, hcz73_1, hcz73_2, hcz73_3⟩ := c4_ BK195.out; obtain ⟨hfz73_0, hfz73_1, hfz73_2, hfz73_3⟩ := f4_ BK195.out) | ((with_reducible refine gate_builtin (b := .append) (xs := #[.tmp 57, .tmp 59]) rfl ?_); at_builtin; refine Kd.R_append k39 (w0 := w) w.heap.size rfl (.tmp 57) (.tmp 59) 40 39 (.agg #[(.string ⟨#[]⟩), (.string ⟨#[]⟩)]) 32 rfl Tryd.underlying40 info39 rfl (by decide) (by omega) v231 y230 (⟨(⟨#[67, 111, 110, 110, 101, 99, 116, 105, 111, 110]⟩ : ByteArray), (⟨#[99, 108, 111, 115, 101]⟩ : ByteArray)⟩ : S39) [.string (⟨#[67, 111, 110, 110, 101, 99, 116, 105, 111, 110]⟩ : ByteArray), .string (⟨#[99, 108, 111, 115, 101]⟩ : ByteArray)] (fun k_ => (w.heap.size ≤ k_)) (fun _ => False) rfl rfl ?aP (fun _ hk => hk.elim) ?aF ?aO ?aB ?aS ?aL ?_; (case aP => exact k39_mkM _ _ _ (⟨(⟨#[67, 111, 110, 110, 101, 99, 116, 105, 111, 110]⟩ : ByteArray), (⟨#[99, 108, 111, 115, 101]⟩ : ByteArray)⟩ : S39)); (case aB => exact (by repeat (with_reducible first | exact HB.out | apply below_alloc | apply pw_below_drewN | apply below_drew1 | refine below_set ?_ (Aside0.out (by assumption))))); (case aF => exact (fun k_ hk => (Nat.le_trans (below_size (by repeat (with_reducible first | exact HB.out | apply below_alloc | apply pw_below_drewN | apply below_drew1 | refine below_set ?_ (Aside0.out (by assumption))))) hk))); (case aO => exact (by (with_reducible repeat (first | apply Kd.R_alloc | apply Kd.R_drewN | apply Kd.R_drew)); exact HO232.out)); (case aS => exact (below_size (by repeat (with_reducible first | exact HB.out | apply below_alloc | apply pw_below_drewN | apply below_drew1 | refine below_set ?_ (Aside0.out (by assumption)))))); (case aL => have := LMc62.out; omega); intro v234 w74 ho hb hg hat; rw [← Ny233.out] at ho; have n0_ := Aside0.mk (blk_grown (g := gb195) (o := .cells #[.string a0_0, .int .i64 a0_1, .string a0_2, .string a0_3] 23 (0, 0)) (sm_ BK195) hg (Kd.R_ne HO232.out BK195.out (by decide))); have n1_ := Aside0.mk (blk_grown (g := gb201) (o := .cells #[.string t197, .int .i64 t198, .string t199] 34 (0, 0)) (sm_ BK201) hg (Kd.R_ne HO232.out BK201.out (by decide))); have n2_ := Aside0.mk (hb); have n3_ := Aside0.mk (ho); clear BK195; clear BK201; clear HB; clear HO232; have BK195 := n0_; have BK201 := n1_; have HB := n2_; have HO235 := n3_; clear n0_ n1_ n2_ n3_; clear ho hb hg hat; obtain ⟨Ao75, co75, eo75⟩ := Kd.R_slice HO235.out; subst eo75) | ((with_reducible refine gate_callee (f := 12) rfl ?_); refine goesL_ (some 61) rfl rfl Tryd.func12 (by kernel_rfl) rfl #[.slice Ao75 y233.length co75] rfl (by (try simp only [List.map_toArray, List.map_cons, List.map_nil]); first | done | rfl | (simp only [List.length_drop, List.length_take]; rfl)) ?_; (with_reducible refine (field_Put.calls kj5 _ _ y233 t236 t237 _ ?side1 ?side2 A63.out).mono ?_); (case side1 => repeat (first | exact (Kd.R_reads' HO235.out).2.2 | (with_reducible refine Kd.C_alloc ?_ _) | (with_reducible refine Kd.C_drewN ?_ _) | (with_reducible refine Kd.C_drew ?_))); (case side2 => exact (Kd.R_reads' HO235.out).2.1); rintro e w76 ⟨rfl, hb⟩; refine ⟨_, rfl, ?_⟩; have n0_ := Aside0.mk (Kd.R_below (by (with_reducible repeat (first | apply Kd.R_alloc | apply Kd.R_drewN | apply Kd.R_drew)); exact HO235.out) hb); have n1_ := Aside0.mk (blk_below (g := gb195) (o := .cells #[.string a0_0, .int .i64 a0_1, .string a0_2, .string a0_3] 23 (0, 0)) (sm_ BK195) hb); have n2_ := Aside0.mk (blk_below (g := gb201) (o := .cells #[.string t197, .int .i64 t198, .string t199] 34 (0, 0)) (sm_ BK201) hb); have n3_ := Aside0.mk (below_step (by repeat (with_reducible first | exact HB.out | apply below_alloc | apply pw_below_drewN | apply below_drew1 | refine below_set ?_ (Aside0.out (by assumption)))) hb); clear HO235; clear BK195; clear BK201; clear HB; have HO235 := n0_; have BK195 := n1_; have BK201 := n2_; have HB := n3_; clear n0_ n1_ n2_ n3_; (try clear hb); (try clear hb2); (try clear hk); (try clear hi); obtain ⟨hcz77_0, hcz77_1, hcz77_2⟩ := c3_ BK201.out; obtain ⟨hfz77_0, hfz77_1, hfz77_2⟩ := f3_ BK201.out) | ((with_reducible refine gate_dst (N := 72) rfl ?_); refine Hand.conv_event rfl 9 24 5 (.tmp 71) rfl Tryd.underlying9 Tryd.underlying24 Tryd.underlying5 ((((((⟨#[71, 69, 84, 32]⟩ : ByteArray) ++ t199) ++ (⟨#[32]⟩ : ByteArray)) ++ (⟨#[72, 84, 84, 80, 47, 49, 46, 49]⟩ : ByteArray)) ++ (⟨#[13, 10]⟩ : ByteArray)) ++ t236) t238 ?co A69.out ?_; (case co => first | rfl | (go_simp; done) | (go_simp; rfl)); intro v239 w78 ho0 hb; have n0_ := Aside0.mk (Kd.R_below (by (with_reducible repeat (first | apply Kd.R_alloc | apply Kd.R_drewN | apply Kd.R_drew)); exact HO235.out) hb); have n1_ := Aside0.mk (Kd.V_lower (Kd.V_mono (ok' := fun k_ => (w.heap.size ≤ k_) ∧ some k_ ≠ (.slice Ao75 y233.length co75 : Value).ownBlock ∧ k_ ≠ gb195 ∧ k_ ≠ gb201) ho0 (fun k_ hk_ => ⟨(Nat.le_trans (below_size (by repeat (with_reducible first | exact HB.out | apply below_alloc | apply pw_below_drewN | apply below_drew1 | refine below_set ?_ (Aside0.out (by assumption))))) hk_), (Kd.fresh' (Kd.R_lt (by (with_reducible repeat (first | apply Kd.R_alloc | apply Kd.R_drewN | apply Kd.R_drew)); exact HO235.out)) k_ hk_), (Kd.freshB (g := gb195) (o := .cells #[.string a0_0, .int .i64 a0_1, .string a0_2, .string a0_3] 23 (0, 0)) (sm_ BK195) k_ hk_), (Kd.freshB (g := gb201) (o := .cells #[.string t197, .int .i64 t198, .string t199] 34 (0, 0)) (sm_ BK201) k_ hk_)⟩)) (below_size (by repeat (with_reducible first | exact HB.out | apply below_alloc | apply pw_below_drewN | apply below_drew1 | refine below_set ?_ (Aside0.out (by assumption)))))); have n2_ := Aside0.mk (blk_below (g := gb195) (o := .cells #[.string a0_0, .int .i64 a0_1, .string a0_2, .string a0_3] 23 (0, 0)) (sm_ BK195) hb); have n3_ := Aside0.mk (blk_below (g := gb201) (o := .cells #[.string t197, .int .i64 t198, .string t199] 34 (0, 0)) (sm_ BK201) hb); have n4_ := Aside0.mk (below_step (by repeat (with_reducible first | exact HB.out | apply below_alloc | apply pw_below_drewN | apply below_drew1 | refine below_set ?_ (Aside0.out (by assumption)))) hb); clear HO235; clear BK195; clear BK201; clear HB; have HO235 := n0_; have HO240 := n1_; have BK195 := n2_; have BK201 := n3_; have HB := n4_; clear n0_ n1_ n2_ n3_ n4_; (try clear hb); (try clear hb2); (try clear hk); (try clear hi); (try clear ho0)))
              go_ret2
              exact ⟨_, by first | rfl | (simp [errW_none, errW_some] <;> rfl) | (simp [*, errW_none, errW_some] <;> rfl), by (with_reducible repeat (first | apply Kd.V_alloc | apply Kd.V_drewN | apply Kd.V_drew)); exact Kd.V_mono HO240.out (fun _ hk => hk.1), by repeat (with_reducible first | exact HB.out | apply below_alloc | apply pw_below_drewN | apply below_drew1 | refine below_set ?_ (Aside0.out (by assumption)))⟩
             ·as_aux_lemma =>
              rw [if_neg c68] at H
              exact absurd H (by simp)
            ·as_aux_lemma =>
             rw [if_neg c67] at H
             exact absurd H (by simp)
           ·as_aux_lemma =>
            rw [if_neg c66] at H
            exact absurd H (by simp)
          ·as_aux_lemma =>
           rw [if_neg c65] at H
           exact absurd H (by simp)
         ·as_aux_lemma =>
          rw [if_neg c64] at H
          exact absurd H (by simp)
        ·as_aux_lemma =>
         rw [if_neg c62] at H
         exact absurd H (by simp)
       ·as_aux_lemma =>
        rw [if_neg c61] at H
        have c61b0 : (a0_3.toList == ([] : List UInt8)) = false := beq_eq_false_iff_ne.mpr c61
        have c61b1 : (a0_3.toList != ([] : List UInt8)) = true := bne_iff_ne.mpr c61
        have c61b2 : a0_3.toList.isEmpty = false := Bool.eq_false_iff.mpr fun h_ => c61 (List.isEmpty_iff.mp h_)
        by_cases c79 : y230.length < 4398046511104
        ·as_aux_lemma =>
         rw [if_pos c79] at H
         have LMc79 := Aside0.mk c79
         clear c79
         obtain ⟨y241, hy241⟩ : ∃ y_ : List (S39), y_ = (y230 ++ [(⟨(⟨#[73, 102, 45, 78, 111, 110, 101, 45, 77, 97, 116, 99, 104]⟩ : ByteArray), a0_3⟩ : S39)]) := ⟨_, rfl⟩
         replace H : (if y241.length < 4398046511104 then ((field_Put.f kj5 (y241 ++ [(⟨(⟨#[67, 111, 110, 110, 101, 99, 116, 105, 111, 110]⟩ : ByteArray), (⟨#[99, 108, 111, 115, 101]⟩ : ByteArray)⟩ : S39)])).bind fun bt247 => (if 4 + t199.size ≤ 9223372036854775807 then (if 4 + t199.size + 1 ≤ 9223372036854775807 then (if 4 + t199.size + 1 + 8 ≤ 9223372036854775807 then (if 4 + t199.size + 1 + 8 + 2 ≤ 9223372036854775807 then (if 4 + t199.size + 1 + 8 + 2 + bt247.1.size ≤ 9223372036854775807 then ((conv_bytes.f ((((((⟨#[71, 69, 84, 32]⟩ : ByteArray) ++ t199) ++ (⟨#[32]⟩ : ByteArray)) ++ (⟨#[72, 84, 84, 80, 47, 49, 46, 49]⟩ : ByteArray)) ++ (⟨#[13, 10]⟩ : ByteArray)) ++ bt247.1)).bind fun t249 => (some (t249, 0))) else (none)) else (none)) else (none)) else (none)) else (none))) else (none)) = some (r1, r2) := by first | (rw [hy241]; with_reducible exact H) | (have H2_ := (Option.bind_some _ _).symm.trans H; rw [hy241]; with_reducible exact H2_) | (have H2_ := (Option.bind_some _ _).symm.trans H; with_reducible exact H2_) | with_reducible exact H | (rw [hy241]; exact H) | exact H
         have Ny241 := Aside0.mk hy241
         clear hy241
         by_cases c80 : y241.length < 4398046511104
         ·as_aux_lemma =>
          rw [if_pos c80] at H
          have LMc80 := Aside0.mk c80
          clear c80
          obtain ⟨y244, hy244⟩ : ∃ y_ : List (S39), y_ = (y241 ++ [(⟨(⟨#[67, 111, 110, 110, 101, 99, 116, 105, 111, 110]⟩ : ByteArray), (⟨#[99, 108, 111, 115, 101]⟩ : ByteArray)⟩ : S39)]) := ⟨_, rfl⟩
          replace H : ((field_Put.f kj5 y244).bind fun bt247 => (if 4 + t199.size ≤ 9223372036854775807 then (if 4 + t199.size + 1 ≤ 9223372036854775807 then (if 4 + t199.size + 1 + 8 ≤ 9223372036854775807 then (if 4 + t199.size + 1 + 8 + 2 ≤ 9223372036854775807 then (if 4 + t199.size + 1 + 8 + 2 + bt247.1.size ≤ 9223372036854775807 then ((conv_bytes.f ((((((⟨#[71, 69, 84, 32]⟩ : ByteArray) ++ t199) ++ (⟨#[32]⟩ : ByteArray)) ++ (⟨#[72, 84, 84, 80, 47, 49, 46, 49]⟩ : ByteArray)) ++ (⟨#[13, 10]⟩ : ByteArray)) ++ bt247.1)).bind fun t249 => (some (t249, 0))) else (none)) else (none)) else (none)) else (none)) else (none))) = some (r1, r2) := by first | (rw [hy244]; with_reducible exact H) | (have H2_ := (Option.bind_some _ _).symm.trans H; rw [hy244]; with_reducible exact H2_) | (have H2_ := (Option.bind_some _ _).symm.trans H; with_reducible exact H2_) | with_reducible exact H | (rw [hy244]; exact H) | exact H
          have Ny244 := Aside0.mk hy244
          clear hy244
          replace H := Option.bind_eq_some_iff.mp H
          obtain ⟨⟨t247, t248⟩, A810, H⟩ := H
          replace H : (if 4 + t199.size ≤ 9223372036854775807 then (if 4 + t199.size + 1 ≤ 9223372036854775807 then (if 4 + t199.size + 1 + 8 ≤ 9223372036854775807 then (if 4 + t199.size + 1 + 8 + 2 ≤ 9223372036854775807 then (if 4 + t199.size + 1 + 8 + 2 + t247.size ≤ 9223372036854775807 then ((conv_bytes.f ((((((⟨#[71, 69, 84, 32]⟩ : ByteArray) ++ t199) ++ (⟨#[32]⟩ : ByteArray)) ++ (⟨#[72, 84, 84, 80, 47, 49, 46, 49]⟩ : ByteArray)) ++ (⟨#[13, 10]⟩ : ByteArray)) ++ t247)).bind fun t249 => (some (t249, 0))) else (none)) else (none)) else (none)) else (none)) else (none)) = some (r1, r2) := H
          have A81 := Aside0.mk A810
          clear A810
          by_cases c82 : 4 + t199.size ≤ 9223372036854775807
          ·as_aux_lemma =>
           rw [if_pos c82] at H
           have c82b0 := eq_true c82
           have c82b1 : decide (4 + t199.size ≤ 9223372036854775807) = true := decide_eq_true c82
           try have c82b2 : (9223372036854775807 < 4 + t199.size) = False := eq_false (Nat.not_lt.2 c82)
           by_cases c83 : 4 + t199.size + 1 ≤ 9223372036854775807
           ·as_aux_lemma =>
            rw [if_pos c83] at H
            have c83b0 := eq_true c83
            have c83b1 : decide (4 + t199.size + 1 ≤ 9223372036854775807) = true := decide_eq_true c83
            try have c83b2 : (9223372036854775807 < 4 + t199.size + 1) = False := eq_false (Nat.not_lt.2 c83)
            by_cases c84 : 4 + t199.size + 1 + 8 ≤ 9223372036854775807
            ·as_aux_lemma =>
             rw [if_pos c84] at H
             have c84b0 := eq_true c84
             have c84b1 : decide (4 + t199.size + 1 + 8 ≤ 9223372036854775807) = true := decide_eq_true c84
             try have c84b2 : (9223372036854775807 < 4 + t199.size + 1 + 8) = False := eq_false (Nat.not_lt.2 c84)
             by_cases c85 : 4 + t199.size + 1 + 8 + 2 ≤ 9223372036854775807
             ·as_aux_lemma =>
              rw [if_pos c85] at H
              have c85b0 := eq_true c85
              have c85b1 : decide (4 + t199.size + 1 + 8 + 2 ≤ 9223372036854775807) = true := decide_eq_true c85
              try have c85b2 : (9223372036854775807 < 4 + t199.size + 1 + 8 + 2) = False := eq_false (Nat.not_lt.2 c85)
              by_cases c86 : 4 + t199.size + 1 + 8 + 2 + t247.size ≤ 9223372036854775807
              ·as_aux_lemma =>
               rw [if_pos c86] at H
               have c86b0 := eq_true c86
               have c86b1 : decide (4 + t199.size + 1 + 8 + 2 + t247.size ≤ 9223372036854775807) = true := decide_eq_true c86
               try have c86b2 : (9223372036854775807 < 4 + t199.size + 1 + 8 + 2 + t247.size) = False := eq_false (Nat.not_lt.2 c86)
               replace H := Option.bind_eq_some_iff.mp H
               obtain ⟨t249, A870, H⟩ := H
               replace H : (some (t249, 0)) = some (r1, r2) := H
               have A87 := Aside0.mk A870
               clear A870
               simp only [Option.some.injEq, Prod.mk.injEq] at H
               obtain ⟨rfl, rfl⟩ := H
               have hnb88 := NB195_201.out
               have hnc88 := NB201_195.out
               obtain ⟨hcz89_0, hcz89_1, hcz89_2, hcz89_3⟩ := c4_ BK195.out
               obtain ⟨hfz89_0, hfz89_1, hfz89_2, hfz89_3⟩ := f4_ BK195.out
               go_wp2_with (first | ((with_reducible refine gate_builtin (b := .append) (xs := #[.tmp 41, .tmp 45]) rfl ?_); at_builtin; refine Kd.R_append k39 (w0 := w) w.heap.size rfl (.tmp 41) (.tmp 45) 40 39 (.agg #[(.string ⟨#[]⟩), (.string ⟨#[]⟩)]) 32 rfl Tryd.underlying40 info39 rfl (by decide) (by omega) u6 x6_5 (⟨(⟨#[73, 102, 45, 82, 97, 110, 103, 101]⟩ : ByteArray), a0_2⟩ : S39) [.string (⟨#[73, 102, 45, 82, 97, 110, 103, 101]⟩ : ByteArray), .string a0_2] (fun k_ => (w.heap.size ≤ k_)) (fun _ => False) rfl rfl ?aP (fun _ hk => hk.elim) ?aF ?aO ?aB ?aS ?aL ?_; (case aP => exact k39_mkM _ _ _ (⟨(⟨#[73, 102, 45, 82, 97, 110, 103, 101]⟩ : ByteArray), a0_2⟩ : S39)); (case aB => exact (by repeat (with_reducible first | exact HB.out | apply below_alloc | apply pw_below_drewN | apply below_drew1 | refine below_set ?_ (Aside0.out (by assumption))))); (case aF => exact (fun k_ hk => (Nat.le_trans (below_size (by repeat (with_reducible first | exact HB.out | apply below_alloc | apply pw_below_drewN | apply below_drew1 | refine below_set ?_ (Aside0.out (by assumption))))) hk))); (case aO => exact (by (with_reducible repeat (first | apply Kd.R_alloc | apply Kd.R_drewN | apply Kd.R_drew)); exact HO_6.out)); (case aS => exact (below_size (by repeat (with_reducible first | exact HB.out | apply below_alloc | apply pw_below_drewN | apply below_drew1 | refine below_set ?_ (Aside0.out (by assumption)))))); (case aL => have := LMc60.out; omega); intro v231 w90 ho hb hg hat; rw [← Ny230.out] at ho; have n0_ := Aside0.mk (blk_grown (g := gb195) (o := .cells #[.string a0_0, .int .i64 a0_1, .string a0_2, .string a0_3] 23 (0, 0)) (sm_ BK195) hg (Kd.R_ne HO_6.out BK195.out (by decide))); have n1_ := Aside0.mk (blk_grown (g := gb201) (o := .cells #[.string t197, .int .i64 t198, .string t199] 34 (0, 0)) (sm_ BK201) hg (Kd.R_ne HO_6.out BK201.out (by decide))); have n2_ := Aside0.mk (hb); have n3_ := Aside0.mk (ho); clear BK195; clear BK201; clear HB; clear HO_6; have BK195 := n0_; have BK201 := n1_; have HB := n2_; have HO232 := n3_; clear n0_ n1_ n2_ n3_; clear ho hb hg hat; obtain ⟨hcz91_0, hcz91_1, hcz91_2, hcz91_3⟩ := c4_ BK195.out; obtain ⟨hfz91_0, hfz91_1, hfz91_2, hfz91_3⟩ := f4_ BK195.out) | ((with_reducible refine gate_builtin (b := .append) (xs := #[.tmp 50, .tmp 54]) rfl ?_); at_builtin; refine Kd.R_append k39 (w0 := w) w.heap.size rfl (.tmp 50) (.tmp 54) 40 39 (.agg #[(.string ⟨#[]⟩), (.string ⟨#[]⟩)]) 32 rfl Tryd.underlying40 info39 rfl (by decide) (by omega) v231 y230 (⟨(⟨#[73, 102, 45, 78, 111, 110, 101, 45, 77, 97, 116, 99, 104]⟩ : ByteArray), a0_3⟩ : S39) [.string (⟨#[73, 102, 45, 78, 111, 110, 101, 45, 77, 97, 116, 99, 104]⟩ : ByteArray), .string a0_3] (fun k_ => (w.heap.size ≤ k_)) (fun _ => False) rfl rfl ?aP (fun _ hk => hk.elim) ?aF ?aO ?aB ?aS ?aL ?_; (case aP => exact k39_mkM _ _ _ (⟨(⟨#[73, 102, 45, 78, 111, 110, 101, 45, 77, 97, 116, 99, 104]⟩ : ByteArray), a0_3⟩ : S39)); (case aB => exact (by repeat (with_reducible first | exact HB.out | apply below_alloc | apply pw_below_drewN | apply below_drew1 | refine below_set ?_ (Aside0.out (by assumption))))); (case aF => exact (fun k_ hk => (Nat.le_trans (below_size (by repeat (with_reducible first | exact HB.out | apply below_alloc | apply pw_below_drewN | apply below_drew1 | refine below_set ?_ (Aside0.out (by assumption))))) hk))); (case aO => exact (by (with_reducible repeat (first | apply Kd.R_alloc | apply Kd.R_drewN | apply Kd.R_drew)); exact HO232.out)); (case aS => exact (below_size (by repeat (with_reducible first | exact HB.out | apply below_alloc | apply pw_below_drewN | apply below_drew1 | refine below_set ?_ (Aside0.out (by assumption)))))); (case aL => have := LMc79.out; omega); intro v242 w92 ho hb hg hat; rw [← Ny241.out] at ho; have n0_ := Aside0.mk (blk_grown (g := gb195) (o := .cells #[.string a0_0, .int .i64 a0_1, .string a0_2, .string a0_3] 23 (0, 0)) (sm_ BK195) hg (Kd.R_ne HO232.out BK195.out (by decide))); have n1_ := Aside0.mk (blk_grown (g := gb201) (o := .cells #[.string t197, .int .i64 t198, .string t199] 34 (0, 0)) (sm_ BK201) hg (Kd.R_ne HO232.out BK201.out (by decide))); have n2_ := Aside0.mk (hb); have n3_ := Aside0.mk (ho); clear BK195; clear BK201; clear HB; clear HO232; have BK195 := n0_; have BK201 := n1_; have HB := n2_; have HO243 := n3_; clear n0_ n1_ n2_ n3_; clear ho hb hg hat) | ((with_reducible refine gate_builtin (b := .append) (xs := #[.tmp 57, .tmp 59]) rfl ?_); at_builtin; refine Kd.R_append k39 (w0 := w) w.heap.size rfl (.tmp 57) (.tmp 59) 40 39 (.agg #[(.string ⟨#[]⟩), (.string ⟨#[]⟩)]) 32 rfl Tryd.underlying40 info39 rfl (by decide) (by omega) v242 y241 (⟨(⟨#[67, 111, 110, 110, 101, 99, 116, 105, 111, 110]⟩ : ByteArray), (⟨#[99, 108, 111, 115, 101]⟩ : ByteArray)⟩ : S39) [.string (⟨#[67, 111, 110, 110, 101, 99, 116, 105, 111, 110]⟩ : ByteArray), .string (⟨#[99, 108, 111, 115, 101]⟩ : ByteArray)] (fun k_ => (w.heap.size ≤ k_)) (fun _ => False) rfl rfl ?aP (fun _ hk => hk.elim) ?aF ?aO ?aB ?aS ?aL ?_; (case aP => exact k39_mkM _ _ _ (⟨(⟨#[67, 111, 110, 110, 101, 99, 116, 105, 111, 110]⟩ : ByteArray), (⟨#[99, 108, 111, 115, 101]⟩ : ByteArray)⟩ : S39)); (case aB => exact (by repeat (with_reducible first | exact HB.out | apply below_alloc | apply pw_below_drewN | apply below_drew1 | refine below_set ?_ (Aside0.out (by assumption))))); (case aF => exact (fun k_ hk => (Nat.le_trans (below_size (by repeat (with_reducible first | exact HB.out | apply below_alloc | apply pw_below_drewN | apply below_drew1 | refine below_set ?_ (Aside0.out (by assumption))))) hk))); (case aO => exact (by (with_reducible repeat (first | apply Kd.R_alloc | apply Kd.R_drewN | apply Kd.R_drew)); exact HO243.out)); (case aS => exact (below_size (by repeat (with_reducible first | exact HB.out | apply below_alloc | apply pw_below_drewN | apply below_drew1 | refine below_set ?_ (Aside0.out (by assumption)))))); (case aL => have := LMc80.out; omega); intro v245 w93 ho hb hg hat; rw [← Ny244.out] at ho; have n0_ := Aside0.mk (blk_grown (g := gb195) (o := .cells #[.string a0_0, .int .i64 a0_1, .string a0_2, .string a0_3] 23 (0, 0)) (sm_ BK195) hg (Kd.R_ne HO243.out BK195.out (by decide))); have n1_ := Aside0.mk (blk_grown (g := gb201) (o := .cells #[.string t197, .int .i64 t198, .string t199] 34 (0, 0)) (sm_ BK201) hg (Kd.R_ne HO243.out BK201.out (by decide))); have n2_ := Aside0.mk (hb); have n3_ := Aside0.mk (ho); clear BK195; clear BK201; clear HB; clear HO243; have BK195 := n0_; have BK201 := n1_; have HB := n2_; have HO246 := n3_; clear n0_ n1_ n2_ n3_; clear ho hb hg hat; obtain ⟨Ao94, co94, eo94⟩ := Kd.R_slice HO246.out; subst eo94) | ((with_reducible refine gate_callee (f := 12) rfl ?_); refine goesL_ (some 61) rfl rfl Tryd.func12 (by kernel_rfl) rfl #[.slice Ao94 y244.length co94] rfl (by (try simp only [List.map_toArray, List.map_cons, List.map_nil]); first | done | rfl | (simp only [List.length_drop, List.length_take]; rfl)) ?_; (with_reducible refine (field_Put.calls kj5 _ _ y244 t247 t248 _ ?side1 ?side2 A81.out).mono ?_); (case side1 => repeat (first | exact (Kd.R_reads' HO246.out).2.2 | (with_reducible refine Kd.C_alloc ?_ _) | (with_reducible refine Kd.C_drewN ?_ _) | (with_reducible refine Kd.C_drew ?_))); (case side2 => exact (Kd.R_reads' HO246.out).2.1); rintro e w95 ⟨rfl, hb⟩; refine ⟨_, rfl, ?_⟩; have n0_ := Aside0.mk (Kd.R_below (by (with_reducible repeat (first | apply Kd.R_alloc | apply Kd.R_drewN | apply Kd.R_drew)); exact HO246.out) hb); have n1_ := Aside0.mk (blk_below (g := gb195) (o := .cells #[.string a0_0, .int .i64 a0_1, .string a0_2, .string a0_3] 23 (0, 0)) (sm_ BK195) hb); have n2_ := Aside0.mk (blk_below (g := gb201) (o := .cells #[.string t197, .int .i64 t198, .string t199] 34 (0, 0)) (sm_ BK201) hb); have n3_ := Aside0.mk (below_step (by repeat (with_reducible first | exact HB.out | apply below_alloc | apply pw_below_drewN | apply below_drew1 | refine below_set ?_ (Aside0.out (by assumption)))) hb); clear HO246; clear BK195; clear BK201; clear HB; have HO246 := n0_; have BK195 := n1_; have BK201 := n2_; have HB := n3_; clear n0_ n1_ n2_ n3_; (try clear hb); (try clear hb2); (try clear hk); (try clear hi); obtain ⟨hcz96_0, hcz96_1, hcz96_2⟩ := c3_ BK201.out; obtain ⟨hfz96_0, hfz96_1, hfz96_2⟩ := f3_ BK201.out) | ((with_reducible refine gate_dst (N := 72) rfl ?_); refine Hand.conv_event rfl 9 24 5 (.tmp 71) rfl Tryd.underlying9 Tryd.underlying24 Tryd.underlying5 ((((((⟨#[71, 69, 84, 32]⟩ : ByteArray) ++ t199) ++ (⟨#[32]⟩ : ByteArray)) ++ (⟨#[72, 84, 84, 80, 47, 49, 46, 49]⟩ : ByteArray)) ++ (⟨#[13, 10]⟩ : ByteArray)) ++ t247) t249 ?co A87.out ?_; (case co => first | rfl | (go_simp; done) | (go_simp; rfl)); intro v250 w97 ho0 hb; have n0_ := Aside0.mk (Kd.R_below (by (with_reducible repeat (first | apply Kd.R_alloc | apply Kd.R_drewN | apply Kd.R_drew)); exact HO246.out) hb); have n1_ := Aside0.mk (Kd.V_lower (Kd.V_mono (ok' := fun k_ => (w.heap.size ≤ k_) ∧ some k_ ≠ (.slice Ao94 y244.length co94 : Value).ownBlock ∧ k_ ≠ gb195 ∧ k_ ≠ gb201) ho0 (fun k_ hk_ => ⟨(Nat.le_trans (below_size (by repeat (with_reducible first | exact HB.out | apply below_alloc | apply pw_below_drewN | apply below_drew1 | refine below_set ?_ (Aside0.out (by assumption))))) hk_), (Kd.fresh' (Kd.R_lt (by (with_reducible repeat (first | apply Kd.R_alloc | apply Kd.R_drewN | apply Kd.R_drew)); exact HO246.out)) k_ hk_), (Kd.freshB (g := gb195) (o := .cells #[.string a0_0, .int .i64 a0_1, .string a0_2, .string a0_3] 23 (0, 0)) (sm_ BK195) k_ hk_), (Kd.freshB (g := gb201) (o := .cells #[.string t197, .int .i64 t198, .string t199] 34 (0, 0)) (sm_ BK201) k_ hk_)⟩)) (below_size (by repeat (with_reducible first | exact HB.out | apply below_alloc | apply pw_below_drewN | apply below_drew1 | refine below_set ?_ (Aside0.out (by assumption)))))); have n2_ := Aside0.mk (blk_below (g := gb195) (o := .cells #[.string a0_0, .int .i64 a0_1, .string a0_2, .string a0_3] 23 (0, 0)) (sm_ BK195) hb); have n3_ := Aside0.mk (blk_below (g := gb201) (o := .cells #[.string t197, .int .i64 t198, .string t199] 34 (0, 0)) (sm_ BK201) hb); have n4_ := Aside0.mk (below_step (by repeat (with_reducible first | exact HB.out | apply below_alloc | apply pw_below_drewN | apply below_drew1 | refine below_set ?_ (Aside0.out (by assumption)))) hb); clear HO246; clear BK195; clear BK201; clear HB; have HO246 := n0_; have HO251 := n1_; have BK195 := n2_; have BK201 := n3_; have HB := n4_; clear n0_ n1_ n2_ n3_ n4_; (try clear hb); (try clear hb2); (try clear hk); (try clear hi); (try clear ho0)))
               go_ret2
               exact ⟨_, by first | rfl | (simp [errW_none, errW_some] <;> rfl) | (simp [*, errW_none, errW_some] <;> rfl), by (with_reducible repeat (first | apply Kd.V_alloc | apply Kd.V_drewN | apply Kd.V_drew)); exact Kd.V_mono HO251.out (fun _ hk => hk.1), by repeat (with_reducible first | exact HB.out | apply below_alloc | apply pw_below_drewN | apply below_drew1 | refine below_set ?_ (Aside0.out (by assumption)))⟩
              ·as_aux_lemma =>
               rw [if_neg c86] at H
               exact absurd H (by simp)
             ·as_aux_lemma =>
              rw [if_neg c85] at H
              exact absurd H (by simp)
            ·as_aux_lemma =>
             rw [if_neg c84] at H
             exact absurd H (by simp)
           ·as_aux_lemma =>
            rw [if_neg c83] at H
            exact absurd H (by simp)
          ·as_aux_lemma =>
           rw [if_neg c82] at H
           exact absurd H (by simp)
         ·as_aux_lemma =>
          rw [if_neg c80] at H
          exact absurd H (by simp)
        ·as_aux_lemma =>
         rw [if_neg c79] at H
         exact absurd H (by simp)
      ·as_aux_lemma =>
       rw [if_neg c60] at H
       exact absurd H (by simp)
  ·as_aux_lemma =>
   replace c3 := Bool.eq_false_iff.mpr c3
   subst c3
   have H1 : (some (([] : List Int), 1)) = some (r1, r2) := by rw [if_neg (show ¬ (false = true) by decide)] at H; exact H
   clear H
   have H := H1
   clear H1
   simp only [Option.some.injEq, Prod.mk.injEq] at H
   obtain ⟨rfl, rfl⟩ := H
   go_enter Tryd.func6, Tryd.ntmps6
   go_wp2_with (first | ((with_reducible refine gate_dst (N := 1) rfl ?_); refine box_event ?hg (N := 1) ?hd (cs := #[.string a0_0, .int .i64 a0_1, .string a0_2, .string a0_3]) (t := 23) ?hr ?_; (case hd => rfl); (case hg => rfl); (case hr => first | (go_simp; done) | (go_simp; rfl)); intro gb195 hg w98 hbox hb; have n0_ := Aside0.mk (below_step (bl_ HB) hb); have n1_ := Aside0.mk (hbox); have n2_ := Aside0.mk ((by rw [hg]; exact (below_size (bl_ HB)) : w.heap.size ≤ gb195)); have n3_ := Aside0.mk ((by rw [hg]; exact (below_size (bl_ HB)) : w.heap.size ≤ gb195)); clear HB; have HB := n0_; have BK195 := n1_; have GW195 := n2_; have GE195 := n3_; clear n0_ n1_ n2_ n3_; clear hb hbox hg; obtain ⟨hcz99_0, hcz99_1, hcz99_2, hcz99_3⟩ := c4_ BK195.out; obtain ⟨hfz99_0, hfz99_1, hfz99_2, hfz99_3⟩ := f4_ BK195.out) | ((with_reducible refine gate_callee (f := 8) rfl ?_); refine goesL_ (some 12) rfl rfl Tryd.func8 (by kernel_rfl) rfl #[.agg #[.string a0_0, .int .i64 a0_1, .string a0_2, .string a0_3]] rfl (by (try simp only [List.map_toArray, List.map_cons, List.map_nil]); first | done | rfl | (simp only [List.length_drop, List.length_take]; rfl)) ?_; (with_reducible refine (ask_Right.calls k a0_0 a0_1 a0_2 a0_3 false _ A2.out).mono ?_); rintro e w100 ⟨rfl, hb⟩; refine ⟨_, rfl, ?_⟩; have n0_ := Aside0.mk (blk_below (g := gb195) (o := .cells #[.string a0_0, .int .i64 a0_1, .string a0_2, .string a0_3] 23 (0, 0)) (sm_ BK195) hb); have n1_ := Aside0.mk (below_step (by repeat (first | (with_reducible first | exact HB.out | apply below_alloc | apply pw_below_drewN | apply below_drew1 | refine below_set ?_ GE195.out) | exact HB.out)) hb); clear BK195; clear HB; have BK195 := n0_; have HB := n1_; clear n0_ n1_; (try clear hb); (try clear hb2); (try clear hk); (try clear hi)))
   go_ret2
   exact ⟨_, by first | rfl | (simp [errW_none, errW_some] <;> rfl) | (simp [*, errW_none, errW_some] <;> rfl), (by first | exact Kd.R_nil _ _ _ _ _ | exact Kd.N_nil _ _ _ _ _ | exact Kd.V_nil _ _ _ _ _ | exact Kd.Q_nil _ _ _ _ _ | exact Kd.S_nil _ _ _ _ _), by repeat (first | (with_reducible first | exact HB.out | apply below_alloc | apply pw_below_drewN | apply below_drew1 | refine below_set ?_ GE195.out) | exact HB.out)⟩

/-! ### stringslite_Index: function 49 -/
def lays219_ren : Go.Shelf.Ren := ⟨fun | 219 => 49 | 217 => 67 | 225 => 68 | 224 => 69 | 267 => 70 | 266 => 82 | 314 => 83 | n => n, fun | 9 => 9 | 3 => 3 | 4 => 4 | 5 => 5 | 46 => 106 | 146 => 112 | 51 => 111 | n => n, fun | 1 => 0 | n => n⟩
theorem lays219 : Go.Proofs.LaysM.n219 Tryd.prog lays219_ren := {
  mixed := by kernel_rfl
  f217 := Tryd.func67.trans (congrArg some (by kernel_rfl))
  f219 := Tryd.func49.trans (congrArg some (by kernel_rfl))
  f224 := Tryd.func69.trans (congrArg some (by kernel_rfl))
  f225 := Tryd.func68.trans (congrArg some (by kernel_rfl))
  f266 := Tryd.func82.trans (congrArg some (by kernel_rfl))
  f267 := Tryd.func70.trans (congrArg some (by kernel_rfl))
  f314 := Tryd.func83.trans (congrArg some (by kernel_rfl))
  t3 := Tryd.underlying3
  a3 := Tryd.isAgg3
  z3 := Tryd.sizeOf3
  v3 := Tryd.zeroValue3
  t4 := Tryd.underlying4
  a4 := Tryd.isAgg4
  z4 := Tryd.sizeOf4
  v4 := Tryd.zeroValue4
  t5 := Tryd.underlying5
  a5 := Tryd.isAgg5
  z5 := Tryd.sizeOf5
  v5 := Tryd.zeroValue5
  t9 := Tryd.underlying9
  a9 := Tryd.isAgg9
  z9 := Tryd.sizeOf9
  v9 := Tryd.zeroValue9
  t46 := Tryd.underlying106
  a46 := Tryd.isAgg106
  z46 := Tryd.sizeOf106
  v46 := Tryd.zeroValue106
  t51 := Tryd.underlying111
  a51 := Tryd.isAgg111
  z51 := Tryd.sizeOf111
  v51 := Tryd.zeroValue111
  t146 := Tryd.underlying112
  a146 := Tryd.isAgg112
  z146 := Tryd.sizeOf112
  v146 := Tryd.zeroValue112
  g1 := by kernel_rfl
  i3 := by kernel_rfl
  i4 := by kernel_rfl
  i5 := by kernel_rfl
  i9 := by kernel_rfl
  i46 := by kernel_rfl
  i51 := by kernel_rfl
  i146 := by kernel_rfl
  m1 := by kernel_rfl
  s1_3 := fun w h => Go.Proofs.cell_of_shapedOpen_int (zero := #[.int .i64 0]) (t := 3) h (of_decide_eq_true (by kernel_rfl)) (by kernel_rfl) rfl (by kernel_rfl) (by kernel_rfl) Tryd.underlying3 }
def MX (w : World) : Prop := ∃ m, w.cell? ⟨lays219_ren.g 1, 0, none⟩ = some (.int .i64 m)
theorem MX.of {w : World} (h : w.ShapedOpen Tryd.prog) : MX w := lays219.s1_3 w h
theorem MX.below {w w' : World} (h : MX w) (hb : Below w.heap.size w w') : MX w' := by
  obtain ⟨m, hm⟩ := h
  refine ⟨m, ?_⟩
  by_cases hg : lays219_ren.g 1 < w.heap.size
  · rw [hb.cell (p := ⟨lays219_ren.g 1, 0, none⟩) hg]
    exact hm
  · exfalso
    have hn : w.heap[lays219_ren.g 1]? = none := Array.getElem?_eq_none (by omega)
    unfold World.cell? at hm
    simp [hn] at hm
theorem MX.drewN {w : World} (h : MX w) (n : Nat) : MX (w.drewN n) := h
def stringslite_Index.f (a0 a1 : ByteArray) : Option (Int) := if a0.size ≤ 4294967280 then some (Lib.index a0.data.toList a1.data.toList) else none
theorem stringslite_Index.calls (a0 : ByteArray) (a1 : ByteArray) (r : Int) (w : World) (hmx : MX w) (h : stringslite_Index.f a0 a1 = some r) :
    Calls Tryd.prog 49 #[.string a0, .string a1] w fun e w' => e = .returned (.int .i64 r) ∧ Drawn0 w w' := by
  unfold stringslite_Index.f at h
  split at h
  · rename_i hc
    obtain rfl := Option.some.inj h
    obtain ⟨m, hm⟩ := hmx
    refine (Any.stringslite_Index { lays219 with } a0 a1 m w (by omega) hm).mono ?_
    rintro e w' ⟨rfl, rfl⟩
    exact ⟨rfl, Drawn0.refl _⟩
  · cases h

end Go.Proofs.YtfebkbkkdfepoaaDoor.PAskBack
