/- A part of a proof: X8. -/
import Derived.Test.YtfljnclghjikdaaGreatDoorX8a
/- KeymatsOf returns true for every input and leaves its argument: the row, lifted. -/
namespace Go.Proofs.YtfljnclghjikdaaGreatDoor
open Go.ChangeShapes Go.WideShapes Go.ChangeAt Go.RowKit Go.WideMaps Go.WideElems
open Go.Sl (u8 u64 RdB allB allB_sat below_of_sat cells_u8 cells_u64 cells_sl cutL law10_c)
set_option linter.unusedVariables false
set_option linter.unusedSimpArgs false

theorem km_own : ownKnob Tryz.prog.godebug = none := by kernel_rfl
theorem km_laidOut : laidOutB Tryz.prog = true := by kernel_rfl
theorem km_door_met (os : Os) (args : Array Value) : laidMetH Tryz.prog Rows.keymatsOfRow.laid ((World.doorLaid Tryz.prog 400 os).forCall (fun _ _ => 0) ⟨#[], args, []⟩).memory :=
  laidMetH_of_parts3 (fuel := 8) (laidMet_of_run' 8 (by kernel_rfl) (by kernel_rfl)) (by kernel_rfl) (by kernel_rfl)
theorem km_walk (shared : List UInt64) (id bs : List UInt8) (nb pl : Int) (a : Option Addr) (c : Nat) (W : World) (hs : shared.length = 4) (hi : id.length = 32) (hv : RdB (allB W) (.slice a bs.length c) bs) :
    Calls Tryz.prog 4 #[.agg ⟨shared.map u64 ++ (id.map u8 ++ [Value.int .i64 nb, Value.int .i64 pl, Value.slice a bs.length c])⟩] W fun e w' => e = .returned (.bool true) ∧ Below W.heap.size W w' := by
  refine (law10_c shared id bs nb pl a c (allB W) hs hi hv W W (allB_sat W)).mono ?_
  rintro e w' ⟨v, S', rfl, hs, rfl, rfl⟩
  exact ⟨rfl, below_of_sat hs⟩
set_option maxRecDepth 100000 in
theorem km_lifted (os : Os) (started : os.Started) (H : Type) (enc : TypeId × Value → H) :
    ReturnsInHanded {} Tryz.checked os 4 .any (fun w args => (Rows.keymatsOfSpec.pre enc Tryz.prog Tryz.f4 [] false w args ∧ laidMetH Tryz.prog Rows.keymatsOfRow.laid w) ∧ sizedMet enc Tryz.prog Tryz.f4 (OpenSpec.ofChange Rows.keymatsOfSpec) false w args)
      (Rows.keymatsOfSpec.post enc Tryz.prog Tryz.f4 false true false false) := by
  refine returnsInHanded_of_change_and (C := Tryz.checked) (X := fun w _ => laidMetH Tryz.prog Rows.keymatsOfRow.laid w) (fun _ _ _ hh h => h.of_heap hh) km_own started (by kernel_rfl) Tryz.func4
    (ChangeSpec.witness_shaped (enc := enc) (C := Tryz.checked) (os := os) (X := fun w _ => laidMetH Tryz.prog Rows.keymatsOfRow.laid w) false (World.doorLaid Tryz.prog 400 os) #[.agg #[.int .u64 0, .int .u64 0, .int .u64 0, .int .u64 0, .int .u8 0, .int .u8 0, .int .u8 0, .int .u8 0, .int .u8 0, .int .u8 0, .int .u8 0, .int .u8 0, .int .u8 0, .int .u8 0, .int .u8 0, .int .u8 0, .int .u8 0, .int .u8 0, .int .u8 0, .int .u8 0, .int .u8 0, .int .u8 0, .int .u8 0, .int .u8 0, .int .u8 0, .int .u8 0, .int .u8 0, .int .u8 0, .int .u8 0, .int .u8 0, .int .u8 0, .int .u8 0, .int .u8 0, .int .u8 0, .int .u8 0, .int .u8 0, .int .i64 0, .int .i64 0, .slice none 0 0]] 8 rfl (World.shaped_of_RefB (by kernel_rfl) (by kernel_rfl)) (by kernel_rfl) (by kernel_rfl) (by kernel_rfl) (km_door_met os _)) ?_
  intro W base args ds gs before hval0 hW _ _ _ _
  have hval : ∀ (j : Nat) t v, Tryz.f4.params[j]? = some t → args[j]? = some v → Value.okWide Tryz.prog W .any base t v := hval0
  have hW' := hW
  obtain ⟨p, q, hA0, hV, rfl, hfz, hnd⟩ := hW
  have hA : DataW.TrodAll enc Tryz.prog W 0 (fun _ => true) true Tryz.f4.params.toList args.toList ds p := hA0
  rw [Tryz.params4] at hA hval
  obtain ⟨v0, vs0, d0, ds0, p0, q0, hargs, rfl, rfl, h0, r0⟩ := trodAll_cons hA
  obtain ⟨rfl, rfl, rfl⟩ := trodAll_nil r0
  obtain rfl : args = #[v0] := by cases args; simp_all
  obtain ⟨rfl, rfl⟩ := trodVars_none hV
  have lt0 : ∀ x ∈ p0, x.block < W.heap.size := by obtain ⟨m, hm⟩ := h0; exact DataW.trod_lt m _ _ _ hm
  obtain ⟨cs, rfl, _⟩ := okWide_struct Tryz.underlying53 (hval 0 53 v0 rfl rfl)
  obtain ⟨shared, id, bs, nb, pl, a, c, hcs, l0, l1, hv⟩ : ∃ (shared : List UInt64) (id bs : List UInt8) (nb pl : Int) (a : Option Addr) (c : Nat), cs.toList = shared.map u64 ++ (id.map u8 ++ [Value.int .i64 nb, Value.int .i64 pl, Value.slice a bs.length c]) ∧ shared.length = 4 ∧ id.length = 32 ∧ RdB (allB W) (.slice a bs.length c) bs := by
    obtain ⟨fuel, hf⟩ := h0
    exact km_given hf
  obtain rfl : cs = ⟨shared.map u64 ++ (id.map u8 ++ [Value.int .i64 nb, Value.int .i64 pl, Value.slice a bs.length c])⟩ := Array.ext' hcs
  clear hA0 hval0
  refine (km_walk shared id bs nb pl a c W l0 l1 hv).mono fun e W' ⟨he, bel⟩ => ?_
  subst he
  exact ⟨_, rfl, _, _, _, [], _, [], hW', trodAll_mk1 (shut_bool Tryz.underlying4 _), (trodAll_cons_mk (Below.trod km_laidOut (by kernel_rfl) (of_decide_eq_true (by kernel_rfl)) h0 bel lt0) trodAll_mk0), rfl, bel.frame _, fun h => by cases h⟩
end Go.Proofs.YtfljnclghjikdaaGreatDoor
