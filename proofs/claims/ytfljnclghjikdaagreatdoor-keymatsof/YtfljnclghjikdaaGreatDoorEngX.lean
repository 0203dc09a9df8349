/- A part of a proof: EngX. -/
import Derived.Test.YtfljnclghjikdaaGreatDoorEngW
/- The engine, part X: == on a struct of two arrays of bytes. -/
set_option linter.unusedVariables false
set_option linter.unusedSimpArgs false
namespace Go.Sl
variable {P : Program} {n : Nat} {σ : Env} {S : HL} {K : Env → HL → Prop} {d : Nat} {dst : Option Nat} {ty : TypeId} {pos : String} {aft : Array Edge} {g : Option (Nat × Bool)}
theorem run_equalIn_bytes (w : World) (dd : Nat) {t e len : Nat} {xs ys : List UInt8} {i : TypeInfo} (hu : P.underlying t = some (.array len e)) (hi : P.info? e = some i) (he : P.plainKey e = true) (hue : P.underlying e = some (.int .u8)) (hc : P.cellsOf e = 1)
    (hxl : xs.length = len) (hyl : ys.length = len) : (Op.equalIn (dd + 2) t (.agg ⟨xs.map u8⟩) (.agg ⟨ys.map u8⟩)).run P w = .ok (decide (xs = ys)) w := by
  have hd : decide (∀ i ∈ List.range len, xs.getD i 0 = ys.getD i 0) = decide (xs = ys) := by
    apply decide_eq_decide.2
    constructor
    · intro h
      apply List.ext_getElem (by omega)
      intro j h1 h2
      have := h j (by simp; omega)
      simpa [List.getD_eq_getElem?_getD, h1, h2] using this
    · rintro rfl _ _; rfl
  have := run_equalIn_array (P := P) w (dd + 1) (t := t) (e := e) (n := len) ⟨xs.map u8⟩ ⟨ys.map u8⟩ hu hi
  rw [run_eqItems_u8 w dd he hue hc xs ys (List.range len) (fun i hi => by simp at hi; omega), hd] at this
  exact this
theorem run_part_bytes (w : World) {t m off : Nat} {xs : List UInt8} (ha : AG P t true) (hn : SZ P t m) : (part t ⟨xs.map u8⟩ off).run P w = .ok (.agg ⟨((xs.drop off).take m).map u8⟩) w := by
  have e : ((⟨xs.map u8⟩ : Array Value).extract off (off + m)) = ⟨((xs.drop off).take m).map u8⟩ := by
    apply Array.ext'
    simp [List.extract_eq_take_drop, List.map_take, List.map_drop]
  simp [part, ha w, hn w, e]
theorem QW.eqlS2 {x y : Operand} {t e n1 n2 : Nat} {f1 f2 : Field} {xs ys : List UInt8} {i : TypeInfo} {tr : Bool} (hx : ev σ x = some (.agg ⟨xs.map u8⟩)) (hy : ev σ y = some (.agg ⟨ys.map u8⟩))
    (hm : P.eqGuardType P.depth t = false) (hu : P.underlying t = some (.struct (P.fieldsOf t))) (hp : P.stoodInHeld t = false) (hf : (P.fieldsOf t).toList = [f1, f2])
    (hn1 : f1.name ≠ "_") (hn2 : f2.name ≠ "_") (ho1 : f1.offset = 0) (ho2 : f2.offset = n1)
    (hu1 : P.underlying f1.type = some (.array n1 e)) (hu2 : P.underlying f2.type = some (.array n2 e)) (ha1 : AG P f1.type true) (ha2 : AG P f2.type true) (hs1 : SZ P f1.type n1) (hs2 : SZ P f2.type n2)
    (hi : P.info? e = some i) (he : P.plainKey e = true) (hue : P.underlying e = some (.int .u8)) (hc : P.cellsOf e = 1)
    (hxl : xs.length = n1 + n2) (hyl : ys.length = n1 + n2) (ht : decide (xs = ys) = tr) : QW P S ⟨dst, .binOp .eql t x y t, ty, pos, aft, g⟩ σ (.bool tr) :=
  fun ρ w hρ _ => by
    have key : (Op.eqFields 9999 ⟨xs.map u8⟩ ⟨ys.map u8⟩ (P.fieldsOf t).toList).run P w = .ok tr w := by
      rw [hf]
      simp only [Op.eqFields, hn1, hn2, ne_eq, not_false_eq_true, if_true, Sem.run_bind, ho1, ho2]
      rw [run_part_bytes w ha1 hs1, Result.andThen_ok, run_part_bytes w ha1 hs1, Result.andThen_ok, List.drop_zero, List.drop_zero,
        run_equalIn_bytes w 9997 hu1 hi he hue hc (by simp; omega) (by simp; omega), Result.andThen_ok]
      by_cases h1 : xs.take n1 = ys.take n1
      · rw [h1, decide_eq_true rfl]
        simp only [Bool.not_true, Bool.false_eq_true, if_false, Sem.run_bind]
        rw [run_part_bytes w ha2 hs2, Result.andThen_ok, run_part_bytes w ha2 hs2, Result.andThen_ok,
          run_equalIn_bytes w 9997 hu2 hi he hue hc (by simp; omega) (by simp; omega), Result.andThen_ok]
        have e1 : (xs.drop n1).take n2 = xs.drop n1 := List.take_of_length_le (by simp; omega)
        have e2 : (ys.drop n1).take n2 = ys.drop n1 := List.take_of_length_le (by simp; omega)
        rw [e1, e2]
        have e3 : (xs.drop n1 = ys.drop n1) ↔ xs = ys := ⟨fun h => by rw [← List.take_append_drop n1 xs, h1, h, List.take_append_drop], fun h => by rw [h]⟩
        rw [decide_eq_decide.2 e3, ht]
        cases tr <;> simp
      · have h2 : ¬ xs = ys := fun h => h1 (by rw [h])
        rw [decide_eq_false h1]
        rw [decide_eq_false h2] at ht
        simp [← ht]
    have h0 := run_equalIn_struct (P := P) w 9999 t ⟨xs.map u8⟩ ⟨ys.map u8⟩ hu hp
    rw [key] at h0
    have hb := run_eql_struct (P := P) w t ⟨xs.map u8⟩ ⟨ys.map u8⟩
    rw [h0] at hb
    simp only [execOp, hρ x _ hx, hρ y _ hy]
    simp [run_eqGuard_agg (P := P) w .eql t x y _ _ hm, hb]
end Go.Sl
