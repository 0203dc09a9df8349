/- A part of a proof: the walk. -/
import Derived.Test.YtfljnclghjikdaaGreatDoorC5
import Derived.Test.YtfljnclghjikdaaGreatDoorR4
set_option maxRecDepth 1000000
set_option linter.unusedVariables false
set_option linter.unusedSimpArgs false
namespace Go.Sl
theorem getD_set (l : List UInt8) (i j : Nat) (v : UInt8) (h : i < l.length) : (l.set i v).getD j 0 = if i = j then v else l.getD j 0 := by
  simp only [List.getD_eq_getElem?_getD, List.getElem?_set]
  split
  · simp [h]
  · rfl
theorem ext8 {a b : List UInt8} (hl : a.length = b.length) (h : ∀ j, j < a.length → a.getD j 0 = b.getD j 0) : a = b := by
  apply List.ext_getElem hl
  intro j h1 h2
  have := h j h1
  simpa [List.getD_eq_getElem?_getD, h1, h2] using this
theorem getD_ge {l : List UInt8} {j : Nat} (h : l.length ≤ j) : l.getD j 0 = 0 := by
  simp [List.getD_eq_getElem?_getD, h]
theorem all8 {p : UInt8 → Prop} (h : ∀ i : Fin 256, p (UInt8.ofNat i.1)) (x : UInt8) : p x := by
  have := h ⟨x.toNat, x.toNat_lt⟩
  rwa [show UInt8.ofNat x.toNat = x from by simp] at this
theorem times2 (x : UInt8) : timesF x 2 = twiceF x := all8 (p := fun x => timesF x 2 = twiceF x) (by decide +kernel) x
theorem times3 (x : UInt8) : timesF x 3 = twiceF x ^^^ x := all8 (p := fun x => timesF x 3 = twiceF x ^^^ x) (by decide +kernel) x
theorem twice_bits (x : UInt8) : twiceF x = (x <<< 1) ^^^ (if x &&& 128 = 0 then 0 else 27) := all8 (p := fun x => twiceF x = (x <<< 1) ^^^ (if x &&& 128 = 0 then 0 else 27)) (by decide +kernel) x
theorem bit7 (x : UInt8) : x &&& 128 = 0 ∨ x &&& 128 = 128 := all8 (p := fun x => x &&& 128 = 0 ∨ x &&& 128 = 128) (by decide +kernel) x
theorem sh1 (x y : UInt8) : (x ^^^ y) <<< 1 = (x <<< 1) ^^^ (y <<< 1) := by
  apply UInt8.toBitVec_inj.1
  simp [BitVec.shiftLeft_xor_distrib]
theorem an7 (x y : UInt8) : (x ^^^ y) &&& 128 = (x &&& 128) ^^^ (y &&& 128) := by
  apply UInt8.toBitVec_inj.1
  simp only [UInt8.toBitVec_and, UInt8.toBitVec_xor]
  apply BitVec.eq_of_getElem_eq
  intro i hi
  simp only [BitVec.getElem_and, BitVec.getElem_xor]
  cases x.toBitVec[i] <;> cases y.toBitVec[i] <;> simp
theorem xor_cancel (a b : UInt8) : a ^^^ (a ^^^ b) = b := by rw [← UInt8.xor_assoc, UInt8.xor_self, UInt8.zero_xor]
theorem xor_left_comm (a b c : UInt8) : a ^^^ (b ^^^ c) = b ^^^ (a ^^^ c) := by rw [← UInt8.xor_assoc, UInt8.xor_comm a b, UInt8.xor_assoc]
theorem twice_xor (x y : UInt8) : twiceF (x ^^^ y) = twiceF x ^^^ twiceF y := by
  simp only [twice_bits, sh1, an7]
  rcases bit7 x with h1 | h1 <;> rcases bit7 y with h2 | h2 <;> simp only [h1, h2] <;> simp [UInt8.xor_assoc, UInt8.xor_comm, xor_left_comm, xor_cancel]
theorem mx_a (a b c d s t : UInt8) : a ^^^ (a ^^^ b ^^^ c ^^^ d ^^^ (s ^^^ t)) = s ^^^ (t ^^^ b) ^^^ c ^^^ d := by
  simp only [UInt8.xor_assoc, xor_cancel]; simp only [UInt8.xor_comm, xor_left_comm]
theorem mx_b (a b c d s t : UInt8) : b ^^^ (a ^^^ b ^^^ c ^^^ d ^^^ (s ^^^ t)) = a ^^^ s ^^^ (t ^^^ c) ^^^ d := by
  rw [show a ^^^ b ^^^ c ^^^ d ^^^ (s ^^^ t) = b ^^^ (a ^^^ s ^^^ (t ^^^ c) ^^^ d) from by simp only [UInt8.xor_assoc, UInt8.xor_comm, xor_left_comm], xor_cancel]
theorem mx_c (a b c d s t : UInt8) : c ^^^ (a ^^^ b ^^^ c ^^^ d ^^^ (s ^^^ t)) = a ^^^ b ^^^ s ^^^ (t ^^^ d) := by
  rw [show a ^^^ b ^^^ c ^^^ d ^^^ (s ^^^ t) = c ^^^ (a ^^^ b ^^^ s ^^^ (t ^^^ d)) from by simp only [UInt8.xor_assoc, UInt8.xor_comm, xor_left_comm], xor_cancel]
theorem mx_d (a b c d s t : UInt8) : d ^^^ (a ^^^ b ^^^ c ^^^ d ^^^ (s ^^^ t)) = t ^^^ a ^^^ b ^^^ c ^^^ s := by
  rw [show a ^^^ b ^^^ c ^^^ d ^^^ (s ^^^ t) = d ^^^ (t ^^^ a ^^^ b ^^^ c ^^^ s) from by simp only [UInt8.xor_assoc, UInt8.xor_comm, xor_left_comm], xor_cancel]
theorem mixcol (c : List UInt8) (j : Nat) (hc : c.length = 16) (hj : j < 4) : mixIn (mixAll c (4 * j)) (c.getD (4 * j) 0) (4 * j) c 4 = mx4 c j := by
  match c, hc with
  | [a0, a1, a2, a3, a4, a5, a6, a7, a8, a9, a10, a11, a12, a13, a14, a15], _ =>
    match j, hj with
    | 0, _ | 1, _ | 2, _ | 3, _ =>
      simp only [mixIn, mixStep, mx4, mx3, mx2, mx1, mixAll, times2, times3, Nat.reduceLT, if_true, if_false, Nat.reduceAdd, Nat.reduceMul, List.getD_cons_zero, List.getD_cons_succ, List.set_cons_zero, List.set_cons_succ, twice_xor, mx_a, mx_b, mx_c, mx_d]
theorem mixed_rMx (c : List UInt8) (hc : c.length = 16) : mixedF c = rMx c 4 := by
  have h : ∀ j, j ≤ 4 → mixTo c j = rMx c j := by
    intro j
    induction j with
    | zero => intro _; rfl
    | succ j ih =>
      intro hj
      have ih' := ih (by omega)
      simp only [mixTo, rMx]
      rw [ih']
      exact mixcol _ _ (by rw [rMx_len, hc]) (by omega)
  unfold mixedF
  exact h 4 (Nat.le_refl _)
end Go.Sl
