/- The engine, part J: byte slices that are read. -/
import Derived.Test.YtfljnclghjikdaaGreatDoorEngI
set_option linter.unusedVariables false
set_option linter.unusedSimpArgs false
namespace Go.Sl

/-- v is a slice of the bytes bs, somewhere in S. -/
def RdB (S : HL) (v : Value) (bs : List UInt8) : Prop :=
  (bs = [] ∧ ∃ a c, v = .slice a 0 c) ∨
  (bs ≠ [] ∧ ∃ b off c l T fr, v = sl b off bs.length c ∧ (b, Obj.cells ⟨l⟩ T fr) ∈ S ∧ ∀ k, k < bs.length → l[off + k]? = some (u8 (bs.getD k 0)))
theorem RdB.mono {S T : HL} {v : Value} {bs : List UInt8} (h : RdB S v bs) (hs : ∀ p ∈ S, p ∈ T) : RdB T v bs := by
  rcases h with h | ⟨h0, b, off, c, l, T', fr, h1, h2, h3⟩
  · exact .inl h
  · exact .inr ⟨h0, b, off, c, l, T', fr, h1, hs _ h2, h3⟩
theorem RdB.of {S : HL} {b off c : Nat} {bs xs : List UInt8} {T : TypeId} {n : Nat} (hm : (b, blk (xs.map u8) T) ∈ S) (hn : bs.length = n) (h : ∀ k, k < n → off + k < xs.length ∧ xs.getD (off + k) 0 = bs.getD k 0) : RdB S (sl b off n c) bs := by
  subst hn
  by_cases h0 : bs = []
  · subst h0; exact .inl ⟨rfl, _, _, rfl⟩
  · refine .inr ⟨h0, b, off, c, _, T, _, rfl, hm, fun k hk => ?_⟩
    rw [m_get 0 (h k hk).1, (h k hk).2]
theorem RdB.whole {S : HL} {b c : Nat} {bs xs : List UInt8} {T : TypeId} (hm : (b, blk ((bs ++ xs).map u8) T) ∈ S) : RdB S (sl b 0 bs.length c) bs :=
  RdB.of hm rfl fun k hk => by simp [List.getD_eq_getElem?_getD, List.getElem?_append, hk]; omega
theorem RdB.all {S : HL} {b c : Nat} {bs : List UInt8} {T : TypeId} (hm : (b, blk (bs.map u8) T) ∈ S) : RdB S (sl b 0 bs.length c) bs :=
  RdB.of hm rfl fun k hk => by simp [hk]
theorem Src.rdb {P : Program} {S : HL} {v : Value} {bs : List UInt8} (h : RdB S v bs) : Src P S v bs.length 1 (bs.map u8) := by
  rcases h with ⟨rfl, a, c, rfl⟩ | ⟨h0, b, off, c, l, T', fr, rfl, h2, h3⟩
  · exact Src.nil
  · have hp : bs.length ≠ 0 := by simpa using h0
    have hle : off + bs.length * 1 ≤ l.length := by
      have := h3 (bs.length - 1) (by omega)
      have hlt : off + (bs.length - 1) < l.length := by
        rcases Nat.lt_or_ge (off + (bs.length - 1)) l.length with h | h
        · exact h
        · simp [List.getElem?_eq_none h] at this
      omega
    refine Src.sl h2 hle ?_
    apply List.ext_getElem?
    intro i
    rw [Nat.mul_one, List.getElem?_take]
    split
    · rename_i hi
      rw [List.getElem?_drop, h3 i hi]
      simp [List.getElem?_eq_getElem hi, List.getD_eq_getElem?_getD]
    · rename_i hi
      simp only [List.getElem?_map]
      rw [List.getElem?_eq_none (by omega)]
      rfl
def dn : Nat → Value
  | 0 => .int .i64 (-1)
  | m + 1 => nI m
theorem dn_eq (m : Nat) : Value.int .i64 ((m : Int) - 1) = dn m := by
  cases m with
  | zero => rfl
  | succ m => simp [dn]
end Go.Sl
