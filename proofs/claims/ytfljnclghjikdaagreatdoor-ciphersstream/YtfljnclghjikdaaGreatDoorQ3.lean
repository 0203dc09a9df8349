/- A part of a proof: the walk. -/
import Derived.Test.YtfljnclghjikdaaGreatDoorQ2
set_option linter.unusedVariables false
set_option linter.unusedSimpArgs false
namespace Go.Sl
theorem w4_get (W : List UInt8) (i q : Nat) (hq : q < 4) : (w4 W i).getD q 0 = W.getD (i * 4 + q) 0 := by
  simp [w4, List.getD_eq_getElem?_getD, List.getElem?_take, hq]
theorem wInL (x W : List UInt8) (i : Nat) (hW : W.length = 176) (h4 : 4 ≤ i) (hi : i < 44) : ∀ k, k ≤ 4 →
    (∀ p, p < i * 4 ∨ i * 4 + k ≤ p → (wIn x i W k).getD p 0 = W.getD p 0) ∧
    (∀ p, p < k → (wIn x i W k).getD (i * 4 + p) 0 = W.getD ((i - 4) * 4 + p) 0 ^^^ x.getD p 0) := by
  intro k
  induction k with
  | zero => intro _; exact ⟨fun p _ => rfl, fun p hp => by omega⟩
  | succ k ih =>
    intro hk
    obtain ⟨h1, h2⟩ := ih (by omega)
    have hl : (wIn x i W k).length = 176 := by rw [wIn_len, hW]
    simp only [wIn]
    refine ⟨?_, ?_⟩
    · intro p hp
      rw [getD_set _ _ _ _ (by omega), if_neg (by omega), h1 p (by omega)]
    · intro p hp
      rw [getD_set _ _ _ _ (by omega)]
      by_cases hpk : k = p
      · subst hpk
        rw [if_pos rfl, h1 _ (by omega)]
      · rw [if_neg (by omega), h2 p (by omega)]
theorem wrL_get (l : List UInt8) (o : Nat) (vs : List UInt8) (q : Nat) (h : o + vs.length ≤ l.length) : (wrL l o vs).getD q 0 = if o ≤ q ∧ q < o + vs.length then vs.getD (q - o) 0 else l.getD q 0 := by
  have ht : (l.take o).length = o := by simp; omega
  have e : (wrL l o vs)[q]? = if q < o then l[q]? else if q < o + vs.length then vs[q - o]? else l[q]? := by
    unfold wrL
    rw [List.getElem?_append, List.getElem?_append]
    simp only [List.length_append, ht, List.getElem?_take, List.getElem?_drop]
    by_cases hq : q < o
    · simp only [hq, show q < o + vs.length from by omega, if_true]
    · by_cases hq2 : q < o + vs.length
      · simp only [hq, hq2, if_true, if_false]
      · simp only [hq, hq2, if_false]
        congr 1
        omega
  rw [List.getD_eq_getElem?_getD, e]
  by_cases hq : q < o
  · rw [if_pos hq, if_neg (by omega), List.getD_eq_getElem?_getD]
  · by_cases hq2 : q < o + vs.length
    · rw [if_neg hq, if_pos hq2, if_pos ⟨by omega, hq2⟩, List.getD_eq_getElem?_getD]
    · rw [if_neg hq, if_neg hq2, if_neg (by omega), List.getD_eq_getElem?_getD]
theorem wTo_lt (key s : List UInt8) (i : Nat) (h : i < 4) : wTo key s (i + 1) = ((wTo key s i).1, wrL (wTo key s i).2 (i * 4) [key.getD (4 * i) 0, key.getD (4 * i + 1) 0, key.getD (4 * i + 2) 0, key.getD (4 * i + 3) 0]) := by
  simp only [wTo, if_pos h]
theorem wTo_ge (key s : List UInt8) (i : Nat) (h : ¬ i < 4) : wTo key s (i + 1) = (wB (wTo key s i).1 i, wIn (wX s (wTo key s i).2 (wTo key s i).1 i) i (wTo key s i).2 4) := by
  simp only [wTo, if_neg h]
theorem wTo_keep (key s : List UInt8) (i p : Nat) (hi : i < 44) (hp : p < i * 4) : (wTo key s (i + 1)).2.getD p 0 = (wTo key s i).2.getD p 0 := by
  have hl := wTo_len key s i (by omega)
  by_cases h : i < 4
  · rw [wTo_lt key s i h, wrL_get _ _ _ _ (by simp only [List.length_cons, List.length_nil]; omega), if_neg (by omega)]
  · rw [wTo_ge key s i h]
    exact (wInL _ _ i hl (by omega) hi 4 (Nat.le_refl _)).1 p (.inl hp)
theorem keepW {T : Nat → List UInt8} (h : ∀ i p, i < 44 → p < i * 4 → (T (i + 1)).getD p 0 = (T i).getD p 0) (n : Nat) : ∀ d p, n + d ≤ 44 → p < n * 4 → (T (n + d)).getD p 0 = (T n).getD p 0 := by
  intro d
  induction d with
  | zero => intro p _ _; rw [Nat.add_zero]
  | succ d ih =>
    intro p h1 h2
    have h4 : p < (n + d) * 4 := Nat.lt_of_lt_of_le h2 (Nat.mul_le_mul_right 4 (Nat.le_add_right n d))
    rw [← Nat.add_assoc, h (n + d) p h1 h4]
    exact ih p (Nat.le_of_succ_le h1) h2
theorem words_at (key s : List UInt8) (i p : Nat) (hi : i ≤ 44) (hp : p < i * 4) : (wordsF key s).getD p 0 = (wTo key s i).2.getD p 0 := by
  rw [wordsF_eq]
  obtain ⟨d, hd⟩ : ∃ d, i + d = 44 := ⟨44 - i, by omega⟩
  have := keepW (T := fun i => (wTo key s i).2) (fun i p h1 h2 => wTo_keep key s i p h1 h2) i d p (by omega) hp
  rwa [hd] at this
theorem wTo_rc (key s : List UInt8) (i : Nat) : (wTo key s i).1 = rcF ((i - 1) / 4) := by
  induction i with
  | zero => rfl
  | succ i ih =>
    by_cases h : i < 4
    · rw [wTo_lt key s i h]
      show (wTo key s i).1 = _
      rw [ih, show (i - 1) / 4 = 0 from by omega, show (i + 1 - 1) / 4 = 0 from by omega]
    · rw [wTo_ge key s i h]
      show wB (wTo key s i).1 i = _
      rw [ih]
      unfold wB
      by_cases h4 : i % 4 = 0
      · rw [if_pos h4, times2, show (i + 1 - 1) / 4 = (i - 1) / 4 + 1 from by omega]
        rfl
      · rw [if_neg h4, show (i + 1 - 1) / 4 = (i - 1) / 4 from by omega]
theorem wX_get0 (s W : List UInt8) (b : UInt8) (i k : Nat) (hi : i % 4 = 0) (hk : k < 4) : (wX s W b i).getD k 0 = s.getD (W.getD ((i - 1) * 4 + (k + 1) % 4) 0).toNat 0 ^^^ (if k = 0 then b else 0) := by
  unfold wX
  rw [if_pos hi]
  match k, hk with
  | 0, _ => simp only [List.getD_cons_zero, w4_get, Nat.reduceLT, Nat.reduceAdd, Nat.reduceMod, if_true]
  | 1, _ =>
    show s.getD ((w4 W (i - 1)).getD 2 0).toNat 0 = _
    rw [w4_get _ _ _ (by decide), if_neg (by decide), UInt8.xor_zero]
  | 2, _ =>
    show s.getD ((w4 W (i - 1)).getD 3 0).toNat 0 = _
    rw [w4_get _ _ _ (by decide), if_neg (by decide), UInt8.xor_zero]
  | 3, _ =>
    show s.getD ((w4 W (i - 1)).getD 0 0).toNat 0 = _
    rw [w4_get _ _ _ (by decide), if_neg (by decide), UInt8.xor_zero]
theorem words_sched (key s : List UInt8) : Sched s key fun j => (wordsF key s).getD j 0 where
  a := fun j hj => by
    show (wordsF key s).getD j 0 = _
    have hl := wTo_len key s (j / 4) (by omega)
    rw [words_at key s (j / 4 + 1) j (by omega) (by omega), wTo_lt key s (j / 4) (by omega), wrL_get _ _ _ _ (by simp only [List.length_cons, List.length_nil]; omega), if_pos (by simp only [List.length_cons, List.length_nil]; omega)]
    obtain ⟨i, k, hk, hi, rfl⟩ : ∃ i k, k < 4 ∧ i < 4 ∧ j = 4 * i + k := ⟨j / 4, j % 4, by omega, by omega, by omega⟩
    rw [show (4 * i + k) / 4 = i from by omega, show 4 * i + k - i * 4 = k from by omega]
    match k, hk with
    | 0, _ => rfl
    | 1, _ => rfl
    | 2, _ => rfl
    | 3, _ => rfl
  b := fun n i hn hi => by
    show (wordsF key s).getD (16 * (n + 1) + i) 0 = (wordsF key s).getD (16 * n + i) 0 ^^^ (s.getD ((wordsF key s).getD (16 * n + rot i) 0).toNat 0 ^^^ _)
    have hr : rot i = 12 + (i + 1) % 4 := rfl
    have hl := wTo_len key s (4 * (n + 1)) (by omega)
    have hI := (wInL (wX s (wTo key s (4 * (n + 1))).2 (wTo key s (4 * (n + 1))).1 (4 * (n + 1))) (wTo key s (4 * (n + 1))).2 (4 * (n + 1)) hl (by omega) (by omega) 4 (Nat.le_refl _)).2 i hi
    rw [words_at key s (4 * (n + 1) + 1) _ (by omega) (by omega), words_at key s (4 * (n + 1)) (16 * n + i) (by omega) (by omega), words_at key s (4 * (n + 1)) (16 * n + rot i) (by omega) (by omega),
      wTo_ge key s _ (by omega), show 16 * (n + 1) + i = 4 * (n + 1) * 4 + i from by omega, hI, wX_get0 _ _ _ _ _ (by omega) hi, wTo_rc, show (4 * (n + 1) - 1) / 4 = n from by omega,
      show (4 * (n + 1) - 4) * 4 + i = 16 * n + i from by omega, show (4 * (n + 1) - 1) * 4 + (i + 1) % 4 = 16 * n + rot i from by omega]
  c := fun n i hn h4 hi => by
    show (wordsF key s).getD (16 * (n + 1) + i) 0 = (wordsF key s).getD (16 * n + i) 0 ^^^ (wordsF key s).getD (16 * (n + 1) + i - 4) 0
    obtain ⟨q, k, hk, hq, hq4, rfl⟩ : ∃ q k, k < 4 ∧ 1 ≤ q ∧ q < 4 ∧ i = 4 * q + k := ⟨i / 4, i % 4, by omega, by omega, by omega, by omega⟩
    have hl := wTo_len key s (4 * (n + 1) + q) (by omega)
    have hI := (wInL (wX s (wTo key s (4 * (n + 1) + q)).2 (wTo key s (4 * (n + 1) + q)).1 (4 * (n + 1) + q)) (wTo key s (4 * (n + 1) + q)).2 (4 * (n + 1) + q) hl (by omega) (by omega) 4 (Nat.le_refl _)).2 k hk
    rw [words_at key s (4 * (n + 1) + q + 1) _ (by omega) (by omega), words_at key s (4 * (n + 1) + q) (16 * n + (4 * q + k)) (by omega) (by omega), words_at key s (4 * (n + 1) + q) (16 * (n + 1) + (4 * q + k) - 4) (by omega) (by omega),
      wTo_ge key s _ (by omega), show 16 * (n + 1) + (4 * q + k) = (4 * (n + 1) + q) * 4 + k from by omega, hI, show wX s (wTo key s (4 * (n + 1) + q)).2 (wTo key s (4 * (n + 1) + q)).1 (4 * (n + 1) + q) = w4 (wTo key s (4 * (n + 1) + q)).2 (4 * (n + 1) + q - 1) from if_neg (by omega), w4_get _ _ _ hk,
      show (4 * (n + 1) + q - 4) * 4 + k = 16 * n + (4 * q + k) from by omega, show (4 * (n + 1) + q - 1) * 4 + k = (4 * (n + 1) + q) * 4 + k - 4 from by omega]
theorem sched_eq (key : List UInt8) (hk : key.length = 16) (j : Nat) (hj : j < 176) : (machF key).getD (512 + j) 0 = (wordsF key sTab).getD j 0 :=
  (mach_sched key hk).uniq (words_sched key sTab) j hj
end Go.Sl
