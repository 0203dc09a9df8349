/- A part of a proof: the walk. -/
import Derived.Test.YtfljnclghjikdaaGreatDoorQ3
import Derived.Test.YtfljnclghjikdaaGreatDoorP1
set_option linter.unusedVariables false
set_option linter.unusedSimpArgs false
namespace Go.Sl
theorem nbTo_low (i j : Nat) (hj : j < 256) : (nbTo i).getD j 0 = rTab.getD j 0 := by
  induction i with
  | zero =>
    show (wrL (List.replicate 512 0) 0 rTab).getD j 0 = _
    rw [wrL_get _ _ _ _ (by rw [rTab_len, List.length_replicate]; omega), if_pos (by rw [rTab_len]; omega)]
    rfl
  | succ i ih =>
    simp only [nbTo]
    have hl := nbTo_len i
    have h8 := ((nbTo i).getD i 0).toNat_lt
    rw [getD_set _ _ _ _ (by omega), if_neg (by omega), ih]
theorem box_low (j : Nat) (hj : j < 256) : boxM.getD j 0 = sTab.getD j 0 := by
  rw [boxM_eq, nbTo_low _ j hj, rTab_sTab]
theorem sM_box : sM boxM = sTab := by
  apply ext8 (by rw [sM_len boxM_len, sTab_len])
  intro j hj
  rw [sM_len boxM_len] at hj
  rw [← box_low j hj]
  simp only [sM, List.getD_eq_getElem?_getD, List.drop_zero, List.getElem?_take, if_pos hj]
theorem xorTo_get (x y : List UInt8) (k : Nat) (hk : k ≤ x.length) (j : Nat) : (xorTo x y k).getD j 0 = if j < k then x.getD j 0 ^^^ y.getD j 0 else x.getD j 0 := by
  induction k with
  | zero => rfl
  | succ k ih =>
    have ih' := ih (by omega)
    have hl := xorTo_len x y k
    simp only [xorTo]
    rw [getD_set _ _ _ _ (by omega)]
    by_cases h : k = j
    · subst h
      rw [if_pos rfl, if_pos (by omega)]
      have := ih (by omega)
      rw [if_neg (by omega)] at this
      rw [this]
    · rw [if_neg h, ih']
      by_cases h2 : j < k
      · rw [if_pos h2, if_pos (by omega)]
      · rw [if_neg h2, if_neg (by omega)]
theorem against_get (x y : List UInt8) (hx : x.length = 16) (j : Nat) (hj : j < 16) : (againstF x y).getD j 0 = x.getD j 0 ^^^ y.getD j 0 := by
  unfold againstF
  rw [xorTo_get x y 16 (by omega), if_pos hj]
theorem rkW (key : List UInt8) (hk : key.length = 16) (n j : Nat) (hn : n ≤ 10) (hj : j < 16) : (rk (machF key) n).getD j 0 = (wordsF key sTab).getD (16 * n + j) 0 := by
  rw [rk_get _ _ _ hj, ← sched_eq key hk (16 * n + j) (by omega)]
  congr 1
  omega
theorem rX0_get (W b : List UInt8) (k : Nat) (hk : k ≤ b.length) (j : Nat) : (rX0 W b k).getD j 0 = if j < k then b.getD j 0 ^^^ W.getD j 0 else b.getD j 0 := by
  induction k with
  | zero => rfl
  | succ k ih =>
    have ih' := ih (by omega)
    have hl := rX0_len W b k
    simp only [rX0]
    rw [getD_set _ _ _ _ (by omega)]
    by_cases h : k = j
    · subst h
      rw [if_pos rfl, if_pos (by omega)]
      rw [if_neg (by omega)] at ih'
      rw [ih', show k / 4 * 4 + k % 4 = k from by omega]
    · rw [if_neg h, ih']
      by_cases h2 : j < k
      · rw [if_pos h2, if_pos (by omega)]
      · rw [if_neg h2, if_neg (by omega)]
theorem rAdd_get (W c b : List UInt8) (n k : Nat) (hk : k ≤ b.length) (j : Nat) : (rAdd W c n b k).getD j 0 = if j < k then c.getD j 0 ^^^ W.getD (16 * n + j) 0 else b.getD j 0 := by
  induction k with
  | zero => rfl
  | succ k ih =>
    have ih' := ih (by omega)
    have hl := rAdd_len W c n b k
    simp only [rAdd]
    rw [getD_set _ _ _ _ (by omega)]
    by_cases h : k = j
    · subst h
      rw [if_pos rfl, if_pos (by omega), show (4 * n + k / 4) * 4 + k % 4 = 16 * n + k from by omega]
    · rw [if_neg h, ih']
      by_cases h2 : j < k
      · rw [if_pos h2, if_pos (by omega)]
      · rw [if_neg h2, if_neg (by omega)]
theorem rS_sub (key b : List UInt8) (hk : key.length = 16) (i : Nat) : rS boxM b i = subTo (machF key) b i := by
  induction i with
  | zero => rfl
  | succ i ih =>
    simp only [rS, subTo, ih, placeF]
    have h8 := (b.getD ((i + 4 * (i % 4)) % 16) 0).toNat_lt
    rw [box_low _ h8, mach_s key hk _ h8]
theorem sub_len (M b : List UInt8) : (subF M b).length = 16 := by rw [subF_eq, subTo_len]
theorem rRd_enc (key b : List UInt8) (hk : key.length = 16) (hb : b.length = 16) : ∀ n, n ≤ 9 → rRd boxM (wordsF key sTab) b n = encTo (machF key) b n := by
  intro n
  induction n with
  | zero =>
    intro _
    apply ext8 (by rw [show rRd boxM (wordsF key sTab) b 0 = rX0 (wordsF key sTab) b 16 from rfl, rX0_len, encTo_len hb, hb])
    intro j hj
    rw [show rRd boxM (wordsF key sTab) b 0 = rX0 (wordsF key sTab) b 16 from rfl, rX0_len] at hj
    show (rX0 (wordsF key sTab) b 16).getD j 0 = (againstF b (rk (machF key) 0)).getD j 0
    rw [rX0_get _ _ _ (by omega), if_pos (by omega), against_get _ _ hb _ (by omega), rkW key hk 0 j (by omega) (by omega), Nat.mul_zero, Nat.zero_add]
  | succ n ih =>
    intro hn
    have ih' := ih (by omega)
    have hL : (rRd boxM (wordsF key sTab) b n).length = 16 := by rw [rRd_len, hb]
    show rAdd _ (rMid (n + 1) (rS boxM (rRd boxM (wordsF key sTab) b n) 16)) (n + 1) (rRd boxM (wordsF key sTab) b n) 16 = againstF (mixedF (subF (machF key) (encTo (machF key) b n))) (rk (machF key) (n + 1))
    have hm : rMid (n + 1) (rS boxM (rRd boxM (wordsF key sTab) b n) 16) = mixedF (subF (machF key) (encTo (machF key) b n)) := by
      rw [rS_sub key _ hk, ih', mixed_rMx _ (sub_len _ _), subF_eq]
      unfold rMid
      rw [if_pos (by omega)]
    have hlm : (mixedF (subF (machF key) (encTo (machF key) b n))).length = 16 := by rw [mixedF_len, sub_len]
    rw [hm]
    apply ext8 (by rw [rAdd_len, hL, againstF_len, hlm])
    intro j hj
    rw [rAdd_len, hL] at hj
    rw [rAdd_get _ _ _ _ _ (by omega), if_pos hj, against_get _ _ hlm _ hj, rkW key hk (n + 1) j (by omega) hj]
theorem ref_enc (key b : List UInt8) (hk : key.length = 16) (hb : b.length = 16) : refF boxM key b = encF (machF key) b := by
  rw [refF_eq, sM_box]
  have h9 := rRd_enc key b hk hb 9 (Nat.le_refl _)
  have hL : (rRd boxM (wordsF key sTab) b 9).length = 16 := by rw [rRd_len, hb]
  have hm : rMid 10 (rS boxM (rRd boxM (wordsF key sTab) b 9) 16) = subF (machF key) (encTo (machF key) b 9) := by
    rw [rS_sub key _ hk, h9, subF_eq]
    unfold rMid
    rw [if_neg (by omega)]
  show rAdd _ (rMid 10 (rS boxM (rRd boxM (wordsF key sTab) b 9) 16)) 10 (rRd boxM (wordsF key sTab) b 9) 16 = _
  rw [hm]
  unfold encF
  apply ext8 (by rw [rAdd_len, hL, againstF_len, sub_len])
  intro j hj
  rw [rAdd_len, hL] at hj
  rw [rAdd_get _ _ _ _ _ (by omega), if_pos hj, against_get _ _ (sub_len _ _) _ hj, rkW key hk 10 j (by omega) hj]

/-- The two streams. -/
theorem strIn_get (bs s : List UInt8) (a : Nat) (out : List UInt8) (j : Nat) (hol : out.length = bs.length) : ∀ k, a + k ≤ bs.length → (strIn bs s a out k).getD j 0 = if a ≤ j ∧ j < a + k then bs.getD j 0 ^^^ s.getD (j - a) 0 else out.getD j 0 := by
  intro k
  induction k with
  | zero => intro _; rw [if_neg (by omega)]; rfl
  | succ k ih =>
    intro hk
    have ih' := ih (by omega)
    have hl := strIn_len bs s a out k
    simp only [strIn]
    rw [getD_set _ _ _ _ (by omega)]
    by_cases h : a + k = j
    · subst h
      rw [if_pos rfl, if_pos (by omega)]
    · rw [if_neg h, ih']
      by_cases h2 : a ≤ j ∧ j < a + k
      · rw [if_pos h2, if_pos (by omega)]
      · rw [if_neg h2, if_neg (by omega)]
theorem strTo_get (M first bs : List UInt8) (p : Nat) (hp : p < bs.length) : ∀ j, 16 * j < bs.length + 16 → (strTo M first bs j).getD p 0 = if p < 16 * j then bs.getD p 0 ^^^ (encF M (ctrTo first (p / 16))).getD (p % 16) 0 else 0 := by
  intro j
  induction j with
  | zero => intro _; rw [if_neg (by omega)]; simp [strTo, List.getD_eq_getElem?_getD, List.getElem?_replicate]; split <;> rfl
  | succ j ih =>
    intro hj
    have ih' := ih (by omega)
    simp only [strTo]
    rw [strIn_get _ _ _ _ _ (strTo_len _ _ _ _) _ (by omega), ih']
    by_cases h : 16 * j ≤ p ∧ p < 16 * j + (min (16 * j + 16) bs.length - 16 * j)
    · rw [if_pos h, if_pos (by omega), show p / 16 = j from by omega, show p % 16 = p - 16 * j from by omega]
    · rw [if_neg h]
      by_cases h2 : p < 16 * j
      · rw [if_pos h2, if_pos (by omega)]
      · rw [if_neg h2, if_neg (by omega)]
theorem rApp_get (bs s : List UInt8) (a q : Nat) : ∀ k, q < k → (rApp bs s a k).getD q 0 = bs.getD (a + q) 0 ^^^ s.getD q 0 := by
  intro k
  induction k with
  | zero => intro h; omega
  | succ k ih =>
    intro h
    have hl := rApp_len bs s a k
    simp only [rApp, List.getD_eq_getElem?_getD, List.getElem?_append, hl]
    by_cases hq : q < k
    · rw [if_pos hq]
      have := ih hq
      simpa only [List.getD_eq_getElem?_getD] using this
    · rw [if_neg hq, show q = k from by omega, Nat.sub_self]
      rfl
theorem rOut_get (M key first bs : List UInt8) (p : Nat) : ∀ j, p < min (16 * j) bs.length → (rOut M key first bs j).getD p 0 = bs.getD p 0 ^^^ (refF M key (ctrTo first (p / 16))).getD (p % 16) 0 := by
  intro j
  induction j with
  | zero => intro h; omega
  | succ j ih =>
    intro h
    have hl := rOut_len M key first bs j
    simp only [rOut, List.getD_eq_getElem?_getD, List.getElem?_append, hl]
    by_cases hq : p < min (16 * j) bs.length
    · rw [if_pos hq]
      have := ih hq
      simpa only [List.getD_eq_getElem?_getD] using this
    · have hm : min (16 * j) bs.length = 16 * j := by omega
      have := rApp_get bs (refF M key (ctrTo first j)) (16 * j) (p - 16 * j) (min 16 (bs.length - 16 * j)) (by omega)
      simp only [List.getD_eq_getElem?_getD] at this
      rw [if_neg hq, hm, this, show 16 * j + (p - 16 * j) = p from by omega, show p / 16 = j from by omega, show p % 16 = p - 16 * j from by omega]
theorem stream_eq (key first bs : List UInt8) (hk : key.length = 16) (hf : first.length = 16) : rstreamF key first bs = streamF key first bs := by
  apply ext8 (by rw [rstreamF_len, streamF_len])
  intro p hp
  rw [rstreamF_len] at hp
  unfold rstreamF
  rw [streamF_eq, rOut_get _ _ _ _ _ _ (by omega), strTo_get _ _ _ _ hp _ (by omega), if_pos (by omega), ref_enc key _ hk (by rw [ctrTo_len, hf])]
end Go.Sl
