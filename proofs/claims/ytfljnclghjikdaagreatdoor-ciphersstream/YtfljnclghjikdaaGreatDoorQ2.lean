/- A part of a proof: the walk. -/
import Derived.Test.YtfljnclghjikdaaGreatDoorQ1
set_option maxRecDepth 100000
set_option linter.unusedVariables false
set_option linter.unusedSimpArgs false
namespace Go.Sl
/-- What a key schedule's bytes obey. -/
def rcF : Nat → UInt8
  | 0 => 1
  | n + 1 => twiceF (rcF n)
def rot (i : Nat) : Nat := 12 + (i + 1) % 4
structure Sched (s key : List UInt8) (V : Nat → UInt8) : Prop where
  a : ∀ j, j < 16 → V j = key.getD j 0
  b : ∀ n i, n < 10 → i < 4 → V (16 * (n + 1) + i) = V (16 * n + i) ^^^ (s.getD (V (16 * n + rot i)).toNat 0 ^^^ (if i = 0 then rcF n else 0))
  c : ∀ n i, n < 10 → 4 ≤ i → i < 16 → V (16 * (n + 1) + i) = V (16 * n + i) ^^^ V (16 * (n + 1) + i - 4)
theorem Sched.uniq {s key : List UInt8} {V U : Nat → UInt8} (hV : Sched s key V) (hU : Sched s key U) : ∀ j, j < 176 → V j = U j := by
  intro j
  induction j using Nat.strongRecOn with
  | ind j ih =>
    intro hj
    by_cases h : j < 16
    · rw [hV.a j h, hU.a j h]
    · obtain ⟨n, i, hi, rfl⟩ : ∃ n i, i < 16 ∧ j = 16 * (n + 1) + i := ⟨j / 16 - 1, j % 16, by omega, by omega⟩
      by_cases h4 : i < 4
      · have hr : rot i < 16 := by unfold rot; omega
        rw [hV.b n i (by omega) h4, hU.b n i (by omega) h4, ih _ (by omega) (by omega), ih (16 * n + rot i) (by omega) (by omega)]
      · rw [hV.c n i (by omega) (by omega) hi, hU.c n i (by omega) (by omega) hi, ih _ (by omega) (by omega), ih (16 * (n + 1) + i - 4) (by omega) (by omega)]

/- The program's. -/
theorem rk_get (M : List UInt8) (n p : Nat) (hp : p < 16) : (rk M n).getD p 0 = M.getD (512 + n * 16 + p) 0 := by
  simp [rk, List.getD_eq_getElem?_getD, List.getElem?_take, hp]
theorem nmI (was word M : List UInt8) (n : Nat) (hM : M.length = 688) (hw : word.length = 4) (hn : n ≤ 10) : ∀ i, i ≤ 16 →
    (∀ p, p < 512 + n * 16 ∨ 512 + n * 16 + i ≤ p → (nmInner was n word M i).2.getD p 0 = M.getD p 0) ∧
    (∀ p, p < i → (nmInner was n word M i).2.getD (512 + n * 16 + p) 0 = (if p < 4 then word.getD p 0 else (nmInner was n word M i).2.getD (512 + n * 16 + p - 4) 0) ^^^ was.getD p 0) ∧
    (∀ q, q < 4 → (nmInner was n word M i).1.getD q 0 = if i ≤ q then word.getD q 0 else (nmInner was n word M i).2.getD (512 + n * 16 + (i - 1 - (i - 1 - q) % 4)) 0) := by
  intro i
  induction i with
  | zero => intro _; exact ⟨fun p _ => rfl, fun p hp => by omega, fun q _ => by simp [nmInner]⟩
  | succ i ih =>
    intro hi
    obtain ⟨h1, h2, h3⟩ := ih (by omega)
    have hl1 : (nmInner was n word M i).1.length = 4 := by rw [(nmInner_len _ _ _ _ _).1, hw]
    have hl2 : (nmInner was n word M i).2.length = 688 := by rw [(nmInner_len _ _ _ _ _).2, hM]
    have hq : i % 4 < 4 := Nat.mod_lt _ (by omega)
    have ev : ((nmInner was n word M i).1.set (i % 4) ((nmInner was n word M i).1.getD (i % 4) 0 ^^^ was.getD i 0)).getD (i % 4) 0 = (nmInner was n word M i).1.getD (i % 4) 0 ^^^ was.getD i 0 := by
      rw [getD_set _ _ _ _ (by omega), if_pos rfl]
    have e0 : (nmInner was n word M i).1.getD (i % 4) 0 = if i < 4 then word.getD i 0 else (nmInner was n word M i).2.getD (512 + n * 16 + i - 4) 0 := by
      rw [h3 _ hq]
      by_cases h4 : i < 4
      · rw [if_pos (by omega), if_pos h4, Nat.mod_eq_of_lt h4]
      · rw [if_neg (by omega), if_neg h4]
        congr 1
        omega
    simp only [nmInner]
    rw [ev]
    refine ⟨?_, ?_, ?_⟩
    · intro p hp
      rw [getD_set _ _ _ _ (by omega), if_neg (by omega), h1 p (by omega)]
    · intro p hp
      by_cases hpi : p = i
      · subst hpi
        rw [getD_set _ _ _ _ (by omega), if_pos rfl, e0]
        congr 1
        by_cases h4 : p < 4
        · rw [if_pos h4, if_pos h4]
        · rw [if_neg h4, if_neg h4, getD_set _ _ _ _ (by omega), if_neg (by omega)]
      · rw [getD_set _ _ _ _ (by omega), if_neg (by omega), h2 p (by omega)]
        congr 1
        by_cases h4 : p < 4
        · rw [if_pos h4, if_pos h4]
        · rw [if_neg h4, if_neg h4, getD_set _ _ _ _ (by omega), if_neg (by omega)]
    · intro q hq4
      rw [getD_set _ _ _ _ (by omega)]
      by_cases hqi : i % 4 = q
      · rw [if_pos hqi, if_neg (by omega), getD_set _ _ _ _ (by omega), if_pos (by omega)]
      · rw [if_neg hqi, h3 q hq4]
        by_cases hle : i ≤ q
        · rw [if_pos hle, if_pos (by omega)]
        · rw [if_neg hle, if_neg (by omega), getD_set _ _ _ _ (by omega), if_neg (by omega)]
          congr 1
          omega
theorem nmWord_len (M : List UInt8) (n : Nat) (b : UInt8) : (nmWord M n b).length = 4 := rfl
theorem nmWord_get (M : List UInt8) (n : Nat) (b : UInt8) (i : Nat) (hi : i < 4) (h : n ≤ 10) : (nmWord M n b).getD i 0 = M.getD ((rk M n).getD (rot i) 0).toNat 0 ^^^ (if i = 0 then b else 0) := by
  match i, hi with
  | 0, _ => simp [nmWord, rot]
  | 1, _ => simp [nmWord, rot]
  | 2, _ => simp [nmWord, rot]
  | 3, _ => simp [nmWord, rot]
theorem nmTo_keep (key : List UInt8) (hk : key.length = 16) (n p : Nat) (hn : n + 1 ≤ 10) (hp : p < 512 + (n + 1) * 16) : (nmTo key (n + 1)).2.getD p 0 = (nmTo key n).2.getD p 0 := by
  rw [nmTo_succ]
  exact (nmI (rk (nmTo key n).2 n) (nmWord (nmTo key n).2 n (nmTo key n).1) (nmTo key n).2 (n + 1) (nmTo_len hk n) (nmWord_len _ _ _) hn 16 (Nat.le_refl _)).1 p (.inl hp)
theorem keep2 {T : Nat → List UInt8} (h : ∀ n p, n + 1 ≤ 10 → p < 512 + (n + 1) * 16 → (T (n + 1)).getD p 0 = (T n).getD p 0) (n : Nat) : ∀ d p, n + d ≤ 10 → p < 512 + (n + 1) * 16 → (T (n + d)).getD p 0 = (T n).getD p 0 := by
  intro d
  induction d with
  | zero => intro p _ _; rw [Nat.add_zero]
  | succ d ih =>
    intro p h1 h2
    have h3 : n + d + 1 ≤ 10 := by omega
    have h4 : p < 512 + (n + d + 1) * 16 := by
      have : n + 1 ≤ n + d + 1 := by omega
      have := Nat.mul_le_mul_right 16 this
      exact Nat.lt_of_lt_of_le h2 (Nat.add_le_add_left this 512)
    rw [← Nat.add_assoc, h (n + d) p h3 h4]
    exact ih p (Nat.le_of_succ_le h3) h2
theorem nmTo_keep2 (key : List UInt8) (hk : key.length = 16) (n d p : Nat) (h : n + d ≤ 10) (hp : p < 512 + (n + 1) * 16) : (nmTo key (n + d)).2.getD p 0 = (nmTo key n).2.getD p 0 :=
  keep2 (T := fun n => (nmTo key n).2) (fun n p h1 h2 => nmTo_keep key hk n p h1 h2) n d p h hp
theorem nmTo_rc (key : List UInt8) (n : Nat) : (nmTo key n).1 = rcF n := by
  induction n with
  | zero => rfl
  | succ n ih => simp only [nmTo, rcF, ih]
theorem nm0_get (key : List UInt8) (hk : key.length = 16) (p : Nat) : (p < 256 → (nm0 key).getD p 0 = sTab.getD p 0) ∧ (p < 16 → (nm0 key).getD (512 + p) 0 = key.getD p 0) := by
  have h1 : ∀ (l : List UInt8) (o : Nat) (vs : List UInt8) (q : Nat), o + vs.length ≤ l.length → (wrL l o vs).getD q 0 = if o ≤ q ∧ q < o + vs.length then vs.getD (q - o) 0 else l.getD q 0 := by
    intro l o vs q h
    have ht : (l.take o).length = o := by simp; omega
    have e : (wrL l o vs)[q]? = if q < o then l[q]? else if q < o + vs.length then vs[q - o]? else l[q]? := by
      unfold wrL
      rw [List.getElem?_append, List.getElem?_append]
      simp only [List.length_append, ht, List.getElem?_take, List.getElem?_drop]
      by_cases hq : q < o
      · simp only [hq, show q < o + vs.length from by omega, if_true]
      · by_cases hq2 : q < o + vs.length
        · simp only [hq, hq2, if_true, if_false]
        · simp only [hq, hq2, if_false]
          congr 1
          omega
    rw [List.getD_eq_getElem?_getD, e]
    by_cases hq : q < o
    · rw [if_pos hq, if_neg (by omega), List.getD_eq_getElem?_getD]
    · by_cases hq2 : q < o + vs.length
      · rw [if_neg hq, if_pos hq2, if_pos ⟨by omega, hq2⟩, List.getD_eq_getElem?_getD]
      · rw [if_neg hq, if_neg hq2, if_neg (by omega), List.getD_eq_getElem?_getD]
  have la : (wrL (List.replicate 688 (0 : UInt8)) 0 sTab).length = 688 := wrL_len' List.length_replicate sTab_len (by decide)
  have lb : (wrL (wrL (List.replicate 688 (0 : UInt8)) 0 sTab) 256 bTab).length = 688 := wrL_len' la bTab_len (by decide)
  unfold nm0
  constructor
  · intro hp
    rw [h1 _ _ _ _ (by rw [lb, hk]; omega), if_neg (by omega), h1 _ _ _ _ (by rw [la, bTab_len]; omega), if_neg (by omega), h1 _ _ _ _ (by rw [List.length_replicate, sTab_len]; omega), if_pos (by rw [sTab_len]; omega)]
    rfl
  · intro hp
    rw [h1 _ _ _ _ (by rw [lb, hk]; omega), if_pos (by omega)]
    congr 1
    omega
theorem mach_d (key : List UInt8) (hk : key.length = 16) (n p : Nat) (hn : n ≤ 10) (hp : p < 512 + (n + 1) * 16) : (nmTo key 10).2.getD p 0 = (nmTo key n).2.getD p 0 := by
  obtain ⟨d, hd⟩ : ∃ d, n + d = 10 := ⟨10 - n, by omega⟩
  have := nmTo_keep2 key hk n d p (by omega) hp
  rwa [hd] at this
theorem mach_s (key : List UInt8) (hk : key.length = 16) (p : Nat) (hp : p < 256) : (machF key).getD p 0 = sTab.getD p 0 := by
  rw [machF_eq]
  exact (mach_d key hk 0 p (by omega) (by omega)).trans ((nm0_get key hk p).1 hp)
theorem mach_at (key : List UInt8) (hk : key.length = 16) (n p : Nat) (hn : n ≤ 10) (hp : p < (n + 1) * 16) : (machF key).getD (512 + p) 0 = (nmTo key n).2.getD (512 + p) 0 := by
  rw [machF_eq, mach_d key hk n _ hn (by omega)]
theorem mach_sched (key : List UInt8) (hk : key.length = 16) : Sched sTab key fun j => (machF key).getD (512 + j) 0 where
  a := fun j hj => by
    show (machF key).getD (512 + j) 0 = _
    rw [mach_at key hk 0 j (by omega) (by omega)]
    exact (nm0_get key hk j).2 hj
  b := fun n i hn hi => by
    show (machF key).getD (512 + (16 * (n + 1) + i)) 0 = (machF key).getD (512 + (16 * n + i)) 0 ^^^ (sTab.getD ((machF key).getD (512 + (16 * n + rot i)) 0).toNat 0 ^^^ _)
    have hr : rot i < 16 := by unfold rot; omega
    have hI := (nmI (rk (nmTo key n).2 n) (nmWord (nmTo key n).2 n (nmTo key n).1) (nmTo key n).2 (n + 1) (nmTo_len hk n) (nmWord_len _ _ _) (by omega) 16 (Nat.le_refl _)).2.1 i (by omega)
    rw [mach_at key hk (n + 1) _ (by omega) (by omega), mach_at key hk n (16 * n + i) (by omega) (by omega), mach_at key hk n (16 * n + rot i) (by omega) (by omega), nmTo_succ,
      show 512 + (16 * (n + 1) + i) = 512 + (n + 1) * 16 + i from by omega, hI, if_pos hi, nmWord_get _ _ _ _ hi (by omega), rk_get _ _ (rot i) hr, rk_get _ _ i (by omega), nmTo_rc,
      show 512 + n * 16 + rot i = 512 + (16 * n + rot i) from by omega, show 512 + n * 16 + i = 512 + (16 * n + i) from by omega]
    rw [show (nmTo key n).2.getD ((nmTo key n).2.getD (512 + (16 * n + rot i)) 0).toNat 0 = sTab.getD ((nmTo key n).2.getD (512 + (16 * n + rot i)) 0).toNat 0 from ?_, UInt8.xor_comm]
    have h256 := ((nmTo key n).2.getD (512 + (16 * n + rot i)) 0).toNat_lt
    rw [← mach_s key hk _ h256, machF_eq, mach_d key hk n _ (by omega) (by omega)]
  c := fun n i hn h4 hi => by
    show (machF key).getD (512 + (16 * (n + 1) + i)) 0 = (machF key).getD (512 + (16 * n + i)) 0 ^^^ (machF key).getD (512 + (16 * (n + 1) + i - 4)) 0
    have hI := (nmI (rk (nmTo key n).2 n) (nmWord (nmTo key n).2 n (nmTo key n).1) (nmTo key n).2 (n + 1) (nmTo_len hk n) (nmWord_len _ _ _) (by omega) 16 (Nat.le_refl _)).2.1 i (by omega)
    rw [mach_at key hk (n + 1) _ (by omega) (by omega), mach_at key hk n (16 * n + i) (by omega) (by omega), mach_at key hk (n + 1) (16 * (n + 1) + i - 4) (by omega) (by omega), nmTo_succ,
      show 512 + (16 * (n + 1) + i) = 512 + (n + 1) * 16 + i from by omega, hI, if_neg (by omega), rk_get _ _ _ (by omega),
      show 512 + n * 16 + i = 512 + (16 * n + i) from by omega, show 512 + (16 * (n + 1) + i - 4) = 512 + (n + 1) * 16 + i - 4 from by omega, UInt8.xor_comm]
end Go.Sl
