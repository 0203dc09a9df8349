/- A part of a proof: N6, N7, N8, N9. -/
import Derived.Test.YtfljnclghjikdaaGreatDoorProg
import Derived.Test.YtfljnclghjikdaaGreatDoorN5
/- shas: the walk of a run. -/
set_option linter.unusedVariables false
set_option linter.unusedSimpArgs false
namespace Go.Sl
open Go.Proofs

attribute [local irreducible] afterF
abbrev RS := List UInt32 × List UInt8 × Nat
/-- A run takes one byte. -/
def ab (s : RS) (x : UInt8) : RS := if s.2.2 + 1 = 64 then (afterF s.1 (s.2.1.set s.2.2 x), s.2.1.set s.2.2 x, 0) else (s.1, s.2.1.set s.2.2 x, s.2.2 + 1)
def abs (s : RS) (bs : List UInt8) : RS := bs.foldl ab s
def RSok (s : RS) : Prop := s.1.length = 8 ∧ s.2.1.length = 64 ∧ s.2.2 < 64
theorem RSok.ab {s : RS} (h : RSok s) (x : UInt8) : RSok (Go.Sl.ab s x) := by
  obtain ⟨h1, h2, h3⟩ := h
  unfold Go.Sl.ab
  split
  · exact ⟨afterF_len _ _ h1, by simp [h2], Nat.zero_lt_succ 63⟩
  · exact ⟨h1, by simp [h2], by dsimp only; omega⟩
theorem abs_append (s : RS) (xs ys : List UInt8) : abs s (xs ++ ys) = abs (abs s xs) ys := List.foldl_append
theorem RSok.abs {s : RS} (h : RSok s) (bs : List UInt8) : RSok (Go.Sl.abs s bs) := by
  induction bs generalizing s with
  | nil => exact h
  | cons x bs ih => exact ih (h.ab x)
theorem wrL_consU {l : List UInt8} {off : Nat} (v : UInt8) (vs : List UInt8) (h : off < l.length) : wrL l off (v :: vs) = wrL (l.set off v) (off + 1) vs := by
  simp only [wrL, List.length_cons]
  rw [List.take_add_one, List.getElem?_set_self (by simpa using h)]
  simp only [Option.toList_some, List.append_assoc, List.singleton_append]
  congr 1
  · simp [List.take_set]
    rw [List.set_eq_of_length_le (by simp; omega)]
  · rw [List.drop_set, if_pos (by omega), show off + (vs.length + 1) = off + 1 + vs.length from by omega]
theorem wrL_nilU (l : List UInt8) (off : Nat) : wrL l off [] = l := by simp [wrL]
theorem abs_chunk (bs : List UInt8) : ∀ (s : RS), RSok s → s.2.2 + bs.length ≤ 64 → 0 < bs.length → abs s bs = if s.2.2 + bs.length = 64 then (afterF s.1 (wrL s.2.1 s.2.2 bs), wrL s.2.1 s.2.2 bs, 0) else (s.1, wrL s.2.1 s.2.2 bs, s.2.2 + bs.length) := by
  induction bs with
  | nil => intro s _ _ h; cases h
  | cons x bs ih =>
    rintro ⟨h, buf, m⟩ ⟨h1, h2, h3⟩ hn _
    simp only [List.length_cons] at hn h1 h2 h3 ⊢
    show abs (ab (h, buf, m) x) bs = _
    rw [wrL_consU _ _ (by omega)]
    by_cases h0 : bs = []
    · subst h0
      simp only [abs, List.foldl_nil, List.length_nil, Nat.zero_add, wrL_nilU, ab]
    · have hp : 0 < bs.length := List.length_pos_iff.2 h0
      have hne : ¬ (m + 1 = 64) := by omega
      have e : ab (h, buf, m) x = (h, buf.set m x, m + 1) := by simp only [ab, if_neg hne]
      rw [e, ih (h, buf.set m x, m + 1) ⟨h1, by simp [h2], by dsimp only; omega⟩ (by dsimp only; omega) hp]
      dsimp only
      rw [show m + 1 + bs.length = m + (bs.length + 1) from by omega]
/-- Behind i parts, and d bytes of the next one. -/
def AA (s : RS) (parts : List (List UInt8)) (i d : Nat) : RS := abs (abs s (parts.take i).flatten) ((parts.getD i []).take d)
theorem AA_ok {s : RS} (h : RSok s) (parts : List (List UInt8)) (i d : Nat) : RSok (AA s parts i d) := (h.abs _).abs _
theorem AA_zero (s : RS) (parts : List (List UInt8)) (i : Nat) : AA s parts i 0 = abs s (parts.take i).flatten := by simp [AA, abs]
theorem AA_end (s : RS) (parts : List (List UInt8)) (i : Nat) (hi : i < parts.length) : AA s parts i (parts.getD i []).length = AA s parts (i + 1) 0 := by
  rw [AA_zero, AA, List.take_length, ← abs_append]
  congr 1
  rw [List.take_add_one, List.flatten_append]
  simp [List.getD_eq_getElem?_getD, hi]
theorem AA_all (s : RS) (parts : List (List UInt8)) : AA s parts parts.length 0 = abs s parts.flatten := by rw [AA_zero, List.take_length]
theorem AA_chunk {s : RS} (hs : RSok s) (parts : List (List UInt8)) (i d n : Nat) (h0 : 0 < n) (h1 : d + n ≤ (parts.getD i []).length) (h2 : (AA s parts i d).2.2 + n ≤ 64) :
    AA s parts i (d + n) = if (AA s parts i d).2.2 + n = 64 then (afterF (AA s parts i d).1 (wrL (AA s parts i d).2.1 (AA s parts i d).2.2 (((parts.getD i []).drop d).take n)), wrL (AA s parts i d).2.1 (AA s parts i d).2.2 (((parts.getD i []).drop d).take n), 0)
      else ((AA s parts i d).1, wrL (AA s parts i d).2.1 (AA s parts i d).2.2 (((parts.getD i []).drop d).take n), (AA s parts i d).2.2 + n) := by
  have hl : (((parts.getD i []).drop d).take n).length = n := by simp only [List.length_take, List.length_drop]; omega
  have e : AA s parts i (d + n) = abs (AA s parts i d) (((parts.getD i []).drop d).take n) := by
    simp only [AA, List.take_add, abs_append]
  rw [e, abs_chunk _ _ (AA_ok hs parts i d) (by rw [hl]; exact h2) (by rw [hl]; exact h0), hl]
/-- A run in memory. -/
def runL (b : Nat) (buf : List UInt8) (m : Nat) (tot : UInt64) : List Value := ptr b 0 :: (buf.map u8 ++ [nI m, u64 tot])
theorem runL_len {b m : Nat} {buf : List UInt8} {tot : UInt64} (h : buf.length = 64) : (runL b buf m tot).length = 67 := by simp [runL, h]
theorem runL_0 {b m : Nat} {buf : List UInt8} {tot : UInt64} : (runL b buf m tot)[0]? = some (ptr b 0) := rfl
theorem runL_b {b m : Nat} {buf : List UInt8} {tot : UInt64} (h : buf.length = 64) : ∀ j, j < 64 → (runL b buf m tot)[1 + j]? = some (u8 (buf.getD j 0)) := by
  intro j hj
  rw [Nat.add_comm]
  simp only [runL, List.getElem?_cons_succ]
  rw [List.getElem?_append_left (by simp [h, hj])]
  exact m_get 0 (by omega)
theorem runL_65 {b m : Nat} {buf : List UInt8} {tot : UInt64} (h : buf.length = 64) : (runL b buf m tot)[65]? = some (nI m) := by
  show ((buf.map u8 ++ [nI m, u64 tot]) : List Value)[64]? = _
  rw [List.getElem?_append_right (by simp [h])]
  simp [h]
theorem runL_66 {b m : Nat} {buf : List UInt8} {tot : UInt64} (h : buf.length = 64) : (runL b buf m tot)[66]? = some (u64 tot) := by
  show ((buf.map u8 ++ [nI m, u64 tot]) : List Value)[65]? = _
  rw [List.getElem?_append_right (by simp [h])]
  simp [h]
theorem runL_s0 {b b' m : Nat} {buf : List UInt8} {tot : UInt64} : (runL b buf m tot).set 0 (ptr b' 0) = runL b' buf m tot := rfl
theorem runL_s65 {b m m' : Nat} {buf : List UInt8} {tot : UInt64} (h : buf.length = 64) : (runL b buf m tot).set 65 (nI m') = runL b buf m' tot := by
  show ptr b 0 :: ((buf.map u8 ++ [nI m, u64 tot]) : List Value).set 64 _ = _
  rw [List.set_append_right _ _ (by simp [h])]
  simp [h, runL]
theorem runL_s66 {b m : Nat} {buf : List UInt8} {tot tot' : UInt64} (h : buf.length = 64) : (runL b buf m tot).set 66 (u64 tot') = runL b buf m tot' := by
  show ptr b 0 :: ((buf.map u8 ++ [nI m, u64 tot]) : List Value).set 65 _ = _
  rw [List.set_append_right _ _ (by simp [h])]
  simp [h, runL]
theorem runL_wr {b m k : Nat} {buf xs : List UInt8} {tot : UInt64} (h : k + xs.length ≤ buf.length) : wrL (runL b buf m tot) (1 + k) (xs.map u8) = runL b (wrL buf k xs) m tot := by
  have e1 : 1 + k + xs.length = (k + xs.length) + 1 := by omega
  rw [Nat.add_comm 1 k]
  simp only [runL, wrL, List.length_map, List.take_succ_cons, List.map_append, List.map_take, List.map_drop]
  rw [show k + 1 + xs.length = (k + xs.length) + 1 from by omega, List.drop_succ_cons, List.take_append_of_le_length (by simp; omega), List.drop_append_of_le_length (by simp; omega)]
  simp
theorem RdS.cut {S : HL} {b off c n N : Nat} {bs : List UInt8} (h : RdB S (sl b off bs.length c) bs) (hc : bs.length ≤ c) (hn : n ≤ bs.length) (hN : N = bs.length - n) : RdS S (sl b (sliceOff off n c 1) N (c - n)) (bs.drop n) := by
  subst hN
  have hl : (bs.drop n).length = bs.length - n := List.length_drop
  refine ⟨?_, ⟨_, _, by rw [hl], by omega⟩⟩
  by_cases h0 : bs.length - n = 0
  · left
    refine ⟨List.eq_nil_of_length_eq_zero (by omega), ?_⟩
    rw [h0]
    exact ⟨_, _, rfl⟩
  · have ho : sliceOff off n c 1 = off + n := by simp only [sliceOff]; rw [if_neg (by omega)]; omega
    obtain ⟨b', off', l, T, fr, he, hm, hg⟩ := h.at (by omega)
    injection he with he
    injection he with e1 e2
    subst e1 e2
    rw [ho]
    exact RdB.dropC hm rfl hg hn
def totT (tot : UInt64) (parts : List (List UInt8)) : Nat → UInt64
  | 0 => tot
  | i + 1 => totT tot parts i + UInt64.ofNat (parts.getD i []).length


set_option maxRecDepth 100000 in
set_option maxHeartbeats 4000000 in
theorem takes_c (s : RS) (tot : UInt64) (parts : List (List UInt8)) (gr bs gp off cp : Nat) (pv : List Value) (T : TypeId) (fr : Nat × Nat) (R : HL) (hs : RSok s) (hbs0 : (bs, blk (s.1.map u32) 333) ∈ R) (hp : (gp, Obj.cells ⟨pv⟩ T fr) ∈ R) (hpv : ∀ i, i < parts.length → ∃ v, pv[off + i]? = some v ∧ RdS R v (parts.getD i [])) (hlen : ∀ i, i < parts.length → (parts.getD i []).length ≤ 1000000000) (hn : parts.length ≤ 1000) : CallS Tryz.prog 245 ⟨[ptr gr 0, sl gp off parts.length cp]⟩ ((gr, blk (runL bs s.2.1 s.2.2 tot) 337) :: R) fun v S' => ∃ bs' Z, v = .tuple #[] ∧ (bs', blk ((abs s parts.flatten).1.map u32) 333) ∈ Z ++ R ∧ S' = Z ++ ((gr, blk (runL bs' (abs s parts.flatten).2.1 (abs s parts.flatten).2.2 (totT tot parts parts.length)) 337) :: R) := by
  refine CallS.enter Tryz.func245 rfl Tryz.ntmps245 (by simp) ?_
  refine CW.seq ?_
  refine CW.region (by kernel_rfl) ?_
  refine RL.q rfl rfl (QW.move rfl) ?_
  refine RL.q rfl rfl (QW.len_s Tryz.runUnderlying83 rfl) ?_
  refine RL.q rfl rfl (QW.move rfl) ?_
  refine RL.nil (thenN ?_)
  refine CW.block ?_
  refine CW.loopT3 (α := Nat) (β := Nat) (γ := HL) [(0, _), (8, _), (9, _)] (by repeat (first | exact leE_nil | refine leE_cons rfl ?_)) (fun i bs Z => i ≤ parts.length ∧ (bs, blk ((AA s parts i 0).1.map u32) 333) ∈ Z ++ R) (fun i bs Z r => (10, nI i) :: r) (fun i bs Z => Z ++ ((gr, blk (runL bs (AA s parts i 0).2.1 (AA s parts i 0).2.2 (totT tot parts i)) 337) :: R)) (fun i bs Z => parts.length - i) 0 bs [] ⟨Nat.zero_le _, by rw [AA_zero]; exact hbs0⟩ (by repeat (first | exact leE_nil | refine leE_cons (by first | rfl | (rfl)) ?_)) (by rw [List.nil_append]; exact keepS (by rw [AA_zero]; rfl) (List.Sublist.refl _)) ?_
  intro i bs Z ⟨hI, hbs⟩
  have hok0 := AA_ok hs parts i 0
  have hbuf := hok0.2.1
  refine CW.seq ?_
  refine CW.region (by kernel_rfl) ?_
  refine RL.q rfl rfl (QW.lss rfl rfl (dI_lt _ _)) ?_
  refine RL.nil (thenN ?_)
  refine CW.seq ?_
  refine CW.cond rfl (fun hc0 => ?_) (fun hc0 => ?_)
  · have hi : i < parts.length := by simpa using hc0
    obtain ⟨vi, hpvi, hvi⟩ := hpv i hi
    obtain ⟨hvr, ai, ci, rfl, hci⟩ := hvi
    have hvi : RdS R (.slice ai (parts.getD i []).length ci) (parts.getD i []) := ⟨hvr, ai, ci, rfl, hci⟩
    have hpl := hlen i hi
    refine CW.skip (thenN ?_)
    refine CW.seq ?_
    refine CW.block ?_
    refine CW.seq ?_
    refine CW.region (by kernel_rfl) ?_
    refine RL.q rfl rfl (QW.indexAddrS Tryz.runUnderlying83 Tryz.sizeOf23 rfl rfl (by omega) (by first | omega | exact lt8 _) (by first | exact ix01 _ | exact ixb1 _ _ | exact ix0m _ _ | exact ixbm _ _ _)) ?_
    refine RL.q rfl rfl (QW.load1 rfl Tryz.isAgg23 (List.mem_append_right _ (List.mem_cons_of_mem _ hp)) hpvi) ?_
    refine RL.q rfl rfl (QW.assign rfl) ?_
    refine RL.nil (thenN ?_)
    refine CW.seq ?_
    refine CW.region (by kernel_rfl) ?_
    refine RL.q rfl rfl (QW.move rfl) ?_
    refine RL.q rfl rfl (QW.nilCheck rfl) ?_
    refine RL.q rfl rfl (QW.fieldAddr Tryz.runUnderlying337 rfl Tryz.sizeOf47 (by decide) rfl (by first | exact fo0 66 | exact foB _ 66)) ?_
    refine RL.q rfl rfl (QW.load1 rfl Tryz.isAgg47 (by repeat (first | exact List.mem_cons_self | exact List.mem_cons_of_mem _ (by assumption) | assumption | refine List.mem_cons_of_mem _ ?_ | refine List.mem_append_right _ ?_)) (runL_66 hbuf)) ?_
    refine RL.q rfl rfl (QW.move rfl) ?_
    refine RL.q rfl rfl (QW.len_s Tryz.runUnderlying23 rfl) ?_
    refine RL.q rfl rfl (QW.conv Tryz.runUnderlying3 Tryz.runUnderlying47 rfl (w64_nat _)) ?_
    refine RL.q rfl rfl (QW.add rfl rfl (w64_add _ _)) ?_
    refine RL.q rfl rfl (QW.nilCheck rfl) ?_
    refine RL.q rfl rfl (QW.fieldAddr Tryz.runUnderlying337 rfl Tryz.sizeOf47 (by decide) rfl (by first | exact fo0 66 | exact foB _ 66)) ?_
    refine RL.cons rfl (OW.store1 rfl rfl Tryz.sizeOf47 rfl (by repeat (first | exact List.mem_cons_self | exact List.mem_cons_of_mem _ (by assumption) | assumption | refine List.mem_cons_of_mem _ ?_ | refine List.mem_append_right _ ?_)) (by rw [runL_len (by assumption)]; decide) (runL_s66 (by assumption)) (by repeat (first | exact Upd.head | apply Upd.tail | apply Upd.tailA)) ?_)
    refine RL.nil (thenN ?_)
    refine CW.block ?_
    refine CW.loopT4 (α := Nat) (β := Value) (γ := Nat) (δ := HL) [(0, _), (8, _), (9, _), (10, _), (11, _), (12, _), (13, _), (14, _), (15, _), (16, _), (17, _), (18, _), (19, _), (20, _), (21, _), (22, _), (23, _)] (by repeat (first | exact leE_nil | refine leE_cons rfl ?_)) (fun d v5 bs' Z' => d ≤ (parts.getD i []).length ∧ RdS R v5 ((parts.getD i []).drop d) ∧ (bs', blk ((AA s parts i d).1.map u32) 333) ∈ Z' ++ R) (fun d v5 bs' Z' r => (5, v5) :: r) (fun d v5 bs' Z' => Z' ++ ((gr, blk (runL bs' (AA s parts i d).2.1 (AA s parts i d).2.2 (totT tot parts (i + 1))) 337) :: R)) (fun d v5 bs' Z' => (parts.getD i []).length - d) 0 (.slice ai (parts.getD i []).length ci) bs Z ⟨Nat.zero_le _, by rw [List.drop_zero]; exact hvi, hbs⟩ (by repeat (first | exact leE_nil | refine leE_cons (by first | rfl | (rfl)) ?_)) (keepA rfl (keepS rfl (List.Sublist.refl _))) ?_
    intro d v5 bs' Z' ⟨hd, hv5, hbs2⟩
    have hok := AA_ok hs parts i d
    have hbuf := hok.2.1
    have hm64 := hok.2.2
    have hq : ((parts.getD i []).drop d).length = (parts.getD i []).length - d := List.length_drop
    obtain ⟨hv5r, a5, c5, rfl, hc5⟩ := hv5
    refine CW.seq ?_
    refine CW.seq ?_
    refine CW.region (by kernel_rfl) ?_
    refine RL.q rfl rfl (QW.move rfl) ?_
    refine RL.q rfl rfl (QW.len_s Tryz.runUnderlying23 rfl) ?_
    refine RL.q rfl rfl (QW.gtr rfl rfl (dI_lt 0 _)) ?_
    refine RL.nil (thenN ?_)
    refine CW.cond rfl (fun hc1 => ?_) (fun hc1 => ?_)
    · have hq0 : 0 < ((parts.getD i []).drop d).length := by simpa using hc1
      obtain ⟨g5, o5, l5, T5, fr5, rfl, hm5, hg5⟩ := hv5r.at hq0
      have hb64 : (wrL (AA s parts i d).2.1 (AA s parts i d).2.2 (((parts.getD i []).drop d).take (min ((parts.getD i []).drop d).length (64 - (AA s parts i d).2.2)))).length = 64 := by rw [wrL_len (by simp only [List.length_take]; omega)]; exact hbuf
      refine CW.skip (thenN ?_)
      refine CW.block ?_
      refine CW.seq ?_
      refine CW.drawn [] 13 (by rw [mixed]; rfl) (by kernel_rfl) (by kernel_rfl) (by kernel_rfl) (fun _ _ _ h => h) ?_
      refine DL.take 0 rfl (by kernel_rfl) (by kernel_rfl) (by kernel_rfl) rfl rfl (QW.move rfl) hsub0 ?_
      refine DL.take 1 rfl (by kernel_rfl) (by kernel_rfl) (by kernel_rfl) rfl rfl (QW.nilCheck rfl) hsub0 ?_
      refine DL.take 2 rfl (by kernel_rfl) (by kernel_rfl) (by kernel_rfl) rfl rfl (QW.fieldAddr Tryz.runUnderlying337 rfl Tryz.sizeOf335 (by decide) rfl (by first | exact fo0 1 | exact foB _ 1)) hsub0 ?_
      refine DL.take 3 rfl (by kernel_rfl) (by kernel_rfl) (by kernel_rfl) rfl rfl (QW.fieldAddr Tryz.runUnderlying335 rfl Tryz.sizeOf270 (by decide) rfl (by first | exact fo0 0 | exact foB _ 0)) hsub0 ?_
      refine DL.take 4 rfl (by kernel_rfl) (by kernel_rfl) (by kernel_rfl) rfl rfl (QW.move rfl) hsub0 ?_
      refine DL.take 5 rfl (by kernel_rfl) (by kernel_rfl) (by kernel_rfl) rfl rfl (QW.nilCheck rfl) hsub0 ?_
      refine DL.take 6 rfl (by kernel_rfl) (by kernel_rfl) (by kernel_rfl) rfl rfl (QW.fieldAddr Tryz.runUnderlying337 rfl Tryz.sizeOf335 (by decide) rfl (by first | exact fo0 1 | exact foB _ 1)) hsub0 ?_
      refine DL.take 7 rfl (by kernel_rfl) (by kernel_rfl) (by kernel_rfl) rfl rfl (QW.fieldAddr Tryz.runUnderlying335 rfl Tryz.sizeOf3 (by decide) rfl (by first | exact fo0 64 | exact foB _ 64)) hsub0 ?_
      refine DL.take 10 rfl (by kernel_rfl) (by kernel_rfl) (by kernel_rfl) rfl rfl (QW.move rfl) hsub0 ?_
      refine DL.one 8 (by kernel_rfl) rfl rfl (OW.q rfl (QW.load1 rfl Tryz.isAgg3 (by repeat (first | exact List.mem_cons_self | exact List.mem_cons_of_mem _ (by assumption) | assumption | refine List.mem_cons_of_mem _ ?_ | refine List.mem_append_right _ ?_)) (runL_65 hbuf)) ?_)
      refine ⟨fun _ => hsub0, ?_⟩
      refine DL.take 9 rfl (by kernel_rfl) (by kernel_rfl) (by kernel_rfl) rfl rfl (QW.sliceA Tryz.runUnderlying270 Tryz.sizeOf5 rfl (optV_some rfl) optV_none optV_none (.inl rfl) (by omega) (by omega) (by omega) (by first | exact sliceOff0 _ _ _ | exact sliceOff1' (by omega) | exact sliceOffB (by omega) | exact sliceOff1 (by omega) | rfl)) hsub0 ?_
      refine DL.one 11 (by kernel_rfl) rfl rfl (OW.copy (sz := 1) Tryz.runUnderlying23 Tryz.sizeOf5 rfl (by repeat (first | exact List.mem_cons_self | exact List.mem_cons_of_mem _ (by assumption) | assumption | refine List.mem_cons_of_mem _ ?_ | refine List.mem_append_right _ ?_)) rfl (Src.rdb (hv5r.mono fun p hp => List.mem_append_right _ (List.mem_cons_of_mem _ hp))) (by simp) (by first | exact m_all (fun _ => rfl) _ | rfl | (simp; done) | (simp only [List.all_cons, List.all_nil, oneB_buf, Bool.true_and, Bool.and_true]; rfl) | (simp [oneB]; done)) (by rw [runL_len hbuf]; omega) ((congrArg (wrL _ _) (show _ = (((parts.getD i []).drop d).take (min ((parts.getD i []).drop d).length (64 - (AA s parts i d).2.2))).map u8 from by rw [Nat.mul_one, List.map_take])).trans (runL_wr (by simp only [List.length_take]; omega))) (by repeat (first | exact Upd.head | apply Upd.tail | apply Upd.tailA)) ?_)
      refine ⟨fun _ => hsub0, ?_⟩
      refine DL.take 12 rfl (by kernel_rfl) (by kernel_rfl) (by kernel_rfl) rfl rfl (QW.assign rfl) hsub0 ?_
      refine DL.done (by kernel_rfl) (thenN ?_)
      refine CW.seq ?_
      refine CW.region (by kernel_rfl) ?_
      refine RL.q rfl rfl (QW.move rfl) ?_
      refine RL.q rfl rfl (QW.move rfl) ?_
      refine RL.q rfl rfl (QW.sliceS Tryz.runUnderlying23 Tryz.sizeOf5 rfl (optV_some rfl) optV_none optV_none (.inl rfl) (by omega) (by omega) (by omega) (by first | exact sliceOff0 _ _ _ | exact sliceOff1' (by omega) | exact sliceOffB (by omega) | exact sliceOff1 (by omega) | rfl)) ?_
      refine RL.q rfl rfl (QW.assign rfl) ?_
      refine RL.nil (thenN ?_)
      refine CW.seq ?_
      refine CW.region (by kernel_rfl) ?_
      refine RL.q rfl rfl (QW.move rfl) ?_
      refine RL.q rfl rfl (QW.nilCheck rfl) ?_
      refine RL.q rfl rfl (QW.fieldAddr Tryz.runUnderlying337 rfl Tryz.sizeOf335 (by decide) rfl (by first | exact fo0 1 | exact foB _ 1)) ?_
      refine RL.q rfl rfl (QW.fieldAddr Tryz.runUnderlying335 rfl Tryz.sizeOf3 (by decide) rfl (by first | exact fo0 64 | exact foB _ 64)) ?_
      refine RL.q rfl rfl (QW.load1 rfl Tryz.isAgg3 (by repeat (first | exact List.mem_cons_self | exact List.mem_cons_of_mem _ (by assumption) | assumption | refine List.mem_cons_of_mem _ ?_ | refine List.mem_append_right _ ?_)) (runL_65 hb64)) ?_
      refine RL.q rfl rfl (QW.move rfl) ?_
      refine RL.q rfl rfl (QW.add rfl rfl (wI_add (a := _) (b := _) (by omega))) ?_
      refine RL.q rfl rfl (QW.nilCheck rfl) ?_
      refine RL.q rfl rfl (QW.fieldAddr Tryz.runUnderlying337 rfl Tryz.sizeOf335 (by decide) rfl (by first | exact fo0 1 | exact foB _ 1)) ?_
      refine RL.q rfl rfl (QW.fieldAddr Tryz.runUnderlying335 rfl Tryz.sizeOf3 (by decide) rfl (by first | exact fo0 64 | exact foB _ 64)) ?_
      refine RL.cons rfl (OW.store1 rfl rfl Tryz.sizeOf3 rfl (by repeat (first | exact List.mem_cons_self | exact List.mem_cons_of_mem _ (by assumption) | assumption | refine List.mem_cons_of_mem _ ?_ | refine List.mem_append_right _ ?_)) (by rw [runL_len (by assumption)]; decide) (runL_s65 (by assumption)) (by repeat (first | exact Upd.head | apply Upd.tail | apply Upd.tailA)) ?_)
      refine RL.nil (thenN ?_)
      refine CW.seq ?_
      refine CW.region (by kernel_rfl) ?_
      refine RL.q rfl rfl (QW.move rfl) ?_
      refine RL.q rfl rfl (QW.nilCheck rfl) ?_
      refine RL.q rfl rfl (QW.fieldAddr Tryz.runUnderlying337 rfl Tryz.sizeOf335 (by decide) rfl (by first | exact fo0 1 | exact foB _ 1)) ?_
      refine RL.q rfl rfl (QW.fieldAddr Tryz.runUnderlying335 rfl Tryz.sizeOf3 (by decide) rfl (by first | exact fo0 64 | exact foB _ 64)) ?_
      refine RL.q rfl rfl (QW.load1 rfl Tryz.isAgg3 (by repeat (first | exact List.mem_cons_self | exact List.mem_cons_of_mem _ (by assumption) | assumption | refine List.mem_cons_of_mem _ ?_ | refine List.mem_append_right _ ?_)) (runL_65 hb64)) ?_
      refine RL.q rfl rfl (QW.eql rfl rfl (dI_eq _ 64)) ?_
      refine RL.nil (thenN ?_)
      refine CW.cond rfl (fun hc2 => ?_) (fun hc2 => ?_)
      · have he : (AA s parts i d).2.2 + (min ((parts.getD i []).drop d).length (64 - (AA s parts i d).2.2)) = 64 := by simpa using hc2
        have haf := afterF_len (AA s parts i d).1 (wrL (AA s parts i d).2.1 (AA s parts i d).2.2 (((parts.getD i []).drop d).take (min ((parts.getD i []).drop d).length (64 - (AA s parts i d).2.2)))) hok.1
        have hch := AA_chunk hs parts i d (min ((parts.getD i []).drop d).length (64 - (AA s parts i d).2.2)) (by omega) (by omega) (by omega)
        rw [if_pos he] at hch
        refine CW.seq ?_
        refine CW.drawnS 11 (by rw [mixed]; rfl) (by kernel_rfl) (by kernel_rfl) (by kernel_rfl) (fun _ _ _ h => h) ?_
        refine DL.take 0 rfl (by kernel_rfl) (by kernel_rfl) (by kernel_rfl) rfl rfl (QW.move rfl) (by intro p hp; repeat (first | exact hp | refine List.mem_cons_of_mem _ ?_)) ?_
        refine DL.take 1 rfl (by kernel_rfl) (by kernel_rfl) (by kernel_rfl) rfl rfl (QW.nilCheck rfl) (by intro p hp; repeat (first | exact hp | refine List.mem_cons_of_mem _ ?_)) ?_
        refine DL.take 2 rfl (by kernel_rfl) (by kernel_rfl) (by kernel_rfl) rfl rfl (QW.fieldAddr Tryz.runUnderlying337 rfl Tryz.sizeOf331 (by decide) rfl (by first | exact fo0 0 | exact foB _ 0)) (by intro p hp; repeat (first | exact hp | refine List.mem_cons_of_mem _ ?_)) ?_
        refine DL.take 3 rfl (by kernel_rfl) (by kernel_rfl) (by kernel_rfl) rfl rfl (QW.load1 rfl Tryz.isAgg331 (by repeat (first | exact List.mem_cons_self | exact List.mem_cons_of_mem _ (by assumption) | assumption | refine List.mem_cons_of_mem _ ?_ | refine List.mem_append_right _ ?_)) runL_0) (by intro p hp; repeat (first | exact hp | refine List.mem_cons_of_mem _ ?_)) ?_
        refine DL.take 4 rfl (by kernel_rfl) (by kernel_rfl) (by kernel_rfl) rfl rfl (QW.nilCheck rfl) (by intro p hp; repeat (first | exact hp | refine List.mem_cons_of_mem _ ?_)) ?_
        refine DL.take 5 rfl (by kernel_rfl) (by kernel_rfl) (by kernel_rfl) rfl rfl (QW.loadN rfl Tryz.isAgg333 Tryz.sizeOf333 (memMid hbs2) (by rw [List.length_map, hok.1]; decide) (m_all_of _ _ hok.1)) (by intro p hp; repeat (first | exact hp | refine List.mem_cons_of_mem _ ?_)) ?_
        refine DL.take 6 rfl (by kernel_rfl) (by kernel_rfl) (by kernel_rfl) rfl rfl (QW.move rfl) (by intro p hp; repeat (first | exact hp | refine List.mem_cons_of_mem _ ?_)) ?_
        refine DL.take 7 rfl (by kernel_rfl) (by kernel_rfl) (by kernel_rfl) rfl rfl (QW.nilCheck rfl) (by intro p hp; repeat (first | exact hp | refine List.mem_cons_of_mem _ ?_)) ?_
        refine DL.take 8 rfl (by kernel_rfl) (by kernel_rfl) (by kernel_rfl) rfl rfl (QW.fieldAddr Tryz.runUnderlying337 rfl Tryz.sizeOf335 (by decide) rfl (by first | exact fo0 1 | exact foB _ 1)) (by intro p hp; repeat (first | exact hp | refine List.mem_cons_of_mem _ ?_)) ?_
        refine DL.two 9 10 (by kernel_rfl) rfl rfl rfl rfl ?_ ?_
        · refine OW.call Tryz.call301 (ext2 rfl rfl) ((after_c _ _ gr 1 _ _ _ _ hok.1 hb64 (by repeat (first | exact List.mem_cons_self | exact List.mem_cons_of_mem _ (by assumption) | assumption | refine List.mem_cons_of_mem _ ?_ | refine List.mem_append_right _ ?_)) (runL_b hb64)).mono ?_)
          rintro v S' ⟨rfl, rfl⟩
          refine ⟨fun _ p hp => by repeat (first | exact hp | refine List.mem_cons_of_mem _ ?_), ?_⟩
          refine DL.one 10 (by kernel_rfl) rfl rfl (OW.alloc zv333 rfl ?_)
          intro b7
          refine ⟨fun _ p hp => by repeat (first | exact hp | refine List.mem_cons_of_mem _ ?_), ?_⟩
          refine DL.one 11 (by kernel_rfl) rfl rfl (OW.storeN rfl rfl Tryz.sizeOf333 (by repeat (first | exact List.mem_cons_self | exact List.mem_cons_of_mem _ (by assumption) | assumption | refine List.mem_cons_of_mem _ ?_ | refine List.mem_append_right _ ?_)) (by first | (simp only [List.length_map, List.length_replicate, List.length_cons, List.length_nil, List.length_set, Nat.mul_one] <;> omega) | (simp [*] <;> omega)) (by first | exact m_all (fun _ => rfl) _ | rfl | (simp; done) | (simp only [List.all_cons, List.all_nil, oneB_buf, Bool.true_and, Bool.and_true]; rfl) | (simp [oneB]; done)) (by first | (simp only [List.length_map, List.length_replicate, List.length_cons, List.length_nil, List.length_set, Nat.mul_one] <;> omega) | (simp [*] <;> omega)) (by first | (refine wr_all ?_; simp only [List.length_map, List.length_replicate, List.length_cons, List.length_nil, List.length_set, Nat.mul_one] <;> omega) | (refine wr_all ?_; simp [*]; done) | exact m_wr _ _ _ | with_reducible rfl) (by repeat (first | exact Upd.head | apply Upd.tail | apply Upd.tailA)) ?_)
          refine ⟨fun h => absurd rfl h, ?_⟩
          refine DL.done (by kernel_rfl) (thenN ?_)
          refine CW.region (by kernel_rfl) ?_
          refine RL.q rfl rfl (QW.move rfl) ?_
          refine RL.q rfl rfl (QW.move rfl) ?_
          refine RL.q rfl rfl (QW.nilCheck rfl) ?_
          refine RL.q rfl rfl (QW.fieldAddr Tryz.runUnderlying337 rfl Tryz.sizeOf331 (by decide) rfl (by first | exact fo0 0 | exact foB _ 0)) ?_
          refine RL.cons rfl (OW.store1 rfl rfl Tryz.sizeOf331 rfl (by repeat (first | exact List.mem_cons_self | exact List.mem_cons_of_mem _ (by assumption) | assumption | refine List.mem_cons_of_mem _ ?_ | refine List.mem_append_right _ ?_)) (by rw [runL_len (by assumption)]; decide) runL_s0 (by repeat (first | exact Upd.head | apply Upd.tail | apply Upd.tailA)) ?_)
          refine RL.q rfl rfl (QW.nilCheck rfl) ?_
          refine RL.q rfl rfl (QW.fieldAddr Tryz.runUnderlying337 rfl Tryz.sizeOf335 (by decide) rfl (by first | exact fo0 1 | exact foB _ 1)) ?_
          refine RL.q rfl rfl (QW.fieldAddr Tryz.runUnderlying335 rfl Tryz.sizeOf3 (by decide) rfl (by first | exact fo0 64 | exact foB _ 64)) ?_
          refine RL.cons rfl (OW.store1 rfl rfl Tryz.sizeOf3 rfl (by repeat (first | exact List.mem_cons_self | exact List.mem_cons_of_mem _ (by assumption) | assumption | refine List.mem_cons_of_mem _ ?_ | refine List.mem_append_right _ ?_)) (by rw [runL_len (by assumption)]; decide) (runL_s65 (by assumption)) (by repeat (first | exact Upd.head | apply Upd.tail | apply Upd.tailA)) ?_)
          refine RL.nil (blockN (thenN ?_))
          refine ⟨d + (min ((parts.getD i []).drop d).length (64 - (AA s parts i d).2.2)), sl g5 (sliceOff o5 (min ((parts.getD i []).drop d).length (64 - (AA s parts i d).2.2)) c5 1) (((parts.getD i []).drop d).length - (min ((parts.getD i []).drop d).length (64 - (AA s parts i d).2.2))) (c5 - (min ((parts.getD i []).drop d).length (64 - (AA s parts i d).2.2))), b7, (b7, blk ((afterF (AA s parts i d).1 (wrL (AA s parts i d).2.1 (AA s parts i d).2.2 (((parts.getD i []).drop d).take (min ((parts.getD i []).drop d).length (64 - (AA s parts i d).2.2))))).map u32) 333) :: Z', (⟨by omega, by rw [← List.drop_drop]; exact RdS.cut hv5r hc5 (by omega) rfl, by rw [hch]; exact List.mem_cons_self⟩), (by omega), ?_, ?_⟩
          · repeat (first | exact leE_nil | refine leE_cons rfl ?_)
          · exact keepS rfl (keepA rfl (keepS (by rw [hch]) (List.Sublist.refl _)))
        · refine OW.alloc zv333 rfl ?_
          intro b7
          refine ⟨fun _ p hp => by repeat (first | exact hp | refine List.mem_cons_of_mem _ ?_), ?_⟩
          refine DL.one 9 (by kernel_rfl) rfl rfl (OW.call Tryz.call301 (ext2 rfl rfl) ((after_c _ _ gr 1 _ _ _ _ hok.1 hb64 (by repeat (first | exact List.mem_cons_self | exact List.mem_cons_of_mem _ (by assumption) | assumption | refine List.mem_cons_of_mem _ ?_ | refine List.mem_append_right _ ?_)) (runL_b hb64)).mono ?_))
          rintro v S' ⟨rfl, rfl⟩
          refine ⟨fun _ p hp => by repeat (first | exact hp | refine List.mem_cons_of_mem _ ?_), ?_⟩
          refine DL.one 11 (by kernel_rfl) rfl rfl (OW.storeN rfl rfl Tryz.sizeOf333 (by repeat (first | exact List.mem_cons_self | exact List.mem_cons_of_mem _ (by assumption) | assumption | refine List.mem_cons_of_mem _ ?_ | refine List.mem_append_right _ ?_)) (by first | (simp only [List.length_map, List.length_replicate, List.length_cons, List.length_nil, List.length_set, Nat.mul_one] <;> omega) | (simp [*] <;> omega)) (by first | exact m_all (fun _ => rfl) _ | rfl | (simp; done) | (simp only [List.all_cons, List.all_nil, oneB_buf, Bool.true_and, Bool.and_true]; rfl) | (simp [oneB]; done)) (by first | (simp only [List.length_map, List.length_replicate, List.length_cons, List.length_nil, List.length_set, Nat.mul_one] <;> omega) | (simp [*] <;> omega)) (by first | (refine wr_all ?_; simp only [List.length_map, List.length_replicate, List.length_cons, List.length_nil, List.length_set, Nat.mul_one] <;> omega) | (refine wr_all ?_; simp [*]; done) | exact m_wr _ _ _ | with_reducible rfl) (by repeat (first | exact Upd.head | apply Upd.tail | apply Upd.tailA)) ?_)
          refine ⟨fun h => absurd rfl h, ?_⟩
          refine DL.done (by kernel_rfl) (thenN ?_)
          refine CW.region (by kernel_rfl) ?_
          refine RL.q rfl rfl (QW.move rfl) ?_
          refine RL.q rfl rfl (QW.move rfl) ?_
          refine RL.q rfl rfl (QW.nilCheck rfl) ?_
          refine RL.q rfl rfl (QW.fieldAddr Tryz.runUnderlying337 rfl Tryz.sizeOf331 (by decide) rfl (by first | exact fo0 0 | exact foB _ 0)) ?_
          refine RL.cons rfl (OW.store1 rfl rfl Tryz.sizeOf331 rfl (by repeat (first | exact List.mem_cons_self | exact List.mem_cons_of_mem _ (by assumption) | assumption | refine List.mem_cons_of_mem _ ?_ | refine List.mem_append_right _ ?_)) (by rw [runL_len (by assumption)]; decide) runL_s0 (by repeat (first | exact Upd.head | apply Upd.tail | apply Upd.tailA)) ?_)
          refine RL.q rfl rfl (QW.nilCheck rfl) ?_
          refine RL.q rfl rfl (QW.fieldAddr Tryz.runUnderlying337 rfl Tryz.sizeOf335 (by decide) rfl (by first | exact fo0 1 | exact foB _ 1)) ?_
          refine RL.q rfl rfl (QW.fieldAddr Tryz.runUnderlying335 rfl Tryz.sizeOf3 (by decide) rfl (by first | exact fo0 64 | exact foB _ 64)) ?_
          refine RL.cons rfl (OW.store1 rfl rfl Tryz.sizeOf3 rfl (by repeat (first | exact List.mem_cons_self | exact List.mem_cons_of_mem _ (by assumption) | assumption | refine List.mem_cons_of_mem _ ?_ | refine List.mem_append_right _ ?_)) (by rw [runL_len (by assumption)]; decide) (runL_s65 (by assumption)) (by repeat (first | exact Upd.head | apply Upd.tail | apply Upd.tailA)) ?_)
          refine RL.nil (blockN (thenN ?_))
          refine ⟨d + (min ((parts.getD i []).drop d).length (64 - (AA s parts i d).2.2)), sl g5 (sliceOff o5 (min ((parts.getD i []).drop d).length (64 - (AA s parts i d).2.2)) c5 1) (((parts.getD i []).drop d).length - (min ((parts.getD i []).drop d).length (64 - (AA s parts i d).2.2))) (c5 - (min ((parts.getD i []).drop d).length (64 - (AA s parts i d).2.2))), b7, (b7, blk ((afterF (AA s parts i d).1 (wrL (AA s parts i d).2.1 (AA s parts i d).2.2 (((parts.getD i []).drop d).take (min ((parts.getD i []).drop d).length (64 - (AA s parts i d).2.2))))).map u32) 333) :: Z', (⟨by omega, by rw [← List.drop_drop]; exact RdS.cut hv5r hc5 (by omega) rfl, by rw [hch]; exact List.mem_cons_self⟩), (by omega), ?_, ?_⟩
          · repeat (first | exact leE_nil | refine leE_cons rfl ?_)
          · exact keepS rfl (keepA rfl (keepS (by rw [hch]) (List.Sublist.refl _)))
      · have he : ¬ (AA s parts i d).2.2 + (min ((parts.getD i []).drop d).length (64 - (AA s parts i d).2.2)) = 64 := by simpa using hc2
        have hch := AA_chunk hs parts i d (min ((parts.getD i []).drop d).length (64 - (AA s parts i d).2.2)) (by omega) (by omega) (by omega)
        rw [if_neg he] at hch
        refine CW.skip (blockN (thenN ?_))
        refine ⟨d + (min ((parts.getD i []).drop d).length (64 - (AA s parts i d).2.2)), sl g5 (sliceOff o5 (min ((parts.getD i []).drop d).length (64 - (AA s parts i d).2.2)) c5 1) (((parts.getD i []).drop d).length - (min ((parts.getD i []).drop d).length (64 - (AA s parts i d).2.2))) (c5 - (min ((parts.getD i []).drop d).length (64 - (AA s parts i d).2.2))), bs', Z', (⟨by omega, by rw [← List.drop_drop]; exact RdS.cut hv5r hc5 (by omega) rfl, by rw [hch]; exact hbs2⟩), (by omega), ?_, ?_⟩
        · repeat (first | exact leE_nil | refine leE_cons rfl ?_)
        · exact keepA rfl (keepS (by rw [hch]) (List.Sublist.refl _))
    · have hend : AA s parts i d = AA s parts (i + 1) 0 := by
        have hq0 : ¬ 0 < ((parts.getD i []).drop d).length := by simpa using hc1
        rw [show d = (parts.getD i []).length from by omega]; exact AA_end s parts i hi
      refine CW.exit (thenX (thenX (blockX (blockN (thenN ?_)))))
      refine CW.region (by kernel_rfl) ?_
      refine RL.q rfl rfl (QW.add rfl rfl (wI_add (a := _) (b := 1) (by omega))) ?_
      refine RL.q rfl rfl (QW.move rfl) ?_
      refine RL.nil (thenN ?_)
      refine ⟨i + 1, bs', Z', (⟨by omega, by rw [hend] at hbs2; exact hbs2⟩), (by omega), ?_, ?_⟩
      · repeat (first | exact leE_nil | refine leE_cons rfl ?_)
      · exact keepA rfl (keepS (by rw [hend]) (List.Sublist.refl _))
  · have hi : i = parts.length := by simp at hc0; omega
    subst hi
    refine CW.exit (thenX (thenX (blockX (retN (Z ++ ((gr, blk (runL bs (AA s parts parts.length 0).2.1 (AA s parts parts.length 0).2.2 (totT tot parts parts.length)) 337) :: R)) (ResOk.zero Tryz.results245 ) (by repeat (first | exact List.Sublist.refl _ | (refine keepS ?_ ?_; with_reducible rfl) | (refine keepA ?_ ?_; with_reducible rfl) | (refine keepS ?_ ?_; rfl) | apply dropS | apply dropA)) ?_))))
    exact ⟨bs, Z, rfl, by rw [AA_all] at hbs; exact hbs, by rw [AA_all]⟩

end Go.Sl

/- shas: what a run has taken. -/
set_option linter.unusedVariables false
set_option linter.unusedSimpArgs false
namespace Go.Sl
open Go.Proofs

def iv : List UInt32 := [1779033703, 3144134277, 1013904242, 2773480762, 1359893119, 2600822924, 528734635, 1541459225]
def st (M : List UInt8) : RS := abs (iv, List.replicate 64 0, 0) M
theorem st_ok (M : List UInt8) : RSok (st M) := RSok.abs ⟨rfl, List.length_replicate, by decide⟩ M
theorem st_append (M N : List UInt8) : st (M ++ N) = abs (st M) N := abs_append _ M N
theorem ab_m {s : RS} (h : RSok s) (x : UInt8) : (ab s x).2.2 = (s.2.2 + 1) % 64 := by
  have := h.2.2
  unfold ab
  split
  · rename_i e; dsimp only; omega
  · dsimp only; omega
theorem abs_m {s : RS} (h : RSok s) (bs : List UInt8) : (abs s bs).2.2 = (s.2.2 + bs.length) % 64 := by
  induction bs generalizing s with
  | nil => have := h.2.2; simp only [abs, List.foldl_nil, List.length_nil]; omega
  | cons x bs ih =>
    show (abs (ab s x) bs).2.2 = _
    rw [ih (h.ab x), ab_m h, List.length_cons]
    omega
theorem st_m (M : List UInt8) : (st M).2.2 = M.length % 64 := by
  rw [st, abs_m ⟨rfl, List.length_replicate, by decide⟩]
  dsimp only
  rw [Nat.zero_add]
theorem totT_eq (M : List UInt8) (parts : List (List UInt8)) : totT (UInt64.ofNat M.length) parts parts.length = UInt64.ofNat (M ++ parts.flatten).length := by
  have key : ∀ i, i ≤ parts.length → totT (UInt64.ofNat M.length) parts i = UInt64.ofNat (M ++ (parts.take i).flatten).length := by
    intro i
    induction i with
    | zero => intro _; simp [totT]
    | succ i ih =>
      intro h
      have hi : i < parts.length := by omega
      rw [totT, ih (by omega), ← UInt64.ofNat_add]
      congr 1
      rw [List.take_add_one, List.flatten_append]
      simp [List.getD_eq_getElem?_getD, hi]
      omega
  rw [key _ (Nat.le_refl _), List.take_length]
/-- A run that has taken M. -/
abbrev runO (b : Nat) (M : List UInt8) : Obj := blk (runL b (st M).2.1 (st M).2.2 (UInt64.ofNat M.length)) 337
theorem takes_u (M : List UInt8) (parts : List (List UInt8)) (gr bs gp off cp n : Nat) (pv : List Value) (T : TypeId) (fr : Nat × Nat) {S R : HL} {F : Obj → HL} (hseg : Seg2 S gr (runO bs M) F R) (hbs0 : (bs, blk ((st M).1.map u32) 333) ∈ R) (hp : (gp, Obj.cells ⟨pv⟩ T fr) ∈ R) (hn0 : parts.length = n)
    (hpv : ∀ i, i < parts.length → ∃ v, pv[off + i]? = some v ∧ RdS R v (parts.getD i [])) (hlen : ∀ i, i < parts.length → (parts.getD i []).length ≤ 1000000000) (hn : parts.length ≤ 1000) :
    CallS Tryz.prog 245 ⟨[ptr gr 0, sl gp off n cp]⟩ S fun v S' => ∃ Z o', S' = Z ++ F o' ∧ ∃ bs', v = .tuple #[] ∧ (bs', blk ((st (M ++ parts.flatten)).1.map u32) 333) ∈ Z ++ R ∧ o' = runO bs' (M ++ parts.flatten) := by
  subst hn0
  refine CallS.seg2 (K := fun v Z o' => ∃ bs', v = .tuple #[] ∧ (bs', blk ((st (M ++ parts.flatten)).1.map u32) 333) ∈ Z ++ R ∧ o' = runO bs' (M ++ parts.flatten)) hseg
    ((takes_c (st M) (UInt64.ofNat M.length) parts gr bs gp off cp pv T fr R (st_ok M) hbs0 hp hpv hlen hn).mono ?_)
  rintro v S' ⟨bs', Z, rfl, h1, rfl⟩
  rw [← st_append] at h1
  refine ⟨Z, _, rfl, bs', rfl, h1, ?_⟩
  rw [← st_append, totT_eq]
/-- The bytes of the eight numbers. -/
def hB (h : List UInt32) (i : Nat) : List UInt8 := ((h.take i).map fun x => beF (UInt64.ofNat x.toNat) 4).flatten
theorem hB_len (h : List UInt32) (i : Nat) (hi : i ≤ h.length) : (hB h i).length = 4 * i := by
  have key : ∀ l : List UInt32, ((l.map fun x => beF (UInt64.ofNat x.toNat) 4).flatten).length = 4 * l.length := by
    intro l
    induction l with
    | nil => rfl
    | cons x l ih => simp only [List.map_cons, List.flatten_cons, List.length_append, beF_len, ih, List.length_cons]; omega
  rw [hB, key, List.length_take]
  omega
theorem hB_succ (h : List UInt32) (i : Nat) (hi : i < h.length) : hB h (i + 1) = hB h i ++ beF (UInt64.ofNat (h.getD i 0).toNat) 4 := by
  unfold hB
  rw [List.take_add_one, List.map_append, List.flatten_append]
  congr 1
  simp [List.getD_eq_getElem?_getD, hi]
def padP (M : List UInt8) : List (List UInt8) := [[128], List.replicate ((119 - M.length % 64) % 64) 0, beF (8 * UInt64.ofNat M.length) 8]
def shaP (M : List UInt8) : List UInt8 := hB (st (M ++ (padP M).flatten)).1 8
theorem shaP_len (M : List UInt8) : (shaP M).length = 32 := hB_len _ 8 (by rw [(st_ok _).1]; decide)
attribute [irreducible] shaP
theorem shaP_eq (M : List UInt8) : shaP M = hB (st (M ++ (padP M).flatten)).1 8 := by unfold shaP; rfl

theorem zv337 : ZV Tryz.prog 337 (.agg ⟨([.pointer none] ++ (((List.replicate 64 0).map u8) ++ [nI 0]) ++ [u64 0])⟩) := fun _ => by kernel_rfl
set_option maxRecDepth 100000 in
set_option maxHeartbeats 4000000 in
theorem New_c (S : HL) : CallS Tryz.prog 205 ⟨[]⟩ S fun v S' => ∃ g b, v = ptr g 0 ∧ S' = (g, runO b []) :: (b, blk ((st []).1.map u32) 333) :: S := by
  refine CallS.enter Tryz.func205 rfl Tryz.ntmps205 (by simp) ?_
  refine CW.seq ?_
  refine CW.region (by kernel_rfl) ?_
  refine RL.q rfl rfl (QW.assign rfl) ?_
  refine RL.nil (thenN ?_)
  refine CW.seq ?_
  refine CW.region (by kernel_rfl) ?_
  refine RL.q rfl rfl (QW.buildA (cells := iv.map u32) (ps := [(0, .int .u32 1779033703), (1, .int .u32 3144134277), (2, .int .u32 1013904242), (3, .int .u32 2773480762), (4, .int .u32 1359893119), (5, .int .u32 2600822924), (6, .int .u32 528734635), (7, .int .u32 1541459225)]) Tryz.runUnderlying333 Tryz.sizeOf62 zv333 (parts_of (by kernel_rfl)) (by kernel_rfl)) ?_
  refine RL.cons rfl (OW.boxN rfl ?_)
  intro b2
  refine RL.q rfl rfl (QW.buildS (cells := runL b2 (List.replicate 64 0) 0 0) (pl := #[(0, 1), (1, 65), (66, 1)]) Tryz.runUnderlying337 (fun w => by kernel_rfl) zv337 (parts1 rfl) (by rfl)) ?_
  refine RL.cons rfl (OW.boxN rfl ?_)
  intro b4
  refine RL.q rfl rfl (QW.assign rfl) ?_
  refine RL.nil (thenN ?_)
  refine CW.ret (retR ((b4, runO b2 []) :: (b2, blk ((st []).1.map u32) 333) :: S) (ResOk.one Tryz.results205 (ResV.tmp rfl)) (by repeat (first | exact List.Sublist.refl _ | (refine keepS ?_ ?_; with_reducible rfl) | (refine keepA ?_ ?_; with_reducible rfl) | (refine keepS ?_ ?_; rfl) | apply dropS | apply dropA)) ?_)
  exact ⟨b4, b2, rfl, rfl⟩

end Go.Sl

/- shas: Write and Sum. -/
set_option linter.unusedVariables false
set_option linter.unusedSimpArgs false
namespace Go.Sl
open Go.Proofs

attribute [local irreducible] st
theorem Seg2.mem {S : HL} {b : Nat} {o : Obj} {F : Obj → HL} {R : HL} (h : Seg2 S b o F R) : (b, o) ∈ S := h.spec.1.symm.subset List.mem_cons_self
theorem memDrop {x a : Nat × Obj} {Z R : HL} (h : x ∈ Z ++ a :: R) (hne : x.2 ≠ a.2) : x ∈ Z ++ R := by
  rcases List.mem_append.1 h with h | h
  · exact List.mem_append_left _ h
  · rcases List.mem_cons.1 h with rfl | h
    · exact absurd rfl hne
    · exact List.mem_append_right _ h
theorem cells_ne {l l' : List Value} {T T' : TypeId} (h : T ≠ T') : blk l T ≠ blk l' T' := fun e => by injection e with _ e2 _; exact h e2
theorem runL_oneB {b m : Nat} {buf : List UInt8} {tot : UInt64} : (runL b buf m tot).all oneB = true := by simp [runL, oneB]
theorem take_all {l : List Value} {n : Nat} (h : l.length = n) : (l.drop 0).take n = l := by rw [List.drop_zero, List.take_of_length_le (by omega)]
theorem rdS_all {S : HL} {b n : Nat} {bs : List UInt8} {T : TypeId} (hm : (b, blk (bs.map u8) T) ∈ S) (hn : bs.length = n) : RdS S (sl b 0 n n) bs := by
  subst hn; exact ⟨RdB.all hm, _, _, rfl, Nat.le_refl _⟩
theorem hpv1 {R : HL} {v : Value} {xs : List UInt8} (h : RdS R v xs) : ∀ i, i < [xs].length → ∃ v', [v][0 + i]? = some v' ∧ RdS R v' ([xs].getD i []) := by
  intro i hi
  rcases i with _ | i
  · exact ⟨v, rfl, h⟩
  · exact absurd hi (by simp)
theorem hpl1 {xs : List UInt8} {n : Nat} (h : xs.length ≤ n) : ∀ i, i < [xs].length → ([xs].getD i []).length ≤ n := by
  intro i hi
  rcases i with _ | i
  · exact h
  · exact absurd hi (by simp)
theorem getD3 {α : Type} (a b c d : α) : [a, b, c].getD 0 d = a ∧ [a, b, c].getD 1 d = b ∧ [a, b, c].getD 2 d = c := ⟨rfl, rfl, rfl⟩

theorem zv51 : ZV Tryz.prog 51 (.agg ⟨((List.replicate 32 0).map u8)⟩) := fun _ => by kernel_rfl
set_option maxRecDepth 100000 in
set_option maxHeartbeats 4000000 in
theorem Write_u (M xs : List UInt8) (v0 : Value) (gr bs : Nat) {S R : HL} {F : Obj → HL} (hseg : Seg2 S gr (runO bs M) F R) (hbs : (bs, blk ((st M).1.map u32) 333) ∈ R) (hv : RdS R v0 xs) (hl : xs.length ≤ 1000000000) : CallS Tryz.prog 206 ⟨[ptr gr 0, v0]⟩ S fun v S' => ∃ Z bs', v = nI 0 ∧ S' = Z ++ F (runO bs' (M ++ xs)) ∧ (bs', blk ((st (M ++ xs)).1.map u32) 333) ∈ Z ++ R := by
  obtain ⟨hvr, a, c, rfl, hc⟩ := hv
  have hv : RdS R (.slice a xs.length c) xs := ⟨hvr, a, c, rfl, hc⟩
  have hmg := hseg.mem
  have hok := st_ok M
  refine CallS.enter Tryz.func206 rfl Tryz.ntmps206 (by simp) ?_
  refine CW.seq ?_
  refine CW.region (by kernel_rfl) ?_
  refine RL.q rfl rfl (QW.assign rfl) ?_
  refine RL.nil (thenN ?_)
  refine CW.seq ?_
  refine CW.seq ?_
  refine CW.region (by kernel_rfl) ?_
  refine RL.q rfl rfl (QW.move rfl) ?_
  refine RL.q rfl rfl ((by first | exact QW.eqlPN Tryz.runUnderlying273 rfl rfl | exact QW.eqlPNN Tryz.runUnderlying273 rfl rfl)) ?_
  refine RL.q rfl rfl (QW.move rfl) ?_
  first | (refine RL.guard_no rfl rfl rfl rfl rfl ?_) | (refine RL.guard_yes rfl rfl rfl rfl (OW.q rfl (QW.move rfl) ?_))
  first | (refine RL.guard_no rfl rfl rfl rfl rfl ?_) | (refine RL.guard_yes rfl rfl rfl rfl (OW.q rfl (QW.nilCheck rfl) ?_))
  first | (refine RL.guard_no rfl rfl rfl rfl rfl ?_) | (refine RL.guard_yes rfl rfl rfl rfl (OW.q rfl (QW.fieldAddr Tryz.runUnderlying337 rfl Tryz.sizeOf331 (by decide) rfl (by first | exact fo0 0 | exact foB _ 0)) ?_))
  first | (refine RL.guard_no rfl rfl rfl rfl rfl ?_) | (refine RL.guard_yes rfl rfl rfl rfl (OW.q rfl (QW.load1 rfl Tryz.isAgg331 hmg runL_0) ?_))
  first | (refine RL.guard_no rfl rfl rfl rfl rfl ?_) | (refine RL.guard_yes rfl rfl rfl rfl (OW.q rfl ((by first | exact QW.eqlPN Tryz.runUnderlying331 rfl rfl | exact QW.eqlPNN Tryz.runUnderlying331 rfl rfl)) ?_))
  refine RL.q rfl rfl ((by first | exact QW.pick_t rfl rfl | exact QW.pick_f rfl rfl)) ?_
  refine RL.nil (thenN ?_)
  refine CW.cond_false rfl ?_
  refine CW.skip (thenN ?_)
  refine CW.seq ?_
  refine CW.region (by kernel_rfl) ?_
  refine RL.q rfl rfl (QW.move rfl) ?_
  refine RL.q rfl rfl (QW.move rfl) ?_
  refine RL.cons rfl (OW.buildSlice1 Tryz.runUnderlying83 Tryz.sizeOf23 zv23 rfl rfl rfl ?_)
  intro b16
  refine RL.cons rfl (OW.call Tryz.call245 (ext2 rfl rfl) ((takes_u M [xs] gr bs b16 0 1 1 [.slice a xs.length c] 23 (0, 0) (Seg2.tail hseg) (List.mem_cons_of_mem _ hbs) List.mem_cons_self rfl (hpv1 (hv.mono fun p hp => List.mem_cons_of_mem _ hp)) (hpl1 hl) (by simp)).mono ?_))
  rintro v S' ⟨Z, o', rfl, bs', rfl, hbs', rfl⟩
  refine RL.nil (thenN ?_)
  refine CW.seq ?_
  refine CW.region (by kernel_rfl) ?_
  refine RL.q rfl rfl (QW.assign rfl) ?_
  refine RL.nil (thenN ?_)
  refine CW.ret (retR (Z ++ F (runO bs' (M ++ [xs].flatten))) (ResOk.one Tryz.results206 (ResV.tmp rfl)) (by repeat (first | exact List.Sublist.refl _ | (refine keepS ?_ ?_; with_reducible rfl) | (refine keepA ?_ ?_; with_reducible rfl) | (refine keepS ?_ ?_; rfl) | apply dropS | apply dropA)) ?_)
  refine ⟨Z, bs', rfl, by rw [List.flatten_cons, List.flatten_nil, List.append_nil], ?_⟩
  rw [List.flatten_cons, List.flatten_nil, List.append_nil] at hbs'
  exact memDrop hbs' (cells_ne (by decide))

set_option maxRecDepth 100000 in
set_option maxHeartbeats 4000000 in
theorem Sum_c (M : List UInt8) (gr bs : Nat) (S : HL) (hm : (gr, runO bs M) ∈ S) (hbs : (bs, blk ((st M).1.map u32) 333) ∈ S) : CallS Tryz.prog 207 ⟨[ptr gr 0]⟩ S fun v S' => v = .agg ⟨(shaP M).map u8⟩ ∧ S = S' := by
  have hok := st_ok M
  have hm64 := hok.2.2
  have hstm := st_m M
  refine CallS.enter Tryz.func207 rfl Tryz.ntmps207 (by simp) ?_
  refine CW.seq ?_
  refine CW.region (by kernel_rfl) ?_
  refine RL.cons rfl (OW.alloc zv51 rfl ?_)
  intro b2
  refine RL.nil (thenN ?_)
  refine CW.seq ?_
  refine CW.seq ?_
  refine CW.region (by kernel_rfl) ?_
  refine RL.q rfl rfl (QW.move rfl) ?_
  refine RL.q rfl rfl ((by first | exact QW.eqlPN Tryz.runUnderlying273 rfl rfl | exact QW.eqlPNN Tryz.runUnderlying273 rfl rfl)) ?_
  refine RL.q rfl rfl (QW.move rfl) ?_
  first | (refine RL.guard_no rfl rfl rfl rfl rfl ?_) | (refine RL.guard_yes rfl rfl rfl rfl (OW.q rfl (QW.move rfl) ?_))
  first | (refine RL.guard_no rfl rfl rfl rfl rfl ?_) | (refine RL.guard_yes rfl rfl rfl rfl (OW.q rfl (QW.nilCheck rfl) ?_))
  first | (refine RL.guard_no rfl rfl rfl rfl rfl ?_) | (refine RL.guard_yes rfl rfl rfl rfl (OW.q rfl (QW.fieldAddr Tryz.runUnderlying337 rfl Tryz.sizeOf331 (by decide) rfl (by first | exact fo0 0 | exact foB _ 0)) ?_))
  first | (refine RL.guard_no rfl rfl rfl rfl rfl ?_) | (refine RL.guard_yes rfl rfl rfl rfl (OW.q rfl (QW.load1 rfl Tryz.isAgg331 (by repeat (first | exact List.mem_cons_self | exact List.mem_cons_of_mem _ (by assumption) | assumption | refine List.mem_cons_of_mem _ ?_ | refine List.mem_append_right _ ?_)) runL_0) ?_))
  first | (refine RL.guard_no rfl rfl rfl rfl rfl ?_) | (refine RL.guard_yes rfl rfl rfl rfl (OW.q rfl ((by first | exact QW.eqlPN Tryz.runUnderlying331 rfl rfl | exact QW.eqlPNN Tryz.runUnderlying331 rfl rfl)) ?_))
  refine RL.q rfl rfl ((by first | exact QW.pick_t rfl rfl | exact QW.pick_f rfl rfl)) ?_
  refine RL.nil (thenN ?_)
  refine CW.cond_false rfl ?_
  refine CW.skip (thenN ?_)
  refine CW.seq ?_
  refine CW.region (by kernel_rfl) ?_
  refine RL.q rfl rfl (QW.move rfl) ?_
  refine RL.q rfl rfl (QW.nilCheck rfl) ?_
  refine RL.q rfl rfl (QW.loadN rfl Tryz.isAgg337 Tryz.sizeOf337 (by repeat (first | exact List.mem_cons_self | exact List.mem_cons_of_mem _ (by assumption) | assumption | refine List.mem_cons_of_mem _ ?_ | refine List.mem_append_right _ ?_)) (by rw [runL_len hok.2.1]; decide) (take_all (runL_len hok.2.1))) ?_
  refine RL.cons rfl (OW.alloc zv337 rfl ?_)
  intro b3
  refine RL.cons rfl (OW.storeN rfl rfl Tryz.sizeOf337 (by repeat (first | exact List.mem_cons_self | exact List.mem_cons_of_mem _ (by assumption) | assumption | refine List.mem_cons_of_mem _ ?_ | refine List.mem_append_right _ ?_)) (runL_len hok.2.1) runL_oneB (by simp) (wr_all (by rw [runL_len hok.2.1]; simp)) (by repeat (first | exact Upd.head | apply Upd.tail | apply Upd.tailA)) ?_)
  refine RL.nil (thenN ?_)
  refine CW.seq ?_
  refine CW.region (by kernel_rfl) ?_
  refine RL.q rfl rfl (QW.move rfl) ?_
  refine RL.q rfl rfl (QW.nilCheck rfl) ?_
  refine RL.q rfl rfl (QW.fieldAddr Tryz.runUnderlying337 rfl Tryz.sizeOf335 (by decide) rfl (by first | exact fo0 1 | exact foB _ 1)) ?_
  refine RL.q rfl rfl (QW.fieldAddr Tryz.runUnderlying335 rfl Tryz.sizeOf3 (by decide) rfl (by first | exact fo0 64 | exact foB _ 64)) ?_
  refine RL.q rfl rfl (QW.load1 rfl Tryz.isAgg3 (by repeat (first | exact List.mem_cons_self | exact List.mem_cons_of_mem _ (by assumption) | assumption | refine List.mem_cons_of_mem _ ?_ | refine List.mem_append_right _ ?_)) (runL_65 hok.2.1)) ?_
  refine RL.q rfl rfl (QW.sub rfl rfl (wI_sub (a := 119) (b := _) (by omega) (by omega))) ?_
  refine RL.q rfl rfl (QW.rem rfl rfl (by omega) (tI_rem _ 64)) ?_
  refine RL.cons rfl (OW.makeSlice Tryz.runUnderlying23 Tryz.typeInfo5 Tryz.sizeOf5 zv5 rfl rfl rfl (by omega) (by rw [show Tryz.t5.bytes = 1 from rfl]; omega) (by omega) ?_)
  intro b28
  refine RL.q rfl rfl (QW.assign rfl) ?_
  refine RL.nil (thenN ?_)
  refine CW.seq ?_
  refine CW.region (by kernel_rfl) ?_
  refine RL.cons rfl (OW.buildSlice1 Tryz.runUnderlying23 Tryz.sizeOf5 zv5 rfl rfl rfl ?_)
  intro b29
  refine RL.q rfl rfl (QW.move rfl) ?_
  refine RL.q rfl rfl (QW.move rfl) ?_
  refine RL.q rfl rfl (QW.nilCheck rfl) ?_
  refine RL.q rfl rfl (QW.fieldAddr Tryz.runUnderlying337 rfl Tryz.sizeOf47 (by decide) rfl (by first | exact fo0 66 | exact foB _ 66)) ?_
  refine RL.q rfl rfl (QW.load1 rfl Tryz.isAgg47 (by repeat (first | exact List.mem_cons_self | exact List.mem_cons_of_mem _ (by assumption) | assumption | refine List.mem_cons_of_mem _ ?_ | refine List.mem_append_right _ ?_)) (runL_66 hok.2.1)) ?_
  refine RL.q rfl rfl (QW.mul rfl rfl (w64_mul 8 _)) ?_
  refine RL.cons rfl (OW.call Tryz.call117 (ext3 rfl rfl rfl) ((Put_c [] (8 * UInt64.ofNat M.length) 8 none 0 _ (by simp) (by decide) (.inl ⟨rfl, _, _, rfl⟩)).mono ?_))
  rintro v S' ⟨bq, rfl, rfl⟩
  refine RL.cons rfl (OW.buildSliceP (cells := [_, _, _]) Tryz.runUnderlying83 Tryz.sizeOf23 zv23 rfl (by decide) (by decide) (parts3 rfl rfl rfl) rfl ?_)
  intro b37
  have hkl : ((119 - (st M).2.2) % 64) = (119 - M.length % 64) % 64 := by rw [hstm]
  have hpl : ∀ i, i < (padP M).length → ((padP M).getD i []).length ≤ 1000000000 := by
    intro i hi
    rcases i with _ | _ | _ | i
    · simp [padP]
    · simp [padP]; omega
    · simp [padP]
    · exact absurd hi (by simp [padP])
  have hpv : ∀ i, i < (padP M).length → ∃ v, ([sl b29 0 1 1, sl b28 0 ((119 - (st M).2.2) % 64) ((119 - (st M).2.2) % 64), sl bq 0 8 8] : List Value)[0 + i]? = some v ∧ RdS ((b37, blk [sl b29 0 1 1, sl b28 0 ((119 - (st M).2.2) % 64) ((119 - (st M).2.2) % 64), sl bq 0 8 8] 23) :: (bq, blk ((([] : List UInt8) ++ beF (8 * UInt64.ofNat M.length) 8).map u8) 5) :: (b29, blk [u8 128] 5) :: (b28, blk (List.replicate ((119 - (st M).2.2) % 64) (u8 0)) 5) :: (b2, blk ((List.replicate 32 0).map u8) 51) :: S) v ((padP M).getD i []) := by
    intro i hi
    rcases i with _ | _ | _ | i
    · exact ⟨_, rfl, rdS_all (T := 5) (List.mem_cons_of_mem _ (List.mem_cons_of_mem _ List.mem_cons_self)) rfl⟩
    · refine ⟨_, rfl, rdS_all (T := 5) (List.mem_cons_of_mem _ (List.mem_cons_of_mem _ (List.mem_cons_of_mem _ ?_))) (by simp [padP, hkl])⟩
      have e : List.map u8 ((padP M).getD 1 []) = List.replicate ((119 - (st M).2.2) % 64) (u8 0) := by simp [padP, hkl]
      exact e ▸ List.mem_cons_self
    · exact ⟨_, rfl, rdS_all (T := 5) (List.mem_cons_of_mem _ List.mem_cons_self) (by simp [padP])⟩
    · exact absurd hi (by simp [padP])
  refine RL.cons rfl (OW.call Tryz.call245 (ext2 rfl rfl) ((takes_u M (padP M) b3 bs b37 0 3 3 [sl b29 0 1 1, sl b28 0 ((119 - (st M).2.2) % 64) ((119 - (st M).2.2) % 64), sl bq 0 8 8] 23 (0, 0) (Seg2.tail (Seg2.tail (Seg2.tail (Seg2.tail Seg2.head)))) (by repeat (first | exact List.mem_cons_self | exact List.mem_cons_of_mem _ (by assumption) | assumption | refine List.mem_cons_of_mem _ ?_ | refine List.mem_append_right _ ?_)) List.mem_cons_self rfl hpv hpl (by simp [padP])).mono ?_))
  rintro v S' ⟨Z, o', rfl, bs', rfl, hbs', rfl⟩
  have hbs2 := memDrop (memDrop (memDrop (memDrop hbs' (cells_ne (by decide))) (cells_ne (by decide))) (cells_ne (by decide))) (cells_ne (by decide))
  have hok2 := st_ok (M ++ (padP M).flatten)
  refine RL.nil (thenN ?_)
  refine CW.seq ?_
  refine CW.region (by kernel_rfl) ?_
  refine RL.q rfl rfl (QW.sliceA0 (h := 0) Tryz.runUnderlying51 Tryz.sizeOf5 rfl (optV_some rfl) optV_none (.inl rfl) (by first | omega | (dsimp only; omega)) (by first | omega | (dsimp only; omega))) ?_
  refine RL.q rfl rfl (QW.assign rfl) ?_
  refine RL.nil (thenN ?_)
  refine CW.seq ?_
  refine CW.seq ?_
  refine CW.region (by kernel_rfl) ?_
  refine RL.q rfl rfl (QW.fieldAddr Tryz.runUnderlying337 rfl Tryz.sizeOf331 (by decide) rfl (by first | exact fo0 0 | exact foB _ 0)) ?_
  refine RL.q rfl rfl (QW.load1 rfl Tryz.isAgg331 (by repeat (first | exact List.mem_cons_self | exact List.mem_cons_of_mem _ (by assumption) | assumption | refine List.mem_cons_of_mem _ ?_ | refine List.mem_append_right _ ?_)) runL_0) ?_
  refine RL.q rfl rfl (QW.move rfl) ?_
  refine RL.nil (thenN ?_)
  refine CW.block ?_
  refine CW.loopT3 (α := Nat) (β := Value) (γ := HL) [(2, _), (41, _)] (by repeat (first | exact leE_nil | refine leE_cons rfl ?_)) (fun i v5 X => i ≤ 8 ∧ RdB (X ++ (Z ++ ((b2, blk ((List.replicate 32 0).map u8) 51) :: S))) v5 (hB (st (M ++ (padP M).flatten)).1 i)) (fun i v5 X r => (42, nI i) :: (5, v5) :: r) (fun i v5 X => X ++ (Z ++ ((b2, blk ((List.replicate 32 0).map u8) 51) :: S))) (fun i v5 X => 8 - i) 0 (sl b2 0 0 32) [] ⟨Nat.zero_le _, .inl ⟨rfl, _, _, rfl⟩⟩ (by repeat (first | exact leE_nil | refine leE_cons (by first | rfl | (rfl)) ?_)) (by rw [List.nil_append]; exact keepA rfl (dropS (dropS (dropS (dropS (dropS (List.Sublist.refl _))))))) ?_
  intro i v5 X ⟨hI, hv5⟩
  have hbm : (bs', blk ((st (M ++ (padP M).flatten)).1.map u32) 333) ∈ X ++ (Z ++ ((b2, blk ((List.replicate 32 0).map u8) 51) :: S)) := List.mem_append_right _ hbs2
  have hl4 := hB_len (st (M ++ (padP M).flatten)).1 i (by rw [hok2.1]; exact hI)
  have hl81 := hok2.1
  refine CW.seq ?_
  refine CW.region (by kernel_rfl) ?_
  refine RL.q rfl rfl (QW.lss rfl rfl (dI_lt _ 8)) ?_
  refine RL.nil (thenN ?_)
  refine CW.seq ?_
  refine CW.cond rfl (fun hc1 => ?_) (fun hc1 => ?_)
  · have hi : i < 8 := by simpa using hc1
    obtain ⟨a5, c5, rfl⟩ := hv5.isSl
    refine CW.skip (thenN ?_)
    refine CW.seq ?_
    refine CW.block ?_
    refine CW.seq ?_
    refine CW.region (by kernel_rfl) ?_
    refine RL.q rfl rfl (QW.nilCheck rfl) ?_
    refine RL.q rfl rfl (QW.indexAddrA Tryz.runUnderlying333 Tryz.sizeOf62 rfl rfl (by omega) (by first | omega | exact lt8 _) (by first | exact ix01 _ | exact ixb1 _ _ | exact ix0m _ _ | exact ixbm _ _ _)) ?_
    refine RL.q rfl rfl (QW.load1 rfl Tryz.isAgg62 (by repeat (first | exact List.mem_cons_self | exact List.mem_cons_of_mem _ (by assumption) | assumption | refine List.mem_cons_of_mem _ ?_ | refine List.mem_append_right _ ?_)) (by first | (refine m_get 0 ?_; omega) | (refine m_get 0 ?_; simp only [*]; omega) | (refine m_get 0 ?_; simp only [List.length_set]; omega) | (refine m_get 0 (lt8L ?_); omega) | (refine m_get 0 (lt8B ?_); omega) | rfl)) ?_
    refine RL.q rfl rfl (QW.assign rfl) ?_
    refine RL.nil (thenN ?_)
    refine CW.region (by kernel_rfl) ?_
    refine RL.q rfl rfl (QW.move rfl) ?_
    refine RL.q rfl rfl (QW.move rfl) ?_
    refine RL.q rfl rfl (QW.conv Tryz.runUnderlying62 Tryz.runUnderlying47 rfl (w64_nat _)) ?_
    refine RL.cons rfl (OW.call Tryz.call117 (ext3 rfl rfl rfl) ((Put_c (hB (st (M ++ (padP M).flatten)).1 i) (UInt64.ofNat ((st (M ++ (padP M).flatten)).1.getD i 0).toNat) 4 a5 c5 _ (by omega) (by decide) hv5).mono ?_))
    rintro v S' ⟨bq, rfl, rfl⟩
    refine RL.q rfl rfl (QW.assign rfl) ?_
    refine RL.nil (blockN (thenN ?_))
    refine CW.region (by kernel_rfl) ?_
    refine RL.q rfl rfl (QW.add rfl rfl (wI_add (a := _) (b := 1) (by omega))) ?_
    refine RL.q rfl rfl (QW.move rfl) ?_
    refine RL.nil (thenN ?_)
    refine ⟨i + 1, sl bq 0 ((hB (st (M ++ (padP M).flatten)).1 i).length + 4) ((hB (st (M ++ (padP M).flatten)).1 i).length + 4), [(bq, blk ((hB (st (M ++ (padP M).flatten)).1 (i + 1)).map u8) 5)], (⟨by omega, by
      have e : (hB (st (M ++ (padP M).flatten)).1 i).length + 4 = (hB (st (M ++ (padP M).flatten)).1 (i + 1)).length := by rw [hB_succ _ _ (by rw [hok2.1]; omega), List.length_append, beF_len]
      rw [e]; exact RdB.all List.mem_cons_self⟩), (by omega), ?_, ?_⟩
    · repeat (first | exact leE_nil | refine leE_cons rfl ?_)
    · exact keepS (by rw [hB_succ _ _ (by rw [hok2.1]; omega)]) (dropA (List.Sublist.refl _))
  · have hi : i = 8 := by simp at hc1; omega
    subst hi
    obtain ⟨a5, c5, rfl⟩ := hv5.isSl
    have hl8 : (hB (st (M ++ (padP M).flatten)).1 8).length = 32 := hl4
    refine CW.exit (thenX (thenX (blockX (thenN ?_))))
    refine CW.seq ?_
    refine CW.region (by kernel_rfl) ?_
    refine RL.q rfl rfl (QW.sliceA0 Tryz.runUnderlying51 Tryz.sizeOf5 rfl optV_none optV_none (.inl rfl) (by first | omega | (dsimp only; omega)) (by first | omega | (dsimp only; omega))) ?_
    refine RL.q rfl rfl (QW.move rfl) ?_
    refine RL.cons rfl (OW.copy (sz := 1) Tryz.runUnderlying23 Tryz.sizeOf5 rfl (by repeat (first | exact List.mem_cons_self | exact List.mem_cons_of_mem _ (by assumption) | assumption | refine List.mem_cons_of_mem _ ?_ | refine List.mem_append_right _ ?_)) rfl (Src.rdb hv5) (by simp) (by first | exact m_all (fun _ => rfl) _ | rfl | (simp; done) | (simp only [List.all_cons, List.all_nil, oneB_buf, Bool.true_and, Bool.and_true]; rfl) | (simp [oneB]; done)) (by simp) (by rw [hl8, List.take_of_length_le (by simp [hl8]), wr_all (by simp [hl8])]) (by repeat (first | exact Upd.head | apply Upd.tail | apply Upd.tailA)) ?_)
    refine RL.nil (thenN ?_)
    refine CW.seq ?_
    refine CW.region (by kernel_rfl) ?_
    refine RL.q rfl rfl (QW.loadN rfl Tryz.isAgg51 Tryz.sizeOf51 (by repeat (first | exact List.mem_cons_self | exact List.mem_cons_of_mem _ (by assumption) | assumption | refine List.mem_cons_of_mem _ ?_ | refine List.mem_append_right _ ?_)) (by first | (simp only [List.length_map, List.length_replicate, List.length_cons, List.length_nil, List.length_set, Nat.mul_one] <;> omega) | (simp [*] <;> omega)) (by first | (refine m_all_of _ _ ?_; omega) | (refine m_all_of _ _ ?_; simp [*]; done) | exact m_cut _ _ _ | with_reducible rfl)) ?_
    refine RL.cons rfl (OW.storeN rfl rfl Tryz.sizeOf51 (by repeat (first | exact List.mem_cons_self | exact List.mem_cons_of_mem _ (by assumption) | assumption | refine List.mem_cons_of_mem _ ?_ | refine List.mem_append_right _ ?_)) (by first | (simp only [List.length_map, List.length_replicate, List.length_cons, List.length_nil, List.length_set, Nat.mul_one] <;> omega) | (simp [*] <;> omega)) (by first | exact m_all (fun _ => rfl) _ | rfl | (simp; done) | (simp only [List.all_cons, List.all_nil, oneB_buf, Bool.true_and, Bool.and_true]; rfl) | (simp [oneB]; done)) (by first | (simp only [List.length_map, List.length_replicate, List.length_cons, List.length_nil, List.length_set, Nat.mul_one] <;> omega) | (simp [*] <;> omega)) (by first | (refine wr_all ?_; simp only [List.length_map, List.length_replicate, List.length_cons, List.length_nil, List.length_set, Nat.mul_one] <;> omega) | (refine wr_all ?_; simp [*]; done) | exact m_wr _ _ _ | with_reducible rfl) (by repeat (first | exact Upd.head | apply Upd.tail | apply Upd.tailA)) ?_)
    refine RL.nil (thenN ?_)
    refine CW.ret (retR (S) (ResOk.one Tryz.results207 (ResV.cellN rfl Tryz.isAgg51 Tryz.sizeOf51 (by repeat (first | exact List.mem_cons_self | exact List.mem_cons_of_mem _ (by assumption) | assumption | refine List.mem_cons_of_mem _ ?_ | refine List.mem_append_right _ ?_)) (by first | (simp only [List.length_map, List.length_replicate, List.length_cons, List.length_nil, List.length_set, Nat.mul_one] <;> omega) | (simp [*] <;> omega)) (by first | (refine m_all_of _ _ ?_; omega) | (refine m_all_of _ _ ?_; simp [*]; done) | exact m_cut _ _ _ | with_reducible rfl))) (by repeat (first | exact List.Sublist.refl _ | (refine keepS ?_ ?_; with_reducible rfl) | (refine keepA ?_ ?_; with_reducible rfl) | (refine keepS ?_ ?_; rfl) | apply dropS | apply dropA)) ?_)
    exact ⟨by rw [shaP_eq], rfl⟩

end Go.Sl

/- shas.Of; macs: the first part. -/
set_option linter.unusedVariables false
set_option linter.unusedSimpArgs false
namespace Go.Sl
open Go.Proofs

theorem Seg2.ins {S : HL} {b : Nat} {o : Obj} {F : Obj → HL} {R Z : HL} {x : Nat × Obj} (h : Seg2 S b o F R) (o2 : Obj) (hx : x ∈ Z ++ R) : x ∈ Z ++ F o2 := by
  rcases List.mem_append.1 hx with hx | hx
  · exact List.mem_append_left _ hx
  · exact List.mem_append_right _ ((h.spec.2 o2).symm.subset (List.mem_cons_of_mem _ hx))
attribute [local irreducible] st
def xTo (k : List UInt8) (b : UInt8) (i : Nat) : List UInt8 := (k.take i).map (· ^^^ b) ++ k.drop i
def xorK (k : List UInt8) (b : UInt8) : List UInt8 := k.map (· ^^^ b)
@[simp] theorem xorK_len (k : List UInt8) (b : UInt8) : (xorK k b).length = k.length := by simp [xorK]
theorem xTo_len (k : List UInt8) (b : UInt8) (i : Nat) (h : i ≤ k.length) : (xTo k b i).length = k.length := by simp [xTo]; omega
theorem xTo_zero (k : List UInt8) (b : UInt8) : xTo k b 0 = k := by simp [xTo]
theorem xTo_all (k : List UInt8) (b : UInt8) : xTo k b k.length = xorK k b := by simp [xTo, xorK]
theorem xTo_set (k : List UInt8) (b : UInt8) (i : Nat) (h : i < k.length) : (xTo k b i).set i ((xTo k b i).getD i 0 ^^^ b) = xTo k b (i + 1) := by
  have hl : ((k.take i).map (· ^^^ b)).length = i := by simp; omega
  have e1 : k.drop i = k[i] :: k.drop (i + 1) := List.drop_eq_getElem_cons h
  have e2 : (xTo k b i).getD i 0 = k[i] := by
    unfold xTo
    rw [List.getD_eq_getElem?_getD, List.getElem?_append_right (by omega), hl, Nat.sub_self, e1]
    rfl
  rw [e2]
  unfold xTo
  rw [List.set_append_right _ _ (by omega), hl, Nat.sub_self, e1, List.set_cons_zero, List.take_add_one, List.map_append, List.append_assoc]
  simp [List.getElem?_eq_getElem h]
/-- The key of a sum, noughts behind it. -/
def padK (key : List UInt8) : List UInt8 := wrL (List.replicate 64 0) 0 key
theorem padK_len (key : List UInt8) (h : key.length ≤ 64) : (padK key).length = 64 := by unfold padK; rw [wrL_len (by simp; omega)]; simp
def hmacP (key M : List UInt8) : List UInt8 := shaP (xorK (padK key) 92 ++ shaP (xorK (padK key) 54 ++ M))
theorem hmacP_len (key M : List UInt8) : (hmacP key M).length = 32 := shaP_len _
attribute [irreducible] hmacP padK
theorem hmacP_eq (key M : List UInt8) : hmacP key M = shaP (xorK (padK key) 92 ++ shaP (xorK (padK key) 54 ++ M)) := by unfold hmacP; rfl
theorem padK_eq (key : List UInt8) : padK key = wrL (List.replicate 64 0) 0 key := by unfold padK; rfl
theorem flat_succ {parts : List (List UInt8)} {i : Nat} (h : i < parts.length) (X : List UInt8) : (X ++ (parts.take i).flatten) ++ parts.getD i [] = X ++ (parts.take (i + 1)).flatten := by
  rw [List.take_add_one, List.flatten_append, List.append_assoc]
  simp [List.getD_eq_getElem?_getD, h]
def orTo (xs ys : List UInt8) : Nat → UInt8
  | 0 => 0
  | i + 1 => orTo xs ys i ||| (xs.getD i 0 ^^^ ys.getD i 0)
theorem orTo_eq (xs ys : List UInt8) (i : Nat) : orTo xs ys i = 0 ↔ ∀ j, j < i → xs.getD j 0 = ys.getD j 0 := by
  induction i with
  | zero => simp [orTo]
  | succ i ih =>
    rw [orTo, UInt8.or_eq_zero_iff, UInt8.xor_eq_zero_iff, ih]
    constructor
    · rintro ⟨h1, h2⟩ j hj
      rcases Nat.lt_or_ge j i with h | h
      · exact h1 j h
      · obtain rfl : j = i := by omega
        exact h2
    · intro h
      exact ⟨fun j hj => h j (by omega), h i (by omega)⟩
theorem orTo_all {xs ys : List UInt8} (hl : xs.length = ys.length) : orTo xs ys xs.length = 0 ↔ xs = ys := by
  rw [orTo_eq]
  constructor
  · intro h
    apply List.ext_getElem hl
    intro j h1 h2
    have := h j h1
    simpa [List.getD_eq_getElem?_getD, h1, h2] using this
  · rintro rfl j _; rfl

theorem zv270 : ZV Tryz.prog 270 (.agg ⟨((List.replicate 64 0).map u8)⟩) := fun _ => by kernel_rfl
set_option maxRecDepth 100000 in
set_option maxHeartbeats 4000000 in
theorem Of_c (xs : List UInt8) (v0 : Value) (S : HL) (hv : RdS S v0 xs) (hl : xs.length ≤ 1000000000) : CallS Tryz.prog 203 ⟨[v0]⟩ S fun v S' => v = .agg ⟨(shaP xs).map u8⟩ ∧ S = S' := by
  obtain ⟨hvr, a, c, rfl, hc⟩ := hv
  have hv : RdS S (.slice a xs.length c) xs := ⟨hvr, a, c, rfl, hc⟩
  refine CallS.enter Tryz.func203 rfl Tryz.ntmps203 (by simp) ?_
  refine CW.seq ?_
  refine CW.region (by kernel_rfl) ?_
  refine RL.cons rfl (OW.alloc zv51 rfl ?_)
  intro b2
  refine RL.nil (thenN ?_)
  refine CW.seq ?_
  refine CW.region (by kernel_rfl) ?_
  refine RL.cons rfl (OW.call Tryz.call205 (fun _ _ => ext_nil) ((New_c _).mono ?_))
  rintro v S' ⟨g, bs, rfl, rfl⟩
  refine RL.q rfl rfl (QW.assign rfl) ?_
  refine RL.nil (thenN ?_)
  refine CW.seq ?_
  refine CW.region (by kernel_rfl) ?_
  refine RL.q rfl rfl (QW.move rfl) ?_
  refine RL.q rfl rfl (QW.move rfl) ?_
  refine RL.cons rfl (OW.buildSlice1 Tryz.runUnderlying83 Tryz.sizeOf23 zv23 rfl rfl rfl ?_)
  intro b7
  refine RL.cons rfl (OW.call Tryz.call245 (ext2 rfl rfl) ((takes_u [] [xs] g bs b7 0 1 1 [.slice a xs.length c] 23 (0, 0) (Seg2.tail Seg2.head) (List.mem_cons_of_mem _ List.mem_cons_self) List.mem_cons_self rfl (hpv1 (hv.mono fun p hp => by repeat (first | exact hp | refine List.mem_cons_of_mem _ ?_))) (hpl1 hl) (by simp)).mono ?_))
  rintro v S' ⟨Z, o', rfl, bs2, rfl, hbs2, rfl⟩
  have hs2 := shaP_len ([] ++ [xs].flatten)
  refine RL.nil (thenN ?_)
  refine CW.seq ?_
  refine CW.region (by kernel_rfl) ?_
  refine RL.q rfl rfl (QW.move rfl) ?_
  refine RL.cons rfl (OW.call Tryz.call207 (ext1 rfl) ((Sum_c ([] ++ [xs].flatten) g bs2 _ (List.mem_append_right _ (List.mem_cons_of_mem _ List.mem_cons_self)) (Seg2.ins (o := runO bs []) (Seg2.tail Seg2.head) _ hbs2)).mono ?_))
  rintro v S' ⟨rfl, rfl⟩
  refine RL.cons rfl (OW.storeN rfl rfl Tryz.sizeOf51 (by repeat (first | exact List.mem_cons_self | exact List.mem_cons_of_mem _ (by assumption) | assumption | refine List.mem_cons_of_mem _ ?_ | refine List.mem_append_right _ ?_)) (by first | (simp only [List.length_map, List.length_replicate, List.length_cons, List.length_nil, List.length_set, Nat.mul_one] <;> omega) | (simp [*] <;> omega)) (by first | exact m_all (fun _ => rfl) _ | rfl | (simp; done) | (simp only [List.all_cons, List.all_nil, oneB_buf, Bool.true_and, Bool.and_true]; rfl) | (simp [oneB]; done)) (by first | (simp only [List.length_map, List.length_replicate, List.length_cons, List.length_nil, List.length_set, Nat.mul_one] <;> omega) | (simp [*] <;> omega)) (by first | (refine wr_all ?_; simp only [List.length_map, List.length_replicate, List.length_cons, List.length_nil, List.length_set, Nat.mul_one] <;> omega) | (refine wr_all ?_; simp [*]; done) | exact m_wr _ _ _ | with_reducible rfl) (by repeat (first | exact Upd.head | apply Upd.tail | apply Upd.tailA)) ?_)
  refine RL.nil (thenN ?_)
  refine CW.ret (retR (S) (ResOk.one Tryz.results203 (ResV.cellN rfl Tryz.isAgg51 Tryz.sizeOf51 (by repeat (first | exact List.mem_cons_self | exact List.mem_cons_of_mem _ (by assumption) | assumption | refine List.mem_cons_of_mem _ ?_ | refine List.mem_append_right _ ?_)) (by first | (simp only [List.length_map, List.length_replicate, List.length_cons, List.length_nil, List.length_set, Nat.mul_one] <;> omega) | (simp [*] <;> omega)) (by first | (refine m_all_of _ _ ?_; omega) | (refine m_all_of _ _ ?_; simp [*]; done) | exact m_cut _ _ _ | with_reducible rfl))) (by repeat (first | exact List.Sublist.refl _ | (refine keepS ?_ ?_; with_reducible rfl) | (refine keepA ?_ ?_; with_reducible rfl) | (refine keepS ?_ ?_; rfl) | apply dropS | apply dropA)) ?_)
  exact ⟨by simp, rfl⟩

set_option maxRecDepth 100000 in
set_option maxHeartbeats 4000000 in
theorem against2_c (b : UInt8) (k : List UInt8) (bk : Nat) (S : HL) (hk : k.length = 64) (hm : (bk, blk (k.map u8) 270) ∈ S) : CallS Tryz.prog 204 ⟨[u8 b, ptr bk 0]⟩ S fun v S' => ∃ g, v = sl g 0 64 64 ∧ S' = (g, blk ((xorK k b).map u8) 270) :: S := by
  refine CallS.enter Tryz.func204 rfl Tryz.ntmps204 (by simp) ?_
  refine CW.seq ?_
  refine CW.region (by kernel_rfl) ?_
  refine RL.q rfl rfl (QW.assign rfl) ?_
  refine RL.nil (thenN ?_)
  refine CW.seq ?_
  refine CW.region (by kernel_rfl) ?_
  refine RL.q rfl rfl (QW.loadN rfl Tryz.isAgg270 Tryz.sizeOf270 (by repeat (first | exact List.mem_cons_self | exact List.mem_cons_of_mem _ (by assumption) | assumption | refine List.mem_cons_of_mem _ ?_ | refine List.mem_append_right _ ?_)) (by first | (simp only [List.length_map, List.length_replicate, List.length_cons, List.length_nil, List.length_set, Nat.mul_one] <;> omega) | (simp [*] <;> omega)) (by first | (refine m_all_of _ _ ?_; omega) | (refine m_all_of _ _ ?_; simp [*]; done) | exact m_cut _ _ _ | with_reducible rfl)) ?_
  refine RL.cons rfl (OW.alloc zv270 rfl ?_)
  intro b4
  refine RL.cons rfl (OW.storeN rfl rfl Tryz.sizeOf270 (by repeat (first | exact List.mem_cons_self | exact List.mem_cons_of_mem _ (by assumption) | assumption | refine List.mem_cons_of_mem _ ?_ | refine List.mem_append_right _ ?_)) (by first | (simp only [List.length_map, List.length_replicate, List.length_cons, List.length_nil, List.length_set, Nat.mul_one] <;> omega) | (simp [*] <;> omega)) (by first | exact m_all (fun _ => rfl) _ | rfl | (simp; done) | (simp only [List.all_cons, List.all_nil, oneB_buf, Bool.true_and, Bool.and_true]; rfl) | (simp [oneB]; done)) (by first | (simp only [List.length_map, List.length_replicate, List.length_cons, List.length_nil, List.length_set, Nat.mul_one] <;> omega) | (simp [*] <;> omega)) (by first | (refine wr_all ?_; simp only [List.length_map, List.length_replicate, List.length_cons, List.length_nil, List.length_set, Nat.mul_one] <;> omega) | (refine wr_all ?_; simp [*]; done) | exact m_wr _ _ _ | with_reducible rfl) (by repeat (first | exact Upd.head | apply Upd.tail | apply Upd.tailA)) ?_)
  refine RL.nil (thenN ?_)
  refine CW.seq ?_
  refine CW.seq ?_
  refine CW.region (by kernel_rfl) ?_
  refine RL.q rfl rfl (QW.move rfl) ?_
  refine RL.nil (thenN ?_)
  refine CW.block ?_
  refine CW.loopT (ι := Nat) [(0, _), (3, _), (4, _)] (by repeat (first | exact leE_nil | refine leE_cons rfl ?_)) (fun i => i ≤ 64) (fun i r => (7, nI i) :: r) (fun i => (b4, blk ((xTo k b i).map u8) 270) :: S) (fun i => 64 - i) 0 (by omega) (by repeat (first | exact leE_nil | refine leE_cons (by first | rfl | (rfl)) ?_)) (keepS (by rw [xTo_zero]) (List.Sublist.refl _)) ?_
  intro i hI
  have hx := xTo_len k b i (by omega)
  refine CW.seq ?_
  refine CW.region (by kernel_rfl) ?_
  refine RL.q rfl rfl (QW.lss rfl rfl (dI_lt _ 64)) ?_
  refine RL.nil (thenN ?_)
  refine CW.seq ?_
  refine CW.cond rfl (fun hc0 => ?_) (fun hc0 => ?_)
  · have hi : i < 64 := by simpa using hc0
    refine CW.skip (thenN ?_)
    refine CW.seq ?_
    refine CW.block ?_
    refine CW.seq ?_
    refine CW.region (by kernel_rfl) ?_
    refine RL.q rfl rfl (QW.move rfl) ?_
    refine RL.q rfl rfl (QW.assign rfl) ?_
    refine RL.nil (thenN ?_)
    refine CW.region (by kernel_rfl) ?_
    refine RL.q rfl rfl (QW.move rfl) ?_
    refine RL.q rfl rfl (QW.indexAddrA Tryz.runUnderlying270 Tryz.sizeOf5 rfl rfl (by omega) (by first | omega | exact lt8 _) (by first | exact ix01 _ | exact ixb1 _ _ | exact ix0m _ _ | exact ixbm _ _ _)) ?_
    refine RL.q rfl rfl (QW.load1 rfl Tryz.isAgg5 (by repeat (first | exact List.mem_cons_self | exact List.mem_cons_of_mem _ (by assumption) | assumption | refine List.mem_cons_of_mem _ ?_ | refine List.mem_append_right _ ?_)) (by first | (refine m_get 0 ?_; omega) | (refine m_get 0 ?_; simp only [*]; omega) | (refine m_get 0 ?_; simp only [List.length_set]; omega) | (refine m_get 0 (lt8L ?_); omega) | (refine m_get 0 (lt8B ?_); omega) | rfl)) ?_
    refine RL.q rfl rfl (QW.move rfl) ?_
    refine RL.q rfl rfl (QW.xor_ rfl rfl (x8_xor _ _)) ?_
    refine RL.q rfl rfl (QW.indexAddrA Tryz.runUnderlying270 Tryz.sizeOf5 rfl rfl (by omega) (by first | omega | exact lt8 _) (by first | exact ix01 _ | exact ixb1 _ _ | exact ix0m _ _ | exact ixbm _ _ _)) ?_
    refine RL.cons rfl (OW.store1 rfl rfl Tryz.sizeOf5 rfl (by repeat (first | exact List.mem_cons_self | exact List.mem_cons_of_mem _ (by assumption) | assumption | refine List.mem_cons_of_mem _ ?_ | refine List.mem_append_right _ ?_)) (by first | (simp only [List.length_map, List.length_replicate, List.length_cons, List.length_nil, List.length_set, Nat.mul_one] <;> omega) | (rw [List.length_map]; refine lt8B ?_; simp [*]; done) | (rw [List.length_map]; refine lt8L ?_; simp [*]; done) | (simp [*] <;> omega)) (by first | exact m_set _ _ _ | rfl) (by repeat (first | exact Upd.head | apply Upd.tail | apply Upd.tailA)) ?_)
    refine RL.nil (blockN (thenN ?_))
    refine CW.region (by kernel_rfl) ?_
    refine RL.q rfl rfl (QW.add rfl rfl (wI_add (a := _) (b := 1) (by omega))) ?_
    refine RL.q rfl rfl (QW.move rfl) ?_
    refine RL.nil (thenN ?_)
    refine ⟨i + 1, (by omega), (by omega), ?_, ?_⟩
    · repeat (first | exact leE_nil | refine leE_cons rfl ?_)
    · exact keepS (by rw [xTo_set _ _ _ (by omega)]) (List.Sublist.refl _)
  · have hi : i = 64 := by simp at hc0; omega
    subst hi
    have hx2 := xTo_all k b
    rw [hk] at hx2
    rw [hx2]
    refine CW.exit (thenX (thenX (blockX (thenN ?_))))
    refine CW.seq ?_
    refine CW.region (by kernel_rfl) ?_
    refine RL.q rfl rfl (QW.sliceA0 Tryz.runUnderlying270 Tryz.sizeOf5 rfl optV_none optV_none (.inl rfl) (by first | omega | (dsimp only; omega)) (by first | omega | (dsimp only; omega))) ?_
    refine RL.q rfl rfl (QW.assign rfl) ?_
    refine RL.nil (thenN ?_)
    refine CW.ret (retR ((b4, blk ((xorK k b).map u8) 270) :: S) (ResOk.one Tryz.results204 (ResV.tmp rfl)) (by repeat (first | exact List.Sublist.refl _ | (refine keepS ?_ ?_; with_reducible rfl) | (refine keepA ?_ ?_; with_reducible rfl) | (refine keepS ?_ ?_; rfl) | apply dropS | apply dropA)) ?_)
    exact ⟨b4, rfl, rfl⟩

set_option maxRecDepth 100000 in
set_option maxHeartbeats 4000000 in
theorem MSame_c (bs cs : List UInt8) (a a2 : Option Addr) (c c2 : Nat) (S : HL) (hv : RdB S (.slice a bs.length c) bs) (hv2 : RdB S (.slice a2 cs.length c2) cs) (hb : bs.length ≤ 1000000000) : CallS Tryz.prog 122 ⟨[.slice a bs.length c, .slice a2 cs.length c2]⟩ S fun v S' => v = .bool (decide (bs = cs)) ∧ S = S' := by
  refine CallS.enter Tryz.func122 rfl Tryz.ntmps122 (by simp) ?_
  refine CW.seq ?_
  refine CW.region (by kernel_rfl) ?_
  refine RL.q rfl rfl (QW.assign rfl) ?_
  refine RL.nil (thenN ?_)
  refine CW.seq ?_
  refine CW.seq ?_
  refine CW.region (by kernel_rfl) ?_
  refine RL.q rfl rfl (QW.move rfl) ?_
  refine RL.q rfl rfl (QW.len_s Tryz.runUnderlying23 rfl) ?_
  refine RL.q rfl rfl (QW.move rfl) ?_
  refine RL.q rfl rfl (QW.len_s Tryz.runUnderlying23 rfl) ?_
  refine RL.q rfl rfl (QW.neq' rfl rfl (dI_eq _ _)) ?_
  refine RL.nil (thenN ?_)
  refine CW.cond rfl (fun hc0 => ?_) (fun hc0 => ?_)
  · have hne : bs.length ≠ cs.length := by simpa using hc0
    refine CW.seq ?_
    refine CW.region (by kernel_rfl) ?_
    refine RL.q rfl rfl (QW.assign rfl) ?_
    refine RL.nil (thenN ?_)
    refine CW.ret (thenR (retR (S) (ResOk.one Tryz.results122 (ResV.tmp rfl)) (by repeat (first | exact List.Sublist.refl _ | (refine keepS ?_ ?_; with_reducible rfl) | (refine keepA ?_ ?_; with_reducible rfl) | (refine keepS ?_ ?_; rfl) | apply dropS | apply dropA)) ?_))
    first | exact ⟨congrArg Value.bool (decide_eq_false (fun e => hne (by rw [e]))).symm, rfl⟩ | exact ⟨congrArg Value.bool (decide_eq_decide.2 (orTo_all hne)), rfl⟩
  · have hne : bs.length = cs.length := by simpa using hc0
    refine CW.skip (thenN ?_)
    refine CW.seq ?_
    refine CW.region (by kernel_rfl) ?_
    refine RL.q rfl rfl (QW.assign rfl) ?_
    refine RL.nil (thenN ?_)
    refine CW.seq ?_
    refine CW.seq ?_
    refine CW.region (by kernel_rfl) ?_
    refine RL.q rfl rfl (QW.move rfl) ?_
    refine RL.q rfl rfl (QW.len_s Tryz.runUnderlying23 rfl) ?_
    refine RL.q rfl rfl (QW.move rfl) ?_
    refine RL.nil (thenN ?_)
    refine CW.block ?_
    refine CW.loopT (ι := Nat) [(0, _), (1, _), (4, _), (13, _)] (by repeat (first | exact leE_nil | refine leE_cons rfl ?_)) (fun i => i ≤ bs.length) (fun i r => (14, nI i) :: (5, u8 (orTo bs cs i)) :: r) (fun i => S) (fun i => bs.length - i) 0 (by omega) (by repeat (first | exact leE_nil | refine leE_cons (by first | rfl | (rfl)) ?_)) (by repeat (first | exact List.Sublist.refl _ | (refine keepS ?_ ?_; with_reducible rfl) | (refine keepA ?_ ?_; with_reducible rfl) | (refine keepS ?_ ?_; rfl) | apply dropS | apply dropA)) ?_
    intro i hI
    refine CW.seq ?_
    refine CW.region (by kernel_rfl) ?_
    refine RL.q rfl rfl (QW.lss rfl rfl (dI_lt _ _)) ?_
    refine RL.nil (thenN ?_)
    refine CW.seq ?_
    refine CW.cond rfl (fun hc1 => ?_) (fun hc1 => ?_)
    · have hi : i < bs.length := by simpa using hc1
      obtain ⟨gb, ob, lb, TB, fb, rfl, hmb, hgb⟩ := hv.at (by omega)
      obtain ⟨gc, oc, lc, TC, fc, rfl, hmc, hgc⟩ := hv2.at (by omega)
      refine CW.skip (thenN ?_)
      refine CW.seq ?_
      refine CW.block ?_
      refine CW.seq ?_
      refine CW.region (by kernel_rfl) ?_
      refine RL.q rfl rfl (QW.move rfl) ?_
      refine RL.q rfl rfl (QW.assign rfl) ?_
      refine RL.nil (thenN ?_)
      refine CW.drawnS 12 (by rw [mixed]; rfl) (by kernel_rfl) (by kernel_rfl) (by kernel_rfl) (fun _ _ _ h => h) ?_
      refine DL.take 0 rfl (by kernel_rfl) (by kernel_rfl) (by kernel_rfl) rfl rfl (QW.move rfl) (by intro p hp; repeat (first | exact hp | refine List.mem_cons_of_mem _ ?_)) ?_
      refine DL.take 1 rfl (by kernel_rfl) (by kernel_rfl) (by kernel_rfl) rfl rfl (QW.move rfl) (by intro p hp; repeat (first | exact hp | refine List.mem_cons_of_mem _ ?_)) ?_
      refine DL.take 2 rfl (by kernel_rfl) (by kernel_rfl) (by kernel_rfl) rfl rfl (QW.move rfl) (by intro p hp; repeat (first | exact hp | refine List.mem_cons_of_mem _ ?_)) ?_
      refine DL.take 3 rfl (by kernel_rfl) (by kernel_rfl) (by kernel_rfl) rfl rfl (QW.indexAddrS Tryz.runUnderlying23 Tryz.sizeOf5 rfl rfl (by omega) (by first | omega | exact lt8 _) (by first | exact ix01 _ | exact ixb1 _ _ | exact ix0m _ _ | exact ixbm _ _ _)) (by intro p hp; repeat (first | exact hp | refine List.mem_cons_of_mem _ ?_)) ?_
      refine DL.take 4 rfl (by kernel_rfl) (by kernel_rfl) (by kernel_rfl) rfl rfl (QW.load1 rfl Tryz.isAgg5 hmb (hgb i (by omega))) (by intro p hp; repeat (first | exact hp | refine List.mem_cons_of_mem _ ?_)) ?_
      refine DL.take 5 rfl (by kernel_rfl) (by kernel_rfl) (by kernel_rfl) rfl rfl (QW.move rfl) (by intro p hp; repeat (first | exact hp | refine List.mem_cons_of_mem _ ?_)) ?_
      refine DL.take 6 rfl (by kernel_rfl) (by kernel_rfl) (by kernel_rfl) rfl rfl (QW.move rfl) (by intro p hp; repeat (first | exact hp | refine List.mem_cons_of_mem _ ?_)) ?_
      refine DL.take 7 rfl (by kernel_rfl) (by kernel_rfl) (by kernel_rfl) rfl rfl (QW.indexAddrS Tryz.runUnderlying23 Tryz.sizeOf5 rfl rfl (by omega) (by first | omega | exact lt8 _) (by first | exact ix01 _ | exact ixb1 _ _ | exact ix0m _ _ | exact ixbm _ _ _)) (by intro p hp; repeat (first | exact hp | refine List.mem_cons_of_mem _ ?_)) ?_
      refine DL.take 8 rfl (by kernel_rfl) (by kernel_rfl) (by kernel_rfl) rfl rfl (QW.load1 rfl Tryz.isAgg5 hmc (hgc i (by omega))) (by intro p hp; repeat (first | exact hp | refine List.mem_cons_of_mem _ ?_)) ?_
      refine DL.take 9 rfl (by kernel_rfl) (by kernel_rfl) (by kernel_rfl) rfl rfl (QW.xor_ rfl rfl (x8_xor _ _)) (by intro p hp; repeat (first | exact hp | refine List.mem_cons_of_mem _ ?_)) ?_
      refine DL.take 10 rfl (by kernel_rfl) (by kernel_rfl) (by kernel_rfl) rfl rfl (QW.or_ rfl rfl (x8_or _ _)) (by intro p hp; repeat (first | exact hp | refine List.mem_cons_of_mem _ ?_)) ?_
      refine DL.take 11 rfl (by kernel_rfl) (by kernel_rfl) (by kernel_rfl) rfl rfl (QW.assign rfl) (by intro p hp; repeat (first | exact hp | refine List.mem_cons_of_mem _ ?_)) ?_
      refine DL.done (by kernel_rfl) (blockN (thenN ?_))
      refine CW.region (by kernel_rfl) ?_
      refine RL.q rfl rfl (QW.add rfl rfl (wI_add (a := _) (b := 1) (by omega))) ?_
      refine RL.q rfl rfl (QW.move rfl) ?_
      refine RL.nil (thenN ?_)
      refine ⟨i + 1, (by omega), (by omega), ?_, ?_⟩
      · repeat (first | exact leE_nil | refine leE_cons rfl ?_)
      · exact List.Sublist.refl _
    · have hi : i = bs.length := by simp at hc1; omega
      subst hi
      refine CW.exit (thenX (thenX (blockX (thenN ?_))))
      refine CW.seq ?_
      refine CW.region (by kernel_rfl) ?_
      refine RL.q rfl rfl (QW.move rfl) ?_
      refine RL.q rfl rfl (QW.eql rfl rfl (d8_eq _ 0)) ?_
      refine RL.q rfl rfl (QW.assign rfl) ?_
      refine RL.nil (thenN ?_)
      refine CW.ret (retR (S) (ResOk.one Tryz.results122 (ResV.tmp rfl)) (by repeat (first | exact List.Sublist.refl _ | (refine keepS ?_ ?_; with_reducible rfl) | (refine keepA ?_ ?_; with_reducible rfl) | (refine keepS ?_ ?_; rfl) | apply dropS | apply dropA)) ?_)
      first | exact ⟨congrArg Value.bool (decide_eq_false (fun e => hne (by rw [e]))).symm, rfl⟩ | exact ⟨congrArg Value.bool (decide_eq_decide.2 (orTo_all hne)), rfl⟩

end Go.Sl
