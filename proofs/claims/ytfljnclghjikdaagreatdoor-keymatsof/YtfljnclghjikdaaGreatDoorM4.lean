/- A part of a proof: M2, L2, M3, M4. -/
import Derived.Test.YtfljnclghjikdaaGreatDoorProg
import Derived.Test.YtfljnclghjikdaaGreatDoorM1
/- The reference: Of of shas. -/
set_option linter.unusedVariables false
set_option linter.unusedSimpArgs false
namespace Go.Sl
open Go.Proofs

attribute [local irreducible] rBlk
/-- Noughts behind a message. -/
def kz (M : List UInt8) : Nat := (119 - M.length % 64) % 64
def rP (M : List UInt8) (k : Nat) : List UInt8 := ([] ++ M ++ [128]) ++ List.replicate k 0
theorem rP_len (M : List UInt8) (k : Nat) : (rP M k).length = M.length + 1 + k := by simp [rP]; omega
theorem rP_succ (M : List UInt8) (k : Nat) : rP M k ++ [0] = rP M (k + 1) := by simp [rP, List.replicate_succ', List.append_assoc]
def bTo (x : UInt64) : Nat → List UInt8
  | 0 => []
  | i + 1 => bTo x i ++ [UInt8.ofNat (shr64 x (56 - 8 * i)).toNat]
theorem bTo_len (x : UInt64) (i : Nat) : (bTo x i).length = i := by
  induction i with
  | zero => rfl
  | succ i ih => simp [bTo, ih]
def rBits (M : List UInt8) : UInt64 := 8 * UInt64.ofNat M.length
def rA (M : List UInt8) (i : Nat) : List UInt8 := rP M (kz M) ++ bTo (rBits M) i
theorem rA_len (M : List UInt8) (i : Nat) : (rA M i).length = M.length + 1 + kz M + i := by rw [rA, List.length_append, rP_len, bTo_len]
theorem rA_zero (M : List UInt8) : rA M 0 = rP M (kz M) := by simp [rA, bTo]
theorem rA_succ (M : List UInt8) (i : Nat) : rA M i ++ [UInt8.ofNat (shr64 (rBits M) (56 - 8 * i)).toNat] = rA M (i + 1) := by simp [rA, bTo, List.append_assoc]
theorem rA_64 (M : List UInt8) : (rA M 8).length % 64 = 0 := by rw [rA_len, kz]; omega
def rH (M : List UInt8) : Nat → List UInt32
  | 0 => iv
  | j + 1 => rBlk (rH M j) (((rA M 8).drop (64 * j)).take 64)
theorem rH_len (M : List UInt8) (j : Nat) : (rH M j).length = 8 := by
  induction j with
  | zero => rfl
  | succ j ih => exact rBlk_len _ _ ih
def oTo (h : List UInt32) : Nat → List UInt8
  | 0 => List.replicate 32 0
  | i + 1 => (oTo h i).set i (UInt8.ofNat (shr32 (h.getD (i / 4) 0) (24 - 8 * (i % 4))).toNat)
theorem oTo_len (h : List UInt32) (i : Nat) : (oTo h i).length = 32 := by
  induction i with
  | zero => exact List.length_replicate
  | succ i ih => simp [oTo, ih]
def refSha (M : List UInt8) : List UInt8 := oTo (rH M ((rA M 8).length / 64)) 32
attribute [local irreducible] rA rP bTo rBits
theorem RdB.sub {S : HL} {b cap n d m : Nat} {bs : List UInt8} (h : RdB S (sl b 0 n cap) bs) (hn : bs.length = n) (hd : d + m ≤ n) (h0 : 0 < m) : ∃ off l T fr, (b, Obj.cells ⟨l⟩ T fr) ∈ S ∧ off = d ∧ ∀ j, j < m → l[off + j]? = some (u8 (((bs.drop d).take m).getD j 0)) := by
  subst hn
  obtain ⟨b', off, l, T, fr, he, hm, hg⟩ := h.at (by omega)
  injection he with he
  injection he with e1 e2
  subst e1 e2
  refine ⟨d, l, T, fr, hm, rfl, fun j hj => ?_⟩
  have := hg (d + j) (by omega)
  rw [Nat.zero_add] at this
  rw [this]
  have e : ((bs.drop d).take m)[j]? = bs[d + j]? := by rw [List.getElem?_take, if_pos hj, List.getElem?_drop]
  simp only [List.getD_eq_getElem?_getD, e]


set_option maxRecDepth 100000 in
set_option maxHeartbeats 1000000 in
theorem rOf_c (M : List UInt8) (v0 : Value) (S : HL) (hv : RdS S v0 M) (hl : M.length ≤ 1000000000) : CallS Tryz.prog 209 ⟨[v0]⟩ S fun v S' => v = .agg ⟨(refSha M).map u8⟩ ∧ S = S' := by
  obtain ⟨hvr, a, c, rfl, hc⟩ := hv
  refine CallS.enter Tryz.func209 rfl Tryz.ntmps209 (by simp) ?_
  refine CW.seq ?_
  refine CW.region (by kernel_rfl) ?_
  refine RL.cons rfl (OW.alloc zv51 rfl ?_)
  intro b2
  refine RL.nil (thenN ?_)
  refine CW.seq ?_
  refine CW.region (by kernel_rfl) ?_
  refine RL.q rfl rfl (QW.move rfl) ?_
  refine RL.cons rfl (OW.appB (o := none) (xs := []) Tryz.runUnderlying23 Tryz.runUnderlying23 (.inl ⟨_, rfl⟩) Tryz.typeInfo5 Tryz.sizeOf5 zv5 rfl rfl (segNil rfl) rfl rfl (Src.rds (hvr.mono (fun p hp => by repeat (first | exact hp | refine List.mem_cons_of_mem _ ?_ | refine List.mem_append_right _ ?_))) rfl) rfl (by simp only [List.length_append, List.length_nil, List.length_cons, List.length_replicate] <;> omega) ?_)
  intro o1 ho1
  refine RL.cons rfl (OW.buildSlice1 Tryz.runUnderlying23 Tryz.sizeOf5 zv5 rfl rfl rfl ?_)
  intro b13
  refine RL.cons rfl (OW.appB (ys := [128]) Tryz.runUnderlying23 Tryz.runUnderlying23 (.inl ⟨_, rfl⟩) Tryz.typeInfo5 Tryz.sizeOf5 zv5 rfl rfl (by repeat (first | exact SegF.here | apply SegF.there | apply SegF.thereA)) ho1 rfl (Src.rds (RdB.one (b := _) (by repeat (first | exact List.mem_cons_self | refine List.mem_cons_of_mem _ ?_ | refine List.mem_append_right _ ?_))) rfl) rfl (by simp only [List.length_append, List.length_nil, List.length_cons, List.length_replicate] <;> omega) ?_)
  intro o2 ho2
  refine RL.q rfl rfl (QW.assign rfl) ?_
  refine RL.nil (thenN ?_)
  refine CW.seq ?_
  refine CW.block ?_
  refine CW.loopT2 (α := Nat) (β := Option Buf) [(0, _), (2, _)] (by repeat (first | exact leE_nil | refine leE_cons rfl ?_)) (fun k o => k ≤ kz M ∧ bufOk o (rP M k).length 1) (fun k o r => (3, bufV o (rP M k).length) :: r) (fun k o => bufH o ((rP M k).map u8) 5 ++ ((b2, blk ((List.replicate 32 0).map u8) 51) :: S)) (fun k o => kz M - k) 0 o2 ⟨Nat.zero_le _, by simpa [rP] using ho2⟩ (by repeat (first | exact leE_nil | refine leE_cons (by first | rfl | (exact congrArg (fun l => some (bufV _ (List.length l))) (show ([] ++ M ++ [128] : List UInt8) = rP M 0 from by simp [rP]))) ?_)) (by simp only [rP, List.replicate_zero, List.append_nil]; exact dropS (List.Sublist.refl _)) ?_
  intro k o ⟨hI, hbo⟩
  have hkz : kz M < 64 := Nat.mod_lt _ (by decide)
  have hpl := rP_len M k
  refine CW.seq ?_
  refine CW.seq ?_
  refine CW.region (by kernel_rfl) ?_
  refine RL.q rfl rfl (QW.move rfl) ?_
  refine RL.q rfl rfl (QW.len_buf hbo Tryz.runUnderlying23 rfl) ?_
  refine RL.q rfl rfl (QW.rem rfl rfl (by omega) (tI_rem _ 64)) ?_
  refine RL.q rfl rfl (QW.neq' rfl rfl (dI_eq _ 56)) ?_
  refine RL.nil (thenN ?_)
  refine CW.cond rfl (fun hc0 => ?_) (fun hc0 => ?_)
  · have hne : (rP M k).length % 64 ≠ 56 := by simpa using hc0
    rw [rP_len] at hne
    have hk : k < kz M := by unfold kz at hI ⊢; omega
    refine CW.skip (thenN ?_)
    refine CW.block ?_
    refine CW.region (by kernel_rfl) ?_
    refine RL.q rfl rfl (QW.move rfl) ?_
    refine RL.cons rfl (OW.buildSlice1 Tryz.runUnderlying23 Tryz.sizeOf5 zv5 rfl rfl rfl ?_)
    intro b20
    refine RL.cons rfl (OW.appB (ys := [0]) Tryz.runUnderlying23 Tryz.runUnderlying23 (.inl ⟨_, rfl⟩) Tryz.typeInfo5 Tryz.sizeOf5 zv5 rfl rfl (by repeat (first | exact SegF.here | apply SegF.there | apply SegF.thereA)) hbo rfl (Src.rds (RdB.one (b := _) (by repeat (first | exact List.mem_cons_self | refine List.mem_cons_of_mem _ ?_ | refine List.mem_append_right _ ?_))) rfl) rfl (by rw [rP_len]; simp only [List.length_cons, List.length_nil]; omega) ?_)
    intro o' hbo2
    rw [rP_succ] at hbo2 ⊢
    refine RL.q rfl rfl (QW.assign rfl) ?_
    refine RL.nil (blockN (thenN ?_))
    refine ⟨k + 1, o', (⟨by omega, hbo2⟩), (by omega), ?_, ?_⟩
    · repeat (first | exact leE_nil | refine leE_cons rfl ?_)
    · exact dropS (List.Sublist.refl _)
  · have hne : (rP M k).length % 64 = 56 := by simpa using hc0
    rw [rP_len] at hne
    have hk : k = kz M := by unfold kz at hI ⊢; omega
    subst hk
    refine CW.exit (thenX (thenX (blockX (thenN ?_))))
    refine CW.seq ?_
    refine CW.region (by kernel_rfl) ?_
    refine RL.q rfl rfl (QW.move rfl) ?_
    refine RL.q rfl rfl (QW.len_s Tryz.runUnderlying23 rfl) ?_
    refine RL.q rfl rfl (QW.conv Tryz.runUnderlying3 Tryz.runUnderlying47 rfl (w64_nat _)) ?_
    refine RL.q rfl rfl (QW.mul (c := ((rBits M).toNat : Int)) rfl rfl (by unfold rBits; exact w64_mul 8 _)) ?_
    refine RL.q rfl rfl (QW.assign rfl) ?_
    refine RL.nil (thenN ?_)
    refine CW.seq ?_
    refine CW.seq ?_
    refine CW.region (by kernel_rfl) ?_
    refine RL.q rfl rfl (QW.assign rfl) ?_
    refine RL.nil (thenN ?_)
    refine CW.block ?_
    refine CW.loopT2 (α := Nat) (β := Option Buf) [(2, _), (4, _)] (by repeat (first | exact leE_nil | refine leE_cons rfl ?_)) (fun i o => i ≤ 8 ∧ bufOk o (rA M i).length 1) (fun i o r => (5, nI i) :: (3, bufV o (rA M i).length) :: r) (fun i o => bufH o ((rA M i).map u8) 5 ++ ((b2, blk ((List.replicate 32 0).map u8) 51) :: S)) (fun i o => 8 - i) 0 o ⟨Nat.zero_le _, by rw [rA_zero]; exact hbo⟩ (by repeat (first | exact leE_nil | refine leE_cons (by first | rfl | (rw [rA_zero]; rfl)) ?_)) (by rw [rA_zero]; exact List.Sublist.refl _) ?_
    intro i o ⟨hI, hbo⟩
    have hpl := rA_len M i
    have hkz : kz M < 64 := Nat.mod_lt _ (by decide)
    refine CW.seq ?_
    refine CW.seq ?_
    refine CW.region (by kernel_rfl) ?_
    refine RL.q rfl rfl (QW.move rfl) ?_
    refine RL.q rfl rfl (QW.lss rfl rfl (dI_lt _ 8)) ?_
    refine RL.nil (thenN ?_)
    refine CW.cond rfl (fun hc1 => ?_) (fun hc1 => ?_)
    · have hi : i < 8 := by simpa using hc1
      refine CW.skip (thenN ?_)
      refine CW.seq ?_
      refine CW.block ?_
      refine CW.region (by kernel_rfl) ?_
      refine RL.q rfl rfl (QW.move rfl) ?_
      refine RL.q rfl rfl (QW.move rfl) ?_
      refine RL.q rfl rfl (QW.move rfl) ?_
      refine RL.q rfl rfl (QW.mul rfl rfl (wI_mul (a := 8) (b := _) (by omega))) ?_
      refine RL.q rfl rfl (QW.sub rfl rfl (wI_sub (a := 56) (b := _) (by omega) (by omega))) ?_
      refine RL.q rfl rfl (QW.shr rfl rfl (by omega) (h64_shr _ (56 - 8 * i))) ?_
      refine RL.q rfl rfl (QW.conv Tryz.runUnderlying47 Tryz.runUnderlying5 rfl (w8_nat _)) ?_
      refine RL.cons rfl (OW.buildSlice1 Tryz.runUnderlying23 Tryz.sizeOf5 zv5 rfl rfl rfl ?_)
      intro b37
      refine RL.cons rfl (OW.appB (ys := [UInt8.ofNat (shr64 (rBits M) (56 - 8 * i)).toNat]) Tryz.runUnderlying23 Tryz.runUnderlying23 (.inl ⟨_, rfl⟩) Tryz.typeInfo5 Tryz.sizeOf5 zv5 rfl rfl (by repeat (first | exact SegF.here | apply SegF.there | apply SegF.thereA)) hbo rfl (Src.rds (RdB.one (b := _) (by repeat (first | exact List.mem_cons_self | refine List.mem_cons_of_mem _ ?_ | refine List.mem_append_right _ ?_))) rfl) rfl (by rw [rA_len]; simp only [List.length_cons, List.length_nil]; omega) ?_)
      intro o' hbo2
      rw [rA_succ] at hbo2 ⊢
      refine RL.q rfl rfl (QW.assign rfl) ?_
      refine RL.nil (blockN (thenN ?_))
      refine CW.region (by kernel_rfl) ?_
      refine RL.q rfl rfl (QW.move rfl) ?_
      refine RL.q rfl rfl (QW.add rfl rfl (wI_add (a := _) (b := 1) (by omega))) ?_
      refine RL.q rfl rfl (QW.assign rfl) ?_
      refine RL.nil (thenN ?_)
      refine ⟨i + 1, o', (⟨by omega, hbo2⟩), (by omega), ?_, ?_⟩
      · repeat (first | exact leE_nil | refine leE_cons rfl ?_)
      · exact dropS (List.Sublist.refl _)
    · have hi : i = 8 := by simp at hc1; omega
      subst hi
      have hiv : iv.length = 8 := rfl
      refine CW.exit (thenX (thenX (blockX (thenN ?_))))
      refine CW.seq ?_
      refine CW.region (by kernel_rfl) ?_
      refine RL.q rfl rfl (QW.buildA (cells := iv.map u32) (ps := [(0, .int .u32 1779033703), (1, .int .u32 3144134277), (2, .int .u32 1013904242), (3, .int .u32 2773480762), (4, .int .u32 1359893119), (5, .int .u32 2600822924), (6, .int .u32 528734635), (7, .int .u32 1541459225)]) Tryz.runUnderlying332 Tryz.sizeOf62 zv332 (parts_of (by kernel_rfl)) (by kernel_rfl)) ?_
      refine RL.cons rfl (OW.alloc zv332 rfl ?_)
      intro b6
      refine RL.cons rfl (OW.storeN rfl rfl Tryz.sizeOf332 (by repeat (first | exact List.mem_cons_self | exact List.mem_cons_of_mem _ (by assumption) | assumption | refine List.mem_cons_of_mem _ ?_ | refine List.mem_append_right _ ?_)) (by first | (simp only [List.length_map, List.length_replicate, List.length_cons, List.length_nil, List.length_set, Nat.mul_one] <;> omega) | (simp [*] <;> omega)) (by first | exact m_all (fun _ => rfl) _ | rfl | (simp; done) | (simp only [List.all_cons, List.all_nil, oneB_buf, Bool.true_and, Bool.and_true]; rfl) | (simp [oneB]; done)) (by first | (simp only [List.length_map, List.length_replicate, List.length_cons, List.length_nil, List.length_set, Nat.mul_one] <;> omega) | (simp [*] <;> omega)) (by first | (refine wr_all ?_; simp only [List.length_map, List.length_replicate, List.length_cons, List.length_nil, List.length_set, Nat.mul_one] <;> omega) | (refine wr_all ?_; simp [*]; done) | exact m_wr _ _ _ | with_reducible rfl) (by repeat (first | exact Upd.head | apply Upd.tail | apply Upd.tailA)) ?_)
      refine RL.nil (thenN ?_)
      refine CW.seq ?_
      refine CW.region (by kernel_rfl) ?_
      refine RL.cons rfl (OW.call Tryz.call280 (fun _ _ => ext_nil) ((table_c _).mono ?_))
      rintro v S' ⟨gk, rfl, rfl⟩
      refine RL.q rfl rfl (QW.assign rfl) ?_
      refine RL.nil (thenN ?_)
      refine CW.seq ?_
      refine CW.seq ?_
      refine CW.region (by kernel_rfl) ?_
      refine RL.q rfl rfl (QW.assign rfl) ?_
      refine RL.nil (thenN ?_)
      refine CW.block ?_
      refine CW.loopT (ι := Nat) [(2, _), (3, _), (6, _), (7, _)] (by repeat (first | exact leE_nil | refine leE_cons rfl ?_)) (fun j => 64 * j ≤ (rA M 8).length) (fun j r => (8, nI (64 * j)) :: r) (fun j => (gk, blk (kTab.map u32) 62) :: (b6, blk ((rH M j).map u32) 332) :: (bufH o ((rA M 8).map u8) 5 ++ ((b2, blk ((List.replicate 32 0).map u8) 51) :: S))) (fun j => (rA M 8).length - 64 * j) 0 (by omega) (by repeat (first | exact leE_nil | refine leE_cons (by first | rfl | (rfl)) ?_)) (by repeat (first | exact List.Sublist.refl _ | (refine keepS ?_ ?_; with_reducible rfl) | (refine keepA ?_ ?_; with_reducible rfl) | (refine keepS ?_ ?_; rfl) | apply dropS | apply dropA)) ?_
      intro j hI
      have hpl := rA_len M 8
      have hkz : kz M < 64 := Nat.mod_lt _ (by decide)
      have hhl := rH_len M j
      refine CW.seq ?_
      refine CW.seq ?_
      refine CW.region (by kernel_rfl) ?_
      refine RL.q rfl rfl (QW.move rfl) ?_
      refine RL.q rfl rfl (QW.move rfl) ?_
      refine RL.q rfl rfl (QW.len_buf hbo Tryz.runUnderlying23 rfl) ?_
      refine RL.q rfl rfl (QW.lss rfl rfl (dI_lt _ _)) ?_
      refine RL.nil (thenN ?_)
      refine CW.cond rfl (fun hc2 => ?_) (fun hc2 => ?_)
      · have hj : 64 * j < (rA M 8).length := by simpa using hc2
        have h64 := rA_64 M
        obtain ⟨gb, cb, hsl, hcb⟩ := bufSl hbo (by omega)
        have hrd : RdB ((gk, blk (kTab.map u32) 62) :: (b6, blk ((rH M j).map u32) 332) :: (bufH o ((rA M 8).map u8) 5 ++ ((b2, blk ((List.replicate 32 0).map u8) 51) :: S))) (bufV o (rA M 8).length) (rA M 8) := RdB.bufB hbo (fun p hp => List.mem_cons_of_mem _ (List.mem_cons_of_mem _ (List.mem_append_left _ hp)))
        rw [hsl] at hrd
        obtain ⟨off, lb, TB, fb, hmb, hoff, hgb⟩ := RdB.sub (d := 64 * j) (m := 64) hrd rfl (by omega) (by decide)
        subst hoff
        have hbl8 := rBlk_len (rH M j) (((rA M 8).drop (64 * j)).take 64) hhl
        rw [hsl]
        refine CW.skip (thenN ?_)
        refine CW.seq ?_
        refine CW.block ?_
        refine CW.drawnS 8 (by rw [mixed]; rfl) (by kernel_rfl) (by kernel_rfl) (by kernel_rfl) (fun _ _ _ h => h) ?_
        refine DL.take 0 rfl (by kernel_rfl) (by kernel_rfl) (by kernel_rfl) rfl rfl (QW.loadN rfl Tryz.isAgg332 Tryz.sizeOf332 (by repeat (first | exact List.mem_cons_self | exact List.mem_cons_of_mem _ (by assumption) | assumption | refine List.mem_cons_of_mem _ ?_ | refine List.mem_append_right _ ?_)) (by first | (simp only [List.length_map, List.length_replicate, List.length_cons, List.length_nil, List.length_set, Nat.mul_one] <;> omega) | (simp [*] <;> omega)) (by first | (refine m_all_of _ _ ?_; omega) | (refine m_all_of _ _ ?_; simp [*]; done) | exact m_cut _ _ _ | with_reducible rfl)) (by intro p hp; repeat (first | exact hp | refine List.mem_cons_of_mem _ ?_)) ?_
        refine DL.take 1 rfl (by kernel_rfl) (by kernel_rfl) (by kernel_rfl) rfl rfl (QW.move rfl) (by intro p hp; repeat (first | exact hp | refine List.mem_cons_of_mem _ ?_)) ?_
        refine DL.take 2 rfl (by kernel_rfl) (by kernel_rfl) (by kernel_rfl) rfl rfl (QW.move rfl) (by intro p hp; repeat (first | exact hp | refine List.mem_cons_of_mem _ ?_)) ?_
        refine DL.take 3 rfl (by kernel_rfl) (by kernel_rfl) (by kernel_rfl) rfl rfl (QW.move rfl) (by intro p hp; repeat (first | exact hp | refine List.mem_cons_of_mem _ ?_)) ?_
        refine DL.take 4 rfl (by kernel_rfl) (by kernel_rfl) (by kernel_rfl) rfl rfl (QW.add rfl rfl (wI_add (a := _) (b := 64) (by omega))) (by intro p hp; repeat (first | exact hp | refine List.mem_cons_of_mem _ ?_)) ?_
        refine DL.take 5 rfl (by kernel_rfl) (by kernel_rfl) (by kernel_rfl) rfl rfl (QW.sliceE (l := 64 * j) (h := 64 * j + 64) (n1 := 64) Tryz.runUnderlying23 Tryz.sizeOf5 rfl (optV_some rfl) (optV_some rfl) optV_none (.inl rfl) (by omega) (by omega) (by omega) (sliceOff1' (by omega)) (by omega) rfl) (by intro p hp; repeat (first | exact hp | refine List.mem_cons_of_mem _ ?_)) ?_
        refine DL.take 6 rfl (by kernel_rfl) (by kernel_rfl) (by kernel_rfl) rfl rfl (QW.move rfl) (by intro p hp; repeat (first | exact hp | refine List.mem_cons_of_mem _ ?_)) ?_
        refine DL.one 7 (by kernel_rfl) rfl rfl (OW.call Tryz.call281 (ext3 rfl rfl rfl) ((rblock_c (rH M j) (((rA M 8).drop (64 * j)).take 64) gb (64 * j) _ gk _ 0 lb (kTab.map u32) TB _ fb _ _ hhl (by simp only [List.length_take, List.length_drop]; omega) (by repeat (first | exact List.mem_cons_self | exact List.mem_cons_of_mem _ (by assumption) | assumption | refine List.mem_cons_of_mem _ ?_ | refine List.mem_append_right _ ?_)) hgb (by repeat (first | exact List.mem_cons_self | exact List.mem_cons_of_mem _ (by assumption) | assumption | refine List.mem_cons_of_mem _ ?_ | refine List.mem_append_right _ ?_)) (hgetM kTab 0)).mono ?_))
        rintro v S' ⟨rfl, rfl⟩
        refine ⟨fun _ p hp => by repeat (first | exact hp | refine List.mem_cons_of_mem _ ?_), ?_⟩
        refine DL.one 8 (by kernel_rfl) rfl rfl (OW.storeN rfl rfl Tryz.sizeOf332 (by repeat (first | exact List.mem_cons_self | exact List.mem_cons_of_mem _ (by assumption) | assumption | refine List.mem_cons_of_mem _ ?_ | refine List.mem_append_right _ ?_)) (by first | (simp only [List.length_map, List.length_replicate, List.length_cons, List.length_nil, List.length_set, Nat.mul_one] <;> omega) | (simp [*] <;> omega)) (by first | exact m_all (fun _ => rfl) _ | rfl | (simp; done) | (simp only [List.all_cons, List.all_nil, oneB_buf, Bool.true_and, Bool.and_true]; rfl) | (simp [oneB]; done)) (by first | (simp only [List.length_map, List.length_replicate, List.length_cons, List.length_nil, List.length_set, Nat.mul_one] <;> omega) | (simp [*] <;> omega)) (by first | (refine wr_all ?_; simp only [List.length_map, List.length_replicate, List.length_cons, List.length_nil, List.length_set, Nat.mul_one] <;> omega) | (refine wr_all ?_; simp [*]; done) | exact m_wr _ _ _ | with_reducible rfl) (by repeat (first | exact Upd.head | apply Upd.tail | apply Upd.tailA)) ?_)
        refine ⟨fun h => absurd rfl h, ?_⟩
        refine DL.done (by kernel_rfl) (blockN (thenN ?_))
        refine CW.region (by kernel_rfl) ?_
        refine RL.q rfl rfl (QW.move rfl) ?_
        refine RL.q rfl rfl (QW.add rfl rfl (wI_add (a := _) (b := 64) (by omega))) ?_
        refine RL.q rfl rfl (QW.assign rfl) ?_
        refine RL.nil (thenN ?_)
        refine ⟨j + 1, (by omega), (by omega), ?_, ?_⟩
        · repeat (first | exact leE_nil | refine leE_cons rfl ?_)
        · exact List.Sublist.refl _
      · have hj : ¬ 64 * j < (rA M 8).length := by simpa using hc2
        have h64 := rA_64 M
        have hjj : j = (rA M 8).length / 64 := by omega
        subst hjj
        refine CW.exit (thenX (thenX (blockX (thenN ?_))))
        refine CW.seq ?_
        refine CW.region (by kernel_rfl) ?_
        refine RL.cons rfl (OW.alloc zv51 rfl ?_)
        intro b9
        refine RL.nil (thenN ?_)
        refine CW.seq ?_
        refine CW.seq ?_
        refine CW.region (by kernel_rfl) ?_
        refine RL.q rfl rfl (QW.assign rfl) ?_
        refine RL.nil (thenN ?_)
        refine CW.block ?_
        refine CW.loopT (ι := Nat) [(2, _), (6, _), (9, _)] (by repeat (first | exact leE_nil | refine leE_cons rfl ?_)) (fun i => i ≤ 32) (fun i r => (10, nI i) :: r) (fun i => (b9, blk ((oTo (rH M ((rA M 8).length / 64)) i).map u8) 51) :: (b6, blk ((rH M ((rA M 8).length / 64)).map u32) 332) :: (b2, blk ((List.replicate 32 0).map u8) 51) :: S) (fun i => 32 - i) 0 (by omega) (by repeat (first | exact leE_nil | refine leE_cons (by first | rfl | (rfl)) ?_)) (by repeat (first | exact List.Sublist.refl _ | (refine keepS ?_ ?_; with_reducible rfl) | (refine keepA ?_ ?_; with_reducible rfl) | (refine keepS ?_ ?_; rfl) | apply dropS | apply dropA)) ?_
        intro i hI
        have hol := oTo_len (rH M ((rA M 8).length / 64)) i
        have hhl := rH_len M ((rA M 8).length / 64)
        refine CW.seq ?_
        refine CW.seq ?_
        refine CW.region (by kernel_rfl) ?_
        refine RL.q rfl rfl (QW.move rfl) ?_
        refine RL.q rfl rfl (QW.lss rfl rfl (dI_lt _ 32)) ?_
        refine RL.nil (thenN ?_)
        refine CW.cond rfl (fun hc3 => ?_) (fun hc3 => ?_)
        · have hi : i < 32 := by simpa using hc3
          refine CW.skip (thenN ?_)
          refine CW.seq ?_
          refine CW.block ?_
          refine CW.region (by kernel_rfl) ?_
          refine RL.q rfl rfl (QW.move rfl) ?_
          refine RL.q rfl rfl (QW.move rfl) ?_
          refine RL.q rfl rfl (QW.quo rfl rfl (by omega) (tI_quo _ 4 (by omega))) ?_
          refine RL.q rfl rfl (QW.indexAddrA Tryz.runUnderlying332 Tryz.sizeOf62 rfl rfl (by omega) (by first | omega | exact lt8 _) (by first | exact ix01 _ | exact ixb1 _ _ | exact ix0m _ _ | exact ixbm _ _ _)) ?_
          refine RL.q rfl rfl (QW.load1 rfl Tryz.isAgg62 (by repeat (first | exact List.mem_cons_self | exact List.mem_cons_of_mem _ (by assumption) | assumption | refine List.mem_cons_of_mem _ ?_ | refine List.mem_append_right _ ?_)) (by first | (refine m_get 0 ?_; omega) | (refine m_get 0 ?_; simp only [*]; omega) | (refine m_get 0 ?_; simp only [List.length_set]; omega) | (refine m_get 0 (lt8L ?_); omega) | (refine m_get 0 (lt8B ?_); omega) | rfl)) ?_
          refine RL.q rfl rfl (QW.move rfl) ?_
          refine RL.q rfl rfl (QW.rem rfl rfl (by omega) (tI_rem _ 4)) ?_
          refine RL.q rfl rfl (QW.mul rfl rfl (wI_mul (a := 8) (b := _) (by omega))) ?_
          refine RL.q rfl rfl (QW.sub rfl rfl (wI_sub (a := 24) (b := _) (by omega) (by omega))) ?_
          refine RL.q rfl rfl (QW.shr rfl rfl (by omega) (h32_shr _ (24 - 8 * (i % 4)))) ?_
          refine RL.q rfl rfl (QW.conv Tryz.runUnderlying62 Tryz.runUnderlying5 rfl (w8_nat _)) ?_
          refine RL.q rfl rfl (QW.indexAddrA Tryz.runUnderlying51 Tryz.sizeOf5 rfl rfl (by omega) (by first | omega | exact lt8 _) (by first | exact ix01 _ | exact ixb1 _ _ | exact ix0m _ _ | exact ixbm _ _ _)) ?_
          refine RL.cons rfl (OW.store1 rfl rfl Tryz.sizeOf5 rfl (by repeat (first | exact List.mem_cons_self | exact List.mem_cons_of_mem _ (by assumption) | assumption | refine List.mem_cons_of_mem _ ?_ | refine List.mem_append_right _ ?_)) (by first | (simp only [List.length_map, List.length_replicate, List.length_cons, List.length_nil, List.length_set, Nat.mul_one] <;> omega) | (rw [List.length_map]; refine lt8B ?_; simp [*]; done) | (rw [List.length_map]; refine lt8L ?_; simp [*]; done) | (simp [*] <;> omega)) (by first | exact m_set _ _ _ | rfl) (by repeat (first | exact Upd.head | apply Upd.tail | apply Upd.tailA)) ?_)
          refine RL.nil (blockN (thenN ?_))
          refine CW.region (by kernel_rfl) ?_
          refine RL.q rfl rfl (QW.move rfl) ?_
          refine RL.q rfl rfl (QW.add rfl rfl (wI_add (a := _) (b := 1) (by omega))) ?_
          refine RL.q rfl rfl (QW.assign rfl) ?_
          refine RL.nil (thenN ?_)
          refine ⟨i + 1, (by omega), (by omega), ?_, ?_⟩
          · repeat (first | exact leE_nil | refine leE_cons rfl ?_)
          · exact List.Sublist.refl _
        · have hi : i = 32 := by simp at hc3; omega
          subst hi
          refine CW.exit (thenX (thenX (blockX (thenN ?_))))
          refine CW.seq ?_
          refine CW.region (by kernel_rfl) ?_
          refine RL.q rfl rfl (QW.loadN rfl Tryz.isAgg51 Tryz.sizeOf51 (by repeat (first | exact List.mem_cons_self | exact List.mem_cons_of_mem _ (by assumption) | assumption | refine List.mem_cons_of_mem _ ?_ | refine List.mem_append_right _ ?_)) (by first | (simp only [List.length_map, List.length_replicate, List.length_cons, List.length_nil, List.length_set, Nat.mul_one] <;> omega) | (simp [*] <;> omega)) (by first | (refine m_all_of _ _ ?_; omega) | (refine m_all_of _ _ ?_; simp [*]; done) | exact m_cut _ _ _ | with_reducible rfl)) ?_
          refine RL.cons rfl (OW.storeN rfl rfl Tryz.sizeOf51 (by repeat (first | exact List.mem_cons_self | exact List.mem_cons_of_mem _ (by assumption) | assumption | refine List.mem_cons_of_mem _ ?_ | refine List.mem_append_right _ ?_)) (by first | (simp only [List.length_map, List.length_replicate, List.length_cons, List.length_nil, List.length_set, Nat.mul_one] <;> omega) | (simp [*] <;> omega)) (by first | exact m_all (fun _ => rfl) _ | rfl | (simp; done) | (simp only [List.all_cons, List.all_nil, oneB_buf, Bool.true_and, Bool.and_true]; rfl) | (simp [oneB]; done)) (by first | (simp only [List.length_map, List.length_replicate, List.length_cons, List.length_nil, List.length_set, Nat.mul_one] <;> omega) | (simp [*] <;> omega)) (by first | (refine wr_all ?_; simp only [List.length_map, List.length_replicate, List.length_cons, List.length_nil, List.length_set, Nat.mul_one] <;> omega) | (refine wr_all ?_; simp [*]; done) | exact m_wr _ _ _ | with_reducible rfl) (by repeat (first | exact Upd.head | apply Upd.tail | apply Upd.tailA)) ?_)
          refine RL.nil (thenN ?_)
          refine CW.ret (retR (S) (ResOk.one Tryz.results209 (ResV.cellN rfl Tryz.isAgg51 Tryz.sizeOf51 (by repeat (first | exact List.mem_cons_self | exact List.mem_cons_of_mem _ (by assumption) | assumption | refine List.mem_cons_of_mem _ ?_ | refine List.mem_append_right _ ?_)) (by first | (simp only [List.length_map, List.length_replicate, List.length_cons, List.length_nil, List.length_set, Nat.mul_one] <;> omega) | (simp [*] <;> omega)) (by first | (refine m_all_of _ _ ?_; omega) | (refine m_all_of _ _ ?_; simp [*]; done) | exact m_cut _ _ _ | with_reducible rfl))) (by repeat (first | exact List.Sublist.refl _ | (refine keepS ?_ ?_; with_reducible rfl) | (refine keepA ?_ ?_; with_reducible rfl) | (refine keepS ?_ ?_; rfl) | apply dropS | apply dropA)) ?_)
          exact ⟨rfl, rfl⟩

end Go.Sl

/- The plain law of shas: what the program computes is the reference's sum. -/
set_option linter.unusedVariables false
set_option linter.unusedSimpArgs false
namespace Go.Sl
attribute [local irreducible] st

theorem rot_rr (x : UInt32) (n : Nat) (h : (rotS n).toNat = 32 - n) (h2 : (32 - rotS n).toNat = n) : rotF x n = rr32 x n := by
  rw [rotF_eq, rr32_eq, h, h2, UInt32.or_comm]
theorem down2 (x : UInt32) (a b : Nat) (ha : (rotS a).toNat = 32 - a) (ha2 : (32 - rotS a).toNat = a) (hb : (rotS b).toNat = 32 - b) (hb2 : (32 - rotS b).toNat = b) : downF x [a, b] = rr32 x a ^^^ rr32 x b := by
  show (0 ^^^ rotF x a) ^^^ rotF x b = _
  rw [UInt32.zero_xor, rot_rr x a ha ha2, rot_rr x b hb hb2]
theorem down3 (x : UInt32) (a b c : Nat) (ha : (rotS a).toNat = 32 - a) (ha2 : (32 - rotS a).toNat = a) (hb : (rotS b).toNat = 32 - b) (hb2 : (32 - rotS b).toNat = b)
    (hc : (rotS c).toNat = 32 - c) (hc2 : (32 - rotS c).toNat = c) : downF x [a, b, c] = (rr32 x a ^^^ rr32 x b) ^^^ rr32 x c := by
  show ((0 ^^^ rotF x a) ^^^ rotF x b) ^^^ rotF x c = _
  rw [UInt32.zero_xor, rot_rr x a ha ha2, rot_rr x b hb hb2, rot_rr x c hc hc2]
theorem d_7_18 (x : UInt32) : downF x [7, 18] = rr32 x 7 ^^^ rr32 x 18 := down2 x 7 18 (by unfold rotS negN; decide) (by unfold rotS negN; decide) (by unfold rotS negN; decide) (by unfold rotS negN; decide)
theorem d_17_19 (x : UInt32) : downF x [17, 19] = rr32 x 17 ^^^ rr32 x 19 := down2 x 17 19 (by unfold rotS negN; decide) (by unfold rotS negN; decide) (by unfold rotS negN; decide) (by unfold rotS negN; decide)
theorem d_6_11_25 (x : UInt32) : downF x [6, 11, 25] = (rr32 x 6 ^^^ rr32 x 11) ^^^ rr32 x 25 :=
  down3 x 6 11 25 (by unfold rotS negN; decide) (by unfold rotS negN; decide) (by unfold rotS negN; decide) (by unfold rotS negN; decide) (by unfold rotS negN; decide) (by unfold rotS negN; decide)
theorem d_2_13_22 (x : UInt32) : downF x [2, 13, 22] = (rr32 x 2 ^^^ rr32 x 13) ^^^ rr32 x 22 :=
  down3 x 2 13 22 (by unfold rotS negN; decide) (by unfold rotS negN; decide) (by unfold rotS negN; decide) (by unfold rotS negN; decide) (by unfold rotS negN; decide) (by unfold rotS negN; decide)
theorem chE (e f g : UInt32) : (e &&& f) ||| (~~~ e &&& g) = (e &&& f) ^^^ (~~~ e &&& g) := by
  apply UInt32.toBitVec_inj.1
  apply BitVec.eq_of_getLsbD_eq
  intro i hi
  simp only [UInt32.toBitVec_or, UInt32.toBitVec_and, UInt32.toBitVec_xor, UInt32.toBitVec_not, BitVec.getLsbD_or, BitVec.getLsbD_and, BitVec.getLsbD_xor, BitVec.getLsbD_not]
  cases e.toBitVec.getLsbD i <;> cases f.toBitVec.getLsbD i <;> cases g.toBitVec.getLsbD i <;> simp [hi]
theorem majE (a b c : UInt32) : (a &&& (b ^^^ c)) ^^^ (b &&& c) = ((a &&& b) ||| (a &&& c)) ||| (b &&& c) := by
  apply UInt32.toBitVec_inj.1
  apply BitVec.eq_of_getLsbD_eq
  intro i hi
  simp only [UInt32.toBitVec_or, UInt32.toBitVec_and, UInt32.toBitVec_xor, BitVec.getLsbD_or, BitVec.getLsbD_and, BitVec.getLsbD_xor]
  cases a.toBitVec.getLsbD i <;> cases b.toBitVec.getLsbD i <;> cases c.toBitVec.getLsbD i <;> rfl

/-! the block's numbers -/
theorem or_add {a b n : Nat} (h : b < 2 ^ n) : (a * 2 ^ n) ||| b = a * 2 ^ n + b := by
  rw [Nat.mul_comm, ← Nat.two_pow_add_eq_or_of_lt h]
theorem shl_ex (x : UInt8) (n : Nat) (hn : n ≤ 24) : (shl32 (ex x) n).toNat = x.toNat * 2 ^ n := by
  have h1 := x.toNat_lt
  have h2 : 2 ^ n ≤ 2 ^ 24 := Nat.pow_le_pow_right (by decide) hn
  have h3 : x.toNat * 2 ^ n < 2 ^ 32 := by
    calc x.toNat * 2 ^ n ≤ 255 * 2 ^ 24 := Nat.mul_le_mul (by omega) h2
      _ < 2 ^ 32 := by decide
  unfold shl32 ex
  rw [UInt32.toNat_ofNat', UInt32.toNat_ofNat', Nat.mod_eq_of_lt (a := x.toNat) (by omega), Nat.mod_eq_of_lt h3]
theorem beN (a b c d : UInt8) : ((shl32 (ex a) 24 ||| shl32 (ex b) 16) ||| shl32 (ex c) 8) ||| ex d = UInt32.ofNat (((a.toNat * 256 + b.toNat) * 256 + c.toNat) * 256 + d.toNat) := by
  have ha := a.toNat_lt
  have hb := b.toNat_lt
  have hc := c.toNat_lt
  have hd := d.toNat_lt
  apply UInt32.toNat_inj.1
  rw [UInt32.toNat_or, UInt32.toNat_or, UInt32.toNat_or, shl_ex a 24 (by decide), shl_ex b 16 (by decide), shl_ex c 8 (by decide)]
  have e0 : (ex d).toNat = d.toNat := by unfold ex; rw [UInt32.toNat_ofNat', Nat.mod_eq_of_lt (by omega)]
  rw [e0, or_add (a := a.toNat) (n := 24) (by omega)]
  rw [show a.toNat * 2 ^ 24 + b.toNat * 2 ^ 16 = (a.toNat * 256 + b.toNat) * 2 ^ 16 from by omega, or_add (n := 16) (by omega)]
  rw [show (a.toNat * 256 + b.toNat) * 2 ^ 16 + c.toNat * 2 ^ 8 = ((a.toNat * 256 + b.toNat) * 256 + c.toNat) * 2 ^ 8 from by omega, or_add (n := 8) (by omega)]
  rw [UInt32.toNat_ofNat', Nat.mod_eq_of_lt (by omega)]
theorem get4 (bs : List UInt8) (h : 4 ≤ bs.length) : (getF bs 4).toNat = (((bs.getD 0 0).toNat * 256 + (bs.getD 1 0).toNat) * 256 + (bs.getD 2 0).toNat) * 256 + (bs.getD 3 0).toNat := by
  obtain ⟨a, b, c, d, r, rfl⟩ : ∃ a b c d r, bs = a :: b :: c :: d :: r := by
    rcases bs with _ | ⟨a, _ | ⟨b, _ | ⟨c, _ | ⟨d, r⟩⟩⟩⟩ <;> simp at h
    exact ⟨a, b, c, d, r, rfl⟩
  have ha := a.toNat_lt
  have hb := b.toNat_lt
  have hc := c.toNat_lt
  have hd := d.toNat_lt
  have e : getF (a :: b :: c :: d :: r) 4 = 256 * (256 * (256 * (256 * (256 * (256 * (256 * (256 * 0 + UInt64.ofNat 0) + UInt64.ofNat 0) + UInt64.ofNat 0) + UInt64.ofNat 0) + UInt64.ofNat a.toNat) + UInt64.ofNat b.toNat) + UInt64.ofNat c.toNat) + UInt64.ofNat d.toNat := by rfl
  rw [e]
  simp [UInt64.toNat_add, UInt64.toNat_mul]
  omega
theorem be4 (bb : List UInt8) (t : Nat) (h : bb.length = 64) (ht : t < 16) : UInt32.ofNat (getF (bb.drop (4 * t)) 4).toNat =
    ((shl32 (ex (bb.getD (4 * t) 0)) 24 ||| shl32 (ex (bb.getD (4 * t + 1) 0)) 16) ||| shl32 (ex (bb.getD (4 * t + 2) 0)) 8) ||| ex (bb.getD (4 * t + 3) 0) := by
  rw [beN, get4 _ (by rw [List.length_drop]; omega)]
  have e : ∀ k, (bb.drop (4 * t)).getD k 0 = bb.getD (4 * t + k) 0 := fun k => by simp [List.getD_eq_getElem?_getD, List.getElem?_drop]
  rw [e 0, e 1, e 2, e 3, Nat.add_zero]

/-! the schedule -/
theorem getD_set_eq {l : List UInt32} {i : Nat} {v : UInt32} (h : i < l.length) : (l.set i v).getD i 0 = v := by simp [List.getD_eq_getElem?_getD, h]
theorem getD_set_ne' {l : List UInt32} {i j : Nat} {v : UInt32} (h : i ≠ j) : (l.set i v).getD j 0 = l.getD j 0 := by simp [List.getD_eq_getElem?_getD, List.getElem?_set_ne h]
theorem rw1_keep (b : List UInt8) (i j : Nat) (hi : i ≤ 16) (hj : j < i) : (rw1 b i).getD j 0 = ((shl32 (ex (b.getD (4 * j) 0)) 24 ||| shl32 (ex (b.getD (4 * j + 1) 0)) 16) ||| shl32 (ex (b.getD (4 * j + 2) 0)) 8) ||| ex (b.getD (4 * j + 3) 0) := by
  induction i with
  | zero => omega
  | succ i ih =>
    rw [rw1]
    by_cases e : i = j
    · subst e; rw [getD_set_eq (by rw [rw1_len]; omega)]
    · rw [getD_set_ne' e]; exact ih (by omega) (by omega)
theorem rw2_step (b : List UInt8) (k j : Nat) (hj : j < 16 + k) : (rw2 b (k + 1)).getD j 0 = (rw2 b k).getD j 0 := by rw [rw2, getD_set_ne' (by omega)]
theorem rw2_keep (b : List UInt8) (m k j : Nat) (hj : j < 16 + k) : (rw2 b (k + m)).getD j 0 = (rw2 b k).getD j 0 := by
  induction m with
  | zero => rfl
  | succ m ih => rw [← Nat.add_assoc, rw2_step b (k + m) j (by omega), ih]
def Wf (b : List UInt8) (j : Nat) : UInt32 := (rw2 b 48).getD j 0
theorem Wf_lo (b : List UInt8) (j : Nat) (hj : j < 16) : Wf b j = ((shl32 (ex (b.getD (4 * j) 0)) 24 ||| shl32 (ex (b.getD (4 * j + 1) 0)) 16) ||| shl32 (ex (b.getD (4 * j + 2) 0)) 8) ||| ex (b.getD (4 * j + 3) 0) := by
  have h := rw2_keep b 48 0 j (by omega)
  rw [Nat.zero_add] at h
  rw [Wf, h]
  exact rw1_keep b 16 j (by omega) hj
theorem Wf_hi (b : List UInt8) (k : Nat) (hk : k < 48) : Wf b (16 + k) = ((Wf b k + Wf b (9 + k)) + ((rr32 (Wf b (1 + k)) 7 ^^^ rr32 (Wf b (1 + k)) 18) ^^^ shr32 (Wf b (1 + k)) 3)) + ((rr32 (Wf b (14 + k)) 17 ^^^ rr32 (Wf b (14 + k)) 19) ^^^ shr32 (Wf b (14 + k)) 10) := by
  have h1 := rw2_keep b (48 - (k + 1)) (k + 1) (16 + k) (by omega)
  rw [show k + 1 + (48 - (k + 1)) = 48 from by omega] at h1
  have h2 : ∀ j, j < 16 + k → (rw2 b k).getD j 0 = Wf b j := fun j hj => by
    have := rw2_keep b (48 - k) k j hj
    rw [show k + (48 - k) = 48 from by omega] at this
    exact this.symm
  rw [Wf, h1, rw2, getD_set_eq (by rw [rw2_len]; omega)]
  unfold rwN
  rw [h2 _ (by omega), h2 _ (by omega), h2 _ (by omega), h2 _ (by omega), show 16 + k - 16 = k from by omega, show 16 + k - 7 = 9 + k from by omega, show 16 + k - 15 = 1 + k from by omega, show 16 + k - 2 = 14 + k from by omega]
theorem wS_win (b : List UInt8) (hb : b.length = 64) (t : Nat) : t ≤ 64 → ∀ j, j < t → t ≤ j + 16 → (wS b t).getD (j % 16) 0 = Wf b j := by
  induction t with
  | zero => intro _ j hj; omega
  | succ t ih =>
    intro ht j hj hj2
    have ih' := ih (by omega)
    have hlen := wS_len b t
    rw [wS]
    by_cases h16 : t < 16
    · rw [nxtW, if_pos h16, nx0]
      by_cases e : j = t
      · subst e
        rw [getD_set_eq (by omega), be4 b j hb h16, Wf_lo b j h16]
      · rw [getD_set_ne' (by omega)]
        exact ih' j (by omega) (by omega)
    · obtain ⟨k, rfl⟩ : ∃ k, t = 16 + k := ⟨t - 16, by omega⟩
      rw [nxtW, if_neg h16, nx3]
      have l1 := nx1_len (wS b (16 + k)) (16 + k)
      have l2 := nx2_len (wS b (16 + k)) (16 + k)
      by_cases e : j = 16 + k
      · subst e
        have w0 : (wS b (16 + k)).getD ((16 + k) % 16) 0 = Wf b k := by
          rw [show (16 + k) % 16 = k % 16 from by omega]; exact ih' k (by omega) (by omega)
        have w1 : (wS b (16 + k)).getD ((16 + k + 1) % 16) 0 = Wf b (1 + k) := by
          rw [show (16 + k + 1) % 16 = (1 + k) % 16 from by omega]; exact ih' (1 + k) (by omega) (by omega)
        have w14 : (wS b (16 + k)).getD ((16 + k + 14) % 16) 0 = Wf b (14 + k) := by
          rw [show (16 + k + 14) % 16 = (14 + k) % 16 from by omega]; exact ih' (14 + k) (by omega) (by omega)
        have w9 : (wS b (16 + k)).getD ((16 + k + 9) % 16) 0 = Wf b (9 + k) := by
          rw [show (16 + k + 9) % 16 = (9 + k) % 16 from by omega]; exact ih' (9 + k) (by omega) (by omega)
        rw [getD_set_eq (by omega)]
        have e2 : (nx2 (wS b (16 + k)) (16 + k)).getD ((16 + k + 9) % 16) 0 = Wf b (9 + k) := by
          rw [nx2, getD_set_ne' (by omega), nx1, getD_set_ne' (by omega)]; exact w9
        have e3 : (nx2 (wS b (16 + k)) (16 + k)).getD ((16 + k) % 16) 0 = (Wf b k + ((rr32 (Wf b (1 + k)) 7 ^^^ rr32 (Wf b (1 + k)) 18) ^^^ shr32 (Wf b (1 + k)) 3)) + ((rr32 (Wf b (14 + k)) 17 ^^^ rr32 (Wf b (14 + k)) 19) ^^^ shr32 (Wf b (14 + k)) 10) := by
          rw [nx2, getD_set_eq (by omega), nx1, getD_set_eq (by omega), w0, w1, w14, d_7_18, d_17_19]
        rw [e2, e3, Wf_hi b k (by omega)]
        generalize Wf b k = x
        generalize Wf b (9 + k) = y
        generalize ((rr32 (Wf b (1 + k)) 7 ^^^ rr32 (Wf b (1 + k)) 18) ^^^ shr32 (Wf b (1 + k)) 3) = p
        generalize ((rr32 (Wf b (14 + k)) 17 ^^^ rr32 (Wf b (14 + k)) 19) ^^^ shr32 (Wf b (14 + k)) 10) = q
        rw [UInt32.add_assoc (x + p), UInt32.add_assoc x, UInt32.add_assoc (x + y), UInt32.add_assoc x, ← UInt32.add_assoc p q y, UInt32.add_comm (p + q) y]
      · rw [getD_set_ne' (by omega), nx2, getD_set_ne' (by omega), nx1, getD_set_ne' (by omega)]
        exact ih' j (by omega) (by omega)
theorem nv_Wf (b : List UInt8) (hb : b.length = 64) (t : Nat) (ht : t < 64) : nv b t = Wf b t := by
  have := wS_win b hb (t + 1) (by omega) t (by omega) (by omega)
  rw [wS] at this
  exact this

/-! the rounds -/
theorem list8 {l : List UInt32} (h : l.length = 8) : ∃ a b c d e f g i, l = [a, b, c, d, e, f, g, i] := by
  rcases l with _ | ⟨a, _ | ⟨b, _ | ⟨c, _ | ⟨d, _ | ⟨e, _ | ⟨f, _ | ⟨g, _ | ⟨i, _ | ⟨j, r⟩⟩⟩⟩⟩⟩⟩⟩⟩ <;> simp at h
  exact ⟨a, b, c, d, e, f, g, i, rfl⟩
theorem rnd_eq (l : List UInt32) (k w : UInt32) (h : l.length = 8) : rndP l k w = rRnd l k w := by
  have ep : rndPp l k w = rT l k w := by unfold rndPp rT; rw [d_6_11_25, chE]
  have eq : rndPq l = rU l := by unfold rndPq rU; rw [d_2_13_22, majE]
  unfold rndP
  rw [ep, eq]
  unfold rRnd
  generalize rT l k w = p
  generalize rU l = q
  obtain ⟨a, b, c, d, e, f, g, i, rfl⟩ := list8 h
  rfl
theorem aft_rL (h : List UInt32) (b : List UInt8) (hh : h.length = 8) (hb : b.length = 64) (i : Nat) (hi : i ≤ 64) : aft h b i = rL h b i := by
  induction i with
  | zero => rfl
  | succ i ih =>
    rw [aft, rL, ih (by omega), rnd_eq _ _ _ (rL_len h b hh i), nv_Wf b hb i (by omega)]
    rfl
theorem fin_rFin (h : List UInt32) (b : List UInt8) (hh : h.length = 8) (hb : b.length = 64) (i : Nat) : finT h b i = rFin h b i := by
  induction i with
  | zero => exact aft_rL h b hh hb 64 (Nat.le_refl _)
  | succ i ih => rw [finT, rFin, ih]
theorem after_rBlk (h : List UInt32) (b : List UInt8) (hh : h.length = 8) (hb : b.length = 64) : afterF h b = rBlk h b := fin_rFin h b hh hb 8

/-! the bytes -/
theorem xq_nat (x : UInt64) (k : Nat) : (xq x k).toNat = x.toNat / 256 ^ k := by
  induction k with
  | zero => simp [xq]
  | succ k ih => rw [xq, UInt64.toNat_div, ih, Nat.div_div_eq_div_mul, Nat.pow_succ]; rfl
theorem shr_nat (x : UInt64) (n : Nat) : (shr64 x n).toNat = x.toNat / 2 ^ n := by
  have := x.toNat_lt
  unfold shr64
  rw [UInt64.toNat_ofNat', Nat.mod_eq_of_lt (Nat.lt_of_le_of_lt (Nat.div_le_self _ _) this)]
theorem shr_nat32 (x : UInt32) (n : Nat) : (shr32 x n).toNat = x.toNat / 2 ^ n := by
  have := x.toNat_lt
  unfold shr32
  rw [UInt32.toNat_ofNat', Nat.mod_eq_of_lt (Nat.lt_of_le_of_lt (Nat.div_le_self _ _) this)]
theorem shr_xq (x : UInt64) (k : Nat) : (shr64 x (8 * k)).toNat = (xq x k).toNat := by
  rw [shr_nat, xq_nat, Nat.pow_mul]
theorem bTo_beF (x : UInt64) : bTo x 8 = beF x 8 := by
  have e : bTo x 8 = [UInt8.ofNat (shr64 x (8 * 7)).toNat, UInt8.ofNat (shr64 x (8 * 6)).toNat, UInt8.ofNat (shr64 x (8 * 5)).toNat, UInt8.ofNat (shr64 x (8 * 4)).toNat, UInt8.ofNat (shr64 x (8 * 3)).toNat, UInt8.ofNat (shr64 x (8 * 2)).toNat, UInt8.ofNat (shr64 x (8 * 1)).toNat, UInt8.ofNat (shr64 x (8 * 0)).toNat] := by rfl
  rw [e]
  simp only [shr_xq]
  rfl
theorem all_eq (M : List UInt8) : M ++ (padP M).flatten = rA M 8 := by
  unfold rA rP padP rBits kz
  rw [bTo_beF]
  simp [List.append_assoc]
theorem wrU_all {l vs : List UInt8} (h : vs.length = l.length) : wrL l 0 vs = vs := by simp [wrL, h]
theorem st_chunks (all : List UInt8) (j : Nat) (hj : 64 * j ≤ all.length) : ∃ buf, buf.length = 64 ∧ st (all.take (64 * j)) = ((Nat.rec iv (fun k h => rBlk h ((all.drop (64 * k)).take 64)) j : List UInt32), buf, 0) := by
  induction j with
  | zero => exact ⟨List.replicate 64 0, List.length_replicate, by unfold st; rfl⟩
  | succ j ih =>
    obtain ⟨buf, hbl, hs⟩ := ih (by omega)
    have hc : ((all.drop (64 * j)).take 64).length = 64 := by simp only [List.length_take, List.length_drop]; omega
    have hok := st_ok (all.take (64 * j))
    refine ⟨(all.drop (64 * j)).take 64, hc, ?_⟩
    · rw [show 64 * (j + 1) = 64 * j + 64 from by omega, List.take_add, st_append, abs_chunk _ _ hok (by rw [hs, hc]; exact Nat.le_refl _) (by rw [hc]; decide), hc, if_pos (by rw [hs])]
      have e1 : wrL (st (all.take (64 * j))).2.1 (st (all.take (64 * j))).2.2 ((all.drop (64 * j)).take 64) = (all.drop (64 * j)).take 64 := by
        rw [hs]; exact wrU_all (by rw [hc, hbl])
      rw [e1, after_rBlk _ _ hok.1 hc, hs]
theorem rH_rec (M : List UInt8) (j : Nat) : rH M j = (Nat.rec iv (fun k h => rBlk h (((rA M 8).drop (64 * k)).take 64)) j : List UInt32) := by
  induction j with
  | zero => rfl
  | succ j ih => rw [rH, ih]
theorem byte3 (a : UInt32) (k : Nat) (hk : k < 4) : UInt8.ofNat (shr32 a (24 - 8 * k)).toNat = UInt8.ofNat (xq (UInt64.ofNat a.toNat) (3 - k)).toNat := by
  have h := a.toNat_lt
  rw [shr_nat32, xq_nat, UInt64.toNat_ofNat', Nat.mod_eq_of_lt (by omega), show 24 - 8 * k = 8 * (3 - k) from by omega, Nat.pow_mul]
theorem hB_oTo (h : List UInt32) (hh : h.length = 8) : hB h 8 = oTo h 32 := by
  obtain ⟨a, b, c, d, e, f, g, i, rfl⟩ := list8 hh
  have k0 := fun x => byte3 x 0 (by decide)
  have k1 := fun x => byte3 x 1 (by decide)
  have k2 := fun x => byte3 x 2 (by decide)
  have k3 := fun x => byte3 x 3 (by decide)
  have e4 : ∀ x : UInt32, beF (UInt64.ofNat x.toNat) 4 = [UInt8.ofNat (shr32 x (24 - 8 * 0)).toNat, UInt8.ofNat (shr32 x (24 - 8 * 1)).toNat, UInt8.ofNat (shr32 x (24 - 8 * 2)).toNat, UInt8.ofNat (shr32 x (24 - 8 * 3)).toNat] := by
    intro x
    rw [k0, k1, k2, k3]
    rfl
  have e5 : hB [a, b, c, d, e, f, g, i] 8 = beF (UInt64.ofNat a.toNat) 4 ++ (beF (UInt64.ofNat b.toNat) 4 ++ (beF (UInt64.ofNat c.toNat) 4 ++ (beF (UInt64.ofNat d.toNat) 4 ++ (beF (UInt64.ofNat e.toNat) 4 ++ (beF (UInt64.ofNat f.toNat) 4 ++ (beF (UInt64.ofNat g.toNat) 4 ++ (beF (UInt64.ofNat i.toNat) 4 ++ []))))))) := rfl
  rw [e5, e4 a, e4 b, e4 c, e4 d, e4 e, e4 f, e4 g, e4 i]
  show _ = oTo [a, b, c, d, e, f, g, i] 32
  kernel_rfl
theorem refSha_eq (M : List UInt8) : refSha M = shaP M := by
  have h64 := rA_64 M
  obtain ⟨buf, _, hs⟩ := st_chunks (rA M 8) ((rA M 8).length / 64) (by omega)
  rw [show 64 * ((rA M 8).length / 64) = (rA M 8).length from by omega, List.take_length] at hs
  rw [shaP_eq, all_eq, hs, refSha, ← hB_oTo _ (rH_len M _), rH_rec]
end Go.Sl

/- The reference: numbers as bytes. -/
set_option linter.unusedVariables false
set_option linter.unusedSimpArgs false
namespace Go.Sl
open Go.Proofs

attribute [local irreducible] refSha
def rowR : UInt64 → Nat → List UInt8
  | _, 0 => []
  | x, k + 1 => rowR (x / 256) k ++ [UInt8.ofNat (x % 256).toNat]
theorem xq_shift (x : UInt64) (k : Nat) : xq (x / 256) k = xq x (k + 1) := by
  induction k with
  | zero => rfl
  | succ k ih => rw [xq, ih]; rfl
theorem rowR_eq (k : Nat) : ∀ x, rowR x k = beF x k := by
  induction k with
  | zero => intro x; rfl
  | succ k ih =>
    intro x
    rw [rowR, ih]
    have e0 : UInt8.ofNat (x % 256).toNat = UInt8.ofNat x.toNat := by
      apply UInt8.toNat_inj.1
      simp [UInt64.toNat_mod]
    have key : ∀ j, beF x (j + 1) = beF (x / 256) j ++ [UInt8.ofNat x.toNat] := by
      intro j
      induction j with
      | zero => rfl
      | succ j ihj => rw [beF, ihj, beF, xq_shift]; rfl
    rw [e0, key]
def longTo (n : List UInt64) : Nat → List UInt8
  | 0 => []
  | i + 1 => beF (n.getD i 0) 8 ++ longTo n i
theorem longTo_len (n : List UInt64) (i : Nat) : (longTo n i).length = 8 * i := by
  induction i with
  | zero => rfl
  | succ i ih => simp only [longTo, List.length_append, beF_len, ih]; omega
theorem longTo_all (n : List UInt64) : longTo n 4 = longF n := by simp [longTo, longF]
theorem padK_app (key : List UInt8) (h : key.length ≤ 64) : key ++ List.replicate (64 - key.length) 0 = padK key := by
  rw [padK_eq, wrL, List.take_zero, List.nil_append, Nat.zero_add, List.drop_replicate]
theorem xorK_take (k : List UInt8) (b : UInt8) (i : Nat) (h : i < k.length) : (xorK k b).take i ++ [k.getD i 0 ^^^ b] = (xorK k b).take (i + 1) := by
  rw [List.take_add_one]
  simp [xorK, List.getD_eq_getElem?_getD, h]


set_option maxRecDepth 100000 in
set_option maxHeartbeats 1000000 in
theorem Row0_c (x : UInt64) (S : HL) : CallS Tryz.prog 211 ⟨[u64 x, nI 0]⟩ S fun v S' => ∃ o, bufOk o (rowR x 0).length 1 ∧ v = bufV o (rowR x 0).length ∧ S' = bufH o ((rowR x 0).map u8) 5 ++ S := by
  refine CallS.enter Tryz.func211 rfl Tryz.ntmps211 (by simp) ?_
  refine CW.seq ?_
  refine CW.region (by kernel_rfl) ?_
  refine RL.q rfl rfl (QW.assign rfl) ?_
  refine RL.nil (thenN ?_)
  refine CW.seq ?_
  refine CW.seq ?_
  refine CW.region (by kernel_rfl) ?_
  refine RL.q rfl rfl (QW.move rfl) ?_
  refine RL.q rfl rfl (QW.lss (t := true) rfl rfl (by simp)) ?_
  refine RL.nil (thenN ?_)
  refine CW.cond_true rfl ?_
  refine CW.seq ?_
  refine CW.region (by kernel_rfl) ?_
  refine RL.q rfl rfl (QW.assign rfl) ?_
  refine RL.nil (thenN ?_)
  refine CW.ret (thenR (retR (S) (ResOk.one Tryz.results211 (ResV.tmp rfl)) (by repeat (first | exact List.Sublist.refl _ | (refine keepS ?_ ?_; with_reducible rfl) | (refine keepA ?_ ?_; with_reducible rfl) | (refine keepS ?_ ?_; rfl) | apply dropS | apply dropA)) ?_))
  exact ⟨none, rfl, rfl, rfl⟩

set_option maxRecDepth 100000 in
set_option maxHeartbeats 1000000 in
theorem RowS_c (x : UInt64) (k : Nat) (S : HL) (hk : k < 1000) (ih : ∀ (x : UInt64) (S : HL), CallS Tryz.prog 211 ⟨[u64 x, nI k]⟩ S fun v S' => ∃ o, bufOk o (rowR x k).length 1 ∧ v = bufV o (rowR x k).length ∧ S' = bufH o ((rowR x k).map u8) 5 ++ S) : CallS Tryz.prog 211 ⟨[u64 x, nI (k + 1)]⟩ S fun v S' => ∃ o, bufOk o (rowR x (k + 1)).length 1 ∧ v = bufV o (rowR x (k + 1)).length ∧ S' = bufH o ((rowR x (k + 1)).map u8) 5 ++ S := by
  refine CallS.enter Tryz.func211 rfl Tryz.ntmps211 (by simp) ?_
  refine CW.seq ?_
  refine CW.region (by kernel_rfl) ?_
  refine RL.q rfl rfl (QW.assign rfl) ?_
  refine RL.nil (thenN ?_)
  refine CW.seq ?_
  refine CW.seq ?_
  refine CW.region (by kernel_rfl) ?_
  refine RL.q rfl rfl (QW.move rfl) ?_
  refine RL.q rfl rfl (QW.lss (t := false) rfl rfl (by simp; omega)) ?_
  refine RL.nil (thenN ?_)
  refine CW.cond_false rfl ?_
  refine CW.skip (thenN ?_)
  refine CW.seq ?_
  refine CW.region (by kernel_rfl) ?_
  refine RL.q rfl rfl (QW.move rfl) ?_
  refine RL.q rfl rfl (QW.quo rfl rfl (by decide) (t64_quo _ 256)) ?_
  refine RL.q rfl rfl (QW.move rfl) ?_
  refine RL.q rfl rfl (QW.sub rfl rfl (wI_sub (a := _) (b := 1) (by omega) (by omega))) ?_
  refine RL.cons rfl (OW.call Tryz.call211 (ext2 rfl rfl) ((ih (x / 256) S).mono ?_))
  rintro v S' ⟨o, hbo, rfl, rfl⟩
  refine RL.q rfl rfl (QW.move rfl) ?_
  refine RL.q rfl rfl (QW.rem rfl rfl (by decide) (t64_rem _ 256)) ?_
  refine RL.q rfl rfl (QW.conv Tryz.runUnderlying47 Tryz.runUnderlying5 rfl (w8_nat _)) ?_
  refine RL.cons rfl (OW.buildSlice1 Tryz.runUnderlying23 Tryz.sizeOf5 zv5 rfl rfl rfl ?_)
  intro b15
  refine RL.cons rfl (OW.appB (ys := [UInt8.ofNat (x % 256).toNat]) Tryz.runUnderlying23 Tryz.runUnderlying23 (.inl ⟨_, rfl⟩) Tryz.typeInfo5 Tryz.sizeOf5 zv5 rfl rfl (by repeat (first | exact SegF.here | apply SegF.there | apply SegF.thereA)) hbo rfl (Src.rds (RdB.one List.mem_cons_self) rfl) rfl (by rw [rowR_eq, beF_len]; simp only [List.length_cons, List.length_nil]; omega) ?_)
  intro o' hbo2
  refine RL.q rfl rfl (QW.assign rfl) ?_
  refine RL.nil (thenN ?_)
  refine CW.ret (retR (bufH o' ((rowR x (k + 1)).map u8) 5 ++ S) (ResOk.one Tryz.results211 (ResV.tmp rfl)) (by repeat (first | exact List.Sublist.refl _ | (refine keepS ?_ ?_; with_reducible rfl) | (refine keepA ?_ ?_; with_reducible rfl) | (refine keepS ?_ ?_; rfl) | apply dropS | apply dropA)) ?_)
  exact ⟨o', hbo2, rfl, rfl⟩

theorem Row_c (k : Nat) (hk : k ≤ 1000) : ∀ (x : UInt64) (S : HL), CallS Tryz.prog 211 ⟨[u64 x, nI k]⟩ S fun v S' => ∃ o, bufOk o (beF x k).length 1 ∧ v = bufV o (beF x k).length ∧ S' = bufH o ((beF x k).map u8) 5 ++ S := by
  have key : ∀ k, k ≤ 1000 → ∀ (x : UInt64) (S : HL), CallS Tryz.prog 211 ⟨[u64 x, nI k]⟩ S fun v S' => ∃ o, bufOk o (rowR x k).length 1 ∧ v = bufV o (rowR x k).length ∧ S' = bufH o ((rowR x k).map u8) 5 ++ S := by
    intro k
    induction k with
    | zero => exact fun _ x S => Row0_c x S
    | succ k ih => exact fun h x S => RowS_c x k S (by omega) (ih (by omega))
  intro x S
  have := key k hk x S
  rw [rowR_eq] at this
  exact this

set_option maxRecDepth 100000 in
set_option maxHeartbeats 1000000 in
theorem behind_c (xs ys : List UInt8) (v1 v2 : Value) (S : HL) (hv : RdB S v1 xs) (hv2 : RdB S v2 ys) (hl : xs.length ≤ 10000000000) (hl2 : ys.length ≤ 10000000000) : CallS Tryz.prog 210 ⟨[v1, v2]⟩ S fun v S' => ∃ o, bufOk o (xs ++ ys).length 1 ∧ v = bufV o (xs ++ ys).length ∧ S' = bufH o ((xs ++ ys).map u8) 5 ++ S := by
  refine CallS.enter Tryz.func210 rfl Tryz.ntmps210 (by simp) ?_
  refine CW.seq ?_
  refine CW.region (by kernel_rfl) ?_
  refine RL.q rfl rfl (QW.assign rfl) ?_
  refine RL.nil (thenN ?_)
  refine CW.seq ?_
  refine CW.region (by kernel_rfl) ?_
  refine RL.q rfl rfl (QW.move rfl) ?_
  refine RL.cons rfl (OW.appB0 Tryz.runUnderlying23 Tryz.runUnderlying23 (.inl ⟨_, rfl⟩) Tryz.typeInfo5 Tryz.sizeOf5 zv5 rfl rfl rfl (Src.rds (hv.mono (fun p hp => by repeat (first | exact hp | refine List.mem_cons_of_mem _ ?_ | refine List.mem_append_right _ ?_))) rfl) rfl (by omega) ?_)
  intro o1 ho1
  refine RL.q rfl rfl (QW.move rfl) ?_
  refine RL.cons rfl (OW.appB Tryz.runUnderlying23 Tryz.runUnderlying23 (.inl ⟨_, rfl⟩) Tryz.typeInfo5 Tryz.sizeOf5 zv5 rfl rfl (by repeat (first | exact SegF.here | apply SegF.there | apply SegF.thereA)) ho1 rfl (Src.rds (hv2.mono (fun p hp => by repeat (first | exact hp | refine List.mem_cons_of_mem _ ?_ | refine List.mem_append_right _ ?_))) rfl) rfl (by omega) ?_)
  intro o2 ho2
  refine RL.q rfl rfl (QW.assign rfl) ?_
  refine RL.nil (thenN ?_)
  refine CW.ret (retR (bufH o2 ((xs ++ ys).map u8) 5 ++ S) (ResOk.one Tryz.results210 (ResV.tmp rfl)) (by repeat (first | exact List.Sublist.refl _ | (refine keepS ?_ ?_; with_reducible rfl) | (refine keepA ?_ ?_; with_reducible rfl) | (refine keepS ?_ ?_; rfl) | apply dropS | apply dropA)) ?_)
  exact ⟨o2, ho2, rfl, rfl⟩

set_option maxRecDepth 100000 in
set_option maxHeartbeats 1000000 in
theorem rPut_c (xs : List UInt8) (x : UInt64) (k : Nat) (v1 : Value) (S : HL) (hv : RdB S v1 xs) (hl : xs.length ≤ 10000000000) (hk : k ≤ 8) : CallS Tryz.prog 212 ⟨[v1, u64 x, nI k]⟩ S fun v S' => ∃ o, bufOk o (xs ++ beF x k).length 1 ∧ v = bufV o (xs ++ beF x k).length ∧ S' = bufH o ((xs ++ beF x k).map u8) 5 ++ S := by
  refine CallS.enter Tryz.func212 rfl Tryz.ntmps212 (by simp) ?_
  refine CW.seq ?_
  refine CW.region (by kernel_rfl) ?_
  refine RL.q rfl rfl (QW.assign rfl) ?_
  refine RL.nil (thenN ?_)
  refine CW.seq ?_
  refine CW.region (by kernel_rfl) ?_
  refine RL.q rfl rfl (QW.move rfl) ?_
  refine RL.q rfl rfl (QW.move rfl) ?_
  refine RL.q rfl rfl (QW.move rfl) ?_
  refine RL.q rfl rfl (QW.minE (b := 8) rfl rfl (show min k 8 = k by omega)) ?_
  refine RL.cons rfl (OW.call Tryz.call211 (ext2 rfl rfl) ((Row_c k (by omega) x S).mono ?_))
  rintro v S' ⟨o, hbo, rfl, rfl⟩
  refine RL.cons rfl (OW.call Tryz.call210 (ext2 rfl rfl) ((behind_c xs (beF x k) _ _ _ (hv.mono (fun p hp => by repeat (first | exact hp | refine List.mem_cons_of_mem _ ?_ | refine List.mem_append_right _ ?_))) (RdB.bufB hbo (fun p hp => List.mem_append_left _ hp)) hl (by rw [beF_len]; omega)).mono ?_))
  rintro v S' ⟨o2, ho2, rfl, rfl⟩
  refine RL.q rfl rfl (QW.assign rfl) ?_
  refine RL.nil (thenN ?_)
  refine CW.ret (retR (bufH o2 ((xs ++ beF x k).map u8) 5 ++ S) (ResOk.one Tryz.results212 (ResV.tmp rfl)) (by repeat (first | exact List.Sublist.refl _ | (refine keepS ?_ ?_; with_reducible rfl) | (refine keepA ?_ ?_; with_reducible rfl) | (refine keepS ?_ ?_; rfl) | apply dropS | apply dropA)) ?_)
  exact ⟨o2, ho2, rfl, rfl⟩

set_option maxRecDepth 100000 in
set_option maxHeartbeats 1000000 in
theorem rPutLong_c (xs : List UInt8) (nn : List UInt64) (v1 : Value) (S : HL) (hn : nn.length = 4) (hv : RdB S v1 xs) (hl : xs.length ≤ 10000000000) : CallS Tryz.prog 116 ⟨[v1, .agg ⟨nn.map u64⟩]⟩ S fun v S' => ∃ o, bufOk o (xs ++ longF nn).length 1 ∧ v = bufV o (xs ++ longF nn).length ∧ S' = bufH o ((xs ++ longF nn).map u8) 5 ++ S := by
  refine CallS.enter Tryz.func116 rfl Tryz.ntmps116 (by simp) ?_
  refine CW.seq ?_
  refine CW.region (by kernel_rfl) ?_
  refine RL.cons rfl (OW.boxN rfl ?_)
  intro b3
  refine RL.q rfl rfl (QW.assign rfl) ?_
  refine RL.nil (thenN ?_)
  refine CW.seq ?_
  refine CW.region (by kernel_rfl) ?_
  refine RL.q rfl rfl (QW.assign rfl) ?_
  refine RL.nil (thenN ?_)
  refine CW.seq ?_
  refine CW.seq ?_
  refine CW.region (by kernel_rfl) ?_
  refine RL.q rfl rfl (QW.assign rfl) ?_
  refine RL.nil (thenN ?_)
  refine CW.block ?_
  refine CW.loopT2 (α := Nat) (β := Option Buf) [(0, _), (3, _), (4, _)] (by repeat (first | exact leE_nil | refine leE_cons rfl ?_)) (fun i o => i ≤ 4 ∧ bufOk o (longTo nn i).length 1) (fun i o r => (6, nI i) :: (5, bufV o (longTo nn i).length) :: r) (fun i o => bufH o ((longTo nn i).map u8) 5 ++ ((b3, blk (nn.map u64) 49) :: S)) (fun i o => 4 - i) 0 none ⟨Nat.zero_le _, rfl⟩ (by repeat (first | exact leE_nil | refine leE_cons (by first | rfl | (rfl)) ?_)) (List.Sublist.refl _) ?_
  intro i o ⟨hI, hbo⟩
  have hll := longTo_len nn i
  refine CW.seq ?_
  refine CW.seq ?_
  refine CW.region (by kernel_rfl) ?_
  refine RL.q rfl rfl (QW.move rfl) ?_
  refine RL.q rfl rfl (QW.lss rfl rfl (dI_lt _ 4)) ?_
  refine RL.nil (thenN ?_)
  refine CW.cond rfl (fun hc0 => ?_) (fun hc0 => ?_)
  · have hi : i < 4 := by simpa using hc0
    refine CW.skip (thenN ?_)
    refine CW.seq ?_
    refine CW.block ?_
    refine CW.region (by kernel_rfl) ?_
    refine RL.q rfl rfl (QW.move rfl) ?_
    refine RL.q rfl rfl (QW.indexAddrA Tryz.runUnderlying49 Tryz.sizeOf47 rfl rfl (by omega) (by first | omega | exact lt8 _) (by first | exact ix01 _ | exact ixb1 _ _ | exact ix0m _ _ | exact ixbm _ _ _)) ?_
    refine RL.q rfl rfl (QW.load1 rfl Tryz.isAgg47 (by repeat (first | exact List.mem_cons_self | exact List.mem_cons_of_mem _ (by assumption) | assumption | refine List.mem_cons_of_mem _ ?_ | refine List.mem_append_right _ ?_)) (by first | (refine m_get 0 ?_; omega) | (refine m_get 0 ?_; simp only [*]; omega) | (refine m_get 0 ?_; simp only [List.length_set]; omega) | (refine m_get 0 (lt8L ?_); omega) | (refine m_get 0 (lt8B ?_); omega) | rfl)) ?_
    refine RL.cons rfl (OW.call Tryz.call211 (ext2 rfl rfl) ((Row_c 8 (by decide) (nn.getD i 0) _).mono ?_))
    rintro v S' ⟨o1, ho1, rfl, rfl⟩
    refine RL.q rfl rfl (QW.move rfl) ?_
    refine RL.cons rfl (OW.call Tryz.call210 (ext2 rfl rfl) ((behind_c (beF (nn.getD i 0) 8) (longTo nn i) _ _ _ (RdB.bufB ho1 (fun p hp => List.mem_append_left _ hp)) (RdB.bufB hbo (fun p hp => List.mem_append_right _ (List.mem_append_left _ hp))) (by rw [beF_len]; decide) (by omega)).mono ?_))
    rintro v S' ⟨o2, ho2, rfl, rfl⟩
    refine RL.q rfl rfl (QW.assign rfl) ?_
    refine RL.nil (blockN (thenN ?_))
    refine CW.region (by kernel_rfl) ?_
    refine RL.q rfl rfl (QW.move rfl) ?_
    refine RL.q rfl rfl (QW.add rfl rfl (wI_add (a := _) (b := 1) (by omega))) ?_
    refine RL.q rfl rfl (QW.assign rfl) ?_
    refine RL.nil (thenN ?_)
    refine ⟨i + 1, o2, (⟨by omega, ho2⟩), (by omega), ?_, ?_⟩
    · repeat (first | exact leE_nil | refine leE_cons rfl ?_)
    · exact keepA rfl (dropA (dropA (List.Sublist.refl _)))
  · have hi : i = 4 := by simp at hc0; omega
    subst hi
    refine CW.exit (thenX (thenX (blockX (thenN ?_))))
    refine CW.seq ?_
    refine CW.region (by kernel_rfl) ?_
    refine RL.q rfl rfl (QW.move rfl) ?_
    refine RL.q rfl rfl (QW.move rfl) ?_
    refine RL.cons rfl (OW.call Tryz.call210 (ext2 rfl rfl) ((behind_c xs (longTo nn 4) _ _ _ (hv.mono (fun p hp => by repeat (first | exact hp | refine List.mem_cons_of_mem _ ?_ | refine List.mem_append_right _ ?_))) (RdB.bufB hbo (fun p hp => List.mem_append_left _ hp)) hl (by omega)).mono ?_))
    rintro v S' ⟨o2, ho2, rfl, rfl⟩
    rw [longTo_all] at ho2 ⊢
    refine RL.q rfl rfl (QW.assign rfl) ?_
    refine RL.nil (thenN ?_)
    refine CW.ret (retR (bufH o2 ((xs ++ longF nn).map u8) 5 ++ S) (ResOk.one Tryz.results116 (ResV.tmp rfl)) (by repeat (first | exact List.Sublist.refl _ | (refine keepS ?_ ?_; with_reducible rfl) | (refine keepA ?_ ?_; with_reducible rfl) | (refine keepS ?_ ?_; rfl) | apply dropS | apply dropA)) ?_)
    exact ⟨o2, ho2, rfl, rfl⟩

end Go.Sl

/- The reference: macs.Of. -/
set_option linter.unusedVariables false
set_option linter.unusedSimpArgs false
namespace Go.Sl
open Go.Proofs

attribute [local irreducible] refSha
theorem buf_get {xs : List UInt8} {rest : List Value} {i : Nat} (h : i < xs.length) : (xs.map u8 ++ rest)[i]? = some (u8 (xs.getD i 0)) := by
  rw [List.getElem?_append_left (by simpa using h)]
  exact m_get 0 h
theorem flat_le (parts : List (List UInt8)) (i : Nat) : (parts.take i).flatten.length ≤ parts.flatten.length := by
  have h : parts = parts.take i ++ parts.drop i := (List.take_append_drop i parts).symm
  conv => rhs; rw [h, List.flatten_append, List.length_append]
  omega


set_option maxRecDepth 100000 in
set_option maxHeartbeats 1000000 in
theorem rMacOf_c (key : List UInt8) (parts : List (List UInt8)) (vk : Value) (gp off cp : Nat) (pv : List Value) (T : TypeId) (fr : Nat × Nat) (S : HL) (hk : RdB S vk key) (hkl : key.length ≤ 64) (hp : (gp, Obj.cells ⟨pv⟩ T fr) ∈ S) (hpv : ∀ i, i < parts.length → ∃ v, pv[off + i]? = some v ∧ RdS S v (parts.getD i [])) (hfl : parts.flatten.length ≤ 100000000) (hn : parts.length ≤ 1000) : CallS Tryz.prog 115 ⟨[vk, sl gp off parts.length cp]⟩ S fun v S' => v = .agg ⟨(hmacP key parts.flatten).map u8⟩ ∧ S = S' := by
  have hpkl := padK_len key hkl
  have hx1 := xorK_len (padK key) 54
  have hx2 := xorK_len (padK key) 92
  refine CallS.enter Tryz.func115 rfl Tryz.ntmps115 (by simp) ?_
  refine CW.seq ?_
  refine CW.region (by kernel_rfl) ?_
  refine RL.cons rfl (OW.alloc zv51 rfl ?_)
  intro b4
  refine RL.nil (thenN ?_)
  refine CW.seq ?_
  refine CW.region (by kernel_rfl) ?_
  refine RL.q rfl rfl (QW.move rfl) ?_
  refine RL.cons rfl (OW.appB0 Tryz.runUnderlying23 Tryz.runUnderlying23 (.inl ⟨_, rfl⟩) Tryz.typeInfo5 Tryz.sizeOf5 zv5 rfl rfl rfl (Src.rds (hk.mono (fun p hp => by repeat (first | exact hp | refine List.mem_cons_of_mem _ ?_ | refine List.mem_append_right _ ?_))) rfl) rfl (by omega) ?_)
  intro o1 ho1
  refine RL.q rfl rfl (QW.assign rfl) ?_
  refine RL.nil (thenN ?_)
  refine CW.seq ?_
  refine CW.seq ?_
  refine CW.region (by kernel_rfl) ?_
  refine RL.q rfl rfl (QW.move rfl) ?_
  refine RL.q rfl rfl (QW.len_buf ho1 Tryz.runUnderlying23 rfl) ?_
  refine RL.q rfl rfl (QW.gtr rfl rfl (dI_lt 64 _)) ?_
  refine RL.nil (thenN ?_)
  refine CW.cond rfl (fun hc0 => ?_) (fun hc0 => ?_)
  · exfalso; simp at hc0; omega
  · refine CW.skip (thenN ?_)
    refine CW.seq ?_
    refine CW.block ?_
    refine CW.loopT2 (α := Nat) (β := Option Buf) [(1, _), (4, _)] (by repeat (first | exact leE_nil | refine leE_cons rfl ?_)) (fun j o => key.length + j ≤ 64 ∧ bufOk o (key ++ List.replicate j 0).length 1) (fun j o r => (5, bufV o (key ++ List.replicate j 0).length) :: r) (fun j o => bufH o ((key ++ List.replicate j 0).map u8) 5 ++ ((b4, blk ((List.replicate 32 0).map u8) 51) :: S)) (fun j o => 64 - j) 0 o1 ⟨by omega, by simpa using ho1⟩ (by repeat (first | exact leE_nil | refine leE_cons (by first | rfl | (exact congrArg (fun l => some (bufV _ (List.length l))) (show key = key ++ List.replicate 0 0 from by simp))) ?_)) (by rw [List.replicate_zero, List.append_nil]; exact List.Sublist.refl _) ?_
    intro j o ⟨hI, hbo⟩
    have hlj : (key ++ List.replicate j 0).length = key.length + j := by simp
    refine CW.seq ?_
    refine CW.seq ?_
    refine CW.region (by kernel_rfl) ?_
    refine RL.q rfl rfl (QW.move rfl) ?_
    refine RL.q rfl rfl (QW.len_buf hbo Tryz.runUnderlying23 rfl) ?_
    refine RL.q rfl rfl (QW.lss rfl rfl (dI_lt _ 64)) ?_
    refine RL.nil (thenN ?_)
    refine CW.cond rfl (fun hc1 => ?_) (fun hc1 => ?_)
    · have hj : (key ++ List.replicate j 0).length < 64 := by simpa using hc1
      rw [hlj] at hj
      refine CW.skip (thenN ?_)
      refine CW.block ?_
      refine CW.region (by kernel_rfl) ?_
      refine RL.q rfl rfl (QW.move rfl) ?_
      refine RL.cons rfl (OW.buildSlice1 Tryz.runUnderlying23 Tryz.sizeOf5 zv5 rfl rfl rfl ?_)
      intro b25
      refine RL.cons rfl (OW.appB (ys := [0]) Tryz.runUnderlying23 Tryz.runUnderlying23 (.inl ⟨_, rfl⟩) Tryz.typeInfo5 Tryz.sizeOf5 zv5 rfl rfl (by repeat (first | exact SegF.here | apply SegF.there | apply SegF.thereA)) hbo rfl (Src.rds (RdB.one List.mem_cons_self) rfl) rfl (by rw [hlj]; simp only [List.length_cons, List.length_nil]; omega) ?_)
      intro o' hbo2
      rw [List.append_assoc, ← List.replicate_succ'] at hbo2 ⊢
      refine RL.q rfl rfl (QW.assign rfl) ?_
      refine RL.nil (blockN (thenN ?_))
      refine ⟨j + 1, o', (⟨by omega, hbo2⟩), (by omega), ?_, ?_⟩
      · repeat (first | exact leE_nil | refine leE_cons rfl ?_)
      · exact dropS (List.Sublist.refl _)
    · have hj : ¬ (key ++ List.replicate j 0).length < 64 := by simpa using hc1
      rw [hlj] at hj
      have hjj : j = 64 - key.length := by omega
      subst hjj
      rw [padK_app key hkl] at hbo ⊢
      obtain ⟨uk, rfl⟩ := hbo.some (by omega)
      refine CW.exit (thenX (thenX (blockX (thenN ?_))))
      refine CW.seq ?_
      refine CW.region (by kernel_rfl) ?_
      refine RL.q rfl rfl (QW.assign rfl) ?_
      refine RL.q rfl rfl (QW.assign rfl) ?_
      refine RL.nil (thenN ?_)
      refine CW.seq ?_
      refine CW.seq ?_
      refine CW.region (by kernel_rfl) ?_
      refine RL.q rfl rfl (QW.assign rfl) ?_
      refine RL.nil (thenN ?_)
      refine CW.block ?_
      refine CW.loopT3 (α := Nat) (β := Option Buf) (γ := Option Buf) [(1, _), (4, _), (5, _)] (by repeat (first | exact leE_nil | refine leE_cons rfl ?_)) (fun i oi oo => i ≤ 64 ∧ bufOk oi ((xorK (padK key) 54).take i).length 1 ∧ bufOk oo ((xorK (padK key) 92).take i).length 1) (fun i oi oo r => (9, nI i) :: (7, bufV oi ((xorK (padK key) 54).take i).length) :: (8, bufV oo ((xorK (padK key) 92).take i).length) :: r) (fun i oi oo => bufH oo (((xorK (padK key) 92).take i).map u8) 5 ++ (bufH oi (((xorK (padK key) 54).take i).map u8) 5 ++ (bufH (some uk) ((padK key).map u8) 5 ++ ((b4, blk ((List.replicate 32 0).map u8) 51) :: S)))) (fun i oi oo => 64 - i) 0 none none ⟨Nat.zero_le _, by rw [List.take_zero]; rfl, by rw [List.take_zero]; rfl⟩ (by repeat (first | exact leE_nil | refine leE_cons (by first | rfl | (rfl)) ?_)) (List.Sublist.refl _) ?_
      intro i oi oo ⟨hI, hbi, hbq⟩
      refine CW.seq ?_
      refine CW.seq ?_
      refine CW.region (by kernel_rfl) ?_
      refine RL.q rfl rfl (QW.move rfl) ?_
      refine RL.q rfl rfl (QW.lss rfl rfl (dI_lt _ 64)) ?_
      refine RL.nil (thenN ?_)
      refine CW.cond rfl (fun hc2 => ?_) (fun hc2 => ?_)
      · have hi : i < 64 := by simpa using hc2
        refine CW.skip (thenN ?_)
        refine CW.seq ?_
        refine CW.block ?_
        refine CW.seq ?_
        refine CW.region (by kernel_rfl) ?_
        refine RL.q rfl rfl (QW.move rfl) ?_
        refine RL.q rfl rfl (QW.move rfl) ?_
        refine RL.q rfl rfl (QW.move rfl) ?_
        refine RL.q rfl rfl (QW.indexAddrS Tryz.runUnderlying23 Tryz.sizeOf5 rfl rfl (by omega) (by first | omega | exact lt8 _) (by first | exact ix01 _ | exact ixb1 _ _ | exact ix0m _ _ | exact ixbm _ _ _)) ?_
        refine RL.q rfl rfl (QW.load1 rfl Tryz.isAgg5 (b := uk.b) (l := (padK key).map u8 ++ uk.rest) (T := 5) (fr := (0, 0)) (by repeat (first | exact List.mem_cons_self | refine List.mem_cons_of_mem _ ?_ | refine List.mem_append_right _ ?_)) (buf_get (by omega))) ?_
        refine RL.q rfl rfl (QW.xor_ rfl rfl (x8_xor _ 54)) ?_
        refine RL.cons rfl (OW.buildSlice1 Tryz.runUnderlying23 Tryz.sizeOf5 zv5 rfl rfl rfl ?_)
        intro b37
        refine RL.cons rfl (OW.appB (ys := [(padK key).getD i 0 ^^^ 54]) Tryz.runUnderlying23 Tryz.runUnderlying23 (.inl ⟨_, rfl⟩) Tryz.typeInfo5 Tryz.sizeOf5 zv5 rfl rfl (by repeat (first | exact SegF.here | apply SegF.there | apply SegF.thereA)) hbi rfl (Src.rds (RdB.one List.mem_cons_self) rfl) rfl (by simp only [List.length_take, List.length_cons, List.length_nil]; omega) ?_)
        intro oi' hbi2
        rw [xorK_take _ _ _ (by omega)] at hbi2 ⊢
        refine RL.q rfl rfl (QW.assign rfl) ?_
        refine RL.nil (thenN ?_)
        refine CW.region (by kernel_rfl) ?_
        refine RL.q rfl rfl (QW.move rfl) ?_
        refine RL.q rfl rfl (QW.move rfl) ?_
        refine RL.q rfl rfl (QW.move rfl) ?_
        refine RL.q rfl rfl (QW.indexAddrS Tryz.runUnderlying23 Tryz.sizeOf5 rfl rfl (by omega) (by first | omega | exact lt8 _) (by first | exact ix01 _ | exact ixb1 _ _ | exact ix0m _ _ | exact ixbm _ _ _)) ?_
        refine RL.q rfl rfl (QW.load1 rfl Tryz.isAgg5 (b := uk.b) (l := (padK key).map u8 ++ uk.rest) (T := 5) (fr := (0, 0)) (by repeat (first | exact List.mem_cons_self | refine List.mem_cons_of_mem _ ?_ | refine List.mem_append_right _ ?_)) (buf_get (by omega))) ?_
        refine RL.q rfl rfl (QW.xor_ rfl rfl (x8_xor _ 92)) ?_
        refine RL.cons rfl (OW.buildSlice1 Tryz.runUnderlying23 Tryz.sizeOf5 zv5 rfl rfl rfl ?_)
        intro b45
        refine RL.cons rfl (OW.appB (ys := [(padK key).getD i 0 ^^^ 92]) Tryz.runUnderlying23 Tryz.runUnderlying23 (.inl ⟨_, rfl⟩) Tryz.typeInfo5 Tryz.sizeOf5 zv5 rfl rfl (by repeat (first | exact SegF.here | apply SegF.there | apply SegF.thereA)) hbq rfl (Src.rds (RdB.one List.mem_cons_self) rfl) rfl (by simp only [List.length_take, List.length_cons, List.length_nil]; omega) ?_)
        intro oo' hbq2
        rw [xorK_take _ _ _ (by omega)] at hbq2 ⊢
        refine RL.q rfl rfl (QW.assign rfl) ?_
        refine RL.nil (blockN (thenN ?_))
        refine CW.region (by kernel_rfl) ?_
        refine RL.q rfl rfl (QW.move rfl) ?_
        refine RL.q rfl rfl (QW.add rfl rfl (wI_add (a := _) (b := 1) (by omega))) ?_
        refine RL.q rfl rfl (QW.assign rfl) ?_
        refine RL.nil (thenN ?_)
        refine ⟨i + 1, oi', oo', (⟨by omega, hbi2, hbq2⟩), (by omega), ?_, ?_⟩
        · repeat (first | exact leE_nil | refine leE_cons rfl ?_)
        · exact dropS (dropS (List.Sublist.refl _))
      · have hi : i = 64 := by simp at hc2; omega
        subst hi
        have ht1 : (xorK (padK key) 54).take 64 = (xorK (padK key) 54) := List.take_of_length_le (by omega)
        have ht2 : (xorK (padK key) 92).take 64 = (xorK (padK key) 92) := List.take_of_length_le (by omega)
        rw [ht1] at hbi ⊢
        rw [ht2] at hbq ⊢
        refine CW.exit (thenX (thenX (blockX (thenN ?_))))
        refine CW.seq ?_
        refine CW.seq ?_
        refine CW.region (by kernel_rfl) ?_
        refine RL.q rfl rfl (QW.assign rfl) ?_
        refine RL.nil (thenN ?_)
        refine CW.block ?_
        refine CW.loopT2 (α := Nat) (β := Option Buf) [(1, _), (4, _), (8, _)] (by repeat (first | exact leE_nil | refine leE_cons rfl ?_)) (fun i oi => i ≤ parts.length ∧ bufOk oi ((xorK (padK key) 54) ++ (parts.take i).flatten).length 1) (fun i oi r => (10, nI i) :: (7, bufV oi ((xorK (padK key) 54) ++ (parts.take i).flatten).length) :: r) (fun i oi => bufH oo ((xorK (padK key) 92).map u8) 5 ++ (bufH oi (((xorK (padK key) 54) ++ (parts.take i).flatten).map u8) 5 ++ ((b4, blk ((List.replicate 32 0).map u8) 51) :: S))) (fun i oi => parts.length - i) 0 oi ⟨Nat.zero_le _, by rw [List.take_zero, List.flatten_nil, List.append_nil]; exact hbi⟩ (by repeat (first | exact leE_nil | refine leE_cons (by first | rfl | (rw [List.take_zero, List.flatten_nil, List.append_nil]; rfl)) ?_)) (by rw [List.take_zero, List.flatten_nil, List.append_nil]; exact keepA rfl (keepA rfl (dropA (List.Sublist.refl _)))) ?_
        intro i oi ⟨hI, hbi⟩
        have hfl3 := flat_le parts i
        refine CW.seq ?_
        refine CW.seq ?_
        refine CW.region (by kernel_rfl) ?_
        refine RL.q rfl rfl (QW.move rfl) ?_
        refine RL.q rfl rfl (QW.move rfl) ?_
        refine RL.q rfl rfl (QW.len_s Tryz.runUnderlying83 rfl) ?_
        refine RL.q rfl rfl (QW.lss rfl rfl (dI_lt _ _)) ?_
        refine RL.nil (thenN ?_)
        refine CW.cond rfl (fun hc3 => ?_) (fun hc3 => ?_)
        · have hi : i < parts.length := by simpa using hc3
          obtain ⟨vi, hpvi, hvi⟩ := hpv i hi
          have hfs := flat_succ hi (xorK (padK key) 54)
          have hfl2 := flat_le parts (i + 1)
          have hfe := congrArg List.length hfs
          simp only [List.length_append] at hfe
          refine CW.skip (thenN ?_)
          refine CW.seq ?_
          refine CW.block ?_
          refine CW.region (by kernel_rfl) ?_
          refine RL.q rfl rfl (QW.move rfl) ?_
          refine RL.q rfl rfl (QW.move rfl) ?_
          refine RL.q rfl rfl (QW.move rfl) ?_
          refine RL.q rfl rfl (QW.indexAddrS Tryz.runUnderlying83 Tryz.sizeOf23 rfl rfl (by omega) (by first | omega | exact lt8 _) (by first | exact ix01 _ | exact ixb1 _ _ | exact ix0m _ _ | exact ixbm _ _ _)) ?_
          refine RL.q rfl rfl (QW.load1 rfl Tryz.isAgg23 (by repeat (first | exact hp | refine List.mem_cons_of_mem _ ?_ | refine List.mem_append_right _ ?_)) hpvi) ?_
          refine RL.cons rfl (OW.appB Tryz.runUnderlying23 Tryz.runUnderlying23 (.inl ⟨_, rfl⟩) Tryz.typeInfo5 Tryz.sizeOf5 zv5 rfl rfl (by repeat (first | exact SegF.here | apply SegF.there | apply SegF.thereA)) hbi rfl (Src.rds (hvi.1.mono (fun p hp => by repeat (first | exact hp | refine List.mem_cons_of_mem _ ?_ | refine List.mem_append_right _ ?_))) rfl) rfl (by simp only [List.length_append]; omega) ?_)
          intro oi' hbi2
          rw [hfs] at hbi2 ⊢
          refine RL.q rfl rfl (QW.assign rfl) ?_
          refine RL.nil (blockN (thenN ?_))
          refine CW.region (by kernel_rfl) ?_
          refine RL.q rfl rfl (QW.move rfl) ?_
          refine RL.q rfl rfl (QW.add rfl rfl (wI_add (a := _) (b := 1) (by omega))) ?_
          refine RL.q rfl rfl (QW.assign rfl) ?_
          refine RL.nil (thenN ?_)
          refine ⟨i + 1, oi', (⟨by omega, hbi2⟩), (by omega), ?_, ?_⟩
          · repeat (first | exact leE_nil | refine leE_cons rfl ?_)
          · exact List.Sublist.refl _
        · have hi : i = parts.length := by simp at hc3; omega
          subst hi
          rw [List.take_length] at hbi ⊢
          have hsl := shaP_len ((xorK (padK key) 54) ++ parts.flatten)
          rw [← refSha_eq] at hsl
          refine CW.exit (thenX (thenX (blockX (thenN ?_))))
          refine CW.seq ?_
          refine CW.region (by kernel_rfl) ?_
          refine RL.q rfl rfl (QW.move rfl) ?_
          refine RL.cons rfl (OW.call Tryz.call209 (ext1 rfl) ((rOf_c ((xorK (padK key) 54) ++ parts.flatten) _ _ (RdS.bufB hbi (fun p hp => List.mem_append_right _ (List.mem_append_left _ hp))) (by simp only [List.length_append]; omega)).mono ?_))
          rintro v S' ⟨rfl, rfl⟩
          refine RL.cons rfl (OW.alloc zv51 rfl ?_)
          intro b11
          refine RL.cons rfl (OW.storeN rfl rfl Tryz.sizeOf51 (by repeat (first | exact List.mem_cons_self | exact List.mem_cons_of_mem _ (by assumption) | assumption | refine List.mem_cons_of_mem _ ?_ | refine List.mem_append_right _ ?_)) (by first | (simp only [List.length_map, List.length_replicate, List.length_cons, List.length_nil, List.length_set, Nat.mul_one] <;> omega) | (simp [*] <;> omega)) (by first | exact m_all (fun _ => rfl) _ | rfl | (simp; done) | (simp only [List.all_cons, List.all_nil, oneB_buf, Bool.true_and, Bool.and_true]; rfl) | (simp [oneB]; done)) (by first | (simp only [List.length_map, List.length_replicate, List.length_cons, List.length_nil, List.length_set, Nat.mul_one] <;> omega) | (simp [*] <;> omega)) (by first | (refine wr_all ?_; simp only [List.length_map, List.length_replicate, List.length_cons, List.length_nil, List.length_set, Nat.mul_one] <;> omega) | (refine wr_all ?_; simp [*]; done) | exact m_wr _ _ _ | with_reducible rfl) (by repeat (first | exact Upd.head | apply Upd.tail | apply Upd.tailA)) ?_)
          refine RL.nil (thenN ?_)
          refine CW.seq ?_
          refine CW.region (by kernel_rfl) ?_
          refine RL.q rfl rfl (QW.move rfl) ?_
          refine RL.q rfl rfl (QW.sliceA0 Tryz.runUnderlying51 Tryz.sizeOf5 rfl optV_none optV_none (.inl rfl) (by first | omega | (dsimp only; omega)) (by first | omega | (dsimp only; omega))) ?_
          refine RL.cons rfl (OW.appB (xs := (xorK (padK key) 92)) Tryz.runUnderlying23 Tryz.runUnderlying23 (.inl ⟨_, rfl⟩) Tryz.typeInfo5 Tryz.sizeOf5 zv5 rfl rfl (by repeat (first | exact SegF.here | apply SegF.there | apply SegF.thereA)) hbq rfl (Src.rds (rdS_all (bs := refSha ((xorK (padK key) 54) ++ parts.flatten)) (b := b11) (T := 51) List.mem_cons_self hsl).1 hsl) hsl (by omega) ?_)
          intro oo' hbq2
          refine RL.cons rfl (OW.call Tryz.call209 (ext1 rfl) ((rOf_c ((xorK (padK key) 92) ++ refSha ((xorK (padK key) 54) ++ parts.flatten)) _ _ (RdS.bufB hbq2 (fun p hp => List.mem_cons_of_mem _ (List.mem_append_left _ hp))) (by rw [List.length_append, hsl]; omega)).mono ?_))
          rintro v S' ⟨rfl, rfl⟩
          have hsl2 := shaP_len ((xorK (padK key) 92) ++ refSha ((xorK (padK key) 54) ++ parts.flatten))
          rw [← refSha_eq] at hsl2
          refine RL.cons rfl (OW.storeN rfl rfl Tryz.sizeOf51 (by repeat (first | exact List.mem_cons_self | exact List.mem_cons_of_mem _ (by assumption) | assumption | refine List.mem_cons_of_mem _ ?_ | refine List.mem_append_right _ ?_)) (by first | (simp only [List.length_map, List.length_replicate, List.length_cons, List.length_nil, List.length_set, Nat.mul_one] <;> omega) | (simp [*] <;> omega)) (by first | exact m_all (fun _ => rfl) _ | rfl | (simp; done) | (simp only [List.all_cons, List.all_nil, oneB_buf, Bool.true_and, Bool.and_true]; rfl) | (simp [oneB]; done)) (by first | (simp only [List.length_map, List.length_replicate, List.length_cons, List.length_nil, List.length_set, Nat.mul_one] <;> omega) | (simp [*] <;> omega)) (by first | (refine wr_all ?_; simp only [List.length_map, List.length_replicate, List.length_cons, List.length_nil, List.length_set, Nat.mul_one] <;> omega) | (refine wr_all ?_; simp [*]; done) | exact m_wr _ _ _ | with_reducible rfl) (by repeat (first | exact Upd.head | apply Upd.tail | apply Upd.tailA)) ?_)
          refine RL.nil (thenN ?_)
          refine CW.ret (retR (S) (ResOk.one Tryz.results115 (ResV.cellN rfl Tryz.isAgg51 Tryz.sizeOf51 (by repeat (first | exact List.mem_cons_self | exact List.mem_cons_of_mem _ (by assumption) | assumption | refine List.mem_cons_of_mem _ ?_ | refine List.mem_append_right _ ?_)) (by first | (simp only [List.length_map, List.length_replicate, List.length_cons, List.length_nil, List.length_set, Nat.mul_one] <;> omega) | (simp [*] <;> omega)) (by first | (refine m_all_of _ _ ?_; omega) | (refine m_all_of _ _ ?_; simp [*]; done) | exact m_cut _ _ _ | with_reducible rfl))) (by repeat (first | exact List.Sublist.refl _ | (refine keepS ?_ ?_; with_reducible rfl) | (refine keepA ?_ ?_; with_reducible rfl) | (refine keepS ?_ ?_; rfl) | apply dropS | apply dropA)) ?_)
          exact ⟨by rw [hmacP_eq, refSha_eq, refSha_eq], rfl⟩

end Go.Sl
