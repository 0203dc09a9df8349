/- A part of a proof: the walk. -/
import Derived.Test.YtfljnclghjikdaaGreatDoorProg
import Derived.Test.YtfljnclghjikdaaGreatDoorR2
set_option linter.unusedVariables false
set_option linter.unusedSimpArgs false
namespace Go.Sl
open Go.Proofs

def sM (M : List UInt8) : List UInt8 := (M.drop 0).take 256
theorem sM_len {M : List UInt8} (hM : M.length = 512) : (sM M).length = 256 := by simp [sM, hM]
def rX0 (W b : List UInt8) : Nat → List UInt8
  | 0 => b
  | i + 1 => (rX0 W b i).set i ((rX0 W b i).getD i 0 ^^^ W.getD (i / 4 * 4 + i % 4) 0)
theorem rX0_len (W b : List UInt8) (i : Nat) : (rX0 W b i).length = b.length := by
  induction i with
  | zero => rfl
  | succ i ih => simp [rX0, ih]
def rS (M b : List UInt8) : Nat → List UInt8
  | 0 => List.replicate 16 0
  | i + 1 => (rS M b i).set i (M.getD (b.getD ((i + 4 * (i % 4)) % 16) 0).toNat 0)
@[simp] theorem rS_len (M b : List UInt8) (i : Nat) : (rS M b i).length = 16 := by
  induction i with
  | zero => exact List.length_replicate
  | succ i ih => simp [rS, ih]
def mx1 (c : List UInt8) (k : Nat) : List UInt8 := c.set (4 * k) (timesF (c.getD (4 * k) 0) 2 ^^^ timesF (c.getD (4 * k + 1) 0) 3 ^^^ c.getD (4 * k + 2) 0 ^^^ c.getD (4 * k + 3) 0)
def mx2 (c : List UInt8) (k : Nat) : List UInt8 := (mx1 c k).set (4 * k + 1) (c.getD (4 * k) 0 ^^^ timesF (c.getD (4 * k + 1) 0) 2 ^^^ timesF (c.getD (4 * k + 2) 0) 3 ^^^ c.getD (4 * k + 3) 0)
def mx3 (c : List UInt8) (k : Nat) : List UInt8 := (mx2 c k).set (4 * k + 2) (c.getD (4 * k) 0 ^^^ c.getD (4 * k + 1) 0 ^^^ timesF (c.getD (4 * k + 2) 0) 2 ^^^ timesF (c.getD (4 * k + 3) 0) 3)
def mx4 (c : List UInt8) (k : Nat) : List UInt8 := (mx3 c k).set (4 * k + 3) (timesF (c.getD (4 * k) 0) 3 ^^^ c.getD (4 * k + 1) 0 ^^^ c.getD (4 * k + 2) 0 ^^^ timesF (c.getD (4 * k + 3) 0) 2)
def rMx (c : List UInt8) : Nat → List UInt8
  | 0 => c
  | k + 1 => mx4 (rMx c k) k
theorem mx4_len (c : List UInt8) (k : Nat) : (mx4 c k).length = c.length := by simp [mx4, mx3, mx2, mx1]
theorem rMx_len (c : List UInt8) (k : Nat) : (rMx c k).length = c.length := by
  induction k with
  | zero => rfl
  | succ k ih => simp [rMx, mx4_len, ih]
def rMid (n : Nat) (c : List UInt8) : List UInt8 := if n < 10 then rMx c 4 else c
@[simp] theorem rMid_len (n : Nat) (c : List UInt8) : (rMid n c).length = c.length := by unfold rMid; split <;> simp [rMx_len]
def rAdd (W c : List UInt8) (n : Nat) (b : List UInt8) : Nat → List UInt8
  | 0 => b
  | i + 1 => (rAdd W c n b i).set i (c.getD i 0 ^^^ W.getD ((4 * n + i / 4) * 4 + i % 4) 0)
theorem rAdd_len (W c : List UInt8) (n : Nat) (b : List UInt8) (i : Nat) : (rAdd W c n b i).length = b.length := by
  induction i with
  | zero => rfl
  | succ i ih => simp [rAdd, ih]
def rRd (M W b : List UInt8) : Nat → List UInt8
  | 0 => rX0 W b 16
  | q + 1 => rAdd W (rMid (q + 1) (rS M (rRd M W b q) 16)) (q + 1) (rRd M W b q) 16
theorem rRd_len (M W b : List UInt8) (q : Nat) : (rRd M W b q).length = b.length := by
  cases q with
  | zero => exact rX0_len _ _ _
  | succ q => induction q with
    | zero => simp [rRd, rAdd_len, rX0_len]
    | succ q ih => simp only [rRd, rAdd_len] at ih ⊢; exact ih
def refF (M key b : List UInt8) : List UInt8 := rRd M (wordsF key (sM M)) b 10
@[simp] theorem refF_len (M key b : List UInt8) : (refF M key b).length = b.length := rRd_len _ _ _ _
theorem refF_eq (M key b : List UInt8) : refF M key b = rRd M (wordsF key (sM M)) b 10 := rfl
attribute [irreducible] refF rMid


set_option maxRecDepth 100000 in
theorem rBlock_c (M key b : List UInt8) (gb : Nat) (S : HL) (hm : (gb, blk (M.map u8) 190) ∈ S) (hM : M.length = 512) (hk0 : key.length = 16) (hb : b.length = 16) : CallS Tryz.prog 67 ⟨[ptr gb 0, .agg ⟨key.map u8⟩, .agg ⟨b.map u8⟩]⟩ S fun v S' => v = .agg ⟨(refF M key b).map u8⟩ ∧ S = S' := by
  refine CallS.enter Tryz.func67 rfl Tryz.ntmps67 (by simp) ?_
  refine CW.seq ?_
  refine CW.region (by kernel_rfl) ?_
  refine RL.cons rfl (OW.boxN rfl ?_)
  intro b4
  refine RL.cons rfl (OW.boxN rfl ?_)
  intro b5
  refine RL.cons rfl (OW.alloc zv22 rfl ?_)
  intro b6
  refine RL.nil (thenN ?_)
  refine CW.seqCutT (ι := Nat) [(0, _), (4, _), (5, _), (6, _)] (by repeat (first | exact leE_nil | refine leE_cons rfl ?_)) (fun b7 => True) (fun b7 r => (7, ptr b7 0) :: r) (fun b7 => (b7, blk ((wordsF key (sM M)).map u8) 191) :: (b6, blk ((List.replicate 16 0).map u8) 22) :: (b5, blk (b.map u8) 22) :: (b4, blk (key.map u8) 22) :: S) ?_ ?_
  · refine CW.drawnS 7 (by rw [mixed]; rfl) (by kernel_rfl) (by kernel_rfl) (by kernel_rfl) (fun _ _ _ h => h) ?_
    refine DL.take 0 rfl (by kernel_rfl) (by kernel_rfl) (by kernel_rfl) rfl rfl (QW.loadN rfl Tryz.isAgg22 Tryz.sizeOf22 (by repeat (first | exact List.mem_cons_self | exact List.mem_cons_of_mem _ (by assumption) | assumption | refine List.mem_cons_of_mem _ ?_ | refine List.mem_append_right _ ?_)) (by first | (simp only [List.length_map, List.length_replicate, List.length_cons, List.length_nil, List.length_set, Nat.mul_one] <;> omega) | (simp [*] <;> omega)) (by first | (refine m_all_of _ _ ?_; omega) | (refine m_all_of _ _ ?_; simp [*]; done) | exact m_cut _ _ _ | with_reducible rfl)) (by intro p hp; repeat (first | exact hp | refine List.mem_cons_of_mem _ ?_)) ?_
    refine DL.take 1 rfl (by kernel_rfl) (by kernel_rfl) (by kernel_rfl) rfl rfl (QW.move rfl) (by intro p hp; repeat (first | exact hp | refine List.mem_cons_of_mem _ ?_)) ?_
    refine DL.take 2 rfl (by kernel_rfl) (by kernel_rfl) (by kernel_rfl) rfl rfl (QW.nilCheck rfl) (by intro p hp; repeat (first | exact hp | refine List.mem_cons_of_mem _ ?_)) ?_
    refine DL.take 3 rfl (by kernel_rfl) (by kernel_rfl) (by kernel_rfl) rfl rfl (QW.fieldAddr Tryz.runUnderlying190 rfl Tryz.sizeOf177 (by decide) rfl (by first | exact fo0 0 | exact foB _ 0)) (by intro p hp; repeat (first | exact hp | refine List.mem_cons_of_mem _ ?_)) ?_
    refine DL.take 4 rfl (by kernel_rfl) (by kernel_rfl) (by kernel_rfl) rfl rfl (QW.loadN (r := (sM M).map u8) rfl Tryz.isAgg177 Tryz.sizeOf177 (by repeat (first | exact List.mem_cons_self | exact List.mem_cons_of_mem _ (by assumption) | assumption | refine List.mem_cons_of_mem _ ?_ | refine List.mem_append_right _ ?_)) (by first | (simp only [List.length_map, List.length_replicate, List.length_cons, List.length_nil, List.length_set, Nat.mul_one] <;> omega) | (simp [*] <;> omega)) (m_cut _ _ _)) (by intro p hp; repeat (first | exact hp | refine List.mem_cons_of_mem _ ?_)) ?_
    refine DL.two 5 6 (by kernel_rfl) rfl rfl rfl rfl ?_ ?_
    · refine OW.call Tryz.call171 (ext2 rfl rfl) ((words_c _ _ _ (by omega) (sM_len hM)).mono ?_)
      rintro v S' ⟨rfl, rfl⟩
      refine ⟨fun _ p hp => by repeat (first | exact hp | refine List.mem_cons_of_mem _ ?_), ?_⟩
      refine DL.one 6 (by kernel_rfl) rfl rfl (OW.alloc zv191 rfl ?_)
      intro b7
      refine ⟨fun _ p hp => by repeat (first | exact hp | refine List.mem_cons_of_mem _ ?_), ?_⟩
      refine DL.one 7 (by kernel_rfl) rfl rfl (OW.storeN rfl rfl Tryz.sizeOf191 (by repeat (first | exact List.mem_cons_self | exact List.mem_cons_of_mem _ (by assumption) | assumption | refine List.mem_cons_of_mem _ ?_ | refine List.mem_append_right _ ?_)) (by first | (simp only [List.length_map, List.length_replicate, List.length_cons, List.length_nil, List.length_set, Nat.mul_one] <;> omega) | (simp [*] <;> omega)) (by first | exact m_all (fun _ => rfl) _ | rfl | (simp; done) | (simp only [List.all_cons, List.all_nil, oneB_buf, Bool.true_and, Bool.and_true]; rfl) | (simp [oneB]; done)) (by first | (simp only [List.length_map, List.length_replicate, List.length_cons, List.length_nil, List.length_set, Nat.mul_one] <;> omega) | (simp [*] <;> omega)) (by first | (refine wr_all ?_; simp only [List.length_map, List.length_replicate, List.length_cons, List.length_nil, List.length_set, Nat.mul_one] <;> omega) | (refine wr_all ?_; simp [*]; done) | exact m_wr _ _ _ | with_reducible rfl) (by repeat (first | exact Upd.head | apply Upd.tail | apply Upd.tailA)) ?_)
      refine ⟨fun h => absurd rfl h, ?_⟩
      refine DL.done (by kernel_rfl) (thenN ?_)
      refine ⟨b7, (trivial), ?_, ?_⟩
      · repeat (first | exact leE_nil | refine leE_cons rfl ?_)
      · exact List.Sublist.refl _
    · refine OW.alloc zv191 rfl ?_
      intro b7
      refine ⟨fun _ p hp => by repeat (first | exact hp | refine List.mem_cons_of_mem _ ?_), ?_⟩
      refine DL.one 5 (by kernel_rfl) rfl rfl (OW.call Tryz.call171 (ext2 rfl rfl) ((words_c _ _ _ (by omega) (sM_len hM)).mono ?_))
      rintro v S' ⟨rfl, rfl⟩
      refine ⟨fun _ p hp => by repeat (first | exact hp | refine List.mem_cons_of_mem _ ?_), ?_⟩
      refine DL.one 7 (by kernel_rfl) rfl rfl (OW.storeN rfl rfl Tryz.sizeOf191 (by repeat (first | exact List.mem_cons_self | exact List.mem_cons_of_mem _ (by assumption) | assumption | refine List.mem_cons_of_mem _ ?_ | refine List.mem_append_right _ ?_)) (by first | (simp only [List.length_map, List.length_replicate, List.length_cons, List.length_nil, List.length_set, Nat.mul_one] <;> omega) | (simp [*] <;> omega)) (by first | exact m_all (fun _ => rfl) _ | rfl | (simp; done) | (simp only [List.all_cons, List.all_nil, oneB_buf, Bool.true_and, Bool.and_true]; rfl) | (simp [oneB]; done)) (by first | (simp only [List.length_map, List.length_replicate, List.length_cons, List.length_nil, List.length_set, Nat.mul_one] <;> omega) | (simp [*] <;> omega)) (by first | (refine wr_all ?_; simp only [List.length_map, List.length_replicate, List.length_cons, List.length_nil, List.length_set, Nat.mul_one] <;> omega) | (refine wr_all ?_; simp [*]; done) | exact m_wr _ _ _ | with_reducible rfl) (by repeat (first | exact Upd.head | apply Upd.tail | apply Upd.tailA)) ?_)
      refine ⟨fun h => absurd rfl h, ?_⟩
      refine DL.done (by kernel_rfl) (thenN ?_)
      refine ⟨b7, (trivial), ?_, ?_⟩
      · repeat (first | exact leE_nil | refine leE_cons rfl ?_)
      · exact List.Sublist.refl _
  · intro b7 _hI
    have hw : (wordsF key (sM M)).length = 176 := wordsF_len _ _
    refine CW.seq ?_
    refine CW.seq ?_
    refine CW.region (by kernel_rfl) ?_
    refine RL.q rfl rfl (QW.assign rfl) ?_
    refine RL.nil (thenN ?_)
    refine CW.block ?_
    refine CW.loopT (ι := Nat) [(0, _), (5, _), (6, _), (7, _)] (by repeat (first | exact leE_nil | refine leE_cons rfl ?_)) (fun i => i ≤ 16) (fun i r => (8, nI i) :: r) (fun i => (b7, blk ((wordsF key (sM M)).map u8) 191) :: (b6, blk ((List.replicate 16 0).map u8) 22) :: (b5, blk ((rX0 (wordsF key (sM M)) b i).map u8) 22) :: (b4, blk (key.map u8) 22) :: S) (fun i => 16 - i) 0 (by omega) (by repeat (first | exact leE_nil | refine leE_cons (by first | rfl | (rfl)) ?_)) (by repeat (first | exact List.Sublist.refl _ | (refine keepS ?_ ?_; with_reducible rfl) | (refine keepA ?_ ?_; with_reducible rfl) | (refine keepS ?_ ?_; rfl) | apply dropS | apply dropA)) ?_
    intro i hI
    have hl := rX0_len (wordsF key (sM M)) b i
    refine CW.seq ?_
    refine CW.seq ?_
    refine CW.region (by kernel_rfl) ?_
    refine RL.q rfl rfl (QW.move rfl) ?_
    refine RL.q rfl rfl (QW.lss rfl rfl (dI_lt _ 16)) ?_
    refine RL.nil (thenN ?_)
    refine CW.cond rfl (fun hc0 => ?_) (fun hc0 => ?_)
    · have hi : i < 16 := by simpa using hc0
      refine CW.skip (thenN ?_)
      refine CW.seq ?_
      refine CW.block ?_
      refine CW.drawnS 12 (by rw [mixed]; rfl) (by kernel_rfl) (by kernel_rfl) (by kernel_rfl) (fun _ _ _ h => h) ?_
      refine DL.take 0 rfl (by kernel_rfl) (by kernel_rfl) (by kernel_rfl) rfl rfl (QW.move rfl) (by intro p hp; repeat (first | exact hp | refine List.mem_cons_of_mem _ ?_)) ?_
      refine DL.take 1 rfl (by kernel_rfl) (by kernel_rfl) (by kernel_rfl) rfl rfl (QW.indexAddrA Tryz.runUnderlying22 Tryz.sizeOf5 rfl rfl (by omega) (by first | omega | exact lt8 _) (by first | exact ix01 _ | exact ixb1 _ _ | exact ix0m _ _ | exact ixbm _ _ _)) (by intro p hp; repeat (first | exact hp | refine List.mem_cons_of_mem _ ?_)) ?_
      refine DL.take 2 rfl (by kernel_rfl) (by kernel_rfl) (by kernel_rfl) rfl rfl (QW.load1 rfl Tryz.isAgg5 (by repeat (first | exact List.mem_cons_self | exact List.mem_cons_of_mem _ (by assumption) | assumption | refine List.mem_cons_of_mem _ ?_ | refine List.mem_append_right _ ?_)) (by first | (refine m_get 0 ?_; omega) | (refine m_get 0 ?_; simp only [*]; omega) | (refine m_get 0 ?_; simp only [List.length_set]; omega) | (refine m_get 0 (lt8L ?_); omega) | (refine m_get 0 (lt8B ?_); omega) | rfl)) (by intro p hp; repeat (first | exact hp | refine List.mem_cons_of_mem _ ?_)) ?_
      refine DL.take 3 rfl (by kernel_rfl) (by kernel_rfl) (by kernel_rfl) rfl rfl (QW.move rfl) (by intro p hp; repeat (first | exact hp | refine List.mem_cons_of_mem _ ?_)) ?_
      refine DL.take 4 rfl (by kernel_rfl) (by kernel_rfl) (by kernel_rfl) rfl rfl (QW.quo rfl rfl (by omega) (tI_quo _ 4 (by omega))) (by intro p hp; repeat (first | exact hp | refine List.mem_cons_of_mem _ ?_)) ?_
      refine DL.take 5 rfl (by kernel_rfl) (by kernel_rfl) (by kernel_rfl) rfl rfl (QW.move rfl) (by intro p hp; repeat (first | exact hp | refine List.mem_cons_of_mem _ ?_)) ?_
      refine DL.take 6 rfl (by kernel_rfl) (by kernel_rfl) (by kernel_rfl) rfl rfl (QW.rem rfl rfl (by omega) (tI_rem _ 4)) (by intro p hp; repeat (first | exact hp | refine List.mem_cons_of_mem _ ?_)) ?_
      refine DL.take 7 rfl (by kernel_rfl) (by kernel_rfl) (by kernel_rfl) rfl rfl (QW.indexAddrA Tryz.runUnderlying191 Tryz.sizeOf183 rfl rfl (by omega) (by first | omega | exact lt8 _) (by first | exact ix01 _ | exact ixb1 _ _ | exact ix0m _ _ | exact ixbm _ _ _)) (by intro p hp; repeat (first | exact hp | refine List.mem_cons_of_mem _ ?_)) ?_
      refine DL.take 8 rfl (by kernel_rfl) (by kernel_rfl) (by kernel_rfl) rfl rfl (QW.indexAddrA Tryz.runUnderlying183 Tryz.sizeOf5 rfl rfl (by omega) (by first | omega | exact lt8 _) (by first | exact ix01 _ | exact ixb1 _ _ | exact ix0m _ _ | exact ixbm _ _ _)) (by intro p hp; repeat (first | exact hp | refine List.mem_cons_of_mem _ ?_)) ?_
      refine DL.take 9 rfl (by kernel_rfl) (by kernel_rfl) (by kernel_rfl) rfl rfl (QW.load1 rfl Tryz.isAgg5 (by repeat (first | exact List.mem_cons_self | exact List.mem_cons_of_mem _ (by assumption) | assumption | refine List.mem_cons_of_mem _ ?_ | refine List.mem_append_right _ ?_)) (by first | (refine m_get 0 ?_; omega) | (refine m_get 0 ?_; simp only [*]; omega) | (refine m_get 0 ?_; simp only [List.length_set]; omega) | (refine m_get 0 (lt8L ?_); omega) | (refine m_get 0 (lt8B ?_); omega) | rfl)) (by intro p hp; repeat (first | exact hp | refine List.mem_cons_of_mem _ ?_)) ?_
      refine DL.take 10 rfl (by kernel_rfl) (by kernel_rfl) (by kernel_rfl) rfl rfl (QW.xor_ rfl rfl (x8_xor _ _)) (by intro p hp; repeat (first | exact hp | refine List.mem_cons_of_mem _ ?_)) ?_
      refine DL.take 11 rfl (by kernel_rfl) (by kernel_rfl) (by kernel_rfl) rfl rfl (QW.indexAddrA Tryz.runUnderlying22 Tryz.sizeOf5 rfl rfl (by omega) (by first | omega | exact lt8 _) (by first | exact ix01 _ | exact ixb1 _ _ | exact ix0m _ _ | exact ixbm _ _ _)) (by intro p hp; repeat (first | exact hp | refine List.mem_cons_of_mem _ ?_)) ?_
      refine DL.one 12 (by kernel_rfl) rfl rfl (OW.store1 rfl rfl Tryz.sizeOf5 rfl (by repeat (first | exact List.mem_cons_self | exact List.mem_cons_of_mem _ (by assumption) | assumption | refine List.mem_cons_of_mem _ ?_ | refine List.mem_append_right _ ?_)) (by first | (simp only [List.length_map, List.length_replicate, List.length_cons, List.length_nil, List.length_set, Nat.mul_one] <;> omega) | (rw [List.length_map]; refine lt8B ?_; simp [*]; done) | (rw [List.length_map]; refine lt8L ?_; simp [*]; done) | (simp [*] <;> omega)) (by first | exact m_set _ _ _ | rfl) (by repeat (first | exact Upd.head | apply Upd.tail | apply Upd.tailA)) ?_)
      refine ⟨fun h => absurd rfl h, ?_⟩
      refine DL.done (by kernel_rfl) (blockN (thenN ?_))
      refine CW.region (by kernel_rfl) ?_
      refine RL.q rfl rfl (QW.move rfl) ?_
      refine RL.q rfl rfl (QW.add rfl rfl (wI_add (a := _) (b := 1) (by omega))) ?_
      refine RL.q rfl rfl (QW.assign rfl) ?_
      refine RL.nil (thenN ?_)
      refine ⟨i + 1, (by omega), (by omega), ?_, ?_⟩
      · repeat (first | exact leE_nil | refine leE_cons rfl ?_)
      · exact List.Sublist.refl _
    · have hi : i = 16 := by simp at hc0; omega
      subst hi
      refine CW.exit (thenX (thenX (blockX (thenN ?_))))
      refine CW.seq ?_
      refine CW.seq ?_
      refine CW.region (by kernel_rfl) ?_
      refine RL.q rfl rfl (QW.assign rfl) ?_
      refine RL.nil (thenN ?_)
      refine CW.block ?_
      refine CW.loopT (ι := Nat) [(0, _), (5, _), (6, _), (7, _)] (by repeat (first | exact leE_nil | refine leE_cons rfl ?_)) (fun q => q ≤ 10) (fun q r => (9, nI (q + 1)) :: r) (fun q => (b7, blk ((wordsF key (sM M)).map u8) 191) :: (b6, blk ((List.replicate 16 0).map u8) 22) :: (b5, blk ((rRd M (wordsF key (sM M)) b q).map u8) 22) :: (b4, blk (key.map u8) 22) :: S) (fun q => 10 - q) 0 (by omega) (by repeat (first | exact leE_nil | refine leE_cons (by first | rfl | (rfl)) ?_)) (by repeat (first | exact List.Sublist.refl _ | (refine keepS ?_ ?_; with_reducible rfl) | (refine keepA ?_ ?_; with_reducible rfl) | (refine keepS ?_ ?_; rfl) | apply dropS | apply dropA)) ?_
      intro q hI
      have hl := rRd_len M (wordsF key (sM M)) b q
      refine CW.seq ?_
      refine CW.seq ?_
      refine CW.region (by kernel_rfl) ?_
      refine RL.q rfl rfl (QW.move rfl) ?_
      refine RL.q rfl rfl (QW.leq rfl rfl (dI_le _ 10)) ?_
      refine RL.nil (thenN ?_)
      refine CW.cond rfl (fun hc1 => ?_) (fun hc1 => ?_)
      · have hq : q < 10 := by simp at hc1; omega
        refine CW.skip (thenN ?_)
        refine CW.seq ?_
        refine CW.block ?_
        refine CW.seq ?_
        refine CW.region (by kernel_rfl) ?_
        refine RL.cons rfl (OW.alloc zv22 rfl ?_)
        intro b10
        refine RL.nil (thenN ?_)
        refine CW.seq ?_
        refine CW.seq ?_
        refine CW.region (by kernel_rfl) ?_
        refine RL.q rfl rfl (QW.assign rfl) ?_
        refine RL.nil (thenN ?_)
        refine CW.block ?_
        refine CW.loopT (ι := Nat) [(0, _), (5, _), (6, _), (7, _), (9, _), (10, _), (40, _), (41, _)] (by repeat (first | exact leE_nil | refine leE_cons rfl ?_)) (fun i => i ≤ 16) (fun i r => (11, nI i) :: r) (fun i => (b10, blk ((rS M (rRd M (wordsF key (sM M)) b q) i).map u8) 22) :: (b7, blk ((wordsF key (sM M)).map u8) 191) :: (b6, blk ((List.replicate 16 0).map u8) 22) :: (b5, blk ((rRd M (wordsF key (sM M)) b q).map u8) 22) :: (b4, blk (key.map u8) 22) :: S) (fun i => 16 - i) 0 (by omega) (by repeat (first | exact leE_nil | refine leE_cons (by first | rfl | (rfl)) ?_)) (by repeat (first | exact List.Sublist.refl _ | (refine keepS ?_ ?_; with_reducible rfl) | (refine keepA ?_ ?_; with_reducible rfl) | (refine keepS ?_ ?_; rfl) | apply dropS | apply dropA)) ?_
        intro i hI2
        have hl2 := rS_len M (rRd M (wordsF key (sM M)) b q) i
        refine CW.seq ?_
        refine CW.seq ?_
        refine CW.region (by kernel_rfl) ?_
        refine RL.q rfl rfl (QW.move rfl) ?_
        refine RL.q rfl rfl (QW.lss rfl rfl (dI_lt _ 16)) ?_
        refine RL.nil (thenN ?_)
        refine CW.cond rfl (fun hc2 => ?_) (fun hc2 => ?_)
        · have hi : i < 16 := by simpa using hc2
          refine CW.skip (thenN ?_)
          refine CW.seq ?_
          refine CW.block ?_
          refine CW.drawnS 15 (by rw [mixed]; rfl) (by kernel_rfl) (by kernel_rfl) (by kernel_rfl) (fun _ _ _ h => h) ?_
          refine DL.take 0 rfl (by kernel_rfl) (by kernel_rfl) (by kernel_rfl) rfl rfl (QW.move rfl) (by intro p hp; repeat (first | exact hp | refine List.mem_cons_of_mem _ ?_)) ?_
          refine DL.take 1 rfl (by kernel_rfl) (by kernel_rfl) (by kernel_rfl) rfl rfl (QW.move rfl) (by intro p hp; repeat (first | exact hp | refine List.mem_cons_of_mem _ ?_)) ?_
          refine DL.take 2 rfl (by kernel_rfl) (by kernel_rfl) (by kernel_rfl) rfl rfl (QW.move rfl) (by intro p hp; repeat (first | exact hp | refine List.mem_cons_of_mem _ ?_)) ?_
          refine DL.take 3 rfl (by kernel_rfl) (by kernel_rfl) (by kernel_rfl) rfl rfl (QW.move rfl) (by intro p hp; repeat (first | exact hp | refine List.mem_cons_of_mem _ ?_)) ?_
          refine DL.take 4 rfl (by kernel_rfl) (by kernel_rfl) (by kernel_rfl) rfl rfl (QW.rem rfl rfl (by omega) (tI_rem _ 4)) (by intro p hp; repeat (first | exact hp | refine List.mem_cons_of_mem _ ?_)) ?_
          refine DL.take 5 rfl (by kernel_rfl) (by kernel_rfl) (by kernel_rfl) rfl rfl (QW.mul rfl rfl (wI_mul (a := 4) (b := _) (by omega))) (by intro p hp; repeat (first | exact hp | refine List.mem_cons_of_mem _ ?_)) ?_
          refine DL.take 6 rfl (by kernel_rfl) (by kernel_rfl) (by kernel_rfl) rfl rfl (QW.add rfl rfl (wI_add (a := _) (b := _) (by omega))) (by intro p hp; repeat (first | exact hp | refine List.mem_cons_of_mem _ ?_)) ?_
          refine DL.take 7 rfl (by kernel_rfl) (by kernel_rfl) (by kernel_rfl) rfl rfl (QW.rem rfl rfl (by omega) (tI_rem _ 16)) (by intro p hp; repeat (first | exact hp | refine List.mem_cons_of_mem _ ?_)) ?_
          refine DL.take 8 rfl (by kernel_rfl) (by kernel_rfl) (by kernel_rfl) rfl rfl (QW.indexAddrA Tryz.runUnderlying22 Tryz.sizeOf5 rfl rfl (by omega) (by first | omega | exact lt8 _) (by first | exact ix01 _ | exact ixb1 _ _ | exact ix0m _ _ | exact ixbm _ _ _)) (by intro p hp; repeat (first | exact hp | refine List.mem_cons_of_mem _ ?_)) ?_
          refine DL.take 9 rfl (by kernel_rfl) (by kernel_rfl) (by kernel_rfl) rfl rfl (QW.load1 rfl Tryz.isAgg5 (by repeat (first | exact List.mem_cons_self | exact List.mem_cons_of_mem _ (by assumption) | assumption | refine List.mem_cons_of_mem _ ?_ | refine List.mem_append_right _ ?_)) (by first | (refine m_get 0 ?_; omega) | (refine m_get 0 ?_; simp only [*]; omega) | (refine m_get 0 ?_; simp only [List.length_set]; omega) | (refine m_get 0 (lt8L ?_); omega) | (refine m_get 0 (lt8B ?_); omega) | rfl)) (by intro p hp; repeat (first | exact hp | refine List.mem_cons_of_mem _ ?_)) ?_
          refine DL.take 10 rfl (by kernel_rfl) (by kernel_rfl) (by kernel_rfl) rfl rfl (QW.nilCheck rfl) (by intro p hp; repeat (first | exact hp | refine List.mem_cons_of_mem _ ?_)) ?_
          refine DL.take 11 rfl (by kernel_rfl) (by kernel_rfl) (by kernel_rfl) rfl rfl (QW.fieldAddr Tryz.runUnderlying190 rfl Tryz.sizeOf177 (by decide) rfl (by first | exact fo0 0 | exact foB _ 0)) (by intro p hp; repeat (first | exact hp | refine List.mem_cons_of_mem _ ?_)) ?_
          refine DL.take 12 rfl (by kernel_rfl) (by kernel_rfl) (by kernel_rfl) rfl rfl (QW.indexAddrA Tryz.runUnderlying177 Tryz.sizeOf5 rfl rfl (by omega) (by first | omega | exact lt8 _) (by first | exact ix01 _ | exact ixb1 _ _ | exact ix0m _ _ | exact ixbm _ _ _)) (by intro p hp; repeat (first | exact hp | refine List.mem_cons_of_mem _ ?_)) ?_
          refine DL.take 13 rfl (by kernel_rfl) (by kernel_rfl) (by kernel_rfl) rfl rfl (QW.load1 rfl Tryz.isAgg5 (by repeat (first | exact List.mem_cons_self | exact List.mem_cons_of_mem _ (by assumption) | assumption | refine List.mem_cons_of_mem _ ?_ | refine List.mem_append_right _ ?_)) (by first | (refine m_get 0 ?_; omega) | (refine m_get 0 ?_; simp only [*]; omega) | (refine m_get 0 ?_; simp only [List.length_set]; omega) | (refine m_get 0 (lt8L ?_); omega) | (refine m_get 0 (lt8B ?_); omega) | rfl)) (by intro p hp; repeat (first | exact hp | refine List.mem_cons_of_mem _ ?_)) ?_
          refine DL.take 14 rfl (by kernel_rfl) (by kernel_rfl) (by kernel_rfl) rfl rfl (QW.indexAddrA Tryz.runUnderlying22 Tryz.sizeOf5 rfl rfl (by omega) (by first | omega | exact lt8 _) (by first | exact ix01 _ | exact ixb1 _ _ | exact ix0m _ _ | exact ixbm _ _ _)) (by intro p hp; repeat (first | exact hp | refine List.mem_cons_of_mem _ ?_)) ?_
          refine DL.one 15 (by kernel_rfl) rfl rfl (OW.store1 rfl rfl Tryz.sizeOf5 rfl (by repeat (first | exact List.mem_cons_self | exact List.mem_cons_of_mem _ (by assumption) | assumption | refine List.mem_cons_of_mem _ ?_ | refine List.mem_append_right _ ?_)) (by first | (simp only [List.length_map, List.length_replicate, List.length_cons, List.length_nil, List.length_set, Nat.mul_one] <;> omega) | (rw [List.length_map]; refine lt8B ?_; simp [*]; done) | (rw [List.length_map]; refine lt8L ?_; simp [*]; done) | (simp [*] <;> omega)) (by first | exact m_set _ _ _ | rfl) (by repeat (first | exact Upd.head | apply Upd.tail | apply Upd.tailA)) ?_)
          refine ⟨fun h => absurd rfl h, ?_⟩
          refine DL.done (by kernel_rfl) (blockN (thenN ?_))
          refine CW.region (by kernel_rfl) ?_
          refine RL.q rfl rfl (QW.move rfl) ?_
          refine RL.q rfl rfl (QW.add rfl rfl (wI_add (a := _) (b := 1) (by omega))) ?_
          refine RL.q rfl rfl (QW.assign rfl) ?_
          refine RL.nil (thenN ?_)
          refine ⟨i + 1, (by omega), (by omega), ?_, ?_⟩
          · repeat (first | exact leE_nil | refine leE_cons rfl ?_)
          · exact List.Sublist.refl _
        · have hi : i = 16 := by simp at hc2; omega
          subst hi
          refine CW.exit (thenX (thenX (blockX (thenN ?_))))
          refine CW.seqCutT (ι := Unit) [(0, _), (5, _), (6, _), (7, _), (9, _), (10, _), (11, _), (40, _), (41, _), (44, _), (45, _)] (by repeat (first | exact leE_nil | refine leE_cons rfl ?_)) (fun _u => True) (fun _u r => r) (fun _u => (b10, blk ((rMid (q + 1) (rS M (rRd M (wordsF key (sM M)) b q) 16)).map u8) 22) :: (b7, blk ((wordsF key (sM M)).map u8) 191) :: (b6, blk ((List.replicate 16 0).map u8) 22) :: (b5, blk ((rRd M (wordsF key (sM M)) b q).map u8) 22) :: (b4, blk (key.map u8) 22) :: S) ?_ ?_
          · refine CW.seq ?_
            refine CW.region (by kernel_rfl) ?_
            refine RL.q rfl rfl (QW.assign rfl) ?_
            refine RL.nil (thenN ?_)
            refine CW.block ?_
            refine CW.loopT (ι := Nat) [(0, _), (5, _), (6, _), (7, _), (9, _), (10, _), (11, _), (40, _), (41, _), (44, _), (45, _)] (by repeat (first | exact leE_nil | refine leE_cons rfl ?_)) (fun k => k ≤ 4 ∧ (¬ q + 1 < 10 → k = 0)) (fun k r => (12, nI k) :: r) (fun k => (b10, blk ((rMx (rS M (rRd M (wordsF key (sM M)) b q) 16) k).map u8) 22) :: (b7, blk ((wordsF key (sM M)).map u8) 191) :: (b6, blk ((List.replicate 16 0).map u8) 22) :: (b5, blk ((rRd M (wordsF key (sM M)) b q).map u8) 22) :: (b4, blk (key.map u8) 22) :: S) (fun k => 4 - k) 0 ⟨by omega, fun _ => rfl⟩ (by repeat (first | exact leE_nil | refine leE_cons (by first | rfl | (rfl)) ?_)) (by repeat (first | exact List.Sublist.refl _ | (refine keepS ?_ ?_; with_reducible rfl) | (refine keepA ?_ ?_; with_reducible rfl) | (refine keepS ?_ ?_; rfl) | apply dropS | apply dropA)) ?_
            intro k hI3
            obtain ⟨h3, h4⟩ := hI3
            have hl3 := rMx_len (rS M (rRd M (wordsF key (sM M)) b q) 16) k
            have hl4 := rS_len M (rRd M (wordsF key (sM M)) b q) 16
            refine CW.seq ?_
            refine CW.seq ?_
            refine CW.region (by kernel_rfl) ?_
            refine RL.q rfl rfl (QW.move rfl) ?_
            refine RL.q rfl rfl (QW.lss rfl rfl (dI_lt _ 4)) ?_
            refine RL.q rfl rfl (QW.move rfl) ?_
            cases hs15_3 : decide (k < 4)
            · first | (refine RL.guard_no rfl rfl rfl rfl rfl ?_) | (refine RL.guard_yes rfl rfl rfl rfl (OW.q rfl (QW.move rfl) ?_))
              first | (refine RL.guard_no rfl rfl rfl rfl rfl ?_) | (refine RL.guard_yes rfl rfl rfl rfl (OW.q rfl (QW.lss rfl rfl (dI_lt _ 10)) ?_))
              refine RL.q rfl rfl ((by first | exact QW.pick_t rfl rfl | exact QW.pick_f rfl rfl)) ?_
              refine RL.nil (thenN ?_)
              have hk : k = 4 := by simp at hs15_3; omega
              subst hk
              have hn : q + 1 < 10 := by
                  by_cases hn : q + 1 < 10
                  · exact hn
                  · exact absurd (h4 hn) (by decide)
              have hmid : rMx (rS M (rRd M (wordsF key (sM M)) b q) 16) 4 = rMid (q + 1) (rS M (rRd M (wordsF key (sM M)) b q) 16) := by unfold rMid; rw [if_pos hn]
              refine CW.cond_false rfl ?_
              refine CW.exit (thenX (thenX (blockX (thenN ?_))))
              refine ⟨(), (trivial), ?_, ?_⟩
              · repeat (first | exact leE_nil | refine leE_cons rfl ?_)
              · exact keepS (by rw [hmid]) (List.Sublist.refl _)
            · first | (refine RL.guard_no rfl rfl rfl rfl rfl ?_) | (refine RL.guard_yes rfl rfl rfl rfl (OW.q rfl (QW.move rfl) ?_))
              first | (refine RL.guard_no rfl rfl rfl rfl rfl ?_) | (refine RL.guard_yes rfl rfl rfl rfl (OW.q rfl (QW.lss rfl rfl (dI_lt _ 10)) ?_))
              refine RL.q rfl rfl ((by first | exact QW.pick_t rfl rfl | exact QW.pick_f rfl rfl)) ?_
              refine RL.nil (thenN ?_)
              refine CW.cond rfl (fun hc3 => ?_) (fun hc3 => ?_)
              · have hk : k < 4 := by simpa using hs15_3
                have hn : q + 1 < 10 := by simpa using hc3
                refine CW.skip (thenN ?_)
                refine CW.seq ?_
                refine CW.block ?_
                refine CW.seq ?_
                refine CW.drawnS 23 (by rw [mixed]; rfl) (by kernel_rfl) (by kernel_rfl) (by kernel_rfl) (fun _ _ _ h => h) ?_
                refine DL.take 0 rfl (by kernel_rfl) (by kernel_rfl) (by kernel_rfl) rfl rfl (QW.move rfl) (by intro p hp; repeat (first | exact hp | refine List.mem_cons_of_mem _ ?_)) ?_
                refine DL.take 1 rfl (by kernel_rfl) (by kernel_rfl) (by kernel_rfl) rfl rfl (QW.mul rfl rfl (wI_mul (a := 4) (b := _) (by omega))) (by intro p hp; repeat (first | exact hp | refine List.mem_cons_of_mem _ ?_)) ?_
                refine DL.take 2 rfl (by kernel_rfl) (by kernel_rfl) (by kernel_rfl) rfl rfl (QW.indexAddrA Tryz.runUnderlying22 Tryz.sizeOf5 rfl rfl (by omega) (by first | omega | exact lt8 _) (by first | exact ix01 _ | exact ixb1 _ _ | exact ix0m _ _ | exact ixbm _ _ _)) (by intro p hp; repeat (first | exact hp | refine List.mem_cons_of_mem _ ?_)) ?_
                refine DL.take 3 rfl (by kernel_rfl) (by kernel_rfl) (by kernel_rfl) rfl rfl (QW.load1 rfl Tryz.isAgg5 (by repeat (first | exact List.mem_cons_self | exact List.mem_cons_of_mem _ (by assumption) | assumption | refine List.mem_cons_of_mem _ ?_ | refine List.mem_append_right _ ?_)) (by first | (refine m_get 0 ?_; omega) | (refine m_get 0 ?_; simp only [*]; omega) | (refine m_get 0 ?_; simp only [List.length_set]; omega) | (refine m_get 0 (lt8L ?_); omega) | (refine m_get 0 (lt8B ?_); omega) | rfl)) (by intro p hp; repeat (first | exact hp | refine List.mem_cons_of_mem _ ?_)) ?_
                refine DL.take 4 rfl (by kernel_rfl) (by kernel_rfl) (by kernel_rfl) rfl rfl (QW.move rfl) (by intro p hp; repeat (first | exact hp | refine List.mem_cons_of_mem _ ?_)) ?_
                refine DL.take 5 rfl (by kernel_rfl) (by kernel_rfl) (by kernel_rfl) rfl rfl (QW.mul rfl rfl (wI_mul (a := 4) (b := _) (by omega))) (by intro p hp; repeat (first | exact hp | refine List.mem_cons_of_mem _ ?_)) ?_
                refine DL.take 6 rfl (by kernel_rfl) (by kernel_rfl) (by kernel_rfl) rfl rfl (QW.add rfl rfl (wI_add (a := _) (b := 1) (by omega))) (by intro p hp; repeat (first | exact hp | refine List.mem_cons_of_mem _ ?_)) ?_
                refine DL.take 7 rfl (by kernel_rfl) (by kernel_rfl) (by kernel_rfl) rfl rfl (QW.indexAddrA Tryz.runUnderlying22 Tryz.sizeOf5 rfl rfl (by omega) (by first | omega | exact lt8 _) (by first | exact ix01 _ | exact ixb1 _ _ | exact ix0m _ _ | exact ixbm _ _ _)) (by intro p hp; repeat (first | exact hp | refine List.mem_cons_of_mem _ ?_)) ?_
                refine DL.take 8 rfl (by kernel_rfl) (by kernel_rfl) (by kernel_rfl) rfl rfl (QW.load1 rfl Tryz.isAgg5 (by repeat (first | exact List.mem_cons_self | exact List.mem_cons_of_mem _ (by assumption) | assumption | refine List.mem_cons_of_mem _ ?_ | refine List.mem_append_right _ ?_)) (by first | (refine m_get 0 ?_; omega) | (refine m_get 0 ?_; simp only [*]; omega) | (refine m_get 0 ?_; simp only [List.length_set]; omega) | (refine m_get 0 (lt8L ?_); omega) | (refine m_get 0 (lt8B ?_); omega) | rfl)) (by intro p hp; repeat (first | exact hp | refine List.mem_cons_of_mem _ ?_)) ?_
                refine DL.take 9 rfl (by kernel_rfl) (by kernel_rfl) (by kernel_rfl) rfl rfl (QW.move rfl) (by intro p hp; repeat (first | exact hp | refine List.mem_cons_of_mem _ ?_)) ?_
                refine DL.take 10 rfl (by kernel_rfl) (by kernel_rfl) (by kernel_rfl) rfl rfl (QW.mul rfl rfl (wI_mul (a := 4) (b := _) (by omega))) (by intro p hp; repeat (first | exact hp | refine List.mem_cons_of_mem _ ?_)) ?_
                refine DL.take 11 rfl (by kernel_rfl) (by kernel_rfl) (by kernel_rfl) rfl rfl (QW.add rfl rfl (wI_add (a := _) (b := 2) (by omega))) (by intro p hp; repeat (first | exact hp | refine List.mem_cons_of_mem _ ?_)) ?_
                refine DL.take 12 rfl (by kernel_rfl) (by kernel_rfl) (by kernel_rfl) rfl rfl (QW.indexAddrA Tryz.runUnderlying22 Tryz.sizeOf5 rfl rfl (by omega) (by first | omega | exact lt8 _) (by first | exact ix01 _ | exact ixb1 _ _ | exact ix0m _ _ | exact ixbm _ _ _)) (by intro p hp; repeat (first | exact hp | refine List.mem_cons_of_mem _ ?_)) ?_
                refine DL.take 13 rfl (by kernel_rfl) (by kernel_rfl) (by kernel_rfl) rfl rfl (QW.load1 rfl Tryz.isAgg5 (by repeat (first | exact List.mem_cons_self | exact List.mem_cons_of_mem _ (by assumption) | assumption | refine List.mem_cons_of_mem _ ?_ | refine List.mem_append_right _ ?_)) (by first | (refine m_get 0 ?_; omega) | (refine m_get 0 ?_; simp only [*]; omega) | (refine m_get 0 ?_; simp only [List.length_set]; omega) | (refine m_get 0 (lt8L ?_); omega) | (refine m_get 0 (lt8B ?_); omega) | rfl)) (by intro p hp; repeat (first | exact hp | refine List.mem_cons_of_mem _ ?_)) ?_
                refine DL.take 14 rfl (by kernel_rfl) (by kernel_rfl) (by kernel_rfl) rfl rfl (QW.move rfl) (by intro p hp; repeat (first | exact hp | refine List.mem_cons_of_mem _ ?_)) ?_
                refine DL.take 15 rfl (by kernel_rfl) (by kernel_rfl) (by kernel_rfl) rfl rfl (QW.mul rfl rfl (wI_mul (a := 4) (b := _) (by omega))) (by intro p hp; repeat (first | exact hp | refine List.mem_cons_of_mem _ ?_)) ?_
                refine DL.take 16 rfl (by kernel_rfl) (by kernel_rfl) (by kernel_rfl) rfl rfl (QW.add rfl rfl (wI_add (a := _) (b := 3) (by omega))) (by intro p hp; repeat (first | exact hp | refine List.mem_cons_of_mem _ ?_)) ?_
                refine DL.take 17 rfl (by kernel_rfl) (by kernel_rfl) (by kernel_rfl) rfl rfl (QW.indexAddrA Tryz.runUnderlying22 Tryz.sizeOf5 rfl rfl (by omega) (by first | omega | exact lt8 _) (by first | exact ix01 _ | exact ixb1 _ _ | exact ix0m _ _ | exact ixbm _ _ _)) (by intro p hp; repeat (first | exact hp | refine List.mem_cons_of_mem _ ?_)) ?_
                refine DL.take 18 rfl (by kernel_rfl) (by kernel_rfl) (by kernel_rfl) rfl rfl (QW.load1 rfl Tryz.isAgg5 (by repeat (first | exact List.mem_cons_self | exact List.mem_cons_of_mem _ (by assumption) | assumption | refine List.mem_cons_of_mem _ ?_ | refine List.mem_append_right _ ?_)) (by first | (refine m_get 0 ?_; omega) | (refine m_get 0 ?_; simp only [*]; omega) | (refine m_get 0 ?_; simp only [List.length_set]; omega) | (refine m_get 0 (lt8L ?_); omega) | (refine m_get 0 (lt8B ?_); omega) | rfl)) (by intro p hp; repeat (first | exact hp | refine List.mem_cons_of_mem _ ?_)) ?_
                refine DL.take 19 rfl (by kernel_rfl) (by kernel_rfl) (by kernel_rfl) rfl rfl (QW.assign rfl) (by intro p hp; repeat (first | exact hp | refine List.mem_cons_of_mem _ ?_)) ?_
                refine DL.take 20 rfl (by kernel_rfl) (by kernel_rfl) (by kernel_rfl) rfl rfl (QW.assign rfl) (by intro p hp; repeat (first | exact hp | refine List.mem_cons_of_mem _ ?_)) ?_
                refine DL.take 21 rfl (by kernel_rfl) (by kernel_rfl) (by kernel_rfl) rfl rfl (QW.assign rfl) (by intro p hp; repeat (first | exact hp | refine List.mem_cons_of_mem _ ?_)) ?_
                refine DL.take 22 rfl (by kernel_rfl) (by kernel_rfl) (by kernel_rfl) rfl rfl (QW.assign rfl) (by intro p hp; repeat (first | exact hp | refine List.mem_cons_of_mem _ ?_)) ?_
                refine DL.done (by kernel_rfl) (thenN ?_)
                refine CW.seq ?_
                refine CW.region (by kernel_rfl) ?_
                refine RL.q rfl rfl (QW.move rfl) ?_
                refine RL.q rfl rfl (QW.mul rfl rfl (wI_mul (a := 4) (b := _) (by omega))) ?_
                refine RL.q rfl rfl (QW.move rfl) ?_
                refine RL.cons rfl (OW.call Tryz.call172 (ext2 rfl rfl) ((times_c _ (UInt8.ofNat 2) _).mono ?_))
                rintro v S' ⟨rfl, rfl⟩
                refine RL.q rfl rfl (QW.move rfl) ?_
                refine RL.cons rfl (OW.call Tryz.call172 (ext2 rfl rfl) ((times_c _ (UInt8.ofNat 3) _).mono ?_))
                rintro v S' ⟨rfl, rfl⟩
                refine RL.q rfl rfl (QW.xor_ rfl rfl (x8_xor _ _)) ?_
                refine RL.q rfl rfl (QW.move rfl) ?_
                refine RL.q rfl rfl (QW.xor_ rfl rfl (x8_xor _ _)) ?_
                refine RL.q rfl rfl (QW.move rfl) ?_
                refine RL.q rfl rfl (QW.xor_ rfl rfl (x8_xor _ _)) ?_
                refine RL.q rfl rfl (QW.indexAddrA Tryz.runUnderlying22 Tryz.sizeOf5 rfl rfl (by omega) (by first | omega | exact lt8 _) (by first | exact ix01 _ | exact ixb1 _ _ | exact ix0m _ _ | exact ixbm _ _ _)) ?_
                refine RL.cons rfl (OW.store1 rfl rfl Tryz.sizeOf5 rfl (by repeat (first | exact List.mem_cons_self | exact List.mem_cons_of_mem _ (by assumption) | assumption | refine List.mem_cons_of_mem _ ?_ | refine List.mem_append_right _ ?_)) (by first | (simp only [List.length_map, List.length_replicate, List.length_cons, List.length_nil, List.length_set, Nat.mul_one] <;> omega) | (rw [List.length_map]; refine lt8B ?_; simp [*]; done) | (rw [List.length_map]; refine lt8L ?_; simp [*]; done) | (simp [*] <;> omega)) (by first | exact m_set _ _ _ | rfl) (by repeat (first | exact Upd.head | apply Upd.tail | apply Upd.tailA)) ?_)
                refine RL.nil (thenN ?_)
                refine CW.seq ?_
                refine CW.region (by kernel_rfl) ?_
                refine RL.q rfl rfl (QW.move rfl) ?_
                refine RL.q rfl rfl (QW.mul rfl rfl (wI_mul (a := 4) (b := _) (by omega))) ?_
                refine RL.q rfl rfl (QW.add rfl rfl (wI_add (a := _) (b := 1) (by omega))) ?_
                refine RL.q rfl rfl (QW.move rfl) ?_
                refine RL.q rfl rfl (QW.move rfl) ?_
                refine RL.cons rfl (OW.call Tryz.call172 (ext2 rfl rfl) ((times_c _ (UInt8.ofNat 2) _).mono ?_))
                rintro v S' ⟨rfl, rfl⟩
                refine RL.q rfl rfl (QW.xor_ rfl rfl (x8_xor _ _)) ?_
                refine RL.q rfl rfl (QW.move rfl) ?_
                refine RL.cons rfl (OW.call Tryz.call172 (ext2 rfl rfl) ((times_c _ (UInt8.ofNat 3) _).mono ?_))
                rintro v S' ⟨rfl, rfl⟩
                refine RL.q rfl rfl (QW.xor_ rfl rfl (x8_xor _ _)) ?_
                refine RL.q rfl rfl (QW.move rfl) ?_
                refine RL.q rfl rfl (QW.xor_ rfl rfl (x8_xor _ _)) ?_
                refine RL.q rfl rfl (QW.indexAddrA Tryz.runUnderlying22 Tryz.sizeOf5 rfl rfl (by omega) (by first | omega | exact lt8 _) (by first | exact ix01 _ | exact ixb1 _ _ | exact ix0m _ _ | exact ixbm _ _ _)) ?_
                refine RL.cons rfl (OW.store1 rfl rfl Tryz.sizeOf5 rfl (by repeat (first | exact List.mem_cons_self | exact List.mem_cons_of_mem _ (by assumption) | assumption | refine List.mem_cons_of_mem _ ?_ | refine List.mem_append_right _ ?_)) (by first | (simp only [List.length_map, List.length_replicate, List.length_cons, List.length_nil, List.length_set, Nat.mul_one] <;> omega) | (rw [List.length_map]; refine lt8B ?_; simp [*]; done) | (rw [List.length_map]; refine lt8L ?_; simp [*]; done) | (simp [*] <;> omega)) (by first | exact m_set _ _ _ | rfl) (by repeat (first | exact Upd.head | apply Upd.tail | apply Upd.tailA)) ?_)
                refine RL.nil (thenN ?_)
                refine CW.seq ?_
                refine CW.region (by kernel_rfl) ?_
                refine RL.q rfl rfl (QW.move rfl) ?_
                refine RL.q rfl rfl (QW.mul rfl rfl (wI_mul (a := 4) (b := _) (by omega))) ?_
                refine RL.q rfl rfl (QW.add rfl rfl (wI_add (a := _) (b := 2) (by omega))) ?_
                refine RL.q rfl rfl (QW.move rfl) ?_
                refine RL.q rfl rfl (QW.move rfl) ?_
                refine RL.q rfl rfl (QW.xor_ rfl rfl (x8_xor _ _)) ?_
                refine RL.q rfl rfl (QW.move rfl) ?_
                refine RL.cons rfl (OW.call Tryz.call172 (ext2 rfl rfl) ((times_c _ (UInt8.ofNat 2) _).mono ?_))
                rintro v S' ⟨rfl, rfl⟩
                refine RL.q rfl rfl (QW.xor_ rfl rfl (x8_xor _ _)) ?_
                refine RL.q rfl rfl (QW.move rfl) ?_
                refine RL.cons rfl (OW.call Tryz.call172 (ext2 rfl rfl) ((times_c _ (UInt8.ofNat 3) _).mono ?_))
                rintro v S' ⟨rfl, rfl⟩
                refine RL.q rfl rfl (QW.xor_ rfl rfl (x8_xor _ _)) ?_
                refine RL.q rfl rfl (QW.indexAddrA Tryz.runUnderlying22 Tryz.sizeOf5 rfl rfl (by omega) (by first | omega | exact lt8 _) (by first | exact ix01 _ | exact ixb1 _ _ | exact ix0m _ _ | exact ixbm _ _ _)) ?_
                refine RL.cons rfl (OW.store1 rfl rfl Tryz.sizeOf5 rfl (by repeat (first | exact List.mem_cons_self | exact List.mem_cons_of_mem _ (by assumption) | assumption | refine List.mem_cons_of_mem _ ?_ | refine List.mem_append_right _ ?_)) (by first | (simp only [List.length_map, List.length_replicate, List.length_cons, List.length_nil, List.length_set, Nat.mul_one] <;> omega) | (rw [List.length_map]; refine lt8B ?_; simp [*]; done) | (rw [List.length_map]; refine lt8L ?_; simp [*]; done) | (simp [*] <;> omega)) (by first | exact m_set _ _ _ | rfl) (by repeat (first | exact Upd.head | apply Upd.tail | apply Upd.tailA)) ?_)
                refine RL.nil (thenN ?_)
                refine CW.region (by kernel_rfl) ?_
                refine RL.q rfl rfl (QW.move rfl) ?_
                refine RL.q rfl rfl (QW.mul rfl rfl (wI_mul (a := 4) (b := _) (by omega))) ?_
                refine RL.q rfl rfl (QW.add rfl rfl (wI_add (a := _) (b := 3) (by omega))) ?_
                refine RL.q rfl rfl (QW.move rfl) ?_
                refine RL.cons rfl (OW.call Tryz.call172 (ext2 rfl rfl) ((times_c _ (UInt8.ofNat 3) _).mono ?_))
                rintro v S' ⟨rfl, rfl⟩
                refine RL.q rfl rfl (QW.move rfl) ?_
                refine RL.q rfl rfl (QW.xor_ rfl rfl (x8_xor _ _)) ?_
                refine RL.q rfl rfl (QW.move rfl) ?_
                refine RL.q rfl rfl (QW.xor_ rfl rfl (x8_xor _ _)) ?_
                refine RL.q rfl rfl (QW.move rfl) ?_
                refine RL.cons rfl (OW.call Tryz.call172 (ext2 rfl rfl) ((times_c _ (UInt8.ofNat 2) _).mono ?_))
                rintro v S' ⟨rfl, rfl⟩
                refine RL.q rfl rfl (QW.xor_ rfl rfl (x8_xor _ _)) ?_
                refine RL.q rfl rfl (QW.indexAddrA Tryz.runUnderlying22 Tryz.sizeOf5 rfl rfl (by omega) (by first | omega | exact lt8 _) (by first | exact ix01 _ | exact ixb1 _ _ | exact ix0m _ _ | exact ixbm _ _ _)) ?_
                refine RL.cons rfl (OW.store1 rfl rfl Tryz.sizeOf5 rfl (by repeat (first | exact List.mem_cons_self | exact List.mem_cons_of_mem _ (by assumption) | assumption | refine List.mem_cons_of_mem _ ?_ | refine List.mem_append_right _ ?_)) (by first | (simp only [List.length_map, List.length_replicate, List.length_cons, List.length_nil, List.length_set, Nat.mul_one] <;> omega) | (rw [List.length_map]; refine lt8B ?_; simp [*]; done) | (rw [List.length_map]; refine lt8L ?_; simp [*]; done) | (simp [*] <;> omega)) (by first | exact m_set _ _ _ | rfl) (by repeat (first | exact Upd.head | apply Upd.tail | apply Upd.tailA)) ?_)
                refine RL.nil (blockN (thenN ?_))
                refine CW.region (by kernel_rfl) ?_
                refine RL.q rfl rfl (QW.move rfl) ?_
                refine RL.q rfl rfl (QW.add rfl rfl (wI_add (a := _) (b := 1) (by omega))) ?_
                refine RL.q rfl rfl (QW.assign rfl) ?_
                refine RL.nil (thenN ?_)
                refine ⟨k + 1, (⟨by omega, fun h => absurd hn h⟩), (by omega), ?_, ?_⟩
                · repeat (first | exact leE_nil | refine leE_cons rfl ?_)
                · exact List.Sublist.refl _
              · have hn : ¬ q + 1 < 10 := by simpa using hc3
                have hk := h4 hn
                subst hk
                have hmid : rMx (rS M (rRd M (wordsF key (sM M)) b q) 16) 0 = rMid (q + 1) (rS M (rRd M (wordsF key (sM M)) b q) 16) := by unfold rMid; rw [if_neg hn]; rfl
                refine CW.exit (thenX (thenX (blockX (thenN ?_))))
                refine ⟨(), (trivial), ?_, ?_⟩
                · repeat (first | exact leE_nil | refine leE_cons rfl ?_)
                · exact keepS (by rw [hmid]) (List.Sublist.refl _)
          · intro _u _hI
            have hc16 : (rMid (q + 1) (rS M (rRd M (wordsF key (sM M)) b q) 16)).length = 16 := by simp
            refine CW.seq ?_
            refine CW.region (by kernel_rfl) ?_
            refine RL.q rfl rfl (QW.assign rfl) ?_
            refine RL.nil (thenN ?_)
            refine CW.block ?_
            refine CW.loopT (ι := Nat) [(0, _), (5, _), (6, _), (7, _), (9, _), (10, _), (11, _), (40, _), (41, _), (44, _), (45, _)] (by repeat (first | exact leE_nil | refine leE_cons rfl ?_)) (fun i => i ≤ 16) (fun i r => (17, nI i) :: r) (fun i => (b10, blk ((rMid (q + 1) (rS M (rRd M (wordsF key (sM M)) b q) 16)).map u8) 22) :: (b7, blk ((wordsF key (sM M)).map u8) 191) :: (b6, blk ((List.replicate 16 0).map u8) 22) :: (b5, blk ((rAdd (wordsF key (sM M)) (rMid (q + 1) (rS M (rRd M (wordsF key (sM M)) b q) 16)) (q + 1) (rRd M (wordsF key (sM M)) b q) i).map u8) 22) :: (b4, blk (key.map u8) 22) :: S) (fun i => 16 - i) 0 (by omega) (by repeat (first | exact leE_nil | refine leE_cons (by first | rfl | (rfl)) ?_)) (by repeat (first | exact List.Sublist.refl _ | (refine keepS ?_ ?_; with_reducible rfl) | (refine keepA ?_ ?_; with_reducible rfl) | (refine keepS ?_ ?_; rfl) | apply dropS | apply dropA)) ?_
            intro i hI4
            have hl5 := rAdd_len (wordsF key (sM M)) (rMid (q + 1) (rS M (rRd M (wordsF key (sM M)) b q) 16)) (q + 1) (rRd M (wordsF key (sM M)) b q) i
            refine CW.seq ?_
            refine CW.seq ?_
            refine CW.region (by kernel_rfl) ?_
            refine RL.q rfl rfl (QW.move rfl) ?_
            refine RL.q rfl rfl (QW.lss rfl rfl (dI_lt _ 16)) ?_
            refine RL.nil (thenN ?_)
            refine CW.cond rfl (fun hc4 => ?_) (fun hc4 => ?_)
            · have hi : i < 16 := by simpa using hc4
              refine CW.skip (thenN ?_)
              refine CW.seq ?_
              refine CW.block ?_
              refine CW.drawnS 16 (by rw [mixed]; rfl) (by kernel_rfl) (by kernel_rfl) (by kernel_rfl) (fun _ _ _ h => h) ?_
              refine DL.take 0 rfl (by kernel_rfl) (by kernel_rfl) (by kernel_rfl) rfl rfl (QW.move rfl) (by intro p hp; repeat (first | exact hp | refine List.mem_cons_of_mem _ ?_)) ?_
              refine DL.take 1 rfl (by kernel_rfl) (by kernel_rfl) (by kernel_rfl) rfl rfl (QW.move rfl) (by intro p hp; repeat (first | exact hp | refine List.mem_cons_of_mem _ ?_)) ?_
              refine DL.take 2 rfl (by kernel_rfl) (by kernel_rfl) (by kernel_rfl) rfl rfl (QW.indexAddrA Tryz.runUnderlying22 Tryz.sizeOf5 rfl rfl (by omega) (by first | omega | exact lt8 _) (by first | exact ix01 _ | exact ixb1 _ _ | exact ix0m _ _ | exact ixbm _ _ _)) (by intro p hp; repeat (first | exact hp | refine List.mem_cons_of_mem _ ?_)) ?_
              refine DL.take 3 rfl (by kernel_rfl) (by kernel_rfl) (by kernel_rfl) rfl rfl (QW.load1 rfl Tryz.isAgg5 (by repeat (first | exact List.mem_cons_self | exact List.mem_cons_of_mem _ (by assumption) | assumption | refine List.mem_cons_of_mem _ ?_ | refine List.mem_append_right _ ?_)) (by first | (refine m_get 0 ?_; omega) | (refine m_get 0 ?_; simp only [*]; omega) | (refine m_get 0 ?_; simp only [List.length_set]; omega) | (refine m_get 0 (lt8L ?_); omega) | (refine m_get 0 (lt8B ?_); omega) | rfl)) (by intro p hp; repeat (first | exact hp | refine List.mem_cons_of_mem _ ?_)) ?_
              refine DL.take 4 rfl (by kernel_rfl) (by kernel_rfl) (by kernel_rfl) rfl rfl (QW.move rfl) (by intro p hp; repeat (first | exact hp | refine List.mem_cons_of_mem _ ?_)) ?_
              refine DL.take 5 rfl (by kernel_rfl) (by kernel_rfl) (by kernel_rfl) rfl rfl (QW.mul rfl rfl (wI_mul (a := 4) (b := _) (by omega))) (by intro p hp; repeat (first | exact hp | refine List.mem_cons_of_mem _ ?_)) ?_
              refine DL.take 6 rfl (by kernel_rfl) (by kernel_rfl) (by kernel_rfl) rfl rfl (QW.move rfl) (by intro p hp; repeat (first | exact hp | refine List.mem_cons_of_mem _ ?_)) ?_
              refine DL.take 7 rfl (by kernel_rfl) (by kernel_rfl) (by kernel_rfl) rfl rfl (QW.quo rfl rfl (by omega) (tI_quo _ 4 (by omega))) (by intro p hp; repeat (first | exact hp | refine List.mem_cons_of_mem _ ?_)) ?_
              refine DL.take 8 rfl (by kernel_rfl) (by kernel_rfl) (by kernel_rfl) rfl rfl (QW.add rfl rfl (wI_add (a := _) (b := _) (by omega))) (by intro p hp; repeat (first | exact hp | refine List.mem_cons_of_mem _ ?_)) ?_
              refine DL.take 9 rfl (by kernel_rfl) (by kernel_rfl) (by kernel_rfl) rfl rfl (QW.move rfl) (by intro p hp; repeat (first | exact hp | refine List.mem_cons_of_mem _ ?_)) ?_
              refine DL.take 10 rfl (by kernel_rfl) (by kernel_rfl) (by kernel_rfl) rfl rfl (QW.rem rfl rfl (by omega) (tI_rem _ 4)) (by intro p hp; repeat (first | exact hp | refine List.mem_cons_of_mem _ ?_)) ?_
              refine DL.take 11 rfl (by kernel_rfl) (by kernel_rfl) (by kernel_rfl) rfl rfl (QW.indexAddrA Tryz.runUnderlying191 Tryz.sizeOf183 rfl rfl (by omega) (by first | omega | exact lt8 _) (by first | exact ix01 _ | exact ixb1 _ _ | exact ix0m _ _ | exact ixbm _ _ _)) (by intro p hp; repeat (first | exact hp | refine List.mem_cons_of_mem _ ?_)) ?_
              refine DL.take 12 rfl (by kernel_rfl) (by kernel_rfl) (by kernel_rfl) rfl rfl (QW.indexAddrA Tryz.runUnderlying183 Tryz.sizeOf5 rfl rfl (by omega) (by first | omega | exact lt8 _) (by first | exact ix01 _ | exact ixb1 _ _ | exact ix0m _ _ | exact ixbm _ _ _)) (by intro p hp; repeat (first | exact hp | refine List.mem_cons_of_mem _ ?_)) ?_
              refine DL.take 13 rfl (by kernel_rfl) (by kernel_rfl) (by kernel_rfl) rfl rfl (QW.load1 rfl Tryz.isAgg5 (by repeat (first | exact List.mem_cons_self | exact List.mem_cons_of_mem _ (by assumption) | assumption | refine List.mem_cons_of_mem _ ?_ | refine List.mem_append_right _ ?_)) (by first | (refine m_get 0 ?_; omega) | (refine m_get 0 ?_; simp only [*]; omega) | (refine m_get 0 ?_; simp only [List.length_set]; omega) | (refine m_get 0 (lt8L ?_); omega) | (refine m_get 0 (lt8B ?_); omega) | rfl)) (by intro p hp; repeat (first | exact hp | refine List.mem_cons_of_mem _ ?_)) ?_
              refine DL.take 14 rfl (by kernel_rfl) (by kernel_rfl) (by kernel_rfl) rfl rfl (QW.xor_ rfl rfl (x8_xor _ _)) (by intro p hp; repeat (first | exact hp | refine List.mem_cons_of_mem _ ?_)) ?_
              refine DL.take 15 rfl (by kernel_rfl) (by kernel_rfl) (by kernel_rfl) rfl rfl (QW.indexAddrA Tryz.runUnderlying22 Tryz.sizeOf5 rfl rfl (by omega) (by first | omega | exact lt8 _) (by first | exact ix01 _ | exact ixb1 _ _ | exact ix0m _ _ | exact ixbm _ _ _)) (by intro p hp; repeat (first | exact hp | refine List.mem_cons_of_mem _ ?_)) ?_
              refine DL.one 16 (by kernel_rfl) rfl rfl (OW.store1 rfl rfl Tryz.sizeOf5 rfl (by repeat (first | exact List.mem_cons_self | exact List.mem_cons_of_mem _ (by assumption) | assumption | refine List.mem_cons_of_mem _ ?_ | refine List.mem_append_right _ ?_)) (by first | (simp only [List.length_map, List.length_replicate, List.length_cons, List.length_nil, List.length_set, Nat.mul_one] <;> omega) | (rw [List.length_map]; refine lt8B ?_; simp [*]; done) | (rw [List.length_map]; refine lt8L ?_; simp [*]; done) | (simp [*] <;> omega)) (by first | exact m_set _ _ _ | rfl) (by repeat (first | exact Upd.head | apply Upd.tail | apply Upd.tailA)) ?_)
              refine ⟨fun h => absurd rfl h, ?_⟩
              refine DL.done (by kernel_rfl) (blockN (thenN ?_))
              refine CW.region (by kernel_rfl) ?_
              refine RL.q rfl rfl (QW.move rfl) ?_
              refine RL.q rfl rfl (QW.add rfl rfl (wI_add (a := _) (b := 1) (by omega))) ?_
              refine RL.q rfl rfl (QW.assign rfl) ?_
              refine RL.nil (thenN ?_)
              refine ⟨i + 1, (by omega), (by omega), ?_, ?_⟩
              · repeat (first | exact leE_nil | refine leE_cons rfl ?_)
              · exact List.Sublist.refl _
            · have hi : i = 16 := by simp at hc4; omega
              subst hi
              refine CW.exit (thenX (thenX (blockX (blockN (thenN ?_)))))
              refine CW.region (by kernel_rfl) ?_
              refine RL.q rfl rfl (QW.move rfl) ?_
              refine RL.q rfl rfl (QW.add rfl rfl (wI_add (a := _) (b := 1) (by omega))) ?_
              refine RL.q rfl rfl (QW.assign rfl) ?_
              refine RL.nil (thenN ?_)
              refine ⟨q + 1, (by omega), (by omega), ?_, ?_⟩
              · repeat (first | exact leE_nil | refine leE_cons rfl ?_)
              · exact dropS (List.Sublist.refl _)
      · have hq : q = 10 := by simp at hc1; omega
        subst hq
        rw [← refF_eq]
        refine CW.exit (thenX (thenX (blockX (thenN ?_))))
        refine CW.seq ?_
        refine CW.region (by kernel_rfl) ?_
        refine RL.q rfl rfl (QW.loadN rfl Tryz.isAgg22 Tryz.sizeOf22 (by repeat (first | exact List.mem_cons_self | exact List.mem_cons_of_mem _ (by assumption) | assumption | refine List.mem_cons_of_mem _ ?_ | refine List.mem_append_right _ ?_)) (by first | (simp only [List.length_map, List.length_replicate, List.length_cons, List.length_nil, List.length_set, Nat.mul_one] <;> omega) | (simp [*] <;> omega)) (by first | (refine m_all_of _ _ ?_; omega) | (refine m_all_of _ _ ?_; simp [*]; done) | exact m_cut _ _ _ | with_reducible rfl)) ?_
        refine RL.cons rfl (OW.storeN rfl rfl Tryz.sizeOf22 (by repeat (first | exact List.mem_cons_self | exact List.mem_cons_of_mem _ (by assumption) | assumption | refine List.mem_cons_of_mem _ ?_ | refine List.mem_append_right _ ?_)) (by first | (simp only [List.length_map, List.length_replicate, List.length_cons, List.length_nil, List.length_set, Nat.mul_one] <;> omega) | (simp [*] <;> omega)) (by first | exact m_all (fun _ => rfl) _ | rfl | (simp; done) | (simp only [List.all_cons, List.all_nil, oneB_buf, Bool.true_and, Bool.and_true]; rfl) | (simp [oneB]; done)) (by first | (simp only [List.length_map, List.length_replicate, List.length_cons, List.length_nil, List.length_set, Nat.mul_one] <;> omega) | (simp [*] <;> omega)) (by first | (refine wr_all ?_; simp only [List.length_map, List.length_replicate, List.length_cons, List.length_nil, List.length_set, Nat.mul_one] <;> omega) | (refine wr_all ?_; simp [*]; done) | exact m_wr _ _ _ | with_reducible rfl) (by repeat (first | exact Upd.head | apply Upd.tail | apply Upd.tailA)) ?_)
        refine RL.nil (thenN ?_)
        refine CW.ret (retR (S) (ResOk.one Tryz.results67 (ResV.cellN rfl Tryz.isAgg22 Tryz.sizeOf22 (by repeat (first | exact List.mem_cons_self | exact List.mem_cons_of_mem _ (by assumption) | assumption | refine List.mem_cons_of_mem _ ?_ | refine List.mem_append_right _ ?_)) (by first | (simp only [List.length_map, List.length_replicate, List.length_cons, List.length_nil, List.length_set, Nat.mul_one] <;> omega) | (simp [*] <;> omega)) (by first | (refine m_all_of _ _ ?_; omega) | (refine m_all_of _ _ ?_; simp [*]; done) | exact m_cut _ _ _ | with_reducible rfl))) (by repeat (first | exact List.Sublist.refl _ | (refine keepS ?_ ?_; with_reducible rfl) | (refine keepA ?_ ?_; with_reducible rfl) | (refine keepS ?_ ?_; rfl) | apply dropS | apply dropA)) ?_)
        exact ⟨rfl, rfl⟩

end Go.Sl