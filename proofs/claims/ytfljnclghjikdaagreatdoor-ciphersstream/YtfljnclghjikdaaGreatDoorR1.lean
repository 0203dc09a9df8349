/- A part of a proof: the walk. -/
import Derived.Test.YtfljnclghjikdaaGreatDoorProg
import Derived.Test.YtfljnclghjikdaaGreatDoorC5
set_option linter.unusedVariables false
set_option linter.unusedSimpArgs false
namespace Go.Sl
open Go.Proofs

def timesA (a : UInt8) : Nat → UInt8
  | 0 => a
  | i + 1 => if timesA a i &&& 128 = 0 then shl8 (timesA a i) 1 else shl8 (timesA a i) 1 ^^^ 27
def timesO (a b : UInt8) : Nat → UInt8
  | 0 => 0
  | i + 1 => if shr8 b i &&& 1 = 1 then timesO a b i ^^^ timesA a i else timesO a b i
def timesF (a b : UInt8) : UInt8 := timesO a b 8
def turnF (b : UInt8) (n : Nat) : UInt8 := shl8 b n ||| shr8 b (8 - n)
def srch (i : Nat) : Nat → Nat → UInt8
  | 0, _ => 0
  | f + 1, k => if timesF (UInt8.ofNat i) (UInt8.ofNat k) = 1 then UInt8.ofNat k else srch i f (k + 1)
def refY (i : Nat) : UInt8 := if 0 < i then srch i 255 1 else 0
def refO (y : UInt8) : UInt8 := y ^^^ turnF y 1 ^^^ turnF y 2 ^^^ turnF y 3 ^^^ turnF y 4 ^^^ 99
def rbTo : Nat → List UInt8
  | 0 => List.replicate 256 0
  | i + 1 => (rbTo i).set i (refO (refY i))
@[simp] theorem rbTo_len (i : Nat) : (rbTo i).length = 256 := by
  induction i with
  | zero => exact List.length_replicate
  | succ i ih => simp [rbTo, ih]
def rTab : List UInt8 := rbTo 256
@[simp] theorem rTab_len : rTab.length = 256 := rbTo_len 256
theorem rTab_eq : rTab = rbTo 256 := rfl
attribute [irreducible] rTab refO timesF turnF


set_option maxRecDepth 100000 in
theorem times_c (a b : UInt8) (S : HL) : CallS Tryz.prog 172 ⟨[u8 a, u8 b]⟩ S fun v S' => v = u8 (timesF a b) ∧ S = S' := by
  refine CallS.enter Tryz.func172 rfl Tryz.ntmps172 (by simp) ?_
  refine CW.seq ?_
  refine CW.region (by kernel_rfl) ?_
  refine RL.q rfl rfl (QW.assign rfl) ?_
  refine RL.nil (thenN ?_)
  refine CW.seq ?_
  refine CW.region (by kernel_rfl) ?_
  refine RL.q rfl rfl (QW.assign rfl) ?_
  refine RL.nil (thenN ?_)
  refine CW.seq ?_
  refine CW.seq ?_
  refine CW.region (by kernel_rfl) ?_
  refine RL.q rfl rfl (QW.assign rfl) ?_
  refine RL.nil (thenN ?_)
  refine CW.block ?_
  refine CW.loopT (ι := Nat) [(1, _), (4, _)] (by repeat (first | exact leE_nil | refine leE_cons rfl ?_)) (fun i => i ≤ 8) (fun i r => (6, nI i) :: (0, u8 (timesA a i)) :: (5, u8 (timesO a b i)) :: r) (fun i => S) (fun i => 8 - i) 0 (by omega) (by repeat (first | exact leE_nil | refine leE_cons (by first | rfl | (rfl)) ?_)) (by repeat (first | exact List.Sublist.refl _ | (refine keepS ?_ ?_; with_reducible rfl) | (refine keepA ?_ ?_; with_reducible rfl) | (refine keepS ?_ ?_; rfl) | apply dropS | apply dropA)) ?_
  intro i hI
  refine CW.seq ?_
  refine CW.seq ?_
  refine CW.region (by kernel_rfl) ?_
  refine RL.q rfl rfl (QW.move rfl) ?_
  refine RL.q rfl rfl (QW.lss rfl rfl (dI_lt _ 8)) ?_
  refine RL.nil (thenN ?_)
  refine CW.cond rfl (fun hc0 => ?_) (fun hc0 => ?_)
  · have hi : i < 8 := by simpa using hc0
    refine CW.skip (thenN ?_)
    refine CW.seq ?_
    refine CW.block ?_
    refine CW.seq ?_
    refine CW.seq ?_
    refine CW.region (by kernel_rfl) ?_
    refine RL.q rfl rfl (QW.move rfl) ?_
    refine RL.q rfl rfl (QW.move rfl) ?_
    refine RL.q rfl rfl (QW.shr rfl rfl (by omega) (h8_shr _ _)) ?_
    refine RL.q rfl rfl (QW.and_ rfl rfl (x8_and _ 1)) ?_
    refine RL.q rfl rfl (QW.eql rfl rfl (d8_eq _ 1)) ?_
    refine RL.nil (thenN ?_)
    refine CW.cond rfl (fun hc1 => ?_) (fun hc1 => ?_)
    · have hc1' : shr8 b i &&& 1 = 1 := by simpa using hc1
      refine CW.region (by kernel_rfl) ?_
      refine RL.q rfl rfl (QW.move rfl) ?_
      refine RL.q rfl rfl (QW.move rfl) ?_
      refine RL.q rfl rfl (QW.xor_ rfl rfl (x8_xor _ _)) ?_
      refine RL.q rfl rfl (QW.assign rfl) ?_
      refine RL.nil (thenN ?_)
      refine CW.seq ?_
      refine CW.region (by kernel_rfl) ?_
      refine RL.q rfl rfl (QW.move rfl) ?_
      refine RL.q rfl rfl (QW.and_ rfl rfl (x8_and _ 128)) ?_
      refine RL.q rfl rfl (QW.assign rfl) ?_
      refine RL.nil (thenN ?_)
      refine CW.seq ?_
      refine CW.region (by kernel_rfl) ?_
      refine RL.q rfl rfl (QW.move rfl) ?_
      refine RL.q rfl rfl (QW.shl rfl rfl (by omega) (h8_shl _ 1)) ?_
      refine RL.q rfl rfl (QW.assign rfl) ?_
      refine RL.nil (thenN ?_)
      refine CW.seq ?_
      refine CW.region (by kernel_rfl) ?_
      refine RL.q rfl rfl (QW.move rfl) ?_
      refine RL.q rfl rfl (QW.neq' rfl rfl (d8_eq _ 0)) ?_
      refine RL.nil (thenN ?_)
      refine CW.cond rfl (fun hc2 => ?_) (fun hc2 => ?_)
      · have hc2' : ¬ (timesA a i &&& 128 = 0) := by simpa using hc2
        refine CW.region (by kernel_rfl) ?_
        refine RL.q rfl rfl (QW.move rfl) ?_
        refine RL.q rfl rfl (QW.xor_ rfl rfl (x8_xor _ 27)) ?_
        refine RL.q rfl rfl (QW.assign rfl) ?_
        refine RL.nil (blockN (thenN ?_))
        refine CW.region (by kernel_rfl) ?_
        refine RL.q rfl rfl (QW.move rfl) ?_
        refine RL.q rfl rfl (QW.add rfl rfl (wI_add (a := _) (b := 1) (by omega))) ?_
        refine RL.q rfl rfl (QW.assign rfl) ?_
        refine RL.nil (thenN ?_)
        refine ⟨i + 1, (by omega), (by omega), ?_, ?_⟩
        · repeat (first | exact leE_nil | refine leE_cons (by first | rfl | (simp only [timesA, timesO, hc1', hc2', if_true, if_false]; rfl)) ?_)
        · exact List.Sublist.refl _
      · have hc2' : timesA a i &&& 128 = 0 := by simpa using hc2
        refine CW.skip (blockN (thenN ?_))
        refine CW.region (by kernel_rfl) ?_
        refine RL.q rfl rfl (QW.move rfl) ?_
        refine RL.q rfl rfl (QW.add rfl rfl (wI_add (a := _) (b := 1) (by omega))) ?_
        refine RL.q rfl rfl (QW.assign rfl) ?_
        refine RL.nil (thenN ?_)
        refine ⟨i + 1, (by omega), (by omega), ?_, ?_⟩
        · repeat (first | exact leE_nil | refine leE_cons (by first | rfl | (simp only [timesA, timesO, hc1', hc2', if_true, if_false]; rfl)) ?_)
        · exact List.Sublist.refl _
    · have hc1' : ¬ (shr8 b i &&& 1 = 1) := by simpa using hc1
      refine CW.skip (thenN ?_)
      refine CW.seq ?_
      refine CW.region (by kernel_rfl) ?_
      refine RL.q rfl rfl (QW.move rfl) ?_
      refine RL.q rfl rfl (QW.and_ rfl rfl (x8_and _ 128)) ?_
      refine RL.q rfl rfl (QW.assign rfl) ?_
      refine RL.nil (thenN ?_)
      refine CW.seq ?_
      refine CW.region (by kernel_rfl) ?_
      refine RL.q rfl rfl (QW.move rfl) ?_
      refine RL.q rfl rfl (QW.shl rfl rfl (by omega) (h8_shl _ 1)) ?_
      refine RL.q rfl rfl (QW.assign rfl) ?_
      refine RL.nil (thenN ?_)
      refine CW.seq ?_
      refine CW.region (by kernel_rfl) ?_
      refine RL.q rfl rfl (QW.move rfl) ?_
      refine RL.q rfl rfl (QW.neq' rfl rfl (d8_eq _ 0)) ?_
      refine RL.nil (thenN ?_)
      refine CW.cond rfl (fun hc2 => ?_) (fun hc2 => ?_)
      · have hc2' : ¬ (timesA a i &&& 128 = 0) := by simpa using hc2
        refine CW.region (by kernel_rfl) ?_
        refine RL.q rfl rfl (QW.move rfl) ?_
        refine RL.q rfl rfl (QW.xor_ rfl rfl (x8_xor _ 27)) ?_
        refine RL.q rfl rfl (QW.assign rfl) ?_
        refine RL.nil (blockN (thenN ?_))
        refine CW.region (by kernel_rfl) ?_
        refine RL.q rfl rfl (QW.move rfl) ?_
        refine RL.q rfl rfl (QW.add rfl rfl (wI_add (a := _) (b := 1) (by omega))) ?_
        refine RL.q rfl rfl (QW.assign rfl) ?_
        refine RL.nil (thenN ?_)
        refine ⟨i + 1, (by omega), (by omega), ?_, ?_⟩
        · repeat (first | exact leE_nil | refine leE_cons (by first | rfl | (simp only [timesA, timesO, hc1', hc2', if_true, if_false]; rfl)) ?_)
        · exact List.Sublist.refl _
      · have hc2' : timesA a i &&& 128 = 0 := by simpa using hc2
        refine CW.skip (blockN (thenN ?_))
        refine CW.region (by kernel_rfl) ?_
        refine RL.q rfl rfl (QW.move rfl) ?_
        refine RL.q rfl rfl (QW.add rfl rfl (wI_add (a := _) (b := 1) (by omega))) ?_
        refine RL.q rfl rfl (QW.assign rfl) ?_
        refine RL.nil (thenN ?_)
        refine ⟨i + 1, (by omega), (by omega), ?_, ?_⟩
        · repeat (first | exact leE_nil | refine leE_cons (by first | rfl | (simp only [timesA, timesO, hc1', hc2', if_true, if_false]; rfl)) ?_)
        · exact List.Sublist.refl _
  · have hi : i = 8 := by simp at hc0; omega
    subst hi
    refine CW.exit (thenX (thenX (blockX (thenN ?_))))
    refine CW.seq ?_
    refine CW.region (by kernel_rfl) ?_
    refine RL.q rfl rfl (QW.move rfl) ?_
    refine RL.q rfl rfl (QW.assign rfl) ?_
    refine RL.nil (thenN ?_)
    refine CW.ret (retR (S) (ResOk.one Tryz.results172 (ResV.tmp rfl)) (by repeat (first | exact List.Sublist.refl _ | (refine keepS ?_ ?_; with_reducible rfl) | (refine keepA ?_ ?_; with_reducible rfl) | (refine keepS ?_ ?_; rfl) | apply dropS | apply dropA)) ?_)
    exact ⟨by unfold timesF; rfl, rfl⟩

set_option maxRecDepth 100000 in
theorem turn_c (b : UInt8) (n : Nat) (S : HL) (hn : n ≤ 8) : CallS Tryz.prog 277 ⟨[u8 b, nI n]⟩ S fun v S' => v = u8 (turnF b n) ∧ S = S' := by
  refine CallS.enter Tryz.func277 rfl Tryz.ntmps277 (by simp) ?_
  refine CW.seq ?_
  refine CW.region (by kernel_rfl) ?_
  refine RL.q rfl rfl (QW.assign rfl) ?_
  refine RL.nil (thenN ?_)
  refine CW.seq ?_
  refine CW.drawnS 9 (by rw [mixed]; rfl) (by kernel_rfl) (by kernel_rfl) (by kernel_rfl) (fun _ _ _ h => h) ?_
  refine DL.take 0 rfl (by kernel_rfl) (by kernel_rfl) (by kernel_rfl) rfl rfl (QW.move rfl) (by intro p hp; repeat (first | exact hp | refine List.mem_cons_of_mem _ ?_)) ?_
  refine DL.take 1 rfl (by kernel_rfl) (by kernel_rfl) (by kernel_rfl) rfl rfl (QW.move rfl) (by intro p hp; repeat (first | exact hp | refine List.mem_cons_of_mem _ ?_)) ?_
  refine DL.take 2 rfl (by kernel_rfl) (by kernel_rfl) (by kernel_rfl) rfl rfl (QW.shl rfl rfl (by omega) (h8_shl _ _)) (by intro p hp; repeat (first | exact hp | refine List.mem_cons_of_mem _ ?_)) ?_
  refine DL.take 3 rfl (by kernel_rfl) (by kernel_rfl) (by kernel_rfl) rfl rfl (QW.move rfl) (by intro p hp; repeat (first | exact hp | refine List.mem_cons_of_mem _ ?_)) ?_
  refine DL.take 4 rfl (by kernel_rfl) (by kernel_rfl) (by kernel_rfl) rfl rfl (QW.move rfl) (by intro p hp; repeat (first | exact hp | refine List.mem_cons_of_mem _ ?_)) ?_
  refine DL.take 5 rfl (by kernel_rfl) (by kernel_rfl) (by kernel_rfl) rfl rfl (QW.sub rfl rfl (wI_sub (a := 8) (b := _) (by omega) (by omega))) (by intro p hp; repeat (first | exact hp | refine List.mem_cons_of_mem _ ?_)) ?_
  refine DL.take 6 rfl (by kernel_rfl) (by kernel_rfl) (by kernel_rfl) rfl rfl (QW.shr rfl rfl (by omega) (h8_shr _ _)) (by intro p hp; repeat (first | exact hp | refine List.mem_cons_of_mem _ ?_)) ?_
  refine DL.take 7 rfl (by kernel_rfl) (by kernel_rfl) (by kernel_rfl) rfl rfl (QW.or_ rfl rfl (x8_or _ _)) (by intro p hp; repeat (first | exact hp | refine List.mem_cons_of_mem _ ?_)) ?_
  refine DL.take 8 rfl (by kernel_rfl) (by kernel_rfl) (by kernel_rfl) rfl rfl (QW.assign rfl) (by intro p hp; repeat (first | exact hp | refine List.mem_cons_of_mem _ ?_)) ?_
  refine DL.done (by kernel_rfl) (thenN ?_)
  refine CW.ret (retR (S) (ResOk.one Tryz.results277 (ResV.tmp rfl)) (by repeat (first | exact List.Sublist.refl _ | (refine keepS ?_ ?_; with_reducible rfl) | (refine keepA ?_ ?_; with_reducible rfl) | (refine keepS ?_ ?_; rfl) | apply dropS | apply dropA)) ?_)
  exact ⟨by unfold turnF; rfl, rfl⟩

set_option maxRecDepth 100000 in
theorem box_c (S : HL) : CallS Tryz.prog 170 ⟨[]⟩ S fun v S' => v = .agg ⟨rTab.map u8⟩ ∧ S = S' := by
  refine CallS.enter Tryz.func170 rfl Tryz.ntmps170 (by simp) ?_
  refine CW.seq ?_
  refine CW.region (by kernel_rfl) ?_
  refine RL.cons rfl (OW.alloc zv177 rfl ?_)
  intro b0
  refine RL.nil (thenN ?_)
  refine CW.seq ?_
  refine CW.region (by kernel_rfl) ?_
  refine RL.cons rfl (OW.alloc zv177 rfl ?_)
  intro b1
  refine RL.nil (thenN ?_)
  refine CW.seq ?_
  refine CW.seq ?_
  refine CW.region (by kernel_rfl) ?_
  refine RL.q rfl rfl (QW.assign rfl) ?_
  refine RL.nil (thenN ?_)
  refine CW.block ?_
  refine CW.loopT (ι := Nat) [(0, _), (1, _)] (by repeat (first | exact leE_nil | refine leE_cons rfl ?_)) (fun i => i ≤ 256) (fun i r => (2, nI i) :: r) (fun i => (b1, blk ((rbTo i).map u8) 177) :: (b0, blk ((List.replicate 256 0).map u8) 177) :: S) (fun i => 256 - i) 0 (by omega) (by repeat (first | exact leE_nil | refine leE_cons (by first | rfl | (rfl)) ?_)) (by repeat (first | exact List.Sublist.refl _ | (refine keepS ?_ ?_; with_reducible rfl) | (refine keepA ?_ ?_; with_reducible rfl) | (refine keepS ?_ ?_; rfl) | apply dropS | apply dropA)) ?_
  intro i hI
  have hl := rbTo_len i
  refine CW.seq ?_
  refine CW.seq ?_
  refine CW.region (by kernel_rfl) ?_
  refine RL.q rfl rfl (QW.move rfl) ?_
  refine RL.q rfl rfl (QW.lss rfl rfl (dI_lt _ 256)) ?_
  refine RL.nil (thenN ?_)
  refine CW.cond rfl (fun hc0 => ?_) (fun hc0 => ?_)
  · have hi : i < 256 := by simpa using hc0
    refine CW.skip (thenN ?_)
    refine CW.seq ?_
    refine CW.block ?_
    refine CW.seq ?_
    refine CW.region (by kernel_rfl) ?_
    refine RL.q rfl rfl (QW.assign rfl) ?_
    refine RL.nil (thenN ?_)
    refine CW.seqCutT (ι := Unit) [(0, _), (1, _), (2, _), (5, _), (6, _)] (by repeat (first | exact leE_nil | refine leE_cons rfl ?_)) (fun _u => True) (fun _u r => (3, u8 (refY i)) :: r) (fun _u => (b1, blk ((rbTo i).map u8) 177) :: (b0, blk ((List.replicate 256 0).map u8) 177) :: S) ?_ ?_
    · refine CW.seq ?_
      refine CW.region (by kernel_rfl) ?_
      refine RL.q rfl rfl (QW.assign rfl) ?_
      refine RL.nil (thenN ?_)
      refine CW.block ?_
      refine CW.loopT (ι := Nat) [(0, _), (1, _), (2, _), (5, _), (6, _)] (by repeat (first | exact leE_nil | refine leE_cons rfl ?_)) (fun k => 1 ≤ k ∧ k ≤ 256 ∧ (0 < i → srch i (256 - k) k = refY i)) (fun k r => (4, nI k) :: (3, u8 0) :: r) (fun k => (b1, blk ((rbTo i).map u8) 177) :: (b0, blk ((List.replicate 256 0).map u8) 177) :: S) (fun k => 256 - k) 1 ⟨by omega, by omega, fun h => by simp [refY, h]⟩ (by repeat (first | exact leE_nil | refine leE_cons (by first | rfl | (rfl)) ?_)) (by repeat (first | exact List.Sublist.refl _ | (refine keepS ?_ ?_; with_reducible rfl) | (refine keepA ?_ ?_; with_reducible rfl) | (refine keepS ?_ ?_; rfl) | apply dropS | apply dropA)) ?_
      intro k hI2
      obtain ⟨h1, h2, h3⟩ := hI2
      refine CW.seq ?_
      refine CW.seq ?_
      refine CW.region (by kernel_rfl) ?_
      refine RL.q rfl rfl (QW.move rfl) ?_
      refine RL.q rfl rfl (QW.lss rfl rfl (dI_lt _ 256)) ?_
      refine RL.q rfl rfl (QW.move rfl) ?_
      cases hs7_3 : decide (k < 256)
      · first | (refine RL.guard_no rfl rfl rfl rfl rfl ?_) | (refine RL.guard_yes rfl rfl rfl rfl (OW.q rfl (QW.move rfl) ?_))
        first | (refine RL.guard_no rfl rfl rfl rfl rfl ?_) | (refine RL.guard_yes rfl rfl rfl rfl (OW.q rfl (QW.gtr rfl rfl (dI_lt 0 _)) ?_))
        refine RL.q rfl rfl ((by first | exact QW.pick_t rfl rfl | exact QW.pick_f rfl rfl)) ?_
        refine RL.nil (thenN ?_)
        refine CW.cond rfl (fun hc1 => ?_) (fun hc1 => ?_)
        · exact absurd hc1 (by simp)
        · have hy : (0 : UInt8) = refY i := by
                have hk : ¬ k < 256 := by simpa using hs7_3
                have hk : k = 256 := by omega
                subst hk
                by_cases hi0 : 0 < i
                · rw [← h3 hi0]; rfl
                · simp [refY, hi0]
          refine CW.exit (thenX (thenX (blockX (thenN ?_))))
          refine ⟨(), (trivial), ?_, ?_⟩
          · repeat (first | exact leE_nil | refine leE_cons (by first | rfl | ((first | exact congrArg (fun x => some (u8 x)) hy); done)) ?_)
          · exact List.Sublist.refl _
      · first | (refine RL.guard_no rfl rfl rfl rfl rfl ?_) | (refine RL.guard_yes rfl rfl rfl rfl (OW.q rfl (QW.move rfl) ?_))
        first | (refine RL.guard_no rfl rfl rfl rfl rfl ?_) | (refine RL.guard_yes rfl rfl rfl rfl (OW.q rfl (QW.gtr rfl rfl (dI_lt 0 _)) ?_))
        refine RL.q rfl rfl ((by first | exact QW.pick_t rfl rfl | exact QW.pick_f rfl rfl)) ?_
        refine RL.nil (thenN ?_)
        refine CW.cond rfl (fun hc1 => ?_) (fun hc1 => ?_)
        · have hi0 : 0 < i := by simpa using hc1
          have hk : k < 256 := by simpa using hs7_3
          refine CW.skip (thenN ?_)
          refine CW.seq ?_
          refine CW.block ?_
          refine CW.seq ?_
          refine CW.region (by kernel_rfl) ?_
          refine RL.q rfl rfl (QW.move rfl) ?_
          refine RL.q rfl rfl (QW.conv Tryz.runUnderlying3 Tryz.runUnderlying5 rfl (w8_nat _)) ?_
          refine RL.q rfl rfl (QW.move rfl) ?_
          refine RL.q rfl rfl (QW.conv Tryz.runUnderlying3 Tryz.runUnderlying5 rfl (w8_nat _)) ?_
          refine RL.cons rfl (OW.call Tryz.call172 (ext2 rfl rfl) ((times_c _ _ _).mono ?_))
          rintro v S' ⟨rfl, rfl⟩
          refine RL.q rfl rfl (QW.eql rfl rfl (d8_eq _ 1)) ?_
          refine RL.nil (thenN ?_)
          refine CW.cond rfl (fun hc2 => ?_) (fun hc2 => ?_)
          · have hc2' : timesF (UInt8.ofNat i) (UInt8.ofNat k) = 1 := by simpa using hc2
            have hy : UInt8.ofNat k = refY i := by
                  rw [← h3 hi0, show 256 - k = (256 - (k + 1)) + 1 from by omega]; simp only [srch]; rw [if_pos hc2']
            refine CW.seq ?_
            refine CW.region (by kernel_rfl) ?_
            refine RL.q rfl rfl (QW.move rfl) ?_
            refine RL.q rfl rfl (QW.conv Tryz.runUnderlying3 Tryz.runUnderlying5 rfl (w8_nat _)) ?_
            refine RL.q rfl rfl (QW.assign rfl) ?_
            refine RL.nil (thenN ?_)
            refine CW.exit (blockY rfl (thenX (thenX (blockX (thenN ?_)))))
            refine ⟨(), (trivial), ?_, ?_⟩
            · repeat (first | exact leE_nil | refine leE_cons (by first | rfl | ((first | exact congrArg (fun x => some (u8 x)) hy); done)) ?_)
            · exact List.Sublist.refl _
          · have hc2' : ¬ (timesF (UInt8.ofNat i) (UInt8.ofNat k) = 1) := by simpa using hc2
            refine CW.skip (blockN (thenN ?_))
            refine CW.region (by kernel_rfl) ?_
            refine RL.q rfl rfl (QW.move rfl) ?_
            refine RL.q rfl rfl (QW.add rfl rfl (wI_add (a := _) (b := 1) (by omega))) ?_
            refine RL.q rfl rfl (QW.assign rfl) ?_
            refine RL.nil (thenN ?_)
            refine ⟨k + 1, (by refine ⟨by omega, by omega, fun h => ?_⟩; rw [← h3 h, show 256 - k = (256 - (k + 1)) + 1 from by omega]; simp only [srch]; rw [if_neg hc2']), (by omega), ?_, ?_⟩
            · repeat (first | exact leE_nil | refine leE_cons rfl ?_)
            · exact List.Sublist.refl _
        · have hy : (0 : UInt8) = refY i := by
                have hi0 : ¬ 0 < i := by simpa using hc1
                simp [refY, hi0]
          refine CW.exit (thenX (thenX (blockX (thenN ?_))))
          refine ⟨(), (trivial), ?_, ?_⟩
          · repeat (first | exact leE_nil | refine leE_cons (by first | rfl | ((first | exact congrArg (fun x => some (u8 x)) hy); done)) ?_)
          · exact List.Sublist.refl _
    · intro _u _hI
      refine CW.region (by kernel_rfl) ?_
      refine RL.q rfl rfl (QW.move rfl) ?_
      refine RL.q rfl rfl (QW.move rfl) ?_
      refine RL.q rfl rfl (QW.move rfl) ?_
      refine RL.cons rfl (OW.call Tryz.call277 (ext2 rfl rfl) ((turn_c _ _ _ (by decide)).mono ?_))
      rintro v S' ⟨rfl, rfl⟩
      refine RL.q rfl rfl (QW.xor_ rfl rfl (x8_xor _ _)) ?_
      refine RL.q rfl rfl (QW.move rfl) ?_
      refine RL.cons rfl (OW.call Tryz.call277 (ext2 rfl rfl) ((turn_c _ _ _ (by decide)).mono ?_))
      rintro v S' ⟨rfl, rfl⟩
      refine RL.q rfl rfl (QW.xor_ rfl rfl (x8_xor _ _)) ?_
      refine RL.q rfl rfl (QW.move rfl) ?_
      refine RL.cons rfl (OW.call Tryz.call277 (ext2 rfl rfl) ((turn_c _ _ _ (by decide)).mono ?_))
      rintro v S' ⟨rfl, rfl⟩
      refine RL.q rfl rfl (QW.xor_ rfl rfl (x8_xor _ _)) ?_
      refine RL.q rfl rfl (QW.move rfl) ?_
      refine RL.cons rfl (OW.call Tryz.call277 (ext2 rfl rfl) ((turn_c _ _ _ (by decide)).mono ?_))
      rintro v S' ⟨rfl, rfl⟩
      refine RL.q rfl rfl (QW.xor_ rfl rfl (x8_xor _ _)) ?_
      refine RL.q rfl rfl (QW.xor_ rfl rfl (x8_xor _ 99)) ?_
      refine RL.q rfl rfl (QW.indexAddrA Tryz.runUnderlying177 Tryz.sizeOf5 rfl rfl (by omega) (by first | omega | exact lt8 _) (by first | exact ix01 _ | exact ixb1 _ _ | exact ix0m _ _ | exact ixbm _ _ _)) ?_
      refine RL.cons rfl (OW.store1 rfl rfl Tryz.sizeOf5 rfl (by repeat (first | exact List.mem_cons_self | exact List.mem_cons_of_mem _ (by assumption) | assumption | refine List.mem_cons_of_mem _ ?_ | refine List.mem_append_right _ ?_)) (by first | (simp only [List.length_map, List.length_replicate, List.length_cons, List.length_nil, List.length_set, Nat.mul_one] <;> omega) | (rw [List.length_map]; refine lt8B ?_; simp [*]; done) | (rw [List.length_map]; refine lt8L ?_; simp [*]; done) | (simp [*] <;> omega)) (by first | exact m_set _ _ _ | rfl) (by repeat (first | exact Upd.head | apply Upd.tail | apply Upd.tailA)) ?_)
      refine RL.nil (blockN (thenN ?_))
      refine CW.region (by kernel_rfl) ?_
      refine RL.q rfl rfl (QW.move rfl) ?_
      refine RL.q rfl rfl (QW.add rfl rfl (wI_add (a := _) (b := 1) (by omega))) ?_
      refine RL.q rfl rfl (QW.assign rfl) ?_
      refine RL.nil (thenN ?_)
      refine ⟨i + 1, (by omega), (by omega), ?_, ?_⟩
      · repeat (first | exact leE_nil | refine leE_cons rfl ?_)
      · exact keepS (by simp only [rbTo]; unfold refO; rfl) (List.Sublist.refl _)
  · have hi : i = 256 := by simp at hc0; omega
    subst hi
    rw [← rTab_eq]
    refine CW.exit (thenX (thenX (blockX (thenN ?_))))
    refine CW.seq ?_
    refine CW.region (by kernel_rfl) ?_
    refine RL.q rfl rfl (QW.loadN rfl Tryz.isAgg177 Tryz.sizeOf177 (by repeat (first | exact List.mem_cons_self | exact List.mem_cons_of_mem _ (by assumption) | assumption | refine List.mem_cons_of_mem _ ?_ | refine List.mem_append_right _ ?_)) (by first | (simp only [List.length_map, List.length_replicate, List.length_cons, List.length_nil, List.length_set, Nat.mul_one] <;> omega) | (simp [*] <;> omega)) (by first | (refine m_all_of _ _ ?_; omega) | (refine m_all_of _ _ ?_; simp [*]; done) | exact m_cut _ _ _ | with_reducible rfl)) ?_
    refine RL.cons rfl (OW.storeN rfl rfl Tryz.sizeOf177 (by repeat (first | exact List.mem_cons_self | exact List.mem_cons_of_mem _ (by assumption) | assumption | refine List.mem_cons_of_mem _ ?_ | refine List.mem_append_right _ ?_)) (by first | (simp only [List.length_map, List.length_replicate, List.length_cons, List.length_nil, List.length_set, Nat.mul_one] <;> omega) | (simp [*] <;> omega)) (by first | exact m_all (fun _ => rfl) _ | rfl | (simp; done) | (simp only [List.all_cons, List.all_nil, oneB_buf, Bool.true_and, Bool.and_true]; rfl) | (simp [oneB]; done)) (by first | (simp only [List.length_map, List.length_replicate, List.length_cons, List.length_nil, List.length_set, Nat.mul_one] <;> omega) | (simp [*] <;> omega)) (by first | (refine wr_all ?_; simp only [List.length_map, List.length_replicate, List.length_cons, List.length_nil, List.length_set, Nat.mul_one] <;> omega) | (refine wr_all ?_; simp [*]; done) | exact m_wr _ _ _ | with_reducible rfl) (by repeat (first | exact Upd.head | apply Upd.tail | apply Upd.tailA)) ?_)
    refine RL.nil (thenN ?_)
    refine CW.ret (retR (S) (ResOk.one Tryz.results170 (ResV.cellN rfl Tryz.isAgg177 Tryz.sizeOf177 (by repeat (first | exact List.mem_cons_self | exact List.mem_cons_of_mem _ (by assumption) | assumption | refine List.mem_cons_of_mem _ ?_ | refine List.mem_append_right _ ?_)) (by first | (simp only [List.length_map, List.length_replicate, List.length_cons, List.length_nil, List.length_set, Nat.mul_one] <;> omega) | (simp [*] <;> omega)) (by first | (refine m_all_of _ _ ?_; omega) | (refine m_all_of _ _ ?_; simp [*]; done) | exact m_cut _ _ _ | with_reducible rfl))) (by repeat (first | exact List.Sublist.refl _ | (refine keepS ?_ ?_; with_reducible rfl) | (refine keepA ?_ ?_; with_reducible rfl) | (refine keepS ?_ ?_; rfl) | apply dropS | apply dropA)) ?_)
    exact ⟨rfl, rfl⟩

end Go.Sl