/- A part of a proof: the walk. -/
import Derived.Test.YtfljnclghjikdaaGreatDoorProg
import Derived.Test.YtfljnclghjikdaaGreatDoorC1
set_option linter.unusedVariables false
set_option linter.unusedSimpArgs false
namespace Go.Sl
open Go.Proofs

def bx1 : Nat → List UInt8 × List UInt8 × UInt8
  | 0 => (List.replicate 256 0, List.replicate 256 0, 1)
  | k + 1 => ((bx1 k).1.set k (bx1 k).2.2, (bx1 k).2.1.set (bx1 k).2.2.toNat (UInt8.ofNat k), (bx1 k).2.2 ^^^ twiceF (bx1 k).2.2)
theorem bx1_len (k : Nat) : (bx1 k).1.length = 256 ∧ (bx1 k).2.1.length = 256 := by
  induction k with
  | zero => exact ⟨List.length_replicate, List.length_replicate⟩
  | succ k ih => simp [bx1, ih]
def bx3 (y : UInt8) : Nat → UInt8
  | 0 => 99
  | n + 1 => bx3 y n ^^^ (shl8 y n ||| shr8 y (8 - n))
def bxY (i : Nat) : UInt8 := if i > 0 then (bx1 255).1.getD ((255 - ((bx1 255).2.1.getD i 0).toNat) % 255) 0 else 0
def bx2 : Nat → List UInt8 × List UInt8
  | 0 => (List.replicate 256 0, List.replicate 256 0)
  | i + 1 => ((bx2 i).1.set i (bx3 (bxY i) 5), (bx2 i).2.set (bx3 (bxY i) 5).toNat (UInt8.ofNat i))
theorem bx2_len (k : Nat) : (bx2 k).1.length = 256 ∧ (bx2 k).2.length = 256 := by
  induction k with
  | zero => exact ⟨List.length_replicate, List.length_replicate⟩
  | succ k ih => simp [bx2, ih]
def sTab : List UInt8 := (bx2 256).1
def bTab : List UInt8 := (bx2 256).2
@[simp] theorem sTab_len : sTab.length = 256 := (bx2_len 256).1
@[simp] theorem bTab_len : bTab.length = 256 := (bx2_len 256).2
attribute [irreducible] sTab bTab

theorem zv177 : ZV Tryz.prog 177 (.agg ⟨((List.replicate 256 0).map u8)⟩) := fun _ => by kernel_rfl
set_option maxRecDepth 100000 in
theorem boxes_c (S : HL) : CallS Tryz.prog 165 ⟨[]⟩ S fun v S' => v = .tuple #[.agg ⟨sTab.map u8⟩, .agg ⟨bTab.map u8⟩] ∧ S = S' := by
  refine CallS.enter Tryz.func165 rfl Tryz.ntmps165 (by simp) ?_
  refine CW.seq ?_
  refine CW.region (by kernel_rfl) ?_
  refine RL.cons rfl (OW.alloc zv177 rfl ?_)
  intro b0
  refine RL.cons rfl (OW.alloc zv177 rfl ?_)
  intro b1
  refine RL.nil (thenN ?_)
  refine CW.seq ?_
  refine CW.region (by kernel_rfl) ?_
  refine RL.cons rfl (OW.alloc zv177 rfl ?_)
  intro b2
  refine RL.cons rfl (OW.alloc zv177 rfl ?_)
  intro b3
  refine RL.nil (thenN ?_)
  refine CW.seq ?_
  refine CW.region (by kernel_rfl) ?_
  refine RL.q rfl rfl (QW.assign rfl) ?_
  refine RL.nil (thenN ?_)
  refine CW.seq ?_
  refine CW.seq ?_
  refine CW.region (by kernel_rfl) ?_
  refine RL.q rfl rfl (QW.move rfl) ?_
  refine RL.nil (thenN ?_)
  refine CW.block ?_
  refine CW.loopT (ι := Nat) [(0, _), (1, _), (2, _), (3, _)] (by repeat (first | exact leE_nil | refine leE_cons rfl ?_)) (fun k => k ≤ 255) (fun k r => (10, nI k) :: (4, u8 (bx1 k).2.2) :: r) (fun k => (b3, blk ((bx1 k).2.1.map u8) 177) :: (b2, blk ((bx1 k).1.map u8) 177) :: (b1, blk ((List.replicate 256 0).map u8) 177) :: (b0, blk ((List.replicate 256 0).map u8) 177) :: S) (fun k => 255 - k) 0 (by omega) (by repeat (first | exact leE_nil | refine leE_cons (by first | rfl | (rfl)) ?_)) (by repeat (first | exact List.Sublist.refl _ | (refine keepS ?_ ?_; with_reducible rfl) | (refine keepA ?_ ?_; with_reducible rfl) | (refine keepS ?_ ?_; rfl) | apply dropS | apply dropA)) ?_
  intro k hI
  have hl := bx1_len k
  have hx := (bx1 k).2.2.toNat_lt
  refine CW.seq ?_
  refine CW.region (by kernel_rfl) ?_
  refine RL.q rfl rfl (QW.lss rfl rfl (dI_lt _ 255)) ?_
  refine RL.nil (thenN ?_)
  refine CW.seq ?_
  refine CW.cond rfl (fun hc0 => ?_) (fun hc0 => ?_)
  · have hk : k < 255 := by simpa using hc0
    refine CW.skip (thenN ?_)
    refine CW.seq ?_
    refine CW.block ?_
    refine CW.seq ?_
    refine CW.region (by kernel_rfl) ?_
    refine RL.q rfl rfl (QW.move rfl) ?_
    refine RL.q rfl rfl (QW.assign rfl) ?_
    refine RL.nil (thenN ?_)
    refine CW.seq ?_
    refine CW.region (by kernel_rfl) ?_
    refine RL.q rfl rfl (QW.move rfl) ?_
    refine RL.q rfl rfl (QW.move rfl) ?_
    refine RL.q rfl rfl (QW.move rfl) ?_
    refine RL.q rfl rfl (QW.move rfl) ?_
    refine RL.q rfl rfl (QW.conv Tryz.runUnderlying3 Tryz.runUnderlying5 rfl (w8_nat _)) ?_
    refine RL.q rfl rfl (QW.indexAddrA Tryz.runUnderlying177 Tryz.sizeOf5 rfl rfl (by omega) (by first | omega | exact lt8 _) (by first | exact ix01 _ | exact ixb1 _ _ | exact ix0m _ _ | exact ixbm _ _ _)) ?_
    refine RL.cons rfl (OW.store1 rfl rfl Tryz.sizeOf5 rfl (by repeat (first | exact List.mem_cons_self | exact List.mem_cons_of_mem _ (by assumption) | assumption | refine List.mem_cons_of_mem _ ?_ | refine List.mem_append_right _ ?_)) (by first | (simp only [List.length_map, List.length_replicate, List.length_cons, List.length_nil, List.length_set, Nat.mul_one] <;> omega) | (rw [List.length_map]; refine lt8B ?_; simp [*]; done) | (rw [List.length_map]; refine lt8L ?_; simp [*]; done) | (simp [*] <;> omega)) (by first | exact m_set _ _ _ | rfl) (by repeat (first | exact Upd.head | apply Upd.tail | apply Upd.tailA)) ?_)
    refine RL.q rfl rfl (QW.indexAddrA Tryz.runUnderlying177 Tryz.sizeOf5 rfl rfl (by omega) (by first | omega | exact lt8 _) (by first | exact ix01 _ | exact ixb1 _ _ | exact ix0m _ _ | exact ixbm _ _ _)) ?_
    refine RL.cons rfl (OW.store1 rfl rfl Tryz.sizeOf5 rfl (by repeat (first | exact List.mem_cons_self | exact List.mem_cons_of_mem _ (by assumption) | assumption | refine List.mem_cons_of_mem _ ?_ | refine List.mem_append_right _ ?_)) (by first | (simp only [List.length_map, List.length_replicate, List.length_cons, List.length_nil, List.length_set, Nat.mul_one] <;> omega) | (rw [List.length_map]; refine lt8B ?_; simp [*]; done) | (rw [List.length_map]; refine lt8L ?_; simp [*]; done) | (simp [*] <;> omega)) (by first | exact m_set _ _ _ | rfl) (by repeat (first | exact Upd.head | apply Upd.tail | apply Upd.tailA)) ?_)
    refine RL.nil (thenN ?_)
    refine CW.region (by kernel_rfl) ?_
    refine RL.q rfl rfl (QW.move rfl) ?_
    refine RL.q rfl rfl (QW.move rfl) ?_
    refine RL.cons rfl (OW.call Tryz.call166 (ext1 rfl) ((twice_c _ _).mono ?_))
    rintro v S' ⟨rfl, rfl⟩
    refine RL.q rfl rfl (QW.xor_ rfl rfl (x8_xor _ _)) ?_
    refine RL.q rfl rfl (QW.assign rfl) ?_
    refine RL.nil (blockN (thenN ?_))
    refine CW.region (by kernel_rfl) ?_
    refine RL.q rfl rfl (QW.add rfl rfl (wI_add (a := _) (b := 1) (by omega))) ?_
    refine RL.q rfl rfl (QW.move rfl) ?_
    refine RL.nil (thenN ?_)
    refine ⟨k + 1, (by omega), (by omega), ?_, ?_⟩
    · repeat (first | exact leE_nil | refine leE_cons rfl ?_)
    · exact List.Sublist.refl _
  · have hk : k = 255 := by simp at hc0; omega
    subst hk
    refine CW.exit (thenX (thenX (blockX (thenN ?_))))
    refine CW.seq ?_
    refine CW.seq ?_
    refine CW.region (by kernel_rfl) ?_
    refine RL.q rfl rfl (QW.move rfl) ?_
    refine RL.nil (thenN ?_)
    refine CW.block ?_
    refine CW.loopT (ι := Nat) [(0, _), (1, _), (2, _), (3, _)] (by repeat (first | exact leE_nil | refine leE_cons rfl ?_)) (fun k => k ≤ 256) (fun k r => (25, nI k) :: r) (fun k => (b3, blk ((bx1 255).2.1.map u8) 177) :: (b2, blk ((bx1 255).1.map u8) 177) :: (b1, blk ((bx2 k).2.map u8) 177) :: (b0, blk ((bx2 k).1.map u8) 177) :: S) (fun k => 256 - k) 0 (by omega) (by repeat (first | exact leE_nil | refine leE_cons (by first | rfl | (rfl)) ?_)) (by repeat (first | exact List.Sublist.refl _ | (refine keepS ?_ ?_; with_reducible rfl) | (refine keepA ?_ ?_; with_reducible rfl) | (refine keepS ?_ ?_; rfl) | apply dropS | apply dropA)) ?_
    intro k hI
    have hl := bx1_len 255
    have hl2 := bx2_len k
    have hx := ((bx1 255).2.1.getD k 0).toNat_lt
    have hz := (bx3 (bxY k) 5).toNat_lt
    refine CW.seq ?_
    refine CW.region (by kernel_rfl) ?_
    refine RL.q rfl rfl (QW.lss rfl rfl (dI_lt _ 256)) ?_
    refine RL.nil (thenN ?_)
    refine CW.seq ?_
    refine CW.cond rfl (fun hc1 => ?_) (fun hc1 => ?_)
    · have hk : k < 256 := by simpa using hc1
      refine CW.skip (thenN ?_)
      refine CW.seq ?_
      refine CW.block ?_
      refine CW.seq ?_
      refine CW.region (by kernel_rfl) ?_
      refine RL.q rfl rfl (QW.move rfl) ?_
      refine RL.q rfl rfl (QW.assign rfl) ?_
      refine RL.nil (thenN ?_)
      refine CW.seq ?_
      refine CW.region (by kernel_rfl) ?_
      refine RL.q rfl rfl (QW.assign rfl) ?_
      refine RL.nil (thenN ?_)
      refine CW.seqCutT (ι := Unit) [(0, _), (1, _), (2, _), (3, _), (6, _), (25, _), (26, _), (27, _)] (by repeat (first | exact leE_nil | refine leE_cons rfl ?_)) (fun _u => True) (fun _u r => (7, u8 (bxY k)) :: r) (fun _u => (b3, blk ((bx1 255).2.1.map u8) 177) :: (b2, blk ((bx1 255).1.map u8) 177) :: (b1, blk ((bx2 k).2.map u8) 177) :: (b0, blk ((bx2 k).1.map u8) 177) :: S) ?_ ?_
      · refine CW.seq ?_
        refine CW.region (by kernel_rfl) ?_
        refine RL.q rfl rfl (QW.move rfl) ?_
        refine RL.q rfl rfl (QW.gtr rfl rfl (dI_lt 0 _)) ?_
        refine RL.nil (thenN ?_)
        refine CW.cond rfl (fun hc2 => ?_) (fun hc2 => ?_)
        · have hc2' : k > 0 := by simpa using hc2
          refine CW.region (by kernel_rfl) ?_
          refine RL.q rfl rfl (QW.move rfl) ?_
          refine RL.q rfl rfl (QW.indexAddrA Tryz.runUnderlying177 Tryz.sizeOf5 rfl rfl (by omega) (by first | omega | exact lt8 _) (by first | exact ix01 _ | exact ixb1 _ _ | exact ix0m _ _ | exact ixbm _ _ _)) ?_
          refine RL.q rfl rfl (QW.load1 rfl Tryz.isAgg5 (by repeat (first | exact List.mem_cons_self | exact List.mem_cons_of_mem _ (by assumption) | assumption | refine List.mem_cons_of_mem _ ?_ | refine List.mem_append_right _ ?_)) (by first | (refine m_get 0 ?_; omega) | (refine m_get 0 ?_; simp only [*]; omega) | (refine m_get 0 ?_; simp only [List.length_set]; omega) | (refine m_get 0 (lt8L ?_); omega) | (refine m_get 0 (lt8B ?_); omega) | rfl)) ?_
          refine RL.q rfl rfl (QW.conv Tryz.runUnderlying5 Tryz.runUnderlying3 rfl (wI_id (by omega))) ?_
          refine RL.q rfl rfl (QW.sub rfl rfl (wI_sub (a := 255) (b := _) (by omega) (by omega))) ?_
          refine RL.q rfl rfl (QW.rem rfl rfl (by omega) (tI_rem _ 255)) ?_
          refine RL.q rfl rfl (QW.indexAddrA Tryz.runUnderlying177 Tryz.sizeOf5 rfl rfl (by omega) (by first | omega | exact lt8 _) (by first | exact ix01 _ | exact ixb1 _ _ | exact ix0m _ _ | exact ixbm _ _ _)) ?_
          refine RL.q rfl rfl (QW.load1 rfl Tryz.isAgg5 (by repeat (first | exact List.mem_cons_self | exact List.mem_cons_of_mem _ (by assumption) | assumption | refine List.mem_cons_of_mem _ ?_ | refine List.mem_append_right _ ?_)) (by first | (refine m_get 0 ?_; omega) | (refine m_get 0 ?_; simp only [*]; omega) | (refine m_get 0 ?_; simp only [List.length_set]; omega) | (refine m_get 0 (lt8L ?_); omega) | (refine m_get 0 (lt8B ?_); omega) | rfl)) ?_
          refine RL.q rfl rfl (QW.assign rfl) ?_
          refine RL.nil (thenN ?_)
          refine ⟨(), (trivial), ?_, ?_⟩
          · repeat (first | exact leE_nil | refine leE_cons (by first | rfl | (simp only [bxY]; (first | rw [if_pos hc2'] | rw [if_neg hc2']); rfl)) ?_)
          · exact List.Sublist.refl _
        · have hc2' : ¬ k > 0 := by simpa using hc2
          refine CW.skip (thenN ?_)
          refine ⟨(), (trivial), ?_, ?_⟩
          · repeat (first | exact leE_nil | refine leE_cons (by first | rfl | (simp only [bxY]; (first | rw [if_pos hc2'] | rw [if_neg hc2']); rfl)) ?_)
          · exact List.Sublist.refl _
      · intro _u _hI
        refine CW.seq ?_
        refine CW.region (by kernel_rfl) ?_
        refine RL.q rfl rfl (QW.assign rfl) ?_
        refine RL.nil (thenN ?_)
        refine CW.seq ?_
        refine CW.seq ?_
        refine CW.region (by kernel_rfl) ?_
        refine RL.q rfl rfl (QW.move rfl) ?_
        refine RL.nil (thenN ?_)
        refine CW.block ?_
        refine CW.loopT (ι := Nat) [(0, _), (1, _), (2, _), (3, _), (6, _), (7, _), (25, _), (26, _), (27, _)] (by repeat (first | exact leE_nil | refine leE_cons rfl ?_)) (fun q => q ≤ 5) (fun q r => (38, nI q) :: (8, u8 (bx3 (bxY k) q)) :: r) (fun q => (b3, blk ((bx1 255).2.1.map u8) 177) :: (b2, blk ((bx1 255).1.map u8) 177) :: (b1, blk ((bx2 k).2.map u8) 177) :: (b0, blk ((bx2 k).1.map u8) 177) :: S) (fun q => 5 - q) 0 (by omega) (by repeat (first | exact leE_nil | refine leE_cons (by first | rfl | (rfl)) ?_)) (by repeat (first | exact List.Sublist.refl _ | (refine keepS ?_ ?_; with_reducible rfl) | (refine keepA ?_ ?_; with_reducible rfl) | (refine keepS ?_ ?_; rfl) | apply dropS | apply dropA)) ?_
        intro q hI2
        refine CW.seq ?_
        refine CW.region (by kernel_rfl) ?_
        refine RL.q rfl rfl (QW.lss rfl rfl (dI_lt _ 5)) ?_
        refine RL.nil (thenN ?_)
        refine CW.seq ?_
        refine CW.cond rfl (fun hc3 => ?_) (fun hc3 => ?_)
        · have hq : q < 5 := by simpa using hc3
          refine CW.skip (thenN ?_)
          refine CW.seq ?_
          refine CW.block ?_
          refine CW.seq ?_
          refine CW.region (by kernel_rfl) ?_
          refine RL.q rfl rfl (QW.move rfl) ?_
          refine RL.q rfl rfl (QW.assign rfl) ?_
          refine RL.nil (thenN ?_)
          refine CW.drawnS 11 (by rw [mixed]; rfl) (by kernel_rfl) (by kernel_rfl) (by kernel_rfl) (fun _ _ _ h => h) ?_
          refine DL.take 0 rfl (by kernel_rfl) (by kernel_rfl) (by kernel_rfl) rfl rfl (QW.move rfl) (by intro p hp; repeat (first | exact hp | refine List.mem_cons_of_mem _ ?_)) ?_
          refine DL.take 1 rfl (by kernel_rfl) (by kernel_rfl) (by kernel_rfl) rfl rfl (QW.move rfl) (by intro p hp; repeat (first | exact hp | refine List.mem_cons_of_mem _ ?_)) ?_
          refine DL.take 2 rfl (by kernel_rfl) (by kernel_rfl) (by kernel_rfl) rfl rfl (QW.move rfl) (by intro p hp; repeat (first | exact hp | refine List.mem_cons_of_mem _ ?_)) ?_
          refine DL.take 3 rfl (by kernel_rfl) (by kernel_rfl) (by kernel_rfl) rfl rfl (QW.shl rfl rfl (by omega) (h8_shl _ _)) (by intro p hp; repeat (first | exact hp | refine List.mem_cons_of_mem _ ?_)) ?_
          refine DL.take 4 rfl (by kernel_rfl) (by kernel_rfl) (by kernel_rfl) rfl rfl (QW.move rfl) (by intro p hp; repeat (first | exact hp | refine List.mem_cons_of_mem _ ?_)) ?_
          refine DL.take 5 rfl (by kernel_rfl) (by kernel_rfl) (by kernel_rfl) rfl rfl (QW.move rfl) (by intro p hp; repeat (first | exact hp | refine List.mem_cons_of_mem _ ?_)) ?_
          refine DL.take 6 rfl (by kernel_rfl) (by kernel_rfl) (by kernel_rfl) rfl rfl (QW.sub rfl rfl (wI_sub (a := 8) (b := _) (by omega) (by omega))) (by intro p hp; repeat (first | exact hp | refine List.mem_cons_of_mem _ ?_)) ?_
          refine DL.take 7 rfl (by kernel_rfl) (by kernel_rfl) (by kernel_rfl) rfl rfl (QW.shr rfl rfl (by omega) (h8_shr _ _)) (by intro p hp; repeat (first | exact hp | refine List.mem_cons_of_mem _ ?_)) ?_
          refine DL.take 8 rfl (by kernel_rfl) (by kernel_rfl) (by kernel_rfl) rfl rfl (QW.or_ rfl rfl (x8_or _ _)) (by intro p hp; repeat (first | exact hp | refine List.mem_cons_of_mem _ ?_)) ?_
          refine DL.take 9 rfl (by kernel_rfl) (by kernel_rfl) (by kernel_rfl) rfl rfl (QW.xor_ rfl rfl (x8_xor _ _)) (by intro p hp; repeat (first | exact hp | refine List.mem_cons_of_mem _ ?_)) ?_
          refine DL.take 10 rfl (by kernel_rfl) (by kernel_rfl) (by kernel_rfl) rfl rfl (QW.assign rfl) (by intro p hp; repeat (first | exact hp | refine List.mem_cons_of_mem _ ?_)) ?_
          refine DL.done (by kernel_rfl) (blockN (thenN ?_))
          refine CW.region (by kernel_rfl) ?_
          refine RL.q rfl rfl (QW.add rfl rfl (wI_add (a := _) (b := 1) (by omega))) ?_
          refine RL.q rfl rfl (QW.move rfl) ?_
          refine RL.nil (thenN ?_)
          refine ⟨q + 1, (by omega), (by omega), ?_, ?_⟩
          · repeat (first | exact leE_nil | refine leE_cons rfl ?_)
          · exact List.Sublist.refl _
        · have hq : q = 5 := by simp at hc3; omega
          subst hq
          refine CW.exit (thenX (thenX (blockX (thenN ?_))))
          refine CW.region (by kernel_rfl) ?_
          refine RL.q rfl rfl (QW.move rfl) ?_
          refine RL.q rfl rfl (QW.move rfl) ?_
          refine RL.q rfl rfl (QW.move rfl) ?_
          refine RL.q rfl rfl (QW.move rfl) ?_
          refine RL.q rfl rfl (QW.conv Tryz.runUnderlying3 Tryz.runUnderlying5 rfl (w8_nat _)) ?_
          refine RL.q rfl rfl (QW.indexAddrA Tryz.runUnderlying177 Tryz.sizeOf5 rfl rfl (by omega) (by first | omega | exact lt8 _) (by first | exact ix01 _ | exact ixb1 _ _ | exact ix0m _ _ | exact ixbm _ _ _)) ?_
          refine RL.cons rfl (OW.store1 rfl rfl Tryz.sizeOf5 rfl (by repeat (first | exact List.mem_cons_self | exact List.mem_cons_of_mem _ (by assumption) | assumption | refine List.mem_cons_of_mem _ ?_ | refine List.mem_append_right _ ?_)) (by first | (simp only [List.length_map, List.length_replicate, List.length_cons, List.length_nil, List.length_set, Nat.mul_one] <;> omega) | (rw [List.length_map]; refine lt8B ?_; simp [*]; done) | (rw [List.length_map]; refine lt8L ?_; simp [*]; done) | (simp [*] <;> omega)) (by first | exact m_set _ _ _ | rfl) (by repeat (first | exact Upd.head | apply Upd.tail | apply Upd.tailA)) ?_)
          refine RL.q rfl rfl (QW.indexAddrA Tryz.runUnderlying177 Tryz.sizeOf5 rfl rfl (by omega) (by first | omega | exact lt8 _) (by first | exact ix01 _ | exact ixb1 _ _ | exact ix0m _ _ | exact ixbm _ _ _)) ?_
          refine RL.cons rfl (OW.store1 rfl rfl Tryz.sizeOf5 rfl (by repeat (first | exact List.mem_cons_self | exact List.mem_cons_of_mem _ (by assumption) | assumption | refine List.mem_cons_of_mem _ ?_ | refine List.mem_append_right _ ?_)) (by first | (simp only [List.length_map, List.length_replicate, List.length_cons, List.length_nil, List.length_set, Nat.mul_one] <;> omega) | (rw [List.length_map]; refine lt8B ?_; simp [*]; done) | (rw [List.length_map]; refine lt8L ?_; simp [*]; done) | (simp [*] <;> omega)) (by first | exact m_set _ _ _ | rfl) (by repeat (first | exact Upd.head | apply Upd.tail | apply Upd.tailA)) ?_)
          refine RL.nil (blockN (thenN ?_))
          refine CW.region (by kernel_rfl) ?_
          refine RL.q rfl rfl (QW.add rfl rfl (wI_add (a := _) (b := 1) (by omega))) ?_
          refine RL.q rfl rfl (QW.move rfl) ?_
          refine RL.nil (thenN ?_)
          refine ⟨k + 1, (by omega), (by omega), ?_, ?_⟩
          · repeat (first | exact leE_nil | refine leE_cons rfl ?_)
          · exact List.Sublist.refl _
    · have hk : k = 256 := by simp at hc1; omega
      subst hk
      refine CW.exit (thenX (thenX (blockX (thenN ?_))))
      refine CW.seq ?_
      refine CW.drawnS 3 (by rw [mixed]; rfl) (by kernel_rfl) (by kernel_rfl) (by kernel_rfl) (fun _ _ _ h => h) ?_
      refine DL.take 0 rfl (by kernel_rfl) (by kernel_rfl) (by kernel_rfl) rfl rfl (QW.loadN rfl Tryz.isAgg177 Tryz.sizeOf177 (by repeat (first | exact List.mem_cons_self | exact List.mem_cons_of_mem _ (by assumption) | assumption | refine List.mem_cons_of_mem _ ?_ | refine List.mem_append_right _ ?_)) (by first | (simp only [List.length_map, List.length_replicate, List.length_cons, List.length_nil, List.length_set, Nat.mul_one] <;> omega) | (simp [*] <;> omega)) (by first | (refine m_all_of _ _ ?_; omega) | (refine m_all_of _ _ ?_; simp [*]; done) | exact m_cut _ _ _ | with_reducible rfl)) (by intro p hp; repeat (first | exact hp | refine List.mem_cons_of_mem _ ?_)) ?_
      refine DL.take 1 rfl (by kernel_rfl) (by kernel_rfl) (by kernel_rfl) rfl rfl (QW.loadN rfl Tryz.isAgg177 Tryz.sizeOf177 (by repeat (first | exact List.mem_cons_self | exact List.mem_cons_of_mem _ (by assumption) | assumption | refine List.mem_cons_of_mem _ ?_ | refine List.mem_append_right _ ?_)) (by first | (simp only [List.length_map, List.length_replicate, List.length_cons, List.length_nil, List.length_set, Nat.mul_one] <;> omega) | (simp [*] <;> omega)) (by first | (refine m_all_of _ _ ?_; omega) | (refine m_all_of _ _ ?_; simp [*]; done) | exact m_cut _ _ _ | with_reducible rfl)) (by intro p hp; repeat (first | exact hp | refine List.mem_cons_of_mem _ ?_)) ?_
      refine DL.one 2 (by kernel_rfl) rfl rfl (OW.storeN rfl rfl Tryz.sizeOf177 (by repeat (first | exact List.mem_cons_self | exact List.mem_cons_of_mem _ (by assumption) | assumption | refine List.mem_cons_of_mem _ ?_ | refine List.mem_append_right _ ?_)) (by first | (simp only [List.length_map, List.length_replicate, List.length_cons, List.length_nil, List.length_set, Nat.mul_one] <;> omega) | (simp [*] <;> omega)) (by first | exact m_all (fun _ => rfl) _ | rfl | (simp; done) | (simp only [List.all_cons, List.all_nil, oneB_buf, Bool.true_and, Bool.and_true]; rfl) | (simp [oneB]; done)) (by first | (simp only [List.length_map, List.length_replicate, List.length_cons, List.length_nil, List.length_set, Nat.mul_one] <;> omega) | (simp [*] <;> omega)) (by first | (refine wr_all ?_; simp only [List.length_map, List.length_replicate, List.length_cons, List.length_nil, List.length_set, Nat.mul_one] <;> omega) | (refine wr_all ?_; simp [*]; done) | exact m_wr _ _ _ | with_reducible rfl) (by repeat (first | exact Upd.head | apply Upd.tail | apply Upd.tailA)) ?_)
      refine ⟨fun _ p hp => by repeat (first | exact hp | refine List.mem_cons_of_mem _ ?_), ?_⟩
      refine DL.one 3 (by kernel_rfl) rfl rfl (OW.storeN rfl rfl Tryz.sizeOf177 (by repeat (first | exact List.mem_cons_self | exact List.mem_cons_of_mem _ (by assumption) | assumption | refine List.mem_cons_of_mem _ ?_ | refine List.mem_append_right _ ?_)) (by first | (simp only [List.length_map, List.length_replicate, List.length_cons, List.length_nil, List.length_set, Nat.mul_one] <;> omega) | (simp [*] <;> omega)) (by first | exact m_all (fun _ => rfl) _ | rfl | (simp; done) | (simp only [List.all_cons, List.all_nil, oneB_buf, Bool.true_and, Bool.and_true]; rfl) | (simp [oneB]; done)) (by first | (simp only [List.length_map, List.length_replicate, List.length_cons, List.length_nil, List.length_set, Nat.mul_one] <;> omega) | (simp [*] <;> omega)) (by first | (refine wr_all ?_; simp only [List.length_map, List.length_replicate, List.length_cons, List.length_nil, List.length_set, Nat.mul_one] <;> omega) | (refine wr_all ?_; simp [*]; done) | exact m_wr _ _ _ | with_reducible rfl) (by repeat (first | exact Upd.head | apply Upd.tail | apply Upd.tailA)) ?_)
      refine ⟨fun h => absurd rfl h, ?_⟩
      refine DL.done (by kernel_rfl) (thenN ?_)
      refine CW.ret (retR (S) (ResOk.two Tryz.results165 (ResV.cellN rfl Tryz.isAgg177 Tryz.sizeOf177 (by repeat (first | exact List.mem_cons_self | exact List.mem_cons_of_mem _ (by assumption) | assumption | refine List.mem_cons_of_mem _ ?_ | refine List.mem_append_right _ ?_)) (by first | (simp only [List.length_map, List.length_replicate, List.length_cons, List.length_nil, List.length_set, Nat.mul_one] <;> omega) | (simp [*] <;> omega)) (by first | (refine m_all_of _ _ ?_; omega) | (refine m_all_of _ _ ?_; simp [*]; done) | exact m_cut _ _ _ | with_reducible rfl)) (ResV.cellN rfl Tryz.isAgg177 Tryz.sizeOf177 (by repeat (first | exact List.mem_cons_self | exact List.mem_cons_of_mem _ (by assumption) | assumption | refine List.mem_cons_of_mem _ ?_ | refine List.mem_append_right _ ?_)) (by first | (simp only [List.length_map, List.length_replicate, List.length_cons, List.length_nil, List.length_set, Nat.mul_one] <;> omega) | (simp [*] <;> omega)) (by first | (refine m_all_of _ _ ?_; omega) | (refine m_all_of _ _ ?_; simp [*]; done) | exact m_cut _ _ _ | with_reducible rfl))) (by repeat (first | exact List.Sublist.refl _ | (refine keepS ?_ ?_; with_reducible rfl) | (refine keepA ?_ ?_; with_reducible rfl) | (refine keepS ?_ ?_; rfl) | apply dropS | apply dropA)) ?_)
      exact ⟨by unfold sTab bTab; rfl, rfl⟩

end Go.Sl