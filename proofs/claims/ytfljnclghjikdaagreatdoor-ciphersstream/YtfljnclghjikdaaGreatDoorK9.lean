/- A part of a proof: the walk. -/
import Derived.Test.YtfljnclghjikdaaGreatDoorProg
import Derived.Test.YtfljnclghjikdaaGreatDoorEngK
import Derived.Test.YtfljnclghjikdaaGreatDoorC5
import Derived.Test.YtfljnclghjikdaaGreatDoorL1
set_option linter.unusedVariables false
set_option linter.unusedSimpArgs false
namespace Go.Sl
open Go.Proofs


set_option maxRecDepth 100000 in
theorem lives_c (S : HL) : CallS Tryz.prog 8 ⟨[]⟩ S fun v S' => v = .bool true ∧ S = S' := by
  refine CallS.enter Tryz.func8 rfl Tryz.ntmps8 (by simp) ?_
  refine CW.seq ?_
  refine CW.region (by kernel_rfl) ?_
  refine RL.q rfl rfl (QW.assign rfl) ?_
  refine RL.nil (thenN ?_)
  refine CW.seq ?_
  refine CW.region (by kernel_rfl) ?_
  refine RL.cons rfl (OW.alloc zv22 rfl ?_)
  intro b1
  refine RL.cons rfl (OW.alloc zv22 rfl ?_)
  intro b2
  refine RL.nil (thenN ?_)
  refine CW.seq ?_
  refine CW.seq ?_
  refine CW.region (by kernel_rfl) ?_
  refine RL.q rfl rfl (QW.assign rfl) ?_
  refine RL.nil (thenN ?_)
  refine CW.block ?_
  refine CW.loopT (ι := Nat) [(0, _), (1, _), (2, _)] (by repeat (first | exact leE_nil | refine leE_cons rfl ?_)) (fun i => i ≤ 16) (fun i r => (3, nI i) :: r) (fun i => (b2, blk ((lB i).map u8) 22) :: (b1, blk ((lK i).map u8) 22) :: S) (fun i => 16 - i) 0 (by omega) (by repeat (first | exact leE_nil | refine leE_cons (by first | rfl | (rfl)) ?_)) (by repeat (first | exact List.Sublist.refl _ | (refine keepS ?_ ?_; with_reducible rfl) | (refine keepA ?_ ?_; with_reducible rfl) | (refine keepS ?_ ?_; rfl) | apply dropS | apply dropA)) ?_
  intro i hI
  have hlk := lK_len i
  have hlb := lB_len i
  refine CW.seq ?_
  refine CW.seq ?_
  refine CW.region (by kernel_rfl) ?_
  refine RL.q rfl rfl (QW.move rfl) ?_
  refine RL.q rfl rfl (QW.lss rfl rfl (dI_lt _ 16)) ?_
  refine RL.nil (thenN ?_)
  refine CW.cond rfl (fun hc0 => ?_) (fun hc0 => ?_)
  · have hi : i < 16 := by simpa using hc0
    refine CW.skip (thenN ?_)
    refine CW.seq ?_
    refine CW.block ?_
    refine CW.seq ?_
    refine CW.region (by kernel_rfl) ?_
    refine RL.q rfl rfl (QW.move rfl) ?_
    refine RL.q rfl rfl (QW.move rfl) ?_
    refine RL.q rfl rfl (QW.conv Tryz.runUnderlying3 Tryz.runUnderlying5 rfl (w8_nat _)) ?_
    refine RL.q rfl rfl (QW.indexAddrA Tryz.runUnderlying22 Tryz.sizeOf5 rfl rfl (by omega) (by first | omega | exact lt8 _) (by first | exact ix01 _ | exact ixb1 _ _ | exact ix0m _ _ | exact ixbm _ _ _)) ?_
    refine RL.cons rfl (OW.store1 rfl rfl Tryz.sizeOf5 rfl (by repeat (first | exact List.mem_cons_self | exact List.mem_cons_of_mem _ (by assumption) | assumption | refine List.mem_cons_of_mem _ ?_ | refine List.mem_append_right _ ?_)) (by first | (simp only [List.length_map, List.length_replicate, List.length_cons, List.length_nil, List.length_set, Nat.mul_one] <;> omega) | (rw [List.length_map]; refine lt8B ?_; simp [*]; done) | (rw [List.length_map]; refine lt8L ?_; simp [*]; done) | (simp [*] <;> omega)) (by first | exact m_set _ _ _ | rfl) (by repeat (first | exact Upd.head | apply Upd.tail | apply Upd.tailA)) ?_)
    refine RL.nil (thenN ?_)
    refine CW.region (by kernel_rfl) ?_
    refine RL.q rfl rfl (QW.move rfl) ?_
    refine RL.q rfl rfl (QW.move rfl) ?_
    refine RL.q rfl rfl (QW.mul rfl rfl (wI_mul (a := 17) (b := _) (by omega))) ?_
    refine RL.q rfl rfl (QW.conv Tryz.runUnderlying3 Tryz.runUnderlying5 rfl (w8_nat _)) ?_
    refine RL.q rfl rfl (QW.indexAddrA Tryz.runUnderlying22 Tryz.sizeOf5 rfl rfl (by omega) (by first | omega | exact lt8 _) (by first | exact ix01 _ | exact ixb1 _ _ | exact ix0m _ _ | exact ixbm _ _ _)) ?_
    refine RL.cons rfl (OW.store1 rfl rfl Tryz.sizeOf5 rfl (by repeat (first | exact List.mem_cons_self | exact List.mem_cons_of_mem _ (by assumption) | assumption | refine List.mem_cons_of_mem _ ?_ | refine List.mem_append_right _ ?_)) (by first | (simp only [List.length_map, List.length_replicate, List.length_cons, List.length_nil, List.length_set, Nat.mul_one] <;> omega) | (rw [List.length_map]; refine lt8B ?_; simp [*]; done) | (rw [List.length_map]; refine lt8L ?_; simp [*]; done) | (simp [*] <;> omega)) (by first | exact m_set _ _ _ | rfl) (by repeat (first | exact Upd.head | apply Upd.tail | apply Upd.tailA)) ?_)
    refine RL.nil (blockN (thenN ?_))
    refine CW.region (by kernel_rfl) ?_
    refine RL.q rfl rfl (QW.move rfl) ?_
    refine RL.q rfl rfl (QW.add rfl rfl (wI_add (a := _) (b := 1) (by omega))) ?_
    refine RL.q rfl rfl (QW.assign rfl) ?_
    refine RL.nil (thenN ?_)
    refine ⟨i + 1, (by omega), (by omega), ?_, ?_⟩
    · repeat (first | exact leE_nil | refine leE_cons rfl ?_)
    · exact List.Sublist.refl _
  · have hi : i = 16 := by simp at hc0; omega
    subst hi
    refine CW.exit (thenX (thenX (blockX (thenN ?_))))
    refine CW.seq ?_
    refine CW.region (by kernel_rfl) ?_
    refine RL.q rfl rfl (QW.buildA (cells := wantF.map u8) (ps := [(0, u8 105), (1, u8 196), (2, u8 224), (3, u8 216), (4, u8 106), (5, u8 123), (6, u8 4), (7, u8 48), (8, u8 216), (9, u8 205), (10, u8 183), (11, u8 128), (12, u8 112), (13, u8 180), (14, u8 197), (15, u8 90)]) Tryz.runUnderlying22 Tryz.sizeOf5 zv22 (parts_of rfl) rfl) ?_
    refine RL.cons rfl (OW.alloc zv22 rfl ?_)
    intro b4
    refine RL.cons rfl (OW.storeN rfl rfl Tryz.sizeOf22 (by repeat (first | exact List.mem_cons_self | exact List.mem_cons_of_mem _ (by assumption) | assumption | refine List.mem_cons_of_mem _ ?_ | refine List.mem_append_right _ ?_)) (by first | (simp only [List.length_map, List.length_replicate, List.length_cons, List.length_nil, List.length_set, Nat.mul_one] <;> omega) | (simp [*] <;> omega)) (by first | exact m_all (fun _ => rfl) _ | rfl | (simp; done) | (simp only [List.all_cons, List.all_nil, oneB_buf, Bool.true_and, Bool.and_true]; rfl) | (simp [oneB]; done)) (by first | (simp only [List.length_map, List.length_replicate, List.length_cons, List.length_nil, List.length_set, Nat.mul_one] <;> omega) | (simp [*] <;> omega)) (by first | (refine wr_all ?_; simp only [List.length_map, List.length_replicate, List.length_cons, List.length_nil, List.length_set, Nat.mul_one] <;> omega) | (refine wr_all ?_; simp [*]; done) | exact m_wr _ _ _ | with_reducible rfl) (by repeat (first | exact Upd.head | apply Upd.tail | apply Upd.tailA)) ?_)
    refine RL.nil (thenN ?_)
    refine CW.seq ?_
    refine CW.drawnS 20 (by rw [mixed]; rfl) (by kernel_rfl) (by kernel_rfl) (by kernel_rfl) (fun _ _ _ h => h) ?_
    refine DL.take 0 rfl (by kernel_rfl) (by kernel_rfl) (by kernel_rfl) rfl rfl (QW.loadN rfl Tryz.isAgg22 Tryz.sizeOf22 (by repeat (first | exact List.mem_cons_self | exact List.mem_cons_of_mem _ (by assumption) | assumption | refine List.mem_cons_of_mem _ ?_ | refine List.mem_append_right _ ?_)) (by first | (simp only [List.length_map, List.length_replicate, List.length_cons, List.length_nil, List.length_set, Nat.mul_one] <;> omega) | (simp [*] <;> omega)) (by first | (refine m_all_of _ _ ?_; omega) | (refine m_all_of _ _ ?_; simp [*]; done) | exact m_cut _ _ _ | with_reducible rfl)) (by intro p hp; repeat (first | exact hp | refine List.mem_cons_of_mem _ ?_)) ?_
    refine DL.take 1 rfl (by kernel_rfl) (by kernel_rfl) (by kernel_rfl) rfl rfl (QW.loadN rfl Tryz.isAgg22 Tryz.sizeOf22 (by repeat (first | exact List.mem_cons_self | exact List.mem_cons_of_mem _ (by assumption) | assumption | refine List.mem_cons_of_mem _ ?_ | refine List.mem_append_right _ ?_)) (by first | (simp only [List.length_map, List.length_replicate, List.length_cons, List.length_nil, List.length_set, Nat.mul_one] <;> omega) | (simp [*] <;> omega)) (by first | (refine m_all_of _ _ ?_; omega) | (refine m_all_of _ _ ?_; simp [*]; done) | exact m_cut _ _ _ | with_reducible rfl)) (by intro p hp; repeat (first | exact hp | refine List.mem_cons_of_mem _ ?_)) ?_
    refine DL.take 3 rfl (by kernel_rfl) (by kernel_rfl) (by kernel_rfl) rfl rfl (QW.loadN rfl Tryz.isAgg22 Tryz.sizeOf22 (by repeat (first | exact List.mem_cons_self | exact List.mem_cons_of_mem _ (by assumption) | assumption | refine List.mem_cons_of_mem _ ?_ | refine List.mem_append_right _ ?_)) (by first | (simp only [List.length_map, List.length_replicate, List.length_cons, List.length_nil, List.length_set, Nat.mul_one] <;> omega) | (simp [*] <;> omega)) (by first | (refine m_all_of _ _ ?_; omega) | (refine m_all_of _ _ ?_; simp [*]; done) | exact m_cut _ _ _ | with_reducible rfl)) (by intro p hp; repeat (first | exact hp | refine List.mem_cons_of_mem _ ?_)) ?_
    refine DL.one 2 (by kernel_rfl) rfl rfl (OW.call Tryz.call61 (ext2 rfl rfl) ((Block_c _ _ _ (by simp) (by simp)).mono ?_))
    rintro v S' ⟨rfl, rfl⟩
    refine ⟨fun _ p hp => by repeat (first | exact hp | refine List.mem_cons_of_mem _ ?_), ?_⟩
    refine DL.take 4 rfl (by kernel_rfl) (by kernel_rfl) (by kernel_rfl) rfl rfl (QW.eqlA (xs := encF (machF (lK 16)) (lB 16)) (ys := wantF) (tr := true) (i := Tryz.t5) rfl rfl Tryz.eqGuardType22 Tryz.underlying22 (by kernel_rfl) (by kernel_rfl) Tryz.underlying5 (by kernel_rfl) (encF_len _ _) wantF_len (decide_eq_true lives_enc)) (by intro p hp; repeat (first | exact hp | refine List.mem_cons_of_mem _ ?_)) ?_
    refine DL.take 5 rfl (by kernel_rfl) (by kernel_rfl) (by kernel_rfl) rfl rfl (QW.move rfl) (by intro p hp; repeat (first | exact hp | refine List.mem_cons_of_mem _ ?_)) ?_
    first | (refine DL.pass 6 rfl (by kernel_rfl) (by kernel_rfl) (by kernel_rfl) rfl rfl (by intro p hp; repeat (first | exact hp | refine List.mem_cons_of_mem _ ?_)) ?_) | (refine DL.take 6 rfl (by kernel_rfl) (by kernel_rfl) (by kernel_rfl) rfl rfl (QW.loadN rfl Tryz.isAgg22 Tryz.sizeOf22 (by repeat (first | exact List.mem_cons_self | exact List.mem_cons_of_mem _ (by assumption) | assumption | refine List.mem_cons_of_mem _ ?_ | refine List.mem_append_right _ ?_)) (by first | (simp only [List.length_map, List.length_replicate, List.length_cons, List.length_nil, List.length_set, Nat.mul_one] <;> omega) | (simp [*] <;> omega)) (by first | (refine m_all_of _ _ ?_; omega) | (refine m_all_of _ _ ?_; simp [*]; done) | exact m_cut _ _ _ | with_reducible rfl)) (by intro p hp; repeat (first | exact hp | refine List.mem_cons_of_mem _ ?_)) ?_)
    first | (refine DL.pass 7 rfl (by kernel_rfl) (by kernel_rfl) (by kernel_rfl) rfl rfl (by intro p hp; repeat (first | exact hp | refine List.mem_cons_of_mem _ ?_)) ?_) | (refine DL.take 7 rfl (by kernel_rfl) (by kernel_rfl) (by kernel_rfl) rfl rfl (QW.loadN rfl Tryz.isAgg22 Tryz.sizeOf22 (by repeat (first | exact List.mem_cons_self | exact List.mem_cons_of_mem _ (by assumption) | assumption | refine List.mem_cons_of_mem _ ?_ | refine List.mem_append_right _ ?_)) (by first | (simp only [List.length_map, List.length_replicate, List.length_cons, List.length_nil, List.length_set, Nat.mul_one] <;> omega) | (simp [*] <;> omega)) (by first | (refine m_all_of _ _ ?_; omega) | (refine m_all_of _ _ ?_; simp [*]; done) | exact m_cut _ _ _ | with_reducible rfl)) (by intro p hp; repeat (first | exact hp | refine List.mem_cons_of_mem _ ?_)) ?_)
    first | (refine DL.pass 9 rfl (by kernel_rfl) (by kernel_rfl) (by kernel_rfl) rfl rfl (by intro p hp; repeat (first | exact hp | refine List.mem_cons_of_mem _ ?_)) ?_) | (refine DL.take 9 rfl (by kernel_rfl) (by kernel_rfl) (by kernel_rfl) rfl rfl (QW.loadN rfl Tryz.isAgg22 Tryz.sizeOf22 (by repeat (first | exact List.mem_cons_self | exact List.mem_cons_of_mem _ (by assumption) | assumption | refine List.mem_cons_of_mem _ ?_ | refine List.mem_append_right _ ?_)) (by first | (simp only [List.length_map, List.length_replicate, List.length_cons, List.length_nil, List.length_set, Nat.mul_one] <;> omega) | (simp [*] <;> omega)) (by first | (refine m_all_of _ _ ?_; omega) | (refine m_all_of _ _ ?_; simp [*]; done) | exact m_cut _ _ _ | with_reducible rfl)) (by intro p hp; repeat (first | exact hp | refine List.mem_cons_of_mem _ ?_)) ?_)
    refine DL.one 8 (by kernel_rfl) rfl rfl (OW.call Tryz.call62 (ext2 rfl rfl) ((Back_c _ _ _ (by simp) (by simp)).mono ?_))
    rintro v S' ⟨rfl, rfl⟩
    refine ⟨fun _ p hp => by repeat (first | exact hp | refine List.mem_cons_of_mem _ ?_), ?_⟩
    first | (refine DL.pass 10 rfl (by kernel_rfl) (by kernel_rfl) (by kernel_rfl) rfl rfl (by intro p hp; repeat (first | exact hp | refine List.mem_cons_of_mem _ ?_)) ?_) | (refine DL.take 10 rfl (by kernel_rfl) (by kernel_rfl) (by kernel_rfl) rfl rfl (QW.eqlA (xs := decF (machF (lK 16)) wantF) (ys := lB 16) (tr := true) (i := Tryz.t5) rfl rfl Tryz.eqGuardType22 Tryz.underlying22 (by kernel_rfl) (by kernel_rfl) Tryz.underlying5 (by kernel_rfl) (decF_len wantF_len) (lB_len _) (decide_eq_true lives_dec)) (by intro p hp; repeat (first | exact hp | refine List.mem_cons_of_mem _ ?_)) ?_)
    refine DL.take 11 rfl (by kernel_rfl) (by kernel_rfl) (by kernel_rfl) rfl rfl ((by first | exact QW.pick_t rfl rfl | exact QW.pick_f rfl rfl)) (by intro p hp; repeat (first | exact hp | refine List.mem_cons_of_mem _ ?_)) ?_
    refine DL.take 12 rfl (by kernel_rfl) (by kernel_rfl) (by kernel_rfl) rfl rfl (QW.move rfl) (by intro p hp; repeat (first | exact hp | refine List.mem_cons_of_mem _ ?_)) ?_
    first | (refine DL.pass 13 rfl (by kernel_rfl) (by kernel_rfl) (by kernel_rfl) rfl rfl (by intro p hp; repeat (first | exact hp | refine List.mem_cons_of_mem _ ?_)) ?_) | (refine DL.take 13 rfl (by kernel_rfl) (by kernel_rfl) (by kernel_rfl) rfl rfl (QW.loadN rfl Tryz.isAgg22 Tryz.sizeOf22 (by repeat (first | exact List.mem_cons_self | exact List.mem_cons_of_mem _ (by assumption) | assumption | refine List.mem_cons_of_mem _ ?_ | refine List.mem_append_right _ ?_)) (by first | (simp only [List.length_map, List.length_replicate, List.length_cons, List.length_nil, List.length_set, Nat.mul_one] <;> omega) | (simp [*] <;> omega)) (by first | (refine m_all_of _ _ ?_; omega) | (refine m_all_of _ _ ?_; simp [*]; done) | exact m_cut _ _ _ | with_reducible rfl)) (by intro p hp; repeat (first | exact hp | refine List.mem_cons_of_mem _ ?_)) ?_)
    first | (refine DL.pass 14 rfl (by kernel_rfl) (by kernel_rfl) (by kernel_rfl) rfl rfl (by intro p hp; repeat (first | exact hp | refine List.mem_cons_of_mem _ ?_)) ?_) | (refine DL.take 14 rfl (by kernel_rfl) (by kernel_rfl) (by kernel_rfl) rfl rfl (QW.loadN rfl Tryz.isAgg22 Tryz.sizeOf22 (by repeat (first | exact List.mem_cons_self | exact List.mem_cons_of_mem _ (by assumption) | assumption | refine List.mem_cons_of_mem _ ?_ | refine List.mem_append_right _ ?_)) (by first | (simp only [List.length_map, List.length_replicate, List.length_cons, List.length_nil, List.length_set, Nat.mul_one] <;> omega) | (simp [*] <;> omega)) (by first | (refine m_all_of _ _ ?_; omega) | (refine m_all_of _ _ ?_; simp [*]; done) | exact m_cut _ _ _ | with_reducible rfl)) (by intro p hp; repeat (first | exact hp | refine List.mem_cons_of_mem _ ?_)) ?_)
    refine DL.one 15 (by kernel_rfl) rfl rfl (OW.call Tryz.call10 (ext3 rfl rfl rfl) ((Stream_nil _ _ _ _ _).mono ?_))
    rintro v S' ⟨rfl, rfl⟩
    refine ⟨fun _ p hp => by repeat (first | exact hp | refine List.mem_cons_of_mem _ ?_), ?_⟩
    first | (refine DL.pass 16 rfl (by kernel_rfl) (by kernel_rfl) (by kernel_rfl) rfl rfl (by intro p hp; repeat (first | exact hp | refine List.mem_cons_of_mem _ ?_)) ?_) | (refine DL.take 16 rfl (by kernel_rfl) (by kernel_rfl) (by kernel_rfl) rfl rfl (QW.len_s Tryz.runUnderlying23 rfl) (by intro p hp; repeat (first | exact hp | refine List.mem_cons_of_mem _ ?_)) ?_)
    first | (refine DL.pass 17 rfl (by kernel_rfl) (by kernel_rfl) (by kernel_rfl) rfl rfl (by intro p hp; repeat (first | exact hp | refine List.mem_cons_of_mem _ ?_)) ?_) | (refine DL.take 17 rfl (by kernel_rfl) (by kernel_rfl) (by kernel_rfl) rfl rfl (QW.eql rfl rfl (dI_eq _ 0)) (by intro p hp; repeat (first | exact hp | refine List.mem_cons_of_mem _ ?_)) ?_)
    refine DL.take 18 rfl (by kernel_rfl) (by kernel_rfl) (by kernel_rfl) rfl rfl ((by first | exact QW.pick_t rfl rfl | exact QW.pick_f rfl rfl)) (by intro p hp; repeat (first | exact hp | refine List.mem_cons_of_mem _ ?_)) ?_
    refine DL.take 19 rfl (by kernel_rfl) (by kernel_rfl) (by kernel_rfl) rfl rfl (QW.assign rfl) (by intro p hp; repeat (first | exact hp | refine List.mem_cons_of_mem _ ?_)) ?_
    refine DL.done (by kernel_rfl) (thenN ?_)
    refine CW.ret (retR (S) (ResOk.one Tryz.results8 (ResV.tmp rfl)) (by repeat (first | exact List.Sublist.refl _ | (refine keepS ?_ ?_; with_reducible rfl) | (refine keepA ?_ ?_; with_reducible rfl) | (refine keepS ?_ ?_; rfl) | apply dropS | apply dropA)) ?_)
    exact ⟨rfl, rfl⟩

end Go.Sl
