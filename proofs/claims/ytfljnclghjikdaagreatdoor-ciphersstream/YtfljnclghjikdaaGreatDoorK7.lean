/- A part of a proof: the walk. -/
import Derived.Test.YtfljnclghjikdaaGreatDoorProg
import Derived.Test.YtfljnclghjikdaaGreatDoorK4
import Derived.Test.YtfljnclghjikdaaGreatDoorK2
set_option linter.unusedVariables false
set_option linter.unusedSimpArgs false
namespace Go.Sl
open Go.Proofs


set_option maxRecDepth 100000 in
theorem lookByte_c (bk gb cap : Nat) (tl rest : List Value) (a1 a2 d1 d2 : Option Addr) (c1 c2 e1 e2 : Nat) (xs1 xs2 ys1 ys2 : List UInt8) (S : HL) (hm1 : (bk, blk (nI 2 :: sl gb 0 2 cap :: tl) 43) ∈ S) (hm2 : (gb, blk ([.slice a1 xs1.length c1, .slice d1 ys1.length e1, nI 1, .slice a2 xs2.length c2, .slice d2 ys2.length e2, nI 2] ++ rest) 187) ∈ S) (hv1 : RdB S (.slice a1 xs1.length c1) xs1) (hw1 : RdB S (.slice d1 ys1.length e1) ys1) (hl1 : ys1.length = xs1.length + 40) (hall1 : ∀ k, k < xs1.length → xs1.getD k 0 = UInt8.ofNat 1) (haly1 : ∀ k, k < ys1.length → ys1.getD k 0 = UInt8.ofNat 1) (hb1 : xs1.length ≤ 1000000) (hv2 : RdB S (.slice a2 xs2.length c2) xs2) (hw2 : RdB S (.slice d2 ys2.length e2) ys2) (hl2 : ys2.length = xs2.length + 40) (hall2 : ∀ k, k < xs2.length → xs2.getD k 0 = UInt8.ofNat 2) (haly2 : ∀ k, k < ys2.length → ys2.getD k 0 = UInt8.ofNat 2) (hb2 : xs2.length ≤ 1000000) : CallS Tryz.prog 98 ⟨[ptr bk 0]⟩ S fun v S' => v = .bool true ∧ S = S' := by
  refine CallS.enter Tryz.func98 rfl Tryz.ntmps98 (by simp) ?_
  refine CW.seq ?_
  refine CW.region (by kernel_rfl) ?_
  refine RL.q rfl rfl (QW.assign rfl) ?_
  refine RL.nil (thenN ?_)
  refine CW.seq ?_
  refine CW.seq ?_
  refine CW.region (by kernel_rfl) ?_
  refine RL.q rfl rfl (QW.assign rfl) ?_
  refine RL.nil (thenN ?_)
  refine CW.block ?_
  refine CW.loopT (ι := Nat) [(0, _)] (by repeat (first | exact leE_nil | refine leE_cons rfl ?_)) (fun i => 0 = i ∨ 1 = i ∨ 2 = i) (fun i r => (3, nI i) :: r) (fun i => S) (fun i => 2 - i) 0 (.inl rfl) (by repeat (first | exact leE_nil | refine leE_cons (by first | rfl | (rfl)) ?_)) (by repeat (first | exact List.Sublist.refl _ | (refine keepS ?_ ?_; with_reducible rfl) | (refine keepA ?_ ?_; with_reducible rfl) | (refine keepS ?_ ?_; rfl) | apply dropS | apply dropA)) ?_
  intro i hI
  rcases hI with rfl | rfl | rfl
  · refine CW.seq ?_
    refine CW.seq ?_
    refine CW.region (by kernel_rfl) ?_
    refine RL.q rfl rfl (QW.move rfl) ?_
    refine RL.q rfl rfl (QW.move rfl) ?_
    refine RL.q rfl rfl (QW.nilCheck rfl) ?_
    refine RL.q rfl rfl (QW.fieldAddr Tryz.runUnderlying43 rfl Tryz.sizeOf27 (by decide) rfl (by first | exact fo0 1 | exact foB _ 1)) ?_
    refine RL.q rfl rfl (QW.load1 rfl Tryz.isAgg27 hm1 rfl) ?_
    refine RL.q rfl rfl (QW.len_s Tryz.runUnderlying27 rfl) ?_
    refine RL.q rfl rfl (QW.lss rfl rfl (dI_lt _ _)) ?_
    refine RL.nil (thenN ?_)
    refine CW.cond_true rfl ?_
    refine CW.skip (thenN ?_)
    refine CW.seq ?_
    refine CW.block ?_
    refine CW.seq ?_
    refine CW.region (by kernel_rfl) ?_
    refine RL.q rfl rfl (QW.move rfl) ?_
    refine RL.q rfl rfl (QW.nilCheck rfl) ?_
    refine RL.q rfl rfl (QW.fieldAddr Tryz.runUnderlying43 rfl Tryz.sizeOf27 (by decide) rfl (by first | exact fo0 1 | exact foB _ 1)) ?_
    refine RL.q rfl rfl (QW.load1 rfl Tryz.isAgg27 hm1 rfl) ?_
    refine RL.q rfl rfl (QW.move rfl) ?_
    refine RL.q rfl rfl (QW.indexAddrS Tryz.runUnderlying27 Tryz.sizeOf187 rfl rfl (by omega) (by first | omega | decide) (by first | exact ix01 _ | exact ixb1 _ _ | exact ix0m _ _)) ?_
    refine RL.q rfl rfl (QW.loadN (r := [.slice a1 xs1.length c1, .slice d1 ys1.length e1, nI 1]) rfl Tryz.isAgg187 Tryz.sizeOf187 hm2 (by simp) (by rfl)) ?_
    refine RL.cons rfl (OW.alloc zv187 rfl ?_)
    intro b4
    refine RL.cons rfl (OW.storeN rfl rfl Tryz.sizeOf187 (by repeat (first | exact List.mem_cons_self | exact List.mem_cons_of_mem _ (by assumption) | assumption | refine List.mem_cons_of_mem _ ?_ | refine List.mem_append_right _ ?_)) (by first | (simp only [List.length_map, List.length_replicate, List.length_cons, List.length_nil, List.length_set, Nat.mul_one] <;> omega) | (simp [*] <;> omega)) (by first | exact m_all (fun _ => rfl) _ | rfl | (simp; done) | (simp only [List.all_cons, List.all_nil, oneB_buf, Bool.true_and, Bool.and_true]; rfl) | (simp [oneB]; done)) (by first | (simp only [List.length_map, List.length_replicate, List.length_cons, List.length_nil, List.length_set, Nat.mul_one] <;> omega) | (simp [*] <;> omega)) (by first | (refine wr_all ?_; simp only [List.length_map, List.length_replicate, List.length_cons, List.length_nil, List.length_set, Nat.mul_one] <;> omega) | (refine wr_all ?_; simp [*]; done) | exact m_wr _ _ _ | with_reducible rfl) (by repeat (first | exact Upd.head | apply Upd.tail | apply Upd.tailA)) ?_)
    refine RL.nil (thenN ?_)
    refine CW.seq ?_
    refine CW.seq ?_
    refine CW.region (by kernel_rfl) ?_
    refine RL.q rfl rfl (QW.fieldAddr Tryz.runUnderlying187 rfl Tryz.sizeOf23 (by decide) rfl (by first | exact fo0 1 | exact foB _ 1)) ?_
    refine RL.q rfl rfl (QW.load1 rfl Tryz.isAgg23 (by repeat (first | exact List.mem_cons_self | exact List.mem_cons_of_mem _ (by assumption) | assumption | refine List.mem_cons_of_mem _ ?_ | refine List.mem_append_right _ ?_)) rfl) ?_
    refine RL.q rfl rfl (QW.len_s Tryz.runUnderlying23 rfl) ?_
    refine RL.q rfl rfl (QW.fieldAddr Tryz.runUnderlying187 rfl Tryz.sizeOf23 (by decide) rfl (by first | exact fo0 0 | exact foB _ 0)) ?_
    refine RL.q rfl rfl (QW.load1 rfl Tryz.isAgg23 (by repeat (first | exact List.mem_cons_self | exact List.mem_cons_of_mem _ (by assumption) | assumption | refine List.mem_cons_of_mem _ ?_ | refine List.mem_append_right _ ?_)) rfl) ?_
    refine RL.q rfl rfl (QW.len_s Tryz.runUnderlying23 rfl) ?_
    refine RL.q rfl rfl (QW.add rfl rfl (wI_add (a := _) (b := 40) (by omega))) ?_
    refine RL.q rfl rfl (QW.neq (t := false) rfl rfl (by simp; omega)) ?_
    refine RL.nil (thenN ?_)
    refine CW.cond_false rfl ?_
    refine CW.skip (thenN ?_)
    refine CW.seq ?_
    refine CW.region (by kernel_rfl) ?_
    refine RL.q rfl rfl (QW.assign rfl) ?_
    refine RL.nil (thenN ?_)
    refine CW.block ?_
    refine CW.loopT (ι := Nat) [(0, _), (3, _), (4, _), (6, _), (7, _), (8, _), (9, _), (10, _), (11, _), (12, _), (15, _), (16, _), (17, _), (18, _), (19, _), (20, _), (21, _), (22, _), (23, _), (24, _), (25, _), (26, _), (27, _), (28, _), (29, _)] (by repeat (first | exact leE_nil | refine leE_cons rfl ?_)) (fun k => k ≤ ys1.length) (fun k r => (5, nI k) :: r) (fun k => (b4, blk [.slice a1 xs1.length c1, .slice d1 ys1.length e1, nI 1] 187) :: S) (fun k => ys1.length - k) 0 (by omega) (by repeat (first | exact leE_nil | refine leE_cons (by first | rfl | (rfl)) ?_)) (by repeat (first | exact List.Sublist.refl _ | (refine keepS ?_ ?_; with_reducible rfl) | (refine keepA ?_ ?_; with_reducible rfl) | (refine keepS ?_ ?_; rfl) | apply dropS | apply dropA)) ?_
    intro k hIk
    refine CW.seq ?_
    refine CW.seq ?_
    refine CW.region (by kernel_rfl) ?_
    refine RL.q rfl rfl (QW.move rfl) ?_
    refine RL.q rfl rfl (QW.fieldAddr Tryz.runUnderlying187 rfl Tryz.sizeOf23 (by decide) rfl (by first | exact fo0 1 | exact foB _ 1)) ?_
    refine RL.q rfl rfl (QW.load1 rfl Tryz.isAgg23 (by repeat (first | exact List.mem_cons_self | exact List.mem_cons_of_mem _ (by assumption) | assumption | refine List.mem_cons_of_mem _ ?_ | refine List.mem_append_right _ ?_)) rfl) ?_
    refine RL.q rfl rfl (QW.len_s Tryz.runUnderlying23 rfl) ?_
    refine RL.q rfl rfl (QW.lss rfl rfl (dI_lt _ _)) ?_
    refine RL.nil (thenN ?_)
    refine CW.cond rfl (fun hc2 => ?_) (fun hc2 => ?_)
    · have hk : k < ys1.length := by simpa using hc2
      obtain ⟨gb8, off8, l8, T8, fr8, rfl, hm8, hget8⟩ := RdB.at hw1 (by omega)
      refine CW.skip (thenN ?_)
      refine CW.seq ?_
      refine CW.block ?_
      refine CW.seq ?_
      refine CW.drawnS 27 (by rw [mixed]; rfl) (by kernel_rfl) (by kernel_rfl) (by kernel_rfl) (fun _ _ _ h => h) ?_
      refine DL.take 0 rfl (by kernel_rfl) (by kernel_rfl) (by kernel_rfl) rfl rfl (QW.fieldAddr Tryz.runUnderlying187 rfl Tryz.sizeOf23 (by decide) rfl (by first | exact fo0 1 | exact foB _ 1)) (by intro p hp; repeat (first | exact hp | refine List.mem_cons_of_mem _ ?_)) ?_
      refine DL.take 1 rfl (by kernel_rfl) (by kernel_rfl) (by kernel_rfl) rfl rfl (QW.load1 rfl Tryz.isAgg23 (by repeat (first | exact List.mem_cons_self | exact List.mem_cons_of_mem _ (by assumption) | assumption | refine List.mem_cons_of_mem _ ?_ | refine List.mem_append_right _ ?_)) rfl) (by intro p hp; repeat (first | exact hp | refine List.mem_cons_of_mem _ ?_)) ?_
      refine DL.take 2 rfl (by kernel_rfl) (by kernel_rfl) (by kernel_rfl) rfl rfl (QW.move rfl) (by intro p hp; repeat (first | exact hp | refine List.mem_cons_of_mem _ ?_)) ?_
      refine DL.take 3 rfl (by kernel_rfl) (by kernel_rfl) (by kernel_rfl) rfl rfl (QW.indexAddrS Tryz.runUnderlying23 Tryz.sizeOf5 rfl rfl (by omega) (by first | omega | decide) (by first | exact ix01 _ | exact ixb1 _ _ | exact ix0m _ _)) (by intro p hp; repeat (first | exact hp | refine List.mem_cons_of_mem _ ?_)) ?_
      refine DL.take 4 rfl (by kernel_rfl) (by kernel_rfl) (by kernel_rfl) rfl rfl (QW.load1 rfl Tryz.isAgg5 (List.mem_cons_of_mem _ hm8) (by refine hget8 _ ?_; omega)) (by intro p hp; repeat (first | exact hp | refine List.mem_cons_of_mem _ ?_)) ?_
      refine DL.take 5 rfl (by kernel_rfl) (by kernel_rfl) (by kernel_rfl) rfl rfl (QW.fieldAddr Tryz.runUnderlying187 rfl Tryz.sizeOf3 (by decide) rfl (by first | exact fo0 2 | exact foB _ 2)) (by intro p hp; repeat (first | exact hp | refine List.mem_cons_of_mem _ ?_)) ?_
      refine DL.take 6 rfl (by kernel_rfl) (by kernel_rfl) (by kernel_rfl) rfl rfl (QW.load1 rfl Tryz.isAgg3 (by repeat (first | exact List.mem_cons_self | exact List.mem_cons_of_mem _ (by assumption) | assumption | refine List.mem_cons_of_mem _ ?_ | refine List.mem_append_right _ ?_)) rfl) (by intro p hp; repeat (first | exact hp | refine List.mem_cons_of_mem _ ?_)) ?_
      refine DL.one 7 (by kernel_rfl) rfl rfl (OW.call Tryz.call188 (ext2 rfl rfl) ((isByte_c _ _ _ (by first | exact hall1 _ (by omega) | exact hall2 _ (by omega) | exact haly1 _ (by omega) | exact haly2 _ (by omega))).mono ?_))
      rintro v S' ⟨rfl, rfl⟩
      refine ⟨fun _ p hp => by repeat (first | exact hp | refine List.mem_cons_of_mem _ ?_), ?_⟩
      refine DL.take 8 rfl (by kernel_rfl) (by kernel_rfl) (by kernel_rfl) rfl rfl (QW.not rfl) (by intro p hp; repeat (first | exact hp | refine List.mem_cons_of_mem _ ?_)) ?_
      refine DL.take 9 rfl (by kernel_rfl) (by kernel_rfl) (by kernel_rfl) rfl rfl (QW.move rfl) (by intro p hp; repeat (first | exact hp | refine List.mem_cons_of_mem _ ?_)) ?_
      first | (refine DL.pass 10 rfl (by kernel_rfl) (by kernel_rfl) (by kernel_rfl) rfl rfl (by intro p hp; repeat (first | exact hp | refine List.mem_cons_of_mem _ ?_)) ?_) | (refine DL.take 10 rfl (by kernel_rfl) (by kernel_rfl) (by kernel_rfl) rfl rfl (QW.move rfl) (by intro p hp; repeat (first | exact hp | refine List.mem_cons_of_mem _ ?_)) ?_)
      first | (refine DL.pass 11 rfl (by kernel_rfl) (by kernel_rfl) (by kernel_rfl) rfl rfl (by intro p hp; repeat (first | exact hp | refine List.mem_cons_of_mem _ ?_)) ?_) | (refine DL.take 11 rfl (by kernel_rfl) (by kernel_rfl) (by kernel_rfl) rfl rfl (QW.fieldAddr Tryz.runUnderlying187 rfl Tryz.sizeOf23 (by decide) rfl (by first | exact fo0 0 | exact foB _ 0)) (by intro p hp; repeat (first | exact hp | refine List.mem_cons_of_mem _ ?_)) ?_)
      first | (refine DL.pass 12 rfl (by kernel_rfl) (by kernel_rfl) (by kernel_rfl) rfl rfl (by intro p hp; repeat (first | exact hp | refine List.mem_cons_of_mem _ ?_)) ?_) | (refine DL.take 12 rfl (by kernel_rfl) (by kernel_rfl) (by kernel_rfl) rfl rfl (QW.load1 rfl Tryz.isAgg23 (by repeat (first | exact List.mem_cons_self | exact List.mem_cons_of_mem _ (by assumption) | assumption | refine List.mem_cons_of_mem _ ?_ | refine List.mem_append_right _ ?_)) rfl) (by intro p hp; repeat (first | exact hp | refine List.mem_cons_of_mem _ ?_)) ?_)
      first | (refine DL.pass 13 rfl (by kernel_rfl) (by kernel_rfl) (by kernel_rfl) rfl rfl (by intro p hp; repeat (first | exact hp | refine List.mem_cons_of_mem _ ?_)) ?_) | (refine DL.take 13 rfl (by kernel_rfl) (by kernel_rfl) (by kernel_rfl) rfl rfl (QW.len_s Tryz.runUnderlying23 rfl) (by intro p hp; repeat (first | exact hp | refine List.mem_cons_of_mem _ ?_)) ?_)
      first | (refine DL.pass 14 rfl (by kernel_rfl) (by kernel_rfl) (by kernel_rfl) rfl rfl (by intro p hp; repeat (first | exact hp | refine List.mem_cons_of_mem _ ?_)) ?_) | (refine DL.take 14 rfl (by kernel_rfl) (by kernel_rfl) (by kernel_rfl) rfl rfl (QW.lss rfl rfl (dI_lt _ _)) (by intro p hp; repeat (first | exact hp | refine List.mem_cons_of_mem _ ?_)) ?_)
      cases hs10_15 : decide (k < xs1.length)
      · first | (refine DL.pass 15 rfl (by kernel_rfl) (by kernel_rfl) (by kernel_rfl) rfl rfl (by intro p hp; repeat (first | exact hp | refine List.mem_cons_of_mem _ ?_)) ?_) | (refine DL.take 15 rfl (by kernel_rfl) (by kernel_rfl) (by kernel_rfl) rfl rfl (QW.move rfl) (by intro p hp; repeat (first | exact hp | refine List.mem_cons_of_mem _ ?_)) ?_)
        first | (refine DL.pass 16 rfl (by kernel_rfl) (by kernel_rfl) (by kernel_rfl) rfl rfl (by intro p hp; repeat (first | exact hp | refine List.mem_cons_of_mem _ ?_)) ?_) | (refine DL.take 16 rfl (by kernel_rfl) (by kernel_rfl) (by kernel_rfl) rfl rfl (QW.fieldAddr Tryz.runUnderlying187 rfl Tryz.sizeOf23 (by decide) rfl (by first | exact fo0 0 | exact foB _ 0)) (by intro p hp; repeat (first | exact hp | refine List.mem_cons_of_mem _ ?_)) ?_)
        first | (refine DL.pass 17 rfl (by kernel_rfl) (by kernel_rfl) (by kernel_rfl) rfl rfl (by intro p hp; repeat (first | exact hp | refine List.mem_cons_of_mem _ ?_)) ?_) | (refine DL.take 17 rfl (by kernel_rfl) (by kernel_rfl) (by kernel_rfl) rfl rfl (QW.load1 rfl Tryz.isAgg23 (by repeat (first | exact List.mem_cons_self | exact List.mem_cons_of_mem _ (by assumption) | assumption | refine List.mem_cons_of_mem _ ?_ | refine List.mem_append_right _ ?_)) rfl) (by intro p hp; repeat (first | exact hp | refine List.mem_cons_of_mem _ ?_)) ?_)
        first | (refine DL.pass 18 rfl (by kernel_rfl) (by kernel_rfl) (by kernel_rfl) rfl rfl (by intro p hp; repeat (first | exact hp | refine List.mem_cons_of_mem _ ?_)) ?_) | (refine DL.take 18 rfl (by kernel_rfl) (by kernel_rfl) (by kernel_rfl) rfl rfl (QW.move rfl) (by intro p hp; repeat (first | exact hp | refine List.mem_cons_of_mem _ ?_)) ?_)
        first | (refine DL.pass 19 rfl (by kernel_rfl) (by kernel_rfl) (by kernel_rfl) rfl rfl (by intro p hp; repeat (first | exact hp | refine List.mem_cons_of_mem _ ?_)) ?_) | (refine DL.take 19 rfl (by kernel_rfl) (by kernel_rfl) (by kernel_rfl) rfl rfl (QW.indexAddrS Tryz.runUnderlying23 Tryz.sizeOf5 rfl rfl (by omega) (by first | omega | decide) (by first | exact ix01 _ | exact ixb1 _ _ | exact ix0m _ _)) (by intro p hp; repeat (first | exact hp | refine List.mem_cons_of_mem _ ?_)) ?_)
        first | (refine DL.pass 20 rfl (by kernel_rfl) (by kernel_rfl) (by kernel_rfl) rfl rfl (by intro p hp; repeat (first | exact hp | refine List.mem_cons_of_mem _ ?_)) ?_) | (refine DL.take 20 rfl (by kernel_rfl) (by kernel_rfl) (by kernel_rfl) rfl rfl (QW.load1 rfl Tryz.isAgg5 (List.mem_cons_of_mem _ hm9) (by refine hget9 _ ?_; omega)) (by intro p hp; repeat (first | exact hp | refine List.mem_cons_of_mem _ ?_)) ?_)
        first | (refine DL.pass 21 rfl (by kernel_rfl) (by kernel_rfl) (by kernel_rfl) rfl rfl (by intro p hp; repeat (first | exact hp | refine List.mem_cons_of_mem _ ?_)) ?_) | (refine DL.take 21 rfl (by kernel_rfl) (by kernel_rfl) (by kernel_rfl) rfl rfl (QW.fieldAddr Tryz.runUnderlying187 rfl Tryz.sizeOf3 (by decide) rfl (by first | exact fo0 2 | exact foB _ 2)) (by intro p hp; repeat (first | exact hp | refine List.mem_cons_of_mem _ ?_)) ?_)
        first | (refine DL.pass 22 rfl (by kernel_rfl) (by kernel_rfl) (by kernel_rfl) rfl rfl (by intro p hp; repeat (first | exact hp | refine List.mem_cons_of_mem _ ?_)) ?_) | (refine DL.take 22 rfl (by kernel_rfl) (by kernel_rfl) (by kernel_rfl) rfl rfl (QW.load1 rfl Tryz.isAgg3 (by repeat (first | exact List.mem_cons_self | exact List.mem_cons_of_mem _ (by assumption) | assumption | refine List.mem_cons_of_mem _ ?_ | refine List.mem_append_right _ ?_)) rfl) (by intro p hp; repeat (first | exact hp | refine List.mem_cons_of_mem _ ?_)) ?_)
        refine DL.onePass 23 (by kernel_rfl) rfl rfl (by intro p hp; repeat (first | exact hp | refine List.mem_cons_of_mem _ ?_)) ?_
        first | (refine DL.pass 24 rfl (by kernel_rfl) (by kernel_rfl) (by kernel_rfl) rfl rfl (by intro p hp; repeat (first | exact hp | refine List.mem_cons_of_mem _ ?_)) ?_) | (refine DL.take 24 rfl (by kernel_rfl) (by kernel_rfl) (by kernel_rfl) rfl rfl (QW.not rfl) (by intro p hp; repeat (first | exact hp | refine List.mem_cons_of_mem _ ?_)) ?_)
        first | (refine DL.pass 25 rfl (by kernel_rfl) (by kernel_rfl) (by kernel_rfl) rfl rfl (by intro p hp; repeat (first | exact hp | refine List.mem_cons_of_mem _ ?_)) ?_) | (refine DL.take 25 rfl (by kernel_rfl) (by kernel_rfl) (by kernel_rfl) rfl rfl ((by first | exact QW.pick_t rfl rfl | exact QW.pick_f rfl rfl)) (by intro p hp; repeat (first | exact hp | refine List.mem_cons_of_mem _ ?_)) ?_)
        refine DL.take 26 rfl (by kernel_rfl) (by kernel_rfl) (by kernel_rfl) rfl rfl ((by first | exact QW.pick_t rfl rfl | exact QW.pick_f rfl rfl)) (by intro p hp; repeat (first | exact hp | refine List.mem_cons_of_mem _ ?_)) ?_
        refine DL.done (by kernel_rfl) (thenN ?_)
        refine CW.cond_false rfl ?_
        refine CW.skip (blockN (thenN ?_))
        refine CW.region (by kernel_rfl) ?_
        refine RL.q rfl rfl (QW.move rfl) ?_
        refine RL.q rfl rfl (QW.add rfl rfl (wI_add (a := _) (b := 1) (by omega))) ?_
        refine RL.q rfl rfl (QW.assign rfl) ?_
        refine RL.nil (thenN ?_)
        refine ⟨k + 1, (by omega), (by omega), ?_, ?_⟩
        · repeat (first | exact leE_nil | refine leE_cons rfl ?_)
        · exact List.Sublist.refl _
      · have hkx : k < xs1.length := by simpa using hs10_15
        obtain ⟨gb9, off9, l9, T9, fr9, rfl, hm9, hget9⟩ := RdB.at hv1 (by omega)
        first | (refine DL.pass 15 rfl (by kernel_rfl) (by kernel_rfl) (by kernel_rfl) rfl rfl (by intro p hp; repeat (first | exact hp | refine List.mem_cons_of_mem _ ?_)) ?_) | (refine DL.take 15 rfl (by kernel_rfl) (by kernel_rfl) (by kernel_rfl) rfl rfl (QW.move rfl) (by intro p hp; repeat (first | exact hp | refine List.mem_cons_of_mem _ ?_)) ?_)
        first | (refine DL.pass 16 rfl (by kernel_rfl) (by kernel_rfl) (by kernel_rfl) rfl rfl (by intro p hp; repeat (first | exact hp | refine List.mem_cons_of_mem _ ?_)) ?_) | (refine DL.take 16 rfl (by kernel_rfl) (by kernel_rfl) (by kernel_rfl) rfl rfl (QW.fieldAddr Tryz.runUnderlying187 rfl Tryz.sizeOf23 (by decide) rfl (by first | exact fo0 0 | exact foB _ 0)) (by intro p hp; repeat (first | exact hp | refine List.mem_cons_of_mem _ ?_)) ?_)
        first | (refine DL.pass 17 rfl (by kernel_rfl) (by kernel_rfl) (by kernel_rfl) rfl rfl (by intro p hp; repeat (first | exact hp | refine List.mem_cons_of_mem _ ?_)) ?_) | (refine DL.take 17 rfl (by kernel_rfl) (by kernel_rfl) (by kernel_rfl) rfl rfl (QW.load1 rfl Tryz.isAgg23 (by repeat (first | exact List.mem_cons_self | exact List.mem_cons_of_mem _ (by assumption) | assumption | refine List.mem_cons_of_mem _ ?_ | refine List.mem_append_right _ ?_)) rfl) (by intro p hp; repeat (first | exact hp | refine List.mem_cons_of_mem _ ?_)) ?_)
        first | (refine DL.pass 18 rfl (by kernel_rfl) (by kernel_rfl) (by kernel_rfl) rfl rfl (by intro p hp; repeat (first | exact hp | refine List.mem_cons_of_mem _ ?_)) ?_) | (refine DL.take 18 rfl (by kernel_rfl) (by kernel_rfl) (by kernel_rfl) rfl rfl (QW.move rfl) (by intro p hp; repeat (first | exact hp | refine List.mem_cons_of_mem _ ?_)) ?_)
        first | (refine DL.pass 19 rfl (by kernel_rfl) (by kernel_rfl) (by kernel_rfl) rfl rfl (by intro p hp; repeat (first | exact hp | refine List.mem_cons_of_mem _ ?_)) ?_) | (refine DL.take 19 rfl (by kernel_rfl) (by kernel_rfl) (by kernel_rfl) rfl rfl (QW.indexAddrS Tryz.runUnderlying23 Tryz.sizeOf5 rfl rfl (by omega) (by first | omega | decide) (by first | exact ix01 _ | exact ixb1 _ _ | exact ix0m _ _)) (by intro p hp; repeat (first | exact hp | refine List.mem_cons_of_mem _ ?_)) ?_)
        first | (refine DL.pass 20 rfl (by kernel_rfl) (by kernel_rfl) (by kernel_rfl) rfl rfl (by intro p hp; repeat (first | exact hp | refine List.mem_cons_of_mem _ ?_)) ?_) | (refine DL.take 20 rfl (by kernel_rfl) (by kernel_rfl) (by kernel_rfl) rfl rfl (QW.load1 rfl Tryz.isAgg5 (List.mem_cons_of_mem _ hm9) (by refine hget9 _ ?_; omega)) (by intro p hp; repeat (first | exact hp | refine List.mem_cons_of_mem _ ?_)) ?_)
        first | (refine DL.pass 21 rfl (by kernel_rfl) (by kernel_rfl) (by kernel_rfl) rfl rfl (by intro p hp; repeat (first | exact hp | refine List.mem_cons_of_mem _ ?_)) ?_) | (refine DL.take 21 rfl (by kernel_rfl) (by kernel_rfl) (by kernel_rfl) rfl rfl (QW.fieldAddr Tryz.runUnderlying187 rfl Tryz.sizeOf3 (by decide) rfl (by first | exact fo0 2 | exact foB _ 2)) (by intro p hp; repeat (first | exact hp | refine List.mem_cons_of_mem _ ?_)) ?_)
        first | (refine DL.pass 22 rfl (by kernel_rfl) (by kernel_rfl) (by kernel_rfl) rfl rfl (by intro p hp; repeat (first | exact hp | refine List.mem_cons_of_mem _ ?_)) ?_) | (refine DL.take 22 rfl (by kernel_rfl) (by kernel_rfl) (by kernel_rfl) rfl rfl (QW.load1 rfl Tryz.isAgg3 (by repeat (first | exact List.mem_cons_self | exact List.mem_cons_of_mem _ (by assumption) | assumption | refine List.mem_cons_of_mem _ ?_ | refine List.mem_append_right _ ?_)) rfl) (by intro p hp; repeat (first | exact hp | refine List.mem_cons_of_mem _ ?_)) ?_)
        refine DL.one 23 (by kernel_rfl) rfl rfl (OW.call Tryz.call188 (ext2 rfl rfl) ((isByte_c _ _ _ (by first | exact hall1 _ (by omega) | exact hall2 _ (by omega) | exact haly1 _ (by omega) | exact haly2 _ (by omega))).mono ?_))
        rintro v S' ⟨rfl, rfl⟩
        refine ⟨fun _ p hp => by repeat (first | exact hp | refine List.mem_cons_of_mem _ ?_), ?_⟩
        first | (refine DL.pass 24 rfl (by kernel_rfl) (by kernel_rfl) (by kernel_rfl) rfl rfl (by intro p hp; repeat (first | exact hp | refine List.mem_cons_of_mem _ ?_)) ?_) | (refine DL.take 24 rfl (by kernel_rfl) (by kernel_rfl) (by kernel_rfl) rfl rfl (QW.not rfl) (by intro p hp; repeat (first | exact hp | refine List.mem_cons_of_mem _ ?_)) ?_)
        first | (refine DL.pass 25 rfl (by kernel_rfl) (by kernel_rfl) (by kernel_rfl) rfl rfl (by intro p hp; repeat (first | exact hp | refine List.mem_cons_of_mem _ ?_)) ?_) | (refine DL.take 25 rfl (by kernel_rfl) (by kernel_rfl) (by kernel_rfl) rfl rfl ((by first | exact QW.pick_t rfl rfl | exact QW.pick_f rfl rfl)) (by intro p hp; repeat (first | exact hp | refine List.mem_cons_of_mem _ ?_)) ?_)
        refine DL.take 26 rfl (by kernel_rfl) (by kernel_rfl) (by kernel_rfl) rfl rfl ((by first | exact QW.pick_t rfl rfl | exact QW.pick_f rfl rfl)) (by intro p hp; repeat (first | exact hp | refine List.mem_cons_of_mem _ ?_)) ?_
        refine DL.done (by kernel_rfl) (thenN ?_)
        refine CW.cond_false rfl ?_
        refine CW.skip (blockN (thenN ?_))
        refine CW.region (by kernel_rfl) ?_
        refine RL.q rfl rfl (QW.move rfl) ?_
        refine RL.q rfl rfl (QW.add rfl rfl (wI_add (a := _) (b := 1) (by omega))) ?_
        refine RL.q rfl rfl (QW.assign rfl) ?_
        refine RL.nil (thenN ?_)
        refine ⟨k + 1, (by omega), (by omega), ?_, ?_⟩
        · repeat (first | exact leE_nil | refine leE_cons rfl ?_)
        · exact List.Sublist.refl _
    · have hk : k = ys1.length := by simp at hc2; omega
      subst hk
      refine CW.exit (thenX (thenX (blockX (blockN (thenN ?_)))))
      refine CW.region (by kernel_rfl) ?_
      refine RL.q rfl rfl (QW.move rfl) ?_
      refine RL.q rfl rfl (QW.add rfl rfl (wI_add (a := _) (b := 1) (by omega))) ?_
      refine RL.q rfl rfl (QW.assign rfl) ?_
      refine RL.nil (thenN ?_)
      refine ⟨1, (.inr (.inl rfl)), (by omega), ?_, ?_⟩
      · repeat (first | exact leE_nil | refine leE_cons rfl ?_)
      · exact dropS (List.Sublist.refl _)
  · refine CW.seq ?_
    refine CW.seq ?_
    refine CW.region (by kernel_rfl) ?_
    refine RL.q rfl rfl (QW.move rfl) ?_
    refine RL.q rfl rfl (QW.move rfl) ?_
    refine RL.q rfl rfl (QW.nilCheck rfl) ?_
    refine RL.q rfl rfl (QW.fieldAddr Tryz.runUnderlying43 rfl Tryz.sizeOf27 (by decide) rfl (by first | exact fo0 1 | exact foB _ 1)) ?_
    refine RL.q rfl rfl (QW.load1 rfl Tryz.isAgg27 hm1 rfl) ?_
    refine RL.q rfl rfl (QW.len_s Tryz.runUnderlying27 rfl) ?_
    refine RL.q rfl rfl (QW.lss rfl rfl (dI_lt _ _)) ?_
    refine RL.nil (thenN ?_)
    refine CW.cond_true rfl ?_
    refine CW.skip (thenN ?_)
    refine CW.seq ?_
    refine CW.block ?_
    refine CW.seq ?_
    refine CW.region (by kernel_rfl) ?_
    refine RL.q rfl rfl (QW.move rfl) ?_
    refine RL.q rfl rfl (QW.nilCheck rfl) ?_
    refine RL.q rfl rfl (QW.fieldAddr Tryz.runUnderlying43 rfl Tryz.sizeOf27 (by decide) rfl (by first | exact fo0 1 | exact foB _ 1)) ?_
    refine RL.q rfl rfl (QW.load1 rfl Tryz.isAgg27 hm1 rfl) ?_
    refine RL.q rfl rfl (QW.move rfl) ?_
    refine RL.q rfl rfl (QW.indexAddrS Tryz.runUnderlying27 Tryz.sizeOf187 rfl rfl (by omega) (by first | omega | decide) (by first | exact ix01 _ | exact ixb1 _ _ | exact ix0m _ _)) ?_
    refine RL.q rfl rfl (QW.loadN (r := [.slice a2 xs2.length c2, .slice d2 ys2.length e2, nI 2]) rfl Tryz.isAgg187 Tryz.sizeOf187 hm2 (by simp) (by rfl)) ?_
    refine RL.cons rfl (OW.alloc zv187 rfl ?_)
    intro b4
    refine RL.cons rfl (OW.storeN rfl rfl Tryz.sizeOf187 (by repeat (first | exact List.mem_cons_self | exact List.mem_cons_of_mem _ (by assumption) | assumption | refine List.mem_cons_of_mem _ ?_ | refine List.mem_append_right _ ?_)) (by first | (simp only [List.length_map, List.length_replicate, List.length_cons, List.length_nil, List.length_set, Nat.mul_one] <;> omega) | (simp [*] <;> omega)) (by first | exact m_all (fun _ => rfl) _ | rfl | (simp; done) | (simp only [List.all_cons, List.all_nil, oneB_buf, Bool.true_and, Bool.and_true]; rfl) | (simp [oneB]; done)) (by first | (simp only [List.length_map, List.length_replicate, List.length_cons, List.length_nil, List.length_set, Nat.mul_one] <;> omega) | (simp [*] <;> omega)) (by first | (refine wr_all ?_; simp only [List.length_map, List.length_replicate, List.length_cons, List.length_nil, List.length_set, Nat.mul_one] <;> omega) | (refine wr_all ?_; simp [*]; done) | exact m_wr _ _ _ | with_reducible rfl) (by repeat (first | exact Upd.head | apply Upd.tail | apply Upd.tailA)) ?_)
    refine RL.nil (thenN ?_)
    refine CW.seq ?_
    refine CW.seq ?_
    refine CW.region (by kernel_rfl) ?_
    refine RL.q rfl rfl (QW.fieldAddr Tryz.runUnderlying187 rfl Tryz.sizeOf23 (by decide) rfl (by first | exact fo0 1 | exact foB _ 1)) ?_
    refine RL.q rfl rfl (QW.load1 rfl Tryz.isAgg23 (by repeat (first | exact List.mem_cons_self | exact List.mem_cons_of_mem _ (by assumption) | assumption | refine List.mem_cons_of_mem _ ?_ | refine List.mem_append_right _ ?_)) rfl) ?_
    refine RL.q rfl rfl (QW.len_s Tryz.runUnderlying23 rfl) ?_
    refine RL.q rfl rfl (QW.fieldAddr Tryz.runUnderlying187 rfl Tryz.sizeOf23 (by decide) rfl (by first | exact fo0 0 | exact foB _ 0)) ?_
    refine RL.q rfl rfl (QW.load1 rfl Tryz.isAgg23 (by repeat (first | exact List.mem_cons_self | exact List.mem_cons_of_mem _ (by assumption) | assumption | refine List.mem_cons_of_mem _ ?_ | refine List.mem_append_right _ ?_)) rfl) ?_
    refine RL.q rfl rfl (QW.len_s Tryz.runUnderlying23 rfl) ?_
    refine RL.q rfl rfl (QW.add rfl rfl (wI_add (a := _) (b := 40) (by omega))) ?_
    refine RL.q rfl rfl (QW.neq (t := false) rfl rfl (by simp; omega)) ?_
    refine RL.nil (thenN ?_)
    refine CW.cond_false rfl ?_
    refine CW.skip (thenN ?_)
    refine CW.seq ?_
    refine CW.region (by kernel_rfl) ?_
    refine RL.q rfl rfl (QW.assign rfl) ?_
    refine RL.nil (thenN ?_)
    refine CW.block ?_
    refine CW.loopT (ι := Nat) [(0, _), (3, _), (4, _), (6, _), (7, _), (8, _), (9, _), (10, _), (11, _), (12, _), (15, _), (16, _), (17, _), (18, _), (19, _), (20, _), (21, _), (22, _), (23, _), (24, _), (25, _), (26, _), (27, _), (28, _), (29, _)] (by repeat (first | exact leE_nil | refine leE_cons rfl ?_)) (fun k => k ≤ ys2.length) (fun k r => (5, nI k) :: r) (fun k => (b4, blk [.slice a2 xs2.length c2, .slice d2 ys2.length e2, nI 2] 187) :: S) (fun k => ys2.length - k) 0 (by omega) (by repeat (first | exact leE_nil | refine leE_cons (by first | rfl | (rfl)) ?_)) (by repeat (first | exact List.Sublist.refl _ | (refine keepS ?_ ?_; with_reducible rfl) | (refine keepA ?_ ?_; with_reducible rfl) | (refine keepS ?_ ?_; rfl) | apply dropS | apply dropA)) ?_
    intro k hIk
    refine CW.seq ?_
    refine CW.seq ?_
    refine CW.region (by kernel_rfl) ?_
    refine RL.q rfl rfl (QW.move rfl) ?_
    refine RL.q rfl rfl (QW.fieldAddr Tryz.runUnderlying187 rfl Tryz.sizeOf23 (by decide) rfl (by first | exact fo0 1 | exact foB _ 1)) ?_
    refine RL.q rfl rfl (QW.load1 rfl Tryz.isAgg23 (by repeat (first | exact List.mem_cons_self | exact List.mem_cons_of_mem _ (by assumption) | assumption | refine List.mem_cons_of_mem _ ?_ | refine List.mem_append_right _ ?_)) rfl) ?_
    refine RL.q rfl rfl (QW.len_s Tryz.runUnderlying23 rfl) ?_
    refine RL.q rfl rfl (QW.lss rfl rfl (dI_lt _ _)) ?_
    refine RL.nil (thenN ?_)
    refine CW.cond rfl (fun hc2 => ?_) (fun hc2 => ?_)
    · have hk : k < ys2.length := by simpa using hc2
      obtain ⟨gb8, off8, l8, T8, fr8, rfl, hm8, hget8⟩ := RdB.at hw2 (by omega)
      refine CW.skip (thenN ?_)
      refine CW.seq ?_
      refine CW.block ?_
      refine CW.seq ?_
      refine CW.drawnS 27 (by rw [mixed]; rfl) (by kernel_rfl) (by kernel_rfl) (by kernel_rfl) (fun _ _ _ h => h) ?_
      refine DL.take 0 rfl (by kernel_rfl) (by kernel_rfl) (by kernel_rfl) rfl rfl (QW.fieldAddr Tryz.runUnderlying187 rfl Tryz.sizeOf23 (by decide) rfl (by first | exact fo0 1 | exact foB _ 1)) (by intro p hp; repeat (first | exact hp | refine List.mem_cons_of_mem _ ?_)) ?_
      refine DL.take 1 rfl (by kernel_rfl) (by kernel_rfl) (by kernel_rfl) rfl rfl (QW.load1 rfl Tryz.isAgg23 (by repeat (first | exact List.mem_cons_self | exact List.mem_cons_of_mem _ (by assumption) | assumption | refine List.mem_cons_of_mem _ ?_ | refine List.mem_append_right _ ?_)) rfl) (by intro p hp; repeat (first | exact hp | refine List.mem_cons_of_mem _ ?_)) ?_
      refine DL.take 2 rfl (by kernel_rfl) (by kernel_rfl) (by kernel_rfl) rfl rfl (QW.move rfl) (by intro p hp; repeat (first | exact hp | refine List.mem_cons_of_mem _ ?_)) ?_
      refine DL.take 3 rfl (by kernel_rfl) (by kernel_rfl) (by kernel_rfl) rfl rfl (QW.indexAddrS Tryz.runUnderlying23 Tryz.sizeOf5 rfl rfl (by omega) (by first | omega | decide) (by first | exact ix01 _ | exact ixb1 _ _ | exact ix0m _ _)) (by intro p hp; repeat (first | exact hp | refine List.mem_cons_of_mem _ ?_)) ?_
      refine DL.take 4 rfl (by kernel_rfl) (by kernel_rfl) (by kernel_rfl) rfl rfl (QW.load1 rfl Tryz.isAgg5 (List.mem_cons_of_mem _ hm8) (by refine hget8 _ ?_; omega)) (by intro p hp; repeat (first | exact hp | refine List.mem_cons_of_mem _ ?_)) ?_
      refine DL.take 5 rfl (by kernel_rfl) (by kernel_rfl) (by kernel_rfl) rfl rfl (QW.fieldAddr Tryz.runUnderlying187 rfl Tryz.sizeOf3 (by decide) rfl (by first | exact fo0 2 | exact foB _ 2)) (by intro p hp; repeat (first | exact hp | refine List.mem_cons_of_mem _ ?_)) ?_
      refine DL.take 6 rfl (by kernel_rfl) (by kernel_rfl) (by kernel_rfl) rfl rfl (QW.load1 rfl Tryz.isAgg3 (by repeat (first | exact List.mem_cons_self | exact List.mem_cons_of_mem _ (by assumption) | assumption | refine List.mem_cons_of_mem _ ?_ | refine List.mem_append_right _ ?_)) rfl) (by intro p hp; repeat (first | exact hp | refine List.mem_cons_of_mem _ ?_)) ?_
      refine DL.one 7 (by kernel_rfl) rfl rfl (OW.call Tryz.call188 (ext2 rfl rfl) ((isByte_c _ _ _ (by first | exact hall1 _ (by omega) | exact hall2 _ (by omega) | exact haly1 _ (by omega) | exact haly2 _ (by omega))).mono ?_))
      rintro v S' ⟨rfl, rfl⟩
      refine ⟨fun _ p hp => by repeat (first | exact hp | refine List.mem_cons_of_mem _ ?_), ?_⟩
      refine DL.take 8 rfl (by kernel_rfl) (by kernel_rfl) (by kernel_rfl) rfl rfl (QW.not rfl) (by intro p hp; repeat (first | exact hp | refine List.mem_cons_of_mem _ ?_)) ?_
      refine DL.take 9 rfl (by kernel_rfl) (by kernel_rfl) (by kernel_rfl) rfl rfl (QW.move rfl) (by intro p hp; repeat (first | exact hp | refine List.mem_cons_of_mem _ ?_)) ?_
      first | (refine DL.pass 10 rfl (by kernel_rfl) (by kernel_rfl) (by kernel_rfl) rfl rfl (by intro p hp; repeat (first | exact hp | refine List.mem_cons_of_mem _ ?_)) ?_) | (refine DL.take 10 rfl (by kernel_rfl) (by kernel_rfl) (by kernel_rfl) rfl rfl (QW.move rfl) (by intro p hp; repeat (first | exact hp | refine List.mem_cons_of_mem _ ?_)) ?_)
      first | (refine DL.pass 11 rfl (by kernel_rfl) (by kernel_rfl) (by kernel_rfl) rfl rfl (by intro p hp; repeat (first | exact hp | refine List.mem_cons_of_mem _ ?_)) ?_) | (refine DL.take 11 rfl (by kernel_rfl) (by kernel_rfl) (by kernel_rfl) rfl rfl (QW.fieldAddr Tryz.runUnderlying187 rfl Tryz.sizeOf23 (by decide) rfl (by first | exact fo0 0 | exact foB _ 0)) (by intro p hp; repeat (first | exact hp | refine List.mem_cons_of_mem _ ?_)) ?_)
      first | (refine DL.pass 12 rfl (by kernel_rfl) (by kernel_rfl) (by kernel_rfl) rfl rfl (by intro p hp; repeat (first | exact hp | refine List.mem_cons_of_mem _ ?_)) ?_) | (refine DL.take 12 rfl (by kernel_rfl) (by kernel_rfl) (by kernel_rfl) rfl rfl (QW.load1 rfl Tryz.isAgg23 (by repeat (first | exact List.mem_cons_self | exact List.mem_cons_of_mem _ (by assumption) | assumption | refine List.mem_cons_of_mem _ ?_ | refine List.mem_append_right _ ?_)) rfl) (by intro p hp; repeat (first | exact hp | refine List.mem_cons_of_mem _ ?_)) ?_)
      first | (refine DL.pass 13 rfl (by kernel_rfl) (by kernel_rfl) (by kernel_rfl) rfl rfl (by intro p hp; repeat (first | exact hp | refine List.mem_cons_of_mem _ ?_)) ?_) | (refine DL.take 13 rfl (by kernel_rfl) (by kernel_rfl) (by kernel_rfl) rfl rfl (QW.len_s Tryz.runUnderlying23 rfl) (by intro p hp; repeat (first | exact hp | refine List.mem_cons_of_mem _ ?_)) ?_)
      first | (refine DL.pass 14 rfl (by kernel_rfl) (by kernel_rfl) (by kernel_rfl) rfl rfl (by intro p hp; repeat (first | exact hp | refine List.mem_cons_of_mem _ ?_)) ?_) | (refine DL.take 14 rfl (by kernel_rfl) (by kernel_rfl) (by kernel_rfl) rfl rfl (QW.lss rfl rfl (dI_lt _ _)) (by intro p hp; repeat (first | exact hp | refine List.mem_cons_of_mem _ ?_)) ?_)
      cases hs10_15 : decide (k < xs2.length)
      · first | (refine DL.pass 15 rfl (by kernel_rfl) (by kernel_rfl) (by kernel_rfl) rfl rfl (by intro p hp; repeat (first | exact hp | refine List.mem_cons_of_mem _ ?_)) ?_) | (refine DL.take 15 rfl (by kernel_rfl) (by kernel_rfl) (by kernel_rfl) rfl rfl (QW.move rfl) (by intro p hp; repeat (first | exact hp | refine List.mem_cons_of_mem _ ?_)) ?_)
        first | (refine DL.pass 16 rfl (by kernel_rfl) (by kernel_rfl) (by kernel_rfl) rfl rfl (by intro p hp; repeat (first | exact hp | refine List.mem_cons_of_mem _ ?_)) ?_) | (refine DL.take 16 rfl (by kernel_rfl) (by kernel_rfl) (by kernel_rfl) rfl rfl (QW.fieldAddr Tryz.runUnderlying187 rfl Tryz.sizeOf23 (by decide) rfl (by first | exact fo0 0 | exact foB _ 0)) (by intro p hp; repeat (first | exact hp | refine List.mem_cons_of_mem _ ?_)) ?_)
        first | (refine DL.pass 17 rfl (by kernel_rfl) (by kernel_rfl) (by kernel_rfl) rfl rfl (by intro p hp; repeat (first | exact hp | refine List.mem_cons_of_mem _ ?_)) ?_) | (refine DL.take 17 rfl (by kernel_rfl) (by kernel_rfl) (by kernel_rfl) rfl rfl (QW.load1 rfl Tryz.isAgg23 (by repeat (first | exact List.mem_cons_self | exact List.mem_cons_of_mem _ (by assumption) | assumption | refine List.mem_cons_of_mem _ ?_ | refine List.mem_append_right _ ?_)) rfl) (by intro p hp; repeat (first | exact hp | refine List.mem_cons_of_mem _ ?_)) ?_)
        first | (refine DL.pass 18 rfl (by kernel_rfl) (by kernel_rfl) (by kernel_rfl) rfl rfl (by intro p hp; repeat (first | exact hp | refine List.mem_cons_of_mem _ ?_)) ?_) | (refine DL.take 18 rfl (by kernel_rfl) (by kernel_rfl) (by kernel_rfl) rfl rfl (QW.move rfl) (by intro p hp; repeat (first | exact hp | refine List.mem_cons_of_mem _ ?_)) ?_)
        first | (refine DL.pass 19 rfl (by kernel_rfl) (by kernel_rfl) (by kernel_rfl) rfl rfl (by intro p hp; repeat (first | exact hp | refine List.mem_cons_of_mem _ ?_)) ?_) | (refine DL.take 19 rfl (by kernel_rfl) (by kernel_rfl) (by kernel_rfl) rfl rfl (QW.indexAddrS Tryz.runUnderlying23 Tryz.sizeOf5 rfl rfl (by omega) (by first | omega | decide) (by first | exact ix01 _ | exact ixb1 _ _ | exact ix0m _ _)) (by intro p hp; repeat (first | exact hp | refine List.mem_cons_of_mem _ ?_)) ?_)
        first | (refine DL.pass 20 rfl (by kernel_rfl) (by kernel_rfl) (by kernel_rfl) rfl rfl (by intro p hp; repeat (first | exact hp | refine List.mem_cons_of_mem _ ?_)) ?_) | (refine DL.take 20 rfl (by kernel_rfl) (by kernel_rfl) (by kernel_rfl) rfl rfl (QW.load1 rfl Tryz.isAgg5 (List.mem_cons_of_mem _ hm9) (by refine hget9 _ ?_; omega)) (by intro p hp; repeat (first | exact hp | refine List.mem_cons_of_mem _ ?_)) ?_)
        first | (refine DL.pass 21 rfl (by kernel_rfl) (by kernel_rfl) (by kernel_rfl) rfl rfl (by intro p hp; repeat (first | exact hp | refine List.mem_cons_of_mem _ ?_)) ?_) | (refine DL.take 21 rfl (by kernel_rfl) (by kernel_rfl) (by kernel_rfl) rfl rfl (QW.fieldAddr Tryz.runUnderlying187 rfl Tryz.sizeOf3 (by decide) rfl (by first | exact fo0 2 | exact foB _ 2)) (by intro p hp; repeat (first | exact hp | refine List.mem_cons_of_mem _ ?_)) ?_)
        first | (refine DL.pass 22 rfl (by kernel_rfl) (by kernel_rfl) (by kernel_rfl) rfl rfl (by intro p hp; repeat (first | exact hp | refine List.mem_cons_of_mem _ ?_)) ?_) | (refine DL.take 22 rfl (by kernel_rfl) (by kernel_rfl) (by kernel_rfl) rfl rfl (QW.load1 rfl Tryz.isAgg3 (by repeat (first | exact List.mem_cons_self | exact List.mem_cons_of_mem _ (by assumption) | assumption | refine List.mem_cons_of_mem _ ?_ | refine List.mem_append_right _ ?_)) rfl) (by intro p hp; repeat (first | exact hp | refine List.mem_cons_of_mem _ ?_)) ?_)
        refine DL.onePass 23 (by kernel_rfl) rfl rfl (by intro p hp; repeat (first | exact hp | refine List.mem_cons_of_mem _ ?_)) ?_
        first | (refine DL.pass 24 rfl (by kernel_rfl) (by kernel_rfl) (by kernel_rfl) rfl rfl (by intro p hp; repeat (first | exact hp | refine List.mem_cons_of_mem _ ?_)) ?_) | (refine DL.take 24 rfl (by kernel_rfl) (by kernel_rfl) (by kernel_rfl) rfl rfl (QW.not rfl) (by intro p hp; repeat (first | exact hp | refine List.mem_cons_of_mem _ ?_)) ?_)
        first | (refine DL.pass 25 rfl (by kernel_rfl) (by kernel_rfl) (by kernel_rfl) rfl rfl (by intro p hp; repeat (first | exact hp | refine List.mem_cons_of_mem _ ?_)) ?_) | (refine DL.take 25 rfl (by kernel_rfl) (by kernel_rfl) (by kernel_rfl) rfl rfl ((by first | exact QW.pick_t rfl rfl | exact QW.pick_f rfl rfl)) (by intro p hp; repeat (first | exact hp | refine List.mem_cons_of_mem _ ?_)) ?_)
        refine DL.take 26 rfl (by kernel_rfl) (by kernel_rfl) (by kernel_rfl) rfl rfl ((by first | exact QW.pick_t rfl rfl | exact QW.pick_f rfl rfl)) (by intro p hp; repeat (first | exact hp | refine List.mem_cons_of_mem _ ?_)) ?_
        refine DL.done (by kernel_rfl) (thenN ?_)
        refine CW.cond_false rfl ?_
        refine CW.skip (blockN (thenN ?_))
        refine CW.region (by kernel_rfl) ?_
        refine RL.q rfl rfl (QW.move rfl) ?_
        refine RL.q rfl rfl (QW.add rfl rfl (wI_add (a := _) (b := 1) (by omega))) ?_
        refine RL.q rfl rfl (QW.assign rfl) ?_
        refine RL.nil (thenN ?_)
        refine ⟨k + 1, (by omega), (by omega), ?_, ?_⟩
        · repeat (first | exact leE_nil | refine leE_cons rfl ?_)
        · exact List.Sublist.refl _
      · have hkx : k < xs2.length := by simpa using hs10_15
        obtain ⟨gb9, off9, l9, T9, fr9, rfl, hm9, hget9⟩ := RdB.at hv2 (by omega)
        first | (refine DL.pass 15 rfl (by kernel_rfl) (by kernel_rfl) (by kernel_rfl) rfl rfl (by intro p hp; repeat (first | exact hp | refine List.mem_cons_of_mem _ ?_)) ?_) | (refine DL.take 15 rfl (by kernel_rfl) (by kernel_rfl) (by kernel_rfl) rfl rfl (QW.move rfl) (by intro p hp; repeat (first | exact hp | refine List.mem_cons_of_mem _ ?_)) ?_)
        first | (refine DL.pass 16 rfl (by kernel_rfl) (by kernel_rfl) (by kernel_rfl) rfl rfl (by intro p hp; repeat (first | exact hp | refine List.mem_cons_of_mem _ ?_)) ?_) | (refine DL.take 16 rfl (by kernel_rfl) (by kernel_rfl) (by kernel_rfl) rfl rfl (QW.fieldAddr Tryz.runUnderlying187 rfl Tryz.sizeOf23 (by decide) rfl (by first | exact fo0 0 | exact foB _ 0)) (by intro p hp; repeat (first | exact hp | refine List.mem_cons_of_mem _ ?_)) ?_)
        first | (refine DL.pass 17 rfl (by kernel_rfl) (by kernel_rfl) (by kernel_rfl) rfl rfl (by intro p hp; repeat (first | exact hp | refine List.mem_cons_of_mem _ ?_)) ?_) | (refine DL.take 17 rfl (by kernel_rfl) (by kernel_rfl) (by kernel_rfl) rfl rfl (QW.load1 rfl Tryz.isAgg23 (by repeat (first | exact List.mem_cons_self | exact List.mem_cons_of_mem _ (by assumption) | assumption | refine List.mem_cons_of_mem _ ?_ | refine List.mem_append_right _ ?_)) rfl) (by intro p hp; repeat (first | exact hp | refine List.mem_cons_of_mem _ ?_)) ?_)
        first | (refine DL.pass 18 rfl (by kernel_rfl) (by kernel_rfl) (by kernel_rfl) rfl rfl (by intro p hp; repeat (first | exact hp | refine List.mem_cons_of_mem _ ?_)) ?_) | (refine DL.take 18 rfl (by kernel_rfl) (by kernel_rfl) (by kernel_rfl) rfl rfl (QW.move rfl) (by intro p hp; repeat (first | exact hp | refine List.mem_cons_of_mem _ ?_)) ?_)
        first | (refine DL.pass 19 rfl (by kernel_rfl) (by kernel_rfl) (by kernel_rfl) rfl rfl (by intro p hp; repeat (first | exact hp | refine List.mem_cons_of_mem _ ?_)) ?_) | (refine DL.take 19 rfl (by kernel_rfl) (by kernel_rfl) (by kernel_rfl) rfl rfl (QW.indexAddrS Tryz.runUnderlying23 Tryz.sizeOf5 rfl rfl (by omega) (by first | omega | decide) (by first | exact ix01 _ | exact ixb1 _ _ | exact ix0m _ _)) (by intro p hp; repeat (first | exact hp | refine List.mem_cons_of_mem _ ?_)) ?_)
        first | (refine DL.pass 20 rfl (by kernel_rfl) (by kernel_rfl) (by kernel_rfl) rfl rfl (by intro p hp; repeat (first | exact hp | refine List.mem_cons_of_mem _ ?_)) ?_) | (refine DL.take 20 rfl (by kernel_rfl) (by kernel_rfl) (by kernel_rfl) rfl rfl (QW.load1 rfl Tryz.isAgg5 (List.mem_cons_of_mem _ hm9) (by refine hget9 _ ?_; omega)) (by intro p hp; repeat (first | exact hp | refine List.mem_cons_of_mem _ ?_)) ?_)
        first | (refine DL.pass 21 rfl (by kernel_rfl) (by kernel_rfl) (by kernel_rfl) rfl rfl (by intro p hp; repeat (first | exact hp | refine List.mem_cons_of_mem _ ?_)) ?_) | (refine DL.take 21 rfl (by kernel_rfl) (by kernel_rfl) (by kernel_rfl) rfl rfl (QW.fieldAddr Tryz.runUnderlying187 rfl Tryz.sizeOf3 (by decide) rfl (by first | exact fo0 2 | exact foB _ 2)) (by intro p hp; repeat (first | exact hp | refine List.mem_cons_of_mem _ ?_)) ?_)
        first | (refine DL.pass 22 rfl (by kernel_rfl) (by kernel_rfl) (by kernel_rfl) rfl rfl (by intro p hp; repeat (first | exact hp | refine List.mem_cons_of_mem _ ?_)) ?_) | (refine DL.take 22 rfl (by kernel_rfl) (by kernel_rfl) (by kernel_rfl) rfl rfl (QW.load1 rfl Tryz.isAgg3 (by repeat (first | exact List.mem_cons_self | exact List.mem_cons_of_mem _ (by assumption) | assumption | refine List.mem_cons_of_mem _ ?_ | refine List.mem_append_right _ ?_)) rfl) (by intro p hp; repeat (first | exact hp | refine List.mem_cons_of_mem _ ?_)) ?_)
        refine DL.one 23 (by kernel_rfl) rfl rfl (OW.call Tryz.call188 (ext2 rfl rfl) ((isByte_c _ _ _ (by first | exact hall1 _ (by omega) | exact hall2 _ (by omega) | exact haly1 _ (by omega) | exact haly2 _ (by omega))).mono ?_))
        rintro v S' ⟨rfl, rfl⟩
        refine ⟨fun _ p hp => by repeat (first | exact hp | refine List.mem_cons_of_mem _ ?_), ?_⟩
        first | (refine DL.pass 24 rfl (by kernel_rfl) (by kernel_rfl) (by kernel_rfl) rfl rfl (by intro p hp; repeat (first | exact hp | refine List.mem_cons_of_mem _ ?_)) ?_) | (refine DL.take 24 rfl (by kernel_rfl) (by kernel_rfl) (by kernel_rfl) rfl rfl (QW.not rfl) (by intro p hp; repeat (first | exact hp | refine List.mem_cons_of_mem _ ?_)) ?_)
        first | (refine DL.pass 25 rfl (by kernel_rfl) (by kernel_rfl) (by kernel_rfl) rfl rfl (by intro p hp; repeat (first | exact hp | refine List.mem_cons_of_mem _ ?_)) ?_) | (refine DL.take 25 rfl (by kernel_rfl) (by kernel_rfl) (by kernel_rfl) rfl rfl ((by first | exact QW.pick_t rfl rfl | exact QW.pick_f rfl rfl)) (by intro p hp; repeat (first | exact hp | refine List.mem_cons_of_mem _ ?_)) ?_)
        refine DL.take 26 rfl (by kernel_rfl) (by kernel_rfl) (by kernel_rfl) rfl rfl ((by first | exact QW.pick_t rfl rfl | exact QW.pick_f rfl rfl)) (by intro p hp; repeat (first | exact hp | refine List.mem_cons_of_mem _ ?_)) ?_
        refine DL.done (by kernel_rfl) (thenN ?_)
        refine CW.cond_false rfl ?_
        refine CW.skip (blockN (thenN ?_))
        refine CW.region (by kernel_rfl) ?_
        refine RL.q rfl rfl (QW.move rfl) ?_
        refine RL.q rfl rfl (QW.add rfl rfl (wI_add (a := _) (b := 1) (by omega))) ?_
        refine RL.q rfl rfl (QW.assign rfl) ?_
        refine RL.nil (thenN ?_)
        refine ⟨k + 1, (by omega), (by omega), ?_, ?_⟩
        · repeat (first | exact leE_nil | refine leE_cons rfl ?_)
        · exact List.Sublist.refl _
    · have hk : k = ys2.length := by simp at hc2; omega
      subst hk
      refine CW.exit (thenX (thenX (blockX (blockN (thenN ?_)))))
      refine CW.region (by kernel_rfl) ?_
      refine RL.q rfl rfl (QW.move rfl) ?_
      refine RL.q rfl rfl (QW.add rfl rfl (wI_add (a := _) (b := 1) (by omega))) ?_
      refine RL.q rfl rfl (QW.assign rfl) ?_
      refine RL.nil (thenN ?_)
      refine ⟨2, (.inr (.inr rfl)), (by omega), ?_, ?_⟩
      · repeat (first | exact leE_nil | refine leE_cons rfl ?_)
      · exact dropS (List.Sublist.refl _)
  · refine CW.seq ?_
    refine CW.seq ?_
    refine CW.region (by kernel_rfl) ?_
    refine RL.q rfl rfl (QW.move rfl) ?_
    refine RL.q rfl rfl (QW.move rfl) ?_
    refine RL.q rfl rfl (QW.nilCheck rfl) ?_
    refine RL.q rfl rfl (QW.fieldAddr Tryz.runUnderlying43 rfl Tryz.sizeOf27 (by decide) rfl (by first | exact fo0 1 | exact foB _ 1)) ?_
    refine RL.q rfl rfl (QW.load1 rfl Tryz.isAgg27 hm1 rfl) ?_
    refine RL.q rfl rfl (QW.len_s Tryz.runUnderlying27 rfl) ?_
    refine RL.q rfl rfl (QW.lss rfl rfl (dI_lt _ _)) ?_
    refine RL.nil (thenN ?_)
    refine CW.cond_false rfl ?_
    refine CW.exit (thenX (thenX (blockX (thenN ?_))))
    refine CW.seq ?_
    refine CW.region (by kernel_rfl) ?_
    refine RL.q rfl rfl (QW.assign rfl) ?_
    refine RL.nil (thenN ?_)
    refine CW.ret (retR (S) (ResOk.one Tryz.results98 (ResV.tmp rfl)) (by repeat (first | exact List.Sublist.refl _ | (refine keepS ?_ ?_; with_reducible rfl) | (refine keepA ?_ ?_; with_reducible rfl) | (refine keepS ?_ ?_; rfl) | apply dropS | apply dropA)) ?_)
    exact ⟨rfl, rfl⟩

end Go.Sl
