/- A part of a proof: the walk. -/
import Derived.Test.YtfljnclghjikdaaGreatDoorProg
import Derived.Test.YtfljnclghjikdaaGreatDoorK4
import Derived.Test.YtfljnclghjikdaaGreatDoorK2
set_option linter.unusedVariables false
set_option linter.unusedSimpArgs false
namespace Go.Sl
open Go.Proofs


set_option maxRecDepth 100000 in
theorem fillByte_c (bk : Nat) (og : Buf) (o1 o2 : Option Buf) (xs1 xs2 : List UInt8) (tl : List Value) (S : HL) (ho1 : bufOk o1 xs1.length 1) (ho2 : bufOk o2 xs2.length 1) (hb1 : xs1.length ≤ 1000000) (hb2 : xs2.length ≤ 1000000) : CallS Tryz.prog 68 ⟨[ptr bk 0]⟩ ((bk, blk (nI 2 :: bufV (some og) 2 :: tl) 43) :: (og.b, blk ([bufV o1 xs1.length, .slice none 0 0, nI 1, bufV o2 xs2.length, .slice none 0 0, nI 2] ++ og.rest) 187) :: (bufH o1 (xs1.map u8) 5 ++ (bufH o2 (xs2.map u8) 5 ++ S))) fun v S' => v = .tuple #[] ∧ S' = (bk, blk (nI 2 :: bufV (some og) 2 :: tl) 43) :: (og.b, blk ([bufV o1 xs1.length, .slice none 0 0, nI 1, bufV o2 xs2.length, .slice none 0 0, nI 2] ++ og.rest) 187) :: (bufH o1 ((List.replicate xs1.length (UInt8.ofNat 1)).map u8) 5 ++ (bufH o2 ((List.replicate xs2.length (UInt8.ofNat 2)).map u8) 5 ++ S)) := by
  refine CallS.enter Tryz.func68 rfl Tryz.ntmps68 (by simp) ?_
  refine CW.seq ?_
  refine CW.region (by kernel_rfl) ?_
  refine RL.q rfl rfl (QW.assign rfl) ?_
  refine RL.nil (thenN ?_)
  refine CW.block ?_
  refine CW.loopT3 (α := Nat) (β := List UInt8) (γ := List UInt8) [(0, _)] (by repeat (first | exact leE_nil | refine leE_cons rfl ?_)) (fun i ys1 ys2 => (0 = i ∧ xs1 = ys1 ∧ xs2 = ys2) ∨ (1 = i ∧ (List.replicate xs1.length (UInt8.ofNat 1)) = ys1 ∧ xs2 = ys2) ∨ (2 = i ∧ (List.replicate xs1.length (UInt8.ofNat 1)) = ys1 ∧ (List.replicate xs2.length (UInt8.ofNat 2)) = ys2)) (fun i ys1 ys2 r => (2, nI i) :: r) (fun i ys1 ys2 => (bk, blk (nI 2 :: bufV (some og) 2 :: tl) 43) :: (og.b, blk ([bufV o1 xs1.length, .slice none 0 0, nI 1, bufV o2 xs2.length, .slice none 0 0, nI 2] ++ og.rest) 187) :: (bufH o1 (ys1.map u8) 5 ++ (bufH o2 (ys2.map u8) 5 ++ S))) (fun i ys1 ys2 => 2 - i) 0 xs1 xs2 (.inl ⟨rfl, rfl, rfl⟩) (by repeat (first | exact leE_nil | refine leE_cons (by first | rfl | (rfl)) ?_)) (List.Sublist.refl _) ?_
  intro i ys1 ys2 hI
  rcases hI with ⟨rfl, rfl, rfl⟩ | ⟨rfl, rfl, rfl⟩ | ⟨rfl, rfl, rfl⟩
  · refine CW.seq ?_
    refine CW.seq ?_
    refine CW.region (by kernel_rfl) ?_
    refine RL.q rfl rfl (QW.move rfl) ?_
    refine RL.q rfl rfl (QW.move rfl) ?_
    refine RL.q rfl rfl (QW.nilCheck rfl) ?_
    refine RL.q rfl rfl (QW.fieldAddr Tryz.runUnderlying43 rfl Tryz.sizeOf27 (by decide) rfl (by first | exact fo0 1 | exact foB _ 1)) ?_
    refine RL.q rfl rfl (QW.load1 rfl Tryz.isAgg27 (by repeat (first | exact List.mem_cons_self | exact List.mem_cons_of_mem _ (by assumption) | assumption | refine List.mem_cons_of_mem _ ?_ | refine List.mem_append_right _ ?_)) rfl) ?_
    refine RL.q rfl rfl (QW.len_s Tryz.runUnderlying27 rfl) ?_
    refine RL.q rfl rfl (QW.lss rfl rfl (dI_lt _ _)) ?_
    refine RL.nil (thenN ?_)
    refine CW.cond_true rfl ?_
    refine CW.skip (thenN ?_)
    refine CW.seq ?_
    refine CW.block ?_
    refine CW.seq ?_
    refine CW.region (by kernel_rfl) ?_
    refine RL.q rfl rfl (QW.move rfl) ?_
    refine RL.q rfl rfl (QW.nilCheck rfl) ?_
    refine RL.q rfl rfl (QW.fieldAddr Tryz.runUnderlying43 rfl Tryz.sizeOf27 (by decide) rfl (by first | exact fo0 1 | exact foB _ 1)) ?_
    refine RL.q rfl rfl (QW.load1 rfl Tryz.isAgg27 (by repeat (first | exact List.mem_cons_self | exact List.mem_cons_of_mem _ (by assumption) | assumption | refine List.mem_cons_of_mem _ ?_ | refine List.mem_append_right _ ?_)) rfl) ?_
    refine RL.q rfl rfl (QW.move rfl) ?_
    refine RL.q rfl rfl (QW.indexAddrS Tryz.runUnderlying27 Tryz.sizeOf187 rfl rfl (by omega) (by first | omega | decide) (by first | exact ix01 _ | exact ixb1 _ _ | exact ix0m _ _)) ?_
    refine RL.q rfl rfl (QW.loadN (r := [bufV o1 xs1.length, .slice none 0 0, nI 1]) rfl Tryz.isAgg187 Tryz.sizeOf187 (by repeat (first | exact List.mem_cons_self | exact List.mem_cons_of_mem _ (by assumption) | assumption | refine List.mem_cons_of_mem _ ?_ | refine List.mem_append_right _ ?_)) (by simp) (by rfl)) ?_
    refine RL.cons rfl (OW.alloc zv187 rfl ?_)
    intro b3
    refine RL.cons rfl (OW.storeN rfl rfl Tryz.sizeOf187 (by repeat (first | exact List.mem_cons_self | exact List.mem_cons_of_mem _ (by assumption) | assumption | refine List.mem_cons_of_mem _ ?_ | refine List.mem_append_right _ ?_)) (by first | (simp only [List.length_map, List.length_replicate, List.length_cons, List.length_nil, List.length_set, Nat.mul_one] <;> omega) | (simp [*] <;> omega)) (by first | exact m_all (fun _ => rfl) _ | rfl | (simp; done) | (simp only [List.all_cons, List.all_nil, oneB_buf, Bool.true_and, Bool.and_true]; rfl) | (simp [oneB]; done)) (by first | (simp only [List.length_map, List.length_replicate, List.length_cons, List.length_nil, List.length_set, Nat.mul_one] <;> omega) | (simp [*] <;> omega)) (by first | (refine wr_all ?_; simp only [List.length_map, List.length_replicate, List.length_cons, List.length_nil, List.length_set, Nat.mul_one] <;> omega) | (refine wr_all ?_; simp [*]; done) | exact m_wr _ _ _ | with_reducible rfl) (by repeat (first | exact Upd.head | apply Upd.tail | apply Upd.tailA)) ?_)
    refine RL.nil (thenN ?_)
    refine CW.seq ?_
    refine CW.region (by kernel_rfl) ?_
    refine RL.q rfl rfl (QW.assign rfl) ?_
    refine RL.nil (thenN ?_)
    refine CW.block ?_
    refine CW.loopT (ι := Nat) [(0, _), (2, _), (3, _), (5, _), (6, _), (7, _), (8, _), (9, _), (10, _), (11, _), (14, _), (15, _), (16, _), (17, _), (18, _), (19, _), (20, _)] (by repeat (first | exact leE_nil | refine leE_cons rfl ?_)) (fun k => k ≤ xs1.length) (fun k r => (4, nI k) :: r) (fun k => (b3, blk [bufV o1 xs1.length, .slice none 0 0, nI 1] 187) :: (bk, blk (nI 2 :: bufV (some og) 2 :: tl) 43) :: (og.b, blk ([bufV o1 xs1.length, .slice none 0 0, nI 1, bufV o2 xs2.length, .slice none 0 0, nI 2] ++ og.rest) 187) :: (bufH o1 ((fT (UInt8.ofNat 1) xs1 k).map u8) 5 ++ (bufH o2 (xs2.map u8) 5 ++ S))) (fun k => xs1.length - k) 0 (by omega) (by repeat (first | exact leE_nil | refine leE_cons (by first | rfl | (rfl)) ?_)) (by rw [fT_zero]; exact List.Sublist.refl _) ?_
    intro k hIk
    refine CW.seq ?_
    refine CW.seq ?_
    refine CW.region (by kernel_rfl) ?_
    refine RL.q rfl rfl (QW.move rfl) ?_
    refine RL.q rfl rfl (QW.fieldAddr Tryz.runUnderlying187 rfl Tryz.sizeOf23 (by decide) rfl (by first | exact fo0 0 | exact foB _ 0)) ?_
    refine RL.q rfl rfl (QW.load1 rfl Tryz.isAgg23 (by repeat (first | exact List.mem_cons_self | exact List.mem_cons_of_mem _ (by assumption) | assumption | refine List.mem_cons_of_mem _ ?_ | refine List.mem_append_right _ ?_)) rfl) ?_
    refine RL.q rfl rfl (QW.len_buf ho1 Tryz.runUnderlying23 rfl) ?_
    refine RL.q rfl rfl (QW.lss rfl rfl (dI_lt _ _)) ?_
    refine RL.nil (thenN ?_)
    refine CW.cond rfl (fun hc1 => ?_) (fun hc1 => ?_)
    · have hk : k < xs1.length := by simpa using hc1
      obtain ⟨u, rfl⟩ := ho1.some (by omega)
      refine CW.skip (thenN ?_)
      refine CW.seq ?_
      refine CW.block ?_
      refine CW.drawn [(b3, blk [bufV (some u) xs1.length, .slice none 0 0, nI 1] 187)] 7 (by rw [mixed]; rfl) (by kernel_rfl) (by kernel_rfl) (by kernel_rfl) (fun _ _ _ h => h) ?_
      refine DL.take 0 rfl (by kernel_rfl) (by kernel_rfl) (by kernel_rfl) rfl rfl (QW.fieldAddr Tryz.runUnderlying187 rfl Tryz.sizeOf23 (by decide) rfl (by first | exact fo0 0 | exact foB _ 0)) (hsub1 (by repeat (first | exact List.mem_cons_self | exact List.mem_cons_of_mem _ (by assumption) | assumption | refine List.mem_cons_of_mem _ ?_ | refine List.mem_append_right _ ?_))) ?_
      refine DL.take 1 rfl (by kernel_rfl) (by kernel_rfl) (by kernel_rfl) rfl rfl (QW.load1 rfl Tryz.isAgg23 (by repeat (first | exact List.mem_cons_self | exact List.mem_cons_of_mem _ (by assumption) | assumption | refine List.mem_cons_of_mem _ ?_ | refine List.mem_append_right _ ?_)) rfl) (hsub1 (by repeat (first | exact List.mem_cons_self | exact List.mem_cons_of_mem _ (by assumption) | assumption | refine List.mem_cons_of_mem _ ?_ | refine List.mem_append_right _ ?_))) ?_
      refine DL.take 2 rfl (by kernel_rfl) (by kernel_rfl) (by kernel_rfl) rfl rfl (QW.move rfl) (hsub1 (by repeat (first | exact List.mem_cons_self | exact List.mem_cons_of_mem _ (by assumption) | assumption | refine List.mem_cons_of_mem _ ?_ | refine List.mem_append_right _ ?_))) ?_
      refine DL.take 3 rfl (by kernel_rfl) (by kernel_rfl) (by kernel_rfl) rfl rfl (QW.fieldAddr Tryz.runUnderlying187 rfl Tryz.sizeOf3 (by decide) rfl (by first | exact fo0 2 | exact foB _ 2)) (hsub1 (by repeat (first | exact List.mem_cons_self | exact List.mem_cons_of_mem _ (by assumption) | assumption | refine List.mem_cons_of_mem _ ?_ | refine List.mem_append_right _ ?_))) ?_
      refine DL.take 4 rfl (by kernel_rfl) (by kernel_rfl) (by kernel_rfl) rfl rfl (QW.load1 rfl Tryz.isAgg3 (by repeat (first | exact List.mem_cons_self | exact List.mem_cons_of_mem _ (by assumption) | assumption | refine List.mem_cons_of_mem _ ?_ | refine List.mem_append_right _ ?_)) rfl) (hsub1 (by repeat (first | exact List.mem_cons_self | exact List.mem_cons_of_mem _ (by assumption) | assumption | refine List.mem_cons_of_mem _ ?_ | refine List.mem_append_right _ ?_))) ?_
      refine DL.one 5 (by kernel_rfl) rfl rfl (OW.call Tryz.call173 (ext1 rfl) ((markByte_c _ _).mono ?_))
      rintro v S' ⟨rfl, rfl⟩
      refine ⟨fun _ => hsub1 (by repeat (first | exact List.mem_cons_self | exact List.mem_cons_of_mem _ (by assumption) | assumption | refine List.mem_cons_of_mem _ ?_ | refine List.mem_append_right _ ?_)), ?_⟩
      refine DL.take 6 rfl (by kernel_rfl) (by kernel_rfl) (by kernel_rfl) rfl rfl (QW.indexAddrS Tryz.runUnderlying23 Tryz.sizeOf5 rfl rfl (by omega) (by first | omega | decide) (by first | exact ix01 _ | exact ixb1 _ _ | exact ix0m _ _)) (hsub1 (by repeat (first | exact List.mem_cons_self | exact List.mem_cons_of_mem _ (by assumption) | assumption | refine List.mem_cons_of_mem _ ?_ | refine List.mem_append_right _ ?_))) ?_
      refine DL.one 7 (by kernel_rfl) rfl rfl (OW.storeB (u := u) (T := 5) (xs := (fT (UInt8.ofNat 1) xs1 k).map u8) (ys := (fT (UInt8.ofNat 1) xs1 (k + 1)).map u8) rfl rfl Tryz.sizeOf5 rfl (by repeat (first | exact Upd.buf | apply Upd.tail | apply Upd.tailA)) (by rw [List.length_map, fT_len _ _ _ (Nat.le_of_lt hk)]; exact hk) (by rw [m_set, fT_set _ _ _ hk]) ?_)
      refine ⟨fun h => absurd rfl h, ?_⟩
      refine DL.done (by kernel_rfl) (blockN (thenN ?_))
      refine CW.region (by kernel_rfl) ?_
      refine RL.q rfl rfl (QW.move rfl) ?_
      refine RL.q rfl rfl (QW.add rfl rfl (wI_add (a := _) (b := 1) (by omega))) ?_
      refine RL.q rfl rfl (QW.assign rfl) ?_
      refine RL.nil (thenN ?_)
      refine ⟨k + 1, (by omega), (by omega), ?_, ?_⟩
      · repeat (first | exact leE_nil | refine leE_cons rfl ?_)
      · exact List.Sublist.refl _
    · have hk : k = xs1.length := by simp at hc1; omega
      subst hk
      rw [fT_all]
      refine CW.exit (thenX (thenX (blockX (blockN (thenN ?_)))))
      refine CW.region (by kernel_rfl) ?_
      refine RL.q rfl rfl (QW.move rfl) ?_
      refine RL.q rfl rfl (QW.add rfl rfl (wI_add (a := _) (b := 1) (by omega))) ?_
      refine RL.q rfl rfl (QW.assign rfl) ?_
      refine RL.nil (thenN ?_)
      refine ⟨1, (List.replicate xs1.length (UInt8.ofNat 1)), xs2, (.inr (.inl ⟨rfl, rfl, rfl⟩)), (by omega), ?_, ?_⟩
      · repeat (first | exact leE_nil | refine leE_cons rfl ?_)
      · exact dropS (List.Sublist.refl _)
  · refine CW.seq ?_
    refine CW.seq ?_
    refine CW.region (by kernel_rfl) ?_
    refine RL.q rfl rfl (QW.move rfl) ?_
    refine RL.q rfl rfl (QW.move rfl) ?_
    refine RL.q rfl rfl (QW.nilCheck rfl) ?_
    refine RL.q rfl rfl (QW.fieldAddr Tryz.runUnderlying43 rfl Tryz.sizeOf27 (by decide) rfl (by first | exact fo0 1 | exact foB _ 1)) ?_
    refine RL.q rfl rfl (QW.load1 rfl Tryz.isAgg27 (by repeat (first | exact List.mem_cons_self | exact List.mem_cons_of_mem _ (by assumption) | assumption | refine List.mem_cons_of_mem _ ?_ | refine List.mem_append_right _ ?_)) rfl) ?_
    refine RL.q rfl rfl (QW.len_s Tryz.runUnderlying27 rfl) ?_
    refine RL.q rfl rfl (QW.lss rfl rfl (dI_lt _ _)) ?_
    refine RL.nil (thenN ?_)
    refine CW.cond_true rfl ?_
    refine CW.skip (thenN ?_)
    refine CW.seq ?_
    refine CW.block ?_
    refine CW.seq ?_
    refine CW.region (by kernel_rfl) ?_
    refine RL.q rfl rfl (QW.move rfl) ?_
    refine RL.q rfl rfl (QW.nilCheck rfl) ?_
    refine RL.q rfl rfl (QW.fieldAddr Tryz.runUnderlying43 rfl Tryz.sizeOf27 (by decide) rfl (by first | exact fo0 1 | exact foB _ 1)) ?_
    refine RL.q rfl rfl (QW.load1 rfl Tryz.isAgg27 (by repeat (first | exact List.mem_cons_self | exact List.mem_cons_of_mem _ (by assumption) | assumption | refine List.mem_cons_of_mem _ ?_ | refine List.mem_append_right _ ?_)) rfl) ?_
    refine RL.q rfl rfl (QW.move rfl) ?_
    refine RL.q rfl rfl (QW.indexAddrS Tryz.runUnderlying27 Tryz.sizeOf187 rfl rfl (by omega) (by first | omega | decide) (by first | exact ix01 _ | exact ixb1 _ _ | exact ix0m _ _)) ?_
    refine RL.q rfl rfl (QW.loadN (r := [bufV o2 xs2.length, .slice none 0 0, nI 2]) rfl Tryz.isAgg187 Tryz.sizeOf187 (by repeat (first | exact List.mem_cons_self | exact List.mem_cons_of_mem _ (by assumption) | assumption | refine List.mem_cons_of_mem _ ?_ | refine List.mem_append_right _ ?_)) (by simp) (by rfl)) ?_
    refine RL.cons rfl (OW.alloc zv187 rfl ?_)
    intro b3
    refine RL.cons rfl (OW.storeN rfl rfl Tryz.sizeOf187 (by repeat (first | exact List.mem_cons_self | exact List.mem_cons_of_mem _ (by assumption) | assumption | refine List.mem_cons_of_mem _ ?_ | refine List.mem_append_right _ ?_)) (by first | (simp only [List.length_map, List.length_replicate, List.length_cons, List.length_nil, List.length_set, Nat.mul_one] <;> omega) | (simp [*] <;> omega)) (by first | exact m_all (fun _ => rfl) _ | rfl | (simp; done) | (simp only [List.all_cons, List.all_nil, oneB_buf, Bool.true_and, Bool.and_true]; rfl) | (simp [oneB]; done)) (by first | (simp only [List.length_map, List.length_replicate, List.length_cons, List.length_nil, List.length_set, Nat.mul_one] <;> omega) | (simp [*] <;> omega)) (by first | (refine wr_all ?_; simp only [List.length_map, List.length_replicate, List.length_cons, List.length_nil, List.length_set, Nat.mul_one] <;> omega) | (refine wr_all ?_; simp [*]; done) | exact m_wr _ _ _ | with_reducible rfl) (by repeat (first | exact Upd.head | apply Upd.tail | apply Upd.tailA)) ?_)
    refine RL.nil (thenN ?_)
    refine CW.seq ?_
    refine CW.region (by kernel_rfl) ?_
    refine RL.q rfl rfl (QW.assign rfl) ?_
    refine RL.nil (thenN ?_)
    refine CW.block ?_
    refine CW.loopT (ι := Nat) [(0, _), (2, _), (3, _), (5, _), (6, _), (7, _), (8, _), (9, _), (10, _), (11, _), (14, _), (15, _), (16, _), (17, _), (18, _), (19, _), (20, _)] (by repeat (first | exact leE_nil | refine leE_cons rfl ?_)) (fun k => k ≤ xs2.length) (fun k r => (4, nI k) :: r) (fun k => (b3, blk [bufV o2 xs2.length, .slice none 0 0, nI 2] 187) :: (bk, blk (nI 2 :: bufV (some og) 2 :: tl) 43) :: (og.b, blk ([bufV o1 xs1.length, .slice none 0 0, nI 1, bufV o2 xs2.length, .slice none 0 0, nI 2] ++ og.rest) 187) :: (bufH o1 ((List.replicate xs1.length (UInt8.ofNat 1)).map u8) 5 ++ (bufH o2 ((fT (UInt8.ofNat 2) xs2 k).map u8) 5 ++ S))) (fun k => xs2.length - k) 0 (by omega) (by repeat (first | exact leE_nil | refine leE_cons (by first | rfl | (rfl)) ?_)) (by rw [fT_zero]; exact List.Sublist.refl _) ?_
    intro k hIk
    refine CW.seq ?_
    refine CW.seq ?_
    refine CW.region (by kernel_rfl) ?_
    refine RL.q rfl rfl (QW.move rfl) ?_
    refine RL.q rfl rfl (QW.fieldAddr Tryz.runUnderlying187 rfl Tryz.sizeOf23 (by decide) rfl (by first | exact fo0 0 | exact foB _ 0)) ?_
    refine RL.q rfl rfl (QW.load1 rfl Tryz.isAgg23 (by repeat (first | exact List.mem_cons_self | exact List.mem_cons_of_mem _ (by assumption) | assumption | refine List.mem_cons_of_mem _ ?_ | refine List.mem_append_right _ ?_)) rfl) ?_
    refine RL.q rfl rfl (QW.len_buf ho2 Tryz.runUnderlying23 rfl) ?_
    refine RL.q rfl rfl (QW.lss rfl rfl (dI_lt _ _)) ?_
    refine RL.nil (thenN ?_)
    refine CW.cond rfl (fun hc1 => ?_) (fun hc1 => ?_)
    · have hk : k < xs2.length := by simpa using hc1
      obtain ⟨u, rfl⟩ := ho2.some (by omega)
      refine CW.skip (thenN ?_)
      refine CW.seq ?_
      refine CW.block ?_
      refine CW.drawn [(b3, blk [bufV (some u) xs2.length, .slice none 0 0, nI 2] 187)] 7 (by rw [mixed]; rfl) (by kernel_rfl) (by kernel_rfl) (by kernel_rfl) (fun _ _ _ h => h) ?_
      refine DL.take 0 rfl (by kernel_rfl) (by kernel_rfl) (by kernel_rfl) rfl rfl (QW.fieldAddr Tryz.runUnderlying187 rfl Tryz.sizeOf23 (by decide) rfl (by first | exact fo0 0 | exact foB _ 0)) (hsub1 (by repeat (first | exact List.mem_cons_self | exact List.mem_cons_of_mem _ (by assumption) | assumption | refine List.mem_cons_of_mem _ ?_ | refine List.mem_append_right _ ?_))) ?_
      refine DL.take 1 rfl (by kernel_rfl) (by kernel_rfl) (by kernel_rfl) rfl rfl (QW.load1 rfl Tryz.isAgg23 (by repeat (first | exact List.mem_cons_self | exact List.mem_cons_of_mem _ (by assumption) | assumption | refine List.mem_cons_of_mem _ ?_ | refine List.mem_append_right _ ?_)) rfl) (hsub1 (by repeat (first | exact List.mem_cons_self | exact List.mem_cons_of_mem _ (by assumption) | assumption | refine List.mem_cons_of_mem _ ?_ | refine List.mem_append_right _ ?_))) ?_
      refine DL.take 2 rfl (by kernel_rfl) (by kernel_rfl) (by kernel_rfl) rfl rfl (QW.move rfl) (hsub1 (by repeat (first | exact List.mem_cons_self | exact List.mem_cons_of_mem _ (by assumption) | assumption | refine List.mem_cons_of_mem _ ?_ | refine List.mem_append_right _ ?_))) ?_
      refine DL.take 3 rfl (by kernel_rfl) (by kernel_rfl) (by kernel_rfl) rfl rfl (QW.fieldAddr Tryz.runUnderlying187 rfl Tryz.sizeOf3 (by decide) rfl (by first | exact fo0 2 | exact foB _ 2)) (hsub1 (by repeat (first | exact List.mem_cons_self | exact List.mem_cons_of_mem _ (by assumption) | assumption | refine List.mem_cons_of_mem _ ?_ | refine List.mem_append_right _ ?_))) ?_
      refine DL.take 4 rfl (by kernel_rfl) (by kernel_rfl) (by kernel_rfl) rfl rfl (QW.load1 rfl Tryz.isAgg3 (by repeat (first | exact List.mem_cons_self | exact List.mem_cons_of_mem _ (by assumption) | assumption | refine List.mem_cons_of_mem _ ?_ | refine List.mem_append_right _ ?_)) rfl) (hsub1 (by repeat (first | exact List.mem_cons_self | exact List.mem_cons_of_mem _ (by assumption) | assumption | refine List.mem_cons_of_mem _ ?_ | refine List.mem_append_right _ ?_))) ?_
      refine DL.one 5 (by kernel_rfl) rfl rfl (OW.call Tryz.call173 (ext1 rfl) ((markByte_c _ _).mono ?_))
      rintro v S' ⟨rfl, rfl⟩
      refine ⟨fun _ => hsub1 (by repeat (first | exact List.mem_cons_self | exact List.mem_cons_of_mem _ (by assumption) | assumption | refine List.mem_cons_of_mem _ ?_ | refine List.mem_append_right _ ?_)), ?_⟩
      refine DL.take 6 rfl (by kernel_rfl) (by kernel_rfl) (by kernel_rfl) rfl rfl (QW.indexAddrS Tryz.runUnderlying23 Tryz.sizeOf5 rfl rfl (by omega) (by first | omega | decide) (by first | exact ix01 _ | exact ixb1 _ _ | exact ix0m _ _)) (hsub1 (by repeat (first | exact List.mem_cons_self | exact List.mem_cons_of_mem _ (by assumption) | assumption | refine List.mem_cons_of_mem _ ?_ | refine List.mem_append_right _ ?_))) ?_
      refine DL.one 7 (by kernel_rfl) rfl rfl (OW.storeB (u := u) (T := 5) (xs := (fT (UInt8.ofNat 2) xs2 k).map u8) (ys := (fT (UInt8.ofNat 2) xs2 (k + 1)).map u8) rfl rfl Tryz.sizeOf5 rfl (by repeat (first | exact Upd.buf | apply Upd.tail | apply Upd.tailA)) (by rw [List.length_map, fT_len _ _ _ (Nat.le_of_lt hk)]; exact hk) (by rw [m_set, fT_set _ _ _ hk]) ?_)
      refine ⟨fun h => absurd rfl h, ?_⟩
      refine DL.done (by kernel_rfl) (blockN (thenN ?_))
      refine CW.region (by kernel_rfl) ?_
      refine RL.q rfl rfl (QW.move rfl) ?_
      refine RL.q rfl rfl (QW.add rfl rfl (wI_add (a := _) (b := 1) (by omega))) ?_
      refine RL.q rfl rfl (QW.assign rfl) ?_
      refine RL.nil (thenN ?_)
      refine ⟨k + 1, (by omega), (by omega), ?_, ?_⟩
      · repeat (first | exact leE_nil | refine leE_cons rfl ?_)
      · exact List.Sublist.refl _
    · have hk : k = xs2.length := by simp at hc1; omega
      subst hk
      rw [fT_all]
      refine CW.exit (thenX (thenX (blockX (blockN (thenN ?_)))))
      refine CW.region (by kernel_rfl) ?_
      refine RL.q rfl rfl (QW.move rfl) ?_
      refine RL.q rfl rfl (QW.add rfl rfl (wI_add (a := _) (b := 1) (by omega))) ?_
      refine RL.q rfl rfl (QW.assign rfl) ?_
      refine RL.nil (thenN ?_)
      refine ⟨2, (List.replicate xs1.length (UInt8.ofNat 1)), (List.replicate xs2.length (UInt8.ofNat 2)), (.inr (.inr ⟨rfl, rfl, rfl⟩)), (by omega), ?_, ?_⟩
      · repeat (first | exact leE_nil | refine leE_cons rfl ?_)
      · exact dropS (List.Sublist.refl _)
  · refine CW.seq ?_
    refine CW.seq ?_
    refine CW.region (by kernel_rfl) ?_
    refine RL.q rfl rfl (QW.move rfl) ?_
    refine RL.q rfl rfl (QW.move rfl) ?_
    refine RL.q rfl rfl (QW.nilCheck rfl) ?_
    refine RL.q rfl rfl (QW.fieldAddr Tryz.runUnderlying43 rfl Tryz.sizeOf27 (by decide) rfl (by first | exact fo0 1 | exact foB _ 1)) ?_
    refine RL.q rfl rfl (QW.load1 rfl Tryz.isAgg27 (by repeat (first | exact List.mem_cons_self | exact List.mem_cons_of_mem _ (by assumption) | assumption | refine List.mem_cons_of_mem _ ?_ | refine List.mem_append_right _ ?_)) rfl) ?_
    refine RL.q rfl rfl (QW.len_s Tryz.runUnderlying27 rfl) ?_
    refine RL.q rfl rfl (QW.lss rfl rfl (dI_lt _ _)) ?_
    refine RL.nil (thenN ?_)
    refine CW.cond_false rfl ?_
    refine CW.exit (thenX (thenX (blockX (retN ((bk, blk (nI 2 :: bufV (some og) 2 :: tl) 43) :: (og.b, blk ([bufV o1 xs1.length, .slice none 0 0, nI 1, bufV o2 xs2.length, .slice none 0 0, nI 2] ++ og.rest) 187) :: (bufH o1 ((List.replicate xs1.length (UInt8.ofNat 1)).map u8) 5 ++ (bufH o2 ((List.replicate xs2.length (UInt8.ofNat 2)).map u8) 5 ++ S))) (ResOk.zero Tryz.results68 ) (by repeat (first | exact List.Sublist.refl _ | (refine keepS ?_ ?_; with_reducible rfl) | (refine keepA ?_ ?_; with_reducible rfl) | (refine keepS ?_ ?_; rfl) | apply dropS | apply dropA)) ?_))))
    exact ⟨rfl, rfl⟩

end Go.Sl
