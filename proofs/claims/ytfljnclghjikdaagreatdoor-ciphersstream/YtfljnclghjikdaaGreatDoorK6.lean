/- A part of a proof: the walk. -/
import Derived.Test.YtfljnclghjikdaaGreatDoorProg
import Derived.Test.YtfljnclghjikdaaGreatDoorK4
import Derived.Test.YtfljnclghjikdaaGreatDoorK2
set_option linter.unusedVariables false
set_option linter.unusedSimpArgs false
namespace Go.Sl
open Go.Proofs


set_option maxRecDepth 100000 in
theorem growByte_c (bk : Nat) (og : Buf) (o1 o2 : Option Buf) (xs1 xs2 : List UInt8) (tl : List Value) (S : HL) (ho1 : bufOk o1 xs1.length 1) (ho2 : bufOk o2 xs2.length 1) (hb1 : xs1.length ≤ 1000000) (hb2 : xs2.length ≤ 1000000) : CallS Tryz.prog 83 ⟨[ptr bk 0]⟩ ((bk, blk (nI 2 :: bufV (some og) 2 :: tl) 43) :: (og.b, blk ([bufV o1 xs1.length, .slice none 0 0, nI 1, bufV o2 xs2.length, .slice none 0 0, nI 2] ++ og.rest) 187) :: (bufH o1 (xs1.map u8) 5 ++ (bufH o2 (xs2.map u8) 5 ++ S))) fun v S' => ∃ lo1 X1 lo2 X2, RdB X1 (bufV o1 xs1.length) xs1 ∧ RdB X1 (bufV lo1 (xs1.length + 40)) (xs1 ++ List.replicate 40 (UInt8.ofNat 1)) ∧ RdB X2 (bufV o2 xs2.length) xs2 ∧ RdB X2 (bufV lo2 (xs2.length + 40)) (xs2 ++ List.replicate 40 (UInt8.ofNat 2)) ∧ v = .tuple #[] ∧ S' = (bk, blk (nI 2 :: bufV (some og) 2 :: tl) 43) :: (og.b, blk ([bufV o1 xs1.length, bufV lo1 (xs1.length + 40), nI 1, bufV o2 xs2.length, bufV lo2 (xs2.length + 40), nI 2] ++ og.rest) 187) :: (X1 ++ (X2 ++ S)) := by
  refine CallS.enter Tryz.func83 rfl Tryz.ntmps83 (by simp) ?_
  refine CW.seq ?_
  refine CW.region (by kernel_rfl) ?_
  refine RL.q rfl rfl (QW.assign rfl) ?_
  refine RL.nil (thenN ?_)
  refine CW.block ?_
  refine CW.loopT3 (α := Nat) (β := (Value × Value)) (γ := HL) [(0, _)] (by repeat (first | exact leE_nil | refine leE_cons rfl ?_)) (fun i e X => (0 = i ∧ (.slice none 0 0, .slice none 0 0) = e ∧ (bufH o1 (xs1.map u8) 5 ++ (bufH o2 (xs2.map u8) 5 ++ S)) = X) ∨ (1 = i ∧ ∃ lo1 X1, RdB X1 (bufV o1 xs1.length) xs1 ∧ RdB X1 (bufV lo1 (xs1.length + 40)) (xs1 ++ List.replicate 40 (UInt8.ofNat 1)) ∧ (bufV lo1 (xs1.length + 40), .slice none 0 0) = e ∧ X1 ++ (bufH o2 (xs2.map u8) 5 ++ S) = X) ∨ (2 = i ∧ ∃ lo1 X1 lo2 X2, (RdB X1 (bufV o1 xs1.length) xs1 ∧ RdB X1 (bufV lo1 (xs1.length + 40)) (xs1 ++ List.replicate 40 (UInt8.ofNat 1))) ∧ (RdB X2 (bufV o2 xs2.length) xs2 ∧ RdB X2 (bufV lo2 (xs2.length + 40)) (xs2 ++ List.replicate 40 (UInt8.ofNat 2))) ∧ (bufV lo1 (xs1.length + 40), bufV lo2 (xs2.length + 40)) = e ∧ X1 ++ (X2 ++ S) = X)) (fun i e X r => (2, nI i) :: r) (fun i e X => (bk, blk (nI 2 :: bufV (some og) 2 :: tl) 43) :: (og.b, blk ([bufV o1 xs1.length, e.1, nI 1, bufV o2 xs2.length, e.2, nI 2] ++ og.rest) 187) :: X) (fun i e X => 2 - i) 0 (.slice none 0 0, .slice none 0 0) (bufH o1 (xs1.map u8) 5 ++ (bufH o2 (xs2.map u8) 5 ++ S)) (.inl ⟨rfl, rfl, rfl⟩) (by repeat (first | exact leE_nil | refine leE_cons (by first | rfl | (rfl)) ?_)) (List.Sublist.refl _) ?_
  intro i e X hI
  rcases hI with ⟨rfl, rfl, rfl⟩ | ⟨rfl, lo1, X1, hr1, hw1, rfl, rfl⟩ | ⟨rfl, lo1, X1, lo2, X2, ⟨hr1, hw1⟩, ⟨hr2, hw2⟩, rfl, rfl⟩
  · refine CW.seq ?_
    refine CW.seq ?_
    refine CW.region (by kernel_rfl) ?_
    refine RL.q rfl rfl (QW.move rfl) ?_
    refine RL.q rfl rfl (QW.move rfl) ?_
    refine RL.q rfl rfl (QW.nilCheck rfl) ?_
    refine RL.q rfl rfl (QW.fieldAddr Tryz.runUnderlying43 rfl Tryz.sizeOf27 (by decide) rfl (by first | exact fo0 1 | exact foB _ 1)) ?_
    refine RL.q rfl rfl (QW.load1 rfl Tryz.isAgg27 (by repeat (first | exact List.mem_cons_self | exact List.mem_cons_of_mem _ (by assumption) | assumption | refine List.mem_cons_of_mem _ ?_ | refine List.mem_append_right _ ?_)) rfl) ?_
    refine RL.q rfl rfl (QW.len_s Tryz.runUnderlying27 rfl) ?_
    refine RL.q rfl rfl (QW.lss rfl rfl (dI_lt _ _)) ?_
    refine RL.nil (thenN ?_)
    refine CW.cond_true rfl ?_
    refine CW.skip (thenN ?_)
    refine CW.seq ?_
    refine CW.block ?_
    refine CW.seq ?_
    refine CW.region (by kernel_rfl) ?_
    refine RL.q rfl rfl (QW.move rfl) ?_
    refine RL.q rfl rfl (QW.nilCheck rfl) ?_
    refine RL.q rfl rfl (QW.fieldAddr Tryz.runUnderlying43 rfl Tryz.sizeOf27 (by decide) rfl (by first | exact fo0 1 | exact foB _ 1)) ?_
    refine RL.q rfl rfl (QW.load1 rfl Tryz.isAgg27 (by repeat (first | exact List.mem_cons_self | exact List.mem_cons_of_mem _ (by assumption) | assumption | refine List.mem_cons_of_mem _ ?_ | refine List.mem_append_right _ ?_)) rfl) ?_
    refine RL.q rfl rfl (QW.move rfl) ?_
    refine RL.q rfl rfl (QW.indexAddrS Tryz.runUnderlying27 Tryz.sizeOf187 rfl rfl (by omega) (by first | omega | decide) (by first | exact ix01 _ | exact ixb1 _ _ | exact ix0m _ _)) ?_
    refine RL.q rfl rfl (QW.loadN (r := [bufV o1 xs1.length, .slice none 0 0, nI 1]) rfl Tryz.isAgg187 Tryz.sizeOf187 (by repeat (first | exact List.mem_cons_self | exact List.mem_cons_of_mem _ (by assumption) | assumption | refine List.mem_cons_of_mem _ ?_ | refine List.mem_append_right _ ?_)) (by simp) (by rfl)) ?_
    refine RL.cons rfl (OW.alloc zv187 rfl ?_)
    intro b3
    refine RL.cons rfl (OW.storeN rfl rfl Tryz.sizeOf187 (by repeat (first | exact List.mem_cons_self | exact List.mem_cons_of_mem _ (by assumption) | assumption | refine List.mem_cons_of_mem _ ?_ | refine List.mem_append_right _ ?_)) (by first | (simp only [List.length_map, List.length_replicate, List.length_cons, List.length_nil, List.length_set, Nat.mul_one] <;> omega) | (simp [*] <;> omega)) (by first | exact m_all (fun _ => rfl) _ | rfl | (simp; done) | (simp only [List.all_cons, List.all_nil, oneB_buf, Bool.true_and, Bool.and_true]; rfl) | (simp [oneB]; done)) (by first | (simp only [List.length_map, List.length_replicate, List.length_cons, List.length_nil, List.length_set, Nat.mul_one] <;> omega) | (simp [*] <;> omega)) (by first | (refine wr_all ?_; simp only [List.length_map, List.length_replicate, List.length_cons, List.length_nil, List.length_set, Nat.mul_one] <;> omega) | (refine wr_all ?_; simp [*]; done) | exact m_wr _ _ _ | with_reducible rfl) (by repeat (first | exact Upd.head | apply Upd.tail | apply Upd.tailA)) ?_)
    refine RL.nil (thenN ?_)
    refine CW.seq ?_
    refine CW.region (by kernel_rfl) ?_
    refine RL.q rfl rfl (QW.fieldAddr Tryz.runUnderlying187 rfl Tryz.sizeOf23 (by decide) rfl (by first | exact fo0 0 | exact foB _ 0)) ?_
    refine RL.q rfl rfl (QW.load1 rfl Tryz.isAgg23 (by repeat (first | exact List.mem_cons_self | exact List.mem_cons_of_mem _ (by assumption) | assumption | refine List.mem_cons_of_mem _ ?_ | refine List.mem_append_right _ ?_)) rfl) ?_
    refine RL.q rfl rfl (QW.assign rfl) ?_
    refine RL.nil (thenN ?_)
    refine CW.seq ?_
    refine CW.seq ?_
    refine CW.region (by kernel_rfl) ?_
    refine RL.q rfl rfl (QW.assign rfl) ?_
    refine RL.nil (thenN ?_)
    refine CW.block ?_
    refine CW.loopT3 (α := Nat) (β := Option Buf) (γ := HL) [(0, _), (2, _), (3, _), (6, _), (7, _), (8, _), (9, _), (10, _), (11, _), (12, _), (15, _), (16, _), (17, _), (18, _), (19, _), (20, _), (21, _), (22, _), (23, _)] (by repeat (first | exact leE_nil | refine leE_cons rfl ?_)) (fun k lo Y => k ≤ 40 ∧ bufOk lo (xs1.length + k) 1 ∧ (RdB Y (bufV o1 xs1.length) xs1 ∨ sameB o1 lo)) (fun k lo Y r => (5, nI k) :: (4, bufV lo (xs1.length + k)) :: r) (fun k lo Y => (b3, blk [bufV o1 xs1.length, .slice none 0 0, nI 1] 187) :: (bk, blk (nI 2 :: bufV (some og) 2 :: tl) 43) :: (og.b, blk ([bufV o1 xs1.length, .slice none 0 0, nI 1, bufV o2 xs2.length, .slice none 0 0, nI 2] ++ og.rest) 187) :: (bufH lo ((xs1 ++ List.replicate k (UInt8.ofNat 1)).map u8) 5 ++ (Y ++ (bufH o2 (xs2.map u8) 5 ++ S)))) (fun k lo Y => 40 - k) 0 o1 [] ⟨by omega, ho1, .inr fun _ => rfl⟩ (by repeat (first | exact leE_nil | refine leE_cons (by first | rfl | (rfl)) ?_)) (by simp only [List.replicate_zero, List.append_nil, List.nil_append]; exact List.Sublist.refl _) ?_
    intro k lo Y hIk
    obtain ⟨hk40, hlo, hY⟩ := hIk
    refine CW.seq ?_
    refine CW.seq ?_
    refine CW.region (by kernel_rfl) ?_
    refine RL.q rfl rfl (QW.move rfl) ?_
    refine RL.q rfl rfl (QW.lss rfl rfl (dI_lt _ 40)) ?_
    refine RL.nil (thenN ?_)
    refine CW.cond rfl (fun hc1 => ?_) (fun hc1 => ?_)
    · have hk : k < 40 := by simpa using hc1
      refine CW.skip (thenN ?_)
      refine CW.seq ?_
      refine CW.block ?_
      refine CW.region (by kernel_rfl) ?_
      refine RL.q rfl rfl (QW.move rfl) ?_
      refine RL.q rfl rfl (QW.fieldAddr Tryz.runUnderlying187 rfl Tryz.sizeOf3 (by decide) rfl (by first | exact fo0 2 | exact foB _ 2)) ?_
      refine RL.q rfl rfl (QW.load1 rfl Tryz.isAgg3 (by repeat (first | exact List.mem_cons_self | exact List.mem_cons_of_mem _ (by assumption) | assumption | refine List.mem_cons_of_mem _ ?_ | refine List.mem_append_right _ ?_)) rfl) ?_
      refine RL.cons rfl (OW.call Tryz.call173 (ext1 rfl) ((markByte_c _ _).mono ?_))
      rintro v S' ⟨rfl, rfl⟩
      refine RL.cons rfl (OW.buildSlice1 Tryz.runUnderlying23 Tryz.sizeOf5 zv5 rfl rfl rfl ?_)
      intro b32
      refine RL.cons rfl (OW.append2 Tryz.runUnderlying23 Tryz.runUnderlying23 (.inl ⟨_, rfl⟩) Tryz.typeInfo5 Tryz.sizeOf5 zv5 rfl rfl (by repeat (first | exact SegF.here | apply SegF.there | apply SegF.thereA)) (by simp) hlo rfl (by first | (apply Src.one; (repeat (first | exact List.mem_cons_self | exact List.mem_cons_of_mem _ (by assumption) | assumption | refine List.mem_cons_of_mem _ ?_ | refine List.mem_append_right _ ?_)); done) | (apply Src.sl; (focus repeat (first | exact List.mem_cons_self | exact List.mem_cons_of_mem _ (by assumption) | assumption | refine List.mem_cons_of_mem _ ?_ | refine List.mem_append_right _ ?_)); (first | (simp only [List.length_map, List.length_replicate, List.length_cons, List.length_nil, List.length_set, Nat.mul_one] <;> omega) | (simp [*] <;> omega)); (first | (refine m_all_of _ _ ?_; omega) | exact m_cut _ _ _ | rfl))) (by first | rfl | (simp only [List.length_map, List.length_replicate, List.length_cons, List.length_nil, List.length_set, Nat.mul_one] <;> omega) | (simp [*] <;> omega)) (by first | exact m_all (fun _ => rfl) _ | rfl | (simp; done) | (simp only [List.all_cons, List.all_nil, oneB_buf, Bool.true_and, Bool.and_true]; rfl) | (simp [oneB]; done)) (by decide) (by decide) (by rw [show Tryz.t5.bytes = 1 from rfl]; omega) ?_)
      intro lo9 Z9 hbo9 hZ9
      refine RL.q rfl rfl (QW.assign rfl) ?_
      refine RL.nil (blockN (thenN ?_))
      refine CW.region (by kernel_rfl) ?_
      refine RL.q rfl rfl (QW.move rfl) ?_
      refine RL.q rfl rfl (QW.add rfl rfl (wI_add (a := _) (b := 1) (by omega))) ?_
      refine RL.q rfl rfl (QW.assign rfl) ?_
      refine RL.nil (thenN ?_)
      refine ⟨k + 1, lo9, Z9 ++ Y, (⟨by omega, hbo9, grow_step hY hlo hZ9⟩), (by omega), ?_, ?_⟩
      · repeat (first | exact leE_nil | refine leE_cons rfl ?_)
      · refine dropS (keepS rfl (keepS rfl (keepS rfl ?_))); simp only [List.append_assoc]; exact keepA (bufH_congr (by simp [List.replicate_succ'])) (List.Sublist.refl _)
    · have hk : k = 40 := by simp at hc1; omega
      subst hk
      refine CW.exit (thenX (thenX (blockX (thenN ?_))))
      refine CW.region (by kernel_rfl) ?_
      refine RL.q rfl rfl (QW.move rfl) ?_
      refine RL.q rfl rfl (QW.nilCheck rfl) ?_
      refine RL.q rfl rfl (QW.fieldAddr Tryz.runUnderlying43 rfl Tryz.sizeOf27 (by decide) rfl (by first | exact fo0 1 | exact foB _ 1)) ?_
      refine RL.q rfl rfl (QW.load1 rfl Tryz.isAgg27 (by repeat (first | exact List.mem_cons_self | exact List.mem_cons_of_mem _ (by assumption) | assumption | refine List.mem_cons_of_mem _ ?_ | refine List.mem_append_right _ ?_)) rfl) ?_
      refine RL.q rfl rfl (QW.move rfl) ?_
      refine RL.q rfl rfl (QW.move rfl) ?_
      refine RL.q rfl rfl (QW.indexAddrS Tryz.runUnderlying27 Tryz.sizeOf187 rfl rfl (by omega) (by first | omega | decide) (by first | exact ix01 _ | exact ixb1 _ _ | exact ix0m _ _)) ?_
      refine RL.q rfl rfl (QW.fieldAddr Tryz.runUnderlying187 rfl Tryz.sizeOf23 (by decide) rfl (by first | exact fo0 1 | exact foB _ 1)) ?_
      refine RL.cons rfl (OW.store1 rfl rfl Tryz.sizeOf23 (oneB_buf _ _) (by repeat (first | exact List.mem_cons_self | exact List.mem_cons_of_mem _ (by assumption) | assumption | refine List.mem_cons_of_mem _ ?_ | refine List.mem_append_right _ ?_)) (by simp) rfl (by repeat (first | exact Upd.head | apply Upd.tail | apply Upd.tailA)) ?_)
      refine RL.nil (blockN (thenN ?_))
      refine CW.region (by kernel_rfl) ?_
      refine RL.q rfl rfl (QW.move rfl) ?_
      refine RL.q rfl rfl (QW.add rfl rfl (wI_add (a := _) (b := 1) (by omega))) ?_
      refine RL.q rfl rfl (QW.assign rfl) ?_
      refine RL.nil (thenN ?_)
      refine ⟨1, (bufV lo (xs1.length + 40), .slice none 0 0), (bufH lo ((xs1 ++ List.replicate 40 (UInt8.ofNat 1)).map u8) 5 ++ Y) ++ (bufH o2 (xs2.map u8) 5 ++ S), (.inr (.inl ⟨rfl, lo, _, grow_end hY hlo, grow_long hlo (by simp), rfl, rfl⟩)), (by omega), ?_, ?_⟩
      · repeat (first | exact leE_nil | refine leE_cons rfl ?_)
      · refine dropS (keepS rfl (keepS rfl ?_)); simp only [List.append_assoc]; exact List.Sublist.refl _
  · refine CW.seq ?_
    refine CW.seq ?_
    refine CW.region (by kernel_rfl) ?_
    refine RL.q rfl rfl (QW.move rfl) ?_
    refine RL.q rfl rfl (QW.move rfl) ?_
    refine RL.q rfl rfl (QW.nilCheck rfl) ?_
    refine RL.q rfl rfl (QW.fieldAddr Tryz.runUnderlying43 rfl Tryz.sizeOf27 (by decide) rfl (by first | exact fo0 1 | exact foB _ 1)) ?_
    refine RL.q rfl rfl (QW.load1 rfl Tryz.isAgg27 (by repeat (first | exact List.mem_cons_self | exact List.mem_cons_of_mem _ (by assumption) | assumption | refine List.mem_cons_of_mem _ ?_ | refine List.mem_append_right _ ?_)) rfl) ?_
    refine RL.q rfl rfl (QW.len_s Tryz.runUnderlying27 rfl) ?_
    refine RL.q rfl rfl (QW.lss rfl rfl (dI_lt _ _)) ?_
    refine RL.nil (thenN ?_)
    refine CW.cond_true rfl ?_
    refine CW.skip (thenN ?_)
    refine CW.seq ?_
    refine CW.block ?_
    refine CW.seq ?_
    refine CW.region (by kernel_rfl) ?_
    refine RL.q rfl rfl (QW.move rfl) ?_
    refine RL.q rfl rfl (QW.nilCheck rfl) ?_
    refine RL.q rfl rfl (QW.fieldAddr Tryz.runUnderlying43 rfl Tryz.sizeOf27 (by decide) rfl (by first | exact fo0 1 | exact foB _ 1)) ?_
    refine RL.q rfl rfl (QW.load1 rfl Tryz.isAgg27 (by repeat (first | exact List.mem_cons_self | exact List.mem_cons_of_mem _ (by assumption) | assumption | refine List.mem_cons_of_mem _ ?_ | refine List.mem_append_right _ ?_)) rfl) ?_
    refine RL.q rfl rfl (QW.move rfl) ?_
    refine RL.q rfl rfl (QW.indexAddrS Tryz.runUnderlying27 Tryz.sizeOf187 rfl rfl (by omega) (by first | omega | decide) (by first | exact ix01 _ | exact ixb1 _ _ | exact ix0m _ _)) ?_
    refine RL.q rfl rfl (QW.loadN (r := [bufV o2 xs2.length, .slice none 0 0, nI 2]) rfl Tryz.isAgg187 Tryz.sizeOf187 (by repeat (first | exact List.mem_cons_self | exact List.mem_cons_of_mem _ (by assumption) | assumption | refine List.mem_cons_of_mem _ ?_ | refine List.mem_append_right _ ?_)) (by simp) (by rfl)) ?_
    refine RL.cons rfl (OW.alloc zv187 rfl ?_)
    intro b3
    refine RL.cons rfl (OW.storeN rfl rfl Tryz.sizeOf187 (by repeat (first | exact List.mem_cons_self | exact List.mem_cons_of_mem _ (by assumption) | assumption | refine List.mem_cons_of_mem _ ?_ | refine List.mem_append_right _ ?_)) (by first | (simp only [List.length_map, List.length_replicate, List.length_cons, List.length_nil, List.length_set, Nat.mul_one] <;> omega) | (simp [*] <;> omega)) (by first | exact m_all (fun _ => rfl) _ | rfl | (simp; done) | (simp only [List.all_cons, List.all_nil, oneB_buf, Bool.true_and, Bool.and_true]; rfl) | (simp [oneB]; done)) (by first | (simp only [List.length_map, List.length_replicate, List.length_cons, List.length_nil, List.length_set, Nat.mul_one] <;> omega) | (simp [*] <;> omega)) (by first | (refine wr_all ?_; simp only [List.length_map, List.length_replicate, List.length_cons, List.length_nil, List.length_set, Nat.mul_one] <;> omega) | (refine wr_all ?_; simp [*]; done) | exact m_wr _ _ _ | with_reducible rfl) (by repeat (first | exact Upd.head | apply Upd.tail | apply Upd.tailA)) ?_)
    refine RL.nil (thenN ?_)
    refine CW.seq ?_
    refine CW.region (by kernel_rfl) ?_
    refine RL.q rfl rfl (QW.fieldAddr Tryz.runUnderlying187 rfl Tryz.sizeOf23 (by decide) rfl (by first | exact fo0 0 | exact foB _ 0)) ?_
    refine RL.q rfl rfl (QW.load1 rfl Tryz.isAgg23 (by repeat (first | exact List.mem_cons_self | exact List.mem_cons_of_mem _ (by assumption) | assumption | refine List.mem_cons_of_mem _ ?_ | refine List.mem_append_right _ ?_)) rfl) ?_
    refine RL.q rfl rfl (QW.assign rfl) ?_
    refine RL.nil (thenN ?_)
    refine CW.seq ?_
    refine CW.seq ?_
    refine CW.region (by kernel_rfl) ?_
    refine RL.q rfl rfl (QW.assign rfl) ?_
    refine RL.nil (thenN ?_)
    refine CW.block ?_
    refine CW.loopT3 (α := Nat) (β := Option Buf) (γ := HL) [(0, _), (2, _), (3, _), (6, _), (7, _), (8, _), (9, _), (10, _), (11, _), (12, _), (15, _), (16, _), (17, _), (18, _), (19, _), (20, _), (21, _), (22, _), (23, _)] (by repeat (first | exact leE_nil | refine leE_cons rfl ?_)) (fun k lo Y => k ≤ 40 ∧ bufOk lo (xs2.length + k) 1 ∧ (RdB Y (bufV o2 xs2.length) xs2 ∨ sameB o2 lo)) (fun k lo Y r => (5, nI k) :: (4, bufV lo (xs2.length + k)) :: r) (fun k lo Y => (b3, blk [bufV o2 xs2.length, .slice none 0 0, nI 2] 187) :: (bk, blk (nI 2 :: bufV (some og) 2 :: tl) 43) :: (og.b, blk ([bufV o1 xs1.length, bufV lo1 (xs1.length + 40), nI 1, bufV o2 xs2.length, .slice none 0 0, nI 2] ++ og.rest) 187) :: (X1 ++ (bufH lo ((xs2 ++ List.replicate k (UInt8.ofNat 2)).map u8) 5 ++ (Y ++ S)))) (fun k lo Y => 40 - k) 0 o2 [] ⟨by omega, ho2, .inr fun _ => rfl⟩ (by repeat (first | exact leE_nil | refine leE_cons (by first | rfl | (rfl)) ?_)) (by simp only [List.replicate_zero, List.append_nil, List.nil_append]; exact List.Sublist.refl _) ?_
    intro k lo Y hIk
    obtain ⟨hk40, hlo, hY⟩ := hIk
    refine CW.seq ?_
    refine CW.seq ?_
    refine CW.region (by kernel_rfl) ?_
    refine RL.q rfl rfl (QW.move rfl) ?_
    refine RL.q rfl rfl (QW.lss rfl rfl (dI_lt _ 40)) ?_
    refine RL.nil (thenN ?_)
    refine CW.cond rfl (fun hc1 => ?_) (fun hc1 => ?_)
    · have hk : k < 40 := by simpa using hc1
      refine CW.skip (thenN ?_)
      refine CW.seq ?_
      refine CW.block ?_
      refine CW.region (by kernel_rfl) ?_
      refine RL.q rfl rfl (QW.move rfl) ?_
      refine RL.q rfl rfl (QW.fieldAddr Tryz.runUnderlying187 rfl Tryz.sizeOf3 (by decide) rfl (by first | exact fo0 2 | exact foB _ 2)) ?_
      refine RL.q rfl rfl (QW.load1 rfl Tryz.isAgg3 (by repeat (first | exact List.mem_cons_self | exact List.mem_cons_of_mem _ (by assumption) | assumption | refine List.mem_cons_of_mem _ ?_ | refine List.mem_append_right _ ?_)) rfl) ?_
      refine RL.cons rfl (OW.call Tryz.call173 (ext1 rfl) ((markByte_c _ _).mono ?_))
      rintro v S' ⟨rfl, rfl⟩
      refine RL.cons rfl (OW.buildSlice1 Tryz.runUnderlying23 Tryz.sizeOf5 zv5 rfl rfl rfl ?_)
      intro b32
      refine RL.cons rfl (OW.append2 Tryz.runUnderlying23 Tryz.runUnderlying23 (.inl ⟨_, rfl⟩) Tryz.typeInfo5 Tryz.sizeOf5 zv5 rfl rfl (by repeat (first | exact SegF.here | apply SegF.there | apply SegF.thereA)) (by simp) hlo rfl (by first | (apply Src.one; (repeat (first | exact List.mem_cons_self | exact List.mem_cons_of_mem _ (by assumption) | assumption | refine List.mem_cons_of_mem _ ?_ | refine List.mem_append_right _ ?_)); done) | (apply Src.sl; (focus repeat (first | exact List.mem_cons_self | exact List.mem_cons_of_mem _ (by assumption) | assumption | refine List.mem_cons_of_mem _ ?_ | refine List.mem_append_right _ ?_)); (first | (simp only [List.length_map, List.length_replicate, List.length_cons, List.length_nil, List.length_set, Nat.mul_one] <;> omega) | (simp [*] <;> omega)); (first | (refine m_all_of _ _ ?_; omega) | exact m_cut _ _ _ | rfl))) (by first | rfl | (simp only [List.length_map, List.length_replicate, List.length_cons, List.length_nil, List.length_set, Nat.mul_one] <;> omega) | (simp [*] <;> omega)) (by first | exact m_all (fun _ => rfl) _ | rfl | (simp; done) | (simp only [List.all_cons, List.all_nil, oneB_buf, Bool.true_and, Bool.and_true]; rfl) | (simp [oneB]; done)) (by decide) (by decide) (by rw [show Tryz.t5.bytes = 1 from rfl]; omega) ?_)
      intro lo9 Z9 hbo9 hZ9
      refine RL.q rfl rfl (QW.assign rfl) ?_
      refine RL.nil (blockN (thenN ?_))
      refine CW.region (by kernel_rfl) ?_
      refine RL.q rfl rfl (QW.move rfl) ?_
      refine RL.q rfl rfl (QW.add rfl rfl (wI_add (a := _) (b := 1) (by omega))) ?_
      refine RL.q rfl rfl (QW.assign rfl) ?_
      refine RL.nil (thenN ?_)
      refine ⟨k + 1, lo9, Z9 ++ Y, (⟨by omega, hbo9, grow_step hY hlo hZ9⟩), (by omega), ?_, ?_⟩
      · repeat (first | exact leE_nil | refine leE_cons rfl ?_)
      · refine dropS (keepS rfl (keepS rfl (keepS rfl (keepA rfl ?_)))); simp only [List.append_assoc]; exact keepA (bufH_congr (by simp [List.replicate_succ'])) (List.Sublist.refl _)
    · have hk : k = 40 := by simp at hc1; omega
      subst hk
      refine CW.exit (thenX (thenX (blockX (thenN ?_))))
      refine CW.region (by kernel_rfl) ?_
      refine RL.q rfl rfl (QW.move rfl) ?_
      refine RL.q rfl rfl (QW.nilCheck rfl) ?_
      refine RL.q rfl rfl (QW.fieldAddr Tryz.runUnderlying43 rfl Tryz.sizeOf27 (by decide) rfl (by first | exact fo0 1 | exact foB _ 1)) ?_
      refine RL.q rfl rfl (QW.load1 rfl Tryz.isAgg27 (by repeat (first | exact List.mem_cons_self | exact List.mem_cons_of_mem _ (by assumption) | assumption | refine List.mem_cons_of_mem _ ?_ | refine List.mem_append_right _ ?_)) rfl) ?_
      refine RL.q rfl rfl (QW.move rfl) ?_
      refine RL.q rfl rfl (QW.move rfl) ?_
      refine RL.q rfl rfl (QW.indexAddrS Tryz.runUnderlying27 Tryz.sizeOf187 rfl rfl (by omega) (by first | omega | decide) (by first | exact ix01 _ | exact ixb1 _ _ | exact ix0m _ _)) ?_
      refine RL.q rfl rfl (QW.fieldAddr Tryz.runUnderlying187 rfl Tryz.sizeOf23 (by decide) rfl (by first | exact fo0 1 | exact foB _ 1)) ?_
      refine RL.cons rfl (OW.store1 rfl rfl Tryz.sizeOf23 (oneB_buf _ _) (by repeat (first | exact List.mem_cons_self | exact List.mem_cons_of_mem _ (by assumption) | assumption | refine List.mem_cons_of_mem _ ?_ | refine List.mem_append_right _ ?_)) (by simp) rfl (by repeat (first | exact Upd.head | apply Upd.tail | apply Upd.tailA)) ?_)
      refine RL.nil (blockN (thenN ?_))
      refine CW.region (by kernel_rfl) ?_
      refine RL.q rfl rfl (QW.move rfl) ?_
      refine RL.q rfl rfl (QW.add rfl rfl (wI_add (a := _) (b := 1) (by omega))) ?_
      refine RL.q rfl rfl (QW.assign rfl) ?_
      refine RL.nil (thenN ?_)
      refine ⟨2, (bufV lo1 (xs1.length + 40), bufV lo (xs2.length + 40)), X1 ++ ((bufH lo ((xs2 ++ List.replicate 40 (UInt8.ofNat 2)).map u8) 5 ++ Y) ++ S), (.inr (.inr ⟨rfl, lo1, X1, lo, _, ⟨hr1, hw1⟩, ⟨grow_end hY hlo, grow_long hlo (by simp)⟩, rfl, rfl⟩)), (by omega), ?_, ?_⟩
      · repeat (first | exact leE_nil | refine leE_cons rfl ?_)
      · refine dropS (keepS rfl (keepS rfl ?_)); simp only [List.append_assoc]; exact List.Sublist.refl _
  · refine CW.seq ?_
    refine CW.seq ?_
    refine CW.region (by kernel_rfl) ?_
    refine RL.q rfl rfl (QW.move rfl) ?_
    refine RL.q rfl rfl (QW.move rfl) ?_
    refine RL.q rfl rfl (QW.nilCheck rfl) ?_
    refine RL.q rfl rfl (QW.fieldAddr Tryz.runUnderlying43 rfl Tryz.sizeOf27 (by decide) rfl (by first | exact fo0 1 | exact foB _ 1)) ?_
    refine RL.q rfl rfl (QW.load1 rfl Tryz.isAgg27 (by repeat (first | exact List.mem_cons_self | exact List.mem_cons_of_mem _ (by assumption) | assumption | refine List.mem_cons_of_mem _ ?_ | refine List.mem_append_right _ ?_)) rfl) ?_
    refine RL.q rfl rfl (QW.len_s Tryz.runUnderlying27 rfl) ?_
    refine RL.q rfl rfl (QW.lss rfl rfl (dI_lt _ _)) ?_
    refine RL.nil (thenN ?_)
    refine CW.cond_false rfl ?_
    refine CW.exit (thenX (thenX (blockX (retN ((bk, blk (nI 2 :: bufV (some og) 2 :: tl) 43) :: (og.b, blk ([bufV o1 xs1.length, bufV lo1 (xs1.length + 40), nI 1, bufV o2 xs2.length, bufV lo2 (xs2.length + 40), nI 2] ++ og.rest) 187) :: (X1 ++ (X2 ++ S))) (ResOk.zero Tryz.results83 ) (by repeat (first | exact List.Sublist.refl _ | (refine keepS ?_ ?_; with_reducible rfl) | (refine keepA ?_ ?_; with_reducible rfl) | (refine keepS ?_ ?_; rfl) | apply dropS | apply dropA)) ?_))))
    exact ⟨lo1, X1, lo2, X2, hr1, hw1, hr2, hw2, rfl, rfl⟩

end Go.Sl
