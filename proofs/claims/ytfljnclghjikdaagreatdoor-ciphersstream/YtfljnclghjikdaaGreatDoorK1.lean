/- A part of a proof: the walk. -/
import Derived.Test.YtfljnclghjikdaaGreatDoorProg
import Derived.Test.YtfljnclghjikdaaGreatDoorEngK
import Derived.Test.YtfljnclghjikdaaGreatDoorC5
import Derived.Test.YtfljnclghjikdaaGreatDoorR4
set_option linter.unusedVariables false
set_option linter.unusedSimpArgs false
namespace Go.Sl
open Go.Proofs

theorem tk_succ (bs : List UInt8) {i : Nat} (h : i < bs.length) : bs.take (i + 1) = bs.take i ++ [bs.getD i 0] := by
  rw [List.take_add_one, List.getElem?_eq_getElem h, List.getD_eq_getElem?_getD, List.getElem?_eq_getElem h]; rfl


set_option maxRecDepth 100000 in
theorem Twin_c (bs : List UInt8) (a : Option Addr) (c : Nat) (S : HL) (hv : RdB S (.slice a bs.length c) bs) (hb : bs.length ≤ 1000000000) : CallS Tryz.prog 9 ⟨[.slice a bs.length c]⟩ S fun v S' => ∃ b, v = sl b 0 bs.length (bs.length + 1) ∧ S' = (b, blk (bs.map u8 ++ [u8 77]) 5) :: S := by
  refine CallS.enter Tryz.func9 rfl Tryz.ntmps9 (by simp) ?_
  refine CW.seq ?_
  refine CW.region (by kernel_rfl) ?_
  refine RL.q rfl rfl (QW.assign rfl) ?_
  refine RL.nil (thenN ?_)
  refine CW.seq ?_
  refine CW.region (by kernel_rfl) ?_
  refine RL.q rfl rfl (QW.move rfl) ?_
  refine RL.q rfl rfl (QW.len_s Tryz.runUnderlying23 rfl) ?_
  refine RL.q rfl rfl (QW.add rfl rfl (wI_add (a := _) (b := 1) (by omega))) ?_
  refine RL.cons rfl (OW.makeSlice (l := 0) Tryz.runUnderlying23 Tryz.typeInfo5 Tryz.sizeOf5 zv5 rfl rfl rfl (by omega) (by rw [show Tryz.t5.bytes = 1 from rfl]; omega) (by omega) ?_)
  intro b8
  refine RL.q rfl rfl (QW.assign rfl) ?_
  refine RL.nil (thenN ?_)
  refine CW.seq ?_
  refine CW.seq ?_
  refine CW.region (by kernel_rfl) ?_
  refine RL.q rfl rfl (QW.assign rfl) ?_
  refine RL.nil (thenN ?_)
  refine CW.block ?_
  refine CW.loopT2 (α := Nat) (β := List Value) [(0, _), (2, _)] (by repeat (first | exact leE_nil | refine leE_cons rfl ?_)) (fun i rest => i ≤ bs.length ∧ bufOk (some ⟨b8, bs.length + 1, rest⟩) i 1) (fun i rest r => (4, nI i) :: (3, bufV (some ⟨b8, bs.length + 1, rest⟩) i) :: r) (fun i rest => bufH (some ⟨b8, bs.length + 1, rest⟩) ((bs.take i).map u8) 5 ++ S) (fun i rest => bs.length - i) 0 (List.replicate (bs.length + 1) (u8 0)) ⟨by omega, by simp [bufOk]⟩ (by repeat (first | exact leE_nil | refine leE_cons (by first | rfl | (rfl)) ?_)) (List.Sublist.refl _) ?_
  intro i rest hI
  obtain ⟨hile, hbo⟩ := hI
  refine CW.seq ?_
  refine CW.seq ?_
  refine CW.region (by kernel_rfl) ?_
  refine RL.q rfl rfl (QW.move rfl) ?_
  refine RL.q rfl rfl (QW.move rfl) ?_
  refine RL.q rfl rfl (QW.len_s Tryz.runUnderlying23 rfl) ?_
  refine RL.q rfl rfl (QW.lss rfl rfl (dI_lt _ _)) ?_
  refine RL.nil (thenN ?_)
  refine CW.cond rfl (fun hc0 => ?_) (fun hc0 => ?_)
  · have hi : i < bs.length := by simpa using hc0
    obtain ⟨gb, off, l, TT, fr, rfl, hm, hget⟩ := RdB.at hv (by omega)
    have hti : (bs.take i).length = i := by simp; omega
    refine CW.skip (thenN ?_)
    refine CW.seq ?_
    refine CW.block ?_
    refine CW.region (by kernel_rfl) ?_
    refine RL.q rfl rfl (QW.move rfl) ?_
    refine RL.q rfl rfl (QW.move rfl) ?_
    refine RL.q rfl rfl (QW.move rfl) ?_
    refine RL.q rfl rfl (QW.indexAddrS Tryz.runUnderlying23 Tryz.sizeOf5 rfl rfl (by omega) (by first | omega | exact lt8 _) (by first | exact ix01 _ | exact ixb1 _ _ | exact ix0m _ _ | exact ixbm _ _ _)) ?_
    refine RL.q rfl rfl (QW.load1 rfl Tryz.isAgg5 (by repeat (first | exact List.mem_cons_self | exact List.mem_cons_of_mem _ (by assumption) | assumption | refine List.mem_cons_of_mem _ ?_ | refine List.mem_append_right _ ?_)) (by refine hget _ ?_; omega)) ?_
    refine RL.cons rfl (OW.buildSlice1 Tryz.runUnderlying23 Tryz.sizeOf5 zv5 rfl rfl rfl ?_)
    intro b20
    refine RL.cons rfl (OW.appendKeep Tryz.runUnderlying23 Tryz.runUnderlying23 (.inl ⟨_, rfl⟩) Tryz.typeInfo5 Tryz.sizeOf5 zv5 rfl rfl (by repeat (first | exact SegF.here | apply SegF.there | apply SegF.thereA)) (by first | rfl | (simp only [List.length_map, List.length_replicate, List.length_cons, List.length_nil, List.length_set, Nat.mul_one] <;> omega) | (simp [*] <;> omega)) hbo rfl (by first | (apply Src.one; (repeat (first | exact List.mem_cons_self | exact List.mem_cons_of_mem _ (by assumption) | assumption | refine List.mem_cons_of_mem _ ?_ | refine List.mem_append_right _ ?_)); done) | (apply Src.sl; (focus repeat (first | exact List.mem_cons_self | exact List.mem_cons_of_mem _ (by assumption) | assumption | refine List.mem_cons_of_mem _ ?_ | refine List.mem_append_right _ ?_)); (first | (simp only [List.length_map, List.length_replicate, List.length_cons, List.length_nil, List.length_set, Nat.mul_one] <;> omega) | (simp [*] <;> omega)); (first | (refine m_all_of _ _ ?_; omega) | exact m_cut _ _ _ | rfl))) (by first | rfl | (simp only [List.length_map, List.length_replicate, List.length_cons, List.length_nil, List.length_set, Nat.mul_one] <;> omega) | (simp [*] <;> omega)) (by first | exact m_all (fun _ => rfl) _ | rfl | (simp; done) | (simp only [List.all_cons, List.all_nil, oneB_buf, Bool.true_and, Bool.and_true]; rfl) | (simp [oneB]; done)) (by decide) (by decide) (by rw [show Tryz.t5.bytes = 1 from rfl]; omega) ?_ (fun u' hne _ => absurd (hne _ rfl) (by dsimp only [List.length_cons, List.length_nil]; omega)))
    intro u hu hfit hbo2
    cases hu
    refine RL.q rfl rfl (QW.assign rfl) ?_
    refine RL.nil (blockN (thenN ?_))
    refine CW.region (by kernel_rfl) ?_
    refine RL.q rfl rfl (QW.move rfl) ?_
    refine RL.q rfl rfl (QW.add rfl rfl (wI_add (a := _) (b := 1) (by omega))) ?_
    refine RL.q rfl rfl (QW.assign rfl) ?_
    refine RL.nil (thenN ?_)
    refine ⟨i + 1, rest.drop 1, (⟨by omega, hbo2⟩), (by omega), ?_, ?_⟩
    · repeat (first | exact leE_nil | refine leE_cons rfl ?_)
    · refine dropS (keepA (bufH_congr ?_) (List.Sublist.refl _)); rw [tk_succ _ hi, List.map_append]; rfl
  · have hi : i = bs.length := by simp at hc0; omega
    subst hi
    refine CW.exit (thenX (thenX (blockX (thenN ?_))))
    refine CW.seq ?_
    refine CW.region (by kernel_rfl) ?_
    refine RL.q rfl rfl (QW.move rfl) ?_
    refine RL.cons rfl (OW.buildSlice1 Tryz.runUnderlying23 Tryz.sizeOf5 zv5 rfl rfl rfl ?_)
    intro b23
    refine RL.cons rfl (OW.appendKeep Tryz.runUnderlying23 Tryz.runUnderlying23 (.inl ⟨_, rfl⟩) Tryz.typeInfo5 Tryz.sizeOf5 zv5 rfl rfl (by repeat (first | exact SegF.here | apply SegF.there | apply SegF.thereA)) (by first | rfl | (simp only [List.length_map, List.length_replicate, List.length_cons, List.length_nil, List.length_set, Nat.mul_one] <;> omega) | (simp [*] <;> omega)) hbo rfl (by first | (apply Src.one; (repeat (first | exact List.mem_cons_self | exact List.mem_cons_of_mem _ (by assumption) | assumption | refine List.mem_cons_of_mem _ ?_ | refine List.mem_append_right _ ?_)); done) | (apply Src.sl; (focus repeat (first | exact List.mem_cons_self | exact List.mem_cons_of_mem _ (by assumption) | assumption | refine List.mem_cons_of_mem _ ?_ | refine List.mem_append_right _ ?_)); (first | (simp only [List.length_map, List.length_replicate, List.length_cons, List.length_nil, List.length_set, Nat.mul_one] <;> omega) | (simp [*] <;> omega)); (first | (refine m_all_of _ _ ?_; omega) | exact m_cut _ _ _ | rfl))) (by first | rfl | (simp only [List.length_map, List.length_replicate, List.length_cons, List.length_nil, List.length_set, Nat.mul_one] <;> omega) | (simp [*] <;> omega)) (by first | exact m_all (fun _ => rfl) _ | rfl | (simp; done) | (simp only [List.all_cons, List.all_nil, oneB_buf, Bool.true_and, Bool.and_true]; rfl) | (simp [oneB]; done)) (by decide) (by decide) (by rw [show Tryz.t5.bytes = 1 from rfl]; omega) ?_ (fun u' hne _ => absurd (hne _ rfl) (by dsimp only [List.length_cons, List.length_nil]; omega)))
    intro u hu hfit hbo2
    cases hu
    simp only [List.take_length]
    refine RL.q rfl rfl (QW.move rfl) ?_
    refine RL.q rfl rfl (QW.len_s Tryz.runUnderlying23 rfl) ?_
    refine RL.q rfl rfl (QW.sliceS0 Tryz.runUnderlying23 Tryz.sizeOf5 rfl (optV_some rfl) optV_none (.inl rfl) (by first | omega | (dsimp only; omega)) (by first | omega | (dsimp only; omega))) ?_
    refine RL.q rfl rfl (QW.assign rfl) ?_
    refine RL.nil (thenN ?_)
    refine CW.ret (retR (bufH (some ⟨b8, bs.length + 1, rest.drop 1⟩) (bs.map u8 ++ [u8 77]) 5 ++ S) (ResOk.one Tryz.results9 (ResV.tmp rfl)) (by repeat (first | exact List.Sublist.refl _ | (refine keepS ?_ ?_; with_reducible rfl) | (refine keepA ?_ ?_; with_reducible rfl) | (refine keepS ?_ ?_; rfl) | apply dropS | apply dropA)) ?_)
    simp [bufOk] at hbo2
    have hr : rest.drop 1 = [] := List.eq_nil_of_length_eq_zero (by simp; omega)
    exact ⟨b8, rfl, by rw [hr]; simp [bufH]⟩

end Go.Sl
