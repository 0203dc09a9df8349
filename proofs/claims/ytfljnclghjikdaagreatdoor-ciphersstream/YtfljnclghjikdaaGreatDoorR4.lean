/- A part of a proof: the walk. -/
import Derived.Test.YtfljnclghjikdaaGreatDoorProg
import Derived.Test.YtfljnclghjikdaaGreatDoorR3
set_option linter.unusedVariables false
set_option linter.unusedSimpArgs false
namespace Go.Sl
open Go.Proofs

def rApp (bs s : List UInt8) (a : Nat) : Nat → List UInt8
  | 0 => []
  | k + 1 => rApp bs s a k ++ [bs.getD (a + k) 0 ^^^ s.getD k 0]
@[simp] theorem rApp_len (bs s : List UInt8) (a k : Nat) : (rApp bs s a k).length = k := by
  induction k with
  | zero => rfl
  | succ k ih => simp [rApp, ih]
def rOut (M key first bs : List UInt8) : Nat → List UInt8
  | 0 => []
  | j + 1 => rOut M key first bs j ++ rApp bs (refF M key (ctrTo first j)) (16 * j) (min 16 (bs.length - 16 * j))
theorem rOut_len (M key first bs : List UInt8) (j : Nat) : (rOut M key first bs j).length = min (16 * j) bs.length := by
  induction j with
  | zero => simp [rOut]
  | succ j ih => simp only [rOut, List.length_append, ih, rApp_len]; omega
def rFirst (first : List UInt8) (i : Nat) : List UInt8 := if i % 16 = 0 then ctrTo first (i / 16) else ctrTo first ((i + 15) / 16 - 1)
theorem rFirst_len (first : List UInt8) (i : Nat) : (rFirst first i).length = first.length := by unfold rFirst; split <;> exact ctrTo_len _ _
def rstreamF (key first bs : List UInt8) : List UInt8 := rOut boxM key first bs ((bs.length + 15) / 16)
theorem rstreamF_len (key first bs : List UInt8) : (rstreamF key first bs).length = bs.length := by unfold rstreamF; rw [rOut_len]; omega


set_option maxRecDepth 100000 in
theorem rStream_nil (key first : List UInt8) (a : Option Addr) (c : Nat) (S : HL) : CallS Tryz.prog 13 ⟨[.agg ⟨key.map u8⟩, .agg ⟨first.map u8⟩, .slice a 0 c]⟩ S fun v S' => v = .slice none 0 0 ∧ S = S' := by
  refine CallS.enter Tryz.func13 rfl Tryz.ntmps13 (by simp) ?_
  refine CW.seq ?_
  refine CW.region (by kernel_rfl) ?_
  refine RL.cons rfl (OW.boxN rfl ?_)
  intro b3
  refine RL.cons rfl (OW.boxN rfl ?_)
  intro b4
  refine RL.q rfl rfl (QW.assign rfl) ?_
  refine RL.nil (thenN ?_)
  refine CW.seq ?_
  refine CW.seq ?_
  refine CW.region (by kernel_rfl) ?_
  refine RL.q rfl rfl (QW.move rfl) ?_
  refine RL.q rfl rfl (QW.len_s Tryz.runUnderlying23 rfl) ?_
  refine RL.q rfl rfl (QW.eql rfl rfl (dI_eq _ 0)) ?_
  refine RL.nil (thenN ?_)
  refine CW.cond_true rfl ?_
  refine CW.seq ?_
  refine CW.region (by kernel_rfl) ?_
  refine RL.q rfl rfl (QW.assign rfl) ?_
  refine RL.nil (thenN ?_)
  refine CW.ret (thenR (retR (S) (ResOk.one Tryz.results13 (ResV.tmp rfl)) (by repeat (first | exact List.Sublist.refl _ | (refine keepS ?_ ?_; with_reducible rfl) | (refine keepA ?_ ?_; with_reducible rfl) | (refine keepS ?_ ?_; rfl) | apply dropS | apply dropA)) ?_))
  exact ⟨rfl, rfl⟩

set_option maxRecDepth 100000 in
theorem rStream_c (key first bs : List UInt8) (gb off c : Nat) (l : List Value) (T : TypeId) (fr : Nat × Nat) (S : HL) (hk : key.length = 16) (hf0 : first.length = 16) (h0 : bs ≠ []) (hb : bs.length ≤ 1000000000) (hm : (gb, Obj.cells ⟨l⟩ T fr) ∈ S) (hget : ∀ k, k < bs.length → l[off + k]? = some (u8 (bs.getD k 0))) : CallS Tryz.prog 13 ⟨[.agg ⟨key.map u8⟩, .agg ⟨first.map u8⟩, sl gb off bs.length c]⟩ S fun v S' => ∃ o, bufOk o (rstreamF key first bs).length 1 ∧ v = bufV o (rstreamF key first bs).length ∧ S' = bufH o ((rstreamF key first bs).map u8) 5 ++ S := by
  refine CallS.enter Tryz.func13 rfl Tryz.ntmps13 (by simp) ?_
  refine CW.seq ?_
  refine CW.region (by kernel_rfl) ?_
  refine RL.cons rfl (OW.boxN rfl ?_)
  intro b3
  refine RL.cons rfl (OW.boxN rfl ?_)
  intro b4
  refine RL.q rfl rfl (QW.assign rfl) ?_
  refine RL.nil (thenN ?_)
  refine CW.seq ?_
  refine CW.seq ?_
  refine CW.region (by kernel_rfl) ?_
  refine RL.q rfl rfl (QW.move rfl) ?_
  refine RL.q rfl rfl (QW.len_s Tryz.runUnderlying23 rfl) ?_
  refine RL.q rfl rfl (QW.eql rfl rfl (dI_eq _ 0)) ?_
  refine RL.nil (thenN ?_)
  refine CW.cond rfl (fun hc0 => ?_) (fun hc0 => ?_)
  · exfalso; simp at hc0; exact h0 hc0
  · have hn0 : bs.length ≠ 0 := by simpa using hc0
    refine CW.skip (thenN ?_)
    refine CW.seq ?_
    refine CW.region (by kernel_rfl) ?_
    refine RL.cons rfl (OW.call Tryz.call66 (fun _ _ => ext_nil) ((NewBox_c _).mono ?_))
    rintro v S' ⟨gm, rfl, rfl⟩
    refine RL.q rfl rfl (QW.assign rfl) ?_
    refine RL.nil (thenN ?_)
    refine CW.seq ?_
    refine CW.region (by kernel_rfl) ?_
    refine RL.q rfl rfl (QW.assign rfl) ?_
    refine RL.nil (thenN ?_)
    refine CW.seq ?_
    refine CW.seq ?_
    refine CW.region (by kernel_rfl) ?_
    refine RL.q rfl rfl (QW.assign rfl) ?_
    refine RL.nil (thenN ?_)
    refine CW.block ?_
    refine CW.loopT2 (α := Nat) (β := Option Buf) [(2, _), (3, _), (4, _), (6, _), (7, _)] (by repeat (first | exact leE_nil | refine leE_cons rfl ?_)) (fun i o => i ≤ bs.length ∧ bufOk o (rOut boxM key first bs ((i + 15) / 16)).length 1) (fun i o r => (9, nI i) :: (8, bufV o (rOut boxM key first bs ((i + 15) / 16)).length) :: r) (fun i o => bufH o ((rOut boxM key first bs ((i + 15) / 16)).map u8) 5 ++ (gm, blk (boxM.map u8) 190) :: (b4, blk ((ctrTo first ((i + 15) / 16 - 1)).map u8) 22) :: (b3, blk (key.map u8) 22) :: S) (fun i o => bs.length - i) 0 none ⟨by omega, rfl⟩ (by repeat (first | exact leE_nil | refine leE_cons (by first | rfl | (rfl)) ?_)) (List.Sublist.refl _) ?_
    intro i o hI
    obtain ⟨hile, hbo⟩ := hI
    have hro := rOut_len boxM key first bs ((i + 15) / 16)
    have hcl := ctrTo_len first ((i + 15) / 16 - 1)
    refine CW.seq ?_
    refine CW.seq ?_
    refine CW.region (by kernel_rfl) ?_
    refine RL.q rfl rfl (QW.move rfl) ?_
    refine RL.q rfl rfl (QW.move rfl) ?_
    refine RL.q rfl rfl (QW.len_s Tryz.runUnderlying23 rfl) ?_
    refine RL.q rfl rfl (QW.lss rfl rfl (dI_lt _ _)) ?_
    refine RL.nil (thenN ?_)
    refine CW.cond rfl (fun hc1 => ?_) (fun hc1 => ?_)
    · have hi : i < bs.length := by simpa using hc1
      refine CW.skip (thenN ?_)
      refine CW.seq ?_
      refine CW.block ?_
      refine CW.seqCutT (ι := Unit) [(2, _), (3, _), (4, _), (6, _), (7, _), (8, _), (9, _), (17, _), (18, _), (19, _), (20, _)] (by repeat (first | exact leE_nil | refine leE_cons rfl ?_)) (fun _u => True) (fun _u r => r) (fun _u => bufH o ((rOut boxM key first bs ((i + 15) / 16)).map u8) 5 ++ (gm, blk (boxM.map u8) 190) :: (b4, blk ((rFirst first i).map u8) 22) :: (b3, blk (key.map u8) 22) :: S) ?_ ?_
      · refine CW.seq ?_
        refine CW.region (by kernel_rfl) ?_
        refine RL.q rfl rfl (QW.move rfl) ?_
        refine RL.q rfl rfl (QW.gtr rfl rfl (dI_lt 0 _)) ?_
        refine RL.q rfl rfl (QW.move rfl) ?_
        cases hs8_3 : decide (0 < i)
        · first | (refine RL.guard_no rfl rfl rfl rfl rfl ?_) | (refine RL.guard_yes rfl rfl rfl rfl (OW.q rfl (QW.move rfl) ?_))
          first | (refine RL.guard_no rfl rfl rfl rfl rfl ?_) | (refine RL.guard_yes rfl rfl rfl rfl (OW.q rfl (QW.rem rfl rfl (by omega) (tI_rem _ 16)) ?_))
          first | (refine RL.guard_no rfl rfl rfl rfl rfl ?_) | (refine RL.guard_yes rfl rfl rfl rfl (OW.q rfl (QW.eql rfl rfl (dI_eq _ 0)) ?_))
          refine RL.q rfl rfl ((by first | exact QW.pick_t rfl rfl | exact QW.pick_f rfl rfl)) ?_
          refine RL.nil (thenN ?_)
          have h0i : i = 0 := by simp at hs8_3; omega
          have hfir : ctrTo first ((i + 15) / 16 - 1) = rFirst first i := by subst h0i; rfl
          refine CW.cond_false rfl ?_
          refine CW.skip (thenN ?_)
          refine ⟨(), (trivial), ?_, ?_⟩
          · repeat (first | exact leE_nil | refine leE_cons rfl ?_)
          · rw [hfir]; exact List.Sublist.refl _
        · first | (refine RL.guard_no rfl rfl rfl rfl rfl ?_) | (refine RL.guard_yes rfl rfl rfl rfl (OW.q rfl (QW.move rfl) ?_))
          first | (refine RL.guard_no rfl rfl rfl rfl rfl ?_) | (refine RL.guard_yes rfl rfl rfl rfl (OW.q rfl (QW.rem rfl rfl (by omega) (tI_rem _ 16)) ?_))
          first | (refine RL.guard_no rfl rfl rfl rfl rfl ?_) | (refine RL.guard_yes rfl rfl rfl rfl (OW.q rfl (QW.eql rfl rfl (dI_eq _ 0)) ?_))
          refine RL.q rfl rfl ((by first | exact QW.pick_t rfl rfl | exact QW.pick_f rfl rfl)) ?_
          refine RL.nil (thenN ?_)
          refine CW.cond rfl (fun hc2 => ?_) (fun hc2 => ?_)
          · have h0i : 0 < i := by simpa using hs8_3
            have h16 : i % 16 = 0 := by simpa using hc2
            refine CW.seq ?_
            refine CW.region (by kernel_rfl) ?_
            refine RL.q rfl rfl (QW.assign rfl) ?_
            refine RL.nil (thenN ?_)
            refine CW.block ?_
            refine CW.loopT2 (α := Nat) (β := List UInt8) [(2, _), (3, _), (4, _), (6, _), (7, _), (8, _), (9, _), (17, _), (18, _), (19, _), (20, _), (23, _), (24, _), (25, _), (26, _), (27, _), (28, _), (29, _)] (by repeat (first | exact leE_nil | refine leE_cons rfl ?_)) (fun m0 f => m0 ≤ 16 ∧ f.length = 16 ∧ incAt f m0 = rFirst first i) (fun m0 f r => (10, dn m0) :: r) (fun m0 f => bufH o ((rOut boxM key first bs ((i + 15) / 16)).map u8) 5 ++ (gm, blk (boxM.map u8) 190) :: (b4, blk (f.map u8) 22) :: (b3, blk (key.map u8) 22) :: S) (fun m0 f => m0) 16 (ctrTo first ((i + 15) / 16 - 1)) ⟨by omega, by omega, by rw [← incF_eq, show rFirst first i = ctrTo first (i / 16) from by unfold rFirst; rw [if_pos h16]]; obtain ⟨q, hq⟩ : ∃ q, i / 16 = q + 1 := ⟨i / 16 - 1, by omega⟩; rw [show (i + 15) / 16 - 1 = q from by omega, hq]; rfl⟩ (by repeat (first | exact leE_nil | refine leE_cons (by first | rfl | (rfl)) ?_)) (by repeat (first | exact List.Sublist.refl _ | (refine keepS ?_ ?_; with_reducible rfl) | (refine keepA ?_ ?_; with_reducible rfl) | (refine keepS ?_ ?_; rfl) | apply dropS | apply dropA)) ?_
            intro m0 f hI3
            obtain ⟨h1, h2, h3⟩ := hI3
            rcases m0 with _ | m
            · have hfir : f = rFirst first i := h3
              refine CW.seq ?_
              refine CW.seq ?_
              refine CW.region (by kernel_rfl) ?_
              refine RL.q rfl rfl (QW.move rfl) ?_
              refine RL.q rfl rfl (QW.geq rfl rfl rfl) ?_
              refine RL.nil (thenN ?_)
              refine CW.cond_false rfl ?_
              refine CW.exit (thenX (thenX (blockX (thenN ?_))))
              refine ⟨(), (trivial), ?_, ?_⟩
              · repeat (first | exact leE_nil | refine leE_cons rfl ?_)
              · rw [hfir]; exact List.Sublist.refl _
            · refine CW.seq ?_
              refine CW.seq ?_
              refine CW.region (by kernel_rfl) ?_
              refine RL.q rfl rfl (QW.move rfl) ?_
              refine RL.q rfl rfl (QW.geq (t := true) rfl rfl (by simp)) ?_
              refine RL.nil (thenN ?_)
              refine CW.cond_true rfl ?_
              refine CW.skip (thenN ?_)
              refine CW.seq ?_
              refine CW.block ?_
              refine CW.seq ?_
              refine CW.region (by kernel_rfl) ?_
              refine RL.q rfl rfl (QW.move rfl) ?_
              refine RL.q rfl rfl (QW.indexAddrA Tryz.runUnderlying22 Tryz.sizeOf5 rfl rfl (by omega) (by first | omega | exact lt8 _) (by first | exact ix01 _ | exact ixb1 _ _ | exact ix0m _ _ | exact ixbm _ _ _)) ?_
              refine RL.q rfl rfl (QW.load1 rfl Tryz.isAgg5 (by repeat (first | exact List.mem_cons_self | exact List.mem_cons_of_mem _ (by assumption) | assumption | refine List.mem_cons_of_mem _ ?_ | refine List.mem_append_right _ ?_)) (by first | (refine hget _ ?_; omega) | (refine m_get 0 ?_; omega) | (refine m_get 0 ?_; simp only [*]; omega) | (refine m_get 0 ?_; simp only [List.length_set]; omega) | (refine m_get 0 (lt8L ?_); omega) | (refine m_get 0 (lt8B ?_); omega) | rfl)) ?_
              refine RL.q rfl rfl (QW.add rfl rfl (w8_add _ 1)) ?_
              refine RL.q rfl rfl (QW.indexAddrA Tryz.runUnderlying22 Tryz.sizeOf5 rfl rfl (by omega) (by first | omega | exact lt8 _) (by first | exact ix01 _ | exact ixb1 _ _ | exact ix0m _ _ | exact ixbm _ _ _)) ?_
              refine RL.cons rfl (OW.store1 rfl rfl Tryz.sizeOf5 rfl (by repeat (first | exact List.mem_cons_self | exact List.mem_cons_of_mem _ (by assumption) | assumption | refine List.mem_cons_of_mem _ ?_ | refine List.mem_append_right _ ?_)) (by first | (simp only [List.length_map, List.length_replicate, List.length_cons, List.length_nil, List.length_set, Nat.mul_one] <;> omega) | (rw [List.length_map]; refine lt8B ?_; simp [*]; done) | (rw [List.length_map]; refine lt8L ?_; simp [*]; done) | (simp [*] <;> omega)) (by first | exact m_set _ _ _ | rfl) (by repeat (first | exact Upd.head | apply Upd.tail | apply Upd.tailA)) ?_)
              refine RL.nil (thenN ?_)
              refine CW.seq ?_
              refine CW.region (by kernel_rfl) ?_
              refine RL.q rfl rfl (QW.move rfl) ?_
              refine RL.q rfl rfl (QW.indexAddrA Tryz.runUnderlying22 Tryz.sizeOf5 rfl rfl (by omega) (by first | omega | exact lt8 _) (by first | exact ix01 _ | exact ixb1 _ _ | exact ix0m _ _ | exact ixbm _ _ _)) ?_
              refine RL.q rfl rfl (QW.load1 rfl Tryz.isAgg5 (by repeat (first | exact List.mem_cons_self | exact List.mem_cons_of_mem _ (by assumption) | assumption | refine List.mem_cons_of_mem _ ?_ | refine List.mem_append_right _ ?_)) (by first | (refine hget _ ?_; omega) | (refine m_get 0 ?_; omega) | (refine m_get 0 ?_; simp only [*]; omega) | (refine m_get 0 ?_; simp only [List.length_set]; omega) | (refine m_get 0 (lt8L ?_); omega) | (refine m_get 0 (lt8B ?_); omega) | rfl)) ?_
              refine RL.q rfl rfl (QW.neq' rfl rfl (d8_eq _ 0)) ?_
              refine RL.nil (thenN ?_)
              refine CW.cond rfl (fun hc4 => ?_) (fun hc4 => ?_)
              · have hz : ¬ ((f.set m (f.getD m 0 + 1)).getD m 0 = 0) := by simpa using hc4
                have hfir : f.set m (f.getD m 0 + 1) = rFirst first i := by
                    rw [← h3]; simp only [incAt]; rw [if_neg hz]
                refine CW.exit (blockY rfl (thenX (thenX (blockX (thenN ?_)))))
                refine ⟨(), (trivial), ?_, ?_⟩
                · repeat (first | exact leE_nil | refine leE_cons rfl ?_)
                · rw [hfir]; exact List.Sublist.refl _
              · have hz : (f.set m (f.getD m 0 + 1)).getD m 0 = 0 := by simpa using hc4
                refine CW.skip (blockN (thenN ?_))
                refine CW.region (by kernel_rfl) ?_
                refine RL.q rfl rfl (QW.move rfl) ?_
                refine RL.q rfl rfl (QW.sub rfl rfl (w64 (by omega))) ?_
                refine RL.q rfl rfl (QW.assign rfl) ?_
                refine RL.nil (thenN ?_)
                refine ⟨m, f.set m (f.getD m 0 + 1), (by refine ⟨by omega, by simp [h2], ?_⟩; rw [← h3]; simp only [incAt]; rw [if_pos hz]), (by omega), ?_, ?_⟩
                · repeat (first | exact leE_nil | refine leE_cons (by first | rfl | (exact congrArg some (dn_eq m))) ?_)
                · exact List.Sublist.refl _
          · have h0i : 0 < i := by simpa using hs8_3
            have h16 : ¬ i % 16 = 0 := by simpa using hc2
            have hfir : ctrTo first ((i + 15) / 16 - 1) = rFirst first i := by unfold rFirst; rw [if_neg h16]
            refine CW.skip (thenN ?_)
            refine ⟨(), (trivial), ?_, ?_⟩
            · repeat (first | exact leE_nil | refine leE_cons rfl ?_)
            · rw [hfir]; exact List.Sublist.refl _
      · intro _u _hI
        have hfl := rFirst_len first i
        refine CW.seq ?_
        refine CW.region (by kernel_rfl) ?_
        refine RL.q rfl rfl (QW.move rfl) ?_
        refine RL.q rfl rfl (QW.rem rfl rfl (by omega) (tI_rem _ 16)) ?_
        refine RL.q rfl rfl (QW.eql rfl rfl (dI_eq _ 0)) ?_
        refine RL.nil (thenN ?_)
        refine CW.cond rfl (fun hc5 => ?_) (fun hc5 => ?_)
        · have h16 : i % 16 = 0 := by simpa using hc5
          have hfi : rFirst first i = ctrTo first (i / 16) := by unfold rFirst; rw [if_pos h16]
          have hdiv : (i + 15) / 16 = i / 16 := by omega
          have hcl2 := ctrTo_len first (i / 16)
          rw [hfi, hdiv]
          rw [hdiv] at hro hbo
          refine CW.seq ?_
          refine CW.region (by kernel_rfl) ?_
          refine RL.q rfl rfl (QW.move rfl) ?_
          refine RL.q rfl rfl (QW.loadN rfl Tryz.isAgg22 Tryz.sizeOf22 (by repeat (first | exact List.mem_cons_self | exact List.mem_cons_of_mem _ (by assumption) | assumption | refine List.mem_cons_of_mem _ ?_ | refine List.mem_append_right _ ?_)) (by first | (simp only [List.length_map, List.length_replicate, List.length_cons, List.length_nil, List.length_set, Nat.mul_one] <;> omega) | (simp [*] <;> omega)) (by first | (refine m_all_of _ _ ?_; omega) | (refine m_all_of _ _ ?_; simp [*]; done) | exact m_cut _ _ _ | with_reducible rfl)) ?_
          refine RL.q rfl rfl (QW.loadN rfl Tryz.isAgg22 Tryz.sizeOf22 (by repeat (first | exact List.mem_cons_self | exact List.mem_cons_of_mem _ (by assumption) | assumption | refine List.mem_cons_of_mem _ ?_ | refine List.mem_append_right _ ?_)) (by first | (simp only [List.length_map, List.length_replicate, List.length_cons, List.length_nil, List.length_set, Nat.mul_one] <;> omega) | (simp [*] <;> omega)) (by first | (refine m_all_of _ _ ?_; omega) | (refine m_all_of _ _ ?_; simp [*]; done) | exact m_cut _ _ _ | with_reducible rfl)) ?_
          refine RL.cons rfl (OW.call Tryz.call67 (ext3 rfl rfl rfl) ((rBlock_c _ _ _ _ _ (by repeat (first | exact List.mem_cons_self | exact List.mem_cons_of_mem _ (by assumption) | assumption | refine List.mem_cons_of_mem _ ?_ | refine List.mem_append_right _ ?_)) boxM_len (by omega) (by omega)).mono ?_))
          rintro v S' ⟨rfl, rfl⟩
          refine RL.cons rfl (OW.alloc zv22 rfl ?_)
          intro b11
          refine RL.cons rfl (OW.storeN rfl rfl Tryz.sizeOf22 (by repeat (first | exact List.mem_cons_self | exact List.mem_cons_of_mem _ (by assumption) | assumption | refine List.mem_cons_of_mem _ ?_ | refine List.mem_append_right _ ?_)) (by first | (simp only [List.length_map, List.length_replicate, List.length_cons, List.length_nil, List.length_set, Nat.mul_one] <;> omega) | (simp [*] <;> omega)) (by first | exact m_all (fun _ => rfl) _ | rfl | (simp; done) | (simp only [List.all_cons, List.all_nil, oneB_buf, Bool.true_and, Bool.and_true]; rfl) | (simp [oneB]; done)) (by first | (simp only [List.length_map, List.length_replicate, List.length_cons, List.length_nil, List.length_set, Nat.mul_one] <;> omega) | (simp [*] <;> omega)) (by first | (refine wr_all ?_; simp only [List.length_map, List.length_replicate, List.length_cons, List.length_nil, List.length_set, Nat.mul_one] <;> omega) | (refine wr_all ?_; simp [*]; done) | exact m_wr _ _ _ | with_reducible rfl) (by repeat (first | exact Upd.head | apply Upd.tail | apply Upd.tailA)) ?_)
          refine RL.nil (thenN ?_)
          refine CW.seq ?_
          refine CW.region (by kernel_rfl) ?_
          refine RL.q rfl rfl (QW.assign rfl) ?_
          refine RL.nil (thenN ?_)
          refine CW.block ?_
          refine CW.loopT2 (α := Nat) (β := Option Buf) [(2, _), (3, _), (4, _), (6, _), (7, _), (9, _), (11, _), (17, _), (18, _), (19, _), (20, _), (43, _), (44, _), (45, _), (46, _), (47, _), (48, _), (49, _)] (by repeat (first | exact leE_nil | refine leE_cons rfl ?_)) (fun k o2 => k ≤ min 16 (bs.length - i) ∧ bufOk o2 ((rOut boxM key first bs (i / 16)) ++ rApp bs (refF boxM key (ctrTo first (i / 16))) i k).length 1) (fun k o2 r => (12, nI k) :: (8, bufV o2 ((rOut boxM key first bs (i / 16)) ++ rApp bs (refF boxM key (ctrTo first (i / 16))) i k).length) :: r) (fun k o2 => (b11, blk ((refF boxM key (ctrTo first (i / 16))).map u8) 22) :: (bufH o2 (((rOut boxM key first bs (i / 16)) ++ rApp bs (refF boxM key (ctrTo first (i / 16))) i k).map u8) 5 ++ (gm, blk (boxM.map u8) 190) :: (b4, blk ((ctrTo first (i / 16)).map u8) 22) :: (b3, blk (key.map u8) 22) :: S)) (fun k o2 => 16 - k) 0 o ⟨by omega, by simp only [rApp, List.append_nil]; exact hbo⟩ (by repeat (first | exact leE_nil | refine leE_cons (by first | rfl | (simp only [rApp, List.append_nil]; rfl)) ?_)) (keepS rfl (keepA (by simp only [rApp, List.append_nil]) (List.Sublist.refl _))) ?_
          intro k o2 hI4
          obtain ⟨hk2, hbo2⟩ := hI4
          have hrl : (refF boxM key (ctrTo first (i / 16))).length = 16 := by simp [hcl2, hf0]
          have hra := rApp_len bs (refF boxM key (ctrTo first (i / 16))) i k
          have hl5 : ((rOut boxM key first bs (i / 16)) ++ rApp bs (refF boxM key (ctrTo first (i / 16))) i k).length = (rOut boxM key first bs (i / 16)).length + k := by simp
          refine CW.seq ?_
          refine CW.seq ?_
          refine CW.region (by kernel_rfl) ?_
          refine RL.q rfl rfl (QW.move rfl) ?_
          refine RL.q rfl rfl (QW.lss rfl rfl (dI_lt _ 16)) ?_
          refine RL.q rfl rfl (QW.move rfl) ?_
          cases hs17_3 : decide (k < 16)
          · first | (refine RL.guard_no rfl rfl rfl rfl rfl ?_) | (refine RL.guard_yes rfl rfl rfl rfl (OW.q rfl (QW.move rfl) ?_))
            first | (refine RL.guard_no rfl rfl rfl rfl rfl ?_) | (refine RL.guard_yes rfl rfl rfl rfl (OW.q rfl (QW.move rfl) ?_))
            first | (refine RL.guard_no rfl rfl rfl rfl rfl ?_) | (refine RL.guard_yes rfl rfl rfl rfl (OW.q rfl (QW.add rfl rfl (wI_add (a := _) (b := _) (by omega))) ?_))
            first | (refine RL.guard_no rfl rfl rfl rfl rfl ?_) | (refine RL.guard_yes rfl rfl rfl rfl (OW.q rfl (QW.move rfl) ?_))
            first | (refine RL.guard_no rfl rfl rfl rfl rfl ?_) | (refine RL.guard_yes rfl rfl rfl rfl (OW.q rfl (QW.len_s Tryz.runUnderlying23 rfl) ?_))
            first | (refine RL.guard_no rfl rfl rfl rfl rfl ?_) | (refine RL.guard_yes rfl rfl rfl rfl (OW.q rfl (QW.lss rfl rfl (dI_lt _ _)) ?_))
            refine RL.q rfl rfl ((by first | exact QW.pick_t rfl rfl | exact QW.pick_f rfl rfl)) ?_
            refine RL.nil (thenN ?_)
            have hkk : k = min 16 (bs.length - i) := by simp at hs17_3; omega
            have hfin : rOut boxM key first bs ((i + 1 + 15) / 16) = ((rOut boxM key first bs (i / 16)) ++ rApp bs (refF boxM key (ctrTo first (i / 16))) i k) := by
                rw [show (i + 1 + 15) / 16 = i / 16 + 1 from by omega, hkk]; simp only [rOut]; rw [show 16 * (i / 16) = i from by omega]
            refine CW.cond_false rfl ?_
            refine CW.exit (thenX (thenX (blockX (blockN (thenN ?_)))))
            refine CW.region (by kernel_rfl) ?_
            refine RL.q rfl rfl (QW.move rfl) ?_
            refine RL.q rfl rfl (QW.add rfl rfl (wI_add (a := _) (b := 1) (by omega))) ?_
            refine RL.q rfl rfl (QW.assign rfl) ?_
            refine RL.nil (thenN ?_)
            refine ⟨i + 1, o2, (⟨by omega, by rw [hfin]; exact hbo2⟩), (by omega), ?_, ?_⟩
            · repeat (first | exact leE_nil | refine leE_cons (by first | rfl | (rw [hfin]; rfl)) ?_)
            · refine dropS (keepA (by rw [hfin]) (keepS rfl (keepS ?_ (List.Sublist.refl _)))); rw [show (i + 1 + 15) / 16 - 1 = i / 16 from by omega]
          · first | (refine RL.guard_no rfl rfl rfl rfl rfl ?_) | (refine RL.guard_yes rfl rfl rfl rfl (OW.q rfl (QW.move rfl) ?_))
            first | (refine RL.guard_no rfl rfl rfl rfl rfl ?_) | (refine RL.guard_yes rfl rfl rfl rfl (OW.q rfl (QW.move rfl) ?_))
            first | (refine RL.guard_no rfl rfl rfl rfl rfl ?_) | (refine RL.guard_yes rfl rfl rfl rfl (OW.q rfl (QW.add rfl rfl (wI_add (a := _) (b := _) (by omega))) ?_))
            first | (refine RL.guard_no rfl rfl rfl rfl rfl ?_) | (refine RL.guard_yes rfl rfl rfl rfl (OW.q rfl (QW.move rfl) ?_))
            first | (refine RL.guard_no rfl rfl rfl rfl rfl ?_) | (refine RL.guard_yes rfl rfl rfl rfl (OW.q rfl (QW.len_s Tryz.runUnderlying23 rfl) ?_))
            first | (refine RL.guard_no rfl rfl rfl rfl rfl ?_) | (refine RL.guard_yes rfl rfl rfl rfl (OW.q rfl (QW.lss rfl rfl (dI_lt _ _)) ?_))
            refine RL.q rfl rfl ((by first | exact QW.pick_t rfl rfl | exact QW.pick_f rfl rfl)) ?_
            refine RL.nil (thenN ?_)
            refine CW.cond rfl (fun hc6 => ?_) (fun hc6 => ?_)
            · have hk : k < 16 := by simpa using hs17_3
              have hik : i + k < bs.length := by simpa using hc6
              refine CW.skip (thenN ?_)
              refine CW.seq ?_
              refine CW.block ?_
              refine CW.drawn [(b11, blk ((refF boxM key (ctrTo first (i / 16))).map u8) 22), (gb, Obj.cells ⟨l⟩ T fr)] 14 (by rw [mixed]; rfl) (by kernel_rfl) (by kernel_rfl) (by kernel_rfl) (fun _ _ _ h => h) ?_
              refine DL.take 0 rfl (by kernel_rfl) (by kernel_rfl) (by kernel_rfl) rfl rfl (QW.move rfl) (hsub2 (by repeat (first | exact List.mem_cons_self | exact List.mem_cons_of_mem _ (by assumption) | assumption | refine List.mem_cons_of_mem _ ?_ | refine List.mem_append_right _ ?_)) (by repeat (first | exact List.mem_cons_self | exact List.mem_cons_of_mem _ (by assumption) | assumption | refine List.mem_cons_of_mem _ ?_ | refine List.mem_append_right _ ?_))) ?_
              refine DL.take 1 rfl (by kernel_rfl) (by kernel_rfl) (by kernel_rfl) rfl rfl (QW.move rfl) (hsub2 (by repeat (first | exact List.mem_cons_self | exact List.mem_cons_of_mem _ (by assumption) | assumption | refine List.mem_cons_of_mem _ ?_ | refine List.mem_append_right _ ?_)) (by repeat (first | exact List.mem_cons_self | exact List.mem_cons_of_mem _ (by assumption) | assumption | refine List.mem_cons_of_mem _ ?_ | refine List.mem_append_right _ ?_))) ?_
              refine DL.take 2 rfl (by kernel_rfl) (by kernel_rfl) (by kernel_rfl) rfl rfl (QW.move rfl) (hsub2 (by repeat (first | exact List.mem_cons_self | exact List.mem_cons_of_mem _ (by assumption) | assumption | refine List.mem_cons_of_mem _ ?_ | refine List.mem_append_right _ ?_)) (by repeat (first | exact List.mem_cons_self | exact List.mem_cons_of_mem _ (by assumption) | assumption | refine List.mem_cons_of_mem _ ?_ | refine List.mem_append_right _ ?_))) ?_
              refine DL.take 3 rfl (by kernel_rfl) (by kernel_rfl) (by kernel_rfl) rfl rfl (QW.move rfl) (hsub2 (by repeat (first | exact List.mem_cons_self | exact List.mem_cons_of_mem _ (by assumption) | assumption | refine List.mem_cons_of_mem _ ?_ | refine List.mem_append_right _ ?_)) (by repeat (first | exact List.mem_cons_self | exact List.mem_cons_of_mem _ (by assumption) | assumption | refine List.mem_cons_of_mem _ ?_ | refine List.mem_append_right _ ?_))) ?_
              refine DL.take 4 rfl (by kernel_rfl) (by kernel_rfl) (by kernel_rfl) rfl rfl (QW.add rfl rfl (wI_add (a := _) (b := _) (by omega))) (hsub2 (by repeat (first | exact List.mem_cons_self | exact List.mem_cons_of_mem _ (by assumption) | assumption | refine List.mem_cons_of_mem _ ?_ | refine List.mem_append_right _ ?_)) (by repeat (first | exact List.mem_cons_self | exact List.mem_cons_of_mem _ (by assumption) | assumption | refine List.mem_cons_of_mem _ ?_ | refine List.mem_append_right _ ?_))) ?_
              refine DL.take 5 rfl (by kernel_rfl) (by kernel_rfl) (by kernel_rfl) rfl rfl (QW.indexAddrS Tryz.runUnderlying23 Tryz.sizeOf5 rfl rfl (by omega) (by first | omega | exact lt8 _) (by first | exact ix01 _ | exact ixb1 _ _ | exact ix0m _ _ | exact ixbm _ _ _)) (hsub2 (by repeat (first | exact List.mem_cons_self | exact List.mem_cons_of_mem _ (by assumption) | assumption | refine List.mem_cons_of_mem _ ?_ | refine List.mem_append_right _ ?_)) (by repeat (first | exact List.mem_cons_self | exact List.mem_cons_of_mem _ (by assumption) | assumption | refine List.mem_cons_of_mem _ ?_ | refine List.mem_append_right _ ?_))) ?_
              refine DL.take 6 rfl (by kernel_rfl) (by kernel_rfl) (by kernel_rfl) rfl rfl (QW.load1 rfl Tryz.isAgg5 (by repeat (first | exact List.mem_cons_self | exact List.mem_cons_of_mem _ (by assumption) | assumption | refine List.mem_cons_of_mem _ ?_ | refine List.mem_append_right _ ?_)) (by first | (refine hget _ ?_; omega) | (refine m_get 0 ?_; omega) | (refine m_get 0 ?_; simp only [*]; omega) | (refine m_get 0 ?_; simp only [List.length_set]; omega) | (refine m_get 0 (lt8L ?_); omega) | (refine m_get 0 (lt8B ?_); omega) | rfl)) (hsub2 (by repeat (first | exact List.mem_cons_self | exact List.mem_cons_of_mem _ (by assumption) | assumption | refine List.mem_cons_of_mem _ ?_ | refine List.mem_append_right _ ?_)) (by repeat (first | exact List.mem_cons_self | exact List.mem_cons_of_mem _ (by assumption) | assumption | refine List.mem_cons_of_mem _ ?_ | refine List.mem_append_right _ ?_))) ?_
              refine DL.take 7 rfl (by kernel_rfl) (by kernel_rfl) (by kernel_rfl) rfl rfl (QW.move rfl) (hsub2 (by repeat (first | exact List.mem_cons_self | exact List.mem_cons_of_mem _ (by assumption) | assumption | refine List.mem_cons_of_mem _ ?_ | refine List.mem_append_right _ ?_)) (by repeat (first | exact List.mem_cons_self | exact List.mem_cons_of_mem _ (by assumption) | assumption | refine List.mem_cons_of_mem _ ?_ | refine List.mem_append_right _ ?_))) ?_
              refine DL.take 8 rfl (by kernel_rfl) (by kernel_rfl) (by kernel_rfl) rfl rfl (QW.indexAddrA Tryz.runUnderlying22 Tryz.sizeOf5 rfl rfl (by omega) (by first | omega | exact lt8 _) (by first | exact ix01 _ | exact ixb1 _ _ | exact ix0m _ _ | exact ixbm _ _ _)) (hsub2 (by repeat (first | exact List.mem_cons_self | exact List.mem_cons_of_mem _ (by assumption) | assumption | refine List.mem_cons_of_mem _ ?_ | refine List.mem_append_right _ ?_)) (by repeat (first | exact List.mem_cons_self | exact List.mem_cons_of_mem _ (by assumption) | assumption | refine List.mem_cons_of_mem _ ?_ | refine List.mem_append_right _ ?_))) ?_
              refine DL.take 9 rfl (by kernel_rfl) (by kernel_rfl) (by kernel_rfl) rfl rfl (QW.load1 rfl Tryz.isAgg5 (by repeat (first | exact List.mem_cons_self | exact List.mem_cons_of_mem _ (by assumption) | assumption | refine List.mem_cons_of_mem _ ?_ | refine List.mem_append_right _ ?_)) (by first | (refine hget _ ?_; omega) | (refine m_get 0 ?_; omega) | (refine m_get 0 ?_; simp only [*]; omega) | (refine m_get 0 ?_; simp only [List.length_set]; omega) | (refine m_get 0 (lt8L ?_); omega) | (refine m_get 0 (lt8B ?_); omega) | rfl)) (hsub2 (by repeat (first | exact List.mem_cons_self | exact List.mem_cons_of_mem _ (by assumption) | assumption | refine List.mem_cons_of_mem _ ?_ | refine List.mem_append_right _ ?_)) (by repeat (first | exact List.mem_cons_self | exact List.mem_cons_of_mem _ (by assumption) | assumption | refine List.mem_cons_of_mem _ ?_ | refine List.mem_append_right _ ?_))) ?_
              refine DL.take 10 rfl (by kernel_rfl) (by kernel_rfl) (by kernel_rfl) rfl rfl (QW.xor_ rfl rfl (x8_xor _ _)) (hsub2 (by repeat (first | exact List.mem_cons_self | exact List.mem_cons_of_mem _ (by assumption) | assumption | refine List.mem_cons_of_mem _ ?_ | refine List.mem_append_right _ ?_)) (by repeat (first | exact List.mem_cons_self | exact List.mem_cons_of_mem _ (by assumption) | assumption | refine List.mem_cons_of_mem _ ?_ | refine List.mem_append_right _ ?_))) ?_
              refine DL.one 11 (by kernel_rfl) rfl rfl (OW.buildSlice1 Tryz.runUnderlying23 Tryz.sizeOf5 zv5 rfl rfl rfl ?_)
              intro b73
              refine ⟨fun _ => hsub2 (by repeat (first | exact List.mem_cons_self | exact List.mem_cons_of_mem _ (by assumption) | assumption | refine List.mem_cons_of_mem _ ?_ | refine List.mem_append_right _ ?_)) (by repeat (first | exact List.mem_cons_self | exact List.mem_cons_of_mem _ (by assumption) | assumption | refine List.mem_cons_of_mem _ ?_ | refine List.mem_append_right _ ?_)), ?_⟩
              refine DL.one 12 (by kernel_rfl) rfl rfl (OW.append Tryz.runUnderlying23 Tryz.runUnderlying23 (.inl ⟨_, rfl⟩) Tryz.typeInfo5 Tryz.sizeOf5 zv5 rfl rfl (by repeat (first | exact SegF.here | apply SegF.there | apply SegF.thereA)) (by first | rfl | (simp only [List.length_map, List.length_replicate, List.length_cons, List.length_nil, List.length_set, Nat.mul_one] <;> omega) | (simp [*] <;> omega)) hbo2 rfl (by first | (apply Src.one; (repeat (first | exact List.mem_cons_self | exact List.mem_cons_of_mem _ (by assumption) | assumption | refine List.mem_cons_of_mem _ ?_ | refine List.mem_append_right _ ?_)); done) | (apply Src.sl; (focus repeat (first | exact List.mem_cons_self | exact List.mem_cons_of_mem _ (by assumption) | assumption | refine List.mem_cons_of_mem _ ?_ | refine List.mem_append_right _ ?_)); (first | (simp only [List.length_map, List.length_replicate, List.length_cons, List.length_nil, List.length_set, Nat.mul_one] <;> omega) | (simp [*] <;> omega)); (first | (refine m_all_of _ _ ?_; omega) | exact m_cut _ _ _ | rfl))) (by first | rfl | (simp only [List.length_map, List.length_replicate, List.length_cons, List.length_nil, List.length_set, Nat.mul_one] <;> omega) | (simp [*] <;> omega)) (by first | exact m_all (fun _ => rfl) _ | rfl | (simp; done) | (simp only [List.all_cons, List.all_nil, oneB_buf, Bool.true_and, Bool.and_true]; rfl) | (simp [oneB]; done)) (by decide) (by rw [show Tryz.t5.bytes = 1 from rfl]; omega) ?_)
              intro o hbo
              refine ⟨fun _ => hsub2 (by repeat (first | exact List.mem_cons_self | exact List.mem_cons_of_mem _ (by assumption) | assumption | refine List.mem_cons_of_mem _ ?_ | refine List.mem_append_right _ ?_)) (by repeat (first | exact List.mem_cons_self | exact List.mem_cons_of_mem _ (by assumption) | assumption | refine List.mem_cons_of_mem _ ?_ | refine List.mem_append_right _ ?_)), ?_⟩
              refine DL.take 13 rfl (by kernel_rfl) (by kernel_rfl) (by kernel_rfl) rfl rfl (QW.assign rfl) (hsub2 (by repeat (first | exact List.mem_cons_self | exact List.mem_cons_of_mem _ (by assumption) | assumption | refine List.mem_cons_of_mem _ ?_ | refine List.mem_append_right _ ?_)) (by repeat (first | exact List.mem_cons_self | exact List.mem_cons_of_mem _ (by assumption) | assumption | refine List.mem_cons_of_mem _ ?_ | refine List.mem_append_right _ ?_))) ?_
              refine DL.done (by kernel_rfl) (blockN (thenN ?_))
              refine CW.region (by kernel_rfl) ?_
              refine RL.q rfl rfl (QW.move rfl) ?_
              refine RL.q rfl rfl (QW.add rfl rfl (wI_add (a := _) (b := 1) (by omega))) ?_
              refine RL.q rfl rfl (QW.assign rfl) ?_
              refine RL.nil (thenN ?_)
              refine ⟨k + 1, o, (by refine ⟨by omega, ?_⟩; rw [show (rOut boxM key first bs (i / 16) ++ rApp bs (refF boxM key (ctrTo first (i / 16))) i (k + 1)).length = ((rOut boxM key first bs (i / 16)) ++ rApp bs (refF boxM key (ctrTo first (i / 16))) i k).length + 1 from by simp [rApp]; omega]; exact hbo), (by omega), ?_, ?_⟩
              · repeat (first | exact leE_nil | refine leE_cons (by first | rfl | (rw [show (rOut boxM key first bs (i / 16) ++ rApp bs (refF boxM key (ctrTo first (i / 16))) i (k + 1)).length = ((rOut boxM key first bs (i / 16)) ++ rApp bs (refF boxM key (ctrTo first (i / 16))) i k).length + 1 from by simp [rApp]; omega]; rfl)) ?_)
              · refine dropS (keepS rfl (keepA (bufH_congr ?_) (List.Sublist.refl _))); simp [rApp]
            · have hk : k < 16 := by simpa using hs17_3
              have hik : ¬ i + k < bs.length := by simpa using hc6
              have hkk : k = min 16 (bs.length - i) := by omega
              have hfin : rOut boxM key first bs ((i + 1 + 15) / 16) = ((rOut boxM key first bs (i / 16)) ++ rApp bs (refF boxM key (ctrTo first (i / 16))) i k) := by
                  rw [show (i + 1 + 15) / 16 = i / 16 + 1 from by omega, hkk]; simp only [rOut]; rw [show 16 * (i / 16) = i from by omega]
              refine CW.exit (thenX (thenX (blockX (blockN (thenN ?_)))))
              refine CW.region (by kernel_rfl) ?_
              refine RL.q rfl rfl (QW.move rfl) ?_
              refine RL.q rfl rfl (QW.add rfl rfl (wI_add (a := _) (b := 1) (by omega))) ?_
              refine RL.q rfl rfl (QW.assign rfl) ?_
              refine RL.nil (thenN ?_)
              refine ⟨i + 1, o2, (⟨by omega, by rw [hfin]; exact hbo2⟩), (by omega), ?_, ?_⟩
              · repeat (first | exact leE_nil | refine leE_cons (by first | rfl | (rw [hfin]; rfl)) ?_)
              · refine dropS (keepA (by rw [hfin]) (keepS rfl (keepS ?_ (List.Sublist.refl _)))); rw [show (i + 1 + 15) / 16 - 1 = i / 16 from by omega]
        · have h16 : ¬ i % 16 = 0 := by simpa using hc5
          have hnb : (i + 1 + 15) / 16 = (i + 15) / 16 := by omega
          refine CW.skip (blockN (thenN ?_))
          refine CW.region (by kernel_rfl) ?_
          refine RL.q rfl rfl (QW.move rfl) ?_
          refine RL.q rfl rfl (QW.add rfl rfl (wI_add (a := _) (b := 1) (by omega))) ?_
          refine RL.q rfl rfl (QW.assign rfl) ?_
          refine RL.nil (thenN ?_)
          refine ⟨i + 1, o, (⟨by omega, by rw [hnb]; exact hbo⟩), (by omega), ?_, ?_⟩
          · repeat (first | exact leE_nil | refine leE_cons (by first | rfl | (rw [hnb]; rfl)) ?_)
          · refine keepA (by rw [hnb]) (keepS rfl (keepS ?_ (List.Sublist.refl _))); rw [hnb]; unfold rFirst; rw [if_neg h16]
    · have hi : ¬ i < bs.length := by simpa using hc1
      have hi2 : i = bs.length := by omega
      subst hi2
      refine CW.exit (thenX (thenX (blockX (thenN ?_))))
      refine CW.seq ?_
      refine CW.region (by kernel_rfl) ?_
      refine RL.q rfl rfl (QW.move rfl) ?_
      refine RL.q rfl rfl (QW.assign rfl) ?_
      refine RL.nil (thenN ?_)
      refine CW.ret (retR (bufH o ((rOut boxM key first bs ((bs.length + 15) / 16)).map u8) 5 ++ S) (ResOk.one Tryz.results13 (ResV.tmp rfl)) (by repeat (first | exact List.Sublist.refl _ | (refine keepS ?_ ?_; with_reducible rfl) | (refine keepA ?_ ?_; with_reducible rfl) | (refine keepS ?_ ?_; rfl) | apply dropS | apply dropA)) ?_)
      exact ⟨o, hbo, rfl, rfl⟩

end Go.Sl