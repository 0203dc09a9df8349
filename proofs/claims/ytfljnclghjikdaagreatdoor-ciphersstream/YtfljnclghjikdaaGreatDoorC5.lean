/- A part of a proof: the walk. -/
import Derived.Test.YtfljnclghjikdaaGreatDoorProg
import Derived.Test.YtfljnclghjikdaaGreatDoorC4
set_option linter.unusedVariables false
set_option linter.unusedSimpArgs false
namespace Go.Sl
open Go.Proofs

def incAt (f : List UInt8) : Nat → List UInt8
  | 0 => f
  | i + 1 => if (f.set i (f.getD i 0 + 1)).getD i 0 = 0 then incAt (f.set i (f.getD i 0 + 1)) i else f.set i (f.getD i 0 + 1)
def incF (f : List UInt8) : List UInt8 := incAt f 16
theorem incAt_len (i : Nat) : ∀ f : List UInt8, (incAt f i).length = f.length := by
  induction i with
  | zero => intro f; rfl
  | succ i ih => intro f; simp only [incAt]; split <;> simp [ih]
@[simp] theorem incF_len (f : List UInt8) : (incF f).length = f.length := incAt_len 16 f
def ctrTo (first : List UInt8) : Nat → List UInt8
  | 0 => first
  | j + 1 => incF (ctrTo first j)
theorem ctrTo_len (first : List UInt8) (j : Nat) : (ctrTo first j).length = first.length := by
  induction j with
  | zero => rfl
  | succ j ih => simp [ctrTo, ih]
def strIn (bs s : List UInt8) (a : Nat) (out : List UInt8) : Nat → List UInt8
  | 0 => out
  | i + 1 => (strIn bs s a out i).set (a + i) (bs.getD (a + i) 0 ^^^ s.getD (a + i - a) 0)
theorem strIn_len (bs s : List UInt8) (a : Nat) (out : List UInt8) (i : Nat) : (strIn bs s a out i).length = out.length := by
  induction i with
  | zero => rfl
  | succ i ih => simp [strIn, ih]
def strTo (M first bs : List UInt8) : Nat → List UInt8
  | 0 => List.replicate bs.length 0
  | j + 1 => strIn bs (encF M (ctrTo first j)) (16 * j) (strTo M first bs j) (min (16 * j + 16) bs.length - 16 * j)
theorem strTo_len (M first bs : List UInt8) (j : Nat) : (strTo M first bs j).length = bs.length := by
  induction j with
  | zero => exact List.length_replicate
  | succ j ih => simp only [strTo, strIn_len, ih]
def streamF (key first bs : List UInt8) : List UInt8 := strTo (machF key) first bs ((bs.length + 15) / 16)
theorem streamF_len (key first bs : List UInt8) : (streamF key first bs).length = bs.length := strTo_len _ _ _ _
theorem streamF_eq (key first bs : List UInt8) : streamF key first bs = strTo (machF key) first bs ((bs.length + 15) / 16) := rfl
attribute [irreducible] incF
theorem incF_eq (f : List UInt8) : incF f = incAt f 16 := by unfold incF; rfl

theorem zv5 : ZV Tryz.prog 5 (u8 0) := fun _ => by kernel_rfl
set_option maxRecDepth 100000 in
theorem Stream_nil (key first : List UInt8) (a : Option Addr) (c : Nat) (S : HL) : CallS Tryz.prog 10 ⟨[.agg ⟨key.map u8⟩, .agg ⟨first.map u8⟩, .slice a 0 c]⟩ S fun v S' => v = .slice none 0 0 ∧ S = S' := by
  refine CallS.enter Tryz.func10 rfl Tryz.ntmps10 (by simp) ?_
  refine CW.seq ?_
  refine CW.region (by kernel_rfl) ?_
  refine RL.cons rfl (OW.boxN rfl ?_)
  intro b3
  refine RL.cons rfl (OW.boxN rfl ?_)
  intro b4
  refine RL.q rfl rfl (QW.assign rfl) ?_
  refine RL.nil (thenN ?_)
  refine CW.seq ?_
  refine CW.seq ?_
  refine CW.region (by kernel_rfl) ?_
  refine RL.q rfl rfl (QW.move rfl) ?_
  refine RL.q rfl rfl (QW.len_s Tryz.runUnderlying23 rfl) ?_
  refine RL.q rfl rfl (QW.eql rfl rfl (dI_eq _ 0)) ?_
  refine RL.nil (thenN ?_)
  refine CW.cond_true rfl ?_
  refine CW.seq ?_
  refine CW.region (by kernel_rfl) ?_
  refine RL.q rfl rfl (QW.assign rfl) ?_
  refine RL.nil (thenN ?_)
  refine CW.ret (thenR (retR (S) (ResOk.one Tryz.results10 (ResV.tmp rfl)) (by repeat (first | exact List.Sublist.refl _ | (refine keepS ?_ ?_; with_reducible rfl) | (refine keepA ?_ ?_; with_reducible rfl) | (refine keepS ?_ ?_; rfl) | apply dropS | apply dropA)) ?_))
  exact ⟨rfl, rfl⟩

set_option maxRecDepth 100000 in
theorem Stream_c (key first bs : List UInt8) (gb off c : Nat) (l : List Value) (T : TypeId) (fr : Nat × Nat) (S : HL) (hk : key.length = 16) (hf0 : first.length = 16) (h0 : bs ≠ []) (hb : bs.length ≤ 1000000000) (hm : (gb, Obj.cells ⟨l⟩ T fr) ∈ S) (hget : ∀ k, k < bs.length → l[off + k]? = some (u8 (bs.getD k 0))) : CallS Tryz.prog 10 ⟨[.agg ⟨key.map u8⟩, .agg ⟨first.map u8⟩, sl gb off bs.length c]⟩ S fun v S' => ∃ b, v = sl b 0 bs.length bs.length ∧ S' = (b, blk ((streamF key first bs).map u8) 5) :: S := by
  refine CallS.enter Tryz.func10 rfl Tryz.ntmps10 (by simp) ?_
  refine CW.seq ?_
  refine CW.region (by kernel_rfl) ?_
  refine RL.cons rfl (OW.boxN rfl ?_)
  intro b3
  refine RL.cons rfl (OW.boxN rfl ?_)
  intro b4
  refine RL.q rfl rfl (QW.assign rfl) ?_
  refine RL.nil (thenN ?_)
  refine CW.seq ?_
  refine CW.seq ?_
  refine CW.region (by kernel_rfl) ?_
  refine RL.q rfl rfl (QW.move rfl) ?_
  refine RL.q rfl rfl (QW.len_s Tryz.runUnderlying23 rfl) ?_
  refine RL.q rfl rfl (QW.eql rfl rfl (dI_eq _ 0)) ?_
  refine RL.nil (thenN ?_)
  refine CW.cond rfl (fun hc0 => ?_) (fun hc0 => ?_)
  · exfalso; simp at hc0; exact h0 hc0
  · have hn0 : bs.length ≠ 0 := by simpa using hc0
    refine CW.skip (thenN ?_)
    refine CW.seq ?_
    refine CW.region (by kernel_rfl) ?_
    refine RL.q rfl rfl (QW.loadN rfl Tryz.isAgg22 Tryz.sizeOf22 (by repeat (first | exact List.mem_cons_self | exact List.mem_cons_of_mem _ (by assumption) | assumption | refine List.mem_cons_of_mem _ ?_ | refine List.mem_append_right _ ?_)) (by first | (simp only [List.length_map, List.length_replicate, List.length_cons, List.length_nil, List.length_set, Nat.mul_one] <;> omega) | (simp [*] <;> omega)) (by first | (refine m_all_of _ _ ?_; omega) | (refine m_all_of _ _ ?_; simp [*]; done) | exact m_cut _ _ _ | with_reducible rfl)) ?_
    refine RL.cons rfl (OW.call Tryz.call63 (ext1 rfl) ((newMachine_c _ _ (by omega)).mono ?_))
    rintro v S' ⟨gm, rfl, rfl⟩
    refine RL.q rfl rfl (QW.assign rfl) ?_
    refine RL.nil (thenN ?_)
    refine CW.seq ?_
    refine CW.region (by kernel_rfl) ?_
    refine RL.q rfl rfl (QW.move rfl) ?_
    refine RL.q rfl rfl (QW.len_s Tryz.runUnderlying23 rfl) ?_
    refine RL.cons rfl (OW.makeSlice Tryz.runUnderlying23 Tryz.typeInfo5 Tryz.sizeOf5 zv5 rfl rfl rfl (by omega) (by rw [show Tryz.t5.bytes = 1 from rfl]; omega) (by omega) ?_)
    intro b20
    refine RL.q rfl rfl (QW.assign rfl) ?_
    refine RL.nil (thenN ?_)
    refine CW.seq ?_
    refine CW.seq ?_
    refine CW.region (by kernel_rfl) ?_
    refine RL.q rfl rfl (QW.assign rfl) ?_
    refine RL.nil (thenN ?_)
    refine CW.block ?_
    refine CW.loopT (ι := Nat) [(2, _), (4, _), (6, _), (7, _), (8, _)] (by repeat (first | exact leE_nil | refine leE_cons rfl ?_)) (fun j => 16 * j ≤ bs.length + 15) (fun j r => (9, nI (16 * j)) :: r) (fun j => (b20, blk ((strTo (machF key) first bs j).map u8) 5) :: (gm, blk ((machF key).map u8) 180) :: (b4, blk ((ctrTo first j).map u8) 22) :: (b3, blk (key.map u8) 22) :: S) (fun j => bs.length + 16 - 16 * j) 0 (by omega) (by repeat (first | exact leE_nil | refine leE_cons (by first | rfl | (rfl)) ?_)) (keepS (by simp [strTo]) (List.Sublist.refl _)) ?_
    intro j hI
    have hl := strTo_len (machF key) first bs j
    have hf := ctrTo_len first j
    refine CW.seq ?_
    refine CW.seq ?_
    refine CW.region (by kernel_rfl) ?_
    refine RL.q rfl rfl (QW.move rfl) ?_
    refine RL.q rfl rfl (QW.move rfl) ?_
    refine RL.q rfl rfl (QW.len_s Tryz.runUnderlying23 rfl) ?_
    refine RL.q rfl rfl (QW.lss rfl rfl (dI_lt _ _)) ?_
    refine RL.nil (thenN ?_)
    refine CW.cond rfl (fun hc1 => ?_) (fun hc1 => ?_)
    · have hj : 16 * j < bs.length := by simpa using hc1
      refine CW.skip (thenN ?_)
      refine CW.seqCutT (ι := Unit) [(2, _), (4, _), (6, _), (7, _), (8, _), (9, _), (21, _), (22, _), (23, _), (24, _)] (by repeat (first | exact leE_nil | refine leE_cons rfl ?_)) (fun _u => True) (fun _u r => r) (fun _u => (b20, blk ((strTo (machF key) first bs (j + 1)).map u8) 5) :: (gm, blk ((machF key).map u8) 180) :: (b4, blk ((incF (ctrTo first j)).map u8) 22) :: (b3, blk (key.map u8) 22) :: S) ?_ ?_
      · refine CW.block ?_
        refine CW.seq ?_
        refine CW.region (by kernel_rfl) ?_
        refine RL.q rfl rfl (QW.move rfl) ?_
        refine RL.q rfl rfl (QW.loadN rfl Tryz.isAgg22 Tryz.sizeOf22 (by repeat (first | exact List.mem_cons_self | exact List.mem_cons_of_mem _ (by assumption) | assumption | refine List.mem_cons_of_mem _ ?_ | refine List.mem_append_right _ ?_)) (by first | (simp only [List.length_map, List.length_replicate, List.length_cons, List.length_nil, List.length_set, Nat.mul_one] <;> omega) | (simp [*] <;> omega)) (by first | (refine m_all_of _ _ ?_; omega) | (refine m_all_of _ _ ?_; simp [*]; done) | exact m_cut _ _ _ | with_reducible rfl)) ?_
        refine RL.cons rfl (OW.call Tryz.call64 (ext2 rfl rfl) ((block_c _ _ _ _ (by repeat (first | exact List.mem_cons_self | exact List.mem_cons_of_mem _ (by assumption) | assumption | refine List.mem_cons_of_mem _ ?_ | refine List.mem_append_right _ ?_)) (machF_len (by omega)) (by omega)).mono ?_))
        rintro v S' ⟨rfl, rfl⟩
        have hE := encF_len (machF key) (ctrTo first j)
        refine RL.cons rfl (OW.alloc zv22 rfl ?_)
        intro b10
        refine RL.cons rfl (OW.storeN rfl rfl Tryz.sizeOf22 (by repeat (first | exact List.mem_cons_self | exact List.mem_cons_of_mem _ (by assumption) | assumption | refine List.mem_cons_of_mem _ ?_ | refine List.mem_append_right _ ?_)) (by first | (simp only [List.length_map, List.length_replicate, List.length_cons, List.length_nil, List.length_set, Nat.mul_one] <;> omega) | (simp [*] <;> omega)) (by first | exact m_all (fun _ => rfl) _ | rfl | (simp; done) | (simp only [List.all_cons, List.all_nil, oneB_buf, Bool.true_and, Bool.and_true]; rfl) | (simp [oneB]; done)) (by first | (simp only [List.length_map, List.length_replicate, List.length_cons, List.length_nil, List.length_set, Nat.mul_one] <;> omega) | (simp [*] <;> omega)) (by first | (refine wr_all ?_; simp only [List.length_map, List.length_replicate, List.length_cons, List.length_nil, List.length_set, Nat.mul_one] <;> omega) | (refine wr_all ?_; simp [*]; done) | exact m_wr _ _ _ | with_reducible rfl) (by repeat (first | exact Upd.head | apply Upd.tail | apply Upd.tailA)) ?_)
        refine RL.nil (thenN ?_)
        refine CW.seq ?_
        refine CW.seq ?_
        refine CW.region (by kernel_rfl) ?_
        refine RL.q rfl rfl (QW.move rfl) ?_
        refine RL.q rfl rfl (QW.assign rfl) ?_
        refine RL.nil (thenN ?_)
        refine CW.block ?_
        refine CW.loopT (ι := Nat) [(2, _), (4, _), (6, _), (7, _), (8, _), (9, _), (10, _), (21, _), (22, _), (23, _), (24, _), (27, _), (28, _), (29, _), (30, _)] (by repeat (first | exact leE_nil | refine leE_cons rfl ?_)) (fun i => 16 * j + i ≤ min (16 * j + 16) bs.length) (fun i r => (11, nI (16 * j + i)) :: r) (fun i => (b10, blk ((encF (machF key) (ctrTo first j)).map u8) 22) :: (b20, blk ((strIn bs (encF (machF key) (ctrTo first j)) (16 * j) (strTo (machF key) first bs j) i).map u8) 5) :: (gm, blk ((machF key).map u8) 180) :: (b4, blk ((ctrTo first j).map u8) 22) :: (b3, blk (key.map u8) 22) :: S) (fun i => min (16 * j + 16) bs.length - (16 * j + i)) 0 (by omega) (by repeat (first | exact leE_nil | refine leE_cons (by first | rfl | (rfl)) ?_)) (by repeat (first | exact List.Sublist.refl _ | (refine keepS ?_ ?_; with_reducible rfl) | (refine keepA ?_ ?_; with_reducible rfl) | (refine keepS ?_ ?_; rfl) | apply dropS | apply dropA)) ?_
        intro i hI2
        have hl2 := strIn_len bs (encF (machF key) (ctrTo first j)) (16 * j) (strTo (machF key) first bs j) i
        refine CW.seq ?_
        refine CW.seq ?_
        refine CW.region (by kernel_rfl) ?_
        refine RL.q rfl rfl (QW.move rfl) ?_
        refine RL.q rfl rfl (QW.move rfl) ?_
        refine RL.q rfl rfl (QW.add rfl rfl (wI_add (a := _) (b := 16) (by omega))) ?_
        refine RL.q rfl rfl (QW.move rfl) ?_
        refine RL.q rfl rfl (QW.len_s Tryz.runUnderlying23 rfl) ?_
        refine RL.q rfl rfl (QW.minI rfl rfl) ?_
        refine RL.q rfl rfl (QW.lss rfl rfl (dI_lt _ _)) ?_
        refine RL.nil (thenN ?_)
        refine CW.cond rfl (fun hc2 => ?_) (fun hc2 => ?_)
        · have hi : 16 * j + i < min (16 * j + 16) bs.length := by simpa using hc2
          refine CW.skip (thenN ?_)
          refine CW.seq ?_
          refine CW.block ?_
          refine CW.drawnS 13 (by rw [mixed]; rfl) (by kernel_rfl) (by kernel_rfl) (by kernel_rfl) (fun _ _ _ h => h) ?_
          refine DL.take 0 rfl (by kernel_rfl) (by kernel_rfl) (by kernel_rfl) rfl rfl (QW.move rfl) (by intro p hp; repeat (first | exact hp | refine List.mem_cons_of_mem _ ?_)) ?_
          refine DL.take 1 rfl (by kernel_rfl) (by kernel_rfl) (by kernel_rfl) rfl rfl (QW.move rfl) (by intro p hp; repeat (first | exact hp | refine List.mem_cons_of_mem _ ?_)) ?_
          refine DL.take 2 rfl (by kernel_rfl) (by kernel_rfl) (by kernel_rfl) rfl rfl (QW.move rfl) (by intro p hp; repeat (first | exact hp | refine List.mem_cons_of_mem _ ?_)) ?_
          refine DL.take 3 rfl (by kernel_rfl) (by kernel_rfl) (by kernel_rfl) rfl rfl (QW.move rfl) (by intro p hp; repeat (first | exact hp | refine List.mem_cons_of_mem _ ?_)) ?_
          refine DL.take 4 rfl (by kernel_rfl) (by kernel_rfl) (by kernel_rfl) rfl rfl (QW.indexAddrS Tryz.runUnderlying23 Tryz.sizeOf5 rfl rfl (by omega) (by first | omega | exact lt8 _) (by first | exact ix01 _ | exact ixb1 _ _ | exact ix0m _ _ | exact ixbm _ _ _)) (by intro p hp; repeat (first | exact hp | refine List.mem_cons_of_mem _ ?_)) ?_
          refine DL.take 5 rfl (by kernel_rfl) (by kernel_rfl) (by kernel_rfl) rfl rfl (QW.load1 rfl Tryz.isAgg5 (by repeat (first | exact List.mem_cons_self | exact List.mem_cons_of_mem _ (by assumption) | assumption | refine List.mem_cons_of_mem _ ?_ | refine List.mem_append_right _ ?_)) (by first | (refine hget _ ?_; omega) | (refine m_get 0 ?_; omega) | (refine m_get 0 ?_; simp only [*]; omega) | (refine m_get 0 ?_; simp only [List.length_set]; omega) | (refine m_get 0 (lt8L ?_); omega) | (refine m_get 0 (lt8B ?_); omega) | rfl)) (by intro p hp; repeat (first | exact hp | refine List.mem_cons_of_mem _ ?_)) ?_
          refine DL.take 6 rfl (by kernel_rfl) (by kernel_rfl) (by kernel_rfl) rfl rfl (QW.move rfl) (by intro p hp; repeat (first | exact hp | refine List.mem_cons_of_mem _ ?_)) ?_
          refine DL.take 7 rfl (by kernel_rfl) (by kernel_rfl) (by kernel_rfl) rfl rfl (QW.move rfl) (by intro p hp; repeat (first | exact hp | refine List.mem_cons_of_mem _ ?_)) ?_
          refine DL.take 8 rfl (by kernel_rfl) (by kernel_rfl) (by kernel_rfl) rfl rfl (QW.sub rfl rfl (wI_sub (a := _) (b := _) (by omega) (by omega))) (by intro p hp; repeat (first | exact hp | refine List.mem_cons_of_mem _ ?_)) ?_
          refine DL.take 9 rfl (by kernel_rfl) (by kernel_rfl) (by kernel_rfl) rfl rfl (QW.indexAddrA Tryz.runUnderlying22 Tryz.sizeOf5 rfl rfl (by omega) (by first | omega | exact lt8 _) (by first | exact ix01 _ | exact ixb1 _ _ | exact ix0m _ _ | exact ixbm _ _ _)) (by intro p hp; repeat (first | exact hp | refine List.mem_cons_of_mem _ ?_)) ?_
          refine DL.take 10 rfl (by kernel_rfl) (by kernel_rfl) (by kernel_rfl) rfl rfl (QW.load1 rfl Tryz.isAgg5 (by repeat (first | exact List.mem_cons_self | exact List.mem_cons_of_mem _ (by assumption) | assumption | refine List.mem_cons_of_mem _ ?_ | refine List.mem_append_right _ ?_)) (by first | (refine hget _ ?_; omega) | (refine m_get 0 ?_; omega) | (refine m_get 0 ?_; simp only [*]; omega) | (refine m_get 0 ?_; simp only [List.length_set]; omega) | (refine m_get 0 (lt8L ?_); omega) | (refine m_get 0 (lt8B ?_); omega) | rfl)) (by intro p hp; repeat (first | exact hp | refine List.mem_cons_of_mem _ ?_)) ?_
          refine DL.take 11 rfl (by kernel_rfl) (by kernel_rfl) (by kernel_rfl) rfl rfl (QW.xor_ rfl rfl (x8_xor _ _)) (by intro p hp; repeat (first | exact hp | refine List.mem_cons_of_mem _ ?_)) ?_
          refine DL.take 12 rfl (by kernel_rfl) (by kernel_rfl) (by kernel_rfl) rfl rfl (QW.indexAddrS Tryz.runUnderlying23 Tryz.sizeOf5 rfl rfl (by omega) (by first | omega | exact lt8 _) (by first | exact ix01 _ | exact ixb1 _ _ | exact ix0m _ _ | exact ixbm _ _ _)) (by intro p hp; repeat (first | exact hp | refine List.mem_cons_of_mem _ ?_)) ?_
          refine DL.one 13 (by kernel_rfl) rfl rfl (OW.store1 rfl rfl Tryz.sizeOf5 rfl (by repeat (first | exact List.mem_cons_self | exact List.mem_cons_of_mem _ (by assumption) | assumption | refine List.mem_cons_of_mem _ ?_ | refine List.mem_append_right _ ?_)) (by first | (simp only [List.length_map, List.length_replicate, List.length_cons, List.length_nil, List.length_set, Nat.mul_one] <;> omega) | (rw [List.length_map]; refine lt8B ?_; simp [*]; done) | (rw [List.length_map]; refine lt8L ?_; simp [*]; done) | (simp [*] <;> omega)) (by first | exact m_set _ _ _ | rfl) (by repeat (first | exact Upd.head | apply Upd.tail | apply Upd.tailA)) ?_)
          refine ⟨fun h => absurd rfl h, ?_⟩
          refine DL.done (by kernel_rfl) (blockN (thenN ?_))
          refine CW.region (by kernel_rfl) ?_
          refine RL.q rfl rfl (QW.move rfl) ?_
          refine RL.q rfl rfl (QW.add rfl rfl (wI_add (a := _) (b := 1) (by omega))) ?_
          refine RL.q rfl rfl (QW.assign rfl) ?_
          refine RL.nil (thenN ?_)
          refine ⟨i + 1, (by omega), (by omega), ?_, ?_⟩
          · repeat (first | exact leE_nil | refine leE_cons rfl ?_)
          · exact List.Sublist.refl _
        · have hi : ¬ 16 * j + i < min (16 * j + 16) bs.length := by simpa using hc2
          have hi2 : i = min (16 * j + 16) bs.length - 16 * j := by omega
          subst hi2
          refine CW.exit (thenX (thenX (blockX (thenN ?_))))
          refine CW.seq ?_
          refine CW.region (by kernel_rfl) ?_
          refine RL.q rfl rfl (QW.assign rfl) ?_
          refine RL.nil (thenN ?_)
          refine CW.block ?_
          refine CW.loopT2 (α := Nat) (β := List UInt8) [(2, _), (4, _), (6, _), (7, _), (8, _), (9, _), (10, _), (11, _), (21, _), (22, _), (23, _), (24, _), (27, _), (28, _), (29, _), (30, _), (31, _), (32, _), (33, _), (34, _), (35, _), (36, _), (37, _)] (by repeat (first | exact leE_nil | refine leE_cons rfl ?_)) (fun i f => i ≤ 16 ∧ f.length = 16 ∧ incAt f i = incF (ctrTo first j)) (fun i f r => (12, dn i) :: r) (fun i f => (b20, blk ((strTo (machF key) first bs (j + 1)).map u8) 5) :: (gm, blk ((machF key).map u8) 180) :: (b4, blk (f.map u8) 22) :: (b3, blk (key.map u8) 22) :: S) (fun i f => i) 16 (ctrTo first j) ⟨by omega, by omega, (incF_eq _).symm⟩ (by repeat (first | exact leE_nil | refine leE_cons (by first | rfl | (rfl)) ?_)) (dropS (keepS rfl (List.Sublist.refl _))) ?_
          intro i f hI3
          obtain ⟨h1, h2, h3⟩ := hI3
          have hl3 := strTo_len (machF key) first bs (j + 1)
          rcases i with _ | m
          · refine CW.seq ?_
            refine CW.seq ?_
            refine CW.region (by kernel_rfl) ?_
            refine RL.q rfl rfl (QW.move rfl) ?_
            refine RL.q rfl rfl (QW.geq rfl rfl rfl) ?_
            refine RL.nil (thenN ?_)
            refine CW.cond_false rfl ?_
            refine CW.exit (thenX (thenX (blockX (blockN (thenN ?_)))))
            refine ⟨(), (trivial), ?_, ?_⟩
            · repeat (first | exact leE_nil | refine leE_cons rfl ?_)
            · exact keepS rfl (keepS rfl (keepS (by rw [← h3]; simp only [incAt]; first | done | rw [if_neg hz]) (List.Sublist.refl _)))
          · refine CW.seq ?_
            refine CW.seq ?_
            refine CW.region (by kernel_rfl) ?_
            refine RL.q rfl rfl (QW.move rfl) ?_
            refine RL.q rfl rfl (QW.geq (t := true) rfl rfl (by simp)) ?_
            refine RL.nil (thenN ?_)
            refine CW.cond_true rfl ?_
            refine CW.skip (thenN ?_)
            refine CW.seq ?_
            refine CW.block ?_
            refine CW.seq ?_
            refine CW.region (by kernel_rfl) ?_
            refine RL.q rfl rfl (QW.move rfl) ?_
            refine RL.q rfl rfl (QW.indexAddrA Tryz.runUnderlying22 Tryz.sizeOf5 rfl rfl (by omega) (by first | omega | exact lt8 _) (by first | exact ix01 _ | exact ixb1 _ _ | exact ix0m _ _ | exact ixbm _ _ _)) ?_
            refine RL.q rfl rfl (QW.load1 rfl Tryz.isAgg5 (by repeat (first | exact List.mem_cons_self | exact List.mem_cons_of_mem _ (by assumption) | assumption | refine List.mem_cons_of_mem _ ?_ | refine List.mem_append_right _ ?_)) (by first | (refine hget _ ?_; omega) | (refine m_get 0 ?_; omega) | (refine m_get 0 ?_; simp only [*]; omega) | (refine m_get 0 ?_; simp only [List.length_set]; omega) | (refine m_get 0 (lt8L ?_); omega) | (refine m_get 0 (lt8B ?_); omega) | rfl)) ?_
            refine RL.q rfl rfl (QW.add rfl rfl (w8_add _ 1)) ?_
            refine RL.q rfl rfl (QW.indexAddrA Tryz.runUnderlying22 Tryz.sizeOf5 rfl rfl (by omega) (by first | omega | exact lt8 _) (by first | exact ix01 _ | exact ixb1 _ _ | exact ix0m _ _ | exact ixbm _ _ _)) ?_
            refine RL.cons rfl (OW.store1 rfl rfl Tryz.sizeOf5 rfl (by repeat (first | exact List.mem_cons_self | exact List.mem_cons_of_mem _ (by assumption) | assumption | refine List.mem_cons_of_mem _ ?_ | refine List.mem_append_right _ ?_)) (by first | (simp only [List.length_map, List.length_replicate, List.length_cons, List.length_nil, List.length_set, Nat.mul_one] <;> omega) | (rw [List.length_map]; refine lt8B ?_; simp [*]; done) | (rw [List.length_map]; refine lt8L ?_; simp [*]; done) | (simp [*] <;> omega)) (by first | exact m_set _ _ _ | rfl) (by repeat (first | exact Upd.head | apply Upd.tail | apply Upd.tailA)) ?_)
            refine RL.nil (thenN ?_)
            refine CW.seq ?_
            refine CW.region (by kernel_rfl) ?_
            refine RL.q rfl rfl (QW.move rfl) ?_
            refine RL.q rfl rfl (QW.indexAddrA Tryz.runUnderlying22 Tryz.sizeOf5 rfl rfl (by omega) (by first | omega | exact lt8 _) (by first | exact ix01 _ | exact ixb1 _ _ | exact ix0m _ _ | exact ixbm _ _ _)) ?_
            refine RL.q rfl rfl (QW.load1 rfl Tryz.isAgg5 (by repeat (first | exact List.mem_cons_self | exact List.mem_cons_of_mem _ (by assumption) | assumption | refine List.mem_cons_of_mem _ ?_ | refine List.mem_append_right _ ?_)) (by first | (refine hget _ ?_; omega) | (refine m_get 0 ?_; omega) | (refine m_get 0 ?_; simp only [*]; omega) | (refine m_get 0 ?_; simp only [List.length_set]; omega) | (refine m_get 0 (lt8L ?_); omega) | (refine m_get 0 (lt8B ?_); omega) | rfl)) ?_
            refine RL.q rfl rfl (QW.neq' rfl rfl (d8_eq _ 0)) ?_
            refine RL.nil (thenN ?_)
            refine CW.cond rfl (fun hc4 => ?_) (fun hc4 => ?_)
            · have hz : ¬ ((f.set m (f.getD m 0 + 1)).getD m 0 = 0) := by simpa using hc4
              refine CW.exit (blockY rfl (thenX (thenX (blockX (blockN (thenN ?_))))))
              refine ⟨(), (trivial), ?_, ?_⟩
              · repeat (first | exact leE_nil | refine leE_cons rfl ?_)
              · exact keepS rfl (keepS rfl (keepS (by rw [← h3]; simp only [incAt]; first | done | rw [if_neg hz]) (List.Sublist.refl _)))
            · have hz : (f.set m (f.getD m 0 + 1)).getD m 0 = 0 := by simpa using hc4
              refine CW.skip (blockN (thenN ?_))
              refine CW.region (by kernel_rfl) ?_
              refine RL.q rfl rfl (QW.move rfl) ?_
              refine RL.q rfl rfl (QW.sub rfl rfl (w64 (by omega))) ?_
              refine RL.q rfl rfl (QW.assign rfl) ?_
              refine RL.nil (thenN ?_)
              refine ⟨m, f.set m (f.getD m 0 + 1), (by refine ⟨by omega, by simp [h2], ?_⟩; rw [← h3]; simp only [incAt]; rw [if_pos hz]), (by omega), ?_, ?_⟩
              · repeat (first | exact leE_nil | refine leE_cons (by first | rfl | (exact congrArg some (dn_eq m))) ?_)
              · exact List.Sublist.refl _
      · intro _u _hI
        refine CW.region (by kernel_rfl) ?_
        refine RL.q rfl rfl (QW.move rfl) ?_
        refine RL.q rfl rfl (QW.add rfl rfl (wI_add (a := _) (b := 16) (by omega))) ?_
        refine RL.q rfl rfl (QW.assign rfl) ?_
        refine RL.nil (thenN ?_)
        refine ⟨j + 1, (by omega), (by omega), ?_, ?_⟩
        · repeat (first | exact leE_nil | refine leE_cons rfl ?_)
        · exact List.Sublist.refl _
    · have hj : ¬ 16 * j < bs.length := by simpa using hc1
      have hJ : j = (bs.length + 15) / 16 := by omega
      refine CW.exit (thenX (thenX (blockX (thenN ?_))))
      refine CW.seq ?_
      refine CW.region (by kernel_rfl) ?_
      refine RL.q rfl rfl (QW.move rfl) ?_
      refine RL.q rfl rfl (QW.assign rfl) ?_
      refine RL.nil (thenN ?_)
      refine CW.ret (retR ((b20, blk ((strTo (machF key) first bs j).map u8) 5) :: S) (ResOk.one Tryz.results10 (ResV.tmp rfl)) (by repeat (first | exact List.Sublist.refl _ | (refine keepS ?_ ?_; with_reducible rfl) | (refine keepA ?_ ?_; with_reducible rfl) | (refine keepS ?_ ?_; rfl) | apply dropS | apply dropA)) ?_)
      exact ⟨b20, rfl, by rw [streamF_eq, ← hJ]⟩

end Go.Sl