/- A part of a proof: X1, X2. -/
import Derived.Test.YtfljnclghjikdaaGreatDoorProg
import Derived.Test.YtfljnclghjikdaaGreatDoorM4
import Derived.Test.YtfljnclghjikdaaGreatDoorEngV
/- keymats.Of: the walk. -/
set_option linter.unusedVariables false
set_option linter.unusedSimpArgs false
namespace Go.Sl
open Go.Proofs

def laneB : List UInt8 := [108, 97, 110, 101]
def kmT (k : List UInt8) : Nat → List UInt8
  | 0 => []
  | i + 1 => hmacP k (kmT k i ++ (laneB ++ [UInt8.ofNat (i + 1)]))
theorem kmT_len (k : List UInt8) (i : Nat) : (kmT k (i + 1)).length = 32 := hmacP_len _ _
theorem kmT_le (k : List UInt8) (i : Nat) : (kmT k i).length ≤ 32 := by
  cases i with
  | zero => exact Nat.zero_le _
  | succ i => rw [kmT_len]; exact Nat.le_refl _
def kmO (k : List UInt8) : Nat → List UInt8
  | 0 => []
  | i + 1 => kmO k i ++ kmT k (i + 1)
theorem kmO_len (k : List UInt8) (i : Nat) : (kmO k i).length = 32 * i := by
  induction i with
  | zero => rfl
  | succ i ih => rw [kmO, List.length_append, ih, kmT_len]; omega
def kmK (shared : List UInt64) (id : List UInt8) : List UInt8 := hmacP id (longF shared)
def kmF (shared : List UInt64) (id : List UInt8) (n : Nat) : List UInt8 := (kmO (kmK shared id) ((n + 31) / 32)).take n
theorem kmF_len (shared : List UInt64) (id : List UInt8) (n : Nat) : (kmF shared id n).length = n := by rw [kmF, List.length_take, kmO_len]; omega
theorem kmK_len (shared : List UInt64) (id : List UInt8) : (kmK shared id).length = 32 := hmacP_len _ _
attribute [irreducible] kmT kmK
theorem kmT_zero (k : List UInt8) : kmT k 0 = [] := by unfold kmT; rfl
theorem kmT_succ (k : List UInt8) (i : Nat) : hmacP k (kmT k i ++ (laneB ++ [UInt8.ofNat (i + 1)])) = kmT k (i + 1) := by rw [kmT]
theorem kmK_eq (shared : List UInt64) (id : List UInt8) : hmacP id (longF shared) = kmK shared id := by unfold kmK; rfl
theorem kp3 {R : HL} {v w x : Value} {a b c : List UInt8} (h1 : RdS R v a) (h2 : RdS R w b) (h3 : RdS R x c) : ∀ i, i < [a, b, c].length → ∃ v', [v, w, x][0 + i]? = some v' ∧ RdS R v' ([a, b, c].getD i []) := by
  intro i hi
  rcases i with _ | _ | _ | i
  · exact ⟨v, rfl, h1⟩
  · exact ⟨w, rfl, h2⟩
  · exact ⟨x, rfl, h3⟩
  · exact absurd hi (by simp)
theorem kl3 {a b c : List UInt8} {n : Nat} (h1 : a.length ≤ n) (h2 : b.length ≤ n) (h3 : c.length ≤ n) : ∀ i, i < [a, b, c].length → ([a, b, c].getD i []).length ≤ n := by
  intro i hi
  rcases i with _ | _ | _ | i
  · exact h1
  · exact h2
  · exact h3
  · exact absurd hi (by simp)
theorem flat3 (a b c : List UInt8) : [a, b, c].flatten = a ++ (b ++ c) := by simp
theorem flat1 (a : List UInt8) : [a].flatten = a := by simp
theorem rdS_nil {S : HL} : RdS S (.slice none 0 0) [] := ⟨.inl ⟨rfl, _, _, rfl⟩, none, 0, rfl, Nat.le_refl _⟩


set_option maxRecDepth 100000 in
set_option maxHeartbeats 1000000 in
theorem KOf_c (shared : List UInt64) (id : List UInt8) (n : Nat) (S : HL) (hsh : shared.length = 4) (hid : id.length = 32) (hn0 : n ≤ 8160) : CallS Tryz.prog 17 ⟨[.agg ⟨shared.map u64⟩, .agg ⟨id.map u8⟩, nI n]⟩ S fun v S' => ∃ g r, v = .tuple #[sl g 0 n n, nI 0] ∧ S' = (g, blk ((kmF shared id n).map u8 ++ r) 5) :: S := by
  have hkk := kmK_len shared id
  refine CallS.enter Tryz.func17 rfl Tryz.ntmps17 (by simp) ?_
  refine CW.seq ?_
  refine CW.region (by kernel_rfl) ?_
  refine RL.cons rfl (OW.boxN rfl ?_)
  intro b3
  refine RL.cons rfl (OW.boxN rfl ?_)
  intro b4
  refine RL.q rfl rfl (QW.assign rfl) ?_
  refine RL.q rfl rfl (QW.assign rfl) ?_
  refine RL.nil (thenN ?_)
  refine CW.seq ?_
  refine CW.block ?_
  refine CW.seq ?_
  refine CW.region (by kernel_rfl) ?_
  refine RL.q rfl rfl (QW.move rfl) ?_
  refine RL.q rfl rfl (QW.lss (t := false) rfl rfl (by simp)) ?_
  refine RL.q rfl rfl (QW.assign rfl) ?_
  refine RL.nil (thenN ?_)
  refine CW.cond_false rfl ?_
  refine CW.seq ?_
  refine CW.region (by kernel_rfl) ?_
  refine RL.q rfl rfl (QW.move rfl) ?_
  refine RL.q rfl rfl (QW.gtr (t := false) rfl rfl (by simp; omega)) ?_
  refine RL.q rfl rfl (QW.assign rfl) ?_
  refine RL.nil (thenN ?_)
  refine CW.cond_false rfl ?_
  refine CW.skip (blockN (thenN ?_))
  refine CW.seqCutT (ι := Nat) [(2, _), (3, _), (4, _), (6, _), (7, _)] (by repeat (first | exact leE_nil | refine leE_cons rfl ?_)) (fun b8 => True) (fun b8 r => (8, ptr b8 0) :: r) (fun b8 => (b8, blk ((kmK shared id).map u8) 51) :: (b4, blk (id.map u8) 51) :: (b3, blk (shared.map u64) 49) :: S) ?_ ?_
  · refine CW.drawnS 6 (by rw [mixed]; rfl) (by kernel_rfl) (by kernel_rfl) (by kernel_rfl) (fun _ _ _ h => h) ?_
    refine DL.take 0 rfl (by kernel_rfl) (by kernel_rfl) (by kernel_rfl) rfl rfl (QW.sliceA0 Tryz.runUnderlying51 Tryz.sizeOf5 rfl optV_none optV_none (.inl rfl) (by first | omega | (dsimp only; omega)) (by first | omega | (dsimp only; omega))) (by intro p hp; repeat (first | exact hp | refine List.mem_cons_of_mem _ ?_ | refine List.mem_append_right _ ?_)) ?_
    refine DL.take 1 rfl (by kernel_rfl) (by kernel_rfl) (by kernel_rfl) rfl rfl (QW.loadN rfl Tryz.isAgg49 Tryz.sizeOf49 (by repeat (first | exact List.mem_cons_self | exact List.mem_cons_of_mem _ (by assumption) | assumption | refine List.mem_cons_of_mem _ ?_ | refine List.mem_append_right _ ?_)) (by first | (simp only [List.length_map, List.length_replicate, List.length_cons, List.length_nil, List.length_set, Nat.mul_one] <;> omega) | (simp [*] <;> omega)) (by first | (refine m_all_of _ _ ?_; omega) | (refine m_all_of _ _ ?_; simp [*]; done) | exact m_cut _ _ _ | with_reducible rfl)) (by intro p hp; repeat (first | exact hp | refine List.mem_cons_of_mem _ ?_ | refine List.mem_append_right _ ?_)) ?_
    refine DL.two 2 5 (by kernel_rfl) rfl rfl rfl rfl ?_ ?_
    · refine OW.call Tryz.call114 (ext2 rfl rfl) ((PutLong_c [] shared none 0 _ (by simp) hsh (.inl ⟨rfl, _, _, rfl⟩)).mono ?_)
      rintro v S' ⟨bq, rfl, rfl⟩
      refine ⟨fun _ p hp => by repeat (first | exact hp | refine List.mem_cons_of_mem _ ?_ | refine List.mem_append_right _ ?_), ?_⟩
      refine DL.two 3 5 (by kernel_rfl) rfl rfl rfl rfl ?_ ?_
      · refine OW.buildSlice1 Tryz.runUnderlying83 Tryz.sizeOf23 zv23 rfl rfl rfl ?_
        intro b22
        refine ⟨fun _ p hp => by repeat (first | exact hp | refine List.mem_cons_of_mem _ ?_ | refine List.mem_append_right _ ?_), ?_⟩
        refine DL.two 4 5 (by kernel_rfl) rfl rfl rfl rfl ?_ ?_
        · refine OW.call Tryz.call113 (ext2 rfl rfl) ((MacOf_c id [longF shared] _ _ 0 1 [sl bq 0 32 32] 23 (0, 0) _ (rdS_all (b := b4) (T := 51) (by repeat (first | exact List.mem_cons_self | exact List.mem_cons_of_mem _ (by assumption) | assumption | refine List.mem_cons_of_mem _ ?_ | refine List.mem_append_right _ ?_)) hid) (by omega) (by repeat (first | exact List.mem_cons_self | exact List.mem_cons_of_mem _ (by assumption) | assumption | refine List.mem_cons_of_mem _ ?_ | refine List.mem_append_right _ ?_)) (hpv1 (rdS_all (bs := longF shared) (T := 5) (by repeat (first | exact List.mem_cons_self | exact List.mem_cons_of_mem _ (by assumption) | assumption | refine List.mem_cons_of_mem _ ?_ | refine List.mem_append_right _ ?_)) (longF_len _))) (hpl1 (by rw [longF_len]; decide)) (by simp)).mono ?_)
          rintro v S' ⟨rfl, rfl⟩
          rw [flat1, kmK_eq]
          refine ⟨fun _ p hp => by repeat (first | exact hp | refine List.mem_cons_of_mem _ ?_ | refine List.mem_append_right _ ?_), ?_⟩
          refine DL.one 5 (by kernel_rfl) rfl rfl (OW.alloc zv51 rfl ?_)
          intro b8
          refine ⟨fun _ p hp => by repeat (first | exact hp | refine List.mem_cons_of_mem _ ?_ | refine List.mem_append_right _ ?_), ?_⟩
          refine DL.one 6 (by kernel_rfl) rfl rfl (OW.storeN rfl rfl Tryz.sizeOf51 (by repeat (first | exact List.mem_cons_self | exact List.mem_cons_of_mem _ (by assumption) | assumption | refine List.mem_cons_of_mem _ ?_ | refine List.mem_append_right _ ?_)) (by first | (simp only [List.length_map, List.length_replicate, List.length_cons, List.length_nil, List.length_set, Nat.mul_one] <;> omega) | (simp [*] <;> omega)) (by first | exact m_all (fun _ => rfl) _ | rfl | (simp; done) | (simp only [List.all_cons, List.all_nil, oneB_buf, Bool.true_and, Bool.and_true]; rfl) | (simp [oneB]; done)) (by first | (simp only [List.length_map, List.length_replicate, List.length_cons, List.length_nil, List.length_set, Nat.mul_one] <;> omega) | (simp [*] <;> omega)) (by first | (refine wr_all ?_; simp only [List.length_map, List.length_replicate, List.length_cons, List.length_nil, List.length_set, Nat.mul_one] <;> omega) | (refine wr_all ?_; simp [*]; done) | exact m_wr _ _ _ | with_reducible rfl) (by repeat (first | exact Upd.head | apply Upd.tail | apply Upd.tailA)) ?_)
          refine ⟨fun h => absurd rfl h, ?_⟩
          refine DL.done (by kernel_rfl) (thenN ?_)
          refine ⟨b8, (trivial), ?_, ?_⟩
          · repeat (first | exact leE_nil | refine leE_cons rfl ?_)
          · exact (by repeat (first | exact List.Sublist.refl _ | (refine keepS ?_ ?_; with_reducible rfl) | (refine keepA ?_ ?_; with_reducible rfl) | (refine keepS ?_ ?_; rfl) | apply dropS | apply dropA))
        · refine OW.alloc zv51 rfl ?_
          intro b8
          refine ⟨fun _ p hp => by repeat (first | exact hp | refine List.mem_cons_of_mem _ ?_ | refine List.mem_append_right _ ?_), ?_⟩
          refine DL.one 4 (by kernel_rfl) rfl rfl (OW.call Tryz.call113 (ext2 rfl rfl) ((MacOf_c id [longF shared] _ _ 0 1 [sl bq 0 32 32] 23 (0, 0) _ (rdS_all (b := b4) (T := 51) (by repeat (first | exact List.mem_cons_self | exact List.mem_cons_of_mem _ (by assumption) | assumption | refine List.mem_cons_of_mem _ ?_ | refine List.mem_append_right _ ?_)) hid) (by omega) (by repeat (first | exact List.mem_cons_self | exact List.mem_cons_of_mem _ (by assumption) | assumption | refine List.mem_cons_of_mem _ ?_ | refine List.mem_append_right _ ?_)) (hpv1 (rdS_all (bs := longF shared) (T := 5) (by repeat (first | exact List.mem_cons_self | exact List.mem_cons_of_mem _ (by assumption) | assumption | refine List.mem_cons_of_mem _ ?_ | refine List.mem_append_right _ ?_)) (longF_len _))) (hpl1 (by rw [longF_len]; decide)) (by simp)).mono ?_))
          rintro v S' ⟨rfl, rfl⟩
          rw [flat1, kmK_eq]
          refine ⟨fun _ p hp => by repeat (first | exact hp | refine List.mem_cons_of_mem _ ?_ | refine List.mem_append_right _ ?_), ?_⟩
          refine DL.one 6 (by kernel_rfl) rfl rfl (OW.storeN rfl rfl Tryz.sizeOf51 (by repeat (first | exact List.mem_cons_self | exact List.mem_cons_of_mem _ (by assumption) | assumption | refine List.mem_cons_of_mem _ ?_ | refine List.mem_append_right _ ?_)) (by first | (simp only [List.length_map, List.length_replicate, List.length_cons, List.length_nil, List.length_set, Nat.mul_one] <;> omega) | (simp [*] <;> omega)) (by first | exact m_all (fun _ => rfl) _ | rfl | (simp; done) | (simp only [List.all_cons, List.all_nil, oneB_buf, Bool.true_and, Bool.and_true]; rfl) | (simp [oneB]; done)) (by first | (simp only [List.length_map, List.length_replicate, List.length_cons, List.length_nil, List.length_set, Nat.mul_one] <;> omega) | (simp [*] <;> omega)) (by first | (refine wr_all ?_; simp only [List.length_map, List.length_replicate, List.length_cons, List.length_nil, List.length_set, Nat.mul_one] <;> omega) | (refine wr_all ?_; simp [*]; done) | exact m_wr _ _ _ | with_reducible rfl) (by repeat (first | exact Upd.head | apply Upd.tail | apply Upd.tailA)) ?_)
          refine ⟨fun h => absurd rfl h, ?_⟩
          refine DL.done (by kernel_rfl) (thenN ?_)
          refine ⟨b8, (trivial), ?_, ?_⟩
          · repeat (first | exact leE_nil | refine leE_cons rfl ?_)
          · exact (by repeat (first | exact List.Sublist.refl _ | (refine keepS ?_ ?_; with_reducible rfl) | (refine keepA ?_ ?_; with_reducible rfl) | (refine keepS ?_ ?_; rfl) | apply dropS | apply dropA))
      · refine OW.alloc zv51 rfl ?_
        intro b8
        refine ⟨fun _ p hp => by repeat (first | exact hp | refine List.mem_cons_of_mem _ ?_ | refine List.mem_append_right _ ?_), ?_⟩
        refine DL.one 3 (by kernel_rfl) rfl rfl (OW.buildSlice1 Tryz.runUnderlying83 Tryz.sizeOf23 zv23 rfl rfl rfl ?_)
        intro b22
        refine ⟨fun _ p hp => by repeat (first | exact hp | refine List.mem_cons_of_mem _ ?_ | refine List.mem_append_right _ ?_), ?_⟩
        refine DL.one 4 (by kernel_rfl) rfl rfl (OW.call Tryz.call113 (ext2 rfl rfl) ((MacOf_c id [longF shared] _ _ 0 1 [sl bq 0 32 32] 23 (0, 0) _ (rdS_all (b := b4) (T := 51) (by repeat (first | exact List.mem_cons_self | exact List.mem_cons_of_mem _ (by assumption) | assumption | refine List.mem_cons_of_mem _ ?_ | refine List.mem_append_right _ ?_)) hid) (by omega) (by repeat (first | exact List.mem_cons_self | exact List.mem_cons_of_mem _ (by assumption) | assumption | refine List.mem_cons_of_mem _ ?_ | refine List.mem_append_right _ ?_)) (hpv1 (rdS_all (bs := longF shared) (T := 5) (by repeat (first | exact List.mem_cons_self | exact List.mem_cons_of_mem _ (by assumption) | assumption | refine List.mem_cons_of_mem _ ?_ | refine List.mem_append_right _ ?_)) (longF_len _))) (hpl1 (by rw [longF_len]; decide)) (by simp)).mono ?_))
        rintro v S' ⟨rfl, rfl⟩
        rw [flat1, kmK_eq]
        refine ⟨fun _ p hp => by repeat (first | exact hp | refine List.mem_cons_of_mem _ ?_ | refine List.mem_append_right _ ?_), ?_⟩
        refine DL.one 6 (by kernel_rfl) rfl rfl (OW.storeN rfl rfl Tryz.sizeOf51 (by repeat (first | exact List.mem_cons_self | exact List.mem_cons_of_mem _ (by assumption) | assumption | refine List.mem_cons_of_mem _ ?_ | refine List.mem_append_right _ ?_)) (by first | (simp only [List.length_map, List.length_replicate, List.length_cons, List.length_nil, List.length_set, Nat.mul_one] <;> omega) | (simp [*] <;> omega)) (by first | exact m_all (fun _ => rfl) _ | rfl | (simp; done) | (simp only [List.all_cons, List.all_nil, oneB_buf, Bool.true_and, Bool.and_true]; rfl) | (simp [oneB]; done)) (by first | (simp only [List.length_map, List.length_replicate, List.length_cons, List.length_nil, List.length_set, Nat.mul_one] <;> omega) | (simp [*] <;> omega)) (by first | (refine wr_all ?_; simp only [List.length_map, List.length_replicate, List.length_cons, List.length_nil, List.length_set, Nat.mul_one] <;> omega) | (refine wr_all ?_; simp [*]; done) | exact m_wr _ _ _ | with_reducible rfl) (by repeat (first | exact Upd.head | apply Upd.tail | apply Upd.tailA)) ?_)
        refine ⟨fun h => absurd rfl h, ?_⟩
        refine DL.done (by kernel_rfl) (thenN ?_)
        refine ⟨b8, (trivial), ?_, ?_⟩
        · repeat (first | exact leE_nil | refine leE_cons rfl ?_)
        · exact (by repeat (first | exact List.Sublist.refl _ | (refine keepS ?_ ?_; with_reducible rfl) | (refine keepA ?_ ?_; with_reducible rfl) | (refine keepS ?_ ?_; rfl) | apply dropS | apply dropA))
    · refine OW.alloc zv51 rfl ?_
      intro b8
      refine ⟨fun _ p hp => by repeat (first | exact hp | refine List.mem_cons_of_mem _ ?_ | refine List.mem_append_right _ ?_), ?_⟩
      refine DL.one 2 (by kernel_rfl) rfl rfl (OW.call Tryz.call114 (ext2 rfl rfl) ((PutLong_c [] shared none 0 _ (by simp) hsh (.inl ⟨rfl, _, _, rfl⟩)).mono ?_))
      rintro v S' ⟨bq, rfl, rfl⟩
      refine ⟨fun _ p hp => by repeat (first | exact hp | refine List.mem_cons_of_mem _ ?_ | refine List.mem_append_right _ ?_), ?_⟩
      refine DL.one 3 (by kernel_rfl) rfl rfl (OW.buildSlice1 Tryz.runUnderlying83 Tryz.sizeOf23 zv23 rfl rfl rfl ?_)
      intro b22
      refine ⟨fun _ p hp => by repeat (first | exact hp | refine List.mem_cons_of_mem _ ?_ | refine List.mem_append_right _ ?_), ?_⟩
      refine DL.one 4 (by kernel_rfl) rfl rfl (OW.call Tryz.call113 (ext2 rfl rfl) ((MacOf_c id [longF shared] _ _ 0 1 [sl bq 0 32 32] 23 (0, 0) _ (rdS_all (b := b4) (T := 51) (by repeat (first | exact List.mem_cons_self | exact List.mem_cons_of_mem _ (by assumption) | assumption | refine List.mem_cons_of_mem _ ?_ | refine List.mem_append_right _ ?_)) hid) (by omega) (by repeat (first | exact List.mem_cons_self | exact List.mem_cons_of_mem _ (by assumption) | assumption | refine List.mem_cons_of_mem _ ?_ | refine List.mem_append_right _ ?_)) (hpv1 (rdS_all (bs := longF shared) (T := 5) (by repeat (first | exact List.mem_cons_self | exact List.mem_cons_of_mem _ (by assumption) | assumption | refine List.mem_cons_of_mem _ ?_ | refine List.mem_append_right _ ?_)) (longF_len _))) (hpl1 (by rw [longF_len]; decide)) (by simp)).mono ?_))
      rintro v S' ⟨rfl, rfl⟩
      rw [flat1, kmK_eq]
      refine ⟨fun _ p hp => by repeat (first | exact hp | refine List.mem_cons_of_mem _ ?_ | refine List.mem_append_right _ ?_), ?_⟩
      refine DL.one 6 (by kernel_rfl) rfl rfl (OW.storeN rfl rfl Tryz.sizeOf51 (by repeat (first | exact List.mem_cons_self | exact List.mem_cons_of_mem _ (by assumption) | assumption | refine List.mem_cons_of_mem _ ?_ | refine List.mem_append_right _ ?_)) (by first | (simp only [List.length_map, List.length_replicate, List.length_cons, List.length_nil, List.length_set, Nat.mul_one] <;> omega) | (simp [*] <;> omega)) (by first | exact m_all (fun _ => rfl) _ | rfl | (simp; done) | (simp only [List.all_cons, List.all_nil, oneB_buf, Bool.true_and, Bool.and_true]; rfl) | (simp [oneB]; done)) (by first | (simp only [List.length_map, List.length_replicate, List.length_cons, List.length_nil, List.length_set, Nat.mul_one] <;> omega) | (simp [*] <;> omega)) (by first | (refine wr_all ?_; simp only [List.length_map, List.length_replicate, List.length_cons, List.length_nil, List.length_set, Nat.mul_one] <;> omega) | (refine wr_all ?_; simp [*]; done) | exact m_wr _ _ _ | with_reducible rfl) (by repeat (first | exact Upd.head | apply Upd.tail | apply Upd.tailA)) ?_)
      refine ⟨fun h => absurd rfl h, ?_⟩
      refine DL.done (by kernel_rfl) (thenN ?_)
      refine ⟨b8, (trivial), ?_, ?_⟩
      · repeat (first | exact leE_nil | refine leE_cons rfl ?_)
      · exact (by repeat (first | exact List.Sublist.refl _ | (refine keepS ?_ ?_; with_reducible rfl) | (refine keepA ?_ ?_; with_reducible rfl) | (refine keepS ?_ ?_; rfl) | apply dropS | apply dropA))
  · intro b8 hI
    refine CW.seq ?_
    refine CW.region (by kernel_rfl) ?_
    refine RL.q rfl rfl (QW.move rfl) ?_
    refine RL.q rfl rfl (QW.add rfl rfl (wI_add (a := _) (b := 32) (by omega))) ?_
    refine RL.cons rfl (OW.makeSlice (l := 0) Tryz.runUnderlying23 Tryz.typeInfo5 Tryz.sizeOf5 zv5 rfl rfl rfl (by omega) (by rw [show Tryz.t5.bytes = 1 from rfl]; omega) (by omega) ?_)
    intro b26
    refine RL.q rfl rfl (QW.assign rfl) ?_
    refine RL.nil (thenN ?_)
    refine CW.seq ?_
    refine CW.region (by kernel_rfl) ?_
    refine RL.q rfl rfl (QW.assign rfl) ?_
    refine RL.nil (thenN ?_)
    refine CW.seq ?_
    refine CW.seq ?_
    refine CW.region (by kernel_rfl) ?_
    refine RL.q rfl rfl (QW.assign rfl) ?_
    refine RL.nil (thenN ?_)
    refine CW.block ?_
    refine CW.loopT4 (α := Nat) (β := Buf) (γ := Value) (δ := HL) [(2, _), (6, _), (7, _), (8, _)] (by repeat (first | exact leE_nil | refine leE_cons rfl ?_)) (fun i u v10 X => i ≤ (n + 31) / 32 ∧ bufOk (some u) (kmO (kmK shared id) i).length 1 ∧ RdS (X ++ (bufH (some u) ((kmO (kmK shared id) i).map u8) 5 ++ ((b8, blk ((kmK shared id).map u8) 51) :: (b4, blk (id.map u8) 51) :: (b3, blk (shared.map u64) 49) :: S))) v10 (kmT (kmK shared id) i)) (fun i u v10 X r => (11, nI (i + 1)) :: (9, bufV (some u) (kmO (kmK shared id) i).length) :: (10, v10) :: r) (fun i u v10 X => X ++ (bufH (some u) ((kmO (kmK shared id) i).map u8) 5 ++ ((b8, blk ((kmK shared id).map u8) 51) :: (b4, blk (id.map u8) 51) :: (b3, blk (shared.map u64) 49) :: S))) (fun i u v10 X => (n + 31) / 32 - i) 0 ⟨b26, n + 32, List.replicate (n + 32) (u8 0)⟩ (.slice none 0 0) [] ⟨Nat.zero_le _, ⟨by simp [kmO], Nat.zero_le _⟩, by rw [kmT_zero]; exact rdS_nil⟩ (by repeat (first | exact leE_nil | refine leE_cons (by first | rfl | (rfl)) ?_)) (by repeat (first | exact List.Sublist.refl _ | (refine keepS ?_ ?_; with_reducible rfl) | (refine keepA ?_ ?_; with_reducible rfl) | (refine keepS ?_ ?_; rfl) | apply dropS | apply dropA)) ?_
    intro i u v10 X ⟨hI, hbo, hv10⟩
    have hkl := kmO_len (kmK shared id) i
    have hkk := kmK_len shared id
    obtain ⟨hv10r, a10, c10, rfl, hc10⟩ := hv10
    have hv10 : RdS (X ++ (bufH (some u) ((kmO (kmK shared id) i).map u8) 5 ++ ((b8, blk ((kmK shared id).map u8) 51) :: (b4, blk (id.map u8) 51) :: (b3, blk (shared.map u64) 49) :: S))) (.slice a10 (kmT (kmK shared id) i).length c10) (kmT (kmK shared id) i) := ⟨hv10r, a10, c10, rfl, hc10⟩
    refine CW.seq ?_
    refine CW.seq ?_
    refine CW.region (by kernel_rfl) ?_
    refine RL.q rfl rfl (QW.move rfl) ?_
    refine RL.q rfl rfl (QW.len_buf hbo Tryz.runUnderlying23 rfl) ?_
    refine RL.q rfl rfl (QW.move rfl) ?_
    refine RL.q rfl rfl (QW.lss rfl rfl (dI_lt _ _)) ?_
    refine RL.nil (thenN ?_)
    refine CW.cond rfl (fun hc2 => ?_) (fun hc2 => ?_)
    · have hn : (kmO (kmK shared id) i).length < n := by simpa using hc2
      rw [hkl] at hn
      refine CW.skip (thenN ?_)
      refine CW.seq ?_
      refine CW.block ?_
      refine CW.seq ?_
      refine CW.region (by kernel_rfl) ?_
      refine RL.q rfl rfl (QW.sliceA0 Tryz.runUnderlying51 Tryz.sizeOf5 rfl optV_none optV_none (.inl rfl) (by first | omega | (dsimp only; omega)) (by first | omega | (dsimp only; omega))) ?_
      refine RL.q rfl rfl (QW.move rfl) ?_
      refine RL.cons rfl (OW.buildSliceP (cells := [_, _, _, _]) Tryz.runUnderlying23 Tryz.sizeOf5 zv5 rfl (by decide) (by decide) (parts4 rfl rfl rfl rfl) rfl ?_)
      intro b35
      refine RL.cons rfl (OW.convMark Tryz.runUnderlying23 Tryz.runUnderlying5 rfl (by repeat (first | exact List.mem_cons_self | exact List.mem_cons_of_mem _ (by assumption) | assumption | refine List.mem_cons_of_mem _ ?_ | refine List.mem_append_right _ ?_)) (by repeat (first | exact Upd.head | apply Upd.tail | apply Upd.tailA)) ?_)
      refine RL.q rfl rfl (QW.move rfl) ?_
      refine RL.q rfl rfl (QW.conv Tryz.runUnderlying3 Tryz.runUnderlying5 rfl (w8_nat _)) ?_
      refine RL.cons rfl (OW.buildSlice1 Tryz.runUnderlying23 Tryz.sizeOf5 zv5 rfl rfl rfl ?_)
      intro b39
      refine RL.cons rfl (OW.buildSliceP (cells := [_, _, _]) Tryz.runUnderlying83 Tryz.sizeOf23 zv23 rfl (by decide) (by decide) (parts3 rfl rfl rfl) rfl ?_)
      intro b40
      refine RL.cons rfl (OW.call Tryz.call113 (ext2 rfl rfl) ((MacOf_c (kmK shared id) [kmT (kmK shared id) i, laneB, [UInt8.ofNat (i + 1)]] _ _ 0 3 [.slice a10 (kmT (kmK shared id) i).length c10, sl b35 0 4 4, sl b39 0 1 1] 23 (0, 0) _ (rdS_all (b := b8) (T := 51) (by repeat (first | exact List.mem_cons_self | exact List.mem_cons_of_mem _ (by assumption) | assumption | refine List.mem_cons_of_mem _ ?_ | refine List.mem_append_right _ ?_)) hkk) (by omega) List.mem_cons_self (kp3 (hv10.mono (fun p hp => by repeat (first | exact hp | refine List.mem_cons_of_mem _ ?_))) (rdM_all (bs := laneB) (T := 5) (List.mem_cons_of_mem _ (List.mem_cons_of_mem _ List.mem_cons_self)) rfl) (rdS_all (bs := [UInt8.ofNat (i + 1)]) (T := 5) (List.mem_cons_of_mem _ List.mem_cons_self) rfl)) (kl3 (by have := kmT_le (kmK shared id) i; omega) (by simp [laneB]) (by simp)) (by simp)).mono ?_))
      rintro v S' ⟨rfl, rfl⟩
      rw [flat3, kmT_succ]
      have ht := kmT_len (kmK shared id) i
      refine RL.cons rfl (OW.alloc zv51 rfl ?_)
      intro b12
      refine RL.cons rfl (OW.storeN rfl rfl Tryz.sizeOf51 (by repeat (first | exact List.mem_cons_self | exact List.mem_cons_of_mem _ (by assumption) | assumption | refine List.mem_cons_of_mem _ ?_ | refine List.mem_append_right _ ?_)) (by first | (simp only [List.length_map, List.length_replicate, List.length_cons, List.length_nil, List.length_set, Nat.mul_one] <;> omega) | (simp [*] <;> omega)) (by first | exact m_all (fun _ => rfl) _ | rfl | (simp; done) | (simp only [List.all_cons, List.all_nil, oneB_buf, Bool.true_and, Bool.and_true]; rfl) | (simp [oneB]; done)) (by first | (simp only [List.length_map, List.length_replicate, List.length_cons, List.length_nil, List.length_set, Nat.mul_one] <;> omega) | (simp [*] <;> omega)) (by first | (refine wr_all ?_; simp only [List.length_map, List.length_replicate, List.length_cons, List.length_nil, List.length_set, Nat.mul_one] <;> omega) | (refine wr_all ?_; simp [*]; done) | exact m_wr _ _ _ | with_reducible rfl) (by repeat (first | exact Upd.head | apply Upd.tail | apply Upd.tailA)) ?_)
      refine RL.nil (thenN ?_)
      refine CW.seq ?_
      refine CW.region (by kernel_rfl) ?_
      refine RL.q rfl rfl (QW.sliceA0 Tryz.runUnderlying51 Tryz.sizeOf5 rfl optV_none optV_none (.inl rfl) (by first | omega | (dsimp only; omega)) (by first | omega | (dsimp only; omega))) ?_
      refine RL.q rfl rfl (QW.assign rfl) ?_
      refine RL.nil (thenN ?_)
      refine CW.region (by kernel_rfl) ?_
      refine RL.q rfl rfl (QW.move rfl) ?_
      refine RL.q rfl rfl (QW.move rfl) ?_
      refine RL.cons rfl (OW.appB (ys := kmT (kmK shared id) (i + 1)) (xs := (kmO (kmK shared id) i)) Tryz.runUnderlying23 Tryz.runUnderlying23 (.inl ⟨_, rfl⟩) Tryz.typeInfo5 Tryz.sizeOf5 zv5 rfl rfl (by repeat (first | exact SegF.here | apply SegF.there | apply SegF.thereA)) hbo rfl (Src.rds (rdS_all (bs := kmT (kmK shared id) (i + 1)) (b := b12) (T := 51) List.mem_cons_self ht).1 ht) ht (by omega) ?_)
      intro o' hbo2
      obtain ⟨u', rfl⟩ := hbo2.some (by rw [List.length_append, ht]; omega)
      refine RL.q rfl rfl (QW.assign rfl) ?_
      refine RL.nil (blockN (thenN ?_))
      refine CW.region (by kernel_rfl) ?_
      refine RL.q rfl rfl (QW.move rfl) ?_
      refine RL.q rfl rfl (QW.add rfl rfl (wI_add (a := _) (b := 1) (by omega))) ?_
      refine RL.q rfl rfl (QW.assign rfl) ?_
      refine RL.nil (thenN ?_)
      refine ⟨i + 1, u', sl b12 0 32 32, [(b12, blk ((kmT (kmK shared id) (i + 1)).map u8) 51)], (⟨by omega, hbo2, rdS_all (T := 51) List.mem_cons_self ht⟩), (by omega), ?_, ?_⟩
      · repeat (first | exact leE_nil | refine leE_cons rfl ?_)
      · exact keepS rfl (dropS (dropS (dropS (dropA (List.Sublist.refl _)))))
    · have hn : ¬ (kmO (kmK shared id) i).length < n := by simpa using hc2
      rw [hkl] at hn
      have hi : i = (n + 31) / 32 := by omega
      subst hi
      refine CW.exit (thenX (thenX (blockX (thenN ?_))))
      refine CW.seq ?_
      refine CW.region (by kernel_rfl) ?_
      refine RL.q rfl rfl (QW.move rfl) ?_
      refine RL.q rfl rfl (QW.move rfl) ?_
      refine RL.q rfl rfl (QW.move rfl) ?_
      refine RL.q rfl rfl (QW.sliceS0 (h := n) (m := n) Tryz.runUnderlying23 Tryz.sizeOf5 rfl (optV_some rfl) (optV_some rfl) (.inr (by simp)) (Nat.le_refl _) (by have := hbo.2; omega)) ?_
      refine RL.q rfl rfl (QW.assign rfl) ?_
      refine RL.q rfl rfl (QW.assign rfl) ?_
      refine RL.nil (thenN ?_)
      refine CW.ret (retR ((u.b, blk ((kmO (kmK shared id) ((n + 31) / 32)).map u8 ++ u.rest) 5) :: S) (ResOk.two Tryz.results17 (ResV.tmp rfl) (ResV.tmp rfl)) (by repeat (first | exact List.Sublist.refl _ | (refine keepS ?_ ?_; with_reducible rfl) | (refine keepA ?_ ?_; with_reducible rfl) | (refine keepS ?_ ?_; rfl) | apply dropS | apply dropA)) ?_)
      refine ⟨u.b, ((kmO (kmK shared id) ((n + 31) / 32)).drop n).map u8 ++ u.rest, rfl, ?_⟩
      rw [kmF, ← List.append_assoc, ← List.map_append, List.take_append_drop]

end Go.Sl

/- burrowref10.Of and the refusals of both. -/
set_option linter.unusedVariables false
set_option linter.unusedSimpArgs false
namespace Go.Sl
open Go.Proofs

theorem QW.sliceBuf {P : Program} {S : HL} {σ : Env} {dst : Option Nat} {ty : TypeId} {pos : String} {aft : Array Edge} {g : Option (Nat × Bool)} {x y : Operand} {t e sz : Nat} {o : Option Buf} {k h : Nat} (hbo : bufOk o k 1) (hh : h ≤ k) (ht : UT P t (.slice e)) (hn : SZ P e sz) (hx : ev σ x = some (bufV o k)) (hy : ev σ y = some (nI h)) :
    QW P S ⟨dst, .slice t x none (some y) none, ty, pos, aft, g⟩ σ (bufV o h) := by
  cases o with
  | none =>
    have hk : k = 0 := hbo
    have hh0 : h = 0 := by omega
    subst hk; subst hh0
    exact QW.sliceNil ht hn hx rfl (optV_some hy) rfl (.inl rfl)
  | some u => exact QW.sliceS0 (h := h) (m := u.cap) ht hn hx (optV_some hy) rfl (.inl rfl) (by have := hbo.2; omega) (Nat.le_refl _)
theorem RdB.bufm {S : HL} {o : Option Buf} {ys : List UInt8} {n : Nat} {T : TypeId} (hn : ys.length = n) (hb : bufOk o n 1) (hm : ∀ p ∈ bufH o (ys.map u8) T, p ∈ S) : RdB S (bufV o n) ys := by
  subst hn; exact RdB.bufB hb hm


set_option maxRecDepth 100000 in
set_option maxHeartbeats 1000000 in
theorem rKOf_c (shared : List UInt64) (id : List UInt8) (n : Nat) (S : HL) (hsh : shared.length = 4) (hid : id.length = 32) (hn0 : n ≤ 8160) : CallS Tryz.prog 18 ⟨[.agg ⟨shared.map u64⟩, .agg ⟨id.map u8⟩, nI n]⟩ S fun v S' => ∃ o x, v = .tuple #[bufV o n, nI 0] ∧ (o = none → n = 0) ∧ S' = bufH o ((kmF shared id n).map u8 ++ x) 5 ++ S := by
  have hkk := kmK_len shared id
  refine CallS.enter Tryz.func18 rfl Tryz.ntmps18 (by simp) ?_
  refine CW.seq ?_
  refine CW.region (by kernel_rfl) ?_
  refine RL.cons rfl (OW.boxN rfl ?_)
  intro b3
  refine RL.cons rfl (OW.boxN rfl ?_)
  intro b4
  refine RL.q rfl rfl (QW.assign rfl) ?_
  refine RL.q rfl rfl (QW.assign rfl) ?_
  refine RL.nil (thenN ?_)
  refine CW.seq ?_
  refine CW.seq ?_
  refine CW.region (by kernel_rfl) ?_
  refine RL.q rfl rfl (QW.move rfl) ?_
  refine RL.q rfl rfl (QW.lss (t := false) rfl rfl (by simp)) ?_
  refine RL.nil (thenN ?_)
  refine CW.cond_false rfl ?_
  refine CW.skip (thenN ?_)
  refine CW.seq ?_
  refine CW.seq ?_
  refine CW.region (by kernel_rfl) ?_
  refine RL.q rfl rfl (QW.move rfl) ?_
  refine RL.q rfl rfl (QW.gtr (t := false) rfl rfl (by simp; omega)) ?_
  refine RL.nil (thenN ?_)
  refine CW.cond_false rfl ?_
  refine CW.skip (thenN ?_)
  refine CW.seqCutT (ι := Nat) [(2, _), (3, _), (4, _), (6, _), (7, _)] (by repeat (first | exact leE_nil | refine leE_cons rfl ?_)) (fun b8 => True) (fun b8 r => (8, ptr b8 0) :: r) (fun b8 => (b8, blk ((kmK shared id).map u8) 51) :: (b4, blk (id.map u8) 51) :: (b3, blk (shared.map u64) 49) :: S) ?_ ?_
  · refine CW.drawnS 6 (by rw [mixed]; rfl) (by kernel_rfl) (by kernel_rfl) (by kernel_rfl) (fun _ _ _ h => h) ?_
    refine DL.take 0 rfl (by kernel_rfl) (by kernel_rfl) (by kernel_rfl) rfl rfl (QW.sliceA0 Tryz.runUnderlying51 Tryz.sizeOf5 rfl optV_none optV_none (.inl rfl) (by first | omega | (dsimp only; omega)) (by first | omega | (dsimp only; omega))) (by intro p hp; repeat (first | exact hp | refine List.mem_cons_of_mem _ ?_ | refine List.mem_append_right _ ?_)) ?_
    refine DL.take 1 rfl (by kernel_rfl) (by kernel_rfl) (by kernel_rfl) rfl rfl (QW.loadN rfl Tryz.isAgg49 Tryz.sizeOf49 (by repeat (first | exact List.mem_cons_self | exact List.mem_cons_of_mem _ (by assumption) | assumption | refine List.mem_cons_of_mem _ ?_ | refine List.mem_append_right _ ?_)) (by first | (simp only [List.length_map, List.length_replicate, List.length_cons, List.length_nil, List.length_set, Nat.mul_one] <;> omega) | (simp [*] <;> omega)) (by first | (refine m_all_of _ _ ?_; omega) | (refine m_all_of _ _ ?_; simp [*]; done) | exact m_cut _ _ _ | with_reducible rfl)) (by intro p hp; repeat (first | exact hp | refine List.mem_cons_of_mem _ ?_ | refine List.mem_append_right _ ?_)) ?_
    refine DL.two 2 5 (by kernel_rfl) rfl rfl rfl rfl ?_ ?_
    · refine OW.call Tryz.call116 (ext2 rfl rfl) ((rPutLong_c [] shared (.slice none 0 0) _ hsh (.inl ⟨rfl, _, _, rfl⟩) (by simp)).mono ?_)
      rintro v S' ⟨oq, hoq, rfl, rfl⟩
      simp only [List.nil_append] at hoq ⊢
      obtain ⟨uq, rfl⟩ := hoq.some (by rw [longF_len]; decide)
      refine ⟨fun _ p hp => by repeat (first | exact hp | refine List.mem_cons_of_mem _ ?_ | refine List.mem_append_right _ ?_), ?_⟩
      refine DL.two 3 5 (by kernel_rfl) rfl rfl rfl rfl ?_ ?_
      · refine OW.buildSlice1 Tryz.runUnderlying83 Tryz.sizeOf23 zv23 rfl rfl rfl ?_
        intro b20
        refine ⟨fun _ p hp => by repeat (first | exact hp | refine List.mem_cons_of_mem _ ?_ | refine List.mem_append_right _ ?_), ?_⟩
        refine DL.two 4 5 (by kernel_rfl) rfl rfl rfl rfl ?_ ?_
        · refine OW.call Tryz.call115 (ext2 rfl rfl) ((rMacOf_c id [longF shared] _ _ 0 1 [bufV (some uq) (longF shared).length] 23 (0, 0) _ (rdS_all (b := b4) (T := 51) (by repeat (first | exact List.mem_cons_self | exact List.mem_cons_of_mem _ (by assumption) | assumption | refine List.mem_cons_of_mem _ ?_ | refine List.mem_append_right _ ?_)) hid).1 (by omega) (by repeat (first | exact List.mem_cons_self | exact List.mem_cons_of_mem _ (by assumption) | assumption | refine List.mem_cons_of_mem _ ?_ | refine List.mem_append_right _ ?_)) (hpv1 (RdS.bufB hoq (fun p hp => by repeat (first | exact List.mem_append_left _ hp | refine List.mem_cons_of_mem _ ?_)))) (by rw [flat1, longF_len]; decide) (by simp)).mono ?_)
          rintro v S' ⟨rfl, rfl⟩
          rw [flat1, kmK_eq]
          refine ⟨fun _ p hp => by repeat (first | exact hp | refine List.mem_cons_of_mem _ ?_ | refine List.mem_append_right _ ?_), ?_⟩
          refine DL.one 5 (by kernel_rfl) rfl rfl (OW.alloc zv51 rfl ?_)
          intro b8
          refine ⟨fun _ p hp => by repeat (first | exact hp | refine List.mem_cons_of_mem _ ?_ | refine List.mem_append_right _ ?_), ?_⟩
          refine DL.one 6 (by kernel_rfl) rfl rfl (OW.storeN rfl rfl Tryz.sizeOf51 (by repeat (first | exact List.mem_cons_self | exact List.mem_cons_of_mem _ (by assumption) | assumption | refine List.mem_cons_of_mem _ ?_ | refine List.mem_append_right _ ?_)) (by first | (simp only [List.length_map, List.length_replicate, List.length_cons, List.length_nil, List.length_set, Nat.mul_one] <;> omega) | (simp [*] <;> omega)) (by first | exact m_all (fun _ => rfl) _ | rfl | (simp; done) | (simp only [List.all_cons, List.all_nil, oneB_buf, Bool.true_and, Bool.and_true]; rfl) | (simp [oneB]; done)) (by first | (simp only [List.length_map, List.length_replicate, List.length_cons, List.length_nil, List.length_set, Nat.mul_one] <;> omega) | (simp [*] <;> omega)) (by first | (refine wr_all ?_; simp only [List.length_map, List.length_replicate, List.length_cons, List.length_nil, List.length_set, Nat.mul_one] <;> omega) | (refine wr_all ?_; simp [*]; done) | exact m_wr _ _ _ | with_reducible rfl) (by repeat (first | exact Upd.head | apply Upd.tail | apply Upd.tailA)) ?_)
          refine ⟨fun h => absurd rfl h, ?_⟩
          refine DL.done (by kernel_rfl) (thenN ?_)
          refine ⟨b8, (trivial), ?_, ?_⟩
          · repeat (first | exact leE_nil | refine leE_cons rfl ?_)
          · exact (by repeat (first | exact List.Sublist.refl _ | (refine keepS ?_ ?_; with_reducible rfl) | (refine keepA ?_ ?_; with_reducible rfl) | (refine keepS ?_ ?_; rfl) | apply dropS | apply dropA))
        · refine OW.alloc zv51 rfl ?_
          intro b8
          refine ⟨fun _ p hp => by repeat (first | exact hp | refine List.mem_cons_of_mem _ ?_ | refine List.mem_append_right _ ?_), ?_⟩
          refine DL.one 4 (by kernel_rfl) rfl rfl (OW.call Tryz.call115 (ext2 rfl rfl) ((rMacOf_c id [longF shared] _ _ 0 1 [bufV (some uq) (longF shared).length] 23 (0, 0) _ (rdS_all (b := b4) (T := 51) (by repeat (first | exact List.mem_cons_self | exact List.mem_cons_of_mem _ (by assumption) | assumption | refine List.mem_cons_of_mem _ ?_ | refine List.mem_append_right _ ?_)) hid).1 (by omega) (by repeat (first | exact List.mem_cons_self | exact List.mem_cons_of_mem _ (by assumption) | assumption | refine List.mem_cons_of_mem _ ?_ | refine List.mem_append_right _ ?_)) (hpv1 (RdS.bufB hoq (fun p hp => by repeat (first | exact List.mem_append_left _ hp | refine List.mem_cons_of_mem _ ?_)))) (by rw [flat1, longF_len]; decide) (by simp)).mono ?_))
          rintro v S' ⟨rfl, rfl⟩
          rw [flat1, kmK_eq]
          refine ⟨fun _ p hp => by repeat (first | exact hp | refine List.mem_cons_of_mem _ ?_ | refine List.mem_append_right _ ?_), ?_⟩
          refine DL.one 6 (by kernel_rfl) rfl rfl (OW.storeN rfl rfl Tryz.sizeOf51 (by repeat (first | exact List.mem_cons_self | exact List.mem_cons_of_mem _ (by assumption) | assumption | refine List.mem_cons_of_mem _ ?_ | refine List.mem_append_right _ ?_)) (by first | (simp only [List.length_map, List.length_replicate, List.length_cons, List.length_nil, List.length_set, Nat.mul_one] <;> omega) | (simp [*] <;> omega)) (by first | exact m_all (fun _ => rfl) _ | rfl | (simp; done) | (simp only [List.all_cons, List.all_nil, oneB_buf, Bool.true_and, Bool.and_true]; rfl) | (simp [oneB]; done)) (by first | (simp only [List.length_map, List.length_replicate, List.length_cons, List.length_nil, List.length_set, Nat.mul_one] <;> omega) | (simp [*] <;> omega)) (by first | (refine wr_all ?_; simp only [List.length_map, List.length_replicate, List.length_cons, List.length_nil, List.length_set, Nat.mul_one] <;> omega) | (refine wr_all ?_; simp [*]; done) | exact m_wr _ _ _ | with_reducible rfl) (by repeat (first | exact Upd.head | apply Upd.tail | apply Upd.tailA)) ?_)
          refine ⟨fun h => absurd rfl h, ?_⟩
          refine DL.done (by kernel_rfl) (thenN ?_)
          refine ⟨b8, (trivial), ?_, ?_⟩
          · repeat (first | exact leE_nil | refine leE_cons rfl ?_)
          · exact (by repeat (first | exact List.Sublist.refl _ | (refine keepS ?_ ?_; with_reducible rfl) | (refine keepA ?_ ?_; with_reducible rfl) | (refine keepS ?_ ?_; rfl) | apply dropS | apply dropA))
      · refine OW.alloc zv51 rfl ?_
        intro b8
        refine ⟨fun _ p hp => by repeat (first | exact hp | refine List.mem_cons_of_mem _ ?_ | refine List.mem_append_right _ ?_), ?_⟩
        refine DL.one 3 (by kernel_rfl) rfl rfl (OW.buildSlice1 Tryz.runUnderlying83 Tryz.sizeOf23 zv23 rfl rfl rfl ?_)
        intro b20
        refine ⟨fun _ p hp => by repeat (first | exact hp | refine List.mem_cons_of_mem _ ?_ | refine List.mem_append_right _ ?_), ?_⟩
        refine DL.one 4 (by kernel_rfl) rfl rfl (OW.call Tryz.call115 (ext2 rfl rfl) ((rMacOf_c id [longF shared] _ _ 0 1 [bufV (some uq) (longF shared).length] 23 (0, 0) _ (rdS_all (b := b4) (T := 51) (by repeat (first | exact List.mem_cons_self | exact List.mem_cons_of_mem _ (by assumption) | assumption | refine List.mem_cons_of_mem _ ?_ | refine List.mem_append_right _ ?_)) hid).1 (by omega) (by repeat (first | exact List.mem_cons_self | exact List.mem_cons_of_mem _ (by assumption) | assumption | refine List.mem_cons_of_mem _ ?_ | refine List.mem_append_right _ ?_)) (hpv1 (RdS.bufB hoq (fun p hp => by repeat (first | exact List.mem_append_left _ hp | refine List.mem_cons_of_mem _ ?_)))) (by rw [flat1, longF_len]; decide) (by simp)).mono ?_))
        rintro v S' ⟨rfl, rfl⟩
        rw [flat1, kmK_eq]
        refine ⟨fun _ p hp => by repeat (first | exact hp | refine List.mem_cons_of_mem _ ?_ | refine List.mem_append_right _ ?_), ?_⟩
        refine DL.one 6 (by kernel_rfl) rfl rfl (OW.storeN rfl rfl Tryz.sizeOf51 (by repeat (first | exact List.mem_cons_self | exact List.mem_cons_of_mem _ (by assumption) | assumption | refine List.mem_cons_of_mem _ ?_ | refine List.mem_append_right _ ?_)) (by first | (simp only [List.length_map, List.length_replicate, List.length_cons, List.length_nil, List.length_set, Nat.mul_one] <;> omega) | (simp [*] <;> omega)) (by first | exact m_all (fun _ => rfl) _ | rfl | (simp; done) | (simp only [List.all_cons, List.all_nil, oneB_buf, Bool.true_and, Bool.and_true]; rfl) | (simp [oneB]; done)) (by first | (simp only [List.length_map, List.length_replicate, List.length_cons, List.length_nil, List.length_set, Nat.mul_one] <;> omega) | (simp [*] <;> omega)) (by first | (refine wr_all ?_; simp only [List.length_map, List.length_replicate, List.length_cons, List.length_nil, List.length_set, Nat.mul_one] <;> omega) | (refine wr_all ?_; simp [*]; done) | exact m_wr _ _ _ | with_reducible rfl) (by repeat (first | exact Upd.head | apply Upd.tail | apply Upd.tailA)) ?_)
        refine ⟨fun h => absurd rfl h, ?_⟩
        refine DL.done (by kernel_rfl) (thenN ?_)
        refine ⟨b8, (trivial), ?_, ?_⟩
        · repeat (first | exact leE_nil | refine leE_cons rfl ?_)
        · exact (by repeat (first | exact List.Sublist.refl _ | (refine keepS ?_ ?_; with_reducible rfl) | (refine keepA ?_ ?_; with_reducible rfl) | (refine keepS ?_ ?_; rfl) | apply dropS | apply dropA))
    · refine OW.alloc zv51 rfl ?_
      intro b8
      refine ⟨fun _ p hp => by repeat (first | exact hp | refine List.mem_cons_of_mem _ ?_ | refine List.mem_append_right _ ?_), ?_⟩
      refine DL.one 2 (by kernel_rfl) rfl rfl (OW.call Tryz.call116 (ext2 rfl rfl) ((rPutLong_c [] shared (.slice none 0 0) _ hsh (.inl ⟨rfl, _, _, rfl⟩) (by simp)).mono ?_))
      rintro v S' ⟨oq, hoq, rfl, rfl⟩
      simp only [List.nil_append] at hoq ⊢
      obtain ⟨uq, rfl⟩ := hoq.some (by rw [longF_len]; decide)
      refine ⟨fun _ p hp => by repeat (first | exact hp | refine List.mem_cons_of_mem _ ?_ | refine List.mem_append_right _ ?_), ?_⟩
      refine DL.one 3 (by kernel_rfl) rfl rfl (OW.buildSlice1 Tryz.runUnderlying83 Tryz.sizeOf23 zv23 rfl rfl rfl ?_)
      intro b20
      refine ⟨fun _ p hp => by repeat (first | exact hp | refine List.mem_cons_of_mem _ ?_ | refine List.mem_append_right _ ?_), ?_⟩
      refine DL.one 4 (by kernel_rfl) rfl rfl (OW.call Tryz.call115 (ext2 rfl rfl) ((rMacOf_c id [longF shared] _ _ 0 1 [bufV (some uq) (longF shared).length] 23 (0, 0) _ (rdS_all (b := b4) (T := 51) (by repeat (first | exact List.mem_cons_self | exact List.mem_cons_of_mem _ (by assumption) | assumption | refine List.mem_cons_of_mem _ ?_ | refine List.mem_append_right _ ?_)) hid).1 (by omega) (by repeat (first | exact List.mem_cons_self | exact List.mem_cons_of_mem _ (by assumption) | assumption | refine List.mem_cons_of_mem _ ?_ | refine List.mem_append_right _ ?_)) (hpv1 (RdS.bufB hoq (fun p hp => by repeat (first | exact List.mem_append_left _ hp | refine List.mem_cons_of_mem _ ?_)))) (by rw [flat1, longF_len]; decide) (by simp)).mono ?_))
      rintro v S' ⟨rfl, rfl⟩
      rw [flat1, kmK_eq]
      refine ⟨fun _ p hp => by repeat (first | exact hp | refine List.mem_cons_of_mem _ ?_ | refine List.mem_append_right _ ?_), ?_⟩
      refine DL.one 6 (by kernel_rfl) rfl rfl (OW.storeN rfl rfl Tryz.sizeOf51 (by repeat (first | exact List.mem_cons_self | exact List.mem_cons_of_mem _ (by assumption) | assumption | refine List.mem_cons_of_mem _ ?_ | refine List.mem_append_right _ ?_)) (by first | (simp only [List.length_map, List.length_replicate, List.length_cons, List.length_nil, List.length_set, Nat.mul_one] <;> omega) | (simp [*] <;> omega)) (by first | exact m_all (fun _ => rfl) _ | rfl | (simp; done) | (simp only [List.all_cons, List.all_nil, oneB_buf, Bool.true_and, Bool.and_true]; rfl) | (simp [oneB]; done)) (by first | (simp only [List.length_map, List.length_replicate, List.length_cons, List.length_nil, List.length_set, Nat.mul_one] <;> omega) | (simp [*] <;> omega)) (by first | (refine wr_all ?_; simp only [List.length_map, List.length_replicate, List.length_cons, List.length_nil, List.length_set, Nat.mul_one] <;> omega) | (refine wr_all ?_; simp [*]; done) | exact m_wr _ _ _ | with_reducible rfl) (by repeat (first | exact Upd.head | apply Upd.tail | apply Upd.tailA)) ?_)
      refine ⟨fun h => absurd rfl h, ?_⟩
      refine DL.done (by kernel_rfl) (thenN ?_)
      refine ⟨b8, (trivial), ?_, ?_⟩
      · repeat (first | exact leE_nil | refine leE_cons rfl ?_)
      · exact (by repeat (first | exact List.Sublist.refl _ | (refine keepS ?_ ?_; with_reducible rfl) | (refine keepA ?_ ?_; with_reducible rfl) | (refine keepS ?_ ?_; rfl) | apply dropS | apply dropA))
  · intro b8 hI
    refine CW.seq ?_
    refine CW.region (by kernel_rfl) ?_
    refine RL.q rfl rfl (QW.assign rfl) ?_
    refine RL.q rfl rfl (QW.assign rfl) ?_
    refine RL.nil (thenN ?_)
    refine CW.seq ?_
    refine CW.seq ?_
    refine CW.region (by kernel_rfl) ?_
    refine RL.q rfl rfl (QW.assign rfl) ?_
    refine RL.nil (thenN ?_)
    refine CW.block ?_
    refine CW.loopT4 (α := Nat) (β := Option Buf) (γ := Value) (δ := HL) [(2, _), (6, _), (7, _), (8, _)] (by repeat (first | exact leE_nil | refine leE_cons rfl ?_)) (fun i o v10 X => i ≤ (n + 31) / 32 ∧ bufOk o (kmO (kmK shared id) i).length 1 ∧ RdS (X ++ (bufH o ((kmO (kmK shared id) i).map u8) 5 ++ ((b8, blk ((kmK shared id).map u8) 51) :: (b4, blk (id.map u8) 51) :: (b3, blk (shared.map u64) 49) :: S))) v10 (kmT (kmK shared id) i)) (fun i o v10 X r => (11, nI (i + 1)) :: (9, bufV o (kmO (kmK shared id) i).length) :: (10, v10) :: r) (fun i o v10 X => X ++ (bufH o ((kmO (kmK shared id) i).map u8) 5 ++ ((b8, blk ((kmK shared id).map u8) 51) :: (b4, blk (id.map u8) 51) :: (b3, blk (shared.map u64) 49) :: S))) (fun i o v10 X => (n + 31) / 32 - i) 0 none (.slice none 0 0) [] ⟨Nat.zero_le _, rfl, by rw [kmT_zero]; exact rdS_nil⟩ (by repeat (first | exact leE_nil | refine leE_cons (by first | rfl | (rfl)) ?_)) (by repeat (first | exact List.Sublist.refl _ | (refine keepS ?_ ?_; with_reducible rfl) | (refine keepA ?_ ?_; with_reducible rfl) | (refine keepS ?_ ?_; rfl) | apply dropS | apply dropA)) ?_
    intro i o v10 X ⟨hI, hbo, hv10⟩
    have hkl := kmO_len (kmK shared id) i
    obtain ⟨hv10r, a10, c10, rfl, hc10⟩ := hv10
    have hv10 : RdS (X ++ (bufH o ((kmO (kmK shared id) i).map u8) 5 ++ ((b8, blk ((kmK shared id).map u8) 51) :: (b4, blk (id.map u8) 51) :: (b3, blk (shared.map u64) 49) :: S))) (.slice a10 (kmT (kmK shared id) i).length c10) (kmT (kmK shared id) i) := ⟨hv10r, a10, c10, rfl, hc10⟩
    refine CW.seq ?_
    refine CW.seq ?_
    refine CW.region (by kernel_rfl) ?_
    refine RL.q rfl rfl (QW.move rfl) ?_
    refine RL.q rfl rfl (QW.len_buf hbo Tryz.runUnderlying23 rfl) ?_
    refine RL.q rfl rfl (QW.move rfl) ?_
    refine RL.q rfl rfl (QW.lss rfl rfl (dI_lt _ _)) ?_
    refine RL.nil (thenN ?_)
    refine CW.cond rfl (fun hc2 => ?_) (fun hc2 => ?_)
    · have hn : (kmO (kmK shared id) i).length < n := by simpa using hc2
      rw [hkl] at hn
      refine CW.skip (thenN ?_)
      refine CW.seq ?_
      refine CW.block ?_
      refine CW.seq ?_
      refine CW.region (by kernel_rfl) ?_
      refine RL.q rfl rfl (QW.sliceA0 Tryz.runUnderlying51 Tryz.sizeOf5 rfl optV_none optV_none (.inl rfl) (by first | omega | (dsimp only; omega)) (by first | omega | (dsimp only; omega))) ?_
      refine RL.q rfl rfl (QW.move rfl) ?_
      refine RL.cons rfl (OW.buildSliceP (cells := [_, _, _, _]) Tryz.runUnderlying23 Tryz.sizeOf5 zv5 rfl (by decide) (by decide) (parts4 rfl rfl rfl rfl) rfl ?_)
      intro b30
      refine RL.cons rfl (OW.convMark Tryz.runUnderlying23 Tryz.runUnderlying5 rfl (by repeat (first | exact List.mem_cons_self | exact List.mem_cons_of_mem _ (by assumption) | assumption | refine List.mem_cons_of_mem _ ?_ | refine List.mem_append_right _ ?_)) (by repeat (first | exact Upd.head | apply Upd.tail | apply Upd.tailA)) ?_)
      refine RL.q rfl rfl (QW.move rfl) ?_
      refine RL.q rfl rfl (QW.conv Tryz.runUnderlying3 Tryz.runUnderlying5 rfl (w8_nat _)) ?_
      refine RL.cons rfl (OW.buildSlice1 Tryz.runUnderlying23 Tryz.sizeOf5 zv5 rfl rfl rfl ?_)
      intro b34
      refine RL.cons rfl (OW.buildSliceP (cells := [_, _, _]) Tryz.runUnderlying83 Tryz.sizeOf23 zv23 rfl (by decide) (by decide) (parts3 rfl rfl rfl) rfl ?_)
      intro b35
      refine RL.cons rfl (OW.call Tryz.call115 (ext2 rfl rfl) ((rMacOf_c (kmK shared id) [kmT (kmK shared id) i, laneB, [UInt8.ofNat (i + 1)]] _ _ 0 3 [.slice a10 (kmT (kmK shared id) i).length c10, sl b30 0 4 4, sl b34 0 1 1] 23 (0, 0) _ (rdS_all (b := b8) (T := 51) (by repeat (first | exact List.mem_cons_self | exact List.mem_cons_of_mem _ (by assumption) | assumption | refine List.mem_cons_of_mem _ ?_ | refine List.mem_append_right _ ?_)) hkk).1 (by omega) List.mem_cons_self (kp3 (hv10.mono (fun p hp => by repeat (first | exact hp | refine List.mem_cons_of_mem _ ?_))) (rdM_all (bs := laneB) (T := 5) (List.mem_cons_of_mem _ (List.mem_cons_of_mem _ List.mem_cons_self)) rfl) (rdS_all (bs := [UInt8.ofNat (i + 1)]) (T := 5) (List.mem_cons_of_mem _ List.mem_cons_self) rfl)) (by have := kmT_le (kmK shared id) i; rw [flat3]; simp [laneB]; omega) (by simp)).mono ?_))
      rintro v S' ⟨rfl, rfl⟩
      rw [flat3, kmT_succ]
      have ht := kmT_len (kmK shared id) i
      refine RL.cons rfl (OW.alloc zv51 rfl ?_)
      intro b12
      refine RL.cons rfl (OW.storeN rfl rfl Tryz.sizeOf51 (by repeat (first | exact List.mem_cons_self | exact List.mem_cons_of_mem _ (by assumption) | assumption | refine List.mem_cons_of_mem _ ?_ | refine List.mem_append_right _ ?_)) (by first | (simp only [List.length_map, List.length_replicate, List.length_cons, List.length_nil, List.length_set, Nat.mul_one] <;> omega) | (simp [*] <;> omega)) (by first | exact m_all (fun _ => rfl) _ | rfl | (simp; done) | (simp only [List.all_cons, List.all_nil, oneB_buf, Bool.true_and, Bool.and_true]; rfl) | (simp [oneB]; done)) (by first | (simp only [List.length_map, List.length_replicate, List.length_cons, List.length_nil, List.length_set, Nat.mul_one] <;> omega) | (simp [*] <;> omega)) (by first | (refine wr_all ?_; simp only [List.length_map, List.length_replicate, List.length_cons, List.length_nil, List.length_set, Nat.mul_one] <;> omega) | (refine wr_all ?_; simp [*]; done) | exact m_wr _ _ _ | with_reducible rfl) (by repeat (first | exact Upd.head | apply Upd.tail | apply Upd.tailA)) ?_)
      refine RL.nil (thenN ?_)
      refine CW.seq ?_
      refine CW.region (by kernel_rfl) ?_
      refine RL.q rfl rfl (QW.sliceA0 Tryz.runUnderlying51 Tryz.sizeOf5 rfl optV_none optV_none (.inl rfl) (by first | omega | (dsimp only; omega)) (by first | omega | (dsimp only; omega))) ?_
      refine RL.cons rfl (OW.appB0 (ys := kmT (kmK shared id) (i + 1)) Tryz.runUnderlying23 Tryz.runUnderlying23 (.inl ⟨_, rfl⟩) Tryz.typeInfo5 Tryz.sizeOf5 zv5 rfl rfl rfl (Src.rds (rdS_all (bs := kmT (kmK shared id) (i + 1)) (b := b12) (T := 51) List.mem_cons_self ht).1 ht) ht (by omega) ?_)
      intro o2 hbo2
      rw [ht] at hbo2
      refine RL.q rfl rfl (QW.assign rfl) ?_
      refine RL.nil (thenN ?_)
      refine CW.region (by kernel_rfl) ?_
      refine RL.q rfl rfl (QW.move rfl) ?_
      refine RL.q rfl rfl (QW.move rfl) ?_
      refine RL.cons rfl (OW.appB (ys := kmT (kmK shared id) (i + 1)) (xs := (kmO (kmK shared id) i)) Tryz.runUnderlying23 Tryz.runUnderlying23 (.inl ⟨_, rfl⟩) Tryz.typeInfo5 Tryz.sizeOf5 zv5 rfl rfl (by repeat (first | exact SegF.here | apply SegF.there | apply SegF.thereA)) hbo rfl (by rw [ht]; exact Src.rds (RdB.bufm ht hbo2 (fun p hp => List.mem_append_left _ hp)) ht) ht (by omega) ?_)
      intro o' hbo3
      refine RL.q rfl rfl (QW.assign rfl) ?_
      refine RL.nil (blockN (thenN ?_))
      refine CW.region (by kernel_rfl) ?_
      refine RL.q rfl rfl (QW.move rfl) ?_
      refine RL.q rfl rfl (QW.add rfl rfl (wI_add (a := _) (b := 1) (by omega))) ?_
      refine RL.q rfl rfl (QW.assign rfl) ?_
      refine RL.nil (thenN ?_)
      refine ⟨i + 1, o', bufV o2 (kmT (kmK shared id) (i + 1)).length, bufH o2 ((kmT (kmK shared id) (i + 1)).map u8) 5, (⟨by omega, hbo3, RdS.bufB (by rw [ht]; exact hbo2) (fun p hp => List.mem_append_left _ hp)⟩), (by omega), ?_, ?_⟩
      · repeat (first | exact leE_nil | refine leE_cons (by first | rfl | (rw [ht])) ?_)
      · exact (by repeat (first | exact List.Sublist.refl _ | (refine keepS ?_ ?_; with_reducible rfl) | (refine keepA ?_ ?_; with_reducible rfl) | (refine keepS ?_ ?_; rfl) | apply dropS | apply dropA))
    · have hn : ¬ (kmO (kmK shared id) i).length < n := by simpa using hc2
      rw [hkl] at hn
      have hi : i = (n + 31) / 32 := by omega
      subst hi
      refine CW.exit (thenX (thenX (blockX (thenN ?_))))
      refine CW.seq ?_
      refine CW.region (by kernel_rfl) ?_
      refine RL.q rfl rfl (QW.move rfl) ?_
      refine RL.q rfl rfl (QW.move rfl) ?_
      refine RL.q rfl rfl (QW.sliceBuf (h := n) hbo (by omega) Tryz.runUnderlying23 Tryz.sizeOf5 rfl rfl) ?_
      refine RL.q rfl rfl (QW.assign rfl) ?_
      refine RL.q rfl rfl (QW.assign rfl) ?_
      refine RL.nil (thenN ?_)
      refine CW.ret (retR (bufH o ((kmO (kmK shared id) ((n + 31) / 32)).map u8) 5 ++ S) (ResOk.two Tryz.results18 (ResV.tmp rfl) (ResV.tmp rfl)) (by repeat (first | exact List.Sublist.refl _ | (refine keepS ?_ ?_; with_reducible rfl) | (refine keepA ?_ ?_; with_reducible rfl) | (refine keepS ?_ ?_; rfl) | apply dropS | apply dropA)) ?_)
      refine ⟨o, ((kmO (kmK shared id) ((n + 31) / 32)).drop n).map u8, rfl, ?_, ?_⟩
      · rintro rfl; have h0 : (kmO (kmK shared id) ((n + 31) / 32)).length = 0 := hbo; omega
      · rw [kmF, ← List.map_append, List.take_append_drop]

set_option maxRecDepth 100000 in
set_option maxHeartbeats 1000000 in
theorem KOfN_c (shared : List UInt64) (id : List UInt8) (z : Int) (S : HL) (hz : z < 0) : CallS Tryz.prog 17 ⟨[.agg ⟨shared.map u64⟩, .agg ⟨id.map u8⟩, .int .i64 z]⟩ S fun v S' => v = .tuple #[.slice none 0 0, nI 1] ∧ S = S' := by
  refine CallS.enter Tryz.func17 rfl Tryz.ntmps17 (by simp) ?_
  refine CW.seq ?_
  refine CW.region (by kernel_rfl) ?_
  refine RL.cons rfl (OW.boxN rfl ?_)
  intro b3
  refine RL.cons rfl (OW.boxN rfl ?_)
  intro b4
  refine RL.q rfl rfl (QW.assign rfl) ?_
  refine RL.q rfl rfl (QW.assign rfl) ?_
  refine RL.nil (thenN ?_)
  refine CW.seq ?_
  refine CW.block ?_
  refine CW.seq ?_
  refine CW.region (by kernel_rfl) ?_
  refine RL.q rfl rfl (QW.move rfl) ?_
  refine RL.q rfl rfl (QW.lss (t := true) rfl rfl (by simpa using hz)) ?_
  refine RL.q rfl rfl (QW.assign rfl) ?_
  refine RL.nil (thenN ?_)
  refine CW.cond_true rfl ?_
  refine CW.seq ?_
  refine CW.region (by kernel_rfl) ?_
  refine RL.q rfl rfl (QW.assign rfl) ?_
  refine RL.q rfl rfl (QW.assign rfl) ?_
  refine RL.nil (thenN ?_)
  refine CW.ret (blockR (thenR (retR (S) (ResOk.two Tryz.results17 (ResV.tmp rfl) (ResV.tmp rfl)) (by repeat (first | exact List.Sublist.refl _ | (refine keepS ?_ ?_; with_reducible rfl) | (refine keepA ?_ ?_; with_reducible rfl) | (refine keepS ?_ ?_; rfl) | apply dropS | apply dropA)) ?_)))
  exact ⟨rfl, rfl⟩

set_option maxRecDepth 100000 in
set_option maxHeartbeats 1000000 in
theorem KOfG_c (shared : List UInt64) (id : List UInt8) (z : Int) (S : HL) (hz : 8160 < z) : CallS Tryz.prog 17 ⟨[.agg ⟨shared.map u64⟩, .agg ⟨id.map u8⟩, .int .i64 z]⟩ S fun v S' => v = .tuple #[.slice none 0 0, nI 3] ∧ S = S' := by
  refine CallS.enter Tryz.func17 rfl Tryz.ntmps17 (by simp) ?_
  refine CW.seq ?_
  refine CW.region (by kernel_rfl) ?_
  refine RL.cons rfl (OW.boxN rfl ?_)
  intro b3
  refine RL.cons rfl (OW.boxN rfl ?_)
  intro b4
  refine RL.q rfl rfl (QW.assign rfl) ?_
  refine RL.q rfl rfl (QW.assign rfl) ?_
  refine RL.nil (thenN ?_)
  refine CW.seq ?_
  refine CW.block ?_
  refine CW.seq ?_
  refine CW.region (by kernel_rfl) ?_
  refine RL.q rfl rfl (QW.move rfl) ?_
  refine RL.q rfl rfl (QW.lss (t := false) rfl rfl (by simp; omega)) ?_
  refine RL.q rfl rfl (QW.assign rfl) ?_
  refine RL.nil (thenN ?_)
  refine CW.cond_false rfl ?_
  refine CW.seq ?_
  refine CW.region (by kernel_rfl) ?_
  refine RL.q rfl rfl (QW.move rfl) ?_
  refine RL.q rfl rfl (QW.gtr (t := true) rfl rfl (by simp; omega)) ?_
  refine RL.q rfl rfl (QW.assign rfl) ?_
  refine RL.nil (thenN ?_)
  refine CW.cond_true rfl ?_
  refine CW.seq ?_
  refine CW.region (by kernel_rfl) ?_
  refine RL.q rfl rfl (QW.assign rfl) ?_
  refine RL.q rfl rfl (QW.assign rfl) ?_
  refine RL.nil (thenN ?_)
  refine CW.ret (blockR (thenR (retR (S) (ResOk.two Tryz.results17 (ResV.tmp rfl) (ResV.tmp rfl)) (by repeat (first | exact List.Sublist.refl _ | (refine keepS ?_ ?_; with_reducible rfl) | (refine keepA ?_ ?_; with_reducible rfl) | (refine keepS ?_ ?_; rfl) | apply dropS | apply dropA)) ?_)))
  exact ⟨rfl, rfl⟩

set_option maxRecDepth 100000 in
set_option maxHeartbeats 1000000 in
theorem rKOfN_c (shared : List UInt64) (id : List UInt8) (z : Int) (S : HL) (hz : z < 0) : CallS Tryz.prog 18 ⟨[.agg ⟨shared.map u64⟩, .agg ⟨id.map u8⟩, .int .i64 z]⟩ S fun v S' => v = .tuple #[.slice none 0 0, nI 1] ∧ S = S' := by
  refine CallS.enter Tryz.func18 rfl Tryz.ntmps18 (by simp) ?_
  refine CW.seq ?_
  refine CW.region (by kernel_rfl) ?_
  refine RL.cons rfl (OW.boxN rfl ?_)
  intro b3
  refine RL.cons rfl (OW.boxN rfl ?_)
  intro b4
  refine RL.q rfl rfl (QW.assign rfl) ?_
  refine RL.q rfl rfl (QW.assign rfl) ?_
  refine RL.nil (thenN ?_)
  refine CW.seq ?_
  refine CW.seq ?_
  refine CW.region (by kernel_rfl) ?_
  refine RL.q rfl rfl (QW.move rfl) ?_
  refine RL.q rfl rfl (QW.lss (t := true) rfl rfl (by simpa using hz)) ?_
  refine RL.nil (thenN ?_)
  refine CW.cond_true rfl ?_
  refine CW.seq ?_
  refine CW.region (by kernel_rfl) ?_
  refine RL.q rfl rfl (QW.assign rfl) ?_
  refine RL.q rfl rfl (QW.assign rfl) ?_
  refine RL.nil (thenN ?_)
  refine CW.ret (thenR (retR (S) (ResOk.two Tryz.results18 (ResV.tmp rfl) (ResV.tmp rfl)) (by repeat (first | exact List.Sublist.refl _ | (refine keepS ?_ ?_; with_reducible rfl) | (refine keepA ?_ ?_; with_reducible rfl) | (refine keepS ?_ ?_; rfl) | apply dropS | apply dropA)) ?_))
  exact ⟨rfl, rfl⟩

set_option maxRecDepth 100000 in
set_option maxHeartbeats 1000000 in
theorem rKOfG_c (shared : List UInt64) (id : List UInt8) (z : Int) (S : HL) (hz : 8160 < z) : CallS Tryz.prog 18 ⟨[.agg ⟨shared.map u64⟩, .agg ⟨id.map u8⟩, .int .i64 z]⟩ S fun v S' => v = .tuple #[.slice none 0 0, nI 3] ∧ S = S' := by
  refine CallS.enter Tryz.func18 rfl Tryz.ntmps18 (by simp) ?_
  refine CW.seq ?_
  refine CW.region (by kernel_rfl) ?_
  refine RL.cons rfl (OW.boxN rfl ?_)
  intro b3
  refine RL.cons rfl (OW.boxN rfl ?_)
  intro b4
  refine RL.q rfl rfl (QW.assign rfl) ?_
  refine RL.q rfl rfl (QW.assign rfl) ?_
  refine RL.nil (thenN ?_)
  refine CW.seq ?_
  refine CW.seq ?_
  refine CW.region (by kernel_rfl) ?_
  refine RL.q rfl rfl (QW.move rfl) ?_
  refine RL.q rfl rfl (QW.lss (t := false) rfl rfl (by simp; omega)) ?_
  refine RL.nil (thenN ?_)
  refine CW.cond_false rfl ?_
  refine CW.skip (thenN ?_)
  refine CW.seq ?_
  refine CW.seq ?_
  refine CW.region (by kernel_rfl) ?_
  refine RL.q rfl rfl (QW.move rfl) ?_
  refine RL.q rfl rfl (QW.gtr (t := true) rfl rfl (by simp; omega)) ?_
  refine RL.nil (thenN ?_)
  refine CW.cond_true rfl ?_
  refine CW.seq ?_
  refine CW.region (by kernel_rfl) ?_
  refine RL.q rfl rfl (QW.assign rfl) ?_
  refine RL.q rfl rfl (QW.assign rfl) ?_
  refine RL.nil (thenN ?_)
  refine CW.ret (thenR (retR (S) (ResOk.two Tryz.results18 (ResV.tmp rfl) (ResV.tmp rfl)) (by repeat (first | exact List.Sublist.refl _ | (refine keepS ?_ ?_; with_reducible rfl) | (refine keepA ?_ ?_; with_reducible rfl) | (refine keepS ?_ ?_; rfl) | apply dropS | apply dropA)) ?_))
  exact ⟨rfl, rfl⟩

end Go.Sl
