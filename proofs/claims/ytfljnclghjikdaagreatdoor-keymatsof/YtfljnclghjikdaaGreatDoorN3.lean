/- A part of a proof: C1, N1, N2, N3. -/
import Derived.Test.YtfljnclghjikdaaGreatDoorProg
import Derived.Test.YtfljnclghjikdaaGreatDoorEngL
import Derived.Test.YtfljnclghjikdaaGreatDoorEngU
set_option linter.unusedVariables false
set_option linter.unusedSimpArgs false
namespace Go.Sl
open Go.Proofs
theorem mixed : Tryz.prog.follows .mixedOrders = true := by kernel_rfl

def twiceF (b : UInt8) : UInt8 := if shr8 b 7 = 1 then shl8 b 1 ^^^ 27 else shl8 b 1
def placeF (i : Nat) : Nat := (i + 4 * (i % 4)) % 16
def xorTo (x y : List UInt8) : Nat → List UInt8
  | 0 => x
  | k + 1 => (xorTo x y k).set k ((xorTo x y k).getD k 0 ^^^ y.getD k 0)
@[simp] theorem xorTo_len (x y : List UInt8) (k : Nat) : (xorTo x y k).length = x.length := by
  induction k with
  | zero => rfl
  | succ k ih => simp [xorTo, ih]
def againstF (x y : List UInt8) : List UInt8 := xorTo x y 16
@[simp] theorem againstF_len (x y : List UInt8) : (againstF x y).length = x.length := xorTo_len x y 16
def mixStep (all : UInt8) (k : Nat) (b : List UInt8) (i : Nat) (next : UInt8) : List UInt8 :=
  b.set (k + i) (b.getD (k + i) 0 ^^^ (all ^^^ twiceF (b.getD (k + i) 0 ^^^ next)))
def mixIn (all first : UInt8) (k : Nat) (b : List UInt8) : Nat → List UInt8
  | 0 => b
  | i + 1 => mixStep all k (mixIn all first k b i) i (if i < 3 then (mixIn all first k b i).getD (k + i + 1) 0 else first)
@[simp] theorem mixIn_len (all first : UInt8) (k : Nat) (b : List UInt8) (i : Nat) : (mixIn all first k b i).length = b.length := by
  induction i with
  | zero => rfl
  | succ i ih => simp [mixIn, mixStep, ih]
def mixAll (b : List UInt8) (k : Nat) : UInt8 := b.getD k 0 ^^^ b.getD (k + 1) 0 ^^^ b.getD (k + 2) 0 ^^^ b.getD (k + 3) 0
def mixTo (b : List UInt8) : Nat → List UInt8
  | 0 => b
  | j + 1 => mixIn (mixAll (mixTo b j) (4 * j)) ((mixTo b j).getD (4 * j) 0) (4 * j) (mixTo b j) 4
@[simp] theorem mixTo_len (b : List UInt8) (j : Nat) : (mixTo b j).length = b.length := by
  induction j with
  | zero => rfl
  | succ j ih => simp [mixTo, mixIn_len, ih]
def mixedF (b : List UInt8) : List UInt8 := mixTo b 4
@[simp] theorem mixedF_len (b : List UInt8) : (mixedF b).length = b.length := mixTo_len b 4
theorem placeF_lt (i : Nat) : placeF i < 16 := Nat.mod_lt _ (by omega)
attribute [irreducible] againstF mixedF placeF

theorem zv22 : ZV Tryz.prog 22 (.agg ⟨((List.replicate 16 0).map u8)⟩) := fun _ => by kernel_rfl
set_option maxRecDepth 100000 in
theorem twice_c (b : UInt8) (S : HL) : CallS Tryz.prog 166 ⟨[u8 b]⟩ S fun v S' => v = u8 (twiceF b) ∧ S = S' := by
  refine CallS.enter Tryz.func166 rfl Tryz.ntmps166 (by simp) ?_
  refine CW.seq ?_
  refine CW.region (by kernel_rfl) ?_
  refine RL.q rfl rfl (QW.assign rfl) ?_
  refine RL.nil (thenN ?_)
  refine CW.seq ?_
  refine CW.seq ?_
  refine CW.region (by kernel_rfl) ?_
  refine RL.q rfl rfl (QW.move rfl) ?_
  refine RL.q rfl rfl (QW.shr rfl rfl (by omega) (h8_shr _ 7)) ?_
  refine RL.q rfl rfl (QW.eql rfl rfl (d8_eq _ 1)) ?_
  refine RL.nil (thenN ?_)
  refine CW.cond rfl (fun hc0 => ?_) (fun hc0 => ?_)
  · refine CW.seq ?_
    refine CW.region (by kernel_rfl) ?_
    refine RL.q rfl rfl (QW.move rfl) ?_
    refine RL.q rfl rfl (QW.shl rfl rfl (by omega) (h8_shl _ 1)) ?_
    refine RL.q rfl rfl (QW.xor_ rfl rfl (x8_xor _ 27)) ?_
    refine RL.q rfl rfl (QW.assign rfl) ?_
    refine RL.nil (thenN ?_)
    refine CW.ret (thenR (retR (S) (ResOk.one Tryz.results166 (ResV.tmp rfl)) (by repeat (first | exact List.Sublist.refl _ | (refine keepS ?_ ?_; with_reducible rfl) | (refine keepA ?_ ?_; with_reducible rfl) | (refine keepS ?_ ?_; rfl) | apply dropS | apply dropA)) ?_))
    exact ⟨by simp at hc0; simp [twiceF, hc0], rfl⟩
  · refine CW.skip (thenN ?_)
    refine CW.seq ?_
    refine CW.region (by kernel_rfl) ?_
    refine RL.q rfl rfl (QW.move rfl) ?_
    refine RL.q rfl rfl (QW.shl rfl rfl (by omega) (h8_shl _ 1)) ?_
    refine RL.q rfl rfl (QW.assign rfl) ?_
    refine RL.nil (thenN ?_)
    refine CW.ret (retR (S) (ResOk.one Tryz.results166 (ResV.tmp rfl)) (by repeat (first | exact List.Sublist.refl _ | (refine keepS ?_ ?_; with_reducible rfl) | (refine keepA ?_ ?_; with_reducible rfl) | (refine keepS ?_ ?_; rfl) | apply dropS | apply dropA)) ?_)
    exact ⟨by simp at hc0; simp [twiceF, hc0], rfl⟩

set_option maxRecDepth 100000 in
theorem place_c (i : Nat) (S : HL) (hi : i < 16) : CallS Tryz.prog 168 ⟨[nI i]⟩ S fun v S' => v = nI (placeF i) ∧ S = S' := by
  refine CallS.enter Tryz.func168 rfl Tryz.ntmps168 (by simp) ?_
  refine CW.seq ?_
  refine CW.region (by kernel_rfl) ?_
  refine RL.q rfl rfl (QW.assign rfl) ?_
  refine RL.nil (thenN ?_)
  refine CW.seq ?_
  refine CW.region (by kernel_rfl) ?_
  refine RL.q rfl rfl (QW.move rfl) ?_
  refine RL.q rfl rfl (QW.move rfl) ?_
  refine RL.q rfl rfl (QW.rem rfl rfl (by omega) (tI_rem _ 4)) ?_
  refine RL.q rfl rfl (QW.mul rfl rfl (wI_mul (a := 4) (b := _) (by omega))) ?_
  refine RL.q rfl rfl (QW.add rfl rfl (wI_add (a := _) (b := _) (by omega))) ?_
  refine RL.q rfl rfl (QW.rem rfl rfl (by omega) (tI_rem _ 16)) ?_
  refine RL.q rfl rfl (QW.assign rfl) ?_
  refine RL.nil (thenN ?_)
  refine CW.ret (retR (S) (ResOk.one Tryz.results168 (ResV.tmp rfl)) (by repeat (first | exact List.Sublist.refl _ | (refine keepS ?_ ?_; with_reducible rfl) | (refine keepA ?_ ?_; with_reducible rfl) | (refine keepS ?_ ?_; rfl) | apply dropS | apply dropA)) ?_)
  exact ⟨by unfold placeF; rfl, rfl⟩

set_option maxRecDepth 100000 in
theorem against_c (x y : List UInt8) (S : HL) (hx : x.length = 16) (hy : y.length = 16) : CallS Tryz.prog 167 ⟨[.agg ⟨x.map u8⟩, .agg ⟨y.map u8⟩]⟩ S fun v S' => v = .agg ⟨(againstF x y).map u8⟩ ∧ S = S' := by
  refine CallS.enter Tryz.func167 rfl Tryz.ntmps167 (by simp) ?_
  refine CW.seq ?_
  refine CW.region (by kernel_rfl) ?_
  refine RL.cons rfl (OW.boxN rfl ?_)
  intro b2
  refine RL.cons rfl (OW.boxN rfl ?_)
  intro b3
  refine RL.cons rfl (OW.alloc zv22 rfl ?_)
  intro b4
  refine RL.nil (thenN ?_)
  refine CW.seq ?_
  refine CW.seq ?_
  refine CW.region (by kernel_rfl) ?_
  refine RL.q rfl rfl (QW.move rfl) ?_
  refine RL.nil (thenN ?_)
  refine CW.block ?_
  refine CW.loopT (ι := Nat) [(2, _), (3, _), (4, _)] (by repeat (first | exact leE_nil | refine leE_cons rfl ?_)) (fun k => k ≤ 16) (fun k r => (6, nI k) :: r) (fun k => (b4, blk ((List.replicate 16 0).map u8) 22) :: (b3, blk (y.map u8) 22) :: (b2, blk ((xorTo x y k).map u8) 22) :: S) (fun k => 16 - k) 0 (by omega) (by repeat (first | exact leE_nil | refine leE_cons (by first | rfl | (rfl)) ?_)) (by repeat (first | exact List.Sublist.refl _ | (refine keepS ?_ ?_; with_reducible rfl) | (refine keepA ?_ ?_; with_reducible rfl) | (refine keepS ?_ ?_; rfl) | apply dropS | apply dropA)) ?_
  intro k hI
  have hl := xorTo_len x y k
  refine CW.seq ?_
  refine CW.region (by kernel_rfl) ?_
  refine RL.q rfl rfl (QW.lss rfl rfl (dI_lt _ 16)) ?_
  refine RL.nil (thenN ?_)
  refine CW.seq ?_
  refine CW.cond rfl (fun hc0 => ?_) (fun hc0 => ?_)
  · have hk : k < 16 := by simpa using hc0
    refine CW.skip (thenN ?_)
    refine CW.seq ?_
    refine CW.block ?_
    refine CW.seq ?_
    refine CW.region (by kernel_rfl) ?_
    refine RL.q rfl rfl (QW.move rfl) ?_
    refine RL.q rfl rfl (QW.assign rfl) ?_
    refine RL.nil (thenN ?_)
    refine CW.drawnS 8 (by rw [mixed]; rfl) (by kernel_rfl) (by kernel_rfl) (by kernel_rfl) (fun _ _ _ h => h) ?_
    refine DL.take 0 rfl (by kernel_rfl) (by kernel_rfl) (by kernel_rfl) rfl rfl (QW.move rfl) (by intro p hp; repeat (first | exact hp | refine List.mem_cons_of_mem _ ?_)) ?_
    refine DL.take 1 rfl (by kernel_rfl) (by kernel_rfl) (by kernel_rfl) rfl rfl (QW.indexAddrA Tryz.runUnderlying22 Tryz.sizeOf5 rfl rfl (by omega) (by first | omega | exact lt8 _) (by first | exact ix01 _ | exact ixb1 _ _ | exact ix0m _ _ | exact ixbm _ _ _)) (by intro p hp; repeat (first | exact hp | refine List.mem_cons_of_mem _ ?_)) ?_
    refine DL.take 2 rfl (by kernel_rfl) (by kernel_rfl) (by kernel_rfl) rfl rfl (QW.load1 rfl Tryz.isAgg5 (by repeat (first | exact List.mem_cons_self | exact List.mem_cons_of_mem _ (by assumption) | assumption | refine List.mem_cons_of_mem _ ?_ | refine List.mem_append_right _ ?_)) (by first | (refine m_get 0 ?_; omega) | (refine m_get 0 ?_; simp only [*]; omega) | (refine m_get 0 ?_; simp only [List.length_set]; omega) | (refine m_get 0 (lt8L ?_); omega) | (refine m_get 0 (lt8B ?_); omega) | rfl)) (by intro p hp; repeat (first | exact hp | refine List.mem_cons_of_mem _ ?_)) ?_
    refine DL.take 3 rfl (by kernel_rfl) (by kernel_rfl) (by kernel_rfl) rfl rfl (QW.move rfl) (by intro p hp; repeat (first | exact hp | refine List.mem_cons_of_mem _ ?_)) ?_
    refine DL.take 4 rfl (by kernel_rfl) (by kernel_rfl) (by kernel_rfl) rfl rfl (QW.indexAddrA Tryz.runUnderlying22 Tryz.sizeOf5 rfl rfl (by omega) (by first | omega | exact lt8 _) (by first | exact ix01 _ | exact ixb1 _ _ | exact ix0m _ _ | exact ixbm _ _ _)) (by intro p hp; repeat (first | exact hp | refine List.mem_cons_of_mem _ ?_)) ?_
    refine DL.take 5 rfl (by kernel_rfl) (by kernel_rfl) (by kernel_rfl) rfl rfl (QW.load1 rfl Tryz.isAgg5 (by repeat (first | exact List.mem_cons_self | exact List.mem_cons_of_mem _ (by assumption) | assumption | refine List.mem_cons_of_mem _ ?_ | refine List.mem_append_right _ ?_)) (by first | (refine m_get 0 ?_; omega) | (refine m_get 0 ?_; simp only [*]; omega) | (refine m_get 0 ?_; simp only [List.length_set]; omega) | (refine m_get 0 (lt8L ?_); omega) | (refine m_get 0 (lt8B ?_); omega) | rfl)) (by intro p hp; repeat (first | exact hp | refine List.mem_cons_of_mem _ ?_)) ?_
    refine DL.take 6 rfl (by kernel_rfl) (by kernel_rfl) (by kernel_rfl) rfl rfl (QW.xor_ rfl rfl (x8_xor _ _)) (by intro p hp; repeat (first | exact hp | refine List.mem_cons_of_mem _ ?_)) ?_
    refine DL.take 7 rfl (by kernel_rfl) (by kernel_rfl) (by kernel_rfl) rfl rfl (QW.indexAddrA Tryz.runUnderlying22 Tryz.sizeOf5 rfl rfl (by omega) (by first | omega | exact lt8 _) (by first | exact ix01 _ | exact ixb1 _ _ | exact ix0m _ _ | exact ixbm _ _ _)) (by intro p hp; repeat (first | exact hp | refine List.mem_cons_of_mem _ ?_)) ?_
    refine DL.one 8 (by kernel_rfl) rfl rfl (OW.store1 rfl rfl Tryz.sizeOf5 rfl (by repeat (first | exact List.mem_cons_self | exact List.mem_cons_of_mem _ (by assumption) | assumption | refine List.mem_cons_of_mem _ ?_ | refine List.mem_append_right _ ?_)) (by first | (simp only [List.length_map, List.length_replicate, List.length_cons, List.length_nil, List.length_set, Nat.mul_one] <;> omega) | (rw [List.length_map]; refine lt8B ?_; simp [*]; done) | (rw [List.length_map]; refine lt8L ?_; simp [*]; done) | (simp [*] <;> omega)) (by first | exact m_set _ _ _ | rfl) (by repeat (first | exact Upd.head | apply Upd.tail | apply Upd.tailA)) ?_)
    refine ⟨fun h => absurd rfl h, ?_⟩
    refine DL.done (by kernel_rfl) (blockN (thenN ?_))
    refine CW.region (by kernel_rfl) ?_
    refine RL.q rfl rfl (QW.add rfl rfl (wI_add (a := _) (b := 1) (by omega))) ?_
    refine RL.q rfl rfl (QW.move rfl) ?_
    refine RL.nil (thenN ?_)
    refine ⟨k + 1, (by omega), (by omega), ?_, ?_⟩
    · repeat (first | exact leE_nil | refine leE_cons rfl ?_)
    · exact List.Sublist.refl _
  · have hk : k = 16 := by simp at hc0; omega
    subst hk
    refine CW.exit (thenX (thenX (blockX (thenN ?_))))
    refine CW.seq ?_
    refine CW.region (by kernel_rfl) ?_
    refine RL.q rfl rfl (QW.loadN rfl Tryz.isAgg22 Tryz.sizeOf22 (by repeat (first | exact List.mem_cons_self | exact List.mem_cons_of_mem _ (by assumption) | assumption | refine List.mem_cons_of_mem _ ?_ | refine List.mem_append_right _ ?_)) (by first | (simp only [List.length_map, List.length_replicate, List.length_cons, List.length_nil, List.length_set, Nat.mul_one] <;> omega) | (simp [*] <;> omega)) (by first | (refine m_all_of _ _ ?_; omega) | (refine m_all_of _ _ ?_; simp [*]; done) | exact m_cut _ _ _ | with_reducible rfl)) ?_
    refine RL.cons rfl (OW.storeN rfl rfl Tryz.sizeOf22 (by repeat (first | exact List.mem_cons_self | exact List.mem_cons_of_mem _ (by assumption) | assumption | refine List.mem_cons_of_mem _ ?_ | refine List.mem_append_right _ ?_)) (by first | (simp only [List.length_map, List.length_replicate, List.length_cons, List.length_nil, List.length_set, Nat.mul_one] <;> omega) | (simp [*] <;> omega)) (by first | exact m_all (fun _ => rfl) _ | rfl | (simp; done) | (simp only [List.all_cons, List.all_nil, oneB_buf, Bool.true_and, Bool.and_true]; rfl) | (simp [oneB]; done)) (by first | (simp only [List.length_map, List.length_replicate, List.length_cons, List.length_nil, List.length_set, Nat.mul_one] <;> omega) | (simp [*] <;> omega)) (by first | (refine wr_all ?_; simp only [List.length_map, List.length_replicate, List.length_cons, List.length_nil, List.length_set, Nat.mul_one] <;> omega) | (refine wr_all ?_; simp [*]; done) | exact m_wr _ _ _ | with_reducible rfl) (by repeat (first | exact Upd.head | apply Upd.tail | apply Upd.tailA)) ?_)
    refine RL.nil (thenN ?_)
    refine CW.ret (retR (S) (ResOk.one Tryz.results167 (ResV.cellN rfl Tryz.isAgg22 Tryz.sizeOf22 (by repeat (first | exact List.mem_cons_self | exact List.mem_cons_of_mem _ (by assumption) | assumption | refine List.mem_cons_of_mem _ ?_ | refine List.mem_append_right _ ?_)) (by first | (simp only [List.length_map, List.length_replicate, List.length_cons, List.length_nil, List.length_set, Nat.mul_one] <;> omega) | (simp [*] <;> omega)) (by first | (refine m_all_of _ _ ?_; omega) | (refine m_all_of _ _ ?_; simp [*]; done) | exact m_cut _ _ _ | with_reducible rfl))) (by repeat (first | exact List.Sublist.refl _ | (refine keepS ?_ ?_; with_reducible rfl) | (refine keepA ?_ ?_; with_reducible rfl) | (refine keepS ?_ ?_; rfl) | apply dropS | apply dropA)) ?_)
    exact ⟨by unfold againstF; rfl, rfl⟩

set_option maxRecDepth 100000 in
theorem mixed_c (b : List UInt8) (S : HL) (hb : b.length = 16) : CallS Tryz.prog 169 ⟨[.agg ⟨b.map u8⟩]⟩ S fun v S' => v = .agg ⟨(mixedF b).map u8⟩ ∧ S = S' := by
  refine CallS.enter Tryz.func169 rfl Tryz.ntmps169 (by simp) ?_
  refine CW.seq ?_
  refine CW.region (by kernel_rfl) ?_
  refine RL.cons rfl (OW.boxN rfl ?_)
  intro b1
  refine RL.cons rfl (OW.alloc zv22 rfl ?_)
  intro b2
  refine RL.nil (thenN ?_)
  refine CW.seq ?_
  refine CW.seq ?_
  refine CW.region (by kernel_rfl) ?_
  refine RL.q rfl rfl (QW.assign rfl) ?_
  refine RL.nil (thenN ?_)
  refine CW.block ?_
  refine CW.loopT (ι := Nat) [(1, _), (2, _)] (by repeat (first | exact leE_nil | refine leE_cons rfl ?_)) (fun j => j ≤ 4) (fun j r => (3, nI (4 * j)) :: r) (fun j => (b2, blk ((List.replicate 16 0).map u8) 22) :: (b1, blk ((mixTo b j).map u8) 22) :: S) (fun j => 4 - j) 0 (by omega) (by repeat (first | exact leE_nil | refine leE_cons (by first | rfl | (rfl)) ?_)) (by repeat (first | exact List.Sublist.refl _ | (refine keepS ?_ ?_; with_reducible rfl) | (refine keepA ?_ ?_; with_reducible rfl) | (refine keepS ?_ ?_; rfl) | apply dropS | apply dropA)) ?_
  intro j hI
  have hl := mixTo_len b j
  refine CW.seq ?_
  refine CW.seq ?_
  refine CW.region (by kernel_rfl) ?_
  refine RL.q rfl rfl (QW.move rfl) ?_
  refine RL.q rfl rfl (QW.lss rfl rfl (dI_lt _ 16)) ?_
  refine RL.nil (thenN ?_)
  refine CW.cond rfl (fun hc0 => ?_) (fun hc0 => ?_)
  · have hj : j < 4 := by simp at hc0; omega
    refine CW.skip (thenN ?_)
    refine CW.seq ?_
    refine CW.block ?_
    refine CW.seq ?_
    refine CW.drawnS 19 (by rw [mixed]; rfl) (by kernel_rfl) (by kernel_rfl) (by kernel_rfl) (fun _ _ _ h => h) ?_
    refine DL.take 0 rfl (by kernel_rfl) (by kernel_rfl) (by kernel_rfl) rfl rfl (QW.move rfl) (by intro p hp; repeat (first | exact hp | refine List.mem_cons_of_mem _ ?_)) ?_
    refine DL.take 1 rfl (by kernel_rfl) (by kernel_rfl) (by kernel_rfl) rfl rfl (QW.indexAddrA Tryz.runUnderlying22 Tryz.sizeOf5 rfl rfl (by omega) (by first | omega | exact lt8 _) (by first | exact ix01 _ | exact ixb1 _ _ | exact ix0m _ _ | exact ixbm _ _ _)) (by intro p hp; repeat (first | exact hp | refine List.mem_cons_of_mem _ ?_)) ?_
    refine DL.take 2 rfl (by kernel_rfl) (by kernel_rfl) (by kernel_rfl) rfl rfl (QW.load1 rfl Tryz.isAgg5 (by repeat (first | exact List.mem_cons_self | exact List.mem_cons_of_mem _ (by assumption) | assumption | refine List.mem_cons_of_mem _ ?_ | refine List.mem_append_right _ ?_)) (by first | (refine m_get 0 ?_; omega) | (refine m_get 0 ?_; simp only [*]; omega) | (refine m_get 0 ?_; simp only [List.length_set]; omega) | (refine m_get 0 (lt8L ?_); omega) | (refine m_get 0 (lt8B ?_); omega) | rfl)) (by intro p hp; repeat (first | exact hp | refine List.mem_cons_of_mem _ ?_)) ?_
    refine DL.take 3 rfl (by kernel_rfl) (by kernel_rfl) (by kernel_rfl) rfl rfl (QW.move rfl) (by intro p hp; repeat (first | exact hp | refine List.mem_cons_of_mem _ ?_)) ?_
    refine DL.take 4 rfl (by kernel_rfl) (by kernel_rfl) (by kernel_rfl) rfl rfl (QW.add rfl rfl (wI_add (a := _) (b := 1) (by omega))) (by intro p hp; repeat (first | exact hp | refine List.mem_cons_of_mem _ ?_)) ?_
    refine DL.take 5 rfl (by kernel_rfl) (by kernel_rfl) (by kernel_rfl) rfl rfl (QW.indexAddrA Tryz.runUnderlying22 Tryz.sizeOf5 rfl rfl (by omega) (by first | omega | exact lt8 _) (by first | exact ix01 _ | exact ixb1 _ _ | exact ix0m _ _ | exact ixbm _ _ _)) (by intro p hp; repeat (first | exact hp | refine List.mem_cons_of_mem _ ?_)) ?_
    refine DL.take 6 rfl (by kernel_rfl) (by kernel_rfl) (by kernel_rfl) rfl rfl (QW.load1 rfl Tryz.isAgg5 (by repeat (first | exact List.mem_cons_self | exact List.mem_cons_of_mem _ (by assumption) | assumption | refine List.mem_cons_of_mem _ ?_ | refine List.mem_append_right _ ?_)) (by first | (refine m_get 0 ?_; omega) | (refine m_get 0 ?_; simp only [*]; omega) | (refine m_get 0 ?_; simp only [List.length_set]; omega) | (refine m_get 0 (lt8L ?_); omega) | (refine m_get 0 (lt8B ?_); omega) | rfl)) (by intro p hp; repeat (first | exact hp | refine List.mem_cons_of_mem _ ?_)) ?_
    refine DL.take 7 rfl (by kernel_rfl) (by kernel_rfl) (by kernel_rfl) rfl rfl (QW.xor_ rfl rfl (x8_xor _ _)) (by intro p hp; repeat (first | exact hp | refine List.mem_cons_of_mem _ ?_)) ?_
    refine DL.take 8 rfl (by kernel_rfl) (by kernel_rfl) (by kernel_rfl) rfl rfl (QW.move rfl) (by intro p hp; repeat (first | exact hp | refine List.mem_cons_of_mem _ ?_)) ?_
    refine DL.take 9 rfl (by kernel_rfl) (by kernel_rfl) (by kernel_rfl) rfl rfl (QW.add rfl rfl (wI_add (a := _) (b := 2) (by omega))) (by intro p hp; repeat (first | exact hp | refine List.mem_cons_of_mem _ ?_)) ?_
    refine DL.take 10 rfl (by kernel_rfl) (by kernel_rfl) (by kernel_rfl) rfl rfl (QW.indexAddrA Tryz.runUnderlying22 Tryz.sizeOf5 rfl rfl (by omega) (by first | omega | exact lt8 _) (by first | exact ix01 _ | exact ixb1 _ _ | exact ix0m _ _ | exact ixbm _ _ _)) (by intro p hp; repeat (first | exact hp | refine List.mem_cons_of_mem _ ?_)) ?_
    refine DL.take 11 rfl (by kernel_rfl) (by kernel_rfl) (by kernel_rfl) rfl rfl (QW.load1 rfl Tryz.isAgg5 (by repeat (first | exact List.mem_cons_self | exact List.mem_cons_of_mem _ (by assumption) | assumption | refine List.mem_cons_of_mem _ ?_ | refine List.mem_append_right _ ?_)) (by first | (refine m_get 0 ?_; omega) | (refine m_get 0 ?_; simp only [*]; omega) | (refine m_get 0 ?_; simp only [List.length_set]; omega) | (refine m_get 0 (lt8L ?_); omega) | (refine m_get 0 (lt8B ?_); omega) | rfl)) (by intro p hp; repeat (first | exact hp | refine List.mem_cons_of_mem _ ?_)) ?_
    refine DL.take 12 rfl (by kernel_rfl) (by kernel_rfl) (by kernel_rfl) rfl rfl (QW.xor_ rfl rfl (x8_xor _ _)) (by intro p hp; repeat (first | exact hp | refine List.mem_cons_of_mem _ ?_)) ?_
    refine DL.take 13 rfl (by kernel_rfl) (by kernel_rfl) (by kernel_rfl) rfl rfl (QW.move rfl) (by intro p hp; repeat (first | exact hp | refine List.mem_cons_of_mem _ ?_)) ?_
    refine DL.take 14 rfl (by kernel_rfl) (by kernel_rfl) (by kernel_rfl) rfl rfl (QW.add rfl rfl (wI_add (a := _) (b := 3) (by omega))) (by intro p hp; repeat (first | exact hp | refine List.mem_cons_of_mem _ ?_)) ?_
    refine DL.take 15 rfl (by kernel_rfl) (by kernel_rfl) (by kernel_rfl) rfl rfl (QW.indexAddrA Tryz.runUnderlying22 Tryz.sizeOf5 rfl rfl (by omega) (by first | omega | exact lt8 _) (by first | exact ix01 _ | exact ixb1 _ _ | exact ix0m _ _ | exact ixbm _ _ _)) (by intro p hp; repeat (first | exact hp | refine List.mem_cons_of_mem _ ?_)) ?_
    refine DL.take 16 rfl (by kernel_rfl) (by kernel_rfl) (by kernel_rfl) rfl rfl (QW.load1 rfl Tryz.isAgg5 (by repeat (first | exact List.mem_cons_self | exact List.mem_cons_of_mem _ (by assumption) | assumption | refine List.mem_cons_of_mem _ ?_ | refine List.mem_append_right _ ?_)) (by first | (refine m_get 0 ?_; omega) | (refine m_get 0 ?_; simp only [*]; omega) | (refine m_get 0 ?_; simp only [List.length_set]; omega) | (refine m_get 0 (lt8L ?_); omega) | (refine m_get 0 (lt8B ?_); omega) | rfl)) (by intro p hp; repeat (first | exact hp | refine List.mem_cons_of_mem _ ?_)) ?_
    refine DL.take 17 rfl (by kernel_rfl) (by kernel_rfl) (by kernel_rfl) rfl rfl (QW.xor_ rfl rfl (x8_xor _ _)) (by intro p hp; repeat (first | exact hp | refine List.mem_cons_of_mem _ ?_)) ?_
    refine DL.take 18 rfl (by kernel_rfl) (by kernel_rfl) (by kernel_rfl) rfl rfl (QW.assign rfl) (by intro p hp; repeat (first | exact hp | refine List.mem_cons_of_mem _ ?_)) ?_
    refine DL.done (by kernel_rfl) (thenN ?_)
    refine CW.seq ?_
    refine CW.region (by kernel_rfl) ?_
    refine RL.q rfl rfl (QW.move rfl) ?_
    refine RL.q rfl rfl (QW.indexAddrA Tryz.runUnderlying22 Tryz.sizeOf5 rfl rfl (by omega) (by first | omega | exact lt8 _) (by first | exact ix01 _ | exact ixb1 _ _ | exact ix0m _ _ | exact ixbm _ _ _)) ?_
    refine RL.q rfl rfl (QW.load1 rfl Tryz.isAgg5 (by repeat (first | exact List.mem_cons_self | exact List.mem_cons_of_mem _ (by assumption) | assumption | refine List.mem_cons_of_mem _ ?_ | refine List.mem_append_right _ ?_)) (by first | (refine m_get 0 ?_; omega) | (refine m_get 0 ?_; simp only [*]; omega) | (refine m_get 0 ?_; simp only [List.length_set]; omega) | (refine m_get 0 (lt8L ?_); omega) | (refine m_get 0 (lt8B ?_); omega) | rfl)) ?_
    refine RL.q rfl rfl (QW.assign rfl) ?_
    refine RL.nil (thenN ?_)
    refine CW.seq ?_
    refine CW.region (by kernel_rfl) ?_
    refine RL.q rfl rfl (QW.move rfl) ?_
    refine RL.nil (thenN ?_)
    refine CW.block ?_
    refine CW.loopT (ι := Nat) [(1, _), (2, _), (3, _), (4, _), (5, _), (8, _), (9, _), (12, _), (13, _), (14, _), (15, _), (16, _), (17, _), (18, _), (19, _), (20, _), (21, _), (22, _), (23, _), (24, _), (25, _), (26, _), (27, _), (28, _), (29, _), (30, _), (31, _), (32, _)] (by repeat (first | exact leE_nil | refine leE_cons rfl ?_)) (fun i => i ≤ 4) (fun i r => (33, nI i) :: r) (fun i => (b2, blk ((List.replicate 16 0).map u8) 22) :: (b1, blk ((mixIn (mixAll (mixTo b j) (4 * j)) ((mixTo b j).getD (4 * j) 0) (4 * j) (mixTo b j) i).map u8) 22) :: S) (fun i => 4 - i) 0 (by omega) (by repeat (first | exact leE_nil | refine leE_cons (by first | rfl | (rfl)) ?_)) (by repeat (first | exact List.Sublist.refl _ | (refine keepS ?_ ?_; with_reducible rfl) | (refine keepA ?_ ?_; with_reducible rfl) | (refine keepS ?_ ?_; rfl) | apply dropS | apply dropA)) ?_
    intro i hI2
    have hl2 := mixIn_len (mixAll (mixTo b j) (4 * j)) ((mixTo b j).getD (4 * j) 0) (4 * j) (mixTo b j) i
    refine CW.seq ?_
    refine CW.region (by kernel_rfl) ?_
    refine RL.q rfl rfl (QW.lss rfl rfl (dI_lt _ 4)) ?_
    refine RL.nil (thenN ?_)
    refine CW.seq ?_
    refine CW.cond rfl (fun hc1 => ?_) (fun hc1 => ?_)
    · have hi : i < 4 := by simpa using hc1
      refine CW.skip (thenN ?_)
      refine CW.seq ?_
      refine CW.block ?_
      refine CW.seq ?_
      refine CW.region (by kernel_rfl) ?_
      refine RL.q rfl rfl (QW.move rfl) ?_
      refine RL.q rfl rfl (QW.assign rfl) ?_
      refine RL.nil (thenN ?_)
      refine CW.seq ?_
      refine CW.region (by kernel_rfl) ?_
      refine RL.q rfl rfl (QW.move rfl) ?_
      refine RL.q rfl rfl (QW.assign rfl) ?_
      refine RL.nil (thenN ?_)
      refine CW.seq ?_
      refine CW.seq ?_
      refine CW.region (by kernel_rfl) ?_
      refine RL.q rfl rfl (QW.move rfl) ?_
      refine RL.q rfl rfl (QW.lss rfl rfl (dI_lt _ 3)) ?_
      refine RL.nil (thenN ?_)
      refine CW.cond rfl (fun hc2 => ?_) (fun hc2 => ?_)
      · have hc2' : i < 3 := by simpa using hc2
        refine CW.region (by kernel_rfl) ?_
        refine RL.q rfl rfl (QW.move rfl) ?_
        refine RL.q rfl rfl (QW.move rfl) ?_
        refine RL.q rfl rfl (QW.add rfl rfl (wI_add (a := _) (b := _) (by omega))) ?_
        refine RL.q rfl rfl (QW.add rfl rfl (wI_add (a := _) (b := 1) (by omega))) ?_
        refine RL.q rfl rfl (QW.indexAddrA Tryz.runUnderlying22 Tryz.sizeOf5 rfl rfl (by omega) (by first | omega | exact lt8 _) (by first | exact ix01 _ | exact ixb1 _ _ | exact ix0m _ _ | exact ixbm _ _ _)) ?_
        refine RL.q rfl rfl (QW.load1 rfl Tryz.isAgg5 (by repeat (first | exact List.mem_cons_self | exact List.mem_cons_of_mem _ (by assumption) | assumption | refine List.mem_cons_of_mem _ ?_ | refine List.mem_append_right _ ?_)) (by first | (refine m_get 0 ?_; omega) | (refine m_get 0 ?_; simp only [*]; omega) | (refine m_get 0 ?_; simp only [List.length_set]; omega) | (refine m_get 0 (lt8L ?_); omega) | (refine m_get 0 (lt8B ?_); omega) | rfl)) ?_
        refine RL.q rfl rfl (QW.assign rfl) ?_
        refine RL.nil (thenN ?_)
        refine CW.drawnS 17 (by rw [mixed]; rfl) (by kernel_rfl) (by kernel_rfl) (by kernel_rfl) (fun _ _ _ h => h) ?_
        refine DL.take 0 rfl (by kernel_rfl) (by kernel_rfl) (by kernel_rfl) rfl rfl (QW.move rfl) (by intro p hp; repeat (first | exact hp | refine List.mem_cons_of_mem _ ?_)) ?_
        refine DL.take 1 rfl (by kernel_rfl) (by kernel_rfl) (by kernel_rfl) rfl rfl (QW.move rfl) (by intro p hp; repeat (first | exact hp | refine List.mem_cons_of_mem _ ?_)) ?_
        refine DL.take 2 rfl (by kernel_rfl) (by kernel_rfl) (by kernel_rfl) rfl rfl (QW.add rfl rfl (wI_add (a := _) (b := _) (by omega))) (by intro p hp; repeat (first | exact hp | refine List.mem_cons_of_mem _ ?_)) ?_
        refine DL.take 3 rfl (by kernel_rfl) (by kernel_rfl) (by kernel_rfl) rfl rfl (QW.indexAddrA Tryz.runUnderlying22 Tryz.sizeOf5 rfl rfl (by omega) (by first | omega | exact lt8 _) (by first | exact ix01 _ | exact ixb1 _ _ | exact ix0m _ _ | exact ixbm _ _ _)) (by intro p hp; repeat (first | exact hp | refine List.mem_cons_of_mem _ ?_)) ?_
        refine DL.take 4 rfl (by kernel_rfl) (by kernel_rfl) (by kernel_rfl) rfl rfl (QW.load1 rfl Tryz.isAgg5 (by repeat (first | exact List.mem_cons_self | exact List.mem_cons_of_mem _ (by assumption) | assumption | refine List.mem_cons_of_mem _ ?_ | refine List.mem_append_right _ ?_)) (by first | (refine m_get 0 ?_; omega) | (refine m_get 0 ?_; simp only [*]; omega) | (refine m_get 0 ?_; simp only [List.length_set]; omega) | (refine m_get 0 (lt8L ?_); omega) | (refine m_get 0 (lt8B ?_); omega) | rfl)) (by intro p hp; repeat (first | exact hp | refine List.mem_cons_of_mem _ ?_)) ?_
        refine DL.take 5 rfl (by kernel_rfl) (by kernel_rfl) (by kernel_rfl) rfl rfl (QW.move rfl) (by intro p hp; repeat (first | exact hp | refine List.mem_cons_of_mem _ ?_)) ?_
        refine DL.take 6 rfl (by kernel_rfl) (by kernel_rfl) (by kernel_rfl) rfl rfl (QW.move rfl) (by intro p hp; repeat (first | exact hp | refine List.mem_cons_of_mem _ ?_)) ?_
        refine DL.take 7 rfl (by kernel_rfl) (by kernel_rfl) (by kernel_rfl) rfl rfl (QW.move rfl) (by intro p hp; repeat (first | exact hp | refine List.mem_cons_of_mem _ ?_)) ?_
        refine DL.take 8 rfl (by kernel_rfl) (by kernel_rfl) (by kernel_rfl) rfl rfl (QW.add rfl rfl (wI_add (a := _) (b := _) (by omega))) (by intro p hp; repeat (first | exact hp | refine List.mem_cons_of_mem _ ?_)) ?_
        refine DL.take 9 rfl (by kernel_rfl) (by kernel_rfl) (by kernel_rfl) rfl rfl (QW.indexAddrA Tryz.runUnderlying22 Tryz.sizeOf5 rfl rfl (by omega) (by first | omega | exact lt8 _) (by first | exact ix01 _ | exact ixb1 _ _ | exact ix0m _ _ | exact ixbm _ _ _)) (by intro p hp; repeat (first | exact hp | refine List.mem_cons_of_mem _ ?_)) ?_
        refine DL.take 10 rfl (by kernel_rfl) (by kernel_rfl) (by kernel_rfl) rfl rfl (QW.load1 rfl Tryz.isAgg5 (by repeat (first | exact List.mem_cons_self | exact List.mem_cons_of_mem _ (by assumption) | assumption | refine List.mem_cons_of_mem _ ?_ | refine List.mem_append_right _ ?_)) (by first | (refine m_get 0 ?_; omega) | (refine m_get 0 ?_; simp only [*]; omega) | (refine m_get 0 ?_; simp only [List.length_set]; omega) | (refine m_get 0 (lt8L ?_); omega) | (refine m_get 0 (lt8B ?_); omega) | rfl)) (by intro p hp; repeat (first | exact hp | refine List.mem_cons_of_mem _ ?_)) ?_
        refine DL.take 11 rfl (by kernel_rfl) (by kernel_rfl) (by kernel_rfl) rfl rfl (QW.move rfl) (by intro p hp; repeat (first | exact hp | refine List.mem_cons_of_mem _ ?_)) ?_
        refine DL.take 12 rfl (by kernel_rfl) (by kernel_rfl) (by kernel_rfl) rfl rfl (QW.xor_ rfl rfl (x8_xor _ _)) (by intro p hp; repeat (first | exact hp | refine List.mem_cons_of_mem _ ?_)) ?_
        refine DL.one 13 (by kernel_rfl) rfl rfl (OW.call Tryz.call166 (ext1 rfl) ((twice_c _ _).mono ?_))
        rintro v S' ⟨rfl, rfl⟩
        refine ⟨fun _ p hp => by repeat (first | exact hp | refine List.mem_cons_of_mem _ ?_), ?_⟩
        refine DL.take 14 rfl (by kernel_rfl) (by kernel_rfl) (by kernel_rfl) rfl rfl (QW.xor_ rfl rfl (x8_xor _ _)) (by intro p hp; repeat (first | exact hp | refine List.mem_cons_of_mem _ ?_)) ?_
        refine DL.take 15 rfl (by kernel_rfl) (by kernel_rfl) (by kernel_rfl) rfl rfl (QW.xor_ rfl rfl (x8_xor _ _)) (by intro p hp; repeat (first | exact hp | refine List.mem_cons_of_mem _ ?_)) ?_
        refine DL.take 16 rfl (by kernel_rfl) (by kernel_rfl) (by kernel_rfl) rfl rfl (QW.indexAddrA Tryz.runUnderlying22 Tryz.sizeOf5 rfl rfl (by omega) (by first | omega | exact lt8 _) (by first | exact ix01 _ | exact ixb1 _ _ | exact ix0m _ _ | exact ixbm _ _ _)) (by intro p hp; repeat (first | exact hp | refine List.mem_cons_of_mem _ ?_)) ?_
        refine DL.one 17 (by kernel_rfl) rfl rfl (OW.store1 rfl rfl Tryz.sizeOf5 rfl (by repeat (first | exact List.mem_cons_self | exact List.mem_cons_of_mem _ (by assumption) | assumption | refine List.mem_cons_of_mem _ ?_ | refine List.mem_append_right _ ?_)) (by first | (simp only [List.length_map, List.length_replicate, List.length_cons, List.length_nil, List.length_set, Nat.mul_one] <;> omega) | (rw [List.length_map]; refine lt8B ?_; simp [*]; done) | (rw [List.length_map]; refine lt8L ?_; simp [*]; done) | (simp [*] <;> omega)) (by first | exact m_set _ _ _ | rfl) (by repeat (first | exact Upd.head | apply Upd.tail | apply Upd.tailA)) ?_)
        refine ⟨fun h => absurd rfl h, ?_⟩
        refine DL.done (by kernel_rfl) (blockN (thenN ?_))
        refine CW.region (by kernel_rfl) ?_
        refine RL.q rfl rfl (QW.add rfl rfl (wI_add (a := _) (b := 1) (by omega))) ?_
        refine RL.q rfl rfl (QW.move rfl) ?_
        refine RL.nil (thenN ?_)
        refine ⟨i + 1, (by omega), (by omega), ?_, ?_⟩
        · repeat (first | exact leE_nil | refine leE_cons rfl ?_)
        · exact keepS rfl (keepS (by simp only [mixIn]; (first | rw [if_pos hc2'] | rw [if_neg hc2']); rfl) (List.Sublist.refl _))
      · have hc2' : ¬ i < 3 := by simpa using hc2
        refine CW.skip (thenN ?_)
        refine CW.drawnS 17 (by rw [mixed]; rfl) (by kernel_rfl) (by kernel_rfl) (by kernel_rfl) (fun _ _ _ h => h) ?_
        refine DL.take 0 rfl (by kernel_rfl) (by kernel_rfl) (by kernel_rfl) rfl rfl (QW.move rfl) (by intro p hp; repeat (first | exact hp | refine List.mem_cons_of_mem _ ?_)) ?_
        refine DL.take 1 rfl (by kernel_rfl) (by kernel_rfl) (by kernel_rfl) rfl rfl (QW.move rfl) (by intro p hp; repeat (first | exact hp | refine List.mem_cons_of_mem _ ?_)) ?_
        refine DL.take 2 rfl (by kernel_rfl) (by kernel_rfl) (by kernel_rfl) rfl rfl (QW.add rfl rfl (wI_add (a := _) (b := _) (by omega))) (by intro p hp; repeat (first | exact hp | refine List.mem_cons_of_mem _ ?_)) ?_
        refine DL.take 3 rfl (by kernel_rfl) (by kernel_rfl) (by kernel_rfl) rfl rfl (QW.indexAddrA Tryz.runUnderlying22 Tryz.sizeOf5 rfl rfl (by omega) (by first | omega | exact lt8 _) (by first | exact ix01 _ | exact ixb1 _ _ | exact ix0m _ _ | exact ixbm _ _ _)) (by intro p hp; repeat (first | exact hp | refine List.mem_cons_of_mem _ ?_)) ?_
        refine DL.take 4 rfl (by kernel_rfl) (by kernel_rfl) (by kernel_rfl) rfl rfl (QW.load1 rfl Tryz.isAgg5 (by repeat (first | exact List.mem_cons_self | exact List.mem_cons_of_mem _ (by assumption) | assumption | refine List.mem_cons_of_mem _ ?_ | refine List.mem_append_right _ ?_)) (by first | (refine m_get 0 ?_; omega) | (refine m_get 0 ?_; simp only [*]; omega) | (refine m_get 0 ?_; simp only [List.length_set]; omega) | (refine m_get 0 (lt8L ?_); omega) | (refine m_get 0 (lt8B ?_); omega) | rfl)) (by intro p hp; repeat (first | exact hp | refine List.mem_cons_of_mem _ ?_)) ?_
        refine DL.take 5 rfl (by kernel_rfl) (by kernel_rfl) (by kernel_rfl) rfl rfl (QW.move rfl) (by intro p hp; repeat (first | exact hp | refine List.mem_cons_of_mem _ ?_)) ?_
        refine DL.take 6 rfl (by kernel_rfl) (by kernel_rfl) (by kernel_rfl) rfl rfl (QW.move rfl) (by intro p hp; repeat (first | exact hp | refine List.mem_cons_of_mem _ ?_)) ?_
        refine DL.take 7 rfl (by kernel_rfl) (by kernel_rfl) (by kernel_rfl) rfl rfl (QW.move rfl) (by intro p hp; repeat (first | exact hp | refine List.mem_cons_of_mem _ ?_)) ?_
        refine DL.take 8 rfl (by kernel_rfl) (by kernel_rfl) (by kernel_rfl) rfl rfl (QW.add rfl rfl (wI_add (a := _) (b := _) (by omega))) (by intro p hp; repeat (first | exact hp | refine List.mem_cons_of_mem _ ?_)) ?_
        refine DL.take 9 rfl (by kernel_rfl) (by kernel_rfl) (by kernel_rfl) rfl rfl (QW.indexAddrA Tryz.runUnderlying22 Tryz.sizeOf5 rfl rfl (by omega) (by first | omega | exact lt8 _) (by first | exact ix01 _ | exact ixb1 _ _ | exact ix0m _ _ | exact ixbm _ _ _)) (by intro p hp; repeat (first | exact hp | refine List.mem_cons_of_mem _ ?_)) ?_
        refine DL.take 10 rfl (by kernel_rfl) (by kernel_rfl) (by kernel_rfl) rfl rfl (QW.load1 rfl Tryz.isAgg5 (by repeat (first | exact List.mem_cons_self | exact List.mem_cons_of_mem _ (by assumption) | assumption | refine List.mem_cons_of_mem _ ?_ | refine List.mem_append_right _ ?_)) (by first | (refine m_get 0 ?_; omega) | (refine m_get 0 ?_; simp only [*]; omega) | (refine m_get 0 ?_; simp only [List.length_set]; omega) | (refine m_get 0 (lt8L ?_); omega) | (refine m_get 0 (lt8B ?_); omega) | rfl)) (by intro p hp; repeat (first | exact hp | refine List.mem_cons_of_mem _ ?_)) ?_
        refine DL.take 11 rfl (by kernel_rfl) (by kernel_rfl) (by kernel_rfl) rfl rfl (QW.move rfl) (by intro p hp; repeat (first | exact hp | refine List.mem_cons_of_mem _ ?_)) ?_
        refine DL.take 12 rfl (by kernel_rfl) (by kernel_rfl) (by kernel_rfl) rfl rfl (QW.xor_ rfl rfl (x8_xor _ _)) (by intro p hp; repeat (first | exact hp | refine List.mem_cons_of_mem _ ?_)) ?_
        refine DL.one 13 (by kernel_rfl) rfl rfl (OW.call Tryz.call166 (ext1 rfl) ((twice_c _ _).mono ?_))
        rintro v S' ⟨rfl, rfl⟩
        refine ⟨fun _ p hp => by repeat (first | exact hp | refine List.mem_cons_of_mem _ ?_), ?_⟩
        refine DL.take 14 rfl (by kernel_rfl) (by kernel_rfl) (by kernel_rfl) rfl rfl (QW.xor_ rfl rfl (x8_xor _ _)) (by intro p hp; repeat (first | exact hp | refine List.mem_cons_of_mem _ ?_)) ?_
        refine DL.take 15 rfl (by kernel_rfl) (by kernel_rfl) (by kernel_rfl) rfl rfl (QW.xor_ rfl rfl (x8_xor _ _)) (by intro p hp; repeat (first | exact hp | refine List.mem_cons_of_mem _ ?_)) ?_
        refine DL.take 16 rfl (by kernel_rfl) (by kernel_rfl) (by kernel_rfl) rfl rfl (QW.indexAddrA Tryz.runUnderlying22 Tryz.sizeOf5 rfl rfl (by omega) (by first | omega | exact lt8 _) (by first | exact ix01 _ | exact ixb1 _ _ | exact ix0m _ _ | exact ixbm _ _ _)) (by intro p hp; repeat (first | exact hp | refine List.mem_cons_of_mem _ ?_)) ?_
        refine DL.one 17 (by kernel_rfl) rfl rfl (OW.store1 rfl rfl Tryz.sizeOf5 rfl (by repeat (first | exact List.mem_cons_self | exact List.mem_cons_of_mem _ (by assumption) | assumption | refine List.mem_cons_of_mem _ ?_ | refine List.mem_append_right _ ?_)) (by first | (simp only [List.length_map, List.length_replicate, List.length_cons, List.length_nil, List.length_set, Nat.mul_one] <;> omega) | (rw [List.length_map]; refine lt8B ?_; simp [*]; done) | (rw [List.length_map]; refine lt8L ?_; simp [*]; done) | (simp [*] <;> omega)) (by first | exact m_set _ _ _ | rfl) (by repeat (first | exact Upd.head | apply Upd.tail | apply Upd.tailA)) ?_)
        refine ⟨fun h => absurd rfl h, ?_⟩
        refine DL.done (by kernel_rfl) (blockN (thenN ?_))
        refine CW.region (by kernel_rfl) ?_
        refine RL.q rfl rfl (QW.add rfl rfl (wI_add (a := _) (b := 1) (by omega))) ?_
        refine RL.q rfl rfl (QW.move rfl) ?_
        refine RL.nil (thenN ?_)
        refine ⟨i + 1, (by omega), (by omega), ?_, ?_⟩
        · repeat (first | exact leE_nil | refine leE_cons rfl ?_)
        · exact keepS rfl (keepS (by simp only [mixIn]; (first | rw [if_pos hc2'] | rw [if_neg hc2']); rfl) (List.Sublist.refl _))
    · have hi : i = 4 := by simp at hc1; omega
      subst hi
      refine CW.exit (thenX (thenX (blockX (blockN (thenN ?_)))))
      refine CW.region (by kernel_rfl) ?_
      refine RL.q rfl rfl (QW.move rfl) ?_
      refine RL.q rfl rfl (QW.add rfl rfl (wI_add (a := _) (b := 4) (by omega))) ?_
      refine RL.q rfl rfl (QW.assign rfl) ?_
      refine RL.nil (thenN ?_)
      refine ⟨j + 1, (by omega), (by omega), ?_, ?_⟩
      · repeat (first | exact leE_nil | refine leE_cons rfl ?_)
      · exact List.Sublist.refl _
  · have hj : j = 4 := by simp at hc0; omega
    subst hj
    refine CW.exit (thenX (thenX (blockX (thenN ?_))))
    refine CW.seq ?_
    refine CW.region (by kernel_rfl) ?_
    refine RL.q rfl rfl (QW.loadN rfl Tryz.isAgg22 Tryz.sizeOf22 (by repeat (first | exact List.mem_cons_self | exact List.mem_cons_of_mem _ (by assumption) | assumption | refine List.mem_cons_of_mem _ ?_ | refine List.mem_append_right _ ?_)) (by first | (simp only [List.length_map, List.length_replicate, List.length_cons, List.length_nil, List.length_set, Nat.mul_one] <;> omega) | (simp [*] <;> omega)) (by first | (refine m_all_of _ _ ?_; omega) | (refine m_all_of _ _ ?_; simp [*]; done) | exact m_cut _ _ _ | with_reducible rfl)) ?_
    refine RL.cons rfl (OW.storeN rfl rfl Tryz.sizeOf22 (by repeat (first | exact List.mem_cons_self | exact List.mem_cons_of_mem _ (by assumption) | assumption | refine List.mem_cons_of_mem _ ?_ | refine List.mem_append_right _ ?_)) (by first | (simp only [List.length_map, List.length_replicate, List.length_cons, List.length_nil, List.length_set, Nat.mul_one] <;> omega) | (simp [*] <;> omega)) (by first | exact m_all (fun _ => rfl) _ | rfl | (simp; done) | (simp only [List.all_cons, List.all_nil, oneB_buf, Bool.true_and, Bool.and_true]; rfl) | (simp [oneB]; done)) (by first | (simp only [List.length_map, List.length_replicate, List.length_cons, List.length_nil, List.length_set, Nat.mul_one] <;> omega) | (simp [*] <;> omega)) (by first | (refine wr_all ?_; simp only [List.length_map, List.length_replicate, List.length_cons, List.length_nil, List.length_set, Nat.mul_one] <;> omega) | (refine wr_all ?_; simp [*]; done) | exact m_wr _ _ _ | with_reducible rfl) (by repeat (first | exact Upd.head | apply Upd.tail | apply Upd.tailA)) ?_)
    refine RL.nil (thenN ?_)
    refine CW.ret (retR (S) (ResOk.one Tryz.results169 (ResV.cellN rfl Tryz.isAgg22 Tryz.sizeOf22 (by repeat (first | exact List.mem_cons_self | exact List.mem_cons_of_mem _ (by assumption) | assumption | refine List.mem_cons_of_mem _ ?_ | refine List.mem_append_right _ ?_)) (by first | (simp only [List.length_map, List.length_replicate, List.length_cons, List.length_nil, List.length_set, Nat.mul_one] <;> omega) | (simp [*] <;> omega)) (by first | (refine m_all_of _ _ ?_; omega) | (refine m_all_of _ _ ?_; simp [*]; done) | exact m_cut _ _ _ | with_reducible rfl))) (by repeat (first | exact List.Sublist.refl _ | (refine keepS ?_ ?_; with_reducible rfl) | (refine keepA ?_ ?_; with_reducible rfl) | (refine keepS ?_ ?_; rfl) | apply dropS | apply dropA)) ?_)
    exact ⟨by unfold mixedF; rfl, rfl⟩

end Go.Sl
/- Numbers as bytes: the walk. -/
set_option linter.unusedVariables false
set_option linter.unusedSimpArgs false
namespace Go.Sl
open Go.Proofs

/-- What is left of a number when i bytes are gone. -/
def xq (x : UInt64) : Nat → UInt64
  | 0 => x
  | i + 1 => xq x i / 256
/-- A number's last i bytes, the highest first. -/
def beF (x : UInt64) : Nat → List UInt8
  | 0 => []
  | i + 1 => UInt8.ofNat (xq x i).toNat :: beF x i
@[simp] theorem beF_len (x : UInt64) (i : Nat) : (beF x i).length = i := by
  induction i with
  | zero => rfl
  | succ i ih => simp [beF, ih]
/-- The last words, r of them being left out. -/
def beL (ws : List UInt64) (each : Nat) (r : Nat) : List UInt8 := ((ws.drop r).map fun x => beF x each).flatten
theorem beL_len (ws : List UInt64) (each r : Nat) (h : r ≤ ws.length) : (beL ws each r).length = each * (ws.length - r) := by
  have key : ∀ l : List UInt64, ((l.map fun x => beF x each).flatten).length = each * l.length := by
    intro l
    induction l with
    | nil => rfl
    | cons x l ih => simp only [List.map_cons, List.flatten_cons, List.length_append, beF_len, ih, List.length_cons, Nat.mul_add, Nat.mul_one]; omega
  rw [beL, key, List.length_drop]
theorem beL_all (ws : List UInt64) (each : Nat) : beL ws each ws.length = [] := by simp [beL]
theorem beL_step (ws : List UInt64) (each q : Nat) (h : q < ws.length) : beL ws each q = beF (ws.getD q 0) each ++ beL ws each (q + 1) := by
  unfold beL
  have e : ws.getD q 0 = ws[q] := by simp [List.getD_eq_getElem?_getD, h]
  rw [e, List.drop_eq_getElem_cons h, List.map_cons, List.flatten_cons]
/-- The block that row fills from its end: z bytes are noughts yet. -/
def rowL (z : Nat) (tl : List UInt8) : List UInt8 := List.replicate z 0 ++ tl
theorem rowL_set (z : Nat) (v : UInt8) (tl : List UInt8) : (rowL (z + 1) tl).set z v = rowL z (v :: tl) := by
  unfold rowL
  rw [List.set_append_left _ _ (by simp), List.replicate_succ', List.set_append_right _ _ (by simp)]
  simp
theorem rowL_len (z : Nat) (tl : List UInt8) : (rowL z tl).length = z + tl.length := by simp [rowL]
theorem rowL_wr (bs tl : List UInt8) : wrL (rowL bs.length tl) 0 bs = bs ++ tl := by simp [wrL, rowL]
attribute [irreducible] rowL

theorem rowL_set' (P i : Nat) (v : UInt8) (tl : List UInt8) (h : i < P) : (rowL (P - i) tl).set (P - i - 1) v = rowL (P - (i + 1)) (v :: tl) := by
  obtain ⟨z, hz⟩ : ∃ z, P - i = z + 1 := ⟨P - i - 1, by omega⟩
  rw [hz, show P - (i + 1) = z from by omega]
  exact rowL_set z v tl
theorem rowL_zero (N : Nat) : List.replicate N (u8 0) = (rowL N []).map u8 := by unfold rowL; simp

theorem zv3 : ZV Tryz.prog 3 (nI 0) := fun _ => by kernel_rfl
theorem zv5 : ZV Tryz.prog 5 (u8 0) := fun _ => by kernel_rfl
theorem zv23 : ZV Tryz.prog 23 (.slice none 0 0) := fun _ => by kernel_rfl
set_option maxRecDepth 100000 in
set_option maxHeartbeats 4000000 in
theorem backU_c (ws : List UInt64) (gw bx off cw : Nat) (l : List Value) (T : TypeId) (fr : Nat × Nat) (L : Nat) (H : Nat → HL) (hb : ws.length ≤ 1000000) (hbx : ∀ k, k ≤ ws.length → (bx, blk [sl gw off ws.length cw] 219) ∈ H k) (hm : ∀ k, k ≤ ws.length → (gw, Obj.cells ⟨l⟩ T fr) ∈ H k) (hget : ∀ j, j < ws.length → l[off + j]? = some (u64 (ws.getD j 0))) (hY : ∀ q, q < ws.length → YieldS Tryz.prog L [nI q, u64 (ws.getD q 0)] (H (q + 1)) fun v S' => v = .bool true ∧ S' = H q) : CallS Tryz.prog 318 ⟨[.func (.yield L) #[] #[], ptr bx 0]⟩ (H ws.length) fun v S' => S' = H 0 := by
  have hbx0 := hbx ws.length (Nat.le_refl _)
  refine CallS.enterR Tryz.func318 rfl Tryz.ntmps318 (by simp) ?_
  refine CWr.seq ?_
  refine CWr.region (by kernel_rfl) ?_
  refine RL.q rfl rfl (QW.load1 rfl Tryz.isAgg219 (by repeat (first | exact List.mem_cons_self | exact List.mem_cons_of_mem _ (by assumption) | assumption | refine List.mem_cons_of_mem _ ?_ | refine List.mem_append_right _ ?_)) (by first | (refine m_get 0 ?_; omega) | (refine m_get 0 ?_; simp only [*]; omega) | (refine m_get 0 ?_; simp only [List.length_set]; omega) | (refine m_get 0 (lt8L ?_); omega) | (refine m_get 0 (lt8B ?_); omega) | rfl)) ?_
  refine RL.q rfl rfl (QW.len_s Tryz.runUnderlying219 rfl) ?_
  refine RL.q rfl rfl (QW.sub rfl rfl (w64 (by omega))) ?_
  refine RL.q rfl rfl (QW.assign rfl) ?_
  refine RL.nil (thenN ?_)
  refine CWr.block ?_
  refine CWr.loopT (ι := Nat) [(0, _), (1, _)] (by repeat (first | exact leE_nil | refine leE_cons rfl ?_)) (fun u => u ≤ ws.length) (fun u r => (3, dn u) :: r) (fun u => H u) (fun u => u) ws.length (by omega) (by repeat (first | exact leE_nil | refine leE_cons (by first | rfl | (exact congrArg some (dn_eq _))) ?_)) (by repeat (first | exact List.Sublist.refl _ | (refine keepS ?_ ?_; with_reducible rfl) | (refine keepA ?_ ?_; with_reducible rfl) | (refine keepS ?_ ?_; rfl) | apply dropS | apply dropA)) ?_
  intro u hI
  have hbx1 := hbx u (by omega)
  have hm1 := hm u (by omega)
  rcases u with _ | q
  · refine CWr.seq ?_
    refine CWr.seq ?_
    refine CWr.region (by kernel_rfl) ?_
    refine RL.q rfl rfl (QW.move rfl) ?_
    refine RL.q rfl rfl (QW.geq rfl rfl rfl) ?_
    refine RL.nil (thenN ?_)
    refine CWr.cond_false rfl ?_
    refine CWr.exit (thenX (thenX (blockX (retN (H 0) (ResOk.zero Tryz.results318 ) (by repeat (first | exact List.Sublist.refl _ | (refine keepS ?_ ?_; with_reducible rfl) | (refine keepA ?_ ?_; with_reducible rfl) | (refine keepS ?_ ?_; rfl) | apply dropS | apply dropA)) ?_))))
    exact rfl
  · refine CWr.seq ?_
    refine CWr.seq ?_
    refine CWr.region (by kernel_rfl) ?_
    refine RL.q rfl rfl (QW.move rfl) ?_
    refine RL.q rfl rfl (QW.geq (t := true) rfl rfl (by simp)) ?_
    refine RL.nil (thenN ?_)
    refine CWr.cond_true rfl ?_
    refine CWr.skip (thenN ?_)
    refine CWr.seq ?_
    refine CWr.block ?_
    refine CWr.seq ?_
    refine CWr.regionY (by kernel_rfl) ?_
    refine RLy.q rfl rfl (QW.move rfl) ?_
    refine RLy.q rfl rfl (QW.move rfl) ?_
    refine RLy.q rfl rfl (QW.load1 rfl Tryz.isAgg219 (by repeat (first | exact List.mem_cons_self | exact List.mem_cons_of_mem _ (by assumption) | assumption | refine List.mem_cons_of_mem _ ?_ | refine List.mem_append_right _ ?_)) (by first | (refine m_get 0 ?_; omega) | (refine m_get 0 ?_; simp only [*]; omega) | (refine m_get 0 ?_; simp only [List.length_set]; omega) | (refine m_get 0 (lt8L ?_); omega) | (refine m_get 0 (lt8B ?_); omega) | rfl)) ?_
    refine RLy.q rfl rfl (QW.move rfl) ?_
    refine RLy.q rfl rfl (QW.indexAddrS Tryz.runUnderlying219 Tryz.sizeOf47 rfl rfl (by omega) (by first | omega | exact lt8 _) (by first | exact ix01 _ | exact ixb1 _ _ | exact ix0m _ _ | exact ixbm _ _ _)) ?_
    refine RLy.q rfl rfl (QW.load1 rfl Tryz.isAgg47 (by assumption) (hget q (by omega))) ?_
    refine RLy.yield rfl (ext2 rfl rfl) ((hY q (by omega)).mono ?_)
    rintro v S' ⟨rfl, rfl⟩
    refine RLy.q rfl rfl (QW.not rfl) ?_
    refine RLy.nil (thenN ?_)
    refine CWr.cond_false rfl ?_
    refine CWr.skip (blockN (thenN ?_))
    refine CWr.region (by kernel_rfl) ?_
    refine RL.q rfl rfl (QW.move rfl) ?_
    refine RL.q rfl rfl (QW.sub rfl rfl (w64 (by omega))) ?_
    refine RL.q rfl rfl (QW.assign rfl) ?_
    refine RL.nil (thenN ?_)
    refine ⟨q, (by omega), (by omega), ?_, ?_⟩
    · repeat (first | exact leE_nil | refine leE_cons (by first | rfl | (exact congrArg some (dn_eq _))) ?_)
    · exact List.Sublist.refl _

set_option maxRecDepth 100000 in
set_option maxHeartbeats 4000000 in
theorem backS_c (a : Option Addr) (n c : Nat) (S : HL) : CallS Tryz.prog 279 ⟨[.slice a n c]⟩ S fun v S' => ∃ b, v = .func (.func 318) #[] #[ptr b 0] ∧ S' = (b, blk [.slice a n c] 219) :: S := by
  refine CallS.enter Tryz.func279 rfl Tryz.ntmps279 (by simp) ?_
  refine CW.seq ?_
  refine CW.region (by kernel_rfl) ?_
  refine RL.cons rfl (OW.box1 rfl rfl ?_)
  intro b1
  refine RL.q rfl rfl (QW.assign rfl) ?_
  refine RL.nil (thenN ?_)
  refine CW.seq ?_
  refine CW.region (by kernel_rfl) ?_
  refine RL.q rfl rfl (QW.makeFunc (fun _ _ => ext_nil) (ext1 rfl)) ?_
  refine RL.q rfl rfl (QW.assign rfl) ?_
  refine RL.nil (thenN ?_)
  refine CW.ret (retR ((b1, blk [.slice a n c] 219) :: S) (ResOk.one Tryz.results279 (ResV.tmp rfl)) (by repeat (first | exact List.Sublist.refl _ | (refine keepS ?_ ?_; with_reducible rfl) | (refine keepA ?_ ?_; with_reducible rfl) | (refine keepS ?_ ?_; rfl) | apply dropS | apply dropA)) ?_)
  exact ⟨b1, rfl, rfl⟩

set_option maxRecDepth 100000 in
set_option maxHeartbeats 4000000 in
theorem row_c (bs : List UInt8) (each : Nat) (ws : List UInt64) (a : Option Addr) (c gw off cw : Nat) (l : List Value) (T : TypeId) (fr : Nat × Nat) (S : HL) (hb : bs.length ≤ 1000000000) (he : each ≤ 8) (hwl : ws.length ≤ 100) (hv : RdB S (.slice a bs.length c) bs) (hm : (gw, Obj.cells ⟨l⟩ T fr) ∈ S) (hget : ∀ j, j < ws.length → l[off + j]? = some (u64 (ws.getD j 0))) : CallS Tryz.prog 208 ⟨[.slice a bs.length c, nI each, sl gw off ws.length cw]⟩ S fun v S' => ∃ b, v = sl b 0 (bs.length + each * ws.length) (bs.length + each * ws.length) ∧ S' = (b, blk ((bs ++ beL ws each 0).map u8) 5) :: S := by
  have hmul : each * ws.length ≤ 8 * 100 := Nat.mul_le_mul he hwl
  refine CallS.enter Tryz.func208 rfl Tryz.ntmps208 (by simp) ?_
  refine CW.seq ?_
  refine CW.region (by kernel_rfl) ?_
  refine RL.cons rfl (OW.box1 rfl rfl ?_)
  intro b4
  refine RL.q rfl rfl (QW.assign rfl) ?_
  refine RL.nil (thenN ?_)
  refine CW.seq ?_
  refine CW.region (by kernel_rfl) ?_
  refine RL.q rfl rfl (QW.move rfl) ?_
  refine RL.q rfl rfl (QW.len_s Tryz.runUnderlying23 rfl) ?_
  refine RL.q rfl rfl (QW.load1 rfl Tryz.isAgg3 (by repeat (first | exact List.mem_cons_self | exact List.mem_cons_of_mem _ (by assumption) | assumption | refine List.mem_cons_of_mem _ ?_ | refine List.mem_append_right _ ?_)) (by first | (refine m_get 0 ?_; omega) | (refine m_get 0 ?_; simp only [*]; omega) | (refine m_get 0 ?_; simp only [List.length_set]; omega) | (refine m_get 0 (lt8L ?_); omega) | (refine m_get 0 (lt8B ?_); omega) | rfl)) ?_
  refine RL.q rfl rfl (QW.move rfl) ?_
  refine RL.q rfl rfl (QW.len_s Tryz.runUnderlying219 rfl) ?_
  refine RL.q rfl rfl (QW.mul rfl rfl (wI_mul (a := _) (b := _) (by omega))) ?_
  refine RL.q rfl rfl (QW.add rfl rfl (wI_add (a := _) (b := _) (by omega))) ?_
  refine RL.cons rfl (OW.makeSlice Tryz.runUnderlying23 Tryz.typeInfo5 Tryz.sizeOf5 zv5 rfl rfl rfl (by omega) (by rw [show Tryz.t5.bytes = 1 from rfl]; omega) (by omega) ?_)
  intro b18
  refine RL.cons rfl (OW.alloc zv23 rfl ?_)
  intro b7
  refine RL.cons rfl (OW.store1 rfl rfl Tryz.sizeOf23 rfl (by repeat (first | exact List.mem_cons_self | exact List.mem_cons_of_mem _ (by assumption) | assumption | refine List.mem_cons_of_mem _ ?_ | refine List.mem_append_right _ ?_)) (by first | (simp only [List.length_map, List.length_replicate, List.length_cons, List.length_nil, List.length_set, Nat.mul_one] <;> omega) | (rw [List.length_map]; refine lt8B ?_; simp [*]; done) | (rw [List.length_map]; refine lt8L ?_; simp [*]; done) | (simp [*] <;> omega)) (by first | exact m_set _ _ _ | rfl) (by repeat (first | exact Upd.head | apply Upd.tail | apply Upd.tailA)) ?_)
  refine RL.nil (thenN ?_)
  refine CW.seq ?_
  refine CW.region (by kernel_rfl) ?_
  refine RL.q rfl rfl (QW.load1 rfl Tryz.isAgg23 (by repeat (first | exact List.mem_cons_self | exact List.mem_cons_of_mem _ (by assumption) | assumption | refine List.mem_cons_of_mem _ ?_ | refine List.mem_append_right _ ?_)) (by first | (refine m_get 0 ?_; omega) | (refine m_get 0 ?_; simp only [*]; omega) | (refine m_get 0 ?_; simp only [List.length_set]; omega) | (refine m_get 0 (lt8L ?_); omega) | (refine m_get 0 (lt8B ?_); omega) | rfl)) ?_
  refine RL.q rfl rfl (QW.len_s Tryz.runUnderlying23 rfl) ?_
  refine RL.cons rfl (OW.alloc zv3 rfl ?_)
  intro b8
  refine RL.cons rfl (OW.store1 rfl rfl Tryz.sizeOf3 rfl (by repeat (first | exact List.mem_cons_self | exact List.mem_cons_of_mem _ (by assumption) | assumption | refine List.mem_cons_of_mem _ ?_ | refine List.mem_append_right _ ?_)) (by first | (simp only [List.length_map, List.length_replicate, List.length_cons, List.length_nil, List.length_set, Nat.mul_one] <;> omega) | (rw [List.length_map]; refine lt8B ?_; simp [*]; done) | (rw [List.length_map]; refine lt8L ?_; simp [*]; done) | (simp [*] <;> omega)) (by first | exact m_set _ _ _ | rfl) (by repeat (first | exact Upd.head | apply Upd.tail | apply Upd.tailA)) ?_)
  refine RL.nil (thenN ?_)
  refine CW.seq ?_
  refine CW.seq ?_
  refine CW.region (by kernel_rfl) ?_
  refine RL.q rfl rfl (QW.move rfl) ?_
  refine RL.cons rfl (OW.call Tryz.call279 (ext1 rfl) ((backS_c _ _ _ _).mono ?_))
  rintro v S' ⟨bx, rfl, rfl⟩
  refine RL.nil (thenN ?_)
  refine CW.block ?_
  refine CW.rangeFunc rfl rfl Tryz.call318 ?_
  intro rec L D hrec
  refine CallS.mono (CallS.weak (backU_c ws gw bx off cw l T fr L (fun u => (L, .loop (rec .ready)) :: (D, .deferred (some [])) :: (bx, blk [sl gw off ws.length cw] 219) :: (b8, blk [nI (bs.length + each * u)] 3) :: (b7, blk [sl b18 0 (bs.length + each * ws.length) (bs.length + each * ws.length)] 23) :: (b18, blk ((rowL (bs.length + each * (u)) (beL ws each (u))).map u8) 5) :: (b4, blk [nI each] 3) :: S) (by omega) (fun _ _ => by repeat (first | exact List.mem_cons_self | refine List.mem_cons_of_mem _ ?_)) (fun _ _ => by repeat (first | exact hm | refine List.mem_cons_of_mem _ ?_)) hget ?_) (keepS rfl (keepS rfl (keepS rfl (keepS rfl (keepS rfl (keepS (congrArg (fun x => blk x 5) (by rw [beL_all]; exact (rowL_zero _).symm)) (List.Sublist.refl _)))))))) ?_
  · intro q hq
    have e1 : each * (q + 1) = each * q + each := Nat.mul_succ each q
    have e2 : each * (q + 1) ≤ each * ws.length := Nat.mul_le_mul_left each hq
    refine YieldS.round (ps := [23, 24]) hrec rfl rfl rfl ?_
    refine CWr.region (by kernel_rfl) ?_
    refine RL.q rfl rfl (QW.assign rfl) ?_
    refine RL.nil ⟨rfl, _, List.Sublist.refl _, ?_⟩
    refine CWr.block ?_
    refine CWr.seq ?_
    refine CWr.region (by kernel_rfl) ?_
    refine RL.q rfl rfl (QW.load1 rfl Tryz.isAgg3 (by repeat (first | exact List.mem_cons_self | exact List.mem_cons_of_mem _ (by assumption) | assumption | refine List.mem_cons_of_mem _ ?_ | refine List.mem_append_right _ ?_)) (by first | (refine m_get 0 ?_; omega) | (refine m_get 0 ?_; simp only [*]; omega) | (refine m_get 0 ?_; simp only [List.length_set]; omega) | (refine m_get 0 (lt8L ?_); omega) | (refine m_get 0 (lt8B ?_); omega) | rfl)) ?_
    refine RL.q rfl rfl (QW.move rfl) ?_
    refine RL.nil (thenN ?_)
    refine CWr.block ?_
    refine CWr.loopT (ι := Nat) [(7, _), (8, _), (25, _)] (by repeat (first | exact leE_nil | refine leE_cons rfl ?_)) (fun i => i ≤ each) (fun i r => (26, nI i) :: (10, u64 (xq (ws.getD q 0) i)) :: r) (fun i => (L, .loop (rec .busy)) :: (D, .deferred (some [])) :: (bx, blk [sl gw off ws.length cw] 219) :: (b8, blk [nI (bs.length + each * (q + 1) - i)] 3) :: (b7, blk [sl b18 0 (bs.length + each * ws.length) (bs.length + each * ws.length)] 23) :: (b18, blk ((rowL (bs.length + each * (q + 1) - i) (beF (ws.getD q 0) i ++ beL ws each (q + 1))).map u8) 5) :: (b4, blk [nI each] 3) :: S) (fun i => each - i) 0 (by omega) (by repeat (first | exact leE_nil | refine leE_cons (by first | rfl | (rfl)) ?_)) (by repeat (first | exact List.Sublist.refl _ | (refine keepS ?_ ?_; with_reducible rfl) | (refine keepA ?_ ?_; with_reducible rfl) | (refine keepS ?_ ?_; rfl) | apply dropS | apply dropA)) ?_
    intro i hI2
    have hl := rowL_len (bs.length + each * (q + 1) - i) (beF (ws.getD q 0) i ++ beL ws each (q + 1))
    rw [List.length_append, beF_len, beL_len ws each (q + 1) hq] at hl
    have e3 : each * (ws.length - (q + 1)) = each * ws.length - each * (q + 1) := Nat.mul_sub each ws.length (q + 1)
    refine CWr.seq ?_
    refine CWr.region (by kernel_rfl) ?_
    refine RL.q rfl rfl (QW.lss rfl rfl (dI_lt _ _)) ?_
    refine RL.nil (thenN ?_)
    refine CWr.seq ?_
    refine CWr.cond rfl (fun hc0 => ?_) (fun hc0 => ?_)
    · have hi : i < each := by simpa using hc0
      refine CWr.skip (thenN ?_)
      refine CWr.seq ?_
      refine CWr.block ?_
      refine CWr.seq ?_
      refine CWr.region (by kernel_rfl) ?_
      refine RL.q rfl rfl (QW.load1 rfl Tryz.isAgg3 (by repeat (first | exact List.mem_cons_self | exact List.mem_cons_of_mem _ (by assumption) | assumption | refine List.mem_cons_of_mem _ ?_ | refine List.mem_append_right _ ?_)) (by first | (refine m_get 0 ?_; omega) | (refine m_get 0 ?_; simp only [*]; omega) | (refine m_get 0 ?_; simp only [List.length_set]; omega) | (refine m_get 0 (lt8L ?_); omega) | (refine m_get 0 (lt8B ?_); omega) | rfl)) ?_
      refine RL.q rfl rfl (QW.sub rfl rfl (wI_sub (a := _) (b := 1) (by omega) (by omega))) ?_
      refine RL.cons rfl (OW.store1 rfl rfl Tryz.sizeOf3 rfl (by repeat (first | exact List.mem_cons_self | exact List.mem_cons_of_mem _ (by assumption) | assumption | refine List.mem_cons_of_mem _ ?_ | refine List.mem_append_right _ ?_)) (by first | (simp only [List.length_map, List.length_replicate, List.length_cons, List.length_nil, List.length_set, Nat.mul_one] <;> omega) | (rw [List.length_map]; refine lt8B ?_; simp [*]; done) | (rw [List.length_map]; refine lt8L ?_; simp [*]; done) | (simp [*] <;> omega)) (by first | exact m_set _ _ _ | rfl) (by repeat (first | exact Upd.head | apply Upd.tail | apply Upd.tailA)) ?_)
      refine RL.nil (thenN ?_)
      refine CWr.region (by kernel_rfl) ?_
      refine RL.q rfl rfl (QW.load1 rfl Tryz.isAgg23 (by repeat (first | exact List.mem_cons_self | exact List.mem_cons_of_mem _ (by assumption) | assumption | refine List.mem_cons_of_mem _ ?_ | refine List.mem_append_right _ ?_)) (by first | (refine m_get 0 ?_; omega) | (refine m_get 0 ?_; simp only [*]; omega) | (refine m_get 0 ?_; simp only [List.length_set]; omega) | (refine m_get 0 (lt8L ?_); omega) | (refine m_get 0 (lt8B ?_); omega) | rfl)) ?_
      refine RL.q rfl rfl (QW.load1 rfl Tryz.isAgg3 (by repeat (first | exact List.mem_cons_self | exact List.mem_cons_of_mem _ (by assumption) | assumption | refine List.mem_cons_of_mem _ ?_ | refine List.mem_append_right _ ?_)) (by first | (refine m_get 0 ?_; omega) | (refine m_get 0 ?_; simp only [*]; omega) | (refine m_get 0 ?_; simp only [List.length_set]; omega) | (refine m_get 0 (lt8L ?_); omega) | (refine m_get 0 (lt8B ?_); omega) | rfl)) ?_
      refine RL.q rfl rfl (QW.move rfl) ?_
      refine RL.q rfl rfl (QW.conv Tryz.runUnderlying47 Tryz.runUnderlying5 rfl (w8_nat _)) ?_
      refine RL.q rfl rfl (QW.move rfl) ?_
      refine RL.q rfl rfl (QW.quo rfl rfl (by decide) (t64_quo _ 256)) ?_
      refine RL.q rfl rfl (QW.indexAddrS Tryz.runUnderlying23 Tryz.sizeOf5 rfl rfl (by omega) (by first | omega | exact lt8 _) (by first | exact ix01 _ | exact ixb1 _ _ | exact ix0m _ _ | exact ixbm _ _ _)) ?_
      refine RL.cons rfl (OW.store1 rfl rfl Tryz.sizeOf5 rfl (by repeat (first | exact List.mem_cons_self | exact List.mem_cons_of_mem _ (by assumption) | assumption | refine List.mem_cons_of_mem _ ?_ | refine List.mem_append_right _ ?_)) (by first | (simp only [List.length_map, List.length_replicate, List.length_cons, List.length_nil, List.length_set, Nat.mul_one] <;> omega) | (rw [List.length_map]; refine lt8B ?_; simp [*]; done) | (rw [List.length_map]; refine lt8L ?_; simp [*]; done) | (simp [*] <;> omega)) (by first | exact m_set _ _ _ | rfl) (by repeat (first | exact Upd.head | apply Upd.tail | apply Upd.tailA)) ?_)
      refine RL.q rfl rfl (QW.assign rfl) ?_
      refine RL.nil (blockN (thenN ?_))
      refine CWr.region (by kernel_rfl) ?_
      refine RL.q rfl rfl (QW.add rfl rfl (wI_add (a := _) (b := 1) (by omega))) ?_
      refine RL.q rfl rfl (QW.move rfl) ?_
      refine RL.nil (thenN ?_)
      refine ⟨i + 1, (by omega), (by omega), ?_, ?_⟩
      · repeat (first | exact leE_nil | refine leE_cons rfl ?_)
      · exact (keepS rfl (keepS rfl (keepS rfl (keepS (by rw [Nat.sub_sub]; rfl) (keepS rfl (keepS (by rw [rowL_set' _ _ _ _ (by omega)]; rfl) (List.Sublist.refl _)))))))
    · have hi : i = each := by simp at hc0; omega
      refine CWr.exit (thenX (thenX (blockX (blockN ⟨rfl, (D, .deferred (some [])) :: (bx, blk [sl gw off ws.length cw] 219) :: (b8, blk [nI (bs.length + each * q)] 3) :: (b7, blk [sl b18 0 (bs.length + each * ws.length) (bs.length + each * ws.length)] 23) :: (b18, blk ((rowL (bs.length + each * (q)) (beL ws each (q))).map u8) 5) :: (b4, blk [nI each] 3) :: S, (keepS rfl (keepS rfl (keepS rfl (keepS (by rw [show bs.length + each * (q + 1) - i = bs.length + each * q from by omega]) (keepS rfl (keepS (by rw [show bs.length + each * (q + 1) - i = bs.length + each * q from by omega, hi, beL_step ws each q hq]) (List.Sublist.refl _))))))), ?_⟩))))
      rfl
  · rintro v S' rfl
    refine ⟨(D, .deferred (some [])) :: (bx, blk [sl gw off ws.length cw] 219) :: (b8, blk [nI (bs.length)] 3) :: (b7, blk [sl b18 0 (bs.length + each * ws.length) (bs.length + each * ws.length)] 23) :: (b18, blk ((rowL bs.length (beL ws each 0)).map u8) 5) :: (b4, blk [nI each] 3) :: S, (keepS rfl (keepS rfl (keepS rfl (keepS rfl (keepS rfl (keepS rfl (List.Sublist.refl _))))))), ?_⟩
    refine id (blockN (thenN ?_))
    refine CW.seq ?_
    refine CW.region (by kernel_rfl) ?_
    refine RL.q rfl rfl (QW.load1 rfl Tryz.isAgg23 (by repeat (first | exact List.mem_cons_self | exact List.mem_cons_of_mem _ (by assumption) | assumption | refine List.mem_cons_of_mem _ ?_ | refine List.mem_append_right _ ?_)) (by first | (refine m_get 0 ?_; omega) | (refine m_get 0 ?_; simp only [*]; omega) | (refine m_get 0 ?_; simp only [List.length_set]; omega) | (refine m_get 0 (lt8L ?_); omega) | (refine m_get 0 (lt8B ?_); omega) | rfl)) ?_
    refine RL.q rfl rfl (QW.load1 rfl Tryz.isAgg3 (by repeat (first | exact List.mem_cons_self | exact List.mem_cons_of_mem _ (by assumption) | assumption | refine List.mem_cons_of_mem _ ?_ | refine List.mem_append_right _ ?_)) (by first | (refine m_get 0 ?_; omega) | (refine m_get 0 ?_; simp only [*]; omega) | (refine m_get 0 ?_; simp only [List.length_set]; omega) | (refine m_get 0 (lt8L ?_); omega) | (refine m_get 0 (lt8B ?_); omega) | rfl)) ?_
    refine RL.q rfl rfl (QW.sliceS0 Tryz.runUnderlying23 Tryz.sizeOf5 rfl (optV_some rfl) optV_none (.inl rfl) (by first | omega | (dsimp only; omega)) (by first | omega | (dsimp only; omega))) ?_
    refine RL.q rfl rfl (QW.move rfl) ?_
    refine RL.cons rfl (OW.copy (sz := 1) Tryz.runUnderlying23 Tryz.sizeOf5 rfl (by repeat (first | exact List.mem_cons_self | exact List.mem_cons_of_mem _ (by assumption) | assumption | refine List.mem_cons_of_mem _ ?_ | refine List.mem_append_right _ ?_)) rfl (Src.rdb (hv.mono fun p hp => by repeat (first | exact hp | refine List.mem_cons_of_mem _ ?_))) (by simp) (by first | exact m_all (fun _ => rfl) _ | rfl | (simp; done) | (simp only [List.all_cons, List.all_nil, oneB_buf, Bool.true_and, Bool.and_true]; rfl) | (simp [oneB]; done)) (by simp [rowL_len] <;> omega) (by rw [Nat.min_self, Nat.mul_one, List.take_of_length_le (by simp), m_wr, rowL_wr]) (by repeat (first | exact Upd.head | apply Upd.tail | apply Upd.tailA)) ?_)
    refine RL.nil (thenN ?_)
    refine CW.seq ?_
    refine CW.region (by kernel_rfl) ?_
    refine RL.q rfl rfl (QW.load1 rfl Tryz.isAgg23 (by repeat (first | exact List.mem_cons_self | exact List.mem_cons_of_mem _ (by assumption) | assumption | refine List.mem_cons_of_mem _ ?_ | refine List.mem_append_right _ ?_)) (by first | (refine m_get 0 ?_; omega) | (refine m_get 0 ?_; simp only [*]; omega) | (refine m_get 0 ?_; simp only [List.length_set]; omega) | (refine m_get 0 (lt8L ?_); omega) | (refine m_get 0 (lt8B ?_); omega) | rfl)) ?_
    refine RL.q rfl rfl (QW.assign rfl) ?_
    refine RL.nil (thenN ?_)
    refine CW.ret (retRM ((b18, blk ((bs ++ beL ws each 0).map u8) 5) :: S) rfl (List.Perm.refl _) (ResOk.one Tryz.results208 (ResV.tmp rfl)) (by repeat (first | exact List.Sublist.refl _ | (refine keepS ?_ ?_; with_reducible rfl) | (refine keepA ?_ ?_; with_reducible rfl) | (refine keepS ?_ ?_; rfl) | apply dropS | apply dropA)) ?_)
    exact ⟨b18, rfl, rfl⟩

end Go.Sl

/- Numbers as bytes: the walk, second part. -/
set_option linter.unusedVariables false
set_option linter.unusedSimpArgs false
namespace Go.Sl
open Go.Proofs

theorem row1_c (bs : List UInt8) (k : Nat) (x : UInt64) (a : Option Addr) (c gw cw : Nat) (T : TypeId) (S : HL) (hb : bs.length ≤ 1000000000) (he : k ≤ 8) (hv : RdB S (.slice a bs.length c) bs) (hm : (gw, blk [u64 x] T) ∈ S) :
    CallS Tryz.prog 208 ⟨[.slice a bs.length c, nI k, sl gw 0 1 cw]⟩ S fun v S' => ∃ b, v = sl b 0 (bs.length + k) (bs.length + k) ∧ S' = (b, blk ((bs ++ beF x k).map u8) 5) :: S := by
  have h := row_c bs k [x] a c gw 0 cw ([x].map u64) T (0, 0) S hb he (by simp) hv hm (hgetM [x] 0)
  have e : beL [x] k 0 = beF x k := by simp [beL]
  rw [e] at h
  simpa using h
/-- A long number's bytes. -/
def longF (n : List UInt64) : List UInt8 := beF (n.getD 3 0) 8 ++ (beF (n.getD 2 0) 8 ++ (beF (n.getD 1 0) 8 ++ beF (n.getD 0 0) 8))
@[simp] theorem longF_len (n : List UInt64) : (longF n).length = 32 := by simp [longF]
theorem row4_c (bs : List UInt8) (x y z w : UInt64) (a : Option Addr) (c gw cw : Nat) (T : TypeId) (S : HL) (hb : bs.length ≤ 1000000000) (hv : RdB S (.slice a bs.length c) bs) (hm : (gw, blk [u64 x, u64 y, u64 z, u64 w] T) ∈ S) :
    CallS Tryz.prog 208 ⟨[.slice a bs.length c, nI 8, sl gw 0 4 cw]⟩ S fun v S' => ∃ b, v = sl b 0 (bs.length + 32) (bs.length + 32) ∧ S' = (b, blk ((bs ++ (beF x 8 ++ (beF y 8 ++ (beF z 8 ++ beF w 8)))).map u8) 5) :: S := by
  have h := row_c bs 8 [x, y, z, w] a c gw 0 cw ([x, y, z, w].map u64) T (0, 0) S hb (by omega) (by simp) hv hm (hgetM [x, y, z, w] 0)
  have e : beL [x, y, z, w] 8 0 = beF x 8 ++ (beF y 8 ++ (beF z 8 ++ beF w 8)) := by simp [beL]
  rw [e] at h
  exact h
def w8F (bs : List UInt8) (k : Nat) : List UInt8 := wrL (List.replicate 8 0) (8 - k) (bs.take k)
theorem w8F_len (bs : List UInt8) (k : Nat) (hk : k ≤ 8) (hb : k ≤ bs.length) : (w8F bs k).length = 8 := by
  unfold w8F; rw [wrL_len (by simp; omega)]; simp
def getTo (w : List UInt8) : Nat → UInt64
  | 0 => 0
  | i + 1 => 256 * getTo w i + UInt64.ofNat (w.getD i 0).toNat
def getF (bs : List UInt8) (k : Nat) : UInt64 := getTo (w8F bs k) 8

theorem zv47 : ZV Tryz.prog 47 (u64 0) := fun _ => by kernel_rfl
theorem zv280 : ZV Tryz.prog 280 (.agg ⟨((List.replicate 8 0).map u8)⟩) := fun _ => by kernel_rfl
set_option maxRecDepth 100000 in
set_option maxHeartbeats 4000000 in
theorem Put_c (bs : List UInt8) (x : UInt64) (k : Nat) (a : Option Addr) (c : Nat) (S : HL) (hb : bs.length ≤ 1000000000) (hk : k ≤ 8) (hv : RdB S (.slice a bs.length c) bs) : CallS Tryz.prog 117 ⟨[.slice a bs.length c, u64 x, nI k]⟩ S fun v S' => ∃ b, v = sl b 0 (bs.length + k) (bs.length + k) ∧ S' = (b, blk ((bs ++ beF x k).map u8) 5) :: S := by
  refine CallS.enter Tryz.func117 rfl Tryz.ntmps117 (by simp) ?_
  refine CW.seq ?_
  refine CW.region (by kernel_rfl) ?_
  refine RL.q rfl rfl (QW.assign rfl) ?_
  refine RL.nil (thenN ?_)
  refine CW.seq ?_
  refine CW.region (by kernel_rfl) ?_
  refine RL.q rfl rfl (QW.move rfl) ?_
  refine RL.q rfl rfl (QW.move rfl) ?_
  refine RL.q rfl rfl (QW.minE (a := 8) rfl rfl (show min 8 k = k by omega)) ?_
  refine RL.q rfl rfl (QW.maxE (a := 0) rfl rfl (show max 0 k = k by omega)) ?_
  refine RL.q rfl rfl (QW.move rfl) ?_
  refine RL.cons rfl (OW.buildSlice1 Tryz.runUnderlying219 Tryz.sizeOf47 zv47 rfl rfl rfl ?_)
  intro b12
  refine RL.cons rfl (OW.call Tryz.call208 (ext3 rfl rfl rfl) ((row1_c bs k x a c _ _ _ _ hb hk (hv.mono fun p hp => by repeat (first | exact hp | refine List.mem_cons_of_mem _ ?_)) (by repeat (first | exact List.mem_cons_self | exact List.mem_cons_of_mem _ (by assumption) | assumption | refine List.mem_cons_of_mem _ ?_ | refine List.mem_append_right _ ?_))).mono ?_))
  rintro v S' ⟨bq, rfl, rfl⟩
  refine RL.q rfl rfl (QW.assign rfl) ?_
  refine RL.nil (thenN ?_)
  refine CW.ret (retR ((bq, blk ((bs ++ beF x k).map u8) 5) :: S) (ResOk.one Tryz.results117 (ResV.tmp rfl)) (by repeat (first | exact List.Sublist.refl _ | (refine keepS ?_ ?_; with_reducible rfl) | (refine keepA ?_ ?_; with_reducible rfl) | (refine keepS ?_ ?_; rfl) | apply dropS | apply dropA)) ?_)
  exact ⟨bq, rfl, rfl⟩

set_option maxRecDepth 100000 in
set_option maxHeartbeats 4000000 in
theorem PutLong_c (bs : List UInt8) (nn : List UInt64) (a : Option Addr) (c : Nat) (S : HL) (hb : bs.length ≤ 1000000000) (hn : nn.length = 4) (hv : RdB S (.slice a bs.length c) bs) : CallS Tryz.prog 114 ⟨[.slice a bs.length c, .agg ⟨nn.map u64⟩]⟩ S fun v S' => ∃ b, v = sl b 0 (bs.length + 32) (bs.length + 32) ∧ S' = (b, blk ((bs ++ longF nn).map u8) 5) :: S := by
  refine CallS.enter Tryz.func114 rfl Tryz.ntmps114 (by simp) ?_
  refine CW.seq ?_
  refine CW.region (by kernel_rfl) ?_
  refine RL.cons rfl (OW.boxN rfl ?_)
  intro b3
  refine RL.q rfl rfl (QW.assign rfl) ?_
  refine RL.nil (thenN ?_)
  refine CW.seq ?_
  refine CW.region (by kernel_rfl) ?_
  refine RL.q rfl rfl (QW.move rfl) ?_
  refine RL.q rfl rfl (QW.indexAddrA Tryz.runUnderlying49 Tryz.sizeOf47 rfl rfl (by omega) (by first | omega | exact lt8 _) (by first | exact ix01 3 | exact ixb1 _ 3 | exact ix0m 3 _ | exact ixbm _ 3 _)) ?_
  refine RL.q rfl rfl (QW.load1 rfl Tryz.isAgg47 (by repeat (first | exact List.mem_cons_self | exact List.mem_cons_of_mem _ (by assumption) | assumption | refine List.mem_cons_of_mem _ ?_ | refine List.mem_append_right _ ?_)) (by first | (refine m_get 0 ?_; omega) | (refine m_get 0 ?_; simp only [*]; omega) | (refine m_get 0 ?_; simp only [List.length_set]; omega) | (refine m_get 0 (lt8L ?_); omega) | (refine m_get 0 (lt8B ?_); omega) | rfl)) ?_
  refine RL.q rfl rfl (QW.indexAddrA Tryz.runUnderlying49 Tryz.sizeOf47 rfl rfl (by omega) (by first | omega | exact lt8 _) (by first | exact ix01 2 | exact ixb1 _ 2 | exact ix0m 2 _ | exact ixbm _ 2 _)) ?_
  refine RL.q rfl rfl (QW.load1 rfl Tryz.isAgg47 (by repeat (first | exact List.mem_cons_self | exact List.mem_cons_of_mem _ (by assumption) | assumption | refine List.mem_cons_of_mem _ ?_ | refine List.mem_append_right _ ?_)) (by first | (refine m_get 0 ?_; omega) | (refine m_get 0 ?_; simp only [*]; omega) | (refine m_get 0 ?_; simp only [List.length_set]; omega) | (refine m_get 0 (lt8L ?_); omega) | (refine m_get 0 (lt8B ?_); omega) | rfl)) ?_
  refine RL.q rfl rfl (QW.indexAddrA Tryz.runUnderlying49 Tryz.sizeOf47 rfl rfl (by omega) (by first | omega | exact lt8 _) (by first | exact ix01 1 | exact ixb1 _ 1 | exact ix0m 1 _ | exact ixbm _ 1 _)) ?_
  refine RL.q rfl rfl (QW.load1 rfl Tryz.isAgg47 (by repeat (first | exact List.mem_cons_self | exact List.mem_cons_of_mem _ (by assumption) | assumption | refine List.mem_cons_of_mem _ ?_ | refine List.mem_append_right _ ?_)) (by first | (refine m_get 0 ?_; omega) | (refine m_get 0 ?_; simp only [*]; omega) | (refine m_get 0 ?_; simp only [List.length_set]; omega) | (refine m_get 0 (lt8L ?_); omega) | (refine m_get 0 (lt8B ?_); omega) | rfl)) ?_
  refine RL.q rfl rfl (QW.indexAddrA Tryz.runUnderlying49 Tryz.sizeOf47 rfl rfl (by omega) (by first | omega | exact lt8 _) (by first | exact ix01 0 | exact ixb1 _ 0 | exact ix0m 0 _ | exact ixbm _ 0 _)) ?_
  refine RL.q rfl rfl (QW.load1 rfl Tryz.isAgg47 (by repeat (first | exact List.mem_cons_self | exact List.mem_cons_of_mem _ (by assumption) | assumption | refine List.mem_cons_of_mem _ ?_ | refine List.mem_append_right _ ?_)) (by first | (refine m_get 0 ?_; omega) | (refine m_get 0 ?_; simp only [*]; omega) | (refine m_get 0 ?_; simp only [List.length_set]; omega) | (refine m_get 0 (lt8L ?_); omega) | (refine m_get 0 (lt8B ?_); omega) | rfl)) ?_
  refine RL.cons rfl (OW.buildSliceP (cells := [_, _, _, _]) Tryz.runUnderlying219 Tryz.sizeOf47 zv47 rfl (by decide) (by decide) (parts4 rfl rfl rfl rfl) rfl ?_)
  intro b14
  refine RL.cons rfl (OW.call Tryz.call208 (ext3 rfl rfl rfl) ((row4_c bs _ _ _ _ a c _ _ _ _ hb (hv.mono fun p hp => by repeat (first | exact hp | refine List.mem_cons_of_mem _ ?_)) (by repeat (first | exact List.mem_cons_self | exact List.mem_cons_of_mem _ (by assumption) | assumption | refine List.mem_cons_of_mem _ ?_ | refine List.mem_append_right _ ?_))).mono ?_))
  rintro v S' ⟨bq, rfl, rfl⟩
  refine RL.q rfl rfl (QW.assign rfl) ?_
  refine RL.nil (thenN ?_)
  refine CW.ret (retR ((bq, blk ((bs ++ longF nn).map u8) 5) :: S) (ResOk.one Tryz.results114 (ResV.tmp rfl)) (by repeat (first | exact List.Sublist.refl _ | (refine keepS ?_ ?_; with_reducible rfl) | (refine keepA ?_ ?_; with_reducible rfl) | (refine keepS ?_ ?_; rfl) | apply dropS | apply dropA)) ?_)
  exact ⟨bq, rfl, rfl⟩

set_option maxRecDepth 100000 in
set_option maxHeartbeats 4000000 in
theorem Get_c (bs : List UInt8) (k c : Nat) (a : Option Addr) (S : HL) (hv : RdB S (.slice a bs.length c) bs) (hk : 0 < k) (hk8 : k ≤ 8) (hkb : k ≤ bs.length) : CallS Tryz.prog 123 ⟨[.slice a bs.length c, nI k]⟩ S fun v S' => v = .tuple #[u64 (getF bs k), nI 0] ∧ S = S' := by
  refine CallS.enter Tryz.func123 rfl Tryz.ntmps123 (by simp) ?_
  refine CW.seq ?_
  refine CW.region (by kernel_rfl) ?_
  refine RL.q rfl rfl (QW.assign rfl) ?_
  refine RL.q rfl rfl (QW.assign rfl) ?_
  refine RL.nil (thenN ?_)
  refine CW.seq ?_
  refine CW.seq ?_
  refine CW.region (by kernel_rfl) ?_
  refine RL.q rfl rfl (QW.move rfl) ?_
  refine RL.q rfl rfl (QW.lss (t := false) rfl rfl (by simp <;> omega)) ?_
  refine RL.q rfl rfl (QW.move rfl) ?_
  first | (refine RL.guard_no rfl rfl rfl rfl rfl ?_) | (refine RL.guard_yes rfl rfl rfl rfl (OW.q rfl (QW.move rfl) ?_))
  first | (refine RL.guard_no rfl rfl rfl rfl rfl ?_) | (refine RL.guard_yes rfl rfl rfl rfl (OW.q rfl (QW.gtr (t := false) rfl rfl (by simp <;> omega)) ?_))
  refine RL.q rfl rfl ((by first | exact QW.pick_t rfl rfl | exact QW.pick_f rfl rfl)) ?_
  refine RL.nil (thenN ?_)
  refine CW.cond_false rfl ?_
  refine CW.skip (thenN ?_)
  refine CW.seq ?_
  refine CW.seq ?_
  refine CW.region (by kernel_rfl) ?_
  refine RL.q rfl rfl (QW.move rfl) ?_
  refine RL.q rfl rfl (QW.len_s Tryz.runUnderlying23 rfl) ?_
  refine RL.q rfl rfl (QW.move rfl) ?_
  refine RL.q rfl rfl (QW.lss (t := false) rfl rfl (by simp <;> omega)) ?_
  refine RL.nil (thenN ?_)
  refine CW.cond_false rfl ?_
  refine CW.skip (thenN ?_)
  refine CW.seq ?_
  refine CW.region (by kernel_rfl) ?_
  refine RL.cons rfl (OW.alloc zv280 rfl ?_)
  intro b6
  refine RL.nil (thenN ?_)
  refine CW.seq ?_
  refine CW.region (by kernel_rfl) ?_
  refine RL.q rfl rfl (QW.move rfl) ?_
  refine RL.q rfl rfl (QW.sub rfl rfl (wI_sub (a := 8) (b := _) (by omega) (by omega))) ?_
  refine RL.q rfl rfl (QW.sliceA Tryz.runUnderlying280 Tryz.sizeOf5 rfl (optV_some rfl) optV_none optV_none (.inl rfl) (by omega) (by omega) (by omega) (by first | exact sliceOff0 _ _ _ | exact sliceOff1' (by omega) | exact sliceOffB (by omega) | exact sliceOff1 (by omega) | rfl)) ?_
  refine RL.q rfl rfl (QW.move rfl) ?_
  refine RL.cons rfl (OW.copy (sz := 1) Tryz.runUnderlying23 Tryz.sizeOf5 rfl (by repeat (first | exact List.mem_cons_self | exact List.mem_cons_of_mem _ (by assumption) | assumption | refine List.mem_cons_of_mem _ ?_ | refine List.mem_append_right _ ?_)) rfl (Src.rdb (hv.mono fun p hp => by repeat (first | exact hp | refine List.mem_cons_of_mem _ ?_))) (by simp) (by first | exact m_all (fun _ => rfl) _ | rfl | (simp; done) | (simp only [List.all_cons, List.all_nil, oneB_buf, Bool.true_and, Bool.and_true]; rfl) | (simp [oneB]; done)) (by simp <;> omega) ((congrArg (wrL _ _) (show _ = (bs.take k).map u8 from by rw [show min bs.length (8 - (8 - k)) * 1 = k from by omega, List.map_take])).trans (m_wr _ _ _)) (by repeat (first | exact Upd.head | apply Upd.tail | apply Upd.tailA)) ?_)
  refine RL.nil (thenN ?_)
  refine CW.seq ?_
  refine CW.seq ?_
  refine CW.region (by kernel_rfl) ?_
  refine RL.q rfl rfl (QW.move rfl) ?_
  refine RL.nil (thenN ?_)
  refine CW.block ?_
  refine CW.loopT (ι := Nat) [(5, _), (6, _)] (by repeat (first | exact leE_nil | refine leE_cons rfl ?_)) (fun i => i ≤ 8) (fun i r => (23, nI i) :: (4, u64 (getTo (w8F bs k) i)) :: r) (fun i => (b6, blk ((w8F bs k).map u8) 280) :: S) (fun i => 8 - i) 0 (by omega) (by repeat (first | exact leE_nil | refine leE_cons (by first | rfl | (rfl)) ?_)) (keepS rfl (List.Sublist.refl _)) ?_
  intro i hI
  have h8 := w8F_len bs k hk8 hkb
  refine CW.seq ?_
  refine CW.region (by kernel_rfl) ?_
  refine RL.q rfl rfl (QW.lss rfl rfl (dI_lt _ 8)) ?_
  refine RL.nil (thenN ?_)
  refine CW.seq ?_
  refine CW.cond rfl (fun hc2 => ?_) (fun hc2 => ?_)
  · have hi : i < 8 := by simpa using hc2
    refine CW.skip (thenN ?_)
    refine CW.seq ?_
    refine CW.block ?_
    refine CW.seq ?_
    refine CW.region (by kernel_rfl) ?_
    refine RL.q rfl rfl (QW.move rfl) ?_
    refine RL.q rfl rfl (QW.assign rfl) ?_
    refine RL.nil (thenN ?_)
    refine CW.region (by kernel_rfl) ?_
    refine RL.q rfl rfl (QW.move rfl) ?_
    refine RL.q rfl rfl (QW.mul rfl rfl (w64_mul 256 _)) ?_
    refine RL.q rfl rfl (QW.move rfl) ?_
    refine RL.q rfl rfl (QW.indexAddrA Tryz.runUnderlying280 Tryz.sizeOf5 rfl rfl (by omega) (by first | omega | exact lt8 _) (by first | exact ix01 _ | exact ixb1 _ _ | exact ix0m _ _ | exact ixbm _ _ _)) ?_
    refine RL.q rfl rfl (QW.load1 rfl Tryz.isAgg5 (by repeat (first | exact List.mem_cons_self | exact List.mem_cons_of_mem _ (by assumption) | assumption | refine List.mem_cons_of_mem _ ?_ | refine List.mem_append_right _ ?_)) (by first | (refine m_get 0 ?_; omega) | (refine m_get 0 ?_; simp only [*]; omega) | (refine m_get 0 ?_; simp only [List.length_set]; omega) | (refine m_get 0 (lt8L ?_); omega) | (refine m_get 0 (lt8B ?_); omega) | rfl)) ?_
    refine RL.q rfl rfl (QW.conv Tryz.runUnderlying5 Tryz.runUnderlying47 rfl (w64_nat _)) ?_
    refine RL.q rfl rfl (QW.add rfl rfl (w64_add _ _)) ?_
    refine RL.q rfl rfl (QW.assign rfl) ?_
    refine RL.nil (blockN (thenN ?_))
    refine CW.region (by kernel_rfl) ?_
    refine RL.q rfl rfl (QW.add rfl rfl (wI_add (a := _) (b := 1) (by omega))) ?_
    refine RL.q rfl rfl (QW.move rfl) ?_
    refine RL.nil (thenN ?_)
    refine ⟨i + 1, (by omega), (by omega), ?_, ?_⟩
    · repeat (first | exact leE_nil | refine leE_cons rfl ?_)
    · exact List.Sublist.refl _
  · have hi : i = 8 := by simp at hc2; omega
    subst hi
    refine CW.exit (thenX (thenX (blockX (thenN ?_))))
    refine CW.seq ?_
    refine CW.region (by kernel_rfl) ?_
    refine RL.q rfl rfl (QW.move rfl) ?_
    refine RL.q rfl rfl (QW.assign rfl) ?_
    refine RL.q rfl rfl (QW.assign rfl) ?_
    refine RL.nil (thenN ?_)
    refine CW.ret (retR (S) (ResOk.two Tryz.results123 (ResV.tmp rfl) (ResV.tmp rfl)) (by repeat (first | exact List.Sublist.refl _ | (refine keepS ?_ ?_; with_reducible rfl) | (refine keepA ?_ ?_; with_reducible rfl) | (refine keepS ?_ ?_; rfl) | apply dropS | apply dropA)) ?_)
    exact ⟨rfl, rfl⟩

end Go.Sl

/- shas: the walk, first part. -/
set_option linter.unusedVariables false
set_option linter.unusedSimpArgs false
namespace Go.Sl
open Go.Proofs

def negN (n : Nat) : Nat := 18446744073709551616 - n
def rotS (n : Nat) : UInt64 := UInt64.ofNat (negN n) &&& 31
def rotF (x : UInt32) (n : Nat) : UInt32 := shl32 x (rotS n).toNat ||| shr32 x (32 - rotS n).toNat
theorem w64_neg (n : Nat) (h : n ≤ 64) : IntKind.wrap .u64 (0 - (n : Int)) = ((UInt64.ofNat (negN n)).toNat : Int) := by
  rw [← w64_nat]
  unfold negN
  simp only [IntKind.wrap, IntKind.signed, IntKind.bits]
  simp
  omega
def downTo (x : UInt32) (ns : List Nat) : Nat → UInt32
  | 0 => 0
  | k + 1 => downTo x ns k ^^^ rotF x (ns.getD k 0)
def downF (x : UInt32) (ns : List Nat) : UInt32 := downTo x ns ns.length
attribute [irreducible] rotF negN
theorem rotF_eq (x : UInt32) (n : Nat) : rotF x n = shl32 x (rotS n).toNat ||| shr32 x (32 - rotS n).toNat := by unfold rotF; rfl


set_option maxRecDepth 100000 in
set_option maxHeartbeats 4000000 in
theorem rot_c (x : UInt32) (n : Nat) (S : HL) (hn : n ≤ 64) : CallS Tryz.prog 355 ⟨[u32 x, .int .i64 (0 - (n : Int))]⟩ S fun v S' => v = u32 (rotF x n) ∧ S = S' := by
  refine CallS.enter Tryz.func355 rfl Tryz.ntmps355 (by simp) ?_
  refine CW.seq ?_
  refine CW.region (by kernel_rfl) ?_
  refine RL.q rfl rfl (QW.assign rfl) ?_
  refine RL.nil (thenN ?_)
  refine CW.seq ?_
  refine CW.region (by kernel_rfl) ?_
  refine RL.q rfl rfl (QW.move rfl) ?_
  refine RL.q rfl rfl (QW.conv Tryz.runUnderlying3 Tryz.runUnderlying298 rfl (w64_neg n hn)) ?_
  refine RL.q rfl rfl (QW.and_ rfl rfl (x64_and _ 31)) ?_
  refine RL.q rfl rfl (QW.assign rfl) ?_
  refine RL.nil (thenN ?_)
  refine CW.seq ?_
  refine CW.region (by kernel_rfl) ?_
  refine RL.q rfl rfl (QW.move rfl) ?_
  refine RL.q rfl rfl (QW.move rfl) ?_
  refine RL.q rfl rfl (QW.shl rfl rfl (by omega) (h32_shl _ _)) ?_
  refine RL.q rfl rfl (QW.move rfl) ?_
  refine RL.q rfl rfl (QW.move rfl) ?_
  refine RL.q rfl rfl (QW.sub rfl rfl (w64_sub 32 _)) ?_
  refine RL.q rfl rfl (QW.shr rfl rfl (by omega) (h32_shr _ _)) ?_
  refine RL.q rfl rfl (QW.or_ rfl rfl (x32_or _ _)) ?_
  refine RL.q rfl rfl (QW.assign rfl) ?_
  refine RL.nil (thenN ?_)
  refine CW.ret (retR (S) (ResOk.one Tryz.results355 (ResV.tmp rfl)) (by repeat (first | exact List.Sublist.refl _ | (refine keepS ?_ ?_; with_reducible rfl) | (refine keepA ?_ ?_; with_reducible rfl) | (refine keepS ?_ ?_; rfl) | apply dropS | apply dropA)) ?_)
  exact ⟨by rw [rotF_eq]; rfl, rfl⟩

set_option maxRecDepth 100000 in
set_option maxHeartbeats 4000000 in
theorem down_c (x : UInt32) (ns : List Nat) (gb c : Nat) (T : TypeId) (fr : Nat × Nat) (S : HL) (hm : (gb, Obj.cells ⟨ns.map nI⟩ T fr) ∈ S) (hlen : ns.length ≤ 1000) (hall : ∀ i, i < ns.length → ns.getD i 0 ≤ 64) : CallS Tryz.prog 330 ⟨[u32 x, sl gb 0 ns.length c]⟩ S fun v S' => v = u32 (downF x ns) ∧ S = S' := by
  refine CallS.enter Tryz.func330 rfl Tryz.ntmps330 (by simp) ?_
  refine CW.seq ?_
  refine CW.region (by kernel_rfl) ?_
  refine RL.q rfl rfl (QW.assign rfl) ?_
  refine RL.nil (thenN ?_)
  refine CW.seq ?_
  refine CW.region (by kernel_rfl) ?_
  refine RL.q rfl rfl (QW.assign rfl) ?_
  refine RL.nil (thenN ?_)
  refine CW.seq ?_
  refine CW.seq ?_
  refine CW.region (by kernel_rfl) ?_
  refine RL.q rfl rfl (QW.move rfl) ?_
  refine RL.q rfl rfl (QW.len_s Tryz.runUnderlying195 rfl) ?_
  refine RL.q rfl rfl (QW.move rfl) ?_
  refine RL.nil (thenN ?_)
  refine CW.block ?_
  refine CW.loopT (ι := Nat) [(0, _), (4, _), (8, _), (9, _)] (by repeat (first | exact leE_nil | refine leE_cons rfl ?_)) (fun i => i ≤ ns.length) (fun i r => (10, nI i) :: (5, u32 (downTo x ns i)) :: r) (fun i => S) (fun i => ns.length - i) 0 (by omega) (by repeat (first | exact leE_nil | refine leE_cons (by first | rfl | (rfl)) ?_)) (by repeat (first | exact List.Sublist.refl _ | (refine keepS ?_ ?_; with_reducible rfl) | (refine keepA ?_ ?_; with_reducible rfl) | (refine keepS ?_ ?_; rfl) | apply dropS | apply dropA)) ?_
  intro i hI
  refine CW.seq ?_
  refine CW.region (by kernel_rfl) ?_
  refine RL.q rfl rfl (QW.lss rfl rfl (dI_lt _ _)) ?_
  refine RL.nil (thenN ?_)
  refine CW.seq ?_
  refine CW.cond rfl (fun hc0 => ?_) (fun hc0 => ?_)
  · have hi : i < ns.length := by simpa using hc0
    have hn64 := hall i hi
    refine CW.skip (thenN ?_)
    refine CW.seq ?_
    refine CW.block ?_
    refine CW.seq ?_
    refine CW.region (by kernel_rfl) ?_
    refine RL.q rfl rfl (QW.indexAddrS Tryz.runUnderlying195 Tryz.sizeOf3 rfl rfl (by omega) (by first | omega | exact lt8 _) (by first | exact ix01 _ | exact ixb1 _ _ | exact ix0m _ _ | exact ixbm _ _ _)) ?_
    refine RL.q rfl rfl (QW.load1 rfl Tryz.isAgg3 (by repeat (first | exact List.mem_cons_self | exact List.mem_cons_of_mem _ (by assumption) | assumption | refine List.mem_cons_of_mem _ ?_ | refine List.mem_append_right _ ?_)) (by first | (refine m_get (f := nI) 0 ?_; omega) | rfl)) ?_
    refine RL.q rfl rfl (QW.assign rfl) ?_
    refine RL.nil (thenN ?_)
    refine CW.region (by kernel_rfl) ?_
    refine RL.q rfl rfl (QW.move rfl) ?_
    refine RL.q rfl rfl (QW.move rfl) ?_
    refine RL.q rfl rfl (QW.move rfl) ?_
    refine RL.q rfl rfl (QW.neg rfl (w64 (by omega))) ?_
    refine RL.cons rfl (OW.call Tryz.call355 (ext2 rfl rfl) ((rot_c x (ns.getD i 0) _ hn64).mono ?_))
    rintro v S' ⟨rfl, rfl⟩
    refine RL.q rfl rfl (QW.xor_ rfl rfl (x32_xor _ _)) ?_
    refine RL.q rfl rfl (QW.assign rfl) ?_
    refine RL.nil (blockN (thenN ?_))
    refine CW.region (by kernel_rfl) ?_
    refine RL.q rfl rfl (QW.add rfl rfl (wI_add (a := _) (b := 1) (by omega))) ?_
    refine RL.q rfl rfl (QW.move rfl) ?_
    refine RL.nil (thenN ?_)
    refine ⟨i + 1, (by omega), (by omega), ?_, ?_⟩
    · repeat (first | exact leE_nil | refine leE_cons rfl ?_)
    · exact List.Sublist.refl _
  · have hi : i = ns.length := by simp at hc0; omega
    subst hi
    refine CW.exit (thenX (thenX (blockX (thenN ?_))))
    refine CW.seq ?_
    refine CW.region (by kernel_rfl) ?_
    refine RL.q rfl rfl (QW.move rfl) ?_
    refine RL.q rfl rfl (QW.assign rfl) ?_
    refine RL.nil (thenN ?_)
    refine CW.ret (retR (S) (ResOk.one Tryz.results330 (ResV.tmp rfl)) (by repeat (first | exact List.Sublist.refl _ | (refine keepS ?_ ?_; with_reducible rfl) | (refine keepA ?_ ?_; with_reducible rfl) | (refine keepS ?_ ?_; rfl) | apply dropS | apply dropA)) ?_)
    exact ⟨rfl, rfl⟩

end Go.Sl
