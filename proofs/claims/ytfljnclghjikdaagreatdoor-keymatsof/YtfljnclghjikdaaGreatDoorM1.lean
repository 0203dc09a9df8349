/- A part of a proof: N10, M1. -/
import Derived.Test.YtfljnclghjikdaaGreatDoorProg
import Derived.Test.YtfljnclghjikdaaGreatDoorN9
/- macs.Of. -/
set_option linter.unusedVariables false
set_option linter.unusedSimpArgs false
namespace Go.Sl
open Go.Proofs

attribute [local irreducible] st
theorem memDrop3 {x a b c : Nat × Obj} {Z R : HL} (h : x ∈ Z ++ a :: b :: c :: R) (hne : x.2 ≠ c.2) : x ∈ Z ++ a :: b :: R := by
  have h2 : x ∈ (Z ++ [a, b]) ++ c :: R := by simpa using h
  simpa using memDrop h2 hne


set_option maxRecDepth 100000 in
set_option maxHeartbeats 4000000 in
theorem MacOf_c (key : List UInt8) (parts : List (List UInt8)) (vk : Value) (gp off cp : Nat) (pv : List Value) (T : TypeId) (fr : Nat × Nat) (S : HL) (hk : RdS S vk key) (hkl : key.length ≤ 64) (hp : (gp, Obj.cells ⟨pv⟩ T fr) ∈ S) (hpv : ∀ i, i < parts.length → ∃ v, pv[off + i]? = some v ∧ RdS S v (parts.getD i [])) (hlen : ∀ i, i < parts.length → (parts.getD i []).length ≤ 1000000000) (hn : parts.length ≤ 1000) : CallS Tryz.prog 113 ⟨[vk, sl gp off parts.length cp]⟩ S fun v S' => v = .agg ⟨(hmacP key parts.flatten).map u8⟩ ∧ S = S' := by
  obtain ⟨hkr, ak, ck, rfl, hck⟩ := hk
  have hpk := padK_len key hkl
  refine CallS.enter Tryz.func113 rfl Tryz.ntmps113 (by simp) ?_
  refine CW.seq ?_
  refine CW.region (by kernel_rfl) ?_
  refine RL.cons rfl (OW.alloc zv51 rfl ?_)
  intro b4
  refine RL.nil (thenN ?_)
  refine CW.seq ?_
  refine CW.region (by kernel_rfl) ?_
  refine RL.cons rfl (OW.alloc zv270 rfl ?_)
  intro b5
  refine RL.nil (thenN ?_)
  refine CW.seq ?_
  refine CW.seq ?_
  refine CW.region (by kernel_rfl) ?_
  refine RL.q rfl rfl (QW.move rfl) ?_
  refine RL.q rfl rfl (QW.len_s Tryz.runUnderlying23 rfl) ?_
  refine RL.q rfl rfl (QW.gtr rfl rfl (dI_lt 64 _)) ?_
  refine RL.nil (thenN ?_)
  refine CW.cond rfl (fun hc0 => ?_) (fun hc0 => ?_)
  · exfalso; simp at hc0; omega
  · refine CW.skip (thenN ?_)
    refine CW.seq ?_
    refine CW.region (by kernel_rfl) ?_
    refine RL.q rfl rfl (QW.sliceA0 Tryz.runUnderlying270 Tryz.sizeOf5 rfl optV_none optV_none (.inl rfl) (by first | omega | (dsimp only; omega)) (by first | omega | (dsimp only; omega))) ?_
    refine RL.q rfl rfl (QW.move rfl) ?_
    refine RL.cons rfl (OW.copy (sz := 1) Tryz.runUnderlying23 Tryz.sizeOf5 rfl (by repeat (first | exact List.mem_cons_self | exact List.mem_cons_of_mem _ (by assumption) | assumption | refine List.mem_cons_of_mem _ ?_ | refine List.mem_append_right _ ?_)) rfl (Src.rdb (hkr.mono (fun p hp => by repeat (first | exact hp | refine List.mem_cons_of_mem _ ?_ | refine List.mem_append_right _ ?_)))) (by simp) (by first | exact m_all (fun _ => rfl) _ | rfl | (simp; done) | (simp only [List.all_cons, List.all_nil, oneB_buf, Bool.true_and, Bool.and_true]; rfl) | (simp [oneB]; done)) (by simp) ((congrArg (wrL _ _) (List.take_of_length_le (by simp; omega))).trans ((m_wr _ _ _).trans (by rw [← padK_eq]))) (by repeat (first | exact Upd.head | apply Upd.tail | apply Upd.tailA)) ?_)
    refine RL.nil (thenN ?_)
    refine CW.seq ?_
    refine CW.region (by kernel_rfl) ?_
    refine RL.q rfl rfl (QW.makeFunc (fun _ _ => ext_nil) (ext1 rfl)) ?_
    refine RL.q rfl rfl (QW.assign rfl) ?_
    refine RL.nil (thenN ?_)
    refine CW.seq ?_
    refine CW.region (by kernel_rfl) ?_
    refine RL.cons rfl (OW.call Tryz.call205 (fun _ _ => ext_nil) ((New_c _).mono ?_))
    rintro v S' ⟨gi, bi, rfl, rfl⟩
    refine RL.cons rfl (OW.call Tryz.call205 (fun _ _ => ext_nil) ((New_c _).mono ?_))
    rintro v S' ⟨go, bo, rfl, rfl⟩
    refine RL.q rfl rfl (QW.assign rfl) ?_
    refine RL.q rfl rfl (QW.assign rfl) ?_
    refine RL.nil (thenN ?_)
    refine CW.seq ?_
    refine CW.region (by kernel_rfl) ?_
    refine RL.q rfl rfl (QW.move rfl) ?_
    refine RL.q rfl rfl (QW.move rfl) ?_
    refine RL.cons rfl (OW.callV rfl Tryz.call204 (ext1 rfl) ((against2_c 54 (padK key) b5 _ hpk (by repeat (first | exact List.mem_cons_self | exact List.mem_cons_of_mem _ (by assumption) | assumption | refine List.mem_cons_of_mem _ ?_ | refine List.mem_append_right _ ?_))).mono ?_))
    rintro v S' ⟨gx, rfl, rfl⟩
    refine RL.cons rfl (OW.call Tryz.call206 (ext2 rfl rfl) ((Write_u [] (xorK (padK key) 54) _ gi bi (Seg2.tail (Seg2.tail (Seg2.tail Seg2.head))) (by repeat (first | exact List.mem_cons_self | exact List.mem_cons_of_mem _ (by assumption) | assumption | refine List.mem_cons_of_mem _ ?_ | refine List.mem_append_right _ ?_)) (rdS_all (T := 270) List.mem_cons_self (by rw [xorK_len, hpk])) (by rw [xorK_len, hpk]; decide)).mono ?_))
    rintro v S' ⟨Z, bs, rfl, hS, hbbs⟩
    try dsimp only at hS
    subst hS
    have hbs1 := memDrop hbbs (cells_ne (by decide))
    refine RL.nil (thenN ?_)
    refine CW.seq ?_
    refine CW.seq ?_
    refine CW.region (by kernel_rfl) ?_
    refine RL.q rfl rfl (QW.move rfl) ?_
    refine RL.q rfl rfl (QW.len_s Tryz.runUnderlying83 rfl) ?_
    refine RL.q rfl rfl (QW.move rfl) ?_
    refine RL.nil (thenN ?_)
    refine CW.block ?_
    refine CW.loopT3 (α := Nat) (β := Nat) (γ := HL) [(4, _), (7, _), (8, _), (9, _), (29, _), (30, _)] (by repeat (first | exact leE_nil | refine leE_cons rfl ?_)) (fun i bs Z => i ≤ parts.length ∧ (bs, blk ((st (([] ++ xorK (padK key) 54) ++ (parts.take i).flatten)).1.map u32) 333) ∈ Z ++ ((go, runO bo []) :: (bo, blk ((st []).1.map u32) 333) :: (bi, blk ((st []).1.map u32) 333) :: (b5, blk ((padK key).map u8) 270) :: (b4, blk ((List.replicate 32 0).map u8) 51) :: S)) (fun i bs Z r => (31, nI i) :: r) (fun i bs Z => Z ++ ((go, runO bo []) :: (bo, blk ((st []).1.map u32) 333) :: (gi, runO bs (([] ++ xorK (padK key) 54) ++ (parts.take i).flatten)) :: (bi, blk ((st []).1.map u32) 333) :: (b5, blk ((padK key).map u8) 270) :: (b4, blk ((List.replicate 32 0).map u8) 51) :: S)) (fun i bs Z => parts.length - i) 0 bs Z ⟨Nat.zero_le _, by
      rw [List.take_zero, List.flatten_nil, List.append_nil]
      exact hbs1⟩ (by repeat (first | exact leE_nil | refine leE_cons (by first | rfl | (rfl)) ?_)) (keepA rfl (dropS (keepS rfl (keepS rfl (keepS (by rw [List.take_zero, List.flatten_nil, List.append_nil]) (List.Sublist.refl _)))))) ?_
    intro i bs Z ⟨hI, hbs⟩
    refine CW.seq ?_
    refine CW.region (by kernel_rfl) ?_
    refine RL.q rfl rfl (QW.lss rfl rfl (dI_lt _ _)) ?_
    refine RL.nil (thenN ?_)
    refine CW.seq ?_
    refine CW.cond rfl (fun hc1 => ?_) (fun hc1 => ?_)
    · have hi : i < parts.length := by simpa using hc1
      obtain ⟨vi, hpvi, hvi⟩ := hpv i hi
      obtain ⟨hvr, ai, ci, rfl, hci⟩ := hvi
      have hvi : RdS S (.slice ai (parts.getD i []).length ci) (parts.getD i []) := ⟨hvr, ai, ci, rfl, hci⟩
      have hpl := hlen i hi
      refine CW.skip (thenN ?_)
      refine CW.seq ?_
      refine CW.block ?_
      refine CW.seq ?_
      refine CW.region (by kernel_rfl) ?_
      refine RL.q rfl rfl (QW.indexAddrS Tryz.runUnderlying83 Tryz.sizeOf23 rfl rfl (by omega) (by first | omega | exact lt8 _) (by first | exact ix01 _ | exact ixb1 _ _ | exact ix0m _ _ | exact ixbm _ _ _)) ?_
      refine RL.q rfl rfl (QW.load1 rfl Tryz.isAgg23 (by repeat (first | exact hp | refine List.mem_cons_of_mem _ ?_ | refine List.mem_append_right _ ?_)) hpvi) ?_
      refine RL.q rfl rfl (QW.assign rfl) ?_
      refine RL.nil (thenN ?_)
      refine CW.region (by kernel_rfl) ?_
      refine RL.q rfl rfl (QW.move rfl) ?_
      refine RL.q rfl rfl (QW.move rfl) ?_
      refine RL.cons rfl (OW.call Tryz.call206 (ext2 rfl rfl) ((Write_u (([] ++ xorK (padK key) 54) ++ (parts.take i).flatten) (parts.getD i []) _ gi bs (Seg2.tailA (Seg2.tail (Seg2.tail Seg2.head))) hbs (hvi.mono (fun p hp => by repeat (first | exact hp | refine List.mem_cons_of_mem _ ?_ | refine List.mem_append_right _ ?_))) hpl).mono ?_))
      rintro v S' ⟨Z2, bs2, rfl, hS, hbbs2⟩
      try dsimp only at hS
      subst hS
      refine RL.nil (blockN (thenN ?_))
      refine CW.region (by kernel_rfl) ?_
      refine RL.q rfl rfl (QW.add rfl rfl (wI_add (a := _) (b := 1) (by omega))) ?_
      refine RL.q rfl rfl (QW.move rfl) ?_
      refine RL.nil (thenN ?_)
      refine ⟨i + 1, bs2, Z2 ++ Z, (⟨by omega, by rw [List.append_assoc, ← flat_succ hi]; exact hbbs2⟩), (by omega), ?_, ?_⟩
      · repeat (first | exact leE_nil | refine leE_cons rfl ?_)
      · rw [List.append_assoc]; exact keepA rfl (keepA rfl (keepS rfl (keepS rfl (keepS (by rw [flat_succ hi]) (List.Sublist.refl _)))))
    · have hi : i = parts.length := by simp at hc1; omega
      subst hi
      rw [List.take_length] at hbs ⊢
      have hs32 := shaP_len (([] ++ xorK (padK key) 54) ++ parts.flatten)
      refine CW.exit (thenX (thenX (blockX (thenN ?_))))
      refine CW.seq ?_
      refine CW.region (by kernel_rfl) ?_
      refine RL.q rfl rfl (QW.move rfl) ?_
      refine RL.cons rfl (OW.call Tryz.call207 (ext1 rfl) ((Sum_c (([] ++ xorK (padK key) 54) ++ parts.flatten) gi bs _ (by repeat (first | exact List.mem_cons_self | exact List.mem_cons_of_mem _ (by assumption) | assumption | refine List.mem_cons_of_mem _ ?_ | refine List.mem_append_right _ ?_)) (Seg2.ins (o := runO bs (([] ++ xorK (padK key) 54) ++ parts.flatten)) (Seg2.tail (Seg2.tail Seg2.head)) _ hbs)).mono ?_))
      rintro v S' ⟨rfl, rfl⟩
      refine RL.cons rfl (OW.alloc zv51 rfl ?_)
      intro b12
      refine RL.cons rfl (OW.storeN rfl rfl Tryz.sizeOf51 (by repeat (first | exact List.mem_cons_self | exact List.mem_cons_of_mem _ (by assumption) | assumption | refine List.mem_cons_of_mem _ ?_ | refine List.mem_append_right _ ?_)) (by first | (simp only [List.length_map, List.length_replicate, List.length_cons, List.length_nil, List.length_set, Nat.mul_one] <;> omega) | (simp [*] <;> omega)) (by first | exact m_all (fun _ => rfl) _ | rfl | (simp; done) | (simp only [List.all_cons, List.all_nil, oneB_buf, Bool.true_and, Bool.and_true]; rfl) | (simp [oneB]; done)) (by first | (simp only [List.length_map, List.length_replicate, List.length_cons, List.length_nil, List.length_set, Nat.mul_one] <;> omega) | (simp [*] <;> omega)) (by first | (refine wr_all ?_; simp only [List.length_map, List.length_replicate, List.length_cons, List.length_nil, List.length_set, Nat.mul_one] <;> omega) | (refine wr_all ?_; simp [*]; done) | exact m_wr _ _ _ | with_reducible rfl) (by repeat (first | exact Upd.head | apply Upd.tail | apply Upd.tailA)) ?_)
      refine RL.nil (thenN ?_)
      refine CW.seq ?_
      refine CW.region (by kernel_rfl) ?_
      refine RL.q rfl rfl (QW.move rfl) ?_
      refine RL.q rfl rfl (QW.move rfl) ?_
      refine RL.cons rfl (OW.callV rfl Tryz.call204 (ext1 rfl) ((against2_c 92 (padK key) b5 _ hpk (by repeat (first | exact List.mem_cons_self | exact List.mem_cons_of_mem _ (by assumption) | assumption | refine List.mem_cons_of_mem _ ?_ | refine List.mem_append_right _ ?_))).mono ?_))
      rintro v S' ⟨gx, rfl, rfl⟩
      refine RL.cons rfl (OW.call Tryz.call206 (ext2 rfl rfl) ((Write_u [] (xorK (padK key) 92) _ go bo (Seg2.tail (Seg2.tail (Seg2.tailA Seg2.head))) (by repeat (first | exact List.mem_cons_self | exact List.mem_cons_of_mem _ (by assumption) | assumption | refine List.mem_cons_of_mem _ ?_ | refine List.mem_append_right _ ?_)) (rdS_all (T := 270) List.mem_cons_self (by rw [xorK_len, hpk])) (by rw [xorK_len, hpk]; decide)).mono ?_))
      rintro v S' ⟨Z3, bs3, rfl, hS, hbbs3⟩
      try dsimp only at hS
      subst hS
      refine RL.nil (thenN ?_)
      refine CW.seq ?_
      refine CW.region (by kernel_rfl) ?_
      refine RL.q rfl rfl (QW.move rfl) ?_
      refine RL.q rfl rfl (QW.sliceA0 Tryz.runUnderlying51 Tryz.sizeOf5 rfl optV_none optV_none (.inl rfl) (by first | omega | (dsimp only; omega)) (by first | omega | (dsimp only; omega))) ?_
      refine RL.cons rfl (OW.call Tryz.call206 (ext2 rfl rfl) ((Write_u ([] ++ xorK (padK key) 92) (shaP (([] ++ xorK (padK key) 54) ++ parts.flatten)) _ go bs3 (Seg2.tailA (Seg2.tail (Seg2.tail (Seg2.tailA Seg2.head)))) hbbs3 (rdS_all (T := 51) (List.mem_append_right _ (List.mem_cons_of_mem _ List.mem_cons_self)) hs32) (by rw [hs32]; decide)).mono ?_))
      rintro v S' ⟨Z4, bs4, rfl, hS, hbbs4⟩
      try dsimp only at hS
      subst hS
      have hs33 := shaP_len (([] ++ xorK (padK key) 92) ++ shaP (([] ++ xorK (padK key) 54) ++ parts.flatten))
      refine RL.nil (thenN ?_)
      refine CW.seq ?_
      refine CW.region (by kernel_rfl) ?_
      refine RL.q rfl rfl (QW.move rfl) ?_
      refine RL.cons rfl (OW.call Tryz.call207 (ext1 rfl) ((Sum_c (([] ++ xorK (padK key) 92) ++ shaP (([] ++ xorK (padK key) 54) ++ parts.flatten)) go bs4 _ (List.mem_append_right _ (List.mem_append_right _ (List.mem_cons_of_mem _ (List.mem_cons_of_mem _ (List.mem_append_right _ List.mem_cons_self))))) (Seg2.ins (o := runO bs4 (([] ++ xorK (padK key) 92) ++ shaP (([] ++ xorK (padK key) 54) ++ parts.flatten))) (Seg2.tailA (Seg2.tail (Seg2.tail (Seg2.tailA Seg2.head)))) _ hbbs4)).mono ?_))
      rintro v S' ⟨rfl, rfl⟩
      refine RL.cons rfl (OW.storeN rfl rfl Tryz.sizeOf51 (by repeat (first | exact List.mem_cons_self | exact List.mem_cons_of_mem _ (by assumption) | assumption | refine List.mem_cons_of_mem _ ?_ | refine List.mem_append_right _ ?_)) (by first | (simp only [List.length_map, List.length_replicate, List.length_cons, List.length_nil, List.length_set, Nat.mul_one] <;> omega) | (simp [*] <;> omega)) (by first | exact m_all (fun _ => rfl) _ | rfl | (simp; done) | (simp only [List.all_cons, List.all_nil, oneB_buf, Bool.true_and, Bool.and_true]; rfl) | (simp [oneB]; done)) (by first | (simp only [List.length_map, List.length_replicate, List.length_cons, List.length_nil, List.length_set, Nat.mul_one] <;> omega) | (simp [*] <;> omega)) (by first | (refine wr_all ?_; simp only [List.length_map, List.length_replicate, List.length_cons, List.length_nil, List.length_set, Nat.mul_one] <;> omega) | (refine wr_all ?_; simp [*]; done) | exact m_wr _ _ _ | with_reducible rfl) (by repeat (first | exact Upd.head | apply Upd.tail | apply Upd.tailA)) ?_)
      refine RL.nil (thenN ?_)
      refine CW.ret (retR (S) (ResOk.one Tryz.results113 (ResV.cellN rfl Tryz.isAgg51 Tryz.sizeOf51 (by repeat (first | exact List.mem_cons_self | exact List.mem_cons_of_mem _ (by assumption) | assumption | refine List.mem_cons_of_mem _ ?_ | refine List.mem_append_right _ ?_)) (by first | (simp only [List.length_map, List.length_replicate, List.length_cons, List.length_nil, List.length_set, Nat.mul_one] <;> omega) | (simp [*] <;> omega)) (by first | (refine m_all_of _ _ ?_; omega) | (refine m_all_of _ _ ?_; simp [*]; done) | exact m_cut _ _ _ | with_reducible rfl))) (by repeat (first | exact List.Sublist.refl _ | (refine keepS ?_ ?_; with_reducible rfl) | (refine keepA ?_ ?_; with_reducible rfl) | (refine keepS ?_ ?_; rfl) | apply dropS | apply dropA)) ?_)
      exact ⟨by rw [hmacP_eq]; simp only [List.nil_append], rfl⟩

end Go.Sl

/- The reference: a block of shas. -/
set_option linter.unusedVariables false
set_option linter.unusedSimpArgs false
namespace Go.Sl
open Go.Proofs

def rr32 (x : UInt32) (n : Nat) : UInt32 := shr32 x n ||| shl32 x (32 - n)
attribute [irreducible] rr32
theorem rr32_eq (x : UInt32) (n : Nat) : rr32 x n = shr32 x n ||| shl32 x (32 - n) := by unfold rr32; rfl
def ex (x : UInt8) : UInt32 := UInt32.ofNat x.toNat
def rw1 (b : List UInt8) : Nat → List UInt32
  | 0 => List.replicate 64 0
  | i + 1 => (rw1 b i).set i (((shl32 (ex (b.getD (4 * i) 0)) 24 ||| shl32 (ex (b.getD (4 * i + 1) 0)) 16) ||| shl32 (ex (b.getD (4 * i + 2) 0)) 8) ||| ex (b.getD (4 * i + 3) 0))
theorem rw1_len (b : List UInt8) (i : Nat) : (rw1 b i).length = 64 := by
  induction i with
  | zero => exact List.length_replicate
  | succ i ih => simp [rw1, ih]
def rwN (w : List UInt32) (i : Nat) : UInt32 :=
  ((w.getD (i - 16) 0 + w.getD (i - 7) 0) + ((rr32 (w.getD (i - 15) 0) 7 ^^^ rr32 (w.getD (i - 15) 0) 18) ^^^ shr32 (w.getD (i - 15) 0) 3)) + ((rr32 (w.getD (i - 2) 0) 17 ^^^ rr32 (w.getD (i - 2) 0) 19) ^^^ shr32 (w.getD (i - 2) 0) 10)
def rw2 (b : List UInt8) : Nat → List UInt32
  | 0 => rw1 b 16
  | k + 1 => (rw2 b k).set (16 + k) (rwN (rw2 b k) (16 + k))
theorem rw2_len (b : List UInt8) (i : Nat) : (rw2 b i).length = 64 := by
  induction i with
  | zero => exact rw1_len b 16
  | succ i ih => simp [rw2, ih]
def rT (l : List UInt32) (k w : UInt32) : UInt32 :=
  (((l.getD 7 0 + ((rr32 (l.getD 4 0) 6 ^^^ rr32 (l.getD 4 0) 11) ^^^ rr32 (l.getD 4 0) 25)) + ((l.getD 4 0 &&& l.getD 5 0) ^^^ (~~~ l.getD 4 0 &&& l.getD 6 0))) + k) + w
def rU (l : List UInt32) : UInt32 :=
  ((rr32 (l.getD 0 0) 2 ^^^ rr32 (l.getD 0 0) 13) ^^^ rr32 (l.getD 0 0) 22) + (((l.getD 0 0 &&& l.getD 1 0) ||| (l.getD 0 0 &&& l.getD 2 0)) ||| (l.getD 1 0 &&& l.getD 2 0))
def rRnd (l : List UInt32) (k w : UInt32) : List UInt32 := [rT l k w + rU l, l.getD 0 0, l.getD 1 0, l.getD 2 0, l.getD 3 0 + rT l k w, l.getD 4 0, l.getD 5 0, l.getD 6 0]
def rL (h : List UInt32) (b : List UInt8) : Nat → List UInt32
  | 0 => h
  | i + 1 => rRnd (rL h b i) (kTab.getD i 0) ((rw2 b 48).getD i 0)
theorem rL_len (h : List UInt32) (b : List UInt8) (hh : h.length = 8) (i : Nat) : (rL h b i).length = 8 := by
  cases i with
  | zero => exact hh
  | succ i => rfl
def rFin (h : List UInt32) (b : List UInt8) : Nat → List UInt32
  | 0 => rL h b 64
  | i + 1 => (rFin h b i).set i ((rFin h b i).getD i 0 + h.getD i 0)
theorem rFin_len (h : List UInt32) (b : List UInt8) (hh : h.length = 8) (i : Nat) : (rFin h b i).length = 8 := by
  induction i with
  | zero => exact rL_len h b hh 64
  | succ i ih => simp [rFin, ih]
theorem fill8 (a b c d e f g h : UInt32) : Instr.fill (fun i => some (i * 1, 1)) (Value.agg ⟨(List.replicate 8 (0 : UInt32)).map u32⟩).cells [(0, u32 a), (1, u32 b), (2, u32 c), (3, u32 d), (4, u32 e), (5, u32 f), (6, u32 g), (7, u32 h)] =
    some ⟨[a, b, c, d, e, f, g, h].map u32⟩ := by kernel_rfl
def rBlk (h : List UInt32) (b : List UInt8) : List UInt32 := rFin h b 8
theorem rBlk_len (h : List UInt32) (b : List UInt8) (hh : h.length = 8) : (rBlk h b).length = 8 := rFin_len h b hh 8

theorem zv62 : ZV Tryz.prog 62 (u32 0) := fun _ => by kernel_rfl
theorem zv332 : ZV Tryz.prog 332 (.agg ⟨((List.replicate 8 0).map u32)⟩) := fun _ => by kernel_rfl
set_option maxRecDepth 100000 in
set_option maxHeartbeats 1000000 in
theorem round_c (x : UInt32) (n : Nat) (S : HL) (hn : n ≤ 32) : CallS Tryz.prog 319 ⟨[u32 x, .int .u64 (n : Int)]⟩ S fun v S' => v = u32 (rr32 x n) ∧ S = S' := by
  refine CallS.enter Tryz.func319 rfl Tryz.ntmps319 (by simp) ?_
  refine CW.seq ?_
  refine CW.region (by kernel_rfl) ?_
  refine RL.q rfl rfl (QW.assign rfl) ?_
  refine RL.nil (thenN ?_)
  refine CW.seq ?_
  refine CW.region (by kernel_rfl) ?_
  refine RL.q rfl rfl (QW.move rfl) ?_
  refine RL.q rfl rfl (QW.move rfl) ?_
  refine RL.q rfl rfl (QW.shr rfl rfl (by omega) (h32_shr _ _)) ?_
  refine RL.q rfl rfl (QW.move rfl) ?_
  refine RL.q rfl rfl (QW.move rfl) ?_
  refine RL.q rfl rfl (QW.sub rfl rfl (wU_sub (a := 32) hn (by decide))) ?_
  refine RL.q rfl rfl (QW.shl rfl rfl (by omega) (h32_shl _ _)) ?_
  refine RL.q rfl rfl (QW.or_ rfl rfl (x32_or _ _)) ?_
  refine RL.q rfl rfl (QW.assign rfl) ?_
  refine RL.nil (thenN ?_)
  refine CW.ret (retR (S) (ResOk.one Tryz.results319 (ResV.tmp rfl)) (by repeat (first | exact List.Sublist.refl _ | (refine keepS ?_ ?_; with_reducible rfl) | (refine keepA ?_ ?_; with_reducible rfl) | (refine keepS ?_ ?_; rfl) | apply dropS | apply dropA)) ?_)
  exact ⟨by rw [rr32_eq], rfl⟩

set_option maxRecDepth 100000 in
set_option maxHeartbeats 1000000 in
theorem table_c (S : HL) : CallS Tryz.prog 280 ⟨[]⟩ S fun v S' => ∃ g, v = sl g 0 64 64 ∧ S' = (g, blk (kTab.map u32) 62) :: S := by
  refine CallS.enter Tryz.func280 rfl Tryz.ntmps280 (by simp) ?_
  refine CW.seq ?_
  refine CW.region (by kernel_rfl) ?_
  refine RL.q rfl rfl (QW.assign rfl) ?_
  refine RL.nil (thenN ?_)
  refine CW.seq ?_
  refine CW.region (by kernel_rfl) ?_
  refine RL.cons rfl (OW.buildSliceP (cells := kTab.map u32) (ps := [(0, .int .u32 1116352408), (1, .int .u32 1899447441), (2, .int .u32 3049323471), (3, .int .u32 3921009573), (4, .int .u32 961987163), (5, .int .u32 1508970993), (6, .int .u32 2453635748), (7, .int .u32 2870763221), (8, .int .u32 3624381080), (9, .int .u32 310598401), (10, .int .u32 607225278), (11, .int .u32 1426881987), (12, .int .u32 1925078388), (13, .int .u32 2162078206), (14, .int .u32 2614888103), (15, .int .u32 3248222580), (16, .int .u32 3835390401), (17, .int .u32 4022224774), (18, .int .u32 264347078), (19, .int .u32 604807628), (20, .int .u32 770255983), (21, .int .u32 1249150122), (22, .int .u32 1555081692), (23, .int .u32 1996064986), (24, .int .u32 2554220882), (25, .int .u32 2821834349), (26, .int .u32 2952996808), (27, .int .u32 3210313671), (28, .int .u32 3336571891), (29, .int .u32 3584528711), (30, .int .u32 113926993), (31, .int .u32 338241895), (32, .int .u32 666307205), (33, .int .u32 773529912), (34, .int .u32 1294757372), (35, .int .u32 1396182291), (36, .int .u32 1695183700), (37, .int .u32 1986661051), (38, .int .u32 2177026350), (39, .int .u32 2456956037), (40, .int .u32 2730485921), (41, .int .u32 2820302411), (42, .int .u32 3259730800), (43, .int .u32 3345764771), (44, .int .u32 3516065817), (45, .int .u32 3600352804), (46, .int .u32 4094571909), (47, .int .u32 275423344), (48, .int .u32 430227734), (49, .int .u32 506948616), (50, .int .u32 659060556), (51, .int .u32 883997877), (52, .int .u32 958139571), (53, .int .u32 1322822218), (54, .int .u32 1537002063), (55, .int .u32 1747873779), (56, .int .u32 1955562222), (57, .int .u32 2024104815), (58, .int .u32 2227730452), (59, .int .u32 2361852424), (60, .int .u32 2428436474), (61, .int .u32 2756734187), (62, .int .u32 3204031479), (63, .int .u32 3329325298)]) Tryz.runUnderlying223 Tryz.sizeOf62 zv62 rfl (by decide) (by decide) (parts_of (by kernel_rfl)) (by kernel_rfl) ?_)
  intro b1
  refine RL.q rfl rfl (QW.assign rfl) ?_
  refine RL.nil (thenN ?_)
  refine CW.ret (retR ((b1, blk (kTab.map u32) 62) :: S) (ResOk.one Tryz.results280 (ResV.tmp rfl)) (by repeat (first | exact List.Sublist.refl _ | (refine keepS ?_ ?_; with_reducible rfl) | (refine keepA ?_ ?_; with_reducible rfl) | (refine keepS ?_ ?_; rfl) | apply dropS | apply dropA)) ?_)
  exact ⟨b1, rfl, rfl⟩

set_option maxRecDepth 100000 in
set_option maxHeartbeats 1000000 in
theorem rblock_c (h : List UInt32) (b : List UInt8) (gb off cb gk ck offk : Nat) (l lk : List Value) (T Tk : TypeId) (fr frk : Nat × Nat) (S : HL) (hh : h.length = 8) (hbl : b.length = 64) (hm : (gb, Obj.cells ⟨l⟩ T fr) ∈ S) (hget : ∀ j, j < 64 → l[off + j]? = some (u8 (b.getD j 0))) (hk : (gk, Obj.cells ⟨lk⟩ Tk frk) ∈ S) (hkget : ∀ j, j < 64 → lk[offk + j]? = some (u32 (kTab.getD j 0))) : CallS Tryz.prog 281 ⟨[.agg ⟨h.map u32⟩, sl gb off 64 cb, sl gk offk 64 ck]⟩ S fun v S' => v = .agg ⟨(rBlk h b).map u32⟩ ∧ S = S' := by
  refine CallS.enter Tryz.func281 rfl Tryz.ntmps281 (by simp) ?_
  refine CW.seq ?_
  refine CW.region (by kernel_rfl) ?_
  refine RL.cons rfl (OW.boxN rfl ?_)
  intro b3
  refine RL.cons rfl (OW.alloc zv332 rfl ?_)
  intro b6
  refine RL.nil (thenN ?_)
  refine CW.seq ?_
  refine CW.region (by kernel_rfl) ?_
  refine RL.cons rfl (OW.alloc zv373 rfl ?_)
  intro b7
  refine RL.nil (thenN ?_)
  refine CW.seq ?_
  refine CW.seq ?_
  refine CW.region (by kernel_rfl) ?_
  refine RL.q rfl rfl (QW.assign rfl) ?_
  refine RL.nil (thenN ?_)
  refine CW.block ?_
  refine CW.loopT (ι := Nat) [(1, _), (2, _), (3, _), (6, _), (7, _)] (by repeat (first | exact leE_nil | refine leE_cons rfl ?_)) (fun i => i ≤ 16) (fun i r => (8, nI i) :: r) (fun i => (b7, blk ((rw1 b i).map u32) 373) :: (b6, blk ((List.replicate 8 0).map u32) 332) :: (b3, blk (h.map u32) 332) :: S) (fun i => 16 - i) 0 (by omega) (by repeat (first | exact leE_nil | refine leE_cons (by first | rfl | (rfl)) ?_)) (by repeat (first | exact List.Sublist.refl _ | (refine keepS ?_ ?_; with_reducible rfl) | (refine keepA ?_ ?_; with_reducible rfl) | (refine keepS ?_ ?_; rfl) | apply dropS | apply dropA)) ?_
  intro i hI
  have hl := rw1_len b i
  refine CW.seq ?_
  refine CW.seq ?_
  refine CW.region (by kernel_rfl) ?_
  refine RL.q rfl rfl (QW.move rfl) ?_
  refine RL.q rfl rfl (QW.lss rfl rfl (dI_lt _ 16)) ?_
  refine RL.nil (thenN ?_)
  refine CW.cond rfl (fun hc0 => ?_) (fun hc0 => ?_)
  · have hi : i < 16 := by simpa using hc0
    refine CW.skip (thenN ?_)
    refine CW.seq ?_
    refine CW.block ?_
    refine CW.drawnS 35 (by rw [mixed]; rfl) (by kernel_rfl) (by kernel_rfl) (by kernel_rfl) (fun _ _ _ h => h) ?_
    refine DL.take 0 rfl (by kernel_rfl) (by kernel_rfl) (by kernel_rfl) rfl rfl (QW.move rfl) (by intro p hp; repeat (first | exact hp | refine List.mem_cons_of_mem _ ?_)) ?_
    refine DL.take 1 rfl (by kernel_rfl) (by kernel_rfl) (by kernel_rfl) rfl rfl (QW.move rfl) (by intro p hp; repeat (first | exact hp | refine List.mem_cons_of_mem _ ?_)) ?_
    refine DL.take 2 rfl (by kernel_rfl) (by kernel_rfl) (by kernel_rfl) rfl rfl (QW.move rfl) (by intro p hp; repeat (first | exact hp | refine List.mem_cons_of_mem _ ?_)) ?_
    refine DL.take 3 rfl (by kernel_rfl) (by kernel_rfl) (by kernel_rfl) rfl rfl (QW.mul rfl rfl (wI_mul (a := 4) (b := _) (by omega))) (by intro p hp; repeat (first | exact hp | refine List.mem_cons_of_mem _ ?_)) ?_
    refine DL.take 4 rfl (by kernel_rfl) (by kernel_rfl) (by kernel_rfl) rfl rfl (QW.indexAddrS Tryz.runUnderlying23 Tryz.sizeOf5 rfl rfl (by omega) (by first | omega | exact lt8 _) (by first | exact ix01 _ | exact ixb1 _ _ | exact ix0m _ _ | exact ixbm _ _ _)) (by intro p hp; repeat (first | exact hp | refine List.mem_cons_of_mem _ ?_)) ?_
    refine DL.take 5 rfl (by kernel_rfl) (by kernel_rfl) (by kernel_rfl) rfl rfl (QW.load1 rfl Tryz.isAgg5 (by repeat (first | exact hm | refine List.mem_cons_of_mem _ ?_)) (hget (4 * i) (by omega))) (by intro p hp; repeat (first | exact hp | refine List.mem_cons_of_mem _ ?_)) ?_
    refine DL.take 6 rfl (by kernel_rfl) (by kernel_rfl) (by kernel_rfl) rfl rfl (QW.conv Tryz.runUnderlying5 Tryz.runUnderlying62 rfl (w32_nat _)) (by intro p hp; repeat (first | exact hp | refine List.mem_cons_of_mem _ ?_)) ?_
    refine DL.take 7 rfl (by kernel_rfl) (by kernel_rfl) (by kernel_rfl) rfl rfl (QW.shl rfl rfl (by omega) (h32_shl _ 24)) (by intro p hp; repeat (first | exact hp | refine List.mem_cons_of_mem _ ?_)) ?_
    refine DL.take 8 rfl (by kernel_rfl) (by kernel_rfl) (by kernel_rfl) rfl rfl (QW.move rfl) (by intro p hp; repeat (first | exact hp | refine List.mem_cons_of_mem _ ?_)) ?_
    refine DL.take 9 rfl (by kernel_rfl) (by kernel_rfl) (by kernel_rfl) rfl rfl (QW.move rfl) (by intro p hp; repeat (first | exact hp | refine List.mem_cons_of_mem _ ?_)) ?_
    refine DL.take 10 rfl (by kernel_rfl) (by kernel_rfl) (by kernel_rfl) rfl rfl (QW.mul rfl rfl (wI_mul (a := 4) (b := _) (by omega))) (by intro p hp; repeat (first | exact hp | refine List.mem_cons_of_mem _ ?_)) ?_
    refine DL.take 11 rfl (by kernel_rfl) (by kernel_rfl) (by kernel_rfl) rfl rfl (QW.add rfl rfl (wI_add (a := _) (b := 1) (by omega))) (by intro p hp; repeat (first | exact hp | refine List.mem_cons_of_mem _ ?_)) ?_
    refine DL.take 12 rfl (by kernel_rfl) (by kernel_rfl) (by kernel_rfl) rfl rfl (QW.indexAddrS Tryz.runUnderlying23 Tryz.sizeOf5 rfl rfl (by omega) (by first | omega | exact lt8 _) (by first | exact ix01 _ | exact ixb1 _ _ | exact ix0m _ _ | exact ixbm _ _ _)) (by intro p hp; repeat (first | exact hp | refine List.mem_cons_of_mem _ ?_)) ?_
    refine DL.take 13 rfl (by kernel_rfl) (by kernel_rfl) (by kernel_rfl) rfl rfl (QW.load1 rfl Tryz.isAgg5 (by repeat (first | exact hm | refine List.mem_cons_of_mem _ ?_)) (hget (4 * i + 1) (by omega))) (by intro p hp; repeat (first | exact hp | refine List.mem_cons_of_mem _ ?_)) ?_
    refine DL.take 14 rfl (by kernel_rfl) (by kernel_rfl) (by kernel_rfl) rfl rfl (QW.conv Tryz.runUnderlying5 Tryz.runUnderlying62 rfl (w32_nat _)) (by intro p hp; repeat (first | exact hp | refine List.mem_cons_of_mem _ ?_)) ?_
    refine DL.take 15 rfl (by kernel_rfl) (by kernel_rfl) (by kernel_rfl) rfl rfl (QW.shl rfl rfl (by omega) (h32_shl _ 16)) (by intro p hp; repeat (first | exact hp | refine List.mem_cons_of_mem _ ?_)) ?_
    refine DL.take 16 rfl (by kernel_rfl) (by kernel_rfl) (by kernel_rfl) rfl rfl (QW.or_ rfl rfl (x32_or _ _)) (by intro p hp; repeat (first | exact hp | refine List.mem_cons_of_mem _ ?_)) ?_
    refine DL.take 17 rfl (by kernel_rfl) (by kernel_rfl) (by kernel_rfl) rfl rfl (QW.move rfl) (by intro p hp; repeat (first | exact hp | refine List.mem_cons_of_mem _ ?_)) ?_
    refine DL.take 18 rfl (by kernel_rfl) (by kernel_rfl) (by kernel_rfl) rfl rfl (QW.move rfl) (by intro p hp; repeat (first | exact hp | refine List.mem_cons_of_mem _ ?_)) ?_
    refine DL.take 19 rfl (by kernel_rfl) (by kernel_rfl) (by kernel_rfl) rfl rfl (QW.mul rfl rfl (wI_mul (a := 4) (b := _) (by omega))) (by intro p hp; repeat (first | exact hp | refine List.mem_cons_of_mem _ ?_)) ?_
    refine DL.take 20 rfl (by kernel_rfl) (by kernel_rfl) (by kernel_rfl) rfl rfl (QW.add rfl rfl (wI_add (a := _) (b := 2) (by omega))) (by intro p hp; repeat (first | exact hp | refine List.mem_cons_of_mem _ ?_)) ?_
    refine DL.take 21 rfl (by kernel_rfl) (by kernel_rfl) (by kernel_rfl) rfl rfl (QW.indexAddrS Tryz.runUnderlying23 Tryz.sizeOf5 rfl rfl (by omega) (by first | omega | exact lt8 _) (by first | exact ix01 _ | exact ixb1 _ _ | exact ix0m _ _ | exact ixbm _ _ _)) (by intro p hp; repeat (first | exact hp | refine List.mem_cons_of_mem _ ?_)) ?_
    refine DL.take 22 rfl (by kernel_rfl) (by kernel_rfl) (by kernel_rfl) rfl rfl (QW.load1 rfl Tryz.isAgg5 (by repeat (first | exact hm | refine List.mem_cons_of_mem _ ?_)) (hget (4 * i + 2) (by omega))) (by intro p hp; repeat (first | exact hp | refine List.mem_cons_of_mem _ ?_)) ?_
    refine DL.take 23 rfl (by kernel_rfl) (by kernel_rfl) (by kernel_rfl) rfl rfl (QW.conv Tryz.runUnderlying5 Tryz.runUnderlying62 rfl (w32_nat _)) (by intro p hp; repeat (first | exact hp | refine List.mem_cons_of_mem _ ?_)) ?_
    refine DL.take 24 rfl (by kernel_rfl) (by kernel_rfl) (by kernel_rfl) rfl rfl (QW.shl rfl rfl (by omega) (h32_shl _ 8)) (by intro p hp; repeat (first | exact hp | refine List.mem_cons_of_mem _ ?_)) ?_
    refine DL.take 25 rfl (by kernel_rfl) (by kernel_rfl) (by kernel_rfl) rfl rfl (QW.or_ rfl rfl (x32_or _ _)) (by intro p hp; repeat (first | exact hp | refine List.mem_cons_of_mem _ ?_)) ?_
    refine DL.take 26 rfl (by kernel_rfl) (by kernel_rfl) (by kernel_rfl) rfl rfl (QW.move rfl) (by intro p hp; repeat (first | exact hp | refine List.mem_cons_of_mem _ ?_)) ?_
    refine DL.take 27 rfl (by kernel_rfl) (by kernel_rfl) (by kernel_rfl) rfl rfl (QW.move rfl) (by intro p hp; repeat (first | exact hp | refine List.mem_cons_of_mem _ ?_)) ?_
    refine DL.take 28 rfl (by kernel_rfl) (by kernel_rfl) (by kernel_rfl) rfl rfl (QW.mul rfl rfl (wI_mul (a := 4) (b := _) (by omega))) (by intro p hp; repeat (first | exact hp | refine List.mem_cons_of_mem _ ?_)) ?_
    refine DL.take 29 rfl (by kernel_rfl) (by kernel_rfl) (by kernel_rfl) rfl rfl (QW.add rfl rfl (wI_add (a := _) (b := 3) (by omega))) (by intro p hp; repeat (first | exact hp | refine List.mem_cons_of_mem _ ?_)) ?_
    refine DL.take 30 rfl (by kernel_rfl) (by kernel_rfl) (by kernel_rfl) rfl rfl (QW.indexAddrS Tryz.runUnderlying23 Tryz.sizeOf5 rfl rfl (by omega) (by first | omega | exact lt8 _) (by first | exact ix01 _ | exact ixb1 _ _ | exact ix0m _ _ | exact ixbm _ _ _)) (by intro p hp; repeat (first | exact hp | refine List.mem_cons_of_mem _ ?_)) ?_
    refine DL.take 31 rfl (by kernel_rfl) (by kernel_rfl) (by kernel_rfl) rfl rfl (QW.load1 rfl Tryz.isAgg5 (by repeat (first | exact hm | refine List.mem_cons_of_mem _ ?_)) (hget (4 * i + 3) (by omega))) (by intro p hp; repeat (first | exact hp | refine List.mem_cons_of_mem _ ?_)) ?_
    refine DL.take 32 rfl (by kernel_rfl) (by kernel_rfl) (by kernel_rfl) rfl rfl (QW.conv Tryz.runUnderlying5 Tryz.runUnderlying62 rfl (w32_nat _)) (by intro p hp; repeat (first | exact hp | refine List.mem_cons_of_mem _ ?_)) ?_
    refine DL.take 33 rfl (by kernel_rfl) (by kernel_rfl) (by kernel_rfl) rfl rfl (QW.or_ rfl rfl (x32_or _ _)) (by intro p hp; repeat (first | exact hp | refine List.mem_cons_of_mem _ ?_)) ?_
    refine DL.take 34 rfl (by kernel_rfl) (by kernel_rfl) (by kernel_rfl) rfl rfl (QW.indexAddrA Tryz.runUnderlying373 Tryz.sizeOf62 rfl rfl (by omega) (by first | omega | exact lt8 _) (by first | exact ix01 _ | exact ixb1 _ _ | exact ix0m _ _ | exact ixbm _ _ _)) (by intro p hp; repeat (first | exact hp | refine List.mem_cons_of_mem _ ?_)) ?_
    refine DL.one 35 (by kernel_rfl) rfl rfl (OW.store1 rfl rfl Tryz.sizeOf62 rfl (by repeat (first | exact List.mem_cons_self | exact List.mem_cons_of_mem _ (by assumption) | assumption | refine List.mem_cons_of_mem _ ?_ | refine List.mem_append_right _ ?_)) (by first | (simp only [List.length_map, List.length_replicate, List.length_cons, List.length_nil, List.length_set, Nat.mul_one] <;> omega) | (rw [List.length_map]; refine lt8B ?_; simp [*]; done) | (rw [List.length_map]; refine lt8L ?_; simp [*]; done) | (simp [*] <;> omega)) (by first | exact m_set _ _ _ | rfl) (by repeat (first | exact Upd.head | apply Upd.tail | apply Upd.tailA)) ?_)
    refine ⟨fun h => absurd rfl h, ?_⟩
    refine DL.done (by kernel_rfl) (blockN (thenN ?_))
    refine CW.region (by kernel_rfl) ?_
    refine RL.q rfl rfl (QW.move rfl) ?_
    refine RL.q rfl rfl (QW.add rfl rfl (wI_add (a := _) (b := 1) (by omega))) ?_
    refine RL.q rfl rfl (QW.assign rfl) ?_
    refine RL.nil (thenN ?_)
    refine ⟨i + 1, (by omega), (by omega), ?_, ?_⟩
    · repeat (first | exact leE_nil | refine leE_cons rfl ?_)
    · exact List.Sublist.refl _
  · have hi : i = 16 := by simp at hc0; omega
    subst hi
    refine CW.exit (thenX (thenX (blockX (thenN ?_))))
    refine CW.seq ?_
    refine CW.seq ?_
    refine CW.region (by kernel_rfl) ?_
    refine RL.q rfl rfl (QW.assign rfl) ?_
    refine RL.nil (thenN ?_)
    refine CW.block ?_
    refine CW.loopT (ι := Nat) [(2, _), (3, _), (6, _), (7, _)] (by repeat (first | exact leE_nil | refine leE_cons rfl ?_)) (fun k => k ≤ 48) (fun k r => (9, nI (16 + k)) :: r) (fun k => (b7, blk ((rw2 b k).map u32) 373) :: (b6, blk ((List.replicate 8 0).map u32) 332) :: (b3, blk (h.map u32) 332) :: S) (fun k => 48 - k) 0 (by omega) (by repeat (first | exact leE_nil | refine leE_cons (by first | rfl | (rfl)) ?_)) (by repeat (first | exact List.Sublist.refl _ | (refine keepS ?_ ?_; with_reducible rfl) | (refine keepA ?_ ?_; with_reducible rfl) | (refine keepS ?_ ?_; rfl) | apply dropS | apply dropA)) ?_
    intro k hI
    have hl := rw2_len b k
    refine CW.seq ?_
    refine CW.seq ?_
    refine CW.region (by kernel_rfl) ?_
    refine RL.q rfl rfl (QW.move rfl) ?_
    refine RL.q rfl rfl (QW.lss rfl rfl (dI_lt _ 64)) ?_
    refine RL.nil (thenN ?_)
    refine CW.cond rfl (fun hc1 => ?_) (fun hc1 => ?_)
    · have hk : k < 48 := by simp at hc1; omega
      refine CW.skip (thenN ?_)
      refine CW.seq ?_
      refine CW.block ?_
      refine CW.seq ?_
      refine CW.region (by kernel_rfl) ?_
      refine RL.q rfl rfl (QW.move rfl) ?_
      refine RL.q rfl rfl (QW.sub rfl rfl (wI_sub (a := _) (b := 15) (by omega) (by omega))) ?_
      refine RL.q rfl rfl (QW.indexAddrA Tryz.runUnderlying373 Tryz.sizeOf62 rfl rfl (by omega) (by first | omega | exact lt8 _) (by first | exact ix01 _ | exact ixb1 _ _ | exact ix0m _ _ | exact ixbm _ _ _)) ?_
      refine RL.q rfl rfl (QW.load1 rfl Tryz.isAgg62 (by repeat (first | exact List.mem_cons_self | exact List.mem_cons_of_mem _ (by assumption) | assumption | refine List.mem_cons_of_mem _ ?_ | refine List.mem_append_right _ ?_)) (by first | (refine m_get 0 ?_; omega) | (refine m_get 0 ?_; simp only [*]; omega) | (refine m_get 0 ?_; simp only [List.length_set]; omega) | (refine m_get 0 (lt8L ?_); omega) | (refine m_get 0 (lt8B ?_); omega) | rfl)) ?_
      refine RL.q rfl rfl (QW.assign rfl) ?_
      refine RL.nil (thenN ?_)
      refine CW.seq ?_
      refine CW.region (by kernel_rfl) ?_
      refine RL.q rfl rfl (QW.move rfl) ?_
      refine RL.q rfl rfl (QW.sub rfl rfl (wI_sub (a := _) (b := 2) (by omega) (by omega))) ?_
      refine RL.q rfl rfl (QW.indexAddrA Tryz.runUnderlying373 Tryz.sizeOf62 rfl rfl (by omega) (by first | omega | exact lt8 _) (by first | exact ix01 _ | exact ixb1 _ _ | exact ix0m _ _ | exact ixbm _ _ _)) ?_
      refine RL.q rfl rfl (QW.load1 rfl Tryz.isAgg62 (by repeat (first | exact List.mem_cons_self | exact List.mem_cons_of_mem _ (by assumption) | assumption | refine List.mem_cons_of_mem _ ?_ | refine List.mem_append_right _ ?_)) (by first | (refine m_get 0 ?_; omega) | (refine m_get 0 ?_; simp only [*]; omega) | (refine m_get 0 ?_; simp only [List.length_set]; omega) | (refine m_get 0 (lt8L ?_); omega) | (refine m_get 0 (lt8B ?_); omega) | rfl)) ?_
      refine RL.q rfl rfl (QW.assign rfl) ?_
      refine RL.nil (thenN ?_)
      refine CW.drawnS 29 (by rw [mixed]; rfl) (by kernel_rfl) (by kernel_rfl) (by kernel_rfl) (fun _ _ _ h => h) ?_
      refine DL.take 0 rfl (by kernel_rfl) (by kernel_rfl) (by kernel_rfl) rfl rfl (QW.move rfl) (by intro p hp; repeat (first | exact hp | refine List.mem_cons_of_mem _ ?_)) ?_
      refine DL.take 1 rfl (by kernel_rfl) (by kernel_rfl) (by kernel_rfl) rfl rfl (QW.move rfl) (by intro p hp; repeat (first | exact hp | refine List.mem_cons_of_mem _ ?_)) ?_
      refine DL.take 2 rfl (by kernel_rfl) (by kernel_rfl) (by kernel_rfl) rfl rfl (QW.sub rfl rfl (wI_sub (a := _) (b := 16) (by omega) (by omega))) (by intro p hp; repeat (first | exact hp | refine List.mem_cons_of_mem _ ?_)) ?_
      refine DL.take 3 rfl (by kernel_rfl) (by kernel_rfl) (by kernel_rfl) rfl rfl (QW.indexAddrA Tryz.runUnderlying373 Tryz.sizeOf62 rfl rfl (by omega) (by first | omega | exact lt8 _) (by first | exact ix01 _ | exact ixb1 _ _ | exact ix0m _ _ | exact ixbm _ _ _)) (by intro p hp; repeat (first | exact hp | refine List.mem_cons_of_mem _ ?_)) ?_
      refine DL.take 4 rfl (by kernel_rfl) (by kernel_rfl) (by kernel_rfl) rfl rfl (QW.load1 rfl Tryz.isAgg62 (by repeat (first | exact List.mem_cons_self | exact List.mem_cons_of_mem _ (by assumption) | assumption | refine List.mem_cons_of_mem _ ?_ | refine List.mem_append_right _ ?_)) (by first | (refine m_get 0 ?_; omega) | (refine m_get 0 ?_; simp only [*]; omega) | (refine m_get 0 ?_; simp only [List.length_set]; omega) | (refine m_get 0 (lt8L ?_); omega) | (refine m_get 0 (lt8B ?_); omega) | rfl)) (by intro p hp; repeat (first | exact hp | refine List.mem_cons_of_mem _ ?_)) ?_
      refine DL.take 5 rfl (by kernel_rfl) (by kernel_rfl) (by kernel_rfl) rfl rfl (QW.move rfl) (by intro p hp; repeat (first | exact hp | refine List.mem_cons_of_mem _ ?_)) ?_
      refine DL.take 6 rfl (by kernel_rfl) (by kernel_rfl) (by kernel_rfl) rfl rfl (QW.sub rfl rfl (wI_sub (a := _) (b := 7) (by omega) (by omega))) (by intro p hp; repeat (first | exact hp | refine List.mem_cons_of_mem _ ?_)) ?_
      refine DL.take 7 rfl (by kernel_rfl) (by kernel_rfl) (by kernel_rfl) rfl rfl (QW.indexAddrA Tryz.runUnderlying373 Tryz.sizeOf62 rfl rfl (by omega) (by first | omega | exact lt8 _) (by first | exact ix01 _ | exact ixb1 _ _ | exact ix0m _ _ | exact ixbm _ _ _)) (by intro p hp; repeat (first | exact hp | refine List.mem_cons_of_mem _ ?_)) ?_
      refine DL.take 8 rfl (by kernel_rfl) (by kernel_rfl) (by kernel_rfl) rfl rfl (QW.load1 rfl Tryz.isAgg62 (by repeat (first | exact List.mem_cons_self | exact List.mem_cons_of_mem _ (by assumption) | assumption | refine List.mem_cons_of_mem _ ?_ | refine List.mem_append_right _ ?_)) (by first | (refine m_get 0 ?_; omega) | (refine m_get 0 ?_; simp only [*]; omega) | (refine m_get 0 ?_; simp only [List.length_set]; omega) | (refine m_get 0 (lt8L ?_); omega) | (refine m_get 0 (lt8B ?_); omega) | rfl)) (by intro p hp; repeat (first | exact hp | refine List.mem_cons_of_mem _ ?_)) ?_
      refine DL.take 9 rfl (by kernel_rfl) (by kernel_rfl) (by kernel_rfl) rfl rfl (QW.add rfl rfl (w32_add _ _)) (by intro p hp; repeat (first | exact hp | refine List.mem_cons_of_mem _ ?_)) ?_
      refine DL.take 10 rfl (by kernel_rfl) (by kernel_rfl) (by kernel_rfl) rfl rfl (QW.move rfl) (by intro p hp; repeat (first | exact hp | refine List.mem_cons_of_mem _ ?_)) ?_
      refine DL.take 12 rfl (by kernel_rfl) (by kernel_rfl) (by kernel_rfl) rfl rfl (QW.move rfl) (by intro p hp; repeat (first | exact hp | refine List.mem_cons_of_mem _ ?_)) ?_
      refine DL.take 15 rfl (by kernel_rfl) (by kernel_rfl) (by kernel_rfl) rfl rfl (QW.move rfl) (by intro p hp; repeat (first | exact hp | refine List.mem_cons_of_mem _ ?_)) ?_
      refine DL.take 16 rfl (by kernel_rfl) (by kernel_rfl) (by kernel_rfl) rfl rfl (QW.shr rfl rfl (by omega) (h32_shr _ 3)) (by intro p hp; repeat (first | exact hp | refine List.mem_cons_of_mem _ ?_)) ?_
      refine DL.take 19 rfl (by kernel_rfl) (by kernel_rfl) (by kernel_rfl) rfl rfl (QW.move rfl) (by intro p hp; repeat (first | exact hp | refine List.mem_cons_of_mem _ ?_)) ?_
      refine DL.take 21 rfl (by kernel_rfl) (by kernel_rfl) (by kernel_rfl) rfl rfl (QW.move rfl) (by intro p hp; repeat (first | exact hp | refine List.mem_cons_of_mem _ ?_)) ?_
      refine DL.take 24 rfl (by kernel_rfl) (by kernel_rfl) (by kernel_rfl) rfl rfl (QW.move rfl) (by intro p hp; repeat (first | exact hp | refine List.mem_cons_of_mem _ ?_)) ?_
      refine DL.take 25 rfl (by kernel_rfl) (by kernel_rfl) (by kernel_rfl) rfl rfl (QW.shr rfl rfl (by omega) (h32_shr _ 10)) (by intro p hp; repeat (first | exact hp | refine List.mem_cons_of_mem _ ?_)) ?_
      refine DL.one 11 (by kernel_rfl) rfl rfl (OW.call Tryz.call319 (ext2 rfl rfl) ((round_c _ 7 _ (by decide)).mono ?_))
      rintro v S' ⟨rfl, rfl⟩
      refine ⟨fun _ p hp => by repeat (first | exact hp | refine List.mem_cons_of_mem _ ?_), ?_⟩
      refine DL.one 13 (by kernel_rfl) rfl rfl (OW.call Tryz.call319 (ext2 rfl rfl) ((round_c _ 18 _ (by decide)).mono ?_))
      rintro v S' ⟨rfl, rfl⟩
      refine ⟨fun _ p hp => by repeat (first | exact hp | refine List.mem_cons_of_mem _ ?_), ?_⟩
      refine DL.take 14 rfl (by kernel_rfl) (by kernel_rfl) (by kernel_rfl) rfl rfl (QW.xor_ rfl rfl (x32_xor _ _)) (by intro p hp; repeat (first | exact hp | refine List.mem_cons_of_mem _ ?_)) ?_
      refine DL.take 17 rfl (by kernel_rfl) (by kernel_rfl) (by kernel_rfl) rfl rfl (QW.xor_ rfl rfl (x32_xor _ _)) (by intro p hp; repeat (first | exact hp | refine List.mem_cons_of_mem _ ?_)) ?_
      refine DL.take 18 rfl (by kernel_rfl) (by kernel_rfl) (by kernel_rfl) rfl rfl (QW.add rfl rfl (w32_add _ _)) (by intro p hp; repeat (first | exact hp | refine List.mem_cons_of_mem _ ?_)) ?_
      refine DL.one 20 (by kernel_rfl) rfl rfl (OW.call Tryz.call319 (ext2 rfl rfl) ((round_c _ 17 _ (by decide)).mono ?_))
      rintro v S' ⟨rfl, rfl⟩
      refine ⟨fun _ p hp => by repeat (first | exact hp | refine List.mem_cons_of_mem _ ?_), ?_⟩
      refine DL.one 22 (by kernel_rfl) rfl rfl (OW.call Tryz.call319 (ext2 rfl rfl) ((round_c _ 19 _ (by decide)).mono ?_))
      rintro v S' ⟨rfl, rfl⟩
      refine ⟨fun _ p hp => by repeat (first | exact hp | refine List.mem_cons_of_mem _ ?_), ?_⟩
      refine DL.take 23 rfl (by kernel_rfl) (by kernel_rfl) (by kernel_rfl) rfl rfl (QW.xor_ rfl rfl (x32_xor _ _)) (by intro p hp; repeat (first | exact hp | refine List.mem_cons_of_mem _ ?_)) ?_
      refine DL.take 26 rfl (by kernel_rfl) (by kernel_rfl) (by kernel_rfl) rfl rfl (QW.xor_ rfl rfl (x32_xor _ _)) (by intro p hp; repeat (first | exact hp | refine List.mem_cons_of_mem _ ?_)) ?_
      refine DL.take 27 rfl (by kernel_rfl) (by kernel_rfl) (by kernel_rfl) rfl rfl (QW.add rfl rfl (w32_add _ _)) (by intro p hp; repeat (first | exact hp | refine List.mem_cons_of_mem _ ?_)) ?_
      refine DL.take 28 rfl (by kernel_rfl) (by kernel_rfl) (by kernel_rfl) rfl rfl (QW.indexAddrA Tryz.runUnderlying373 Tryz.sizeOf62 rfl rfl (by omega) (by first | omega | exact lt8 _) (by first | exact ix01 _ | exact ixb1 _ _ | exact ix0m _ _ | exact ixbm _ _ _)) (by intro p hp; repeat (first | exact hp | refine List.mem_cons_of_mem _ ?_)) ?_
      refine DL.one 29 (by kernel_rfl) rfl rfl (OW.store1 rfl rfl Tryz.sizeOf62 rfl (by repeat (first | exact List.mem_cons_self | exact List.mem_cons_of_mem _ (by assumption) | assumption | refine List.mem_cons_of_mem _ ?_ | refine List.mem_append_right _ ?_)) (by first | (simp only [List.length_map, List.length_replicate, List.length_cons, List.length_nil, List.length_set, Nat.mul_one] <;> omega) | (rw [List.length_map]; refine lt8B ?_; simp [*]; done) | (rw [List.length_map]; refine lt8L ?_; simp [*]; done) | (simp [*] <;> omega)) (by first | exact m_set _ _ _ | rfl) (by repeat (first | exact Upd.head | apply Upd.tail | apply Upd.tailA)) ?_)
      refine ⟨fun h => absurd rfl h, ?_⟩
      refine DL.done (by kernel_rfl) (blockN (thenN ?_))
      refine CW.region (by kernel_rfl) ?_
      refine RL.q rfl rfl (QW.move rfl) ?_
      refine RL.q rfl rfl (QW.add rfl rfl (wI_add (a := _) (b := 1) (by omega))) ?_
      refine RL.q rfl rfl (QW.assign rfl) ?_
      refine RL.nil (thenN ?_)
      refine ⟨k + 1, (by omega), (by omega), ?_, ?_⟩
      · repeat (first | exact leE_nil | refine leE_cons rfl ?_)
      · exact List.Sublist.refl _
    · have hk : k = 48 := by simp at hc1; omega
      subst hk
      refine CW.exit (thenX (thenX (blockX (thenN ?_))))
      refine CW.seq ?_
      refine CW.region (by kernel_rfl) ?_
      refine RL.q rfl rfl (QW.loadN rfl Tryz.isAgg332 Tryz.sizeOf332 (by repeat (first | exact List.mem_cons_self | exact List.mem_cons_of_mem _ (by assumption) | assumption | refine List.mem_cons_of_mem _ ?_ | refine List.mem_append_right _ ?_)) (by first | (simp only [List.length_map, List.length_replicate, List.length_cons, List.length_nil, List.length_set, Nat.mul_one] <;> omega) | (simp [*] <;> omega)) (by first | (refine m_all_of _ _ ?_; omega) | (refine m_all_of _ _ ?_; simp [*]; done) | exact m_cut _ _ _ | with_reducible rfl)) ?_
      refine RL.cons rfl (OW.alloc zv332 rfl ?_)
      intro b12
      refine RL.cons rfl (OW.storeN rfl rfl Tryz.sizeOf332 (by repeat (first | exact List.mem_cons_self | exact List.mem_cons_of_mem _ (by assumption) | assumption | refine List.mem_cons_of_mem _ ?_ | refine List.mem_append_right _ ?_)) (by first | (simp only [List.length_map, List.length_replicate, List.length_cons, List.length_nil, List.length_set, Nat.mul_one] <;> omega) | (simp [*] <;> omega)) (by first | exact m_all (fun _ => rfl) _ | rfl | (simp; done) | (simp only [List.all_cons, List.all_nil, oneB_buf, Bool.true_and, Bool.and_true]; rfl) | (simp [oneB]; done)) (by first | (simp only [List.length_map, List.length_replicate, List.length_cons, List.length_nil, List.length_set, Nat.mul_one] <;> omega) | (simp [*] <;> omega)) (by first | (refine wr_all ?_; simp only [List.length_map, List.length_replicate, List.length_cons, List.length_nil, List.length_set, Nat.mul_one] <;> omega) | (refine wr_all ?_; simp [*]; done) | exact m_wr _ _ _ | with_reducible rfl) (by repeat (first | exact Upd.head | apply Upd.tail | apply Upd.tailA)) ?_)
      refine RL.nil (thenN ?_)
      refine CW.seq ?_
      refine CW.seq ?_
      refine CW.region (by kernel_rfl) ?_
      refine RL.q rfl rfl (QW.assign rfl) ?_
      refine RL.nil (thenN ?_)
      refine CW.block ?_
      refine CW.loopT (ι := Nat) [(2, _), (3, _), (6, _), (7, _), (12, _)] (by repeat (first | exact leE_nil | refine leE_cons rfl ?_)) (fun i => i ≤ 64) (fun i r => (13, nI i) :: r) (fun i => (b12, blk ((rL h b i).map u32) 332) :: (b7, blk ((rw2 b 48).map u32) 373) :: (b6, blk ((List.replicate 8 0).map u32) 332) :: (b3, blk (h.map u32) 332) :: S) (fun i => 64 - i) 0 (by omega) (by repeat (first | exact leE_nil | refine leE_cons (by first | rfl | (rfl)) ?_)) (by repeat (first | exact List.Sublist.refl _ | (refine keepS ?_ ?_; with_reducible rfl) | (refine keepA ?_ ?_; with_reducible rfl) | (refine keepS ?_ ?_; rfl) | apply dropS | apply dropA)) ?_
      intro i hI
      have hl := rL_len h b hh i
      refine CW.seq ?_
      refine CW.seq ?_
      refine CW.region (by kernel_rfl) ?_
      refine RL.q rfl rfl (QW.move rfl) ?_
      refine RL.q rfl rfl (QW.lss rfl rfl (dI_lt _ 64)) ?_
      refine RL.nil (thenN ?_)
      refine CW.cond rfl (fun hc2 => ?_) (fun hc2 => ?_)
      · have hi : i < 64 := by simpa using hc2
        have hk64 := kTab_len
        have hw64 := rw2_len b 48
        refine CW.skip (thenN ?_)
        refine CW.seq ?_
        refine CW.block ?_
        refine CW.seq ?_
        refine CW.region (by kernel_rfl) ?_
        refine RL.q rfl rfl (QW.indexAddrA Tryz.runUnderlying332 Tryz.sizeOf62 rfl rfl (by omega) (by first | omega | exact lt8 _) (by first | exact ix01 0 | exact ixb1 _ 0 | exact ix0m 0 _ | exact ixbm _ 0 _)) ?_
        refine RL.q rfl rfl (QW.load1 rfl Tryz.isAgg62 (by repeat (first | exact List.mem_cons_self | exact List.mem_cons_of_mem _ (by assumption) | assumption | refine List.mem_cons_of_mem _ ?_ | refine List.mem_append_right _ ?_)) (by first | (refine m_get 0 ?_; omega) | (refine m_get 0 ?_; simp only [*]; omega) | (refine m_get 0 ?_; simp only [List.length_set]; omega) | (refine m_get 0 (lt8L ?_); omega) | (refine m_get 0 (lt8B ?_); omega) | rfl)) ?_
        refine RL.q rfl rfl (QW.assign rfl) ?_
        refine RL.nil (thenN ?_)
        refine CW.seq ?_
        refine CW.region (by kernel_rfl) ?_
        refine RL.q rfl rfl (QW.indexAddrA Tryz.runUnderlying332 Tryz.sizeOf62 rfl rfl (by omega) (by first | omega | exact lt8 _) (by first | exact ix01 4 | exact ixb1 _ 4 | exact ix0m 4 _ | exact ixbm _ 4 _)) ?_
        refine RL.q rfl rfl (QW.load1 rfl Tryz.isAgg62 (by repeat (first | exact List.mem_cons_self | exact List.mem_cons_of_mem _ (by assumption) | assumption | refine List.mem_cons_of_mem _ ?_ | refine List.mem_append_right _ ?_)) (by first | (refine m_get 0 ?_; omega) | (refine m_get 0 ?_; simp only [*]; omega) | (refine m_get 0 ?_; simp only [List.length_set]; omega) | (refine m_get 0 (lt8L ?_); omega) | (refine m_get 0 (lt8B ?_); omega) | rfl)) ?_
        refine RL.q rfl rfl (QW.assign rfl) ?_
        refine RL.nil (thenN ?_)
        refine CW.seq ?_
        refine CW.drawnS 32 (by rw [mixed]; rfl) (by kernel_rfl) (by kernel_rfl) (by kernel_rfl) (fun _ _ _ h => h) ?_
        refine DL.take 0 rfl (by kernel_rfl) (by kernel_rfl) (by kernel_rfl) rfl rfl (QW.indexAddrA Tryz.runUnderlying332 Tryz.sizeOf62 rfl rfl (by omega) (by first | omega | exact lt8 _) (by first | exact ix01 7 | exact ixb1 _ 7 | exact ix0m 7 _ | exact ixbm _ 7 _)) (by intro p hp; repeat (first | exact hp | refine List.mem_cons_of_mem _ ?_)) ?_
        refine DL.take 1 rfl (by kernel_rfl) (by kernel_rfl) (by kernel_rfl) rfl rfl (QW.load1 rfl Tryz.isAgg62 (by repeat (first | exact List.mem_cons_self | exact List.mem_cons_of_mem _ (by assumption) | assumption | refine List.mem_cons_of_mem _ ?_ | refine List.mem_append_right _ ?_)) (by first | (refine m_get 0 ?_; omega) | (refine m_get 0 ?_; simp only [*]; omega) | (refine m_get 0 ?_; simp only [List.length_set]; omega) | (refine m_get 0 (lt8L ?_); omega) | (refine m_get 0 (lt8B ?_); omega) | rfl)) (by intro p hp; repeat (first | exact hp | refine List.mem_cons_of_mem _ ?_)) ?_
        refine DL.take 2 rfl (by kernel_rfl) (by kernel_rfl) (by kernel_rfl) rfl rfl (QW.move rfl) (by intro p hp; repeat (first | exact hp | refine List.mem_cons_of_mem _ ?_)) ?_
        refine DL.take 4 rfl (by kernel_rfl) (by kernel_rfl) (by kernel_rfl) rfl rfl (QW.move rfl) (by intro p hp; repeat (first | exact hp | refine List.mem_cons_of_mem _ ?_)) ?_
        refine DL.take 7 rfl (by kernel_rfl) (by kernel_rfl) (by kernel_rfl) rfl rfl (QW.move rfl) (by intro p hp; repeat (first | exact hp | refine List.mem_cons_of_mem _ ?_)) ?_
        refine DL.take 11 rfl (by kernel_rfl) (by kernel_rfl) (by kernel_rfl) rfl rfl (QW.move rfl) (by intro p hp; repeat (first | exact hp | refine List.mem_cons_of_mem _ ?_)) ?_
        refine DL.take 12 rfl (by kernel_rfl) (by kernel_rfl) (by kernel_rfl) rfl rfl (QW.indexAddrA Tryz.runUnderlying332 Tryz.sizeOf62 rfl rfl (by omega) (by first | omega | exact lt8 _) (by first | exact ix01 5 | exact ixb1 _ 5 | exact ix0m 5 _ | exact ixbm _ 5 _)) (by intro p hp; repeat (first | exact hp | refine List.mem_cons_of_mem _ ?_)) ?_
        refine DL.take 13 rfl (by kernel_rfl) (by kernel_rfl) (by kernel_rfl) rfl rfl (QW.load1 rfl Tryz.isAgg62 (by repeat (first | exact List.mem_cons_self | exact List.mem_cons_of_mem _ (by assumption) | assumption | refine List.mem_cons_of_mem _ ?_ | refine List.mem_append_right _ ?_)) (by first | (refine m_get 0 ?_; omega) | (refine m_get 0 ?_; simp only [*]; omega) | (refine m_get 0 ?_; simp only [List.length_set]; omega) | (refine m_get 0 (lt8L ?_); omega) | (refine m_get 0 (lt8B ?_); omega) | rfl)) (by intro p hp; repeat (first | exact hp | refine List.mem_cons_of_mem _ ?_)) ?_
        refine DL.take 14 rfl (by kernel_rfl) (by kernel_rfl) (by kernel_rfl) rfl rfl (QW.and_ rfl rfl (x32_and _ _)) (by intro p hp; repeat (first | exact hp | refine List.mem_cons_of_mem _ ?_)) ?_
        refine DL.take 15 rfl (by kernel_rfl) (by kernel_rfl) (by kernel_rfl) rfl rfl (QW.move rfl) (by intro p hp; repeat (first | exact hp | refine List.mem_cons_of_mem _ ?_)) ?_
        refine DL.take 16 rfl (by kernel_rfl) (by kernel_rfl) (by kernel_rfl) rfl rfl (QW.com rfl (x32_com _)) (by intro p hp; repeat (first | exact hp | refine List.mem_cons_of_mem _ ?_)) ?_
        refine DL.take 17 rfl (by kernel_rfl) (by kernel_rfl) (by kernel_rfl) rfl rfl (QW.indexAddrA Tryz.runUnderlying332 Tryz.sizeOf62 rfl rfl (by omega) (by first | omega | exact lt8 _) (by first | exact ix01 6 | exact ixb1 _ 6 | exact ix0m 6 _ | exact ixbm _ 6 _)) (by intro p hp; repeat (first | exact hp | refine List.mem_cons_of_mem _ ?_)) ?_
        refine DL.take 18 rfl (by kernel_rfl) (by kernel_rfl) (by kernel_rfl) rfl rfl (QW.load1 rfl Tryz.isAgg62 (by repeat (first | exact List.mem_cons_self | exact List.mem_cons_of_mem _ (by assumption) | assumption | refine List.mem_cons_of_mem _ ?_ | refine List.mem_append_right _ ?_)) (by first | (refine m_get 0 ?_; omega) | (refine m_get 0 ?_; simp only [*]; omega) | (refine m_get 0 ?_; simp only [List.length_set]; omega) | (refine m_get 0 (lt8L ?_); omega) | (refine m_get 0 (lt8B ?_); omega) | rfl)) (by intro p hp; repeat (first | exact hp | refine List.mem_cons_of_mem _ ?_)) ?_
        refine DL.take 19 rfl (by kernel_rfl) (by kernel_rfl) (by kernel_rfl) rfl rfl (QW.and_ rfl rfl (x32_and _ _)) (by intro p hp; repeat (first | exact hp | refine List.mem_cons_of_mem _ ?_)) ?_
        refine DL.take 20 rfl (by kernel_rfl) (by kernel_rfl) (by kernel_rfl) rfl rfl (QW.xor_ rfl rfl (x32_xor _ _)) (by intro p hp; repeat (first | exact hp | refine List.mem_cons_of_mem _ ?_)) ?_
        refine DL.take 22 rfl (by kernel_rfl) (by kernel_rfl) (by kernel_rfl) rfl rfl (QW.move rfl) (by intro p hp; repeat (first | exact hp | refine List.mem_cons_of_mem _ ?_)) ?_
        refine DL.take 23 rfl (by kernel_rfl) (by kernel_rfl) (by kernel_rfl) rfl rfl (QW.move rfl) (by intro p hp; repeat (first | exact hp | refine List.mem_cons_of_mem _ ?_)) ?_
        refine DL.take 24 rfl (by kernel_rfl) (by kernel_rfl) (by kernel_rfl) rfl rfl (QW.indexAddrS Tryz.runUnderlying223 Tryz.sizeOf62 rfl rfl (by omega) (by first | omega | exact lt8 _) (by first | exact ix01 _ | exact ixb1 _ _ | exact ix0m _ _ | exact ixbm _ _ _)) (by intro p hp; repeat (first | exact hp | refine List.mem_cons_of_mem _ ?_)) ?_
        refine DL.take 25 rfl (by kernel_rfl) (by kernel_rfl) (by kernel_rfl) rfl rfl (QW.load1 rfl Tryz.isAgg62 (by repeat (first | exact hk | refine List.mem_cons_of_mem _ ?_)) (hkget i (by omega))) (by intro p hp; repeat (first | exact hp | refine List.mem_cons_of_mem _ ?_)) ?_
        refine DL.take 27 rfl (by kernel_rfl) (by kernel_rfl) (by kernel_rfl) rfl rfl (QW.move rfl) (by intro p hp; repeat (first | exact hp | refine List.mem_cons_of_mem _ ?_)) ?_
        refine DL.take 28 rfl (by kernel_rfl) (by kernel_rfl) (by kernel_rfl) rfl rfl (QW.indexAddrA Tryz.runUnderlying373 Tryz.sizeOf62 rfl rfl (by omega) (by first | omega | exact lt8 _) (by first | exact ix01 _ | exact ixb1 _ _ | exact ix0m _ _ | exact ixbm _ _ _)) (by intro p hp; repeat (first | exact hp | refine List.mem_cons_of_mem _ ?_)) ?_
        refine DL.take 29 rfl (by kernel_rfl) (by kernel_rfl) (by kernel_rfl) rfl rfl (QW.load1 rfl Tryz.isAgg62 (by repeat (first | exact List.mem_cons_self | exact List.mem_cons_of_mem _ (by assumption) | assumption | refine List.mem_cons_of_mem _ ?_ | refine List.mem_append_right _ ?_)) (by first | (refine m_get 0 ?_; omega) | (refine m_get 0 ?_; simp only [*]; omega) | (refine m_get 0 ?_; simp only [List.length_set]; omega) | (refine m_get 0 (lt8L ?_); omega) | (refine m_get 0 (lt8B ?_); omega) | rfl)) (by intro p hp; repeat (first | exact hp | refine List.mem_cons_of_mem _ ?_)) ?_
        refine DL.one 3 (by kernel_rfl) rfl rfl (OW.call Tryz.call319 (ext2 rfl rfl) ((round_c _ 6 _ (by decide)).mono ?_))
        rintro v S' ⟨rfl, rfl⟩
        refine ⟨fun _ p hp => by repeat (first | exact hp | refine List.mem_cons_of_mem _ ?_), ?_⟩
        refine DL.one 5 (by kernel_rfl) rfl rfl (OW.call Tryz.call319 (ext2 rfl rfl) ((round_c _ 11 _ (by decide)).mono ?_))
        rintro v S' ⟨rfl, rfl⟩
        refine ⟨fun _ p hp => by repeat (first | exact hp | refine List.mem_cons_of_mem _ ?_), ?_⟩
        refine DL.take 6 rfl (by kernel_rfl) (by kernel_rfl) (by kernel_rfl) rfl rfl (QW.xor_ rfl rfl (x32_xor _ _)) (by intro p hp; repeat (first | exact hp | refine List.mem_cons_of_mem _ ?_)) ?_
        refine DL.one 8 (by kernel_rfl) rfl rfl (OW.call Tryz.call319 (ext2 rfl rfl) ((round_c _ 25 _ (by decide)).mono ?_))
        rintro v S' ⟨rfl, rfl⟩
        refine ⟨fun _ p hp => by repeat (first | exact hp | refine List.mem_cons_of_mem _ ?_), ?_⟩
        refine DL.take 9 rfl (by kernel_rfl) (by kernel_rfl) (by kernel_rfl) rfl rfl (QW.xor_ rfl rfl (x32_xor _ _)) (by intro p hp; repeat (first | exact hp | refine List.mem_cons_of_mem _ ?_)) ?_
        refine DL.take 10 rfl (by kernel_rfl) (by kernel_rfl) (by kernel_rfl) rfl rfl (QW.add rfl rfl (w32_add _ _)) (by intro p hp; repeat (first | exact hp | refine List.mem_cons_of_mem _ ?_)) ?_
        refine DL.take 21 rfl (by kernel_rfl) (by kernel_rfl) (by kernel_rfl) rfl rfl (QW.add rfl rfl (w32_add _ _)) (by intro p hp; repeat (first | exact hp | refine List.mem_cons_of_mem _ ?_)) ?_
        refine DL.take 26 rfl (by kernel_rfl) (by kernel_rfl) (by kernel_rfl) rfl rfl (QW.add rfl rfl (w32_add _ _)) (by intro p hp; repeat (first | exact hp | refine List.mem_cons_of_mem _ ?_)) ?_
        refine DL.take 30 rfl (by kernel_rfl) (by kernel_rfl) (by kernel_rfl) rfl rfl (QW.add rfl rfl (w32_add _ _)) (by intro p hp; repeat (first | exact hp | refine List.mem_cons_of_mem _ ?_)) ?_
        refine DL.take 31 rfl (by kernel_rfl) (by kernel_rfl) (by kernel_rfl) rfl rfl (QW.assign rfl) (by intro p hp; repeat (first | exact hp | refine List.mem_cons_of_mem _ ?_)) ?_
        refine DL.done (by kernel_rfl) (thenN ?_)
        refine CW.seq ?_
        refine CW.drawnS 25 (by rw [mixed]; rfl) (by kernel_rfl) (by kernel_rfl) (by kernel_rfl) (fun _ _ _ h => h) ?_
        refine DL.take 0 rfl (by kernel_rfl) (by kernel_rfl) (by kernel_rfl) rfl rfl (QW.move rfl) (by intro p hp; repeat (first | exact hp | refine List.mem_cons_of_mem _ ?_)) ?_
        refine DL.take 2 rfl (by kernel_rfl) (by kernel_rfl) (by kernel_rfl) rfl rfl (QW.move rfl) (by intro p hp; repeat (first | exact hp | refine List.mem_cons_of_mem _ ?_)) ?_
        refine DL.take 5 rfl (by kernel_rfl) (by kernel_rfl) (by kernel_rfl) rfl rfl (QW.move rfl) (by intro p hp; repeat (first | exact hp | refine List.mem_cons_of_mem _ ?_)) ?_
        refine DL.take 8 rfl (by kernel_rfl) (by kernel_rfl) (by kernel_rfl) rfl rfl (QW.move rfl) (by intro p hp; repeat (first | exact hp | refine List.mem_cons_of_mem _ ?_)) ?_
        refine DL.take 9 rfl (by kernel_rfl) (by kernel_rfl) (by kernel_rfl) rfl rfl (QW.indexAddrA Tryz.runUnderlying332 Tryz.sizeOf62 rfl rfl (by omega) (by first | omega | exact lt8 _) (by first | exact ix01 1 | exact ixb1 _ 1 | exact ix0m 1 _ | exact ixbm _ 1 _)) (by intro p hp; repeat (first | exact hp | refine List.mem_cons_of_mem _ ?_)) ?_
        refine DL.take 10 rfl (by kernel_rfl) (by kernel_rfl) (by kernel_rfl) rfl rfl (QW.load1 rfl Tryz.isAgg62 (by repeat (first | exact List.mem_cons_self | exact List.mem_cons_of_mem _ (by assumption) | assumption | refine List.mem_cons_of_mem _ ?_ | refine List.mem_append_right _ ?_)) (by first | (refine m_get 0 ?_; omega) | (refine m_get 0 ?_; simp only [*]; omega) | (refine m_get 0 ?_; simp only [List.length_set]; omega) | (refine m_get 0 (lt8L ?_); omega) | (refine m_get 0 (lt8B ?_); omega) | rfl)) (by intro p hp; repeat (first | exact hp | refine List.mem_cons_of_mem _ ?_)) ?_
        refine DL.take 11 rfl (by kernel_rfl) (by kernel_rfl) (by kernel_rfl) rfl rfl (QW.and_ rfl rfl (x32_and _ _)) (by intro p hp; repeat (first | exact hp | refine List.mem_cons_of_mem _ ?_)) ?_
        refine DL.take 12 rfl (by kernel_rfl) (by kernel_rfl) (by kernel_rfl) rfl rfl (QW.move rfl) (by intro p hp; repeat (first | exact hp | refine List.mem_cons_of_mem _ ?_)) ?_
        refine DL.take 13 rfl (by kernel_rfl) (by kernel_rfl) (by kernel_rfl) rfl rfl (QW.indexAddrA Tryz.runUnderlying332 Tryz.sizeOf62 rfl rfl (by omega) (by first | omega | exact lt8 _) (by first | exact ix01 2 | exact ixb1 _ 2 | exact ix0m 2 _ | exact ixbm _ 2 _)) (by intro p hp; repeat (first | exact hp | refine List.mem_cons_of_mem _ ?_)) ?_
        refine DL.take 14 rfl (by kernel_rfl) (by kernel_rfl) (by kernel_rfl) rfl rfl (QW.load1 rfl Tryz.isAgg62 (by repeat (first | exact List.mem_cons_self | exact List.mem_cons_of_mem _ (by assumption) | assumption | refine List.mem_cons_of_mem _ ?_ | refine List.mem_append_right _ ?_)) (by first | (refine m_get 0 ?_; omega) | (refine m_get 0 ?_; simp only [*]; omega) | (refine m_get 0 ?_; simp only [List.length_set]; omega) | (refine m_get 0 (lt8L ?_); omega) | (refine m_get 0 (lt8B ?_); omega) | rfl)) (by intro p hp; repeat (first | exact hp | refine List.mem_cons_of_mem _ ?_)) ?_
        refine DL.take 15 rfl (by kernel_rfl) (by kernel_rfl) (by kernel_rfl) rfl rfl (QW.and_ rfl rfl (x32_and _ _)) (by intro p hp; repeat (first | exact hp | refine List.mem_cons_of_mem _ ?_)) ?_
        refine DL.take 16 rfl (by kernel_rfl) (by kernel_rfl) (by kernel_rfl) rfl rfl (QW.or_ rfl rfl (x32_or _ _)) (by intro p hp; repeat (first | exact hp | refine List.mem_cons_of_mem _ ?_)) ?_
        refine DL.take 17 rfl (by kernel_rfl) (by kernel_rfl) (by kernel_rfl) rfl rfl (QW.indexAddrA Tryz.runUnderlying332 Tryz.sizeOf62 rfl rfl (by omega) (by first | omega | exact lt8 _) (by first | exact ix01 1 | exact ixb1 _ 1 | exact ix0m 1 _ | exact ixbm _ 1 _)) (by intro p hp; repeat (first | exact hp | refine List.mem_cons_of_mem _ ?_)) ?_
        refine DL.take 18 rfl (by kernel_rfl) (by kernel_rfl) (by kernel_rfl) rfl rfl (QW.load1 rfl Tryz.isAgg62 (by repeat (first | exact List.mem_cons_self | exact List.mem_cons_of_mem _ (by assumption) | assumption | refine List.mem_cons_of_mem _ ?_ | refine List.mem_append_right _ ?_)) (by first | (refine m_get 0 ?_; omega) | (refine m_get 0 ?_; simp only [*]; omega) | (refine m_get 0 ?_; simp only [List.length_set]; omega) | (refine m_get 0 (lt8L ?_); omega) | (refine m_get 0 (lt8B ?_); omega) | rfl)) (by intro p hp; repeat (first | exact hp | refine List.mem_cons_of_mem _ ?_)) ?_
        refine DL.take 19 rfl (by kernel_rfl) (by kernel_rfl) (by kernel_rfl) rfl rfl (QW.indexAddrA Tryz.runUnderlying332 Tryz.sizeOf62 rfl rfl (by omega) (by first | omega | exact lt8 _) (by first | exact ix01 2 | exact ixb1 _ 2 | exact ix0m 2 _ | exact ixbm _ 2 _)) (by intro p hp; repeat (first | exact hp | refine List.mem_cons_of_mem _ ?_)) ?_
        refine DL.take 20 rfl (by kernel_rfl) (by kernel_rfl) (by kernel_rfl) rfl rfl (QW.load1 rfl Tryz.isAgg62 (by repeat (first | exact List.mem_cons_self | exact List.mem_cons_of_mem _ (by assumption) | assumption | refine List.mem_cons_of_mem _ ?_ | refine List.mem_append_right _ ?_)) (by first | (refine m_get 0 ?_; omega) | (refine m_get 0 ?_; simp only [*]; omega) | (refine m_get 0 ?_; simp only [List.length_set]; omega) | (refine m_get 0 (lt8L ?_); omega) | (refine m_get 0 (lt8B ?_); omega) | rfl)) (by intro p hp; repeat (first | exact hp | refine List.mem_cons_of_mem _ ?_)) ?_
        refine DL.take 21 rfl (by kernel_rfl) (by kernel_rfl) (by kernel_rfl) rfl rfl (QW.and_ rfl rfl (x32_and _ _)) (by intro p hp; repeat (first | exact hp | refine List.mem_cons_of_mem _ ?_)) ?_
        refine DL.take 22 rfl (by kernel_rfl) (by kernel_rfl) (by kernel_rfl) rfl rfl (QW.or_ rfl rfl (x32_or _ _)) (by intro p hp; repeat (first | exact hp | refine List.mem_cons_of_mem _ ?_)) ?_
        refine DL.one 1 (by kernel_rfl) rfl rfl (OW.call Tryz.call319 (ext2 rfl rfl) ((round_c _ 2 _ (by decide)).mono ?_))
        rintro v S' ⟨rfl, rfl⟩
        refine ⟨fun _ p hp => by repeat (first | exact hp | refine List.mem_cons_of_mem _ ?_), ?_⟩
        refine DL.one 3 (by kernel_rfl) rfl rfl (OW.call Tryz.call319 (ext2 rfl rfl) ((round_c _ 13 _ (by decide)).mono ?_))
        rintro v S' ⟨rfl, rfl⟩
        refine ⟨fun _ p hp => by repeat (first | exact hp | refine List.mem_cons_of_mem _ ?_), ?_⟩
        refine DL.take 4 rfl (by kernel_rfl) (by kernel_rfl) (by kernel_rfl) rfl rfl (QW.xor_ rfl rfl (x32_xor _ _)) (by intro p hp; repeat (first | exact hp | refine List.mem_cons_of_mem _ ?_)) ?_
        refine DL.one 6 (by kernel_rfl) rfl rfl (OW.call Tryz.call319 (ext2 rfl rfl) ((round_c _ 22 _ (by decide)).mono ?_))
        rintro v S' ⟨rfl, rfl⟩
        refine ⟨fun _ p hp => by repeat (first | exact hp | refine List.mem_cons_of_mem _ ?_), ?_⟩
        refine DL.take 7 rfl (by kernel_rfl) (by kernel_rfl) (by kernel_rfl) rfl rfl (QW.xor_ rfl rfl (x32_xor _ _)) (by intro p hp; repeat (first | exact hp | refine List.mem_cons_of_mem _ ?_)) ?_
        refine DL.take 23 rfl (by kernel_rfl) (by kernel_rfl) (by kernel_rfl) rfl rfl (QW.add rfl rfl (w32_add _ _)) (by intro p hp; repeat (first | exact hp | refine List.mem_cons_of_mem _ ?_)) ?_
        refine DL.take 24 rfl (by kernel_rfl) (by kernel_rfl) (by kernel_rfl) rfl rfl (QW.assign rfl) (by intro p hp; repeat (first | exact hp | refine List.mem_cons_of_mem _ ?_)) ?_
        refine DL.done (by kernel_rfl) (thenN ?_)
        refine CW.region (by kernel_rfl) ?_
        refine RL.q rfl rfl (QW.move rfl) ?_
        refine RL.q rfl rfl (QW.move rfl) ?_
        refine RL.q rfl rfl (QW.add rfl rfl (w32_add _ _)) ?_
        refine RL.q rfl rfl (QW.move rfl) ?_
        refine RL.q rfl rfl (QW.indexAddrA Tryz.runUnderlying332 Tryz.sizeOf62 rfl rfl (by omega) (by first | omega | exact lt8 _) (by first | exact ix01 1 | exact ixb1 _ 1 | exact ix0m 1 _ | exact ixbm _ 1 _)) ?_
        refine RL.q rfl rfl (QW.load1 rfl Tryz.isAgg62 (by repeat (first | exact List.mem_cons_self | exact List.mem_cons_of_mem _ (by assumption) | assumption | refine List.mem_cons_of_mem _ ?_ | refine List.mem_append_right _ ?_)) (by first | (refine m_get 0 ?_; omega) | (refine m_get 0 ?_; simp only [*]; omega) | (refine m_get 0 ?_; simp only [List.length_set]; omega) | (refine m_get 0 (lt8L ?_); omega) | (refine m_get 0 (lt8B ?_); omega) | rfl)) ?_
        refine RL.q rfl rfl (QW.indexAddrA Tryz.runUnderlying332 Tryz.sizeOf62 rfl rfl (by omega) (by first | omega | exact lt8 _) (by first | exact ix01 2 | exact ixb1 _ 2 | exact ix0m 2 _ | exact ixbm _ 2 _)) ?_
        refine RL.q rfl rfl (QW.load1 rfl Tryz.isAgg62 (by repeat (first | exact List.mem_cons_self | exact List.mem_cons_of_mem _ (by assumption) | assumption | refine List.mem_cons_of_mem _ ?_ | refine List.mem_append_right _ ?_)) (by first | (refine m_get 0 ?_; omega) | (refine m_get 0 ?_; simp only [*]; omega) | (refine m_get 0 ?_; simp only [List.length_set]; omega) | (refine m_get 0 (lt8L ?_); omega) | (refine m_get 0 (lt8B ?_); omega) | rfl)) ?_
        refine RL.q rfl rfl (QW.indexAddrA Tryz.runUnderlying332 Tryz.sizeOf62 rfl rfl (by omega) (by first | omega | exact lt8 _) (by first | exact ix01 3 | exact ixb1 _ 3 | exact ix0m 3 _ | exact ixbm _ 3 _)) ?_
        refine RL.q rfl rfl (QW.load1 rfl Tryz.isAgg62 (by repeat (first | exact List.mem_cons_self | exact List.mem_cons_of_mem _ (by assumption) | assumption | refine List.mem_cons_of_mem _ ?_ | refine List.mem_append_right _ ?_)) (by first | (refine m_get 0 ?_; omega) | (refine m_get 0 ?_; simp only [*]; omega) | (refine m_get 0 ?_; simp only [List.length_set]; omega) | (refine m_get 0 (lt8L ?_); omega) | (refine m_get 0 (lt8B ?_); omega) | rfl)) ?_
        refine RL.q rfl rfl (QW.move rfl) ?_
        refine RL.q rfl rfl (QW.add rfl rfl (w32_add _ _)) ?_
        refine RL.q rfl rfl (QW.move rfl) ?_
        refine RL.q rfl rfl (QW.indexAddrA Tryz.runUnderlying332 Tryz.sizeOf62 rfl rfl (by omega) (by first | omega | exact lt8 _) (by first | exact ix01 5 | exact ixb1 _ 5 | exact ix0m 5 _ | exact ixbm _ 5 _)) ?_
        refine RL.q rfl rfl (QW.load1 rfl Tryz.isAgg62 (by repeat (first | exact List.mem_cons_self | exact List.mem_cons_of_mem _ (by assumption) | assumption | refine List.mem_cons_of_mem _ ?_ | refine List.mem_append_right _ ?_)) (by first | (refine m_get 0 ?_; omega) | (refine m_get 0 ?_; simp only [*]; omega) | (refine m_get 0 ?_; simp only [List.length_set]; omega) | (refine m_get 0 (lt8L ?_); omega) | (refine m_get 0 (lt8B ?_); omega) | rfl)) ?_
        refine RL.q rfl rfl (QW.indexAddrA Tryz.runUnderlying332 Tryz.sizeOf62 rfl rfl (by omega) (by first | omega | exact lt8 _) (by first | exact ix01 6 | exact ixb1 _ 6 | exact ix0m 6 _ | exact ixbm _ 6 _)) ?_
        refine RL.q rfl rfl (QW.load1 rfl Tryz.isAgg62 (by repeat (first | exact List.mem_cons_self | exact List.mem_cons_of_mem _ (by assumption) | assumption | refine List.mem_cons_of_mem _ ?_ | refine List.mem_append_right _ ?_)) (by first | (refine m_get 0 ?_; omega) | (refine m_get 0 ?_; simp only [*]; omega) | (refine m_get 0 ?_; simp only [List.length_set]; omega) | (refine m_get 0 (lt8L ?_); omega) | (refine m_get 0 (lt8B ?_); omega) | rfl)) ?_
        refine RL.q rfl rfl (QW.buildA (ps := [(0, u32 _), (1, u32 _), (2, u32 _), (3, u32 _), (4, u32 _), (5, u32 _), (6, u32 _), (7, u32 _)]) Tryz.runUnderlying332 Tryz.sizeOf62 zv332 (parts_of rfl) (fill8 _ _ _ _ _ _ _ _)) ?_
        have hrl : ∀ x y z w p q r s : UInt32, ([u32 x, u32 y, u32 z, u32 w, u32 p, u32 q, u32 r, u32 s] : List Value) = [x, y, z, w, p, q, r, s].map u32 := fun _ _ _ _ _ _ _ _ => rfl
        refine RL.cons rfl (OW.storeN rfl rfl Tryz.sizeOf332 (by repeat (first | exact List.mem_cons_self | exact List.mem_cons_of_mem _ (by assumption) | assumption | refine List.mem_cons_of_mem _ ?_ | refine List.mem_append_right _ ?_)) (by first | (simp only [List.length_map, List.length_replicate, List.length_cons, List.length_nil, List.length_set, Nat.mul_one] <;> omega) | (simp [*] <;> omega)) (by first | exact m_all (fun _ => rfl) _ | rfl | (simp; done) | (simp only [List.all_cons, List.all_nil, oneB_buf, Bool.true_and, Bool.and_true]; rfl) | (simp [oneB]; done)) (by first | (simp only [List.length_map, List.length_replicate, List.length_cons, List.length_nil, List.length_set, Nat.mul_one] <;> omega) | (simp [*] <;> omega)) (by first | (refine wr_all ?_; simp only [List.length_map, List.length_replicate, List.length_cons, List.length_nil, List.length_set, Nat.mul_one] <;> omega) | (refine wr_all ?_; simp [*]; done) | exact m_wr _ _ _ | with_reducible rfl) (by repeat (first | exact Upd.head | apply Upd.tail | apply Upd.tailA)) ?_)
        refine RL.nil (blockN (thenN ?_))
        refine CW.region (by kernel_rfl) ?_
        refine RL.q rfl rfl (QW.move rfl) ?_
        refine RL.q rfl rfl (QW.add rfl rfl (wI_add (a := _) (b := 1) (by omega))) ?_
        refine RL.q rfl rfl (QW.assign rfl) ?_
        refine RL.nil (thenN ?_)
        refine ⟨i + 1, (by omega), (by omega), ?_, ?_⟩
        · repeat (first | exact leE_nil | refine leE_cons rfl ?_)
        · exact List.Sublist.refl _
      · have hi : i = 64 := by simp at hc2; omega
        subst hi
        refine CW.exit (thenX (thenX (blockX (thenN ?_))))
        refine CW.seq ?_
        refine CW.seq ?_
        refine CW.region (by kernel_rfl) ?_
        refine RL.q rfl rfl (QW.assign rfl) ?_
        refine RL.nil (thenN ?_)
        refine CW.block ?_
        refine CW.loopT (ι := Nat) [(3, _), (6, _), (12, _)] (by repeat (first | exact leE_nil | refine leE_cons rfl ?_)) (fun i => i ≤ 8) (fun i r => (18, nI i) :: r) (fun i => (b12, blk ((rFin h b i).map u32) 332) :: (b6, blk ((List.replicate 8 0).map u32) 332) :: (b3, blk (h.map u32) 332) :: S) (fun i => 8 - i) 0 (by omega) (by repeat (first | exact leE_nil | refine leE_cons (by first | rfl | (rfl)) ?_)) (by repeat (first | exact List.Sublist.refl _ | (refine keepS ?_ ?_; with_reducible rfl) | (refine keepA ?_ ?_; with_reducible rfl) | (refine keepS ?_ ?_; rfl) | apply dropS | apply dropA)) ?_
        intro i hI
        have hl := rFin_len h b hh i
        refine CW.seq ?_
        refine CW.seq ?_
        refine CW.region (by kernel_rfl) ?_
        refine RL.q rfl rfl (QW.move rfl) ?_
        refine RL.q rfl rfl (QW.lss rfl rfl (dI_lt _ 8)) ?_
        refine RL.nil (thenN ?_)
        refine CW.cond rfl (fun hc3 => ?_) (fun hc3 => ?_)
        · have hi : i < 8 := by simpa using hc3
          refine CW.skip (thenN ?_)
          refine CW.seq ?_
          refine CW.block ?_
          refine CW.drawnS 9 (by rw [mixed]; rfl) (by kernel_rfl) (by kernel_rfl) (by kernel_rfl) (fun _ _ _ h => h) ?_
          refine DL.take 0 rfl (by kernel_rfl) (by kernel_rfl) (by kernel_rfl) rfl rfl (QW.move rfl) (by intro p hp; repeat (first | exact hp | refine List.mem_cons_of_mem _ ?_)) ?_
          refine DL.take 1 rfl (by kernel_rfl) (by kernel_rfl) (by kernel_rfl) rfl rfl (QW.move rfl) (by intro p hp; repeat (first | exact hp | refine List.mem_cons_of_mem _ ?_)) ?_
          refine DL.take 2 rfl (by kernel_rfl) (by kernel_rfl) (by kernel_rfl) rfl rfl (QW.indexAddrA Tryz.runUnderlying332 Tryz.sizeOf62 rfl rfl (by omega) (by first | omega | exact lt8 _) (by first | exact ix01 _ | exact ixb1 _ _ | exact ix0m _ _ | exact ixbm _ _ _)) (by intro p hp; repeat (first | exact hp | refine List.mem_cons_of_mem _ ?_)) ?_
          refine DL.take 3 rfl (by kernel_rfl) (by kernel_rfl) (by kernel_rfl) rfl rfl (QW.load1 rfl Tryz.isAgg62 (by repeat (first | exact List.mem_cons_self | exact List.mem_cons_of_mem _ (by assumption) | assumption | refine List.mem_cons_of_mem _ ?_ | refine List.mem_append_right _ ?_)) (by first | (refine m_get 0 ?_; omega) | (refine m_get 0 ?_; simp only [*]; omega) | (refine m_get 0 ?_; simp only [List.length_set]; omega) | (refine m_get 0 (lt8L ?_); omega) | (refine m_get 0 (lt8B ?_); omega) | rfl)) (by intro p hp; repeat (first | exact hp | refine List.mem_cons_of_mem _ ?_)) ?_
          refine DL.take 4 rfl (by kernel_rfl) (by kernel_rfl) (by kernel_rfl) rfl rfl (QW.move rfl) (by intro p hp; repeat (first | exact hp | refine List.mem_cons_of_mem _ ?_)) ?_
          refine DL.take 5 rfl (by kernel_rfl) (by kernel_rfl) (by kernel_rfl) rfl rfl (QW.indexAddrA Tryz.runUnderlying332 Tryz.sizeOf62 rfl rfl (by omega) (by first | omega | exact lt8 _) (by first | exact ix01 _ | exact ixb1 _ _ | exact ix0m _ _ | exact ixbm _ _ _)) (by intro p hp; repeat (first | exact hp | refine List.mem_cons_of_mem _ ?_)) ?_
          refine DL.take 6 rfl (by kernel_rfl) (by kernel_rfl) (by kernel_rfl) rfl rfl (QW.load1 rfl Tryz.isAgg62 (by repeat (first | exact List.mem_cons_self | exact List.mem_cons_of_mem _ (by assumption) | assumption | refine List.mem_cons_of_mem _ ?_ | refine List.mem_append_right _ ?_)) (by first | (refine m_get 0 ?_; omega) | (refine m_get 0 ?_; simp only [*]; omega) | (refine m_get 0 ?_; simp only [List.length_set]; omega) | (refine m_get 0 (lt8L ?_); omega) | (refine m_get 0 (lt8B ?_); omega) | rfl)) (by intro p hp; repeat (first | exact hp | refine List.mem_cons_of_mem _ ?_)) ?_
          refine DL.take 7 rfl (by kernel_rfl) (by kernel_rfl) (by kernel_rfl) rfl rfl (QW.add rfl rfl (w32_add _ _)) (by intro p hp; repeat (first | exact hp | refine List.mem_cons_of_mem _ ?_)) ?_
          refine DL.take 8 rfl (by kernel_rfl) (by kernel_rfl) (by kernel_rfl) rfl rfl (QW.indexAddrA Tryz.runUnderlying332 Tryz.sizeOf62 rfl rfl (by omega) (by first | omega | exact lt8 _) (by first | exact ix01 _ | exact ixb1 _ _ | exact ix0m _ _ | exact ixbm _ _ _)) (by intro p hp; repeat (first | exact hp | refine List.mem_cons_of_mem _ ?_)) ?_
          refine DL.one 9 (by kernel_rfl) rfl rfl (OW.store1 rfl rfl Tryz.sizeOf62 rfl (by repeat (first | exact List.mem_cons_self | exact List.mem_cons_of_mem _ (by assumption) | assumption | refine List.mem_cons_of_mem _ ?_ | refine List.mem_append_right _ ?_)) (by first | (simp only [List.length_map, List.length_replicate, List.length_cons, List.length_nil, List.length_set, Nat.mul_one] <;> omega) | (rw [List.length_map]; refine lt8B ?_; simp [*]; done) | (rw [List.length_map]; refine lt8L ?_; simp [*]; done) | (simp [*] <;> omega)) (by first | exact m_set _ _ _ | rfl) (by repeat (first | exact Upd.head | apply Upd.tail | apply Upd.tailA)) ?_)
          refine ⟨fun h => absurd rfl h, ?_⟩
          refine DL.done (by kernel_rfl) (blockN (thenN ?_))
          refine CW.region (by kernel_rfl) ?_
          refine RL.q rfl rfl (QW.move rfl) ?_
          refine RL.q rfl rfl (QW.add rfl rfl (wI_add (a := _) (b := 1) (by omega))) ?_
          refine RL.q rfl rfl (QW.assign rfl) ?_
          refine RL.nil (thenN ?_)
          refine ⟨i + 1, (by omega), (by omega), ?_, ?_⟩
          · repeat (first | exact leE_nil | refine leE_cons rfl ?_)
          · exact List.Sublist.refl _
        · have hi : i = 8 := by simp at hc3; omega
          subst hi
          refine CW.exit (thenX (thenX (blockX (thenN ?_))))
          refine CW.seq ?_
          refine CW.region (by kernel_rfl) ?_
          refine RL.q rfl rfl (QW.loadN rfl Tryz.isAgg332 Tryz.sizeOf332 (by repeat (first | exact List.mem_cons_self | exact List.mem_cons_of_mem _ (by assumption) | assumption | refine List.mem_cons_of_mem _ ?_ | refine List.mem_append_right _ ?_)) (by first | (simp only [List.length_map, List.length_replicate, List.length_cons, List.length_nil, List.length_set, Nat.mul_one] <;> omega) | (simp [*] <;> omega)) (by first | (refine m_all_of _ _ ?_; omega) | (refine m_all_of _ _ ?_; simp [*]; done) | exact m_cut _ _ _ | with_reducible rfl)) ?_
          refine RL.cons rfl (OW.storeN rfl rfl Tryz.sizeOf332 (by repeat (first | exact List.mem_cons_self | exact List.mem_cons_of_mem _ (by assumption) | assumption | refine List.mem_cons_of_mem _ ?_ | refine List.mem_append_right _ ?_)) (by first | (simp only [List.length_map, List.length_replicate, List.length_cons, List.length_nil, List.length_set, Nat.mul_one] <;> omega) | (simp [*] <;> omega)) (by first | exact m_all (fun _ => rfl) _ | rfl | (simp; done) | (simp only [List.all_cons, List.all_nil, oneB_buf, Bool.true_and, Bool.and_true]; rfl) | (simp [oneB]; done)) (by first | (simp only [List.length_map, List.length_replicate, List.length_cons, List.length_nil, List.length_set, Nat.mul_one] <;> omega) | (simp [*] <;> omega)) (by first | (refine wr_all ?_; simp only [List.length_map, List.length_replicate, List.length_cons, List.length_nil, List.length_set, Nat.mul_one] <;> omega) | (refine wr_all ?_; simp [*]; done) | exact m_wr _ _ _ | with_reducible rfl) (by repeat (first | exact Upd.head | apply Upd.tail | apply Upd.tailA)) ?_)
          refine RL.nil (thenN ?_)
          refine CW.ret (retR (S) (ResOk.one Tryz.results281 (ResV.cellN rfl Tryz.isAgg332 Tryz.sizeOf332 (by repeat (first | exact List.mem_cons_self | exact List.mem_cons_of_mem _ (by assumption) | assumption | refine List.mem_cons_of_mem _ ?_ | refine List.mem_append_right _ ?_)) (by first | (simp only [List.length_map, List.length_replicate, List.length_cons, List.length_nil, List.length_set, Nat.mul_one] <;> omega) | (simp [*] <;> omega)) (by first | (refine m_all_of _ _ ?_; omega) | (refine m_all_of _ _ ?_; simp [*]; done) | exact m_cut _ _ _ | with_reducible rfl))) (by repeat (first | exact List.Sublist.refl _ | (refine keepS ?_ ?_; with_reducible rfl) | (refine keepA ?_ ?_; with_reducible rfl) | (refine keepS ?_ ?_; rfl) | apply dropS | apply dropA)) ?_)
          exact ⟨rfl, rfl⟩

end Go.Sl
