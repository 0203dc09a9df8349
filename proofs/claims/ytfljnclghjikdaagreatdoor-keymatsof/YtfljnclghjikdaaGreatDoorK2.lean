/- A part of a proof: X3, K4, K1, K2. -/
import Derived.Test.YtfljnclghjikdaaGreatDoorProg
import Derived.Test.YtfljnclghjikdaaGreatDoorX2
import Derived.Test.YtfljnclghjikdaaGreatDoorEngL
import Derived.Test.YtfljnclghjikdaaGreatDoorN3
/- keymats.Cut and burrowref10.Cut. -/
set_option linter.unusedVariables false
set_option linter.unusedSimpArgs false
namespace Go.Sl
open Go.Proofs

theorem RdB.mid {S : HL} {b off c lo n : Nat} {l : List Value} {T : TypeId} {fr : Nat × Nat} {bs : List UInt8} (hm : (b, Obj.cells ⟨l⟩ T fr) ∈ S) (hg : ∀ j, j < bs.length → l[off + j]? = some (u8 (bs.getD j 0))) (hd : lo + n ≤ bs.length) :
    RdB S (sl b (off + lo) n c) ((bs.drop lo).take n) := by
  have hl : ((bs.drop lo).take n).length = n := by simp; omega
  by_cases h0 : n = 0
  · subst h0; left; exact ⟨by simp, _, _, rfl⟩
  · right
    refine ⟨fun e => h0 (by rw [← hl, e]; rfl), b, off + lo, c, l, T, fr, by rw [hl], hm, fun k hk => ?_⟩
    rw [hl] at hk
    rw [Nat.add_assoc, hg (lo + k) (by omega)]
    simp [List.getD_eq_getElem?_getD, List.getElem?_take, List.getElem?_drop, hk]
def cutF (bs : List UInt8) (p : Nat) : List UInt8 := (bs.drop (48 * p)).take 48
theorem cutF_len {bs : List UInt8} {p : Nat} (h : p < bs.length / 48) : (cutF bs p).length = 48 := by simp [cutF]; omega
theorem cut_set {bs : List UInt8} {p i q : Nat} (h : p < bs.length / 48) (hi : i < 48 ∧ q = 48 * p + i) : (((cutF bs p).take i ++ List.replicate (48 - i) 0).map u8).set i (u8 (bs.getD q 0)) = ((cutF bs p).take (i + 1) ++ List.replicate (48 - (i + 1)) 0).map u8 := by
  obtain ⟨hi, rfl⟩ := hi
  have hl := cutF_len h
  have e : bs.getD (48 * p + i) 0 = (cutF bs p).getD i 0 := by simp [cutF, List.getD_eq_getElem?_getD, List.getElem?_take, List.getElem?_drop, hi]
  rw [e]
  generalize cutF bs p = B at *
  apply List.ext_getElem?
  intro k
  simp only [List.getElem?_set, List.getElem?_map, List.getElem?_append, List.length_take, List.getElem?_take, List.getElem?_replicate, List.length_map, List.length_append, List.length_replicate, hl, Nat.min_eq_left (Nat.le_of_lt hi), Nat.min_eq_left (show i + 1 ≤ 48 by omega)]
  by_cases hk : i = k
  · subst hk
    rw [if_pos rfl, if_pos (by omega), if_pos (by omega), if_pos (by omega), List.getD_eq_getElem?_getD, List.getElem?_eq_getElem (by omega)]
    rfl
  · rw [if_neg hk]
    by_cases h2 : k < i
    · rw [if_pos h2, if_pos h2, if_pos (by omega), if_pos (by omega)]
    · rw [if_neg h2, if_neg (show ¬ k < i + 1 by omega)]
      by_cases h3 : k < 48
      · rw [if_pos (by omega), if_pos (by omega)]
      · rw [if_neg (by omega), if_neg (by omega)]
theorem cut_w1 {B : List UInt8} (h : B.length = 48) : wrL ((List.replicate 48 0).map u8) 0 ((B.map u8).take (min 48 32 * 1)) = (B.take 32 ++ List.replicate 16 0).map u8 := by
  simp [wrL, h]
theorem cut_w2 {B : List UInt8} (h : B.length = 48) : wrL ((B.take 32 ++ List.replicate 16 0).map u8) 32 (((B.drop 32).map u8).take (min 16 16 * 1)) = B.map u8 := by
  have e : B = B.take 32 ++ B.drop 32 := (List.take_append_drop 32 B).symm
  have h1 : (B.take 32).length = 32 := by simp [h]
  have h2 : (B.drop 32).length = 16 := by simp [h]
  generalize B.take 32 = x at *
  generalize B.drop 32 = y at *
  subst e
  have h3 : (x.map u8).length = 32 := by simpa using h1
  have := wrL_tail (x.map u8) ((List.replicate 16 0).map u8) (y.map u8)
  rw [h3] at this
  rw [List.map_append, show min 16 16 * 1 = 16 from rfl, List.take_of_length_le (by simp [h2]), this]
  simp [h2]
theorem cut_b {S : HL} {b off c p : Nat} {l : List Value} {T : TypeId} {fr : Nat × Nat} {bs : List UInt8} (hm : (b, Obj.cells ⟨l⟩ T fr) ∈ S) (hg : ∀ j, j < bs.length → l[off + j]? = some (u8 (bs.getD j 0))) (hp : p < bs.length / 48) :
    RdB S (sl b (off + (48 * p + 32)) 16 c) ((cutF bs p).drop 32) := by
  have := RdB.mid (c := c) (lo := 48 * p + 32) (n := 16) hm hg (by omega)
  have e : (cutF bs p).drop 32 = (bs.drop (48 * p + 32)).take 16 := by simp [cutF, List.drop_take]
  rw [e]; exact this

theorem zv58 : ZV Tryz.prog 58 (.agg ⟨((List.replicate 48 0).map u8)⟩) := fun _ => by kernel_rfl
set_option maxRecDepth 100000 in
set_option maxHeartbeats 1000000 in
theorem KCut_c (bs : List UInt8) (p c : Nat) (a : Option Addr) (S : HL) (hv : RdS S (.slice a bs.length c) bs) (hp : p < bs.length / 48) (hb : bs.length ≤ 1000000) : CallS Tryz.prog 19 ⟨[.slice a bs.length c, nI p]⟩ S fun v S' => v = .tuple #[.agg ⟨(cutF bs p).map u8⟩, nI 0] ∧ S = S' := by
  obtain ⟨hvr, a0, c0, hv0, hc0⟩ := hv
  cases hv0
  obtain ⟨gb, off, l, TT, fr, rfl, hm, hget⟩ := RdB.at hvr (by omega)
  have hBl := cutF_len hp
  have hB : RdB S (sl gb (off + 48 * p) 48 48) (cutF bs p) := RdB.mid hm hget (by omega)
  refine CallS.enter Tryz.func19 rfl Tryz.ntmps19 (by simp) ?_
  refine CW.seq ?_
  refine CW.region (by kernel_rfl) ?_
  refine RL.cons rfl (OW.alloc zv58 rfl ?_)
  intro b4
  refine RL.q rfl rfl (QW.assign rfl) ?_
  refine RL.nil (thenN ?_)
  refine CW.seq ?_
  refine CW.block ?_
  refine CW.seq ?_
  refine CW.region (by kernel_rfl) ?_
  refine RL.q rfl rfl (QW.move rfl) ?_
  refine RL.q rfl rfl (QW.lss (t := false) rfl rfl (by simp)) ?_
  refine RL.q rfl rfl (QW.assign rfl) ?_
  refine RL.nil (thenN ?_)
  refine CW.cond_false rfl ?_
  refine CW.seq ?_
  refine CW.region (by kernel_rfl) ?_
  refine RL.q rfl rfl (QW.move rfl) ?_
  refine RL.q rfl rfl (QW.move rfl) ?_
  refine RL.q rfl rfl (QW.len_s Tryz.runUnderlying23 rfl) ?_
  refine RL.q rfl rfl (QW.quo rfl rfl (by omega) (tI_quo _ 48 (by omega))) ?_
  refine RL.q rfl rfl (QW.geq (t := false) rfl rfl (by simp; omega)) ?_
  refine RL.q rfl rfl (QW.assign rfl) ?_
  refine RL.nil (thenN ?_)
  refine CW.cond_false rfl ?_
  refine CW.skip (blockN (thenN ?_))
  refine CW.seq ?_
  refine CW.region (by kernel_rfl) ?_
  refine RL.q rfl rfl (QW.move rfl) ?_
  refine RL.q rfl rfl (QW.move rfl) ?_
  refine RL.q rfl rfl (QW.mul rfl rfl (wI_mul (a := 48) (b := _) (by omega))) ?_
  refine RL.q rfl rfl (QW.move rfl) ?_
  refine RL.q rfl rfl (QW.add rfl rfl (wI_add (a := _) (b := 1) (by omega))) ?_
  refine RL.q rfl rfl (QW.mul rfl rfl (wI_mul (a := 48) (b := _) (by omega))) ?_
  refine RL.q rfl rfl (QW.move rfl) ?_
  refine RL.q rfl rfl (QW.add rfl rfl (wI_add (a := _) (b := 1) (by omega))) ?_
  refine RL.q rfl rfl (QW.mul rfl rfl (wI_mul (a := 48) (b := _) (by omega))) ?_
  refine RL.q rfl rfl (QW.sliceE (l := 48 * p) (h := 48 * (p + 1)) (m := 48 * (p + 1)) (n1 := 48) (c1 := 48) (off' := off + 48 * p) Tryz.runUnderlying23 Tryz.sizeOf5 rfl (optV_some rfl) (optV_some rfl) (optV_some rfl) (.inr (by simp)) (by omega) (by omega) (by omega) (by simp [sliceOff]; omega) (by omega) (by omega)) ?_
  refine RL.q rfl rfl (QW.assign rfl) ?_
  refine RL.nil (thenN ?_)
  refine CW.seq ?_
  refine CW.region (by kernel_rfl) ?_
  refine RL.q rfl rfl (QW.fieldAddr Tryz.runUnderlying58 rfl Tryz.sizeOf51 (by decide) rfl (by first | exact fo0 0 | exact foB _ 0)) ?_
  refine RL.q rfl rfl (QW.sliceA0 Tryz.runUnderlying51 Tryz.sizeOf5 rfl optV_none optV_none (.inl rfl) (by first | omega | (dsimp only; omega)) (by first | omega | (dsimp only; omega))) ?_
  refine RL.q rfl rfl (QW.move rfl) ?_
  refine RL.cons rfl (OW.copy (sz := 1) Tryz.runUnderlying23 Tryz.sizeOf5 rfl (by repeat (first | exact List.mem_cons_self | exact List.mem_cons_of_mem _ (by assumption) | assumption | refine List.mem_cons_of_mem _ ?_ | refine List.mem_append_right _ ?_)) rfl (Src.rds (hB.mono fun p hp => List.mem_cons_of_mem _ hp) hBl) (by simp [hBl]) (by first | exact m_all (fun _ => rfl) _ | rfl | (simp; done) | (simp only [List.all_cons, List.all_nil, oneB_buf, Bool.true_and, Bool.and_true]; rfl) | (simp [oneB]; done)) (by simp [hBl]) (cut_w1 hBl) (by repeat (first | exact Upd.head | apply Upd.tail | apply Upd.tailA)) ?_)
  refine RL.nil (thenN ?_)
  refine CW.seq ?_
  refine CW.drawnS 4 (by rw [mixed]; rfl) (by kernel_rfl) (by kernel_rfl) (by kernel_rfl) (fun _ _ _ h => h) ?_
  refine DL.take 0 rfl (by kernel_rfl) (by kernel_rfl) (by kernel_rfl) rfl rfl (QW.fieldAddr Tryz.runUnderlying58 rfl Tryz.sizeOf22 (by decide) rfl (by first | exact fo0 32 | exact foB _ 32)) (by intro p hp; repeat (first | exact hp | refine List.mem_cons_of_mem _ ?_ | refine List.mem_append_right _ ?_)) ?_
  refine DL.take 1 rfl (by kernel_rfl) (by kernel_rfl) (by kernel_rfl) rfl rfl (QW.sliceA0 Tryz.runUnderlying22 Tryz.sizeOf5 rfl optV_none optV_none (.inl rfl) (by first | omega | (dsimp only; omega)) (by first | omega | (dsimp only; omega))) (by intro p hp; repeat (first | exact hp | refine List.mem_cons_of_mem _ ?_ | refine List.mem_append_right _ ?_)) ?_
  refine DL.take 2 rfl (by kernel_rfl) (by kernel_rfl) (by kernel_rfl) rfl rfl (QW.move rfl) (by intro p hp; repeat (first | exact hp | refine List.mem_cons_of_mem _ ?_ | refine List.mem_append_right _ ?_)) ?_
  refine DL.take 3 rfl (by kernel_rfl) (by kernel_rfl) (by kernel_rfl) rfl rfl (QW.sliceE (l := 32) (h := 48) (m := 48) (n1 := 16) (c1 := 16) (off' := off + (48 * p + 32)) Tryz.runUnderlying23 Tryz.sizeOf5 rfl (optV_some rfl) rfl rfl (.inl rfl) (by omega) (by omega) (by omega) (by simp [sliceOff]; omega) rfl rfl) (by intro p hp; repeat (first | exact hp | refine List.mem_cons_of_mem _ ?_ | refine List.mem_append_right _ ?_)) ?_
  refine DL.one 4 (by kernel_rfl) rfl rfl (OW.copy (sz := 1) Tryz.runUnderlying23 Tryz.sizeOf5 rfl (by repeat (first | exact List.mem_cons_self | exact List.mem_cons_of_mem _ (by assumption) | assumption | refine List.mem_cons_of_mem _ ?_ | refine List.mem_append_right _ ?_)) rfl (Src.rds (cut_b (List.mem_cons_of_mem _ hm) hget hp) (by simp [hBl])) (by simp [hBl]) (by first | exact m_all (fun _ => rfl) _ | rfl | (simp; done) | (simp only [List.all_cons, List.all_nil, oneB_buf, Bool.true_and, Bool.and_true]; rfl) | (simp [oneB]; done)) (by simp [hBl]) (cut_w2 hBl) (by repeat (first | exact Upd.head | apply Upd.tail | apply Upd.tailA)) ?_)
  refine ⟨fun h => absurd rfl h, ?_⟩
  refine DL.done (by kernel_rfl) (thenN ?_)
  refine CW.seq ?_
  refine CW.region (by kernel_rfl) ?_
  refine RL.q rfl rfl (QW.loadN rfl Tryz.isAgg58 Tryz.sizeOf58 (by repeat (first | exact List.mem_cons_self | exact List.mem_cons_of_mem _ (by assumption) | assumption | refine List.mem_cons_of_mem _ ?_ | refine List.mem_append_right _ ?_)) (by first | (simp only [List.length_map, List.length_replicate, List.length_cons, List.length_nil, List.length_set, Nat.mul_one] <;> omega) | (simp [*] <;> omega)) (by first | (refine m_all_of _ _ ?_; omega) | (refine m_all_of _ _ ?_; simp [*]; done) | exact m_cut _ _ _ | with_reducible rfl)) ?_
  refine RL.cons rfl (OW.storeN rfl rfl Tryz.sizeOf58 (by repeat (first | exact List.mem_cons_self | exact List.mem_cons_of_mem _ (by assumption) | assumption | refine List.mem_cons_of_mem _ ?_ | refine List.mem_append_right _ ?_)) (by first | (simp only [List.length_map, List.length_replicate, List.length_cons, List.length_nil, List.length_set, Nat.mul_one] <;> omega) | (simp [*] <;> omega)) (by first | exact m_all (fun _ => rfl) _ | rfl | (simp; done) | (simp only [List.all_cons, List.all_nil, oneB_buf, Bool.true_and, Bool.and_true]; rfl) | (simp [oneB]; done)) (by first | (simp only [List.length_map, List.length_replicate, List.length_cons, List.length_nil, List.length_set, Nat.mul_one] <;> omega) | (simp [*] <;> omega)) (by first | (refine wr_all ?_; simp only [List.length_map, List.length_replicate, List.length_cons, List.length_nil, List.length_set, Nat.mul_one] <;> omega) | (refine wr_all ?_; simp [*]; done) | exact m_wr _ _ _ | with_reducible rfl) (by repeat (first | exact Upd.head | apply Upd.tail | apply Upd.tailA)) ?_)
  refine RL.q rfl rfl (QW.assign rfl) ?_
  refine RL.nil (thenN ?_)
  refine CW.ret (retR (S) (ResOk.two Tryz.results19 (ResV.cellN rfl Tryz.isAgg58 Tryz.sizeOf58 (by repeat (first | exact List.mem_cons_self | exact List.mem_cons_of_mem _ (by assumption) | assumption | refine List.mem_cons_of_mem _ ?_ | refine List.mem_append_right _ ?_)) (by first | (simp only [List.length_map, List.length_replicate, List.length_cons, List.length_nil, List.length_set, Nat.mul_one] <;> omega) | (simp [*] <;> omega)) (by first | (refine m_all_of _ _ ?_; omega) | (refine m_all_of _ _ ?_; simp [*]; done) | exact m_cut _ _ _ | with_reducible rfl)) (ResV.tmp rfl)) (by repeat (first | exact List.Sublist.refl _ | (refine keepS ?_ ?_; with_reducible rfl) | (refine keepA ?_ ?_; with_reducible rfl) | (refine keepS ?_ ?_; rfl) | apply dropS | apply dropA)) ?_)
  exact ⟨rfl, rfl⟩

set_option maxRecDepth 100000 in
set_option maxHeartbeats 1000000 in
theorem KCutN_c (n c : Nat) (a : Option Addr) (z : Int) (S : HL) (hz : z < 0) : CallS Tryz.prog 19 ⟨[.slice a n c, .int .i64 z]⟩ S fun v S' => v = .tuple #[.agg ⟨(List.replicate 48 0).map u8⟩, nI 1] ∧ S = S' := by
  refine CallS.enter Tryz.func19 rfl Tryz.ntmps19 (by simp) ?_
  refine CW.seq ?_
  refine CW.region (by kernel_rfl) ?_
  refine RL.cons rfl (OW.alloc zv58 rfl ?_)
  intro b4
  refine RL.q rfl rfl (QW.assign rfl) ?_
  refine RL.nil (thenN ?_)
  refine CW.seq ?_
  refine CW.block ?_
  refine CW.seq ?_
  refine CW.region (by kernel_rfl) ?_
  refine RL.q rfl rfl (QW.move rfl) ?_
  refine RL.q rfl rfl (QW.lss (t := true) rfl rfl (by simpa using hz)) ?_
  refine RL.q rfl rfl (QW.assign rfl) ?_
  refine RL.nil (thenN ?_)
  refine CW.cond_true rfl ?_
  refine CW.seq ?_
  refine CW.region (by kernel_rfl) ?_
  refine RL.q rfl rfl (QW.loadN rfl Tryz.isAgg58 Tryz.sizeOf58 (by repeat (first | exact List.mem_cons_self | exact List.mem_cons_of_mem _ (by assumption) | assumption | refine List.mem_cons_of_mem _ ?_ | refine List.mem_append_right _ ?_)) (by first | (simp only [List.length_map, List.length_replicate, List.length_cons, List.length_nil, List.length_set, Nat.mul_one] <;> omega) | (simp [*] <;> omega)) (by first | (refine m_all_of _ _ ?_; omega) | (refine m_all_of _ _ ?_; simp [*]; done) | exact m_cut _ _ _ | with_reducible rfl)) ?_
  refine RL.cons rfl (OW.storeN rfl rfl Tryz.sizeOf58 (by repeat (first | exact List.mem_cons_self | exact List.mem_cons_of_mem _ (by assumption) | assumption | refine List.mem_cons_of_mem _ ?_ | refine List.mem_append_right _ ?_)) (by first | (simp only [List.length_map, List.length_replicate, List.length_cons, List.length_nil, List.length_set, Nat.mul_one] <;> omega) | (simp [*] <;> omega)) (by first | exact m_all (fun _ => rfl) _ | rfl | (simp; done) | (simp only [List.all_cons, List.all_nil, oneB_buf, Bool.true_and, Bool.and_true]; rfl) | (simp [oneB]; done)) (by first | (simp only [List.length_map, List.length_replicate, List.length_cons, List.length_nil, List.length_set, Nat.mul_one] <;> omega) | (simp [*] <;> omega)) (by first | (refine wr_all ?_; simp only [List.length_map, List.length_replicate, List.length_cons, List.length_nil, List.length_set, Nat.mul_one] <;> omega) | (refine wr_all ?_; simp [*]; done) | exact m_wr _ _ _ | with_reducible rfl) (by repeat (first | exact Upd.head | apply Upd.tail | apply Upd.tailA)) ?_)
  refine RL.q rfl rfl (QW.assign rfl) ?_
  refine RL.nil (thenN ?_)
  refine CW.ret (blockR (thenR (retR (S) (ResOk.two Tryz.results19 (ResV.cellN rfl Tryz.isAgg58 Tryz.sizeOf58 (by repeat (first | exact List.mem_cons_self | exact List.mem_cons_of_mem _ (by assumption) | assumption | refine List.mem_cons_of_mem _ ?_ | refine List.mem_append_right _ ?_)) (by first | (simp only [List.length_map, List.length_replicate, List.length_cons, List.length_nil, List.length_set, Nat.mul_one] <;> omega) | (simp [*] <;> omega)) (by first | (refine m_all_of _ _ ?_; omega) | (refine m_all_of _ _ ?_; simp [*]; done) | exact m_cut _ _ _ | with_reducible rfl)) (ResV.tmp rfl)) (by repeat (first | exact List.Sublist.refl _ | (refine keepS ?_ ?_; with_reducible rfl) | (refine keepA ?_ ?_; with_reducible rfl) | (refine keepS ?_ ?_; rfl) | apply dropS | apply dropA)) ?_)))
  exact ⟨rfl, rfl⟩

set_option maxRecDepth 100000 in
set_option maxHeartbeats 1000000 in
theorem rKCutN_c (n c : Nat) (a : Option Addr) (z : Int) (S : HL) (hz : z < 0) : CallS Tryz.prog 20 ⟨[.slice a n c, .int .i64 z]⟩ S fun v S' => v = .tuple #[.agg ⟨(List.replicate 48 0).map u8⟩, nI 1] ∧ S = S' := by
  refine CallS.enter Tryz.func20 rfl Tryz.ntmps20 (by simp) ?_
  refine CW.seq ?_
  refine CW.region (by kernel_rfl) ?_
  refine RL.cons rfl (OW.alloc zv58 rfl ?_)
  intro b4
  refine RL.q rfl rfl (QW.assign rfl) ?_
  refine RL.nil (thenN ?_)
  refine CW.seq ?_
  refine CW.seq ?_
  refine CW.region (by kernel_rfl) ?_
  refine RL.q rfl rfl (QW.move rfl) ?_
  refine RL.q rfl rfl (QW.lss (t := true) rfl rfl (by simpa using hz)) ?_
  refine RL.nil (thenN ?_)
  refine CW.cond_true rfl ?_
  refine CW.seq ?_
  refine CW.region (by kernel_rfl) ?_
  refine RL.q rfl rfl (QW.build0 Tryz.runUnderlying58 (.inr ⟨_, rfl, #[(0, 32), (32, 16)], fun w => by kernel_rfl⟩) zv58 (fun e n h => by cases h)) ?_
  refine RL.cons rfl (OW.storeN rfl rfl Tryz.sizeOf58 (by repeat (first | exact List.mem_cons_self | exact List.mem_cons_of_mem _ (by assumption) | assumption | refine List.mem_cons_of_mem _ ?_ | refine List.mem_append_right _ ?_)) (by first | (simp only [List.length_map, List.length_replicate, List.length_cons, List.length_nil, List.length_set, Nat.mul_one] <;> omega) | (simp [*] <;> omega)) (by first | exact m_all (fun _ => rfl) _ | rfl | (simp; done) | (simp only [List.all_cons, List.all_nil, oneB_buf, Bool.true_and, Bool.and_true]; rfl) | (simp [oneB]; done)) (by first | (simp only [List.length_map, List.length_replicate, List.length_cons, List.length_nil, List.length_set, Nat.mul_one] <;> omega) | (simp [*] <;> omega)) (by first | (refine wr_all ?_; simp only [List.length_map, List.length_replicate, List.length_cons, List.length_nil, List.length_set, Nat.mul_one] <;> omega) | (refine wr_all ?_; simp [*]; done) | exact m_wr _ _ _ | with_reducible rfl) (by repeat (first | exact Upd.head | apply Upd.tail | apply Upd.tailA)) ?_)
  refine RL.q rfl rfl (QW.assign rfl) ?_
  refine RL.nil (thenN ?_)
  refine CW.ret (thenR (retR (S) (ResOk.two Tryz.results20 (ResV.cellN rfl Tryz.isAgg58 Tryz.sizeOf58 (by repeat (first | exact List.mem_cons_self | exact List.mem_cons_of_mem _ (by assumption) | assumption | refine List.mem_cons_of_mem _ ?_ | refine List.mem_append_right _ ?_)) (by first | (simp only [List.length_map, List.length_replicate, List.length_cons, List.length_nil, List.length_set, Nat.mul_one] <;> omega) | (simp [*] <;> omega)) (by first | (refine m_all_of _ _ ?_; omega) | (refine m_all_of _ _ ?_; simp [*]; done) | exact m_cut _ _ _ | with_reducible rfl)) (ResV.tmp rfl)) (by repeat (first | exact List.Sublist.refl _ | (refine keepS ?_ ?_; with_reducible rfl) | (refine keepA ?_ ?_; with_reducible rfl) | (refine keepS ?_ ?_; rfl) | apply dropS | apply dropA)) ?_))
  exact ⟨rfl, rfl⟩

set_option maxRecDepth 100000 in
set_option maxHeartbeats 1000000 in
theorem KCutS_c (n c p : Nat) (a : Option Addr) (S : HL) (hn : n ≤ 1000000) (hp : n / 48 ≤ p) : CallS Tryz.prog 19 ⟨[.slice a n c, nI p]⟩ S fun v S' => v = .tuple #[.agg ⟨(List.replicate 48 0).map u8⟩, nI 5] ∧ S = S' := by
  refine CallS.enter Tryz.func19 rfl Tryz.ntmps19 (by simp) ?_
  refine CW.seq ?_
  refine CW.region (by kernel_rfl) ?_
  refine RL.cons rfl (OW.alloc zv58 rfl ?_)
  intro b4
  refine RL.q rfl rfl (QW.assign rfl) ?_
  refine RL.nil (thenN ?_)
  refine CW.seq ?_
  refine CW.block ?_
  refine CW.seq ?_
  refine CW.region (by kernel_rfl) ?_
  refine RL.q rfl rfl (QW.move rfl) ?_
  refine RL.q rfl rfl (QW.lss (t := false) rfl rfl (by simp)) ?_
  refine RL.q rfl rfl (QW.assign rfl) ?_
  refine RL.nil (thenN ?_)
  refine CW.cond_false rfl ?_
  refine CW.seq ?_
  refine CW.region (by kernel_rfl) ?_
  refine RL.q rfl rfl (QW.move rfl) ?_
  refine RL.q rfl rfl (QW.move rfl) ?_
  refine RL.q rfl rfl (QW.len_s Tryz.runUnderlying23 rfl) ?_
  refine RL.q rfl rfl (QW.quo rfl rfl (by omega) (tI_quo _ 48 (by omega))) ?_
  refine RL.q rfl rfl (QW.geq (t := true) rfl rfl (by simp; omega)) ?_
  refine RL.q rfl rfl (QW.assign rfl) ?_
  refine RL.nil (thenN ?_)
  refine CW.cond_true rfl ?_
  refine CW.seq ?_
  refine CW.region (by kernel_rfl) ?_
  refine RL.q rfl rfl (QW.loadN rfl Tryz.isAgg58 Tryz.sizeOf58 (by repeat (first | exact List.mem_cons_self | exact List.mem_cons_of_mem _ (by assumption) | assumption | refine List.mem_cons_of_mem _ ?_ | refine List.mem_append_right _ ?_)) (by first | (simp only [List.length_map, List.length_replicate, List.length_cons, List.length_nil, List.length_set, Nat.mul_one] <;> omega) | (simp [*] <;> omega)) (by first | (refine m_all_of _ _ ?_; omega) | (refine m_all_of _ _ ?_; simp [*]; done) | exact m_cut _ _ _ | with_reducible rfl)) ?_
  refine RL.cons rfl (OW.storeN rfl rfl Tryz.sizeOf58 (by repeat (first | exact List.mem_cons_self | exact List.mem_cons_of_mem _ (by assumption) | assumption | refine List.mem_cons_of_mem _ ?_ | refine List.mem_append_right _ ?_)) (by first | (simp only [List.length_map, List.length_replicate, List.length_cons, List.length_nil, List.length_set, Nat.mul_one] <;> omega) | (simp [*] <;> omega)) (by first | exact m_all (fun _ => rfl) _ | rfl | (simp; done) | (simp only [List.all_cons, List.all_nil, oneB_buf, Bool.true_and, Bool.and_true]; rfl) | (simp [oneB]; done)) (by first | (simp only [List.length_map, List.length_replicate, List.length_cons, List.length_nil, List.length_set, Nat.mul_one] <;> omega) | (simp [*] <;> omega)) (by first | (refine wr_all ?_; simp only [List.length_map, List.length_replicate, List.length_cons, List.length_nil, List.length_set, Nat.mul_one] <;> omega) | (refine wr_all ?_; simp [*]; done) | exact m_wr _ _ _ | with_reducible rfl) (by repeat (first | exact Upd.head | apply Upd.tail | apply Upd.tailA)) ?_)
  refine RL.q rfl rfl (QW.assign rfl) ?_
  refine RL.nil (thenN ?_)
  refine CW.ret (blockR (thenR (retR (S) (ResOk.two Tryz.results19 (ResV.cellN rfl Tryz.isAgg58 Tryz.sizeOf58 (by repeat (first | exact List.mem_cons_self | exact List.mem_cons_of_mem _ (by assumption) | assumption | refine List.mem_cons_of_mem _ ?_ | refine List.mem_append_right _ ?_)) (by first | (simp only [List.length_map, List.length_replicate, List.length_cons, List.length_nil, List.length_set, Nat.mul_one] <;> omega) | (simp [*] <;> omega)) (by first | (refine m_all_of _ _ ?_; omega) | (refine m_all_of _ _ ?_; simp [*]; done) | exact m_cut _ _ _ | with_reducible rfl)) (ResV.tmp rfl)) (by repeat (first | exact List.Sublist.refl _ | (refine keepS ?_ ?_; with_reducible rfl) | (refine keepA ?_ ?_; with_reducible rfl) | (refine keepS ?_ ?_; rfl) | apply dropS | apply dropA)) ?_)))
  exact ⟨rfl, rfl⟩

set_option maxRecDepth 100000 in
set_option maxHeartbeats 1000000 in
theorem rKCutS1_c (n c p : Nat) (a : Option Addr) (S : HL) (hp : n < p) : CallS Tryz.prog 20 ⟨[.slice a n c, nI p]⟩ S fun v S' => v = .tuple #[.agg ⟨(List.replicate 48 0).map u8⟩, nI 5] ∧ S = S' := by
  refine CallS.enter Tryz.func20 rfl Tryz.ntmps20 (by simp) ?_
  refine CW.seq ?_
  refine CW.region (by kernel_rfl) ?_
  refine RL.cons rfl (OW.alloc zv58 rfl ?_)
  intro b4
  refine RL.q rfl rfl (QW.assign rfl) ?_
  refine RL.nil (thenN ?_)
  refine CW.seq ?_
  refine CW.seq ?_
  refine CW.region (by kernel_rfl) ?_
  refine RL.q rfl rfl (QW.move rfl) ?_
  refine RL.q rfl rfl (QW.lss (t := false) rfl rfl (by simp)) ?_
  refine RL.nil (thenN ?_)
  refine CW.cond_false rfl ?_
  refine CW.skip (thenN ?_)
  refine CW.seq ?_
  refine CW.seq ?_
  refine CW.region (by kernel_rfl) ?_
  refine RL.q rfl rfl (QW.move rfl) ?_
  refine RL.q rfl rfl (QW.move rfl) ?_
  refine RL.q rfl rfl (QW.len_s Tryz.runUnderlying23 rfl) ?_
  refine RL.q rfl rfl (QW.gtr (t := true) rfl rfl (by simp; omega)) ?_
  refine RL.q rfl rfl (QW.move rfl) ?_
  first | (refine RL.guard_no rfl rfl rfl rfl rfl ?_) | (refine RL.guard_yes rfl rfl rfl rfl (OW.q rfl (QW.move rfl) ?_))
  first | (refine RL.guard_no rfl rfl rfl rfl rfl ?_) | (refine RL.guard_yes rfl rfl rfl rfl (OW.q rfl (QW.mul rfl rfl (wI_mul (a := 48) (b := _) (by omega))) ?_))
  first | (refine RL.guard_no rfl rfl rfl rfl rfl ?_) | (refine RL.guard_yes rfl rfl rfl rfl (OW.q rfl (QW.add rfl rfl (wI_add (a := _) (b := 48) (by omega))) ?_))
  first | (refine RL.guard_no rfl rfl rfl rfl rfl ?_) | (refine RL.guard_yes rfl rfl rfl rfl (OW.q rfl (QW.move rfl) ?_))
  first | (refine RL.guard_no rfl rfl rfl rfl rfl ?_) | (refine RL.guard_yes rfl rfl rfl rfl (OW.q rfl (QW.len_s Tryz.runUnderlying23 rfl) ?_))
  first | (refine RL.guard_no rfl rfl rfl rfl rfl ?_) | (refine RL.guard_yes rfl rfl rfl rfl (OW.q rfl (QW.gtr rfl rfl (dI_lt _ _)) ?_))
  refine RL.q rfl rfl ((by first | exact QW.pick_t rfl rfl | exact QW.pick_f rfl rfl)) ?_
  refine RL.nil (thenN ?_)
  refine CW.cond_true rfl ?_
  refine CW.seq ?_
  refine CW.region (by kernel_rfl) ?_
  refine RL.q rfl rfl (QW.build0 Tryz.runUnderlying58 (.inr ⟨_, rfl, #[(0, 32), (32, 16)], fun w => by kernel_rfl⟩) zv58 (fun e n h => by cases h)) ?_
  refine RL.cons rfl (OW.storeN rfl rfl Tryz.sizeOf58 (by repeat (first | exact List.mem_cons_self | exact List.mem_cons_of_mem _ (by assumption) | assumption | refine List.mem_cons_of_mem _ ?_ | refine List.mem_append_right _ ?_)) (by first | (simp only [List.length_map, List.length_replicate, List.length_cons, List.length_nil, List.length_set, Nat.mul_one] <;> omega) | (simp [*] <;> omega)) (by first | exact m_all (fun _ => rfl) _ | rfl | (simp; done) | (simp only [List.all_cons, List.all_nil, oneB_buf, Bool.true_and, Bool.and_true]; rfl) | (simp [oneB]; done)) (by first | (simp only [List.length_map, List.length_replicate, List.length_cons, List.length_nil, List.length_set, Nat.mul_one] <;> omega) | (simp [*] <;> omega)) (by first | (refine wr_all ?_; simp only [List.length_map, List.length_replicate, List.length_cons, List.length_nil, List.length_set, Nat.mul_one] <;> omega) | (refine wr_all ?_; simp [*]; done) | exact m_wr _ _ _ | with_reducible rfl) (by repeat (first | exact Upd.head | apply Upd.tail | apply Upd.tailA)) ?_)
  refine RL.q rfl rfl (QW.assign rfl) ?_
  refine RL.nil (thenN ?_)
  refine CW.ret (thenR (retR (S) (ResOk.two Tryz.results20 (ResV.cellN rfl Tryz.isAgg58 Tryz.sizeOf58 (by repeat (first | exact List.mem_cons_self | exact List.mem_cons_of_mem _ (by assumption) | assumption | refine List.mem_cons_of_mem _ ?_ | refine List.mem_append_right _ ?_)) (by first | (simp only [List.length_map, List.length_replicate, List.length_cons, List.length_nil, List.length_set, Nat.mul_one] <;> omega) | (simp [*] <;> omega)) (by first | (refine m_all_of _ _ ?_; omega) | (refine m_all_of _ _ ?_; simp [*]; done) | exact m_cut _ _ _ | with_reducible rfl)) (ResV.tmp rfl)) (by repeat (first | exact List.Sublist.refl _ | (refine keepS ?_ ?_; with_reducible rfl) | (refine keepA ?_ ?_; with_reducible rfl) | (refine keepS ?_ ?_; rfl) | apply dropS | apply dropA)) ?_))
  exact ⟨rfl, rfl⟩

set_option maxRecDepth 100000 in
set_option maxHeartbeats 1000000 in
theorem rKCutS2_c (n c p : Nat) (a : Option Addr) (S : HL) (hn : n ≤ 1000000) (hp1 : p ≤ n) (hp : n / 48 ≤ p) : CallS Tryz.prog 20 ⟨[.slice a n c, nI p]⟩ S fun v S' => v = .tuple #[.agg ⟨(List.replicate 48 0).map u8⟩, nI 5] ∧ S = S' := by
  refine CallS.enter Tryz.func20 rfl Tryz.ntmps20 (by simp) ?_
  refine CW.seq ?_
  refine CW.region (by kernel_rfl) ?_
  refine RL.cons rfl (OW.alloc zv58 rfl ?_)
  intro b4
  refine RL.q rfl rfl (QW.assign rfl) ?_
  refine RL.nil (thenN ?_)
  refine CW.seq ?_
  refine CW.seq ?_
  refine CW.region (by kernel_rfl) ?_
  refine RL.q rfl rfl (QW.move rfl) ?_
  refine RL.q rfl rfl (QW.lss (t := false) rfl rfl (by simp)) ?_
  refine RL.nil (thenN ?_)
  refine CW.cond_false rfl ?_
  refine CW.skip (thenN ?_)
  refine CW.seq ?_
  refine CW.seq ?_
  refine CW.region (by kernel_rfl) ?_
  refine RL.q rfl rfl (QW.move rfl) ?_
  refine RL.q rfl rfl (QW.move rfl) ?_
  refine RL.q rfl rfl (QW.len_s Tryz.runUnderlying23 rfl) ?_
  refine RL.q rfl rfl (QW.gtr (t := false) rfl rfl (by simp; omega)) ?_
  refine RL.q rfl rfl (QW.move rfl) ?_
  first | (refine RL.guard_no rfl rfl rfl rfl rfl ?_) | (refine RL.guard_yes rfl rfl rfl rfl (OW.q rfl (QW.move rfl) ?_))
  first | (refine RL.guard_no rfl rfl rfl rfl rfl ?_) | (refine RL.guard_yes rfl rfl rfl rfl (OW.q rfl (QW.mul rfl rfl (wI_mul (a := 48) (b := _) (by omega))) ?_))
  first | (refine RL.guard_no rfl rfl rfl rfl rfl ?_) | (refine RL.guard_yes rfl rfl rfl rfl (OW.q rfl (QW.add rfl rfl (wI_add (a := _) (b := 48) (by omega))) ?_))
  first | (refine RL.guard_no rfl rfl rfl rfl rfl ?_) | (refine RL.guard_yes rfl rfl rfl rfl (OW.q rfl (QW.move rfl) ?_))
  first | (refine RL.guard_no rfl rfl rfl rfl rfl ?_) | (refine RL.guard_yes rfl rfl rfl rfl (OW.q rfl (QW.len_s Tryz.runUnderlying23 rfl) ?_))
  first | (refine RL.guard_no rfl rfl rfl rfl rfl ?_) | (refine RL.guard_yes rfl rfl rfl rfl (OW.q rfl (QW.gtr (t := true) rfl rfl (by simp; omega)) ?_))
  refine RL.q rfl rfl ((by first | exact QW.pick_t rfl rfl | exact QW.pick_f rfl rfl)) ?_
  refine RL.nil (thenN ?_)
  refine CW.cond_true rfl ?_
  refine CW.seq ?_
  refine CW.region (by kernel_rfl) ?_
  refine RL.q rfl rfl (QW.build0 Tryz.runUnderlying58 (.inr ⟨_, rfl, #[(0, 32), (32, 16)], fun w => by kernel_rfl⟩) zv58 (fun e n h => by cases h)) ?_
  refine RL.cons rfl (OW.storeN rfl rfl Tryz.sizeOf58 (by repeat (first | exact List.mem_cons_self | exact List.mem_cons_of_mem _ (by assumption) | assumption | refine List.mem_cons_of_mem _ ?_ | refine List.mem_append_right _ ?_)) (by first | (simp only [List.length_map, List.length_replicate, List.length_cons, List.length_nil, List.length_set, Nat.mul_one] <;> omega) | (simp [*] <;> omega)) (by first | exact m_all (fun _ => rfl) _ | rfl | (simp; done) | (simp only [List.all_cons, List.all_nil, oneB_buf, Bool.true_and, Bool.and_true]; rfl) | (simp [oneB]; done)) (by first | (simp only [List.length_map, List.length_replicate, List.length_cons, List.length_nil, List.length_set, Nat.mul_one] <;> omega) | (simp [*] <;> omega)) (by first | (refine wr_all ?_; simp only [List.length_map, List.length_replicate, List.length_cons, List.length_nil, List.length_set, Nat.mul_one] <;> omega) | (refine wr_all ?_; simp [*]; done) | exact m_wr _ _ _ | with_reducible rfl) (by repeat (first | exact Upd.head | apply Upd.tail | apply Upd.tailA)) ?_)
  refine RL.q rfl rfl (QW.assign rfl) ?_
  refine RL.nil (thenN ?_)
  refine CW.ret (thenR (retR (S) (ResOk.two Tryz.results20 (ResV.cellN rfl Tryz.isAgg58 Tryz.sizeOf58 (by repeat (first | exact List.mem_cons_self | exact List.mem_cons_of_mem _ (by assumption) | assumption | refine List.mem_cons_of_mem _ ?_ | refine List.mem_append_right _ ?_)) (by first | (simp only [List.length_map, List.length_replicate, List.length_cons, List.length_nil, List.length_set, Nat.mul_one] <;> omega) | (simp [*] <;> omega)) (by first | (refine m_all_of _ _ ?_; omega) | (refine m_all_of _ _ ?_; simp [*]; done) | exact m_cut _ _ _ | with_reducible rfl)) (ResV.tmp rfl)) (by repeat (first | exact List.Sublist.refl _ | (refine keepS ?_ ?_; with_reducible rfl) | (refine keepA ?_ ?_; with_reducible rfl) | (refine keepS ?_ ?_; rfl) | apply dropS | apply dropA)) ?_))
  exact ⟨rfl, rfl⟩

set_option maxRecDepth 100000 in
set_option maxHeartbeats 1000000 in
theorem rKCut_c (bs : List UInt8) (p c : Nat) (a : Option Addr) (S : HL) (hv : RdB S (.slice a bs.length c) bs) (hp : p < bs.length / 48) (hb : bs.length ≤ 1000000) : CallS Tryz.prog 20 ⟨[.slice a bs.length c, nI p]⟩ S fun v S' => v = .tuple #[.agg ⟨(cutF bs p).map u8⟩, nI 0] ∧ S = S' := by
  have hBl := cutF_len hp
  obtain ⟨gb, off, l, TT, fr, rfl, hm, hget⟩ := RdB.at hv (by omega)
  refine CallS.enter Tryz.func20 rfl Tryz.ntmps20 (by simp) ?_
  refine CW.seq ?_
  refine CW.region (by kernel_rfl) ?_
  refine RL.cons rfl (OW.alloc zv58 rfl ?_)
  intro b4
  refine RL.q rfl rfl (QW.assign rfl) ?_
  refine RL.nil (thenN ?_)
  refine CW.seq ?_
  refine CW.seq ?_
  refine CW.region (by kernel_rfl) ?_
  refine RL.q rfl rfl (QW.move rfl) ?_
  refine RL.q rfl rfl (QW.lss (t := false) rfl rfl (by simp)) ?_
  refine RL.nil (thenN ?_)
  refine CW.cond_false rfl ?_
  refine CW.skip (thenN ?_)
  refine CW.seq ?_
  refine CW.seq ?_
  refine CW.region (by kernel_rfl) ?_
  refine RL.q rfl rfl (QW.move rfl) ?_
  refine RL.q rfl rfl (QW.move rfl) ?_
  refine RL.q rfl rfl (QW.len_s Tryz.runUnderlying23 rfl) ?_
  refine RL.q rfl rfl (QW.gtr (t := false) rfl rfl (by simp; omega)) ?_
  refine RL.q rfl rfl (QW.move rfl) ?_
  first | (refine RL.guard_no rfl rfl rfl rfl rfl ?_) | (refine RL.guard_yes rfl rfl rfl rfl (OW.q rfl (QW.move rfl) ?_))
  first | (refine RL.guard_no rfl rfl rfl rfl rfl ?_) | (refine RL.guard_yes rfl rfl rfl rfl (OW.q rfl (QW.mul rfl rfl (wI_mul (a := 48) (b := _) (by omega))) ?_))
  first | (refine RL.guard_no rfl rfl rfl rfl rfl ?_) | (refine RL.guard_yes rfl rfl rfl rfl (OW.q rfl (QW.add rfl rfl (wI_add (a := _) (b := 48) (by omega))) ?_))
  first | (refine RL.guard_no rfl rfl rfl rfl rfl ?_) | (refine RL.guard_yes rfl rfl rfl rfl (OW.q rfl (QW.move rfl) ?_))
  first | (refine RL.guard_no rfl rfl rfl rfl rfl ?_) | (refine RL.guard_yes rfl rfl rfl rfl (OW.q rfl (QW.len_s Tryz.runUnderlying23 rfl) ?_))
  first | (refine RL.guard_no rfl rfl rfl rfl rfl ?_) | (refine RL.guard_yes rfl rfl rfl rfl (OW.q rfl (QW.gtr (t := false) rfl rfl (by simp; omega)) ?_))
  refine RL.q rfl rfl ((by first | exact QW.pick_t rfl rfl | exact QW.pick_f rfl rfl)) ?_
  refine RL.nil (thenN ?_)
  refine CW.cond_false rfl ?_
  refine CW.skip (thenN ?_)
  refine CW.seq ?_
  refine CW.region (by kernel_rfl) ?_
  refine RL.cons rfl (OW.alloc zv58 rfl ?_)
  intro b6
  refine RL.nil (thenN ?_)
  refine CW.seq ?_
  refine CW.seq ?_
  refine CW.region (by kernel_rfl) ?_
  refine RL.q rfl rfl (QW.assign rfl) ?_
  refine RL.nil (thenN ?_)
  refine CW.block ?_
  refine CW.loopT (ι := Nat) [(0, _), (1, _), (4, _), (5, _), (6, _)] (by repeat (first | exact leE_nil | refine leE_cons rfl ?_)) (fun i => i ≤ 32) (fun i r => (7, nI i) :: r) (fun i => (b6, blk (((cutF bs p).take (i) ++ List.replicate (48 - (i)) 0).map u8) 58) :: (b4, blk ((List.replicate 48 0).map u8) 58) :: S) (fun i => 32 - i) 0 (by omega) (by repeat (first | exact leE_nil | refine leE_cons (by first | rfl | (rfl)) ?_)) (by simp only [List.take_zero, List.nil_append, Nat.sub_zero]; exact List.Sublist.refl _) ?_
  intro i hI
  refine CW.seq ?_
  refine CW.seq ?_
  refine CW.region (by kernel_rfl) ?_
  refine RL.q rfl rfl (QW.move rfl) ?_
  refine RL.q rfl rfl (QW.lss rfl rfl (dI_lt _ 32)) ?_
  refine RL.nil (thenN ?_)
  refine CW.cond rfl (fun hc2 => ?_) (fun hc2 => ?_)
  · have hi : i < 32 := by simpa using hc2
    refine CW.skip (thenN ?_)
    refine CW.seq ?_
    refine CW.block ?_
    refine CW.region (by kernel_rfl) ?_
    refine RL.q rfl rfl (QW.move rfl) ?_
    refine RL.q rfl rfl (QW.move rfl) ?_
    refine RL.q rfl rfl (QW.move rfl) ?_
    refine RL.q rfl rfl (QW.mul rfl rfl (wI_mul (a := 48) (b := _) (by omega))) ?_
    refine RL.q rfl rfl (QW.move rfl) ?_
    refine RL.q rfl rfl (QW.add rfl rfl (wI_add (a := _) (b := _) (by omega))) ?_
    refine RL.q rfl rfl (QW.indexAddrS Tryz.runUnderlying23 Tryz.sizeOf5 rfl rfl (by omega) (by first | omega | exact lt8 _) (by first | exact ix01 _ | exact ixb1 _ _ | exact ix0m _ _ | exact ixbm _ _ _)) ?_
    refine RL.q rfl rfl (QW.load1 (v := u8 (bs.getD (48 * p + i) 0)) rfl Tryz.isAgg5 (by repeat (first | exact List.mem_cons_self | exact List.mem_cons_of_mem _ (by assumption) | assumption | refine List.mem_cons_of_mem _ ?_ | refine List.mem_append_right _ ?_)) (hget (48 * p + i) (by omega))) ?_
    refine RL.q rfl rfl (QW.fieldAddr Tryz.runUnderlying58 rfl Tryz.sizeOf51 (by decide) rfl (by first | exact fo0 0 | exact foB _ 0)) ?_
    refine RL.q rfl rfl (QW.indexAddrA Tryz.runUnderlying51 Tryz.sizeOf5 rfl rfl (by omega) (by first | omega | exact lt8 _) (by first | exact ix01 _ | exact ixb1 _ _ | exact ix0m _ _ | exact ixbm _ _ _)) ?_
    refine RL.cons rfl (OW.store1 rfl rfl Tryz.sizeOf5 rfl (by repeat (first | exact List.mem_cons_self | exact List.mem_cons_of_mem _ (by assumption) | assumption | refine List.mem_cons_of_mem _ ?_ | refine List.mem_append_right _ ?_)) (by simp [cutF_len hp]; omega) (cut_set hp (by omega)) (by repeat (first | exact Upd.head | apply Upd.tail | apply Upd.tailA)) ?_)
    refine RL.nil (blockN (thenN ?_))
    refine CW.region (by kernel_rfl) ?_
    refine RL.q rfl rfl (QW.move rfl) ?_
    refine RL.q rfl rfl (QW.add rfl rfl (wI_add (a := _) (b := 1) (by omega))) ?_
    refine RL.q rfl rfl (QW.assign rfl) ?_
    refine RL.nil (thenN ?_)
    refine ⟨i + 1, (by omega), (by omega), ?_, ?_⟩
    · repeat (first | exact leE_nil | refine leE_cons rfl ?_)
    · exact List.Sublist.refl _
  · have hi : i = 32 := by simp at hc2; omega
    subst hi
    refine CW.exit (thenX (thenX (blockX (thenN ?_))))
    refine CW.seq ?_
    refine CW.seq ?_
    refine CW.region (by kernel_rfl) ?_
    refine RL.q rfl rfl (QW.assign rfl) ?_
    refine RL.nil (thenN ?_)
    refine CW.block ?_
    refine CW.loopT (ι := Nat) [(0, _), (1, _), (4, _), (5, _), (6, _)] (by repeat (first | exact leE_nil | refine leE_cons rfl ?_)) (fun j => j ≤ 16) (fun j r => (8, nI j) :: r) (fun j => (b6, blk (((cutF bs p).take (32 + j) ++ List.replicate (48 - (32 + j)) 0).map u8) 58) :: (b4, blk ((List.replicate 48 0).map u8) 58) :: S) (fun j => 16 - j) 0 (by omega) (by repeat (first | exact leE_nil | refine leE_cons (by first | rfl | (rfl)) ?_)) (by repeat (first | exact List.Sublist.refl _ | (refine keepS ?_ ?_; with_reducible rfl) | (refine keepA ?_ ?_; with_reducible rfl) | (refine keepS ?_ ?_; rfl) | apply dropS | apply dropA)) ?_
    intro j hI
    refine CW.seq ?_
    refine CW.seq ?_
    refine CW.region (by kernel_rfl) ?_
    refine RL.q rfl rfl (QW.move rfl) ?_
    refine RL.q rfl rfl (QW.lss rfl rfl (dI_lt _ 16)) ?_
    refine RL.nil (thenN ?_)
    refine CW.cond rfl (fun hc3 => ?_) (fun hc3 => ?_)
    · have hj : j < 16 := by simpa using hc3
      refine CW.skip (thenN ?_)
      refine CW.seq ?_
      refine CW.block ?_
      refine CW.region (by kernel_rfl) ?_
      refine RL.q rfl rfl (QW.move rfl) ?_
      refine RL.q rfl rfl (QW.move rfl) ?_
      refine RL.q rfl rfl (QW.move rfl) ?_
      refine RL.q rfl rfl (QW.mul rfl rfl (wI_mul (a := 48) (b := _) (by omega))) ?_
      refine RL.q rfl rfl (QW.add rfl rfl (wI_add (a := _) (b := 32) (by omega))) ?_
      refine RL.q rfl rfl (QW.move rfl) ?_
      refine RL.q rfl rfl (QW.add rfl rfl (wI_add (a := _) (b := _) (by omega))) ?_
      refine RL.q rfl rfl (QW.indexAddrS Tryz.runUnderlying23 Tryz.sizeOf5 rfl rfl (by omega) (by first | omega | exact lt8 _) (by first | exact ix01 _ | exact ixb1 _ _ | exact ix0m _ _ | exact ixbm _ _ _)) ?_
      refine RL.q rfl rfl (QW.load1 (v := u8 (bs.getD (48 * p + 32 + j) 0)) rfl Tryz.isAgg5 (by repeat (first | exact List.mem_cons_self | exact List.mem_cons_of_mem _ (by assumption) | assumption | refine List.mem_cons_of_mem _ ?_ | refine List.mem_append_right _ ?_)) (hget (48 * p + 32 + j) (by omega))) ?_
      refine RL.q rfl rfl (QW.fieldAddr Tryz.runUnderlying58 rfl Tryz.sizeOf22 (by decide) rfl (by first | exact fo0 32 | exact foB _ 32)) ?_
      refine RL.q rfl rfl (QW.indexAddrA Tryz.runUnderlying22 Tryz.sizeOf5 rfl rfl (by omega) (by first | omega | exact lt8 _) (by first | exact ix01 _ | exact ixb1 _ _ | exact ix0m _ _ | exact ixbm _ _ _)) ?_
      refine RL.cons rfl (OW.store1 rfl rfl Tryz.sizeOf5 rfl (by repeat (first | exact List.mem_cons_self | exact List.mem_cons_of_mem _ (by assumption) | assumption | refine List.mem_cons_of_mem _ ?_ | refine List.mem_append_right _ ?_)) (by simp [cutF_len hp]; omega) (cut_set hp (by omega)) (by repeat (first | exact Upd.head | apply Upd.tail | apply Upd.tailA)) ?_)
      refine RL.nil (blockN (thenN ?_))
      refine CW.region (by kernel_rfl) ?_
      refine RL.q rfl rfl (QW.move rfl) ?_
      refine RL.q rfl rfl (QW.add rfl rfl (wI_add (a := _) (b := 1) (by omega))) ?_
      refine RL.q rfl rfl (QW.assign rfl) ?_
      refine RL.nil (thenN ?_)
      refine ⟨j + 1, (by omega), (by omega), ?_, ?_⟩
      · repeat (first | exact leE_nil | refine leE_cons rfl ?_)
      · exact List.Sublist.refl _
    · have hj : j = 16 := by simp at hc3; omega
      subst hj
      refine CW.exit (thenX (thenX (blockX (thenN ?_))))
      refine CW.seq ?_
      refine CW.region (by kernel_rfl) ?_
      refine RL.q rfl rfl (QW.loadN rfl Tryz.isAgg58 Tryz.sizeOf58 (by repeat (first | exact List.mem_cons_self | exact List.mem_cons_of_mem _ (by assumption) | assumption | refine List.mem_cons_of_mem _ ?_ | refine List.mem_append_right _ ?_)) (by first | (simp only [List.length_map, List.length_replicate, List.length_cons, List.length_nil, List.length_set, Nat.mul_one] <;> omega) | (simp [*] <;> omega)) (by first | (refine m_all_of _ _ ?_; omega) | (refine m_all_of _ _ ?_; simp [*]; done) | exact m_cut _ _ _ | with_reducible rfl)) ?_
      refine RL.cons rfl (OW.storeN rfl rfl Tryz.sizeOf58 (by repeat (first | exact List.mem_cons_self | exact List.mem_cons_of_mem _ (by assumption) | assumption | refine List.mem_cons_of_mem _ ?_ | refine List.mem_append_right _ ?_)) (by first | (simp only [List.length_map, List.length_replicate, List.length_cons, List.length_nil, List.length_set, Nat.mul_one] <;> omega) | (simp [*] <;> omega)) (by first | exact m_all (fun _ => rfl) _ | rfl | (simp; done) | (simp only [List.all_cons, List.all_nil, oneB_buf, Bool.true_and, Bool.and_true]; rfl) | (simp [oneB]; done)) (by first | (simp only [List.length_map, List.length_replicate, List.length_cons, List.length_nil, List.length_set, Nat.mul_one] <;> omega) | (simp [*] <;> omega)) (by first | (refine wr_all ?_; simp only [List.length_map, List.length_replicate, List.length_cons, List.length_nil, List.length_set, Nat.mul_one] <;> omega) | (refine wr_all ?_; simp [*]; done) | exact m_wr _ _ _ | with_reducible rfl) (by repeat (first | exact Upd.head | apply Upd.tail | apply Upd.tailA)) ?_)
      refine RL.q rfl rfl (QW.assign rfl) ?_
      refine RL.nil (thenN ?_)
      refine CW.ret (retR (S) (ResOk.two Tryz.results20 (ResV.cellN rfl Tryz.isAgg58 Tryz.sizeOf58 (by repeat (first | exact List.mem_cons_self | exact List.mem_cons_of_mem _ (by assumption) | assumption | refine List.mem_cons_of_mem _ ?_ | refine List.mem_append_right _ ?_)) (by first | (simp only [List.length_map, List.length_replicate, List.length_cons, List.length_nil, List.length_set, Nat.mul_one] <;> omega) | (simp [*] <;> omega)) (by first | (refine m_all_of _ _ ?_; omega) | (refine m_all_of _ _ ?_; simp [*]; done) | exact m_cut _ _ _ | with_reducible rfl)) (ResV.tmp rfl)) (by repeat (first | exact List.Sublist.refl _ | (refine keepS ?_ ?_; with_reducible rfl) | (refine keepA ?_ ?_; with_reducible rfl) | (refine keepS ?_ ?_; rfl) | apply dropS | apply dropA)) ?_)
      exact ⟨by rw [show (cutF bs p).take (32 + 16) = cutF bs p from List.take_of_length_le (by omega)]; simp, rfl⟩

end Go.Sl

set_option linter.unusedVariables false
set_option linter.unusedSimpArgs false
namespace Go.Sl
open Go.Proofs


set_option maxRecDepth 100000 in
set_option maxHeartbeats 1000000 in
theorem markByte_c (n : Nat) (S : HL) : CallS Tryz.prog 173 ⟨[nI n]⟩ S fun v S' => v = u8 (UInt8.ofNat n) ∧ S = S' := by
  refine CallS.enter Tryz.func173 rfl Tryz.ntmps173 (by simp) ?_
  refine CW.seq ?_
  refine CW.region (by kernel_rfl) ?_
  refine RL.q rfl rfl (QW.assign rfl) ?_
  refine RL.nil (thenN ?_)
  refine CW.seq ?_
  refine CW.region (by kernel_rfl) ?_
  refine RL.q rfl rfl (QW.move rfl) ?_
  refine RL.q rfl rfl (QW.conv Tryz.runUnderlying3 Tryz.runUnderlying5 rfl (w8_nat _)) ?_
  refine RL.q rfl rfl (QW.assign rfl) ?_
  refine RL.nil (thenN ?_)
  refine CW.ret (retR (S) (ResOk.one Tryz.results173 (ResV.tmp rfl)) (by repeat (first | exact List.Sublist.refl _ | (refine keepS ?_ ?_; with_reducible rfl) | (refine keepA ?_ ?_; with_reducible rfl) | (refine keepS ?_ ?_; rfl) | apply dropS | apply dropA)) ?_)
  exact ⟨rfl, rfl⟩

set_option maxRecDepth 100000 in
set_option maxHeartbeats 1000000 in
theorem isByte_c (x : UInt8) (n : Nat) (S : HL) (hx : x = UInt8.ofNat n) : CallS Tryz.prog 188 ⟨[u8 x, nI n]⟩ S fun v S' => v = .bool true ∧ S = S' := by
  refine CallS.enter Tryz.func188 rfl Tryz.ntmps188 (by simp) ?_
  refine CW.seq ?_
  refine CW.region (by kernel_rfl) ?_
  refine RL.q rfl rfl (QW.assign rfl) ?_
  refine RL.nil (thenN ?_)
  refine CW.seq ?_
  refine CW.region (by kernel_rfl) ?_
  refine RL.q rfl rfl (QW.move rfl) ?_
  refine RL.q rfl rfl (QW.move rfl) ?_
  refine RL.q rfl rfl (QW.conv Tryz.runUnderlying3 Tryz.runUnderlying5 rfl (w8_nat _)) ?_
  refine RL.q rfl rfl (QW.eql rfl rfl (d8_eq _ _)) ?_
  refine RL.q rfl rfl (QW.assign rfl) ?_
  refine RL.nil (thenN ?_)
  refine CW.ret (retR (S) (ResOk.one Tryz.results188 (ResV.tmp rfl)) (by repeat (first | exact List.Sublist.refl _ | (refine keepS ?_ ?_; with_reducible rfl) | (refine keepA ?_ ?_; with_reducible rfl) | (refine keepS ?_ ?_; rfl) | apply dropS | apply dropA)) ?_)
  exact ⟨by simpa using hx, rfl⟩

end Go.Sl

set_option linter.unusedVariables false
set_option linter.unusedSimpArgs false
namespace Go.Sl
open Go.Proofs

theorem tk_succ (bs : List UInt8) {i : Nat} (h : i < bs.length) : bs.take (i + 1) = bs.take i ++ [bs.getD i 0] := by
  rw [List.take_add_one, List.getElem?_eq_getElem h, List.getD_eq_getElem?_getD, List.getElem?_eq_getElem h]; rfl


set_option maxRecDepth 100000 in
set_option maxHeartbeats 1000000 in
theorem Twin_c (bs : List UInt8) (a : Option Addr) (c : Nat) (S : HL) (hv : RdB S (.slice a bs.length c) bs) (hb : bs.length ≤ 1000000000) : CallS Tryz.prog 9 ⟨[.slice a bs.length c]⟩ S fun v S' => ∃ b, v = sl b 0 bs.length (bs.length + 1) ∧ S' = (b, blk (bs.map u8 ++ [u8 77]) 5) :: S := by
  refine CallS.enter Tryz.func9 rfl Tryz.ntmps9 (by simp) ?_
  refine CW.seq ?_
  refine CW.region (by kernel_rfl) ?_
  refine RL.q rfl rfl (QW.assign rfl) ?_
  refine RL.nil (thenN ?_)
  refine CW.seq ?_
  refine CW.region (by kernel_rfl) ?_
  refine RL.q rfl rfl (QW.move rfl) ?_
  refine RL.q rfl rfl (QW.len_s Tryz.runUnderlying23 rfl) ?_
  refine RL.q rfl rfl (QW.add rfl rfl (wI_add (a := _) (b := 1) (by omega))) ?_
  refine RL.cons rfl (OW.makeSlice (l := 0) Tryz.runUnderlying23 Tryz.typeInfo5 Tryz.sizeOf5 zv5 rfl rfl rfl (by omega) (by rw [show Tryz.t5.bytes = 1 from rfl]; omega) (by omega) ?_)
  intro b8
  refine RL.q rfl rfl (QW.assign rfl) ?_
  refine RL.nil (thenN ?_)
  refine CW.seq ?_
  refine CW.seq ?_
  refine CW.region (by kernel_rfl) ?_
  refine RL.q rfl rfl (QW.assign rfl) ?_
  refine RL.nil (thenN ?_)
  refine CW.block ?_
  refine CW.loopT2 (α := Nat) (β := List Value) [(0, _), (2, _)] (by repeat (first | exact leE_nil | refine leE_cons rfl ?_)) (fun i rest => i ≤ bs.length ∧ bufOk (some ⟨b8, bs.length + 1, rest⟩) i 1) (fun i rest r => (4, nI i) :: (3, bufV (some ⟨b8, bs.length + 1, rest⟩) i) :: r) (fun i rest => bufH (some ⟨b8, bs.length + 1, rest⟩) ((bs.take i).map u8) 5 ++ S) (fun i rest => bs.length - i) 0 (List.replicate (bs.length + 1) (u8 0)) ⟨by omega, by simp [bufOk]⟩ (by repeat (first | exact leE_nil | refine leE_cons (by first | rfl | (rfl)) ?_)) (List.Sublist.refl _) ?_
  intro i rest hI
  obtain ⟨hile, hbo⟩ := hI
  refine CW.seq ?_
  refine CW.seq ?_
  refine CW.region (by kernel_rfl) ?_
  refine RL.q rfl rfl (QW.move rfl) ?_
  refine RL.q rfl rfl (QW.move rfl) ?_
  refine RL.q rfl rfl (QW.len_s Tryz.runUnderlying23 rfl) ?_
  refine RL.q rfl rfl (QW.lss rfl rfl (dI_lt _ _)) ?_
  refine RL.nil (thenN ?_)
  refine CW.cond rfl (fun hc0 => ?_) (fun hc0 => ?_)
  · have hi : i < bs.length := by simpa using hc0
    obtain ⟨gb, off, l, TT, fr, rfl, hm, hget⟩ := RdB.at hv (by omega)
    have hti : (bs.take i).length = i := by simp; omega
    refine CW.skip (thenN ?_)
    refine CW.seq ?_
    refine CW.block ?_
    refine CW.region (by kernel_rfl) ?_
    refine RL.q rfl rfl (QW.move rfl) ?_
    refine RL.q rfl rfl (QW.move rfl) ?_
    refine RL.q rfl rfl (QW.move rfl) ?_
    refine RL.q rfl rfl (QW.indexAddrS Tryz.runUnderlying23 Tryz.sizeOf5 rfl rfl (by omega) (by first | omega | exact lt8 _) (by first | exact ix01 _ | exact ixb1 _ _ | exact ix0m _ _ | exact ixbm _ _ _)) ?_
    refine RL.q rfl rfl (QW.load1 rfl Tryz.isAgg5 (by repeat (first | exact List.mem_cons_self | exact List.mem_cons_of_mem _ (by assumption) | assumption | refine List.mem_cons_of_mem _ ?_ | refine List.mem_append_right _ ?_)) (by refine hget _ ?_; omega)) ?_
    refine RL.cons rfl (OW.buildSlice1 Tryz.runUnderlying23 Tryz.sizeOf5 zv5 rfl rfl rfl ?_)
    intro b20
    refine RL.cons rfl (OW.appendKeep Tryz.runUnderlying23 Tryz.runUnderlying23 (.inl ⟨_, rfl⟩) Tryz.typeInfo5 Tryz.sizeOf5 zv5 rfl rfl (by repeat (first | exact SegF.here | apply SegF.there | apply SegF.thereA)) (by first | rfl | (simp only [List.length_map, List.length_replicate, List.length_cons, List.length_nil, List.length_set, Nat.mul_one] <;> omega) | (simp [*] <;> omega)) hbo rfl (by first | (apply Src.one; (repeat (first | exact List.mem_cons_self | exact List.mem_cons_of_mem _ (by assumption) | assumption | refine List.mem_cons_of_mem _ ?_ | refine List.mem_append_right _ ?_)); done) | (apply Src.sl; (focus repeat (first | exact List.mem_cons_self | exact List.mem_cons_of_mem _ (by assumption) | assumption | refine List.mem_cons_of_mem _ ?_ | refine List.mem_append_right _ ?_)); (first | (simp only [List.length_map, List.length_replicate, List.length_cons, List.length_nil, List.length_set, Nat.mul_one] <;> omega) | (simp [*] <;> omega)); (first | (refine m_all_of _ _ ?_; omega) | exact m_cut _ _ _ | rfl))) (by first | rfl | (simp only [List.length_map, List.length_replicate, List.length_cons, List.length_nil, List.length_set, Nat.mul_one] <;> omega) | (simp [*] <;> omega)) (by first | exact m_all (fun _ => rfl) _ | rfl | (simp; done) | (simp only [List.all_cons, List.all_nil, oneB_buf, Bool.true_and, Bool.and_true]; rfl) | (simp [oneB]; done)) (by decide) (by decide) (by rw [show Tryz.t5.bytes = 1 from rfl]; omega) ?_ (fun u' hne _ => absurd (hne _ rfl) (by dsimp only [List.length_cons, List.length_nil]; omega)))
    intro u hu hfit hbo2
    cases hu
    refine RL.q rfl rfl (QW.assign rfl) ?_
    refine RL.nil (blockN (thenN ?_))
    refine CW.region (by kernel_rfl) ?_
    refine RL.q rfl rfl (QW.move rfl) ?_
    refine RL.q rfl rfl (QW.add rfl rfl (wI_add (a := _) (b := 1) (by omega))) ?_
    refine RL.q rfl rfl (QW.assign rfl) ?_
    refine RL.nil (thenN ?_)
    refine ⟨i + 1, rest.drop 1, (⟨by omega, hbo2⟩), (by omega), ?_, ?_⟩
    · repeat (first | exact leE_nil | refine leE_cons rfl ?_)
    · refine dropS (keepA (bufH_congr ?_) (List.Sublist.refl _)); rw [tk_succ _ hi, List.map_append]; rfl
  · have hi : i = bs.length := by simp at hc0; omega
    subst hi
    refine CW.exit (thenX (thenX (blockX (thenN ?_))))
    refine CW.seq ?_
    refine CW.region (by kernel_rfl) ?_
    refine RL.q rfl rfl (QW.move rfl) ?_
    refine RL.cons rfl (OW.buildSlice1 Tryz.runUnderlying23 Tryz.sizeOf5 zv5 rfl rfl rfl ?_)
    intro b23
    refine RL.cons rfl (OW.appendKeep Tryz.runUnderlying23 Tryz.runUnderlying23 (.inl ⟨_, rfl⟩) Tryz.typeInfo5 Tryz.sizeOf5 zv5 rfl rfl (by repeat (first | exact SegF.here | apply SegF.there | apply SegF.thereA)) (by first | rfl | (simp only [List.length_map, List.length_replicate, List.length_cons, List.length_nil, List.length_set, Nat.mul_one] <;> omega) | (simp [*] <;> omega)) hbo rfl (by first | (apply Src.one; (repeat (first | exact List.mem_cons_self | exact List.mem_cons_of_mem _ (by assumption) | assumption | refine List.mem_cons_of_mem _ ?_ | refine List.mem_append_right _ ?_)); done) | (apply Src.sl; (focus repeat (first | exact List.mem_cons_self | exact List.mem_cons_of_mem _ (by assumption) | assumption | refine List.mem_cons_of_mem _ ?_ | refine List.mem_append_right _ ?_)); (first | (simp only [List.length_map, List.length_replicate, List.length_cons, List.length_nil, List.length_set, Nat.mul_one] <;> omega) | (simp [*] <;> omega)); (first | (refine m_all_of _ _ ?_; omega) | exact m_cut _ _ _ | rfl))) (by first | rfl | (simp only [List.length_map, List.length_replicate, List.length_cons, List.length_nil, List.length_set, Nat.mul_one] <;> omega) | (simp [*] <;> omega)) (by first | exact m_all (fun _ => rfl) _ | rfl | (simp; done) | (simp only [List.all_cons, List.all_nil, oneB_buf, Bool.true_and, Bool.and_true]; rfl) | (simp [oneB]; done)) (by decide) (by decide) (by rw [show Tryz.t5.bytes = 1 from rfl]; omega) ?_ (fun u' hne _ => absurd (hne _ rfl) (by dsimp only [List.length_cons, List.length_nil]; omega)))
    intro u hu hfit hbo2
    cases hu
    simp only [List.take_length]
    refine RL.q rfl rfl (QW.move rfl) ?_
    refine RL.q rfl rfl (QW.len_s Tryz.runUnderlying23 rfl) ?_
    refine RL.q rfl rfl (QW.sliceS0 Tryz.runUnderlying23 Tryz.sizeOf5 rfl (optV_some rfl) optV_none (.inl rfl) (by first | omega | (dsimp only; omega)) (by first | omega | (dsimp only; omega))) ?_
    refine RL.q rfl rfl (QW.assign rfl) ?_
    refine RL.nil (thenN ?_)
    refine CW.ret (retR (bufH (some ⟨b8, bs.length + 1, rest.drop 1⟩) (bs.map u8 ++ [u8 77]) 5 ++ S) (ResOk.one Tryz.results9 (ResV.tmp rfl)) (by repeat (first | exact List.Sublist.refl _ | (refine keepS ?_ ?_; with_reducible rfl) | (refine keepA ?_ ?_; with_reducible rfl) | (refine keepS ?_ ?_; rfl) | apply dropS | apply dropA)) ?_)
    simp [bufOk] at hbo2
    have hr : rest.drop 1 = [] := List.eq_nil_of_length_eq_zero (by simp; omega)
    exact ⟨b8, rfl, by rw [hr]; simp [bufH]⟩

end Go.Sl

set_option linter.unusedVariables false
set_option linter.unusedSimpArgs false
namespace Go.Sl
open Go.Proofs

theorem zv187 : ZV Tryz.prog 187 (.agg ⟨([.slice none 0 0] ++ [.slice none 0 0] ++ [nI 0])⟩) := fun _ => by kernel_rfl
set_option maxRecDepth 100000 in
set_option maxHeartbeats 1000000 in
theorem Same_c (bs : List UInt8) (a a2 : Option Addr) (c c2 : Nat) (S : HL) (hv : RdB S (.slice a bs.length c) bs) (hv2 : RdB S (.slice a2 bs.length c2) bs) (hb : bs.length ≤ 1000000000) : CallS Tryz.prog 12 ⟨[.slice a bs.length c, .slice a2 bs.length c2]⟩ S fun v S' => v = .bool true ∧ S = S' := by
  refine CallS.enter Tryz.func12 rfl Tryz.ntmps12 (by simp) ?_
  refine CW.seq ?_
  refine CW.region (by kernel_rfl) ?_
  refine RL.q rfl rfl (QW.assign rfl) ?_
  refine RL.nil (thenN ?_)
  refine CW.seq ?_
  refine CW.seq ?_
  refine CW.region (by kernel_rfl) ?_
  refine RL.q rfl rfl (QW.move rfl) ?_
  refine RL.q rfl rfl (QW.len_s Tryz.runUnderlying23 rfl) ?_
  refine RL.q rfl rfl (QW.move rfl) ?_
  refine RL.q rfl rfl (QW.len_s Tryz.runUnderlying23 rfl) ?_
  refine RL.q rfl rfl (QW.neq' rfl rfl (dI_eq _ _)) ?_
  refine RL.nil (thenN ?_)
  refine CW.cond rfl (fun hc0 => ?_) (fun hc0 => ?_)
  · exfalso; simp at hc0
  · refine CW.skip (thenN ?_)
    refine CW.seq ?_
    refine CW.seq ?_
    refine CW.region (by kernel_rfl) ?_
    refine RL.q rfl rfl (QW.assign rfl) ?_
    refine RL.nil (thenN ?_)
    refine CW.block ?_
    refine CW.loopT (ι := Nat) [(0, _), (1, _)] (by repeat (first | exact leE_nil | refine leE_cons rfl ?_)) (fun i => i ≤ bs.length) (fun i r => (5, nI i) :: r) (fun i => S) (fun i => bs.length - i) 0 (by omega) (by repeat (first | exact leE_nil | refine leE_cons (by first | rfl | (rfl)) ?_)) (by repeat (first | exact List.Sublist.refl _ | (refine keepS ?_ ?_; with_reducible rfl) | (refine keepA ?_ ?_; with_reducible rfl) | (refine keepS ?_ ?_; rfl) | apply dropS | apply dropA)) ?_
    intro i hI
    refine CW.seq ?_
    refine CW.seq ?_
    refine CW.region (by kernel_rfl) ?_
    refine RL.q rfl rfl (QW.move rfl) ?_
    refine RL.q rfl rfl (QW.move rfl) ?_
    refine RL.q rfl rfl (QW.len_s Tryz.runUnderlying23 rfl) ?_
    refine RL.q rfl rfl (QW.lss rfl rfl (dI_lt _ _)) ?_
    refine RL.nil (thenN ?_)
    refine CW.cond rfl (fun hc1 => ?_) (fun hc1 => ?_)
    · have hi : i < bs.length := by simpa using hc1
      obtain ⟨gb, off, l, TT, fr, rfl, hm, hget⟩ := RdB.at hv (by omega)
      obtain ⟨gb2, off2, l2, TT2, fr2, rfl, hm2, hget2⟩ := RdB.at hv2 (by omega)
      refine CW.skip (thenN ?_)
      refine CW.seq ?_
      refine CW.block ?_
      refine CW.seq ?_
      refine CW.drawn [(gb, Obj.cells ⟨l⟩ TT fr), (gb2, Obj.cells ⟨l2⟩ TT2 fr2)] 9 (by rw [mixed]; rfl) (by kernel_rfl) (by kernel_rfl) (by kernel_rfl) (fun _ _ _ h => h) ?_
      refine DL.take 0 rfl (by kernel_rfl) (by kernel_rfl) (by kernel_rfl) rfl rfl (QW.move rfl) (hsub2 (by repeat (first | exact List.mem_cons_self | exact List.mem_cons_of_mem _ (by assumption) | assumption | refine List.mem_cons_of_mem _ ?_ | refine List.mem_append_right _ ?_)) (by repeat (first | exact List.mem_cons_self | exact List.mem_cons_of_mem _ (by assumption) | assumption | refine List.mem_cons_of_mem _ ?_ | refine List.mem_append_right _ ?_))) ?_
      refine DL.take 1 rfl (by kernel_rfl) (by kernel_rfl) (by kernel_rfl) rfl rfl (QW.move rfl) (hsub2 (by repeat (first | exact List.mem_cons_self | exact List.mem_cons_of_mem _ (by assumption) | assumption | refine List.mem_cons_of_mem _ ?_ | refine List.mem_append_right _ ?_)) (by repeat (first | exact List.mem_cons_self | exact List.mem_cons_of_mem _ (by assumption) | assumption | refine List.mem_cons_of_mem _ ?_ | refine List.mem_append_right _ ?_))) ?_
      refine DL.take 2 rfl (by kernel_rfl) (by kernel_rfl) (by kernel_rfl) rfl rfl (QW.indexAddrS Tryz.runUnderlying23 Tryz.sizeOf5 rfl rfl (by omega) (by first | omega | exact lt8 _) (by first | exact ix01 _ | exact ixb1 _ _ | exact ix0m _ _ | exact ixbm _ _ _)) (hsub2 (by repeat (first | exact List.mem_cons_self | exact List.mem_cons_of_mem _ (by assumption) | assumption | refine List.mem_cons_of_mem _ ?_ | refine List.mem_append_right _ ?_)) (by repeat (first | exact List.mem_cons_self | exact List.mem_cons_of_mem _ (by assumption) | assumption | refine List.mem_cons_of_mem _ ?_ | refine List.mem_append_right _ ?_))) ?_
      refine DL.take 3 rfl (by kernel_rfl) (by kernel_rfl) (by kernel_rfl) rfl rfl (QW.load1 rfl Tryz.isAgg5 (by repeat (first | exact List.mem_cons_self | exact List.mem_cons_of_mem _ (by assumption) | assumption | refine List.mem_cons_of_mem _ ?_ | refine List.mem_append_right _ ?_)) (by refine hget _ ?_; omega)) (hsub2 (by repeat (first | exact List.mem_cons_self | exact List.mem_cons_of_mem _ (by assumption) | assumption | refine List.mem_cons_of_mem _ ?_ | refine List.mem_append_right _ ?_)) (by repeat (first | exact List.mem_cons_self | exact List.mem_cons_of_mem _ (by assumption) | assumption | refine List.mem_cons_of_mem _ ?_ | refine List.mem_append_right _ ?_))) ?_
      refine DL.take 4 rfl (by kernel_rfl) (by kernel_rfl) (by kernel_rfl) rfl rfl (QW.move rfl) (hsub2 (by repeat (first | exact List.mem_cons_self | exact List.mem_cons_of_mem _ (by assumption) | assumption | refine List.mem_cons_of_mem _ ?_ | refine List.mem_append_right _ ?_)) (by repeat (first | exact List.mem_cons_self | exact List.mem_cons_of_mem _ (by assumption) | assumption | refine List.mem_cons_of_mem _ ?_ | refine List.mem_append_right _ ?_))) ?_
      refine DL.take 5 rfl (by kernel_rfl) (by kernel_rfl) (by kernel_rfl) rfl rfl (QW.move rfl) (hsub2 (by repeat (first | exact List.mem_cons_self | exact List.mem_cons_of_mem _ (by assumption) | assumption | refine List.mem_cons_of_mem _ ?_ | refine List.mem_append_right _ ?_)) (by repeat (first | exact List.mem_cons_self | exact List.mem_cons_of_mem _ (by assumption) | assumption | refine List.mem_cons_of_mem _ ?_ | refine List.mem_append_right _ ?_))) ?_
      refine DL.take 6 rfl (by kernel_rfl) (by kernel_rfl) (by kernel_rfl) rfl rfl (QW.indexAddrS Tryz.runUnderlying23 Tryz.sizeOf5 rfl rfl (by omega) (by first | omega | exact lt8 _) (by first | exact ix01 _ | exact ixb1 _ _ | exact ix0m _ _ | exact ixbm _ _ _)) (hsub2 (by repeat (first | exact List.mem_cons_self | exact List.mem_cons_of_mem _ (by assumption) | assumption | refine List.mem_cons_of_mem _ ?_ | refine List.mem_append_right _ ?_)) (by repeat (first | exact List.mem_cons_self | exact List.mem_cons_of_mem _ (by assumption) | assumption | refine List.mem_cons_of_mem _ ?_ | refine List.mem_append_right _ ?_))) ?_
      refine DL.take 7 rfl (by kernel_rfl) (by kernel_rfl) (by kernel_rfl) rfl rfl (QW.load1 rfl Tryz.isAgg5 (by repeat (first | exact List.mem_cons_self | exact List.mem_cons_of_mem _ (by assumption) | assumption | refine List.mem_cons_of_mem _ ?_ | refine List.mem_append_right _ ?_)) (by refine hget2 _ ?_; omega)) (hsub2 (by repeat (first | exact List.mem_cons_self | exact List.mem_cons_of_mem _ (by assumption) | assumption | refine List.mem_cons_of_mem _ ?_ | refine List.mem_append_right _ ?_)) (by repeat (first | exact List.mem_cons_self | exact List.mem_cons_of_mem _ (by assumption) | assumption | refine List.mem_cons_of_mem _ ?_ | refine List.mem_append_right _ ?_))) ?_
      refine DL.take 8 rfl (by kernel_rfl) (by kernel_rfl) (by kernel_rfl) rfl rfl (QW.neq' rfl rfl (d8_eq _ _)) (hsub2 (by repeat (first | exact List.mem_cons_self | exact List.mem_cons_of_mem _ (by assumption) | assumption | refine List.mem_cons_of_mem _ ?_ | refine List.mem_append_right _ ?_)) (by repeat (first | exact List.mem_cons_self | exact List.mem_cons_of_mem _ (by assumption) | assumption | refine List.mem_cons_of_mem _ ?_ | refine List.mem_append_right _ ?_))) ?_
      refine DL.done (by kernel_rfl) (thenN ?_)
      refine CW.cond rfl (fun hc2 => ?_) (fun hc2 => ?_)
      · exfalso; simp at hc2
      · refine CW.skip (blockN (thenN ?_))
        refine CW.region (by kernel_rfl) ?_
        refine RL.q rfl rfl (QW.move rfl) ?_
        refine RL.q rfl rfl (QW.add rfl rfl (wI_add (a := _) (b := 1) (by omega))) ?_
        refine RL.q rfl rfl (QW.assign rfl) ?_
        refine RL.nil (thenN ?_)
        refine ⟨i + 1, (by omega), (by omega), ?_, ?_⟩
        · repeat (first | exact leE_nil | refine leE_cons rfl ?_)
        · exact List.Sublist.refl _
    · have hi : i = bs.length := by simp at hc1; omega
      subst hi
      refine CW.exit (thenX (thenX (blockX (thenN ?_))))
      refine CW.seq ?_
      refine CW.region (by kernel_rfl) ?_
      refine RL.q rfl rfl (QW.assign rfl) ?_
      refine RL.nil (thenN ?_)
      refine CW.ret (retR (S) (ResOk.one Tryz.results12 (ResV.tmp rfl)) (by repeat (first | exact List.Sublist.refl _ | (refine keepS ?_ ?_; with_reducible rfl) | (refine keepA ?_ ?_; with_reducible rfl) | (refine keepS ?_ ?_; rfl) | apply dropS | apply dropA)) ?_)
      exact ⟨rfl, rfl⟩

set_option maxRecDepth 100000 in
set_option maxHeartbeats 1000000 in
theorem Left_c (bs : List UInt8) (gb off c : Nat) (l : List Value) (TT : TypeId) (fr : Nat × Nat) (a2 : Option Addr) (c2 : Nat) (S : HL) (hc : bs.length < c) (hm : (gb, Obj.cells ⟨l⟩ TT fr) ∈ S) (hget : ∀ k, k < bs.length → l[off + k]? = some (u8 (bs.getD k 0))) (h77 : l[off + bs.length]? = some (u8 77)) (hv2 : RdB S (.slice a2 bs.length c2) bs) (hb : bs.length ≤ 1000000000) : CallS Tryz.prog 14 ⟨[sl gb off bs.length c, .slice a2 bs.length c2]⟩ S fun v S' => v = .bool true ∧ S = S' := by
  refine CallS.enter Tryz.func14 rfl Tryz.ntmps14 (by simp) ?_
  refine CW.seq ?_
  refine CW.region (by kernel_rfl) ?_
  refine RL.q rfl rfl (QW.assign rfl) ?_
  refine RL.nil (thenN ?_)
  refine CW.seq ?_
  refine CW.seq ?_
  refine CW.region (by kernel_rfl) ?_
  refine RL.q rfl rfl (QW.move rfl) ?_
  refine RL.q rfl rfl (QW.len_s Tryz.runUnderlying23 rfl) ?_
  refine RL.q rfl rfl (QW.move rfl) ?_
  refine RL.q rfl rfl (QW.len_s Tryz.runUnderlying23 rfl) ?_
  refine RL.q rfl rfl (QW.neq (t := false) rfl rfl (by simp)) ?_
  refine RL.q rfl rfl (QW.move rfl) ?_
  first | (refine RL.guard_no rfl rfl rfl rfl rfl ?_) | (refine RL.guard_yes rfl rfl rfl rfl (OW.q rfl (QW.move rfl) ?_))
  first | (refine RL.guard_no rfl rfl rfl rfl rfl ?_) | (refine RL.guard_yes rfl rfl rfl rfl (OW.q rfl (QW.cap_s Tryz.runUnderlying23 rfl) ?_))
  first | (refine RL.guard_no rfl rfl rfl rfl rfl ?_) | (refine RL.guard_yes rfl rfl rfl rfl (OW.q rfl (QW.move rfl) ?_))
  first | (refine RL.guard_no rfl rfl rfl rfl rfl ?_) | (refine RL.guard_yes rfl rfl rfl rfl (OW.q rfl (QW.len_s Tryz.runUnderlying23 rfl) ?_))
  first | (refine RL.guard_no rfl rfl rfl rfl rfl ?_) | (refine RL.guard_yes rfl rfl rfl rfl (OW.q rfl (QW.leq (t := false) rfl rfl (by simp; omega)) ?_))
  refine RL.q rfl rfl ((by first | exact QW.pick_t rfl rfl | exact QW.pick_f rfl rfl)) ?_
  refine RL.nil (thenN ?_)
  refine CW.cond_false rfl ?_
  refine CW.skip (thenN ?_)
  refine CW.seq ?_
  refine CW.seq ?_
  refine CW.region (by kernel_rfl) ?_
  refine RL.q rfl rfl (QW.assign rfl) ?_
  refine RL.nil (thenN ?_)
  refine CW.block ?_
  refine CW.loopT (ι := Nat) [(0, _), (1, _)] (by repeat (first | exact leE_nil | refine leE_cons rfl ?_)) (fun i => i ≤ bs.length) (fun i r => (5, nI i) :: r) (fun i => S) (fun i => bs.length - i) 0 (by omega) (by repeat (first | exact leE_nil | refine leE_cons (by first | rfl | (rfl)) ?_)) (by repeat (first | exact List.Sublist.refl _ | (refine keepS ?_ ?_; with_reducible rfl) | (refine keepA ?_ ?_; with_reducible rfl) | (refine keepS ?_ ?_; rfl) | apply dropS | apply dropA)) ?_
  intro i hI
  refine CW.seq ?_
  refine CW.seq ?_
  refine CW.region (by kernel_rfl) ?_
  refine RL.q rfl rfl (QW.move rfl) ?_
  refine RL.q rfl rfl (QW.move rfl) ?_
  refine RL.q rfl rfl (QW.len_s Tryz.runUnderlying23 rfl) ?_
  refine RL.q rfl rfl (QW.lss rfl rfl (dI_lt _ _)) ?_
  refine RL.nil (thenN ?_)
  refine CW.cond rfl (fun hc1 => ?_) (fun hc1 => ?_)
  · have hi : i < bs.length := by simpa using hc1
    obtain ⟨gb2, off2, l2, TT2, fr2, rfl, hm2, hget2⟩ := RdB.at hv2 (by omega)
    refine CW.skip (thenN ?_)
    refine CW.seq ?_
    refine CW.block ?_
    refine CW.seq ?_
    refine CW.drawn [(gb, Obj.cells ⟨l⟩ TT fr), (gb2, Obj.cells ⟨l2⟩ TT2 fr2)] 9 (by rw [mixed]; rfl) (by kernel_rfl) (by kernel_rfl) (by kernel_rfl) (fun _ _ _ h => h) ?_
    refine DL.take 0 rfl (by kernel_rfl) (by kernel_rfl) (by kernel_rfl) rfl rfl (QW.move rfl) (hsub2 (by repeat (first | exact List.mem_cons_self | exact List.mem_cons_of_mem _ (by assumption) | assumption | refine List.mem_cons_of_mem _ ?_ | refine List.mem_append_right _ ?_)) (by repeat (first | exact List.mem_cons_self | exact List.mem_cons_of_mem _ (by assumption) | assumption | refine List.mem_cons_of_mem _ ?_ | refine List.mem_append_right _ ?_))) ?_
    refine DL.take 1 rfl (by kernel_rfl) (by kernel_rfl) (by kernel_rfl) rfl rfl (QW.move rfl) (hsub2 (by repeat (first | exact List.mem_cons_self | exact List.mem_cons_of_mem _ (by assumption) | assumption | refine List.mem_cons_of_mem _ ?_ | refine List.mem_append_right _ ?_)) (by repeat (first | exact List.mem_cons_self | exact List.mem_cons_of_mem _ (by assumption) | assumption | refine List.mem_cons_of_mem _ ?_ | refine List.mem_append_right _ ?_))) ?_
    refine DL.take 2 rfl (by kernel_rfl) (by kernel_rfl) (by kernel_rfl) rfl rfl (QW.indexAddrS Tryz.runUnderlying23 Tryz.sizeOf5 rfl rfl (by omega) (by first | omega | exact lt8 _) (by first | exact ix01 _ | exact ixb1 _ _ | exact ix0m _ _ | exact ixbm _ _ _)) (hsub2 (by repeat (first | exact List.mem_cons_self | exact List.mem_cons_of_mem _ (by assumption) | assumption | refine List.mem_cons_of_mem _ ?_ | refine List.mem_append_right _ ?_)) (by repeat (first | exact List.mem_cons_self | exact List.mem_cons_of_mem _ (by assumption) | assumption | refine List.mem_cons_of_mem _ ?_ | refine List.mem_append_right _ ?_))) ?_
    refine DL.take 3 rfl (by kernel_rfl) (by kernel_rfl) (by kernel_rfl) rfl rfl (QW.load1 rfl Tryz.isAgg5 (by repeat (first | exact List.mem_cons_self | exact List.mem_cons_of_mem _ (by assumption) | assumption | refine List.mem_cons_of_mem _ ?_ | refine List.mem_append_right _ ?_)) (by refine hget _ ?_; omega)) (hsub2 (by repeat (first | exact List.mem_cons_self | exact List.mem_cons_of_mem _ (by assumption) | assumption | refine List.mem_cons_of_mem _ ?_ | refine List.mem_append_right _ ?_)) (by repeat (first | exact List.mem_cons_self | exact List.mem_cons_of_mem _ (by assumption) | assumption | refine List.mem_cons_of_mem _ ?_ | refine List.mem_append_right _ ?_))) ?_
    refine DL.take 4 rfl (by kernel_rfl) (by kernel_rfl) (by kernel_rfl) rfl rfl (QW.move rfl) (hsub2 (by repeat (first | exact List.mem_cons_self | exact List.mem_cons_of_mem _ (by assumption) | assumption | refine List.mem_cons_of_mem _ ?_ | refine List.mem_append_right _ ?_)) (by repeat (first | exact List.mem_cons_self | exact List.mem_cons_of_mem _ (by assumption) | assumption | refine List.mem_cons_of_mem _ ?_ | refine List.mem_append_right _ ?_))) ?_
    refine DL.take 5 rfl (by kernel_rfl) (by kernel_rfl) (by kernel_rfl) rfl rfl (QW.move rfl) (hsub2 (by repeat (first | exact List.mem_cons_self | exact List.mem_cons_of_mem _ (by assumption) | assumption | refine List.mem_cons_of_mem _ ?_ | refine List.mem_append_right _ ?_)) (by repeat (first | exact List.mem_cons_self | exact List.mem_cons_of_mem _ (by assumption) | assumption | refine List.mem_cons_of_mem _ ?_ | refine List.mem_append_right _ ?_))) ?_
    refine DL.take 6 rfl (by kernel_rfl) (by kernel_rfl) (by kernel_rfl) rfl rfl (QW.indexAddrS Tryz.runUnderlying23 Tryz.sizeOf5 rfl rfl (by omega) (by first | omega | exact lt8 _) (by first | exact ix01 _ | exact ixb1 _ _ | exact ix0m _ _ | exact ixbm _ _ _)) (hsub2 (by repeat (first | exact List.mem_cons_self | exact List.mem_cons_of_mem _ (by assumption) | assumption | refine List.mem_cons_of_mem _ ?_ | refine List.mem_append_right _ ?_)) (by repeat (first | exact List.mem_cons_self | exact List.mem_cons_of_mem _ (by assumption) | assumption | refine List.mem_cons_of_mem _ ?_ | refine List.mem_append_right _ ?_))) ?_
    refine DL.take 7 rfl (by kernel_rfl) (by kernel_rfl) (by kernel_rfl) rfl rfl (QW.load1 rfl Tryz.isAgg5 (by repeat (first | exact List.mem_cons_self | exact List.mem_cons_of_mem _ (by assumption) | assumption | refine List.mem_cons_of_mem _ ?_ | refine List.mem_append_right _ ?_)) (by refine hget2 _ ?_; omega)) (hsub2 (by repeat (first | exact List.mem_cons_self | exact List.mem_cons_of_mem _ (by assumption) | assumption | refine List.mem_cons_of_mem _ ?_ | refine List.mem_append_right _ ?_)) (by repeat (first | exact List.mem_cons_self | exact List.mem_cons_of_mem _ (by assumption) | assumption | refine List.mem_cons_of_mem _ ?_ | refine List.mem_append_right _ ?_))) ?_
    refine DL.take 8 rfl (by kernel_rfl) (by kernel_rfl) (by kernel_rfl) rfl rfl (QW.neq' rfl rfl (d8_eq _ _)) (hsub2 (by repeat (first | exact List.mem_cons_self | exact List.mem_cons_of_mem _ (by assumption) | assumption | refine List.mem_cons_of_mem _ ?_ | refine List.mem_append_right _ ?_)) (by repeat (first | exact List.mem_cons_self | exact List.mem_cons_of_mem _ (by assumption) | assumption | refine List.mem_cons_of_mem _ ?_ | refine List.mem_append_right _ ?_))) ?_
    refine DL.done (by kernel_rfl) (thenN ?_)
    refine CW.cond rfl (fun hc2 => ?_) (fun hc2 => ?_)
    · exfalso; simp at hc2
    · refine CW.skip (blockN (thenN ?_))
      refine CW.region (by kernel_rfl) ?_
      refine RL.q rfl rfl (QW.move rfl) ?_
      refine RL.q rfl rfl (QW.add rfl rfl (wI_add (a := _) (b := 1) (by omega))) ?_
      refine RL.q rfl rfl (QW.assign rfl) ?_
      refine RL.nil (thenN ?_)
      refine ⟨i + 1, (by omega), (by omega), ?_, ?_⟩
      · repeat (first | exact leE_nil | refine leE_cons rfl ?_)
      · exact List.Sublist.refl _
  · have hi : i = bs.length := by simp at hc1; omega
    subst hi
    refine CW.exit (thenX (thenX (blockX (thenN ?_))))
    refine CW.seq ?_
    refine CW.region (by kernel_rfl) ?_
    refine RL.q rfl rfl (QW.move rfl) ?_
    refine RL.q rfl rfl (QW.move rfl) ?_
    refine RL.q rfl rfl (QW.len_s Tryz.runUnderlying23 rfl) ?_
    refine RL.q rfl rfl (QW.add rfl rfl (wI_add (a := _) (b := 1) (by omega))) ?_
    refine RL.q rfl rfl (QW.sliceS0 Tryz.runUnderlying23 Tryz.sizeOf5 rfl (optV_some rfl) optV_none (.inl rfl) (by first | omega | (dsimp only; omega)) (by first | omega | (dsimp only; omega))) ?_
    refine RL.q rfl rfl (QW.move rfl) ?_
    refine RL.q rfl rfl (QW.len_s Tryz.runUnderlying23 rfl) ?_
    refine RL.q rfl rfl (QW.indexAddrS Tryz.runUnderlying23 Tryz.sizeOf5 rfl rfl (by omega) (by first | omega | exact lt8 _) (by first | exact ix01 _ | exact ixb1 _ _ | exact ix0m _ _ | exact ixbm _ _ _)) ?_
    refine RL.q rfl rfl (QW.load1 rfl Tryz.isAgg5 (by repeat (first | exact List.mem_cons_self | exact List.mem_cons_of_mem _ (by assumption) | assumption | refine List.mem_cons_of_mem _ ?_ | refine List.mem_append_right _ ?_)) h77) ?_
    refine RL.q rfl rfl (QW.assign rfl) ?_
    refine RL.nil (thenN ?_)
    refine CW.seq ?_
    refine CW.region (by kernel_rfl) ?_
    refine RL.q rfl rfl (QW.move rfl) ?_
    refine RL.q rfl rfl (QW.eql rfl rfl (d8_eq _ 77)) ?_
    refine RL.q rfl rfl (QW.assign rfl) ?_
    refine RL.nil (thenN ?_)
    refine CW.ret (retR (S) (ResOk.one Tryz.results14 (ResV.tmp rfl)) (by repeat (first | exact List.Sublist.refl _ | (refine keepS ?_ ?_; with_reducible rfl) | (refine keepA ?_ ?_; with_reducible rfl) | (refine keepS ?_ ?_; rfl) | apply dropS | apply dropA)) ?_)
    exact ⟨by simp, rfl⟩

set_option maxRecDepth 100000 in
set_option maxHeartbeats 1000000 in
theorem keepByte_c (bk m k n c : Nat) (a : Option Addr) (ob : Option Buf) (es tl : List Value) (S : HL) (hbo : bufOk ob k 3) (hes : es.length = k * 3) (hm : m ≤ 1000) (hk : k ≤ 1000) (htl : tl.length = 14) : CallS Tryz.prog 65 ⟨[ptr bk 0, .slice a n c]⟩ ((bk, blk (nI m :: bufV ob k :: tl) 43) :: (bufH ob es 187 ++ S)) fun v S' => ∃ o, bufOk o (k + 1) 3 ∧ v = .tuple #[] ∧ S' = (bk, blk (nI (m + 1) :: bufV o (k + 1) :: tl) 43) :: (bufH o (es ++ [.slice a n c, .slice none 0 0, nI (m + 1)]) 187 ++ S) := by
  refine CallS.enter Tryz.func65 rfl Tryz.ntmps65 (by simp) ?_
  refine CW.seq ?_
  refine CW.region (by kernel_rfl) ?_
  refine RL.q rfl rfl (QW.move rfl) ?_
  refine RL.q rfl rfl (QW.nilCheck rfl) ?_
  refine RL.q rfl rfl (QW.fieldAddr Tryz.runUnderlying43 rfl Tryz.sizeOf3 (by decide) rfl (by first | exact fo0 0 | exact foB _ 0)) ?_
  refine RL.q rfl rfl (QW.load1 rfl Tryz.isAgg3 (by repeat (first | exact List.mem_cons_self | exact List.mem_cons_of_mem _ (by assumption) | assumption | refine List.mem_cons_of_mem _ ?_ | refine List.mem_append_right _ ?_)) (by first | (refine m_get 0 ?_; omega) | (refine m_get 0 ?_; simp only [*]; omega) | (refine m_get 0 ?_; simp only [List.length_set]; omega) | (refine m_get 0 (lt8L ?_); omega) | (refine m_get 0 (lt8B ?_); omega) | rfl)) ?_
  refine RL.q rfl rfl (QW.add rfl rfl (wI_add (a := _) (b := 1) (by omega))) ?_
  refine RL.q rfl rfl (QW.nilCheck rfl) ?_
  refine RL.q rfl rfl (QW.fieldAddr Tryz.runUnderlying43 rfl Tryz.sizeOf3 (by decide) rfl (by first | exact fo0 0 | exact foB _ 0)) ?_
  refine RL.cons rfl (OW.store1 rfl rfl Tryz.sizeOf3 (by first | rfl | exact oneB_buf _ _) (by repeat (first | exact List.mem_cons_self | exact List.mem_cons_of_mem _ (by assumption) | assumption | refine List.mem_cons_of_mem _ ?_ | refine List.mem_append_right _ ?_)) (by first | (simp only [List.length_map, List.length_replicate, List.length_cons, List.length_nil, List.length_set, Nat.mul_one] <;> omega) | (rw [List.length_map]; refine lt8B ?_; simp [*]; done) | (rw [List.length_map]; refine lt8L ?_; simp [*]; done) | (simp [*] <;> omega)) (by first | exact m_set _ _ _ | rfl) (by repeat (first | exact Upd.head | apply Upd.tail | apply Upd.tailA)) ?_)
  refine RL.nil (thenN ?_)
  refine CW.drawn [(bk, blk (nI (m + 1) :: bufV ob k :: tl) 43)] 15 (by rw [mixed]; rfl) (by kernel_rfl) (by kernel_rfl) (by kernel_rfl) (fun _ _ _ h => h) ?_
  refine DL.take 0 rfl (by kernel_rfl) (by kernel_rfl) (by kernel_rfl) rfl rfl (QW.move rfl) (hsub1 (by repeat (first | exact List.mem_cons_self | exact List.mem_cons_of_mem _ (by assumption) | assumption | refine List.mem_cons_of_mem _ ?_ | refine List.mem_append_right _ ?_))) ?_
  refine DL.take 1 rfl (by kernel_rfl) (by kernel_rfl) (by kernel_rfl) rfl rfl (QW.move rfl) (hsub1 (by repeat (first | exact List.mem_cons_self | exact List.mem_cons_of_mem _ (by assumption) | assumption | refine List.mem_cons_of_mem _ ?_ | refine List.mem_append_right _ ?_))) ?_
  refine DL.take 2 rfl (by kernel_rfl) (by kernel_rfl) (by kernel_rfl) rfl rfl (QW.nilCheck rfl) (hsub1 (by repeat (first | exact List.mem_cons_self | exact List.mem_cons_of_mem _ (by assumption) | assumption | refine List.mem_cons_of_mem _ ?_ | refine List.mem_append_right _ ?_))) ?_
  refine DL.take 3 rfl (by kernel_rfl) (by kernel_rfl) (by kernel_rfl) rfl rfl (QW.fieldAddr Tryz.runUnderlying43 rfl Tryz.sizeOf27 (by decide) rfl (by first | exact fo0 1 | exact foB _ 1)) (hsub1 (by repeat (first | exact List.mem_cons_self | exact List.mem_cons_of_mem _ (by assumption) | assumption | refine List.mem_cons_of_mem _ ?_ | refine List.mem_append_right _ ?_))) ?_
  refine DL.take 4 rfl (by kernel_rfl) (by kernel_rfl) (by kernel_rfl) rfl rfl (QW.load1 rfl Tryz.isAgg27 (by repeat (first | exact List.mem_cons_self | exact List.mem_cons_of_mem _ (by assumption) | assumption | refine List.mem_cons_of_mem _ ?_ | refine List.mem_append_right _ ?_)) (by first | (refine m_get 0 ?_; omega) | (refine m_get 0 ?_; simp only [*]; omega) | (refine m_get 0 ?_; simp only [List.length_set]; omega) | (refine m_get 0 (lt8L ?_); omega) | (refine m_get 0 (lt8B ?_); omega) | rfl)) (hsub1 (by repeat (first | exact List.mem_cons_self | exact List.mem_cons_of_mem _ (by assumption) | assumption | refine List.mem_cons_of_mem _ ?_ | refine List.mem_append_right _ ?_))) ?_
  refine DL.take 5 rfl (by kernel_rfl) (by kernel_rfl) (by kernel_rfl) rfl rfl (QW.move rfl) (hsub1 (by repeat (first | exact List.mem_cons_self | exact List.mem_cons_of_mem _ (by assumption) | assumption | refine List.mem_cons_of_mem _ ?_ | refine List.mem_append_right _ ?_))) ?_
  refine DL.take 6 rfl (by kernel_rfl) (by kernel_rfl) (by kernel_rfl) rfl rfl (QW.move rfl) (hsub1 (by repeat (first | exact List.mem_cons_self | exact List.mem_cons_of_mem _ (by assumption) | assumption | refine List.mem_cons_of_mem _ ?_ | refine List.mem_append_right _ ?_))) ?_
  refine DL.take 7 rfl (by kernel_rfl) (by kernel_rfl) (by kernel_rfl) rfl rfl (QW.nilCheck rfl) (hsub1 (by repeat (first | exact List.mem_cons_self | exact List.mem_cons_of_mem _ (by assumption) | assumption | refine List.mem_cons_of_mem _ ?_ | refine List.mem_append_right _ ?_))) ?_
  refine DL.take 8 rfl (by kernel_rfl) (by kernel_rfl) (by kernel_rfl) rfl rfl (QW.fieldAddr Tryz.runUnderlying43 rfl Tryz.sizeOf3 (by decide) rfl (by first | exact fo0 0 | exact foB _ 0)) (hsub1 (by repeat (first | exact List.mem_cons_self | exact List.mem_cons_of_mem _ (by assumption) | assumption | refine List.mem_cons_of_mem _ ?_ | refine List.mem_append_right _ ?_))) ?_
  refine DL.take 9 rfl (by kernel_rfl) (by kernel_rfl) (by kernel_rfl) rfl rfl (QW.load1 rfl Tryz.isAgg3 (by repeat (first | exact List.mem_cons_self | exact List.mem_cons_of_mem _ (by assumption) | assumption | refine List.mem_cons_of_mem _ ?_ | refine List.mem_append_right _ ?_)) (by first | (refine m_get 0 ?_; omega) | (refine m_get 0 ?_; simp only [*]; omega) | (refine m_get 0 ?_; simp only [List.length_set]; omega) | (refine m_get 0 (lt8L ?_); omega) | (refine m_get 0 (lt8B ?_); omega) | rfl)) (hsub1 (by repeat (first | exact List.mem_cons_self | exact List.mem_cons_of_mem _ (by assumption) | assumption | refine List.mem_cons_of_mem _ ?_ | refine List.mem_append_right _ ?_))) ?_
  refine DL.take 10 rfl (by kernel_rfl) (by kernel_rfl) (by kernel_rfl) rfl rfl (QW.buildS (cells := [_, _, _]) (pl := #[(0, 1), (1, 1), (2, 1)]) Tryz.runUnderlying187 (fun w => by kernel_rfl) zv187 (parts2 rfl rfl) rfl) (hsub1 (by repeat (first | exact List.mem_cons_self | exact List.mem_cons_of_mem _ (by assumption) | assumption | refine List.mem_cons_of_mem _ ?_ | refine List.mem_append_right _ ?_))) ?_
  refine DL.one 11 (by kernel_rfl) rfl rfl (OW.buildSlice1N Tryz.runUnderlying27 Tryz.sizeOf187 (by decide) zv187 rfl (by first | rfl | simp) (by decide) ?_)
  intro b22
  refine ⟨fun _ => hsub1 (by repeat (first | exact List.mem_cons_self | exact List.mem_cons_of_mem _ (by assumption) | assumption | refine List.mem_cons_of_mem _ ?_ | refine List.mem_append_right _ ?_)), ?_⟩
  refine DL.one 12 (by kernel_rfl) rfl rfl (OW.append Tryz.runUnderlying27 Tryz.runUnderlying27 (.inl ⟨_, rfl⟩) Tryz.typeInfo187 Tryz.sizeOf187 zv187 rfl rfl (by repeat (first | exact SegF.here | apply SegF.there | apply SegF.thereA)) (by first | rfl | (simp only [List.length_map, List.length_replicate, List.length_cons, List.length_nil, List.length_set, Nat.mul_one] <;> omega) | (simp [*] <;> omega)) hbo rfl (by first | (apply Src.one; (repeat (first | exact List.mem_cons_self | exact List.mem_cons_of_mem _ (by assumption) | assumption | refine List.mem_cons_of_mem _ ?_ | refine List.mem_append_right _ ?_)); done) | (apply Src.sl; (focus repeat (first | exact List.mem_cons_self | exact List.mem_cons_of_mem _ (by assumption) | assumption | refine List.mem_cons_of_mem _ ?_ | refine List.mem_append_right _ ?_)); (first | (simp only [List.length_map, List.length_replicate, List.length_cons, List.length_nil, List.length_set, Nat.mul_one] <;> omega) | (simp [*] <;> omega)); (first | (refine m_all_of _ _ ?_; omega) | exact m_cut _ _ _ | rfl))) (by first | rfl | (simp only [List.length_map, List.length_replicate, List.length_cons, List.length_nil, List.length_set, Nat.mul_one] <;> omega) | (simp [*] <;> omega)) (by first | exact m_all (fun _ => rfl) _ | rfl | (simp; done) | (simp only [List.all_cons, List.all_nil, oneB_buf, Bool.true_and, Bool.and_true]; rfl) | (simp [oneB]; done)) (by decide) (by rw [show Tryz.t187.bytes = 56 from rfl]; omega) ?_)
  intro o hbo
  refine ⟨fun _ => hsub1 (by repeat (first | exact List.mem_cons_self | exact List.mem_cons_of_mem _ (by assumption) | assumption | refine List.mem_cons_of_mem _ ?_ | refine List.mem_append_right _ ?_)), ?_⟩
  refine DL.take 13 rfl (by kernel_rfl) (by kernel_rfl) (by kernel_rfl) rfl rfl (QW.nilCheck rfl) (hsub1 (by repeat (first | exact List.mem_cons_self | exact List.mem_cons_of_mem _ (by assumption) | assumption | refine List.mem_cons_of_mem _ ?_ | refine List.mem_append_right _ ?_))) ?_
  refine DL.take 14 rfl (by kernel_rfl) (by kernel_rfl) (by kernel_rfl) rfl rfl (QW.fieldAddr Tryz.runUnderlying43 rfl Tryz.sizeOf27 (by decide) rfl (by first | exact fo0 1 | exact foB _ 1)) (hsub1 (by repeat (first | exact List.mem_cons_self | exact List.mem_cons_of_mem _ (by assumption) | assumption | refine List.mem_cons_of_mem _ ?_ | refine List.mem_append_right _ ?_))) ?_
  refine DL.one 15 (by kernel_rfl) rfl rfl (OW.store1 rfl rfl Tryz.sizeOf27 (by first | rfl | exact oneB_buf _ _) (by repeat (first | exact List.mem_cons_self | exact List.mem_cons_of_mem _ (by assumption) | assumption | refine List.mem_cons_of_mem _ ?_ | refine List.mem_append_right _ ?_)) (by first | (simp only [List.length_map, List.length_replicate, List.length_cons, List.length_nil, List.length_set, Nat.mul_one] <;> omega) | (rw [List.length_map]; refine lt8B ?_; simp [*]; done) | (rw [List.length_map]; refine lt8L ?_; simp [*]; done) | (simp [*] <;> omega)) (by first | exact m_set _ _ _ | rfl) (by repeat (first | exact Upd.head | apply Upd.tail | apply Upd.tailA)) ?_)
  refine ⟨fun h => absurd rfl h, ?_⟩
  refine DL.done (by kernel_rfl) (retN ((bk, blk (nI (m + 1) :: bufV o (k + 1) :: tl) 43) :: (bufH o (es ++ [.slice a n c, .slice none 0 0, nI (m + 1)]) 187 ++ S)) (ResOk.zero Tryz.results65 ) (by repeat (first | exact List.Sublist.refl _ | (refine keepS ?_ ?_; with_reducible rfl) | (refine keepA ?_ ?_; with_reducible rfl) | (refine keepS ?_ ?_; rfl) | apply dropS | apply dropA)) ?_)
  exact ⟨o, hbo, rfl, rfl⟩

set_option maxRecDepth 100000 in
set_option maxHeartbeats 1000000 in
theorem Bytes_c (bk m k n c : Nat) (a : Option Addr) (ob : Option Buf) (es tl : List Value) (S : HL) (hbo : bufOk ob k 3) (hes : es.length = k * 3) (hm : m ≤ 1000) (hk : k ≤ 1000) (htl : tl.length = 14) : CallS Tryz.prog 11 ⟨[ptr bk 0, .slice a n c]⟩ ((bk, blk (nI m :: bufV ob k :: tl) 43) :: (bufH ob es 187 ++ S)) fun v S' => ∃ o, bufOk o (k + 1) 3 ∧ v = .tuple #[] ∧ S' = (bk, blk (nI (m + 1) :: bufV o (k + 1) :: tl) 43) :: (bufH o (es ++ [.slice a n c, .slice none 0 0, nI (m + 1)]) 187 ++ S) := by
  refine CallS.enter Tryz.func11 rfl Tryz.ntmps11 (by simp) ?_
  refine CW.region (by kernel_rfl) ?_
  refine RL.q rfl rfl (QW.move rfl) ?_
  refine RL.q rfl rfl (QW.move rfl) ?_
  refine RL.cons rfl (OW.call Tryz.call65 (ext2 rfl rfl) ((keepByte_c bk m k n c a ob es tl S hbo hes hm hk htl).mono ?_))
  rintro v S' ⟨o, ho, rfl, rfl⟩
  refine RL.nil (retN ((bk, blk (nI (m + 1) :: bufV o (k + 1) :: tl) 43) :: (bufH o (es ++ [.slice a n c, .slice none 0 0, nI (m + 1)]) 187 ++ S)) (ResOk.zero Tryz.results11 ) (by repeat (first | exact List.Sublist.refl _ | (refine keepS ?_ ?_; with_reducible rfl) | (refine keepA ?_ ?_; with_reducible rfl) | (refine keepS ?_ ?_; rfl) | apply dropS | apply dropA)) ?_)
  exact ⟨o, ho, rfl, rfl⟩

end Go.Sl
