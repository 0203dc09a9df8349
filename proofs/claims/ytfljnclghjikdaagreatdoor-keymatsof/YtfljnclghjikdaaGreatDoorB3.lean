/- A part of a proof: B1, B2, B3. -/
import Derived.Test.YtfljnclghjikdaaGreatDoorProg
import Derived.Test.YtfljnclghjikdaaGreatDoorK2
import Derived.Test.YtfljnclghjikdaaGreatDoorEngW
/- Book.fillByte over any number of lists. -/
set_option linter.unusedVariables false
set_option linter.unusedSimpArgs false
namespace Go.Sl
open Go.Proofs

theorem lh_one (l : BL) : lh [l] = l.h := by simp [lh]
theorem entsM_get {a b : List BL} {l : BL} {r : List Value} : ((ents 0 ((a ++ l :: b).map (fun l : BL => (l.v, NILS))) ++ r).drop (a.length * 3)).take 3 = [l.v, NILS, nI (a.length + 1)] := by
  have := ents_get (a := a.map (fun l : BL => (l.v, NILS))) (b := b.map (fun l : BL => (l.v, NILS))) (p := (fun l : BL => (l.v, NILS)) l) (r := r)
  rw [List.length_map] at this
  rw [List.map_append]; exact this
theorem entsM_le {a b : List BL} {l : BL} {r : List Value} : a.length * 3 + 3 ≤ (ents 0 ((a ++ l :: b).map (fun l : BL => (l.v, NILS))) ++ r).length := by
  have := ents_le (a := a.map (fun l : BL => (l.v, NILS))) (b := b.map (fun l : BL => (l.v, NILS))) (p := (fun l : BL => (l.v, NILS)) l) (r := r)
  rw [List.length_map] at this
  rw [List.map_append]; exact this


set_option maxRecDepth 100000 in
set_option maxHeartbeats 1000000 in
theorem fillN_c (bk : Nat) (og : Buf) (ls : List BL) (tl : List Value) (S : HL) (hls : ls.length ≤ 1000) (hok : ∀ l ∈ ls, l.ok ∧ l.xs.length ≤ 1000000) : CallS Tryz.prog 68 ⟨[ptr bk 0]⟩ ((bk, blk (nI ls.length :: bufV (some og) ls.length :: tl) 43) :: (og.b, blk (ents 0 ((ls.map (fun l : BL => (l.v, NILS)))) ++ og.rest) 187) :: (lh ls ++ S)) fun v S' => v = .tuple #[] ∧ S' = (bk, blk (nI ls.length :: bufV (some og) ls.length :: tl) 43) :: (og.b, blk (ents 0 ((ls.map (fun l : BL => (l.v, NILS)))) ++ og.rest) 187) :: (lh (fl 0 ls) ++ S) := by
  refine CallS.enter Tryz.func68 rfl Tryz.ntmps68 (by simp) ?_
  refine CW.seq ?_
  refine CW.region (by kernel_rfl) ?_
  refine RL.q rfl rfl (QW.assign rfl) ?_
  refine RL.nil (thenN ?_)
  refine CW.block ?_
  refine CW.loopT2 (α := List BL) (β := List BL) [(0, _)] (by repeat (first | exact leE_nil | refine leE_cons rfl ?_)) (fun ps ts => ls = ps ++ ts) (fun ps ts r => (2, nI ps.length) :: r) (fun ps ts => (bk, blk (nI ls.length :: bufV (some og) ls.length :: tl) 43) :: (og.b, blk (ents 0 ((ls.map (fun l : BL => (l.v, NILS)))) ++ og.rest) 187) :: (lh (fl 0 ps) ++ (lh ts ++ S))) (fun ps ts => ts.length) [] ls rfl (by repeat (first | exact leE_nil | refine leE_cons (by first | rfl | (rfl)) ?_)) (List.Sublist.refl _) ?_
  intro ps ts hI
  subst hI
  have hpl : ps.length ≤ 1000 := by simp at hls; omega
  refine CW.seq ?_
  refine CW.seq ?_
  refine CW.region (by kernel_rfl) ?_
  refine RL.q rfl rfl (QW.move rfl) ?_
  refine RL.q rfl rfl (QW.move rfl) ?_
  refine RL.q rfl rfl (QW.nilCheck rfl) ?_
  refine RL.q rfl rfl (QW.fieldAddr Tryz.runUnderlying43 rfl Tryz.sizeOf27 (by decide) rfl (by first | exact fo0 1 | exact foB _ 1)) ?_
  refine RL.q rfl rfl (QW.load1 rfl Tryz.isAgg27 (by repeat (first | exact List.mem_cons_self | exact List.mem_cons_of_mem _ (by assumption) | assumption | refine List.mem_cons_of_mem _ ?_ | refine List.mem_append_right _ ?_)) rfl) ?_
  refine RL.q rfl rfl (QW.len_s Tryz.runUnderlying27 rfl) ?_
  refine RL.q rfl rfl (QW.lss rfl rfl (dI_lt _ _)) ?_
  refine RL.nil (thenN ?_)
  refine CW.cond rfl (fun hc0 => ?_) (fun hc0 => ?_)
  · obtain ⟨l, ts2, rfl⟩ := list_cons (l := ts) (by simp at hc0; omega)
    obtain ⟨hlo, hlb⟩ := hok l (by simp)
    refine CW.skip (thenN ?_)
    refine CW.seq ?_
    refine CW.block ?_
    refine CW.seq ?_
    refine CW.region (by kernel_rfl) ?_
    refine RL.q rfl rfl (QW.move rfl) ?_
    refine RL.q rfl rfl (QW.nilCheck rfl) ?_
    refine RL.q rfl rfl (QW.fieldAddr Tryz.runUnderlying43 rfl Tryz.sizeOf27 (by decide) rfl (by first | exact fo0 1 | exact foB _ 1)) ?_
    refine RL.q rfl rfl (QW.load1 rfl Tryz.isAgg27 (by repeat (first | exact List.mem_cons_self | exact List.mem_cons_of_mem _ (by assumption) | assumption | refine List.mem_cons_of_mem _ ?_ | refine List.mem_append_right _ ?_)) rfl) ?_
    refine RL.q rfl rfl (QW.move rfl) ?_
    refine RL.q rfl rfl (QW.indexAddrS Tryz.runUnderlying27 Tryz.sizeOf187 rfl rfl (by omega) (by simp; omega) (by first | exact ix01 _ | exact ixb1 _ _ | exact ix0m _ _)) ?_
    refine RL.q rfl rfl (QW.loadN (r := [l.v, NILS, nI (ps.length + 1)]) rfl Tryz.isAgg187 Tryz.sizeOf187 (by repeat (first | exact List.mem_cons_self | exact List.mem_cons_of_mem _ (by assumption) | assumption | refine List.mem_cons_of_mem _ ?_ | refine List.mem_append_right _ ?_)) entsM_le entsM_get) ?_
    refine RL.cons rfl (OW.alloc zv187 rfl ?_)
    intro b3
    refine RL.cons rfl (OW.storeN rfl rfl Tryz.sizeOf187 (by repeat (first | exact List.mem_cons_self | exact List.mem_cons_of_mem _ (by assumption) | assumption | refine List.mem_cons_of_mem _ ?_ | refine List.mem_append_right _ ?_)) (by first | (simp only [List.length_map, List.length_replicate, List.length_cons, List.length_nil, List.length_set, Nat.mul_one] <;> omega) | (simp [*] <;> omega)) (by simp only [List.all_cons, BL.oneB, List.all_nil, Bool.and_true, Bool.true_and]; rfl) (by first | (simp only [List.length_map, List.length_replicate, List.length_cons, List.length_nil, List.length_set, Nat.mul_one] <;> omega) | (simp [*] <;> omega)) (by first | (refine wr_all ?_; simp only [List.length_map, List.length_replicate, List.length_cons, List.length_nil, List.length_set, Nat.mul_one] <;> omega) | (refine wr_all ?_; simp [*]; done) | exact m_wr _ _ _ | with_reducible rfl) (by repeat (first | exact Upd.head | apply Upd.tail | apply Upd.tailA)) ?_)
    refine RL.nil (thenN ?_)
    refine CW.seq ?_
    refine CW.region (by kernel_rfl) ?_
    refine RL.q rfl rfl (QW.assign rfl) ?_
    refine RL.nil (thenN ?_)
    refine CW.block ?_
    refine CW.loopT (ι := Nat) [(0, _), (2, _), (3, _), (5, _), (6, _), (7, _), (8, _), (9, _), (10, _), (11, _), (14, _), (15, _), (16, _), (17, _), (18, _), (19, _), (20, _)] (by repeat (first | exact leE_nil | refine leE_cons rfl ?_)) (fun k => k ≤ l.xs.length) (fun k r => (4, nI k) :: r) (fun k => (b3, blk [l.v, NILS, nI (ps.length + 1)] 187) :: (bk, blk (nI (ps ++ l :: ts2).length :: bufV (some og) (ps ++ l :: ts2).length :: tl) 43) :: (og.b, blk (ents 0 (((ps ++ l :: ts2).map (fun l : BL => (l.v, NILS)))) ++ og.rest) 187) :: (lh (fl 0 ps) ++ (BL.h ⟨l.o, fT (mkB ps.length) l.xs k⟩ ++ (lh ts2 ++ S)))) (fun k => l.xs.length - k) 0 (by omega) (by repeat (first | exact leE_nil | refine leE_cons (by first | rfl | (rfl)) ?_)) (by rw [fT_zero, lh_cons, List.append_assoc]; exact List.Sublist.refl _) ?_
    intro k hIk
    refine CW.seq ?_
    refine CW.seq ?_
    refine CW.region (by kernel_rfl) ?_
    refine RL.q rfl rfl (QW.move rfl) ?_
    refine RL.q rfl rfl (QW.fieldAddr Tryz.runUnderlying187 rfl Tryz.sizeOf23 (by decide) rfl (by first | exact fo0 0 | exact foB _ 0)) ?_
    refine RL.q rfl rfl (QW.load1 rfl Tryz.isAgg23 (by repeat (first | exact List.mem_cons_self | exact List.mem_cons_of_mem _ (by assumption) | assumption | refine List.mem_cons_of_mem _ ?_ | refine List.mem_append_right _ ?_)) rfl) ?_
    refine RL.q rfl rfl (QW.len_bl hlo Tryz.runUnderlying23 rfl) ?_
    refine RL.q rfl rfl (QW.lss rfl rfl (dI_lt _ _)) ?_
    refine RL.nil (thenN ?_)
    refine CW.cond rfl (fun hc1 => ?_) (fun hc1 => ?_)
    · have hk : k < l.xs.length := by simpa using hc1
      obtain ⟨u, xs, rfl⟩ := hlo.some (by omega)
      have hk : k < xs.length := hk
      refine CW.skip (thenN ?_)
      refine CW.seq ?_
      refine CW.block ?_
      refine CW.drawn [(b3, blk [(BL.v ⟨some u, xs⟩), NILS, nI (ps.length + 1)] 187)] 7 (by rw [mixed]; rfl) (by kernel_rfl) (by kernel_rfl) (by kernel_rfl) (fun _ _ _ h => h) ?_
      refine DL.take 0 rfl (by kernel_rfl) (by kernel_rfl) (by kernel_rfl) rfl rfl (QW.fieldAddr Tryz.runUnderlying187 rfl Tryz.sizeOf23 (by decide) rfl (by first | exact fo0 0 | exact foB _ 0)) (hsub1 (by repeat (first | exact List.mem_cons_self | exact List.mem_cons_of_mem _ (by assumption) | assumption | refine List.mem_cons_of_mem _ ?_ | refine List.mem_append_right _ ?_))) ?_
      refine DL.take 1 rfl (by kernel_rfl) (by kernel_rfl) (by kernel_rfl) rfl rfl (QW.load1 rfl Tryz.isAgg23 (by repeat (first | exact List.mem_cons_self | exact List.mem_cons_of_mem _ (by assumption) | assumption | refine List.mem_cons_of_mem _ ?_ | refine List.mem_append_right _ ?_)) rfl) (hsub1 (by repeat (first | exact List.mem_cons_self | exact List.mem_cons_of_mem _ (by assumption) | assumption | refine List.mem_cons_of_mem _ ?_ | refine List.mem_append_right _ ?_))) ?_
      refine DL.take 2 rfl (by kernel_rfl) (by kernel_rfl) (by kernel_rfl) rfl rfl (QW.move rfl) (hsub1 (by repeat (first | exact List.mem_cons_self | exact List.mem_cons_of_mem _ (by assumption) | assumption | refine List.mem_cons_of_mem _ ?_ | refine List.mem_append_right _ ?_))) ?_
      refine DL.take 3 rfl (by kernel_rfl) (by kernel_rfl) (by kernel_rfl) rfl rfl (QW.fieldAddr Tryz.runUnderlying187 rfl Tryz.sizeOf3 (by decide) rfl (by first | exact fo0 2 | exact foB _ 2)) (hsub1 (by repeat (first | exact List.mem_cons_self | exact List.mem_cons_of_mem _ (by assumption) | assumption | refine List.mem_cons_of_mem _ ?_ | refine List.mem_append_right _ ?_))) ?_
      refine DL.take 4 rfl (by kernel_rfl) (by kernel_rfl) (by kernel_rfl) rfl rfl (QW.load1 rfl Tryz.isAgg3 (by repeat (first | exact List.mem_cons_self | exact List.mem_cons_of_mem _ (by assumption) | assumption | refine List.mem_cons_of_mem _ ?_ | refine List.mem_append_right _ ?_)) rfl) (hsub1 (by repeat (first | exact List.mem_cons_self | exact List.mem_cons_of_mem _ (by assumption) | assumption | refine List.mem_cons_of_mem _ ?_ | refine List.mem_append_right _ ?_))) ?_
      refine DL.one 5 (by kernel_rfl) rfl rfl (OW.call Tryz.call173 (ext1 rfl) ((markByte_c _ _).mono ?_))
      rintro v S' ⟨rfl, rfl⟩
      refine ⟨fun _ => hsub1 (by repeat (first | exact List.mem_cons_self | exact List.mem_cons_of_mem _ (by assumption) | assumption | refine List.mem_cons_of_mem _ ?_ | refine List.mem_append_right _ ?_)), ?_⟩
      refine DL.take 6 rfl (by kernel_rfl) (by kernel_rfl) (by kernel_rfl) rfl rfl (QW.indexAddrS Tryz.runUnderlying23 Tryz.sizeOf5 rfl rfl (by omega) (Int.ofNat_lt.2 hk) (by first | exact ix01 _ | exact ixb1 _ _ | exact ix0m _ _)) (hsub1 (by repeat (first | exact List.mem_cons_self | exact List.mem_cons_of_mem _ (by assumption) | assumption | refine List.mem_cons_of_mem _ ?_ | refine List.mem_append_right _ ?_))) ?_
      refine DL.one 7 (by kernel_rfl) rfl rfl (OW.storeBL (u := u) (xs := fT (mkB ps.length) xs k) (ys := fT (mkB ps.length) xs (k + 1)) rfl rfl Tryz.sizeOf5 (by repeat (first | exact Upd.bl | apply Upd.tail | apply Upd.tailA)) (by rw [fT_len _ _ _ (Nat.le_of_lt hk)]; exact hk) (fT_set _ _ _ hk) ?_)
      refine ⟨fun h => absurd rfl h, ?_⟩
      refine DL.done (by kernel_rfl) (blockN (thenN ?_))
      refine CW.region (by kernel_rfl) ?_
      refine RL.q rfl rfl (QW.move rfl) ?_
      refine RL.q rfl rfl (QW.add rfl rfl (wI_add (a := _) (b := 1) (by omega))) ?_
      refine RL.q rfl rfl (QW.assign rfl) ?_
      refine RL.nil (thenN ?_)
      refine ⟨k + 1, (by omega), (by omega), ?_, ?_⟩
      · repeat (first | exact leE_nil | refine leE_cons rfl ?_)
      · exact List.Sublist.refl _
    · have hk : k = l.xs.length := by simp at hc1; omega
      subst hk
      rw [fT_all]
      refine CW.exit (thenX (thenX (blockX (blockN (thenN ?_)))))
      refine CW.region (by kernel_rfl) ?_
      refine RL.q rfl rfl (QW.move rfl) ?_
      refine RL.q rfl rfl (QW.add rfl rfl (wI_add (a := _) (b := 1) (by omega))) ?_
      refine RL.q rfl rfl (QW.assign rfl) ?_
      refine RL.nil (thenN ?_)
      refine ⟨ps ++ [l], ts2, (by simp), (by simp), ?_, ?_⟩
      · repeat (first | exact leE_nil | refine leE_cons (by first | rfl | (rw [show (ps ++ [l]).length = ps.length + 1 from List.length_append]; rfl)) ?_)
      · refine dropS (keepS rfl (keepS rfl ?_)); rw [fl_snoc, lh_append, lh_one, Nat.zero_add, List.append_assoc]; exact List.Sublist.refl _
  · obtain rfl : ts = [] := by simp at hc0; first | exact hc0 | exact List.eq_nil_of_length_eq_zero (by omega)
    refine CW.exit (thenX (thenX (blockX (retN ((bk, blk (nI (ps ++ []).length :: bufV (some og) (ps ++ []).length :: tl) 43) :: (og.b, blk (ents 0 (((ps ++ []).map (fun l : BL => (l.v, NILS)))) ++ og.rest) 187) :: (lh (fl 0 ps) ++ (lh [] ++ S))) (ResOk.zero Tryz.results68 ) (by repeat (first | exact List.Sublist.refl _ | (refine keepS ?_ ?_; with_reducible rfl) | (refine keepA ?_ ?_; with_reducible rfl) | (refine keepS ?_ ?_; rfl) | apply dropS | apply dropA)) ?_))))
    exact ⟨rfl, by simp [lh]⟩

end Go.Sl

/- Book.growByte over any number of lists. -/
set_option linter.unusedVariables false
set_option linter.unusedSimpArgs false
namespace Go.Sl
open Go.Proofs

theorem grow_stepL {l w w' : BL} {Y Z : HL} {r : List UInt8} (h : RdB Y l.v l.xs ∨ sameO l w) (hok : l.ok) (hwx : w.xs = l.xs ++ r) (hZ : (Z = [] ∧ sameO w w') ∨ Z = w.h) : RdB (Z ++ Y) l.v l.xs ∨ sameO l w' := by
  rcases h with h | h
  · exact .inl (h.mono fun p hp => List.mem_append_right _ hp)
  · rcases hZ with ⟨_, hZ⟩ | rfl
    · exact .inr (h.trans hZ)
    · exact .inl (h.rd hok hwx fun p hp => List.mem_append_left _ hp)
theorem grow_endL {l w : BL} {i : Nat} {Y G : HL} (hlo : l.ok) (hb : l.xs.length ≤ 1000000) (hwo : w.ok) (hwx : w.xs = List.replicate (l.xs.length + 40) (mkB i)) (h : RdB Y (l.fill i).v (l.fill i).xs ∨ sameO (l.fill i) w) :
    Gr (G ++ (w.h ++ Y)) i (l.v, w.v) := by
  obtain ⟨a, c, hv⟩ := BL.isSl hlo
  obtain ⟨d, e, hw⟩ := BL.isSl hwo
  have hwl : w.xs.length = l.xs.length + 40 := by rw [hwx, List.length_replicate]
  have hr : RdB (w.h ++ Y) (l.fill i).v (l.fill i).xs := by
    rcases h with h | h
    · exact h.mono fun p hp => List.mem_append_right _ hp
    · exact h.rd (r := List.replicate 40 (mkB i)) (BL.fill_ok hlo) (by rw [hwx]; exact (List.replicate_append_replicate).symm) fun p hp => List.mem_append_left _ hp
  rw [BL.fill_v] at hr
  refine ⟨l.xs.length, a, c, d, e, by rw [hv, hw, hwl], hb, hr.mono fun p hp => List.mem_append_right _ hp, ?_⟩
  have := BL.rd (S := G ++ (w.h ++ Y)) hwo fun p hp => List.mem_append_right _ (List.mem_append_left _ hp)
  rw [hwx] at this
  exact this


set_option maxRecDepth 100000 in
set_option maxHeartbeats 1000000 in
theorem growN_c (bk N : Nat) (og : Buf) (ls : List BL) (tl : List Value) (S : HL) (hN : ls.length = N) (hN2 : N ≤ 1000) (hok : ∀ l ∈ ls, l.ok ∧ l.xs.length ≤ 1000000) : CallS Tryz.prog 83 ⟨[ptr bk 0]⟩ ((bk, blk (nI N :: bufV (some og) N :: tl) 43) :: (og.b, blk (ents 0 ((ls.map (fun l : BL => (l.v, NILS)))) ++ og.rest) 187) :: (lh (fl 0 ls) ++ S)) fun v S' => ∃ qs G, qs.length = N ∧ AllGr G qs ∧ v = .tuple #[] ∧ S' = (bk, blk (nI N :: bufV (some og) N :: tl) 43) :: (og.b, blk (ents 0 (qs) ++ og.rest) 187) :: (G ++ S) := by
  refine CallS.enter Tryz.func83 rfl Tryz.ntmps83 (by simp) ?_
  refine CW.seq ?_
  refine CW.region (by kernel_rfl) ?_
  refine RL.q rfl rfl (QW.assign rfl) ?_
  refine RL.nil (thenN ?_)
  refine CW.block ?_
  refine CW.loopT3 (α := List (Value × Value)) (β := List BL) (γ := HL) [(0, _)] (by repeat (first | exact leE_nil | refine leE_cons rfl ?_)) (fun qs ts G => N = qs.length + ts.length ∧ AllGr G qs ∧ ∀ l ∈ ts, l.ok ∧ l.xs.length ≤ 1000000) (fun qs ts G r => (2, nI qs.length) :: r) (fun qs ts G => (bk, blk (nI N :: bufV (some og) N :: tl) 43) :: (og.b, blk (ents 0 (qs ++ ts.map (fun l : BL => (l.v, NILS))) ++ og.rest) 187) :: (G ++ (lh (fl qs.length ts) ++ S))) (fun qs ts G => ts.length) [] ls [] ⟨by simp [hN], AllGr.nil, hok⟩ (by repeat (first | exact leE_nil | refine leE_cons (by first | rfl | (rfl)) ?_)) (List.Sublist.refl _) ?_
  intro qs ts G ⟨hNq, hgr, hts⟩
  refine CW.seq ?_
  refine CW.seq ?_
  refine CW.region (by kernel_rfl) ?_
  refine RL.q rfl rfl (QW.move rfl) ?_
  refine RL.q rfl rfl (QW.move rfl) ?_
  refine RL.q rfl rfl (QW.nilCheck rfl) ?_
  refine RL.q rfl rfl (QW.fieldAddr Tryz.runUnderlying43 rfl Tryz.sizeOf27 (by decide) rfl (by first | exact fo0 1 | exact foB _ 1)) ?_
  refine RL.q rfl rfl (QW.load1 rfl Tryz.isAgg27 (by repeat (first | exact List.mem_cons_self | exact List.mem_cons_of_mem _ (by assumption) | assumption | refine List.mem_cons_of_mem _ ?_ | refine List.mem_append_right _ ?_)) rfl) ?_
  refine RL.q rfl rfl (QW.len_s Tryz.runUnderlying27 rfl) ?_
  refine RL.q rfl rfl (QW.lss rfl rfl (dI_lt _ _)) ?_
  refine RL.nil (thenN ?_)
  refine CW.cond rfl (fun hc0 => ?_) (fun hc0 => ?_)
  · have hc : qs.length < N := by simpa using hc0
    obtain ⟨l, ts2, rfl⟩ := list_cons (l := ts) (by omega)
    obtain ⟨hlo, hlb⟩ := hts l List.mem_cons_self
    refine CW.skip (thenN ?_)
    refine CW.seq ?_
    refine CW.block ?_
    refine CW.seq ?_
    refine CW.region (by kernel_rfl) ?_
    refine RL.q rfl rfl (QW.move rfl) ?_
    refine RL.q rfl rfl (QW.nilCheck rfl) ?_
    refine RL.q rfl rfl (QW.fieldAddr Tryz.runUnderlying43 rfl Tryz.sizeOf27 (by decide) rfl (by first | exact fo0 1 | exact foB _ 1)) ?_
    refine RL.q rfl rfl (QW.load1 rfl Tryz.isAgg27 (by repeat (first | exact List.mem_cons_self | exact List.mem_cons_of_mem _ (by assumption) | assumption | refine List.mem_cons_of_mem _ ?_ | refine List.mem_append_right _ ?_)) rfl) ?_
    refine RL.q rfl rfl (QW.move rfl) ?_
    refine RL.q rfl rfl (QW.indexAddrS Tryz.runUnderlying27 Tryz.sizeOf187 rfl rfl (by omega) (by omega) (by first | exact ix01 _ | exact ixb1 _ _ | exact ix0m _ _)) ?_
    refine RL.q rfl rfl (QW.loadN (r := [l.v, NILS, nI (qs.length + 1)]) rfl Tryz.isAgg187 Tryz.sizeOf187 (by repeat (first | exact List.mem_cons_self | exact List.mem_cons_of_mem _ (by assumption) | assumption | refine List.mem_cons_of_mem _ ?_ | refine List.mem_append_right _ ?_)) ents_le ents_get) ?_
    refine RL.cons rfl (OW.alloc zv187 rfl ?_)
    intro b3
    refine RL.cons rfl (OW.storeN rfl rfl Tryz.sizeOf187 (by repeat (first | exact List.mem_cons_self | exact List.mem_cons_of_mem _ (by assumption) | assumption | refine List.mem_cons_of_mem _ ?_ | refine List.mem_append_right _ ?_)) (by first | (simp only [List.length_map, List.length_replicate, List.length_cons, List.length_nil, List.length_set, Nat.mul_one] <;> omega) | (simp [*] <;> omega)) (by simp only [List.all_cons, BL.oneB, List.all_nil, Bool.and_true, Bool.true_and]; rfl) (by first | (simp only [List.length_map, List.length_replicate, List.length_cons, List.length_nil, List.length_set, Nat.mul_one] <;> omega) | (simp [*] <;> omega)) (by first | (refine wr_all ?_; simp only [List.length_map, List.length_replicate, List.length_cons, List.length_nil, List.length_set, Nat.mul_one] <;> omega) | (refine wr_all ?_; simp [*]; done) | exact m_wr _ _ _ | with_reducible rfl) (by repeat (first | exact Upd.head | apply Upd.tail | apply Upd.tailA)) ?_)
    refine RL.nil (thenN ?_)
    refine CW.seq ?_
    refine CW.region (by kernel_rfl) ?_
    refine RL.q rfl rfl (QW.fieldAddr Tryz.runUnderlying187 rfl Tryz.sizeOf23 (by decide) rfl (by first | exact fo0 0 | exact foB _ 0)) ?_
    refine RL.q rfl rfl (QW.load1 rfl Tryz.isAgg23 (by repeat (first | exact List.mem_cons_self | exact List.mem_cons_of_mem _ (by assumption) | assumption | refine List.mem_cons_of_mem _ ?_ | refine List.mem_append_right _ ?_)) rfl) ?_
    refine RL.q rfl rfl (QW.assign rfl) ?_
    refine RL.nil (thenN ?_)
    refine CW.seq ?_
    refine CW.seq ?_
    refine CW.region (by kernel_rfl) ?_
    refine RL.q rfl rfl (QW.assign rfl) ?_
    refine RL.nil (thenN ?_)
    refine CW.block ?_
    refine CW.loopT3 (α := Nat) (β := BL) (γ := HL) [(0, _), (2, _), (3, _), (6, _), (7, _), (8, _), (9, _), (10, _), (11, _), (12, _), (15, _), (16, _), (17, _), (18, _), (19, _), (20, _), (21, _), (22, _), (23, _)] (by repeat (first | exact leE_nil | refine leE_cons rfl ?_)) (fun k w Y => k ≤ 40 ∧ w.ok ∧ w.xs = List.replicate (l.xs.length + k) (mkB qs.length) ∧ (RdB Y (l.fill qs.length).v (l.fill qs.length).xs ∨ sameO (l.fill qs.length) w)) (fun k w Y r => (5, nI k) :: (4, w.v) :: r) (fun k w Y => (b3, blk [l.v, NILS, nI (qs.length + 1)] 187) :: (bk, blk (nI N :: bufV (some og) N :: tl) 43) :: (og.b, blk (ents 0 (qs ++ (l :: ts2).map (fun l : BL => (l.v, NILS))) ++ og.rest) 187) :: (G ++ (w.h ++ (Y ++ (lh (fl (qs.length + 1) ts2) ++ S))))) (fun k w Y => 40 - k) 0 (l.fill qs.length) [] ⟨by omega, BL.fill_ok hlo, rfl, .inr (sameO.refl _)⟩ (by repeat (first | exact leE_nil | refine leE_cons (by first | rfl | (exact congrArg some (BL.fill_v _ _).symm)) ?_)) (by simp only [fl, lh_cons, List.append_assoc, List.nil_append]; exact List.Sublist.refl _) ?_
    intro k w Y hIk
    obtain ⟨hk40, hwo, hwx, hY⟩ := hIk
    refine CW.seq ?_
    refine CW.seq ?_
    refine CW.region (by kernel_rfl) ?_
    refine RL.q rfl rfl (QW.move rfl) ?_
    refine RL.q rfl rfl (QW.lss rfl rfl (dI_lt _ 40)) ?_
    refine RL.nil (thenN ?_)
    refine CW.cond rfl (fun hc1 => ?_) (fun hc1 => ?_)
    · have hk : k < 40 := by simpa using hc1
      refine CW.skip (thenN ?_)
      refine CW.seq ?_
      refine CW.block ?_
      refine CW.region (by kernel_rfl) ?_
      refine RL.q rfl rfl (QW.move rfl) ?_
      refine RL.q rfl rfl (QW.fieldAddr Tryz.runUnderlying187 rfl Tryz.sizeOf3 (by decide) rfl (by first | exact fo0 2 | exact foB _ 2)) ?_
      refine RL.q rfl rfl (QW.load1 rfl Tryz.isAgg3 (by repeat (first | exact List.mem_cons_self | exact List.mem_cons_of_mem _ (by assumption) | assumption | refine List.mem_cons_of_mem _ ?_ | refine List.mem_append_right _ ?_)) rfl) ?_
      refine RL.cons rfl (OW.call Tryz.call173 (ext1 rfl) ((markByte_c _ _).mono ?_))
      rintro v S' ⟨rfl, rfl⟩
      refine RL.cons rfl (OW.buildSlice1 Tryz.runUnderlying23 Tryz.sizeOf5 zv5 rfl rfl rfl ?_)
      intro b32
      refine RL.cons rfl (OW.appendL (ch := mkB qs.length) Tryz.runUnderlying23 Tryz.runUnderlying23 (.inl ⟨_, rfl⟩) Tryz.typeInfo5 Tryz.sizeOf5 zv5 rfl rfl (by repeat (first | exact SegF.here | apply SegF.there | apply SegF.thereA)) hwo rfl (Src.rdb (bs := [mkB qs.length]) (RdB.one (by repeat (first | exact List.mem_cons_self | exact List.mem_cons_of_mem _ (by assumption) | assumption | refine List.mem_cons_of_mem _ ?_ | refine List.mem_append_right _ ?_)))) (by rw [hwx, List.length_replicate]; omega) ?_)
      intro w9 Z9 hwo9 hwx9 hZ9
      refine RL.q rfl rfl (QW.assign rfl) ?_
      refine RL.nil (blockN (thenN ?_))
      refine CW.region (by kernel_rfl) ?_
      refine RL.q rfl rfl (QW.move rfl) ?_
      refine RL.q rfl rfl (QW.add rfl rfl (wI_add (a := _) (b := 1) (by omega))) ?_
      refine RL.q rfl rfl (QW.assign rfl) ?_
      refine RL.nil (thenN ?_)
      refine ⟨k + 1, w9, Z9 ++ Y, (⟨by omega, hwo9, by rw [hwx9, hwx, ← Nat.add_assoc, List.replicate_succ'], grow_stepL hY (BL.fill_ok hlo) (hwx.trans (List.replicate_append_replicate).symm) hZ9⟩), (by omega), ?_, ?_⟩
      · repeat (first | exact leE_nil | refine leE_cons rfl ?_)
      · refine dropS (keepS rfl (keepS rfl (keepS rfl ?_))); simp only [List.append_assoc]; exact List.Sublist.refl _
    · have hk : k = 40 := by simp at hc1; omega
      subst hk
      refine CW.exit (thenX (thenX (blockX (thenN ?_))))
      refine CW.region (by kernel_rfl) ?_
      refine RL.q rfl rfl (QW.move rfl) ?_
      refine RL.q rfl rfl (QW.nilCheck rfl) ?_
      refine RL.q rfl rfl (QW.fieldAddr Tryz.runUnderlying43 rfl Tryz.sizeOf27 (by decide) rfl (by first | exact fo0 1 | exact foB _ 1)) ?_
      refine RL.q rfl rfl (QW.load1 rfl Tryz.isAgg27 (by repeat (first | exact List.mem_cons_self | exact List.mem_cons_of_mem _ (by assumption) | assumption | refine List.mem_cons_of_mem _ ?_ | refine List.mem_append_right _ ?_)) rfl) ?_
      refine RL.q rfl rfl (QW.move rfl) ?_
      refine RL.q rfl rfl (QW.move rfl) ?_
      refine RL.q rfl rfl (QW.indexAddrS Tryz.runUnderlying27 Tryz.sizeOf187 rfl rfl (by omega) (by omega) (by first | exact ix01 _ | exact ixb1 _ _ | exact ix0m _ _)) ?_
      refine RL.q rfl rfl (QW.fieldAddr Tryz.runUnderlying187 rfl Tryz.sizeOf23 (by decide) rfl (by first | exact fo0 1 | exact foB _ 1)) ?_
      refine RL.cons rfl (OW.store1 rfl rfl Tryz.sizeOf23 (BL.oneB _) (by repeat (first | exact List.mem_cons_self | exact List.mem_cons_of_mem _ (by assumption) | assumption | refine List.mem_cons_of_mem _ ?_ | refine List.mem_append_right _ ?_)) (Nat.lt_of_lt_of_le (by omega) ents_le) ents_set (by repeat (first | exact Upd.head | apply Upd.tail | apply Upd.tailA)) ?_)
      refine RL.nil (blockN (thenN ?_))
      refine CW.region (by kernel_rfl) ?_
      refine RL.q rfl rfl (QW.move rfl) ?_
      refine RL.q rfl rfl (QW.add rfl rfl (wI_add (a := _) (b := 1) (by omega))) ?_
      refine RL.q rfl rfl (QW.assign rfl) ?_
      refine RL.nil (thenN ?_)
      refine ⟨qs ++ [(l.v, w.v)], ts2, G ++ (w.h ++ Y), (⟨by simp only [List.length_append, List.length_cons, List.length_nil] at *; omega, (hgr.mono fun p hp => List.mem_append_left _ hp).snoc (grow_endL hlo hlb hwo hwx hY), fun l hl => hts l (List.mem_cons_of_mem _ hl)⟩), (by simp), ?_, ?_⟩
      · repeat (first | exact leE_nil | refine leE_cons (by first | rfl | (rw [show (qs ++ [(l.v, w.v)]).length = qs.length + 1 from List.length_append]; rfl)) ?_)
      · refine dropS (keepS rfl ?_); simp only [List.append_assoc, List.singleton_append, List.length_append, List.length_singleton]; exact List.Sublist.refl _
  · obtain rfl : ts = [] := List.eq_nil_of_length_eq_zero (by simp at hc0; omega)
    simp only [List.map_nil, List.append_nil, fl, lh_nil, List.nil_append]
    refine CW.exit (thenX (thenX (blockX (retN ((bk, blk (nI N :: bufV (some og) N :: tl) 43) :: (og.b, blk (ents 0 (qs) ++ og.rest) 187) :: (G ++ S)) (ResOk.zero Tryz.results83 ) (by repeat (first | exact List.Sublist.refl _ | (refine keepS ?_ ?_; with_reducible rfl) | (refine keepA ?_ ?_; with_reducible rfl) | (refine keepS ?_ ?_; rfl) | apply dropS | apply dropA)) ?_))))
    exact ⟨qs, G, by simpa using hNq.symm, hgr, rfl, rfl⟩

end Go.Sl

/- Book.lookByte over any number of lists. -/
set_option linter.unusedVariables false
set_option linter.unusedSimpArgs false
namespace Go.Sl
open Go.Proofs

theorem RdB.rep {S : HL} {a : Option Addr} {n c : Nat} {x : UInt8} (h : RdB S (.slice a n c) (List.replicate n x)) (h0 : 0 < n) :
    ∃ b off l T fr, a = some ⟨b, off, none⟩ ∧ (b, Obj.cells ⟨l⟩ T fr) ∈ S ∧ ∀ k, k < n → l[off + k]? = some (u8 x) := by
  rcases h with ⟨h1, _⟩ | ⟨_, b, off, c', l, T, fr, h1, h2, h3⟩
  · exact absurd (congrArg List.length h1) (by simp; omega)
  · refine ⟨b, off, l, T, fr, ?_, h2, fun k hk => ?_⟩
    · rw [List.length_replicate] at h1
      injection h1
    · have := h3 k (by simpa using hk)
      rw [this]
      simp [List.getD_eq_getElem?_getD, List.getElem?_replicate, hk]


set_option maxRecDepth 100000 in
set_option maxHeartbeats 1000000 in
theorem lookN_c (bk gb cap N : Nat) (tl rest : List Value) (qs : List (Value × Value)) (S : HL) (hm1 : (bk, blk (nI N :: sl gb 0 N cap :: tl) 43) ∈ S) (hm2 : (gb, blk (ents 0 qs ++ rest) 187) ∈ S) (hq : AllGr S qs) (hN : qs.length = N) (hN3 : N ≤ 1000) : CallS Tryz.prog 98 ⟨[ptr bk 0]⟩ S fun v S' => v = .bool true ∧ S = S' := by
  refine CallS.enter Tryz.func98 rfl Tryz.ntmps98 (by simp) ?_
  refine CW.seq ?_
  refine CW.region (by kernel_rfl) ?_
  refine RL.q rfl rfl (QW.assign rfl) ?_
  refine RL.nil (thenN ?_)
  refine CW.seq ?_
  refine CW.seq ?_
  refine CW.region (by kernel_rfl) ?_
  refine RL.q rfl rfl (QW.assign rfl) ?_
  refine RL.nil (thenN ?_)
  refine CW.block ?_
  refine CW.loopT (ι := Nat) [(0, _)] (by repeat (first | exact leE_nil | refine leE_cons rfl ?_)) (fun i => i ≤ N) (fun i r => (3, nI i) :: r) (fun i => S) (fun i => N - i) 0 (Nat.zero_le _) (by repeat (first | exact leE_nil | refine leE_cons (by first | rfl | (rfl)) ?_)) (by repeat (first | exact List.Sublist.refl _ | (refine keepS ?_ ?_; with_reducible rfl) | (refine keepA ?_ ?_; with_reducible rfl) | (refine keepS ?_ ?_; rfl) | apply dropS | apply dropA)) ?_
  intro i hI
  refine CW.seq ?_
  refine CW.seq ?_
  refine CW.region (by kernel_rfl) ?_
  refine RL.q rfl rfl (QW.move rfl) ?_
  refine RL.q rfl rfl (QW.move rfl) ?_
  refine RL.q rfl rfl (QW.nilCheck rfl) ?_
  refine RL.q rfl rfl (QW.fieldAddr Tryz.runUnderlying43 rfl Tryz.sizeOf27 (by decide) rfl (by first | exact fo0 1 | exact foB _ 1)) ?_
  refine RL.q rfl rfl (QW.load1 rfl Tryz.isAgg27 hm1 rfl) ?_
  refine RL.q rfl rfl (QW.len_s Tryz.runUnderlying27 rfl) ?_
  refine RL.q rfl rfl (QW.lss rfl rfl (dI_lt _ _)) ?_
  refine RL.nil (thenN ?_)
  refine CW.cond rfl (fun hc0 => ?_) (fun hc0 => ?_)
  · have hi : i < qs.length := by simp at hc0; omega
    obtain ⟨qa, qp, qb, hqs, rfl, hqi⟩ := list_cut hi
    obtain ⟨nn, a1, c1, d1, e1, rfl, hnb, hv1, hw1⟩ := hq _ _ hqi
    have hN2 : (qa ++ (Value.slice a1 nn c1, Value.slice d1 (nn + 40) e1) :: qb).length = N := by rw [← hqs]; exact hN
    rw [hqs] at hm2
    refine CW.skip (thenN ?_)
    refine CW.seq ?_
    refine CW.block ?_
    refine CW.seq ?_
    refine CW.region (by kernel_rfl) ?_
    refine RL.q rfl rfl (QW.move rfl) ?_
    refine RL.q rfl rfl (QW.nilCheck rfl) ?_
    refine RL.q rfl rfl (QW.fieldAddr Tryz.runUnderlying43 rfl Tryz.sizeOf27 (by decide) rfl (by first | exact fo0 1 | exact foB _ 1)) ?_
    refine RL.q rfl rfl (QW.load1 rfl Tryz.isAgg27 hm1 rfl) ?_
    refine RL.q rfl rfl (QW.move rfl) ?_
    refine RL.q rfl rfl (QW.indexAddrS Tryz.runUnderlying27 Tryz.sizeOf187 rfl rfl (by omega) (by simp at hN2 ⊢; omega) (by first | exact ix01 _ | exact ixb1 _ _ | exact ix0m _ _)) ?_
    refine RL.q rfl rfl (QW.loadN (r := [.slice a1 nn c1, .slice d1 (nn + 40) e1, nI (qa.length + 1)]) rfl Tryz.isAgg187 Tryz.sizeOf187 hm2 ents_le ents_get) ?_
    refine RL.cons rfl (OW.alloc zv187 rfl ?_)
    intro b4
    refine RL.cons rfl (OW.storeN rfl rfl Tryz.sizeOf187 (by repeat (first | exact List.mem_cons_self | exact List.mem_cons_of_mem _ (by assumption) | assumption | refine List.mem_cons_of_mem _ ?_ | refine List.mem_append_right _ ?_)) (by first | (simp only [List.length_map, List.length_replicate, List.length_cons, List.length_nil, List.length_set, Nat.mul_one] <;> omega) | (simp [*] <;> omega)) (by first | exact m_all (fun _ => rfl) _ | rfl | (simp; done) | (simp only [List.all_cons, List.all_nil, oneB_buf, Bool.true_and, Bool.and_true]; rfl) | (simp [oneB]; done)) (by first | (simp only [List.length_map, List.length_replicate, List.length_cons, List.length_nil, List.length_set, Nat.mul_one] <;> omega) | (simp [*] <;> omega)) (by first | (refine wr_all ?_; simp only [List.length_map, List.length_replicate, List.length_cons, List.length_nil, List.length_set, Nat.mul_one] <;> omega) | (refine wr_all ?_; simp [*]; done) | exact m_wr _ _ _ | with_reducible rfl) (by repeat (first | exact Upd.head | apply Upd.tail | apply Upd.tailA)) ?_)
    refine RL.nil (thenN ?_)
    refine CW.seq ?_
    refine CW.seq ?_
    refine CW.region (by kernel_rfl) ?_
    refine RL.q rfl rfl (QW.fieldAddr Tryz.runUnderlying187 rfl Tryz.sizeOf23 (by decide) rfl (by first | exact fo0 1 | exact foB _ 1)) ?_
    refine RL.q rfl rfl (QW.load1 rfl Tryz.isAgg23 (by repeat (first | exact List.mem_cons_self | exact List.mem_cons_of_mem _ (by assumption) | assumption | refine List.mem_cons_of_mem _ ?_ | refine List.mem_append_right _ ?_)) rfl) ?_
    refine RL.q rfl rfl (QW.len_s Tryz.runUnderlying23 rfl) ?_
    refine RL.q rfl rfl (QW.fieldAddr Tryz.runUnderlying187 rfl Tryz.sizeOf23 (by decide) rfl (by first | exact fo0 0 | exact foB _ 0)) ?_
    refine RL.q rfl rfl (QW.load1 rfl Tryz.isAgg23 (by repeat (first | exact List.mem_cons_self | exact List.mem_cons_of_mem _ (by assumption) | assumption | refine List.mem_cons_of_mem _ ?_ | refine List.mem_append_right _ ?_)) rfl) ?_
    refine RL.q rfl rfl (QW.len_s Tryz.runUnderlying23 rfl) ?_
    refine RL.q rfl rfl (QW.add rfl rfl (wI_add (a := _) (b := 40) (by omega))) ?_
    refine RL.q rfl rfl (QW.neq (t := false) rfl rfl (by simp)) ?_
    refine RL.nil (thenN ?_)
    refine CW.cond_false rfl ?_
    refine CW.skip (thenN ?_)
    refine CW.seq ?_
    refine CW.region (by kernel_rfl) ?_
    refine RL.q rfl rfl (QW.assign rfl) ?_
    refine RL.nil (thenN ?_)
    refine CW.block ?_
    refine CW.loopT (ι := Nat) [(0, _), (3, _), (4, _), (6, _), (7, _), (8, _), (9, _), (10, _), (11, _), (12, _), (15, _), (16, _), (17, _), (18, _), (19, _), (20, _), (21, _), (22, _), (23, _), (24, _), (25, _), (26, _), (27, _), (28, _), (29, _)] (by repeat (first | exact leE_nil | refine leE_cons rfl ?_)) (fun k => k ≤ nn + 40) (fun k r => (5, nI k) :: r) (fun k => (b4, blk [.slice a1 nn c1, .slice d1 (nn + 40) e1, nI (qa.length + 1)] 187) :: S) (fun k => nn + 40 - k) 0 (by omega) (by repeat (first | exact leE_nil | refine leE_cons (by first | rfl | (rfl)) ?_)) (by repeat (first | exact List.Sublist.refl _ | (refine keepS ?_ ?_; with_reducible rfl) | (refine keepA ?_ ?_; with_reducible rfl) | (refine keepS ?_ ?_; rfl) | apply dropS | apply dropA)) ?_
    intro k hIk
    refine CW.seq ?_
    refine CW.seq ?_
    refine CW.region (by kernel_rfl) ?_
    refine RL.q rfl rfl (QW.move rfl) ?_
    refine RL.q rfl rfl (QW.fieldAddr Tryz.runUnderlying187 rfl Tryz.sizeOf23 (by decide) rfl (by first | exact fo0 1 | exact foB _ 1)) ?_
    refine RL.q rfl rfl (QW.load1 rfl Tryz.isAgg23 (by repeat (first | exact List.mem_cons_self | exact List.mem_cons_of_mem _ (by assumption) | assumption | refine List.mem_cons_of_mem _ ?_ | refine List.mem_append_right _ ?_)) rfl) ?_
    refine RL.q rfl rfl (QW.len_s Tryz.runUnderlying23 rfl) ?_
    refine RL.q rfl rfl (QW.lss rfl rfl (dI_lt _ _)) ?_
    refine RL.nil (thenN ?_)
    refine CW.cond rfl (fun hc2 => ?_) (fun hc2 => ?_)
    · have hk : k < nn + 40 := by simp at hc2; omega
      obtain ⟨gb8, off8, l8, T8, fr8, rfl, hm8, hget8⟩ := RdB.rep hw1 (by omega)
      refine CW.skip (thenN ?_)
      refine CW.seq ?_
      refine CW.block ?_
      refine CW.seq ?_
      refine CW.drawnS 27 (by rw [mixed]; rfl) (by kernel_rfl) (by kernel_rfl) (by kernel_rfl) (fun _ _ _ h => h) ?_
      refine DL.take 0 rfl (by kernel_rfl) (by kernel_rfl) (by kernel_rfl) rfl rfl (QW.fieldAddr Tryz.runUnderlying187 rfl Tryz.sizeOf23 (by decide) rfl (by first | exact fo0 1 | exact foB _ 1)) (by intro p hp; repeat (first | exact hp | refine List.mem_cons_of_mem _ ?_ | refine List.mem_append_right _ ?_)) ?_
      refine DL.take 1 rfl (by kernel_rfl) (by kernel_rfl) (by kernel_rfl) rfl rfl (QW.load1 rfl Tryz.isAgg23 (by repeat (first | exact List.mem_cons_self | exact List.mem_cons_of_mem _ (by assumption) | assumption | refine List.mem_cons_of_mem _ ?_ | refine List.mem_append_right _ ?_)) rfl) (by intro p hp; repeat (first | exact hp | refine List.mem_cons_of_mem _ ?_ | refine List.mem_append_right _ ?_)) ?_
      refine DL.take 2 rfl (by kernel_rfl) (by kernel_rfl) (by kernel_rfl) rfl rfl (QW.move rfl) (by intro p hp; repeat (first | exact hp | refine List.mem_cons_of_mem _ ?_ | refine List.mem_append_right _ ?_)) ?_
      refine DL.take 3 rfl (by kernel_rfl) (by kernel_rfl) (by kernel_rfl) rfl rfl (QW.indexAddrS Tryz.runUnderlying23 Tryz.sizeOf5 rfl rfl (by omega) (by omega) (by first | exact ix01 _ | exact ixb1 _ _ | exact ix0m _ _)) (by intro p hp; repeat (first | exact hp | refine List.mem_cons_of_mem _ ?_ | refine List.mem_append_right _ ?_)) ?_
      refine DL.take 4 rfl (by kernel_rfl) (by kernel_rfl) (by kernel_rfl) rfl rfl (QW.load1 rfl Tryz.isAgg5 (List.mem_cons_of_mem _ hm8) (by refine hget8 _ ?_; omega)) (by intro p hp; repeat (first | exact hp | refine List.mem_cons_of_mem _ ?_ | refine List.mem_append_right _ ?_)) ?_
      refine DL.take 5 rfl (by kernel_rfl) (by kernel_rfl) (by kernel_rfl) rfl rfl (QW.fieldAddr Tryz.runUnderlying187 rfl Tryz.sizeOf3 (by decide) rfl (by first | exact fo0 2 | exact foB _ 2)) (by intro p hp; repeat (first | exact hp | refine List.mem_cons_of_mem _ ?_ | refine List.mem_append_right _ ?_)) ?_
      refine DL.take 6 rfl (by kernel_rfl) (by kernel_rfl) (by kernel_rfl) rfl rfl (QW.load1 rfl Tryz.isAgg3 (by repeat (first | exact List.mem_cons_self | exact List.mem_cons_of_mem _ (by assumption) | assumption | refine List.mem_cons_of_mem _ ?_ | refine List.mem_append_right _ ?_)) rfl) (by intro p hp; repeat (first | exact hp | refine List.mem_cons_of_mem _ ?_ | refine List.mem_append_right _ ?_)) ?_
      refine DL.one 7 (by kernel_rfl) rfl rfl (OW.call Tryz.call188 (ext2 rfl rfl) ((isByte_c _ _ _ rfl).mono ?_))
      rintro v S' ⟨rfl, rfl⟩
      refine ⟨fun _ p hp => by repeat (first | exact hp | refine List.mem_cons_of_mem _ ?_ | refine List.mem_append_right _ ?_), ?_⟩
      refine DL.take 8 rfl (by kernel_rfl) (by kernel_rfl) (by kernel_rfl) rfl rfl (QW.not rfl) (by intro p hp; repeat (first | exact hp | refine List.mem_cons_of_mem _ ?_ | refine List.mem_append_right _ ?_)) ?_
      refine DL.take 9 rfl (by kernel_rfl) (by kernel_rfl) (by kernel_rfl) rfl rfl (QW.move rfl) (by intro p hp; repeat (first | exact hp | refine List.mem_cons_of_mem _ ?_ | refine List.mem_append_right _ ?_)) ?_
      first | (refine DL.pass 10 rfl (by kernel_rfl) (by kernel_rfl) (by kernel_rfl) rfl rfl (by intro p hp; repeat (first | exact hp | refine List.mem_cons_of_mem _ ?_ | refine List.mem_append_right _ ?_)) ?_) | (refine DL.take 10 rfl (by kernel_rfl) (by kernel_rfl) (by kernel_rfl) rfl rfl (QW.move rfl) (by intro p hp; repeat (first | exact hp | refine List.mem_cons_of_mem _ ?_ | refine List.mem_append_right _ ?_)) ?_)
      first | (refine DL.pass 11 rfl (by kernel_rfl) (by kernel_rfl) (by kernel_rfl) rfl rfl (by intro p hp; repeat (first | exact hp | refine List.mem_cons_of_mem _ ?_ | refine List.mem_append_right _ ?_)) ?_) | (refine DL.take 11 rfl (by kernel_rfl) (by kernel_rfl) (by kernel_rfl) rfl rfl (QW.fieldAddr Tryz.runUnderlying187 rfl Tryz.sizeOf23 (by decide) rfl (by first | exact fo0 0 | exact foB _ 0)) (by intro p hp; repeat (first | exact hp | refine List.mem_cons_of_mem _ ?_ | refine List.mem_append_right _ ?_)) ?_)
      first | (refine DL.pass 12 rfl (by kernel_rfl) (by kernel_rfl) (by kernel_rfl) rfl rfl (by intro p hp; repeat (first | exact hp | refine List.mem_cons_of_mem _ ?_ | refine List.mem_append_right _ ?_)) ?_) | (refine DL.take 12 rfl (by kernel_rfl) (by kernel_rfl) (by kernel_rfl) rfl rfl (QW.load1 rfl Tryz.isAgg23 (by repeat (first | exact List.mem_cons_self | exact List.mem_cons_of_mem _ (by assumption) | assumption | refine List.mem_cons_of_mem _ ?_ | refine List.mem_append_right _ ?_)) rfl) (by intro p hp; repeat (first | exact hp | refine List.mem_cons_of_mem _ ?_ | refine List.mem_append_right _ ?_)) ?_)
      first | (refine DL.pass 13 rfl (by kernel_rfl) (by kernel_rfl) (by kernel_rfl) rfl rfl (by intro p hp; repeat (first | exact hp | refine List.mem_cons_of_mem _ ?_ | refine List.mem_append_right _ ?_)) ?_) | (refine DL.take 13 rfl (by kernel_rfl) (by kernel_rfl) (by kernel_rfl) rfl rfl (QW.len_s Tryz.runUnderlying23 rfl) (by intro p hp; repeat (first | exact hp | refine List.mem_cons_of_mem _ ?_ | refine List.mem_append_right _ ?_)) ?_)
      first | (refine DL.pass 14 rfl (by kernel_rfl) (by kernel_rfl) (by kernel_rfl) rfl rfl (by intro p hp; repeat (first | exact hp | refine List.mem_cons_of_mem _ ?_ | refine List.mem_append_right _ ?_)) ?_) | (refine DL.take 14 rfl (by kernel_rfl) (by kernel_rfl) (by kernel_rfl) rfl rfl (QW.lss rfl rfl (dI_lt _ _)) (by intro p hp; repeat (first | exact hp | refine List.mem_cons_of_mem _ ?_ | refine List.mem_append_right _ ?_)) ?_)
      cases hs10_15 : decide (k < nn)
      · first | (refine DL.pass 15 rfl (by kernel_rfl) (by kernel_rfl) (by kernel_rfl) rfl rfl (by intro p hp; repeat (first | exact hp | refine List.mem_cons_of_mem _ ?_ | refine List.mem_append_right _ ?_)) ?_) | (refine DL.take 15 rfl (by kernel_rfl) (by kernel_rfl) (by kernel_rfl) rfl rfl (QW.move rfl) (by intro p hp; repeat (first | exact hp | refine List.mem_cons_of_mem _ ?_ | refine List.mem_append_right _ ?_)) ?_)
        first | (refine DL.pass 16 rfl (by kernel_rfl) (by kernel_rfl) (by kernel_rfl) rfl rfl (by intro p hp; repeat (first | exact hp | refine List.mem_cons_of_mem _ ?_ | refine List.mem_append_right _ ?_)) ?_) | (refine DL.take 16 rfl (by kernel_rfl) (by kernel_rfl) (by kernel_rfl) rfl rfl (QW.fieldAddr Tryz.runUnderlying187 rfl Tryz.sizeOf23 (by decide) rfl (by first | exact fo0 0 | exact foB _ 0)) (by intro p hp; repeat (first | exact hp | refine List.mem_cons_of_mem _ ?_ | refine List.mem_append_right _ ?_)) ?_)
        first | (refine DL.pass 17 rfl (by kernel_rfl) (by kernel_rfl) (by kernel_rfl) rfl rfl (by intro p hp; repeat (first | exact hp | refine List.mem_cons_of_mem _ ?_ | refine List.mem_append_right _ ?_)) ?_) | (refine DL.take 17 rfl (by kernel_rfl) (by kernel_rfl) (by kernel_rfl) rfl rfl (QW.load1 rfl Tryz.isAgg23 (by repeat (first | exact List.mem_cons_self | exact List.mem_cons_of_mem _ (by assumption) | assumption | refine List.mem_cons_of_mem _ ?_ | refine List.mem_append_right _ ?_)) rfl) (by intro p hp; repeat (first | exact hp | refine List.mem_cons_of_mem _ ?_ | refine List.mem_append_right _ ?_)) ?_)
        first | (refine DL.pass 18 rfl (by kernel_rfl) (by kernel_rfl) (by kernel_rfl) rfl rfl (by intro p hp; repeat (first | exact hp | refine List.mem_cons_of_mem _ ?_ | refine List.mem_append_right _ ?_)) ?_) | (refine DL.take 18 rfl (by kernel_rfl) (by kernel_rfl) (by kernel_rfl) rfl rfl (QW.move rfl) (by intro p hp; repeat (first | exact hp | refine List.mem_cons_of_mem _ ?_ | refine List.mem_append_right _ ?_)) ?_)
        first | (refine DL.pass 19 rfl (by kernel_rfl) (by kernel_rfl) (by kernel_rfl) rfl rfl (by intro p hp; repeat (first | exact hp | refine List.mem_cons_of_mem _ ?_ | refine List.mem_append_right _ ?_)) ?_) | (refine DL.take 19 rfl (by kernel_rfl) (by kernel_rfl) (by kernel_rfl) rfl rfl (QW.indexAddrS Tryz.runUnderlying23 Tryz.sizeOf5 rfl rfl (by omega) (by omega) (by first | exact ix01 _ | exact ixb1 _ _ | exact ix0m _ _)) (by intro p hp; repeat (first | exact hp | refine List.mem_cons_of_mem _ ?_ | refine List.mem_append_right _ ?_)) ?_)
        first | (refine DL.pass 20 rfl (by kernel_rfl) (by kernel_rfl) (by kernel_rfl) rfl rfl (by intro p hp; repeat (first | exact hp | refine List.mem_cons_of_mem _ ?_ | refine List.mem_append_right _ ?_)) ?_) | (refine DL.take 20 rfl (by kernel_rfl) (by kernel_rfl) (by kernel_rfl) rfl rfl (QW.load1 rfl Tryz.isAgg5 (List.mem_cons_of_mem _ hm9) (by refine hget9 _ ?_; omega)) (by intro p hp; repeat (first | exact hp | refine List.mem_cons_of_mem _ ?_ | refine List.mem_append_right _ ?_)) ?_)
        first | (refine DL.pass 21 rfl (by kernel_rfl) (by kernel_rfl) (by kernel_rfl) rfl rfl (by intro p hp; repeat (first | exact hp | refine List.mem_cons_of_mem _ ?_ | refine List.mem_append_right _ ?_)) ?_) | (refine DL.take 21 rfl (by kernel_rfl) (by kernel_rfl) (by kernel_rfl) rfl rfl (QW.fieldAddr Tryz.runUnderlying187 rfl Tryz.sizeOf3 (by decide) rfl (by first | exact fo0 2 | exact foB _ 2)) (by intro p hp; repeat (first | exact hp | refine List.mem_cons_of_mem _ ?_ | refine List.mem_append_right _ ?_)) ?_)
        first | (refine DL.pass 22 rfl (by kernel_rfl) (by kernel_rfl) (by kernel_rfl) rfl rfl (by intro p hp; repeat (first | exact hp | refine List.mem_cons_of_mem _ ?_ | refine List.mem_append_right _ ?_)) ?_) | (refine DL.take 22 rfl (by kernel_rfl) (by kernel_rfl) (by kernel_rfl) rfl rfl (QW.load1 rfl Tryz.isAgg3 (by repeat (first | exact List.mem_cons_self | exact List.mem_cons_of_mem _ (by assumption) | assumption | refine List.mem_cons_of_mem _ ?_ | refine List.mem_append_right _ ?_)) rfl) (by intro p hp; repeat (first | exact hp | refine List.mem_cons_of_mem _ ?_ | refine List.mem_append_right _ ?_)) ?_)
        refine DL.onePass 23 (by kernel_rfl) rfl rfl (by intro p hp; repeat (first | exact hp | refine List.mem_cons_of_mem _ ?_ | refine List.mem_append_right _ ?_)) ?_
        first | (refine DL.pass 24 rfl (by kernel_rfl) (by kernel_rfl) (by kernel_rfl) rfl rfl (by intro p hp; repeat (first | exact hp | refine List.mem_cons_of_mem _ ?_ | refine List.mem_append_right _ ?_)) ?_) | (refine DL.take 24 rfl (by kernel_rfl) (by kernel_rfl) (by kernel_rfl) rfl rfl (QW.not rfl) (by intro p hp; repeat (first | exact hp | refine List.mem_cons_of_mem _ ?_ | refine List.mem_append_right _ ?_)) ?_)
        first | (refine DL.pass 25 rfl (by kernel_rfl) (by kernel_rfl) (by kernel_rfl) rfl rfl (by intro p hp; repeat (first | exact hp | refine List.mem_cons_of_mem _ ?_ | refine List.mem_append_right _ ?_)) ?_) | (refine DL.take 25 rfl (by kernel_rfl) (by kernel_rfl) (by kernel_rfl) rfl rfl ((by first | exact QW.pick_t rfl rfl | exact QW.pick_f rfl rfl)) (by intro p hp; repeat (first | exact hp | refine List.mem_cons_of_mem _ ?_ | refine List.mem_append_right _ ?_)) ?_)
        refine DL.take 26 rfl (by kernel_rfl) (by kernel_rfl) (by kernel_rfl) rfl rfl ((by first | exact QW.pick_t rfl rfl | exact QW.pick_f rfl rfl)) (by intro p hp; repeat (first | exact hp | refine List.mem_cons_of_mem _ ?_ | refine List.mem_append_right _ ?_)) ?_
        refine DL.done (by kernel_rfl) (thenN ?_)
        refine CW.cond_false rfl ?_
        refine CW.skip (blockN (thenN ?_))
        refine CW.region (by kernel_rfl) ?_
        refine RL.q rfl rfl (QW.move rfl) ?_
        refine RL.q rfl rfl (QW.add rfl rfl (wI_add (a := _) (b := 1) (by omega))) ?_
        refine RL.q rfl rfl (QW.assign rfl) ?_
        refine RL.nil (thenN ?_)
        refine ⟨k + 1, (by omega), (by omega), ?_, ?_⟩
        · repeat (first | exact leE_nil | refine leE_cons rfl ?_)
        · exact List.Sublist.refl _
      · have hkx : k < nn := by simpa using hs10_15
        obtain ⟨gb9, off9, l9, T9, fr9, rfl, hm9, hget9⟩ := RdB.rep hv1 (by omega)
        first | (refine DL.pass 15 rfl (by kernel_rfl) (by kernel_rfl) (by kernel_rfl) rfl rfl (by intro p hp; repeat (first | exact hp | refine List.mem_cons_of_mem _ ?_ | refine List.mem_append_right _ ?_)) ?_) | (refine DL.take 15 rfl (by kernel_rfl) (by kernel_rfl) (by kernel_rfl) rfl rfl (QW.move rfl) (by intro p hp; repeat (first | exact hp | refine List.mem_cons_of_mem _ ?_ | refine List.mem_append_right _ ?_)) ?_)
        first | (refine DL.pass 16 rfl (by kernel_rfl) (by kernel_rfl) (by kernel_rfl) rfl rfl (by intro p hp; repeat (first | exact hp | refine List.mem_cons_of_mem _ ?_ | refine List.mem_append_right _ ?_)) ?_) | (refine DL.take 16 rfl (by kernel_rfl) (by kernel_rfl) (by kernel_rfl) rfl rfl (QW.fieldAddr Tryz.runUnderlying187 rfl Tryz.sizeOf23 (by decide) rfl (by first | exact fo0 0 | exact foB _ 0)) (by intro p hp; repeat (first | exact hp | refine List.mem_cons_of_mem _ ?_ | refine List.mem_append_right _ ?_)) ?_)
        first | (refine DL.pass 17 rfl (by kernel_rfl) (by kernel_rfl) (by kernel_rfl) rfl rfl (by intro p hp; repeat (first | exact hp | refine List.mem_cons_of_mem _ ?_ | refine List.mem_append_right _ ?_)) ?_) | (refine DL.take 17 rfl (by kernel_rfl) (by kernel_rfl) (by kernel_rfl) rfl rfl (QW.load1 rfl Tryz.isAgg23 (by repeat (first | exact List.mem_cons_self | exact List.mem_cons_of_mem _ (by assumption) | assumption | refine List.mem_cons_of_mem _ ?_ | refine List.mem_append_right _ ?_)) rfl) (by intro p hp; repeat (first | exact hp | refine List.mem_cons_of_mem _ ?_ | refine List.mem_append_right _ ?_)) ?_)
        first | (refine DL.pass 18 rfl (by kernel_rfl) (by kernel_rfl) (by kernel_rfl) rfl rfl (by intro p hp; repeat (first | exact hp | refine List.mem_cons_of_mem _ ?_ | refine List.mem_append_right _ ?_)) ?_) | (refine DL.take 18 rfl (by kernel_rfl) (by kernel_rfl) (by kernel_rfl) rfl rfl (QW.move rfl) (by intro p hp; repeat (first | exact hp | refine List.mem_cons_of_mem _ ?_ | refine List.mem_append_right _ ?_)) ?_)
        first | (refine DL.pass 19 rfl (by kernel_rfl) (by kernel_rfl) (by kernel_rfl) rfl rfl (by intro p hp; repeat (first | exact hp | refine List.mem_cons_of_mem _ ?_ | refine List.mem_append_right _ ?_)) ?_) | (refine DL.take 19 rfl (by kernel_rfl) (by kernel_rfl) (by kernel_rfl) rfl rfl (QW.indexAddrS Tryz.runUnderlying23 Tryz.sizeOf5 rfl rfl (by omega) (by omega) (by first | exact ix01 _ | exact ixb1 _ _ | exact ix0m _ _)) (by intro p hp; repeat (first | exact hp | refine List.mem_cons_of_mem _ ?_ | refine List.mem_append_right _ ?_)) ?_)
        first | (refine DL.pass 20 rfl (by kernel_rfl) (by kernel_rfl) (by kernel_rfl) rfl rfl (by intro p hp; repeat (first | exact hp | refine List.mem_cons_of_mem _ ?_ | refine List.mem_append_right _ ?_)) ?_) | (refine DL.take 20 rfl (by kernel_rfl) (by kernel_rfl) (by kernel_rfl) rfl rfl (QW.load1 rfl Tryz.isAgg5 (List.mem_cons_of_mem _ hm9) (by refine hget9 _ ?_; omega)) (by intro p hp; repeat (first | exact hp | refine List.mem_cons_of_mem _ ?_ | refine List.mem_append_right _ ?_)) ?_)
        first | (refine DL.pass 21 rfl (by kernel_rfl) (by kernel_rfl) (by kernel_rfl) rfl rfl (by intro p hp; repeat (first | exact hp | refine List.mem_cons_of_mem _ ?_ | refine List.mem_append_right _ ?_)) ?_) | (refine DL.take 21 rfl (by kernel_rfl) (by kernel_rfl) (by kernel_rfl) rfl rfl (QW.fieldAddr Tryz.runUnderlying187 rfl Tryz.sizeOf3 (by decide) rfl (by first | exact fo0 2 | exact foB _ 2)) (by intro p hp; repeat (first | exact hp | refine List.mem_cons_of_mem _ ?_ | refine List.mem_append_right _ ?_)) ?_)
        first | (refine DL.pass 22 rfl (by kernel_rfl) (by kernel_rfl) (by kernel_rfl) rfl rfl (by intro p hp; repeat (first | exact hp | refine List.mem_cons_of_mem _ ?_ | refine List.mem_append_right _ ?_)) ?_) | (refine DL.take 22 rfl (by kernel_rfl) (by kernel_rfl) (by kernel_rfl) rfl rfl (QW.load1 rfl Tryz.isAgg3 (by repeat (first | exact List.mem_cons_self | exact List.mem_cons_of_mem _ (by assumption) | assumption | refine List.mem_cons_of_mem _ ?_ | refine List.mem_append_right _ ?_)) rfl) (by intro p hp; repeat (first | exact hp | refine List.mem_cons_of_mem _ ?_ | refine List.mem_append_right _ ?_)) ?_)
        refine DL.one 23 (by kernel_rfl) rfl rfl (OW.call Tryz.call188 (ext2 rfl rfl) ((isByte_c _ _ _ rfl).mono ?_))
        rintro v S' ⟨rfl, rfl⟩
        refine ⟨fun _ p hp => by repeat (first | exact hp | refine List.mem_cons_of_mem _ ?_ | refine List.mem_append_right _ ?_), ?_⟩
        first | (refine DL.pass 24 rfl (by kernel_rfl) (by kernel_rfl) (by kernel_rfl) rfl rfl (by intro p hp; repeat (first | exact hp | refine List.mem_cons_of_mem _ ?_ | refine List.mem_append_right _ ?_)) ?_) | (refine DL.take 24 rfl (by kernel_rfl) (by kernel_rfl) (by kernel_rfl) rfl rfl (QW.not rfl) (by intro p hp; repeat (first | exact hp | refine List.mem_cons_of_mem _ ?_ | refine List.mem_append_right _ ?_)) ?_)
        first | (refine DL.pass 25 rfl (by kernel_rfl) (by kernel_rfl) (by kernel_rfl) rfl rfl (by intro p hp; repeat (first | exact hp | refine List.mem_cons_of_mem _ ?_ | refine List.mem_append_right _ ?_)) ?_) | (refine DL.take 25 rfl (by kernel_rfl) (by kernel_rfl) (by kernel_rfl) rfl rfl ((by first | exact QW.pick_t rfl rfl | exact QW.pick_f rfl rfl)) (by intro p hp; repeat (first | exact hp | refine List.mem_cons_of_mem _ ?_ | refine List.mem_append_right _ ?_)) ?_)
        refine DL.take 26 rfl (by kernel_rfl) (by kernel_rfl) (by kernel_rfl) rfl rfl ((by first | exact QW.pick_t rfl rfl | exact QW.pick_f rfl rfl)) (by intro p hp; repeat (first | exact hp | refine List.mem_cons_of_mem _ ?_ | refine List.mem_append_right _ ?_)) ?_
        refine DL.done (by kernel_rfl) (thenN ?_)
        refine CW.cond_false rfl ?_
        refine CW.skip (blockN (thenN ?_))
        refine CW.region (by kernel_rfl) ?_
        refine RL.q rfl rfl (QW.move rfl) ?_
        refine RL.q rfl rfl (QW.add rfl rfl (wI_add (a := _) (b := 1) (by omega))) ?_
        refine RL.q rfl rfl (QW.assign rfl) ?_
        refine RL.nil (thenN ?_)
        refine ⟨k + 1, (by omega), (by omega), ?_, ?_⟩
        · repeat (first | exact leE_nil | refine leE_cons rfl ?_)
        · exact List.Sublist.refl _
    · have hk : k = nn + 40 := by simp at hc2; omega
      subst hk
      refine CW.exit (thenX (thenX (blockX (blockN (thenN ?_)))))
      refine CW.region (by kernel_rfl) ?_
      refine RL.q rfl rfl (QW.move rfl) ?_
      refine RL.q rfl rfl (QW.add rfl rfl (wI_add (a := _) (b := 1) (by omega))) ?_
      refine RL.q rfl rfl (QW.assign rfl) ?_
      refine RL.nil (thenN ?_)
      refine ⟨qa.length + 1, (by omega), (by omega), ?_, ?_⟩
      · repeat (first | exact leE_nil | refine leE_cons rfl ?_)
      · exact dropS (List.Sublist.refl _)
  · have hi : i = N := by simp at hc0; omega
    subst hi
    refine CW.exit (thenX (thenX (blockX (thenN ?_))))
    refine CW.seq ?_
    refine CW.region (by kernel_rfl) ?_
    refine RL.q rfl rfl (QW.assign rfl) ?_
    refine RL.nil (thenN ?_)
    refine CW.ret (retR (S) (ResOk.one Tryz.results98 (ResV.tmp rfl)) (by repeat (first | exact List.Sublist.refl _ | (refine keepS ?_ ?_; with_reducible rfl) | (refine keepA ?_ ?_; with_reducible rfl) | (refine keepS ?_ ?_; rfl) | apply dropS | apply dropA)) ?_)
    exact ⟨rfl, rfl⟩

end Go.Sl
