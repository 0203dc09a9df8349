/- A part of a proof: the walk. -/
import Derived.Test.YtfljnclghjikdaaGreatDoorProg
import Derived.Test.YtfljnclghjikdaaGreatDoorK8
import Derived.Test.YtfljnclghjikdaaGreatDoorK9
import Derived.Test.YtfljnclghjikdaaGreatDoorQ4
set_option linter.unusedVariables false
set_option linter.unusedSimpArgs false
namespace Go.Sl
open Go.Proofs

theorem RdB.bufn {S : HL} {o : Option Buf} {ys : List UInt8} {n : Nat} {T : TypeId} (hn : ys.length = n) (hb : bufOk o n 1) (hm : ∀ p ∈ bufH o (ys.map u8) T, p ∈ S) : RdB S (bufV o n) ys := by
  subst hn
  refine RdB.buf (xs := []) (T := T) (bufOk.nil (k := 0) hb rfl) ?_
  rwa [List.append_nil]
theorem twin_get (bs : List UInt8) (k : Nat) (hk : k < bs.length) : (bs.map u8 ++ [u8 77])[0 + k]? = some (u8 (bs.getD k 0)) := by
  rw [Nat.zero_add, List.getElem?_append_left (by simpa using hk)]
  exact m_get 0 hk
theorem twin_77 (bs : List UInt8) : (bs.map u8 ++ [u8 77])[0 + bs.length]? = some (u8 77) := by
  rw [Nat.zero_add, List.getElem?_append_right (by simp)]
  simp
theorem RdB.twin {S : HL} {bx : Nat} {bs : List UInt8} (hm : (bx, blk (bs.map u8 ++ [u8 77]) 5) ∈ S) : RdB S (sl bx 0 bs.length (bs.length + 1)) bs := by
  by_cases h0 : bs = []
  · subst h0; exact .inl ⟨rfl, _, _, rfl⟩
  · exact .inr ⟨h0, bx, 0, _, _, _, _, rfl, hm, fun k hk => twin_get bs k hk⟩
theorem Stream_u (key first bs : List UInt8) (a : Option Addr) (c : Nat) (S : HL) (hk : key.length = 16) (hf : first.length = 16) (hb : bs.length ≤ 1000000000) (hv : RdB S (.slice a bs.length c) bs) :
    CallS Tryz.prog 10 ⟨[.agg ⟨key.map u8⟩, .agg ⟨first.map u8⟩, .slice a bs.length c]⟩ S fun v S' => ∃ o, bufOk o bs.length 1 ∧ v = bufV o bs.length ∧ S' = bufH o ((streamF key first bs).map u8) 5 ++ S := by
  by_cases h0 : bs = []
  · subst h0
    refine (Stream_nil key first a c S).mono ?_
    rintro v S' ⟨rfl, rfl⟩
    exact ⟨none, rfl, rfl, rfl⟩
  · obtain ⟨gb, off, l, TT, fr, rfl, hm, hget⟩ := RdB.at hv (List.length_pos_iff.2 h0)
    refine (Stream_c key first bs gb off c l TT fr S hk hf h0 hb hm hget).mono ?_
    rintro v S' ⟨b, rfl, rfl⟩
    exact ⟨some ⟨b, bs.length, []⟩, ⟨by simp, Nat.le_refl _⟩, rfl, by simp [bufH]⟩
theorem rStream_u (key first bs : List UInt8) (a : Option Addr) (c : Nat) (S : HL) (hk : key.length = 16) (hf : first.length = 16) (hb : bs.length ≤ 1000000000) (hv : RdB S (.slice a bs.length c) bs) :
    CallS Tryz.prog 13 ⟨[.agg ⟨key.map u8⟩, .agg ⟨first.map u8⟩, .slice a bs.length c]⟩ S fun v S' => ∃ o, bufOk o bs.length 1 ∧ v = bufV o bs.length ∧ S' = bufH o ((streamF key first bs).map u8) 5 ++ S := by
  by_cases h0 : bs = []
  · subst h0
    refine (rStream_nil key first a c S).mono ?_
    rintro v S' ⟨rfl, rfl⟩
    exact ⟨none, rfl, rfl, rfl⟩
  · obtain ⟨gb, off, l, TT, fr, rfl, hm, hget⟩ := RdB.at hv (List.length_pos_iff.2 h0)
    refine (rStream_c key first bs gb off c l TT fr S hk hf h0 hb hm hget).mono ?_
    rintro v S' ⟨o, ho, rfl, rfl⟩
    rw [stream_eq key first bs hk hf] at ho ⊢
    rw [streamF_len] at ho ⊢
    exact ⟨o, ho, rfl, rfl⟩
theorem Same_v (bs : List UInt8) (v1 v2 : Value) (S : HL) (hv : RdB S v1 bs) (hv2 : RdB S v2 bs) (hb : bs.length ≤ 1000000000) : CallS Tryz.prog 12 ⟨[v1, v2]⟩ S fun v S' => v = .bool true ∧ S = S' := by
  obtain ⟨a, c, rfl⟩ := hv.isSl
  obtain ⟨a2, c2, rfl⟩ := hv2.isSl
  exact Same_c bs a a2 c c2 S hv hv2 hb
theorem BytesB_c (bk m k n : Nat) (oy ob : Option Buf) (es tl : List Value) (S : HL) (hoy : bufOk oy n 1) (hbo : bufOk ob k 3) (hes : es.length = k * 3) (hm : m ≤ 1000) (hk : k ≤ 1000) (htl : tl.length = 14) :
    CallS Tryz.prog 11 ⟨[ptr bk 0, bufV oy n]⟩ ((bk, blk (nI m :: bufV ob k :: tl) 43) :: (bufH ob es 187 ++ S)) fun v S' =>
      ∃ o, bufOk o (k + 1) 3 ∧ v = .tuple #[] ∧ S' = (bk, blk (nI (m + 1) :: bufV o (k + 1) :: tl) 43) :: (bufH o (es ++ [bufV oy n, .slice none 0 0, nI (m + 1)]) 187 ++ S) := by
  cases oy with
  | none => exact Bytes_c bk m k 0 0 none ob es tl S hbo hes hm hk htl
  | some u => exact Bytes_c bk m k n u.cap (some ⟨u.b, 0, none⟩) ob es tl S hbo hes hm hk htl
theorem Apart2_c (bk bx : Nat) (og : Buf) (oy : Option Buf) (bs ys : List UInt8) (S : HL) (hl : ys.length = bs.length) (hoy : bufOk oy bs.length 1) (hb : bs.length ≤ 1000000) :
    CallS Tryz.prog 15 ⟨[ptr bk 0]⟩ ((bk, blk (nI 2 :: bufV (some og) 2 :: List.replicate 14 (.slice none 0 0)) 43) :: (bufH (some og) ([sl bx 0 bs.length (bs.length + 1), .slice none 0 0, nI 1] ++ [bufV oy bs.length, .slice none 0 0, nI 2]) 187 ++
      (bufH oy (ys.map u8) 5 ++ ((bx, blk (bs.map u8 ++ [u8 77]) 5) :: S)))) fun v S' => ∃ Z, v = .bool true ∧ S' = Z ++ S := by
  have h := Apart_c bk og (some ⟨bx, bs.length + 1, [u8 77]⟩) oy bs ys S ⟨by simp, by simp⟩ (by rw [hl]; exact hoy) hb (by omega)
  rw [hl] at h
  refine CallS.perm h (List.Perm.cons _ (List.Perm.cons _ ?_))
  show List.Perm ((bx, blk (bs.map u8 ++ [u8 77]) 5) :: (bufH oy (ys.map u8) 5 ++ S)) (bufH oy (ys.map u8) 5 ++ (bx, blk (bs.map u8 ++ [u8 77]) 5) :: S)
  exact List.perm_middle.symm

theorem zv43 : ZV Tryz.prog 43 (.agg ⟨([nI 0] ++ [.slice none 0 0] ++ [.slice none 0 0] ++ [.slice none 0 0] ++ [.slice none 0 0] ++ [.slice none 0 0] ++ [.slice none 0 0] ++ [.slice none 0 0] ++ [.slice none 0 0] ++ [.slice none 0 0] ++ [.slice none 0 0] ++ [.slice none 0 0] ++ [.slice none 0 0] ++ [.slice none 0 0] ++ [.slice none 0 0] ++ [.slice none 0 0])⟩) := fun _ => by kernel_rfl
set_option maxRecDepth 100000 in
theorem law_c (key first bs : List UInt8) (a : Option Addr) (c : Nat) (S : HL) (hk : key.length = 16) (hf : first.length = 16) (hv : RdB S (.slice a bs.length c) bs) : CallS Tryz.prog 3 ⟨[.agg ⟨key.map u8⟩, .agg ⟨first.map u8⟩, .slice a bs.length c]⟩ S fun v S' => v = .bool true ∧ S = S' := by
  refine CallS.enter Tryz.func3 rfl Tryz.ntmps3 (by simp) ?_
  refine CW.seq ?_
  refine CW.region (by kernel_rfl) ?_
  refine RL.cons rfl (OW.boxN rfl ?_)
  intro b3
  refine RL.cons rfl (OW.boxN rfl ?_)
  intro b4
  refine RL.q rfl rfl (QW.assign rfl) ?_
  refine RL.nil (thenN ?_)
  refine CW.seq ?_
  refine CW.seq ?_
  refine CW.region (by kernel_rfl) ?_
  refine RL.q rfl rfl (QW.move rfl) ?_
  refine RL.q rfl rfl (QW.len_s Tryz.runUnderlying23 rfl) ?_
  refine RL.q rfl rfl (QW.gtr rfl rfl (dI_lt 2000 _)) ?_
  refine RL.nil (thenN ?_)
  refine CW.cond rfl (fun hc0 => ?_) (fun hc0 => ?_)
  · refine CW.seq ?_
    refine CW.region (by kernel_rfl) ?_
    refine RL.cons rfl (OW.call Tryz.call8 (fun _ _ => ext_nil) ((lives_c _).mono ?_))
    rintro v S' ⟨rfl, rfl⟩
    refine RL.q rfl rfl (QW.assign rfl) ?_
    refine RL.nil (thenN ?_)
    refine CW.ret (thenR (retR (S) (ResOk.one Tryz.results3 (ResV.tmp rfl)) (by repeat (first | exact List.Sublist.refl _ | (refine keepS ?_ ?_; with_reducible rfl) | (refine keepA ?_ ?_; with_reducible rfl) | (refine keepS ?_ ?_; rfl) | apply dropS | apply dropA)) ?_))
    exact ⟨rfl, rfl⟩
  · have hn : bs.length ≤ 2000 := by simpa using hc0
    refine CW.skip (thenN ?_)
    refine CW.seq ?_
    refine CW.region (by kernel_rfl) ?_
    refine RL.q rfl rfl (QW.move rfl) ?_
    refine RL.cons rfl (OW.call Tryz.call9 (ext1 rfl) ((Twin_c bs a c _ (hv.mono fun p hp => List.mem_cons_of_mem _ (List.mem_cons_of_mem _ (hp))) (by omega)).mono ?_))
    rintro v S' ⟨bx, rfl, rfl⟩
    refine RL.q rfl rfl (QW.assign rfl) ?_
    refine RL.nil (thenN ?_)
    refine CW.seq ?_
    refine CW.region (by kernel_rfl) ?_
    refine RL.q rfl rfl (QW.loadN rfl Tryz.isAgg22 Tryz.sizeOf22 (by repeat (first | exact List.mem_cons_self | exact List.mem_cons_of_mem _ (by assumption) | assumption | refine List.mem_cons_of_mem _ ?_ | refine List.mem_append_right _ ?_)) (by first | (simp only [List.length_map, List.length_replicate, List.length_cons, List.length_nil, List.length_set, Nat.mul_one] <;> omega) | (simp [*] <;> omega)) (by first | (refine m_all_of _ _ ?_; omega) | (refine m_all_of _ _ ?_; simp [*]; done) | exact m_cut _ _ _ | with_reducible rfl)) ?_
    refine RL.q rfl rfl (QW.loadN rfl Tryz.isAgg22 Tryz.sizeOf22 (by repeat (first | exact List.mem_cons_self | exact List.mem_cons_of_mem _ (by assumption) | assumption | refine List.mem_cons_of_mem _ ?_ | refine List.mem_append_right _ ?_)) (by first | (simp only [List.length_map, List.length_replicate, List.length_cons, List.length_nil, List.length_set, Nat.mul_one] <;> omega) | (simp [*] <;> omega)) (by first | (refine m_all_of _ _ ?_; omega) | (refine m_all_of _ _ ?_; simp [*]; done) | exact m_cut _ _ _ | with_reducible rfl)) ?_
    refine RL.q rfl rfl (QW.move rfl) ?_
    refine RL.cons rfl (OW.call Tryz.call10 (ext3 rfl rfl rfl) ((Stream_u key first bs _ _ _ hk hf (by omega) (RdB.twin List.mem_cons_self)).mono ?_))
    rintro v S' ⟨oy, hoy, rfl, rfl⟩
    refine RL.q rfl rfl (QW.assign rfl) ?_
    refine RL.nil (thenN ?_)
    refine CW.seq ?_
    refine CW.region (by kernel_rfl) ?_
    refine RL.cons rfl (OW.alloc zv43 rfl ?_)
    intro b9
    refine RL.nil (thenN ?_)
    refine CW.seq ?_
    refine CW.region (by kernel_rfl) ?_
    refine RL.q rfl rfl (QW.move rfl) ?_
    refine RL.cons rfl (OW.call Tryz.call11 (ext2 rfl rfl) ((Bytes_c b9 0 0 bs.length (bs.length + 1) (some ⟨bx, 0, none⟩) none [] (List.replicate 14 (.slice none 0 0)) (bufH oy ((streamF key first bs).map u8) 5 ++ ((bx, blk (bs.map u8 ++ [u8 77]) 5) :: (b4, blk (first.map u8) 22) :: (b3, blk (key.map u8) 22) :: S)) rfl rfl (by omega) (by omega) rfl).mono ?_))
    rintro v S' ⟨o1, ho1, rfl, rfl⟩
    refine RL.nil (thenN ?_)
    refine CW.seq ?_
    refine CW.region (by kernel_rfl) ?_
    refine RL.q rfl rfl (QW.move rfl) ?_
    refine RL.cons rfl (OW.call Tryz.call11 (ext2 rfl rfl) ((BytesB_c b9 1 1 bs.length oy o1 [sl bx 0 bs.length (bs.length + 1), .slice none 0 0, nI 1] (List.replicate 14 (.slice none 0 0)) (bufH oy ((streamF key first bs).map u8) 5 ++ ((bx, blk (bs.map u8 ++ [u8 77]) 5) :: (b4, blk (first.map u8) 22) :: (b3, blk (key.map u8) 22) :: S)) hoy ho1 rfl (by omega) (by omega) rfl).mono ?_))
    rintro v S' ⟨o2, ho2, rfl, rfl⟩
    obtain ⟨og, rfl⟩ := ho2.some (by omega)
    refine RL.nil (thenN ?_)
    refine CW.seq ?_
    refine CW.region (by kernel_rfl) ?_
    refine RL.q rfl rfl (QW.move rfl) ?_
    refine RL.q rfl rfl (QW.loadN rfl Tryz.isAgg22 Tryz.sizeOf22 (by repeat (first | exact List.mem_cons_self | exact List.mem_cons_of_mem _ (by assumption) | assumption | refine List.mem_cons_of_mem _ ?_ | refine List.mem_append_right _ ?_)) (by first | (simp only [List.length_map, List.length_replicate, List.length_cons, List.length_nil, List.length_set, Nat.mul_one] <;> omega) | (simp [*] <;> omega)) (by first | (refine m_all_of _ _ ?_; omega) | (refine m_all_of _ _ ?_; simp [*]; done) | exact m_cut _ _ _ | with_reducible rfl)) ?_
    refine RL.q rfl rfl (QW.loadN rfl Tryz.isAgg22 Tryz.sizeOf22 (by repeat (first | exact List.mem_cons_self | exact List.mem_cons_of_mem _ (by assumption) | assumption | refine List.mem_cons_of_mem _ ?_ | refine List.mem_append_right _ ?_)) (by first | (simp only [List.length_map, List.length_replicate, List.length_cons, List.length_nil, List.length_set, Nat.mul_one] <;> omega) | (simp [*] <;> omega)) (by first | (refine m_all_of _ _ ?_; omega) | (refine m_all_of _ _ ?_; simp [*]; done) | exact m_cut _ _ _ | with_reducible rfl)) ?_
    refine RL.q rfl rfl (QW.move rfl) ?_
    refine RL.cons rfl (OW.call Tryz.call13 (ext3 rfl rfl rfl) ((rStream_u key first bs a c _ hk hf (by omega) (hv.mono fun p hp => List.mem_cons_of_mem _ (List.mem_append_right _ (List.mem_append_right _ (List.mem_cons_of_mem _ (List.mem_cons_of_mem _ (List.mem_cons_of_mem _ (hp)))))))).mono ?_))
    rintro v S' ⟨oz, hoz, rfl, rfl⟩
    refine RL.cons rfl (OW.call Tryz.call12 (ext2 rfl rfl) ((Same_v (streamF key first bs) _ _ _ (RdB.bufn (streamF_len _ _ _) hoy (fun p hp => List.mem_append_right _ (List.mem_cons_of_mem _ (List.mem_append_right _ (List.mem_append_left _ hp))))) (RdB.bufn (streamF_len _ _ _) hoz (fun p hp => List.mem_append_left _ hp)) (by rw [streamF_len]; omega)).mono ?_))
    rintro v S' ⟨rfl, rfl⟩
    refine RL.q rfl rfl (QW.move rfl) ?_
    first | (refine RL.guard_no rfl rfl rfl rfl rfl ?_) | (refine RL.guard_yes rfl rfl rfl rfl (OW.q rfl (QW.move rfl) ?_))
    first | (refine RL.guard_no rfl rfl rfl rfl rfl ?_) | (refine RL.guard_yes rfl rfl rfl rfl (OW.q rfl (QW.move rfl) ?_))
    refine RL.guard_yes rfl rfl rfl rfl (OW.call Tryz.call14 (ext2 rfl rfl) ((Left_c bs bx 0 (bs.length + 1) (bs.map u8 ++ [u8 77]) 5 (0, 0) a c _ (by omega) (by repeat (first | exact List.mem_cons_self | exact List.mem_cons_of_mem _ (by assumption) | assumption | refine List.mem_cons_of_mem _ ?_ | refine List.mem_append_right _ ?_)) (fun k hk => twin_get bs k hk) (twin_77 bs) (hv.mono fun p hp => List.mem_append_right _ (List.mem_cons_of_mem _ (List.mem_append_right _ (List.mem_append_right _ (List.mem_cons_of_mem _ (List.mem_cons_of_mem _ (List.mem_cons_of_mem _ (hp)))))))) (by omega)).mono ?_))
    rintro v S' ⟨rfl, rfl⟩
    refine RL.q rfl rfl ((by first | exact QW.pick_t rfl rfl | exact QW.pick_f rfl rfl)) ?_
    refine RL.q rfl rfl (QW.move rfl) ?_
    refine RL.guard_yes rfl rfl rfl rfl (OW.call Tryz.call15 (ext1 rfl) (((Apart2_c b9 bx og oy bs (streamF key first bs) ((b4, blk (first.map u8) 22) :: (b3, blk (key.map u8) 22) :: S) (streamF_len _ _ _) hoy (by omega)).weak (dropA (List.Sublist.refl _))).mono ?_))
    rintro v S' ⟨Z, rfl, rfl⟩
    refine RL.q rfl rfl ((by first | exact QW.pick_t rfl rfl | exact QW.pick_f rfl rfl)) ?_
    refine RL.q rfl rfl (QW.move rfl) ?_
    refine RL.guard_yes rfl rfl rfl rfl (OW.call Tryz.call8 (fun _ _ => ext_nil) ((lives_c _).mono ?_))
    rintro v S' ⟨rfl, rfl⟩
    refine RL.q rfl rfl ((by first | exact QW.pick_t rfl rfl | exact QW.pick_f rfl rfl)) ?_
    refine RL.q rfl rfl (QW.assign rfl) ?_
    refine RL.nil (thenN ?_)
    refine CW.ret (retR (S) (ResOk.one Tryz.results3 (ResV.tmp rfl)) (by repeat (first | exact List.Sublist.refl _ | (refine keepS ?_ ?_; with_reducible rfl) | (refine keepA ?_ ?_; with_reducible rfl) | (refine keepS ?_ ?_; rfl) | apply dropS | apply dropA)) ?_)
    exact ⟨rfl, rfl⟩

end Go.Sl
