/- A part of a proof: KB, X4, X5, X6, K11, X7, X8a. -/
import Derived.Test.YtfljnclghjikdaaGreatDoorProg
import Derived.Test.YtfljnclghjikdaaGreatDoorK2
import Derived.Test.YtfljnclghjikdaaGreatDoorB4
import Derived.Test.YtfljnclghjikdaaGreatDoorEngX
import Derived.Test.YtfljnclghjikdaaGreatDoorEngL
import Derived.Test.YtfljnclghjikdaaGreatDoorRows
import Derived.WalkKit
import Derived.ProofKit
import Derived.OpenShut
import Derived.ChangeOld
import Derived.Below
import Derived.Carry
import Derived.LaidMore
import Derived.LaidLaws
import Derived.Stop.Joined
set_option linter.unusedVariables false
set_option linter.unusedSimpArgs false
namespace Go.Sl
open Go.Proofs

theorem RdB.bufn {S : HL} {o : Option Buf} {ys : List UInt8} {n : Nat} {T : TypeId} (hn : ys.length = n) (hb : bufOk o n 1) (hm : ∀ p ∈ bufH o (ys.map u8) T, p ∈ S) : RdB S (bufV o n) ys := by
  subst hn
  refine RdB.buf (xs := []) (T := T) (bufOk.nil (k := 0) hb rfl) ?_
  rwa [List.append_nil]
theorem twin_get (bs : List UInt8) (k : Nat) (hk : k < bs.length) : (bs.map u8 ++ [u8 77])[0 + k]? = some (u8 (bs.getD k 0)) := by
  rw [Nat.zero_add, List.getElem?_append_left (by simpa using hk)]
  exact m_get 0 hk
theorem twin_77 (bs : List UInt8) : (bs.map u8 ++ [u8 77])[0 + bs.length]? = some (u8 77) := by
  rw [Nat.zero_add, List.getElem?_append_right (by simp)]
  simp
theorem RdB.twin {S : HL} {bx : Nat} {bs : List UInt8} (hm : (bx, blk (bs.map u8 ++ [u8 77]) 5) ∈ S) : RdB S (sl bx 0 bs.length (bs.length + 1)) bs := by
  by_cases h0 : bs = []
  · subst h0; exact .inl ⟨rfl, _, _, rfl⟩
  · exact .inr ⟨h0, bx, 0, _, _, _, _, rfl, hm, fun k hk => twin_get bs k hk⟩
theorem Same_v (bs : List UInt8) (v1 v2 : Value) (S : HL) (hv : RdB S v1 bs) (hv2 : RdB S v2 bs) (hb : bs.length ≤ 1000000000) : CallS Tryz.prog 12 ⟨[v1, v2]⟩ S fun v S' => v = .bool true ∧ S = S' := by
  obtain ⟨a, c, rfl⟩ := hv.isSl
  obtain ⟨a2, c2, rfl⟩ := hv2.isSl
  exact Same_c bs a a2 c c2 S hv hv2 hb
theorem BytesB_c (bk m k n : Nat) (oy ob : Option Buf) (es tl : List Value) (S : HL) (hoy : bufOk oy n 1) (hbo : bufOk ob k 3) (hes : es.length = k * 3) (hm : m ≤ 1000) (hk : k ≤ 1000) (htl : tl.length = 14) :
    CallS Tryz.prog 11 ⟨[ptr bk 0, bufV oy n]⟩ ((bk, blk (nI m :: bufV ob k :: tl) 43) :: (bufH ob es 187 ++ S)) fun v S' =>
      ∃ o, bufOk o (k + 1) 3 ∧ v = .tuple #[] ∧ S' = (bk, blk (nI (m + 1) :: bufV o (k + 1) :: tl) 43) :: (bufH o (es ++ [bufV oy n, .slice none 0 0, nI (m + 1)]) 187 ++ S) := by
  cases oy with
  | none => exact Bytes_c bk m k 0 0 none ob es tl S hbo hes hm hk htl
  | some u => exact Bytes_c bk m k n u.cap (some ⟨u.b, 0, none⟩) ob es tl S hbo hes hm hk htl


end Go.Sl

/- The contracts of chapter 10 for all inputs; the book of two lists. -/
set_option linter.unusedVariables false
set_option linter.unusedSimpArgs false
namespace Go.Sl
open Go.Proofs

def kErr (z : Int) : Nat := if z < 0 then 1 else if 8160 < z then 3 else 0
def kRes (shared : List UInt64) (id : List UInt8) (z : Int) : List UInt8 := if 0 ≤ z ∧ z ≤ 8160 then kmF shared id z.toNat else []
theorem kRes_len (shared : List UInt64) (id : List UInt8) (z : Int) : (kRes shared id z).length ≤ 8160 := by
  unfold kRes
  split
  · rw [kmF_len]; omega
  · simp
def cErr (n : Nat) (z : Int) : Nat := if z < 0 then 1 else if (n / 48 : Nat) ≤ z then 5 else 0
def cRes (bs : List UInt8) (z : Int) : List UInt8 := if 0 ≤ z ∧ z < (bs.length / 48 : Nat) then cutF bs z.toNat else List.replicate 48 0
theorem cRes_len (bs : List UInt8) (z : Int) : (cRes bs z).length = 48 := by
  unfold cRes
  split
  · rw [cutF_len (by omega)]
  · simp
theorem KOf_u (shared : List UInt64) (id : List UInt8) (z : Int) (S : HL) (hsh : shared.length = 4) (hid : id.length = 32) :
    CallS Tryz.prog 17 ⟨[.agg ⟨shared.map u64⟩, .agg ⟨id.map u8⟩, .int .i64 z]⟩ S fun v S' => ∃ l : BL, l.ok ∧ l.xs = kRes shared id z ∧ v = .tuple #[l.v, nI (kErr z)] ∧ S' = l.h ++ S := by
  by_cases h1 : z < 0
  · refine (KOfN_c shared id z S h1).mono ?_
    rintro v S' ⟨rfl, rfl⟩
    exact ⟨⟨none, []⟩, rfl, by rw [kRes, if_neg (by omega)], by rw [kErr, if_pos h1]; rfl, rfl⟩
  · by_cases h2 : 8160 < z
    · refine (KOfG_c shared id z S h2).mono ?_
      rintro v S' ⟨rfl, rfl⟩
      exact ⟨⟨none, []⟩, rfl, by rw [kRes, if_neg (by omega)], by rw [kErr, if_neg h1, if_pos h2]; rfl, rfl⟩
    · obtain ⟨n, rfl⟩ := Int.eq_ofNat_of_zero_le (by omega : 0 ≤ z)
      refine (KOf_c shared id n S hsh hid (by omega)).mono ?_
      rintro v S' ⟨g, r, rfl, rfl⟩
      have e : kRes shared id n = kmF shared id n := by rw [kRes, if_pos (by omega)]; rfl
      refine ⟨⟨some ⟨g, [], n, r, 5⟩, kmF shared id n⟩, ⟨?_, ?_⟩, e.symm, ?_, rfl⟩
      · simp [kmF_len]
      · simp [kmF_len]
      · rw [kErr, if_neg h1, if_neg h2]; simp [BL.v, kmF_len]
theorem rKOf_u (shared : List UInt64) (id : List UInt8) (z : Int) (S : HL) (hsh : shared.length = 4) (hid : id.length = 32) :
    CallS Tryz.prog 18 ⟨[.agg ⟨shared.map u64⟩, .agg ⟨id.map u8⟩, .int .i64 z]⟩ S fun v S' => ∃ q Z, v = .tuple #[q, nI (kErr z)] ∧ RdB (Z ++ S) q (kRes shared id z) ∧ S' = Z ++ S := by
  by_cases h1 : z < 0
  · refine (rKOfN_c shared id z S h1).mono ?_
    rintro v S' ⟨rfl, rfl⟩
    exact ⟨.slice none 0 0, [], by rw [kErr, if_pos h1], .inl ⟨by rw [kRes, if_neg (by omega)], _, _, rfl⟩, rfl⟩
  · by_cases h2 : 8160 < z
    · refine (rKOfG_c shared id z S h2).mono ?_
      rintro v S' ⟨rfl, rfl⟩
      exact ⟨.slice none 0 0, [], by rw [kErr, if_neg h1, if_pos h2], .inl ⟨by rw [kRes, if_neg (by omega)], _, _, rfl⟩, rfl⟩
    · obtain ⟨n, rfl⟩ := Int.eq_ofNat_of_zero_le (by omega : 0 ≤ z)
      refine (rKOf_c shared id n S hsh hid (by omega)).mono ?_
      rintro v S' ⟨o, x, rfl, ho, rfl⟩
      have e : kRes shared id n = kmF shared id n := by rw [kRes, if_pos (by omega)]; rfl
      refine ⟨bufV o n, bufH o ((kmF shared id n).map u8 ++ x) 5, by rw [kErr, if_neg h1, if_neg h2], ?_, rfl⟩
      rw [e]
      have := RdB.buf (S := bufH o ((kmF shared id n).map u8 ++ x) 5 ++ S) (o := o) (bs := kmF shared id n) (xs := x) (T := 5) (fun h => List.eq_nil_of_length_eq_zero (by rw [kmF_len]; exact ho h)) (fun p hp => List.mem_append_left _ hp)
      rwa [kmF_len] at this
theorem KCut_u (bs : List UInt8) (z : Int) (c : Nat) (a : Option Addr) (S : HL) (hv : RdS S (.slice a bs.length c) bs) (hb : bs.length ≤ 1000000) :
    CallS Tryz.prog 19 ⟨[.slice a bs.length c, .int .i64 z]⟩ S fun v S' => v = .tuple #[.agg ⟨(cRes bs z).map u8⟩, nI (cErr bs.length z)] ∧ S = S' := by
  by_cases h1 : z < 0
  · have := KCutN_c bs.length c a z S h1
    rw [show cErr bs.length z = 1 by rw [cErr, if_pos h1], show cRes bs z = List.replicate 48 0 by rw [cRes, if_neg (by omega)]]; exact this
  · obtain ⟨p, rfl⟩ := Int.eq_ofNat_of_zero_le (by omega : 0 ≤ z)
    by_cases h2 : bs.length / 48 ≤ p
    · have := KCutS_c bs.length c p a S hb h2
      rw [show cErr bs.length p = 5 by rw [cErr, if_neg h1, if_pos (by omega)], show cRes bs p = List.replicate 48 0 by rw [cRes, if_neg (by omega)]]; exact this
    · have := KCut_c bs p c a S hv (by omega) hb
      rw [show cErr bs.length p = 0 by rw [cErr, if_neg h1, if_neg (by omega)], show cRes bs p = cutF bs p by rw [cRes, if_pos (by omega)]; rfl]; exact this
theorem rKCut_u (bs : List UInt8) (z : Int) (c : Nat) (a : Option Addr) (S : HL) (hv : RdB S (.slice a bs.length c) bs) (hb : bs.length ≤ 1000000) :
    CallS Tryz.prog 20 ⟨[.slice a bs.length c, .int .i64 z]⟩ S fun v S' => v = .tuple #[.agg ⟨(cRes bs z).map u8⟩, nI (cErr bs.length z)] ∧ S = S' := by
  by_cases h1 : z < 0
  · have := rKCutN_c bs.length c a z S h1
    rw [show cErr bs.length z = 1 by rw [cErr, if_pos h1], show cRes bs z = List.replicate 48 0 by rw [cRes, if_neg (by omega)]]; exact this
  · obtain ⟨p, rfl⟩ := Int.eq_ofNat_of_zero_le (by omega : 0 ≤ z)
    by_cases h2 : bs.length / 48 ≤ p
    · rw [show cErr bs.length p = 5 by rw [cErr, if_neg h1, if_pos (by omega)], show cRes bs p = List.replicate 48 0 by rw [cRes, if_neg (by omega)]]
      by_cases h3 : bs.length < p
      · exact rKCutS1_c bs.length c p a S h3
      · exact rKCutS2_c bs.length c p a S hb (by omega) h2
    · have := rKCut_c bs p c a S hv (by omega) hb
      rw [show cErr bs.length p = 0 by rw [cErr, if_neg h1, if_neg (by omega)], show cRes bs p = cutF bs p by rw [cRes, if_pos (by omega)]; rfl]; exact this
theorem BytesL_c (bk m k : Nat) (l : BL) (ob : Option Buf) (es tl : List Value) (S : HL) (hbo : bufOk ob k 3) (hes : es.length = k * 3) (hm : m ≤ 1000) (hk : k ≤ 1000) (htl : tl.length = 14) :
    CallS Tryz.prog 11 ⟨[ptr bk 0, l.v]⟩ ((bk, blk (nI m :: bufV ob k :: tl) 43) :: (bufH ob es 187 ++ S)) fun v S' =>
      ∃ o, bufOk o (k + 1) 3 ∧ v = .tuple #[] ∧ S' = (bk, blk (nI (m + 1) :: bufV o (k + 1) :: tl) 43) :: (bufH o (es ++ [l.v, .slice none 0 0, nI (m + 1)]) 187 ++ S) := by
  rcases l with ⟨_ | u, xs⟩
  · exact Bytes_c bk m k 0 0 none ob es tl S hbo hes hm hk htl
  · exact Bytes_c bk m k xs.length u.cap (some ⟨u.b, u.pre.length, none⟩) ob es tl S hbo hes hm hk htl
/-- Blocks pulled to the front. -/
inductive Pull : HL → HL → HL → Prop
  | here {X R} : Pull X (X ++ R) R
  | here1 {x R} : Pull [x] (x :: R) R
  | nil {S} : Pull [] S S
  | there {y X S R} : Pull X S R → Pull X (y :: S) (y :: R)
  | thereA {Z X S R} : Pull X S R → Pull X (Z ++ S) (Z ++ R)
theorem Pull.perm {X S R} (h : Pull X S R) : S.Perm (X ++ R) := by
  induction h with
  | here => exact List.Perm.refl _
  | here1 => exact List.Perm.refl _
  | nil => exact List.Perm.refl _
  | there _ ih => exact (ih.cons _).trans List.perm_middle.symm
  | @thereA Z X S R _ ih =>
    refine (ih.append_left Z).trans ?_
    rw [← List.append_assoc, ← List.append_assoc]
    exact (List.perm_append_comm).append_right R
theorem ApartP2_c (bk : Nat) (o : Option Buf) (l1 l2 : BL) (S R1 R2 : HL) (ho : bufOk o 2 3) (h1 : l1.ok ∧ l1.xs.length ≤ 1000000) (h2 : l2.ok ∧ l2.xs.length ≤ 1000000) (hp1 : Pull l1.h S R1) (hp2 : Pull l2.h R1 R2) :
    CallS Tryz.prog 15 ⟨[ptr bk 0]⟩ ((bk, blk (nI 2 :: bufV o 2 :: List.replicate 14 (.slice none 0 0)) 43) :: (bufH o ([l1.v, .slice none 0 0, nI 1] ++ [l2.v, .slice none 0 0, nI 2]) 187 ++ S)) fun v S' => ∃ Z, v = .bool true ∧ S' = Z ++ R2 := by
  obtain ⟨og, rfl⟩ := ho.some (by decide)
  have h := ApartN_c bk og [l1, l2] R2 (by simp) (by intro l hl; rcases List.mem_cons.1 hl with rfl | hl; (exact h1); rw [List.mem_singleton.1 hl]; exact h2)
  refine CallS.perm h (List.Perm.cons _ (List.Perm.cons _ ?_))
  rw [lh_cons, lh_one, List.append_assoc]
  exact ((hp1.perm.trans (hp2.perm.append_left _)).symm)


end Go.Sl

/- burrowlaw10.lives. -/
set_option linter.unusedVariables false
set_option linter.unusedSimpArgs false
namespace Go.Sl
open Go.Proofs

theorem rep48 : (List.replicate 48 (0 : UInt8)).map u8 = List.replicate 48 (u8 0) := by simp
theorem km1 (k : List UInt8) : hmacP k (laneB ++ [1]) = kmT k 1 := by
  have := kmT_succ k 0
  rw [kmT_zero] at this
  exact this
theorem kmF32 (shared : List UInt64) (id : List UInt8) : kmF shared id 32 = kmT (kmK shared id) 1 := by
  rw [kmF, show (32 + 31) / 32 = 0 + 1 from rfl, kmO, show kmO (kmK shared id) 0 = [] from rfl, List.nil_append, List.take_of_length_le (Nat.le_of_eq (kmT_len _ 0))]

theorem zv49 : ZV Tryz.prog 49 (.agg ⟨((List.replicate 4 0).map u64)⟩) := fun _ => by kernel_rfl
set_option maxRecDepth 100000 in
set_option maxHeartbeats 1000000 in
theorem lives10_c (S : HL) : CallS Tryz.prog 16 ⟨[]⟩ S fun v S' => v = .bool true ∧ S = S' := by
  have hk5 := kmK_len [5, 0, 0, 0] (List.replicate 32 0)
  have h32 : (kmT (kmK [5, 0, 0, 0] (List.replicate 32 0)) 1).length = 32 := kmT_len _ 0
  have hwh : ∀ {S : HL} {g : Nat} {r : List Value}, (g, blk ((kmT (kmK [5, 0, 0, 0] (List.replicate 32 0)) 1).map u8 ++ r) 5) ∈ S → RdB S (sl g 0 32 32) (kmT (kmK [5, 0, 0, 0] (List.replicate 32 0)) 1) := by
    intro S g r hm
    have := RdB.buf (S := S) (o := some ⟨g, 32, r⟩) (bs := kmT (kmK [5, 0, 0, 0] (List.replicate 32 0)) 1) (xs := []) (T := 5) (fun h => by cases h) (by intro p hp; rw [List.mem_singleton.1 hp, List.append_nil]; exact hm)
    rwa [h32] at this
  refine CallS.enter Tryz.func16 rfl Tryz.ntmps16 (by simp) ?_
  refine CW.seq ?_
  refine CW.region (by kernel_rfl) ?_
  refine RL.q rfl rfl (QW.assign rfl) ?_
  refine RL.nil (thenN ?_)
  refine CW.seq ?_
  refine CW.region (by kernel_rfl) ?_
  refine RL.q rfl rfl (QW.buildA (cells := [_, _, _, _]) Tryz.runUnderlying49 Tryz.sizeOf47 zv49 (parts1 rfl) rfl) ?_
  refine RL.q rfl rfl (QW.build0 Tryz.runUnderlying51 (.inl ⟨_, _, rfl⟩) zv51 (fun e n h => by injection h with _ h; subst h; exact ⟨_, Tryz.sizeOf5⟩)) ?_
  refine RL.cons rfl (OW.call Tryz.call17 (ext3 rfl rfl rfl) ((KOf_c [5, 0, 0, 0] (List.replicate 32 0) 32 _ rfl rfl (by decide)).mono ?_))
  rintro v S' ⟨g, r, rfl, rfl⟩
  rw [kmF32]
  refine RL.q rfl rfl (QW.move rfl) ?_
  refine RL.q rfl rfl (QW.extract rfl rfl) ?_
  refine RL.q rfl rfl (QW.extract rfl rfl) ?_
  refine RL.q rfl rfl (QW.assign rfl) ?_
  refine RL.q rfl rfl (QW.assign rfl) ?_
  refine RL.nil (thenN ?_)
  refine CW.seq ?_
  refine CW.region (by kernel_rfl) ?_
  refine RL.q rfl rfl (QW.build0 Tryz.runUnderlying49 (.inl ⟨_, _, rfl⟩) zv49 (fun e n h => by injection h with _ h; subst h; exact ⟨_, Tryz.sizeOf47⟩)) ?_
  refine RL.q rfl rfl (QW.build0 Tryz.runUnderlying51 (.inl ⟨_, _, rfl⟩) zv51 (fun e n h => by injection h with _ h; subst h; exact ⟨_, Tryz.sizeOf5⟩)) ?_
  refine RL.cons rfl (OW.call Tryz.call17 (ext3 rfl rfl rfl) ((KOfG_c [0, 0, 0, 0] (List.replicate 32 0) 8161 _ (by decide)).mono ?_))
  rintro v S' ⟨rfl, rfl⟩
  refine RL.q rfl rfl (QW.move rfl) ?_
  refine RL.q rfl rfl (QW.extract rfl rfl) ?_
  refine RL.q rfl rfl (QW.extract rfl rfl) ?_
  refine RL.q rfl rfl (QW.assign rfl) ?_
  refine RL.q rfl rfl (QW.assign rfl) ?_
  refine RL.nil (thenN ?_)
  refine CW.seq ?_
  refine CW.region (by kernel_rfl) ?_
  refine RL.cons rfl (OW.makeSlice (l := 48) (c := 48) Tryz.runUnderlying23 Tryz.typeInfo5 Tryz.sizeOf5 zv5 rfl rfl rfl (by omega) (by rw [show Tryz.t5.bytes = 1 from rfl]; omega) (by omega) ?_)
  intro b25
  refine RL.cons rfl (OW.call Tryz.call19 (ext2 rfl rfl) ((KCutS_c 48 48 1 _ _ (by decide) (by decide)).mono ?_))
  rintro v S' ⟨rfl, rfl⟩
  refine RL.q rfl rfl (QW.move rfl) ?_
  refine RL.q rfl rfl (QW.extract rfl rfl) ?_
  refine RL.q rfl rfl (QW.extract rfl rfl) ?_
  refine RL.cons rfl (OW.alloc zv58 rfl ?_)
  intro b5
  refine RL.cons rfl (OW.storeN rfl rfl Tryz.sizeOf58 (by repeat (first | exact List.mem_cons_self | exact List.mem_cons_of_mem _ (by assumption) | assumption | refine List.mem_cons_of_mem _ ?_ | refine List.mem_append_right _ ?_)) (by first | (simp only [List.length_map, List.length_replicate, List.length_cons, List.length_nil, List.length_set, Nat.mul_one] <;> omega) | (simp [*] <;> omega)) (by first | exact m_all (fun _ => rfl) _ | rfl | (simp; done) | (simp only [List.all_cons, List.all_nil, oneB_buf, Bool.true_and, Bool.and_true]; rfl) | (simp [oneB]; done)) (by first | (simp only [List.length_map, List.length_replicate, List.length_cons, List.length_nil, List.length_set, Nat.mul_one] <;> omega) | (simp [*] <;> omega)) (by first | (refine wr_all ?_; simp only [List.length_map, List.length_replicate, List.length_cons, List.length_nil, List.length_set, Nat.mul_one] <;> omega) | (refine wr_all ?_; simp [*]; done) | exact m_wr _ _ _ | with_reducible rfl) (by repeat (first | exact Upd.head | apply Upd.tail | apply Upd.tailA)) ?_)
  refine RL.q rfl rfl (QW.assign rfl) ?_
  refine RL.nil (thenN ?_)
  refine CW.seq ?_
  refine CW.region (by kernel_rfl) ?_
  refine RL.cons rfl (OW.makeSlice (l := 48) (c := 48) Tryz.runUnderlying23 Tryz.typeInfo5 Tryz.sizeOf5 zv5 rfl rfl rfl (by omega) (by rw [show Tryz.t5.bytes = 1 from rfl]; omega) (by omega) ?_)
  intro b30
  rw [← rep48]
  refine RL.cons rfl (OW.call Tryz.call19 (ext2 rfl rfl) ((KCut_c (List.replicate 48 0) 0 48 (some ⟨b30, 0, none⟩) _ (rdS_all (n := 48) (T := 5) (by repeat (first | exact List.mem_cons_self | exact List.mem_cons_of_mem _ (by assumption) | assumption | refine List.mem_cons_of_mem _ ?_ | refine List.mem_append_right _ ?_)) rfl) (by decide) (by decide)).mono ?_))
  rintro v S' ⟨rfl, rfl⟩
  obtain ⟨B, hB, hBl⟩ : ∃ B, cutF (List.replicate 48 0) 0 = B ∧ B.length = 48 := ⟨_, rfl, cutF_len (by decide)⟩
  rw [hB]
  refine RL.q rfl rfl (QW.move rfl) ?_
  refine RL.q rfl rfl (QW.extract rfl rfl) ?_
  refine RL.q rfl rfl (QW.extract rfl rfl) ?_
  refine RL.cons rfl (OW.alloc zv58 rfl ?_)
  intro b7
  refine RL.cons rfl (OW.storeN rfl rfl Tryz.sizeOf58 (by repeat (first | exact List.mem_cons_self | exact List.mem_cons_of_mem _ (by assumption) | assumption | refine List.mem_cons_of_mem _ ?_ | refine List.mem_append_right _ ?_)) (by first | (simp only [List.length_map, List.length_replicate, List.length_cons, List.length_nil, List.length_set, Nat.mul_one] <;> omega) | (simp [*] <;> omega)) (by first | exact m_all (fun _ => rfl) _ | rfl | (simp; done) | (simp only [List.all_cons, List.all_nil, oneB_buf, Bool.true_and, Bool.and_true]; rfl) | (simp [oneB]; done)) (by first | (simp only [List.length_map, List.length_replicate, List.length_cons, List.length_nil, List.length_set, Nat.mul_one] <;> omega) | (simp [*] <;> omega)) (by first | (refine wr_all ?_; simp only [List.length_map, List.length_replicate, List.length_cons, List.length_nil, List.length_set, Nat.mul_one] <;> omega) | (refine wr_all ?_; simp [*]; done) | exact m_wr _ _ _ | with_reducible rfl) (by repeat (first | exact Upd.head | apply Upd.tail | apply Upd.tailA)) ?_)
  refine RL.q rfl rfl (QW.assign rfl) ?_
  refine RL.nil (thenN ?_)
  refine CW.seq ?_
  refine CW.region (by kernel_rfl) ?_
  refine RL.q rfl rfl (QW.build0 Tryz.runUnderlying51 (.inl ⟨_, _, rfl⟩) zv51 (fun e n h => by injection h with _ h; subst h; exact ⟨_, Tryz.sizeOf5⟩)) ?_
  refine RL.cons rfl (OW.alloc zv51 rfl ?_)
  intro b9
  refine RL.cons rfl (OW.storeN rfl rfl Tryz.sizeOf51 (by repeat (first | exact List.mem_cons_self | exact List.mem_cons_of_mem _ (by assumption) | assumption | refine List.mem_cons_of_mem _ ?_ | refine List.mem_append_right _ ?_)) (by first | (simp only [List.length_map, List.length_replicate, List.length_cons, List.length_nil, List.length_set, Nat.mul_one] <;> omega) | (simp [*] <;> omega)) (by first | exact m_all (fun _ => rfl) _ | rfl | (simp; done) | (simp only [List.all_cons, List.all_nil, oneB_buf, Bool.true_and, Bool.and_true]; rfl) | (simp [oneB]; done)) (by first | (simp only [List.length_map, List.length_replicate, List.length_cons, List.length_nil, List.length_set, Nat.mul_one] <;> omega) | (simp [*] <;> omega)) (by first | (refine wr_all ?_; simp only [List.length_map, List.length_replicate, List.length_cons, List.length_nil, List.length_set, Nat.mul_one] <;> omega) | (refine wr_all ?_; simp [*]; done) | exact m_wr _ _ _ | with_reducible rfl) (by repeat (first | exact Upd.head | apply Upd.tail | apply Upd.tailA)) ?_)
  refine RL.nil (thenN ?_)
  refine CW.seqCutT (ι := Nat) [(0, _), (1, _), (2, _), (4, _), (6, _), (8, _), (9, _)] (by repeat (first | exact leE_nil | refine leE_cons rfl ?_)) (fun b10 => True) (fun b10 r => (10, ptr b10 0) :: r) (fun b10 => (b10, blk ((kmK [5, 0, 0, 0] (List.replicate 32 0)).map u8) 51) :: (g, blk ((kmT (kmK [5, 0, 0, 0] (List.replicate 32 0)) 1).map u8 ++ r) 5) :: S) ?_ ?_
  · refine CW.drawnS 6 (by rw [mixed]; rfl) (by kernel_rfl) (by kernel_rfl) (by kernel_rfl) (fun _ _ _ h => h) ?_
    refine DL.take 0 rfl (by kernel_rfl) (by kernel_rfl) (by kernel_rfl) rfl rfl (QW.sliceA0 Tryz.runUnderlying51 Tryz.sizeOf5 rfl optV_none optV_none (.inl rfl) (by first | omega | (dsimp only; omega)) (by first | omega | (dsimp only; omega))) (by intro p hp; repeat (first | exact hp | refine List.mem_cons_of_mem _ ?_ | refine List.mem_append_right _ ?_)) ?_
    refine DL.take 1 rfl (by kernel_rfl) (by kernel_rfl) (by kernel_rfl) rfl rfl (QW.buildA (cells := [_, _, _, _]) Tryz.runUnderlying49 Tryz.sizeOf47 zv49 (parts1 rfl) rfl) (by intro p hp; repeat (first | exact hp | refine List.mem_cons_of_mem _ ?_ | refine List.mem_append_right _ ?_)) ?_
    refine DL.two 2 5 (by kernel_rfl) rfl rfl rfl rfl ?_ ?_
    · refine OW.call Tryz.call114 (ext2 rfl rfl) ((PutLong_c [] [5, 0, 0, 0] none 0 _ (by simp) rfl (.inl ⟨rfl, _, _, rfl⟩)).mono ?_)
      rintro v S' ⟨bq, rfl, rfl⟩
      refine ⟨fun _ p hp => by repeat (first | exact hp | refine List.mem_cons_of_mem _ ?_ | refine List.mem_append_right _ ?_), ?_⟩
      refine DL.two 3 5 (by kernel_rfl) rfl rfl rfl rfl ?_ ?_
      · refine OW.buildSlice1 Tryz.runUnderlying83 Tryz.sizeOf23 zv23 rfl rfl rfl ?_
        intro b38
        refine ⟨fun _ p hp => by repeat (first | exact hp | refine List.mem_cons_of_mem _ ?_ | refine List.mem_append_right _ ?_), ?_⟩
        refine DL.two 4 5 (by kernel_rfl) rfl rfl rfl rfl ?_ ?_
        · refine OW.call Tryz.call113 (ext2 rfl rfl) ((MacOf_c (List.replicate 32 0) [longF [5, 0, 0, 0]] _ _ 0 1 [sl bq 0 32 32] 23 (0, 0) _ (rdS_all (b := b9) (T := 51) (by repeat (first | exact List.mem_cons_self | exact List.mem_cons_of_mem _ (by assumption) | assumption | refine List.mem_cons_of_mem _ ?_ | refine List.mem_append_right _ ?_)) rfl) (by decide) (by repeat (first | exact List.mem_cons_self | exact List.mem_cons_of_mem _ (by assumption) | assumption | refine List.mem_cons_of_mem _ ?_ | refine List.mem_append_right _ ?_)) (hpv1 (rdS_all (bs := longF [5, 0, 0, 0]) (T := 5) (by repeat (first | exact List.mem_cons_self | exact List.mem_cons_of_mem _ (by assumption) | assumption | refine List.mem_cons_of_mem _ ?_ | refine List.mem_append_right _ ?_)) (longF_len _))) (hpl1 (by rw [longF_len]; decide)) (by simp)).mono ?_)
          rintro v S' ⟨rfl, rfl⟩
          rw [flat1, kmK_eq]
          refine ⟨fun _ p hp => by repeat (first | exact hp | refine List.mem_cons_of_mem _ ?_ | refine List.mem_append_right _ ?_), ?_⟩
          refine DL.one 5 (by kernel_rfl) rfl rfl (OW.alloc zv51 rfl ?_)
          intro b10
          refine ⟨fun _ p hp => by repeat (first | exact hp | refine List.mem_cons_of_mem _ ?_ | refine List.mem_append_right _ ?_), ?_⟩
          refine DL.one 6 (by kernel_rfl) rfl rfl (OW.storeN rfl rfl Tryz.sizeOf51 (by repeat (first | exact List.mem_cons_self | exact List.mem_cons_of_mem _ (by assumption) | assumption | refine List.mem_cons_of_mem _ ?_ | refine List.mem_append_right _ ?_)) (by first | (simp only [List.length_map, List.length_replicate, List.length_cons, List.length_nil, List.length_set, Nat.mul_one] <;> omega) | (simp [*] <;> omega)) (by first | exact m_all (fun _ => rfl) _ | rfl | (simp; done) | (simp only [List.all_cons, List.all_nil, oneB_buf, Bool.true_and, Bool.and_true]; rfl) | (simp [oneB]; done)) (by first | (simp only [List.length_map, List.length_replicate, List.length_cons, List.length_nil, List.length_set, Nat.mul_one] <;> omega) | (simp [*] <;> omega)) (by first | (refine wr_all ?_; simp only [List.length_map, List.length_replicate, List.length_cons, List.length_nil, List.length_set, Nat.mul_one] <;> omega) | (refine wr_all ?_; simp [*]; done) | exact m_wr _ _ _ | with_reducible rfl) (by repeat (first | exact Upd.head | apply Upd.tail | apply Upd.tailA)) ?_)
          refine ⟨fun h => absurd rfl h, ?_⟩
          refine DL.done (by kernel_rfl) (thenN ?_)
          refine ⟨b10, (trivial), ?_, ?_⟩
          · repeat (first | exact leE_nil | refine leE_cons rfl ?_)
          · exact (by repeat (first | exact List.Sublist.refl _ | (refine keepS ?_ ?_; with_reducible rfl) | (refine keepA ?_ ?_; with_reducible rfl) | (refine keepS ?_ ?_; rfl) | apply dropS | apply dropA))
        · refine OW.alloc zv51 rfl ?_
          intro b10
          refine ⟨fun _ p hp => by repeat (first | exact hp | refine List.mem_cons_of_mem _ ?_ | refine List.mem_append_right _ ?_), ?_⟩
          refine DL.one 4 (by kernel_rfl) rfl rfl (OW.call Tryz.call113 (ext2 rfl rfl) ((MacOf_c (List.replicate 32 0) [longF [5, 0, 0, 0]] _ _ 0 1 [sl bq 0 32 32] 23 (0, 0) _ (rdS_all (b := b9) (T := 51) (by repeat (first | exact List.mem_cons_self | exact List.mem_cons_of_mem _ (by assumption) | assumption | refine List.mem_cons_of_mem _ ?_ | refine List.mem_append_right _ ?_)) rfl) (by decide) (by repeat (first | exact List.mem_cons_self | exact List.mem_cons_of_mem _ (by assumption) | assumption | refine List.mem_cons_of_mem _ ?_ | refine List.mem_append_right _ ?_)) (hpv1 (rdS_all (bs := longF [5, 0, 0, 0]) (T := 5) (by repeat (first | exact List.mem_cons_self | exact List.mem_cons_of_mem _ (by assumption) | assumption | refine List.mem_cons_of_mem _ ?_ | refine List.mem_append_right _ ?_)) (longF_len _))) (hpl1 (by rw [longF_len]; decide)) (by simp)).mono ?_))
          rintro v S' ⟨rfl, rfl⟩
          rw [flat1, kmK_eq]
          refine ⟨fun _ p hp => by repeat (first | exact hp | refine List.mem_cons_of_mem _ ?_ | refine List.mem_append_right _ ?_), ?_⟩
          refine DL.one 6 (by kernel_rfl) rfl rfl (OW.storeN rfl rfl Tryz.sizeOf51 (by repeat (first | exact List.mem_cons_self | exact List.mem_cons_of_mem _ (by assumption) | assumption | refine List.mem_cons_of_mem _ ?_ | refine List.mem_append_right _ ?_)) (by first | (simp only [List.length_map, List.length_replicate, List.length_cons, List.length_nil, List.length_set, Nat.mul_one] <;> omega) | (simp [*] <;> omega)) (by first | exact m_all (fun _ => rfl) _ | rfl | (simp; done) | (simp only [List.all_cons, List.all_nil, oneB_buf, Bool.true_and, Bool.and_true]; rfl) | (simp [oneB]; done)) (by first | (simp only [List.length_map, List.length_replicate, List.length_cons, List.length_nil, List.length_set, Nat.mul_one] <;> omega) | (simp [*] <;> omega)) (by first | (refine wr_all ?_; simp only [List.length_map, List.length_replicate, List.length_cons, List.length_nil, List.length_set, Nat.mul_one] <;> omega) | (refine wr_all ?_; simp [*]; done) | exact m_wr _ _ _ | with_reducible rfl) (by repeat (first | exact Upd.head | apply Upd.tail | apply Upd.tailA)) ?_)
          refine ⟨fun h => absurd rfl h, ?_⟩
          refine DL.done (by kernel_rfl) (thenN ?_)
          refine ⟨b10, (trivial), ?_, ?_⟩
          · repeat (first | exact leE_nil | refine leE_cons rfl ?_)
          · exact (by repeat (first | exact List.Sublist.refl _ | (refine keepS ?_ ?_; with_reducible rfl) | (refine keepA ?_ ?_; with_reducible rfl) | (refine keepS ?_ ?_; rfl) | apply dropS | apply dropA))
      · refine OW.alloc zv51 rfl ?_
        intro b10
        refine ⟨fun _ p hp => by repeat (first | exact hp | refine List.mem_cons_of_mem _ ?_ | refine List.mem_append_right _ ?_), ?_⟩
        refine DL.one 3 (by kernel_rfl) rfl rfl (OW.buildSlice1 Tryz.runUnderlying83 Tryz.sizeOf23 zv23 rfl rfl rfl ?_)
        intro b38
        refine ⟨fun _ p hp => by repeat (first | exact hp | refine List.mem_cons_of_mem _ ?_ | refine List.mem_append_right _ ?_), ?_⟩
        refine DL.one 4 (by kernel_rfl) rfl rfl (OW.call Tryz.call113 (ext2 rfl rfl) ((MacOf_c (List.replicate 32 0) [longF [5, 0, 0, 0]] _ _ 0 1 [sl bq 0 32 32] 23 (0, 0) _ (rdS_all (b := b9) (T := 51) (by repeat (first | exact List.mem_cons_self | exact List.mem_cons_of_mem _ (by assumption) | assumption | refine List.mem_cons_of_mem _ ?_ | refine List.mem_append_right _ ?_)) rfl) (by decide) (by repeat (first | exact List.mem_cons_self | exact List.mem_cons_of_mem _ (by assumption) | assumption | refine List.mem_cons_of_mem _ ?_ | refine List.mem_append_right _ ?_)) (hpv1 (rdS_all (bs := longF [5, 0, 0, 0]) (T := 5) (by repeat (first | exact List.mem_cons_self | exact List.mem_cons_of_mem _ (by assumption) | assumption | refine List.mem_cons_of_mem _ ?_ | refine List.mem_append_right _ ?_)) (longF_len _))) (hpl1 (by rw [longF_len]; decide)) (by simp)).mono ?_))
        rintro v S' ⟨rfl, rfl⟩
        rw [flat1, kmK_eq]
        refine ⟨fun _ p hp => by repeat (first | exact hp | refine List.mem_cons_of_mem _ ?_ | refine List.mem_append_right _ ?_), ?_⟩
        refine DL.one 6 (by kernel_rfl) rfl rfl (OW.storeN rfl rfl Tryz.sizeOf51 (by repeat (first | exact List.mem_cons_self | exact List.mem_cons_of_mem _ (by assumption) | assumption | refine List.mem_cons_of_mem _ ?_ | refine List.mem_append_right _ ?_)) (by first | (simp only [List.length_map, List.length_replicate, List.length_cons, List.length_nil, List.length_set, Nat.mul_one] <;> omega) | (simp [*] <;> omega)) (by first | exact m_all (fun _ => rfl) _ | rfl | (simp; done) | (simp only [List.all_cons, List.all_nil, oneB_buf, Bool.true_and, Bool.and_true]; rfl) | (simp [oneB]; done)) (by first | (simp only [List.length_map, List.length_replicate, List.length_cons, List.length_nil, List.length_set, Nat.mul_one] <;> omega) | (simp [*] <;> omega)) (by first | (refine wr_all ?_; simp only [List.length_map, List.length_replicate, List.length_cons, List.length_nil, List.length_set, Nat.mul_one] <;> omega) | (refine wr_all ?_; simp [*]; done) | exact m_wr _ _ _ | with_reducible rfl) (by repeat (first | exact Upd.head | apply Upd.tail | apply Upd.tailA)) ?_)
        refine ⟨fun h => absurd rfl h, ?_⟩
        refine DL.done (by kernel_rfl) (thenN ?_)
        refine ⟨b10, (trivial), ?_, ?_⟩
        · repeat (first | exact leE_nil | refine leE_cons rfl ?_)
        · exact (by repeat (first | exact List.Sublist.refl _ | (refine keepS ?_ ?_; with_reducible rfl) | (refine keepA ?_ ?_; with_reducible rfl) | (refine keepS ?_ ?_; rfl) | apply dropS | apply dropA))
    · refine OW.alloc zv51 rfl ?_
      intro b10
      refine ⟨fun _ p hp => by repeat (first | exact hp | refine List.mem_cons_of_mem _ ?_ | refine List.mem_append_right _ ?_), ?_⟩
      refine DL.one 2 (by kernel_rfl) rfl rfl (OW.call Tryz.call114 (ext2 rfl rfl) ((PutLong_c [] [5, 0, 0, 0] none 0 _ (by simp) rfl (.inl ⟨rfl, _, _, rfl⟩)).mono ?_))
      rintro v S' ⟨bq, rfl, rfl⟩
      refine ⟨fun _ p hp => by repeat (first | exact hp | refine List.mem_cons_of_mem _ ?_ | refine List.mem_append_right _ ?_), ?_⟩
      refine DL.one 3 (by kernel_rfl) rfl rfl (OW.buildSlice1 Tryz.runUnderlying83 Tryz.sizeOf23 zv23 rfl rfl rfl ?_)
      intro b38
      refine ⟨fun _ p hp => by repeat (first | exact hp | refine List.mem_cons_of_mem _ ?_ | refine List.mem_append_right _ ?_), ?_⟩
      refine DL.one 4 (by kernel_rfl) rfl rfl (OW.call Tryz.call113 (ext2 rfl rfl) ((MacOf_c (List.replicate 32 0) [longF [5, 0, 0, 0]] _ _ 0 1 [sl bq 0 32 32] 23 (0, 0) _ (rdS_all (b := b9) (T := 51) (by repeat (first | exact List.mem_cons_self | exact List.mem_cons_of_mem _ (by assumption) | assumption | refine List.mem_cons_of_mem _ ?_ | refine List.mem_append_right _ ?_)) rfl) (by decide) (by repeat (first | exact List.mem_cons_self | exact List.mem_cons_of_mem _ (by assumption) | assumption | refine List.mem_cons_of_mem _ ?_ | refine List.mem_append_right _ ?_)) (hpv1 (rdS_all (bs := longF [5, 0, 0, 0]) (T := 5) (by repeat (first | exact List.mem_cons_self | exact List.mem_cons_of_mem _ (by assumption) | assumption | refine List.mem_cons_of_mem _ ?_ | refine List.mem_append_right _ ?_)) (longF_len _))) (hpl1 (by rw [longF_len]; decide)) (by simp)).mono ?_))
      rintro v S' ⟨rfl, rfl⟩
      rw [flat1, kmK_eq]
      refine ⟨fun _ p hp => by repeat (first | exact hp | refine List.mem_cons_of_mem _ ?_ | refine List.mem_append_right _ ?_), ?_⟩
      refine DL.one 6 (by kernel_rfl) rfl rfl (OW.storeN rfl rfl Tryz.sizeOf51 (by repeat (first | exact List.mem_cons_self | exact List.mem_cons_of_mem _ (by assumption) | assumption | refine List.mem_cons_of_mem _ ?_ | refine List.mem_append_right _ ?_)) (by first | (simp only [List.length_map, List.length_replicate, List.length_cons, List.length_nil, List.length_set, Nat.mul_one] <;> omega) | (simp [*] <;> omega)) (by first | exact m_all (fun _ => rfl) _ | rfl | (simp; done) | (simp only [List.all_cons, List.all_nil, oneB_buf, Bool.true_and, Bool.and_true]; rfl) | (simp [oneB]; done)) (by first | (simp only [List.length_map, List.length_replicate, List.length_cons, List.length_nil, List.length_set, Nat.mul_one] <;> omega) | (simp [*] <;> omega)) (by first | (refine wr_all ?_; simp only [List.length_map, List.length_replicate, List.length_cons, List.length_nil, List.length_set, Nat.mul_one] <;> omega) | (refine wr_all ?_; simp [*]; done) | exact m_wr _ _ _ | with_reducible rfl) (by repeat (first | exact Upd.head | apply Upd.tail | apply Upd.tailA)) ?_)
      refine ⟨fun h => absurd rfl h, ?_⟩
      refine DL.done (by kernel_rfl) (thenN ?_)
      refine ⟨b10, (trivial), ?_, ?_⟩
      · repeat (first | exact leE_nil | refine leE_cons rfl ?_)
      · exact (by repeat (first | exact List.Sublist.refl _ | (refine keepS ?_ ?_; with_reducible rfl) | (refine keepA ?_ ?_; with_reducible rfl) | (refine keepS ?_ ?_; rfl) | apply dropS | apply dropA))
  · intro b10 hI
    refine CW.seq ?_
    refine CW.region (by kernel_rfl) ?_
    refine RL.q rfl rfl (QW.sliceA0 Tryz.runUnderlying51 Tryz.sizeOf5 rfl optV_none optV_none (.inl rfl) (by first | omega | (dsimp only; omega)) (by first | omega | (dsimp only; omega))) ?_
    refine RL.cons rfl (OW.buildSliceP (cells := [u8 108, u8 97, u8 110, u8 101, u8 1]) (ps := [(0, u8 108), (1, u8 97), (2, u8 110), (3, u8 101), (4, u8 1)]) Tryz.runUnderlying23 Tryz.sizeOf5 zv5 rfl (by decide) (by decide) (parts_of rfl) rfl ?_)
    intro b41
    refine RL.cons rfl (OW.convMark Tryz.runUnderlying23 Tryz.runUnderlying5 rfl (by repeat (first | exact List.mem_cons_self | exact List.mem_cons_of_mem _ (by assumption) | assumption | refine List.mem_cons_of_mem _ ?_ | refine List.mem_append_right _ ?_)) (by repeat (first | exact Upd.head | apply Upd.tail | apply Upd.tailA)) ?_)
    refine RL.cons rfl (OW.buildSlice1 Tryz.runUnderlying83 Tryz.sizeOf23 zv23 rfl rfl rfl ?_)
    intro b43
    refine RL.cons rfl (OW.call Tryz.call113 (ext2 rfl rfl) ((MacOf_c (kmK [5, 0, 0, 0] (List.replicate 32 0)) [laneB ++ [1]] _ _ 0 1 [sl b41 0 5 5] 23 (0, 0) _ (rdS_all (b := b10) (T := 51) (by repeat (first | exact List.mem_cons_self | exact List.mem_cons_of_mem _ (by assumption) | assumption | refine List.mem_cons_of_mem _ ?_ | refine List.mem_append_right _ ?_)) hk5) (by omega) (by repeat (first | exact List.mem_cons_self | exact List.mem_cons_of_mem _ (by assumption) | assumption | refine List.mem_cons_of_mem _ ?_ | refine List.mem_append_right _ ?_)) (hpv1 (rdM_all (bs := laneB ++ [1]) (T := 5) (by repeat (first | exact List.mem_cons_self | exact List.mem_cons_of_mem _ (by assumption) | assumption | refine List.mem_cons_of_mem _ ?_ | refine List.mem_append_right _ ?_)) rfl)) (hpl1 (by decide)) (by simp)).mono ?_))
    rintro v S' ⟨rfl, rfl⟩
    rw [flat1, km1]
    refine RL.cons rfl (OW.alloc zv51 rfl ?_)
    intro b11
    refine RL.cons rfl (OW.storeN rfl rfl Tryz.sizeOf51 (by repeat (first | exact List.mem_cons_self | exact List.mem_cons_of_mem _ (by assumption) | assumption | refine List.mem_cons_of_mem _ ?_ | refine List.mem_append_right _ ?_)) (by first | (simp only [List.length_map, List.length_replicate, List.length_cons, List.length_nil, List.length_set, Nat.mul_one] <;> omega) | (simp [*] <;> omega)) (by first | exact m_all (fun _ => rfl) _ | rfl | (simp; done) | (simp only [List.all_cons, List.all_nil, oneB_buf, Bool.true_and, Bool.and_true]; rfl) | (simp [oneB]; done)) (by first | (simp only [List.length_map, List.length_replicate, List.length_cons, List.length_nil, List.length_set, Nat.mul_one] <;> omega) | (simp [*] <;> omega)) (by first | (refine wr_all ?_; simp only [List.length_map, List.length_replicate, List.length_cons, List.length_nil, List.length_set, Nat.mul_one] <;> omega) | (refine wr_all ?_; simp [*]; done) | exact m_wr _ _ _ | with_reducible rfl) (by repeat (first | exact Upd.head | apply Upd.tail | apply Upd.tailA)) ?_)
    refine RL.nil (thenN ?_)
    refine CW.seq ?_
    refine CW.region (by kernel_rfl) ?_
    refine RL.q rfl rfl (QW.move rfl) ?_
    refine RL.q rfl rfl (QW.eql (t := true) rfl rfl (by decide)) ?_
    refine RL.q rfl rfl (QW.move rfl) ?_
    first | (refine RL.guard_no rfl rfl rfl rfl rfl ?_) | (refine RL.guard_yes rfl rfl rfl rfl (OW.q rfl (QW.move rfl) ?_))
    first | (refine RL.guard_no rfl rfl rfl rfl rfl ?_) | (refine RL.guard_yes rfl rfl rfl rfl (OW.q rfl (QW.sliceA0 Tryz.runUnderlying51 Tryz.sizeOf5 rfl optV_none optV_none (.inl rfl) (by first | omega | (dsimp only; omega)) (by first | omega | (dsimp only; omega))) ?_))
    refine RL.guard_yes rfl rfl rfl rfl (OW.call Tryz.call12 (ext2 rfl rfl) ((Same_v (kmT (kmK [5, 0, 0, 0] (List.replicate 32 0)) 1) _ _ _ (hwh (by repeat (first | exact List.mem_cons_self | exact List.mem_cons_of_mem _ (by assumption) | assumption | refine List.mem_cons_of_mem _ ?_ | refine List.mem_append_right _ ?_))) (rdS_all (b := b11) (T := 51) (by repeat (first | exact List.mem_cons_self | exact List.mem_cons_of_mem _ (by assumption) | assumption | refine List.mem_cons_of_mem _ ?_ | refine List.mem_append_right _ ?_)) h32).1 (by omega)).mono ?_))
    rintro v S' ⟨rfl, rfl⟩
    refine RL.q rfl rfl ((by first | exact QW.pick_t rfl rfl | exact QW.pick_f rfl rfl)) ?_
    refine RL.q rfl rfl (QW.move rfl) ?_
    first | (refine RL.guard_no rfl rfl rfl rfl rfl ?_) | (refine RL.guard_yes rfl rfl rfl rfl (OW.q rfl (QW.move rfl) ?_))
    first | (refine RL.guard_no rfl rfl rfl rfl rfl ?_) | (refine RL.guard_yes rfl rfl rfl rfl (OW.q rfl (QW.eql (t := true) rfl rfl (by decide)) ?_))
    refine RL.q rfl rfl ((by first | exact QW.pick_t rfl rfl | exact QW.pick_f rfl rfl)) ?_
    refine RL.q rfl rfl (QW.move rfl) ?_
    first | (refine RL.guard_no rfl rfl rfl rfl rfl ?_) | (refine RL.guard_yes rfl rfl rfl rfl (OW.q rfl (QW.move rfl) ?_))
    first | (refine RL.guard_no rfl rfl rfl rfl rfl ?_) | (refine RL.guard_yes rfl rfl rfl rfl (OW.q rfl (QW.eql (t := true) rfl rfl (by decide)) ?_))
    refine RL.q rfl rfl ((by first | exact QW.pick_t rfl rfl | exact QW.pick_f rfl rfl)) ?_
    refine RL.q rfl rfl (QW.move rfl) ?_
    first | (refine RL.guard_no rfl rfl rfl rfl rfl ?_) | (refine RL.guard_yes rfl rfl rfl rfl (OW.q rfl (QW.move rfl) ?_))
    first | (refine RL.guard_no rfl rfl rfl rfl rfl ?_) | (refine RL.guard_yes rfl rfl rfl rfl (OW.q rfl (QW.eql (t := true) rfl rfl (by decide)) ?_))
    refine RL.q rfl rfl ((by first | exact QW.pick_t rfl rfl | exact QW.pick_f rfl rfl)) ?_
    refine RL.q rfl rfl (QW.assign rfl) ?_
    refine RL.nil (thenN ?_)
    refine CW.ret (retR (S) (ResOk.one Tryz.results16 (ResV.tmp rfl)) (by repeat (first | exact List.Sublist.refl _ | (refine keepS ?_ ?_; with_reducible rfl) | (refine keepA ?_ ?_; with_reducible rfl) | (refine keepS ?_ ?_; rfl) | apply dropS | apply dropA)) ?_)
    exact ⟨rfl, rfl⟩

end Go.Sl

/- burrowlaw10.KeymatsOf: the law. -/
set_option linter.unusedVariables false
set_option linter.unusedSimpArgs false
namespace Go.Sl
open Go.Proofs

abbrev keyF1 : Field := { name := "Mac", type := 51, offset := 0, embedded := false, tag := "", pkgPath := "", byteOffset := 0 }
abbrev keyF2 : Field := { name := "Cipher", type := 22, offset := 32, embedded := false, tag := "", pkgPath := "", byteOffset := 32 }
theorem keyFs : Tryz.prog.fieldsOf 58 = #[keyF1, keyF2] := by rw [Program.fieldsOf, Tryz.underlying58]
theorem QW.eqlKeys {S : HL} {σ : Env} {dst : Option Nat} {ty : TypeId} {pos : String} {aft : Array Edge} {g : Option (Nat × Bool)} {x y : Operand} {xs : List UInt8} (hx : ev σ x = some (.agg ⟨xs.map u8⟩)) (hy : ev σ y = some (.agg ⟨xs.map u8⟩)) (hl : xs.length = 48) :
    QW Tryz.prog S ⟨dst, .binOp .eql 58 x y 58, ty, pos, aft, g⟩ σ (.bool true) :=
  QW.eqlS2 (f1 := keyF1) (f2 := keyF2) (n1 := 32) (n2 := 16) (e := 5) (i := Tryz.t5) hx hy (by kernel_rfl) (by rw [keyFs]; exact Tryz.underlying58) (by kernel_rfl) (by rw [keyFs]) (by decide) (by decide) rfl rfl
    Tryz.underlying51 Tryz.underlying22 Tryz.isAgg51 Tryz.isAgg22 Tryz.sizeOf51 Tryz.sizeOf22 (by kernel_rfl) (by kernel_rfl) Tryz.underlying5 (by kernel_rfl) hl hl (decide_eq_true rfl)

theorem zv43 : ZV Tryz.prog 43 (.agg ⟨([nI 0] ++ [.slice none 0 0] ++ [.slice none 0 0] ++ [.slice none 0 0] ++ [.slice none 0 0] ++ [.slice none 0 0] ++ [.slice none 0 0] ++ [.slice none 0 0] ++ [.slice none 0 0] ++ [.slice none 0 0] ++ [.slice none 0 0] ++ [.slice none 0 0] ++ [.slice none 0 0] ++ [.slice none 0 0] ++ [.slice none 0 0] ++ [.slice none 0 0])⟩) := fun _ => by kernel_rfl
set_option maxRecDepth 100000 in
set_option maxHeartbeats 1000000 in
theorem law10_c (shared : List UInt64) (id bs : List UInt8) (nb pl : Int) (a : Option Addr) (c : Nat) (S : HL) (hsh : shared.length = 4) (hid : id.length = 32) (hv : RdB S (.slice a bs.length c) bs) : CallS Tryz.prog 4 ⟨[.agg ⟨(shared.map u64 ++ (id.map u8 ++ [Value.int .i64 nb, Value.int .i64 pl, Value.slice a bs.length c]))⟩]⟩ S fun v S' => v = .bool true ∧ S = S' := by
  have hg36 : (shared.map u64 ++ (id.map u8 ++ [Value.int .i64 nb, Value.int .i64 pl, Value.slice a bs.length c]))[36]? = some (.int .i64 nb) := by simp [List.getElem?_append, hsh, hid]
  have hg37 : (shared.map u64 ++ (id.map u8 ++ [Value.int .i64 nb, Value.int .i64 pl, Value.slice a bs.length c]))[37]? = some (.int .i64 pl) := by simp [List.getElem?_append, hsh, hid]
  have hg38 : (shared.map u64 ++ (id.map u8 ++ [Value.int .i64 nb, Value.int .i64 pl, Value.slice a bs.length c]))[38]? = some (.slice a bs.length c) := by simp [List.getElem?_append, hsh, hid]
  have hgn : ((shared.map u64 ++ (id.map u8 ++ [Value.int .i64 nb, Value.int .i64 pl, Value.slice a bs.length c])).drop 0).take 4 = shared.map u64 := by rw [List.drop_zero, List.take_append_of_le_length (by simp [hsh]), List.take_of_length_le (by simp [hsh])]
  have hgs : ((shared.map u64 ++ (id.map u8 ++ [Value.int .i64 nb, Value.int .i64 pl, Value.slice a bs.length c])).drop 4).take 32 = id.map u8 := by rw [List.drop_append_of_le_length (by simp [hsh]), List.drop_of_length_le (by simp [hsh]), List.nil_append, List.take_append_of_le_length (by simp [hid]), List.take_of_length_le (by simp [hid])]
  have hcl := cRes_len bs pl
  refine CallS.enter Tryz.func4 rfl Tryz.ntmps4 (by simp) ?_
  refine CW.seq ?_
  refine CW.region (by kernel_rfl) ?_
  refine RL.cons rfl (OW.boxN rfl ?_)
  intro b1
  refine RL.q rfl rfl (QW.assign rfl) ?_
  refine RL.nil (thenN ?_)
  refine CW.seq ?_
  refine CW.seq ?_
  refine CW.region (by kernel_rfl) ?_
  refine RL.q rfl rfl (QW.fieldAddr Tryz.runUnderlying53 rfl Tryz.sizeOf23 (by decide) rfl (by first | exact fo0 38 | exact foB _ 38)) ?_
  refine RL.q rfl rfl (QW.load1 rfl Tryz.isAgg23 (by repeat (first | exact List.mem_cons_self | exact List.mem_cons_of_mem _ (by assumption) | assumption | refine List.mem_cons_of_mem _ ?_ | refine List.mem_append_right _ ?_)) hg38) ?_
  refine RL.q rfl rfl (QW.len_s Tryz.runUnderlying23 rfl) ?_
  refine RL.q rfl rfl (QW.gtr rfl rfl (dI_lt 20000 _)) ?_
  refine RL.nil (thenN ?_)
  refine CW.cond rfl (fun hc0 => ?_) (fun hc0 => ?_)
  · refine CW.seq ?_
    refine CW.region (by kernel_rfl) ?_
    refine RL.cons rfl (OW.call Tryz.call16 (fun _ _ => ext_nil) ((lives10_c _).mono ?_))
    rintro v S' ⟨rfl, rfl⟩
    refine RL.q rfl rfl (QW.assign rfl) ?_
    refine RL.nil (thenN ?_)
    refine CW.ret (thenR (retR (S) (ResOk.one Tryz.results4 (ResV.tmp rfl)) (by repeat (first | exact List.Sublist.refl _ | (refine keepS ?_ ?_; with_reducible rfl) | (refine keepA ?_ ?_; with_reducible rfl) | (refine keepS ?_ ?_; rfl) | apply dropS | apply dropA)) ?_))
    exact ⟨rfl, rfl⟩
  · have hb : bs.length ≤ 20000 := by simpa using hc0
    refine CW.skip (thenN ?_)
    refine CW.seq ?_
    refine CW.region (by kernel_rfl) ?_
    refine RL.q rfl rfl (QW.fieldAddr Tryz.runUnderlying53 rfl Tryz.sizeOf49 (by decide) rfl (by first | exact fo0 0 | exact foB _ 0)) ?_
    refine RL.q rfl rfl (QW.loadN (r := shared.map u64) rfl Tryz.isAgg49 Tryz.sizeOf49 (by repeat (first | exact List.mem_cons_self | exact List.mem_cons_of_mem _ (by assumption) | assumption | refine List.mem_cons_of_mem _ ?_ | refine List.mem_append_right _ ?_)) (by simp [hsh, hid]) hgn) ?_
    refine RL.q rfl rfl (QW.fieldAddr Tryz.runUnderlying53 rfl Tryz.sizeOf51 (by decide) rfl (by first | exact fo0 4 | exact foB _ 4)) ?_
    refine RL.q rfl rfl (QW.loadN (r := id.map u8) rfl Tryz.isAgg51 Tryz.sizeOf51 (by repeat (first | exact List.mem_cons_self | exact List.mem_cons_of_mem _ (by assumption) | assumption | refine List.mem_cons_of_mem _ ?_ | refine List.mem_append_right _ ?_)) (by simp [hsh, hid]) hgs) ?_
    refine RL.q rfl rfl (QW.fieldAddr Tryz.runUnderlying53 rfl Tryz.sizeOf3 (by decide) rfl (by first | exact fo0 36 | exact foB _ 36)) ?_
    refine RL.q rfl rfl (QW.load1 rfl Tryz.isAgg3 (by repeat (first | exact List.mem_cons_self | exact List.mem_cons_of_mem _ (by assumption) | assumption | refine List.mem_cons_of_mem _ ?_ | refine List.mem_append_right _ ?_)) hg36) ?_
    refine RL.cons rfl (OW.call Tryz.call17 (ext3 rfl rfl rfl) ((KOf_u shared id nb _ hsh hid).mono ?_))
    rintro v S' ⟨l, hlo, hlx, rfl, rfl⟩
    have hlb : l.xs.length ≤ 8160 := by rw [hlx]; exact kRes_len _ _ _
    have hrl : ∀ {T : HL}, (∀ p ∈ l.h, p ∈ T) → RdB T l.v (kRes shared id nb) := fun h => hlx ▸ BL.rd hlo h
    refine RL.q rfl rfl (QW.move rfl) ?_
    refine RL.q rfl rfl (QW.extract rfl rfl) ?_
    refine RL.q rfl rfl (QW.extract rfl rfl) ?_
    refine RL.q rfl rfl (QW.assign rfl) ?_
    refine RL.q rfl rfl (QW.assign rfl) ?_
    refine RL.nil (thenN ?_)
    refine CW.seq ?_
    refine CW.region (by kernel_rfl) ?_
    refine RL.q rfl rfl (QW.fieldAddr Tryz.runUnderlying53 rfl Tryz.sizeOf49 (by decide) rfl (by first | exact fo0 0 | exact foB _ 0)) ?_
    refine RL.q rfl rfl (QW.loadN (r := shared.map u64) rfl Tryz.isAgg49 Tryz.sizeOf49 (by repeat (first | exact List.mem_cons_self | exact List.mem_cons_of_mem _ (by assumption) | assumption | refine List.mem_cons_of_mem _ ?_ | refine List.mem_append_right _ ?_)) (by simp [hsh, hid]) hgn) ?_
    refine RL.q rfl rfl (QW.fieldAddr Tryz.runUnderlying53 rfl Tryz.sizeOf51 (by decide) rfl (by first | exact fo0 4 | exact foB _ 4)) ?_
    refine RL.q rfl rfl (QW.loadN (r := id.map u8) rfl Tryz.isAgg51 Tryz.sizeOf51 (by repeat (first | exact List.mem_cons_self | exact List.mem_cons_of_mem _ (by assumption) | assumption | refine List.mem_cons_of_mem _ ?_ | refine List.mem_append_right _ ?_)) (by simp [hsh, hid]) hgs) ?_
    refine RL.q rfl rfl (QW.fieldAddr Tryz.runUnderlying53 rfl Tryz.sizeOf3 (by decide) rfl (by first | exact fo0 36 | exact foB _ 36)) ?_
    refine RL.q rfl rfl (QW.load1 rfl Tryz.isAgg3 (by repeat (first | exact List.mem_cons_self | exact List.mem_cons_of_mem _ (by assumption) | assumption | refine List.mem_cons_of_mem _ ?_ | refine List.mem_append_right _ ?_)) hg36) ?_
    refine RL.cons rfl (OW.call Tryz.call18 (ext3 rfl rfl rfl) ((rKOf_u shared id nb _ hsh hid).mono ?_))
    rintro v S' ⟨q, Z, rfl, hr5, rfl⟩
    refine RL.q rfl rfl (QW.move rfl) ?_
    refine RL.q rfl rfl (QW.extract rfl rfl) ?_
    refine RL.q rfl rfl (QW.extract rfl rfl) ?_
    refine RL.q rfl rfl (QW.assign rfl) ?_
    refine RL.q rfl rfl (QW.assign rfl) ?_
    refine RL.nil (thenN ?_)
    refine CW.seq ?_
    refine CW.region (by kernel_rfl) ?_
    refine RL.q rfl rfl (QW.fieldAddr Tryz.runUnderlying53 rfl Tryz.sizeOf23 (by decide) rfl (by first | exact fo0 38 | exact foB _ 38)) ?_
    refine RL.q rfl rfl (QW.load1 rfl Tryz.isAgg23 (by repeat (first | exact List.mem_cons_self | exact List.mem_cons_of_mem _ (by assumption) | assumption | refine List.mem_cons_of_mem _ ?_ | refine List.mem_append_right _ ?_)) hg38) ?_
    refine RL.cons rfl (OW.call Tryz.call9 (ext1 rfl) ((Twin_c bs a c _ (hv.mono (fun p hp => by repeat (first | exact hp | refine List.mem_cons_of_mem _ ?_ | refine List.mem_append_right _ ?_))) (by omega)).mono ?_))
    rintro v S' ⟨b7, rfl, rfl⟩
    refine RL.q rfl rfl (QW.assign rfl) ?_
    refine RL.nil (thenN ?_)
    refine CW.seq ?_
    refine CW.region (by kernel_rfl) ?_
    refine RL.q rfl rfl (QW.move rfl) ?_
    refine RL.q rfl rfl (QW.fieldAddr Tryz.runUnderlying53 rfl Tryz.sizeOf3 (by decide) rfl (by first | exact fo0 37 | exact foB _ 37)) ?_
    refine RL.q rfl rfl (QW.load1 rfl Tryz.isAgg3 (by repeat (first | exact List.mem_cons_self | exact List.mem_cons_of_mem _ (by assumption) | assumption | refine List.mem_cons_of_mem _ ?_ | refine List.mem_append_right _ ?_)) hg37) ?_
    refine RL.cons rfl (OW.call Tryz.call19 (ext2 rfl rfl) ((KCut_u bs pl (bs.length + 1) (some ⟨b7, 0, none⟩) _ ⟨RdB.twin (by repeat (first | exact List.mem_cons_self | exact List.mem_cons_of_mem _ (by assumption) | assumption | refine List.mem_cons_of_mem _ ?_ | refine List.mem_append_right _ ?_)), _, _, rfl, by omega⟩ (by omega)).mono ?_))
    rintro v S' ⟨rfl, rfl⟩
    refine RL.q rfl rfl (QW.move rfl) ?_
    refine RL.q rfl rfl (QW.extract rfl rfl) ?_
    refine RL.q rfl rfl (QW.extract rfl rfl) ?_
    refine RL.cons rfl (OW.alloc zv58 rfl ?_)
    intro b8
    refine RL.cons rfl (OW.storeN rfl rfl Tryz.sizeOf58 (by repeat (first | exact List.mem_cons_self | exact List.mem_cons_of_mem _ (by assumption) | assumption | refine List.mem_cons_of_mem _ ?_ | refine List.mem_append_right _ ?_)) (by first | (simp only [List.length_map, List.length_replicate, List.length_cons, List.length_nil, List.length_set, Nat.mul_one] <;> omega) | (simp [*] <;> omega)) (by first | exact m_all (fun _ => rfl) _ | rfl | (simp; done) | (simp only [List.all_cons, List.all_nil, oneB_buf, Bool.true_and, Bool.and_true]; rfl) | (simp [oneB]; done)) (by first | (simp only [List.length_map, List.length_replicate, List.length_cons, List.length_nil, List.length_set, Nat.mul_one] <;> omega) | (simp [*] <;> omega)) (by first | (refine wr_all ?_; simp only [List.length_map, List.length_replicate, List.length_cons, List.length_nil, List.length_set, Nat.mul_one] <;> omega) | (refine wr_all ?_; simp [*]; done) | exact m_wr _ _ _ | with_reducible rfl) (by repeat (first | exact Upd.head | apply Upd.tail | apply Upd.tailA)) ?_)
    refine RL.q rfl rfl (QW.assign rfl) ?_
    refine RL.nil (thenN ?_)
    refine CW.seq ?_
    refine CW.region (by kernel_rfl) ?_
    refine RL.q rfl rfl (QW.fieldAddr Tryz.runUnderlying53 rfl Tryz.sizeOf23 (by decide) rfl (by first | exact fo0 38 | exact foB _ 38)) ?_
    refine RL.q rfl rfl (QW.load1 rfl Tryz.isAgg23 (by repeat (first | exact List.mem_cons_self | exact List.mem_cons_of_mem _ (by assumption) | assumption | refine List.mem_cons_of_mem _ ?_ | refine List.mem_append_right _ ?_)) hg38) ?_
    refine RL.q rfl rfl (QW.fieldAddr Tryz.runUnderlying53 rfl Tryz.sizeOf3 (by decide) rfl (by first | exact fo0 37 | exact foB _ 37)) ?_
    refine RL.q rfl rfl (QW.load1 rfl Tryz.isAgg3 (by repeat (first | exact List.mem_cons_self | exact List.mem_cons_of_mem _ (by assumption) | assumption | refine List.mem_cons_of_mem _ ?_ | refine List.mem_append_right _ ?_)) hg37) ?_
    refine RL.cons rfl (OW.call Tryz.call20 (ext2 rfl rfl) ((rKCut_u bs pl c a _ (hv.mono (fun p hp => by repeat (first | exact hp | refine List.mem_cons_of_mem _ ?_ | refine List.mem_append_right _ ?_))) (by omega)).mono ?_))
    rintro v S' ⟨rfl, rfl⟩
    refine RL.q rfl rfl (QW.move rfl) ?_
    refine RL.q rfl rfl (QW.extract rfl rfl) ?_
    refine RL.q rfl rfl (QW.extract rfl rfl) ?_
    refine RL.cons rfl (OW.alloc zv58 rfl ?_)
    intro b10
    refine RL.cons rfl (OW.storeN rfl rfl Tryz.sizeOf58 (by repeat (first | exact List.mem_cons_self | exact List.mem_cons_of_mem _ (by assumption) | assumption | refine List.mem_cons_of_mem _ ?_ | refine List.mem_append_right _ ?_)) (by first | (simp only [List.length_map, List.length_replicate, List.length_cons, List.length_nil, List.length_set, Nat.mul_one] <;> omega) | (simp [*] <;> omega)) (by first | exact m_all (fun _ => rfl) _ | rfl | (simp; done) | (simp only [List.all_cons, List.all_nil, oneB_buf, Bool.true_and, Bool.and_true]; rfl) | (simp [oneB]; done)) (by first | (simp only [List.length_map, List.length_replicate, List.length_cons, List.length_nil, List.length_set, Nat.mul_one] <;> omega) | (simp [*] <;> omega)) (by first | (refine wr_all ?_; simp only [List.length_map, List.length_replicate, List.length_cons, List.length_nil, List.length_set, Nat.mul_one] <;> omega) | (refine wr_all ?_; simp [*]; done) | exact m_wr _ _ _ | with_reducible rfl) (by repeat (first | exact Upd.head | apply Upd.tail | apply Upd.tailA)) ?_)
    refine RL.q rfl rfl (QW.assign rfl) ?_
    refine RL.nil (thenN ?_)
    refine CW.seq ?_
    refine CW.region (by kernel_rfl) ?_
    refine RL.cons rfl (OW.alloc zv43 rfl ?_)
    intro b12
    refine RL.nil (thenN ?_)
    refine CW.seq ?_
    refine CW.region (by kernel_rfl) ?_
    refine RL.q rfl rfl (QW.move rfl) ?_
    refine RL.cons rfl (OW.call Tryz.call11 (ext2 rfl rfl) ((BytesL_c b12 0 0 l none [] (List.replicate 14 (.slice none 0 0)) ((b10, blk ((cRes bs pl).map u8) 58) :: (b8, blk ((cRes bs pl).map u8) 58) :: (b7, blk (bs.map u8 ++ [u8 77]) 5) :: (Z ++ (l.h ++ ((b1, blk (shared.map u64 ++ (id.map u8 ++ [Value.int .i64 nb, Value.int .i64 pl, Value.slice a bs.length c])) 53) :: S)))) rfl rfl (by omega) (by omega) rfl).mono ?_))
    rintro v S' ⟨o1, ho1, rfl, rfl⟩
    refine RL.nil (thenN ?_)
    refine CW.seq ?_
    refine CW.region (by kernel_rfl) ?_
    refine RL.q rfl rfl (QW.move rfl) ?_
    refine RL.cons rfl (OW.call Tryz.call11 (ext2 rfl rfl) ((BytesL_c b12 1 1 (⟨some ⟨b7, [], bs.length + 1, [u8 77], 5⟩, bs⟩ : BL) o1 [l.v, .slice none 0 0, nI 1] (List.replicate 14 (.slice none 0 0)) ((b10, blk ((cRes bs pl).map u8) 58) :: (b8, blk ((cRes bs pl).map u8) 58) :: (b7, blk (bs.map u8 ++ [u8 77]) 5) :: (Z ++ (l.h ++ ((b1, blk (shared.map u64 ++ (id.map u8 ++ [Value.int .i64 nb, Value.int .i64 pl, Value.slice a bs.length c])) 53) :: S)))) ho1 rfl (by omega) (by omega) rfl).mono ?_))
    rintro v S' ⟨o2, ho2, rfl, rfl⟩
    refine RL.nil (thenN ?_)
    refine CW.seq ?_
    refine CW.region (by kernel_rfl) ?_
    refine RL.q rfl rfl (QW.move rfl) ?_
    refine RL.q rfl rfl (QW.move rfl) ?_
    refine RL.q rfl rfl (QW.eql (t := true) rfl rfl (by simp)) ?_
    refine RL.q rfl rfl (QW.move rfl) ?_
    first | (refine RL.guard_no rfl rfl rfl rfl rfl ?_) | (refine RL.guard_yes rfl rfl rfl rfl (OW.q rfl (QW.move rfl) ?_))
    first | (refine RL.guard_no rfl rfl rfl rfl rfl ?_) | (refine RL.guard_yes rfl rfl rfl rfl (OW.q rfl (QW.move rfl) ?_))
    refine RL.guard_yes rfl rfl rfl rfl (OW.call Tryz.call12 (ext2 rfl rfl) ((Same_v (kRes shared id nb) _ _ _ (hrl (fun p hp => by repeat (first | exact List.mem_append_left _ hp | refine List.mem_cons_of_mem _ ?_ | refine List.mem_append_right _ ?_))) (hr5.mono (fun p hp => by repeat (first | exact hp | refine List.mem_cons_of_mem _ ?_ | refine List.mem_append_right _ ?_))) (by rw [← hlx]; omega)).mono ?_))
    rintro v S' ⟨rfl, rfl⟩
    refine RL.q rfl rfl ((by first | exact QW.pick_t rfl rfl | exact QW.pick_f rfl rfl)) ?_
    refine RL.q rfl rfl (QW.move rfl) ?_
    first | (refine RL.guard_no rfl rfl rfl rfl rfl ?_) | (refine RL.guard_yes rfl rfl rfl rfl (OW.q rfl (QW.move rfl) ?_))
    first | (refine RL.guard_no rfl rfl rfl rfl rfl ?_) | (refine RL.guard_yes rfl rfl rfl rfl (OW.q rfl (QW.move rfl) ?_))
    first | (refine RL.guard_no rfl rfl rfl rfl rfl ?_) | (refine RL.guard_yes rfl rfl rfl rfl (OW.q rfl (QW.eql (t := true) rfl rfl (by simp)) ?_))
    refine RL.q rfl rfl ((by first | exact QW.pick_t rfl rfl | exact QW.pick_f rfl rfl)) ?_
    refine RL.q rfl rfl (QW.move rfl) ?_
    first | (refine RL.guard_no rfl rfl rfl rfl rfl ?_) | (refine RL.guard_yes rfl rfl rfl rfl (OW.q rfl (QW.loadN (r := (cRes bs pl).map u8) rfl Tryz.isAgg58 Tryz.sizeOf58 (by repeat (first | exact List.mem_cons_self | exact List.mem_cons_of_mem _ (by assumption) | assumption | refine List.mem_cons_of_mem _ ?_ | refine List.mem_append_right _ ?_)) (by simp [hcl]) (by rw [List.drop_zero, List.take_of_length_le (by simp [hcl])])) ?_))
    first | (refine RL.guard_no rfl rfl rfl rfl rfl ?_) | (refine RL.guard_yes rfl rfl rfl rfl (OW.q rfl (QW.loadN (r := (cRes bs pl).map u8) rfl Tryz.isAgg58 Tryz.sizeOf58 (by repeat (first | exact List.mem_cons_self | exact List.mem_cons_of_mem _ (by assumption) | assumption | refine List.mem_cons_of_mem _ ?_ | refine List.mem_append_right _ ?_)) (by simp [hcl]) (by rw [List.drop_zero, List.take_of_length_le (by simp [hcl])])) ?_))
    first | (refine RL.guard_no rfl rfl rfl rfl rfl ?_) | (refine RL.guard_yes rfl rfl rfl rfl (OW.q rfl (QW.eqlKeys rfl rfl hcl) ?_))
    refine RL.q rfl rfl ((by first | exact QW.pick_t rfl rfl | exact QW.pick_f rfl rfl)) ?_
    refine RL.q rfl rfl (QW.move rfl) ?_
    first | (refine RL.guard_no rfl rfl rfl rfl rfl ?_) | (refine RL.guard_yes rfl rfl rfl rfl (OW.q rfl (QW.move rfl) ?_))
    first | (refine RL.guard_no rfl rfl rfl rfl rfl ?_) | (refine RL.guard_yes rfl rfl rfl rfl (OW.q rfl (QW.fieldAddr Tryz.runUnderlying53 rfl Tryz.sizeOf23 (by decide) rfl (by first | exact fo0 38 | exact foB _ 38)) ?_))
    first | (refine RL.guard_no rfl rfl rfl rfl rfl ?_) | (refine RL.guard_yes rfl rfl rfl rfl (OW.q rfl (QW.load1 rfl Tryz.isAgg23 (by repeat (first | exact List.mem_cons_self | exact List.mem_cons_of_mem _ (by assumption) | assumption | refine List.mem_cons_of_mem _ ?_ | refine List.mem_append_right _ ?_)) hg38) ?_))
    refine RL.guard_yes rfl rfl rfl rfl (OW.call Tryz.call14 (ext2 rfl rfl) ((Left_c bs b7 0 (bs.length + 1) (bs.map u8 ++ [u8 77]) 5 (0, 0) a c _ (by omega) (by repeat (first | exact List.mem_cons_self | exact List.mem_cons_of_mem _ (by assumption) | assumption | refine List.mem_cons_of_mem _ ?_ | refine List.mem_append_right _ ?_)) (fun k hk => twin_get bs k hk) (twin_77 bs) (hv.mono (fun p hp => by repeat (first | exact hp | refine List.mem_cons_of_mem _ ?_ | refine List.mem_append_right _ ?_))) (by omega)).mono ?_))
    rintro v S' ⟨rfl, rfl⟩
    refine RL.q rfl rfl ((by first | exact QW.pick_t rfl rfl | exact QW.pick_f rfl rfl)) ?_
    refine RL.q rfl rfl (QW.move rfl) ?_
    refine RL.guard_yes rfl rfl rfl rfl (OW.call Tryz.call15 (ext1 rfl) ((ApartP2_c b12 o2 l (⟨some ⟨b7, [], bs.length + 1, [u8 77], 5⟩, bs⟩ : BL) ((b10, blk ((cRes bs pl).map u8) 58) :: (b8, blk ((cRes bs pl).map u8) 58) :: (b7, blk (bs.map u8 ++ [u8 77]) 5) :: (Z ++ (l.h ++ ((b1, blk (shared.map u64 ++ (id.map u8 ++ [Value.int .i64 nb, Value.int .i64 pl, Value.slice a bs.length c])) 53) :: S)))) _ _ ho2 ⟨hlo, by omega⟩ ⟨⟨by simp, by simp⟩, by show bs.length ≤ 1000000; omega⟩ (by repeat (first | exact Pull.here | exact Pull.here1 | apply Pull.there | apply Pull.thereA)) (by repeat (first | exact Pull.here | exact Pull.here1 | apply Pull.there | apply Pull.thereA))).mono ?_))
    rintro v S' ⟨Z2, rfl, rfl⟩
    refine RL.q rfl rfl ((by first | exact QW.pick_t rfl rfl | exact QW.pick_f rfl rfl)) ?_
    refine RL.q rfl rfl (QW.move rfl) ?_
    refine RL.guard_yes rfl rfl rfl rfl (OW.call Tryz.call16 (fun _ _ => ext_nil) ((lives10_c _).mono ?_))
    rintro v S' ⟨rfl, rfl⟩
    refine RL.q rfl rfl ((by first | exact QW.pick_t rfl rfl | exact QW.pick_f rfl rfl)) ?_
    refine RL.q rfl rfl (QW.assign rfl) ?_
    refine RL.nil (thenN ?_)
    refine CW.ret (retR (S) (ResOk.one Tryz.results4 (ResV.tmp rfl)) (by repeat (first | exact List.Sublist.refl _ | (refine keepS ?_ ?_; with_reducible rfl) | (refine keepA ?_ ?_; with_reducible rfl) | (refine keepS ?_ ?_; rfl) | apply dropS | apply dropA)) ?_)
    exact ⟨rfl, rfl⟩

end Go.Sl

/- CiphersStream: the row's step. -/
set_option linter.unusedVariables false
set_option linter.unusedSimpArgs false
namespace Go.Sl
def allB (w : World) : HL := (w.heap.toList.zipIdx).map fun p => (p.2, p.1)
theorem allB_mem {w : World} {k : Nat} {o : Obj} (h : w.heap[k]? = some o) : (k, o) ∈ allB w := by
  refine List.mem_map.2 ⟨(o, k), ?_, rfl⟩
  rw [List.mem_zipIdx_iff_getElem?]
  simpa using h
theorem allB_get {w : World} : ∀ p ∈ allB w, w.heap[p.1]? = some p.2 := by
  intro p hp
  obtain ⟨q, hq, rfl⟩ := List.mem_map.1 hp
  rw [List.mem_zipIdx_iff_getElem?] at hq
  simpa using hq
theorem allB_nd (w : World) : ((allB w).map (·.1)).Nodup := by
  unfold allB
  rw [List.map_map]
  have : ((fun x : Nat × Obj => x.1) ∘ fun p : Obj × Nat => (p.2, p.1)) = Prod.snd := rfl
  rw [this, List.zipIdx_map_snd]
  exact List.nodup_range'
theorem allB_sat (w : World) : Sat w (allB w) w := Sat.refl (allB_nd w) allB_get
theorem below_of_sat {w w' : World} (h : Sat w (allB w) w') : Go.RowKit.Below w.heap.size w w' := by
  refine ⟨h.os, h.tape, h.output, h.size, ?_⟩
  intro k hk
  have e : w.heap[k]? = some w.heap[k] := Array.getElem?_eq_getElem hk
  rw [e]
  exact h.get (k, w.heap[k]) (allB_mem e)
theorem u8_lit {n : Int} (h : (Lit.int .u8 n).wf = true) : Value.int .u8 n = u8 (UInt8.ofNat n.toNat) := by
  have h2 : 0 ≤ n ∧ n < 256 := by
    simp [Lit.wf, IntKind.min, IntKind.max, IntKind.signed, IntKind.bits] at h
    omega
  have e : ((UInt8.ofNat n.toNat).toNat : Int) = n := by
    simp [UInt8.toNat_ofNat']
    omega
  show _ = Value.int .u8 _
  rw [e]
/-- A slice of bytes that came in. -/
theorem rd_in {w : World} {x : Addr} {len cap : Nat} {zs : List Int} (hl : len ≤ zs.length) (hc : ∀ i, i < zs.length → w.cell? (x.add i) = some (.int .u8 (zs.getD i 0))) (hw : ∀ n ∈ zs, (Lit.int .u8 n).wf = true) :
    ∃ bs : List UInt8, bs.length = len ∧ RdB (allB w) (.slice (some x) len cap) bs := by
  refine ⟨(zs.take len).map fun n => UInt8.ofNat n.toNat, by simp; omega, ?_⟩
  by_cases h0 : len = 0
  · subst h0; exact .inl ⟨rfl, _, _, rfl⟩
  · have c0 := hc 0 (by omega)
    obtain ⟨b, off, spot⟩ := x
    have hspot : spot = none := by simpa [Addr.add] using World.cell?_spot c0
    subst hspot
    obtain ⟨l, T, fr, hb⟩ : ∃ l T fr, w.heap[b]? = some (.cells ⟨l⟩ T fr) := by
      rw [Addr.add_none] at c0
      unfold World.cell? at c0
      split at c0
      · rename_i c T fr hb
        exact ⟨c.toList, T, fr, by rw [hb]⟩
      · cases c0
    refine .inr ⟨by intro h; have h9 := congrArg List.length h; simp only [List.length_map, List.length_take, List.length_nil] at h9; omega, b, off, cap, l, T, fr, ?_, allB_mem hb, ?_⟩
    · congr 1
      simp
      omega
    · intro k hk
      have hk' : k < len := by simp at hk; omega
      have ck := hc k (by omega)
      simp only [World.cell?, Addr.add_none, hb] at ck
      have hg : zs.getD k 0 = zs[k]'(by omega) := by simp [List.getD_eq_getElem?_getD, List.getElem?_eq_getElem (show k < zs.length by omega)]
      have e := u8_lit (hw (zs.getD k 0) (by rw [hg]; exact List.getElem_mem _))
      rw [e] at ck
      have e2 : ((zs.take len).map fun n => UInt8.ofNat n.toNat).getD k 0 = UInt8.ofNat (zs.getD k 0).toNat := by
        simp [List.getD_eq_getElem?_getD, List.getElem?_take, hk', List.getElem?_eq_getElem (show k < zs.length by omega)]
      rw [e2]
      simpa using ck
/-- An array of bytes that came in. -/
theorem arr_in {H : Type} {enc : TypeId × Value → H} {P : Program} {w : World} {base : Nat} {spare : Nat → Bool} {held : Bool} {t e n : Nat} {v : Value} {r : Reach} {b2 : Nat} {d : DataW H} {ps : List MemPlace} (ht : P.underlying t = some (.array n e)) (he : P.underlying e = some (.int .u8)) (hce : P.cellsOf e = 1) (hct : P.cellsOf t = n)
    (hv : Value.okWide P w r b2 t v) (h : DataW.Trod enc P w base spare held t v d ps) : ∃ xs : List UInt8, v = .agg ⟨xs.map u8⟩ ∧ xs.length = n := by
  unfold Value.okWide at hv
  rw [ht] at hv
  obtain ⟨cs, rfl, hsz, _⟩ := hv
  obtain ⟨fuel, h⟩ := h
  obtain ⟨xs, m, rfl, hx, hlen, hn, hel⟩ := DataW.trod_array ht h
  have hcs : (Value.agg cs).cells.toList = cs.toList := rfl
  rw [hcs] at hel
  have hl : cs.toList.length = n := by rw [Array.length_toList, hsz, hct]
  have each : ∀ i (hi : i < cs.toList.length), ∃ k : UInt8, cs.toList[i] = u8 k := by
    intro i hi
    have h1 := hel i (by omega)
    rw [hce, Nat.mul_one, List.getElem?_eq_getElem (by omega)] at h1
    obtain ⟨k, e1, _, e3⟩ := DataW.trod_int he h1
    have h5 : cs.toList[i]? = some (.int .u8 k) := by
      have h6 := congrArg (·[0]?) e1
      simpa [List.getElem?_take, List.getElem?_drop] using h6
    rw [List.getElem?_eq_getElem hi] at h5
    have e4 : cs.toList[i] = .int .u8 k := Option.some.inj h5
    exact ⟨_, e4.trans (u8_lit e3)⟩
  refine ⟨cs.toList.map (fun v => match v with | .int _ n => UInt8.ofNat n.toNat | _ => 0), ?_, by simpa using hl⟩
  congr 1
  apply Array.ext'
  apply List.ext_getElem (by simp)
  intro i h1 h2
  obtain ⟨k, hk⟩ := each i h1
  simp only [List.getElem_map]
  rw [hk]
  simp [u8]
end Go.Sl

/- What came in, read cell by cell: arrays of numbers, slices of bytes, within a struct. -/
set_option linter.unusedVariables false
set_option linter.unusedSimpArgs false
namespace Go.Sl
open Go.ChangeShapes Go.WideShapes Go.ChangeAt Go.RowKit Go.WideMaps Go.WideElems
theorem u64_lit {n : Int} (h : (Lit.int .u64 n).wf = true) : Value.int .u64 n = u64 (UInt64.ofNat n.toNat) := by
  have h2 : 0 ≤ n ∧ n < 18446744073709551616 := by
    simp [Lit.wf, IntKind.min, IntKind.max, IntKind.signed, IntKind.bits] at h
    omega
  have e : ((UInt64.ofNat n.toNat).toNat : Int) = n := by
    simp [UInt64.toNat_ofNat']
    omega
  show _ = Value.int .u64 _
  rw [e]
theorem map_of {α : Type} {f : α → Value} : ∀ {cs : List Value}, (∀ v ∈ cs, ∃ a, v = f a) → ∃ xs : List α, cs = xs.map f
  | [], _ => ⟨[], rfl⟩
  | v :: cs, h => by
    obtain ⟨a, ha⟩ := h v List.mem_cons_self
    obtain ⟨xs, hx⟩ := map_of (cs := cs) fun w hw => h w (List.mem_cons_of_mem _ hw)
    exact ⟨a :: xs, by rw [ha, hx]; rfl⟩
section
variable {H : Type} {enc : TypeId × Value → H} {P : Program} {w : World} {base : Nat} {spare : Nat → Bool} {held : Bool} {fuel : Nat} {t e : TypeId} {cs : List Value} {x : DataW H × List MemPlace}
theorem cells_arr {α : Type} {f : α → Value} {K : IntKind} {n : Nat} (hlit : ∀ n, (Lit.int K n).wf = true → ∃ a : α, Value.int K n = f a) (ht : P.underlying t = some (.array n e)) (he : P.underlying e = some (.int K)) (hce : P.cellsOf e = 1) (hct : P.cellsOf t = n)
    (h : DataW.trod enc P w base spare held fuel t cs = some x) : ∃ xs : List α, cs = xs.map f ∧ xs.length = n := by
  obtain ⟨xs, m, rfl, hx, hlen, hn, hel⟩ := DataW.trod_array ht h
  rw [hct] at hlen
  obtain ⟨ys, hy⟩ := map_of (f := f) (cs := cs) (by
    intro v hv
    obtain ⟨i, hi, rfl⟩ := List.getElem_of_mem hv
    have h1 := hel i (by omega)
    rw [hce, Nat.mul_one, List.getElem?_eq_getElem (by omega)] at h1
    obtain ⟨k, e1, _, e3⟩ := DataW.trod_int he h1
    have h5 : cs[i]? = some (.int K k) := by
      have h6 := congrArg (·[0]?) e1
      simpa [List.getElem?_take, List.getElem?_drop] using h6
    rw [List.getElem?_eq_getElem hi] at h5
    obtain ⟨a, ha⟩ := hlit k e3
    exact ⟨a, (Option.some.inj h5).trans ha⟩)
  exact ⟨ys, hy, by rw [hy] at hlen; simpa using hlen⟩
theorem cells_u8 {n : Nat} (ht : P.underlying t = some (.array n e)) (he : P.underlying e = some (.int .u8)) (hce : P.cellsOf e = 1) (hct : P.cellsOf t = n) (h : DataW.trod enc P w base spare held fuel t cs = some x) : ∃ xs : List UInt8, cs = xs.map u8 ∧ xs.length = n :=
  cells_arr (fun _ h => ⟨_, u8_lit h⟩) ht he hce hct h
theorem cells_u64 {n : Nat} (ht : P.underlying t = some (.array n e)) (he : P.underlying e = some (.int .u64)) (hce : P.cellsOf e = 1) (hct : P.cellsOf t = n) (h : DataW.trod enc P w base spare held fuel t cs = some x) : ∃ xs : List UInt64, cs = xs.map u64 ∧ xs.length = n :=
  cells_arr (fun _ h => ⟨_, u64_lit h⟩) ht he hce hct h
theorem cells_sl (ht : P.underlying t = some (.slice e)) (he : P.underlying e = some (.int .u8)) (hce : P.cellsOf e = 1) (h : DataW.trod enc P w base spare held fuel t cs = some x) :
    ∃ (a : Option Addr) (bs : List UInt8) (cap : Nat), cs = [.slice a bs.length cap] ∧ RdB (allB w) (.slice a bs.length cap) bs := by
  rcases open_ints ht he hce h with ⟨hcs, _⟩ | ⟨x, l, c, zs, hcs, _, hl, hm, hz, _, hcell, hwz⟩
  · exact ⟨none, [], 0, hcs, .inl ⟨rfl, _, _, rfl⟩⟩
  · obtain ⟨bs, h3, h4⟩ := rd_in (w := w) (cap := c) (len := l) (by rw [hz]; split <;> omega) hcell hwz
    subst h3
    exact ⟨_, bs, c, hcs, h4⟩
end
theorem cutL {α : Type} (cs : List α) (a n : Nat) : cs.drop a = (cs.drop a).take n ++ cs.drop (a + n) := by
  rw [← List.drop_drop, List.take_append_drop]
end Go.Sl

/- KeymatsOf: what came in. -/
namespace Go.Proofs.YtfljnclghjikdaaGreatDoor
open Go.ChangeShapes Go.WideShapes Go.ChangeAt Go.RowKit Go.WideMaps Go.WideElems
open Go.Sl (u8 u64 RdB allB allB_sat below_of_sat cells_u8 cells_u64 cells_sl cutL)
set_option linter.unusedVariables false
set_option linter.unusedSimpArgs false
theorem km_given {H : Type} {enc : TypeId × Value → H} {W : World} {base : Nat} {spare : Nat → Bool} {held : Bool} {fuel : Nat} {cs : List Value} {x : DataW H × List MemPlace} (h : DataW.trod enc Tryz.prog W base spare held fuel 53 cs = some x) :
    ∃ (shared : List UInt64) (id bs : List UInt8) (nb pl : Int) (a : Option Addr) (c : Nat), cs = shared.map u64 ++ (id.map u8 ++ [Value.int .i64 nb, Value.int .i64 pl, Value.slice a bs.length c]) ∧ shared.length = 4 ∧ id.length = 32 ∧ RdB (allB W) (.slice a bs.length c) bs := by
  obtain ⟨xs, n, _, _, hl, hxl, hf⟩ := DataW.trod_struct Tryz.underlying53 h
  have hxl : xs.length = 5 := hxl
  have hl : cs.length = 39 := by rw [hl]; kernel_rfl
  have f0 : DataW.trod enc Tryz.prog W base spare held n 49 ((cs.drop 0).take (Tryz.prog.cellsOf 49)) = xs[0]? := hf 0 _ rfl
  have f1 : DataW.trod enc Tryz.prog W base spare held n 51 ((cs.drop 4).take (Tryz.prog.cellsOf 51)) = xs[1]? := hf 1 _ rfl
  have f2 : DataW.trod enc Tryz.prog W base spare held n 3 ((cs.drop 36).take (Tryz.prog.cellsOf 3)) = xs[2]? := hf 2 _ rfl
  have f3 : DataW.trod enc Tryz.prog W base spare held n 3 ((cs.drop 37).take (Tryz.prog.cellsOf 3)) = xs[3]? := hf 3 _ rfl
  have f4 : DataW.trod enc Tryz.prog W base spare held n 23 ((cs.drop 38).take (Tryz.prog.cellsOf 23)) = xs[4]? := hf 4 _ rfl
  rw [List.getElem?_eq_getElem (by omega)] at f0 f1 f2 f3 f4
  rw [show Tryz.prog.cellsOf 49 = 4 by kernel_rfl] at f0
  rw [show Tryz.prog.cellsOf 51 = 32 by kernel_rfl] at f1
  rw [show Tryz.prog.cellsOf 3 = 1 by kernel_rfl] at f2 f3
  rw [show Tryz.prog.cellsOf 23 = 1 by kernel_rfl] at f4
  obtain ⟨shared, e0, l0⟩ := cells_u64 Tryz.underlying49 Tryz.underlying47 (by kernel_rfl) (by kernel_rfl) f0
  obtain ⟨id, e1, l1⟩ := cells_u8 Tryz.underlying51 Tryz.underlying5 (by kernel_rfl) (by kernel_rfl) f1
  obtain ⟨nb, e2, _⟩ := DataW.trod_int Tryz.underlying3 f2
  obtain ⟨pl, e3, _⟩ := DataW.trod_int Tryz.underlying3 f3
  obtain ⟨a, bs, c, e4, hv⟩ := cells_sl Tryz.underlying23 Tryz.underlying5 (by kernel_rfl) f4
  refine ⟨shared, id, bs, nb, pl, a, c, ?_, l0, l1, hv⟩
  have h39 : cs.drop (38 + 1) = [] := List.drop_of_length_le (by omega)
  calc cs = cs.drop 0 := rfl
    _ = _ := by rw [cutL cs 0 4, e0, cutL cs (0 + 4) 32, e1, cutL cs (0 + 4 + 32) 1, e2, cutL cs (0 + 4 + 32 + 1) 1, e3, cutL cs (0 + 4 + 32 + 1 + 1) 1, e4, h39]; rfl

end Go.Proofs.YtfljnclghjikdaaGreatDoor
