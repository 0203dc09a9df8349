/- A part of a proof: the walk. -/
import Derived.Test.YtfljnclghjikdaaGreatDoorProg
import Derived.Test.YtfljnclghjikdaaGreatDoorK3
import Derived.Test.YtfljnclghjikdaaGreatDoorK5
import Derived.Test.YtfljnclghjikdaaGreatDoorK6
import Derived.Test.YtfljnclghjikdaaGreatDoorK7
set_option linter.unusedVariables false
set_option linter.unusedSimpArgs false
namespace Go.Sl
open Go.Proofs

theorem rep_get {n k : Nat} {a : UInt8} (h : k < n) : (List.replicate n a).getD k 0 = a := by
  simp [List.getD_eq_getElem?_getD, List.getElem?_replicate, h]
theorem rep2_get {n m k : Nat} {a : UInt8} (h : k < n + m) : (List.replicate n a ++ List.replicate m a).getD k 0 = a := by
  rw [List.replicate_append_replicate]; exact rep_get h
theorem lookB_c (bk gb cap : Nat) (tl rest : List Value) (v1 w1 v2 w2 : Value) (xs1 xs2 ys1 ys2 : List UInt8) (S : HL) (hm1 : (bk, blk (nI 2 :: sl gb 0 2 cap :: tl) 43) ∈ S) (hm2 : (gb, blk ([v1, w1, nI 1, v2, w2, nI 2] ++ rest) 187) ∈ S)
    (hv1 : RdB S v1 xs1) (hw1 : RdB S w1 ys1) (hv2 : RdB S v2 xs2) (hw2 : RdB S w2 ys2) (hl1 : ys1.length = xs1.length + 40) (hl2 : ys2.length = xs2.length + 40)
    (hall1 : ∀ k, k < xs1.length → xs1.getD k 0 = UInt8.ofNat 1) (hall2 : ∀ k, k < xs2.length → xs2.getD k 0 = UInt8.ofNat 2) (haly1 : ∀ k, k < ys1.length → ys1.getD k 0 = UInt8.ofNat 1) (haly2 : ∀ k, k < ys2.length → ys2.getD k 0 = UInt8.ofNat 2)
    (hb1 : xs1.length ≤ 1000000) (hb2 : xs2.length ≤ 1000000) : CallS Tryz.prog 98 ⟨[ptr bk 0]⟩ S fun v S' => v = .bool true ∧ S = S' := by
  obtain ⟨a1, c1, rfl⟩ := hv1.isSl
  obtain ⟨a2, c2, rfl⟩ := hv2.isSl
  obtain ⟨d1, e1, rfl⟩ := hw1.isSl
  obtain ⟨d2, e2, rfl⟩ := hw2.isSl
  exact lookByte_c bk gb cap tl rest a1 a2 d1 d2 c1 c2 e1 e2 xs1 xs2 ys1 ys2 S hm1 hm2 hv1 hw1 hl1 hall1 haly1 hb1 hv2 hw2 hl2 hall2 haly2 hb2


set_option maxRecDepth 100000 in
theorem Apart_c (bk : Nat) (og : Buf) (o1 o2 : Option Buf) (xs1 xs2 : List UInt8) (S : HL) (ho1 : bufOk o1 xs1.length 1) (ho2 : bufOk o2 xs2.length 1) (hb1 : xs1.length ≤ 1000000) (hb2 : xs2.length ≤ 1000000) : CallS Tryz.prog 15 ⟨[ptr bk 0]⟩ ((bk, blk (nI 2 :: bufV (some og) 2 :: (List.replicate 14 (.slice none 0 0))) 43) :: (og.b, blk ([bufV o1 xs1.length, .slice none 0 0, nI 1, bufV o2 xs2.length, .slice none 0 0, nI 2] ++ og.rest) 187) :: (bufH o1 (xs1.map u8) 5 ++ (bufH o2 (xs2.map u8) 5 ++ S))) fun v S' => ∃ Z, v = .bool true ∧ S' = Z ++ S := by
  have hg := growByte_c bk og o1 o2 (List.replicate xs1.length (UInt8.ofNat 1)) (List.replicate xs2.length (UInt8.ofNat 2)) (List.replicate 14 (.slice none 0 0)) S (by simpa using ho1) (by simpa using ho2) (by simpa using hb1) (by simpa using hb2)
  simp only [List.length_replicate] at hg
  refine CallS.enter Tryz.func15 rfl Tryz.ntmps15 (by simp) ?_
  refine CW.seq ?_
  refine CW.region (by kernel_rfl) ?_
  refine RL.q rfl rfl (QW.assign rfl) ?_
  refine RL.nil (thenN ?_)
  refine CW.seq ?_
  refine CW.region (by kernel_rfl) ?_
  refine RL.q rfl rfl (QW.move rfl) ?_
  refine RL.cons rfl (OW.call Tryz.call68 (ext1 rfl) ((fillByte_c bk og o1 o2 xs1 xs2 _ S ho1 ho2 hb1 hb2).mono ?_))
  rintro v S' ⟨rfl, rfl⟩
  refine RL.nil (thenN ?_)
  refine CW.seq ?_
  refine CW.region (by kernel_rfl) ?_
  refine RL.q rfl rfl (QW.move rfl) ?_
  refine RL.cons rfl (OW.call Tryz.call69 (ext1 rfl) ((fillInt_c bk _ _ (by repeat (first | exact List.mem_cons_self | exact List.mem_cons_of_mem _ (by assumption) | assumption | refine List.mem_cons_of_mem _ ?_ | refine List.mem_append_right _ ?_)) (by rfl)).mono ?_))
  rintro v S' ⟨rfl, rfl⟩
  refine RL.nil (thenN ?_)
  refine CW.seq ?_
  refine CW.region (by kernel_rfl) ?_
  refine RL.q rfl rfl (QW.move rfl) ?_
  refine RL.cons rfl (OW.call Tryz.call70 (ext1 rfl) ((fillText_c bk _ _ (by repeat (first | exact List.mem_cons_self | exact List.mem_cons_of_mem _ (by assumption) | assumption | refine List.mem_cons_of_mem _ ?_ | refine List.mem_append_right _ ?_)) (by rfl)).mono ?_))
  rintro v S' ⟨rfl, rfl⟩
  refine RL.nil (thenN ?_)
  refine CW.seq ?_
  refine CW.region (by kernel_rfl) ?_
  refine RL.q rfl rfl (QW.move rfl) ?_
  refine RL.cons rfl (OW.call Tryz.call71 (ext1 rfl) ((fillNum_c bk _ _ (by repeat (first | exact List.mem_cons_self | exact List.mem_cons_of_mem _ (by assumption) | assumption | refine List.mem_cons_of_mem _ ?_ | refine List.mem_append_right _ ?_)) (by rfl)).mono ?_))
  rintro v S' ⟨rfl, rfl⟩
  refine RL.nil (thenN ?_)
  refine CW.seq ?_
  refine CW.region (by kernel_rfl) ?_
  refine RL.q rfl rfl (QW.move rfl) ?_
  refine RL.cons rfl (OW.call Tryz.call72 (ext1 rfl) ((fillSum_c bk _ _ (by repeat (first | exact List.mem_cons_self | exact List.mem_cons_of_mem _ (by assumption) | assumption | refine List.mem_cons_of_mem _ ?_ | refine List.mem_append_right _ ?_)) (by rfl)).mono ?_))
  rintro v S' ⟨rfl, rfl⟩
  refine RL.nil (thenN ?_)
  refine CW.seq ?_
  refine CW.region (by kernel_rfl) ?_
  refine RL.q rfl rfl (QW.move rfl) ?_
  refine RL.cons rfl (OW.call Tryz.call73 (ext1 rfl) ((fillTag_c bk _ _ (by repeat (first | exact List.mem_cons_self | exact List.mem_cons_of_mem _ (by assumption) | assumption | refine List.mem_cons_of_mem _ ?_ | refine List.mem_append_right _ ?_)) (by rfl)).mono ?_))
  rintro v S' ⟨rfl, rfl⟩
  refine RL.nil (thenN ?_)
  refine CW.seq ?_
  refine CW.region (by kernel_rfl) ?_
  refine RL.q rfl rfl (QW.move rfl) ?_
  refine RL.cons rfl (OW.call Tryz.call74 (ext1 rfl) ((fillSpot_c bk _ _ (by repeat (first | exact List.mem_cons_self | exact List.mem_cons_of_mem _ (by assumption) | assumption | refine List.mem_cons_of_mem _ ?_ | refine List.mem_append_right _ ?_)) (by rfl)).mono ?_))
  rintro v S' ⟨rfl, rfl⟩
  refine RL.nil (thenN ?_)
  refine CW.seq ?_
  refine CW.region (by kernel_rfl) ?_
  refine RL.q rfl rfl (QW.move rfl) ?_
  refine RL.cons rfl (OW.call Tryz.call75 (ext1 rfl) ((fillGen_c bk _ _ (by repeat (first | exact List.mem_cons_self | exact List.mem_cons_of_mem _ (by assumption) | assumption | refine List.mem_cons_of_mem _ ?_ | refine List.mem_append_right _ ?_)) (by rfl)).mono ?_))
  rintro v S' ⟨rfl, rfl⟩
  refine RL.nil (thenN ?_)
  refine CW.seq ?_
  refine CW.region (by kernel_rfl) ?_
  refine RL.q rfl rfl (QW.move rfl) ?_
  refine RL.cons rfl (OW.call Tryz.call76 (ext1 rfl) ((fillLane_c bk _ _ (by repeat (first | exact List.mem_cons_self | exact List.mem_cons_of_mem _ (by assumption) | assumption | refine List.mem_cons_of_mem _ ?_ | refine List.mem_append_right _ ?_)) (by rfl)).mono ?_))
  rintro v S' ⟨rfl, rfl⟩
  refine RL.nil (thenN ?_)
  refine CW.seq ?_
  refine CW.region (by kernel_rfl) ?_
  refine RL.q rfl rfl (QW.move rfl) ?_
  refine RL.cons rfl (OW.call Tryz.call77 (ext1 rfl) ((fillParam_c bk _ _ (by repeat (first | exact List.mem_cons_self | exact List.mem_cons_of_mem _ (by assumption) | assumption | refine List.mem_cons_of_mem _ ?_ | refine List.mem_append_right _ ?_)) (by rfl)).mono ?_))
  rintro v S' ⟨rfl, rfl⟩
  refine RL.nil (thenN ?_)
  refine CW.seq ?_
  refine CW.region (by kernel_rfl) ?_
  refine RL.q rfl rfl (QW.move rfl) ?_
  refine RL.cons rfl (OW.call Tryz.call78 (ext1 rfl) ((fillPacket_c bk _ _ (by repeat (first | exact List.mem_cons_self | exact List.mem_cons_of_mem _ (by assumption) | assumption | refine List.mem_cons_of_mem _ ?_ | refine List.mem_append_right _ ?_)) (by rfl)).mono ?_))
  rintro v S' ⟨rfl, rfl⟩
  refine RL.nil (thenN ?_)
  refine CW.seq ?_
  refine CW.region (by kernel_rfl) ?_
  refine RL.q rfl rfl (QW.move rfl) ?_
  refine RL.cons rfl (OW.call Tryz.call79 (ext1 rfl) ((fillFrame_c bk _ _ (by repeat (first | exact List.mem_cons_self | exact List.mem_cons_of_mem _ (by assumption) | assumption | refine List.mem_cons_of_mem _ ?_ | refine List.mem_append_right _ ?_)) (by rfl)).mono ?_))
  rintro v S' ⟨rfl, rfl⟩
  refine RL.nil (thenN ?_)
  refine CW.seq ?_
  refine CW.region (by kernel_rfl) ?_
  refine RL.q rfl rfl (QW.move rfl) ?_
  refine RL.cons rfl (OW.call Tryz.call80 (ext1 rfl) ((fillMail_c bk _ _ (by repeat (first | exact List.mem_cons_self | exact List.mem_cons_of_mem _ (by assumption) | assumption | refine List.mem_cons_of_mem _ ?_ | refine List.mem_append_right _ ?_)) (by rfl)).mono ?_))
  rintro v S' ⟨rfl, rfl⟩
  refine RL.nil (thenN ?_)
  refine CW.seq ?_
  refine CW.region (by kernel_rfl) ?_
  refine RL.q rfl rfl (QW.move rfl) ?_
  refine RL.cons rfl (OW.call Tryz.call81 (ext1 rfl) ((fillSession_c bk _ _ (by repeat (first | exact List.mem_cons_self | exact List.mem_cons_of_mem _ (by assumption) | assumption | refine List.mem_cons_of_mem _ ?_ | refine List.mem_append_right _ ?_)) (by rfl)).mono ?_))
  rintro v S' ⟨rfl, rfl⟩
  refine RL.nil (thenN ?_)
  refine CW.seq ?_
  refine CW.region (by kernel_rfl) ?_
  refine RL.q rfl rfl (QW.move rfl) ?_
  refine RL.cons rfl (OW.call Tryz.call82 (ext1 rfl) ((fillRecord_c bk _ _ (by repeat (first | exact List.mem_cons_self | exact List.mem_cons_of_mem _ (by assumption) | assumption | refine List.mem_cons_of_mem _ ?_ | refine List.mem_append_right _ ?_)) (by rfl)).mono ?_))
  rintro v S' ⟨rfl, rfl⟩
  refine RL.nil (thenN ?_)
  refine CW.seq ?_
  refine CW.region (by kernel_rfl) ?_
  refine RL.q rfl rfl (QW.move rfl) ?_
  refine RL.cons rfl (OW.call Tryz.call83 (ext1 rfl) ((hg).mono ?_))
  rintro v S' ⟨lo1, X1, lo2, X2, hr1, hw1, hr2, hw2, rfl, rfl⟩
  refine RL.nil (thenN ?_)
  refine CW.seq ?_
  refine CW.region (by kernel_rfl) ?_
  refine RL.q rfl rfl (QW.move rfl) ?_
  refine RL.cons rfl (OW.call Tryz.call84 (ext1 rfl) ((growInt_c bk _ _ (by repeat (first | exact List.mem_cons_self | exact List.mem_cons_of_mem _ (by assumption) | assumption | refine List.mem_cons_of_mem _ ?_ | refine List.mem_append_right _ ?_)) (by rfl)).mono ?_))
  rintro v S' ⟨rfl, rfl⟩
  refine RL.nil (thenN ?_)
  refine CW.seq ?_
  refine CW.region (by kernel_rfl) ?_
  refine RL.q rfl rfl (QW.move rfl) ?_
  refine RL.cons rfl (OW.call Tryz.call85 (ext1 rfl) ((growText_c bk _ _ (by repeat (first | exact List.mem_cons_self | exact List.mem_cons_of_mem _ (by assumption) | assumption | refine List.mem_cons_of_mem _ ?_ | refine List.mem_append_right _ ?_)) (by rfl)).mono ?_))
  rintro v S' ⟨rfl, rfl⟩
  refine RL.nil (thenN ?_)
  refine CW.seq ?_
  refine CW.region (by kernel_rfl) ?_
  refine RL.q rfl rfl (QW.move rfl) ?_
  refine RL.cons rfl (OW.call Tryz.call86 (ext1 rfl) ((growNum_c bk _ _ (by repeat (first | exact List.mem_cons_self | exact List.mem_cons_of_mem _ (by assumption) | assumption | refine List.mem_cons_of_mem _ ?_ | refine List.mem_append_right _ ?_)) (by rfl)).mono ?_))
  rintro v S' ⟨rfl, rfl⟩
  refine RL.nil (thenN ?_)
  refine CW.seq ?_
  refine CW.region (by kernel_rfl) ?_
  refine RL.q rfl rfl (QW.move rfl) ?_
  refine RL.cons rfl (OW.call Tryz.call87 (ext1 rfl) ((growSum_c bk _ _ (by repeat (first | exact List.mem_cons_self | exact List.mem_cons_of_mem _ (by assumption) | assumption | refine List.mem_cons_of_mem _ ?_ | refine List.mem_append_right _ ?_)) (by rfl)).mono ?_))
  rintro v S' ⟨rfl, rfl⟩
  refine RL.nil (thenN ?_)
  refine CW.seq ?_
  refine CW.region (by kernel_rfl) ?_
  refine RL.q rfl rfl (QW.move rfl) ?_
  refine RL.cons rfl (OW.call Tryz.call88 (ext1 rfl) ((growTag_c bk _ _ (by repeat (first | exact List.mem_cons_self | exact List.mem_cons_of_mem _ (by assumption) | assumption | refine List.mem_cons_of_mem _ ?_ | refine List.mem_append_right _ ?_)) (by rfl)).mono ?_))
  rintro v S' ⟨rfl, rfl⟩
  refine RL.nil (thenN ?_)
  refine CW.seq ?_
  refine CW.region (by kernel_rfl) ?_
  refine RL.q rfl rfl (QW.move rfl) ?_
  refine RL.cons rfl (OW.call Tryz.call89 (ext1 rfl) ((growSpot_c bk _ _ (by repeat (first | exact List.mem_cons_self | exact List.mem_cons_of_mem _ (by assumption) | assumption | refine List.mem_cons_of_mem _ ?_ | refine List.mem_append_right _ ?_)) (by rfl)).mono ?_))
  rintro v S' ⟨rfl, rfl⟩
  refine RL.nil (thenN ?_)
  refine CW.seq ?_
  refine CW.region (by kernel_rfl) ?_
  refine RL.q rfl rfl (QW.move rfl) ?_
  refine RL.cons rfl (OW.call Tryz.call90 (ext1 rfl) ((growGen_c bk _ _ (by repeat (first | exact List.mem_cons_self | exact List.mem_cons_of_mem _ (by assumption) | assumption | refine List.mem_cons_of_mem _ ?_ | refine List.mem_append_right _ ?_)) (by rfl)).mono ?_))
  rintro v S' ⟨rfl, rfl⟩
  refine RL.nil (thenN ?_)
  refine CW.seq ?_
  refine CW.region (by kernel_rfl) ?_
  refine RL.q rfl rfl (QW.move rfl) ?_
  refine RL.cons rfl (OW.call Tryz.call91 (ext1 rfl) ((growLane_c bk _ _ (by repeat (first | exact List.mem_cons_self | exact List.mem_cons_of_mem _ (by assumption) | assumption | refine List.mem_cons_of_mem _ ?_ | refine List.mem_append_right _ ?_)) (by rfl)).mono ?_))
  rintro v S' ⟨rfl, rfl⟩
  refine RL.nil (thenN ?_)
  refine CW.seq ?_
  refine CW.region (by kernel_rfl) ?_
  refine RL.q rfl rfl (QW.move rfl) ?_
  refine RL.cons rfl (OW.call Tryz.call92 (ext1 rfl) ((growParam_c bk _ _ (by repeat (first | exact List.mem_cons_self | exact List.mem_cons_of_mem _ (by assumption) | assumption | refine List.mem_cons_of_mem _ ?_ | refine List.mem_append_right _ ?_)) (by rfl)).mono ?_))
  rintro v S' ⟨rfl, rfl⟩
  refine RL.nil (thenN ?_)
  refine CW.seq ?_
  refine CW.region (by kernel_rfl) ?_
  refine RL.q rfl rfl (QW.move rfl) ?_
  refine RL.cons rfl (OW.call Tryz.call93 (ext1 rfl) ((growPacket_c bk _ _ (by repeat (first | exact List.mem_cons_self | exact List.mem_cons_of_mem _ (by assumption) | assumption | refine List.mem_cons_of_mem _ ?_ | refine List.mem_append_right _ ?_)) (by rfl)).mono ?_))
  rintro v S' ⟨rfl, rfl⟩
  refine RL.nil (thenN ?_)
  refine CW.seq ?_
  refine CW.region (by kernel_rfl) ?_
  refine RL.q rfl rfl (QW.move rfl) ?_
  refine RL.cons rfl (OW.call Tryz.call94 (ext1 rfl) ((growFrame_c bk _ _ (by repeat (first | exact List.mem_cons_self | exact List.mem_cons_of_mem _ (by assumption) | assumption | refine List.mem_cons_of_mem _ ?_ | refine List.mem_append_right _ ?_)) (by rfl)).mono ?_))
  rintro v S' ⟨rfl, rfl⟩
  refine RL.nil (thenN ?_)
  refine CW.seq ?_
  refine CW.region (by kernel_rfl) ?_
  refine RL.q rfl rfl (QW.move rfl) ?_
  refine RL.cons rfl (OW.call Tryz.call95 (ext1 rfl) ((growMail_c bk _ _ (by repeat (first | exact List.mem_cons_self | exact List.mem_cons_of_mem _ (by assumption) | assumption | refine List.mem_cons_of_mem _ ?_ | refine List.mem_append_right _ ?_)) (by rfl)).mono ?_))
  rintro v S' ⟨rfl, rfl⟩
  refine RL.nil (thenN ?_)
  refine CW.seq ?_
  refine CW.region (by kernel_rfl) ?_
  refine RL.q rfl rfl (QW.move rfl) ?_
  refine RL.cons rfl (OW.call Tryz.call96 (ext1 rfl) ((growSession_c bk _ _ (by repeat (first | exact List.mem_cons_self | exact List.mem_cons_of_mem _ (by assumption) | assumption | refine List.mem_cons_of_mem _ ?_ | refine List.mem_append_right _ ?_)) (by rfl)).mono ?_))
  rintro v S' ⟨rfl, rfl⟩
  refine RL.nil (thenN ?_)
  refine CW.seq ?_
  refine CW.region (by kernel_rfl) ?_
  refine RL.q rfl rfl (QW.move rfl) ?_
  refine RL.cons rfl (OW.call Tryz.call97 (ext1 rfl) ((growRecord_c bk _ _ (by repeat (first | exact List.mem_cons_self | exact List.mem_cons_of_mem _ (by assumption) | assumption | refine List.mem_cons_of_mem _ ?_ | refine List.mem_append_right _ ?_)) (by rfl)).mono ?_))
  rintro v S' ⟨rfl, rfl⟩
  refine RL.nil (thenN ?_)
  refine CW.seq ?_
  refine CW.region (by kernel_rfl) ?_
  refine RL.q rfl rfl (QW.move rfl) ?_
  refine RL.cons rfl (OW.call Tryz.call98 (ext1 rfl) ((lookB_c bk og.b og.cap _ og.rest _ _ _ _ (List.replicate xs1.length (UInt8.ofNat 1)) (List.replicate xs2.length (UInt8.ofNat 2)) ((List.replicate xs1.length (UInt8.ofNat 1)) ++ List.replicate 40 (UInt8.ofNat 1)) ((List.replicate xs2.length (UInt8.ofNat 2)) ++ List.replicate 40 (UInt8.ofNat 2)) _ (by repeat (first | exact List.mem_cons_self | exact List.mem_cons_of_mem _ (by assumption) | assumption | refine List.mem_cons_of_mem _ ?_ | refine List.mem_append_right _ ?_)) (by repeat (first | exact List.mem_cons_self | exact List.mem_cons_of_mem _ (by assumption) | assumption | refine List.mem_cons_of_mem _ ?_ | refine List.mem_append_right _ ?_)) (hr1.mono fun p hp => List.mem_cons_of_mem _ (List.mem_cons_of_mem _ (List.mem_append_left _ hp))) (hw1.mono fun p hp => List.mem_cons_of_mem _ (List.mem_cons_of_mem _ (List.mem_append_left _ hp))) (hr2.mono fun p hp => List.mem_cons_of_mem _ (List.mem_cons_of_mem _ (List.mem_append_right _ (List.mem_append_left _ hp)))) (hw2.mono fun p hp => List.mem_cons_of_mem _ (List.mem_cons_of_mem _ (List.mem_append_right _ (List.mem_append_left _ hp)))) (by simp) (by simp) (fun k hk => rep_get (by simpa using hk)) (fun k hk => rep_get (by simpa using hk)) (fun k hk => rep2_get (by simpa using hk)) (fun k hk => rep2_get (by simpa using hk)) (by simpa using hb1) (by simpa using hb2)).mono ?_))
  rintro v S' ⟨rfl, rfl⟩
  refine RL.q rfl rfl (QW.move rfl) ?_
  first | (refine RL.guard_no rfl rfl rfl rfl rfl ?_) | (refine RL.guard_yes rfl rfl rfl rfl (OW.q rfl (QW.move rfl) ?_))
  refine RL.guard_yes rfl rfl rfl rfl (OW.call Tryz.call99 (ext1 rfl) ((lookInt_c bk _ _ (by repeat (first | exact List.mem_cons_self | exact List.mem_cons_of_mem _ (by assumption) | assumption | refine List.mem_cons_of_mem _ ?_ | refine List.mem_append_right _ ?_)) (by rfl)).mono ?_))
  rintro v S' ⟨rfl, rfl⟩
  refine RL.q rfl rfl ((by first | exact QW.pick_t rfl rfl | exact QW.pick_f rfl rfl)) ?_
  refine RL.q rfl rfl (QW.move rfl) ?_
  first | (refine RL.guard_no rfl rfl rfl rfl rfl ?_) | (refine RL.guard_yes rfl rfl rfl rfl (OW.q rfl (QW.move rfl) ?_))
  refine RL.guard_yes rfl rfl rfl rfl (OW.call Tryz.call100 (ext1 rfl) ((lookText_c bk _ _ (by repeat (first | exact List.mem_cons_self | exact List.mem_cons_of_mem _ (by assumption) | assumption | refine List.mem_cons_of_mem _ ?_ | refine List.mem_append_right _ ?_)) (by rfl)).mono ?_))
  rintro v S' ⟨rfl, rfl⟩
  refine RL.q rfl rfl ((by first | exact QW.pick_t rfl rfl | exact QW.pick_f rfl rfl)) ?_
  refine RL.q rfl rfl (QW.move rfl) ?_
  first | (refine RL.guard_no rfl rfl rfl rfl rfl ?_) | (refine RL.guard_yes rfl rfl rfl rfl (OW.q rfl (QW.move rfl) ?_))
  refine RL.guard_yes rfl rfl rfl rfl (OW.call Tryz.call101 (ext1 rfl) ((lookNum_c bk _ _ (by repeat (first | exact List.mem_cons_self | exact List.mem_cons_of_mem _ (by assumption) | assumption | refine List.mem_cons_of_mem _ ?_ | refine List.mem_append_right _ ?_)) (by rfl)).mono ?_))
  rintro v S' ⟨rfl, rfl⟩
  refine RL.q rfl rfl ((by first | exact QW.pick_t rfl rfl | exact QW.pick_f rfl rfl)) ?_
  refine RL.q rfl rfl (QW.move rfl) ?_
  first | (refine RL.guard_no rfl rfl rfl rfl rfl ?_) | (refine RL.guard_yes rfl rfl rfl rfl (OW.q rfl (QW.move rfl) ?_))
  refine RL.guard_yes rfl rfl rfl rfl (OW.call Tryz.call102 (ext1 rfl) ((lookSum_c bk _ _ (by repeat (first | exact List.mem_cons_self | exact List.mem_cons_of_mem _ (by assumption) | assumption | refine List.mem_cons_of_mem _ ?_ | refine List.mem_append_right _ ?_)) (by rfl)).mono ?_))
  rintro v S' ⟨rfl, rfl⟩
  refine RL.q rfl rfl ((by first | exact QW.pick_t rfl rfl | exact QW.pick_f rfl rfl)) ?_
  refine RL.q rfl rfl (QW.move rfl) ?_
  first | (refine RL.guard_no rfl rfl rfl rfl rfl ?_) | (refine RL.guard_yes rfl rfl rfl rfl (OW.q rfl (QW.move rfl) ?_))
  refine RL.guard_yes rfl rfl rfl rfl (OW.call Tryz.call103 (ext1 rfl) ((lookTag_c bk _ _ (by repeat (first | exact List.mem_cons_self | exact List.mem_cons_of_mem _ (by assumption) | assumption | refine List.mem_cons_of_mem _ ?_ | refine List.mem_append_right _ ?_)) (by rfl)).mono ?_))
  rintro v S' ⟨rfl, rfl⟩
  refine RL.q rfl rfl ((by first | exact QW.pick_t rfl rfl | exact QW.pick_f rfl rfl)) ?_
  refine RL.q rfl rfl (QW.move rfl) ?_
  first | (refine RL.guard_no rfl rfl rfl rfl rfl ?_) | (refine RL.guard_yes rfl rfl rfl rfl (OW.q rfl (QW.move rfl) ?_))
  refine RL.guard_yes rfl rfl rfl rfl (OW.call Tryz.call104 (ext1 rfl) ((lookSpot_c bk _ _ (by repeat (first | exact List.mem_cons_self | exact List.mem_cons_of_mem _ (by assumption) | assumption | refine List.mem_cons_of_mem _ ?_ | refine List.mem_append_right _ ?_)) (by rfl)).mono ?_))
  rintro v S' ⟨rfl, rfl⟩
  refine RL.q rfl rfl ((by first | exact QW.pick_t rfl rfl | exact QW.pick_f rfl rfl)) ?_
  refine RL.q rfl rfl (QW.move rfl) ?_
  first | (refine RL.guard_no rfl rfl rfl rfl rfl ?_) | (refine RL.guard_yes rfl rfl rfl rfl (OW.q rfl (QW.move rfl) ?_))
  refine RL.guard_yes rfl rfl rfl rfl (OW.call Tryz.call105 (ext1 rfl) ((lookGen_c bk _ _ (by repeat (first | exact List.mem_cons_self | exact List.mem_cons_of_mem _ (by assumption) | assumption | refine List.mem_cons_of_mem _ ?_ | refine List.mem_append_right _ ?_)) (by rfl)).mono ?_))
  rintro v S' ⟨rfl, rfl⟩
  refine RL.q rfl rfl ((by first | exact QW.pick_t rfl rfl | exact QW.pick_f rfl rfl)) ?_
  refine RL.q rfl rfl (QW.move rfl) ?_
  first | (refine RL.guard_no rfl rfl rfl rfl rfl ?_) | (refine RL.guard_yes rfl rfl rfl rfl (OW.q rfl (QW.move rfl) ?_))
  refine RL.guard_yes rfl rfl rfl rfl (OW.call Tryz.call106 (ext1 rfl) ((lookLane_c bk _ _ (by repeat (first | exact List.mem_cons_self | exact List.mem_cons_of_mem _ (by assumption) | assumption | refine List.mem_cons_of_mem _ ?_ | refine List.mem_append_right _ ?_)) (by rfl)).mono ?_))
  rintro v S' ⟨rfl, rfl⟩
  refine RL.q rfl rfl ((by first | exact QW.pick_t rfl rfl | exact QW.pick_f rfl rfl)) ?_
  refine RL.q rfl rfl (QW.move rfl) ?_
  first | (refine RL.guard_no rfl rfl rfl rfl rfl ?_) | (refine RL.guard_yes rfl rfl rfl rfl (OW.q rfl (QW.move rfl) ?_))
  refine RL.guard_yes rfl rfl rfl rfl (OW.call Tryz.call107 (ext1 rfl) ((lookParam_c bk _ _ (by repeat (first | exact List.mem_cons_self | exact List.mem_cons_of_mem _ (by assumption) | assumption | refine List.mem_cons_of_mem _ ?_ | refine List.mem_append_right _ ?_)) (by rfl)).mono ?_))
  rintro v S' ⟨rfl, rfl⟩
  refine RL.q rfl rfl ((by first | exact QW.pick_t rfl rfl | exact QW.pick_f rfl rfl)) ?_
  refine RL.q rfl rfl (QW.move rfl) ?_
  first | (refine RL.guard_no rfl rfl rfl rfl rfl ?_) | (refine RL.guard_yes rfl rfl rfl rfl (OW.q rfl (QW.move rfl) ?_))
  refine RL.guard_yes rfl rfl rfl rfl (OW.call Tryz.call108 (ext1 rfl) ((lookPacket_c bk _ _ (by repeat (first | exact List.mem_cons_self | exact List.mem_cons_of_mem _ (by assumption) | assumption | refine List.mem_cons_of_mem _ ?_ | refine List.mem_append_right _ ?_)) (by rfl)).mono ?_))
  rintro v S' ⟨rfl, rfl⟩
  refine RL.q rfl rfl ((by first | exact QW.pick_t rfl rfl | exact QW.pick_f rfl rfl)) ?_
  refine RL.q rfl rfl (QW.move rfl) ?_
  first | (refine RL.guard_no rfl rfl rfl rfl rfl ?_) | (refine RL.guard_yes rfl rfl rfl rfl (OW.q rfl (QW.move rfl) ?_))
  refine RL.guard_yes rfl rfl rfl rfl (OW.call Tryz.call109 (ext1 rfl) ((lookFrame_c bk _ _ (by repeat (first | exact List.mem_cons_self | exact List.mem_cons_of_mem _ (by assumption) | assumption | refine List.mem_cons_of_mem _ ?_ | refine List.mem_append_right _ ?_)) (by rfl)).mono ?_))
  rintro v S' ⟨rfl, rfl⟩
  refine RL.q rfl rfl ((by first | exact QW.pick_t rfl rfl | exact QW.pick_f rfl rfl)) ?_
  refine RL.q rfl rfl (QW.move rfl) ?_
  first | (refine RL.guard_no rfl rfl rfl rfl rfl ?_) | (refine RL.guard_yes rfl rfl rfl rfl (OW.q rfl (QW.move rfl) ?_))
  refine RL.guard_yes rfl rfl rfl rfl (OW.call Tryz.call110 (ext1 rfl) ((lookMail_c bk _ _ (by repeat (first | exact List.mem_cons_self | exact List.mem_cons_of_mem _ (by assumption) | assumption | refine List.mem_cons_of_mem _ ?_ | refine List.mem_append_right _ ?_)) (by rfl)).mono ?_))
  rintro v S' ⟨rfl, rfl⟩
  refine RL.q rfl rfl ((by first | exact QW.pick_t rfl rfl | exact QW.pick_f rfl rfl)) ?_
  refine RL.q rfl rfl (QW.move rfl) ?_
  first | (refine RL.guard_no rfl rfl rfl rfl rfl ?_) | (refine RL.guard_yes rfl rfl rfl rfl (OW.q rfl (QW.move rfl) ?_))
  refine RL.guard_yes rfl rfl rfl rfl (OW.call Tryz.call111 (ext1 rfl) ((lookSession_c bk _ _ (by repeat (first | exact List.mem_cons_self | exact List.mem_cons_of_mem _ (by assumption) | assumption | refine List.mem_cons_of_mem _ ?_ | refine List.mem_append_right _ ?_)) (by rfl)).mono ?_))
  rintro v S' ⟨rfl, rfl⟩
  refine RL.q rfl rfl ((by first | exact QW.pick_t rfl rfl | exact QW.pick_f rfl rfl)) ?_
  refine RL.q rfl rfl (QW.move rfl) ?_
  first | (refine RL.guard_no rfl rfl rfl rfl rfl ?_) | (refine RL.guard_yes rfl rfl rfl rfl (OW.q rfl (QW.move rfl) ?_))
  refine RL.guard_yes rfl rfl rfl rfl (OW.call Tryz.call112 (ext1 rfl) ((lookRecord_c bk _ _ (by repeat (first | exact List.mem_cons_self | exact List.mem_cons_of_mem _ (by assumption) | assumption | refine List.mem_cons_of_mem _ ?_ | refine List.mem_append_right _ ?_)) (by rfl)).mono ?_))
  rintro v S' ⟨rfl, rfl⟩
  refine RL.q rfl rfl ((by first | exact QW.pick_t rfl rfl | exact QW.pick_f rfl rfl)) ?_
  refine RL.q rfl rfl (QW.assign rfl) ?_
  refine RL.nil (thenN ?_)
  refine CW.ret (retR ((bk, blk (nI 2 :: bufV (some og) 2 :: (List.replicate 14 (.slice none 0 0))) 43) :: (og.b, blk ([bufV o1 xs1.length, bufV lo1 (xs1.length + 40), nI 1, bufV o2 xs2.length, bufV lo2 (xs2.length + 40), nI 2] ++ og.rest) 187) :: (X1 ++ (X2 ++ S))) (ResOk.one Tryz.results15 (ResV.tmp rfl)) (by repeat (first | exact List.Sublist.refl _ | (refine keepS ?_ ?_; with_reducible rfl) | (refine keepA ?_ ?_; with_reducible rfl) | (refine keepS ?_ ?_; rfl) | apply dropS | apply dropA)) ?_)
  exact ⟨(bk, blk (nI 2 :: bufV (some og) 2 :: (List.replicate 14 (.slice none 0 0))) 43) :: (og.b, blk ([bufV o1 xs1.length, bufV lo1 (xs1.length + 40), nI 1, bufV o2 xs2.length, bufV lo2 (xs2.length + 40), nI 2] ++ og.rest) 187) :: (X1 ++ X2), rfl, by simp⟩

end Go.Sl
