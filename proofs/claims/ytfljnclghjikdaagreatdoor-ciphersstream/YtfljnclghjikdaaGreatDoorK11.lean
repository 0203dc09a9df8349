/- CiphersStream: the row's step. -/
import Derived.Test.YtfljnclghjikdaaGreatDoorK10
import Derived.Test.YtfljnclghjikdaaGreatDoorRows
import Derived.WalkKit
import Derived.ProofKit
import Derived.OpenShut
import Derived.ChangeOld
import Derived.Below
import Derived.Carry
import Derived.LaidMore
import Derived.LaidLaws
import Derived.Stop.Joined
set_option linter.unusedVariables false
set_option linter.unusedSimpArgs false
namespace Go.Sl
def allB (w : World) : HL := (w.heap.toList.zipIdx).map fun p => (p.2, p.1)
theorem allB_mem {w : World} {k : Nat} {o : Obj} (h : w.heap[k]? = some o) : (k, o) ∈ allB w := by
  refine List.mem_map.2 ⟨(o, k), ?_, rfl⟩
  rw [List.mem_zipIdx_iff_getElem?]
  simpa using h
theorem allB_get {w : World} : ∀ p ∈ allB w, w.heap[p.1]? = some p.2 := by
  intro p hp
  obtain ⟨q, hq, rfl⟩ := List.mem_map.1 hp
  rw [List.mem_zipIdx_iff_getElem?] at hq
  simpa using hq
theorem allB_nd (w : World) : ((allB w).map (·.1)).Nodup := by
  unfold allB
  rw [List.map_map]
  have : ((fun x : Nat × Obj => x.1) ∘ fun p : Obj × Nat => (p.2, p.1)) = Prod.snd := rfl
  rw [this, List.zipIdx_map_snd]
  exact List.nodup_range'
theorem allB_sat (w : World) : Sat w (allB w) w := Sat.refl (allB_nd w) allB_get
theorem below_of_sat {w w' : World} (h : Sat w (allB w) w') : Go.RowKit.Below w.heap.size w w' := by
  refine ⟨h.os, h.tape, h.output, h.size, ?_⟩
  intro k hk
  have e : w.heap[k]? = some w.heap[k] := Array.getElem?_eq_getElem hk
  rw [e]
  exact h.get (k, w.heap[k]) (allB_mem e)
theorem u8_lit {n : Int} (h : (Lit.int .u8 n).wf = true) : Value.int .u8 n = u8 (UInt8.ofNat n.toNat) := by
  have h2 : 0 ≤ n ∧ n < 256 := by
    simp [Lit.wf, IntKind.min, IntKind.max, IntKind.signed, IntKind.bits] at h
    omega
  have e : ((UInt8.ofNat n.toNat).toNat : Int) = n := by
    simp [UInt8.toNat_ofNat']
    omega
  show _ = Value.int .u8 _
  rw [e]
/-- A slice of bytes that came in. -/
theorem rd_in {w : World} {x : Addr} {len cap : Nat} {zs : List Int} (hl : len ≤ zs.length) (hc : ∀ i, i < zs.length → w.cell? (x.add i) = some (.int .u8 (zs.getD i 0))) (hw : ∀ n ∈ zs, (Lit.int .u8 n).wf = true) :
    ∃ bs : List UInt8, bs.length = len ∧ RdB (allB w) (.slice (some x) len cap) bs := by
  refine ⟨(zs.take len).map fun n => UInt8.ofNat n.toNat, by simp; omega, ?_⟩
  by_cases h0 : len = 0
  · subst h0; exact .inl ⟨rfl, _, _, rfl⟩
  · have c0 := hc 0 (by omega)
    obtain ⟨b, off, spot⟩ := x
    have hspot : spot = none := by simpa [Addr.add] using World.cell?_spot c0
    subst hspot
    obtain ⟨l, T, fr, hb⟩ : ∃ l T fr, w.heap[b]? = some (.cells ⟨l⟩ T fr) := by
      rw [Addr.add_none] at c0
      unfold World.cell? at c0
      split at c0
      · rename_i c T fr hb
        exact ⟨c.toList, T, fr, by rw [hb]⟩
      · cases c0
    refine .inr ⟨by intro h; have h9 := congrArg List.length h; simp only [List.length_map, List.length_take, List.length_nil] at h9; omega, b, off, cap, l, T, fr, ?_, allB_mem hb, ?_⟩
    · congr 1
      simp
      omega
    · intro k hk
      have hk' : k < len := by simp at hk; omega
      have ck := hc k (by omega)
      simp only [World.cell?, Addr.add_none, hb] at ck
      have hg : zs.getD k 0 = zs[k]'(by omega) := by simp [List.getD_eq_getElem?_getD, List.getElem?_eq_getElem (show k < zs.length by omega)]
      have e := u8_lit (hw (zs.getD k 0) (by rw [hg]; exact List.getElem_mem _))
      rw [e] at ck
      have e2 : ((zs.take len).map fun n => UInt8.ofNat n.toNat).getD k 0 = UInt8.ofNat (zs.getD k 0).toNat := by
        simp [List.getD_eq_getElem?_getD, List.getElem?_take, hk', List.getElem?_eq_getElem (show k < zs.length by omega)]
      rw [e2]
      simpa using ck
/-- An array of bytes that came in. -/
theorem arr_in {H : Type} {enc : TypeId × Value → H} {P : Program} {w : World} {base : Nat} {spare : Nat → Bool} {held : Bool} {t e n : Nat} {v : Value} {r : Reach} {b2 : Nat} {d : DataW H} {ps : List MemPlace} (ht : P.underlying t = some (.array n e)) (he : P.underlying e = some (.int .u8)) (hce : P.cellsOf e = 1) (hct : P.cellsOf t = n)
    (hv : Value.okWide P w r b2 t v) (h : DataW.Trod enc P w base spare held t v d ps) : ∃ xs : List UInt8, v = .agg ⟨xs.map u8⟩ ∧ xs.length = n := by
  unfold Value.okWide at hv
  rw [ht] at hv
  obtain ⟨cs, rfl, hsz, _⟩ := hv
  obtain ⟨fuel, h⟩ := h
  obtain ⟨xs, m, rfl, hx, hlen, hn, hel⟩ := DataW.trod_array ht h
  have hcs : (Value.agg cs).cells.toList = cs.toList := rfl
  rw [hcs] at hel
  have hl : cs.toList.length = n := by rw [Array.length_toList, hsz, hct]
  have each : ∀ i (hi : i < cs.toList.length), ∃ k : UInt8, cs.toList[i] = u8 k := by
    intro i hi
    have h1 := hel i (by omega)
    rw [hce, Nat.mul_one, List.getElem?_eq_getElem (by omega)] at h1
    obtain ⟨k, e1, _, e3⟩ := DataW.trod_int he h1
    have h5 : cs.toList[i]? = some (.int .u8 k) := by
      have h6 := congrArg (·[0]?) e1
      simpa [List.getElem?_take, List.getElem?_drop] using h6
    rw [List.getElem?_eq_getElem hi] at h5
    have e4 : cs.toList[i] = .int .u8 k := Option.some.inj h5
    exact ⟨_, e4.trans (u8_lit e3)⟩
  refine ⟨cs.toList.map (fun v => match v with | .int _ n => UInt8.ofNat n.toNat | _ => 0), ?_, by simpa using hl⟩
  congr 1
  apply Array.ext'
  apply List.ext_getElem (by simp)
  intro i h1 h2
  obtain ⟨k, hk⟩ := each i h1
  simp only [List.getElem_map]
  rw [hk]
  simp [u8]
end Go.Sl
