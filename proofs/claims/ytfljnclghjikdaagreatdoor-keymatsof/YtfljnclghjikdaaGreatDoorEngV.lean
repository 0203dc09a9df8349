/- A part of a proof: EngV. -/
import Derived.Test.YtfljnclghjikdaaGreatDoorEngU
/- The engine, part V: the bytes of a constant string (their row bears a mark behind its last cell). -/
set_option linter.unusedVariables false
set_option linter.unusedSimpArgs false
namespace Go.Sl
variable {P : Program} {n : Nat} {σ : Env} {S : HL} {K : Env → HL → Prop} {d : Nat} {ty : TypeId} {pos : String} {aft : Array Edge} {g : Option (Nat × Bool)}
/-- A row that bears the mark. -/
abbrev mrk (l : List Value) (T : TypeId) : Obj := .cells ⟨l⟩ T (l.length, l.length + 1)
theorem OW.convMark {x : Operand} {t e b len cap : Nat} {l : List Value} {T : TypeId} {S' : HL} (ht : UT P t (.slice e)) (he : UT P e (.int .u8)) (hx : ev σ x = some (sl b 0 len cap))
    (hm : (b, blk l T) ∈ S) (hu : Upd S b (blk l T) (mrk l T) S') (hk : K ((d, sl b 0 len cap) :: σ) S') :
    OW P n ⟨some d, .convert t t x, ty, pos, aft, g⟩ σ S K :=
  OW.run_ rfl fun w0 ρ w hρ hs => by
    have hsh := hs.shape hm
    have hg := hs.get _ hm
    simp only at hg
    refine ⟨_, w.freeze ⟨b, l.length, none⟩ 1, S', ?_, hs.put hu ?_ ?_ ?_ ?_ ?_ ?_, hk⟩
    · simp only [execOp, hρ x _ hx, convert]
      simp [ht w, he w, markStringish, hsh]
    · simp [World.freeze, Array.getElem?_modify, hg]
    · intro k hk
      simp only [World.freeze]
      rw [if_neg (by decide)]
      simp only [Array.getElem?_modify]
      rw [if_neg (fun e => hk e.symm)]
    all_goals (simp only [World.freeze]; rw [if_neg (by decide)])
    simp
theorem rdM_all {S : HL} {b n : Nat} {bs : List UInt8} {T : TypeId} (hm : (b, mrk (bs.map u8) T) ∈ S) (hn : bs.length = n) : RdS S (sl b 0 n n) bs := by
  subst hn
  refine ⟨?_, _, _, rfl, Nat.le_refl _⟩
  by_cases h0 : bs = []
  · subst h0; exact .inl ⟨rfl, _, _, rfl⟩
  · refine .inr ⟨h0, b, 0, _, _, T, _, rfl, hm, fun k hk => ?_⟩
    rw [Nat.zero_add, m_get 0 hk]
end Go.Sl
