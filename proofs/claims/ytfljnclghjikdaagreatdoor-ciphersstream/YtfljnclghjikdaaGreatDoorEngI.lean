/- The engine, part I: literals of arrays and structs. -/
import Derived.Test.YtfljnclghjikdaaGreatDoorEngH
set_option linter.unusedVariables false
set_option linter.unusedSimpArgs false
namespace Go.Sl
variable {P : Program} {n : Nat} {σ : Env} {S : HL} {K : Env → HL → Prop} {d : Nat} {dst : Option Nat} {ty : TypeId} {pos : String} {aft : Array Edge} {g : Option (Nat × Bool)}

abbrev PartsOk (σ : Env) (parts : Array (Nat × Operand)) (ps : List (Nat × Value)) : Prop := ∀ ρ, Ext σ ρ → parts.map (fun p => (p.1, ρ p.2)) = ⟨ps⟩
theorem parts0 : PartsOk σ #[] [] := fun ρ _ => by simp
theorem parts1 {i : Nat} {x : Operand} {v : Value} (h : ev σ x = some v) : PartsOk σ #[(i, x)] [(i, v)] := fun ρ hρ => by simp [hρ x v h]
theorem parts2 {i j : Nat} {x y : Operand} {v u : Value} (h : ev σ x = some v) (h2 : ev σ y = some u) : PartsOk σ #[(i, x), (j, y)] [(i, v), (j, u)] := fun ρ hρ => by simp [hρ x v h, hρ y u h2]
theorem parts3 {i j k : Nat} {x y z : Operand} {v u t : Value} (h : ev σ x = some v) (h2 : ev σ y = some u) (h3 : ev σ z = some t) : PartsOk σ #[(i, x), (j, y), (k, z)] [(i, v), (j, u), (k, t)] := fun ρ hρ => by simp [hρ x v h, hρ y u h2, hρ z t h3]
theorem parts4 {i j k l : Nat} {x y z s : Operand} {v u t r : Value} (h : ev σ x = some v) (h2 : ev σ y = some u) (h3 : ev σ z = some t) (h4 : ev σ s = some r) : PartsOk σ #[(i, x), (j, y), (k, z), (l, s)] [(i, v), (j, u), (k, t), (l, r)] :=
  fun ρ hρ => by simp [hρ x v h, hρ y u h2, hρ z t h3, hρ s r h4]
theorem parts_of {parts : Array (Nat × Operand)} {ps : List (Nat × Value)} (h : parts.toList.map (fun p => (ev σ p.2).map (fun v => (p.1, v))) = ps.map some) : PartsOk σ parts ps := by
  intro ρ hρ
  obtain ⟨l⟩ := parts
  apply Array.ext'
  simp only [Array.toList_map]
  simp only at h
  induction l generalizing ps with
  | nil => cases ps <;> simp_all
  | cons p r ih =>
    cases ps with
    | nil => simp at h
    | cons q t =>
      simp only [List.map_cons, List.cons.injEq] at h
      obtain ⟨h1, h2⟩ := h
      cases hv : ev σ p.2 with
      | none => simp [hv] at h1
      | some v =>
        simp only [hv, Option.map_some, Option.some.injEq] at h1
        simp only [List.map_cons, hρ _ _ hv, h1, ih h2]

theorem QW.build0 {t : TypeId} {l : List Value} {D : TypeDesc} (ht : UT P t D) (hD : (∃ n e, D = .array n e) ∨ (∃ fs, D = .struct fs ∧ ∃ pl, ∀ w, (fs.mapM (fun f => do pure (f.offset, ← sizeOf f.type)) : Sem (Array (Nat × Nat))).run P w = .ok pl w))
    (hz : ZV P t (.agg ⟨l⟩)) (hs : ∀ e n, D = .array n e → ∃ k, SZ P e k) : QW P S ⟨dst, .build t #[], ty, pos, aft, g⟩ σ (.agg ⟨l⟩) :=
  fun ρ w hρ _ => by
    rcases hD with ⟨n, e, rfl⟩ | ⟨fs, rfl, pl, hpl⟩
    · obtain ⟨k, hk⟩ := hs e n rfl
      simp [execOp, Instr.build, hz w, ht w, hk w, Instr.fill, Value.cells]
    · have := hpl w
      simp [execOp, Instr.build, hz w, ht w, Instr.fill, Value.cells] at this ⊢
      simp [this]
theorem QW.buildA {t len e sz : Nat} {z : Value} {parts : Array (Nat × Operand)} {ps : List (Nat × Value)} {cells : List Value} (ht : UT P t (.array len e)) (hn : SZ P e sz) (hz : ZV P t z) (hp : PartsOk σ parts ps)
    (hf : Instr.fill (fun i => some (i * sz, sz)) z.cells ps = some ⟨cells⟩) : QW P S ⟨dst, .build t parts, ty, pos, aft, g⟩ σ (.agg ⟨cells⟩) :=
  fun ρ w hρ _ => by
    have := hp ρ hρ
    simp [execOp, Instr.build, hz w, ht w, hn w, this, hf]
theorem QW.buildS {t : Nat} {fs : Array Field} {pl : Array (Nat × Nat)} {z : Value} {parts : Array (Nat × Operand)} {ps : List (Nat × Value)} {cells : List Value} (ht : UT P t (.struct fs))
    (hpl : ∀ w, (fs.mapM (fun f => do pure (f.offset, ← sizeOf f.type)) : Sem (Array (Nat × Nat))).run P w = .ok pl w) (hz : ZV P t z) (hp : PartsOk σ parts ps)
    (hf : Instr.fill (pl[·]?) z.cells ps = some ⟨cells⟩) : QW P S ⟨dst, .build t parts, ty, pos, aft, g⟩ σ (.agg ⟨cells⟩) :=
  fun ρ w hρ _ => by
    have h1 := hp ρ hρ
    have h2 := hpl w
    simp [execOp, Instr.build, hz w, ht w, h1, hf] at h2 ⊢
    simp [h2, hf]

theorem fold_set (off : Nat) : ∀ (l : List Value) (i : Nat) (cs : Array Value), off + i + l.length ≤ cs.size →
    (l.zipIdx i).foldl (fun cs (x : Value × Nat) => cs.setIfInBounds (off + x.2) x.1) cs = ⟨wrL cs.toList (off + i) l⟩ := by
  intro l
  induction l with
  | nil => intro i cs _; simp [wrL]
  | cons v l ih =>
    intro i cs h
    simp only [List.length_cons] at h
    simp only [List.zipIdx_cons, List.foldl_cons]
    rw [ih (i + 1) _ (by simp; omega), wrL_cons v l (by simp; omega)]
    simp [Array.toList_setIfInBounds, Nat.add_assoc]
theorem fill_cons {place : Nat → Option (Nat × Nat)} {cells : List Value} {i off sz : Nat} {v : Value} {rest : List (Nat × Value)} {r : Option (Array Value)} (hp : place i = some (off, sz)) (hv : v.cells.size = sz) (hle : off + sz ≤ cells.length)
    (hr : Instr.fill place ⟨wrL cells off v.cells.toList⟩ rest = r) : Instr.fill place ⟨cells⟩ ((i, v) :: rest) = r := by
  subst hr
  have := fold_set off v.cells.toList 0 ⟨cells⟩ (by simp [hv]; exact hle)
  simp only [Nat.add_zero] at this
  have e : v.cells.zipIdx.foldl (fun (cs : Array Value) (x : Value × Nat) => cs.setIfInBounds (off + x.2) x.1) (⟨cells⟩ : Array Value) = ⟨wrL cells off v.cells.toList⟩ := by
    rw [← this, ← Array.foldl_toList, Array.toList_zipIdx]
  have h2 : (decide (v.cells.size ≠ sz) || decide (off + v.cells.size > (⟨cells⟩ : Array Value).size)) = false := by simp [hv]; omega
  rw [← e]
  simp only [Instr.fill, hp, h2]
  rfl

theorem OW.buildSlice1N {x : Operand} {t e sz : Nat} {z : Value} {l : List Value} (ht : UT P t (.slice e)) (hn : SZ P e sz) (h0 : sz ≠ 0) (hz : ZV P e z) (hx : ev σ x = some (.agg ⟨l⟩)) (hl : l.length = sz) (hb : sz ≤ 16777216)
    (hk : ∀ b, K ((d, sl b 0 1 1) :: σ) ((b, blk l e) :: S)) : OW P n ⟨some d, .buildSlice t 1 #[(0, x)], ty, pos, aft, g⟩ σ S K :=
  OW.run_ rfl fun w0 ρ w hρ hs => by
    have hb' : ¬ (16777216 < sz) := by omega
    obtain ⟨cs, hcs⟩ : ∃ cs : List Value, Array.map (fun x => z.cells[x % z.cells.size]!) (Array.range sz) = ⟨cs⟩ := ⟨_, rfl⟩
    have hcl : cs.length = sz := by
      have := congrArg Array.size hcs
      simpa using this.symm
    have hfill : Instr.fill (fun i => some (i * sz, sz)) ⟨cs⟩ [(0, .agg ⟨l⟩)] = some ⟨l⟩ := by
      refine fill_cons (off := 0) (sz := sz) (by simp) (by simp [Value.cells, hl]) (by omega) ?_
      simp only [Instr.fill, Value.cells]
      rw [show wrL cs 0 l = l from by simp [wrL, hl, hcl]]
    refine ⟨_, _, _, ?_, hs.alloc (blk l e), hk _⟩
    simp only [execOp, Instr.buildSlice, hρ x _ hx]
    simp [ht w, hn w, hz w, hb', h0, hcs, newRow, run_newObj, hρ x _ hx, hfill]
end Go.Sl
