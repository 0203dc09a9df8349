/- The engine, part B: memory: loads, stores, new blocks. -/
import Derived.Test.YtfljnclghjikdaaGreatDoorEngA
import Derived.Laws.World
set_option linter.unusedVariables false
namespace Go.Sl

abbrev UT (P : Program) (t : TypeId) (d : TypeDesc) : Prop := ∀ w, (underlying t).run P w = .ok d w
abbrev SZ (P : Program) (t : TypeId) (n : Nat) : Prop := ∀ w, (sizeOf t).run P w = .ok n w
abbrev AG (P : Program) (t : TypeId) (b : Bool) : Prop := ∀ w, (isAgg t).run P w = .ok b w
abbrev ZV (P : Program) (t : TypeId) (v : Value) : Prop := ∀ w, (zeroValue t).run P w = .ok v w
abbrev TI (P : Program) (t : TypeId) (i : TypeInfo) : Prop := ∀ w, (typeInfo t).run P w = .ok i w

/-- A row of cells that may be written. -/
abbrev blk (l : List Value) (T : TypeId) : Obj := .cells ⟨l⟩ T (0, 0)
abbrev ptr (b off : Nat) : Value := .pointer (some ⟨b, off, none⟩)
abbrev sl (b off len cap : Nat) : Value := .slice (some ⟨b, off, none⟩) len cap

inductive Upd : HL → Nat → Obj → Obj → HL → Prop
  | head {b o o' S} : Upd ((b, o) :: S) b o o' ((b, o') :: S)
  | tail {x S b o o' S'} : Upd S b o o' S' → Upd (x :: S) b o o' (x :: S')

theorem Upd.tailA {X S b o o' S'} (h : Upd S b o o' S') : Upd (X ++ S) b o o' (X ++ S') := by
  induction X with
  | nil => exact h
  | cons x X ih => exact .tail ih
theorem Upd.mem {S b o o' S'} (h : Upd S b o o' S') : (b, o) ∈ S := by
  induction h with
  | head => exact List.mem_cons_self
  | tail _ ih => exact List.mem_cons_of_mem _ ih
theorem Upd.keys {S b o o' S'} (h : Upd S b o o' S') : S'.map (·.1) = S.map (·.1) := by
  induction h with
  | head => rfl
  | tail _ ih => simp [ih]
theorem Upd.mem' {S b o o' S'} (h : Upd S b o o' S') (nd : (S.map (·.1)).Nodup) : ∀ p ∈ S', (p.1 = b ∧ p.2 = o') ∨ (p.1 ≠ b ∧ p ∈ S) := by
  induction h with
  | @head b o o' S =>
    intro p hp
    simp only [List.map_cons, List.nodup_cons] at nd
    rcases List.mem_cons.1 hp with rfl | hp
    · exact .inl ⟨rfl, rfl⟩
    · refine .inr ⟨fun e => nd.1 ?_, List.mem_cons_of_mem _ hp⟩
      rw [← e]; exact List.mem_map_of_mem hp
  | @tail x S b o o' S' hu ih =>
    intro p hp
    simp only [List.map_cons, List.nodup_cons] at nd
    rcases List.mem_cons.1 hp with rfl | hp
    · refine .inr ⟨fun e => nd.1 ?_, List.mem_cons_self⟩
      rw [e]; exact List.mem_map_of_mem (f := (·.1)) hu.mem
    · rcases ih nd.2 p hp with h | h
      · exact .inl h
      · exact .inr ⟨h.1, List.mem_cons_of_mem _ h.2⟩

theorem Sat.lt {w0 S w} (h : Sat w0 S w) {b o} (hm : (b, o) ∈ S) : b < w.heap.size := by
  have := h.get _ hm
  rcases Nat.lt_or_ge b w.heap.size with h' | h'
  · exact h'
  · simp [Array.getElem?_eq_none h'] at this

/-- The blocks S lie in w. -/
def Held (S : HL) (w : World) : Prop := ∀ p ∈ S, w.heap[p.1]? = some p.2
theorem Sat.held {w0 S w} (h : Sat w0 S w) : Held S w := h.get
theorem Held.cell {S w} (h : Held S w) {b c T fr} (hm : (b, Obj.cells c T fr) ∈ S) (off : Nat) : w.cell? ⟨b, off, none⟩ = c[off]? := by
  have := h _ hm
  simp only at this
  simp [World.cell?, this]
theorem Sat.cell {w0 S w} (h : Sat w0 S w) {b c T fr} (hm : (b, Obj.cells c T fr) ∈ S) (off : Nat) : w.cell? ⟨b, off, none⟩ = c[off]? := h.held.cell hm off

theorem Sat.shape {w0 S w} (h : Sat w0 S w) {b c T fr} (hm : (b, Obj.cells c T fr) ∈ S) : w.shape? b = some (T, c.size) := by
  have := h.get _ hm
  simp only at this
  simp [World.shape?, this]

theorem Sat.alloc {w0 S w} (h : Sat w0 S w) (o : Obj) : Sat w0 ((w.heap.size, o) :: S) { w with heap := w.heap.push o } := by
  refine ⟨?_, ?_, h.os, h.tape, h.output, by simp; have := h.size; omega⟩
  · simp only [List.map_cons, List.nodup_cons]
    refine ⟨fun hm => ?_, h.nd⟩
    obtain ⟨p, hp, he⟩ := List.mem_map.1 hm
    have := h.lt (b := p.1) (o := p.2) hp
    omega
  · intro p hp
    rcases List.mem_cons.1 hp with rfl | hp
    · simp
    · have h1 := h.get p hp
      have h2 := h.lt (b := p.1) (o := p.2) hp
      rw [Array.getElem?_push, if_neg (by omega)]
      exact h1

theorem Sat.drawn {w0 S w} (h : Sat w0 S w) (k : Nat) : Sat w0 S { w with drawn := k } := ⟨h.nd, h.get, h.os, h.tape, h.output, h.size⟩

/-- The world with block b's cells changed. -/
theorem Sat.put {w0 S S' w w' : _} {b : Nat} {o o' : Obj} (h : Sat w0 S w) (hu : Upd S b o o' S') (hb : w'.heap[b]? = some o') (hne : ∀ k, k ≠ b → w'.heap[k]? = w.heap[k]?)
    (hos : w'.os = w.os) (ht : w'.tape = w.tape) (ho : w'.output = w.output) (hs : w'.heap.size = w.heap.size) : Sat w0 S' w' := by
  refine ⟨by rw [hu.keys]; exact h.nd, fun p hp => ?_, hos.trans h.os, ht.trans h.tape, ho.trans h.output, by rw [hs]; exact h.size⟩
  rcases hu.mem' h.nd p hp with ⟨h1, h2⟩ | ⟨h1, h2⟩
  · rw [h1, h2]; exact hb
  · rw [hne _ h1]; exact h.get p h2

/-! ### loads -/
theorem run_loadVar1 {P : Program} {S w b c T fr t off v} (hs : Held S w) (hm : (b, Obj.cells c T fr) ∈ S) (ha : AG P t false) (hv : c[off]? = some v) :
    (loadVar t ⟨b, off, none⟩).run P w = .ok v w := by
  have hc := hs.cell hm off
  rw [hv] at hc
  simp [loadVar, ha w, hc]

theorem Addr.add_none (b off n : Nat) : (Addr.add ⟨b, off, none⟩ n) = ⟨b, off + n, none⟩ := by
  unfold Addr.add; split
  · rename_i h; simp [h]
  · rfl

theorem run_loadCellsFrom {P : Program} {w : World} {b : Nat} {c : Array Value} (hc : ∀ off, w.cell? ⟨b, off, none⟩ = c[off]?) :
    ∀ (n i off : Nat) (acc : Array Value), off + i + n ≤ c.size →
      (loadCellsFrom ⟨b, off, none⟩ i n acc).run P w = .ok (acc ++ ⟨(c.toList.drop (off + i)).take n⟩) w := by
  intro n
  induction n with
  | zero => intro i off acc _; simp [loadCellsFrom]
  | succ n ih =>
    intro i off acc h
    have h1 := hc (off + i)
    have hlt : off + i < c.size := by omega
    rw [Array.getElem?_eq_getElem hlt] at h1
    have := ih (i + 1) off (acc.push c[off + i]) (by omega)
    simp only [loadCellsFrom, Sem.run_bind, run_load, Addr.add_none, h1, Result.andThen_ok, this]
    congr 1
    apply Array.ext'
    simp only [Array.toList_append, Array.toList_push]
    have hlt' : off + i < c.toList.length := by simpa using hlt
    rw [List.drop_eq_getElem_cons hlt', List.take_succ_cons]
    simp [Nat.add_assoc]

theorem run_loadVarN {P : Program} {S w b l T fr t off n} (hs : Held S w) (hm : (b, Obj.cells ⟨l⟩ T fr) ∈ S) (ha : AG P t true) (hn : SZ P t n) (hle : off + n ≤ l.length) :
    (loadVar t ⟨b, off, none⟩).run P w = .ok (.agg ⟨(l.drop off).take n⟩) w := by
  have := run_loadCellsFrom (P := P) (w := w) (b := b) (c := ⟨l⟩) (fun off => hs.cell hm off) n 0 off #[] (by simpa using hle)
  simp [loadVar, ha w, hn w, loadCells, this]

/-! ### stores -/
def oneB : Value → Bool
  | .agg _ | .tuple _ => false
  | _ => true
theorem oneB_eq (v : Value) : oneB v = v.oneCell' := by cases v <;> rfl

def wrL {α : Type} (l : List α) (off : Nat) (vs : List α) : List α := l.take off ++ vs ++ l.drop (off + vs.length)

theorem wrL_nil (l : List Value) (off : Nat) : wrL l off [] = l := by simp [wrL]
theorem wrL_cons {l : List Value} {off : Nat} (v : Value) (vs : List Value) (h : off < l.length) : wrL l off (v :: vs) = wrL (l.set off v) (off + 1) vs := by
  simp only [wrL, List.length_cons]
  rw [List.take_add_one, List.getElem?_set_self (by simpa using h)]
  simp only [Option.toList_some, List.append_assoc, List.singleton_append]
  congr 1
  · simp [List.take_set]
    rw [List.set_eq_of_length_le (by simp; omega)]
  · rw [List.drop_set, if_pos (by omega), show off + (vs.length + 1) = off + 1 + vs.length from by omega]
theorem wrL_length {l : List Value} {off : Nat} {vs : List Value} (h : off + vs.length ≤ l.length) : (wrL l off vs).length = l.length := by
  simp [wrL]; omega
theorem wrL_one {l : List Value} {off : Nat} (v : Value) (h : off < l.length) : wrL l off [v] = l.set off v := by
  rw [wrL_cons v [] h, wrL_nil]

theorem run_storeCells {P : Program} {w0 : World} {b T : Nat} :
    ∀ (vs : List Value) (off i : Nat) (l : List Value) (S S' : HL) (w : World), Sat w0 S w → Upd S b (blk l T) (blk (wrL l (off + i) vs) T) S' →
      off + i + vs.length ≤ l.length → vs.all oneB = true →
      ∃ w', (storeCells ⟨b, off, none⟩ vs i).run P w = .ok () w' ∧ Sat w0 S' w' := by
  intro vs
  induction vs with
  | nil =>
    intro off i l S S' w hs hu _ _
    rw [wrL_nil] at hu
    refine ⟨w, rfl, ?_⟩
    refine hs.put hu ?_ (fun _ _ => rfl) rfl rfl rfl rfl
    exact hs.get _ hu.mem
  | cons v vs ih =>
    intro off i l S S' w hs hu hle hone
    simp only [List.length_cons] at hle
    simp only [List.all_cons, Bool.and_eq_true] at hone
    have hlt : off + i < l.length := by omega
    have hcell : w.cell? ⟨b, off + i, none⟩ = some l[off + i] := by
      have := hs.cell hu.mem (off + i)
      simpa [List.getElem?_eq_getElem hlt] using this
    have hfz : w.frozen? ⟨b, off + i, none⟩ = false := by
      have := hs.get _ hu.mem
      simp only at this
      simp [World.frozen?, this]
    have hgb := hs.get _ hu.mem
    simp only at hgb
    have hbl := hs.lt hu.mem
    rw [wrL_cons v vs hlt] at hu
    -- the block in between
    obtain ⟨S1, hu1⟩ : ∃ S1, Upd S b (blk l T) (blk (l.set (off + i) v) T) S1 := by
      have : ∀ {S b o o2 S'}, Upd S b o o2 S' → ∀ o1, ∃ S1, Upd S b o o1 S1 := by
        intro S b o o2 S' h
        induction h with
        | head => intro o1; exact ⟨_, .head⟩
        | tail _ ih => intro o1; obtain ⟨S1, h1⟩ := ih o1; exact ⟨_, .tail h1⟩
      exact this hu _
    have hu2 : Upd S1 b (blk (l.set (off + i) v) T) (blk (wrL (l.set (off + i) v) (off + i + 1) vs) T) S' := by
      have : ∀ {S b o o1 S1}, (S.map (·.1)).Nodup → Upd S b o o1 S1 → ∀ {o2 S'}, Upd S b o o2 S' → Upd S1 b o1 o2 S' := by
        intro S b o o1 S1 nd h1
        induction h1 with
        | @head b o o' S =>
          intro o2 S' h2
          cases h2 with
          | head => exact .head
          | tail h2 =>
            simp only [List.map_cons, List.nodup_cons] at nd
            exact absurd (List.mem_map_of_mem (f := (·.1)) h2.mem) nd.1
        | tail h1 ih =>
          intro o2 S' h2
          simp only [List.map_cons, List.nodup_cons] at nd
          cases h2 with
          | head => exact absurd (List.mem_map_of_mem (f := (·.1)) h1.mem) nd.1
          | tail h2 => exact .tail (ih nd.2 h2)
      exact this hs.nd hu1 hu
    have hs1 : Sat w0 S1 (w.setCell ⟨b, off + i, none⟩ v) := by
      refine hs.put hu1 ?_ ?_ rfl rfl rfl (by simp [World.setCell])
      · simp only [World.setCell, Array.getElem?_modify, hgb]
        simp
      · intro k hk
        simp only [World.setCell, Array.getElem?_modify]
        rw [if_neg (fun e => hk e.symm)]
    obtain ⟨w', hr, hs'⟩ := ih off (i + 1) (l.set (off + i) v) S1 S' _ hs1 hu2 (by simp; omega) hone.2
    refine ⟨w', ?_, hs'⟩
    simp only [storeCells, Sem.run_bind, Addr.add_none]
    rw [run_store P w _ v .plain (by rw [← oneB_eq]; exact hone.1), hcell]
    simp only [hfz, Bool.false_eq_true, if_false, Result.andThen_ok]
    exact hr

theorem run_storeVar {P : Program} {w0 S S' w b l T t off n} {v : Value} (hs : Sat w0 S w) (hn : SZ P t n) (hv : v.cells.size = n)
    (hu : Upd S b (blk l T) (blk (wrL l off v.cells.toList) T) S') (hle : off + n ≤ l.length) (hone : v.cells.toList.all oneB = true) :
    ∃ w', (storeVar t ⟨b, off, none⟩ v).run P w = .ok () w' ∧ Sat w0 S' w' := by
  obtain ⟨w', hr, hs'⟩ := run_storeCells (P := P) (w0 := w0) v.cells.toList off 0 l S S' w hs hu (by simp [hv]; exact hle) hone
  refine ⟨w', ?_, hs'⟩
  simp [storeVar, hn w, hv, hr]

end Go.Sl
