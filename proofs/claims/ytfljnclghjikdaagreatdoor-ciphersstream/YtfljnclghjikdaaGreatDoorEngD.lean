/- The engine, part D: a region whose order is drawn: what only reads is taken first. -/
import Derived.Test.YtfljnclghjikdaaGreatDoorEngC
set_option linter.unusedVariables false
namespace Go.Sl

/-- Operation e waits for i, at once or by way of others. -/
def waits (ops : Array Oper) : Nat → Nat → Nat → Bool
  | 0, _, _ => false
  | k + 1, e, i => match ops[e]? with
    | none => false
    | some o => o.after.any fun ed => Region.binds .any ed && (ed.on == i || waits ops k ed.on i)
/-- Operation e waits for all others (or there is none of that number). -/
def lastOk (ops : Array Oper) (e : Nat) : Bool :=
  match ops[e]? with
  | none => true
  | some _ => (List.range ops.size).all fun j => j == e || waits ops ops.size e j
def closedB (ops : Array Oper) (listed : Array Bool) : Bool :=
  (List.range ops.size).all fun j => !listed.getD j false || match ops[j]? with
    | none => true
    | some o => o.after.all fun ed => !Region.binds .any ed || listed.getD ed.on false
def Closed (ops : Array Oper) (listed : Array Bool) : Prop :=
  ∀ (j : Nat) (o : Oper), ops[j]? = some o → listed.getD j false = true → ∀ ed ∈ o.after, Region.binds .any ed = true → listed.getD ed.on false = true
theorem Closed.of_B {ops : Array Oper} {listed : Array Bool} (h : closedB ops listed = true) : Closed ops listed := by
  intro j o hj hl ed hed hb
  simp only [closedB, List.all_eq_true, List.mem_range] at h
  have h1 := h j (Array.getElem?_eq_some_iff.1 hj).1
  simp only [hl, hj, Bool.not_true, Bool.false_or] at h1
  have h2 := Array.all_eq_true_iff_forall_mem.1 h1 ed hed
  simpa [hb] using h2
theorem Closed.set {ops : Array Oper} {listed : Array Bool} (h : Closed ops listed) {i : Nat} (hr : i ∈ Region.ready .any ops listed) : Closed ops (listed.setIfInBounds i true) := by
  intro j o hj hl ed hed hb
  apply getD_set_true
  by_cases hij : i = j
  · subst hij
    obtain ⟨_, oi, hoi, hall⟩ := mem_ready.1 hr
    rw [hj] at hoi
    cases hoi
    exact hall ed hed hb
  · rw [getD_set_ne false hij] at hl
    exact h j o hj hl ed hed hb
theorem waits_listed {ops : Array Oper} {listed : Array Bool} (hc : Closed ops listed) : ∀ (k e i : Nat), waits ops k e i = true →
    (∀ o, ops[e]? = some o → ∀ ed ∈ o.after, Region.binds .any ed = true → listed.getD ed.on false = true) → listed.getD i false = true := by
  intro k
  induction k with
  | zero => intro e i h; simp [waits] at h
  | succ k ih =>
    intro e i h hall
    unfold waits at h
    cases ho : ops[e]? with
    | none => simp [ho] at h
    | some o =>
      simp only [ho] at h
      obtain ⟨ed, hed, hb⟩ := Array.any_eq_true'.1 h
      simp only [Bool.and_eq_true, Bool.or_eq_true, beq_iff_eq] at hb
      have hl := hall o ho ed hed hb.1
      rcases hb.2 with h1 | h1
      · rw [← h1]; exact hl
      · refine ih ed.on i h1 ?_
        intro o2 ho2 ed2 hed2 hb2
        exact hc ed.on o2 ho2 hl ed2 hed2 hb2

section
variable {P : Program} {ops : Array Oper} {Q : Exit → Act → World → Prop} {H : World → Prop} {e : Nat}
/-- Whatever order is picked from here on, and H holds behind each operation but e. -/
def anyH (P : Program) (ops : Array Oper) (Q : Exit → Act → World → Prop) (H : World → Prop) (e : Nat) : Nat → Array Bool → Act → World → Prop
  | 0, listed, a, w => Region.ready .any ops listed = [] ∧ Q .normal a w
  | fuel + 1, listed, a, w =>
    (Region.ready .any ops listed = [] → Q .normal a w) ∧
    ∀ i ∈ Region.ready .any ops listed, wpOp P ops Q i (fun a' w' => (i ≠ e → H w') ∧ anyH P ops Q H e fuel (listed.setIfInBounds i true) a' w') a w

theorem wpAny_of_anyH : ∀ (fuel : Nat) (listed : Array Bool) (a : Act) (w : World), anyH P ops Q H e fuel listed a w → wpAny P .any ops Q fuel listed a w
  | 0, _, _, _, h => h
  | fuel + 1, _, _, _, h => ⟨h.1, fun i hi => wpOp_mono (fun a' w' h' => wpAny_of_anyH fuel _ a' w' h'.2) (h.2 i hi)⟩

theorem ne_nil_of_mem {α : Type} {x : α} {l : List α} (h : x ∈ l) : l ≠ [] := fun e => by rw [e] at h; cases h

theorem anyH_first {i : Nat} {oi : Oper} {v : Value} (hi : ops[i]? = some oi) (hsel : Region.noSelect ops = true) (he : lastOk ops e = true)
    (hQ : ∀ c a w, Q (.panic c) (a.put oi.dst v) w → Q (.panic c) a w) :
    ∀ (fuel : Nat) (listed : Array Bool) (a : Act) (w : World),
      Closed ops listed → (∀ j oj, ops[j]? = some oj → j ≠ i → listed.getD j true = false → (∀ e ∈ oj.after, Region.binds .any e = true → e.on ≠ i) → oi.apart ops oj = true) →
      i ∈ Region.ready .any ops listed → YieldsIf P ops H oi v a → H w →
      anyH P ops Q H e fuel (listed.setIfInBounds i true) (a.put oi.dst v) w → anyH P ops Q H e (fuel + 1) listed a w := by
  intro fuel
  induction fuel with
  | zero =>
    intro listed a w _ _ hr hy hH h
    refine ⟨fun h0 => absurd h0 (ne_nil_of_mem hr), fun j hj => ?_⟩
    by_cases hji : j = i
    · subst hji; exact hy.wpOp hi hH ⟨fun _ => hH, h⟩
    · have h2 := ready_mono hj hji
      rw [h.1] at h2
      cases h2
  | succ fuel ih =>
    intro listed a w hcl hfree hr hy hH h
    refine ⟨fun h0 => absurd h0 (ne_nil_of_mem hr), fun j hj => ?_⟩
    by_cases hji : j = i
    · subst hji; exact hy.wpOp hi hH ⟨fun _ => hH, h⟩
    · have h1 := h.2 j (ready_mono hj hji)
      obtain ⟨hjun, oj, hoj, hall⟩ := mem_ready.1 hj
      have hnot : ∀ e ∈ oj.after, Region.binds .any e = true → e.on ≠ i := by
        intro e he hb heq
        have h1 := hall e he hb
        have h0 := (mem_ready.1 hr).1
        rw [heq] at h1
        rcases Nat.lt_or_ge i listed.size with h' | h'
        · simp [h'] at h0 h1; rw [h0] at h1; cases h1
        · simp [Array.getElem?_eq_none h'] at h1
      have hje : j ≠ e := by
        intro hje
        subst hje
        simp only [lastOk, hoj, List.all_eq_true, List.mem_range, Bool.or_eq_true, beq_iff_eq] at he
        have hlt : i < ops.size := (Array.getElem?_eq_some_iff.1 hi).1
        rcases he i hlt with h' | h'
        · exact hji h'.symm
        · have h1 := waits_listed hcl _ _ _ h' (fun o ho ed hed hb => by rw [hoj] at ho; cases ho; exact hall ed hed hb)
          have h0 := (mem_ready.1 hr).1
          rcases Nat.lt_or_ge i listed.size with h' | h'
          · simp [h'] at h0 h1; rw [h0] at h1; cases h1
          · simp [Array.getElem?_eq_none h'] at h1
      have h2 := wpOp_putIf hoj (hfree j oj hoj hji hjun hnot) (fun cs b => Region.noSelect_spec hsel i oi cs b hi) (fun cs b => Region.noSelect_spec hsel j oj cs b hoj) hQ hy h1
      have hfree' : ∀ k ok, ops[k]? = some ok → k ≠ i → (listed.setIfInBounds j true).getD k true = false →
          (∀ e ∈ ok.after, Region.binds .any e = true → e.on ≠ i) → oi.apart ops ok = true := by
        intro k ok hk hki hun hno
        refine hfree k ok hk hki ?_ hno
        by_cases hjk : j = k
        · subst hjk; exact hjun
        · rw [getD_set_ne true hjk] at hun; exact hun
      refine wpOp_mono (fun a' w' h3 => ⟨h3.2.1, ih (listed.setIfInBounds j true) a' w' (hcl.set hj) hfree' (ready_mono hr (Ne.symm hji)) h3.1 (h3.2.1 hje) ?_⟩) h2
      rw [Array.setIfInBounds_comm _ _ hji]
      exact h3.2.2
end

/-! ### over frames and blocks -/
/-- The rest of a drawn region: H holds till the end; e: the operation that waits for all. -/
def DL (P : Program) (n : Nat) (ops : Array Oper) (H : HL) (e : Nat) (fuel : Nat) (listed : Array Bool) (σ : Env) (S : HL) (K : KK) : Prop :=
  opsOk n ops.toList = true → Region.noSelect ops = true → lastOk ops e = true → (∀ c σ S, ¬ K (.panic c) σ S) →
  ∀ w0 a w, Good n w0 σ S a w → anyH P ops (Post n w0 K) (Held H) e fuel listed a w

theorem CW.drawn {P n id l σ S K} (H : HL) (e : Nat) (hm : (P.follows .mixedOrders || !Region.departs ⟨l⟩) = true) (hok : opsOk n l = true) (hsel : Region.noSelect ⟨l⟩ = true)
    (he : lastOk ⟨l⟩ e = true) (hp : ∀ c σ S, ¬ K (.panic c) σ S)
    (h : DL P n ⟨l⟩ H e l.length (Array.replicate l.length false) σ S K) : CW P n (.region id ⟨l⟩ true) σ S K := by
  intro w0 a w hg
  refine wp_region_draw fun t => ?_
  simp only [Region.schedule, hm, if_true]
  exact wpAny_sound _ _ _ _ _ (wpAny_of_anyH _ _ _ _ (h hok hsel he hp w0 a _ ⟨hg.fr, hg.sat.drawn _⟩))

theorem dst_lt {n : Nat} {ops : Array Oper} (h : opsOk n ops.toList = true) {i : Nat} {o : Oper} (hi : ops[i]? = some o) : ∀ k, o.dst = some k → k < n := by
  intro k hk
  simp only [opsOk, List.all_eq_true] at h
  have := h o (by simpa using Array.mem_of_getElem? hi)
  rw [hk] at this
  exact Nat.blt_eq.mp this

/-- What the guard of an operation says in a frame. -/
def guardV (σ : Env) (ops : Array Oper) (o : Oper) : Option Bool :=
  match o.guard with
  | none => some true
  | some (j, want) => match (ops[j]?).bind (·.dst) with
    | none => none
    | some d => match look σ d with
      | some (.bool b) => some (b == want)
      | _ => none

theorem wanted_of {n w0 σ S a w ops o t} (hg : Good n w0 σ S a w) (hok : opsOk n ops.toList = true) (h : guardV σ ops o = some t) : Region.wanted o (yielded ops a.tmps) = t := by
  unfold guardV at h
  split at h
  · rename_i hn; simp [Region.wanted, hn] at h ⊢; exact h
  · rename_i j want hgd
    split at h
    · cases h
    · rename_i d hd
      split at h
      · rename_i b hl
        have hlt : d < n := by
          cases hj : ops[j]? with
          | none => simp [hj] at hd
          | some oj => exact dst_lt hok hj d (by simpa [hj] using hd)
        have := yielded_of hg.fr hd hlt hl
        simp [Region.wanted, hgd, this] at h ⊢
        exact h
      · cases h

section
variable {P : Program} {n : Nat} {ops : Array Oper} {H : HL} {e fuel : Nat} {listed : Array Bool} {σ : Env} {S : HL} {K : KK}
theorem DL.take (i : Nat) {o : Oper} {d : Nat} {v : Value} (hi : ops[i]? = some o) (hf : Region.free .any ops listed i = true) (hr : (Region.ready .any ops listed).contains i = true) (hcl : closedB ops listed = true)
    (hd : o.dst = some d) (hgd : guardV σ ops o = some true) (hq : QW P H o σ v) (hH : ∀ p ∈ H, p ∈ S) (h : DL P n ops H e fuel (listed.setIfInBounds i true) ((d, v) :: σ) S K) :
    DL P n ops H e (fuel + 1) listed σ S K := by
  intro hok hsel he hp w0 a w hg
  have hput := hg.fr.put (d := o.dst) (v := v) (dst_lt hok hi)
  refine anyH_first (v := v) hi hsel he ?_ fuel listed a w (Closed.of_B hcl) (Region.free_spec hi hf) (by simpa using hr) ?_ (fun p hpm => hg.sat.get p (hH p hpm)) ?_
  · rintro c a w ⟨σ', S', _, hk⟩; exact (hp _ _ _ hk).elim
  · exact .inl ⟨wanted_of hg hok hgd, fun w' hw' => hq a.eval w' (fun x v hx => hg.fr.eval hx) hw'⟩
  · refine h hok hsel he hp w0 _ w ⟨?_, hg.sat⟩
    rw [hd] at hput ⊢; exact hput
theorem DL.pass (i : Nat) {o : Oper} {d : Nat} (hi : ops[i]? = some o) (hf : Region.free .any ops listed i = true) (hr : (Region.ready .any ops listed).contains i = true) (hcl : closedB ops listed = true)
    (hd : o.dst = some d) (hgd : guardV σ ops o = some false) (hH : ∀ p ∈ H, p ∈ S) (h : DL P n ops H e fuel (listed.setIfInBounds i true) ((d, undef) :: σ) S K) :
    DL P n ops H e (fuel + 1) listed σ S K := by
  intro hok hsel he hp w0 a w hg
  have hput := hg.fr.put (d := o.dst) (v := undef) (dst_lt hok hi)
  refine anyH_first (v := undef) hi hsel he ?_ fuel listed a w (Closed.of_B hcl) (Region.free_spec hi hf) (by simpa using hr) ?_ (fun p hpm => hg.sat.get p (hH p hpm)) ?_
  · rintro c a w ⟨σ', S', _, hk⟩; exact (hp _ _ _ hk).elim
  · exact .inr ⟨wanted_of hg hok hgd, rfl⟩
  · refine h hok hsel he hp w0 _ w ⟨?_, hg.sat⟩
    rw [hd] at hput ⊢; exact hput

theorem DL.step_core {i : Nat} {o : Oper} (hi : ops[i]? = some o) (hgd : guardV σ ops o = some true)
    (h : OW P n o σ S fun σ' S' => (i ≠ e → ∀ p ∈ H, p ∈ S') ∧ DL P n ops H e fuel (listed.setIfInBounds i true) σ' S' K)
    (hok : opsOk n ops.toList = true) (hsel : Region.noSelect ops = true) (he : lastOk ops e = true) (hp : ∀ c σ S, ¬ K (.panic c) σ S) {w0 a w} (hg : Good n w0 σ S a w) :
    wpOp P ops (Post n w0 K) i (fun a' w' => (i ≠ e → Held H w') ∧ anyH P ops (Post n w0 K) (Held H) e fuel (listed.setIfInBounds i true) a' w') a w := by
  unfold wpOp
  simp only [hi, wanted_of hg hok hgd, if_true]
  refine .inl (Oper.wp_mono ?_ (h.wp (dst_lt hok hi) hg _))
  rintro a' w' ⟨σ', S', hg', hH, hk⟩
  exact ⟨fun hne p hpm => hg'.sat.get p (hH hne p hpm), hk hok hsel he hp w0 a' w' hg'⟩
theorem DL.pass_core {i : Nat} {o : Oper} (hi : ops[i]? = some o) (hgd : guardV σ ops o = some false) (hH : ∀ p ∈ H, p ∈ S)
    (h : DL P n ops H e fuel (listed.setIfInBounds i true) (putE σ o.dst undef) S K)
    (hok : opsOk n ops.toList = true) (hsel : Region.noSelect ops = true) (he : lastOk ops e = true) (hp : ∀ c σ S, ¬ K (.panic c) σ S) {w0 a w} (hg : Good n w0 σ S a w) :
    wpOp P ops (Post n w0 K) i (fun a' w' => (i ≠ e → Held H w') ∧ anyH P ops (Post n w0 K) (Held H) e fuel (listed.setIfInBounds i true) a' w') a w := by
  unfold wpOp
  simp only [hi, wanted_of hg hok hgd]
  exact ⟨fun _ p hpm => hg.sat.get p (hH p hpm), h hok hsel he hp w0 _ w ⟨hg.fr.put (dst_lt hok hi), hg.sat⟩⟩

/-- The only one that may come up now. -/
theorem DL.one (i : Nat) {o : Oper} (hr : Region.ready .any ops listed = [i]) (hi : ops[i]? = some o) (hgd : guardV σ ops o = some true)
    (h : OW P n o σ S fun σ' S' => (i ≠ e → ∀ p ∈ H, p ∈ S') ∧ DL P n ops H e fuel (listed.setIfInBounds i true) σ' S' K) : DL P n ops H e (fuel + 1) listed σ S K := by
  intro hok hsel he hp w0 a w hg
  refine ⟨fun h0 => (by rw [hr] at h0; cases h0), fun j hj => ?_⟩
  rw [hr] at hj
  cases List.mem_singleton.1 hj
  exact DL.step_core hi hgd h hok hsel he hp hg
theorem DL.onePass (i : Nat) {o : Oper} (hr : Region.ready .any ops listed = [i]) (hi : ops[i]? = some o) (hgd : guardV σ ops o = some false) (hH : ∀ p ∈ H, p ∈ S)
    (h : DL P n ops H e fuel (listed.setIfInBounds i true) (putE σ o.dst undef) S K) : DL P n ops H e (fuel + 1) listed σ S K := by
  intro hok hsel he hp w0 a w hg
  refine ⟨fun h0 => (by rw [hr] at h0; cases h0), fun j hj => ?_⟩
  rw [hr] at hj
  cases List.mem_singleton.1 hj
  exact DL.pass_core hi hgd hH h hok hsel he hp hg
/-- One of two may come up now. -/
theorem DL.two (i j : Nat) {o o2 : Oper} (hr : Region.ready .any ops listed = [i, j]) (hi : ops[i]? = some o) (hgd : guardV σ ops o = some true) (hj : ops[j]? = some o2) (hgd2 : guardV σ ops o2 = some true)
    (h : OW P n o σ S fun σ' S' => (i ≠ e → ∀ p ∈ H, p ∈ S') ∧ DL P n ops H e fuel (listed.setIfInBounds i true) σ' S' K)
    (h2 : OW P n o2 σ S fun σ' S' => (j ≠ e → ∀ p ∈ H, p ∈ S') ∧ DL P n ops H e fuel (listed.setIfInBounds j true) σ' S' K) : DL P n ops H e (fuel + 1) listed σ S K := by
  intro hok hsel he hp w0 a w hg
  refine ⟨fun h0 => (by rw [hr] at h0; cases h0), fun k hk => ?_⟩
  rw [hr] at hk
  rcases List.mem_cons.1 hk with rfl | hk
  · exact DL.step_core hi hgd h hok hsel he hp hg
  · cases List.mem_singleton.1 hk
    exact DL.step_core hj hgd2 h2 hok hsel he hp hg
theorem DL.done (hr : Region.ready .any ops listed = []) (h : K .normal σ S) : DL P n ops H e fuel listed σ S K := by
  intro hok hsel he hp w0 a w hg
  cases fuel with
  | zero => exact ⟨hr, σ, S, hg, h⟩
  | succ m => exact ⟨fun _ => ⟨σ, S, hg, h⟩, by rw [hr]; simp⟩
end
end Go.Sl
