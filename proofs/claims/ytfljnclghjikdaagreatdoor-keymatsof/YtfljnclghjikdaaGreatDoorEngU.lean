/- A part of a proof: EngR, EngS, EngT, EngU. -/
import Derived.Test.YtfljnclghjikdaaGreatDoorEngL
import Derived.RangeFuncIn
/- The engine, part R: loops over a function, and what runs in a round of theirs. -/
set_option linter.unusedVariables false
set_option linter.unusedSimpArgs false
namespace Go.Sl

/-- No fence; the frame runs a round of the loop ro (none: a function). -/
def fz (ro : Option Nat) : Fence := { Fence.wide with round := ro }
theorem calls_fz {ro : Option Nat} {m : Nat} {P f args w R} : CallsIn (fz ro) m P f args w R ↔ Calls P f args w R :=
  (show CallsIn (fz ro) m P f args w R ↔ CallsIn Fence.wide m P f args w R from Iff.rfl).trans callsIn_wide
def noDef (l : List Oper) : Bool := l.all fun o => match o.op with | .defer _ => false | _ => true

theorem wpOpsIn_of {ro : Option Nat} {P : Program} {ops : Array Oper} {Q : Exit → Act → World → Prop} (hnd : noDef ops.toList = true) (hno : ∀ a w, ¬ Q .outgrown a w) :
    ∀ (l : List Nat) (a : Act) (w : World), wpOps P ops Q l a w → wpOpsIn (fz ro) 0 P ops Q l a w := by
  have hnl : ¬ LetsOut Q := by rintro ⟨a, w, h⟩; exact hno a w h
  intro l
  induction l with
  | nil => exact fun a w h => h
  | cons i rest ih =>
    intro a w h
    simp only [wpOps, wpOpsIn] at h ⊢
    cases ho : ops[i]? with
    | none => simp only [ho] at h ⊢; exact ih a w h
    | some o =>
      simp only [ho] at h ⊢
      by_cases hw : Region.wanted o (yielded ops a.tmps) = true
      · simp only [hw, if_true] at h ⊢
        rcases h with h | ⟨_, h⟩
        · refine ⟨fun _ _ => trivial, ?_⟩
          have hd : ∀ c, o.op ≠ .defer c := by
            intro c hc
            simp only [noDef, List.all_eq_true] at hnd
            have := hnd o (by simpa using Array.mem_of_getElem? ho)
            simp [hc] at this
          rw [Oper.semAt_eq _ _ _ hd]
          unfold Oper.wp at h
          generalize (execOp a.eval o).run P w = r at h ⊢
          cases r with
          | ok x w' =>
            cases x <;> simp only [Oper.upon, Oper.uponIn] at h ⊢
            case value v => exact ih _ _ h
            case skip => exact ih _ _ h
            case defer d => exact ih _ _ h
            case enter f args =>
              refine ⟨fun hh => by simp [fz, Fence.wide] at hh, calls_fz.2 (h.mono ?_)⟩
              intro e w'' he
              cases e with
              | returned v => exact ih _ _ he
              | panicked c => exact he
              | outgrown => exact (hnl he).elim
            case row row args =>
              refine ⟨fun hh => by simp [fz, Fence.wide] at hh, fun c cs _ => ?_⟩
              obtain ⟨v, w'', hR, hs⟩ := h c cs
              exact ⟨v, w'', ih _ _ hR, (show StepsIn (Machine.fenced P Fence.wide) P _ _ from stepsIn_wide.2 hs)⟩
          | halt x w' => cases x <;> simp only [Oper.upon, Oper.uponIn] at h ⊢ <;> exact h
        · exact (hnl h).elim
      · simp only [hw, if_false, Bool.false_eq_true] at h ⊢
        exact ⟨fun _ _ => trivial, ih _ _ h⟩

/-- Code that runs in a function (none) or in a round (some l). -/
def CWr (ro : Option Nat) (P : Program) (n : Nat) (c : Code) (σ : Env) (S : HL) (K : KK) : Prop :=
  ∀ w0 a w, Good n w0 σ S a w → c.wpIn (fz ro) 0 P (Post n w0 K) a w

theorem CWr.to {P n c σ S K} (h : CWr none P n c σ S K) : CW P n c σ S K := fun w0 a w hg => wpIn_wide.1 (h w0 a w hg)
theorem CWr.of {P n c σ S K} (h : CW P n c σ S K) : CWr none P n c σ S K := fun w0 a w hg => wpIn_wide.2 (h w0 a w hg)
section
variable {ro : Option Nat} {P : Program} {n : Nat} {c x y : Code} {σ τ : Env} {S T : HL} {K K' : KK} {id l : Nat} {o : Operand}
theorem CWr.mono (h : CWr ro P n c σ S K) (hk : ∀ e σ S, K e σ S → K' e σ S) : CWr ro P n c σ S K' :=
  fun w0 a w hg => wpIn_mono (h w0 a w hg) fun _ _ _ ⟨σ, S, hg, k⟩ => ⟨σ, S, hg, hk _ _ _ k⟩
theorem CWr.seq (h : CWr ro P n x σ S (thenK (fun σ S => CWr ro P n y σ S K) K)) : CWr ro P n (.seq x y) σ S K := by
  intro w0 a w hg
  refine wpIn_seq (wpIn_mono (h w0 a w hg) ?_)
  rintro e a' w' ⟨σ', S', hg', hk⟩
  cases e with
  | normal => exact hk w0 a' w' hg'
  | _ => exact ⟨σ', S', hg', hk⟩
theorem CWr.skip (h : K .normal σ S) : CWr ro P n .skip σ S K := fun _ _ _ hg => wpIn_skip ⟨σ, S, hg, h⟩
theorem CWr.exit (h : K (.exit id) σ S) : CWr ro P n (.exit id) σ S K := fun _ _ _ hg => wpIn_exit ⟨σ, S, hg, h⟩
theorem CWr.ret (h : K .ret σ S) : CWr ro P n .ret σ S K := fun _ _ _ hg => wpIn_ret ⟨σ, S, hg, h⟩
theorem CWr.label (h : K .normal σ S) : CWr ro P n (.label l) σ S K := fun _ _ _ hg => wpIn_label ⟨σ, S, hg, h⟩
theorem CWr.cond_true (hc : ev σ o = some (.bool true)) (h : CWr ro P n x σ S K) : CWr ro P n (.cond o x y) σ S K :=
  fun w0 a w hg => wpIn_cond_true (hg.fr.eval hc) (h w0 a w hg)
theorem CWr.cond_false (hc : ev σ o = some (.bool false)) (h : CWr ro P n y σ S K) : CWr ro P n (.cond o x y) σ S K :=
  fun w0 a w hg => wpIn_cond_false (hg.fr.eval hc) (h w0 a w hg)
theorem CWr.cond {b : Bool} (hc : ev σ o = some (.bool b)) (ht : b = true → CWr ro P n x σ S K) (hf : b = false → CWr ro P n y σ S K) : CWr ro P n (.cond o x y) σ S K :=
  fun w0 a w hg => wpIn_cond_split (hg.fr.eval hc) (fun e => ht e w0 a w hg) (fun e => hf e w0 a w hg)
theorem CWr.block (h : CWr ro P n c σ S (blockK id K)) : CWr ro P n (.block id c) σ S K := by
  intro w0 a w hg
  refine wpIn_block (wpIn_mono (h w0 a w hg) ?_)
  rintro e a' w' ⟨σ', S', hg', hk⟩
  cases e with
  | exit id' =>
    simp only [Exit.inBlock]
    simp only [blockK] at hk
    split
    · rename_i he; rw [if_pos he] at hk; exact ⟨σ', S', hg', hk⟩
    · rename_i he; rw [if_neg he] at hk; exact ⟨σ', S', hg', hk⟩
  | _ => exact ⟨σ', S', hg', hk⟩
theorem CWr.weak (hs : leE τ σ) (hT : T.Sublist S) (h : CWr ro P n c τ T K) : CWr ro P n c σ S K :=
  fun w0 a w hg => h w0 a w (hg.weak hs hT)
theorem CWr.region {ops : List Oper} (hok : opsOk n ops = true) (h : RL P n ⟨ops⟩ ops σ S K) (hnd : noDef ops = true := by rfl) (hno : ∀ σ S, ¬ K .outgrown σ S := by intro _ _ h; first | exact h | exact nomatch h.1) : CWr ro P n (.region id ⟨ops⟩ false) σ S K := by
  intro w0 a w hg
  refine wpIn_region (wpOpsIn_of hnd (by rintro a w ⟨σ, S, _, h⟩; exact hno _ _ h) _ _ _ ?_)
  have := h hok w0 a w 0 (fun j => by simp) hg
  simpa using this
theorem CWr.drawn {ops : List Oper} (H : HL) (e : Nat) (hm : (P.follows .mixedOrders || !Region.departs ⟨ops⟩) = true) (hok : opsOk n ops = true) (hsel : Region.noSelect ⟨ops⟩ = true)
    (he : lastOk ⟨ops⟩ e = true) (hp : ∀ c σ S, ¬ K (.panic c) σ S)
    (h : DL P n ⟨ops⟩ H e ops.length (Array.replicate ops.length false) σ S K) (hnd : noDef ops = true := by rfl) (hno : ∀ σ S, ¬ K .outgrown σ S := by intro _ _ h; first | exact h | exact nomatch h.1) : CWr ro P n (.region id ⟨ops⟩ true) σ S K := by
  intro w0 a w hg
  refine wpIn_region_draw fun t => wpOpsIn_of hnd (by rintro a w ⟨σ, S, _, h⟩; exact hno _ _ h) _ _ _ ?_
  simp only [Region.schedule, hm, if_true]
  exact wpAny_sound _ _ _ _ _ (wpAny_of_anyH _ _ _ _ (h hok hsel he hp w0 a _ ⟨hg.fr, hg.sat.drawn _⟩))
theorem CWr.drawnS {ops : List Oper} (e : Nat) (hm : (P.follows .mixedOrders || !Region.departs ⟨ops⟩) = true) (hok : opsOk n ops = true) (hsel : Region.noSelect ⟨ops⟩ = true)
    (he : lastOk ⟨ops⟩ e = true) (hp : ∀ c σ S, ¬ K (.panic c) σ S)
    (h : DL P n ⟨ops⟩ S e ops.length (Array.replicate ops.length false) σ S K) (hnd : noDef ops = true := by rfl) (hno : ∀ σ S, ¬ K .outgrown σ S := by intro _ _ h; first | exact h | exact nomatch h.1) : CWr ro P n (.region id ⟨ops⟩ true) σ S K := CWr.drawn S e hm hok hsel he hp h hnd hno

theorem CWr.loop {ι : Type} (I : ι → Prop) (E : ι → Env) (H : ι → HL) (μ : ι → Nat) (i0 : ι) (h0 : I i0)
    (hE : leE (E i0) σ) (hH : (H i0).Sublist S)
    (round : ∀ i, I i → CWr ro P n c (E i) (H i) (thenK (fun σ' S' => ∃ j, I j ∧ μ j < μ i ∧ leE (E j) σ' ∧ (H j).Sublist S') K)) : CWr ro P n (.loop c) σ S K := by
  intro w0 a w hg b k cs hro hb hr
  have key : ∀ m, ∀ i a w, μ i = m → I i → Good n w0 (E i) (H i) a w →
      ∃ e a' w', Post n w0 K e a' w' ∧ ArrivesIn (Machine.fenced P (fz ro)) P (lone (b.atR a (.code c :: .inLoop c :: k)) cs w) b k cs e a' w' := by
    intro m
    induction m using Nat.strongRecOn with
    | _ m ih =>
      intro i a w hm hI hgi
      obtain ⟨e, a1, w1, ⟨σ1, S1, hg1, hk1⟩, harr⟩ := round i hI w0 a w hgi b (.inLoop c :: k) cs hro hb hr
      cases e with
      | normal =>
        obtain ⟨j, hIj, hlt, hEj, hHj⟩ := hk1
        obtain ⟨e2, a2, w2, hq2, harr2⟩ := ih (μ j) (hm ▸ hlt) j a1 w1 rfl hIj (hg1.weak hEj hHj)
        exact ⟨e2, a2, w2, hq2, .of_steps (StepsIn.trans harr (.one (fenced_calm hb hr rfl) stepR_inLoop)) harr2⟩
      | exit id => exact ⟨_, a1, w1, ⟨σ1, S1, hg1, hk1⟩, .pass (x := .inLoop c) rfl (fun _ _ => .inl (by simp)) harr⟩
      | goto l => exact ⟨_, a1, w1, ⟨σ1, S1, hg1, hk1⟩, .pass (x := .inLoop c) rfl (fun _ _ => .inl (by simp)) harr⟩
      | ret => exact ⟨_, a1, w1, ⟨σ1, S1, hg1, hk1⟩, .pass (x := .inLoop c) rfl (fun _ _ => .inl (by simp)) harr⟩
      | panic ch => exact ⟨_, a1, w1, ⟨σ1, S1, hg1, hk1⟩, .pass (x := .inLoop c) rfl (fun _ _ => .inl (by simp)) harr⟩
      | outgrown => exact ⟨_, a1, w1, ⟨σ1, S1, hg1, hk1⟩, .pass (x := .inLoop c) rfl (fun _ _ => .inl (by simp)) harr⟩
  obtain ⟨e, a', w', hq, harr⟩ := key _ i0 a w rfl h0 (hg.weak hE hH)
  exact ⟨e, a', w', hq, .of_steps (.one (fenced_calm hb hr rfl) stepR_loop) harr⟩
theorem CWr.loopT {ι : Type} (τ : Env) (hτ : leE τ σ) (I : ι → Prop) (E : ι → Env → Env) (H : ι → HL) (μ : ι → Nat) (i0 : ι) (h0 : I i0)
    (hE : leE (E i0 τ) σ) (hH : (H i0).Sublist S)
    (round : ∀ i, I i → CWr ro P n c (E i τ) (H i) (thenK (fun σ' S' => ∃ j, I j ∧ μ j < μ i ∧ leE (E j τ) σ' ∧ (H j).Sublist S') K)) : CWr ro P n (.loop c) σ S K :=
  CWr.loop I (fun i => E i τ) H μ i0 h0 hE hH round
theorem CWr.seqCutT {ι : Type} (τ : Env) (hτ : leE τ σ) (I : ι → Prop) (E : ι → Env → Env) (H : ι → HL)
    (h : CWr ro P n x σ S (thenK (fun σ' S' => ∃ i, I i ∧ leE (E i τ) σ' ∧ (H i).Sublist S') K)) (h2 : ∀ i, I i → CWr ro P n y (E i τ) (H i) K) : CWr ro P n (.seq x y) σ S K := by
  refine CWr.seq (CWr.mono h ?_)
  rintro e σ' S' hk
  cases e with
  | normal =>
    obtain ⟨i, hI, hE, hH⟩ := hk
    exact CWr.weak hE hH (h2 i hI)
  | _ => exact hk

/-! ### yield -/
/-- What a call of the loop l's yield comes to. -/
def YieldS (P : Program) (l : Nat) (args : List Value) (S : HL) (K : Value → HL → Prop) : Prop :=
  ∀ w0 w, Sat w0 S w → ∃ f tmps assign body, (Instr.yield l ⟨args⟩).run P w = .ok (.round l f tmps assign body) w ∧
    RoundIn (fz none) 0 P l f tmps assign body w fun e w' => ∃ v S', e = .returned v ∧ Sat w0 S' w' ∧ K v S'
theorem YieldS.mono {l : Nat} {args : List Value} {K K' : Value → HL → Prop} (h : YieldS P l args S K) (hk : ∀ v S', K v S' → K' v S') : YieldS P l args S K' := by
  intro w0 w hs
  obtain ⟨f, tmps, assign, body, h1, h2⟩ := h w0 w hs
  exact ⟨f, tmps, assign, body, h1, h2.mono fun e w' ⟨v, S', he, hs', k⟩ => ⟨v, S', he, hs', hk _ _ k⟩⟩

/-- A region whose last operation calls yield: those ahead of it only read (in the text's order). -/
def RLy (P : Program) (n : Nat) (ops : Array Oper) (os : List Oper) (σ : Env) (S : HL) (K : KK) : Prop :=
  opsOk n os = true → ∀ w0 a w i, (∀ j, ops[i + j]? = os[j]?) → Good n w0 σ S a w →
    wpOpsIn (fz none) 0 P ops (Post n w0 K) ((List.range os.length).map (i + ·)) a w
theorem RLy.nil {ops : Array Oper} (h : K .normal σ S) : RLy P n ops [] σ S K := by
  intro _ w0 a w i _ hg
  exact ⟨σ, S, hg, h⟩
theorem RLy.q {ops : Array Oper} {o : Oper} {os : List Oper} {d : Nat} {v : Value} (hg : o.guard = none) (hd : o.dst = some d) (hq : QW P S o σ v) (hk : RLy P n ops os ((d, v) :: σ) S K) : RLy P n ops (o :: os) σ S K := by
  intro hok w0 a w i hi hgood
  obtain ⟨hd', hok'⟩ := opsOk_cons hok
  simp only [List.length_cons]
  rw [range_cons_map]
  have h0 : ops[i]? = some o := by simpa using hi 0
  have hr := hq a.eval w (fun x v hx => hgood.fr.eval hx) hgood.sat.held
  simp only [wpOpsIn, h0, wanted_none hg, if_true]
  refine ⟨fun _ _ => trivial, ?_⟩
  show Oper.uponIn _ _ _ _ _ _ _ ((execOp a.eval o).run P w)
  rw [hr]
  refine hk hok' w0 _ w (i + 1) (fun j => by have := hi (j + 1); simpa [Nat.add_assoc, Nat.add_comm 1 j] using this) ⟨?_, hgood.sat⟩
  have := hgood.fr.put (d := o.dst) (v := v) hd'
  rw [hd] at this ⊢
  exact this
theorem RLy.yield {ops : Array Oper} {os : List Oper} {d : Nat} {ty : TypeId} {pos : String} {aft : Array Edge} {x : Operand} {args : Array Operand} {ats : Array TypeId} {vs : List Value}
    (hx : ev σ x = some (.func (.yield l) #[] #[])) (ha : ∀ ρ, Ext σ ρ → args.map ρ = ⟨vs⟩) (hk : YieldS P l vs S fun v S' => RLy P n ops os ((d, v) :: σ) S' K) :
    RLy P n ops (⟨some d, .call { callee := .value x, args := args, argTypes := ats }, ty, pos, aft, none⟩ :: os) σ S K := by
  intro hok w0 a w i hi hgood
  obtain ⟨hd', hok'⟩ := opsOk_cons hok
  simp only [List.length_cons]
  rw [range_cons_map]
  have h0 := hi 0
  simp only [Nat.add_zero, List.getElem?_cons_zero] at h0
  obtain ⟨f, tmps, assign, body, hy, hR⟩ := hk w0 w hgood.sat
  have h1 := hgood.fr.eval hx
  have h2 := ha a.eval (fun x v hx => hgood.fr.eval hx)
  have hrun : (execOp a.eval ⟨some d, .call { callee := .value x, args := args, argTypes := ats }, ty, pos, aft, none⟩).run P w = .ok (.round l f tmps assign body) w := by
    simp only [execOp, resolve, h2, h1, Deferred.ofValue]
    simp [invoke, hy]
  generalize ho : (⟨some d, .call { callee := .value x, args := args, argTypes := ats }, ty, pos, aft, none⟩ : Oper) = oo at *
  have hg : oo.guard = none := by rw [← ho]
  have hdst : oo.dst = some d := by rw [← ho]
  simp only [wpOpsIn, h0, wanted_none hg, if_true]
  refine ⟨fun _ _ => trivial, ?_⟩
  show Oper.uponIn _ _ _ _ _ _ _ ((execOp a.eval oo).run P w)
  rw [hrun]
  refine ⟨fun hh => by simp [fz, Fence.wide] at hh, hR.mono ?_⟩
  rintro e w' ⟨v, S', rfl, hs', hk'⟩
  refine hk' hok' w0 _ w' (i + 1) (fun j => by have := hi (j + 1); simpa [Nat.add_assoc, Nat.add_comm 1 j] using this) ⟨?_, hs'⟩
  rw [hdst]
  exact hgood.fr.put (d := some d) (v := v) (by rw [hdst] at hd'; exact hd')
theorem CWr.regionY {ops : List Oper} (hok : opsOk n ops = true) (h : RLy P n ⟨ops⟩ ops σ S K) : CWr none P n (.region id ⟨ops⟩ false) σ S K := by
  intro w0 a w hg
  refine wpIn_region ?_
  have := h hok w0 a w 0 (fun j => by simp) hg
  simpa using this
end
end Go.Sl

/- The engine, part S: a loop over a function: the statement, and its rounds. -/
set_option linter.unusedVariables false
set_option linter.unusedSimpArgs false
namespace Go.Sl
variable {P : Program} {n : Nat} {σ : Env} {S R : HL}

/-- The record of a loop. -/
def lrec (fn : FuncId) (tmps : Array Value) (ps : Array Tmp) (assign body : Code) (D : Nat) (st : LoopState) : Loop :=
  { state := st, pending := none, fn := fn, tmps := tmps, params := ps, assign := assign, body := body, defers := D }
def RecOk (n : Nat) (σ : Env) (tmps : Array Value) : Prop := n ≤ MK ∧ tmps.size = n ∧ ∀ t v, look σ t = some v → tmps.getD t undef = v
/-- The records of a loop that was entered in the frame σ. -/
def RecIs (n : Nat) (σ : Env) (ps : Array Tmp) (assign body : Code) (D : Nat) (rec : LoopState → Loop) : Prop :=
  ∃ fn tmps, RecOk n σ tmps ∧ ∀ st, rec st = lrec fn tmps ps assign body D st
def putAll : List Nat → List Value → Env → Env
  | p :: ps, v :: vs, σ => putAll ps vs ((p, v) :: σ)
  | _, _, σ => σ
theorem RecOk.put {tmps : Array Value} (h : RecOk n σ tmps) {k : Nat} (hk : k < n) (v : Value) : RecOk n ((k, v) :: σ) (tmps.setIfInBounds k v) := by
  obtain ⟨h0, h1, h2⟩ := h
  have hkm : k ≠ MK := by omega
  refine ⟨h0, by simp [h1], fun t u ht => ?_⟩
  by_cases e : k = t
  · subst e
    simp only [look_cons_eq _ _ hkm, Option.some.injEq] at ht
    subst ht
    simp [h1, hk]
  · simp only [look_cons_ne _ _ e] at ht
    have := h2 t u ht
    simpa [Array.getElem?_setIfInBounds_ne e] using this
theorem RecOk.putAll : ∀ (ps : List Nat) (vs : List Value) (σ : Env) (tmps : Array Value), RecOk n σ tmps → ps.all (Nat.blt · n) = true → ps.length = vs.length →
    RecOk n (Go.Sl.putAll ps vs σ) ((ps.zip vs).foldl (fun t (p, v) => t.setIfInBounds p v) tmps)
  | [], _, σ, tmps, h, _, _ => by cases ‹List Value› <;> exact h
  | p :: ps, [], _, _, _, _, hl => by cases hl
  | p :: ps, v :: vs, σ, tmps, h, hp, hl => by
    simp only [List.all_cons, Bool.and_eq_true] at hp
    exact RecOk.putAll ps vs ((p, v) :: σ) (tmps.setIfInBounds p v) (h.put (Nat.blt_eq.mp hp.1) v) hp.2 (by simpa using hl)
theorem look0_putAll_MK : ∀ (ps : List Nat) (vs : List Value) (σ : Env), ps.all (Nat.blt · n) = true → n ≤ MK → look0 (putAll ps vs σ) MK = look0 σ MK
  | [], _, _, _, _ => by cases ‹List Value› <;> rfl
  | p :: ps, [], _, _, _ => rfl
  | p :: ps, v :: vs, σ, hp, hn => by
    simp only [List.all_cons, Bool.and_eq_true] at hp
    have : p ≠ MK := by have := Nat.blt_eq.mp hp.1; omega
    show look0 (putAll ps vs ((p, v) :: σ)) MK = _
    rw [look0_putAll_MK ps vs _ hp.2 hn, look0_cons_ne _ _ this]

theorem Sat.putL {w0 w : World} {L : Nat} {o o' : Obj} (h : Sat w0 ((L, o) :: R) w) : Sat w0 ((L, o') :: R) (w.putObj L o') :=
  h.put Upd.head (World.putObj_heap_same (h.lt List.mem_cons_self)) (fun k hk => World.putObj_heap_other hk) rfl rfl rfl (by simp)

/-- A round: the assignment, then the body, which ends normally. -/
theorem YieldS.round {L D : Nat} {rec : LoopState → Loop} {ps : List Nat} {assign body : Code} {args : List Value} {Kx : HL → Prop} (hr0 : RecIs n σ ⟨ps⟩ assign body D rec) (hM : look0 σ MK = none)
    (hps : ps.all (Nat.blt · n) = true) (hl : ps.length = args.length)
    (h : CWr (some L) P n assign (putAll ps args σ) ((L, .loop (rec .ready)) :: R) (fun e σ1 S1 => e = .normal ∧ ∃ R1, List.Sublist ((L, .loop (rec .ready)) :: R1) S1 ∧
      CWr (some L) P n body σ1 ((L, .loop (rec .busy)) :: R1) (fun e σ2 S2 => e = .normal ∧ ∃ R2, List.Sublist ((L, .loop (rec .busy)) :: R2) S2 ∧
        Kx ((L, .loop (rec .ready)) :: R2)))) :
    YieldS P L args ((L, .loop (rec .ready)) :: R) fun v S' => v = .bool true ∧ Kx S' := by
  obtain ⟨fn, tmps, hr, he⟩ := hr0
  obtain rfl : rec = lrec fn tmps ⟨ps⟩ assign body D := funext he
  intro w0 w hs
  have hL := hs.get _ List.mem_cons_self
  refine ⟨_, _, _, _, run_yield hL (by simp [lrec, hl]), ?_⟩
  refine roundIn_of_wpIn (F := fz none) (n := 0) trivial ?_
  have hg : Good n w0 (putAll ps args σ) ((L, .loop (lrec fn tmps ⟨ps⟩ assign body D .ready)) :: R)
      { tmps := ((⟨ps⟩ : Array Tmp).zip ⟨args⟩).foldl (fun t (p, v) => t.setIfInBounds p v) tmps, defers := [] } w := by
    have h1 := RecOk.putAll ps args σ tmps hr hps hl
    refine ⟨⟨⟨(dfs_none ?_).symm, hr.1⟩, ?_, ?_⟩, hs⟩
    · rw [look0_putAll_MK ps args σ hps hr.1]; exact hM
    · have := h1.2.1; simpa using this
    · intro t v ht; have := h1.2.2 t v ht; simpa using this
  refine wpIn_mono (h w0 _ w hg) ?_
  rintro e a1 w1 ⟨σ1, S1, hg1, rfl, R1, hp1, hk1⟩
  have hs1 := hg1.sat.weakT hp1
  refine ⟨_, run_beginRound (hs1.get _ List.mem_cons_self) rfl, ?_⟩
  have hs2 : Sat w0 ((L, .loop (lrec fn tmps ⟨ps⟩ assign body D .busy)) :: R1) (w1.putObj L (.loop (lrec fn tmps ⟨ps⟩ assign body D .busy))) := hs1.putL
  refine wpIn_mono (hk1 w0 a1 _ ⟨hg1.fr, hs2⟩) ?_
  rintro e a2 w2 ⟨σ2, S2, hg2, rfl, R2, hp2, hk2⟩
  have hs3 := hg2.sat.weakT hp2
  refine ⟨_, _, run_endRound none (hs3.get _ List.mem_cons_self), ?_⟩
  exact ⟨_, _, rfl, hs3.putL, rfl, hk2⟩

/-- The statement: the function is called with yield; all rounds end normally. -/
theorem CW.rangeFunc {g : Operand} {ps : Array Tmp} {assign body : Code} {K : KK} {gf : FuncId} {cap : List Value} (hg : ev σ g = some (.func (.func gf) #[] ⟨cap⟩)) (hM : look0 σ MK = none)
    (hf : ∀ (as : Array Value) w, (callFunc gf as).run P w = .ok (.enter gf as) w)
    (h : ∀ (rec : LoopState → Loop) (L D : Nat), RecIs n σ ps assign body D rec → CallS P gf ⟨.func (.yield L) #[] #[] :: cap⟩ ((L, .loop (rec .ready)) :: (D, .deferred (some [])) :: S) fun v S' =>
      ∃ R, List.Sublist ((L, .loop (rec .ready)) :: R) S' ∧ K .normal ((MK, .pointer (some ⟨D, 0, none⟩)) :: σ) R) : CW P n (.rangeFunc g ps assign body) σ S K := by
  intro w0 a w hgd
  refine (wpIn_wide (n := 0)).1 (wpIn_rangeFunc ?_)
  intro fn _
  have hd0 : a.defers = [] := by rw [hgd.fr.1.1, dfs_none hM]
  have hs1 := (hgd.sat.alloc (.deferred (some []))).alloc (.loop (lrec fn a.tmps ps assign body w.heap.size .ready))
  refine ⟨w.heap.size + 1, [{ target := .collected w.heap.size, args := #[] }], ((w.alloc (.deferred (some []))).alloc (.loop (lrec fn a.tmps ps assign body w.heap.size .ready))), { target := .fn (.func gf) ⟨cap⟩, args := #[.func (.yield (w.heap.size + 1)) #[] #[]] }, ((w.alloc (.deferred (some []))).alloc (.loop (lrec fn a.tmps ps assign body w.heap.size .ready))), gf, ⟨.func (.yield (w.heap.size + 1)) #[] #[] :: cap⟩, ((w.alloc (.deferred (some []))).alloc (.loop (lrec fn a.tmps ps assign body w.heap.size .ready))), run_enterLoop_outer _ _ _ _ _, ?_, fun _ _ => trivial, ?_, fun hh => by simp [Fence.wide] at hh, ?_⟩
  · simp only [resolve, hgd.fr.eval hg]
    simp [go_sem]
  · have e : (#[Value.func (.yield (w.heap.size + 1)) #[] #[]] ++ (⟨cap⟩ : Array Value)) = ⟨.func (.yield (w.heap.size + 1)) #[] #[] :: cap⟩ := by simp
    simp only [invoke, hf, e]
  · refine callsIn_wide.2 ((h (lrec fn a.tmps ps assign body w.heap.size) (w.heap.size + 1) w.heap.size ⟨fn, a.tmps, ⟨hgd.fr.1.2, hgd.fr.2.1, hgd.fr.2.2⟩, fun _ => rfl⟩ w0 _ ?_).mono ?_)
    · have e : (w.heap.push (.deferred (some []))).size = w.heap.size + 1 := by simp
      rw [← e]
      exact hs1
    · rintro e w2 ⟨v, S', rfl, hs', R, hp, hk⟩
      have hs2 := hs'.weakT hp
      refine ⟨none, _, run_endLoop (hs2.get _ List.mem_cons_self) (by simp [lrec]), ?_⟩
      refine ⟨_, R, ⟨⟨⟨?_, hgd.fr.1.2⟩, hgd.fr.2.1, fun t u ht => ?_⟩, hs2.putOther⟩, hk⟩
      · simp only [dfs, look0_cons_eq, hd0]
        rfl
      · have := (look_lt ht).1
        rw [look_cons_ne _ _ this.symm] at ht
        exact hgd.fr.2.2 t u ht
/-- A call of a function whose body calls yield. -/
theorem CallS.enterR {P f fn c n args S K} (hf : P.funcs[f]? = some fn) (hb : fn.body = some c) (hn : fn.ntmps = n) (hle : args.length ≤ n)
    (h : CWr none P n c (argsE 0 args) S (retK P fn K)) (hM : Nat.ble n MK = true := by rfl) : CallS P f ⟨args⟩ S K := CallS.enter hf hb hn hle h.to hM
end Go.Sl

/- The engine, part T: more operations. -/
set_option linter.unusedVariables false
set_option linter.unusedSimpArgs false
namespace Go.Sl
variable {P : Program} {n : Nat} {σ : Env} {S : HL} {K : Env → HL → Prop} {d : Nat} {dst : Option Nat} {ty : TypeId} {pos : String} {aft : Array Edge} {g : Option (Nat × Bool)}
theorem QW.minE {x y : Operand} {ts : Array TypeId} {a b c : Nat} (hx : ev σ x = some (nI a)) (hy : ev σ y = some (nI b)) (h : min a b = c) :
    QW P S ⟨dst, .call { callee := .builtin .min, args := #[x, y], argTypes := ts }, ty, pos, aft, g⟩ σ (nI c) := h ▸ QW.minI hx hy
theorem QW.maxE {x y : Operand} {ts : Array TypeId} {a b c : Nat} (hx : ev σ x = some (nI a)) (hy : ev σ y = some (nI b)) (h : max a b = c) :
    QW P S ⟨dst, .call { callee := .builtin .max, args := #[x, y], argTypes := ts }, ty, pos, aft, g⟩ σ (nI c) := by
  have h1 := QW.maxI (P := P) (S := S) (dst := dst) (ty := ty) (pos := pos) (aft := aft) (g := g) (ts := ts) hx hy
  have e : (if (b : Int) > (a : Int) then (b : Int) else (a : Int)) = ((c : Nat) : Int) := by subst h; split <;> omega
  rw [e] at h1
  exact h1
theorem hgetM {α : Type} {f : α → Value} (ws : List α) (d : α) : ∀ j, j < ws.length → (ws.map f)[0 + j]? = some (f (ws.getD j d)) := fun j h => by
  rw [Nat.zero_add]; exact m_get d h
theorem CW.seqCutP {ι : Type} {P n x y σ S K} (τ : Env) (hτ : leE τ σ) (I : ι → Prop) (E : ι → Env → Env) (H : ι → HL)
    (h : CW P n x σ S (thenK (fun σ' S' => ∃ i T, List.Perm T S' ∧ I i ∧ leE (E i τ) σ' ∧ (H i).Sublist T) K)) (h2 : ∀ i, I i → CW P n y (E i τ) (H i) K) : CW P n (.seq x y) σ S K := by
  refine CW.seq (CW.mono h ?_)
  rintro e σ' S' hk
  cases e with
  | normal =>
    obtain ⟨i, T, hp, hI, hE, hH⟩ := hk
    intro w0 a w hg
    exact CW.weak hE hH (h2 i hI) w0 a w ⟨hg.fr, hg.sat.permT hp⟩
  | _ => exact hk
theorem CW.loopT4 {α β γ δ : Type} {P n c σ S K} (τ : Env) (hτ : leE τ σ) (I : α → β → γ → δ → Prop) (E : α → β → γ → δ → Env → Env) (H : α → β → γ → δ → HL) (μ : α → β → γ → δ → Nat) (i0 : α) (i1 : β) (i2 : γ) (i3 : δ) (h0 : I i0 i1 i2 i3)
    (hE : leE (E i0 i1 i2 i3 τ) σ) (hH : (H i0 i1 i2 i3).Sublist S)
    (round : ∀ i k m q, I i k m q → CW P n c (E i k m q τ) (H i k m q) (thenK (fun σ' S' => ∃ j l r u, I j l r u ∧ μ j l r u < μ i k m q ∧ leE (E j l r u τ) σ' ∧ (H j l r u).Sublist S') K)) : CW P n (.loop c) σ S K :=
  CW.loop (ι := α × β × γ × δ) (fun x => I x.1 x.2.1 x.2.2.1 x.2.2.2) (fun x => E x.1 x.2.1 x.2.2.1 x.2.2.2 τ) (fun x => H x.1 x.2.1 x.2.2.1 x.2.2.2) (fun x => μ x.1 x.2.1 x.2.2.1 x.2.2.2) (i0, i1, i2, i3) h0 hE hH fun x hx => by
    refine CW.mono (round x.1 x.2.1 x.2.2.1 x.2.2.2 hx) ?_
    rintro e σ' S' hk
    cases e with
    | normal => obtain ⟨j, l, r, u, h1, h2, h3, h4⟩ := hk; exact ⟨(j, l, r, u), h1, h2, h3, h4⟩
    | _ => exact hk
/-- The block b stands in S; F o': S with o' in its place; R: the others. -/
inductive Seg2 : HL → Nat → Obj → (Obj → HL) → HL → Prop
  | head {b o S} : Seg2 ((b, o) :: S) b o (fun o' => (b, o') :: S) S
  | tail {x S b o F R} : Seg2 S b o F R → Seg2 (x :: S) b o (fun o' => x :: F o') (x :: R)
  | tailA {Z S b o F R} : Seg2 S b o F R → Seg2 (Z ++ S) b o (fun o' => Z ++ F o') (Z ++ R)
theorem Seg2.spec {S b o F R} (h : Seg2 S b o F R) : S.Perm ((b, o) :: R) ∧ ∀ o', (F o').Perm ((b, o') :: R) := by
  induction h with
  | head => exact ⟨List.Perm.refl _, fun _ => List.Perm.refl _⟩
  | @tail x S b o F R _ ih => exact ⟨(ih.1.cons x).trans (List.Perm.swap _ _ _), fun o' => ((ih.2 o').cons x).trans (List.Perm.swap _ _ _)⟩
  | @tailA Z S b o F R _ ih =>
    exact ⟨(ih.1.append_left Z).trans List.perm_middle, fun o' => ((ih.2 o').append_left Z).trans List.perm_middle⟩
theorem memMid {x a : Nat × Obj} {Z R : HL} (h : x ∈ Z ++ R) : x ∈ Z ++ (a :: R) := by
  rcases List.mem_append.1 h with h | h
  · exact List.mem_append_left _ h
  · exact List.mem_append_right _ (List.mem_cons_of_mem _ h)
/-- A contract of one block, wherever it stands. -/
theorem CallS.seg2 {P : Program} {f : FuncId} {args : Array Value} {S R : HL} {b : Nat} {o : Obj} {F : Obj → HL} {K : Value → HL → Obj → Prop} (hseg : Seg2 S b o F R)
    (h : CallS P f args ((b, o) :: R) fun v S' => ∃ Z o', S' = Z ++ (b, o') :: R ∧ K v Z o') : CallS P f args S fun v S' => ∃ Z o', S' = Z ++ F o' ∧ K v Z o' := by
  obtain ⟨h1, h2⟩ := hseg.spec
  refine CallS.permK (CallS.mono (CallS.perm h h1.symm) ?_)
  rintro v S' ⟨Z, o', rfl, hk⟩
  exact ⟨Z ++ F o', ((h2 o').append_left Z).symm, Z, o', rfl, hk⟩
/-- A slice of these bytes, within its capacity. -/
def RdS (S : HL) (v : Value) (bs : List UInt8) : Prop := RdB S v bs ∧ ∃ a c, v = .slice a bs.length c ∧ bs.length ≤ c
theorem RdS.mono {S T : HL} {v : Value} {bs : List UInt8} (h : RdS S v bs) (hs : ∀ p ∈ S, p ∈ T) : RdS T v bs := ⟨h.1.mono hs, h.2⟩
/-- A part of bytes that lie in memory. -/
theorem RdB.dropC {S : HL} {b off c N d : Nat} {l : List Value} {T : TypeId} {fr : Nat × Nat} {bs : List UInt8} (hm : (b, Obj.cells ⟨l⟩ T fr) ∈ S) (hl : bs.length = N) (hg : ∀ j, j < N → l[off + j]? = some (u8 (bs.getD j 0))) (hd : d ≤ N) :
    RdB S (sl b (off + d) (N - d) c) (bs.drop d) := by
  subst hl
  have hlen : (bs.drop d).length = bs.length - d := List.length_drop
  by_cases h0 : bs.drop d = []
  · left
    refine ⟨h0, ?_⟩
    rw [h0] at hlen
    simp only [List.length_nil] at hlen
    rw [← hlen]
    exact ⟨_, _, rfl⟩
  · right
    refine ⟨h0, b, off + d, c, l, T, fr, by rw [hlen], hm, fun k hk => ?_⟩
    rw [hlen] at hk
    rw [show off + d + k = off + (d + k) from by omega, hg (d + k) (by omega)]
    simp [List.getD_eq_getElem?_getD, List.getElem?_drop]
end Go.Sl
namespace Go.Sl
variable {P : Program} {n : Nat} {σ : Env} {S : HL} {K : Env → HL → Prop} {d : Nat} {dst : Option Nat} {ty : TypeId} {pos : String} {aft : Array Edge} {g : Option (Nat × Bool)}
theorem QW.eqlPN {x y : Operand} {xT yT e : TypeId} {a : Addr} (ht : UT P xT (.pointer e)) (hx : ev σ x = some (.pointer (some a))) (hy : ev σ y = some (.pointer none)) :
    QW P S ⟨dst, .binOp .eql xT x y yT, ty, pos, aft, g⟩ σ (.bool false) :=
  fun ρ w hρ _ => by
    have h : ∀ d : Nat, (Op.equalIn (d + 1) xT (.pointer (some a)) (.pointer none)).run P w = .ok false w := fun d => by simp [Op.equalIn, ht w]
    simp only [execOp, hρ x _ hx, hρ y _ hy, eqGuard, binOp]
    simp [Op.equal, Op.maxDepth, h 9999]
theorem QW.eqlPNN {x y : Operand} {xT yT e : TypeId} (ht : UT P xT (.pointer e)) (hx : ev σ x = some (.pointer none)) (hy : ev σ y = some (.pointer none)) :
    QW P S ⟨dst, .binOp .eql xT x y yT, ty, pos, aft, g⟩ σ (.bool true) :=
  fun ρ w hρ _ => by
    have h : ∀ d : Nat, (Op.equalIn (d + 1) xT (.pointer none) (.pointer none)).run P w = .ok true w := fun d => by simp [Op.equalIn, ht w]
    simp only [execOp, hρ x _ hx, hρ y _ hy, eqGuard, binOp]
    simp [Op.equal, Op.maxDepth, h 9999]
end Go.Sl

/- The engine, part U: append to a slice of bytes of one's own, told by its list. -/
set_option linter.unusedVariables false
set_option linter.unusedSimpArgs false
namespace Go.Sl
variable {P : Program} {n : Nat} {σ : Env} {S : HL} {K : Env → HL → Prop} {d : Nat} {dst : Option Nat} {ty : TypeId} {pos : String} {aft : Array Edge} {g : Option (Nat × Bool)}
theorem OW.appB {x y : Operand} {t t2 e m : Nat} {info : TypeInfo} {yv : Value} {D2 : TypeDesc} {o : Option Buf} {xs ys : List UInt8} {F : HL → HL}
    (ht : UT P t (.slice e)) (ht2 : UT P t2 D2) (hD : (∃ e2, D2 = .slice e2) ∨ D2 = .string) (hi : TI P e info) (hn : SZ P e 1) (hz : ZV P e (u8 0)) (hb0 : info.bytes = 1)
    (hx : ev σ x = some (bufV o xs.length)) (hseg : SegF S (bufH o (xs.map u8) e) F) (hok : bufOk o xs.length 1)
    (hy : ev σ y = some yv) (hsrc : Src P S yv m 1 (ys.map u8)) (hm : ys.length = m) (hb : xs.length + m ≤ 100000000000)
    (hk : ∀ o', bufOk o' (xs ++ ys).length 1 → K ((d, bufV o' (xs ++ ys).length) :: σ) (F (bufH o' ((xs ++ ys).map u8) e))) :
    OW P n ⟨some d, .call { callee := .builtin .append, args := #[x, y], argTypes := #[t, t2] }, ty, pos, aft, g⟩ σ S K := by
  subst hm
  have e1 : (xs ++ ys).length = xs.length + ys.length := List.length_append
  refine OW.append (z := u8 0) (info := info) (sz := 1) (k := xs.length) (m := ys.length) (o := o) (xs := xs.map u8) (ys := ys.map u8) (F := F) ht ht2 hD hi hn hz rfl hx hseg (by simp) hok hy hsrc (by simp) (by simp [oneB]) (by omega) (by rw [hb0]; omega) ?_
  intro o' hok'
  have := hk o' (by rw [e1]; exact hok')
  rw [e1, List.map_append] at this
  exact this
theorem OW.appB0 {x y : Operand} {t t2 e m : Nat} {info : TypeInfo} {yv : Value} {D2 : TypeDesc} {ys : List UInt8}
    (ht : UT P t (.slice e)) (ht2 : UT P t2 D2) (hD : (∃ e2, D2 = .slice e2) ∨ D2 = .string) (hi : TI P e info) (hn : SZ P e 1) (hz : ZV P e (u8 0)) (hb0 : info.bytes = 1)
    (hx : ev σ x = some (.slice none 0 0)) (hy : ev σ y = some yv) (hsrc : Src P S yv m 1 (ys.map u8)) (hm : ys.length = m) (hb : m ≤ 100000000000)
    (hk : ∀ o', bufOk o' ys.length 1 → K ((d, bufV o' ys.length) :: σ) (bufH o' (ys.map u8) e ++ S)) :
    OW P n ⟨some d, .call { callee := .builtin .append, args := #[x, y], argTypes := #[t, t2] }, ty, pos, aft, g⟩ σ S K :=
  OW.appB (o := none) (xs := []) (ys := ys) ht ht2 hD hi hn hz hb0 hx (SegF.here (X := [])) rfl hy hsrc hm (by simp; omega) (fun o' h => hk o' h)
theorem QW.sliceE {x : Operand} {t e sz : Nat} {b off len cap l h m off' n1 c1 : Nat} {lo hi mx : Option Operand} (ht : UT P t (.slice e)) (hn : SZ P e sz) (hx : ev σ x = some (sl b off len cap))
    (hlo : optV σ lo l 0) (hhi : optV σ hi h len) (hmx : optV σ mx m cap) (hm : mx = none ∨ hi ≠ none) (h1 : l ≤ h) (h2 : h ≤ m) (h3 : m ≤ cap) (ho : sliceOff off l m sz = off') (e1 : h - l = n1) (e2 : m - l = c1) :
    QW P S ⟨dst, .slice t x lo hi mx, ty, pos, aft, g⟩ σ (sl b off' n1 c1) := by
  subst e1 e2
  exact QW.sliceS ht hn hx hlo hhi hmx hm h1 h2 h3 ho
theorem segNil {S : HL} {o : Option Buf} {xs : List Value} {T : TypeId} (h : o = none) : SegF S (bufH o xs T) (fun Y => Y ++ S) := by subst h; exact SegF.here (X := [])
theorem Src.rds {S : HL} {v : Value} {bs : List UInt8} {n : Nat} (h : RdB S v bs) (hn : bs.length = n) : Src P S v n 1 (bs.map u8) := by subst hn; exact Src.rdb h
theorem wU_sub {a b : Nat} (h : b ≤ a) (ha : a < 18446744073709551616) : IntKind.wrap .u64 ((a : Int) - (b : Int)) = ((a - b : Nat) : Int) := by
  have e : ((a : Int) - (b : Int)) = ((a - b : Nat) : Int) := by omega
  rw [e, w64_nat, UInt64.toNat_ofNat']
  have : (a - b) % 2 ^ 64 = a - b := Nat.mod_eq_of_lt (by omega)
  rw [this]
theorem RdB.one {S : HL} {b c : Nat} {x : UInt8} {T : TypeId} (hm : (b, blk [u8 x] T) ∈ S) : RdB S (sl b 0 1 c) [x] := RdB.all (bs := [x]) hm
theorem bufSl {o : Option Buf} {n : Nat} (h : bufOk o n 1) (h0 : 0 < n) : ∃ b cap, bufV o n = sl b 0 n cap ∧ n ≤ cap := by
  cases o with
  | none => exact absurd (show n = 0 from h) (by omega)
  | some u => exact ⟨u.b, u.cap, rfl, h.2⟩
theorem RdB.bufB {S : HL} {o : Option Buf} {bs : List UInt8} {T : TypeId} (hb : bufOk o bs.length 1) (hm : ∀ p ∈ bufH o (bs.map u8) T, p ∈ S) : RdB S (bufV o bs.length) bs := by
  refine RdB.buf (xs := []) (T := T) (fun h => ?_) (by rwa [List.append_nil])
  subst h
  exact List.eq_nil_of_length_eq_zero hb
theorem RdS.bufB {S : HL} {o : Option Buf} {bs : List UInt8} {T : TypeId} (hb : bufOk o bs.length 1) (hm : ∀ p ∈ bufH o (bs.map u8) T, p ∈ S) : RdS S (bufV o bs.length) bs := by
  refine ⟨RdB.bufB hb hm, ?_⟩
  cases o with
  | none =>
    have h0 : bs.length = 0 := hb
    exact ⟨none, 0, by rw [h0]; rfl, by omega⟩
  | some u => exact ⟨_, u.cap, rfl, hb.2⟩
end Go.Sl
