/- A loop over a function, walked: its record, its rounds, its end. No condition. -/
import Derived.Test.YtbfndcookgijfaaExMem
namespace Go.Proofs.Ytbfndcookgijfaa.Sx
open Go Go.RowKit
set_option linter.unusedVariables false
section
variable {P : Program} {ro : Option Nat} {n : NT} {ops : Array Oper} {Q : Exit → Act → World → Prop} {S : World → Prop} {w0 : World} {cs : List Chunk}
/-- The value that a loop's rounds are called by. -/
abbrev yv (L : Nat) : Value := .func (.yield L) #[] #[]
abbrev markOf (D : Nat) : Deferred := { target := .collected D, args := #[] }
abbrev lrec (st : LoopState) (pe : Option Code) (g : FuncId) (tm : Array Value) (ps : Array Tmp) (x y : Code) (D : Nat) : Obj := .loop { state := st, pending := pe, fn := g, tmps := tm, params := ps, assign := x, body := y, defers := D }
theorem getLoop_run {L : Nat} {r : Loop} {w : World} (h : w.heap[L]? = some (.loop r)) : (Instr.getLoop L).run P w = .ok r w := by
  unfold Instr.getLoop getObj
  simp [Sem.run_bind, Sem.run, h]
theorem setObj_run {L : Nat} {o o' : Obj} {w : World} (h : w.heap[L]? = some o') (hn : noCells o') : (setObj L o).run P w = .ok () { w with heap := w.heap.setIfInBounds L o } := by
  unfold setObj
  simp only [Sem.run, h]
  cases o' <;> first | exact hn.elim | rfl
/-- The statement: the record and the block of the rounds' deferred calls are laid, the function is gone through. -/
theorem st_rangeFunc {tg : Tmp} {ps : Array Tmp} {x y : Code} {sz : Nat} {df : List Deferred} {l : Slots} {f : FuncId} {caps : Array Value} {fn : Func} {c : Code} {nf : Nat} {lf : Nat → Slots}
    (hg : look l tg = some (.func (.func f) #[] caps)) (hf : P.funcs[f]? = some fn) (hb : fn.body = some c) (hn : fn.ntmps = nf) (hsz : Nat.ble (1 + caps.size) nf = true)
    (hi : ∀ L, tr P (invoke (.fn (.func f) caps) (#[] ++ #[yv L])) [] = some ([], .enter f (#[yv L] ++ caps))) (hl : ∀ L, ofArgs 0 (#[yv L] ++ caps).toList = lf L)
    (k : ∀ (g : FuncId) (a : Act) (D L : Nat) (rc : LoopState → Option Code → Obj), rc = (fun s p => lrec s p g a.tmps ps x y D) → Knows ⟨sz, markOf D :: df⟩ a l → St P none ⟨nf, []⟩ c (bodyPost P fn (rangePost (FR none) 0 P L Q a)) (lf L) (Mem w0 (.obj L (rc .ready none) :: .obj D (.deferred (some [])) :: cs))) :
    St P none ⟨sz, df⟩ (.rangeFunc (.tmp tg) ps x y) Q l (Mem w0 cs) := by
  intro a w hk hM
  refine wpIn_rangeFunc fun g _ => ?_
  have h1 := hM.objNew (.deferred (some []))
  have h2 := h1.objNew (lrec .ready none g a.tmps ps x y w.heap.size)
  have hev : a.eval (.tmp tg) = .func (.func f) #[] caps := by simp [Act.eval, hk.slot tg _ hg]
  have henter : (Instr.enterLoop g a.tmps ps x y (FR none).round).run P w = .ok ((w.alloc (.deferred (some []))).heap.size, [markOf w.heap.size]) ((w.alloc (.deferred (some []))).alloc (lrec .ready none g a.tmps ps x y w.heap.size)) := by
    simp [Instr.enterLoop, newObj, Sem.run_bind, Sem.run, lrec, markOf]
  have hres : (resolve a.eval (rangeCall (.tmp tg) (w.alloc (.deferred (some []))).heap.size) 0).run P ((w.alloc (.deferred (some []))).alloc (lrec .ready none g a.tmps ps x y w.heap.size)) = .ok { target := .fn (.func f) caps, args := #[] ++ #[yv (w.alloc (.deferred (some []))).heap.size] } ((w.alloc (.deferred (some []))).alloc (lrec .ready none g a.tmps ps x y w.heap.size)) := by
    simp only [resolve, hev]
    simp [Deferred.ofValue, Act.eval]
  have hk' : Knows ⟨sz, markOf w.heap.size :: df⟩ { a with defers := [markOf w.heap.size] ++ a.defers } l := ⟨by show [markOf w.heap.size] ++ a.defers = _; rw [hk.defers]; rfl, hk.size, hk.slot⟩
  exact ⟨_, _, _, _, _, _, _, _, henter, hres, fun _ _ => trivial, tr_run _ _ _ _ _ _ (hi _) rfl, (fun h => by cases h), callsIn_FR.2 (sx_calls hf hb hn (hl _) (by simpa [Nat.add_comm] using hsz) h2 (k g _ w.heap.size _ (fun s p => lrec s p g a.tmps ps x y w.heap.size) rfl hk'))⟩
/-- Slots, more told. -/
def putAll : List (Tmp × Value) → Slots → Slots
  | [], l => l
  | (t, v) :: r, l => putAll r (put l (some t) v)
def inAll (sz : Nat) : List (Tmp × Value) → Bool
  | [] => true
  | (t, _) :: r => Nat.blt t sz && inAll sz r
theorem knows_putAll {sz : Nat} : ∀ (ps : List (Tmp × Value)) (tm : Array Value) (df : List Deferred) (l : Slots), inAll sz ps = true → Knows ⟨sz, df⟩ { tmps := tm, defers := df } l →
    Knows ⟨sz, df⟩ { tmps := ps.foldl (fun tmps p => tmps.setIfInBounds p.1 p.2) tm, defers := df } (putAll ps l)
  | [], _, _, _, _, h => h
  | (t, v) :: r, tm, df, l, hb, h => by
    simp only [inAll, Bool.and_eq_true, Nat.blt_eq] at hb
    exact knows_putAll r _ df _ hb.2 (h.put (some t) (fun u e => by cases e; exact hb.1) v)
/-- What a round's end is asked for, within the function that is gone through. -/
def rdR (P : Program) (ops : Array Oper) (Q : Exit → Act → World → Prop) (S : World → Prop) (r : List (Nat × Bool)) (a : Act) (d : Option Tmp) (e : Ending) (w : World) : Prop :=
  match e with
  | .returned v => S w ∧ seqOps P ops Q S r (a.put d v) w
  | .panicked chain => Q (.panic chain) a w
  | .outgrown => LetsOut Q
def asgP (P : Program) (L : Nat) (y : Code) (R : Ending → World → Prop) : Exit → Act → World → Prop :=
  Exit.then (fun a₁ w₁ => ∃ w₂, (Instr.beginRound L).run P w₁ = .ok () w₂ ∧ y.wpIn (FR (some L)) 0 P (roundPost P L R) a₁ w₂) (fun _ _ _ => False)
/-- The function calls the loop's round. -/
theorem ops_yield {i : Nat} {r : List (Nat × Bool)} {l : Slots} {d : Option Tmp} {L D sz : Nat} {g : FuncId} {ps : Array Tmp} {args : Array Value} {x y : Code} {df : List Deferred} {a0 : Act} {l0 lr : Slots} {rc : LoopState → Option Code → Obj} (j : Nat)
    (hj : cs[j]? = some (.obj L (rc .ready none))) (hrc : rc = fun s p => lrec s p g a0.tmps ps x y D) (h : At P n ops l i d [.o (lrec .ready none g a0.tmps ps x y D)] [.getObj L (lrec .ready none g a0.tmps ps x y D)] (.round L g ((ps.zip args).foldl (fun tmps (t, a) => tmps.setIfInBounds t a) a0.tmps) x y))
    (hk0 : Knows ⟨sz, df⟩ a0 l0) (hb : inAll sz (ps.zip args).toList = true) (hlr : putAll (ps.zip args).toList l0 = lr)
    (k : ∀ a, Knows n a l → St P (some L) ⟨sz, []⟩ x (asgP P L y (rdR P ops Q S r a d)) lr (Mem w0 cs)) : Ops P n ops Q S ((i, false) :: r) l (Mem w0 cs) := by
  subst hrc
  intro a w hk hM hS
  obtain ⟨o', hi, hd, hlt, h⟩ := h.get
  obtain ⟨hw, hr⟩ := h a hk
  have hrec : w.heap[L]? = some (lrec .ready none g a0.tmps ps x y D) := (hM.get j hj).2
  simp only [seqOps, hi, cond_false, wpF, hw, if_true, hr w w ⟨hrec, trivial, rfl⟩, upF]
  refine RoundIn.mono (roundIn_of_wpIn (F := FR none) trivial (R := rdR P ops Q S r a d) ?_) fun e w' he => by cases e <;> first | exact he | (rw [hd]; exact he)
  subst hlr
  refine k a hk _ w ?_ hM
  rw [← Array.foldl_toList]
  exact knows_putAll _ _ [] _ hb ⟨rfl, hk0.size, hk0.slot⟩
/-- A round begins. -/
theorem fin_begin {l : Slots} {L D : Nat} {g : FuncId} {tm : Array Value} {ps : Array Tmp} {x x' y : Code} {R : Ending → World → Prop} {rc : LoopState → Option Code → Obj} (j : Nat) (hj : cs[j]? = some (.obj L (rc .ready none))) (hrc : rc = fun s p => lrec s p g tm ps x y D)
    (k : St P (some L) n x' (roundPost P L R) l (Mem w0 (cs.set j (.obj L (rc .busy none))))) : Fin n (asgP P L x' R) .normal l (Mem w0 cs) := by
  subst hrc
  intro a w hk hM
  have hrec : w.heap[L]? = some (lrec .ready none g tm ps x y D) := (hM.get j hj).2
  refine ⟨_, ?_, k a _ hk (hM.setObj j hj _)⟩
  unfold Instr.beginRound
  simp only [Sem.run_bind, getLoop_run hrec, Result.andThen, setObj_run hrec trivial]
  rfl
theorem endRound_run {L : Nat} {r : Loop} {w : World} {jump : Option Code} (h : w.heap[L]? = some (.loop r)) : (Instr.endRound L jump).run P w = .ok (.bool jump.isNone) { w with heap := w.heap.setIfInBounds L (.loop { r with state := if jump.isNone then .ready else .done, pending := jump }) } := by
  unfold Instr.endRound
  simp only [Sem.run_bind, getLoop_run h, Result.andThen, setObj_run h trivial]
  rfl
/-- A round has gone to its end. -/
theorem fin_round_on {l l' : Slots} {n' : NT} {a' : Act} {d : Option Tmp} {r : List (Nat × Bool)} {L D : Nat} {g : FuncId} {tm : Array Value} {ps : Array Tmp} {x y : Code} {rc : LoopState → Option Code → Obj} (j : Nat) (hj : cs[j]? = some (.obj L (rc .busy none))) (hrc : rc = fun s p => lrec s p g tm ps x y D)
    (hk : Knows n' a' l') (hd : ∀ t, d = some t → t < n'.sz) (hS : ∀ w, Mem w0 (cs.set j (.obj L (rc .ready none))) w → S w)
    (k : Ops P n' ops Q S r (put l' d (.bool true)) (Mem w0 (cs.set j (.obj L (rc .ready none))))) : Fin n (roundPost P L (rdR P ops Q S r a' d)) .normal l (Mem w0 cs) := by
  subst hrc
  intro a w _ hM
  have hrec : w.heap[L]? = some (lrec .busy none g tm ps x y D) := (hM.get j hj).2
  have hM' := hM.setObj j hj (lrec .ready none g tm ps x y D)
  exact ⟨_, _, endRound_run hrec, hS _ hM', k _ _ (hk.put d hd _) hM' (hS _ hM')⟩
def jumpOf : Exit → Option Code
  | .ret => some .ret
  | .exit id => some (.exit id)
  | .goto t => some (.goto t)
  | _ => none
/-- A round has left the loop. -/
theorem fin_round_off {e : Exit} {c : Code} (he : jumpOf e = some c) {l l' : Slots} {n' : NT} {a' : Act} {d : Option Tmp} {r : List (Nat × Bool)} {L D : Nat} {g : FuncId} {tm : Array Value} {ps : Array Tmp} {x y : Code} {rc : LoopState → Option Code → Obj} (j : Nat) (hj : cs[j]? = some (.obj L (rc .busy none))) (hrc : rc = fun s p => lrec s p g tm ps x y D)
    (hk : Knows n' a' l') (hd : ∀ t, d = some t → t < n'.sz) (hS : ∀ w, Mem w0 (cs.set j (.obj L (rc .done (some c)))) w → S w)
    (k : Ops P n' ops Q S r (put l' d (.bool false)) (Mem w0 (cs.set j (.obj L (rc .done (some c)))))) : Fin n (roundPost P L (rdR P ops Q S r a' d)) e l (Mem w0 cs) := by
  subst hrc
  intro a w _ hM
  have hrec : w.heap[L]? = some (lrec .busy none g tm ps x y D) := (hM.get j hj).2
  have hM' := hM.setObj j hj (lrec .done (some c) g tm ps x y D)
  have key : ∃ v w', (Instr.endRound L (some c)).run P w = .ok v w' ∧ rdR P ops Q S r a' d (.returned v) w' := ⟨_, _, endRound_run hrec, hS _ hM', k _ _ (hk.put d hd _) hM' (hS _ hM')⟩
  cases e <;> simp only [jumpOf, Option.some.injEq, reduceCtorEq] at he <;> subst he <;> exact key
theorem endLoop_run {L : Nat} {r : Loop} {w : World} (h : w.heap[L]? = some (.loop r)) (hs : r.state ≠ .busy) : (Instr.endLoop L).run P w = .ok r.pending { w with heap := w.heap.setIfInBounds L (.loop { r with state := .exhausted }) } := by
  unfold Instr.endLoop
  have hb : (r.state == LoopState.busy) = false := by simpa using hs
  simp only [Sem.run_bind, getLoop_run h, Result.andThen, hb, Bool.false_eq_true, if_false]
  simp only [setObj_run h trivial]
  first | rfl | simp [Sem.run, setObj_run h trivial, Result.andThen, Sem.run_bind]
theorem results_none {fn : Func} {tmps : Array Value} {w : World} (h : fn.results = #[]) : (results fn tmps).run P w = .ok (.tuple #[]) w := by
  unfold results
  rw [h]
  simp
/-- The function has ended, no round has left the loop. -/
theorem fin_rf_on {fn : Func} {e : Exit} (he : (match e with | .ret => true | .normal => true | _ => false) = true) (hfn : fn.results = #[]) {nf : Nat} {lf l' : Slots} {n' : NT} {a' : Act} {L D : Nat} {g : FuncId} {tm : Array Value} {ps : Array Tmp} {x y : Code} {rc : LoopState → Option Code → Obj} (j : Nat)
    (hj : cs[j]? = some (.obj L (rc .ready none))) (hrc : rc = fun s p => lrec s p g tm ps x y D) (hk : Knows n' a' l') (k : Fin n' Q .normal l' (Mem w0 (cs.eraseIdx j))) : Fin ⟨nf, []⟩ (bodyPost P fn (rangePost (FR none) 0 P L Q a')) e lf (Mem w0 cs) := by
  subst hrc
  intro a w hk0 hM
  have hrec : w.heap[L]? = some (lrec .ready none g tm ps x y D) := (hM.get j hj).2
  have hM' := (hM.setObj j hj (lrec .exhausted none g tm ps x y D)).sub (cs' := cs.eraseIdx j) (by rw [← List.eraseIdx_set_eq]; exact List.eraseIdx_sublist _ _)
  have key : a.defers = [] ∧ ∃ v, (results fn a.tmps).run P w = .ok v w ∧ rangePost (FR none) 0 P L Q a' (.returned v) w := ⟨hk0.defers, _, results_none hfn, _, _, endLoop_run hrec (by simp), k _ _ hk hM'⟩
  cases e <;> first | exact key | (simp at he)
/-- The function has ended, a round has left the loop: so does the statement. -/
theorem fin_rf_off {fn : Func} {e e' : Exit} {c : Code} (he : (match e with | .ret => true | .normal => true | _ => false) = true) (hfn : fn.results = #[]) (hc : jumpOf e' = some c) {nf : Nat} {lf l' : Slots} {n' : NT} {a' : Act} {L D : Nat} {g : FuncId} {tm : Array Value} {ps : Array Tmp} {x y : Code} {rc : LoopState → Option Code → Obj} (j : Nat)
    (hj : cs[j]? = some (.obj L (rc .done (some c)))) (hrc : rc = fun s p => lrec s p g tm ps x y D) (hk : Knows n' a' l') (k : Fin n' Q e' l' (Mem w0 (cs.eraseIdx j))) : Fin ⟨nf, []⟩ (bodyPost P fn (rangePost (FR none) 0 P L Q a')) e lf (Mem w0 cs) := by
  subst hrc
  intro a w hk0 hM
  have hrec : w.heap[L]? = some (lrec .done (some c) g tm ps x y D) := (hM.get j hj).2
  have hM' := (hM.setObj j hj (lrec .exhausted (some c) g tm ps x y D)).sub (cs' := cs.eraseIdx j) (by rw [← List.eraseIdx_set_eq]; exact List.eraseIdx_sublist _ _)
  have hq := k _ _ hk hM'
  have hj' : c.wpIn (FR none) 0 P Q a' { w with heap := w.heap.setIfInBounds L (lrec .exhausted (some c) g tm ps x y D) } := by
    cases e' <;> simp only [jumpOf, Option.some.injEq, reduceCtorEq] at hc <;> subst hc
    · exact wpIn_exit hq
    · exact wpIn_goto hq
    · exact wpIn_ret hq
  have key : a.defers = [] ∧ ∃ v, (results fn a.tmps).run P w = .ok v w ∧ rangePost (FR none) 0 P L Q a' (.returned v) w := ⟨hk0.defers, _, results_none hfn, _, _, endLoop_run hrec (by simp), hj'⟩
  cases e <;> first | exact key | (simp at he)
/-! ### A function that holds such a loop -/
/-- What the body of such a function must come to (it never panics). -/
def bodyPostF (P : Program) (fn : Func) (R : Ending → World → Prop) : Exit → Act → World → Prop
  | .normal, a, w | .ret, a, w => LeavesInM (FR none) 0 P fn a.tmps R a.defers .returning w
  | .outgrown, _, w => R .outgrown w
  | _, _, _ => False
theorem sx_callsM {n : Nat} {f : FuncId} {fn : Func} {c : Code} {args : Array Value} {w : World} {R : Ending → World → Prop} {l : Slots} {M : World → Prop} (hf : P.funcs[f]? = some fn) (hb : fn.body = some c) (hn : fn.ntmps = n) (hl : ofArgs 0 args.toList = l)
    (hsz : Nat.ble args.size n = true) (hM : M w) (h : St P none ⟨n, []⟩ c (bodyPostF P fn R) l M) : Calls P f args w R := by
  subst hn hl
  refine callsIn_FR.1 (callsIn_of_wp_marks (F := FR none) (n := 0) hf hb trivial (wpIn_mono (h _ w ⟨rfl, ?_, fun t v e => ?_⟩ hM) fun e a' w' hq => by cases e <;> first | exact hq | exact hq.elim))
  · have := Nat.le_of_ble_eq_true hsz
    simp; omega
  · obtain ⟨_, h2⟩ := look_ofArgs _ _ _ _ e
    simp only [Nat.sub_zero] at h2
    have hlt : t < args.size := by
      have := (List.getElem?_eq_some_iff.1 h2).1; simpa using this
    rw [Array.getElem?_append_left hlt]
    simpa using h2
/-- On its way out, with these marks. -/
def Outs (P : Program) (fn : Func) (R : Ending → World → Prop) (ds : List Deferred) (l : Slots) (M : World → Prop) : Prop :=
  ∀ (tmps : Array Value) (w : World), (∀ t v, look l t = some v → tmps[t]? = some v) → M w → LeavesInM (FR none) 0 P fn tmps R ds .returning w
theorem fin_outs {fn : Func} {R : Ending → World → Prop} {e : Exit} {l : Slots} {M : World → Prop} (he : (match e with | .ret => true | .normal => true | _ => false) = true) (k : Outs P fn R n.df l M) : Fin n (bodyPostF P fn R) e l M := by
  intro a w hk hM
  have key : LeavesInM (FR none) 0 P fn a.tmps R a.defers .returning w := by rw [hk.defers]; exact k _ w hk.slot hM
  cases e <;> first | exact key | (simp at he)
theorem outs_mark {fn : Func} {R : Ending → World → Prop} {ds : List Deferred} {l : Slots} {D : Nat} (j : Nat) (hj : cs[j]? = some (.obj D (.deferred (some [])))) (k : Outs P fn R ds l (Mem w0 (cs.eraseIdx j))) : Outs P fn R (markOf D :: ds) l (Mem w0 cs) := by
  intro tmps w hl hM
  have hD : w.heap[D]? = some (.deferred (some [])) := (hM.get j hj).2
  have hM' := (hM.setObj j hj (.deferred none)).sub (cs' := cs.eraseIdx j) (by rw [← List.eraseIdx_set_eq]; exact List.eraseIdx_sublist _ _)
  refine ⟨by simp, .inl ⟨D, _, rfl, ?_, k _ _ hl hM'⟩⟩
  unfold Instr.takeDeferred getObj setObj
  simp [Sem.run_bind, Sem.run, hD]
theorem outs_nil {fn : Func} {R : Ending → World → Prop} {l : Slots} {M : World → Prop} (rs : List ResultVar) (vs : List Value) (hrs : fn.results = rs.toArray) (hv : ∀ w, M w → ResVals P l w rs vs) (hR : ∀ w, M w → R (.returned (theOne vs)) w) : Outs P fn R [] l M := by
  intro tmps w hl hM
  refine ⟨theOne vs, ?_, hR w hM⟩
  unfold results
  rw [hrs, List.mapM_toArray]
  simp only [Sem.run_bind, Sem.run_map]
  rw [resVals_run hl _ (fun _ => rfl) (fun _ _ => rfl) (hv w hM)]
  match vs with
  | [] => rfl
  | [v] => rfl
  | _ :: _ :: _ => simp [theOne]
theorem outs_conv {fn : Func} {R : Ending → World → Prop} {ds : List Deferred} {l : Slots} {M M' : World → Prop} (hM : ∀ w, M w → M' w) (k : Outs P fn R ds l M') : Outs P fn R ds l M := fun t w hl h => k t w hl (hM w h)
/-! ### Code that is told once, the marks told by it -/
theorem st_joinN1 {x y : Code} {l : Slots} {M : World → Prop} {σ : Type} {nn : σ → NT} {L : σ → Slots} {N : σ → World → Prop} {I : σ → Prop} (k : ∀ s, I s → St P ro (nn s) y Q (L s) (N s)) (h : (∀ s, I s → St P ro (nn s) y Q (L s) (N s)) → St P ro n (.seq x y) Q l M) : St P ro n (.seq x y) Q l M := h k
theorem fin_joinN {y : Code} {l : Slots} {M : World → Prop} {σ : Type} {nn : σ → NT} {L : σ → Slots} {N : σ → World → Prop} {I : σ → Prop} (H : ∀ s, I s → St P ro (nn s) y Q (L s) (N s)) (s : σ) (hn : nn s = n) (hI : I s) (hl : ∀ t v, look (L s) t = some v → look l t = some v) (hN : ∀ w, M w → N s w) : Fin n (Exit.then (y.wpIn (FR ro) 0 P Q) Q) .normal l M := by
  subst hn
  exact fun a w hk hM => H s hI a w (hk.mono hl) (hN w hM)
end
end Go.Proofs.Ytbfndcookgijfaa.Sx
