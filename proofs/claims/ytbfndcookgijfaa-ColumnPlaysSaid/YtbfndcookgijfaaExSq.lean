/- Shorter rules for walks: what can be computed is not told. No condition. -/
import Derived.Test.YtbfndcookgijfaaExMem
namespace Go.Proofs.Ytbfndcookgijfaa.Sx
open Go Go.RowKit
set_option linter.unusedVariables false
set_option linter.unusedSectionVars false
/-- Some of the told chunks, in another order; those behind the first n stay. -/
def getN : Nat → List Chunk → Chunk
  | 0, c :: _ => c
  | n + 1, _ :: r => getN n r
  | _, [] => .row none 0 0 0 0 []
def dropN : Nat → List Chunk → List Chunk
  | 0, r => r
  | n + 1, _ :: r => dropN n r
  | _ + 1, [] => []
def pkL (cs t : List Chunk) : List Nat → List Chunk
  | [] => t
  | i :: ix => getN i cs :: pkL cs t ix
def pk (n : Nat) (ix : List Nat) (cs : List Chunk) : List Chunk := pkL cs (dropN n cs) ix
theorem getN_get : ∀ {n : Nat} {cs : List Chunk}, n < cs.length → cs[n]? = some (getN n cs)
  | 0, c :: r, _ => rfl
  | n + 1, c :: r, h => by rw [List.getElem?_cons_succ]; exact getN_get (by simpa using h)
theorem dropN_drop : ∀ (n : Nat) (cs : List Chunk), dropN n cs = cs.drop n
  | 0, _ => rfl
  | n + 1, _ :: r => by rw [List.drop_succ_cons]; exact dropN_drop n r
  | _ + 1, [] => rfl
theorem pkL_filterMap {cs t : List Chunk} : ∀ {ix : List Nat}, (∀ i ∈ ix, i < cs.length) → pkL cs t ix = ix.filterMap (cs[·]?) ++ t
  | [], _ => rfl
  | i :: ix, h => by
    rw [pkL, List.filterMap_cons, getN_get (h i (by simp)), pkL_filterMap fun j hj => h j (by simp [hj])]
    rfl
theorem pk_eq {n : Nat} {ix : List Nat} {cs : List Chunk} (h : ∀ i ∈ ix, i < cs.length) : pk n ix cs = ix.filterMap (cs[·]?) ++ cs.drop n := by
  rw [pk, pkL_filterMap h, dropN_drop]
def freshIn (i : Nat) : List Nat → Bool | [] => true | j :: r => bif Nat.beq i j then false else freshIn i r
def nodupB : List Nat → Bool | [] => true | i :: r => freshIn i r && nodupB r
def okp (n : Nat) (ix : List Nat) (cs : List Chunk) : Bool := Nat.ble n cs.length && ix.all (fun i => Nat.blt i n) && nodupB ix
theorem freshIn_not {i : Nat} : ∀ {l : List Nat}, freshIn i l = true → i ∉ l
  | [], _ => by simp
  | j :: r, h => by
    simp only [freshIn] at h
    cases hb : Nat.beq i j with
    | true => rw [hb] at h; cases h
    | false =>
      rw [hb, cond_false] at h
      have := Nat.ne_of_beq_eq_false hb
      simp [this, freshIn_not h]
theorem nodupB_iff : ∀ {l : List Nat}, nodupB l = true → l.Nodup
  | [], _ => by simp
  | i :: r, h => by
    simp only [nodupB, Bool.and_eq_true] at h
    exact List.nodup_cons.2 ⟨freshIn_not h.1, nodupB_iff h.2⟩
section
variable {P : Program} {ro : Option Nat} {n : NT} {ops : Array Oper} {Q : Exit → Act → World → Prop} {S : World → Prop} {w0 w : World} {cs : List Chunk} {l : Slots}
theorem Mem.pk (h : Mem w0 cs w) (m : Nat) (ix : List Nat) (ho : okp m ix cs = true := by kernel_rfl) : Mem w0 (pk m ix cs) w := by
  simp only [okp, Bool.and_eq_true] at ho
  refine h.pick m ix (by rw [Bool.and_eq_true]; exact ho.1) (nodupB_iff ho.2) (pk_eq fun i hi => ?_).symm
  have h1 := Nat.le_of_ble_eq_true ho.1.1
  have h2 := List.all_eq_true.1 ho.1.2 i hi
  simp only [Nat.blt_eq] at h2
  omega
/-- How a call ends: for some letters. -/
abbrev Post (w0 : World) {σ : Type} (I : σ → Prop) (V : σ → Value) (C : σ → List Chunk) (e : Ending) (w' : World) : Prop := ∃ x, I x ∧ e = .returned (V x) ∧ Mem w0 (C x) w'
theorem oV {k : Nat} {r : List (Nat × Bool)} {f : FuncId} {args : Array Value} {σ : Type} {I : σ → Prop} {V : σ → Value} {C : σ → List Chunk} (d : Option Tmp) (m : Nat) (ix : List Nat) (m' : Nat) (bk : List Nat)
    (h : ∀ w, Mem w0 (Sx.pk m ix cs) w → Calls P f args w (Post w0 I V C)) (kk : ∀ x, I x → Ops P n ops Q (fun _ => True) r (put l d (V x)) (Mem w0 (Sx.pk m' bk (C x))))
    (ho : okp m ix cs = true := by kernel_rfl) (ho' : ∀ x, okp m' bk (C x) = true := by intro _; kernel_rfl) (ha : At P n ops l k d [] [] (.enter f args) := by exact ⟨by kernel_rfl⟩) : Ops P n ops Q (fun _ => True) ((k, false) :: r) l (Mem w0 cs) :=
  ops_callI ha (fun w hM _ => (h w (hM.pk m ix ho)).mono (fun e w' ⟨x, hI, he, hm⟩ => ⟨x, hI, he, hm.pk m' bk (ho' x), trivial⟩)) kk
/-! ### The end of a function -/
def resV (l : Slots) : List Nat → Option (List Value)
  | [] => some []
  | t :: ts => match look l t with
    | some v => (resV l ts).map (v :: ·)
    | none => none
theorem resV_ok {l : Slots} {w : World} : ∀ {ts : List Nat} {vs : List Value}, resV l ts = some vs → ResVals P l w (ts.map ResultVar.tmp) vs
  | [], vs, h => by obtain rfl := Option.some.inj h; exact .nil
  | t :: ts, vs, h => by
    simp only [resV] at h
    cases hl : look l t with
    | none => rw [hl] at h; cases h
    | some v =>
      rw [hl] at h
      obtain ⟨us, hu, rfl⟩ := Option.map_eq_some_iff.1 h
      exact .tmp hl (resV_ok hu)
theorem fr {nn : Nat} {fn : Func} {e : Exit} {σ : Type} {I : σ → Prop} {V : σ → Value} {C : σ → List Chunk} (ts : List Nat) (x : σ) (hI : I x) (m : Nat) (ix : List Nat)
    (he : (match e with | .ret => true | .normal => true | _ => false) = true := by kernel_rfl) (hr : fn.results = (ts.map ResultVar.tmp).toArray := by kernel_rfl) (hl : (resV l ts).map theOne = some (V x) := by kernel_rfl)
    (ho : okp m ix cs = true := by kernel_rfl) (hc : Sx.pk m ix cs = C x := by kernel_rfl) : Fin ⟨nn, []⟩ (bodyPost P fn (Post w0 I V C)) e l (Mem w0 cs) := by
  obtain ⟨vs, hv, ht⟩ := Option.map_eq_some_iff.1 hl
  refine fin_ret (ts.map ResultVar.tmp) vs he hr (fun w _ => resV_ok hv) (fun w hM => ⟨x, hI, by rw [ht], ?_⟩)
  rw [← hc]; exact hM.pk m ix ho
theorem fnil {e : Exit} (t z : Nat) (k : Fin n Q e l (Mem w0 (orow none 0 0 t z [] :: cs))) : Fin n Q e l (Mem w0 cs) := fun a w hk hM => k a w hk (hM.onil none t z)
theorem snil {c : Code} (t z : Nat) (k : St P ro n c Q l (Mem w0 (orow none 0 0 t z [] :: cs))) : St P ro n c Q l (Mem w0 cs) := fun a w hk hM => k a w hk (hM.onil none t z)
theorem onilr {r : List (Nat × Bool)} (t z : Nat) (k : Ops P n ops Q S r l (Mem w0 (orow none 0 0 t z [] :: cs))) : Ops P n ops Q S r l (Mem w0 cs) := fun a w hk hM hS => k a w hk (hM.onil none t z) hS
/-! ### Joins, loops -/
def selL (l : Slots) : Slots → Option Slots
  | [] => some []
  | (t, _) :: r => match look l t with
    | some v => (selL l r).map ((t, v) :: ·)
    | none => none
theorem selL_has {l : Slots} : ∀ {l' l'' : Slots}, selL l l' = some l'' → Has l l''
  | [], _, h => by obtain rfl := Option.some.inj h; trivial
  | (t, _) :: r, _, h => by
    simp only [selL] at h
    cases hl : look l t with
    | none => rw [hl] at h; cases h
    | some v =>
      rw [hl] at h
      obtain ⟨us, hu, rfl⟩ := Option.map_eq_some_iff.1 h
      exact ⟨hl, selL_has hu⟩
theorem fj {y : Code} {σ : Type} {L : σ → Slots} {N : σ → World → Prop} {I : σ → Prop} (H : ∀ s, I s → St P ro n y Q (L s) (N s)) (s : σ) (hI : I s) (m : Nat) (ix : List Nat)
    (hl : selL l (L s) = some (L s) := by kernel_rfl) (ho : okp m ix cs = true := by kernel_rfl) (hc : N s = Mem w0 (Sx.pk m ix cs) := by kernel_rfl) : Fin n (Exit.then (y.wpIn (FR ro) 0 P Q) Q) .normal l (Mem w0 cs) :=
  fin_join H s hI (look_has (selL_has hl)) (fun w hM => by rw [hc]; exact hM.pk m ix ho)
theorem fag {σ ρ γ : Type} {o : σ ⊕ ρ} {I : σ → γ → Prop} {L : σ → γ → Slots} {N : σ → γ → World → Prop} (s : σ) (g : γ) (h0 : o = .inl s) (hI : I s g) (m : Nat) (ix : List Nat)
    (hl : selL l (L s g) = some (L s g) := by kernel_rfl) (ho : okp m ix cs = true := by kernel_rfl) (hc : N s g = Mem w0 (Sx.pk m ix cs) := by kernel_rfl) :
    Fin n (Exit.then (fun a w => ∃ s' g', o = .inl s' ∧ I s' g' ∧ Knows n a (L s' g') ∧ N s' g' w) Q) .normal l (Mem w0 cs) :=
  fin_again s g h0 hI (look_has (selL_has hl)) (fun w hM => by rw [hc]; exact hM.pk m ix ho)
/-! ### Blocks: loads, stores -/
def blkAt : Nat → List Chunk → Option (Nat × List Value × TypeId)
  | 0, .blk b vs T :: _ => some (b, vs, T)
  | q + 1, _ :: r => blkAt q r
  | _, _ => none
def blkN (q : Nat) (cs : List Chunk) : Nat := match blkAt q cs with | some x => x.1 | none => 0
def blkV (q : Nat) (cs : List Chunk) : List Value := match blkAt q cs with | some x => x.2.1 | none => []
def blkC (q off : Nat) (cs : List Chunk) : Value := (blkV q cs)[off]?.getD undef
def okB (q off k : Nat) (cs : List Chunk) : Bool := match blkAt q cs with | some x => Nat.ble (off + k) x.2.1.length | none => false
theorem blkAt_get : ∀ {q : Nat} {cs : List Chunk} {b : Nat} {vs : List Value} {T : TypeId}, blkAt q cs = some (b, vs, T) → cs[q]? = some (.blk b vs T)
  | 0, .blk b vs T :: r, b', vs', T', h => by simp only [blkAt, Option.some.injEq, Prod.mk.injEq] at h; obtain ⟨rfl, rfl, rfl⟩ := h; rfl
  | q + 1, c :: r, b, vs, T, h => by rw [List.getElem?_cons_succ]; exact blkAt_get (by simpa only [blkAt] using h)
  | 0, [], _, _, _, h => by simp [blkAt] at h
  | q + 1, [], _, _, _, h => by simp [blkAt] at h
  | 0, .obj _ _ :: _, _, _, _, h => by simp [blkAt] at h
  | 0, .dat _ _ :: _, _, _, _, h => by simp [blkAt] at h
  | 0, .row _ _ _ _ _ _ :: _, _, _, _, h => by simp [blkAt] at h
  | 0, .tree _ _ :: _, _, _, _, h => by simp [blkAt] at h
theorem okB_get {q off k : Nat} {cs : List Chunk} (h : okB q off k cs = true) : ∃ b vs T, blkAt q cs = some (b, vs, T) ∧ blkN q cs = b ∧ blkV q cs = vs ∧ off + k ≤ vs.length ∧ cs[q]? = some (.blk b vs T) := by
  unfold okB at h
  cases hb : blkAt q cs with
  | none => rw [hb] at h; cases h
  | some x =>
    obtain ⟨b, vs, T⟩ := x
    rw [hb] at h
    exact ⟨b, vs, T, rfl, by simp [blkN, hb], by simp [blkV, hb], Nat.le_of_ble_eq_true h, blkAt_get hb⟩
theorem Mem.ldB (h : Mem w0 cs w) {q off : Nat} (hb : okB q off 1 cs = true) : w.cell? ⟨blkN q cs, off, none⟩ = some (blkC q off cs) := by
  obtain ⟨b, vs, T, _, h1, h2, h3, h4⟩ := okB_get hb
  rw [h1, blkC, h2]
  exact h.cell q h4 (by rw [List.getElem?_eq_getElem (by omega)]; rfl)
theorem oM {k : Nat} {r : List (Nat × Bool)} (d q off : Nat) (kk : Ops P n ops Q S r (put l (some d) (blkC q off cs)) (Mem w0 cs)) (hb : okB q off 1 cs = true := by kernel_rfl)
    (h : At P n ops l k (some d) [.v (blkC q off cs)] [.load ⟨blkN q cs, off, none⟩ (blkC q off cs)] (.value (blkC q off cs)) := by exact ⟨by kernel_rfl⟩) : Ops P n ops Q S ((k, false) :: r) l (Mem w0 cs) :=
  ops_mem h (fun w hM hS => ⟨w, ⟨hM.ldB hb, rfl⟩, hM, hS⟩) kk
theorem oL {k : Nat} {r : List (Nat × Bool)} {M : World → Prop} {ds : List Chunk} (d q off : Nat) (kk : Ops P n ops Q (Mem w0 ds) r (put l (some d) (blkC q off ds)) M) (hb : okB q off 1 ds = true := by kernel_rfl)
    (h : At P n ops l k (some d) [.v (blkC q off ds)] [.load ⟨blkN q ds, off, none⟩ (blkC q off ds)] (.value (blkC q off ds)) := by exact ⟨by kernel_rfl⟩) : Ops P n ops Q (Mem w0 ds) ((k, true) :: r) l M :=
  ops_load h (fun w hM => ⟨hM.ldB hb, rfl⟩) kk
def stB : Nat → Nat → List Value → List Chunk → List Chunk
  | 0, off, xs, .blk b vs T :: r => .blk b (setAll vs off xs) T :: r
  | q + 1, off, xs, c :: r => c :: stB q off xs r
  | _, _, _, r => r
theorem stB_set : ∀ {q : Nat} {cs : List Chunk} {b : Nat} {vs : List Value} {T : TypeId} (off : Nat) (xs : List Value), blkAt q cs = some (b, vs, T) → stB q off xs cs = cs.set q (.blk b (setAll vs off xs) T)
  | 0, .blk b vs T :: r, b', vs', T', off, xs, h => by simp only [blkAt, Option.some.injEq, Prod.mk.injEq] at h; obtain ⟨rfl, rfl, rfl⟩ := h; rfl
  | q + 1, c :: r, b, vs, T, off, xs, h => by
    rw [List.set_cons_succ, ← stB_set off xs (by simpa only [blkAt] using h)]; rfl
  | 0, [], _, _, _, _, _, h => by simp [blkAt] at h
  | q + 1, [], _, _, _, _, _, h => by simp [blkAt] at h
  | 0, .obj _ _ :: _, _, _, _, _, _, h => by simp [blkAt] at h
  | 0, .dat _ _ :: _, _, _, _, _, _, h => by simp [blkAt] at h
  | 0, .row _ _ _ _ _ _ :: _, _, _, _, _, _, h => by simp [blkAt] at h
  | 0, .tree _ _ :: _, _, _, _, _, _, h => by simp [blkAt] at h
theorem Mem.stB (h : Mem w0 cs w) {q off : Nat} {xs : List Value} (hb : okB q off xs.length cs = true) : ∃ w', Evs (stores (blkN q cs) off xs) w w' ∧ Mem w0 (stB q off xs cs) w' := by
  obtain ⟨b, vs, T, h0, h1, h2, h3, h4⟩ := okB_get hb
  rw [stB_set off xs h0, h1]
  exact h.evs_stores xs q h4 off h3
theorem oS {k : Nat} {r : List (Nat × Bool)} (q off : Nat) (xs : List Value) (kk : Ops P n ops Q (fun _ => True) r l (Mem w0 (Sx.stB q off xs cs))) (hb : okB q off xs.length cs = true := by kernel_rfl)
    (h : At P n ops l k none [] (stores (blkN q cs) off xs) .skip := by exact ⟨by kernel_rfl⟩) : Ops P n ops Q (fun _ => True) ((k, false) :: r) l (Mem w0 cs) :=
  ops_store h (fun w hM hS => let ⟨w', he, h'⟩ := hM.stB hb; ⟨w', he, h', trivial⟩) kk
theorem oSS {k : Nat} {r : List (Nat × Bool)} {ds : List Chunk} (q off : Nat) (xs : List Value) (hs : ∀ w, Mem w0 (Sx.stB q off xs cs) w → Mem w0 ds w) (kk : Ops P n ops Q (Mem w0 ds) r l (Mem w0 (Sx.stB q off xs cs))) (hb : okB q off xs.length cs = true := by kernel_rfl)
    (h : At P n ops l k none [] (stores (blkN q cs) off xs) .skip := by exact ⟨by kernel_rfl⟩) : Ops P n ops Q (Mem w0 ds) ((k, false) :: r) l (Mem w0 cs) :=
  ops_store h (fun w hM hS => let ⟨w', he, h'⟩ := hM.stB hb; ⟨w', he, h', hs w' h'⟩) kk
theorem oq {r : List (Nat × Bool)} {M : World → Prop} (is : List (Nat × Bool)) (l' : Slots) (k : Ops P n ops Q S r l' M) (h : (stretch P n ops is l).map (keep (l'.map (·.1))) = some l' := by kernel_rfl) : Ops P n ops Q S (is ++ r) l M := oQ is l' h k
/-- A test in a slot: both ways, and what the plain function then tells. -/
theorem sif {α : Type} {t : Tmp} {x y : Code} {M : World → Prop} {b : Bool} {p q r : Option α} (hp : cnd b p q = r) (k1 : b = true → p = r → St P ro n x Q l M) (k2 : b = false → q = r → St P ro n y Q l M) (ht : look l t = some (.bool b) := by kernel_rfl) : St P ro n (.cond (.tmp t) x y) Q l M :=
  st_if ht (fun e => k1 e (by rw [e] at hp; exact hp)) (fun e => k2 e (by rw [e] at hp; exact hp))
theorem lp {c : Code} {σ ρ γ : Type} {step : σ → Option (σ ⊕ ρ)} {s0 : σ} {r : ρ} (h : loop step s0 = some r) (g0 : γ) (L : σ → γ → Slots) (N : σ → γ → World → Prop) (I : σ → γ → Prop) (h0 : I s0 g0) (m : Nat) (ix : List Nat)
    (round : ∀ s g o, I s g → step s = some o → (∀ r', o = .inr r' → r' = r) → St P ro n c (Exit.then (fun a w => ∃ s' g', o = .inl s' ∧ I s' g' ∧ Knows n a (L s' g') ∧ N s' g' w) Q) (L s g) (N s g))
    (hl : selL l (L s0 g0) = some (L s0 g0) := by kernel_rfl) (ho : okp m ix cs = true := by kernel_rfl) (hc : N s0 g0 = Mem w0 (Sx.pk m ix cs) := by kernel_rfl) : St P ro n (.loop c) Q l (Mem w0 cs) :=
  st_loopP h g0 L N I h0 (look_has (selL_has hl)) (fun w hM => by rw [hc]; exact hM.pk m ix ho) round
def setS (ds : List Nat) (v : Value) : Slots → Slots
  | [] => []
  | (i, u) :: r => (i, bif ds.any (Nat.beq i) then v else u) :: setS ds v r
theorem ob {α : Type} {r : List (Nat × Bool)} {M : World → Prop} {t : Bool} {p q z : Option α} (hp : cnd t p q = z) (ds : List Nat) (k1 : t = true → p = z → Ops P n ops Q S r (setS ds (.bool true) l) M) (k2 : t = false → q = z → Ops P n ops Q S r (setS ds (.bool false) l) M)
    (h : setS ds (.bool t) l = l := by kernel_rfl) : Ops P n ops Q S r l M := by
  cases t
  · rw [← h]; exact (show setS ds (.bool false) l = setS ds (.bool false) (setS ds (.bool false) l) by rw [h, h]) ▸ k2 rfl hp
  · rw [← h]; exact (show setS ds (.bool true) l = setS ds (.bool true) (setS ds (.bool true) l) by rw [h, h]) ▸ k1 rfl hp
theorem oN {k : Nat} {r : List (Nat × Bool)} (d : Nat) (vs : List Value) (T : TypeId) (kk : ∀ b, Ops P n ops Q (fun _ => True) r (put l (some d) (vP b 0)) (Mem w0 (.blk b vs T :: cs)))
    (h : ∀ b, At P n ops l k (some d) [.b b] [.new (.cells vs.toArray T) b] (.value (vP b 0)) := by intro _; exact ⟨by kernel_rfl⟩) : Ops P n ops Q (fun _ => True) ((k, false) :: r) l (Mem w0 cs) :=
  ops_newB vs T h (fun _ _ _ => trivial) kk
theorem oNS {k : Nat} {r : List (Nat × Bool)} {ds : List Chunk} (d : Nat) (vs : List Value) (T : TypeId) (kk : ∀ b, Ops P n ops Q (Mem w0 ds) r (put l (some d) (vP b 0)) (Mem w0 (.blk b vs T :: cs)))
    (h : ∀ b, At P n ops l k (some d) [.b b] [.new (.cells vs.toArray T) b] (.value (vP b 0)) := by intro _; exact ⟨by kernel_rfl⟩) : Ops P n ops Q (Mem w0 ds) ((k, false) :: r) l (Mem w0 cs) :=
  ops_newB vs T h (fun _ _ hS => hS.alloc _) kk
theorem oB {k : Nat} {r : List (Nat × Bool)} (d : Nat) (xs : List Value) (e m z : Nat) (kk : ∀ b, Ops P n ops Q (fun _ => True) r (put l (some d) (.slice (some ⟨b, 0, none⟩) m m)) (Mem w0 (orow (some ⟨b, 0, none⟩) m m e z xs :: cs)))
    (hl : xs.length = m * z := by rfl) (hm : m ≤ maxLen := by decide) (h : ∀ b, At P n ops l k (some d) [.b b] [.new (.cells xs.toArray e) b] (.value (.slice (some ⟨b, 0, none⟩) m m)) := by intro _; exact ⟨by kernel_rfl⟩) : Ops P n ops Q (fun _ => True) ((k, false) :: r) l (Mem w0 cs) :=
  ops_new (M' := fun b => Mem w0 (orow (some ⟨b, 0, none⟩) m m e z xs :: cs)) h (fun w hM _ => ⟨hM.onew xs e m z hl hm, trivial⟩) kk
theorem oBS {k : Nat} {r : List (Nat × Bool)} {ds : List Chunk} (d : Nat) (xs : List Value) (e m z : Nat) (kk : ∀ b, Ops P n ops Q (Mem w0 ds) r (put l (some d) (.slice (some ⟨b, 0, none⟩) m m)) (Mem w0 (orow (some ⟨b, 0, none⟩) m m e z xs :: cs)))
    (hl : xs.length = m * z := by rfl) (hm : m ≤ maxLen := by decide) (h : ∀ b, At P n ops l k (some d) [.b b] [.new (.cells xs.toArray e) b] (.value (.slice (some ⟨b, 0, none⟩) m m)) := by intro _; exact ⟨by kernel_rfl⟩) : Ops P n ops Q (Mem w0 ds) ((k, false) :: r) l (Mem w0 cs) :=
  ops_new (M' := fun b => Mem w0 (orow (some ⟨b, 0, none⟩) m m e z xs :: cs)) h (fun w hM hS => ⟨hM.onew xs e m z hl hm, hS.alloc _⟩) kk
/-- An operation whose answer hangs on what stays. -/
theorem ops_valS {i : Nat} {r : List (Nat × Bool)} {op : Op} {d : Option Tmp} {v : Value} {M : World → Prop} (h : OpAt n ops l i op d)
    (hv : ∀ o w, S w → o.op = op → (execOp (ev l) o).run P w = .ok (.value v) w) (k : Ops P n ops Q S r (put l d v) M) : Ops P n ops Q S ((i, true) :: r) l M := by
  intro a w hk hM hS
  obtain ⟨o, hi, ho, hd, hlt, h⟩ := h.get
  obtain ⟨hw, he⟩ := h a hk
  simp only [seqOps, hi, cond_true]
  refine ⟨hS, v, .inl ⟨hw, fun w' hS' => by rw [he]; exact hv o w' hS' ho⟩, ?_⟩
  rw [hd]
  exact k _ _ (hk.put d hlt v) hM hS
end
def oFs (a k : Nat) : List (Nat × Bool) := (List.range' a k).map fun i => (i, false)
def oTs (a k : Nat) : List (Nat × Bool) := (List.range' a k).map fun i => (i, true)
theorem si2 {α β : Type} {a x : α} {b y : β} (h : some (a, b) = some (x, y)) : a = x ∧ b = y := by cases h; exact ⟨rfl, rfl⟩
theorem si3 {α β γ : Type} {a x : α} {b y : β} {c z : γ} (h : some (a, b, c) = some (x, y, z)) : a = x ∧ b = y ∧ c = z := by cases h; exact ⟨rfl, rfl, rfl⟩
theorem si4 {α β γ δ : Type} {a x : α} {b y : β} {c z : γ} {d u : δ} (h : some (a, b, c, d) = some (x, y, z, u)) : a = x ∧ b = y ∧ c = z ∧ d = u := by cases h; exact ⟨rfl, rfl, rfl, rfl⟩
end Go.Proofs.Ytbfndcookgijfaa.Sx
