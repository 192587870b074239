/- The plain law of names and fields: what the program's test and the reference's come to. No condition. -/
import Derived.Test.YtbfndcookgijfaaGreatDoorFnC
import Derived.Test.YtbfndcookgijfaaGreatDoorPu
namespace Go.Proofs.YtbfndcookgijfaaGreatDoor.C
open Go Go.RowKit Go.Proofs.YtbfndcookgijfaaGreatDoor.Sx
set_option linter.unusedVariables false
set_option linter.unusedSimpArgs false
def okc (c : UInt8) : Bool := (decide (97 ≤ c.toNat) && decide (c.toNat ≤ 122)) || (decide (48 ≤ c.toNat) && decide (c.toNat ≤ 57))
def nameL (l : List UInt8) : Bool := decide (0 < l.length) && decide (l.length ≤ 16) && l.all okc && decide (∀ c, l[0]? = some c → 57 < c.toNat)
abbrev nameB (s : ByteArray) : Bool := nameL s.data.toList
/-- What a round of the program's test asks of a byte. -/
def kc (i : Nat) (c : UInt8) : Bool := (decide (97 ≤ c.toNat) && decide (c.toNat ≤ 122)) || (decide (0 < i) && (decide (48 ≤ c.toNat) && decide (c.toNat ≤ 57)))
theorem kname_step (s : ByteArray) (i : Nat) (h : i < s.data.toList.length) (hs : s.data.toList.length ≤ 16) :
    kind_Name_l2 s (i : Int) = if kc i s.data.toList[i] then some (.inl ((i + 1 : Nat) : Int)) else some (.inr (.inl false)) := by
  unfold kind_Name_l2 kind_Name_j3
  rw [size_len, cnd_dec, if_pos (by omega), sidx_ok h]
  have e : ((i : Int) + 1) = ((i + 1 : Nat) : Int) := by omega
  simp only [Option.bind_some, cnd_dec, cnd_not, i64ok (x := (i : Int) + 1) (by omega) (by omega), e]
  generalize s.data.toList[i] = c
  unfold kc
  simp only [Bool.or_eq_true, Bool.and_eq_true, decide_eq_true_eq]
  repeat' split
  all_goals first | rfl | (exfalso; omega) | (rw [i64ok (by omega) (by omega)])
theorem kname_loop (s : ByteArray) (hs : s.data.toList.length ≤ 16) : ∀ (d i : Nat), i + d = s.data.toList.length →
    loop (σ := Int) (ρ := (Bool ⊕ Unit)) (fun s_ => kind_Name_l2 s s_) (i : Int) = some (if ((s.data.toList.drop i).zipIdx i).all (fun p => kc p.2 p.1) then .inr () else .inl false) := by
  intro d
  induction d with
  | zero =>
    intro i hi
    rw [loop_inr (s := (i : Int)) (r := .inr ())]
    · rw [List.drop_of_length_le (by omega)]; simp
    · show kind_Name_l2 s (i : Int) = _
      unfold kind_Name_l2
      rw [size_len, cnd_dec, if_neg (by omega)]
  | succ d ih =>
    intro i hi
    have hil : i < s.data.toList.length := by omega
    have hst := kname_step s i hil hs
    rw [List.drop_eq_getElem_cons hil, List.zipIdx_cons, List.all_cons]
    cases hk : kc i s.data.toList[i] with
    | false => rw [hk] at hst; rw [loop_inr (s := (i : Int)) (r := .inl false) hst]; simp
    | true => rw [hk] at hst; rw [loop_inl (s := (i : Int)) (s' := ((i + 1 : Nat) : Int)) hst, ih (i + 1) (by omega)]; rfl
theorem all_zip (l : List UInt8) : ∀ i, 0 < i → (l.zipIdx i).all (fun p => kc p.2 p.1) = l.all okc := by
  induction l with
  | nil => intro i _; rfl
  | cons c l ih => intro i hi; rw [List.zipIdx_cons, List.all_cons, List.all_cons, ih (i + 1) (by omega)]; simp [kc, okc, hi]
theorem nameL_eq (l : List UInt8) (h0 : 0 < l.length) (h1 : l.length ≤ 16) : nameL l = (l.zipIdx 0).all (fun p => kc p.2 p.1) := by
  cases l with
  | nil => simp at h0
  | cons c l =>
    rw [List.zipIdx_cons, List.all_cons, all_zip l 1 (by omega)]
    unfold nameL
    simp only [List.all_cons, List.getElem?_cons_zero, Option.some.injEq, forall_eq', h0, h1, decide_true, Bool.true_and]
    unfold kc okc
    by_cases h2 : 97 ≤ c.toNat <;> by_cases h3 : c.toNat ≤ 122 <;> by_cases h4 : 48 ≤ c.toNat <;> by_cases h5 : c.toNat ≤ 57 <;> by_cases h6 : 57 < c.toNat <;> simp [h2, h3, h4, h5, h6] <;> omega
theorem kname (s : ByteArray) : kind_Name s = some (nameB s) := by
  unfold kind_Name
  rw [size_len, cnd_beq, cnd_dec]
  by_cases h0 : (s.data.toList.length : Int) = 0
  · rw [if_pos h0]; unfold nameB nameL; simp [show s.data.toList.length = 0 by omega]
  · rw [if_neg h0]
    by_cases h1 : (16 : Int) < (s.data.toList.length : Int)
    · rw [if_pos h1]; unfold nameB nameL; rw [decide_eq_false (show ¬ s.data.toList.length ≤ 16 by omega)]; simp
    · rw [if_neg h1]
      have := kname_loop s (by omega) s.data.toList.length 0 (by omega)
      rw [show ((0 : Nat) : Int) = 0 from rfl] at this
      rw [this, List.drop_zero, ← nameL_eq _ (by omega) (by omega)]
      simp only [Option.bind_some]
      unfold nameB
      cases nameL s.data.toList <;> rfl
def set36 : List UInt8 := [97, 98, 99, 100, 101, 102, 103, 104, 105, 106, 107, 108, 109, 110, 111, 112, 113, 114, 115, 116, 117, 118, 119, 120, 121, 122, 48, 49, 50, 51, 52, 53, 54, 55, 56, 57]
theorem set_has (c : UInt8) : set36.contains c = okc c := by
  have h : ∀ n : Fin 256, set36.contains (UInt8.ofNat n.1) = okc (UInt8.ofNat n.1) := by decide +kernel
  have := h ⟨c.toNat, c.toNat_lt⟩
  simpa using this
theorem dropAll (l : List UInt8) (p : UInt8 → Bool) : l.dropWhile p = [] ↔ l.all p = true := by
  induction l with
  | nil => simp
  | cons c l ih => rw [List.dropWhile_cons, List.all_cons]; cases h : p c <;> simp [ih]
theorem trim_nil (l : List UInt8) : trimB l set36 = [] ↔ l.all okc = true := by
  unfold trimB
  have e : (fun x => set36.contains x) = okc := funext set_has
  rw [e, dropAll]
  constructor
  · intro h
    have : (l.reverse.dropWhile okc) = [] := by
      cases hd : l.reverse.dropWhile okc with
      | nil => rfl
      | cons c r =>
        exfalso
        rw [hd] at h
        have hc : okc c = true := by rw [List.all_eq_true] at h; exact h c (by simp)
        have hne : l.reverse.dropWhile okc ≠ [] := by rw [hd]; simp
        have := List.head_dropWhile_not okc hne
        simp only [hd, List.head_cons] at this
        rw [hc] at this; cases this
    rw [dropAll] at this
    simpa using this
  · intro h
    have : l.reverse.dropWhile okc = [] := by rw [dropAll]; simpa using h
    rw [this]; rfl
theorem rname {s : ByteArray} (hs : oks s) : tourref3_IsName s = some (nameB s) := by
  unfold tourref3_IsName tourref3_IsName_j1 strings_Trim
  have ht : trim s set36 = some ⟨(trimB s.data.toList set36).toArray⟩ := if_pos (by unfold oks at hs; omega)
  rw [show ([97, 98, 99, 100, 101, 102, 103, 104, 105, 106, 107, 108, 109, 110, 111, 112, 113, 114, 115, 116, 117, 118, 119, 120, 121, 122, 48, 49, 50, 51, 52, 53, 54, 55, 56, 57] : List UInt8) = set36 from rfl, ht]
  simp only [Option.bind_some, bytes_eq, cnd_not, cnd_dec, size_len]
  have e0 : (s = (⟨#[]⟩ : ByteArray)) ↔ s.data.toList.length = 0 := by
    constructor
    · intro h; subst h; rfl
    · intro h; rw [List.length_eq_zero_iff] at h; cases s; simp at h; rw [h]
  have e1 : ((⟨(trimB s.data.toList set36).toArray⟩ : ByteArray) = ⟨#[]⟩) ↔ s.data.toList.all okc = true := by
    rw [← trim_nil]; simp
  unfold nameB nameL
  by_cases h0 : s.data.toList.length = 0
  · rw [if_pos (e0.2 h0)]; simp [h0]
  · rw [if_neg (fun h => h0 (e0.1 h))]
    by_cases h1 : (s.data.toList.length : Int) < 17
    · rw [if_pos h1]
      have hx : sidx s 0 = some ((s.data.toList[0]'(by omega)).toNat : Int) := sidx_ok (m := 0) (by omega)
      by_cases h2 : s.data.toList.all okc = true
      · rw [if_pos (e1.2 h2), hx]
        simp only [Option.bind_some]
        rw [List.getElem?_eq_getElem (by omega)]
        rw [h2, decide_eq_true (show 0 < s.data.toList.length by omega), decide_eq_true (show s.data.toList.length ≤ 16 by omega)]
        simp only [Bool.true_and, Option.some.injEq, forall_eq']
        have z : ((57 : Int) < ((s.data.toList[0]'(by omega)).toNat : Int)) ↔ 57 < (s.data.toList[0]'(by omega)).toNat := by omega
        exact decide_eq_decide.2 z
      · rw [if_neg (fun h => h2 (e1.1 h))]; simp [h2]
    · rw [if_neg h1, decide_eq_false (show ¬ s.data.toList.length ≤ 16 by omega)]; simp
/-! ### Fields -/
def fieldB (nm : ByteArray) (b l : Int) : Bool := nameB nm && decide (1 ≤ b) && decide (b ≤ 32) && decide (-4294967296 ≤ l) && decide (l ≤ 4294967296)
theorem kfield (nm : ByteArray) (b l : Int) : kind_field nm b l = some (if fieldB nm b l then 0 else 3) := by
  unfold kind_field fieldB
  rw [kname]
  simp only [Option.bind_some, cnd_not, cnd_dec]
  cases nameB nm with
  | false => simp [cnd]
  | true =>
    simp only [cnd_true, Bool.true_and]
    by_cases h1 : b < 1
    · simp [h1, show ¬ 1 ≤ b by omega]
    · by_cases h2 : 32 < b
      · simp [h1, h2, show ¬ b ≤ 32 by omega]
      · by_cases h3 : l < -4294967296
        · simp [h1, h2, h3, show ¬ -4294967296 ≤ l by omega]
        · by_cases h4 : 4294967296 < l
          · simp [h1, h2, h3, h4, show ¬ l ≤ 4294967296 by omega]
          · simp [h1, h2, h3, h4, show 1 ≤ b by omega, show b ≤ 32 by omega, show -4294967296 ≤ l by omega, show l ≤ 4294967296 by omega]
theorem rfield {nm : ByteArray} (hs : oks nm) (b l : Int) : tourref3_FieldOK nm b l = some (fieldB nm b l) := by
  unfold tourref3_FieldOK tourref3_FieldOK_j1 fieldB
  rw [rname hs]
  simp only [Option.bind_some, cnd_dec]
  cases nameB nm with
  | false => simp [cnd]
  | true =>
    simp only [cnd_true, Bool.true_and]
    by_cases h1 : 0 < b
    · by_cases h2 : b < 33
      · by_cases h3 : -4294967296 ≤ l
        · simp [h1, h2, h3, show 1 ≤ b by omega, show b ≤ 32 by omega]
        · simp [h1, h2, h3]
      · simp [h1, h2, show ¬ b ≤ 32 by omega]
    · simp [h1, show ¬ 1 ≤ b by omega]
def topV (b l : Int) : Int := l + (2 ^ b.toNat - 1)
theorem pow_le {n : Nat} (h : n ≤ 32) : (2 : Int) ^ n ≤ 4294967296 := by
  have : (2 : Nat) ^ n ≤ 2 ^ 32 := Nat.pow_le_pow_right (by omega) h
  have h2 : ((2 ^ n : Nat) : Int) = (2 : Int) ^ n := by norm_cast
  omega
theorem pow_ge (n : Nat) : (1 : Int) ≤ (2 : Int) ^ n := by
  have : 0 < (2 : Nat) ^ n := Nat.two_pow_pos n
  have h2 : ((2 ^ n : Nat) : Int) = (2 : Int) ^ n := by norm_cast
  omega
theorem fieldB_b {nm : ByteArray} {b l : Int} (h : fieldB nm b l = true) : 1 ≤ b ∧ b ≤ 32 ∧ -4294967296 ≤ l ∧ l ≤ 4294967296 := by
  unfold fieldB at h
  simp only [Bool.and_eq_true, decide_eq_true_eq] at h
  omega
theorem khigh (nm : ByteArray) (b l : Int) : kind_High nm b l = some (if fieldB nm b l then topV b l else 0) := by
  unfold kind_High
  rw [kfield]
  simp only [Option.bind_some, cnd_not]
  cases h : fieldB nm b l with
  | false => rfl
  | true =>
    have hb := fieldB_b h
    have h1 := pow_le (n := b.toNat) (by omega)
    have h2 := pow_ge b.toNat
    simp only [if_true, beq_self_eq_true, cnd_true]
    rw [shl_ok (by omega), show min b.toNat IntKind.i64.bits = b.toNat by show min b.toNat 64 = _; omega, Int.one_mul]
    simp only [Option.bind_some]
    rw [i64ok (x := (2 : Int) ^ b.toNat) (by omega) (by omega), i64ok (x := (2 : Int) ^ b.toNat - 1) (by omega) (by omega), i64ok (by omega) (by omega)]
    rfl
theorem rtop (nm : ByteArray) {b l : Int} (hb : 1 ≤ b ∧ b ≤ 32 ∧ -4294967296 ≤ l ∧ l ≤ 4294967296) : tourref3_Top nm b l = some (topV b l) := by
  unfold tourref3_Top
  have h := loop_to (σ := Int × Int) (ρ := Int) (step := fun s_ => tourref3_Top_l2 b s_.1 s_.2) (fun i => ((2 : Int) ^ i, (i : Int))) b.toNat (r := (2 : Int) ^ b.toNat) (fun i hi => by
    have h1 := pow_le (n := i) (by omega)
    have h2 := pow_ge i
    show tourref3_Top_l2 b ((2 : Int) ^ i) (i : Int) = _
    unfold tourref3_Top_l2
    rw [cnd_dec, if_pos (by omega), i64ok (x := (2 : Int) ^ i * 2) (by omega) (by omega), i64ok (by omega) (by omega), ← Int.pow_succ]
    rfl) (by
    show tourref3_Top_l2 b ((2 : Int) ^ b.toNat) (b.toNat : Int) = _
    unfold tourref3_Top_l2
    rw [cnd_dec, if_neg (by omega)])
  have h' : loop (σ := Int × Int) (ρ := Int) (fun s_ => tourref3_Top_l2 b s_.1 s_.2) (1, 0) = some ((2 : Int) ^ b.toNat) := h
  rw [h']
  have h1 := pow_le (n := b.toNat) (by omega)
  have h2 := pow_ge b.toNat
  show tourref3_Top_j1 l ((2 : Int) ^ b.toNat) = _
  unfold tourref3_Top_j1 topV
  rw [i64ok (x := l + (2 : Int) ^ b.toNat) (by omega) (by omega), i64ok (by omega) (by omega)]
  congr 1; omega
def nearV (b l v : Int) : Int := max l (min v (topV b l))
theorem knear (nm : ByteArray) (b l v : Int) : kind_Near nm b l v = some (if fieldB nm b l then nearV b l v else 0) := by
  unfold kind_Near
  rw [kfield, khigh]
  simp only [Option.bind_some, cnd_not]
  cases h : fieldB nm b l with
  | false => rfl
  | true => rfl
theorem rnear {nm : ByteArray} (hs : oks nm) (b l v : Int) : tourref3_Nearest nm b l v = some (if fieldB nm b l then nearV b l v else 0) := by
  unfold tourref3_Nearest
  rw [rfield hs]
  simp only [Option.bind_some, cnd_not, cnd_dec]
  cases h : fieldB nm b l with
  | false => rfl
  | true =>
    have hb := fieldB_b h
    have h2 := pow_ge b.toNat
    rw [rtop nm hb]
    simp only [Option.bind_some, cnd_true, if_true, cnd_dec]
    have hn : nearV b l v = max l (min v (topV b l)) := rfl
    have ht : topV b l = l + (2 ^ b.toNat - 1) := rfl
    by_cases h1 : v < l
    · rw [if_pos h1]; congr 1; omega
    · rw [if_neg h1]
      by_cases h3 : topV b l < v
      · rw [if_pos h3]; congr 1; omega
      · rw [if_neg h3]; congr 1; omega
end Go.Proofs.YtbfndcookgijfaaGreatDoor.C
