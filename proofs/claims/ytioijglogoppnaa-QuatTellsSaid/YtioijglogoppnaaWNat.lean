/- Walks of the reference's long numbers: digits, products, the cut of zeros, their order, and the greatest number. No condition. -/
import Derived.Test.YtioijglogoppnaaProg
import Derived.Test.YtioijglogoppnaaSxOps
import Derived.Test.YtioijglogoppnaaNatSpec
namespace Go.Proofs.Ytioijglogoppnaa.WNat
open Go Go.RowKit Go.Proofs.Ytioijglogoppnaa.Sx Go.Proofs.Ytioijglogoppnaa.Rnd Go.Proofs.Ytioijglogoppnaa.Nats
set_option linter.unusedVariables false
set_option linter.unusedSimpArgs false
theorem digs_step {l : List Int} {m n : Nat} (h : l ++ digs m = digs n) (hm : 0 < m) : (l ++ [((m % 32768 : Nat) : Int)]) ++ digs (m / 32768) = digs n := by
  rw [List.append_assoc, ← h, digs_pos hm]; rfl
theorem digs_len63 {n : Nat} (h : n ≤ 9223372036854775807) : (digs n).length ≤ 5 := digs_length (by omega)
set_option maxHeartbeats 4000000 in
set_option maxRecDepth 100000 in
theorem natOf_calls (n : Nat) (w : World) (hn : n ≤ 9223372036854775807) : Calls Try.prog 87 #[vI (n : Int)] w fun e w' => ∃ x_ : Option Addr × Nat, e = .returned ((match x_ with | (A, c) => .slice A ((digs n).length) c)) ∧ Mem w (match x_ with | (A, c) => [.row A ((digs n).length) c 3 1 (iv .i64 (digs n))]) w' := by
 refine sx_calls Try.func87 rfl (n := 14) (by kernel_rfl) (l := [(0, vI (n : Int))]) rfl (by rfl) (Mem.nil w) ?_
 refine st_seq ?_
 refine st_region [oF 0] (by rfl) ?_
 refine oR [oF 0] [(0, vI (n : Int))] [0] (by kernel_rfl) ?_
 refine ops_nil ?_
 refine fin_then ?_
 refine st_seq ?_
 refine st_region [oF 0] (by rfl) ?_
 refine oR [oF 0] [(3, .slice none 0 0), (0, vI (n : Int))] [3, 0] (by kernel_rfl) ?_
 refine ops_nil ?_
 refine fin_then ?_
 refine st_seq ?_
 refine st_block ?_
 refine st_conv (l' := [(3, .slice none 0 0), (0, vI (n : Int))]) (M' := Mem w [.row none 0 0 3 1 (iv .i64 [])]) rfl (fun w_ h => h.rowNil 3 1) ?_
 refine st_loop (σ := Nat × Nat × List Int × Option Addr × Nat) (n, 0, [], none, 0) (fun x_ => match x_ with | (m, k, l, A, c) => [(3, .slice A k c), (0, vI (m : Int))]) (fun x_ => match x_ with | (m, k, l, A, c) => Mem w [.row A k c 3 1 (iv .i64 l)]) (fun x_ => match x_ with | (m, k, l, A, c) => m ≤ n ∧ l.length = k ∧ l ++ digs m = digs n) (fun x_ => match x_ with | (m, k, l, A, c) => m) (by exact ⟨Nat.le_refl _, rfl, rfl⟩) (look_has ⟨rfl, rfl, trivial⟩) (fun w_ hM => by exact hM) ?_
 rintro ⟨m, k, l, A, c⟩ hI
 obtain ⟨hmn, hkl, hdg⟩ := hI
 have hmn : m ≤ n := hmn
 have hkl : l.length = k := hkl
 have hdg : l ++ digs m = digs n := hdg
 have hk5 : k ≤ 5 := by have h1 := congrArg List.length hdg; have h2 := digs_len63 hn; rw [List.length_append] at h1; omega
 refine st_seq ?_
 refine st_seq ?_
 refine st_region [oF 0, oF 1] (by rfl) ?_
 refine oR [oF 0, oF 1] [(5, .bool (decide (0 < (m : Int)))), (3, .slice A k c), (0, vI (m : Int))] [5, 3, 0] (by kernel_rfl) ?_
 refine ops_nil ?_
 refine fin_then ?_
 refine st_if (b := decide (0 < (m : Int))) rfl (fun hc1 => ?_) (fun hc1 => ?_)
 · --
  have hpos : 0 < m := by have := of_decide_eq_true hc1; omega
  have hmod : Int.tmod (m : Int) 32768 = ((m % 32768 : Nat) : Int) := by rw [Int.tmod_eq_emod_of_nonneg (by omega)]; omega
  have hdiv : IntKind.i64.wrap (Int.tdiv (m : Int) 32768) = ((m / 32768 : Nat) : Int) := by rw [Int.tdiv_eq_ediv_of_nonneg (by omega), i64w]; omega
  refine st_skip ?_
  refine fin_then ?_
  refine st_seq ?_
  refine st_block ?_
  refine st_region [oF 0, oF 1, oF 2, oF 3, oF 4, oF 5] (by rfl) ?_
  refine oR [oF 0, oF 1, oF 2] [(10, vI (Int.tmod (m : Int) 32768)), (8, .slice A k c), (3, .slice A k c), (0, vI (m : Int))] [10, 8, 3, 0] (by kernel_rfl) ?_
  refine ops_conv (l' := [(10, vI ((m % 32768 : Nat) : Int)), (8, .slice A k c), (3, .slice A k c), (0, vI (m : Int))]) (by rw [hmod]) (fun _ h => h) ?_
  refine ops_new (d := some 11) (o := .cells #[vI ((m % 32768 : Nat) : Int)] 3) (v := fun b2 => .slice (some ⟨b2, 0, none⟩) 1 1) (M' := fun b2 => Mem w [.blk b2 [vI ((m % 32768 : Nat) : Int)] 3, .row A k c 3 1 (iv .i64 l)]) (fun b2 => ⟨by kernel_rfl⟩) (fun w_ hM hS => ⟨hM.blk [vI ((m % 32768 : Nat) : Int)] 3, trivial⟩) (fun b2 => ?_)
  refine oR [] [(11, .slice (some ⟨b2, 0, none⟩) 1 1), (8, .slice A k c), (3, .slice A k c), (0, vI (m : Int))] [11, 8, 3, 0] (by kernel_rfl) ?_
  refine ops_append (x := (Go.Operand.tmp 8)) (y := (Go.Operand.tmp 11)) (t := 114) (e := 3) (d := some 12) (n' := (k + 1)) (z := 1) (m := 1) (bytes := 8) (xs' := (iv .i64 (l ++ [((m % 32768 : Nat) : Int)]))) (news := ([vI ((m % 32768 : Nat) : Int)])) (zv := vI 0) 1 ⟨by kernel_rfl⟩ rfl rfl Try.underlying114 (by kernel_rfl) (by rfl) rfl (fun w_ hM => hM.src 0 rfl _ _) (rfl) (by simp [Value.oneCell']) (by omega) (by first | rfl | omega) ((by simp [iv])) (fun _ _ _ _ hS h' => trivial) ?_
  rintro ⟨A3, c4⟩
  refine ops_conv (l' := [(12, .slice A3 (k + 1) c4), (11, .slice (some ⟨b2, 0, none⟩) 1 1), (8, .slice A k c), (3, .slice A k c), (0, vI (m : Int))]) (M' := Mem w [.blk b2 [vI ((m % 32768 : Nat) : Int)] 3, .row A3 (k + 1) c4 3 1 (iv .i64 (l ++ [((m % 32768 : Nat) : Int)]))]) rfl (fun _ h => h) ?_
  refine oR [oF 5] [(3, .slice A3 (k + 1) c4), (0, vI (m : Int))] [3, 0] (by kernel_rfl) ?_
  refine ops_nil ?_
  refine fin_block ?_
  refine fin_then ?_
  refine st_region [oF 0, oF 1, oF 2] (by rfl) ?_
  refine oR [oF 0, oF 1] [(7, vI (IntKind.i64.wrap (Int.tdiv (m : Int) 32768))), (3, .slice A3 (k + 1) c4), (0, vI (m : Int))] [7, 3, 0] (by kernel_rfl) ?_
  refine ops_conv (l' := [(7, vI ((m / 32768 : Nat) : Int)), (3, .slice A3 (k + 1) c4), (0, vI (m : Int))]) (by rw [hdiv]) (fun _ h => h) ?_
  refine oR [oF 2] [(0, vI ((m / 32768 : Nat) : Int)), (3, .slice A3 (k + 1) c4)] [0, 3] (by kernel_rfl) ?_
  refine ops_nil ?_
  refine fin_round (m / 32768, k + 1, l ++ [((m % 32768 : Nat) : Int)], A3, c4) (by exact ⟨by show m / 32768 ≤ n; omega, by show (l ++ [_]).length = k + 1; rw [List.length_append, hkl]; rfl, digs_step hdg hpos⟩) (by (show m / 32768 < m; omega)) (look_has ⟨rfl, rfl, trivial⟩) (fun w_ hM => by exact (by have hM : Mem w [.row A3 (k + 1) c4 3 1 (iv .i64 (l ++ [((m % 32768 : Nat) : Int)]))] w_ := hM.reorder [1] (by decide) rfl; exact hM))
 · --
  have hend : m = 0 := by have := of_decide_eq_false hc1; omega
  refine st_exit ?_
  refine fin_exit_then ?_
  refine fin_exit_then ?_
  refine fin_exit ?_
  refine fin_then ?_
  refine st_seq ?_
  refine st_region [oF 0, oF 1] (by rfl) ?_
  refine oR [oF 0, oF 1] [(2, .slice A k c)] [2] (by kernel_rfl) ?_
  refine ops_nil ?_
  refine fin_then ?_
  refine st_ret ?_
  refine fin_ret [.tmp 2] [.slice A k c] rfl rfl (fun w_ hM => (.tmp rfl .nil)) (fun w_ hM => ?_)
  have hl : l = digs n := by rw [← hdg, hend, digs_zero, List.append_nil]
  have hkd : k = (digs n).length := by rw [← hl, hkl]
  refine ⟨(A, c), by rw [hkd]; rfl, ?_⟩
  have hM : Mem w [.row A k c 3 1 (iv .i64 l)] w_ := hM.reorder [0] (by decide) rfl
  rw [hl, hkd] at hM
  exact hM
theorem cutA_zero (A : Option Addr) (cap z : Nat) : cutA A cap 0 z = A := by
  unfold cutA
  split
  · rfl
  · cases A
    · rfl
    · simp [Addr.add]
set_option maxHeartbeats 4000000 in
set_option maxRecDepth 100000 in
theorem cut_calls (A : Option Addr) (c n : Nat) (l : List Int) (w : World) (hr : RInts .i64 A l w) (hl : l.length = n) (hc : n ≤ c) (hb : n ≤ 140737488351232) : Calls Try.prog 124 #[.slice A n c] w fun e w' => e = .returned (.slice A (trimN l n) c) ∧ Below w.heap.size w w' := by
 refine sx_calls Try.func124 rfl (n := 21) (by kernel_rfl) (l := [(0, .slice A n c)]) rfl (by rfl) (Mem.nil w) ?_
 refine st_seq ?_
 refine st_region [oF 0] (by rfl) ?_
 refine oR [oF 0] [(0, .slice A n c)] [0] (by kernel_rfl) ?_
 refine ops_nil ?_
 refine fin_then ?_
 refine st_seq ?_
 refine st_block ?_
 refine st_loop (σ := Nat) n (fun m => [(0, .slice A m c)]) (fun m => Mem w []) (fun m => m ≤ n ∧ trimN l m = trimN l n) (fun m => m) (by exact ⟨Nat.le_refl _, rfl⟩) (look_has ⟨rfl, trivial⟩) (fun w_ hM => by exact hM) ?_
 rintro m hI
 obtain ⟨hmn, htr⟩ := hI
 have hmn : m ≤ n := hmn
 have htr : trimN l m = trimN l n := htr
 refine st_seq ?_
 refine st_seq ?_
 refine st_region [oF 0, oF 1, oF 2, oF 3, oF 4, oF 5, oF 6, oF 7, oF 8, oF 9, oF 10, oF 11] (by rfl) ?_
 refine oR [oF 0, oF 1, oF 2, oF 3] [(6, .bool (decide (0 < (m : Int)))), (0, .slice A m c)] [6, 0] (by kernel_rfl) ?_
 refine ops_bool (t := decide (0 < (m : Int))) (l1 := [(6, .bool true), (0, .slice A m c)]) (l2 := [(6, .bool false), (0, .slice A m c)]) (fun h => by rw [h]) (fun h => by rw [h]) (fun hc1 => ?_) (fun hc1 => ?_)
 · --decide (0 < (m : Int))
  have hpos : 0 < m := by have := of_decide_eq_true hc1; omega
  have hm1 : IntKind.i64.wrap ((m : Int) - 1) = ((m - 1 : Nat) : Int) := by rw [i64w]; omega
  refine oR [oF 4, oF 5, oF 6, oF 7] [(10, vI (IntKind.i64.wrap ((m : Int) - 1))), (7, .slice A m c), (6, .bool true), (0, .slice A m c)] [10, 7, 6, 0] (by kernel_rfl) ?_
  refine ops_conv (l' := [(10, vI ((m - 1 : Nat) : Int)), (7, .slice A m c), (6, .bool true), (0, .slice A m c)]) (by rw [hm1]) (fun _ h => h) ?_
  obtain ⟨ad2, hA3, hx4⟩ := hr (m - 1) (by omega)
  refine ops_val (op := (Go.Op.indexAddr 114 (Go.Operand.tmp 7) (Go.Operand.tmp 10))) (d := some 11) (v := .pointer (some (ad2.add (m - 1)))) ⟨by kernel_rfl⟩ (run_index1 hA3 Try.underlying114 (by kernel_rfl) rfl rfl (m := m - 1) (by first | rfl | omega) (by omega)) ?_
  refine oR [] [(11, .pointer (some (ad2.add (m - 1)))), (6, .bool true), (0, .slice A m c)] [11, 6, 0] (by kernel_rfl) ?_
  refine ops_mem (d := some 12) (an := [.v (vI (l.getD (m - 1) 0))]) (evs := [.load (ad2.add (m - 1)) (vI (l.getD (m - 1) 0))]) (v := vI (l.getD (m - 1) 0)) (M' := Mem w []) ⟨by kernel_rfl⟩ (fun w_ hM hS => ⟨w_, ⟨hM.oldcell hx4, rfl⟩, hM, trivial⟩) ?_
  refine oR [oF 10, oF 11] [(14, .bool (l.getD (m - 1) 0 == 0)), (0, .slice A m c)] [14, 0] (by kernel_rfl) ?_
  refine ops_nil ?_
  refine fin_then ?_
  refine st_if (b := (l.getD (m - 1) 0 == 0)) rfl (fun hc5 => ?_) (fun hc5 => ?_)
  · --
   refine st_skip ?_
   refine fin_then ?_
   refine st_block ?_
   refine st_region [oF 0, oF 1, oF 2, oF 3, oF 4, oF 5] (by rfl) ?_
   refine oR [oF 0, oF 1, oF 2, oF 3] [(18, vI (IntKind.i64.wrap ((m : Int) - 1))), (15, .slice A m c), (0, .slice A m c)] [18, 15, 0] (by kernel_rfl) ?_
   refine ops_conv (l' := [(18, vI ((m - 1 : Nat) : Int)), (15, .slice A m c), (0, .slice A m c)]) (by rw [hm1]) (fun _ h => h) ?_
   refine ops_val (op := (Go.Op.slice 114 (Go.Operand.tmp 15) none (some (Go.Operand.tmp 18)) none)) (d := some 19) (v := .slice (cutA A c 0 1) (m - 1) c) ⟨by kernel_rfl⟩ (run_cutH (by kernel_rfl) (z := 1) (by kernel_rfl) rfl rfl (by first | rfl | omega) (by omega) rfl) ?_
   have hr6 : RInts .i64 (cutA A c 0 1) (l.take (m - 1)) w := by simpa only [List.drop_zero] using RInts.cut (lo := 0) (n := m - 1) hr (by omega) (by omega)
   refine oR [oF 5] [(0, .slice (cutA A c 0 1) (m - 1) c)] [0] (by kernel_rfl) ?_
   refine ops_nil ?_
   refine fin_block ?_
   refine fin_conv (l' := [(0, .slice A (m - 1) c)]) (M' := Mem w []) (by rw [cutA_zero]) (fun w_ hM => hM) ?_
   refine fin_round (m - 1) (by exact ⟨show m - 1 ≤ n by omega, (trimN_go hpos (beq_iff_eq.1 hc5)).symm.trans htr⟩) (by (show m - 1 < m; omega)) (look_has ⟨rfl, trivial⟩) (fun w_ hM => by exact hM)
  · --
   refine st_exit ?_
   refine fin_exit_then ?_
   refine fin_exit_then ?_
   refine fin_exit ?_
   refine fin_then ?_
   refine st_seq ?_
   refine st_region [oF 0, oF 1] (by rfl) ?_
   refine oR [oF 0, oF 1] [(2, .slice A m c)] [2] (by kernel_rfl) ?_
   refine ops_nil ?_
   refine fin_then ?_
   refine st_ret ?_
   refine fin_ret [.tmp 2] [.slice A m c] rfl rfl (fun w_ hM => (.tmp rfl .nil)) (fun w_ hM => ?_)
   have e : m = trimN l n := by rw [← htr]; exact (trimN_stop hpos (beq_eq_false_iff_ne.1 hc5)).symm
   exact ⟨by rw [← e]; rfl, hM.done⟩
 · --decide (0 < (m : Int))
  have hzero : m = 0 := by have := of_decide_eq_false hc1; omega
  refine oR [oF 4, oF 5, oF 6, oF 7, oF 8, oF 9, oF 10, oF 11] [(14, .bool false), (0, .slice A m c)] [14, 0] (by kernel_rfl) ?_
  refine ops_nil ?_
  refine fin_then ?_
  refine st_false rfl ?_
  refine st_exit ?_
  refine fin_exit_then ?_
  refine fin_exit_then ?_
  refine fin_exit ?_
  refine fin_then ?_
  refine st_seq ?_
  refine st_region [oF 0, oF 1] (by rfl) ?_
  refine oR [oF 0, oF 1] [(2, .slice A m c)] [2] (by kernel_rfl) ?_
  refine ops_nil ?_
  refine fin_then ?_
  refine st_ret ?_
  refine fin_ret [.tmp 2] [.slice A m c] rfl rfl (fun w_ hM => (.tmp rfl .nil)) (fun w_ hM => ?_)
  have e : m = trimN l n := by rw [← htr]; rw [hzero]; rfl
  exact ⟨by rw [← e]; rfl, hM.done⟩
set_option maxHeartbeats 4000000 in
set_option maxRecDepth 100000 in
theorem times_calls (A1 : Option Addr) (c1 : Nat) (a : List Int) (A2 : Option Addr) (c2 : Nat) (b : List Int) (w : World) (hr1 : RInts .i64 A1 a w) (hr2 : RInts .i64 A2 b w) (ha : Dig a) (hb : Dig b) (hla : a.length ≤ 1000) (hlb : b.length ≤ 1000) : Calls Try.prog 88 #[.slice A1 a.length c1, .slice A2 b.length c2] w fun e w' => ∃ x_ : Option Addr × Nat, e = .returned ((match x_ with | (A, c) => .slice A ((digs (valZ a * valZ b).toNat).length) c)) ∧ Mem w (match x_ with | (A, c) => [.row A ((digs (valZ a * valZ b).toNat).length) c 3 1 (iv .i64 (digs (valZ a * valZ b).toNat))]) w' := by
 have hab : IntKind.i64.wrap ((a.length : Int) + (b.length : Int)) = ((a.length + b.length : Nat) : Int) := by rw [i64w]; omega
 refine sx_calls Try.func88 rfl (n := 67) (by kernel_rfl) (l := [(0, .slice A1 a.length c1), (1, .slice A2 b.length c2)]) rfl (by rfl) (Mem.nil w) ?_
 refine st_seq ?_
 refine st_region [oF 0] (by rfl) ?_
 refine oR [oF 0] [(0, .slice A1 a.length c1), (1, .slice A2 b.length c2)] [0, 1] (by kernel_rfl) ?_
 refine ops_nil ?_
 refine fin_then ?_
 refine st_seq ?_
 refine st_region [oF 0, oF 1, oF 2, oF 3, oF 4, oF 5, oF 6] (by rfl) ?_
 refine oR [oF 0, oF 1, oF 2, oF 3, oF 4] [(16, vI (IntKind.i64.wrap ((a.length : Int) + (b.length : Int)))), (0, .slice A1 a.length c1), (1, .slice A2 b.length c2)] [16, 0, 1] (by kernel_rfl) ?_
 refine ops_conv (l' := [(16, vI ((a.length + b.length : Nat) : Int)), (0, .slice A1 a.length c1), (1, .slice A2 b.length c2)]) (by rw [hab]) (fun _ h => h) ?_
 refine ops_make (t := 114) (x := (Go.Operand.tmp 16)) (y := (Go.Operand.tmp 16)) (d := some 17) (nn := a.length + b.length) (z := 1) (bytes := 8) (xs := iv .i64 (List.replicate (a.length + b.length) 0)) ⟨by kernel_rfl⟩ rfl rfl (by first | rfl | omega) (by first | rfl | omega) Try.underlying114 (by kernel_rfl) (by omega) (by rfl) (made_ints _ _) (fun _ _ _ hS h' => trivial) (fun b1 => ?_)
 refine oR [oF 6] [(5, .slice (some ⟨b1, 0, none⟩) (a.length + b.length) (a.length + b.length)), (0, .slice A1 a.length c1), (1, .slice A2 b.length c2)] [5, 0, 1] (by kernel_rfl) ?_
 refine ops_nil ?_
 refine fin_then ?_
 refine st_seq ?_
 refine st_seq ?_
 refine st_region [oF 0, oF 1, oF 2] (by rfl) ?_
 refine oR [oF 0, oF 1, oF 2] [(20, vI 0), (19, vI (a.length : Int)), (18, .slice A1 a.length c1), (5, .slice (some ⟨b1, 0, none⟩) (a.length + b.length) (a.length + b.length)), (1, .slice A2 b.length c2)] [20, 19, 18, 5, 1] (by kernel_rfl) ?_
 refine ops_nil ?_
 refine fin_then ?_
 refine st_block ?_
 refine st_loop (σ := Nat) 0 (fun i => [(20, vI (i : Int)), (19, vI (a.length : Int)), (18, .slice A1 a.length c1), (5, .slice (some ⟨b1, 0, none⟩) (a.length + b.length) (a.length + b.length)), (1, .slice A2 b.length c2)]) (fun i => Mem w [.row (some ⟨b1, 0, none⟩) (a.length + b.length) (a.length + b.length) 3 1 (iv .i64 (tout a b i))]) (fun i => i ≤ a.length) (fun i => a.length - i) (by exact Nat.zero_le _) (look_has ⟨rfl, rfl, rfl, rfl, rfl, trivial⟩) (fun w_ hM => by exact hM) ?_
 rintro i hI
 have hIi : i ≤ a.length := hI
 refine st_seq ?_
 refine st_region [oF 0] (by rfl) ?_
 refine oR [oF 0] [(21, .bool (decide ((i : Int) < (a.length : Int)))), (20, vI (i : Int)), (19, vI (a.length : Int)), (18, .slice A1 a.length c1), (5, .slice (some ⟨b1, 0, none⟩) (a.length + b.length) (a.length + b.length)), (1, .slice A2 b.length c2)] [21, 20, 19, 18, 5, 1] (by kernel_rfl) ?_
 refine ops_nil ?_
 refine fin_then ?_
 refine st_seq ?_
 refine st_if (b := decide ((i : Int) < (a.length : Int))) rfl (fun hc2 => ?_) (fun hc2 => ?_)
 · --
  have hi : i < a.length := by have := of_decide_eq_true hc2; omega
  have hi1 : IntKind.i64.wrap ((i : Int) + 1) = ((i + 1 : Nat) : Int) := succ_i64 (by omega)
  obtain ⟨tlen, tdig, tval, tzer⟩ := tout_ok ha hb (i := i) (by omega)
  have hib : IntKind.i64.wrap ((i : Int) + (b.length : Int)) = ((i + b.length : Nat) : Int) := by rw [i64w]; omega
  refine st_skip ?_
  refine fin_then ?_
  refine st_seq ?_
  refine st_block ?_
  refine st_seq ?_
  refine st_region [oF 0, oF 1, oF 2, oF 3, oF 4] (by rfl) ?_
  refine oR [oF 0] [(22, vI (i : Int)), (20, vI (i : Int)), (19, vI (a.length : Int)), (18, .slice A1 a.length c1), (5, .slice (some ⟨b1, 0, none⟩) (a.length + b.length) (a.length + b.length)), (1, .slice A2 b.length c2)] [22, 20, 19, 18, 5, 1] (by kernel_rfl) ?_
  obtain ⟨ad3, hA4, hx5⟩ := hr1 i (by first | omega | (simp only [tlen, List.length_set, List.length_append, List.length_cons, List.length_nil, List.length_replicate] at *; omega) | (simp [tlen, List.length_set, List.length_append, List.length_cons, List.length_nil, List.length_replicate]; done))
  refine ops_val (op := (Go.Op.indexAddr 114 (Go.Operand.tmp 18) (Go.Operand.tmp 20))) (d := some 23) (v := .pointer (some (ad3.add i))) ⟨by kernel_rfl⟩ (run_index1 hA4 Try.underlying114 (by kernel_rfl) rfl rfl (m := i) (by first | rfl | omega) (by first | omega | (simp only [tlen, List.length_set, List.length_append, List.length_cons, List.length_nil, List.length_replicate] at *; omega) | (simp [tlen, List.length_set, List.length_append, List.length_cons, List.length_nil, List.length_replicate]; done))) ?_
  refine oR [] [(23, .pointer (some (ad3.add i))), (22, vI (i : Int)), (20, vI (i : Int)), (19, vI (a.length : Int)), (18, .slice A1 a.length c1), (5, .slice (some ⟨b1, 0, none⟩) (a.length + b.length) (a.length + b.length)), (1, .slice A2 b.length c2)] [23, 22, 20, 19, 18, 5, 1] (by kernel_rfl) ?_
  refine ops_mem (d := some 24) (an := [.v (vI (a.getD i 0))]) (evs := [.load (ad3.add i) (vI (a.getD i 0))]) (v := vI (a.getD i 0)) (M' := Mem w [.row (some ⟨b1, 0, none⟩) (a.length + b.length) (a.length + b.length) 3 1 (iv .i64 (tout a b i))]) ⟨by kernel_rfl⟩ (fun w_ hM hS => ⟨w_, ⟨hM.oldcell hx5, rfl⟩, hM, trivial⟩) ?_
  refine oR [oF 3, oF 4] [(7, vI (a.getD i 0)), (6, vI (i : Int)), (20, vI (i : Int)), (19, vI (a.length : Int)), (18, .slice A1 a.length c1), (5, .slice (some ⟨b1, 0, none⟩) (a.length + b.length) (a.length + b.length)), (1, .slice A2 b.length c2)] [7, 6, 20, 19, 18, 5, 1] (by kernel_rfl) ?_
  refine ops_nil ?_
  refine fin_then ?_
  refine st_seq ?_
  refine st_region [oF 0] (by rfl) ?_
  refine oR [oF 0] [(8, vI 0), (7, vI (a.getD i 0)), (6, vI (i : Int)), (20, vI (i : Int)), (19, vI (a.length : Int)), (18, .slice A1 a.length c1), (5, .slice (some ⟨b1, 0, none⟩) (a.length + b.length) (a.length + b.length)), (1, .slice A2 b.length c2)] [8, 7, 6, 20, 19, 18, 5, 1] (by kernel_rfl) ?_
  refine ops_nil ?_
  refine fin_then ?_
  refine st_seq ?_
  refine st_seq ?_
  refine st_region [oF 0, oF 1, oF 2] (by rfl) ?_
  refine oR [oF 0, oF 1, oF 2] [(27, vI 0), (26, vI (b.length : Int)), (25, .slice A2 b.length c2), (8, vI 0), (7, vI (a.getD i 0)), (6, vI (i : Int)), (20, vI (i : Int)), (19, vI (a.length : Int)), (18, .slice A1 a.length c1), (5, .slice (some ⟨b1, 0, none⟩) (a.length + b.length) (a.length + b.length)), (1, .slice A2 b.length c2)] [27, 26, 25, 8, 7, 6, 20, 19, 18, 5, 1] (by kernel_rfl) ?_
  refine ops_nil ?_
  refine fin_then ?_
  refine st_block ?_
  refine st_loop (σ := Nat) 0 (fun k => [(27, vI (k : Int)), (26, vI (b.length : Int)), (25, .slice A2 b.length c2), (8, vI ((tin b (a.getD i 0) i (tout a b i) k).2)), (7, vI (a.getD i 0)), (6, vI (i : Int)), (20, vI (i : Int)), (19, vI (a.length : Int)), (18, .slice A1 a.length c1), (5, .slice (some ⟨b1, 0, none⟩) (a.length + b.length) (a.length + b.length)), (1, .slice A2 b.length c2)]) (fun k => Mem w [.row (some ⟨b1, 0, none⟩) (a.length + b.length) (a.length + b.length) 3 1 (iv .i64 ((tin b (a.getD i 0) i (tout a b i) k).1))]) (fun k => k ≤ b.length) (fun k => b.length - k) (by exact Nat.zero_le _) (look_has ⟨rfl, rfl, rfl, rfl, rfl, rfl, rfl, rfl, rfl, rfl, rfl, trivial⟩) (fun w_ hM => by exact hM) ?_
  rintro k hI
  have hIk : k ≤ b.length := hI
  obtain ⟨hil1, hil2, hil3, hil4, hil5⟩ := tin_ok (i := i) (L := tout a b i) hb (ha.get i) tdig (by omega) (k := k) (by omega)
  refine st_seq ?_
  refine st_region [oF 0] (by rfl) ?_
  refine oR [oF 0] [(28, .bool (decide ((k : Int) < (b.length : Int)))), (27, vI (k : Int)), (26, vI (b.length : Int)), (25, .slice A2 b.length c2), (8, vI ((tin b (a.getD i 0) i (tout a b i) k).2)), (7, vI (a.getD i 0)), (6, vI (i : Int)), (20, vI (i : Int)), (19, vI (a.length : Int)), (18, .slice A1 a.length c1), (5, .slice (some ⟨b1, 0, none⟩) (a.length + b.length) (a.length + b.length)), (1, .slice A2 b.length c2)] [28, 27, 26, 25, 8, 7, 6, 20, 19, 18, 5, 1] (by kernel_rfl) ?_
  refine ops_nil ?_
  refine fin_then ?_
  refine st_seq ?_
  refine st_if (b := decide ((k : Int) < (b.length : Int))) rfl (fun hc6 => ?_) (fun hc6 => ?_)
  · --
   have hk : k < b.length := by have := of_decide_eq_true hc6; omega
   have hk1 : IntKind.i64.wrap ((k : Int) + 1) = ((k + 1 : Nat) : Int) := succ_i64 (by omega)
   have hpr := prod_lt (ha.get i) (hb.get k)
   have hgd := hil2.get (i + k)
   have hik : IntKind.i64.wrap ((i : Int) + (k : Int)) = ((i + k : Nat) : Int) := by rw [i64w]; omega
   have hmul : IntKind.i64.wrap (a.getD i 0 * b.getD k 0) = a.getD i 0 * b.getD k 0 := by rw [i64w]; omega
   have hadd1 : IntKind.i64.wrap ((tin b (a.getD i 0) i (tout a b i) k).1.getD (i + k) 0 + a.getD i 0 * b.getD k 0) = (tin b (a.getD i 0) i (tout a b i) k).1.getD (i + k) 0 + a.getD i 0 * b.getD k 0 := by rw [i64w]; omega
   have hadd2 : IntKind.i64.wrap ((tin b (a.getD i 0) i (tout a b i) k).1.getD (i + k) 0 + a.getD i 0 * b.getD k 0 + (tin b (a.getD i 0) i (tout a b i) k).2) = (tin b (a.getD i 0) i (tout a b i) k).1.getD (i + k) 0 + a.getD i 0 * b.getD k 0 + (tin b (a.getD i 0) i (tout a b i) k).2 := by rw [i64w]; omega
   have hmodn : Int.tmod ((tin b (a.getD i 0) i (tout a b i) k).1.getD (i + k) 0 + a.getD i 0 * b.getD k 0 + (tin b (a.getD i 0) i (tout a b i) k).2) 32768 = ((tin b (a.getD i 0) i (tout a b i) k).1.getD (i + k) 0 + a.getD i 0 * b.getD k 0 + (tin b (a.getD i 0) i (tout a b i) k).2) % 32768 := Int.tmod_eq_emod_of_nonneg (by omega)
   have hdivn : IntKind.i64.wrap (Int.tdiv ((tin b (a.getD i 0) i (tout a b i) k).1.getD (i + k) 0 + a.getD i 0 * b.getD k 0 + (tin b (a.getD i 0) i (tout a b i) k).2) 32768) = (tin b (a.getD i 0) i (tout a b i) (k + 1)).2 := by rw [Int.tdiv_eq_ediv_of_nonneg (by omega), i64w]; simp only [tin]; omega
   refine st_skip ?_
   refine fin_then ?_
   refine st_seq ?_
   refine st_block ?_
   refine st_seq ?_
   refine st_region [oF 0, oF 1, oF 2, oF 3, oF 4] (by rfl) ?_
   refine oR [oF 0] [(29, vI (k : Int)), (27, vI (k : Int)), (26, vI (b.length : Int)), (25, .slice A2 b.length c2), (8, vI ((tin b (a.getD i 0) i (tout a b i) k).2)), (7, vI (a.getD i 0)), (6, vI (i : Int)), (20, vI (i : Int)), (19, vI (a.length : Int)), (18, .slice A1 a.length c1), (5, .slice (some ⟨b1, 0, none⟩) (a.length + b.length) (a.length + b.length)), (1, .slice A2 b.length c2)] [29, 27, 26, 25, 8, 7, 6, 20, 19, 18, 5, 1] (by kernel_rfl) ?_
   obtain ⟨ad7, hA8, hx9⟩ := hr2 k (by first | omega | (simp only [hil1, tlen, List.length_set, List.length_append, List.length_cons, List.length_nil, List.length_replicate] at *; omega) | (simp [hil1, tlen, List.length_set, List.length_append, List.length_cons, List.length_nil, List.length_replicate]; done))
   refine ops_val (op := (Go.Op.indexAddr 114 (Go.Operand.tmp 25) (Go.Operand.tmp 27))) (d := some 30) (v := .pointer (some (ad7.add k))) ⟨by kernel_rfl⟩ (run_index1 hA8 Try.underlying114 (by kernel_rfl) rfl rfl (m := k) (by first | rfl | omega) (by first | omega | (simp only [hil1, tlen, List.length_set, List.length_append, List.length_cons, List.length_nil, List.length_replicate] at *; omega) | (simp [hil1, tlen, List.length_set, List.length_append, List.length_cons, List.length_nil, List.length_replicate]; done))) ?_
   refine oR [] [(30, .pointer (some (ad7.add k))), (29, vI (k : Int)), (27, vI (k : Int)), (26, vI (b.length : Int)), (25, .slice A2 b.length c2), (8, vI ((tin b (a.getD i 0) i (tout a b i) k).2)), (7, vI (a.getD i 0)), (6, vI (i : Int)), (20, vI (i : Int)), (19, vI (a.length : Int)), (18, .slice A1 a.length c1), (5, .slice (some ⟨b1, 0, none⟩) (a.length + b.length) (a.length + b.length)), (1, .slice A2 b.length c2)] [30, 29, 27, 26, 25, 8, 7, 6, 20, 19, 18, 5, 1] (by kernel_rfl) ?_
   refine ops_mem (d := some 31) (an := [.v (vI (b.getD k 0))]) (evs := [.load (ad7.add k) (vI (b.getD k 0))]) (v := vI (b.getD k 0)) (M' := Mem w [.row (some ⟨b1, 0, none⟩) (a.length + b.length) (a.length + b.length) 3 1 (iv .i64 ((tin b (a.getD i 0) i (tout a b i) k).1))]) ⟨by kernel_rfl⟩ (fun w_ hM hS => ⟨w_, ⟨hM.oldcell hx9, rfl⟩, hM, trivial⟩) ?_
   refine oR [oF 3, oF 4] [(10, vI (b.getD k 0)), (9, vI (k : Int)), (27, vI (k : Int)), (26, vI (b.length : Int)), (25, .slice A2 b.length c2), (8, vI ((tin b (a.getD i 0) i (tout a b i) k).2)), (7, vI (a.getD i 0)), (6, vI (i : Int)), (20, vI (i : Int)), (19, vI (a.length : Int)), (18, .slice A1 a.length c1), (5, .slice (some ⟨b1, 0, none⟩) (a.length + b.length) (a.length + b.length)), (1, .slice A2 b.length c2)] [10, 9, 27, 26, 25, 8, 7, 6, 20, 19, 18, 5, 1] (by kernel_rfl) ?_
   refine ops_nil ?_
   refine fin_then ?_
   refine st_seq ?_
   refine st_region [oF 0, oF 1, oF 2, oF 3, oF 4, oF 5, oF 6, oF 7, oF 8, oF 9, oF 10, oF 11, oF 12] (by rfl) ?_
   refine oR [oF 0, oF 1, oF 2, oF 3] [(35, vI (IntKind.i64.wrap ((i : Int) + (k : Int)))), (32, .slice (some ⟨b1, 0, none⟩) (a.length + b.length) (a.length + b.length)), (10, vI (b.getD k 0)), (9, vI (k : Int)), (27, vI (k : Int)), (26, vI (b.length : Int)), (25, .slice A2 b.length c2), (8, vI ((tin b (a.getD i 0) i (tout a b i) k).2)), (7, vI (a.getD i 0)), (6, vI (i : Int)), (20, vI (i : Int)), (19, vI (a.length : Int)), (18, .slice A1 a.length c1), (5, .slice (some ⟨b1, 0, none⟩) (a.length + b.length) (a.length + b.length)), (1, .slice A2 b.length c2)] [35, 32, 10, 9, 27, 26, 25, 8, 7, 6, 20, 19, 18, 5, 1] (by kernel_rfl) ?_
   refine ops_conv (l' := [(35, vI ((i + k : Nat) : Int)), (32, .slice (some ⟨b1, 0, none⟩) (a.length + b.length) (a.length + b.length)), (10, vI (b.getD k 0)), (9, vI (k : Int)), (27, vI (k : Int)), (26, vI (b.length : Int)), (25, .slice A2 b.length c2), (8, vI ((tin b (a.getD i 0) i (tout a b i) k).2)), (7, vI (a.getD i 0)), (6, vI (i : Int)), (20, vI (i : Int)), (19, vI (a.length : Int)), (18, .slice A1 a.length c1), (5, .slice (some ⟨b1, 0, none⟩) (a.length + b.length) (a.length + b.length)), (1, .slice A2 b.length c2)]) (by rw [hik]) (fun _ h => h) ?_
   refine ops_val (op := (Go.Op.indexAddr 114 (Go.Operand.tmp 32) (Go.Operand.tmp 35))) (d := some 36) (v := vP b1 (i + k)) ⟨by kernel_rfl⟩ (run_indexRow Try.underlying114 (z := 1) (by kernel_rfl) rfl rfl (m := i + k) (by first | rfl | omega) (by first | omega | (simp only [hil1, tlen, List.length_set, List.length_append, List.length_cons, List.length_nil, List.length_replicate] at *; omega) | (simp [hil1, tlen, List.length_set, List.length_append, List.length_cons, List.length_nil, List.length_replicate]; done)) (by exact Nat.mul_one _)) ?_
   refine oR [] [(36, vP b1 (i + k)), (10, vI (b.getD k 0)), (9, vI (k : Int)), (27, vI (k : Int)), (26, vI (b.length : Int)), (25, .slice A2 b.length c2), (8, vI ((tin b (a.getD i 0) i (tout a b i) k).2)), (7, vI (a.getD i 0)), (6, vI (i : Int)), (20, vI (i : Int)), (19, vI (a.length : Int)), (18, .slice A1 a.length c1), (5, .slice (some ⟨b1, 0, none⟩) (a.length + b.length) (a.length + b.length)), (1, .slice A2 b.length c2)] [36, 10, 9, 27, 26, 25, 8, 7, 6, 20, 19, 18, 5, 1] (by kernel_rfl) ?_
   refine ops_mem (d := some 37) (an := [.v (vI (((tin b (a.getD i 0) i (tout a b i) k).1).getD (i + k) 0))]) (evs := [.load ⟨b1, i + k, none⟩ (vI (((tin b (a.getD i 0) i (tout a b i) k).1).getD (i + k) 0))]) (v := vI (((tin b (a.getD i 0) i (tout a b i) k).1).getD (i + k) 0)) (M' := Mem w [.row (some ⟨b1, 0, none⟩) (a.length + b.length) (a.length + b.length) 3 1 (iv .i64 ((tin b (a.getD i 0) i (tout a b i) k).1))]) ⟨by kernel_rfl⟩ (fun w_ hM hS => ⟨w_, ⟨hM.rowcell 0 rfl (iv_get (by first | omega | (simp only [hil1, tlen, List.length_set, List.length_append, List.length_cons, List.length_nil, List.length_replicate] at *; omega) | (simp [hil1, tlen, List.length_set, List.length_append, List.length_cons, List.length_nil, List.length_replicate]; done))), rfl⟩, hM, trivial⟩) ?_
   refine oR [oF 6, oF 7, oF 8] [(40, vI (IntKind.i64.wrap (a.getD i 0 * b.getD k 0))), (37, vI (((tin b (a.getD i 0) i (tout a b i) k).1).getD (i + k) 0)), (9, vI (k : Int)), (27, vI (k : Int)), (26, vI (b.length : Int)), (25, .slice A2 b.length c2), (8, vI ((tin b (a.getD i 0) i (tout a b i) k).2)), (7, vI (a.getD i 0)), (6, vI (i : Int)), (20, vI (i : Int)), (19, vI (a.length : Int)), (18, .slice A1 a.length c1), (5, .slice (some ⟨b1, 0, none⟩) (a.length + b.length) (a.length + b.length)), (1, .slice A2 b.length c2)] [40, 37, 9, 27, 26, 25, 8, 7, 6, 20, 19, 18, 5, 1] (by kernel_rfl) ?_
   refine ops_conv (l' := [(40, vI (a.getD i 0 * b.getD k 0)), (37, vI (((tin b (a.getD i 0) i (tout a b i) k).1).getD (i + k) 0)), (9, vI (k : Int)), (27, vI (k : Int)), (26, vI (b.length : Int)), (25, .slice A2 b.length c2), (8, vI ((tin b (a.getD i 0) i (tout a b i) k).2)), (7, vI (a.getD i 0)), (6, vI (i : Int)), (20, vI (i : Int)), (19, vI (a.length : Int)), (18, .slice A1 a.length c1), (5, .slice (some ⟨b1, 0, none⟩) (a.length + b.length) (a.length + b.length)), (1, .slice A2 b.length c2)]) (by rw [hmul]) (fun _ h => h) ?_
   refine oR [oF 9] [(41, vI (IntKind.i64.wrap (((tin b (a.getD i 0) i (tout a b i) k).1).getD (i + k) 0 + (a.getD i 0 * b.getD k 0)))), (9, vI (k : Int)), (27, vI (k : Int)), (26, vI (b.length : Int)), (25, .slice A2 b.length c2), (8, vI ((tin b (a.getD i 0) i (tout a b i) k).2)), (7, vI (a.getD i 0)), (6, vI (i : Int)), (20, vI (i : Int)), (19, vI (a.length : Int)), (18, .slice A1 a.length c1), (5, .slice (some ⟨b1, 0, none⟩) (a.length + b.length) (a.length + b.length)), (1, .slice A2 b.length c2)] [41, 9, 27, 26, 25, 8, 7, 6, 20, 19, 18, 5, 1] (by kernel_rfl) ?_
   refine ops_conv (l' := [(41, vI ((tin b (a.getD i 0) i (tout a b i) k).1.getD (i + k) 0 + a.getD i 0 * b.getD k 0)), (9, vI (k : Int)), (27, vI (k : Int)), (26, vI (b.length : Int)), (25, .slice A2 b.length c2), (8, vI ((tin b (a.getD i 0) i (tout a b i) k).2)), (7, vI (a.getD i 0)), (6, vI (i : Int)), (20, vI (i : Int)), (19, vI (a.length : Int)), (18, .slice A1 a.length c1), (5, .slice (some ⟨b1, 0, none⟩) (a.length + b.length) (a.length + b.length)), (1, .slice A2 b.length c2)]) (by rw [hadd1]) (fun _ h => h) ?_
   refine oR [oF 10, oF 11] [(43, vI (IntKind.i64.wrap (((tin b (a.getD i 0) i (tout a b i) k).1.getD (i + k) 0 + a.getD i 0 * b.getD k 0) + (tin b (a.getD i 0) i (tout a b i) k).2))), (9, vI (k : Int)), (27, vI (k : Int)), (26, vI (b.length : Int)), (25, .slice A2 b.length c2), (7, vI (a.getD i 0)), (6, vI (i : Int)), (20, vI (i : Int)), (19, vI (a.length : Int)), (18, .slice A1 a.length c1), (5, .slice (some ⟨b1, 0, none⟩) (a.length + b.length) (a.length + b.length)), (1, .slice A2 b.length c2)] [43, 9, 27, 26, 25, 7, 6, 20, 19, 18, 5, 1] (by kernel_rfl) ?_
   refine ops_conv (l' := [(43, vI ((tin b (a.getD i 0) i (tout a b i) k).1.getD (i + k) 0 + a.getD i 0 * b.getD k 0 + (tin b (a.getD i 0) i (tout a b i) k).2)), (9, vI (k : Int)), (27, vI (k : Int)), (26, vI (b.length : Int)), (25, .slice A2 b.length c2), (7, vI (a.getD i 0)), (6, vI (i : Int)), (20, vI (i : Int)), (19, vI (a.length : Int)), (18, .slice A1 a.length c1), (5, .slice (some ⟨b1, 0, none⟩) (a.length + b.length) (a.length + b.length)), (1, .slice A2 b.length c2)]) (by rw [hadd2]) (fun _ h => h) ?_
   refine oR [oF 12] [(11, vI ((tin b (a.getD i 0) i (tout a b i) k).1.getD (i + k) 0 + a.getD i 0 * b.getD k 0 + (tin b (a.getD i 0) i (tout a b i) k).2)), (9, vI (k : Int)), (27, vI (k : Int)), (26, vI (b.length : Int)), (25, .slice A2 b.length c2), (7, vI (a.getD i 0)), (6, vI (i : Int)), (20, vI (i : Int)), (19, vI (a.length : Int)), (18, .slice A1 a.length c1), (5, .slice (some ⟨b1, 0, none⟩) (a.length + b.length) (a.length + b.length)), (1, .slice A2 b.length c2)] [11, 9, 27, 26, 25, 7, 6, 20, 19, 18, 5, 1] (by kernel_rfl) ?_
   refine ops_nil ?_
   refine fin_then ?_
   refine st_region [oF 0, oF 1, oF 2, oF 3, oF 4, oF 5, oF 6, oF 7, oF 8, oF 9, oF 10] (by rfl) ?_
   refine oR [oF 0, oF 1, oF 2, oF 3] [(47, vI (IntKind.i64.wrap ((i : Int) + (k : Int)))), (44, .slice (some ⟨b1, 0, none⟩) (a.length + b.length) (a.length + b.length)), (11, vI ((tin b (a.getD i 0) i (tout a b i) k).1.getD (i + k) 0 + a.getD i 0 * b.getD k 0 + (tin b (a.getD i 0) i (tout a b i) k).2)), (27, vI (k : Int)), (26, vI (b.length : Int)), (25, .slice A2 b.length c2), (7, vI (a.getD i 0)), (6, vI (i : Int)), (20, vI (i : Int)), (19, vI (a.length : Int)), (18, .slice A1 a.length c1), (5, .slice (some ⟨b1, 0, none⟩) (a.length + b.length) (a.length + b.length)), (1, .slice A2 b.length c2)] [47, 44, 11, 27, 26, 25, 7, 6, 20, 19, 18, 5, 1] (by kernel_rfl) ?_
   refine ops_conv (l' := [(47, vI ((i + k : Nat) : Int)), (44, .slice (some ⟨b1, 0, none⟩) (a.length + b.length) (a.length + b.length)), (11, vI ((tin b (a.getD i 0) i (tout a b i) k).1.getD (i + k) 0 + a.getD i 0 * b.getD k 0 + (tin b (a.getD i 0) i (tout a b i) k).2)), (27, vI (k : Int)), (26, vI (b.length : Int)), (25, .slice A2 b.length c2), (7, vI (a.getD i 0)), (6, vI (i : Int)), (20, vI (i : Int)), (19, vI (a.length : Int)), (18, .slice A1 a.length c1), (5, .slice (some ⟨b1, 0, none⟩) (a.length + b.length) (a.length + b.length)), (1, .slice A2 b.length c2)]) (by rw [hik]) (fun _ h => h) ?_
   refine oR [oF 4, oF 5] [(49, vI (Int.tmod ((tin b (a.getD i 0) i (tout a b i) k).1.getD (i + k) 0 + a.getD i 0 * b.getD k 0 + (tin b (a.getD i 0) i (tout a b i) k).2) 32768)), (47, vI ((i + k : Nat) : Int)), (44, .slice (some ⟨b1, 0, none⟩) (a.length + b.length) (a.length + b.length)), (11, vI ((tin b (a.getD i 0) i (tout a b i) k).1.getD (i + k) 0 + a.getD i 0 * b.getD k 0 + (tin b (a.getD i 0) i (tout a b i) k).2)), (27, vI (k : Int)), (26, vI (b.length : Int)), (25, .slice A2 b.length c2), (7, vI (a.getD i 0)), (6, vI (i : Int)), (20, vI (i : Int)), (19, vI (a.length : Int)), (18, .slice A1 a.length c1), (5, .slice (some ⟨b1, 0, none⟩) (a.length + b.length) (a.length + b.length)), (1, .slice A2 b.length c2)] [49, 47, 44, 11, 27, 26, 25, 7, 6, 20, 19, 18, 5, 1] (by kernel_rfl) ?_
   refine ops_conv (l' := [(49, vI (((tin b (a.getD i 0) i (tout a b i) k).1.getD (i + k) 0 + a.getD i 0 * b.getD k 0 + (tin b (a.getD i 0) i (tout a b i) k).2) % 32768)), (47, vI ((i + k : Nat) : Int)), (44, .slice (some ⟨b1, 0, none⟩) (a.length + b.length) (a.length + b.length)), (11, vI ((tin b (a.getD i 0) i (tout a b i) k).1.getD (i + k) 0 + a.getD i 0 * b.getD k 0 + (tin b (a.getD i 0) i (tout a b i) k).2)), (27, vI (k : Int)), (26, vI (b.length : Int)), (25, .slice A2 b.length c2), (7, vI (a.getD i 0)), (6, vI (i : Int)), (20, vI (i : Int)), (19, vI (a.length : Int)), (18, .slice A1 a.length c1), (5, .slice (some ⟨b1, 0, none⟩) (a.length + b.length) (a.length + b.length)), (1, .slice A2 b.length c2)]) (by rw [hmodn]) (fun _ h => h) ?_
   refine oR [oF 6, oF 7] [(51, vI (IntKind.i64.wrap (Int.tdiv ((tin b (a.getD i 0) i (tout a b i) k).1.getD (i + k) 0 + a.getD i 0 * b.getD k 0 + (tin b (a.getD i 0) i (tout a b i) k).2) 32768))), (49, vI (((tin b (a.getD i 0) i (tout a b i) k).1.getD (i + k) 0 + a.getD i 0 * b.getD k 0 + (tin b (a.getD i 0) i (tout a b i) k).2) % 32768)), (47, vI ((i + k : Nat) : Int)), (44, .slice (some ⟨b1, 0, none⟩) (a.length + b.length) (a.length + b.length)), (27, vI (k : Int)), (26, vI (b.length : Int)), (25, .slice A2 b.length c2), (7, vI (a.getD i 0)), (6, vI (i : Int)), (20, vI (i : Int)), (19, vI (a.length : Int)), (18, .slice A1 a.length c1), (5, .slice (some ⟨b1, 0, none⟩) (a.length + b.length) (a.length + b.length)), (1, .slice A2 b.length c2)] [51, 49, 47, 44, 27, 26, 25, 7, 6, 20, 19, 18, 5, 1] (by kernel_rfl) ?_
   refine ops_conv (l' := [(51, vI ((tin b (a.getD i 0) i (tout a b i) (k + 1)).2)), (49, vI (((tin b (a.getD i 0) i (tout a b i) k).1.getD (i + k) 0 + a.getD i 0 * b.getD k 0 + (tin b (a.getD i 0) i (tout a b i) k).2) % 32768)), (47, vI ((i + k : Nat) : Int)), (44, .slice (some ⟨b1, 0, none⟩) (a.length + b.length) (a.length + b.length)), (27, vI (k : Int)), (26, vI (b.length : Int)), (25, .slice A2 b.length c2), (7, vI (a.getD i 0)), (6, vI (i : Int)), (20, vI (i : Int)), (19, vI (a.length : Int)), (18, .slice A1 a.length c1), (5, .slice (some ⟨b1, 0, none⟩) (a.length + b.length) (a.length + b.length)), (1, .slice A2 b.length c2)]) (by rw [hdivn]) (fun _ h => h) ?_
   refine ops_val (op := (Go.Op.indexAddr 114 (Go.Operand.tmp 44) (Go.Operand.tmp 47))) (d := some 52) (v := vP b1 (i + k)) ⟨by kernel_rfl⟩ (run_indexRow Try.underlying114 (z := 1) (by kernel_rfl) rfl rfl (m := i + k) (by first | rfl | omega) (by first | omega | (simp only [hil1, tlen, List.length_set, List.length_append, List.length_cons, List.length_nil, List.length_replicate] at *; omega) | (simp [hil1, tlen, List.length_set, List.length_append, List.length_cons, List.length_nil, List.length_replicate]; done)) (by exact Nat.mul_one _)) ?_
   refine oR [] [(52, vP b1 (i + k)), (51, vI ((tin b (a.getD i 0) i (tout a b i) (k + 1)).2)), (49, vI (((tin b (a.getD i 0) i (tout a b i) k).1.getD (i + k) 0 + a.getD i 0 * b.getD k 0 + (tin b (a.getD i 0) i (tout a b i) k).2) % 32768)), (27, vI (k : Int)), (26, vI (b.length : Int)), (25, .slice A2 b.length c2), (7, vI (a.getD i 0)), (6, vI (i : Int)), (20, vI (i : Int)), (19, vI (a.length : Int)), (18, .slice A1 a.length c1), (5, .slice (some ⟨b1, 0, none⟩) (a.length + b.length) (a.length + b.length)), (1, .slice A2 b.length c2)] [52, 51, 49, 27, 26, 25, 7, 6, 20, 19, 18, 5, 1] (by kernel_rfl) ?_
   refine ops_store (an := []) (evs := [.store ⟨b1, i + k, none⟩ (vI (((tin b (a.getD i 0) i (tout a b i) k).1.getD (i + k) 0 + a.getD i 0 * b.getD k 0 + (tin b (a.getD i 0) i (tout a b i) k).2) % 32768))]) (M' := Mem w [.row (some ⟨b1, 0, none⟩) (a.length + b.length) (a.length + b.length) 3 1 (iv .i64 (((tin b (a.getD i 0) i (tout a b i) k).1).set (i + k) (((tin b (a.getD i 0) i (tout a b i) k).1.getD (i + k) 0 + a.getD i 0 * b.getD k 0 + (tin b (a.getD i 0) i (tout a b i) k).2) % 32768)))]) ⟨by kernel_rfl⟩ (fun w_ hM hS => let ⟨w', he, h'⟩ := hM.rowstore 0 rfl (i + k) (vI (((tin b (a.getD i 0) i (tout a b i) k).1.getD (i + k) 0 + a.getD i 0 * b.getD k 0 + (tin b (a.getD i 0) i (tout a b i) k).2) % 32768)) (by rw [iv_length]; first | omega | (simp only [hil1, tlen, List.length_set, List.length_append, List.length_cons, List.length_nil, List.length_replicate] at *; omega) | (simp [hil1, tlen, List.length_set, List.length_append, List.length_cons, List.length_nil, List.length_replicate]; done)); ⟨w', he, (by rw [iv_set] at h'; exact h'), trivial⟩) ?_
   refine oR [oF 10] [(8, vI ((tin b (a.getD i 0) i (tout a b i) (k + 1)).2)), (27, vI (k : Int)), (26, vI (b.length : Int)), (25, .slice A2 b.length c2), (7, vI (a.getD i 0)), (6, vI (i : Int)), (20, vI (i : Int)), (19, vI (a.length : Int)), (18, .slice A1 a.length c1), (5, .slice (some ⟨b1, 0, none⟩) (a.length + b.length) (a.length + b.length)), (1, .slice A2 b.length c2)] [8, 27, 26, 25, 7, 6, 20, 19, 18, 5, 1] (by kernel_rfl) ?_
   refine ops_nil ?_
   refine fin_block ?_
   refine fin_then ?_
   refine st_region [oF 0, oF 1] (by rfl) ?_
   refine oR [oF 0] [(53, vI (IntKind.i64.wrap ((k : Int) + 1))), (8, vI ((tin b (a.getD i 0) i (tout a b i) (k + 1)).2)), (27, vI (k : Int)), (26, vI (b.length : Int)), (25, .slice A2 b.length c2), (7, vI (a.getD i 0)), (6, vI (i : Int)), (20, vI (i : Int)), (19, vI (a.length : Int)), (18, .slice A1 a.length c1), (5, .slice (some ⟨b1, 0, none⟩) (a.length + b.length) (a.length + b.length)), (1, .slice A2 b.length c2)] [53, 8, 27, 26, 25, 7, 6, 20, 19, 18, 5, 1] (by kernel_rfl) ?_
   refine ops_conv (l' := [(53, vI ((k + 1 : Nat) : Int)), (8, vI ((tin b (a.getD i 0) i (tout a b i) (k + 1)).2)), (27, vI (k : Int)), (26, vI (b.length : Int)), (25, .slice A2 b.length c2), (7, vI (a.getD i 0)), (6, vI (i : Int)), (20, vI (i : Int)), (19, vI (a.length : Int)), (18, .slice A1 a.length c1), (5, .slice (some ⟨b1, 0, none⟩) (a.length + b.length) (a.length + b.length)), (1, .slice A2 b.length c2)]) (by rw [hk1]) (fun _ h => h) ?_
   refine oR [oF 1] [(27, vI ((k + 1 : Nat) : Int)), (8, vI ((tin b (a.getD i 0) i (tout a b i) (k + 1)).2)), (26, vI (b.length : Int)), (25, .slice A2 b.length c2), (7, vI (a.getD i 0)), (6, vI (i : Int)), (20, vI (i : Int)), (19, vI (a.length : Int)), (18, .slice A1 a.length c1), (5, .slice (some ⟨b1, 0, none⟩) (a.length + b.length) (a.length + b.length)), (1, .slice A2 b.length c2)] [27, 8, 26, 25, 7, 6, 20, 19, 18, 5, 1] (by kernel_rfl) ?_
   refine ops_nil ?_
   refine fin_round (k + 1) (by omega) (by omega) (look_has ⟨rfl, rfl, rfl, rfl, rfl, rfl, rfl, rfl, rfl, rfl, rfl, trivial⟩) (fun w_ hM => by exact hM)
  · --
   have hk : k = b.length := by have := of_decide_eq_false hc6; omega
   have hgl := hil2.get (i + b.length)
   have hlast : IntKind.i64.wrap ((tin b (a.getD i 0) i (tout a b i) k).1.getD (i + b.length) 0 + (tin b (a.getD i 0) i (tout a b i) k).2) = (tin b (a.getD i 0) i (tout a b i) k).1.getD (i + b.length) 0 + (tin b (a.getD i 0) i (tout a b i) k).2 := by rw [i64w]; omega
   refine st_exit ?_
   refine fin_exit_then ?_
   refine fin_exit_then ?_
   refine fin_exit ?_
   refine fin_then ?_
   refine st_region [oF 0, oF 1, oF 2, oF 3, oF 4, oF 5, oF 6, oF 7, oF 8, oF 9, oF 10] (by rfl) ?_
   refine oR [oF 0, oF 1, oF 2, oF 3, oF 4] [(58, vI (IntKind.i64.wrap ((i : Int) + (b.length : Int)))), (54, .slice (some ⟨b1, 0, none⟩) (a.length + b.length) (a.length + b.length)), (8, vI ((tin b (a.getD i 0) i (tout a b i) k).2)), (20, vI (i : Int)), (19, vI (a.length : Int)), (18, .slice A1 a.length c1), (5, .slice (some ⟨b1, 0, none⟩) (a.length + b.length) (a.length + b.length)), (1, .slice A2 b.length c2)] [58, 54, 8, 20, 19, 18, 5, 1] (by kernel_rfl) ?_
   refine ops_conv (l' := [(58, vI ((i + b.length : Nat) : Int)), (54, .slice (some ⟨b1, 0, none⟩) (a.length + b.length) (a.length + b.length)), (8, vI ((tin b (a.getD i 0) i (tout a b i) k).2)), (20, vI (i : Int)), (19, vI (a.length : Int)), (18, .slice A1 a.length c1), (5, .slice (some ⟨b1, 0, none⟩) (a.length + b.length) (a.length + b.length)), (1, .slice A2 b.length c2)]) (by rw [hib]) (fun _ h => h) ?_
   refine ops_val (op := (Go.Op.indexAddr 114 (Go.Operand.tmp 54) (Go.Operand.tmp 58))) (d := some 59) (v := vP b1 (i + b.length)) ⟨by kernel_rfl⟩ (run_indexRow Try.underlying114 (z := 1) (by kernel_rfl) rfl rfl (m := i + b.length) (by first | rfl | omega) (by first | omega | (simp only [hil1, tlen, List.length_set, List.length_append, List.length_cons, List.length_nil, List.length_replicate] at *; omega) | (simp [hil1, tlen, List.length_set, List.length_append, List.length_cons, List.length_nil, List.length_replicate]; done)) (by exact Nat.mul_one _)) ?_
   refine oR [] [(59, vP b1 (i + b.length)), (58, vI ((i + b.length : Nat) : Int)), (54, .slice (some ⟨b1, 0, none⟩) (a.length + b.length) (a.length + b.length)), (8, vI ((tin b (a.getD i 0) i (tout a b i) k).2)), (20, vI (i : Int)), (19, vI (a.length : Int)), (18, .slice A1 a.length c1), (5, .slice (some ⟨b1, 0, none⟩) (a.length + b.length) (a.length + b.length)), (1, .slice A2 b.length c2)] [59, 58, 54, 8, 20, 19, 18, 5, 1] (by kernel_rfl) ?_
   refine ops_mem (d := some 60) (an := [.v (vI (((tin b (a.getD i 0) i (tout a b i) k).1).getD (i + b.length) 0))]) (evs := [.load ⟨b1, i + b.length, none⟩ (vI (((tin b (a.getD i 0) i (tout a b i) k).1).getD (i + b.length) 0))]) (v := vI (((tin b (a.getD i 0) i (tout a b i) k).1).getD (i + b.length) 0)) (M' := Mem w [.row (some ⟨b1, 0, none⟩) (a.length + b.length) (a.length + b.length) 3 1 (iv .i64 ((tin b (a.getD i 0) i (tout a b i) k).1))]) ⟨by kernel_rfl⟩ (fun w_ hM hS => ⟨w_, ⟨hM.rowcell 0 rfl (iv_get (by first | omega | (simp only [hil1, tlen, List.length_set, List.length_append, List.length_cons, List.length_nil, List.length_replicate] at *; omega) | (simp [hil1, tlen, List.length_set, List.length_append, List.length_cons, List.length_nil, List.length_replicate]; done))), rfl⟩, hM, trivial⟩) ?_
   refine oR [oF 7, oF 8] [(62, vI (IntKind.i64.wrap (((tin b (a.getD i 0) i (tout a b i) k).1).getD (i + b.length) 0 + (tin b (a.getD i 0) i (tout a b i) k).2))), (58, vI ((i + b.length : Nat) : Int)), (54, .slice (some ⟨b1, 0, none⟩) (a.length + b.length) (a.length + b.length)), (20, vI (i : Int)), (19, vI (a.length : Int)), (18, .slice A1 a.length c1), (5, .slice (some ⟨b1, 0, none⟩) (a.length + b.length) (a.length + b.length)), (1, .slice A2 b.length c2)] [62, 58, 54, 20, 19, 18, 5, 1] (by kernel_rfl) ?_
   refine ops_conv (l' := [(62, vI ((tin b (a.getD i 0) i (tout a b i) k).1.getD (i + b.length) 0 + (tin b (a.getD i 0) i (tout a b i) k).2)), (58, vI ((i + b.length : Nat) : Int)), (54, .slice (some ⟨b1, 0, none⟩) (a.length + b.length) (a.length + b.length)), (20, vI (i : Int)), (19, vI (a.length : Int)), (18, .slice A1 a.length c1), (5, .slice (some ⟨b1, 0, none⟩) (a.length + b.length) (a.length + b.length)), (1, .slice A2 b.length c2)]) (by rw [hlast]) (fun _ h => h) ?_
   refine ops_val (op := (Go.Op.indexAddr 114 (Go.Operand.tmp 54) (Go.Operand.tmp 58))) (d := some 63) (v := vP b1 (i + b.length)) ⟨by kernel_rfl⟩ (run_indexRow Try.underlying114 (z := 1) (by kernel_rfl) rfl rfl (m := i + b.length) (by first | rfl | omega) (by first | omega | (simp only [hil1, tlen, List.length_set, List.length_append, List.length_cons, List.length_nil, List.length_replicate] at *; omega) | (simp [hil1, tlen, List.length_set, List.length_append, List.length_cons, List.length_nil, List.length_replicate]; done)) (by exact Nat.mul_one _)) ?_
   refine oR [] [(63, vP b1 (i + b.length)), (62, vI ((tin b (a.getD i 0) i (tout a b i) k).1.getD (i + b.length) 0 + (tin b (a.getD i 0) i (tout a b i) k).2)), (20, vI (i : Int)), (19, vI (a.length : Int)), (18, .slice A1 a.length c1), (5, .slice (some ⟨b1, 0, none⟩) (a.length + b.length) (a.length + b.length)), (1, .slice A2 b.length c2)] [63, 62, 20, 19, 18, 5, 1] (by kernel_rfl) ?_
   refine ops_store (an := []) (evs := [.store ⟨b1, i + b.length, none⟩ (vI ((tin b (a.getD i 0) i (tout a b i) k).1.getD (i + b.length) 0 + (tin b (a.getD i 0) i (tout a b i) k).2))]) (M' := Mem w [.row (some ⟨b1, 0, none⟩) (a.length + b.length) (a.length + b.length) 3 1 (iv .i64 (((tin b (a.getD i 0) i (tout a b i) k).1).set (i + b.length) ((tin b (a.getD i 0) i (tout a b i) k).1.getD (i + b.length) 0 + (tin b (a.getD i 0) i (tout a b i) k).2)))]) ⟨by kernel_rfl⟩ (fun w_ hM hS => let ⟨w', he, h'⟩ := hM.rowstore 0 rfl (i + b.length) (vI ((tin b (a.getD i 0) i (tout a b i) k).1.getD (i + b.length) 0 + (tin b (a.getD i 0) i (tout a b i) k).2)) (by rw [iv_length]; first | omega | (simp only [hil1, tlen, List.length_set, List.length_append, List.length_cons, List.length_nil, List.length_replicate] at *; omega) | (simp [hil1, tlen, List.length_set, List.length_append, List.length_cons, List.length_nil, List.length_replicate]; done)); ⟨w', he, (by rw [iv_set] at h'; exact h'), trivial⟩) ?_
   refine oR [] [(20, vI (i : Int)), (19, vI (a.length : Int)), (18, .slice A1 a.length c1), (5, .slice (some ⟨b1, 0, none⟩) (a.length + b.length) (a.length + b.length)), (1, .slice A2 b.length c2)] [20, 19, 18, 5, 1] (by kernel_rfl) ?_
   refine ops_nil ?_
   refine fin_block ?_
   refine fin_then ?_
   refine st_region [oF 0, oF 1] (by rfl) ?_
   refine oR [oF 0] [(64, vI (IntKind.i64.wrap ((i : Int) + 1))), (20, vI (i : Int)), (19, vI (a.length : Int)), (18, .slice A1 a.length c1), (5, .slice (some ⟨b1, 0, none⟩) (a.length + b.length) (a.length + b.length)), (1, .slice A2 b.length c2)] [64, 20, 19, 18, 5, 1] (by kernel_rfl) ?_
   refine ops_conv (l' := [(64, vI ((i + 1 : Nat) : Int)), (20, vI (i : Int)), (19, vI (a.length : Int)), (18, .slice A1 a.length c1), (5, .slice (some ⟨b1, 0, none⟩) (a.length + b.length) (a.length + b.length)), (1, .slice A2 b.length c2)]) (by rw [hi1]) (fun _ h => h) ?_
   refine oR [oF 1] [(20, vI ((i + 1 : Nat) : Int)), (19, vI (a.length : Int)), (18, .slice A1 a.length c1), (5, .slice (some ⟨b1, 0, none⟩) (a.length + b.length) (a.length + b.length)), (1, .slice A2 b.length c2)] [20, 19, 18, 5, 1] (by kernel_rfl) ?_
   refine ops_nil ?_
   refine fin_round (i + 1) (by omega) (by omega) (look_has ⟨rfl, rfl, rfl, rfl, rfl, trivial⟩) (fun w_ hM => by exact (by rw [hk] at hM; exact hM))
 · --
  have hi : i = a.length := by have := of_decide_eq_false hc2; omega
  refine st_exit ?_
  refine fin_exit_then ?_
  refine fin_exit_then ?_
  refine fin_exit ?_
  refine fin_then ?_
  refine st_seq ?_
  refine st_region [oF 0, oF 1, oF 2] (by rfl) ?_
  refine oR [oF 0] [(65, .slice (some ⟨b1, 0, none⟩) (a.length + b.length) (a.length + b.length))] [65] (by kernel_rfl) ?_
  subst hi
  obtain ⟨tlen, tdig, tval, tzer⟩ := tout_ok ha hb (i := a.length) (Nat.le_refl _)
  rw [List.take_length] at tval
  have htrim : trimN (tout a b a.length) (a.length + b.length) = (digs (valZ a * valZ b).toNat).length := by have z := trim_len tdig; rwa [tlen, tval] at z
  have htake : (tout a b a.length).take ((digs (valZ a * valZ b).toNat).length) = digs (valZ a * valZ b).toNat := by have z := trim_all tdig; rwa [tlen, tval, htrim] at z
  refine oC (some 66) 124 #[.slice (some ⟨b1, 0, none⟩) (a.length + b.length) (a.length + b.length)] (.slice (some ⟨b1, 0, none⟩) (trimN (tout a b a.length) (a.length + b.length)) (a.length + b.length)) ⟨by kernel_rfl⟩ (fun w_ hM => cut_calls (some ⟨b1, 0, none⟩) (a.length + b.length) (a.length + b.length) (tout a b a.length) w_ (hM.rints 0 rfl) tlen (hM.rowCap 0 rfl).1 (by omega)) ?_
  refine ops_conv (l' := [(66, .slice (some ⟨b1, 0, none⟩) ((digs (valZ a * valZ b).toNat).length) (a.length + b.length)), (65, .slice (some ⟨b1, 0, none⟩) (a.length + b.length) (a.length + b.length))]) (M' := Mem w [.row (some ⟨b1, 0, none⟩) ((digs (valZ a * valZ b).toNat).length) (a.length + b.length) 3 1 (iv .i64 (digs (valZ a * valZ b).toNat))]) (by rw [htrim]; rfl) (fun w_ hM => by have z := hM.rowTake 0 rfl (m := (digs (valZ a * valZ b).toNat).length) (by have := trimN_le (tout a b a.length) (a.length + b.length); omega); rw [Nat.mul_one, iv_take, htake] at z; exact z) ?_
  refine oR [oF 2] [(4, .slice (some ⟨b1, 0, none⟩) ((digs (valZ a * valZ b).toNat).length) (a.length + b.length))] [4] (by kernel_rfl) ?_
  refine ops_nil ?_
  refine fin_then ?_
  refine st_ret ?_
  refine fin_ret [.tmp 4] [.slice (some ⟨b1, 0, none⟩) ((digs (valZ a * valZ b).toNat).length) (a.length + b.length)] rfl rfl (fun w_ hM => (.tmp rfl .nil)) (fun w_ hM => ?_)
  exact ⟨((some ⟨b1, 0, none⟩), a.length + b.length), rfl, hM.reorder [0] (by decide) rfl⟩
theorem len_differ {x y : Nat} (h : (!(((digs x).length : Int) == ((digs y).length : Int))) = true) : decide (((digs x).length : Int) < ((digs y).length : Int)) = decide (x ≤ y) := by
  have hne : (digs x).length ≠ (digs y).length := fun e => by rw [e] at h; simp at h
  by_cases hlt : (digs x).length < (digs y).length
  · have := digs_len_lt hlt
    rw [decide_eq_true (by omega), decide_eq_true (by omega)]
  · have := digs_len_lt (show (digs y).length < (digs x).length by omega)
    rw [decide_eq_false (by omega), decide_eq_false (by omega)]
theorem digit_differ {x y m : Nat} (he : (digs x).length = (digs y).length) (hm : m < (digs x).length) (ht : Top (digs x) (digs y) (m + 1)) (hne : (digs x).getD m 0 ≠ (digs y).getD m 0) : decide ((digs x).getD m 0 < (digs y).getD m 0) = decide (x ≤ y) := by
  have z := top_ne (digs_dig x) (digs_dig y) he hm ht hne
  rw [digs_val, digs_val] at z
  rw [z]
  by_cases h : x ≤ y
  · rw [decide_eq_true h, decide_eq_true (by omega)]
  · rw [decide_eq_false h, decide_eq_false (by omega)]
theorem digits_same {x y : Nat} (he : (digs x).length = (digs y).length) (ht : Top (digs x) (digs y) 0) : true = decide (x ≤ y) := by
  have z := top_all (digs_dig x) (digs_dig y) he ht
  rw [digs_val, digs_val] at z
  rw [decide_eq_true (by omega)]
set_option maxHeartbeats 4000000 in
set_option maxRecDepth 100000 in
theorem atMost_calls (A1 : Option Addr) (c1 : Nat) (x : Nat) (A2 : Option Addr) (c2 : Nat) (y : Nat) (w : World) (hr1 : RInts .i64 A1 (digs x) w) (hr2 : RInts .i64 A2 (digs y) w) (hb1 : (digs x).length ≤ 1000) (hb2 : (digs y).length ≤ 1000) : Calls Try.prog 91 #[.slice A1 ((digs x).length) c1, .slice A2 ((digs y).length) c2] w fun e w' => e = .returned (.bool (decide (x ≤ y))) ∧ Below w.heap.size w w' := by
 have hlx : IntKind.i64.wrap (((digs x).length : Int) - 1) = ((digs x).length : Int) - 1 := by rw [i64w]; omega
 refine sx_calls Try.func91 rfl (n := 41) (by kernel_rfl) (l := [(0, .slice A1 ((digs x).length) c1), (1, .slice A2 ((digs y).length) c2)]) rfl (by rfl) (Mem.nil w) ?_
 refine st_seq ?_
 refine st_region [oF 0] (by rfl) ?_
 refine oR [oF 0] [(0, .slice A1 ((digs x).length) c1), (1, .slice A2 ((digs y).length) c2)] [0, 1] (by kernel_rfl) ?_
 refine ops_nil ?_
 refine fin_then ?_
 refine st_seq ?_
 refine st_seq ?_
 refine st_region [oF 0, oF 1, oF 2, oF 3, oF 4] (by rfl) ?_
 refine oR [oF 0, oF 1, oF 2, oF 3, oF 4] [(10, .bool (!((((digs x).length : Nat) : Int) == (((digs y).length : Nat) : Int)))), (0, .slice A1 ((digs x).length) c1), (1, .slice A2 ((digs y).length) c2)] [10, 0, 1] (by kernel_rfl) ?_
 refine ops_nil ?_
 refine fin_then ?_
 refine st_if (b := !((((digs x).length : Nat) : Int) == (((digs y).length : Nat) : Int))) rfl (fun hc1 => ?_) (fun hc1 => ?_)
 · --
  refine st_seq ?_
  refine st_region [oF 0, oF 1, oF 2, oF 3, oF 4, oF 5] (by rfl) ?_
  refine oR [oF 0, oF 1, oF 2, oF 3, oF 4, oF 5] [(4, .bool (decide ((((digs x).length : Nat) : Int) < (((digs y).length : Nat) : Int))))] [4] (by kernel_rfl) ?_
  refine ops_nil ?_
  refine fin_then ?_
  refine st_ret ?_
  refine fin_ret_then ?_
  refine fin_ret [.tmp 4] [.bool (decide ((((digs x).length : Nat) : Int) < (((digs y).length : Nat) : Int)))] rfl rfl (fun w_ hM => (.tmp rfl .nil)) (fun w_ hM => ?_)
  refine ⟨?_, hM.done⟩
  exact congrArg (fun z => Ending.returned (.bool z)) (len_differ hc1)
 · --
  refine st_skip ?_
  refine fin_then ?_
  refine st_seq ?_
  refine st_seq ?_
  refine st_region [oF 0, oF 1, oF 2, oF 3] (by rfl) ?_
  refine oR [oF 0, oF 1, oF 2] [(18, vI (IntKind.i64.wrap ((((digs x).length : Nat) : Int) - 1))), (0, .slice A1 ((digs x).length) c1), (1, .slice A2 ((digs y).length) c2)] [18, 0, 1] (by kernel_rfl) ?_
  refine ops_conv (l' := [(18, vI (((digs x).length : Int) - 1)), (0, .slice A1 ((digs x).length) c1), (1, .slice A2 ((digs y).length) c2)]) (by rw [hlx]) (fun _ h => h) ?_
  refine oR [oF 3] [(5, vI (((digs x).length : Int) - 1)), (0, .slice A1 ((digs x).length) c1), (1, .slice A2 ((digs y).length) c2)] [5, 0, 1] (by kernel_rfl) ?_
  refine ops_nil ?_
  refine fin_then ?_
  refine st_block ?_
  have he : (digs x).length = (digs y).length := by have := hc1; simp at this; omega
  refine st_loop (σ := Nat) (digs x).length (fun m => [(5, vI ((m : Int) - 1)), (0, .slice A1 ((digs x).length) c1), (1, .slice A2 ((digs y).length) c2)]) (fun m => Mem w []) (fun m => m ≤ (digs x).length ∧ Top (digs x) (digs y) m) (fun m => m) (by exact ⟨Nat.le_refl _, fun j hj => by have hx := digs_dig x; simp only [List.getD, List.getElem?_eq_none (show (digs x).length ≤ j from hj), List.getElem?_eq_none (show (digs y).length ≤ j from he ▸ hj)]⟩) (look_has ⟨rfl, rfl, rfl, trivial⟩) (fun w_ hM => by exact hM) ?_
  rintro m hI
  obtain ⟨hmn, hmt⟩ := hI
  have hmn : m ≤ (digs x).length := hmn
  have hmt : Top (digs x) (digs y) m := hmt
  refine st_seq ?_
  refine st_seq ?_
  refine st_region [oF 0, oF 1] (by rfl) ?_
  refine oR [oF 0, oF 1] [(20, .bool (decide (0 ≤ ((m : Int) - 1)))), (5, vI ((m : Int) - 1)), (0, .slice A1 ((digs x).length) c1), (1, .slice A2 ((digs y).length) c2)] [20, 5, 0, 1] (by kernel_rfl) ?_
  refine ops_nil ?_
  refine fin_then ?_
  refine st_if (b := decide (0 ≤ ((m : Int) - 1))) rfl (fun hc2 => ?_) (fun hc2 => ?_)
  · --
   have hpos : 0 < m := by have := of_decide_eq_true hc2; omega
   have hm1 : (m : Int) - 1 = ((m - 1 : Nat) : Int) := by omega
   have hm2 : IntKind.i64.wrap (((m - 1 : Nat) : Int) - 1) = ((m - 1 : Nat) : Int) - 1 := by rw [i64w]; omega
   refine st_skip ?_
   refine fin_then ?_
   refine st_seq ?_
   refine st_block ?_
   refine st_seq ?_
   refine st_region_draw [oT 0, oT 1, oT 2, oT 3, oT 4, oT 5, oT 6, oT 7, oT 8] (Mem w []) (by kernel_rfl) (by kernel_rfl) (by kernel_rfl) (fun _ d _ _ _ h => by cases d <;> exact h) (M' := Mem w []) (fun w_ hM => ⟨hM.drew, hM.drew.sub .slnil⟩) ?_
   refine oR [] [(5, vI ((m : Int) - 1)), (0, .slice A1 ((digs x).length) c1), (1, .slice A2 ((digs y).length) c2)] [5, 0, 1] (by kernel_rfl) ?_
   refine ops_conv (l' := [(5, vI ((m - 1 : Nat) : Int)), (0, .slice A1 ((digs x).length) c1), (1, .slice A2 ((digs y).length) c2)]) (by rw [hm1]) (fun _ h => h) ?_
   refine oR [oT 0, oT 1] [(24, vI ((m - 1 : Nat) : Int)), (23, .slice A1 ((digs x).length) c1), (5, vI ((m - 1 : Nat) : Int)), (0, .slice A1 ((digs x).length) c1), (1, .slice A2 ((digs y).length) c2)] [24, 23, 5, 0, 1] (by kernel_rfl) ?_
   obtain ⟨ad3, hA4, hx5⟩ := hr1 (m - 1) (by omega)
   refine ops_val (op := (Go.Op.indexAddr 114 (Go.Operand.tmp 23) (Go.Operand.tmp 24))) (d := some 25) (v := .pointer (some (ad3.add (m - 1)))) ⟨by kernel_rfl⟩ (run_index1 hA4 Try.underlying114 (by kernel_rfl) rfl rfl (m := m - 1) (by first | rfl | omega) (by omega)) ?_
   refine oR [] [(25, .pointer (some (ad3.add (m - 1)))), (5, vI ((m - 1 : Nat) : Int)), (0, .slice A1 ((digs x).length) c1), (1, .slice A2 ((digs y).length) c2)] [25, 5, 0, 1] (by kernel_rfl) ?_
   refine ops_load (d := some 26) (an := [.v (vI ((digs x).getD (m - 1) 0))]) (evs := [.load (ad3.add (m - 1)) (vI ((digs x).getD (m - 1) 0))]) (v := vI ((digs x).getD (m - 1) 0)) ⟨by kernel_rfl⟩ (fun w_ hM => ⟨hM.oldcell hx5, rfl⟩) ?_
   refine oR [oT 4, oT 5] [(28, vI ((m - 1 : Nat) : Int)), (27, .slice A2 ((digs y).length) c2), (26, vI ((digs x).getD (m - 1) 0)), (5, vI ((m - 1 : Nat) : Int)), (0, .slice A1 ((digs x).length) c1), (1, .slice A2 ((digs y).length) c2)] [28, 27, 26, 5, 0, 1] (by kernel_rfl) ?_
   obtain ⟨ad6, hA7, hx8⟩ := hr2 (m - 1) (by omega)
   refine ops_val (op := (Go.Op.indexAddr 114 (Go.Operand.tmp 27) (Go.Operand.tmp 28))) (d := some 29) (v := .pointer (some (ad6.add (m - 1)))) ⟨by kernel_rfl⟩ (run_index1 hA7 Try.underlying114 (by kernel_rfl) rfl rfl (m := m - 1) (by first | rfl | omega) (by omega)) ?_
   refine oR [] [(29, .pointer (some (ad6.add (m - 1)))), (26, vI ((digs x).getD (m - 1) 0)), (5, vI ((m - 1 : Nat) : Int)), (0, .slice A1 ((digs x).length) c1), (1, .slice A2 ((digs y).length) c2)] [29, 26, 5, 0, 1] (by kernel_rfl) ?_
   refine ops_load (d := some 30) (an := [.v (vI ((digs y).getD (m - 1) 0))]) (evs := [.load (ad6.add (m - 1)) (vI ((digs y).getD (m - 1) 0))]) (v := vI ((digs y).getD (m - 1) 0)) ⟨by kernel_rfl⟩ (fun w_ hM => ⟨hM.oldcell hx8, rfl⟩) ?_
   refine oR [oT 8] [(31, .bool (!((digs x).getD (m - 1) 0 == (digs y).getD (m - 1) 0))), (5, vI ((m - 1 : Nat) : Int)), (0, .slice A1 ((digs x).length) c1), (1, .slice A2 ((digs y).length) c2)] [31, 5, 0, 1] (by kernel_rfl) ?_
   refine ops_nil ?_
   refine fin_then ?_
   refine st_if (b := !((digs x).getD (m - 1) 0 == (digs y).getD (m - 1) 0)) rfl (fun hc9 => ?_) (fun hc9 => ?_)
   · --
    refine st_seq ?_
    refine st_region_draw [oT 0, oT 1, oT 2, oT 3, oT 4, oT 5, oT 6, oT 7, oT 8, oT 9] (Mem w []) (by kernel_rfl) (by kernel_rfl) (by kernel_rfl) (fun _ d _ _ _ h => by cases d <;> exact h) (M' := Mem w []) (fun w_ hM => ⟨hM.drew, hM.drew.sub .slnil⟩) ?_
    refine oR [oT 0, oT 1] [(33, vI ((m - 1 : Nat) : Int)), (32, .slice A1 ((digs x).length) c1), (5, vI ((m - 1 : Nat) : Int)), (1, .slice A2 ((digs y).length) c2)] [33, 32, 5, 1] (by kernel_rfl) ?_
    obtain ⟨ad10, hA11, hx12⟩ := hr1 (m - 1) (by omega)
    refine ops_val (op := (Go.Op.indexAddr 114 (Go.Operand.tmp 32) (Go.Operand.tmp 33))) (d := some 34) (v := .pointer (some (ad10.add (m - 1)))) ⟨by kernel_rfl⟩ (run_index1 hA11 Try.underlying114 (by kernel_rfl) rfl rfl (m := m - 1) (by first | rfl | omega) (by omega)) ?_
    refine oR [] [(34, .pointer (some (ad10.add (m - 1)))), (5, vI ((m - 1 : Nat) : Int)), (1, .slice A2 ((digs y).length) c2)] [34, 5, 1] (by kernel_rfl) ?_
    refine ops_load (d := some 35) (an := [.v (vI ((digs x).getD (m - 1) 0))]) (evs := [.load (ad10.add (m - 1)) (vI ((digs x).getD (m - 1) 0))]) (v := vI ((digs x).getD (m - 1) 0)) ⟨by kernel_rfl⟩ (fun w_ hM => ⟨hM.oldcell hx12, rfl⟩) ?_
    refine oR [oT 4, oT 5] [(37, vI ((m - 1 : Nat) : Int)), (36, .slice A2 ((digs y).length) c2), (35, vI ((digs x).getD (m - 1) 0))] [37, 36, 35] (by kernel_rfl) ?_
    obtain ⟨ad13, hA14, hx15⟩ := hr2 (m - 1) (by omega)
    refine ops_val (op := (Go.Op.indexAddr 114 (Go.Operand.tmp 36) (Go.Operand.tmp 37))) (d := some 38) (v := .pointer (some (ad13.add (m - 1)))) ⟨by kernel_rfl⟩ (run_index1 hA14 Try.underlying114 (by kernel_rfl) rfl rfl (m := m - 1) (by first | rfl | omega) (by omega)) ?_
    refine oR [] [(38, .pointer (some (ad13.add (m - 1)))), (35, vI ((digs x).getD (m - 1) 0))] [38, 35] (by kernel_rfl) ?_
    refine ops_load (d := some 39) (an := [.v (vI ((digs y).getD (m - 1) 0))]) (evs := [.load (ad13.add (m - 1)) (vI ((digs y).getD (m - 1) 0))]) (v := vI ((digs y).getD (m - 1) 0)) ⟨by kernel_rfl⟩ (fun w_ hM => ⟨hM.oldcell hx15, rfl⟩) ?_
    refine oR [oT 8, oT 9] [(4, .bool (decide ((digs x).getD (m - 1) 0 < (digs y).getD (m - 1) 0)))] [4] (by kernel_rfl) ?_
    refine ops_nil ?_
    refine fin_then ?_
    refine st_ret ?_
    refine fin_ret_block ?_
    refine fin_ret_then ?_
    refine fin_ret_then ?_
    refine fin_ret_block ?_
    refine fin_ret_then ?_
    refine fin_ret [.tmp 4] [.bool (decide ((digs x).getD (m - 1) 0 < (digs y).getD (m - 1) 0))] rfl rfl (fun w_ hM => (.tmp rfl .nil)) (fun w_ hM => ?_)
    refine ⟨?_, hM.done⟩
    exact congrArg (fun z => Ending.returned (.bool z)) (digit_differ he (by omega) (by rw [show m - 1 + 1 = m by omega]; exact hmt) (by have := hc9; simpa using this))
   · --
    refine st_skip ?_
    refine fin_block ?_
    refine fin_then ?_
    refine st_region [oF 0, oF 1, oF 2] (by rfl) ?_
    refine oR [oF 0, oF 1] [(22, vI (IntKind.i64.wrap (((m - 1 : Nat) : Int) - 1))), (5, vI ((m - 1 : Nat) : Int)), (0, .slice A1 ((digs x).length) c1), (1, .slice A2 ((digs y).length) c2)] [22, 5, 0, 1] (by kernel_rfl) ?_
    refine ops_conv (l' := [(22, vI (((m - 1 : Nat) : Int) - 1)), (5, vI ((m - 1 : Nat) : Int)), (0, .slice A1 ((digs x).length) c1), (1, .slice A2 ((digs y).length) c2)]) (by rw [hm2]) (fun _ h => h) ?_
    refine oR [oF 2] [(5, vI (((m - 1 : Nat) : Int) - 1)), (0, .slice A1 ((digs x).length) c1), (1, .slice A2 ((digs y).length) c2)] [5, 0, 1] (by kernel_rfl) ?_
    refine ops_nil ?_
    refine fin_round (m - 1) (by exact ⟨show m - 1 ≤ (digs x).length by omega, fun j hj => by by_cases e : j = m - 1; (subst e; have := hc9; simpa using this); exact hmt j (by omega)⟩) (by (show m - 1 < m; omega)) (look_has ⟨rfl, rfl, rfl, trivial⟩) (fun w_ hM => by exact hM)
  · --
   have hzero : m = 0 := by have := of_decide_eq_false hc2; omega
   refine st_exit ?_
   refine fin_exit_then ?_
   refine fin_exit_then ?_
   refine fin_exit ?_
   refine fin_then ?_
   refine st_seq ?_
   refine st_region [oF 0] (by rfl) ?_
   refine oR [] [] [] (by kernel_rfl) ?_
   refine oR [oF 0] [(4, .bool true)] [4] (by kernel_rfl) ?_
   refine ops_nil ?_
   refine fin_then ?_
   refine st_ret ?_
   refine fin_ret [.tmp 4] [.bool true] rfl rfl (fun w_ hM => (.tmp rfl .nil)) (fun w_ hM => ?_)
   refine ⟨?_, hM.done⟩
   exact congrArg (fun z => Ending.returned (.bool z)) (digits_same he (hzero ▸ hmt))
set_option maxHeartbeats 4000000 in
set_option maxRecDepth 100000 in
theorem most_Through1 (lim : Int) (p : Int → Bool) (x1 x2 : Value) (w : World) (hl0 : 0 ≤ lim) (hl1 : lim ≤ 9007199254740992) (hF : ∀ (n : Int) (w2 : World), 0 < n → n ≤ lim → Below w.heap.size w w2 → Calls Try.prog 90 #[.int .i64 n, x1, x2] w2 fun e w' => e = .returned (.bool (p n)) ∧ Below w2.heap.size w2 w') : Calls Try.prog 89 #[vI lim, .func (.func 90) #[] #[x1, x2]] w fun e w' => e = .returned (vI (mostv lim p)) ∧ Below w.heap.size w w' := by
 refine sx_calls Try.func89 rfl (n := 27) (by kernel_rfl) (l := [(0, vI lim), (1, .func (.func 90) #[] #[x1, x2])]) rfl (by rfl) (Mem.nil w) ?_
 refine st_seq ?_
 refine st_region [oF 0] (by rfl) ?_
 refine oR [oF 0] [(0, vI lim), (1, .func (.func 90) #[] #[x1, x2])] [0, 1] (by kernel_rfl) ?_
 refine ops_nil ?_
 refine fin_then ?_
 refine st_seq ?_
 refine st_region [oF 0] (by rfl) ?_
 refine oR [oF 0] [(5, vI 0), (0, vI lim), (1, .func (.func 90) #[] #[x1, x2])] [5, 0, 1] (by kernel_rfl) ?_
 refine ops_nil ?_
 refine fin_then ?_
 refine st_seq ?_
 refine st_seq ?_
 refine st_region [oF 0] (by rfl) ?_
 refine oR [oF 0] [(6, vI 4398046511104), (5, vI 0), (0, vI lim), (1, .func (.func 90) #[] #[x1, x2])] [6, 5, 0, 1] (by kernel_rfl) ?_
 refine ops_nil ?_
 refine fin_then ?_
 refine st_block ?_
 refine st_loop (σ := Nat) 0 (fun j => [(6, vI ((4398046511104 / 2 ^ j : Nat) : Int)), (5, vI (mostAt lim p j)), (0, vI lim), (1, .func (.func 90) #[] #[x1, x2])]) (fun j => Mem w []) (fun j => j ≤ 43 ∧ 0 ≤ mostAt lim p j ∧ mostAt lim p j ≤ lim) (fun j => 43 - j) (by exact ⟨Nat.zero_le _, Int.le_refl _, hl0⟩) (look_has ⟨rfl, rfl, rfl, rfl, trivial⟩) (fun w_ hM => by exact hM) ?_
 rintro j hI
 obtain ⟨hj, hm0, hm1⟩ := hI
 have hj : j ≤ 43 := hj
 have hm0 : 0 ≤ mostAt lim p j := hm0
 have hm1 : mostAt lim p j ≤ lim := hm1
 refine st_seq ?_
 refine st_seq ?_
 refine st_region [oF 0, oF 1] (by rfl) ?_
 refine oR [oF 0, oF 1] [(8, .bool (decide (0 < ((4398046511104 / 2 ^ j : Nat) : Int)))), (6, vI ((4398046511104 / 2 ^ j : Nat) : Int)), (5, vI (mostAt lim p j)), (0, vI lim), (1, .func (.func 90) #[] #[x1, x2])] [8, 6, 5, 0, 1] (by kernel_rfl) ?_
 refine ops_nil ?_
 refine fin_then ?_
 refine st_if (b := decide (0 < ((4398046511104 / 2 ^ j : Nat) : Int))) rfl (fun hc1 => ?_) (fun hc1 => ?_)
 · --
  have hspos : 0 < 4398046511104 / 2 ^ j := by have := of_decide_eq_true hc1; omega
  have hs42 : 4398046511104 / 2 ^ j ≤ 4398046511104 := Nat.div_le_self _ _
  have hj43 : j < 43 := Nat.lt_of_not_le fun h => by have := Nat.div_eq_of_lt (Nat.lt_of_lt_of_le (show 4398046511104 < 2 ^ 43 by decide) (Nat.pow_le_pow_right (show 0 < 2 by decide) h)); omega
  have hadd : IntKind.i64.wrap (mostAt lim p j + ((4398046511104 / 2 ^ j : Nat) : Int)) = mostAt lim p j + ((4398046511104 / 2 ^ j : Nat) : Int) := by rw [i64w]; omega
  have hhalf : IntKind.i64.wrap (Int.tdiv ((4398046511104 / 2 ^ j : Nat) : Int) 2) = ((4398046511104 / 2 ^ (j + 1) : Nat) : Int) := by rw [step_half, Int.tdiv_eq_ediv_of_nonneg (by omega), i64w]; omega
  refine st_skip ?_
  refine fin_then ?_
  refine st_seq ?_
  refine st_block ?_
  refine st_seq ?_
  refine st_region [oF 0, oF 1, oF 2, oF 3, oF 4, oF 5, oF 6, oF 7, oF 8, oF 9, oF 10, oF 11] (by rfl) ?_
  refine oR [oF 0, oF 1, oF 2] [(13, vI (IntKind.i64.wrap (mostAt lim p j + ((4398046511104 / 2 ^ j : Nat) : Int)))), (6, vI ((4398046511104 / 2 ^ j : Nat) : Int)), (5, vI (mostAt lim p j)), (0, vI lim), (1, .func (.func 90) #[] #[x1, x2])] [13, 6, 5, 0, 1] (by kernel_rfl) ?_
  refine ops_conv (l' := [(13, vI (mostAt lim p j + ((4398046511104 / 2 ^ j : Nat) : Int))), (6, vI ((4398046511104 / 2 ^ j : Nat) : Int)), (5, vI (mostAt lim p j)), (0, vI lim), (1, .func (.func 90) #[] #[x1, x2])]) (by rw [hadd]) (fun _ h => h) ?_
  refine oR [oF 3, oF 4, oF 5] [(16, .bool (decide ((mostAt lim p j + ((4398046511104 / 2 ^ j : Nat) : Int)) ≤ lim))), (6, vI ((4398046511104 / 2 ^ j : Nat) : Int)), (5, vI (mostAt lim p j)), (0, vI lim), (1, .func (.func 90) #[] #[x1, x2])] [16, 6, 5, 0, 1] (by kernel_rfl) ?_
  refine ops_bool (t := decide ((mostAt lim p j + ((4398046511104 / 2 ^ j : Nat) : Int)) ≤ lim)) (l1 := [(16, .bool true), (6, vI ((4398046511104 / 2 ^ j : Nat) : Int)), (5, vI (mostAt lim p j)), (0, vI lim), (1, .func (.func 90) #[] #[x1, x2])]) (l2 := [(16, .bool false), (6, vI ((4398046511104 / 2 ^ j : Nat) : Int)), (5, vI (mostAt lim p j)), (0, vI lim), (1, .func (.func 90) #[] #[x1, x2])]) (fun h => by rw [h]) (fun h => by rw [h]) (fun hc2 => ?_) (fun hc2 => ?_)
  · --decide ((mostAt lim p j + ((4398046511104 / 2 ^ j : Nat) : I
   refine oR [oF 6, oF 7, oF 8, oF 9] [(20, vI (IntKind.i64.wrap (mostAt lim p j + ((4398046511104 / 2 ^ j : Nat) : Int)))), (17, .func (.func 90) #[] #[x1, x2]), (16, .bool true), (6, vI ((4398046511104 / 2 ^ j : Nat) : Int)), (5, vI (mostAt lim p j)), (0, vI lim), (1, .func (.func 90) #[] #[x1, x2])] [20, 17, 16, 6, 5, 0, 1] (by kernel_rfl) ?_
   refine ops_conv (l' := [(20, vI (mostAt lim p j + ((4398046511104 / 2 ^ j : Nat) : Int))), (17, .func (.func 90) #[] #[x1, x2]), (16, .bool true), (6, vI ((4398046511104 / 2 ^ j : Nat) : Int)), (5, vI (mostAt lim p j)), (0, vI lim), (1, .func (.func 90) #[] #[x1, x2])]) (by rw [hadd]) (fun _ h => h) ?_
   refine oC (some 21) 90 #[vI (mostAt lim p j + ((4398046511104 / 2 ^ j : Nat) : Int)), x1, x2] (.bool (p (mostAt lim p j + ((4398046511104 / 2 ^ j : Nat) : Int)))) ⟨by kernel_rfl⟩ (fun w_ hM => hF (mostAt lim p j + ((4398046511104 / 2 ^ j : Nat) : Int)) w_ (by omega) (of_decide_eq_true hc2) hM.below) ?_
   refine oR [oF 11] [(22, .bool (p (mostAt lim p j + ((4398046511104 / 2 ^ j : Nat) : Int)))), (6, vI ((4398046511104 / 2 ^ j : Nat) : Int)), (5, vI (mostAt lim p j)), (0, vI lim), (1, .func (.func 90) #[] #[x1, x2])] [22, 6, 5, 0, 1] (by kernel_rfl) ?_
   refine ops_nil ?_
   refine fin_then ?_
   refine st_if (b := p (mostAt lim p j + ((4398046511104 / 2 ^ j : Nat) : Int))) rfl (fun hc3 => ?_) (fun hc3 => ?_)
   · --
    refine st_region [oF 0, oF 1, oF 2, oF 3] (by rfl) ?_
    refine oR [oF 0, oF 1, oF 2] [(25, vI (IntKind.i64.wrap (mostAt lim p j + ((4398046511104 / 2 ^ j : Nat) : Int)))), (6, vI ((4398046511104 / 2 ^ j : Nat) : Int)), (5, vI (mostAt lim p j)), (0, vI lim), (1, .func (.func 90) #[] #[x1, x2])] [25, 6, 5, 0, 1] (by kernel_rfl) ?_
    refine ops_conv (l' := [(25, vI (mostAt lim p j + ((4398046511104 / 2 ^ j : Nat) : Int))), (6, vI ((4398046511104 / 2 ^ j : Nat) : Int)), (5, vI (mostAt lim p j)), (0, vI lim), (1, .func (.func 90) #[] #[x1, x2])]) (by rw [hadd]) (fun _ h => h) ?_
    refine oR [oF 3] [(5, vI (mostAt lim p j + ((4398046511104 / 2 ^ j : Nat) : Int))), (6, vI ((4398046511104 / 2 ^ j : Nat) : Int)), (0, vI lim), (1, .func (.func 90) #[] #[x1, x2])] [5, 6, 0, 1] (by kernel_rfl) ?_
    refine ops_nil ?_
    refine fin_block ?_
    refine fin_then ?_
    refine st_region [oF 0, oF 1, oF 2] (by rfl) ?_
    refine oR [oF 0, oF 1] [(10, vI (IntKind.i64.wrap (Int.tdiv ((4398046511104 / 2 ^ j : Nat) : Int) 2))), (5, vI (mostAt lim p j + ((4398046511104 / 2 ^ j : Nat) : Int))), (6, vI ((4398046511104 / 2 ^ j : Nat) : Int)), (0, vI lim), (1, .func (.func 90) #[] #[x1, x2])] [10, 5, 6, 0, 1] (by kernel_rfl) ?_
    refine ops_conv (l' := [(10, vI ((4398046511104 / 2 ^ (j + 1) : Nat) : Int)), (5, vI (mostAt lim p j + ((4398046511104 / 2 ^ j : Nat) : Int))), (6, vI ((4398046511104 / 2 ^ j : Nat) : Int)), (0, vI lim), (1, .func (.func 90) #[] #[x1, x2])]) (by rw [hhalf]) (fun _ h => h) ?_
    refine oR [oF 2] [(6, vI ((4398046511104 / 2 ^ (j + 1) : Nat) : Int)), (5, vI (mostAt lim p j + ((4398046511104 / 2 ^ j : Nat) : Int))), (0, vI lim), (1, .func (.func 90) #[] #[x1, x2])] [6, 5, 0, 1] (by kernel_rfl) ?_
    refine ops_nil ?_
    have hnext := (show mostAt lim p (j + 1) = mostAt lim p j + ((4398046511104 / 2 ^ j : Nat) : Int) from if_pos ⟨of_decide_eq_true hc2, hc3⟩)
    refine fin_conv (l' := [(6, vI ((4398046511104 / 2 ^ (j + 1) : Nat) : Int)), (5, vI (mostAt lim p (j + 1))), (0, vI lim), (1, .func (.func 90) #[] #[x1, x2])]) (M' := Mem w []) (by rw [hnext]) (fun w_ hM => hM) ?_
    refine fin_round (j + 1) (by exact ⟨show j + 1 ≤ 43 by omega, by have := of_decide_eq_true hc2; rw [hnext]; omega⟩) (by (show 43 - (j + 1) < 43 - j; omega)) (look_has ⟨rfl, rfl, rfl, rfl, trivial⟩) (fun w_ hM => by exact hM)
   · --
    refine st_skip ?_
    refine fin_block ?_
    refine fin_then ?_
    refine st_region [oF 0, oF 1, oF 2] (by rfl) ?_
    refine oR [oF 0, oF 1] [(10, vI (IntKind.i64.wrap (Int.tdiv ((4398046511104 / 2 ^ j : Nat) : Int) 2))), (6, vI ((4398046511104 / 2 ^ j : Nat) : Int)), (5, vI (mostAt lim p j)), (0, vI lim), (1, .func (.func 90) #[] #[x1, x2])] [10, 6, 5, 0, 1] (by kernel_rfl) ?_
    refine ops_conv (l' := [(10, vI ((4398046511104 / 2 ^ (j + 1) : Nat) : Int)), (6, vI ((4398046511104 / 2 ^ j : Nat) : Int)), (5, vI (mostAt lim p j)), (0, vI lim), (1, .func (.func 90) #[] #[x1, x2])]) (by rw [hhalf]) (fun _ h => h) ?_
    refine oR [oF 2] [(6, vI ((4398046511104 / 2 ^ (j + 1) : Nat) : Int)), (5, vI (mostAt lim p j)), (0, vI lim), (1, .func (.func 90) #[] #[x1, x2])] [6, 5, 0, 1] (by kernel_rfl) ?_
    refine ops_nil ?_
    have hnext := (show mostAt lim p (j + 1) = mostAt lim p j from if_neg fun h => by rw [hc3] at h; exact absurd h.2 (by decide))
    refine fin_conv (l' := [(6, vI ((4398046511104 / 2 ^ (j + 1) : Nat) : Int)), (5, vI (mostAt lim p (j + 1))), (0, vI lim), (1, .func (.func 90) #[] #[x1, x2])]) (M' := Mem w []) (by rw [hnext]) (fun w_ hM => hM) ?_
    refine fin_round (j + 1) (by exact ⟨show j + 1 ≤ 43 by omega, by have := of_decide_eq_true hc2; rw [hnext]; omega⟩) (by (show 43 - (j + 1) < 43 - j; omega)) (look_has ⟨rfl, rfl, rfl, rfl, trivial⟩) (fun w_ hM => by exact hM)
  · --decide ((mostAt lim p j + ((4398046511104 / 2 ^ j : Nat) : I
   refine oR [oF 6, oF 7, oF 8, oF 9, oF 10, oF 11] [(22, .bool false), (6, vI ((4398046511104 / 2 ^ j : Nat) : Int)), (5, vI (mostAt lim p j)), (0, vI lim), (1, .func (.func 90) #[] #[x1, x2])] [22, 6, 5, 0, 1] (by kernel_rfl) ?_
   refine ops_nil ?_
   refine fin_then ?_
   refine st_false rfl ?_
   refine st_skip ?_
   refine fin_block ?_
   refine fin_then ?_
   refine st_region [oF 0, oF 1, oF 2] (by rfl) ?_
   refine oR [oF 0, oF 1] [(10, vI (IntKind.i64.wrap (Int.tdiv ((4398046511104 / 2 ^ j : Nat) : Int) 2))), (6, vI ((4398046511104 / 2 ^ j : Nat) : Int)), (5, vI (mostAt lim p j)), (0, vI lim), (1, .func (.func 90) #[] #[x1, x2])] [10, 6, 5, 0, 1] (by kernel_rfl) ?_
   refine ops_conv (l' := [(10, vI ((4398046511104 / 2 ^ (j + 1) : Nat) : Int)), (6, vI ((4398046511104 / 2 ^ j : Nat) : Int)), (5, vI (mostAt lim p j)), (0, vI lim), (1, .func (.func 90) #[] #[x1, x2])]) (by rw [hhalf]) (fun _ h => h) ?_
   refine oR [oF 2] [(6, vI ((4398046511104 / 2 ^ (j + 1) : Nat) : Int)), (5, vI (mostAt lim p j)), (0, vI lim), (1, .func (.func 90) #[] #[x1, x2])] [6, 5, 0, 1] (by kernel_rfl) ?_
   refine ops_nil ?_
   have hnext := (show mostAt lim p (j + 1) = mostAt lim p j from if_neg fun h => of_decide_eq_false hc2 h.1)
   refine fin_conv (l' := [(6, vI ((4398046511104 / 2 ^ (j + 1) : Nat) : Int)), (5, vI (mostAt lim p (j + 1))), (0, vI lim), (1, .func (.func 90) #[] #[x1, x2])]) (M' := Mem w []) (by rw [hnext]) (fun w_ hM => hM) ?_
   refine fin_round (j + 1) (by exact ⟨show j + 1 ≤ 43 by omega, by rw [hnext]; omega⟩) (by (show 43 - (j + 1) < 43 - j; omega)) (look_has ⟨rfl, rfl, rfl, rfl, trivial⟩) (fun w_ hM => by exact hM)
 · --
  have hend : j = 43 := by have h0 := of_decide_eq_false hc1; have h1 : ¬ j < 43 := fun h => absurd (Nat.div_pos (show 2 ^ j ≤ 4398046511104 from Nat.le_trans (Nat.pow_le_pow_right (by decide) (show j ≤ 42 by omega)) (by decide)) (Nat.pow_pos (by decide))) (by omega); omega
  refine st_exit ?_
  refine fin_exit_then ?_
  refine fin_exit_then ?_
  refine fin_exit ?_
  refine fin_then ?_
  refine st_seq ?_
  refine st_region [oF 0, oF 1] (by rfl) ?_
  refine oR [oF 0, oF 1] [(4, vI (mostAt lim p j))] [4] (by kernel_rfl) ?_
  refine ops_nil ?_
  refine fin_then ?_
  refine st_ret ?_
  refine fin_ret [.tmp 4] [vI (mostAt lim p j)] rfl rfl (fun w_ hM => (.tmp rfl .nil)) (fun w_ hM => ?_)
  refine ⟨?_, hM.done⟩
  rw [hend]
  rfl
set_option maxHeartbeats 4000000 in
set_option maxRecDepth 100000 in
theorem most_Through2 (lim : Int) (p : Int → Bool) (x1 x2 : Value) (w : World) (hl0 : 0 ≤ lim) (hl1 : lim ≤ 9007199254740992) (hF : ∀ (n : Int) (w2 : World), 0 < n → n ≤ lim → Below w.heap.size w w2 → Calls Try.prog 92 #[.int .i64 n, x1, x2] w2 fun e w' => e = .returned (.bool (p n)) ∧ Below w2.heap.size w2 w') : Calls Try.prog 89 #[vI lim, .func (.func 92) #[] #[x1, x2]] w fun e w' => e = .returned (vI (mostv lim p)) ∧ Below w.heap.size w w' := by
 refine sx_calls Try.func89 rfl (n := 27) (by kernel_rfl) (l := [(0, vI lim), (1, .func (.func 92) #[] #[x1, x2])]) rfl (by rfl) (Mem.nil w) ?_
 refine st_seq ?_
 refine st_region [oF 0] (by rfl) ?_
 refine oR [oF 0] [(0, vI lim), (1, .func (.func 92) #[] #[x1, x2])] [0, 1] (by kernel_rfl) ?_
 refine ops_nil ?_
 refine fin_then ?_
 refine st_seq ?_
 refine st_region [oF 0] (by rfl) ?_
 refine oR [oF 0] [(5, vI 0), (0, vI lim), (1, .func (.func 92) #[] #[x1, x2])] [5, 0, 1] (by kernel_rfl) ?_
 refine ops_nil ?_
 refine fin_then ?_
 refine st_seq ?_
 refine st_seq ?_
 refine st_region [oF 0] (by rfl) ?_
 refine oR [oF 0] [(6, vI 4398046511104), (5, vI 0), (0, vI lim), (1, .func (.func 92) #[] #[x1, x2])] [6, 5, 0, 1] (by kernel_rfl) ?_
 refine ops_nil ?_
 refine fin_then ?_
 refine st_block ?_
 refine st_loop (σ := Nat) 0 (fun j => [(6, vI ((4398046511104 / 2 ^ j : Nat) : Int)), (5, vI (mostAt lim p j)), (0, vI lim), (1, .func (.func 92) #[] #[x1, x2])]) (fun j => Mem w []) (fun j => j ≤ 43 ∧ 0 ≤ mostAt lim p j ∧ mostAt lim p j ≤ lim) (fun j => 43 - j) (by exact ⟨Nat.zero_le _, Int.le_refl _, hl0⟩) (look_has ⟨rfl, rfl, rfl, rfl, trivial⟩) (fun w_ hM => by exact hM) ?_
 rintro j hI
 obtain ⟨hj, hm0, hm1⟩ := hI
 have hj : j ≤ 43 := hj
 have hm0 : 0 ≤ mostAt lim p j := hm0
 have hm1 : mostAt lim p j ≤ lim := hm1
 refine st_seq ?_
 refine st_seq ?_
 refine st_region [oF 0, oF 1] (by rfl) ?_
 refine oR [oF 0, oF 1] [(8, .bool (decide (0 < ((4398046511104 / 2 ^ j : Nat) : Int)))), (6, vI ((4398046511104 / 2 ^ j : Nat) : Int)), (5, vI (mostAt lim p j)), (0, vI lim), (1, .func (.func 92) #[] #[x1, x2])] [8, 6, 5, 0, 1] (by kernel_rfl) ?_
 refine ops_nil ?_
 refine fin_then ?_
 refine st_if (b := decide (0 < ((4398046511104 / 2 ^ j : Nat) : Int))) rfl (fun hc1 => ?_) (fun hc1 => ?_)
 · --
  have hspos : 0 < 4398046511104 / 2 ^ j := by have := of_decide_eq_true hc1; omega
  have hs42 : 4398046511104 / 2 ^ j ≤ 4398046511104 := Nat.div_le_self _ _
  have hj43 : j < 43 := Nat.lt_of_not_le fun h => by have := Nat.div_eq_of_lt (Nat.lt_of_lt_of_le (show 4398046511104 < 2 ^ 43 by decide) (Nat.pow_le_pow_right (show 0 < 2 by decide) h)); omega
  have hadd : IntKind.i64.wrap (mostAt lim p j + ((4398046511104 / 2 ^ j : Nat) : Int)) = mostAt lim p j + ((4398046511104 / 2 ^ j : Nat) : Int) := by rw [i64w]; omega
  have hhalf : IntKind.i64.wrap (Int.tdiv ((4398046511104 / 2 ^ j : Nat) : Int) 2) = ((4398046511104 / 2 ^ (j + 1) : Nat) : Int) := by rw [step_half, Int.tdiv_eq_ediv_of_nonneg (by omega), i64w]; omega
  refine st_skip ?_
  refine fin_then ?_
  refine st_seq ?_
  refine st_block ?_
  refine st_seq ?_
  refine st_region [oF 0, oF 1, oF 2, oF 3, oF 4, oF 5, oF 6, oF 7, oF 8, oF 9, oF 10, oF 11] (by rfl) ?_
  refine oR [oF 0, oF 1, oF 2] [(13, vI (IntKind.i64.wrap (mostAt lim p j + ((4398046511104 / 2 ^ j : Nat) : Int)))), (6, vI ((4398046511104 / 2 ^ j : Nat) : Int)), (5, vI (mostAt lim p j)), (0, vI lim), (1, .func (.func 92) #[] #[x1, x2])] [13, 6, 5, 0, 1] (by kernel_rfl) ?_
  refine ops_conv (l' := [(13, vI (mostAt lim p j + ((4398046511104 / 2 ^ j : Nat) : Int))), (6, vI ((4398046511104 / 2 ^ j : Nat) : Int)), (5, vI (mostAt lim p j)), (0, vI lim), (1, .func (.func 92) #[] #[x1, x2])]) (by rw [hadd]) (fun _ h => h) ?_
  refine oR [oF 3, oF 4, oF 5] [(16, .bool (decide ((mostAt lim p j + ((4398046511104 / 2 ^ j : Nat) : Int)) ≤ lim))), (6, vI ((4398046511104 / 2 ^ j : Nat) : Int)), (5, vI (mostAt lim p j)), (0, vI lim), (1, .func (.func 92) #[] #[x1, x2])] [16, 6, 5, 0, 1] (by kernel_rfl) ?_
  refine ops_bool (t := decide ((mostAt lim p j + ((4398046511104 / 2 ^ j : Nat) : Int)) ≤ lim)) (l1 := [(16, .bool true), (6, vI ((4398046511104 / 2 ^ j : Nat) : Int)), (5, vI (mostAt lim p j)), (0, vI lim), (1, .func (.func 92) #[] #[x1, x2])]) (l2 := [(16, .bool false), (6, vI ((4398046511104 / 2 ^ j : Nat) : Int)), (5, vI (mostAt lim p j)), (0, vI lim), (1, .func (.func 92) #[] #[x1, x2])]) (fun h => by rw [h]) (fun h => by rw [h]) (fun hc2 => ?_) (fun hc2 => ?_)
  · --decide ((mostAt lim p j + ((4398046511104 / 2 ^ j : Nat) : I
   refine oR [oF 6, oF 7, oF 8, oF 9] [(20, vI (IntKind.i64.wrap (mostAt lim p j + ((4398046511104 / 2 ^ j : Nat) : Int)))), (17, .func (.func 92) #[] #[x1, x2]), (16, .bool true), (6, vI ((4398046511104 / 2 ^ j : Nat) : Int)), (5, vI (mostAt lim p j)), (0, vI lim), (1, .func (.func 92) #[] #[x1, x2])] [20, 17, 16, 6, 5, 0, 1] (by kernel_rfl) ?_
   refine ops_conv (l' := [(20, vI (mostAt lim p j + ((4398046511104 / 2 ^ j : Nat) : Int))), (17, .func (.func 92) #[] #[x1, x2]), (16, .bool true), (6, vI ((4398046511104 / 2 ^ j : Nat) : Int)), (5, vI (mostAt lim p j)), (0, vI lim), (1, .func (.func 92) #[] #[x1, x2])]) (by rw [hadd]) (fun _ h => h) ?_
   refine oC (some 21) 92 #[vI (mostAt lim p j + ((4398046511104 / 2 ^ j : Nat) : Int)), x1, x2] (.bool (p (mostAt lim p j + ((4398046511104 / 2 ^ j : Nat) : Int)))) ⟨by kernel_rfl⟩ (fun w_ hM => hF (mostAt lim p j + ((4398046511104 / 2 ^ j : Nat) : Int)) w_ (by omega) (of_decide_eq_true hc2) hM.below) ?_
   refine oR [oF 11] [(22, .bool (p (mostAt lim p j + ((4398046511104 / 2 ^ j : Nat) : Int)))), (6, vI ((4398046511104 / 2 ^ j : Nat) : Int)), (5, vI (mostAt lim p j)), (0, vI lim), (1, .func (.func 92) #[] #[x1, x2])] [22, 6, 5, 0, 1] (by kernel_rfl) ?_
   refine ops_nil ?_
   refine fin_then ?_
   refine st_if (b := p (mostAt lim p j + ((4398046511104 / 2 ^ j : Nat) : Int))) rfl (fun hc3 => ?_) (fun hc3 => ?_)
   · --
    refine st_region [oF 0, oF 1, oF 2, oF 3] (by rfl) ?_
    refine oR [oF 0, oF 1, oF 2] [(25, vI (IntKind.i64.wrap (mostAt lim p j + ((4398046511104 / 2 ^ j : Nat) : Int)))), (6, vI ((4398046511104 / 2 ^ j : Nat) : Int)), (5, vI (mostAt lim p j)), (0, vI lim), (1, .func (.func 92) #[] #[x1, x2])] [25, 6, 5, 0, 1] (by kernel_rfl) ?_
    refine ops_conv (l' := [(25, vI (mostAt lim p j + ((4398046511104 / 2 ^ j : Nat) : Int))), (6, vI ((4398046511104 / 2 ^ j : Nat) : Int)), (5, vI (mostAt lim p j)), (0, vI lim), (1, .func (.func 92) #[] #[x1, x2])]) (by rw [hadd]) (fun _ h => h) ?_
    refine oR [oF 3] [(5, vI (mostAt lim p j + ((4398046511104 / 2 ^ j : Nat) : Int))), (6, vI ((4398046511104 / 2 ^ j : Nat) : Int)), (0, vI lim), (1, .func (.func 92) #[] #[x1, x2])] [5, 6, 0, 1] (by kernel_rfl) ?_
    refine ops_nil ?_
    refine fin_block ?_
    refine fin_then ?_
    refine st_region [oF 0, oF 1, oF 2] (by rfl) ?_
    refine oR [oF 0, oF 1] [(10, vI (IntKind.i64.wrap (Int.tdiv ((4398046511104 / 2 ^ j : Nat) : Int) 2))), (5, vI (mostAt lim p j + ((4398046511104 / 2 ^ j : Nat) : Int))), (6, vI ((4398046511104 / 2 ^ j : Nat) : Int)), (0, vI lim), (1, .func (.func 92) #[] #[x1, x2])] [10, 5, 6, 0, 1] (by kernel_rfl) ?_
    refine ops_conv (l' := [(10, vI ((4398046511104 / 2 ^ (j + 1) : Nat) : Int)), (5, vI (mostAt lim p j + ((4398046511104 / 2 ^ j : Nat) : Int))), (6, vI ((4398046511104 / 2 ^ j : Nat) : Int)), (0, vI lim), (1, .func (.func 92) #[] #[x1, x2])]) (by rw [hhalf]) (fun _ h => h) ?_
    refine oR [oF 2] [(6, vI ((4398046511104 / 2 ^ (j + 1) : Nat) : Int)), (5, vI (mostAt lim p j + ((4398046511104 / 2 ^ j : Nat) : Int))), (0, vI lim), (1, .func (.func 92) #[] #[x1, x2])] [6, 5, 0, 1] (by kernel_rfl) ?_
    refine ops_nil ?_
    have hnext := (show mostAt lim p (j + 1) = mostAt lim p j + ((4398046511104 / 2 ^ j : Nat) : Int) from if_pos ⟨of_decide_eq_true hc2, hc3⟩)
    refine fin_conv (l' := [(6, vI ((4398046511104 / 2 ^ (j + 1) : Nat) : Int)), (5, vI (mostAt lim p (j + 1))), (0, vI lim), (1, .func (.func 92) #[] #[x1, x2])]) (M' := Mem w []) (by rw [hnext]) (fun w_ hM => hM) ?_
    refine fin_round (j + 1) (by exact ⟨show j + 1 ≤ 43 by omega, by have := of_decide_eq_true hc2; rw [hnext]; omega⟩) (by (show 43 - (j + 1) < 43 - j; omega)) (look_has ⟨rfl, rfl, rfl, rfl, trivial⟩) (fun w_ hM => by exact hM)
   · --
    refine st_skip ?_
    refine fin_block ?_
    refine fin_then ?_
    refine st_region [oF 0, oF 1, oF 2] (by rfl) ?_
    refine oR [oF 0, oF 1] [(10, vI (IntKind.i64.wrap (Int.tdiv ((4398046511104 / 2 ^ j : Nat) : Int) 2))), (6, vI ((4398046511104 / 2 ^ j : Nat) : Int)), (5, vI (mostAt lim p j)), (0, vI lim), (1, .func (.func 92) #[] #[x1, x2])] [10, 6, 5, 0, 1] (by kernel_rfl) ?_
    refine ops_conv (l' := [(10, vI ((4398046511104 / 2 ^ (j + 1) : Nat) : Int)), (6, vI ((4398046511104 / 2 ^ j : Nat) : Int)), (5, vI (mostAt lim p j)), (0, vI lim), (1, .func (.func 92) #[] #[x1, x2])]) (by rw [hhalf]) (fun _ h => h) ?_
    refine oR [oF 2] [(6, vI ((4398046511104 / 2 ^ (j + 1) : Nat) : Int)), (5, vI (mostAt lim p j)), (0, vI lim), (1, .func (.func 92) #[] #[x1, x2])] [6, 5, 0, 1] (by kernel_rfl) ?_
    refine ops_nil ?_
    have hnext := (show mostAt lim p (j + 1) = mostAt lim p j from if_neg fun h => by rw [hc3] at h; exact absurd h.2 (by decide))
    refine fin_conv (l' := [(6, vI ((4398046511104 / 2 ^ (j + 1) : Nat) : Int)), (5, vI (mostAt lim p (j + 1))), (0, vI lim), (1, .func (.func 92) #[] #[x1, x2])]) (M' := Mem w []) (by rw [hnext]) (fun w_ hM => hM) ?_
    refine fin_round (j + 1) (by exact ⟨show j + 1 ≤ 43 by omega, by have := of_decide_eq_true hc2; rw [hnext]; omega⟩) (by (show 43 - (j + 1) < 43 - j; omega)) (look_has ⟨rfl, rfl, rfl, rfl, trivial⟩) (fun w_ hM => by exact hM)
  · --decide ((mostAt lim p j + ((4398046511104 / 2 ^ j : Nat) : I
   refine oR [oF 6, oF 7, oF 8, oF 9, oF 10, oF 11] [(22, .bool false), (6, vI ((4398046511104 / 2 ^ j : Nat) : Int)), (5, vI (mostAt lim p j)), (0, vI lim), (1, .func (.func 92) #[] #[x1, x2])] [22, 6, 5, 0, 1] (by kernel_rfl) ?_
   refine ops_nil ?_
   refine fin_then ?_
   refine st_false rfl ?_
   refine st_skip ?_
   refine fin_block ?_
   refine fin_then ?_
   refine st_region [oF 0, oF 1, oF 2] (by rfl) ?_
   refine oR [oF 0, oF 1] [(10, vI (IntKind.i64.wrap (Int.tdiv ((4398046511104 / 2 ^ j : Nat) : Int) 2))), (6, vI ((4398046511104 / 2 ^ j : Nat) : Int)), (5, vI (mostAt lim p j)), (0, vI lim), (1, .func (.func 92) #[] #[x1, x2])] [10, 6, 5, 0, 1] (by kernel_rfl) ?_
   refine ops_conv (l' := [(10, vI ((4398046511104 / 2 ^ (j + 1) : Nat) : Int)), (6, vI ((4398046511104 / 2 ^ j : Nat) : Int)), (5, vI (mostAt lim p j)), (0, vI lim), (1, .func (.func 92) #[] #[x1, x2])]) (by rw [hhalf]) (fun _ h => h) ?_
   refine oR [oF 2] [(6, vI ((4398046511104 / 2 ^ (j + 1) : Nat) : Int)), (5, vI (mostAt lim p j)), (0, vI lim), (1, .func (.func 92) #[] #[x1, x2])] [6, 5, 0, 1] (by kernel_rfl) ?_
   refine ops_nil ?_
   have hnext := (show mostAt lim p (j + 1) = mostAt lim p j from if_neg fun h => of_decide_eq_false hc2 h.1)
   refine fin_conv (l' := [(6, vI ((4398046511104 / 2 ^ (j + 1) : Nat) : Int)), (5, vI (mostAt lim p (j + 1))), (0, vI lim), (1, .func (.func 92) #[] #[x1, x2])]) (M' := Mem w []) (by rw [hnext]) (fun w_ hM => hM) ?_
   refine fin_round (j + 1) (by exact ⟨show j + 1 ≤ 43 by omega, by rw [hnext]; omega⟩) (by (show 43 - (j + 1) < 43 - j; omega)) (look_has ⟨rfl, rfl, rfl, rfl, trivial⟩) (fun w_ hM => by exact hM)
 · --
  have hend : j = 43 := by have h0 := of_decide_eq_false hc1; have h1 : ¬ j < 43 := fun h => absurd (Nat.div_pos (show 2 ^ j ≤ 4398046511104 from Nat.le_trans (Nat.pow_le_pow_right (by decide) (show j ≤ 42 by omega)) (by decide)) (Nat.pow_pos (by decide))) (by omega); omega
  refine st_exit ?_
  refine fin_exit_then ?_
  refine fin_exit_then ?_
  refine fin_exit ?_
  refine fin_then ?_
  refine st_seq ?_
  refine st_region [oF 0, oF 1] (by rfl) ?_
  refine oR [oF 0, oF 1] [(4, vI (mostAt lim p j))] [4] (by kernel_rfl) ?_
  refine ops_nil ?_
  refine fin_then ?_
  refine st_ret ?_
  refine fin_ret [.tmp 4] [vI (mostAt lim p j)] rfl rfl (fun w_ hM => (.tmp rfl .nil)) (fun w_ hM => ?_)
  refine ⟨?_, hM.done⟩
  rw [hend]
  rfl
set_option maxHeartbeats 4000000 in
set_option maxRecDepth 100000 in
theorem most_Long1 (lim : Int) (p : Int → Bool) (x1 : Value) (w : World) (hl0 : 0 ≤ lim) (hl1 : lim ≤ 9007199254740992) (hF : ∀ (n : Int) (w2 : World), 0 < n → n ≤ lim → Below w.heap.size w w2 → Calls Try.prog 141 #[.int .i64 n, x1] w2 fun e w' => e = .returned (.bool (p n)) ∧ Below w2.heap.size w2 w') : Calls Try.prog 89 #[vI lim, .func (.func 141) #[] #[x1]] w fun e w' => e = .returned (vI (mostv lim p)) ∧ Below w.heap.size w w' := by
 refine sx_calls Try.func89 rfl (n := 27) (by kernel_rfl) (l := [(0, vI lim), (1, .func (.func 141) #[] #[x1])]) rfl (by rfl) (Mem.nil w) ?_
 refine st_seq ?_
 refine st_region [oF 0] (by rfl) ?_
 refine oR [oF 0] [(0, vI lim), (1, .func (.func 141) #[] #[x1])] [0, 1] (by kernel_rfl) ?_
 refine ops_nil ?_
 refine fin_then ?_
 refine st_seq ?_
 refine st_region [oF 0] (by rfl) ?_
 refine oR [oF 0] [(5, vI 0), (0, vI lim), (1, .func (.func 141) #[] #[x1])] [5, 0, 1] (by kernel_rfl) ?_
 refine ops_nil ?_
 refine fin_then ?_
 refine st_seq ?_
 refine st_seq ?_
 refine st_region [oF 0] (by rfl) ?_
 refine oR [oF 0] [(6, vI 4398046511104), (5, vI 0), (0, vI lim), (1, .func (.func 141) #[] #[x1])] [6, 5, 0, 1] (by kernel_rfl) ?_
 refine ops_nil ?_
 refine fin_then ?_
 refine st_block ?_
 refine st_loop (σ := Nat) 0 (fun j => [(6, vI ((4398046511104 / 2 ^ j : Nat) : Int)), (5, vI (mostAt lim p j)), (0, vI lim), (1, .func (.func 141) #[] #[x1])]) (fun j => Mem w []) (fun j => j ≤ 43 ∧ 0 ≤ mostAt lim p j ∧ mostAt lim p j ≤ lim) (fun j => 43 - j) (by exact ⟨Nat.zero_le _, Int.le_refl _, hl0⟩) (look_has ⟨rfl, rfl, rfl, rfl, trivial⟩) (fun w_ hM => by exact hM) ?_
 rintro j hI
 obtain ⟨hj, hm0, hm1⟩ := hI
 have hj : j ≤ 43 := hj
 have hm0 : 0 ≤ mostAt lim p j := hm0
 have hm1 : mostAt lim p j ≤ lim := hm1
 refine st_seq ?_
 refine st_seq ?_
 refine st_region [oF 0, oF 1] (by rfl) ?_
 refine oR [oF 0, oF 1] [(8, .bool (decide (0 < ((4398046511104 / 2 ^ j : Nat) : Int)))), (6, vI ((4398046511104 / 2 ^ j : Nat) : Int)), (5, vI (mostAt lim p j)), (0, vI lim), (1, .func (.func 141) #[] #[x1])] [8, 6, 5, 0, 1] (by kernel_rfl) ?_
 refine ops_nil ?_
 refine fin_then ?_
 refine st_if (b := decide (0 < ((4398046511104 / 2 ^ j : Nat) : Int))) rfl (fun hc1 => ?_) (fun hc1 => ?_)
 · --
  have hspos : 0 < 4398046511104 / 2 ^ j := by have := of_decide_eq_true hc1; omega
  have hs42 : 4398046511104 / 2 ^ j ≤ 4398046511104 := Nat.div_le_self _ _
  have hj43 : j < 43 := Nat.lt_of_not_le fun h => by have := Nat.div_eq_of_lt (Nat.lt_of_lt_of_le (show 4398046511104 < 2 ^ 43 by decide) (Nat.pow_le_pow_right (show 0 < 2 by decide) h)); omega
  have hadd : IntKind.i64.wrap (mostAt lim p j + ((4398046511104 / 2 ^ j : Nat) : Int)) = mostAt lim p j + ((4398046511104 / 2 ^ j : Nat) : Int) := by rw [i64w]; omega
  have hhalf : IntKind.i64.wrap (Int.tdiv ((4398046511104 / 2 ^ j : Nat) : Int) 2) = ((4398046511104 / 2 ^ (j + 1) : Nat) : Int) := by rw [step_half, Int.tdiv_eq_ediv_of_nonneg (by omega), i64w]; omega
  refine st_skip ?_
  refine fin_then ?_
  refine st_seq ?_
  refine st_block ?_
  refine st_seq ?_
  refine st_region [oF 0, oF 1, oF 2, oF 3, oF 4, oF 5, oF 6, oF 7, oF 8, oF 9, oF 10, oF 11] (by rfl) ?_
  refine oR [oF 0, oF 1, oF 2] [(13, vI (IntKind.i64.wrap (mostAt lim p j + ((4398046511104 / 2 ^ j : Nat) : Int)))), (6, vI ((4398046511104 / 2 ^ j : Nat) : Int)), (5, vI (mostAt lim p j)), (0, vI lim), (1, .func (.func 141) #[] #[x1])] [13, 6, 5, 0, 1] (by kernel_rfl) ?_
  refine ops_conv (l' := [(13, vI (mostAt lim p j + ((4398046511104 / 2 ^ j : Nat) : Int))), (6, vI ((4398046511104 / 2 ^ j : Nat) : Int)), (5, vI (mostAt lim p j)), (0, vI lim), (1, .func (.func 141) #[] #[x1])]) (by rw [hadd]) (fun _ h => h) ?_
  refine oR [oF 3, oF 4, oF 5] [(16, .bool (decide ((mostAt lim p j + ((4398046511104 / 2 ^ j : Nat) : Int)) ≤ lim))), (6, vI ((4398046511104 / 2 ^ j : Nat) : Int)), (5, vI (mostAt lim p j)), (0, vI lim), (1, .func (.func 141) #[] #[x1])] [16, 6, 5, 0, 1] (by kernel_rfl) ?_
  refine ops_bool (t := decide ((mostAt lim p j + ((4398046511104 / 2 ^ j : Nat) : Int)) ≤ lim)) (l1 := [(16, .bool true), (6, vI ((4398046511104 / 2 ^ j : Nat) : Int)), (5, vI (mostAt lim p j)), (0, vI lim), (1, .func (.func 141) #[] #[x1])]) (l2 := [(16, .bool false), (6, vI ((4398046511104 / 2 ^ j : Nat) : Int)), (5, vI (mostAt lim p j)), (0, vI lim), (1, .func (.func 141) #[] #[x1])]) (fun h => by rw [h]) (fun h => by rw [h]) (fun hc2 => ?_) (fun hc2 => ?_)
  · --decide ((mostAt lim p j + ((4398046511104 / 2 ^ j : Nat) : I
   refine oR [oF 6, oF 7, oF 8, oF 9] [(20, vI (IntKind.i64.wrap (mostAt lim p j + ((4398046511104 / 2 ^ j : Nat) : Int)))), (17, .func (.func 141) #[] #[x1]), (16, .bool true), (6, vI ((4398046511104 / 2 ^ j : Nat) : Int)), (5, vI (mostAt lim p j)), (0, vI lim), (1, .func (.func 141) #[] #[x1])] [20, 17, 16, 6, 5, 0, 1] (by kernel_rfl) ?_
   refine ops_conv (l' := [(20, vI (mostAt lim p j + ((4398046511104 / 2 ^ j : Nat) : Int))), (17, .func (.func 141) #[] #[x1]), (16, .bool true), (6, vI ((4398046511104 / 2 ^ j : Nat) : Int)), (5, vI (mostAt lim p j)), (0, vI lim), (1, .func (.func 141) #[] #[x1])]) (by rw [hadd]) (fun _ h => h) ?_
   refine oC (some 21) 141 #[vI (mostAt lim p j + ((4398046511104 / 2 ^ j : Nat) : Int)), x1] (.bool (p (mostAt lim p j + ((4398046511104 / 2 ^ j : Nat) : Int)))) ⟨by kernel_rfl⟩ (fun w_ hM => hF (mostAt lim p j + ((4398046511104 / 2 ^ j : Nat) : Int)) w_ (by omega) (of_decide_eq_true hc2) hM.below) ?_
   refine oR [oF 11] [(22, .bool (p (mostAt lim p j + ((4398046511104 / 2 ^ j : Nat) : Int)))), (6, vI ((4398046511104 / 2 ^ j : Nat) : Int)), (5, vI (mostAt lim p j)), (0, vI lim), (1, .func (.func 141) #[] #[x1])] [22, 6, 5, 0, 1] (by kernel_rfl) ?_
   refine ops_nil ?_
   refine fin_then ?_
   refine st_if (b := p (mostAt lim p j + ((4398046511104 / 2 ^ j : Nat) : Int))) rfl (fun hc3 => ?_) (fun hc3 => ?_)
   · --
    refine st_region [oF 0, oF 1, oF 2, oF 3] (by rfl) ?_
    refine oR [oF 0, oF 1, oF 2] [(25, vI (IntKind.i64.wrap (mostAt lim p j + ((4398046511104 / 2 ^ j : Nat) : Int)))), (6, vI ((4398046511104 / 2 ^ j : Nat) : Int)), (5, vI (mostAt lim p j)), (0, vI lim), (1, .func (.func 141) #[] #[x1])] [25, 6, 5, 0, 1] (by kernel_rfl) ?_
    refine ops_conv (l' := [(25, vI (mostAt lim p j + ((4398046511104 / 2 ^ j : Nat) : Int))), (6, vI ((4398046511104 / 2 ^ j : Nat) : Int)), (5, vI (mostAt lim p j)), (0, vI lim), (1, .func (.func 141) #[] #[x1])]) (by rw [hadd]) (fun _ h => h) ?_
    refine oR [oF 3] [(5, vI (mostAt lim p j + ((4398046511104 / 2 ^ j : Nat) : Int))), (6, vI ((4398046511104 / 2 ^ j : Nat) : Int)), (0, vI lim), (1, .func (.func 141) #[] #[x1])] [5, 6, 0, 1] (by kernel_rfl) ?_
    refine ops_nil ?_
    refine fin_block ?_
    refine fin_then ?_
    refine st_region [oF 0, oF 1, oF 2] (by rfl) ?_
    refine oR [oF 0, oF 1] [(10, vI (IntKind.i64.wrap (Int.tdiv ((4398046511104 / 2 ^ j : Nat) : Int) 2))), (5, vI (mostAt lim p j + ((4398046511104 / 2 ^ j : Nat) : Int))), (6, vI ((4398046511104 / 2 ^ j : Nat) : Int)), (0, vI lim), (1, .func (.func 141) #[] #[x1])] [10, 5, 6, 0, 1] (by kernel_rfl) ?_
    refine ops_conv (l' := [(10, vI ((4398046511104 / 2 ^ (j + 1) : Nat) : Int)), (5, vI (mostAt lim p j + ((4398046511104 / 2 ^ j : Nat) : Int))), (6, vI ((4398046511104 / 2 ^ j : Nat) : Int)), (0, vI lim), (1, .func (.func 141) #[] #[x1])]) (by rw [hhalf]) (fun _ h => h) ?_
    refine oR [oF 2] [(6, vI ((4398046511104 / 2 ^ (j + 1) : Nat) : Int)), (5, vI (mostAt lim p j + ((4398046511104 / 2 ^ j : Nat) : Int))), (0, vI lim), (1, .func (.func 141) #[] #[x1])] [6, 5, 0, 1] (by kernel_rfl) ?_
    refine ops_nil ?_
    have hnext := (show mostAt lim p (j + 1) = mostAt lim p j + ((4398046511104 / 2 ^ j : Nat) : Int) from if_pos ⟨of_decide_eq_true hc2, hc3⟩)
    refine fin_conv (l' := [(6, vI ((4398046511104 / 2 ^ (j + 1) : Nat) : Int)), (5, vI (mostAt lim p (j + 1))), (0, vI lim), (1, .func (.func 141) #[] #[x1])]) (M' := Mem w []) (by rw [hnext]) (fun w_ hM => hM) ?_
    refine fin_round (j + 1) (by exact ⟨show j + 1 ≤ 43 by omega, by have := of_decide_eq_true hc2; rw [hnext]; omega⟩) (by (show 43 - (j + 1) < 43 - j; omega)) (look_has ⟨rfl, rfl, rfl, rfl, trivial⟩) (fun w_ hM => by exact hM)
   · --
    refine st_skip ?_
    refine fin_block ?_
    refine fin_then ?_
    refine st_region [oF 0, oF 1, oF 2] (by rfl) ?_
    refine oR [oF 0, oF 1] [(10, vI (IntKind.i64.wrap (Int.tdiv ((4398046511104 / 2 ^ j : Nat) : Int) 2))), (6, vI ((4398046511104 / 2 ^ j : Nat) : Int)), (5, vI (mostAt lim p j)), (0, vI lim), (1, .func (.func 141) #[] #[x1])] [10, 6, 5, 0, 1] (by kernel_rfl) ?_
    refine ops_conv (l' := [(10, vI ((4398046511104 / 2 ^ (j + 1) : Nat) : Int)), (6, vI ((4398046511104 / 2 ^ j : Nat) : Int)), (5, vI (mostAt lim p j)), (0, vI lim), (1, .func (.func 141) #[] #[x1])]) (by rw [hhalf]) (fun _ h => h) ?_
    refine oR [oF 2] [(6, vI ((4398046511104 / 2 ^ (j + 1) : Nat) : Int)), (5, vI (mostAt lim p j)), (0, vI lim), (1, .func (.func 141) #[] #[x1])] [6, 5, 0, 1] (by kernel_rfl) ?_
    refine ops_nil ?_
    have hnext := (show mostAt lim p (j + 1) = mostAt lim p j from if_neg fun h => by rw [hc3] at h; exact absurd h.2 (by decide))
    refine fin_conv (l' := [(6, vI ((4398046511104 / 2 ^ (j + 1) : Nat) : Int)), (5, vI (mostAt lim p (j + 1))), (0, vI lim), (1, .func (.func 141) #[] #[x1])]) (M' := Mem w []) (by rw [hnext]) (fun w_ hM => hM) ?_
    refine fin_round (j + 1) (by exact ⟨show j + 1 ≤ 43 by omega, by have := of_decide_eq_true hc2; rw [hnext]; omega⟩) (by (show 43 - (j + 1) < 43 - j; omega)) (look_has ⟨rfl, rfl, rfl, rfl, trivial⟩) (fun w_ hM => by exact hM)
  · --decide ((mostAt lim p j + ((4398046511104 / 2 ^ j : Nat) : I
   refine oR [oF 6, oF 7, oF 8, oF 9, oF 10, oF 11] [(22, .bool false), (6, vI ((4398046511104 / 2 ^ j : Nat) : Int)), (5, vI (mostAt lim p j)), (0, vI lim), (1, .func (.func 141) #[] #[x1])] [22, 6, 5, 0, 1] (by kernel_rfl) ?_
   refine ops_nil ?_
   refine fin_then ?_
   refine st_false rfl ?_
   refine st_skip ?_
   refine fin_block ?_
   refine fin_then ?_
   refine st_region [oF 0, oF 1, oF 2] (by rfl) ?_
   refine oR [oF 0, oF 1] [(10, vI (IntKind.i64.wrap (Int.tdiv ((4398046511104 / 2 ^ j : Nat) : Int) 2))), (6, vI ((4398046511104 / 2 ^ j : Nat) : Int)), (5, vI (mostAt lim p j)), (0, vI lim), (1, .func (.func 141) #[] #[x1])] [10, 6, 5, 0, 1] (by kernel_rfl) ?_
   refine ops_conv (l' := [(10, vI ((4398046511104 / 2 ^ (j + 1) : Nat) : Int)), (6, vI ((4398046511104 / 2 ^ j : Nat) : Int)), (5, vI (mostAt lim p j)), (0, vI lim), (1, .func (.func 141) #[] #[x1])]) (by rw [hhalf]) (fun _ h => h) ?_
   refine oR [oF 2] [(6, vI ((4398046511104 / 2 ^ (j + 1) : Nat) : Int)), (5, vI (mostAt lim p j)), (0, vI lim), (1, .func (.func 141) #[] #[x1])] [6, 5, 0, 1] (by kernel_rfl) ?_
   refine ops_nil ?_
   have hnext := (show mostAt lim p (j + 1) = mostAt lim p j from if_neg fun h => of_decide_eq_false hc2 h.1)
   refine fin_conv (l' := [(6, vI ((4398046511104 / 2 ^ (j + 1) : Nat) : Int)), (5, vI (mostAt lim p (j + 1))), (0, vI lim), (1, .func (.func 141) #[] #[x1])]) (M' := Mem w []) (by rw [hnext]) (fun w_ hM => hM) ?_
   refine fin_round (j + 1) (by exact ⟨show j + 1 ≤ 43 by omega, by rw [hnext]; omega⟩) (by (show 43 - (j + 1) < 43 - j; omega)) (look_has ⟨rfl, rfl, rfl, rfl, trivial⟩) (fun w_ hM => by exact hM)
 · --
  have hend : j = 43 := by have h0 := of_decide_eq_false hc1; have h1 : ¬ j < 43 := fun h => absurd (Nat.div_pos (show 2 ^ j ≤ 4398046511104 from Nat.le_trans (Nat.pow_le_pow_right (by decide) (show j ≤ 42 by omega)) (by decide)) (Nat.pow_pos (by decide))) (by omega); omega
  refine st_exit ?_
  refine fin_exit_then ?_
  refine fin_exit_then ?_
  refine fin_exit ?_
  refine fin_then ?_
  refine st_seq ?_
  refine st_region [oF 0, oF 1] (by rfl) ?_
  refine oR [oF 0, oF 1] [(4, vI (mostAt lim p j))] [4] (by kernel_rfl) ?_
  refine ops_nil ?_
  refine fin_then ?_
  refine st_ret ?_
  refine fin_ret [.tmp 4] [vI (mostAt lim p j)] rfl rfl (fun w_ hM => (.tmp rfl .nil)) (fun w_ hM => ?_)
  refine ⟨?_, hM.done⟩
  rw [hend]
  rfl
end Go.Proofs.Ytioijglogoppnaa.WNat
