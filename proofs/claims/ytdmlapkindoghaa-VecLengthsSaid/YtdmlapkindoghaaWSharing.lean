/- Walks of the reference's share and of the function in it. No condition. -/
import Derived.Test.YtdmlapkindoghaaProg
import Derived.Test.YtdmlapkindoghaaSxOps
import Derived.Test.YtdmlapkindoghaaQuantSpec
import Derived.Test.YtdmlapkindoghaaWNat
import Derived.Test.YtdmlapkindoghaaWClamp
namespace Go.Proofs.Ytdmlapkindoghaa.WSharing
open Go Go.RowKit Go.Proofs.Ytdmlapkindoghaa.Sx Go.Proofs.Ytdmlapkindoghaa.Rnd Go.Proofs.Ytdmlapkindoghaa.Nats Go.Proofs.Ytdmlapkindoghaa.Trig Go.Proofs.Ytdmlapkindoghaa.Quant Go.Proofs.Ytdmlapkindoghaa.WNat
set_option linter.unusedVariables false
set_option linter.unusedSimpArgs false
theorem times_digs (A1 : Option Addr) (c1 : Nat) (x : Nat) (A2 : Option Addr) (c2 : Nat) (y : Nat) (w : World) (hr1 : RInts .i64 A1 (digs x) w) (hr2 : RInts .i64 A2 (digs y) w) (h1 : (digs x).length ≤ 1000) (h2 : (digs y).length ≤ 1000) :
    Calls Try.prog 92 #[.slice A1 (digs x).length c1, .slice A2 (digs y).length c2] w fun e w' => ∃ x_ : Option Addr × Nat, e = .returned (match x_ with | (A, c) => .slice A (digs (x * y)).length c) ∧ Mem w (match x_ with | (A, c) => [.row A (digs (x * y)).length c 3 1 (iv .i64 (digs (x * y)))]) w' := by
  have z := times_calls A1 c1 (digs x) A2 c2 (digs y) w hr1 hr2 (digs_dig x) (digs_dig y) h1 h2
  rwa [digs_val, digs_val, show ((x : Int) * (y : Int)).toNat = x * y by rw [← Int.natCast_mul, Int.toNat_natCast]] at z
set_option maxHeartbeats 4000000 in
set_option maxRecDepth 100000 in
theorem share1_calls (n c tw : Nat) (p1 p2 : Addr) (A : Option Addr) (cp : Nat) (w : World) (h1 : w.cell? p1 = some (.int .i64 (c : Int))) (h2 : w.cell? p2 = some (.slice A (digs tw).length cp)) (hr : RInts .i64 A (digs tw) w) (hn0 : 0 < n) (hn : n ≤ 9007199254740992) (hc : c ≤ 9007199254740992) (htw : (digs tw).length ≤ 1000) : Calls Try.prog 99 #[.int .i64 (n : Int), .pointer (some (p1)), .pointer (some (p2))] w fun e w' => e = .returned (.bool (decide ((2 * n - 1) * c ≤ tw))) ∧ Below w.heap.size w w' := by
  have hd : IntKind.i64.wrap (2 * (n : Int)) = 2 * (n : Int) := by rw [i64w]; omega
  have hd1 : IntKind.i64.wrap (2 * (n : Int) - 1) = ((2 * n - 1 : Nat) : Int) := by rw [i64w]; omega
  have hL : (digs ((2 * n - 1) * c)).length ≤ 1000 := Nat.le_trans (digs_length (k := 20) (Nat.lt_of_le_of_lt (Nat.mul_le_mul (show (2 * n - 1) ≤ 85070591730234615865843651857942052864 from by omega) (show c ≤ 85070591730234615865843651857942052864 from by omega)) (by decide))) (by decide)
  refine sx_calls Try.func99 rfl (n := 14) (by kernel_rfl) (l := [(0, .int .i64 (n : Int)), (1, .pointer (some (p1))), (2, .pointer (some (p2)))]) rfl (by rfl) (Mem.nil w) ?_
  refine st_seq ?_
  refine st_region [(0, false)] (by rfl) ?_
  refine ops_run (is := [(0, false)]) (r := []) (l' := [(0, .int .i64 (n : Int)), (1, .pointer (some (p1))), (2, .pointer (some (p2)))]) [0, 1, 2] (by kernel_rfl) ?_
  refine ops_nil ?_
  refine fin_then ?_
  refine st_seq ?_
  refine st_region_draw [(0, true), (1, true), (2, true), (4, true), (7, true), (3, false), (5, false), (6, false), (8, false), (9, true)] (Mem w []) (by kernel_rfl) (by kernel_rfl) (by kernel_rfl) (fun _ d _ _ _ h => by cases d <;> exact h) (M' := Mem w []) (fun w_ hM => ⟨hM.drew, hM.drew.sub (by simp)⟩) ?_
  refine ops_run (is := [(0, true), (1, true)]) (r := [(2, true), (4, true), (7, true), (3, false), (5, false), (6, false), (8, false), (9, true)]) (l' := [(6, .int .i64 (IntKind.i64.wrap (2 * (n : Int)))), (1, .pointer (some (p1))), (2, .pointer (some (p2)))]) [6, 1, 2] (by kernel_rfl) ?_
  refine ops_conv (l' := [(6, .int .i64 (2 * (n : Int))), (1, .pointer (some (p1))), (2, .pointer (some (p2)))]) (by rw [hd]) (fun _ h => h) ?_
  refine ops_run (is := [(2, true)]) (r := [(4, true), (7, true), (3, false), (5, false), (6, false), (8, false), (9, true)]) (l' := [(7, .int .i64 (IntKind.i64.wrap ((2 * (n : Int)) - 1))), (1, .pointer (some (p1))), (2, .pointer (some (p2)))]) [7, 1, 2] (by kernel_rfl) ?_
  refine ops_conv (l' := [(7, .int .i64 ((2 * n - 1 : Nat) : Int)), (1, .pointer (some (p1))), (2, .pointer (some (p2)))]) (by rw [hd1]) (fun _ h => h) ?_
  refine ops_load (d := some 9) (an := [.v (.int .i64 (c : Int))]) (evs := [.load (p1) (.int .i64 (c : Int))]) (v := .int .i64 (c : Int)) ⟨by kernel_rfl⟩ (fun w_ hM => ⟨hM.oldcell h1, rfl⟩) ?_
  refine ops_run (is := []) (r := [(7, true), (3, false), (5, false), (6, false), (8, false), (9, true)]) (l' := [(9, .int .i64 (c : Int)), (7, .int .i64 ((2 * n - 1 : Nat) : Int)), (2, .pointer (some (p2)))]) [9, 7, 2] (by kernel_rfl) ?_
  refine ops_load (d := some 12) (an := [.v (.slice A ((digs tw).length) cp)]) (evs := [.load (p2) (.slice A ((digs tw).length) cp)]) (v := .slice A ((digs tw).length) cp) ⟨by kernel_rfl⟩ (fun w_ hM => ⟨hM.oldcell h2, rfl⟩) ?_
  refine ops_run (is := []) (r := [(3, false), (5, false), (6, false), (8, false), (9, true)]) (l' := [(12, .slice A ((digs tw).length) cp), (9, .int .i64 (c : Int)), (7, .int .i64 ((2 * n - 1 : Nat) : Int))]) [12, 9, 7] (by kernel_rfl) ?_
  refine ops_call (σ := Option Addr × Nat) (d := some 8) (f := 93) (args := #[.int .i64 ((2 * n - 1 : Nat) : Int)]) (v := fun x_ => match x_ with | (A1, c2) => .slice A1 ((digs (2 * n - 1)).length) c2) (M' := fun x_ => match x_ with | (A1, c2) => Mem w [.row A1 ((digs (2 * n - 1)).length) c2 3 1 (iv .i64 (digs (2 * n - 1)))]) ⟨by kernel_rfl⟩ (fun w_ hM hS => (natOf_calls (2 * n - 1) w_ (by omega)).mono (by rintro e w' ⟨x_, rfl, h2⟩; exact ⟨x_, rfl, hM.join h2 rfl, hS.step h2.below⟩)) ?_
  rintro ⟨A1, c2⟩
  refine ops_conv (l' := [(8, .slice A1 ((digs (2 * n - 1)).length) c2), (12, .slice A ((digs tw).length) cp), (9, .int .i64 (c : Int)), (7, .int .i64 ((2 * n - 1 : Nat) : Int))]) (M' := Mem w [.row A1 ((digs (2 * n - 1)).length) c2 3 1 (iv .i64 (digs (2 * n - 1)))]) rfl (fun _ h => h) ?_
  refine ops_run (is := []) (r := [(5, false), (6, false), (8, false), (9, true)]) (l' := [(8, .slice A1 ((digs (2 * n - 1)).length) c2), (12, .slice A ((digs tw).length) cp), (9, .int .i64 (c : Int))]) [8, 12, 9] (by kernel_rfl) ?_
  refine ops_call (σ := Option Addr × Nat) (d := some 10) (f := 93) (args := #[.int .i64 (c : Int)]) (v := fun x_ => match x_ with | (A3, c4) => .slice A3 ((digs c).length) c4) (M' := fun x_ => match x_ with | (A3, c4) => Mem w [.row A3 ((digs c).length) c4 3 1 (iv .i64 (digs c)), .row A1 ((digs (2 * n - 1)).length) c2 3 1 (iv .i64 (digs (2 * n - 1)))]) ⟨by kernel_rfl⟩ (fun w_ hM hS => (natOf_calls c w_ (by omega)).mono (by rintro e w' ⟨x_, rfl, h2⟩; exact ⟨x_, rfl, hM.join h2 rfl, hS.step h2.below⟩)) ?_
  rintro ⟨A3, c4⟩
  refine ops_conv (l' := [(10, .slice A3 ((digs c).length) c4), (8, .slice A1 ((digs (2 * n - 1)).length) c2), (12, .slice A ((digs tw).length) cp), (9, .int .i64 (c : Int))]) (M' := Mem w [.row A3 ((digs c).length) c4 3 1 (iv .i64 (digs c)), .row A1 ((digs (2 * n - 1)).length) c2 3 1 (iv .i64 (digs (2 * n - 1)))]) rfl (fun _ h => h) ?_
  refine ops_run (is := []) (r := [(6, false), (8, false), (9, true)]) (l' := [(10, .slice A3 ((digs c).length) c4), (8, .slice A1 ((digs (2 * n - 1)).length) c2), (12, .slice A ((digs tw).length) cp)]) [10, 8, 12] (by kernel_rfl) ?_
  refine ops_call (σ := Option Addr × Nat) (d := some 11) (f := 92) (args := #[.slice A1 ((digs (2 * n - 1)).length) c2, .slice A3 ((digs c).length) c4]) (v := fun x_ => match x_ with | (A5, c6) => .slice A5 ((digs ((2 * n - 1) * c)).length) c6) (M' := fun x_ => match x_ with | (A5, c6) => Mem w [.row A5 ((digs ((2 * n - 1) * c)).length) c6 3 1 (iv .i64 (digs ((2 * n - 1) * c))), .row A3 ((digs c).length) c4 3 1 (iv .i64 (digs c)), .row A1 ((digs (2 * n - 1)).length) c2 3 1 (iv .i64 (digs (2 * n - 1)))]) ⟨by kernel_rfl⟩ (fun w_ hM hS => (times_digs A1 c2 (2 * n - 1) A3 c4 c w_ (hM.rints 1 rfl) (hM.rints 0 rfl) (by first | assumption | exact Nat.le_trans (digs_length (k := 5) (by omega)) (by decide)) (by first | assumption | exact Nat.le_trans (digs_length (k := 5) (by omega)) (by decide))).mono (by rintro e w' ⟨x_, rfl, h2⟩; exact ⟨x_, rfl, hM.join h2 rfl, hS.step h2.below⟩)) ?_
  rintro ⟨A5, c6⟩
  refine ops_conv (l' := [(11, .slice A5 ((digs ((2 * n - 1) * c)).length) c6), (10, .slice A3 ((digs c).length) c4), (8, .slice A1 ((digs (2 * n - 1)).length) c2), (12, .slice A ((digs tw).length) cp)]) (M' := Mem w [.row A5 ((digs ((2 * n - 1) * c)).length) c6 3 1 (iv .i64 (digs ((2 * n - 1) * c))), .row A3 ((digs c).length) c4 3 1 (iv .i64 (digs c)), .row A1 ((digs (2 * n - 1)).length) c2 3 1 (iv .i64 (digs (2 * n - 1)))]) rfl (fun _ h => h) ?_
  refine ops_run (is := []) (r := [(8, false), (9, true)]) (l' := [(11, .slice A5 ((digs ((2 * n - 1) * c)).length) c6), (12, .slice A ((digs tw).length) cp)]) [11, 12] (by kernel_rfl) ?_
  refine ops_call (σ := Unit) (d := some 13) (f := 95) (args := #[.slice A5 ((digs ((2 * n - 1) * c)).length) c6, .slice A ((digs tw).length) cp]) (v := fun _ => .bool (decide ((2 * n - 1) * c ≤ tw))) (M' := fun _ => Mem w [.row A5 ((digs ((2 * n - 1) * c)).length) c6 3 1 (iv .i64 (digs ((2 * n - 1) * c))), .row A3 ((digs c).length) c4 3 1 (iv .i64 (digs c)), .row A1 ((digs (2 * n - 1)).length) c2 3 1 (iv .i64 (digs (2 * n - 1)))]) ⟨by kernel_rfl⟩ (fun w_ hM hS => (atMost_calls A5 c6 ((2 * n - 1) * c) A cp tw w_ (hM.rints 0 rfl) (hr.mem hM) (by first | assumption | exact Nat.le_trans (digs_length (k := 5) (by omega)) (by decide)) (by first | assumption | exact Nat.le_trans (digs_length (k := 5) (by omega)) (by decide))).mono (by rintro e w' ⟨rfl, hb⟩; exact ⟨(), rfl, hM.step hb, hS.step hb⟩)) (fun _ => ?_)
  refine ops_run (is := [(9, true)]) (r := []) (l' := [(4, .bool (decide ((2 * n - 1) * c ≤ tw)))]) [4] (by kernel_rfl) ?_
  refine ops_nil ?_
  refine fin_then ?_
  refine st_ret ?_
  refine fin_ret [.tmp 4] [.bool (decide ((2 * n - 1) * c ≤ tw))] rfl rfl (fun w_ hM => (.tmp rfl .nil)) (fun w_ hM => ?_)
  refine ⟨?_, hM.done⟩
  rfl
theorem cell_below {w w' : World} {a : Addr} {v : Value} (hb : Below w.heap.size w w') (h : w.cell? a = some v) : w'.cell? a = some v := (hb.cell (World.block_lt_of_cell? w a h)).trans h
theorem share_zero {a b c : Nat} (hc : 0 < c) (h : (a : Int) = 0 ∨ (b : Int) = 0) : (0 : Int) = shareV a b c := by
  unfold shareV
  have : (a : Int) * (b : Int) = 0 := by rcases h with h | h <;> rw [h] <;> simp
  rw [this, Int.ediv_eq_zero_of_lt (by omega) (by omega)]
set_option maxHeartbeats 4000000 in
set_option maxRecDepth 100000 in
theorem share_calls (a b c : Nat) (w : World) (hac : a ≤ c) (hc0 : 0 < c) (hb : b ≤ 4398046511104) (hc : c ≤ 4398046511104) : Calls Try.prog 87 #[.int .i64 (a : Int), .int .i64 (b : Int), .int .i64 (c : Int)] w fun e w' => e = .returned (.int .i64 (shareV a b c)) ∧ Below w.heap.size w w' := by
  have hL : (digs (a * b)).length ≤ 1000 := Nat.le_trans (digs_length (k := 20) (Nat.lt_of_le_of_lt (Nat.mul_le_mul (show a ≤ 85070591730234615865843651857942052864 from by omega) (show b ≤ 85070591730234615865843651857942052864 from by omega)) (by decide))) (by decide)
  have hL2 : (digs (2 * (a * b))).length ≤ 1000 := Nat.le_trans (digs_length (k := 20) (Nat.lt_of_le_of_lt (Nat.mul_le_mul (Nat.le_refl 2) (Nat.mul_le_mul (show a ≤ 85070591730234615865843651857942052864 by omega) (show b ≤ 85070591730234615865843651857942052864 by omega))) (by decide))) (by decide)
  refine sx_calls Try.func87 rfl (n := 24) (by kernel_rfl) (l := [(0, .int .i64 (a : Int)), (1, .int .i64 (b : Int)), (2, .int .i64 (c : Int))]) rfl (by rfl) (Mem.nil w) ?_
  refine st_seq ?_
  refine st_region [(0, false), (1, false)] (by rfl) ?_
  refine ops_new (d := some 5) (o := .cells #[.int .i64 (c : Int)] 3) (v := fun b1 => .pointer (some ⟨b1, 0, none⟩)) (M' := fun b1 => Mem w [.blk b1 [.int .i64 (c : Int)] 3]) (fun b1 => ⟨by kernel_rfl⟩) (fun w_ hM hS => ⟨hM.blk [.int .i64 (c : Int)] 3, trivial⟩) (fun b1 => ?_)
  refine ops_run (is := [(1, false)]) (r := []) (l' := [(5, .pointer (some ⟨b1, 0, none⟩)), (0, .int .i64 (a : Int)), (1, .int .i64 (b : Int))]) [5, 0, 1] (by kernel_rfl) ?_
  refine ops_nil ?_
  refine fin_then ?_
  refine st_seq ?_
  refine st_seq ?_
  refine st_region [(0, false), (1, false), (2, false), (3, false), (4, false), (5, false)] (by rfl) ?_
  refine ops_run (is := [(0, false), (1, false), (2, false)]) (r := [(3, false), (4, false), (5, false)]) (l' := [(10, .bool ((a : Int) == 0)), (5, .pointer (some ⟨b1, 0, none⟩)), (0, .int .i64 (a : Int)), (1, .int .i64 (b : Int))]) [10, 5, 0, 1] (by kernel_rfl) ?_
  refine ops_bool (t := ((a : Int) == 0)) (l1 := [(10, .bool true), (5, .pointer (some ⟨b1, 0, none⟩)), (0, .int .i64 (a : Int)), (1, .int .i64 (b : Int))]) (l2 := [(10, .bool false), (5, .pointer (some ⟨b1, 0, none⟩)), (0, .int .i64 (a : Int)), (1, .int .i64 (b : Int))]) (fun h => by rw [h]) (fun h => by rw [h]) (fun hc2 => ?_) (fun hc2 => ?_)
  · --((a : Int) == 0)
    refine ops_run (is := [(3, false), (4, false), (5, false)]) (r := []) (l' := [(13, .bool true), (5, .pointer (some ⟨b1, 0, none⟩)), (0, .int .i64 (a : Int)), (1, .int .i64 (b : Int))]) [13, 5, 0, 1] (by kernel_rfl) ?_
    refine ops_nil ?_
    refine fin_then ?_
    refine st_true rfl ?_
    refine st_seq ?_
    refine st_region [(0, false)] (by rfl) ?_
    refine ops_run (is := [(0, false)]) (r := []) (l' := [(6, .int .i64 0)]) [6] (by kernel_rfl) ?_
    refine ops_nil ?_
    refine fin_then ?_
    refine st_ret ?_
    refine fin_ret_then ?_
    refine fin_ret [.tmp 6] [.int .i64 0] rfl rfl (fun w_ hM => (.tmp rfl .nil)) (fun w_ hM => ?_)
    refine ⟨?_, hM.done⟩
    have := beq_iff_eq.1 hc2
    exact congrArg (fun z => Ending.returned (.int .i64 z)) (share_zero hc0 (by omega))
  · --((a : Int) == 0)
    refine ops_run (is := [(3, false), (4, false), (5, false)]) (r := []) (l' := [(13, .bool ((b : Int) == 0)), (5, .pointer (some ⟨b1, 0, none⟩)), (0, .int .i64 (a : Int)), (1, .int .i64 (b : Int))]) [13, 5, 0, 1] (by kernel_rfl) ?_
    refine ops_nil ?_
    refine fin_then ?_
    refine st_if (b := ((b : Int) == 0)) rfl (fun hc3 => ?_) (fun hc3 => ?_)
    · --
      refine st_seq ?_
      refine st_region [(0, false)] (by rfl) ?_
      refine ops_run (is := [(0, false)]) (r := []) (l' := [(6, .int .i64 0)]) [6] (by kernel_rfl) ?_
      refine ops_nil ?_
      refine fin_then ?_
      refine st_ret ?_
      refine fin_ret_then ?_
      refine fin_ret [.tmp 6] [.int .i64 0] rfl rfl (fun w_ hM => (.tmp rfl .nil)) (fun w_ hM => ?_)
      refine ⟨?_, hM.done⟩
      have := beq_eq_false_iff_ne.1 hc2
      have := beq_iff_eq.1 hc3
      exact congrArg (fun z => Ending.returned (.int .i64 z)) (share_zero hc0 (by omega))
    · --
      refine st_skip ?_
      refine fin_then ?_
      refine st_seq ?_
      refine st_region [(0, false), (1, false), (2, false), (3, false), (4, false), (5, false), (6, false), (7, false), (8, false)] (by rfl) ?_
      refine ops_run (is := []) (r := [(0, false), (1, false), (2, false), (3, false), (4, false), (5, false), (6, false), (7, false), (8, false)]) (l' := [(5, .pointer (some ⟨b1, 0, none⟩)), (0, .int .i64 (a : Int)), (1, .int .i64 (b : Int))]) [5, 0, 1] (by kernel_rfl) ?_
      refine ops_call (σ := Option Addr × Nat) (d := some 14) (f := 93) (args := #[.int .i64 2]) (v := fun x_ => match x_ with | (A4, c5) => .slice A4 ((digs 2).length) c5) (M' := fun x_ => match x_ with | (A4, c5) => Mem w [.row A4 ((digs 2).length) c5 3 1 (iv .i64 (digs 2)), .blk b1 [.int .i64 (c : Int)] 3]) ⟨by kernel_rfl⟩ (fun w_ hM hS => (natOf_calls 2 w_ (by omega)).mono (by rintro e w' ⟨x_, rfl, h2⟩; exact ⟨x_, rfl, hM.join h2 rfl, trivial⟩)) ?_
      rintro ⟨A4, c5⟩
      refine ops_conv (l' := [(14, .slice A4 ((digs 2).length) c5), (5, .pointer (some ⟨b1, 0, none⟩)), (0, .int .i64 (a : Int)), (1, .int .i64 (b : Int))]) (M' := Mem w [.row A4 ((digs 2).length) c5 3 1 (iv .i64 (digs 2)), .blk b1 [.int .i64 (c : Int)] 3]) rfl (fun _ h => h) ?_
      refine ops_run (is := [(1, false)]) (r := [(2, false), (3, false), (4, false), (5, false), (6, false), (7, false), (8, false)]) (l' := [(15, .int .i64 (a : Int)), (14, .slice A4 ((digs 2).length) c5), (5, .pointer (some ⟨b1, 0, none⟩)), (1, .int .i64 (b : Int))]) [15, 14, 5, 1] (by kernel_rfl) ?_
      refine ops_call (σ := Option Addr × Nat) (d := some 16) (f := 93) (args := #[.int .i64 (a : Int)]) (v := fun x_ => match x_ with | (A6, c7) => .slice A6 ((digs a).length) c7) (M' := fun x_ => match x_ with | (A6, c7) => Mem w [.row A6 ((digs a).length) c7 3 1 (iv .i64 (digs a)), .row A4 ((digs 2).length) c5 3 1 (iv .i64 (digs 2)), .blk b1 [.int .i64 (c : Int)] 3]) ⟨by kernel_rfl⟩ (fun w_ hM hS => (natOf_calls a w_ (by omega)).mono (by rintro e w' ⟨x_, rfl, h2⟩; exact ⟨x_, rfl, hM.join h2 rfl, trivial⟩)) ?_
      rintro ⟨A6, c7⟩
      refine ops_conv (l' := [(16, .slice A6 ((digs a).length) c7), (15, .int .i64 (a : Int)), (14, .slice A4 ((digs 2).length) c5), (5, .pointer (some ⟨b1, 0, none⟩)), (1, .int .i64 (b : Int))]) (M' := Mem w [.row A6 ((digs a).length) c7 3 1 (iv .i64 (digs a)), .row A4 ((digs 2).length) c5 3 1 (iv .i64 (digs 2)), .blk b1 [.int .i64 (c : Int)] 3]) rfl (fun _ h => h) ?_
      refine ops_run (is := [(3, false)]) (r := [(4, false), (5, false), (6, false), (7, false), (8, false)]) (l' := [(17, .int .i64 (b : Int)), (16, .slice A6 ((digs a).length) c7), (14, .slice A4 ((digs 2).length) c5), (5, .pointer (some ⟨b1, 0, none⟩)), (1, .int .i64 (b : Int))]) [17, 16, 14, 5, 1] (by kernel_rfl) ?_
      refine ops_call (σ := Option Addr × Nat) (d := some 18) (f := 93) (args := #[.int .i64 (b : Int)]) (v := fun x_ => match x_ with | (A8, c9) => .slice A8 ((digs b).length) c9) (M' := fun x_ => match x_ with | (A8, c9) => Mem w [.row A8 ((digs b).length) c9 3 1 (iv .i64 (digs b)), .row A6 ((digs a).length) c7 3 1 (iv .i64 (digs a)), .row A4 ((digs 2).length) c5 3 1 (iv .i64 (digs 2)), .blk b1 [.int .i64 (c : Int)] 3]) ⟨by kernel_rfl⟩ (fun w_ hM hS => (natOf_calls b w_ (by omega)).mono (by rintro e w' ⟨x_, rfl, h2⟩; exact ⟨x_, rfl, hM.join h2 rfl, trivial⟩)) ?_
      rintro ⟨A8, c9⟩
      refine ops_conv (l' := [(18, .slice A8 ((digs b).length) c9), (17, .int .i64 (b : Int)), (16, .slice A6 ((digs a).length) c7), (14, .slice A4 ((digs 2).length) c5), (5, .pointer (some ⟨b1, 0, none⟩)), (1, .int .i64 (b : Int))]) (M' := Mem w [.row A8 ((digs b).length) c9 3 1 (iv .i64 (digs b)), .row A6 ((digs a).length) c7 3 1 (iv .i64 (digs a)), .row A4 ((digs 2).length) c5 3 1 (iv .i64 (digs 2)), .blk b1 [.int .i64 (c : Int)] 3]) rfl (fun _ h => h) ?_
      refine ops_run (is := []) (r := [(5, false), (6, false), (7, false), (8, false)]) (l' := [(18, .slice A8 ((digs b).length) c9), (16, .slice A6 ((digs a).length) c7), (14, .slice A4 ((digs 2).length) c5), (5, .pointer (some ⟨b1, 0, none⟩)), (1, .int .i64 (b : Int))]) [18, 16, 14, 5, 1] (by kernel_rfl) ?_
      refine ops_call (σ := Option Addr × Nat) (d := some 19) (f := 92) (args := #[.slice A6 ((digs a).length) c7, .slice A8 ((digs b).length) c9]) (v := fun x_ => match x_ with | (A10, c11) => .slice A10 ((digs (a * b)).length) c11) (M' := fun x_ => match x_ with | (A10, c11) => Mem w [.row A10 ((digs (a * b)).length) c11 3 1 (iv .i64 (digs (a * b))), .row A8 ((digs b).length) c9 3 1 (iv .i64 (digs b)), .row A6 ((digs a).length) c7 3 1 (iv .i64 (digs a)), .row A4 ((digs 2).length) c5 3 1 (iv .i64 (digs 2)), .blk b1 [.int .i64 (c : Int)] 3]) ⟨by kernel_rfl⟩ (fun w_ hM hS => (times_digs A6 c7 a A8 c9 b w_ (hM.rints 1 rfl) (hM.rints 0 rfl) (by first | assumption | exact Nat.le_trans (digs_length (k := 5) (by omega)) (by decide)) (by first | assumption | exact Nat.le_trans (digs_length (k := 5) (by omega)) (by decide))).mono (by rintro e w' ⟨x_, rfl, h2⟩; exact ⟨x_, rfl, hM.join h2 rfl, trivial⟩)) ?_
      rintro ⟨A10, c11⟩
      refine ops_conv (l' := [(19, .slice A10 ((digs (a * b)).length) c11), (18, .slice A8 ((digs b).length) c9), (16, .slice A6 ((digs a).length) c7), (14, .slice A4 ((digs 2).length) c5), (5, .pointer (some ⟨b1, 0, none⟩)), (1, .int .i64 (b : Int))]) (M' := Mem w [.row A10 ((digs (a * b)).length) c11 3 1 (iv .i64 (digs (a * b))), .row A8 ((digs b).length) c9 3 1 (iv .i64 (digs b)), .row A6 ((digs a).length) c7 3 1 (iv .i64 (digs a)), .row A4 ((digs 2).length) c5 3 1 (iv .i64 (digs 2)), .blk b1 [.int .i64 (c : Int)] 3]) rfl (fun _ h => h) ?_
      refine ops_run (is := []) (r := [(6, false), (7, false), (8, false)]) (l' := [(19, .slice A10 ((digs (a * b)).length) c11), (14, .slice A4 ((digs 2).length) c5), (5, .pointer (some ⟨b1, 0, none⟩)), (1, .int .i64 (b : Int))]) [19, 14, 5, 1] (by kernel_rfl) ?_
      refine ops_call (σ := Option Addr × Nat) (d := some 20) (f := 92) (args := #[.slice A4 ((digs 2).length) c5, .slice A10 ((digs (a * b)).length) c11]) (v := fun x_ => match x_ with | (A12, c13) => .slice A12 ((digs (2 * (a * b))).length) c13) (M' := fun x_ => match x_ with | (A12, c13) => Mem w [.row A12 ((digs (2 * (a * b))).length) c13 3 1 (iv .i64 (digs (2 * (a * b)))), .row A10 ((digs (a * b)).length) c11 3 1 (iv .i64 (digs (a * b))), .row A8 ((digs b).length) c9 3 1 (iv .i64 (digs b)), .row A6 ((digs a).length) c7 3 1 (iv .i64 (digs a)), .row A4 ((digs 2).length) c5 3 1 (iv .i64 (digs 2)), .blk b1 [.int .i64 (c : Int)] 3]) ⟨by kernel_rfl⟩ (fun w_ hM hS => (times_digs A4 c5 2 A10 c11 (a * b) w_ (hM.rints 3 rfl) (hM.rints 0 rfl) (by first | assumption | exact Nat.le_trans (digs_length (k := 5) (by omega)) (by decide)) (by first | assumption | exact Nat.le_trans (digs_length (k := 5) (by omega)) (by decide))).mono (by rintro e w' ⟨x_, rfl, h2⟩; exact ⟨x_, rfl, hM.join h2 rfl, trivial⟩)) ?_
      rintro ⟨A12, c13⟩
      refine ops_conv (l' := [(20, .slice A12 ((digs (2 * (a * b))).length) c13), (19, .slice A10 ((digs (a * b)).length) c11), (14, .slice A4 ((digs 2).length) c5), (5, .pointer (some ⟨b1, 0, none⟩)), (1, .int .i64 (b : Int))]) (M' := Mem w [.row A12 ((digs (2 * (a * b))).length) c13 3 1 (iv .i64 (digs (2 * (a * b)))), .row A10 ((digs (a * b)).length) c11 3 1 (iv .i64 (digs (a * b))), .row A8 ((digs b).length) c9 3 1 (iv .i64 (digs b)), .row A6 ((digs a).length) c7 3 1 (iv .i64 (digs a)), .row A4 ((digs 2).length) c5 3 1 (iv .i64 (digs 2)), .blk b1 [.int .i64 (c : Int)] 3]) rfl (fun _ h => h) ?_
      refine ops_run (is := []) (r := [(7, false), (8, false)]) (l' := [(20, .slice A12 ((digs (2 * (a * b))).length) c13), (5, .pointer (some ⟨b1, 0, none⟩)), (1, .int .i64 (b : Int))]) [20, 5, 1] (by kernel_rfl) ?_
      refine ops_new (d := some 7) (o := .cells #[.slice none 0 0] 116) (v := fun b14 => .pointer (some ⟨b14, 0, none⟩)) (M' := fun b14 => Mem w [.blk b14 [.slice none 0 0] 116, .row A12 ((digs (2 * (a * b))).length) c13 3 1 (iv .i64 (digs (2 * (a * b)))), .row A10 ((digs (a * b)).length) c11 3 1 (iv .i64 (digs (a * b))), .row A8 ((digs b).length) c9 3 1 (iv .i64 (digs b)), .row A6 ((digs a).length) c7 3 1 (iv .i64 (digs a)), .row A4 ((digs 2).length) c5 3 1 (iv .i64 (digs 2)), .blk b1 [.int .i64 (c : Int)] 3]) (fun b14 => ⟨by kernel_rfl⟩) (fun w_ hM hS => ⟨hM.blk [.slice none 0 0] 116, trivial⟩) (fun b14 => ?_)
      refine ops_run (is := []) (r := [(8, false)]) (l' := [(7, .pointer (some ⟨b14, 0, none⟩)), (20, .slice A12 ((digs (2 * (a * b))).length) c13), (5, .pointer (some ⟨b1, 0, none⟩)), (1, .int .i64 (b : Int))]) [7, 20, 5, 1] (by kernel_rfl) ?_
      refine ops_store (an := []) (evs := [.store ⟨b14, 0, none⟩ (.slice A12 ((digs (2 * (a * b))).length) c13)]) (M' := Mem w [.blk b14 [.slice A12 ((digs (2 * (a * b))).length) c13] 116, .row A12 ((digs (2 * (a * b))).length) c13 3 1 (iv .i64 (digs (2 * (a * b)))), .row A10 ((digs (a * b)).length) c11 3 1 (iv .i64 (digs (a * b))), .row A8 ((digs b).length) c9 3 1 (iv .i64 (digs b)), .row A6 ((digs a).length) c7 3 1 (iv .i64 (digs a)), .row A4 ((digs 2).length) c5 3 1 (iv .i64 (digs 2)), .blk b1 [.int .i64 (c : Int)] 3]) ⟨by kernel_rfl⟩ (fun w_ hM hS => let ⟨w', he, h'⟩ := hM.evs_stores [.slice A12 ((digs (2 * (a * b))).length) c13] 0 rfl 0 (Nat.le_of_ble_eq_true rfl); ⟨w', he, h', trivial⟩) ?_
      refine ops_run (is := []) (r := []) (l' := [(7, .pointer (some ⟨b14, 0, none⟩)), (5, .pointer (some ⟨b1, 0, none⟩)), (1, .int .i64 (b : Int))]) [7, 5, 1] (by kernel_rfl) ?_
      refine ops_nil ?_
      refine fin_then ?_
      refine st_seq ?_
      refine st_region [(0, false), (1, false), (2, false), (3, false)] (by rfl) ?_
      refine ops_run (is := [(0, false), (1, false)]) (r := [(2, false), (3, false)]) (l' := [(22, .func (.func 99) #[] #[.pointer (some ⟨b1, 0, none⟩), .pointer (some ⟨b14, 0, none⟩)]), (21, .int .i64 (b : Int))]) [22, 21] (by kernel_rfl) ?_
      refine ops_call (σ := Unit) (d := some 23) (f := 83) (args := #[.int .i64 (b : Int), .func (.func 99) #[] #[.pointer (some ⟨b1, 0, none⟩), .pointer (some ⟨b14, 0, none⟩)]]) (v := fun _ => .int .i64 (mostv (b : Int) (fun n => decide ((2 * n.toNat - 1) * c ≤ 2 * (a * b))))) (M' := fun _ => Mem w [.blk b14 [.slice A12 ((digs (2 * (a * b))).length) c13] 116, .row A12 ((digs (2 * (a * b))).length) c13 3 1 (iv .i64 (digs (2 * (a * b)))), .row A10 ((digs (a * b)).length) c11 3 1 (iv .i64 (digs (a * b))), .row A8 ((digs b).length) c9 3 1 (iv .i64 (digs b)), .row A6 ((digs a).length) c7 3 1 (iv .i64 (digs a)), .row A4 ((digs 2).length) c5 3 1 (iv .i64 (digs 2)), .blk b1 [.int .i64 (c : Int)] 3]) ⟨by kernel_rfl⟩ (fun w_ hM hS => (most_share1 (b : Int) (fun n => decide ((2 * n.toNat - 1) * c ≤ 2 * (a * b))) (.pointer (some ⟨b1, 0, none⟩)) (.pointer (some ⟨b14, 0, none⟩)) w_ (by omega) (by omega) (fun n w2 hn0 hn1 hb2 => by obtain ⟨m, rfl⟩ := Int.eq_ofNat_of_zero_le (Int.le_of_lt hn0); exact share1_calls m c (2 * (a * b)) _ _ A12 c13 w2 (cell_below hb2 (hM.cell 6 rfl rfl)) (cell_below hb2 (hM.cell 0 rfl rfl)) ((hM.rints 1 rfl).below hb2) (by omega) (by omega) (by omega) hL2)).mono (by rintro e w' ⟨rfl, hb⟩; exact ⟨(), rfl, hM.step hb, trivial⟩)) (fun _ => ?_)
      refine ops_run (is := [(3, false)]) (r := []) (l' := [(6, .int .i64 (mostv (b : Int) (fun n => decide ((2 * n.toNat - 1) * c ≤ 2 * (a * b)))))]) [6] (by kernel_rfl) ?_
      refine ops_nil ?_
      refine fin_then ?_
      refine st_ret ?_
      refine fin_ret [.tmp 6] [.int .i64 (mostv (b : Int) (fun n => decide ((2 * n.toNat - 1) * c ≤ 2 * (a * b))))] rfl rfl (fun w_ hM => (.tmp rfl .nil)) (fun w_ hM => ?_)
      refine ⟨?_, hM.done⟩
      exact congrArg (fun z => Ending.returned (.int .i64 z)) (share_most hac hc0 (by omega))
end Go.Proofs.Ytdmlapkindoghaa.WSharing
