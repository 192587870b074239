/- Walks of vec.through, Len and Unit and of the law. No condition. -/
import Derived.Test.YtdmlapkindoghaaProg
import Derived.Test.YtdmlapkindoghaaSxOps
import Derived.Test.YtdmlapkindoghaaVecSpec
import Derived.Test.YtdmlapkindoghaaWLong
import Derived.Test.YtdmlapkindoghaaWEven
import Derived.Test.YtdmlapkindoghaaWClamp
import Derived.Test.YtdmlapkindoghaaWEqStruct
namespace Go.Proofs.Ytdmlapkindoghaa.WVec
open Go Go.RowKit Go.Proofs.Ytdmlapkindoghaa.Sx Go.Proofs.Ytdmlapkindoghaa.Rnd Go.Proofs.Ytdmlapkindoghaa.Nats Go.Proofs.Ytdmlapkindoghaa.Trig Go.Proofs.Ytdmlapkindoghaa.Root Go.Proofs.Ytdmlapkindoghaa.Vecs Go.Proofs.Ytdmlapkindoghaa.WLong Go.Proofs.Ytdmlapkindoghaa.WEven Go.Proofs.Ytdmlapkindoghaa.WClamp Go.Proofs.YtdmlapkindoghaaW.PrintWords
set_option linter.unusedVariables false
set_option linter.unusedSimpArgs false
theorem eqA101 (d : Nat) (w : World) (x0 y0 : Int) (x1 y1 : Int) :
    (Op.equalIn (d + 2) 101 (.agg #[.int .i64 x0, .int .i64 x1]) (.agg #[.int .i64 y0, .int .i64 y1])).run Try.prog w = .ok (x0 == y0 && (x1 == y1)) w := by
  refine eqA_of Try.underlying101 (by kernel_rfl) ?_
  refine eqf_cons (by rfl) (by go_simp; rfl) (by go_simp; rfl) (by go_simp) ?_
  exact eqf_last (by rfl) (by go_simp; rfl) (by go_simp; rfl) (by go_simp)
theorem tdiv_small {n d : Int} (hd : 0 < d) : (Int.tdiv n d).natAbs ≤ n.natAbs := by
  rw [Int.natAbs_tdiv]; exact Nat.div_le_self _ _
set_option maxHeartbeats 4000000 in
set_option maxRecDepth 100000 in
theorem through_calls (x l : Int) (w : World) (hl : 0 < l) (hl2 : l ≤ 4398046511104) (hx : x.natAbs ≤ 2199023255552) : Calls Try.prog 97 #[.int .i64 x, .int .i64 l] w fun e w' => e = .returned (.int .i64 (throughV x l)) ∧ Below w.heap.size w w' := by
  have hz := through_walk (n := 2 * x * 65536 + l) hl
  have ht := tdiv_small (n := 2 * x * 65536 + l) (d := 2 * l) (by omega)
  have hwq : IntKind.i64.wrap (Int.tdiv (2 * x * 65536 + l) (2 * l)) = Int.tdiv (2 * x * 65536 + l) (2 * l) := i64in (by omega) (by omega)
  have hwq1 : IntKind.i64.wrap (Int.tdiv (2 * x * 65536 + l) (2 * l) - 1) = Int.tdiv (2 * x * 65536 + l) (2 * l) - 1 := i64in (by omega) (by omega)
  refine sx_calls Try.func97 rfl (n := 28) (by kernel_rfl) (l := [(0, .int .i64 x), (1, .int .i64 l)]) rfl (by rfl) (Mem.nil w) ?_
  refine st_seq ?_
  refine st_region [(0, false)] (by rfl) ?_
  refine ops_run (is := [(0, false)]) (r := []) (l' := [(0, .int .i64 x), (1, .int .i64 l)]) [0, 1] (by kernel_rfl) ?_
  refine ops_nil ?_
  refine fin_then ?_
  refine st_seq ?_
  refine st_region [(0, false), (1, false), (2, false), (3, false), (4, false), (5, false)] (by rfl) ?_
  refine ops_run (is := [(0, false), (1, false)]) (r := [(2, false), (3, false), (4, false), (5, false)]) (l' := [(8, .int .i64 (IntKind.i64.wrap (2 * x))), (1, .int .i64 l)]) [8, 1] (by kernel_rfl) ?_
  refine ops_conv (l' := [(8, .int .i64 (2 * x)), (1, .int .i64 l)]) (by rw [(i64in (x := 2 * x) (by omega) (by omega))]) (fun _ h => h) ?_
  refine ops_run (is := [(2, false)]) (r := [(3, false), (4, false), (5, false)]) (l' := [(9, .int .i64 (IntKind.i64.wrap ((2 * x) * 65536))), (1, .int .i64 l)]) [9, 1] (by kernel_rfl) ?_
  refine ops_conv (l' := [(9, .int .i64 ((2 * x) * 65536)), (1, .int .i64 l)]) (by rw [(i64in (x := (2 * x) * 65536) (by omega) (by omega))]) (fun _ h => h) ?_
  refine ops_run (is := [(3, false), (4, false)]) (r := [(5, false)]) (l' := [(11, .int .i64 (IntKind.i64.wrap (((2 * x) * 65536) + l))), (1, .int .i64 l)]) [11, 1] (by kernel_rfl) ?_
  refine ops_conv (l' := [(11, .int .i64 (((2 * x) * 65536) + l)), (1, .int .i64 l)]) (by rw [(i64in (x := ((2 * x) * 65536) + l) (by omega) (by omega))]) (fun _ h => h) ?_
  refine ops_run (is := [(5, false)]) (r := []) (l' := [(5, .int .i64 (((2 * x) * 65536) + l)), (1, .int .i64 l)]) [5, 1] (by kernel_rfl) ?_
  refine ops_nil ?_
  refine fin_then ?_
  refine st_seq ?_
  refine st_region [(0, false), (1, false), (2, false), (3, false), (4, false)] (by rfl) ?_
  refine ops_run (is := [(0, false), (1, false), (2, false)]) (r := [(3, false), (4, false)]) (l' := [(14, .int .i64 (IntKind.i64.wrap (2 * l))), (12, .int .i64 (((2 * x) * 65536) + l)), (5, .int .i64 (((2 * x) * 65536) + l)), (1, .int .i64 l)]) [14, 12, 5, 1] (by kernel_rfl) ?_
  refine ops_conv (l' := [(14, .int .i64 (2 * l)), (12, .int .i64 (((2 * x) * 65536) + l)), (5, .int .i64 (((2 * x) * 65536) + l)), (1, .int .i64 l)]) (by rw [(i64in (x := 2 * l) (by omega) (by omega))]) (fun _ h => h) ?_
  refine ops_val (op := (Go.Op.binOp Go.BinOp.quo 3 (Go.Operand.tmp 12) (Go.Operand.tmp 14) 3)) (d := some 15) (v := .int .i64 (IntKind.i64.wrap (Int.tdiv (((2 * x) * 65536) + l) (2 * l)))) ⟨by kernel_rfl⟩ (run_quo rfl rfl (by omega)) ?_
  refine ops_run (is := []) (r := [(4, false)]) (l' := [(15, .int .i64 (IntKind.i64.wrap (Int.tdiv (((2 * x) * 65536) + l) (2 * l)))), (5, .int .i64 (((2 * x) * 65536) + l)), (1, .int .i64 l)]) [15, 5, 1] (by kernel_rfl) ?_
  refine ops_conv (l' := [(15, .int .i64 (Int.tdiv (2 * x * 65536 + l) (2 * l))), (5, .int .i64 (((2 * x) * 65536) + l)), (1, .int .i64 l)]) (by rw [hwq]) (fun _ h => h) ?_
  refine ops_run (is := [(4, false)]) (r := []) (l' := [(6, .int .i64 (Int.tdiv (2 * x * 65536 + l) (2 * l))), (5, .int .i64 (((2 * x) * 65536) + l)), (1, .int .i64 l)]) [6, 5, 1] (by kernel_rfl) ?_
  refine ops_nil ?_
  refine fin_then ?_
  refine st_seq ?_
  refine st_seq ?_
  refine st_region [(0, false), (1, false), (2, false), (3, false), (4, false), (5, false), (6, false), (7, false), (8, false)] (by rfl) ?_
  refine ops_run (is := [(0, false), (1, false), (2, false)]) (r := [(3, false), (4, false), (5, false), (6, false), (7, false), (8, false)]) (l' := [(18, .bool (decide ((((2 * x) * 65536) + l) < 0))), (6, .int .i64 (Int.tdiv (2 * x * 65536 + l) (2 * l))), (5, .int .i64 (((2 * x) * 65536) + l)), (1, .int .i64 l)]) [18, 6, 5, 1] (by kernel_rfl) ?_
  refine ops_bool (t := decide ((((2 * x) * 65536) + l) < 0)) (l1 := [(18, .bool true), (6, .int .i64 (Int.tdiv (2 * x * 65536 + l) (2 * l))), (5, .int .i64 (((2 * x) * 65536) + l)), (1, .int .i64 l)]) (l2 := [(18, .bool false), (6, .int .i64 (Int.tdiv (2 * x * 65536 + l) (2 * l))), (5, .int .i64 (((2 * x) * 65536) + l)), (1, .int .i64 l)]) (fun h => by rw [h]) (fun h => by rw [h]) (fun hc1 => ?_) (fun hc1 => ?_)
  · --decide ((((2 * x) * 65536) + l) < 0)
    refine ops_run (is := [(3, false), (4, false), (5, false)]) (r := [(6, false), (7, false), (8, false)]) (l' := [(21, .int .i64 (IntKind.i64.wrap (2 * l))), (19, .int .i64 (((2 * x) * 65536) + l)), (18, .bool true), (6, .int .i64 (Int.tdiv (2 * x * 65536 + l) (2 * l)))]) [21, 19, 18, 6] (by kernel_rfl) ?_
    refine ops_conv (l' := [(21, .int .i64 (2 * l)), (19, .int .i64 (((2 * x) * 65536) + l)), (18, .bool true), (6, .int .i64 (Int.tdiv (2 * x * 65536 + l) (2 * l)))]) (by rw [(i64in (x := 2 * l) (by omega) (by omega))]) (fun _ h => h) ?_
    refine ops_val (op := (Go.Op.binOp Go.BinOp.rem 3 (Go.Operand.tmp 19) (Go.Operand.tmp 21) 3)) (d := some 22) (v := .int .i64 (Int.tmod (((2 * x) * 65536) + l) (2 * l))) ⟨by kernel_rfl⟩ (run_rem rfl rfl (by omega)) ?_
    refine ops_run (is := [(7, false), (8, false)]) (r := []) (l' := [(24, .bool (!(Int.tmod (((2 * x) * 65536) + l) (2 * l) == 0))), (6, .int .i64 (Int.tdiv (2 * x * 65536 + l) (2 * l)))]) [24, 6] (by kernel_rfl) ?_
    refine ops_nil ?_
    refine fin_then ?_
    refine st_if (b := !(Int.tmod (((2 * x) * 65536) + l) (2 * l) == 0)) rfl (fun hc2 => ?_) (fun hc2 => ?_)
    · --
      refine st_region [(0, false), (1, false), (2, false)] (by rfl) ?_
      refine ops_run (is := [(0, false), (1, false)]) (r := [(2, false)]) (l' := [(26, .int .i64 (IntKind.i64.wrap (Int.tdiv (2 * x * 65536 + l) (2 * l) - 1))), (6, .int .i64 (Int.tdiv (2 * x * 65536 + l) (2 * l)))]) [26, 6] (by kernel_rfl) ?_
      refine ops_conv (l' := [(26, .int .i64 (Int.tdiv (2 * x * 65536 + l) (2 * l) - 1)), (6, .int .i64 (Int.tdiv (2 * x * 65536 + l) (2 * l)))]) (by rw [hwq1]) (fun _ h => h) ?_
      refine ops_run (is := [(2, false)]) (r := []) (l' := [(6, .int .i64 (Int.tdiv (2 * x * 65536 + l) (2 * l) - 1))]) [6] (by kernel_rfl) ?_
      refine ops_nil ?_
      refine fin_then ?_
      refine st_seq ?_
      refine st_region [(0, false), (1, false)] (by rfl) ?_
      refine ops_run (is := [(0, false), (1, false)]) (r := []) (l' := [(4, .int .i64 (Int.tdiv (2 * x * 65536 + l) (2 * l) - 1))]) [4] (by kernel_rfl) ?_
      refine ops_nil ?_
      refine fin_then ?_
      refine st_ret ?_
      refine fin_ret [.tmp 4] [.int .i64 (Int.tdiv (2 * x * 65536 + l) (2 * l) - 1)] rfl rfl (fun w_ hM => (.tmp rfl .nil)) (fun w_ hM => ?_)
      refine ⟨?_, hM.done⟩
      have := of_decide_eq_true hc1
      have := (by simpa using hc2 : ¬ (Int.tmod (((2 * x) * 65536) + l) (2 * l) = 0))
      rw [if_pos ⟨by omega, by omega⟩] at hz
      exact congrArg (fun z => Ending.returned (.int .i64 z)) hz
    · --
      refine st_skip ?_
      refine fin_then ?_
      refine st_seq ?_
      refine st_region [(0, false), (1, false)] (by rfl) ?_
      refine ops_run (is := [(0, false), (1, false)]) (r := []) (l' := [(4, .int .i64 (Int.tdiv (2 * x * 65536 + l) (2 * l)))]) [4] (by kernel_rfl) ?_
      refine ops_nil ?_
      refine fin_then ?_
      refine st_ret ?_
      refine fin_ret [.tmp 4] [.int .i64 (Int.tdiv (2 * x * 65536 + l) (2 * l))] rfl rfl (fun w_ hM => (.tmp rfl .nil)) (fun w_ hM => ?_)
      refine ⟨?_, hM.done⟩
      have := of_decide_eq_true hc1
      have := (by simpa using hc2 : (Int.tmod (((2 * x) * 65536) + l) (2 * l) = 0))
      rw [if_neg (fun h => by omega)] at hz
      exact congrArg (fun z => Ending.returned (.int .i64 z)) hz
  · --decide ((((2 * x) * 65536) + l) < 0)
    refine ops_run (is := [(3, false), (4, false), (5, false), (6, false), (7, false), (8, false)]) (r := []) (l' := [(24, .bool false), (6, .int .i64 (Int.tdiv (2 * x * 65536 + l) (2 * l)))]) [24, 6] (by kernel_rfl) ?_
    refine ops_nil ?_
    refine fin_then ?_
    refine st_false rfl ?_
    refine st_skip ?_
    refine fin_then ?_
    refine st_seq ?_
    refine st_region [(0, false), (1, false)] (by rfl) ?_
    refine ops_run (is := [(0, false), (1, false)]) (r := []) (l' := [(4, .int .i64 (Int.tdiv (2 * x * 65536 + l) (2 * l)))]) [4] (by kernel_rfl) ?_
    refine ops_nil ?_
    refine fin_then ?_
    refine st_ret ?_
    refine fin_ret [.tmp 4] [.int .i64 (Int.tdiv (2 * x * 65536 + l) (2 * l))] rfl rfl (fun w_ hM => (.tmp rfl .nil)) (fun w_ hM => ?_)
    refine ⟨?_, hM.done⟩
    have := of_decide_eq_false hc1
    rw [if_neg (fun h => by omega)] at hz
    exact congrArg (fun z => Ending.returned (.int .i64 z)) hz
set_option maxHeartbeats 4000000 in
set_option maxRecDepth 100000 in
theorem Len_calls (ax ay : Int) (w : World) : Calls Try.prog 75 #[.agg #[.int .i64 ax, .int .i64 ay]] w fun e w' => e = .returned (.int .i64 (min (max (longV [min (max ax (-1099511627776)) 1099511627776, min (max ay (-1099511627776)) 1099511627776]) (-1099511627776)) 1099511627776)) ∧ Below w.heap.size w w' := by
  have hcx : (min (max ax (-1099511627776)) 1099511627776).natAbs ≤ 1099511627776 := by omega
  have hcy : (min (max ay (-1099511627776)) 1099511627776).natAbs ≤ 1099511627776 := by omega
  refine sx_calls Try.func75 rfl (n := 11) (by kernel_rfl) (l := [(0, .agg #[.int .i64 ax, .int .i64 ay])]) rfl (by rfl) (Mem.nil w) ?_
  refine st_seq ?_
  refine st_region [(0, false), (1, false)] (by rfl) ?_
  refine ops_new (d := some 1) (o := .cells #[.int .i64 ax, .int .i64 ay] 101) (v := fun b1 => .pointer (some ⟨b1, 0, none⟩)) (M' := fun b1 => Mem w [.blk b1 [.int .i64 ax, .int .i64 ay] 101]) (fun b1 => ⟨by kernel_rfl⟩) (fun w_ hM hS => ⟨hM.blk [.int .i64 ax, .int .i64 ay] 101, trivial⟩) (fun b1 => ?_)
  refine ops_run (is := [(1, false)]) (r := []) (l' := [(1, .pointer (some ⟨b1, 0, none⟩))]) [1] (by kernel_rfl) ?_
  refine ops_nil ?_
  refine fin_then ?_
  refine st_seq ?_
  refine st_region_draw [(0, true), (1, true), (3, true), (4, true), (2, false), (5, false), (6, false), (7, false), (8, true)] (Mem w [.blk b1 [.int .i64 ax, .int .i64 ay] 101]) (by kernel_rfl) (by kernel_rfl) (by kernel_rfl) (fun _ d _ _ _ h => by cases d <;> exact h) (M' := Mem w [.blk b1 [.int .i64 ax, .int .i64 ay] 101]) (fun w_ hM => ⟨hM.drew, hM.drew.sub (by simp)⟩) ?_
  refine ops_run (is := [(0, true)]) (r := [(1, true), (3, true), (4, true), (2, false), (5, false), (6, false), (7, false), (8, true)]) (l' := [(3, .pointer (some ⟨b1, 0, none⟩)), (1, .pointer (some ⟨b1, 0, none⟩))]) [3, 1] (by kernel_rfl) ?_
  refine ops_load (d := some 4) (an := [.v (.int .i64 ax)]) (evs := [.load ⟨b1, 0, none⟩ (.int .i64 ax)]) (v := .int .i64 ax) ⟨by kernel_rfl⟩ (fun w_ hM => ⟨hM.cell 0 rfl rfl, rfl⟩) ?_
  refine ops_run (is := [(3, true)]) (r := [(4, true), (2, false), (5, false), (6, false), (7, false), (8, true)]) (l' := [(6, .pointer (some ⟨b1, 1, none⟩)), (4, .int .i64 ax)]) [6, 4] (by kernel_rfl) ?_
  refine ops_load (d := some 7) (an := [.v (.int .i64 ay)]) (evs := [.load ⟨b1, 1, none⟩ (.int .i64 ay)]) (v := .int .i64 ay) ⟨by kernel_rfl⟩ (fun w_ hM => ⟨hM.cell 0 rfl rfl, rfl⟩) ?_
  refine ops_run (is := []) (r := [(2, false), (5, false), (6, false), (7, false), (8, true)]) (l' := [(7, .int .i64 ay), (4, .int .i64 ax)]) [7, 4] (by kernel_rfl) ?_
  refine ops_call (σ := Unit) (d := some 5) (f := 82) (args := #[.int .i64 ax]) (v := fun _ => .int .i64 (min (max ax (-1099511627776)) 1099511627776)) (M' := fun _ => Mem w [.blk b1 [.int .i64 ax, .int .i64 ay] 101]) ⟨by kernel_rfl⟩ (fun w_ hM hS => (Clamp_calls ax w_).mono (by rintro e w' ⟨rfl, hb⟩; exact ⟨(), rfl, hM.step hb, hS.step hb⟩)) (fun _ => ?_)
  refine ops_run (is := []) (r := [(5, false), (6, false), (7, false), (8, true)]) (l' := [(5, .int .i64 (min (max ax (-1099511627776)) 1099511627776)), (7, .int .i64 ay)]) [5, 7] (by kernel_rfl) ?_
  refine ops_call (σ := Unit) (d := some 8) (f := 82) (args := #[.int .i64 ay]) (v := fun _ => .int .i64 (min (max ay (-1099511627776)) 1099511627776)) (M' := fun _ => Mem w [.blk b1 [.int .i64 ax, .int .i64 ay] 101]) ⟨by kernel_rfl⟩ (fun w_ hM hS => (Clamp_calls ay w_).mono (by rintro e w' ⟨rfl, hb⟩; exact ⟨(), rfl, hM.step hb, hS.step hb⟩)) (fun _ => ?_)
  refine ops_run (is := []) (r := [(6, false), (7, false), (8, true)]) (l' := [(8, .int .i64 (min (max ay (-1099511627776)) 1099511627776)), (5, .int .i64 (min (max ax (-1099511627776)) 1099511627776))]) [8, 5] (by kernel_rfl) ?_
  refine ops_call (σ := Unit) (d := some 9) (f := 90) (args := #[.int .i64 (min (max ax (-1099511627776)) 1099511627776), .int .i64 (min (max ay (-1099511627776)) 1099511627776)]) (v := fun _ => .int .i64 (longV [min (max ax (-1099511627776)) 1099511627776, min (max ay (-1099511627776)) 1099511627776])) (M' := fun _ => Mem w [.blk b1 [.int .i64 ax, .int .i64 ay] 101]) ⟨by kernel_rfl⟩ (fun w_ hM hS => (length_calls (min (max ax (-1099511627776)) 1099511627776) (min (max ay (-1099511627776)) 1099511627776) w_ (by omega) (by omega)).mono (by rintro e w' ⟨rfl, hb⟩; exact ⟨(), rfl, hM.step hb, hS.step hb⟩)) (fun _ => ?_)
  refine ops_run (is := []) (r := [(7, false), (8, true)]) (l' := [(9, .int .i64 (longV [min (max ax (-1099511627776)) 1099511627776, min (max ay (-1099511627776)) 1099511627776]))]) [9] (by kernel_rfl) ?_
  refine ops_call (σ := Unit) (d := some 10) (f := 82) (args := #[.int .i64 (longV [min (max ax (-1099511627776)) 1099511627776, min (max ay (-1099511627776)) 1099511627776])]) (v := fun _ => .int .i64 (min (max (longV [min (max ax (-1099511627776)) 1099511627776, min (max ay (-1099511627776)) 1099511627776]) (-1099511627776)) 1099511627776)) (M' := fun _ => Mem w [.blk b1 [.int .i64 ax, .int .i64 ay] 101]) ⟨by kernel_rfl⟩ (fun w_ hM hS => (Clamp_calls (longV [min (max ax (-1099511627776)) 1099511627776, min (max ay (-1099511627776)) 1099511627776]) w_).mono (by rintro e w' ⟨rfl, hb⟩; exact ⟨(), rfl, hM.step hb, hS.step hb⟩)) (fun _ => ?_)
  refine ops_run (is := [(8, true)]) (r := []) (l' := [(2, .int .i64 (min (max (longV [min (max ax (-1099511627776)) 1099511627776, min (max ay (-1099511627776)) 1099511627776]) (-1099511627776)) 1099511627776))]) [2] (by kernel_rfl) ?_
  refine ops_nil ?_
  refine fin_then ?_
  refine st_ret ?_
  refine fin_ret [.tmp 2] [.int .i64 (min (max (longV [min (max ax (-1099511627776)) 1099511627776, min (max ay (-1099511627776)) 1099511627776]) (-1099511627776)) 1099511627776)] rfl rfl (fun w_ hM => (.tmp rfl .nil)) (fun w_ hM => ?_)
  refine ⟨?_, hM.done⟩
  rfl
theorem max_scaled (x y : Int) (s : Nat) : max (((x * (s : Int)).natAbs : Nat) : Int) (((y * (s : Int)).natAbs : Nat) : Int) = ((max x.natAbs y.natAbs * s : Nat) : Int) := by
  rw [abs_mul, abs_mul]
  rcases Nat.le_total x.natAbs y.natAbs with h | h
  · have := Nat.mul_le_mul_right s h
    rw [Nat.max_eq_right h]; omega
  · have := Nat.mul_le_mul_right s h
    rw [Nat.max_eq_left h]; omega
theorem dbl_in {x : Int} {s : Nat} (h : x.natAbs * s ≤ 1073741824) : IntKind.i64.wrap (2 * (x * (s : Int))) = x * ((2 * s : Nat) : Int) := by
  have := abs_mul x s
  rw [i64in (by omega) (by omega)]
  simp [Int.mul_left_comm]
theorem far_two (a b : Int) : farK [a, b] 2 = ((max (clV a).natAbs (clV b).natAbs : Nat) : Int) := by
  show max (max (max (max 0 (clV a)) (-(clV a))) (clV b)) (-(clV b)) = _
  omega
theorem abs_le_max {x y : Int} {s : Nat} : x.natAbs * s ≤ max x.natAbs y.natAbs * s ∧ y.natAbs * s ≤ max x.natAbs y.natAbs * s := ⟨Nat.mul_le_mul_right s (Nat.le_max_left ..), Nat.mul_le_mul_right s (Nat.le_max_right ..)⟩
theorem Clamp_as (a x : Int) (w : World) (h : min (max a (-1099511627776)) 1099511627776 = x) : Calls Try.prog 82 #[.int .i64 a] w fun e w' => e = .returned (.int .i64 x) ∧ Below w.heap.size w w' := by
  subst h; exact Clamp_calls a w
set_option maxHeartbeats 4000000 in
set_option maxRecDepth 100000 in
theorem Unit0_some (ax ay X Y : Int) (w : World) (hX : min (max ax (-1099511627776)) 1099511627776 = X) (hY : min (max ay (-1099511627776)) 1099511627776 = Y) (h0 : 0 < farK [ax, ay] 2) : Calls Try.prog 79 #[.agg #[.int .i64 ax, .int .i64 ay]] w fun e w' => e = .returned (.agg #[.int .i64 ((evenV [ax, ay]).getD 0 0), .int .i64 ((evenV [ax, ay]).getD 1 0)]) ∧ Below w.heap.size w w' := by
  have hfar : farK [ax, ay] 2 = ((max X.natAbs Y.natAbs : Nat) : Int) := by rw [far_two, show clV ax = X from hX, show clV ay = Y from hY]
  have hmp : 0 < max X.natAbs Y.natAbs := by omega
  have hmu : max X.natAbs Y.natAbs ≤ 1099511627776 := by have := farK_ok [ax, ay] 2; omega
  refine sx_calls Try.func79 rfl (n := 39) (by kernel_rfl) (l := [(0, .agg #[.int .i64 ax, .int .i64 ay])]) rfl (by rfl) (Mem.nil w) ?_
  refine st_seq ?_
  refine st_region [(0, false), (1, false)] (by rfl) ?_
  refine ops_new (d := some 1) (o := .cells #[.int .i64 ax, .int .i64 ay] 101) (v := fun b1 => .pointer (some ⟨b1, 0, none⟩)) (M' := fun b1 => Mem w [.blk b1 [.int .i64 ax, .int .i64 ay] 101]) (fun b1 => ⟨by kernel_rfl⟩) (fun w_ hM hS => ⟨hM.blk [.int .i64 ax, .int .i64 ay] 101, trivial⟩) (fun b1 => ?_)
  refine ops_run (is := []) (r := [(1, false)]) (l' := [(1, .pointer (some ⟨b1, 0, none⟩))]) [1] (by kernel_rfl) ?_
  refine ops_new (d := some 2) (o := .cells #[.int .i64 0, .int .i64 0] 101) (v := fun b2 => .pointer (some ⟨b2, 0, none⟩)) (M' := fun b2 => Mem w [.blk b2 [.int .i64 0, .int .i64 0] 101, .blk b1 [.int .i64 ax, .int .i64 ay] 101]) (fun b2 => ⟨by kernel_rfl⟩) (fun w_ hM hS => ⟨hM.blk [.int .i64 0, .int .i64 0] 101, trivial⟩) (fun b2 => ?_)
  refine ops_run (is := []) (r := []) (l' := [(2, .pointer (some ⟨b2, 0, none⟩)), (1, .pointer (some ⟨b1, 0, none⟩))]) [2, 1] (by kernel_rfl) ?_
  refine ops_nil ?_
  refine fin_then ?_
  refine st_seq ?_
  refine st_region_draw [(0, true), (1, true), (3, true), (4, true), (2, false), (5, false), (6, true), (7, true)] (Mem w [.blk b2 [.int .i64 0, .int .i64 0] 101, .blk b1 [.int .i64 ax, .int .i64 ay] 101]) (by kernel_rfl) (by kernel_rfl) (by kernel_rfl) (fun _ d _ _ _ h => by cases d <;> exact h) (M' := Mem w [.blk b2 [.int .i64 0, .int .i64 0] 101, .blk b1 [.int .i64 ax, .int .i64 ay] 101]) (fun w_ hM => ⟨hM.drew, hM.drew.sub (by simp)⟩) ?_
  refine ops_run (is := [(0, true)]) (r := [(1, true), (3, true), (4, true), (2, false), (5, false), (6, true), (7, true)]) (l' := [(6, .pointer (some ⟨b1, 0, none⟩)), (2, .pointer (some ⟨b2, 0, none⟩)), (1, .pointer (some ⟨b1, 0, none⟩))]) [6, 2, 1] (by kernel_rfl) ?_
  refine ops_load (d := some 7) (an := [.v (.int .i64 ax)]) (evs := [.load ⟨b1, 0, none⟩ (.int .i64 ax)]) (v := .int .i64 ax) ⟨by kernel_rfl⟩ (fun w_ hM => ⟨hM.cell 1 rfl rfl, rfl⟩) ?_
  refine ops_run (is := [(3, true)]) (r := [(4, true), (2, false), (5, false), (6, true), (7, true)]) (l' := [(9, .pointer (some ⟨b1, 1, none⟩)), (7, .int .i64 ax), (2, .pointer (some ⟨b2, 0, none⟩))]) [9, 7, 2] (by kernel_rfl) ?_
  refine ops_load (d := some 10) (an := [.v (.int .i64 ay)]) (evs := [.load ⟨b1, 1, none⟩ (.int .i64 ay)]) (v := .int .i64 ay) ⟨by kernel_rfl⟩ (fun w_ hM => ⟨hM.cell 1 rfl rfl, rfl⟩) ?_
  refine ops_run (is := []) (r := [(2, false), (5, false), (6, true), (7, true)]) (l' := [(10, .int .i64 ay), (7, .int .i64 ax), (2, .pointer (some ⟨b2, 0, none⟩))]) [10, 7, 2] (by kernel_rfl) ?_
  refine ops_call (σ := Unit) (d := some 8) (f := 82) (args := #[.int .i64 ax]) (v := fun _ => .int .i64 X) (M' := fun _ => Mem w [.blk b2 [.int .i64 0, .int .i64 0] 101, .blk b1 [.int .i64 ax, .int .i64 ay] 101]) ⟨by kernel_rfl⟩ (fun w_ hM hS => (Clamp_as ax X w_ hX).mono (by rintro e w' ⟨rfl, hb⟩; exact ⟨(), rfl, hM.step hb, hS.step hb⟩)) (fun _ => ?_)
  refine ops_run (is := []) (r := [(5, false), (6, true), (7, true)]) (l' := [(8, .int .i64 X), (10, .int .i64 ay), (2, .pointer (some ⟨b2, 0, none⟩))]) [8, 10, 2] (by kernel_rfl) ?_
  refine ops_call (σ := Unit) (d := some 11) (f := 82) (args := #[.int .i64 ay]) (v := fun _ => .int .i64 Y) (M' := fun _ => Mem w [.blk b2 [.int .i64 0, .int .i64 0] 101, .blk b1 [.int .i64 ax, .int .i64 ay] 101]) ⟨by kernel_rfl⟩ (fun w_ hM hS => (Clamp_as ay Y w_ hY).mono (by rintro e w' ⟨rfl, hb⟩; exact ⟨(), rfl, hM.step hb, hS.step hb⟩)) (fun _ => ?_)
  refine ops_run (is := [(6, true), (7, true)]) (r := []) (l' := [(4, .int .i64 Y), (3, .int .i64 X), (2, .pointer (some ⟨b2, 0, none⟩))]) [4, 3, 2] (by kernel_rfl) ?_
  refine ops_nil ?_
  refine fin_then ?_
  refine st_seq ?_
  refine st_seq ?_
  refine st_region [(0, false), (1, false), (2, false), (3, false), (4, false), (5, false)] (by rfl) ?_
  refine ops_run (is := [(0, false), (1, false), (2, false)]) (r := [(3, false), (4, false), (5, false)]) (l' := [(14, .bool (X == 0)), (4, .int .i64 Y), (3, .int .i64 X), (2, .pointer (some ⟨b2, 0, none⟩))]) [14, 4, 3, 2] (by kernel_rfl) ?_
  refine ops_bool (t := (X == 0)) (l1 := [(14, .bool true), (4, .int .i64 Y), (3, .int .i64 X), (2, .pointer (some ⟨b2, 0, none⟩))]) (l2 := [(14, .bool false), (4, .int .i64 Y), (3, .int .i64 X), (2, .pointer (some ⟨b2, 0, none⟩))]) (fun h => by rw [h]) (fun h => by rw [h]) (fun hc3 => ?_) (fun hc3 => ?_)
  · --(X == 0)
    refine ops_run (is := [(3, false), (4, false), (5, false)]) (r := []) (l' := [(17, .bool (Y == 0)), (4, .int .i64 Y), (3, .int .i64 X), (2, .pointer (some ⟨b2, 0, none⟩))]) [17, 4, 3, 2] (by kernel_rfl) ?_
    refine ops_nil ?_
    refine fin_then ?_
    refine st_if (b := (Y == 0)) rfl (fun hc4 => ?_) (fun hc4 => ?_)
    · --
      refine st_seq ?_
      refine st_region [(0, false), (1, false)] (by rfl) ?_
      refine ops_run (is := [(0, false)]) (r := [(1, false)]) (l' := [(18, .agg #[.int .i64 0, .int .i64 0]), (2, .pointer (some ⟨b2, 0, none⟩))]) [18, 2] (by kernel_rfl) ?_
      refine ops_store (an := []) (evs := [.store ⟨b2, 0, none⟩ (.int .i64 0), .store ⟨b2, 1, none⟩ (.int .i64 0)]) (M' := Mem w [.blk b2 [.int .i64 0, .int .i64 0] 101, .blk b1 [.int .i64 ax, .int .i64 ay] 101]) ⟨by kernel_rfl⟩ (fun w_ hM hS => let ⟨w', he, h'⟩ := hM.evs_stores [.int .i64 0, .int .i64 0] 0 rfl 0 (Nat.le_of_ble_eq_true rfl); ⟨w', he, h', trivial⟩) ?_
      refine ops_run (is := []) (r := []) (l' := [(2, .pointer (some ⟨b2, 0, none⟩))]) [2] (by kernel_rfl) ?_
      refine ops_nil ?_
      refine fin_then ?_
      refine st_ret ?_
      refine fin_ret_then ?_
      refine fin_ret [.cell 2 101] [.agg #[.int .i64 0, .int .i64 0]] rfl rfl (fun w_ hM => (.cell rfl (tr_run _ [.v (.int .i64 0), .v (.int .i64 0)] [.load ⟨b2, 0, none⟩ (.int .i64 0), .load ⟨b2, 1, none⟩ (.int .i64 0)] (.agg #[.int .i64 0, .int .i64 0] : Value) _ _ (by kernel_rfl) ⟨hM.cell 0 rfl rfl, hM.cell 0 rfl rfl, rfl⟩) .nil)) (fun w_ hM => ?_)
      exfalso
      have := beq_iff_eq.1 hc3
      have := beq_iff_eq.1 hc4
      omega
    · --
      refine st_skip ?_
      refine fin_then ?_
      refine st_seq ?_
      refine st_block ?_
      refine st_conv (l' := [(17, .bool (Y == 0)), (4, .int .i64 (Y * ((1 : Nat) : Int))), (3, .int .i64 (X * ((1 : Nat) : Int))), (2, .pointer (some ⟨b2, 0, none⟩))]) (M' := Mem w [.blk b2 [.int .i64 0, .int .i64 0] 101, .blk b1 [.int .i64 ax, .int .i64 ay] 101]) (by rw [show X * ((1 : Nat) : Int) = X from Int.mul_one X, show Y * ((1 : Nat) : Int) = Y from Int.mul_one Y]) (fun w_ hM => hM) ?_
      refine st_loop (σ := Nat) 1 (fun s => [(4, .int .i64 (Y * (s : Int))), (3, .int .i64 (X * (s : Int))), (2, .pointer (some ⟨b2, 0, none⟩))]) (fun s => Mem w [.blk b2 [.int .i64 0, .int .i64 0] 101, .blk b1 [.int .i64 ax, .int .i64 ay] 101]) (fun s => 0 < max X.natAbs Y.natAbs * s ∧ max X.natAbs Y.natAbs * s ≤ 1099511627776 ∧ dbl (max X.natAbs Y.natAbs) s = dbl (max X.natAbs Y.natAbs) 1) (fun s => 1073741824 - max X.natAbs Y.natAbs * s) (by exact ⟨by omega, by omega, rfl⟩) (look_has ⟨rfl, rfl, rfl, trivial⟩) (fun w_ hM => by exact hM) ?_
      rintro s hI
      obtain ⟨hs0, hs1, hdb⟩ := hI
      have hs0 : 0 < max X.natAbs Y.natAbs * s := hs0
      have hs1 : max X.natAbs Y.natAbs * s ≤ 1099511627776 := hs1
      have hdb : dbl (max X.natAbs Y.natAbs) s = dbl (max X.natAbs Y.natAbs) 1 := hdb
      have hax := abs_mul X s
      have hay := abs_mul Y s
      have hle := abs_le_max (x := X) (y := Y) (s := s)
      refine st_seq ?_
      refine st_seq ?_
      refine st_region [(0, false), (1, false), (2, false), (3, false), (4, false), (5, false)] (by rfl) ?_
      refine ops_run (is := [(0, false)]) (r := [(1, false), (2, false), (3, false), (4, false), (5, false)]) (l' := [(19, .int .i64 (X * (s : Int))), (4, .int .i64 (Y * (s : Int))), (3, .int .i64 (X * (s : Int))), (2, .pointer (some ⟨b2, 0, none⟩))]) [19, 4, 3, 2] (by kernel_rfl) ?_
      refine ops_call (σ := Unit) (d := some 20) (f := 96) (args := #[.int .i64 (X * (s : Int))]) (v := fun _ => .int .u64 (((X * (s : Int)).natAbs : Nat) : Int)) (M' := fun _ => Mem w [.blk b2 [.int .i64 0, .int .i64 0] 101, .blk b1 [.int .i64 ax, .int .i64 ay] 101]) ⟨by kernel_rfl⟩ (fun w_ hM hS => (mag_calls (X * (s : Int)) w_ (by omega)).mono (by rintro e w' ⟨rfl, hb⟩; exact ⟨(), rfl, hM.step hb, trivial⟩)) (fun _ => ?_)
      refine ops_run (is := [(2, false)]) (r := [(3, false), (4, false), (5, false)]) (l' := [(21, .int .i64 (Y * (s : Int))), (20, .int .u64 (((X * (s : Int)).natAbs : Nat) : Int)), (4, .int .i64 (Y * (s : Int))), (3, .int .i64 (X * (s : Int))), (2, .pointer (some ⟨b2, 0, none⟩))]) [21, 20, 4, 3, 2] (by kernel_rfl) ?_
      refine ops_call (σ := Unit) (d := some 22) (f := 96) (args := #[.int .i64 (Y * (s : Int))]) (v := fun _ => .int .u64 (((Y * (s : Int)).natAbs : Nat) : Int)) (M' := fun _ => Mem w [.blk b2 [.int .i64 0, .int .i64 0] 101, .blk b1 [.int .i64 ax, .int .i64 ay] 101]) ⟨by kernel_rfl⟩ (fun w_ hM hS => (mag_calls (Y * (s : Int)) w_ (by omega)).mono (by rintro e w' ⟨rfl, hb⟩; exact ⟨(), rfl, hM.step hb, trivial⟩)) (fun _ => ?_)
      refine ops_run (is := []) (r := [(4, false), (5, false)]) (l' := [(22, .int .u64 (((Y * (s : Int)).natAbs : Nat) : Int)), (20, .int .u64 (((X * (s : Int)).natAbs : Nat) : Int)), (4, .int .i64 (Y * (s : Int))), (3, .int .i64 (X * (s : Int))), (2, .pointer (some ⟨b2, 0, none⟩))]) [22, 20, 4, 3, 2] (by kernel_rfl) ?_
      refine ops_val (op := (Go.Op.call { callee := (Go.Callee.builtin Go.Builtin.max), args := #[(Go.Operand.tmp 20), (Go.Operand.tmp 22)], argTypes := #[25, 25] })) (d := some 23) (v := .int .u64 (max (((X * (s : Int)).natAbs : Nat) : Int) (((Y * (s : Int)).natAbs : Nat) : Int))) ⟨by kernel_rfl⟩ (run_max rfl rfl) ?_
      refine ops_run (is := []) (r := [(5, false)]) (l' := [(23, .int .u64 (max (((X * (s : Int)).natAbs : Nat) : Int) (((Y * (s : Int)).natAbs : Nat) : Int))), (4, .int .i64 (Y * (s : Int))), (3, .int .i64 (X * (s : Int))), (2, .pointer (some ⟨b2, 0, none⟩))]) [23, 4, 3, 2] (by kernel_rfl) ?_
      refine ops_conv (l' := [(23, .int .u64 ((max X.natAbs Y.natAbs * s : Nat) : Int)), (4, .int .i64 (Y * (s : Int))), (3, .int .i64 (X * (s : Int))), (2, .pointer (some ⟨b2, 0, none⟩))]) (by rw [(max_scaled X Y s)]) (fun _ h => h) ?_
      refine ops_run (is := [(5, false)]) (r := []) (l' := [(24, .bool (decide (((max X.natAbs Y.natAbs * s : Nat) : Int) < 1073741824))), (4, .int .i64 (Y * (s : Int))), (3, .int .i64 (X * (s : Int))), (2, .pointer (some ⟨b2, 0, none⟩))]) [24, 4, 3, 2] (by kernel_rfl) ?_
      refine ops_nil ?_
      refine fin_then ?_
      refine st_if (b := decide (((max X.natAbs Y.natAbs * s : Nat) : Int) < 1073741824)) rfl (fun hc5 => ?_) (fun hc5 => ?_)
      · --
        have hlt : max X.natAbs Y.natAbs * s < 1073741824 := by have := of_decide_eq_true hc5; omega
        have he2 : max X.natAbs Y.natAbs * (2 * s) = 2 * (max X.natAbs Y.natAbs * s) := Nat.mul_left_comm ..
        have hgo := dbl_go hs0 hlt
        have hdx := dbl_in (x := X) (s := s) (by omega)
        have hdy := dbl_in (x := Y) (s := s) (by omega)
        refine st_skip ?_
        refine fin_then ?_
        refine st_block ?_
        refine st_region [(0, false), (1, false), (2, false), (3, false), (4, false), (5, false)] (by rfl) ?_
        refine ops_run (is := [(0, false), (1, false)]) (r := [(2, false), (3, false), (4, false), (5, false)]) (l' := [(26, .int .i64 (IntKind.i64.wrap (2 * (X * (s : Int))))), (4, .int .i64 (Y * (s : Int))), (3, .int .i64 (X * (s : Int))), (2, .pointer (some ⟨b2, 0, none⟩))]) [26, 4, 3, 2] (by kernel_rfl) ?_
        refine ops_conv (l' := [(26, .int .i64 (X * ((2 * s : Nat) : Int))), (4, .int .i64 (Y * (s : Int))), (3, .int .i64 (X * (s : Int))), (2, .pointer (some ⟨b2, 0, none⟩))]) (by rw [hdx]) (fun _ h => h) ?_
        refine ops_run (is := [(2, false), (3, false)]) (r := [(4, false), (5, false)]) (l' := [(28, .int .i64 (IntKind.i64.wrap (2 * (Y * (s : Int))))), (26, .int .i64 (X * ((2 * s : Nat) : Int))), (4, .int .i64 (Y * (s : Int))), (3, .int .i64 (X * (s : Int))), (2, .pointer (some ⟨b2, 0, none⟩))]) [28, 26, 4, 3, 2] (by kernel_rfl) ?_
        refine ops_conv (l' := [(28, .int .i64 (Y * ((2 * s : Nat) : Int))), (26, .int .i64 (X * ((2 * s : Nat) : Int))), (4, .int .i64 (Y * (s : Int))), (3, .int .i64 (X * (s : Int))), (2, .pointer (some ⟨b2, 0, none⟩))]) (by rw [hdy]) (fun _ h => h) ?_
        refine ops_run (is := [(4, false), (5, false)]) (r := []) (l' := [(4, .int .i64 (Y * ((2 * s : Nat) : Int))), (3, .int .i64 (X * ((2 * s : Nat) : Int))), (2, .pointer (some ⟨b2, 0, none⟩))]) [4, 3, 2] (by kernel_rfl) ?_
        refine ops_nil ?_
        refine fin_block ?_
        refine fin_round (2 * s) (by exact ⟨show 0 < max X.natAbs Y.natAbs * (2 * s) by omega, show max X.natAbs Y.natAbs * (2 * s) ≤ 1099511627776 by omega, hgo ▸ hdb⟩) (by (show 1073741824 - max X.natAbs Y.natAbs * (2 * s) < 1073741824 - max X.natAbs Y.natAbs * s; omega)) (look_has ⟨rfl, rfl, rfl, trivial⟩) (fun w_ hM => by exact hM)
      · --
        have hge : 1073741824 ≤ max X.natAbs Y.natAbs * s := by have := of_decide_eq_false hc5; omega
        have hsc : s = scaleV [ax, ay] := by unfold scaleV; show s = dbl (farK [ax, ay] 2).toNat 1; rw [hfar, Int.toNat_natCast, ← hdb]; exact (dbl_stop hge).symm
        obtain ⟨hso1, hso2, hso3, hso4⟩ := scaled_ok (C := [ax, ay]) h0 (by simp)
        have hsd : scaled [ax, ay] = [X * (s : Int), Y * (s : Int)] := by rw [hsc, ← hX, ← hY]; rfl
        rw [hsd] at hso2 hso3 hso4
        refine st_exit ?_
        refine fin_exit_then ?_
        refine fin_exit_then ?_
        refine fin_exit ?_
        refine fin_then ?_
        refine st_seq ?_
        refine st_region [(0, false), (1, false), (2, false), (3, false)] (by rfl) ?_
        refine ops_run (is := [(0, false), (1, false)]) (r := [(2, false), (3, false)]) (l' := [(30, .int .i64 (Y * (s : Int))), (29, .int .i64 (X * (s : Int))), (4, .int .i64 (Y * (s : Int))), (3, .int .i64 (X * (s : Int))), (2, .pointer (some ⟨b2, 0, none⟩))]) [30, 29, 4, 3, 2] (by kernel_rfl) ?_
        refine ops_call (σ := Unit) (d := some 31) (f := 90) (args := #[.int .i64 (X * (s : Int)), .int .i64 (Y * (s : Int))]) (v := fun _ => .int .i64 (longV [X * (s : Int), Y * (s : Int)])) (M' := fun _ => Mem w [.blk b2 [.int .i64 0, .int .i64 0] 101, .blk b1 [.int .i64 ax, .int .i64 ay] 101]) ⟨by kernel_rfl⟩ (fun w_ hM hS => (length_calls (X * (s : Int)) (Y * (s : Int)) w_ (by omega) (by omega)).mono (by rintro e w' ⟨rfl, hb⟩; exact ⟨(), rfl, hM.step hb, trivial⟩)) (fun _ => ?_)
        refine ops_run (is := [(3, false)]) (r := []) (l' := [(5, .int .i64 (longV [X * (s : Int), Y * (s : Int)])), (4, .int .i64 (Y * (s : Int))), (3, .int .i64 (X * (s : Int))), (2, .pointer (some ⟨b2, 0, none⟩))]) [5, 4, 3, 2] (by kernel_rfl) ?_
        refine ops_nil ?_
        refine fin_then ?_
        refine st_seq ?_
        refine st_region [(0, false), (1, false), (2, false), (3, false), (4, false), (5, false), (6, false), (7, false)] (by rfl) ?_
        refine ops_run (is := [(0, false), (1, false)]) (r := [(2, false), (3, false), (4, false), (5, false), (6, false), (7, false)]) (l' := [(33, .int .i64 (longV [X * (s : Int), Y * (s : Int)])), (32, .int .i64 (X * (s : Int))), (5, .int .i64 (longV [X * (s : Int), Y * (s : Int)])), (4, .int .i64 (Y * (s : Int))), (2, .pointer (some ⟨b2, 0, none⟩))]) [33, 32, 5, 4, 2] (by kernel_rfl) ?_
        refine ops_call (σ := Unit) (d := some 34) (f := 97) (args := #[.int .i64 (X * (s : Int)), .int .i64 (longV [X * (s : Int), Y * (s : Int)])]) (v := fun _ => .int .i64 (throughV (X * (s : Int)) (longV [X * (s : Int), Y * (s : Int)]))) (M' := fun _ => Mem w [.blk b2 [.int .i64 0, .int .i64 0] 101, .blk b1 [.int .i64 ax, .int .i64 ay] 101]) ⟨by kernel_rfl⟩ (fun w_ hM hS => (through_calls (X * (s : Int)) (longV [X * (s : Int), Y * (s : Int)]) w_ hso2 hso3 (by omega)).mono (by rintro e w' ⟨rfl, hb⟩; exact ⟨(), rfl, hM.step hb, trivial⟩)) (fun _ => ?_)
        refine ops_run (is := [(3, false), (4, false)]) (r := [(5, false), (6, false), (7, false)]) (l' := [(36, .int .i64 (longV [X * (s : Int), Y * (s : Int)])), (35, .int .i64 (Y * (s : Int))), (34, .int .i64 (throughV (X * (s : Int)) (longV [X * (s : Int), Y * (s : Int)]))), (2, .pointer (some ⟨b2, 0, none⟩))]) [36, 35, 34, 2] (by kernel_rfl) ?_
        refine ops_call (σ := Unit) (d := some 37) (f := 97) (args := #[.int .i64 (Y * (s : Int)), .int .i64 (longV [X * (s : Int), Y * (s : Int)])]) (v := fun _ => .int .i64 (throughV (Y * (s : Int)) (longV [X * (s : Int), Y * (s : Int)]))) (M' := fun _ => Mem w [.blk b2 [.int .i64 0, .int .i64 0] 101, .blk b1 [.int .i64 ax, .int .i64 ay] 101]) ⟨by kernel_rfl⟩ (fun w_ hM hS => (through_calls (Y * (s : Int)) (longV [X * (s : Int), Y * (s : Int)]) w_ hso2 hso3 (by omega)).mono (by rintro e w' ⟨rfl, hb⟩; exact ⟨(), rfl, hM.step hb, trivial⟩)) (fun _ => ?_)
        refine ops_run (is := [(6, false)]) (r := [(7, false)]) (l' := [(38, .agg #[.int .i64 (throughV (X * (s : Int)) (longV [X * (s : Int), Y * (s : Int)])), .int .i64 (throughV (Y * (s : Int)) (longV [X * (s : Int), Y * (s : Int)]))]), (2, .pointer (some ⟨b2, 0, none⟩))]) [38, 2] (by kernel_rfl) ?_
        refine ops_store (an := []) (evs := [.store ⟨b2, 0, none⟩ (.int .i64 (throughV (X * (s : Int)) (longV [X * (s : Int), Y * (s : Int)]))), .store ⟨b2, 1, none⟩ (.int .i64 (throughV (Y * (s : Int)) (longV [X * (s : Int), Y * (s : Int)])))]) (M' := Mem w [.blk b2 [.int .i64 (throughV (X * (s : Int)) (longV [X * (s : Int), Y * (s : Int)])), .int .i64 (throughV (Y * (s : Int)) (longV [X * (s : Int), Y * (s : Int)]))] 101, .blk b1 [.int .i64 ax, .int .i64 ay] 101]) ⟨by kernel_rfl⟩ (fun w_ hM hS => let ⟨w', he, h'⟩ := hM.evs_stores [.int .i64 (throughV (X * (s : Int)) (longV [X * (s : Int), Y * (s : Int)])), .int .i64 (throughV (Y * (s : Int)) (longV [X * (s : Int), Y * (s : Int)]))] 0 rfl 0 (Nat.le_of_ble_eq_true rfl); ⟨w', he, h', trivial⟩) ?_
        refine ops_run (is := []) (r := []) (l' := [(2, .pointer (some ⟨b2, 0, none⟩))]) [2] (by kernel_rfl) ?_
        refine ops_nil ?_
        refine fin_then ?_
        refine st_ret ?_
        refine fin_ret [.cell 2 101] [.agg #[.int .i64 (throughV (X * (s : Int)) (longV [X * (s : Int), Y * (s : Int)])), .int .i64 (throughV (Y * (s : Int)) (longV [X * (s : Int), Y * (s : Int)]))]] rfl rfl (fun w_ hM => (.cell rfl (tr_run _ [.v (.int .i64 (throughV (X * (s : Int)) (longV [X * (s : Int), Y * (s : Int)]))), .v (.int .i64 (throughV (Y * (s : Int)) (longV [X * (s : Int), Y * (s : Int)])))] [.load ⟨b2, 0, none⟩ (.int .i64 (throughV (X * (s : Int)) (longV [X * (s : Int), Y * (s : Int)]))), .load ⟨b2, 1, none⟩ (.int .i64 (throughV (Y * (s : Int)) (longV [X * (s : Int), Y * (s : Int)])))] (.agg #[.int .i64 (throughV (X * (s : Int)) (longV [X * (s : Int), Y * (s : Int)])), .int .i64 (throughV (Y * (s : Int)) (longV [X * (s : Int), Y * (s : Int)]))] : Value) _ _ (by kernel_rfl) ⟨hM.cell 0 rfl rfl, hM.cell 0 rfl rfl, rfl⟩) .nil)) (fun w_ hM => ?_)
        refine ⟨?_, hM.done⟩
        show _ = Ending.returned (.agg #[.int .i64 (throughV (clV ax * ((scaleV [ax, ay] : Nat) : Int)) (longV (scaled [ax, ay]))), .int .i64 (throughV (clV ay * ((scaleV [ax, ay] : Nat) : Int)) (longV (scaled [ax, ay])))])
        rw [hsd, ← hsc, show clV ax = X from hX, show clV ay = Y from hY]
        rfl
  · --(X == 0)
    refine ops_run (is := [(3, false), (4, false), (5, false)]) (r := []) (l' := [(17, .bool false), (4, .int .i64 Y), (3, .int .i64 X), (2, .pointer (some ⟨b2, 0, none⟩))]) [17, 4, 3, 2] (by kernel_rfl) ?_
    refine ops_nil ?_
    refine fin_then ?_
    refine st_false rfl ?_
    refine st_skip ?_
    refine fin_then ?_
    refine st_seq ?_
    refine st_block ?_
    refine st_conv (l' := [(17, .bool false), (4, .int .i64 (Y * ((1 : Nat) : Int))), (3, .int .i64 (X * ((1 : Nat) : Int))), (2, .pointer (some ⟨b2, 0, none⟩))]) (M' := Mem w [.blk b2 [.int .i64 0, .int .i64 0] 101, .blk b1 [.int .i64 ax, .int .i64 ay] 101]) (by rw [show X * ((1 : Nat) : Int) = X from Int.mul_one X, show Y * ((1 : Nat) : Int) = Y from Int.mul_one Y]) (fun w_ hM => hM) ?_
    refine st_loop (σ := Nat) 1 (fun s => [(4, .int .i64 (Y * (s : Int))), (3, .int .i64 (X * (s : Int))), (2, .pointer (some ⟨b2, 0, none⟩))]) (fun s => Mem w [.blk b2 [.int .i64 0, .int .i64 0] 101, .blk b1 [.int .i64 ax, .int .i64 ay] 101]) (fun s => 0 < max X.natAbs Y.natAbs * s ∧ max X.natAbs Y.natAbs * s ≤ 1099511627776 ∧ dbl (max X.natAbs Y.natAbs) s = dbl (max X.natAbs Y.natAbs) 1) (fun s => 1073741824 - max X.natAbs Y.natAbs * s) (by exact ⟨by omega, by omega, rfl⟩) (look_has ⟨rfl, rfl, rfl, trivial⟩) (fun w_ hM => by exact hM) ?_
    rintro s hI
    obtain ⟨hs0, hs1, hdb⟩ := hI
    have hs0 : 0 < max X.natAbs Y.natAbs * s := hs0
    have hs1 : max X.natAbs Y.natAbs * s ≤ 1099511627776 := hs1
    have hdb : dbl (max X.natAbs Y.natAbs) s = dbl (max X.natAbs Y.natAbs) 1 := hdb
    have hax := abs_mul X s
    have hay := abs_mul Y s
    have hle := abs_le_max (x := X) (y := Y) (s := s)
    refine st_seq ?_
    refine st_seq ?_
    refine st_region [(0, false), (1, false), (2, false), (3, false), (4, false), (5, false)] (by rfl) ?_
    refine ops_run (is := [(0, false)]) (r := [(1, false), (2, false), (3, false), (4, false), (5, false)]) (l' := [(19, .int .i64 (X * (s : Int))), (4, .int .i64 (Y * (s : Int))), (3, .int .i64 (X * (s : Int))), (2, .pointer (some ⟨b2, 0, none⟩))]) [19, 4, 3, 2] (by kernel_rfl) ?_
    refine ops_call (σ := Unit) (d := some 20) (f := 96) (args := #[.int .i64 (X * (s : Int))]) (v := fun _ => .int .u64 (((X * (s : Int)).natAbs : Nat) : Int)) (M' := fun _ => Mem w [.blk b2 [.int .i64 0, .int .i64 0] 101, .blk b1 [.int .i64 ax, .int .i64 ay] 101]) ⟨by kernel_rfl⟩ (fun w_ hM hS => (mag_calls (X * (s : Int)) w_ (by omega)).mono (by rintro e w' ⟨rfl, hb⟩; exact ⟨(), rfl, hM.step hb, trivial⟩)) (fun _ => ?_)
    refine ops_run (is := [(2, false)]) (r := [(3, false), (4, false), (5, false)]) (l' := [(21, .int .i64 (Y * (s : Int))), (20, .int .u64 (((X * (s : Int)).natAbs : Nat) : Int)), (4, .int .i64 (Y * (s : Int))), (3, .int .i64 (X * (s : Int))), (2, .pointer (some ⟨b2, 0, none⟩))]) [21, 20, 4, 3, 2] (by kernel_rfl) ?_
    refine ops_call (σ := Unit) (d := some 22) (f := 96) (args := #[.int .i64 (Y * (s : Int))]) (v := fun _ => .int .u64 (((Y * (s : Int)).natAbs : Nat) : Int)) (M' := fun _ => Mem w [.blk b2 [.int .i64 0, .int .i64 0] 101, .blk b1 [.int .i64 ax, .int .i64 ay] 101]) ⟨by kernel_rfl⟩ (fun w_ hM hS => (mag_calls (Y * (s : Int)) w_ (by omega)).mono (by rintro e w' ⟨rfl, hb⟩; exact ⟨(), rfl, hM.step hb, trivial⟩)) (fun _ => ?_)
    refine ops_run (is := []) (r := [(4, false), (5, false)]) (l' := [(22, .int .u64 (((Y * (s : Int)).natAbs : Nat) : Int)), (20, .int .u64 (((X * (s : Int)).natAbs : Nat) : Int)), (4, .int .i64 (Y * (s : Int))), (3, .int .i64 (X * (s : Int))), (2, .pointer (some ⟨b2, 0, none⟩))]) [22, 20, 4, 3, 2] (by kernel_rfl) ?_
    refine ops_val (op := (Go.Op.call { callee := (Go.Callee.builtin Go.Builtin.max), args := #[(Go.Operand.tmp 20), (Go.Operand.tmp 22)], argTypes := #[25, 25] })) (d := some 23) (v := .int .u64 (max (((X * (s : Int)).natAbs : Nat) : Int) (((Y * (s : Int)).natAbs : Nat) : Int))) ⟨by kernel_rfl⟩ (run_max rfl rfl) ?_
    refine ops_run (is := []) (r := [(5, false)]) (l' := [(23, .int .u64 (max (((X * (s : Int)).natAbs : Nat) : Int) (((Y * (s : Int)).natAbs : Nat) : Int))), (4, .int .i64 (Y * (s : Int))), (3, .int .i64 (X * (s : Int))), (2, .pointer (some ⟨b2, 0, none⟩))]) [23, 4, 3, 2] (by kernel_rfl) ?_
    refine ops_conv (l' := [(23, .int .u64 ((max X.natAbs Y.natAbs * s : Nat) : Int)), (4, .int .i64 (Y * (s : Int))), (3, .int .i64 (X * (s : Int))), (2, .pointer (some ⟨b2, 0, none⟩))]) (by rw [(max_scaled X Y s)]) (fun _ h => h) ?_
    refine ops_run (is := [(5, false)]) (r := []) (l' := [(24, .bool (decide (((max X.natAbs Y.natAbs * s : Nat) : Int) < 1073741824))), (4, .int .i64 (Y * (s : Int))), (3, .int .i64 (X * (s : Int))), (2, .pointer (some ⟨b2, 0, none⟩))]) [24, 4, 3, 2] (by kernel_rfl) ?_
    refine ops_nil ?_
    refine fin_then ?_
    refine st_if (b := decide (((max X.natAbs Y.natAbs * s : Nat) : Int) < 1073741824)) rfl (fun hc6 => ?_) (fun hc6 => ?_)
    · --
      have hlt : max X.natAbs Y.natAbs * s < 1073741824 := by have := of_decide_eq_true hc6; omega
      have he2 : max X.natAbs Y.natAbs * (2 * s) = 2 * (max X.natAbs Y.natAbs * s) := Nat.mul_left_comm ..
      have hgo := dbl_go hs0 hlt
      have hdx := dbl_in (x := X) (s := s) (by omega)
      have hdy := dbl_in (x := Y) (s := s) (by omega)
      refine st_skip ?_
      refine fin_then ?_
      refine st_block ?_
      refine st_region [(0, false), (1, false), (2, false), (3, false), (4, false), (5, false)] (by rfl) ?_
      refine ops_run (is := [(0, false), (1, false)]) (r := [(2, false), (3, false), (4, false), (5, false)]) (l' := [(26, .int .i64 (IntKind.i64.wrap (2 * (X * (s : Int))))), (4, .int .i64 (Y * (s : Int))), (3, .int .i64 (X * (s : Int))), (2, .pointer (some ⟨b2, 0, none⟩))]) [26, 4, 3, 2] (by kernel_rfl) ?_
      refine ops_conv (l' := [(26, .int .i64 (X * ((2 * s : Nat) : Int))), (4, .int .i64 (Y * (s : Int))), (3, .int .i64 (X * (s : Int))), (2, .pointer (some ⟨b2, 0, none⟩))]) (by rw [hdx]) (fun _ h => h) ?_
      refine ops_run (is := [(2, false), (3, false)]) (r := [(4, false), (5, false)]) (l' := [(28, .int .i64 (IntKind.i64.wrap (2 * (Y * (s : Int))))), (26, .int .i64 (X * ((2 * s : Nat) : Int))), (4, .int .i64 (Y * (s : Int))), (3, .int .i64 (X * (s : Int))), (2, .pointer (some ⟨b2, 0, none⟩))]) [28, 26, 4, 3, 2] (by kernel_rfl) ?_
      refine ops_conv (l' := [(28, .int .i64 (Y * ((2 * s : Nat) : Int))), (26, .int .i64 (X * ((2 * s : Nat) : Int))), (4, .int .i64 (Y * (s : Int))), (3, .int .i64 (X * (s : Int))), (2, .pointer (some ⟨b2, 0, none⟩))]) (by rw [hdy]) (fun _ h => h) ?_
      refine ops_run (is := [(4, false), (5, false)]) (r := []) (l' := [(4, .int .i64 (Y * ((2 * s : Nat) : Int))), (3, .int .i64 (X * ((2 * s : Nat) : Int))), (2, .pointer (some ⟨b2, 0, none⟩))]) [4, 3, 2] (by kernel_rfl) ?_
      refine ops_nil ?_
      refine fin_block ?_
      refine fin_round (2 * s) (by exact ⟨show 0 < max X.natAbs Y.natAbs * (2 * s) by omega, show max X.natAbs Y.natAbs * (2 * s) ≤ 1099511627776 by omega, hgo ▸ hdb⟩) (by (show 1073741824 - max X.natAbs Y.natAbs * (2 * s) < 1073741824 - max X.natAbs Y.natAbs * s; omega)) (look_has ⟨rfl, rfl, rfl, trivial⟩) (fun w_ hM => by exact hM)
    · --
      have hge : 1073741824 ≤ max X.natAbs Y.natAbs * s := by have := of_decide_eq_false hc6; omega
      have hsc : s = scaleV [ax, ay] := by unfold scaleV; show s = dbl (farK [ax, ay] 2).toNat 1; rw [hfar, Int.toNat_natCast, ← hdb]; exact (dbl_stop hge).symm
      obtain ⟨hso1, hso2, hso3, hso4⟩ := scaled_ok (C := [ax, ay]) h0 (by simp)
      have hsd : scaled [ax, ay] = [X * (s : Int), Y * (s : Int)] := by rw [hsc, ← hX, ← hY]; rfl
      rw [hsd] at hso2 hso3 hso4
      refine st_exit ?_
      refine fin_exit_then ?_
      refine fin_exit_then ?_
      refine fin_exit ?_
      refine fin_then ?_
      refine st_seq ?_
      refine st_region [(0, false), (1, false), (2, false), (3, false)] (by rfl) ?_
      refine ops_run (is := [(0, false), (1, false)]) (r := [(2, false), (3, false)]) (l' := [(30, .int .i64 (Y * (s : Int))), (29, .int .i64 (X * (s : Int))), (4, .int .i64 (Y * (s : Int))), (3, .int .i64 (X * (s : Int))), (2, .pointer (some ⟨b2, 0, none⟩))]) [30, 29, 4, 3, 2] (by kernel_rfl) ?_
      refine ops_call (σ := Unit) (d := some 31) (f := 90) (args := #[.int .i64 (X * (s : Int)), .int .i64 (Y * (s : Int))]) (v := fun _ => .int .i64 (longV [X * (s : Int), Y * (s : Int)])) (M' := fun _ => Mem w [.blk b2 [.int .i64 0, .int .i64 0] 101, .blk b1 [.int .i64 ax, .int .i64 ay] 101]) ⟨by kernel_rfl⟩ (fun w_ hM hS => (length_calls (X * (s : Int)) (Y * (s : Int)) w_ (by omega) (by omega)).mono (by rintro e w' ⟨rfl, hb⟩; exact ⟨(), rfl, hM.step hb, trivial⟩)) (fun _ => ?_)
      refine ops_run (is := [(3, false)]) (r := []) (l' := [(5, .int .i64 (longV [X * (s : Int), Y * (s : Int)])), (4, .int .i64 (Y * (s : Int))), (3, .int .i64 (X * (s : Int))), (2, .pointer (some ⟨b2, 0, none⟩))]) [5, 4, 3, 2] (by kernel_rfl) ?_
      refine ops_nil ?_
      refine fin_then ?_
      refine st_seq ?_
      refine st_region [(0, false), (1, false), (2, false), (3, false), (4, false), (5, false), (6, false), (7, false)] (by rfl) ?_
      refine ops_run (is := [(0, false), (1, false)]) (r := [(2, false), (3, false), (4, false), (5, false), (6, false), (7, false)]) (l' := [(33, .int .i64 (longV [X * (s : Int), Y * (s : Int)])), (32, .int .i64 (X * (s : Int))), (5, .int .i64 (longV [X * (s : Int), Y * (s : Int)])), (4, .int .i64 (Y * (s : Int))), (2, .pointer (some ⟨b2, 0, none⟩))]) [33, 32, 5, 4, 2] (by kernel_rfl) ?_
      refine ops_call (σ := Unit) (d := some 34) (f := 97) (args := #[.int .i64 (X * (s : Int)), .int .i64 (longV [X * (s : Int), Y * (s : Int)])]) (v := fun _ => .int .i64 (throughV (X * (s : Int)) (longV [X * (s : Int), Y * (s : Int)]))) (M' := fun _ => Mem w [.blk b2 [.int .i64 0, .int .i64 0] 101, .blk b1 [.int .i64 ax, .int .i64 ay] 101]) ⟨by kernel_rfl⟩ (fun w_ hM hS => (through_calls (X * (s : Int)) (longV [X * (s : Int), Y * (s : Int)]) w_ hso2 hso3 (by omega)).mono (by rintro e w' ⟨rfl, hb⟩; exact ⟨(), rfl, hM.step hb, trivial⟩)) (fun _ => ?_)
      refine ops_run (is := [(3, false), (4, false)]) (r := [(5, false), (6, false), (7, false)]) (l' := [(36, .int .i64 (longV [X * (s : Int), Y * (s : Int)])), (35, .int .i64 (Y * (s : Int))), (34, .int .i64 (throughV (X * (s : Int)) (longV [X * (s : Int), Y * (s : Int)]))), (2, .pointer (some ⟨b2, 0, none⟩))]) [36, 35, 34, 2] (by kernel_rfl) ?_
      refine ops_call (σ := Unit) (d := some 37) (f := 97) (args := #[.int .i64 (Y * (s : Int)), .int .i64 (longV [X * (s : Int), Y * (s : Int)])]) (v := fun _ => .int .i64 (throughV (Y * (s : Int)) (longV [X * (s : Int), Y * (s : Int)]))) (M' := fun _ => Mem w [.blk b2 [.int .i64 0, .int .i64 0] 101, .blk b1 [.int .i64 ax, .int .i64 ay] 101]) ⟨by kernel_rfl⟩ (fun w_ hM hS => (through_calls (Y * (s : Int)) (longV [X * (s : Int), Y * (s : Int)]) w_ hso2 hso3 (by omega)).mono (by rintro e w' ⟨rfl, hb⟩; exact ⟨(), rfl, hM.step hb, trivial⟩)) (fun _ => ?_)
      refine ops_run (is := [(6, false)]) (r := [(7, false)]) (l' := [(38, .agg #[.int .i64 (throughV (X * (s : Int)) (longV [X * (s : Int), Y * (s : Int)])), .int .i64 (throughV (Y * (s : Int)) (longV [X * (s : Int), Y * (s : Int)]))]), (2, .pointer (some ⟨b2, 0, none⟩))]) [38, 2] (by kernel_rfl) ?_
      refine ops_store (an := []) (evs := [.store ⟨b2, 0, none⟩ (.int .i64 (throughV (X * (s : Int)) (longV [X * (s : Int), Y * (s : Int)]))), .store ⟨b2, 1, none⟩ (.int .i64 (throughV (Y * (s : Int)) (longV [X * (s : Int), Y * (s : Int)])))]) (M' := Mem w [.blk b2 [.int .i64 (throughV (X * (s : Int)) (longV [X * (s : Int), Y * (s : Int)])), .int .i64 (throughV (Y * (s : Int)) (longV [X * (s : Int), Y * (s : Int)]))] 101, .blk b1 [.int .i64 ax, .int .i64 ay] 101]) ⟨by kernel_rfl⟩ (fun w_ hM hS => let ⟨w', he, h'⟩ := hM.evs_stores [.int .i64 (throughV (X * (s : Int)) (longV [X * (s : Int), Y * (s : Int)])), .int .i64 (throughV (Y * (s : Int)) (longV [X * (s : Int), Y * (s : Int)]))] 0 rfl 0 (Nat.le_of_ble_eq_true rfl); ⟨w', he, h', trivial⟩) ?_
      refine ops_run (is := []) (r := []) (l' := [(2, .pointer (some ⟨b2, 0, none⟩))]) [2] (by kernel_rfl) ?_
      refine ops_nil ?_
      refine fin_then ?_
      refine st_ret ?_
      refine fin_ret [.cell 2 101] [.agg #[.int .i64 (throughV (X * (s : Int)) (longV [X * (s : Int), Y * (s : Int)])), .int .i64 (throughV (Y * (s : Int)) (longV [X * (s : Int), Y * (s : Int)]))]] rfl rfl (fun w_ hM => (.cell rfl (tr_run _ [.v (.int .i64 (throughV (X * (s : Int)) (longV [X * (s : Int), Y * (s : Int)]))), .v (.int .i64 (throughV (Y * (s : Int)) (longV [X * (s : Int), Y * (s : Int)])))] [.load ⟨b2, 0, none⟩ (.int .i64 (throughV (X * (s : Int)) (longV [X * (s : Int), Y * (s : Int)]))), .load ⟨b2, 1, none⟩ (.int .i64 (throughV (Y * (s : Int)) (longV [X * (s : Int), Y * (s : Int)])))] (.agg #[.int .i64 (throughV (X * (s : Int)) (longV [X * (s : Int), Y * (s : Int)])), .int .i64 (throughV (Y * (s : Int)) (longV [X * (s : Int), Y * (s : Int)]))] : Value) _ _ (by kernel_rfl) ⟨hM.cell 0 rfl rfl, hM.cell 0 rfl rfl, rfl⟩) .nil)) (fun w_ hM => ?_)
      refine ⟨?_, hM.done⟩
      show _ = Ending.returned (.agg #[.int .i64 (throughV (clV ax * ((scaleV [ax, ay] : Nat) : Int)) (longV (scaled [ax, ay]))), .int .i64 (throughV (clV ay * ((scaleV [ax, ay] : Nat) : Int)) (longV (scaled [ax, ay])))])
      rw [hsd, ← hsc, show clV ax = X from hX, show clV ay = Y from hY]
      rfl
set_option maxHeartbeats 4000000 in
set_option maxRecDepth 100000 in
theorem Unit_nil (ax ay : Int) (w : World) (h0 : farK [ax, ay] 2 = 0) : Calls Try.prog 79 #[.agg #[.int .i64 ax, .int .i64 ay]] w fun e w' => e = .returned (.agg #[.int .i64 0, .int .i64 0]) ∧ Below w.heap.size w w' := by
  refine sx_calls Try.func79 rfl (n := 39) (by kernel_rfl) (l := [(0, .agg #[.int .i64 ax, .int .i64 ay])]) rfl (by rfl) (Mem.nil w) ?_
  refine st_seq ?_
  refine st_region [(0, false), (1, false)] (by rfl) ?_
  refine ops_new (d := some 1) (o := .cells #[.int .i64 ax, .int .i64 ay] 101) (v := fun b1 => .pointer (some ⟨b1, 0, none⟩)) (M' := fun b1 => Mem w [.blk b1 [.int .i64 ax, .int .i64 ay] 101]) (fun b1 => ⟨by kernel_rfl⟩) (fun w_ hM hS => ⟨hM.blk [.int .i64 ax, .int .i64 ay] 101, trivial⟩) (fun b1 => ?_)
  refine ops_run (is := []) (r := [(1, false)]) (l' := [(1, .pointer (some ⟨b1, 0, none⟩))]) [1] (by kernel_rfl) ?_
  refine ops_new (d := some 2) (o := .cells #[.int .i64 0, .int .i64 0] 101) (v := fun b2 => .pointer (some ⟨b2, 0, none⟩)) (M' := fun b2 => Mem w [.blk b2 [.int .i64 0, .int .i64 0] 101, .blk b1 [.int .i64 ax, .int .i64 ay] 101]) (fun b2 => ⟨by kernel_rfl⟩) (fun w_ hM hS => ⟨hM.blk [.int .i64 0, .int .i64 0] 101, trivial⟩) (fun b2 => ?_)
  refine ops_run (is := []) (r := []) (l' := [(2, .pointer (some ⟨b2, 0, none⟩)), (1, .pointer (some ⟨b1, 0, none⟩))]) [2, 1] (by kernel_rfl) ?_
  refine ops_nil ?_
  refine fin_then ?_
  refine st_seq ?_
  refine st_region_draw [(0, true), (1, true), (3, true), (4, true), (2, false), (5, false), (6, true), (7, true)] (Mem w [.blk b2 [.int .i64 0, .int .i64 0] 101, .blk b1 [.int .i64 ax, .int .i64 ay] 101]) (by kernel_rfl) (by kernel_rfl) (by kernel_rfl) (fun _ d _ _ _ h => by cases d <;> exact h) (M' := Mem w [.blk b2 [.int .i64 0, .int .i64 0] 101, .blk b1 [.int .i64 ax, .int .i64 ay] 101]) (fun w_ hM => ⟨hM.drew, hM.drew.sub (by simp)⟩) ?_
  refine ops_run (is := [(0, true)]) (r := [(1, true), (3, true), (4, true), (2, false), (5, false), (6, true), (7, true)]) (l' := [(6, .pointer (some ⟨b1, 0, none⟩)), (2, .pointer (some ⟨b2, 0, none⟩)), (1, .pointer (some ⟨b1, 0, none⟩))]) [6, 2, 1] (by kernel_rfl) ?_
  refine ops_load (d := some 7) (an := [.v (.int .i64 ax)]) (evs := [.load ⟨b1, 0, none⟩ (.int .i64 ax)]) (v := .int .i64 ax) ⟨by kernel_rfl⟩ (fun w_ hM => ⟨hM.cell 1 rfl rfl, rfl⟩) ?_
  refine ops_run (is := [(3, true)]) (r := [(4, true), (2, false), (5, false), (6, true), (7, true)]) (l' := [(9, .pointer (some ⟨b1, 1, none⟩)), (7, .int .i64 ax), (2, .pointer (some ⟨b2, 0, none⟩))]) [9, 7, 2] (by kernel_rfl) ?_
  refine ops_load (d := some 10) (an := [.v (.int .i64 ay)]) (evs := [.load ⟨b1, 1, none⟩ (.int .i64 ay)]) (v := .int .i64 ay) ⟨by kernel_rfl⟩ (fun w_ hM => ⟨hM.cell 1 rfl rfl, rfl⟩) ?_
  refine ops_run (is := []) (r := [(2, false), (5, false), (6, true), (7, true)]) (l' := [(10, .int .i64 ay), (7, .int .i64 ax), (2, .pointer (some ⟨b2, 0, none⟩))]) [10, 7, 2] (by kernel_rfl) ?_
  refine ops_call (σ := Unit) (d := some 8) (f := 82) (args := #[.int .i64 ax]) (v := fun _ => .int .i64 0) (M' := fun _ => Mem w [.blk b2 [.int .i64 0, .int .i64 0] 101, .blk b1 [.int .i64 ax, .int .i64 ay] 101]) ⟨by kernel_rfl⟩ (fun w_ hM hS => (Clamp_as ax 0 w_ (by have h := far_two ax ay; rw [h0] at h; unfold clV at h; omega)).mono (by rintro e w' ⟨rfl, hb⟩; exact ⟨(), rfl, hM.step hb, hS.step hb⟩)) (fun _ => ?_)
  refine ops_run (is := []) (r := [(5, false), (6, true), (7, true)]) (l' := [(8, .int .i64 0), (10, .int .i64 ay), (2, .pointer (some ⟨b2, 0, none⟩))]) [8, 10, 2] (by kernel_rfl) ?_
  refine ops_call (σ := Unit) (d := some 11) (f := 82) (args := #[.int .i64 ay]) (v := fun _ => .int .i64 0) (M' := fun _ => Mem w [.blk b2 [.int .i64 0, .int .i64 0] 101, .blk b1 [.int .i64 ax, .int .i64 ay] 101]) ⟨by kernel_rfl⟩ (fun w_ hM hS => (Clamp_as ay 0 w_ (by have h := far_two ax ay; rw [h0] at h; unfold clV at h; omega)).mono (by rintro e w' ⟨rfl, hb⟩; exact ⟨(), rfl, hM.step hb, hS.step hb⟩)) (fun _ => ?_)
  refine ops_run (is := [(6, true), (7, true)]) (r := []) (l' := [(4, .int .i64 0), (3, .int .i64 0), (2, .pointer (some ⟨b2, 0, none⟩))]) [4, 3, 2] (by kernel_rfl) ?_
  refine ops_nil ?_
  refine fin_then ?_
  refine st_seq ?_
  refine st_seq ?_
  refine st_region [(0, false), (1, false), (2, false), (3, false), (4, false), (5, false)] (by rfl) ?_
  refine ops_run (is := [(0, false), (1, false), (2, false), (3, false), (4, false), (5, false)]) (r := []) (l' := [(17, .bool true), (4, .int .i64 0), (3, .int .i64 0), (2, .pointer (some ⟨b2, 0, none⟩))]) [17, 4, 3, 2] (by kernel_rfl) ?_
  refine ops_nil ?_
  refine fin_then ?_
  refine st_true rfl ?_
  refine st_seq ?_
  refine st_region [(0, false), (1, false)] (by rfl) ?_
  refine ops_run (is := [(0, false)]) (r := [(1, false)]) (l' := [(18, .agg #[.int .i64 0, .int .i64 0]), (2, .pointer (some ⟨b2, 0, none⟩))]) [18, 2] (by kernel_rfl) ?_
  refine ops_store (an := []) (evs := [.store ⟨b2, 0, none⟩ (.int .i64 0), .store ⟨b2, 1, none⟩ (.int .i64 0)]) (M' := Mem w [.blk b2 [.int .i64 0, .int .i64 0] 101, .blk b1 [.int .i64 ax, .int .i64 ay] 101]) ⟨by kernel_rfl⟩ (fun w_ hM hS => let ⟨w', he, h'⟩ := hM.evs_stores [.int .i64 0, .int .i64 0] 0 rfl 0 (Nat.le_of_ble_eq_true rfl); ⟨w', he, h', trivial⟩) ?_
  refine ops_run (is := []) (r := []) (l' := [(2, .pointer (some ⟨b2, 0, none⟩))]) [2] (by kernel_rfl) ?_
  refine ops_nil ?_
  refine fin_then ?_
  refine st_ret ?_
  refine fin_ret_then ?_
  refine fin_ret [.cell 2 101] [.agg #[.int .i64 0, .int .i64 0]] rfl rfl (fun w_ hM => (.cell rfl (tr_run _ [.v (.int .i64 0), .v (.int .i64 0)] [.load ⟨b2, 0, none⟩ (.int .i64 0), .load ⟨b2, 1, none⟩ (.int .i64 0)] (.agg #[.int .i64 0, .int .i64 0] : Value) _ _ (by kernel_rfl) ⟨hM.cell 0 rfl rfl, hM.cell 0 rfl rfl, rfl⟩) .nil)) (fun w_ hM => ?_)
  refine ⟨?_, hM.done⟩
  rfl
theorem Unit_some (ax ay : Int) (w : World) (h0 : 0 < farK [ax, ay] 2) : Calls Try.prog 79 #[.agg #[.int .i64 ax, .int .i64 ay]] w fun e w' => e = .returned (.agg #[.int .i64 ((evenV [ax, ay]).getD 0 0), .int .i64 ((evenV [ax, ay]).getD 1 0)]) ∧ Below w.heap.size w w' := Unit0_some ax ay _ _ w rfl rfl h0
theorem Len_begun (w : World) : Calls Try.prog 75 #[.agg #[.int .i64 3, .int .i64 (-4)]] w fun e w' => e = .returned (.int .i64 5) ∧ Below w.heap.size w w' := by
  have h := Len_calls 3 (-4) w
  rwa [show min (max (longV [min (max 3 (-1099511627776)) 1099511627776, min (max (-4) (-1099511627776)) 1099511627776]) (-1099511627776)) 1099511627776 = 5 by decide +kernel] at h
set_option maxHeartbeats 4000000 in
set_option maxRecDepth 100000 in
theorem VecLengths_nil (ax ay : Int) (w : World) (h0 : farK [ax, ay] 2 = 0) : Calls Try.prog 14 #[.agg #[.int .i64 ax, .int .i64 ay]] w fun e w' => e = .returned (.bool true) ∧ Below w.heap.size w w' := by
  have hcx : (min (max ax (-1099511627776)) 1099511627776).natAbs ≤ 1099511627776 := by omega
  have hcy : (min (max ay (-1099511627776)) 1099511627776).natAbs ≤ 1099511627776 := by omega
  refine sx_calls Try.func14 rfl (n := 42) (by kernel_rfl) (l := [(0, .agg #[.int .i64 ax, .int .i64 ay])]) rfl (by rfl) (Mem.nil w) ?_
  refine st_seq ?_
  refine st_region [(0, false), (1, false)] (by rfl) ?_
  refine ops_new (d := some 1) (o := .cells #[.int .i64 ax, .int .i64 ay] 101) (v := fun b1 => .pointer (some ⟨b1, 0, none⟩)) (M' := fun b1 => Mem w [.blk b1 [.int .i64 ax, .int .i64 ay] 101]) (fun b1 => ⟨by kernel_rfl⟩) (fun w_ hM hS => ⟨hM.blk [.int .i64 ax, .int .i64 ay] 101, trivial⟩) (fun b1 => ?_)
  refine ops_run (is := [(1, false)]) (r := []) (l' := [(1, .pointer (some ⟨b1, 0, none⟩))]) [1] (by kernel_rfl) ?_
  refine ops_nil ?_
  refine fin_then ?_
  refine st_seq ?_
  refine st_seq ?_
  refine st_region [(0, false), (1, false), (2, false)] (by rfl) ?_
  refine ops_run (is := [(0, false)]) (r := [(1, false), (2, false)]) (l' := [(5, .agg #[.int .i64 3, .int .i64 (-4)]), (1, .pointer (some ⟨b1, 0, none⟩))]) [5, 1] (by kernel_rfl) ?_
  refine ops_call (σ := Unit) (d := some 6) (f := 75) (args := #[.agg #[.int .i64 3, .int .i64 (-4)]]) (v := fun _ => .int .i64 5) (M' := fun _ => Mem w [.blk b1 [.int .i64 ax, .int .i64 ay] 101]) ⟨by kernel_rfl⟩ (fun w_ hM hS => (Len_begun w_).mono (by rintro e w' ⟨rfl, hb⟩; exact ⟨(), rfl, hM.step hb, trivial⟩)) (fun _ => ?_)
  refine ops_run (is := [(2, false)]) (r := []) (l' := [(7, .bool false), (1, .pointer (some ⟨b1, 0, none⟩))]) [7, 1] (by kernel_rfl) ?_
  refine ops_nil ?_
  refine fin_then ?_
  refine st_false rfl ?_
  refine st_skip ?_
  refine fin_then ?_
  refine st_seq ?_
  refine st_region [(0, false), (1, false), (2, false)] (by rfl) ?_
  refine ops_run (is := [(0, false)]) (r := [(1, false), (2, false)]) (l' := [(8, .agg #[.int .i64 0, .int .i64 0]), (1, .pointer (some ⟨b1, 0, none⟩))]) [8, 1] (by kernel_rfl) ?_
  refine ops_new (d := some 3) (o := .cells #[.int .i64 0, .int .i64 0] 101) (v := fun b2 => .pointer (some ⟨b2, 0, none⟩)) (M' := fun b2 => Mem w [.blk b2 [.int .i64 0, .int .i64 0] 101, .blk b1 [.int .i64 ax, .int .i64 ay] 101]) (fun b2 => ⟨by kernel_rfl⟩) (fun w_ hM hS => ⟨hM.blk [.int .i64 0, .int .i64 0] 101, trivial⟩) (fun b2 => ?_)
  refine ops_run (is := []) (r := [(2, false)]) (l' := [(3, .pointer (some ⟨b2, 0, none⟩)), (8, .agg #[.int .i64 0, .int .i64 0]), (1, .pointer (some ⟨b1, 0, none⟩))]) [3, 8, 1] (by kernel_rfl) ?_
  refine ops_store (an := []) (evs := [.store ⟨b2, 0, none⟩ (.int .i64 0), .store ⟨b2, 1, none⟩ (.int .i64 0)]) (M' := Mem w [.blk b2 [.int .i64 0, .int .i64 0] 101, .blk b1 [.int .i64 ax, .int .i64 ay] 101]) ⟨by kernel_rfl⟩ (fun w_ hM hS => let ⟨w', he, h'⟩ := hM.evs_stores [.int .i64 0, .int .i64 0] 0 rfl 0 (Nat.le_of_ble_eq_true rfl); ⟨w', he, h', trivial⟩) ?_
  refine ops_run (is := []) (r := []) (l' := [(3, .pointer (some ⟨b2, 0, none⟩)), (1, .pointer (some ⟨b1, 0, none⟩))]) [3, 1] (by kernel_rfl) ?_
  refine ops_nil ?_
  refine fin_then ?_
  refine st_seq ?_
  refine st_seq ?_
  refine st_region [(0, false), (1, false), (2, false), (3, false), (4, false), (5, false), (6, false)] (by rfl) ?_
  refine ops_run (is := [(0, false)]) (r := [(1, false), (2, false), (3, false), (4, false), (5, false), (6, false)]) (l' := [(9, .pointer (some ⟨b1, 0, none⟩)), (3, .pointer (some ⟨b2, 0, none⟩)), (1, .pointer (some ⟨b1, 0, none⟩))]) [9, 3, 1] (by kernel_rfl) ?_
  refine ops_mem (d := some 10) (an := [.v (.int .i64 ax)]) (evs := [.load ⟨b1, 0, none⟩ (.int .i64 ax)]) (v := .int .i64 ax) (M' := Mem w [.blk b2 [.int .i64 0, .int .i64 0] 101, .blk b1 [.int .i64 ax, .int .i64 ay] 101]) ⟨by kernel_rfl⟩ (fun w_ hM hS => ⟨w_, ⟨hM.cell 1 rfl rfl, rfl⟩, hM, trivial⟩) ?_
  refine ops_run (is := [(2, false)]) (r := [(3, false), (4, false), (5, false), (6, false)]) (l' := [(11, .pointer (some ⟨b1, 1, none⟩)), (10, .int .i64 ax), (3, .pointer (some ⟨b2, 0, none⟩)), (1, .pointer (some ⟨b1, 0, none⟩))]) [11, 10, 3, 1] (by kernel_rfl) ?_
  refine ops_mem (d := some 12) (an := [.v (.int .i64 ay)]) (evs := [.load ⟨b1, 1, none⟩ (.int .i64 ay)]) (v := .int .i64 ay) (M' := Mem w [.blk b2 [.int .i64 0, .int .i64 0] 101, .blk b1 [.int .i64 ax, .int .i64 ay] 101]) ⟨by kernel_rfl⟩ (fun w_ hM hS => ⟨w_, ⟨hM.cell 1 rfl rfl, rfl⟩, hM, trivial⟩) ?_
  refine ops_run (is := []) (r := [(4, false), (5, false), (6, false)]) (l' := [(12, .int .i64 ay), (10, .int .i64 ax), (3, .pointer (some ⟨b2, 0, none⟩)), (1, .pointer (some ⟨b1, 0, none⟩))]) [12, 10, 3, 1] (by kernel_rfl) ?_
  refine ops_new (d := some 13) (o := .cells #[.int .i64 ax, .int .i64 ay] 3) (v := fun b3 => .slice (some ⟨b3, 0, none⟩) 2 2) (M' := fun b3 => Mem w [.blk b3 [.int .i64 ax, .int .i64 ay] 3, .blk b2 [.int .i64 0, .int .i64 0] 101, .blk b1 [.int .i64 ax, .int .i64 ay] 101]) (fun b3 => ⟨by kernel_rfl⟩) (fun w_ hM hS => ⟨hM.blk [.int .i64 ax, .int .i64 ay] 3, trivial⟩) (fun b3 => ?_)
  refine ops_run (is := []) (r := [(5, false), (6, false)]) (l' := [(13, .slice (some ⟨b3, 0, none⟩) 2 2), (3, .pointer (some ⟨b2, 0, none⟩)), (1, .pointer (some ⟨b1, 0, none⟩))]) [13, 3, 1] (by kernel_rfl) ?_
  refine ops_call (σ := Unit) (d := some 14) (f := 76) (args := #[.slice (some ⟨b3, 0, none⟩) 2 2]) (v := fun _ => .slice none 0 0) (M' := fun _ => Mem w [.blk b3 [.int .i64 ax, .int .i64 ay] 3, .blk b2 [.int .i64 0, .int .i64 0] 101, .blk b1 [.int .i64 ax, .int .i64 ay] 101]) ⟨by kernel_rfl⟩ (fun w_ hM hS => (Even_nil (some ⟨b3, 0, none⟩) 2 2 [ax, ay] w_ (hM.rintsBlk 0 rfl rfl) rfl (by decide) h0).mono (by rintro e w' ⟨rfl, hb⟩; exact ⟨(), rfl, hM.step hb, trivial⟩)) (fun _ => ?_)
  refine ops_run (is := [(6, false)]) (r := []) (l' := [(4, .slice none 0 0), (3, .pointer (some ⟨b2, 0, none⟩)), (1, .pointer (some ⟨b1, 0, none⟩))]) [4, 3, 1] (by kernel_rfl) ?_
  refine ops_nil ?_
  refine fin_then ?_
  refine st_seq ?_
  refine st_region [(0, false), (1, false)] (by rfl) ?_
  refine ops_run (is := [(0, false), (1, false)]) (r := []) (l' := [(16, .bool false), (4, .slice none 0 0), (3, .pointer (some ⟨b2, 0, none⟩)), (1, .pointer (some ⟨b1, 0, none⟩))]) [16, 4, 3, 1] (by kernel_rfl) ?_
  refine ops_nil ?_
  refine fin_then ?_
  refine st_false rfl ?_
  refine st_skip ?_
  refine fin_then ?_
  refine st_seq ?_
  refine st_region_draw [(0, true), (2, true), (3, true), (5, true), (6, true), (1, false), (4, false), (7, false), (8, false), (9, false), (10, false), (11, true), (12, true), (13, true), (15, true), (14, false), (16, true), (17, true), (18, true)] (Mem w [.blk b3 [.int .i64 ax, .int .i64 ay] 3, .blk b2 [.int .i64 0, .int .i64 0] 101, .blk b1 [.int .i64 ax, .int .i64 ay] 101]) (by kernel_rfl) (by kernel_rfl) (by kernel_rfl) (fun _ d _ _ _ h => by cases d <;> exact h) (M' := Mem w [.blk b3 [.int .i64 ax, .int .i64 ay] 3, .blk b2 [.int .i64 0, .int .i64 0] 101, .blk b1 [.int .i64 ax, .int .i64 ay] 101]) (fun w_ hM => ⟨hM.drew, hM.drew.sub (by simp)⟩) ?_
  refine ops_run (is := []) (r := [(0, true), (2, true), (3, true), (5, true), (6, true), (1, false), (4, false), (7, false), (8, false), (9, false), (10, false), (11, true), (12, true), (13, true), (15, true), (14, false), (16, true), (17, true), (18, true)]) (l' := [(3, .pointer (some ⟨b2, 0, none⟩)), (1, .pointer (some ⟨b1, 0, none⟩))]) [3, 1] (by kernel_rfl) ?_
  refine ops_load (d := some 24) (an := [.v (.int .i64 ax), .v (.int .i64 ay)]) (evs := [.load ⟨b1, 0, none⟩ (.int .i64 ax), .load ⟨b1, 1, none⟩ (.int .i64 ay)]) (v := .agg #[.int .i64 ax, .int .i64 ay]) ⟨by kernel_rfl⟩ (fun w_ hM => ⟨hM.cell 2 rfl rfl, hM.cell 2 rfl rfl, rfl⟩) ?_
  refine ops_run (is := [(2, true)]) (r := [(3, true), (5, true), (6, true), (1, false), (4, false), (7, false), (8, false), (9, false), (10, false), (11, true), (12, true), (13, true), (15, true), (14, false), (16, true), (17, true), (18, true)]) (l' := [(26, .pointer (some ⟨b1, 0, none⟩)), (24, .agg #[.int .i64 ax, .int .i64 ay]), (3, .pointer (some ⟨b2, 0, none⟩)), (1, .pointer (some ⟨b1, 0, none⟩))]) [26, 24, 3, 1] (by kernel_rfl) ?_
  refine ops_load (d := some 27) (an := [.v (.int .i64 ax)]) (evs := [.load ⟨b1, 0, none⟩ (.int .i64 ax)]) (v := .int .i64 ax) ⟨by kernel_rfl⟩ (fun w_ hM => ⟨hM.cell 2 rfl rfl, rfl⟩) ?_
  refine ops_run (is := [(5, true)]) (r := [(6, true), (1, false), (4, false), (7, false), (8, false), (9, false), (10, false), (11, true), (12, true), (13, true), (15, true), (14, false), (16, true), (17, true), (18, true)]) (l' := [(29, .pointer (some ⟨b1, 1, none⟩)), (27, .int .i64 ax), (24, .agg #[.int .i64 ax, .int .i64 ay]), (3, .pointer (some ⟨b2, 0, none⟩)), (1, .pointer (some ⟨b1, 0, none⟩))]) [29, 27, 24, 3, 1] (by kernel_rfl) ?_
  refine ops_load (d := some 30) (an := [.v (.int .i64 ay)]) (evs := [.load ⟨b1, 1, none⟩ (.int .i64 ay)]) (v := .int .i64 ay) ⟨by kernel_rfl⟩ (fun w_ hM => ⟨hM.cell 2 rfl rfl, rfl⟩) ?_
  refine ops_run (is := []) (r := [(1, false), (4, false), (7, false), (8, false), (9, false), (10, false), (11, true), (12, true), (13, true), (15, true), (14, false), (16, true), (17, true), (18, true)]) (l' := [(30, .int .i64 ay), (27, .int .i64 ax), (24, .agg #[.int .i64 ax, .int .i64 ay]), (3, .pointer (some ⟨b2, 0, none⟩)), (1, .pointer (some ⟨b1, 0, none⟩))]) [30, 27, 24, 3, 1] (by kernel_rfl) ?_
  refine ops_call (σ := Unit) (d := some 25) (f := 75) (args := #[.agg #[.int .i64 ax, .int .i64 ay]]) (v := fun _ => .int .i64 (min (max (longV [min (max ax (-1099511627776)) 1099511627776, min (max ay (-1099511627776)) 1099511627776]) (-1099511627776)) 1099511627776)) (M' := fun _ => Mem w [.blk b3 [.int .i64 ax, .int .i64 ay] 3, .blk b2 [.int .i64 0, .int .i64 0] 101, .blk b1 [.int .i64 ax, .int .i64 ay] 101]) ⟨by kernel_rfl⟩ (fun w_ hM hS => (Len_calls ax ay w_).mono (by rintro e w' ⟨rfl, hb⟩; exact ⟨(), rfl, hM.step hb, hS.step hb⟩)) (fun _ => ?_)
  refine ops_run (is := []) (r := [(4, false), (7, false), (8, false), (9, false), (10, false), (11, true), (12, true), (13, true), (15, true), (14, false), (16, true), (17, true), (18, true)]) (l' := [(25, .int .i64 (min (max (longV [min (max ax (-1099511627776)) 1099511627776, min (max ay (-1099511627776)) 1099511627776]) (-1099511627776)) 1099511627776)), (30, .int .i64 ay), (27, .int .i64 ax), (3, .pointer (some ⟨b2, 0, none⟩)), (1, .pointer (some ⟨b1, 0, none⟩))]) [25, 30, 27, 3, 1] (by kernel_rfl) ?_
  refine ops_call (σ := Unit) (d := some 28) (f := 77) (args := #[.int .i64 ax]) (v := fun _ => .int .i64 (min (max ax (-1099511627776)) 1099511627776)) (M' := fun _ => Mem w [.blk b3 [.int .i64 ax, .int .i64 ay] 3, .blk b2 [.int .i64 0, .int .i64 0] 101, .blk b1 [.int .i64 ax, .int .i64 ay] 101]) ⟨by kernel_rfl⟩ (fun w_ hM hS => (Limit_calls ax w_).mono (by rintro e w' ⟨rfl, hb⟩; exact ⟨(), rfl, hM.step hb, hS.step hb⟩)) (fun _ => ?_)
  refine ops_run (is := []) (r := [(7, false), (8, false), (9, false), (10, false), (11, true), (12, true), (13, true), (15, true), (14, false), (16, true), (17, true), (18, true)]) (l' := [(28, .int .i64 (min (max ax (-1099511627776)) 1099511627776)), (25, .int .i64 (min (max (longV [min (max ax (-1099511627776)) 1099511627776, min (max ay (-1099511627776)) 1099511627776]) (-1099511627776)) 1099511627776)), (30, .int .i64 ay), (3, .pointer (some ⟨b2, 0, none⟩)), (1, .pointer (some ⟨b1, 0, none⟩))]) [28, 25, 30, 3, 1] (by kernel_rfl) ?_
  refine ops_call (σ := Unit) (d := some 31) (f := 77) (args := #[.int .i64 ay]) (v := fun _ => .int .i64 (min (max ay (-1099511627776)) 1099511627776)) (M' := fun _ => Mem w [.blk b3 [.int .i64 ax, .int .i64 ay] 3, .blk b2 [.int .i64 0, .int .i64 0] 101, .blk b1 [.int .i64 ax, .int .i64 ay] 101]) ⟨by kernel_rfl⟩ (fun w_ hM hS => (Limit_calls ay w_).mono (by rintro e w' ⟨rfl, hb⟩; exact ⟨(), rfl, hM.step hb, hS.step hb⟩)) (fun _ => ?_)
  refine ops_run (is := []) (r := [(8, false), (9, false), (10, false), (11, true), (12, true), (13, true), (15, true), (14, false), (16, true), (17, true), (18, true)]) (l' := [(31, .int .i64 (min (max ay (-1099511627776)) 1099511627776)), (28, .int .i64 (min (max ax (-1099511627776)) 1099511627776)), (25, .int .i64 (min (max (longV [min (max ax (-1099511627776)) 1099511627776, min (max ay (-1099511627776)) 1099511627776]) (-1099511627776)) 1099511627776)), (3, .pointer (some ⟨b2, 0, none⟩)), (1, .pointer (some ⟨b1, 0, none⟩))]) [31, 28, 25, 3, 1] (by kernel_rfl) ?_
  refine ops_new (d := some 32) (o := .cells #[.int .i64 (min (max ax (-1099511627776)) 1099511627776), .int .i64 (min (max ay (-1099511627776)) 1099511627776)] 3) (v := fun b4 => .slice (some ⟨b4, 0, none⟩) 2 2) (M' := fun b4 => Mem w [.blk b4 [.int .i64 (min (max ax (-1099511627776)) 1099511627776), .int .i64 (min (max ay (-1099511627776)) 1099511627776)] 3, .blk b3 [.int .i64 ax, .int .i64 ay] 3, .blk b2 [.int .i64 0, .int .i64 0] 101, .blk b1 [.int .i64 ax, .int .i64 ay] 101]) (fun b4 => ⟨by kernel_rfl⟩) (fun w_ hM hS => ⟨hM.blk [.int .i64 (min (max ax (-1099511627776)) 1099511627776), .int .i64 (min (max ay (-1099511627776)) 1099511627776)] 3, hS.alloc _⟩) (fun b4 => ?_)
  refine ops_run (is := []) (r := [(9, false), (10, false), (11, true), (12, true), (13, true), (15, true), (14, false), (16, true), (17, true), (18, true)]) (l' := [(32, .slice (some ⟨b4, 0, none⟩) 2 2), (25, .int .i64 (min (max (longV [min (max ax (-1099511627776)) 1099511627776, min (max ay (-1099511627776)) 1099511627776]) (-1099511627776)) 1099511627776)), (3, .pointer (some ⟨b2, 0, none⟩)), (1, .pointer (some ⟨b1, 0, none⟩))]) [32, 25, 3, 1] (by kernel_rfl) ?_
  refine ops_call (σ := Unit) (d := some 33) (f := 78) (args := #[.slice (some ⟨b4, 0, none⟩) 2 2]) (v := fun _ => .int .i64 (longV [min (max ax (-1099511627776)) 1099511627776, min (max ay (-1099511627776)) 1099511627776])) (M' := fun _ => Mem w [.blk b4 [.int .i64 (min (max ax (-1099511627776)) 1099511627776), .int .i64 (min (max ay (-1099511627776)) 1099511627776)] 3, .blk b3 [.int .i64 ax, .int .i64 ay] 3, .blk b2 [.int .i64 0, .int .i64 0] 101, .blk b1 [.int .i64 ax, .int .i64 ay] 101]) ⟨by kernel_rfl⟩ (fun w_ hM hS => (Long_calls (some ⟨b4, 0, none⟩) 2 2 [min (max ax (-1099511627776)) 1099511627776, min (max ay (-1099511627776)) 1099511627776] w_ (hM.rintsBlk 0 rfl rfl) rfl (fun k => by rcases k with _ | _ | k <;> simp <;> omega) (by decide)).mono (by rintro e w' ⟨rfl, hb⟩; exact ⟨(), rfl, hM.step hb, hS.step hb⟩)) (fun _ => ?_)
  refine ops_run (is := []) (r := [(10, false), (11, true), (12, true), (13, true), (15, true), (14, false), (16, true), (17, true), (18, true)]) (l' := [(33, .int .i64 (longV [min (max ax (-1099511627776)) 1099511627776, min (max ay (-1099511627776)) 1099511627776])), (25, .int .i64 (min (max (longV [min (max ax (-1099511627776)) 1099511627776, min (max ay (-1099511627776)) 1099511627776]) (-1099511627776)) 1099511627776)), (3, .pointer (some ⟨b2, 0, none⟩)), (1, .pointer (some ⟨b1, 0, none⟩))]) [33, 25, 3, 1] (by kernel_rfl) ?_
  refine ops_call (σ := Unit) (d := some 34) (f := 77) (args := #[.int .i64 (longV [min (max ax (-1099511627776)) 1099511627776, min (max ay (-1099511627776)) 1099511627776])]) (v := fun _ => .int .i64 (min (max (longV [min (max ax (-1099511627776)) 1099511627776, min (max ay (-1099511627776)) 1099511627776]) (-1099511627776)) 1099511627776)) (M' := fun _ => Mem w [.blk b4 [.int .i64 (min (max ax (-1099511627776)) 1099511627776), .int .i64 (min (max ay (-1099511627776)) 1099511627776)] 3, .blk b3 [.int .i64 ax, .int .i64 ay] 3, .blk b2 [.int .i64 0, .int .i64 0] 101, .blk b1 [.int .i64 ax, .int .i64 ay] 101]) ⟨by kernel_rfl⟩ (fun w_ hM hS => (Limit_calls (longV [min (max ax (-1099511627776)) 1099511627776, min (max ay (-1099511627776)) 1099511627776]) w_).mono (by rintro e w' ⟨rfl, hb⟩; exact ⟨(), rfl, hM.step hb, hS.step hb⟩)) (fun _ => ?_)
  refine ops_run (is := []) (r := [(11, true), (12, true), (13, true), (15, true), (14, false), (16, true), (17, true), (18, true)]) (l' := [(34, .int .i64 (min (max (longV [min (max ax (-1099511627776)) 1099511627776, min (max ay (-1099511627776)) 1099511627776]) (-1099511627776)) 1099511627776)), (25, .int .i64 (min (max (longV [min (max ax (-1099511627776)) 1099511627776, min (max ay (-1099511627776)) 1099511627776]) (-1099511627776)) 1099511627776)), (3, .pointer (some ⟨b2, 0, none⟩)), (1, .pointer (some ⟨b1, 0, none⟩))]) [34, 25, 3, 1] (by kernel_rfl) ?_
  refine ops_val (op := (Go.Op.binOp Go.BinOp.eql 3 (Go.Operand.tmp 25) (Go.Operand.tmp 34) 3)) (d := some 35) (v := .bool true) ⟨by kernel_rfl⟩ (run_eql_same rfl rfl) ?_
  refine ops_run (is := [(12, true)]) (r := [(13, true), (15, true), (14, false), (16, true), (17, true), (18, true)]) (l' := [(36, .bool true), (3, .pointer (some ⟨b2, 0, none⟩)), (1, .pointer (some ⟨b1, 0, none⟩))]) [36, 3, 1] (by kernel_rfl) ?_
  refine ops_load (d := some 37) (an := [.v (.int .i64 ax), .v (.int .i64 ay)]) (evs := [.load ⟨b1, 0, none⟩ (.int .i64 ax), .load ⟨b1, 1, none⟩ (.int .i64 ay)]) (v := .agg #[.int .i64 ax, .int .i64 ay]) ⟨by kernel_rfl⟩ (fun w_ hM => ⟨hM.cell 2 rfl rfl, hM.cell 2 rfl rfl, rfl⟩) ?_
  refine ops_run (is := []) (r := [(15, true), (14, false), (16, true), (17, true), (18, true)]) (l' := [(37, .agg #[.int .i64 ax, .int .i64 ay]), (36, .bool true), (3, .pointer (some ⟨b2, 0, none⟩))]) [37, 36, 3] (by kernel_rfl) ?_
  refine ops_load (d := some 39) (an := [.v (.int .i64 0), .v (.int .i64 0)]) (evs := [.load ⟨b2, 0, none⟩ (.int .i64 0), .load ⟨b2, 1, none⟩ (.int .i64 0)]) (v := .agg #[.int .i64 0, .int .i64 0]) ⟨by kernel_rfl⟩ (fun w_ hM => ⟨hM.cell 1 rfl rfl, hM.cell 1 rfl rfl, rfl⟩) ?_
  refine ops_run (is := []) (r := [(14, false), (16, true), (17, true), (18, true)]) (l' := [(39, .agg #[.int .i64 0, .int .i64 0]), (37, .agg #[.int .i64 ax, .int .i64 ay]), (36, .bool true)]) [39, 37, 36] (by kernel_rfl) ?_
  refine ops_call (σ := Unit) (d := some 38) (f := 79) (args := #[.agg #[.int .i64 ax, .int .i64 ay]]) (v := fun _ => .agg #[.int .i64 0, .int .i64 0]) (M' := fun _ => Mem w [.blk b4 [.int .i64 (min (max ax (-1099511627776)) 1099511627776), .int .i64 (min (max ay (-1099511627776)) 1099511627776)] 3, .blk b3 [.int .i64 ax, .int .i64 ay] 3, .blk b2 [.int .i64 0, .int .i64 0] 101, .blk b1 [.int .i64 ax, .int .i64 ay] 101]) ⟨by kernel_rfl⟩ (fun w_ hM hS => (Unit_nil ax ay w_ h0).mono (by rintro e w' ⟨rfl, hb⟩; exact ⟨(), rfl, hM.step hb, hS.step hb⟩)) (fun _ => ?_)
  refine ops_run (is := []) (r := [(16, true), (17, true), (18, true)]) (l' := [(38, .agg #[.int .i64 0, .int .i64 0]), (39, .agg #[.int .i64 0, .int .i64 0]), (36, .bool true)]) [38, 39, 36] (by kernel_rfl) ?_
  refine ops_val (op := (Go.Op.binOp Go.BinOp.eql 101 (Go.Operand.tmp 38) (Go.Operand.tmp 39) 101)) (d := some 40) (v := .bool true) ⟨by kernel_rfl⟩ (run_eql_agg (r := true) rfl rfl (by kernel_rfl) (fun w => by have h := eqA101 9998 w 0 0 0 0; simpa only [BEq.rfl, Bool.and_true] using h)) ?_
  refine ops_run (is := [(17, true), (18, true)]) (r := []) (l' := [(2, .bool true)]) [2] (by kernel_rfl) ?_
  refine ops_nil ?_
  refine fin_then ?_
  refine st_ret ?_
  refine fin_ret [.tmp 2] [.bool true] rfl rfl (fun w_ hM => (.tmp rfl .nil)) (fun w_ hM => ?_)
  exact ⟨rfl, hM.done⟩
set_option maxHeartbeats 4000000 in
set_option maxRecDepth 100000 in
theorem VecLengths_some (ax ay : Int) (w : World) (h0 : 0 < farK [ax, ay] 2) : Calls Try.prog 14 #[.agg #[.int .i64 ax, .int .i64 ay]] w fun e w' => e = .returned (.bool true) ∧ Below w.heap.size w w' := by
  have hcx : (min (max ax (-1099511627776)) 1099511627776).natAbs ≤ 1099511627776 := by omega
  have hcy : (min (max ay (-1099511627776)) 1099511627776).natAbs ≤ 1099511627776 := by omega
  have hevl : (evenV [ax, ay]).length = 2 := rfl
  refine sx_calls Try.func14 rfl (n := 42) (by kernel_rfl) (l := [(0, .agg #[.int .i64 ax, .int .i64 ay])]) rfl (by rfl) (Mem.nil w) ?_
  refine st_seq ?_
  refine st_region [(0, false), (1, false)] (by rfl) ?_
  refine ops_new (d := some 1) (o := .cells #[.int .i64 ax, .int .i64 ay] 101) (v := fun b1 => .pointer (some ⟨b1, 0, none⟩)) (M' := fun b1 => Mem w [.blk b1 [.int .i64 ax, .int .i64 ay] 101]) (fun b1 => ⟨by kernel_rfl⟩) (fun w_ hM hS => ⟨hM.blk [.int .i64 ax, .int .i64 ay] 101, trivial⟩) (fun b1 => ?_)
  refine ops_run (is := [(1, false)]) (r := []) (l' := [(1, .pointer (some ⟨b1, 0, none⟩))]) [1] (by kernel_rfl) ?_
  refine ops_nil ?_
  refine fin_then ?_
  refine st_seq ?_
  refine st_seq ?_
  refine st_region [(0, false), (1, false), (2, false)] (by rfl) ?_
  refine ops_run (is := [(0, false)]) (r := [(1, false), (2, false)]) (l' := [(5, .agg #[.int .i64 3, .int .i64 (-4)]), (1, .pointer (some ⟨b1, 0, none⟩))]) [5, 1] (by kernel_rfl) ?_
  refine ops_call (σ := Unit) (d := some 6) (f := 75) (args := #[.agg #[.int .i64 3, .int .i64 (-4)]]) (v := fun _ => .int .i64 5) (M' := fun _ => Mem w [.blk b1 [.int .i64 ax, .int .i64 ay] 101]) ⟨by kernel_rfl⟩ (fun w_ hM hS => (Len_begun w_).mono (by rintro e w' ⟨rfl, hb⟩; exact ⟨(), rfl, hM.step hb, trivial⟩)) (fun _ => ?_)
  refine ops_run (is := [(2, false)]) (r := []) (l' := [(7, .bool false), (1, .pointer (some ⟨b1, 0, none⟩))]) [7, 1] (by kernel_rfl) ?_
  refine ops_nil ?_
  refine fin_then ?_
  refine st_false rfl ?_
  refine st_skip ?_
  refine fin_then ?_
  refine st_seq ?_
  refine st_region [(0, false), (1, false), (2, false)] (by rfl) ?_
  refine ops_run (is := [(0, false)]) (r := [(1, false), (2, false)]) (l' := [(8, .agg #[.int .i64 0, .int .i64 0]), (1, .pointer (some ⟨b1, 0, none⟩))]) [8, 1] (by kernel_rfl) ?_
  refine ops_new (d := some 3) (o := .cells #[.int .i64 0, .int .i64 0] 101) (v := fun b2 => .pointer (some ⟨b2, 0, none⟩)) (M' := fun b2 => Mem w [.blk b2 [.int .i64 0, .int .i64 0] 101, .blk b1 [.int .i64 ax, .int .i64 ay] 101]) (fun b2 => ⟨by kernel_rfl⟩) (fun w_ hM hS => ⟨hM.blk [.int .i64 0, .int .i64 0] 101, trivial⟩) (fun b2 => ?_)
  refine ops_run (is := []) (r := [(2, false)]) (l' := [(3, .pointer (some ⟨b2, 0, none⟩)), (8, .agg #[.int .i64 0, .int .i64 0]), (1, .pointer (some ⟨b1, 0, none⟩))]) [3, 8, 1] (by kernel_rfl) ?_
  refine ops_store (an := []) (evs := [.store ⟨b2, 0, none⟩ (.int .i64 0), .store ⟨b2, 1, none⟩ (.int .i64 0)]) (M' := Mem w [.blk b2 [.int .i64 0, .int .i64 0] 101, .blk b1 [.int .i64 ax, .int .i64 ay] 101]) ⟨by kernel_rfl⟩ (fun w_ hM hS => let ⟨w', he, h'⟩ := hM.evs_stores [.int .i64 0, .int .i64 0] 0 rfl 0 (Nat.le_of_ble_eq_true rfl); ⟨w', he, h', trivial⟩) ?_
  refine ops_run (is := []) (r := []) (l' := [(3, .pointer (some ⟨b2, 0, none⟩)), (1, .pointer (some ⟨b1, 0, none⟩))]) [3, 1] (by kernel_rfl) ?_
  refine ops_nil ?_
  refine fin_then ?_
  refine st_seq ?_
  refine st_seq ?_
  refine st_region [(0, false), (1, false), (2, false), (3, false), (4, false), (5, false), (6, false)] (by rfl) ?_
  refine ops_run (is := [(0, false)]) (r := [(1, false), (2, false), (3, false), (4, false), (5, false), (6, false)]) (l' := [(9, .pointer (some ⟨b1, 0, none⟩)), (3, .pointer (some ⟨b2, 0, none⟩)), (1, .pointer (some ⟨b1, 0, none⟩))]) [9, 3, 1] (by kernel_rfl) ?_
  refine ops_mem (d := some 10) (an := [.v (.int .i64 ax)]) (evs := [.load ⟨b1, 0, none⟩ (.int .i64 ax)]) (v := .int .i64 ax) (M' := Mem w [.blk b2 [.int .i64 0, .int .i64 0] 101, .blk b1 [.int .i64 ax, .int .i64 ay] 101]) ⟨by kernel_rfl⟩ (fun w_ hM hS => ⟨w_, ⟨hM.cell 1 rfl rfl, rfl⟩, hM, trivial⟩) ?_
  refine ops_run (is := [(2, false)]) (r := [(3, false), (4, false), (5, false), (6, false)]) (l' := [(11, .pointer (some ⟨b1, 1, none⟩)), (10, .int .i64 ax), (3, .pointer (some ⟨b2, 0, none⟩)), (1, .pointer (some ⟨b1, 0, none⟩))]) [11, 10, 3, 1] (by kernel_rfl) ?_
  refine ops_mem (d := some 12) (an := [.v (.int .i64 ay)]) (evs := [.load ⟨b1, 1, none⟩ (.int .i64 ay)]) (v := .int .i64 ay) (M' := Mem w [.blk b2 [.int .i64 0, .int .i64 0] 101, .blk b1 [.int .i64 ax, .int .i64 ay] 101]) ⟨by kernel_rfl⟩ (fun w_ hM hS => ⟨w_, ⟨hM.cell 1 rfl rfl, rfl⟩, hM, trivial⟩) ?_
  refine ops_run (is := []) (r := [(4, false), (5, false), (6, false)]) (l' := [(12, .int .i64 ay), (10, .int .i64 ax), (3, .pointer (some ⟨b2, 0, none⟩)), (1, .pointer (some ⟨b1, 0, none⟩))]) [12, 10, 3, 1] (by kernel_rfl) ?_
  refine ops_new (d := some 13) (o := .cells #[.int .i64 ax, .int .i64 ay] 3) (v := fun b3 => .slice (some ⟨b3, 0, none⟩) 2 2) (M' := fun b3 => Mem w [.blk b3 [.int .i64 ax, .int .i64 ay] 3, .blk b2 [.int .i64 0, .int .i64 0] 101, .blk b1 [.int .i64 ax, .int .i64 ay] 101]) (fun b3 => ⟨by kernel_rfl⟩) (fun w_ hM hS => ⟨hM.blk [.int .i64 ax, .int .i64 ay] 3, trivial⟩) (fun b3 => ?_)
  refine ops_run (is := []) (r := [(5, false), (6, false)]) (l' := [(13, .slice (some ⟨b3, 0, none⟩) 2 2), (3, .pointer (some ⟨b2, 0, none⟩)), (1, .pointer (some ⟨b1, 0, none⟩))]) [13, 3, 1] (by kernel_rfl) ?_
  refine ops_call (σ := Nat × Nat) (d := some 14) (f := 76) (args := #[.slice (some ⟨b3, 0, none⟩) 2 2]) (v := fun x_ => match x_ with | (b4, c5) => .slice (some ⟨b4, 0, none⟩) 2 c5) (M' := fun x_ => match x_ with | (b4, c5) => Mem w [.row (some ⟨b4, 0, none⟩) 2 c5 3 1 (iv .i64 (evenV [ax, ay])), .blk b3 [.int .i64 ax, .int .i64 ay] 3, .blk b2 [.int .i64 0, .int .i64 0] 101, .blk b1 [.int .i64 ax, .int .i64 ay] 101]) ⟨by kernel_rfl⟩ (fun w_ hM hS => (Even_some (some ⟨b3, 0, none⟩) 2 2 [ax, ay] w_ (hM.rintsBlk 0 rfl rfl) rfl (by decide) h0).mono (by rintro e w' ⟨x_, rfl, h2⟩; exact ⟨x_, rfl, hM.join h2 rfl, trivial⟩)) ?_
  rintro ⟨b4, c5⟩
  refine ops_conv (l' := [(14, .slice (some ⟨b4, 0, none⟩) 2 c5), (13, .slice (some ⟨b3, 0, none⟩) 2 2), (3, .pointer (some ⟨b2, 0, none⟩)), (1, .pointer (some ⟨b1, 0, none⟩))]) (M' := Mem w [.row (some ⟨b4, 0, none⟩) 2 c5 3 1 (iv .i64 (evenV [ax, ay])), .blk b3 [.int .i64 ax, .int .i64 ay] 3, .blk b2 [.int .i64 0, .int .i64 0] 101, .blk b1 [.int .i64 ax, .int .i64 ay] 101]) rfl (fun _ h => h) ?_
  refine ops_run (is := [(6, false)]) (r := []) (l' := [(4, .slice (some ⟨b4, 0, none⟩) 2 c5), (3, .pointer (some ⟨b2, 0, none⟩)), (1, .pointer (some ⟨b1, 0, none⟩))]) [4, 3, 1] (by kernel_rfl) ?_
  refine ops_nil ?_
  refine fin_then ?_
  refine st_seq ?_
  refine st_region [(0, false), (1, false)] (by rfl) ?_
  refine ops_run (is := [(0, false), (1, false)]) (r := []) (l' := [(16, .bool true), (4, .slice (some ⟨b4, 0, none⟩) 2 c5), (3, .pointer (some ⟨b2, 0, none⟩)), (1, .pointer (some ⟨b1, 0, none⟩))]) [16, 4, 3, 1] (by kernel_rfl) ?_
  refine ops_nil ?_
  refine fin_then ?_
  refine st_true rfl ?_
  refine st_region_draw [(0, true), (1, true), (2, true), (3, true), (4, true), (5, true), (6, true), (7, false)] (Mem w [.row (some ⟨b4, 0, none⟩) 2 c5 3 1 (iv .i64 (evenV [ax, ay])), .blk b3 [.int .i64 ax, .int .i64 ay] 3, .blk b1 [.int .i64 ax, .int .i64 ay] 101]) (by kernel_rfl) (by kernel_rfl) (by kernel_rfl) (fun _ d _ _ _ h => by cases d <;> exact h) (M' := Mem w [.row (some ⟨b4, 0, none⟩) 2 c5 3 1 (iv .i64 (evenV [ax, ay])), .blk b3 [.int .i64 ax, .int .i64 ay] 3, .blk b2 [.int .i64 0, .int .i64 0] 101, .blk b1 [.int .i64 ax, .int .i64 ay] 101]) (fun w_ hM => ⟨hM.drew, hM.drew.sub (by simp)⟩) ?_
  refine ops_run (is := [(0, true)]) (r := [(1, true), (2, true), (3, true), (4, true), (5, true), (6, true), (7, false)]) (l' := [(17, .slice (some ⟨b4, 0, none⟩) 2 c5), (4, .slice (some ⟨b4, 0, none⟩) 2 c5), (3, .pointer (some ⟨b2, 0, none⟩)), (1, .pointer (some ⟨b1, 0, none⟩))]) [17, 4, 3, 1] (by kernel_rfl) ?_
  refine ops_val (op := (Go.Op.indexAddr 37 (Go.Operand.tmp 17) (Go.Operand.const (Go.Value.int Go.IntKind.i64 0)))) (d := some 18) (v := .pointer (some ⟨b4, 0, none⟩)) ⟨by kernel_rfl⟩ (run_indexRow Try.underlying37 (z := 1) (by kernel_rfl) rfl rfl (m := 0) (by first | rfl | omega) (by first | omega | (simp only [hevl, List.length_set, List.length_append, List.length_cons, List.length_nil, List.length_replicate] at *; omega) | (simp [hevl, List.length_set, List.length_append, List.length_cons, List.length_nil, List.length_replicate]; done)) (by exact Nat.mul_one _)) ?_
  refine ops_run (is := []) (r := [(2, true), (3, true), (4, true), (5, true), (6, true), (7, false)]) (l' := [(18, .pointer (some ⟨b4, 0, none⟩)), (4, .slice (some ⟨b4, 0, none⟩) 2 c5), (3, .pointer (some ⟨b2, 0, none⟩)), (1, .pointer (some ⟨b1, 0, none⟩))]) [18, 4, 3, 1] (by kernel_rfl) ?_
  refine ops_load (d := some 19) (an := [.v (.int .i64 ((evenV [ax, ay]).getD 0 0))]) (evs := [.load ⟨b4, 0, none⟩ (.int .i64 ((evenV [ax, ay]).getD 0 0))]) (v := .int .i64 ((evenV [ax, ay]).getD 0 0)) ⟨by kernel_rfl⟩ (fun w_ hM => ⟨hM.rowcell 0 rfl (iv_get (by first | omega | (simp only [hevl, List.length_set, List.length_append, List.length_cons, List.length_nil, List.length_replicate] at *; omega) | (simp [hevl, List.length_set, List.length_append, List.length_cons, List.length_nil, List.length_replicate]; done))), rfl⟩) ?_
  refine ops_run (is := [(3, true)]) (r := [(4, true), (5, true), (6, true), (7, false)]) (l' := [(20, .slice (some ⟨b4, 0, none⟩) 2 c5), (19, .int .i64 ((evenV [ax, ay]).getD 0 0)), (3, .pointer (some ⟨b2, 0, none⟩)), (1, .pointer (some ⟨b1, 0, none⟩))]) [20, 19, 3, 1] (by kernel_rfl) ?_
  refine ops_val (op := (Go.Op.indexAddr 37 (Go.Operand.tmp 20) (Go.Operand.const (Go.Value.int Go.IntKind.i64 1)))) (d := some 21) (v := .pointer (some ⟨b4, 1, none⟩)) ⟨by kernel_rfl⟩ (run_indexRow Try.underlying37 (z := 1) (by kernel_rfl) rfl rfl (m := 1) (by first | rfl | omega) (by first | omega | (simp only [hevl, List.length_set, List.length_append, List.length_cons, List.length_nil, List.length_replicate] at *; omega) | (simp [hevl, List.length_set, List.length_append, List.length_cons, List.length_nil, List.length_replicate]; done)) (by exact Nat.mul_one _)) ?_
  refine ops_run (is := []) (r := [(5, true), (6, true), (7, false)]) (l' := [(21, .pointer (some ⟨b4, 1, none⟩)), (19, .int .i64 ((evenV [ax, ay]).getD 0 0)), (3, .pointer (some ⟨b2, 0, none⟩)), (1, .pointer (some ⟨b1, 0, none⟩))]) [21, 19, 3, 1] (by kernel_rfl) ?_
  refine ops_load (d := some 22) (an := [.v (.int .i64 ((evenV [ax, ay]).getD 1 0))]) (evs := [.load ⟨b4, 1, none⟩ (.int .i64 ((evenV [ax, ay]).getD 1 0))]) (v := .int .i64 ((evenV [ax, ay]).getD 1 0)) ⟨by kernel_rfl⟩ (fun w_ hM => ⟨hM.rowcell 0 rfl (iv_get (by first | omega | (simp only [hevl, List.length_set, List.length_append, List.length_cons, List.length_nil, List.length_replicate] at *; omega) | (simp [hevl, List.length_set, List.length_append, List.length_cons, List.length_nil, List.length_replicate]; done))), rfl⟩) ?_
  refine ops_run (is := [(6, true)]) (r := [(7, false)]) (l' := [(23, .agg #[.int .i64 ((evenV [ax, ay]).getD 0 0), .int .i64 ((evenV [ax, ay]).getD 1 0)]), (3, .pointer (some ⟨b2, 0, none⟩)), (1, .pointer (some ⟨b1, 0, none⟩))]) [23, 3, 1] (by kernel_rfl) ?_
  refine ops_store (an := []) (evs := [.store ⟨b2, 0, none⟩ (.int .i64 ((evenV [ax, ay]).getD 0 0)), .store ⟨b2, 1, none⟩ (.int .i64 ((evenV [ax, ay]).getD 1 0))]) (M' := Mem w [.row (some ⟨b4, 0, none⟩) 2 c5 3 1 (iv .i64 (evenV [ax, ay])), .blk b3 [.int .i64 ax, .int .i64 ay] 3, .blk b2 [.int .i64 ((evenV [ax, ay]).getD 0 0), .int .i64 ((evenV [ax, ay]).getD 1 0)] 101, .blk b1 [.int .i64 ax, .int .i64 ay] 101]) ⟨by kernel_rfl⟩ (fun w_ hM hS => let ⟨w', he, h'⟩ := hM.evs_stores [.int .i64 ((evenV [ax, ay]).getD 0 0), .int .i64 ((evenV [ax, ay]).getD 1 0)] 2 rfl 0 (Nat.le_of_ble_eq_true rfl); ⟨w', he, h', (by exact h'.sub (by simp))⟩) ?_
  refine ops_run (is := []) (r := []) (l' := [(3, .pointer (some ⟨b2, 0, none⟩)), (1, .pointer (some ⟨b1, 0, none⟩))]) [3, 1] (by kernel_rfl) ?_
  refine ops_nil ?_
  refine fin_then ?_
  refine st_seq ?_
  refine st_region_draw [(0, true), (2, true), (3, true), (5, true), (6, true), (1, false), (4, false), (7, false), (8, false), (9, false), (10, false), (11, true), (12, true), (13, true), (15, true), (14, false), (16, true), (17, true), (18, true)] (Mem w [.row (some ⟨b4, 0, none⟩) 2 c5 3 1 (iv .i64 (evenV [ax, ay])), .blk b3 [.int .i64 ax, .int .i64 ay] 3, .blk b2 [.int .i64 ((evenV [ax, ay]).getD 0 0), .int .i64 ((evenV [ax, ay]).getD 1 0)] 101, .blk b1 [.int .i64 ax, .int .i64 ay] 101]) (by kernel_rfl) (by kernel_rfl) (by kernel_rfl) (fun _ d _ _ _ h => by cases d <;> exact h) (M' := Mem w [.row (some ⟨b4, 0, none⟩) 2 c5 3 1 (iv .i64 (evenV [ax, ay])), .blk b3 [.int .i64 ax, .int .i64 ay] 3, .blk b2 [.int .i64 ((evenV [ax, ay]).getD 0 0), .int .i64 ((evenV [ax, ay]).getD 1 0)] 101, .blk b1 [.int .i64 ax, .int .i64 ay] 101]) (fun w_ hM => ⟨hM.drew, hM.drew.sub (by simp)⟩) ?_
  refine ops_load (d := some 24) (an := [.v (.int .i64 ax), .v (.int .i64 ay)]) (evs := [.load ⟨b1, 0, none⟩ (.int .i64 ax), .load ⟨b1, 1, none⟩ (.int .i64 ay)]) (v := .agg #[.int .i64 ax, .int .i64 ay]) ⟨by kernel_rfl⟩ (fun w_ hM => ⟨hM.cell 3 rfl rfl, hM.cell 3 rfl rfl, rfl⟩) ?_
  refine ops_run (is := [(2, true)]) (r := [(3, true), (5, true), (6, true), (1, false), (4, false), (7, false), (8, false), (9, false), (10, false), (11, true), (12, true), (13, true), (15, true), (14, false), (16, true), (17, true), (18, true)]) (l' := [(26, .pointer (some ⟨b1, 0, none⟩)), (24, .agg #[.int .i64 ax, .int .i64 ay]), (3, .pointer (some ⟨b2, 0, none⟩)), (1, .pointer (some ⟨b1, 0, none⟩))]) [26, 24, 3, 1] (by kernel_rfl) ?_
  refine ops_load (d := some 27) (an := [.v (.int .i64 ax)]) (evs := [.load ⟨b1, 0, none⟩ (.int .i64 ax)]) (v := .int .i64 ax) ⟨by kernel_rfl⟩ (fun w_ hM => ⟨hM.cell 3 rfl rfl, rfl⟩) ?_
  refine ops_run (is := [(5, true)]) (r := [(6, true), (1, false), (4, false), (7, false), (8, false), (9, false), (10, false), (11, true), (12, true), (13, true), (15, true), (14, false), (16, true), (17, true), (18, true)]) (l' := [(29, .pointer (some ⟨b1, 1, none⟩)), (27, .int .i64 ax), (24, .agg #[.int .i64 ax, .int .i64 ay]), (3, .pointer (some ⟨b2, 0, none⟩)), (1, .pointer (some ⟨b1, 0, none⟩))]) [29, 27, 24, 3, 1] (by kernel_rfl) ?_
  refine ops_load (d := some 30) (an := [.v (.int .i64 ay)]) (evs := [.load ⟨b1, 1, none⟩ (.int .i64 ay)]) (v := .int .i64 ay) ⟨by kernel_rfl⟩ (fun w_ hM => ⟨hM.cell 3 rfl rfl, rfl⟩) ?_
  refine ops_run (is := []) (r := [(1, false), (4, false), (7, false), (8, false), (9, false), (10, false), (11, true), (12, true), (13, true), (15, true), (14, false), (16, true), (17, true), (18, true)]) (l' := [(30, .int .i64 ay), (27, .int .i64 ax), (24, .agg #[.int .i64 ax, .int .i64 ay]), (3, .pointer (some ⟨b2, 0, none⟩)), (1, .pointer (some ⟨b1, 0, none⟩))]) [30, 27, 24, 3, 1] (by kernel_rfl) ?_
  refine ops_call (σ := Unit) (d := some 25) (f := 75) (args := #[.agg #[.int .i64 ax, .int .i64 ay]]) (v := fun _ => .int .i64 (min (max (longV [min (max ax (-1099511627776)) 1099511627776, min (max ay (-1099511627776)) 1099511627776]) (-1099511627776)) 1099511627776)) (M' := fun _ => Mem w [.row (some ⟨b4, 0, none⟩) 2 c5 3 1 (iv .i64 (evenV [ax, ay])), .blk b3 [.int .i64 ax, .int .i64 ay] 3, .blk b2 [.int .i64 ((evenV [ax, ay]).getD 0 0), .int .i64 ((evenV [ax, ay]).getD 1 0)] 101, .blk b1 [.int .i64 ax, .int .i64 ay] 101]) ⟨by kernel_rfl⟩ (fun w_ hM hS => (Len_calls ax ay w_).mono (by rintro e w' ⟨rfl, hb⟩; exact ⟨(), rfl, hM.step hb, hS.step hb⟩)) (fun _ => ?_)
  refine ops_run (is := []) (r := [(4, false), (7, false), (8, false), (9, false), (10, false), (11, true), (12, true), (13, true), (15, true), (14, false), (16, true), (17, true), (18, true)]) (l' := [(25, .int .i64 (min (max (longV [min (max ax (-1099511627776)) 1099511627776, min (max ay (-1099511627776)) 1099511627776]) (-1099511627776)) 1099511627776)), (30, .int .i64 ay), (27, .int .i64 ax), (3, .pointer (some ⟨b2, 0, none⟩)), (1, .pointer (some ⟨b1, 0, none⟩))]) [25, 30, 27, 3, 1] (by kernel_rfl) ?_
  refine ops_call (σ := Unit) (d := some 28) (f := 77) (args := #[.int .i64 ax]) (v := fun _ => .int .i64 (min (max ax (-1099511627776)) 1099511627776)) (M' := fun _ => Mem w [.row (some ⟨b4, 0, none⟩) 2 c5 3 1 (iv .i64 (evenV [ax, ay])), .blk b3 [.int .i64 ax, .int .i64 ay] 3, .blk b2 [.int .i64 ((evenV [ax, ay]).getD 0 0), .int .i64 ((evenV [ax, ay]).getD 1 0)] 101, .blk b1 [.int .i64 ax, .int .i64 ay] 101]) ⟨by kernel_rfl⟩ (fun w_ hM hS => (Limit_calls ax w_).mono (by rintro e w' ⟨rfl, hb⟩; exact ⟨(), rfl, hM.step hb, hS.step hb⟩)) (fun _ => ?_)
  refine ops_run (is := []) (r := [(7, false), (8, false), (9, false), (10, false), (11, true), (12, true), (13, true), (15, true), (14, false), (16, true), (17, true), (18, true)]) (l' := [(28, .int .i64 (min (max ax (-1099511627776)) 1099511627776)), (25, .int .i64 (min (max (longV [min (max ax (-1099511627776)) 1099511627776, min (max ay (-1099511627776)) 1099511627776]) (-1099511627776)) 1099511627776)), (30, .int .i64 ay), (3, .pointer (some ⟨b2, 0, none⟩)), (1, .pointer (some ⟨b1, 0, none⟩))]) [28, 25, 30, 3, 1] (by kernel_rfl) ?_
  refine ops_call (σ := Unit) (d := some 31) (f := 77) (args := #[.int .i64 ay]) (v := fun _ => .int .i64 (min (max ay (-1099511627776)) 1099511627776)) (M' := fun _ => Mem w [.row (some ⟨b4, 0, none⟩) 2 c5 3 1 (iv .i64 (evenV [ax, ay])), .blk b3 [.int .i64 ax, .int .i64 ay] 3, .blk b2 [.int .i64 ((evenV [ax, ay]).getD 0 0), .int .i64 ((evenV [ax, ay]).getD 1 0)] 101, .blk b1 [.int .i64 ax, .int .i64 ay] 101]) ⟨by kernel_rfl⟩ (fun w_ hM hS => (Limit_calls ay w_).mono (by rintro e w' ⟨rfl, hb⟩; exact ⟨(), rfl, hM.step hb, hS.step hb⟩)) (fun _ => ?_)
  refine ops_run (is := []) (r := [(8, false), (9, false), (10, false), (11, true), (12, true), (13, true), (15, true), (14, false), (16, true), (17, true), (18, true)]) (l' := [(31, .int .i64 (min (max ay (-1099511627776)) 1099511627776)), (28, .int .i64 (min (max ax (-1099511627776)) 1099511627776)), (25, .int .i64 (min (max (longV [min (max ax (-1099511627776)) 1099511627776, min (max ay (-1099511627776)) 1099511627776]) (-1099511627776)) 1099511627776)), (3, .pointer (some ⟨b2, 0, none⟩)), (1, .pointer (some ⟨b1, 0, none⟩))]) [31, 28, 25, 3, 1] (by kernel_rfl) ?_
  refine ops_new (d := some 32) (o := .cells #[.int .i64 (min (max ax (-1099511627776)) 1099511627776), .int .i64 (min (max ay (-1099511627776)) 1099511627776)] 3) (v := fun b6 => .slice (some ⟨b6, 0, none⟩) 2 2) (M' := fun b6 => Mem w [.blk b6 [.int .i64 (min (max ax (-1099511627776)) 1099511627776), .int .i64 (min (max ay (-1099511627776)) 1099511627776)] 3, .row (some ⟨b4, 0, none⟩) 2 c5 3 1 (iv .i64 (evenV [ax, ay])), .blk b3 [.int .i64 ax, .int .i64 ay] 3, .blk b2 [.int .i64 ((evenV [ax, ay]).getD 0 0), .int .i64 ((evenV [ax, ay]).getD 1 0)] 101, .blk b1 [.int .i64 ax, .int .i64 ay] 101]) (fun b6 => ⟨by kernel_rfl⟩) (fun w_ hM hS => ⟨hM.blk [.int .i64 (min (max ax (-1099511627776)) 1099511627776), .int .i64 (min (max ay (-1099511627776)) 1099511627776)] 3, hS.alloc _⟩) (fun b6 => ?_)
  refine ops_run (is := []) (r := [(9, false), (10, false), (11, true), (12, true), (13, true), (15, true), (14, false), (16, true), (17, true), (18, true)]) (l' := [(32, .slice (some ⟨b6, 0, none⟩) 2 2), (25, .int .i64 (min (max (longV [min (max ax (-1099511627776)) 1099511627776, min (max ay (-1099511627776)) 1099511627776]) (-1099511627776)) 1099511627776)), (3, .pointer (some ⟨b2, 0, none⟩)), (1, .pointer (some ⟨b1, 0, none⟩))]) [32, 25, 3, 1] (by kernel_rfl) ?_
  refine ops_call (σ := Unit) (d := some 33) (f := 78) (args := #[.slice (some ⟨b6, 0, none⟩) 2 2]) (v := fun _ => .int .i64 (longV [min (max ax (-1099511627776)) 1099511627776, min (max ay (-1099511627776)) 1099511627776])) (M' := fun _ => Mem w [.blk b6 [.int .i64 (min (max ax (-1099511627776)) 1099511627776), .int .i64 (min (max ay (-1099511627776)) 1099511627776)] 3, .row (some ⟨b4, 0, none⟩) 2 c5 3 1 (iv .i64 (evenV [ax, ay])), .blk b3 [.int .i64 ax, .int .i64 ay] 3, .blk b2 [.int .i64 ((evenV [ax, ay]).getD 0 0), .int .i64 ((evenV [ax, ay]).getD 1 0)] 101, .blk b1 [.int .i64 ax, .int .i64 ay] 101]) ⟨by kernel_rfl⟩ (fun w_ hM hS => (Long_calls (some ⟨b6, 0, none⟩) 2 2 [min (max ax (-1099511627776)) 1099511627776, min (max ay (-1099511627776)) 1099511627776] w_ (hM.rintsBlk 0 rfl rfl) rfl (fun k => by rcases k with _ | _ | k <;> simp <;> omega) (by decide)).mono (by rintro e w' ⟨rfl, hb⟩; exact ⟨(), rfl, hM.step hb, hS.step hb⟩)) (fun _ => ?_)
  refine ops_run (is := []) (r := [(10, false), (11, true), (12, true), (13, true), (15, true), (14, false), (16, true), (17, true), (18, true)]) (l' := [(33, .int .i64 (longV [min (max ax (-1099511627776)) 1099511627776, min (max ay (-1099511627776)) 1099511627776])), (25, .int .i64 (min (max (longV [min (max ax (-1099511627776)) 1099511627776, min (max ay (-1099511627776)) 1099511627776]) (-1099511627776)) 1099511627776)), (3, .pointer (some ⟨b2, 0, none⟩)), (1, .pointer (some ⟨b1, 0, none⟩))]) [33, 25, 3, 1] (by kernel_rfl) ?_
  refine ops_call (σ := Unit) (d := some 34) (f := 77) (args := #[.int .i64 (longV [min (max ax (-1099511627776)) 1099511627776, min (max ay (-1099511627776)) 1099511627776])]) (v := fun _ => .int .i64 (min (max (longV [min (max ax (-1099511627776)) 1099511627776, min (max ay (-1099511627776)) 1099511627776]) (-1099511627776)) 1099511627776)) (M' := fun _ => Mem w [.blk b6 [.int .i64 (min (max ax (-1099511627776)) 1099511627776), .int .i64 (min (max ay (-1099511627776)) 1099511627776)] 3, .row (some ⟨b4, 0, none⟩) 2 c5 3 1 (iv .i64 (evenV [ax, ay])), .blk b3 [.int .i64 ax, .int .i64 ay] 3, .blk b2 [.int .i64 ((evenV [ax, ay]).getD 0 0), .int .i64 ((evenV [ax, ay]).getD 1 0)] 101, .blk b1 [.int .i64 ax, .int .i64 ay] 101]) ⟨by kernel_rfl⟩ (fun w_ hM hS => (Limit_calls (longV [min (max ax (-1099511627776)) 1099511627776, min (max ay (-1099511627776)) 1099511627776]) w_).mono (by rintro e w' ⟨rfl, hb⟩; exact ⟨(), rfl, hM.step hb, hS.step hb⟩)) (fun _ => ?_)
  refine ops_run (is := []) (r := [(11, true), (12, true), (13, true), (15, true), (14, false), (16, true), (17, true), (18, true)]) (l' := [(34, .int .i64 (min (max (longV [min (max ax (-1099511627776)) 1099511627776, min (max ay (-1099511627776)) 1099511627776]) (-1099511627776)) 1099511627776)), (25, .int .i64 (min (max (longV [min (max ax (-1099511627776)) 1099511627776, min (max ay (-1099511627776)) 1099511627776]) (-1099511627776)) 1099511627776)), (3, .pointer (some ⟨b2, 0, none⟩)), (1, .pointer (some ⟨b1, 0, none⟩))]) [34, 25, 3, 1] (by kernel_rfl) ?_
  refine ops_val (op := (Go.Op.binOp Go.BinOp.eql 3 (Go.Operand.tmp 25) (Go.Operand.tmp 34) 3)) (d := some 35) (v := .bool true) ⟨by kernel_rfl⟩ (run_eql_same rfl rfl) ?_
  refine ops_run (is := [(12, true)]) (r := [(13, true), (15, true), (14, false), (16, true), (17, true), (18, true)]) (l' := [(36, .bool true), (3, .pointer (some ⟨b2, 0, none⟩)), (1, .pointer (some ⟨b1, 0, none⟩))]) [36, 3, 1] (by kernel_rfl) ?_
  refine ops_load (d := some 37) (an := [.v (.int .i64 ax), .v (.int .i64 ay)]) (evs := [.load ⟨b1, 0, none⟩ (.int .i64 ax), .load ⟨b1, 1, none⟩ (.int .i64 ay)]) (v := .agg #[.int .i64 ax, .int .i64 ay]) ⟨by kernel_rfl⟩ (fun w_ hM => ⟨hM.cell 3 rfl rfl, hM.cell 3 rfl rfl, rfl⟩) ?_
  refine ops_run (is := []) (r := [(15, true), (14, false), (16, true), (17, true), (18, true)]) (l' := [(37, .agg #[.int .i64 ax, .int .i64 ay]), (36, .bool true), (3, .pointer (some ⟨b2, 0, none⟩))]) [37, 36, 3] (by kernel_rfl) ?_
  refine ops_load (d := some 39) (an := [.v (.int .i64 ((evenV [ax, ay]).getD 0 0)), .v (.int .i64 ((evenV [ax, ay]).getD 1 0))]) (evs := [.load ⟨b2, 0, none⟩ (.int .i64 ((evenV [ax, ay]).getD 0 0)), .load ⟨b2, 1, none⟩ (.int .i64 ((evenV [ax, ay]).getD 1 0))]) (v := .agg #[.int .i64 ((evenV [ax, ay]).getD 0 0), .int .i64 ((evenV [ax, ay]).getD 1 0)]) ⟨by kernel_rfl⟩ (fun w_ hM => ⟨hM.cell 2 rfl rfl, hM.cell 2 rfl rfl, rfl⟩) ?_
  refine ops_run (is := []) (r := [(14, false), (16, true), (17, true), (18, true)]) (l' := [(39, .agg #[.int .i64 ((evenV [ax, ay]).getD 0 0), .int .i64 ((evenV [ax, ay]).getD 1 0)]), (37, .agg #[.int .i64 ax, .int .i64 ay]), (36, .bool true)]) [39, 37, 36] (by kernel_rfl) ?_
  refine ops_call (σ := Unit) (d := some 38) (f := 79) (args := #[.agg #[.int .i64 ax, .int .i64 ay]]) (v := fun _ => .agg #[.int .i64 ((evenV [ax, ay]).getD 0 0), .int .i64 ((evenV [ax, ay]).getD 1 0)]) (M' := fun _ => Mem w [.blk b6 [.int .i64 (min (max ax (-1099511627776)) 1099511627776), .int .i64 (min (max ay (-1099511627776)) 1099511627776)] 3, .row (some ⟨b4, 0, none⟩) 2 c5 3 1 (iv .i64 (evenV [ax, ay])), .blk b3 [.int .i64 ax, .int .i64 ay] 3, .blk b2 [.int .i64 ((evenV [ax, ay]).getD 0 0), .int .i64 ((evenV [ax, ay]).getD 1 0)] 101, .blk b1 [.int .i64 ax, .int .i64 ay] 101]) ⟨by kernel_rfl⟩ (fun w_ hM hS => (Unit_some ax ay w_ h0).mono (by rintro e w' ⟨rfl, hb⟩; exact ⟨(), rfl, hM.step hb, hS.step hb⟩)) (fun _ => ?_)
  refine ops_run (is := []) (r := [(16, true), (17, true), (18, true)]) (l' := [(38, .agg #[.int .i64 ((evenV [ax, ay]).getD 0 0), .int .i64 ((evenV [ax, ay]).getD 1 0)]), (39, .agg #[.int .i64 ((evenV [ax, ay]).getD 0 0), .int .i64 ((evenV [ax, ay]).getD 1 0)]), (36, .bool true)]) [38, 39, 36] (by kernel_rfl) ?_
  refine ops_val (op := (Go.Op.binOp Go.BinOp.eql 101 (Go.Operand.tmp 38) (Go.Operand.tmp 39) 101)) (d := some 40) (v := .bool true) ⟨by kernel_rfl⟩ (run_eql_agg (r := true) rfl rfl (by kernel_rfl) (fun w => by have h := eqA101 9998 w ((evenV [ax, ay]).getD 0 0) ((evenV [ax, ay]).getD 0 0) ((evenV [ax, ay]).getD 1 0) ((evenV [ax, ay]).getD 1 0); simpa only [BEq.rfl, Bool.and_true] using h)) ?_
  refine ops_run (is := [(17, true), (18, true)]) (r := []) (l' := [(2, .bool true)]) [2] (by kernel_rfl) ?_
  refine ops_nil ?_
  refine fin_then ?_
  refine st_ret ?_
  refine fin_ret [.tmp 2] [.bool true] rfl rfl (fun w_ hM => (.tmp rfl .nil)) (fun w_ hM => ?_)
  exact ⟨rfl, hM.done⟩
theorem VecLengths_calls (ax ay : Int) (w : World) (h1 : (Lit.int .i64 ax).wf = true) (h2 : (Lit.int .i64 ay).wf = true) : Calls Try.prog 14 #[.agg #[.int .i64 ax, .int .i64 ay]] w fun e w' => e = .returned (.bool true) ∧ Below w.heap.size w w' := by
  have := farK_ok [ax, ay] 2
  by_cases h0 : farK [ax, ay] 2 = 0
  · exact VecLengths_nil ax ay w h0
  · exact VecLengths_some ax ay w (by omega)
end Go.Proofs.Ytdmlapkindoghaa.WVec
