/- Walks of the reference's Through. No condition. -/
import Derived.Test.YtioijglogoppnaaProg
import Derived.Test.YtioijglogoppnaaSxOps
import Derived.Test.YtioijglogoppnaaDivSpec
import Derived.Test.YtioijglogoppnaaWThru2
import Derived.Test.YtioijglogoppnaaWClamp
import Derived.Test.YtioijglogoppnaaWNat
import Derived.Test.YtioijglogoppnaaWSharing
namespace Go.Proofs.Ytioijglogoppnaa.WThru3
open Go Go.RowKit Go.Proofs.Ytioijglogoppnaa.Sx Go.Proofs.Ytioijglogoppnaa.Rnd Go.Proofs.Ytioijglogoppnaa.Nats Go.Proofs.Ytioijglogoppnaa.Trig Go.Proofs.Ytioijglogoppnaa.Vecs Go.Proofs.Ytioijglogoppnaa.Divs Go.Proofs.Ytioijglogoppnaa.WThru2 Go.Proofs.Ytioijglogoppnaa.WClamp Go.Proofs.Ytioijglogoppnaa.WNat Go.Proofs.Ytioijglogoppnaa.WSharing
set_option linter.unusedVariables false
set_option linter.unusedSimpArgs false
set_option maxHeartbeats 4000000 in
set_option maxRecDepth 100000 in
theorem Through0 (a0 b0 c0 a b c : Int) (A B D p q r : Nat) (Q1 Q2 v : Int) (g1 g2 g3 : Bool) (w : World) (hT : a ≠ 0 → b ≠ 0 → c ≠ 0 → Thru a b c A B D p q r Q1 Q2 v) (hz : a = 0 ∨ b = 0 ∨ c = 0 → v = 0) (ha : min (max a0 (-1099511627776)) 1099511627776 = a) (hb : min (max b0 (-1099511627776)) 1099511627776 = b) (hc : min (max c0 (-1099511627776)) 1099511627776 = c) (hg1 : decide (a < 0) = g1) (hg2 : (if b < 0 then !g1 else g1) = g2) (hg3 : (if c < 0 then !g2 else g2) = g3) : Calls Try.prog 17 #[vI a0, vI b0, vI c0] w fun e w' => e = .returned (vI v) ∧ Below w.heap.size w w' := by
 refine sx_calls Try.func17 rfl (n := 65) (by kernel_rfl) (l := [(0, vI a0), (1, vI b0), (2, vI c0)]) rfl (by rfl) (Mem.nil w) ?_
 refine st_seq ?_
 refine st_region [oF 0, oF 1, oF 2, oF 3] (by rfl) ?_
 refine ops_new (d := some 3) (o := .cells #[vI a0] 3) (v := fun b1 => vP b1 0) (M' := fun b1 => Mem w [.blk b1 [vI a0] 3]) (fun b1 => ⟨by kernel_rfl⟩) (fun w_ hM hS => ⟨hM.blk [vI a0] 3, trivial⟩) (fun b1 => ?_)
 refine oR [] [(3, vP b1 0), (1, vI b0), (2, vI c0)] [3, 1, 2] (by kernel_rfl) ?_
 refine ops_new (d := some 4) (o := .cells #[vI b0] 3) (v := fun b2 => vP b2 0) (M' := fun b2 => Mem w [.blk b2 [vI b0] 3, .blk b1 [vI a0] 3]) (fun b2 => ⟨by kernel_rfl⟩) (fun w_ hM hS => ⟨hM.blk [vI b0] 3, trivial⟩) (fun b2 => ?_)
 refine oR [] [(4, vP b2 0), (3, vP b1 0), (2, vI c0)] [4, 3, 2] (by kernel_rfl) ?_
 refine ops_new (d := some 5) (o := .cells #[vI c0] 3) (v := fun b3 => vP b3 0) (M' := fun b3 => Mem w [.blk b3 [vI c0] 3, .blk b2 [vI b0] 3, .blk b1 [vI a0] 3]) (fun b3 => ⟨by kernel_rfl⟩) (fun w_ hM hS => ⟨hM.blk [vI c0] 3, trivial⟩) (fun b3 => ?_)
 refine oR [oF 3] [(5, vP b3 0), (4, vP b2 0), (3, vP b1 0)] [5, 4, 3] (by kernel_rfl) ?_
 refine ops_nil ?_
 refine fin_then ?_
 refine st_seq_cut (σ := Unit) (fun _ => [(5, vP b3 0), (4, vP b2 0), (3, vP b1 0)]) (fun _ => Mem w [.blk b3 [vI c] 3, .blk b2 [vI b] 3, .blk b1 [vI a] 3]) ?_ ?_
 · --
  refine st_region_tree (.node [] (.node [oF 0] (.node [oF 1] (.node [oF 2] (.leaf [oF 3, oF 4, oF 5, oF 6, oF 7, oF 8]) (.leaf [oF 4, oF 3, oF 5, oF 6, oF 7, oF 8])) (.leaf [oF 4, oF 2, oF 3, oF 5, oF 6, oF 7, oF 8])) (.node [] (.node [oF 2] (.node [oF 1] (.leaf [oF 3, oF 4, oF 5, oF 6, oF 7, oF 8]) (.leaf [oF 4, oF 3, oF 5, oF 6, oF 7, oF 8])) (.leaf [oF 4, oF 1, oF 3, oF 5, oF 6, oF 7, oF 8])) (.node [oF 4] (.leaf [oF 1, oF 2, oF 3, oF 5, oF 6, oF 7, oF 8]) (.leaf [oF 2, oF 1, oF 3, oF 5, oF 6, oF 7, oF 8])))) (.node [] (.node [oF 2] (.node [oF 0] (.node [oF 1] (.leaf [oF 3, oF 4, oF 5, oF 6, oF 7, oF 8]) (.leaf [oF 4, oF 3, oF 5, oF 6, oF 7, oF 8])) (.leaf [oF 4, oF 1, oF 3, oF 5, oF 6, oF 7, oF 8])) (.leaf [oF 4, oF 0, oF 1, oF 3, oF 5, oF 6, oF 7, oF 8])) (.node [oF 4] (.node [oF 0] (.leaf [oF 1, oF 2, oF 3, oF 5, oF 6, oF 7, oF 8]) (.leaf [oF 2, oF 1, oF 3, oF 5, oF 6, oF 7, oF 8])) (.leaf [oF 2, oF 0, oF 1, oF 3, oF 5, oF 6, oF 7, oF 8])))) (Mem w []) (by kernel_rfl) (by kernel_rfl) (by kernel_rfl) (fun _ d _ _ _ h => by cases d <;> exact h) (M' := Mem w [.blk b3 [vI c0] 3, .blk b2 [vI b0] 3, .blk b1 [vI a0] 3]) (fun w_ hM => ⟨hM.drew, hM.drew.sub (.cons _ (.cons _ (.cons _ .slnil)))⟩) ?_
  refine tree_node ?_
  refine ops_nil ?_
  refine tree_both ?_ ?_
  · --
   refine tree_node ?_
   refine ops_mem (d := some 13) (an := [.v (vI a0)]) (evs := [.load ⟨b1, 0, none⟩ (vI a0)]) (v := vI a0) (M' := Mem w [.blk b3 [vI c0] 3, .blk b2 [vI b0] 3, .blk b1 [vI a0] 3]) ⟨by kernel_rfl⟩ (fun w_ hM hS => ⟨w_, ⟨hM.cell 2 rfl rfl, rfl⟩, hM, hS⟩) ?_
   refine oR [] [(13, vI a0), (5, vP b3 0), (4, vP b2 0), (3, vP b1 0)] [13, 5, 4, 3] (by kernel_rfl) ?_
   refine ops_nil ?_
   refine tree_both ?_ ?_
   · --
    refine tree_node ?_
    refine oCS (some 14) 19 #[vI a0] (vI a) ⟨by kernel_rfl⟩ (fun w_ hM => Limit_as a0 a w_ ha) ?_
    refine oR [] [(14, vI a), (5, vP b3 0), (4, vP b2 0), (3, vP b1 0)] [14, 5, 4, 3] (by kernel_rfl) ?_
    refine ops_nil ?_
    refine tree_both ?_ ?_
    · --
     refine tree_node ?_
     refine ops_mem (d := some 15) (an := [.v (vI b0)]) (evs := [.load ⟨b2, 0, none⟩ (vI b0)]) (v := vI b0) (M' := Mem w [.blk b3 [vI c0] 3, .blk b2 [vI b0] 3, .blk b1 [vI a0] 3]) ⟨by kernel_rfl⟩ (fun w_ hM hS => ⟨w_, ⟨hM.cell 1 rfl rfl, rfl⟩, hM, hS⟩) ?_
     refine oR [] [(15, vI b0), (14, vI a), (5, vP b3 0), (4, vP b2 0), (3, vP b1 0)] [15, 14, 5, 4, 3] (by kernel_rfl) ?_
     refine ops_nil ?_
     refine tree_both ?_ ?_
     · --
      refine tree_leaf ?_
      refine oCS (some 16) 19 #[vI b0] (vI b) ⟨by kernel_rfl⟩ (fun w_ hM => Limit_as b0 b w_ hb) ?_
      refine oR [] [(16, vI b), (14, vI a), (5, vP b3 0), (4, vP b2 0), (3, vP b1 0)] [16, 14, 5, 4, 3] (by kernel_rfl) ?_
      refine ops_mem (d := some 17) (an := [.v (vI c0)]) (evs := [.load ⟨b3, 0, none⟩ (vI c0)]) (v := vI c0) (M' := Mem w [.blk b3 [vI c0] 3, .blk b2 [vI b0] 3, .blk b1 [vI a0] 3]) ⟨by kernel_rfl⟩ (fun w_ hM hS => ⟨w_, ⟨hM.cell 0 rfl rfl, rfl⟩, hM, hS⟩) ?_
      refine oR [] [(17, vI c0), (16, vI b), (14, vI a), (5, vP b3 0), (4, vP b2 0), (3, vP b1 0)] [17, 16, 14, 5, 4, 3] (by kernel_rfl) ?_
      refine oCS (some 18) 19 #[vI c0] (vI c) ⟨by kernel_rfl⟩ (fun w_ hM => Limit_as c0 c w_ hc) ?_
      refine oR [] [(18, vI c), (16, vI b), (14, vI a), (5, vP b3 0), (4, vP b2 0), (3, vP b1 0)] [18, 16, 14, 5, 4, 3] (by kernel_rfl) ?_
      refine ops_store (an := []) (evs := [.store ⟨b1, 0, none⟩ (vI a)]) (M' := Mem w [.blk b3 [vI c0] 3, .blk b2 [vI b0] 3, .blk b1 [vI a] 3]) ⟨by kernel_rfl⟩ (fun w_ hM hS => let ⟨w', he, h'⟩ := hM.evs_stores [vI a] 2 rfl 0 (Nat.le_of_ble_eq_true rfl); ⟨w', he, h', (by exact h'.sub (.cons _ (.cons _ (.cons _ .slnil))))⟩) ?_
      refine oR [] [(18, vI c), (16, vI b), (5, vP b3 0), (4, vP b2 0), (3, vP b1 0)] [18, 16, 5, 4, 3] (by kernel_rfl) ?_
      refine ops_store (an := []) (evs := [.store ⟨b2, 0, none⟩ (vI b)]) (M' := Mem w [.blk b3 [vI c0] 3, .blk b2 [vI b] 3, .blk b1 [vI a] 3]) ⟨by kernel_rfl⟩ (fun w_ hM hS => let ⟨w', he, h'⟩ := hM.evs_stores [vI b] 1 rfl 0 (Nat.le_of_ble_eq_true rfl); ⟨w', he, h', (by exact h'.sub (.cons _ (.cons _ (.cons _ .slnil))))⟩) ?_
      refine oR [] [(18, vI c), (5, vP b3 0), (4, vP b2 0), (3, vP b1 0)] [18, 5, 4, 3] (by kernel_rfl) ?_
      refine ops_store (an := []) (evs := [.store ⟨b3, 0, none⟩ (vI c)]) (M' := Mem w [.blk b3 [vI c] 3, .blk b2 [vI b] 3, .blk b1 [vI a] 3]) ⟨by kernel_rfl⟩ (fun w_ hM hS => let ⟨w', he, h'⟩ := hM.evs_stores [vI c] 0 rfl 0 (Nat.le_of_ble_eq_true rfl); ⟨w', he, h', (by exact h'.sub (.cons _ (.cons _ (.cons _ .slnil))))⟩) ?_
      refine oR [] [(5, vP b3 0), (4, vP b2 0), (3, vP b1 0)] [5, 4, 3] (by kernel_rfl) ?_
      refine ops_nil ?_
      exact fin_cut (()) (look_has ⟨rfl, rfl, rfl, trivial⟩) (fun w_ hM => hM.reorder [0, 1, 2] (by decide) rfl)
     · --
      refine tree_leaf ?_
      refine ops_mem (d := some 17) (an := [.v (vI c0)]) (evs := [.load ⟨b3, 0, none⟩ (vI c0)]) (v := vI c0) (M' := Mem w [.blk b3 [vI c0] 3, .blk b2 [vI b0] 3, .blk b1 [vI a0] 3]) ⟨by kernel_rfl⟩ (fun w_ hM hS => ⟨w_, ⟨hM.cell 0 rfl rfl, rfl⟩, hM, hS⟩) ?_
      refine oR [] [(17, vI c0), (15, vI b0), (14, vI a), (5, vP b3 0), (4, vP b2 0), (3, vP b1 0)] [17, 15, 14, 5, 4, 3] (by kernel_rfl) ?_
      refine oCS (some 16) 19 #[vI b0] (vI b) ⟨by kernel_rfl⟩ (fun w_ hM => Limit_as b0 b w_ hb) ?_
      refine oR [] [(16, vI b), (17, vI c0), (14, vI a), (5, vP b3 0), (4, vP b2 0), (3, vP b1 0)] [16, 17, 14, 5, 4, 3] (by kernel_rfl) ?_
      refine oCS (some 18) 19 #[vI c0] (vI c) ⟨by kernel_rfl⟩ (fun w_ hM => Limit_as c0 c w_ hc) ?_
      refine oR [] [(18, vI c), (16, vI b), (14, vI a), (5, vP b3 0), (4, vP b2 0), (3, vP b1 0)] [18, 16, 14, 5, 4, 3] (by kernel_rfl) ?_
      refine ops_store (an := []) (evs := [.store ⟨b1, 0, none⟩ (vI a)]) (M' := Mem w [.blk b3 [vI c0] 3, .blk b2 [vI b0] 3, .blk b1 [vI a] 3]) ⟨by kernel_rfl⟩ (fun w_ hM hS => let ⟨w', he, h'⟩ := hM.evs_stores [vI a] 2 rfl 0 (Nat.le_of_ble_eq_true rfl); ⟨w', he, h', (by exact h'.sub (.cons _ (.cons _ (.cons _ .slnil))))⟩) ?_
      refine oR [] [(18, vI c), (16, vI b), (5, vP b3 0), (4, vP b2 0), (3, vP b1 0)] [18, 16, 5, 4, 3] (by kernel_rfl) ?_
      refine ops_store (an := []) (evs := [.store ⟨b2, 0, none⟩ (vI b)]) (M' := Mem w [.blk b3 [vI c0] 3, .blk b2 [vI b] 3, .blk b1 [vI a] 3]) ⟨by kernel_rfl⟩ (fun w_ hM hS => let ⟨w', he, h'⟩ := hM.evs_stores [vI b] 1 rfl 0 (Nat.le_of_ble_eq_true rfl); ⟨w', he, h', (by exact h'.sub (.cons _ (.cons _ (.cons _ .slnil))))⟩) ?_
      refine oR [] [(18, vI c), (5, vP b3 0), (4, vP b2 0), (3, vP b1 0)] [18, 5, 4, 3] (by kernel_rfl) ?_
      refine ops_store (an := []) (evs := [.store ⟨b3, 0, none⟩ (vI c)]) (M' := Mem w [.blk b3 [vI c] 3, .blk b2 [vI b] 3, .blk b1 [vI a] 3]) ⟨by kernel_rfl⟩ (fun w_ hM hS => let ⟨w', he, h'⟩ := hM.evs_stores [vI c] 0 rfl 0 (Nat.le_of_ble_eq_true rfl); ⟨w', he, h', (by exact h'.sub (.cons _ (.cons _ (.cons _ .slnil))))⟩) ?_
      refine oR [] [(5, vP b3 0), (4, vP b2 0), (3, vP b1 0)] [5, 4, 3] (by kernel_rfl) ?_
      refine ops_nil ?_
      exact fin_cut (()) (look_has ⟨rfl, rfl, rfl, trivial⟩) (fun w_ hM => hM.reorder [0, 1, 2] (by decide) rfl)
    · --
     refine tree_leaf ?_
     refine ops_mem (d := some 17) (an := [.v (vI c0)]) (evs := [.load ⟨b3, 0, none⟩ (vI c0)]) (v := vI c0) (M' := Mem w [.blk b3 [vI c0] 3, .blk b2 [vI b0] 3, .blk b1 [vI a0] 3]) ⟨by kernel_rfl⟩ (fun w_ hM hS => ⟨w_, ⟨hM.cell 0 rfl rfl, rfl⟩, hM, hS⟩) ?_
     refine oR [] [(17, vI c0), (14, vI a), (5, vP b3 0), (4, vP b2 0), (3, vP b1 0)] [17, 14, 5, 4, 3] (by kernel_rfl) ?_
     refine ops_mem (d := some 15) (an := [.v (vI b0)]) (evs := [.load ⟨b2, 0, none⟩ (vI b0)]) (v := vI b0) (M' := Mem w [.blk b3 [vI c0] 3, .blk b2 [vI b0] 3, .blk b1 [vI a0] 3]) ⟨by kernel_rfl⟩ (fun w_ hM hS => ⟨w_, ⟨hM.cell 1 rfl rfl, rfl⟩, hM, hS⟩) ?_
     refine oR [] [(15, vI b0), (17, vI c0), (14, vI a), (5, vP b3 0), (4, vP b2 0), (3, vP b1 0)] [15, 17, 14, 5, 4, 3] (by kernel_rfl) ?_
     refine oCS (some 16) 19 #[vI b0] (vI b) ⟨by kernel_rfl⟩ (fun w_ hM => Limit_as b0 b w_ hb) ?_
     refine oR [] [(16, vI b), (17, vI c0), (14, vI a), (5, vP b3 0), (4, vP b2 0), (3, vP b1 0)] [16, 17, 14, 5, 4, 3] (by kernel_rfl) ?_
     refine oCS (some 18) 19 #[vI c0] (vI c) ⟨by kernel_rfl⟩ (fun w_ hM => Limit_as c0 c w_ hc) ?_
     refine oR [] [(18, vI c), (16, vI b), (14, vI a), (5, vP b3 0), (4, vP b2 0), (3, vP b1 0)] [18, 16, 14, 5, 4, 3] (by kernel_rfl) ?_
     refine ops_store (an := []) (evs := [.store ⟨b1, 0, none⟩ (vI a)]) (M' := Mem w [.blk b3 [vI c0] 3, .blk b2 [vI b0] 3, .blk b1 [vI a] 3]) ⟨by kernel_rfl⟩ (fun w_ hM hS => let ⟨w', he, h'⟩ := hM.evs_stores [vI a] 2 rfl 0 (Nat.le_of_ble_eq_true rfl); ⟨w', he, h', (by exact h'.sub (.cons _ (.cons _ (.cons _ .slnil))))⟩) ?_
     refine oR [] [(18, vI c), (16, vI b), (5, vP b3 0), (4, vP b2 0), (3, vP b1 0)] [18, 16, 5, 4, 3] (by kernel_rfl) ?_
     refine ops_store (an := []) (evs := [.store ⟨b2, 0, none⟩ (vI b)]) (M' := Mem w [.blk b3 [vI c0] 3, .blk b2 [vI b] 3, .blk b1 [vI a] 3]) ⟨by kernel_rfl⟩ (fun w_ hM hS => let ⟨w', he, h'⟩ := hM.evs_stores [vI b] 1 rfl 0 (Nat.le_of_ble_eq_true rfl); ⟨w', he, h', (by exact h'.sub (.cons _ (.cons _ (.cons _ .slnil))))⟩) ?_
     refine oR [] [(18, vI c), (5, vP b3 0), (4, vP b2 0), (3, vP b1 0)] [18, 5, 4, 3] (by kernel_rfl) ?_
     refine ops_store (an := []) (evs := [.store ⟨b3, 0, none⟩ (vI c)]) (M' := Mem w [.blk b3 [vI c] 3, .blk b2 [vI b] 3, .blk b1 [vI a] 3]) ⟨by kernel_rfl⟩ (fun w_ hM hS => let ⟨w', he, h'⟩ := hM.evs_stores [vI c] 0 rfl 0 (Nat.le_of_ble_eq_true rfl); ⟨w', he, h', (by exact h'.sub (.cons _ (.cons _ (.cons _ .slnil))))⟩) ?_
     refine oR [] [(5, vP b3 0), (4, vP b2 0), (3, vP b1 0)] [5, 4, 3] (by kernel_rfl) ?_
     refine ops_nil ?_
     exact fin_cut (()) (look_has ⟨rfl, rfl, rfl, trivial⟩) (fun w_ hM => hM.reorder [0, 1, 2] (by decide) rfl)
   · --
    refine tree_ways ?_ ?_
    · --
     refine tree_node ?_
     refine ops_mem (d := some 15) (an := [.v (vI b0)]) (evs := [.load ⟨b2, 0, none⟩ (vI b0)]) (v := vI b0) (M' := Mem w [.blk b3 [vI c0] 3, .blk b2 [vI b0] 3, .blk b1 [vI a0] 3]) ⟨by kernel_rfl⟩ (fun w_ hM hS => ⟨w_, ⟨hM.cell 1 rfl rfl, rfl⟩, hM, hS⟩) ?_
     refine oR [] [(15, vI b0), (13, vI a0), (5, vP b3 0), (4, vP b2 0), (3, vP b1 0)] [15, 13, 5, 4, 3] (by kernel_rfl) ?_
     refine ops_nil ?_
     refine tree_both ?_ ?_
     · --
      refine tree_node ?_
      refine oCS (some 14) 19 #[vI a0] (vI a) ⟨by kernel_rfl⟩ (fun w_ hM => Limit_as a0 a w_ ha) ?_
      refine oR [] [(14, vI a), (15, vI b0), (5, vP b3 0), (4, vP b2 0), (3, vP b1 0)] [14, 15, 5, 4, 3] (by kernel_rfl) ?_
      refine ops_nil ?_
      refine tree_both ?_ ?_
      · --
       refine tree_leaf ?_
       refine oCS (some 16) 19 #[vI b0] (vI b) ⟨by kernel_rfl⟩ (fun w_ hM => Limit_as b0 b w_ hb) ?_
       refine oR [] [(16, vI b), (14, vI a), (5, vP b3 0), (4, vP b2 0), (3, vP b1 0)] [16, 14, 5, 4, 3] (by kernel_rfl) ?_
       refine ops_mem (d := some 17) (an := [.v (vI c0)]) (evs := [.load ⟨b3, 0, none⟩ (vI c0)]) (v := vI c0) (M' := Mem w [.blk b3 [vI c0] 3, .blk b2 [vI b0] 3, .blk b1 [vI a0] 3]) ⟨by kernel_rfl⟩ (fun w_ hM hS => ⟨w_, ⟨hM.cell 0 rfl rfl, rfl⟩, hM, hS⟩) ?_
       refine oR [] [(17, vI c0), (16, vI b), (14, vI a), (5, vP b3 0), (4, vP b2 0), (3, vP b1 0)] [17, 16, 14, 5, 4, 3] (by kernel_rfl) ?_
       refine oCS (some 18) 19 #[vI c0] (vI c) ⟨by kernel_rfl⟩ (fun w_ hM => Limit_as c0 c w_ hc) ?_
       refine oR [] [(18, vI c), (16, vI b), (14, vI a), (5, vP b3 0), (4, vP b2 0), (3, vP b1 0)] [18, 16, 14, 5, 4, 3] (by kernel_rfl) ?_
       refine ops_store (an := []) (evs := [.store ⟨b1, 0, none⟩ (vI a)]) (M' := Mem w [.blk b3 [vI c0] 3, .blk b2 [vI b0] 3, .blk b1 [vI a] 3]) ⟨by kernel_rfl⟩ (fun w_ hM hS => let ⟨w', he, h'⟩ := hM.evs_stores [vI a] 2 rfl 0 (Nat.le_of_ble_eq_true rfl); ⟨w', he, h', (by exact h'.sub (.cons _ (.cons _ (.cons _ .slnil))))⟩) ?_
       refine oR [] [(18, vI c), (16, vI b), (5, vP b3 0), (4, vP b2 0), (3, vP b1 0)] [18, 16, 5, 4, 3] (by kernel_rfl) ?_
       refine ops_store (an := []) (evs := [.store ⟨b2, 0, none⟩ (vI b)]) (M' := Mem w [.blk b3 [vI c0] 3, .blk b2 [vI b] 3, .blk b1 [vI a] 3]) ⟨by kernel_rfl⟩ (fun w_ hM hS => let ⟨w', he, h'⟩ := hM.evs_stores [vI b] 1 rfl 0 (Nat.le_of_ble_eq_true rfl); ⟨w', he, h', (by exact h'.sub (.cons _ (.cons _ (.cons _ .slnil))))⟩) ?_
       refine oR [] [(18, vI c), (5, vP b3 0), (4, vP b2 0), (3, vP b1 0)] [18, 5, 4, 3] (by kernel_rfl) ?_
       refine ops_store (an := []) (evs := [.store ⟨b3, 0, none⟩ (vI c)]) (M' := Mem w [.blk b3 [vI c] 3, .blk b2 [vI b] 3, .blk b1 [vI a] 3]) ⟨by kernel_rfl⟩ (fun w_ hM hS => let ⟨w', he, h'⟩ := hM.evs_stores [vI c] 0 rfl 0 (Nat.le_of_ble_eq_true rfl); ⟨w', he, h', (by exact h'.sub (.cons _ (.cons _ (.cons _ .slnil))))⟩) ?_
       refine oR [] [(5, vP b3 0), (4, vP b2 0), (3, vP b1 0)] [5, 4, 3] (by kernel_rfl) ?_
       refine ops_nil ?_
       exact fin_cut (()) (look_has ⟨rfl, rfl, rfl, trivial⟩) (fun w_ hM => hM.reorder [0, 1, 2] (by decide) rfl)
      · --
       refine tree_leaf ?_
       refine ops_mem (d := some 17) (an := [.v (vI c0)]) (evs := [.load ⟨b3, 0, none⟩ (vI c0)]) (v := vI c0) (M' := Mem w [.blk b3 [vI c0] 3, .blk b2 [vI b0] 3, .blk b1 [vI a0] 3]) ⟨by kernel_rfl⟩ (fun w_ hM hS => ⟨w_, ⟨hM.cell 0 rfl rfl, rfl⟩, hM, hS⟩) ?_
       refine oR [] [(17, vI c0), (14, vI a), (15, vI b0), (5, vP b3 0), (4, vP b2 0), (3, vP b1 0)] [17, 14, 15, 5, 4, 3] (by kernel_rfl) ?_
       refine oCS (some 16) 19 #[vI b0] (vI b) ⟨by kernel_rfl⟩ (fun w_ hM => Limit_as b0 b w_ hb) ?_
       refine oR [] [(16, vI b), (17, vI c0), (14, vI a), (5, vP b3 0), (4, vP b2 0), (3, vP b1 0)] [16, 17, 14, 5, 4, 3] (by kernel_rfl) ?_
       refine oCS (some 18) 19 #[vI c0] (vI c) ⟨by kernel_rfl⟩ (fun w_ hM => Limit_as c0 c w_ hc) ?_
       refine oR [] [(18, vI c), (16, vI b), (14, vI a), (5, vP b3 0), (4, vP b2 0), (3, vP b1 0)] [18, 16, 14, 5, 4, 3] (by kernel_rfl) ?_
       refine ops_store (an := []) (evs := [.store ⟨b1, 0, none⟩ (vI a)]) (M' := Mem w [.blk b3 [vI c0] 3, .blk b2 [vI b0] 3, .blk b1 [vI a] 3]) ⟨by kernel_rfl⟩ (fun w_ hM hS => let ⟨w', he, h'⟩ := hM.evs_stores [vI a] 2 rfl 0 (Nat.le_of_ble_eq_true rfl); ⟨w', he, h', (by exact h'.sub (.cons _ (.cons _ (.cons _ .slnil))))⟩) ?_
       refine oR [] [(18, vI c), (16, vI b), (5, vP b3 0), (4, vP b2 0), (3, vP b1 0)] [18, 16, 5, 4, 3] (by kernel_rfl) ?_
       refine ops_store (an := []) (evs := [.store ⟨b2, 0, none⟩ (vI b)]) (M' := Mem w [.blk b3 [vI c0] 3, .blk b2 [vI b] 3, .blk b1 [vI a] 3]) ⟨by kernel_rfl⟩ (fun w_ hM hS => let ⟨w', he, h'⟩ := hM.evs_stores [vI b] 1 rfl 0 (Nat.le_of_ble_eq_true rfl); ⟨w', he, h', (by exact h'.sub (.cons _ (.cons _ (.cons _ .slnil))))⟩) ?_
       refine oR [] [(18, vI c), (5, vP b3 0), (4, vP b2 0), (3, vP b1 0)] [18, 5, 4, 3] (by kernel_rfl) ?_
       refine ops_store (an := []) (evs := [.store ⟨b3, 0, none⟩ (vI c)]) (M' := Mem w [.blk b3 [vI c] 3, .blk b2 [vI b] 3, .blk b1 [vI a] 3]) ⟨by kernel_rfl⟩ (fun w_ hM hS => let ⟨w', he, h'⟩ := hM.evs_stores [vI c] 0 rfl 0 (Nat.le_of_ble_eq_true rfl); ⟨w', he, h', (by exact h'.sub (.cons _ (.cons _ (.cons _ .slnil))))⟩) ?_
       refine oR [] [(5, vP b3 0), (4, vP b2 0), (3, vP b1 0)] [5, 4, 3] (by kernel_rfl) ?_
       refine ops_nil ?_
       exact fin_cut (()) (look_has ⟨rfl, rfl, rfl, trivial⟩) (fun w_ hM => hM.reorder [0, 1, 2] (by decide) rfl)
     · --
      refine tree_leaf ?_
      refine ops_mem (d := some 17) (an := [.v (vI c0)]) (evs := [.load ⟨b3, 0, none⟩ (vI c0)]) (v := vI c0) (M' := Mem w [.blk b3 [vI c0] 3, .blk b2 [vI b0] 3, .blk b1 [vI a0] 3]) ⟨by kernel_rfl⟩ (fun w_ hM hS => ⟨w_, ⟨hM.cell 0 rfl rfl, rfl⟩, hM, hS⟩) ?_
      refine oR [] [(17, vI c0), (15, vI b0), (13, vI a0), (5, vP b3 0), (4, vP b2 0), (3, vP b1 0)] [17, 15, 13, 5, 4, 3] (by kernel_rfl) ?_
      refine oCS (some 14) 19 #[vI a0] (vI a) ⟨by kernel_rfl⟩ (fun w_ hM => Limit_as a0 a w_ ha) ?_
      refine oR [] [(14, vI a), (17, vI c0), (15, vI b0), (5, vP b3 0), (4, vP b2 0), (3, vP b1 0)] [14, 17, 15, 5, 4, 3] (by kernel_rfl) ?_
      refine oCS (some 16) 19 #[vI b0] (vI b) ⟨by kernel_rfl⟩ (fun w_ hM => Limit_as b0 b w_ hb) ?_
      refine oR [] [(16, vI b), (14, vI a), (17, vI c0), (5, vP b3 0), (4, vP b2 0), (3, vP b1 0)] [16, 14, 17, 5, 4, 3] (by kernel_rfl) ?_
      refine oCS (some 18) 19 #[vI c0] (vI c) ⟨by kernel_rfl⟩ (fun w_ hM => Limit_as c0 c w_ hc) ?_
      refine oR [] [(18, vI c), (16, vI b), (14, vI a), (5, vP b3 0), (4, vP b2 0), (3, vP b1 0)] [18, 16, 14, 5, 4, 3] (by kernel_rfl) ?_
      refine ops_store (an := []) (evs := [.store ⟨b1, 0, none⟩ (vI a)]) (M' := Mem w [.blk b3 [vI c0] 3, .blk b2 [vI b0] 3, .blk b1 [vI a] 3]) ⟨by kernel_rfl⟩ (fun w_ hM hS => let ⟨w', he, h'⟩ := hM.evs_stores [vI a] 2 rfl 0 (Nat.le_of_ble_eq_true rfl); ⟨w', he, h', (by exact h'.sub (.cons _ (.cons _ (.cons _ .slnil))))⟩) ?_
      refine oR [] [(18, vI c), (16, vI b), (5, vP b3 0), (4, vP b2 0), (3, vP b1 0)] [18, 16, 5, 4, 3] (by kernel_rfl) ?_
      refine ops_store (an := []) (evs := [.store ⟨b2, 0, none⟩ (vI b)]) (M' := Mem w [.blk b3 [vI c0] 3, .blk b2 [vI b] 3, .blk b1 [vI a] 3]) ⟨by kernel_rfl⟩ (fun w_ hM hS => let ⟨w', he, h'⟩ := hM.evs_stores [vI b] 1 rfl 0 (Nat.le_of_ble_eq_true rfl); ⟨w', he, h', (by exact h'.sub (.cons _ (.cons _ (.cons _ .slnil))))⟩) ?_
      refine oR [] [(18, vI c), (5, vP b3 0), (4, vP b2 0), (3, vP b1 0)] [18, 5, 4, 3] (by kernel_rfl) ?_
      refine ops_store (an := []) (evs := [.store ⟨b3, 0, none⟩ (vI c)]) (M' := Mem w [.blk b3 [vI c] 3, .blk b2 [vI b] 3, .blk b1 [vI a] 3]) ⟨by kernel_rfl⟩ (fun w_ hM hS => let ⟨w', he, h'⟩ := hM.evs_stores [vI c] 0 rfl 0 (Nat.le_of_ble_eq_true rfl); ⟨w', he, h', (by exact h'.sub (.cons _ (.cons _ (.cons _ .slnil))))⟩) ?_
      refine oR [] [(5, vP b3 0), (4, vP b2 0), (3, vP b1 0)] [5, 4, 3] (by kernel_rfl) ?_
      refine ops_nil ?_
      exact fin_cut (()) (look_has ⟨rfl, rfl, rfl, trivial⟩) (fun w_ hM => hM.reorder [0, 1, 2] (by decide) rfl)
    · --
     refine tree_node ?_
     refine ops_mem (d := some 17) (an := [.v (vI c0)]) (evs := [.load ⟨b3, 0, none⟩ (vI c0)]) (v := vI c0) (M' := Mem w [.blk b3 [vI c0] 3, .blk b2 [vI b0] 3, .blk b1 [vI a0] 3]) ⟨by kernel_rfl⟩ (fun w_ hM hS => ⟨w_, ⟨hM.cell 0 rfl rfl, rfl⟩, hM, hS⟩) ?_
     refine oR [] [(17, vI c0), (13, vI a0), (5, vP b3 0), (4, vP b2 0), (3, vP b1 0)] [17, 13, 5, 4, 3] (by kernel_rfl) ?_
     refine ops_nil ?_
     refine tree_both ?_ ?_
     · --
      refine tree_leaf ?_
      refine oCS (some 14) 19 #[vI a0] (vI a) ⟨by kernel_rfl⟩ (fun w_ hM => Limit_as a0 a w_ ha) ?_
      refine oR [] [(14, vI a), (17, vI c0), (5, vP b3 0), (4, vP b2 0), (3, vP b1 0)] [14, 17, 5, 4, 3] (by kernel_rfl) ?_
      refine ops_mem (d := some 15) (an := [.v (vI b0)]) (evs := [.load ⟨b2, 0, none⟩ (vI b0)]) (v := vI b0) (M' := Mem w [.blk b3 [vI c0] 3, .blk b2 [vI b0] 3, .blk b1 [vI a0] 3]) ⟨by kernel_rfl⟩ (fun w_ hM hS => ⟨w_, ⟨hM.cell 1 rfl rfl, rfl⟩, hM, hS⟩) ?_
      refine oR [] [(15, vI b0), (14, vI a), (17, vI c0), (5, vP b3 0), (4, vP b2 0), (3, vP b1 0)] [15, 14, 17, 5, 4, 3] (by kernel_rfl) ?_
      refine oCS (some 16) 19 #[vI b0] (vI b) ⟨by kernel_rfl⟩ (fun w_ hM => Limit_as b0 b w_ hb) ?_
      refine oR [] [(16, vI b), (14, vI a), (17, vI c0), (5, vP b3 0), (4, vP b2 0), (3, vP b1 0)] [16, 14, 17, 5, 4, 3] (by kernel_rfl) ?_
      refine oCS (some 18) 19 #[vI c0] (vI c) ⟨by kernel_rfl⟩ (fun w_ hM => Limit_as c0 c w_ hc) ?_
      refine oR [] [(18, vI c), (16, vI b), (14, vI a), (5, vP b3 0), (4, vP b2 0), (3, vP b1 0)] [18, 16, 14, 5, 4, 3] (by kernel_rfl) ?_
      refine ops_store (an := []) (evs := [.store ⟨b1, 0, none⟩ (vI a)]) (M' := Mem w [.blk b3 [vI c0] 3, .blk b2 [vI b0] 3, .blk b1 [vI a] 3]) ⟨by kernel_rfl⟩ (fun w_ hM hS => let ⟨w', he, h'⟩ := hM.evs_stores [vI a] 2 rfl 0 (Nat.le_of_ble_eq_true rfl); ⟨w', he, h', (by exact h'.sub (.cons _ (.cons _ (.cons _ .slnil))))⟩) ?_
      refine oR [] [(18, vI c), (16, vI b), (5, vP b3 0), (4, vP b2 0), (3, vP b1 0)] [18, 16, 5, 4, 3] (by kernel_rfl) ?_
      refine ops_store (an := []) (evs := [.store ⟨b2, 0, none⟩ (vI b)]) (M' := Mem w [.blk b3 [vI c0] 3, .blk b2 [vI b] 3, .blk b1 [vI a] 3]) ⟨by kernel_rfl⟩ (fun w_ hM hS => let ⟨w', he, h'⟩ := hM.evs_stores [vI b] 1 rfl 0 (Nat.le_of_ble_eq_true rfl); ⟨w', he, h', (by exact h'.sub (.cons _ (.cons _ (.cons _ .slnil))))⟩) ?_
      refine oR [] [(18, vI c), (5, vP b3 0), (4, vP b2 0), (3, vP b1 0)] [18, 5, 4, 3] (by kernel_rfl) ?_
      refine ops_store (an := []) (evs := [.store ⟨b3, 0, none⟩ (vI c)]) (M' := Mem w [.blk b3 [vI c] 3, .blk b2 [vI b] 3, .blk b1 [vI a] 3]) ⟨by kernel_rfl⟩ (fun w_ hM hS => let ⟨w', he, h'⟩ := hM.evs_stores [vI c] 0 rfl 0 (Nat.le_of_ble_eq_true rfl); ⟨w', he, h', (by exact h'.sub (.cons _ (.cons _ (.cons _ .slnil))))⟩) ?_
      refine oR [] [(5, vP b3 0), (4, vP b2 0), (3, vP b1 0)] [5, 4, 3] (by kernel_rfl) ?_
      refine ops_nil ?_
      exact fin_cut (()) (look_has ⟨rfl, rfl, rfl, trivial⟩) (fun w_ hM => hM.reorder [0, 1, 2] (by decide) rfl)
     · --
      refine tree_leaf ?_
      refine ops_mem (d := some 15) (an := [.v (vI b0)]) (evs := [.load ⟨b2, 0, none⟩ (vI b0)]) (v := vI b0) (M' := Mem w [.blk b3 [vI c0] 3, .blk b2 [vI b0] 3, .blk b1 [vI a0] 3]) ⟨by kernel_rfl⟩ (fun w_ hM hS => ⟨w_, ⟨hM.cell 1 rfl rfl, rfl⟩, hM, hS⟩) ?_
      refine oR [] [(15, vI b0), (17, vI c0), (13, vI a0), (5, vP b3 0), (4, vP b2 0), (3, vP b1 0)] [15, 17, 13, 5, 4, 3] (by kernel_rfl) ?_
      refine oCS (some 14) 19 #[vI a0] (vI a) ⟨by kernel_rfl⟩ (fun w_ hM => Limit_as a0 a w_ ha) ?_
      refine oR [] [(14, vI a), (15, vI b0), (17, vI c0), (5, vP b3 0), (4, vP b2 0), (3, vP b1 0)] [14, 15, 17, 5, 4, 3] (by kernel_rfl) ?_
      refine oCS (some 16) 19 #[vI b0] (vI b) ⟨by kernel_rfl⟩ (fun w_ hM => Limit_as b0 b w_ hb) ?_
      refine oR [] [(16, vI b), (14, vI a), (17, vI c0), (5, vP b3 0), (4, vP b2 0), (3, vP b1 0)] [16, 14, 17, 5, 4, 3] (by kernel_rfl) ?_
      refine oCS (some 18) 19 #[vI c0] (vI c) ⟨by kernel_rfl⟩ (fun w_ hM => Limit_as c0 c w_ hc) ?_
      refine oR [] [(18, vI c), (16, vI b), (14, vI a), (5, vP b3 0), (4, vP b2 0), (3, vP b1 0)] [18, 16, 14, 5, 4, 3] (by kernel_rfl) ?_
      refine ops_store (an := []) (evs := [.store ⟨b1, 0, none⟩ (vI a)]) (M' := Mem w [.blk b3 [vI c0] 3, .blk b2 [vI b0] 3, .blk b1 [vI a] 3]) ⟨by kernel_rfl⟩ (fun w_ hM hS => let ⟨w', he, h'⟩ := hM.evs_stores [vI a] 2 rfl 0 (Nat.le_of_ble_eq_true rfl); ⟨w', he, h', (by exact h'.sub (.cons _ (.cons _ (.cons _ .slnil))))⟩) ?_
      refine oR [] [(18, vI c), (16, vI b), (5, vP b3 0), (4, vP b2 0), (3, vP b1 0)] [18, 16, 5, 4, 3] (by kernel_rfl) ?_
      refine ops_store (an := []) (evs := [.store ⟨b2, 0, none⟩ (vI b)]) (M' := Mem w [.blk b3 [vI c0] 3, .blk b2 [vI b] 3, .blk b1 [vI a] 3]) ⟨by kernel_rfl⟩ (fun w_ hM hS => let ⟨w', he, h'⟩ := hM.evs_stores [vI b] 1 rfl 0 (Nat.le_of_ble_eq_true rfl); ⟨w', he, h', (by exact h'.sub (.cons _ (.cons _ (.cons _ .slnil))))⟩) ?_
      refine oR [] [(18, vI c), (5, vP b3 0), (4, vP b2 0), (3, vP b1 0)] [18, 5, 4, 3] (by kernel_rfl) ?_
      refine ops_store (an := []) (evs := [.store ⟨b3, 0, none⟩ (vI c)]) (M' := Mem w [.blk b3 [vI c] 3, .blk b2 [vI b] 3, .blk b1 [vI a] 3]) ⟨by kernel_rfl⟩ (fun w_ hM hS => let ⟨w', he, h'⟩ := hM.evs_stores [vI c] 0 rfl 0 (Nat.le_of_ble_eq_true rfl); ⟨w', he, h', (by exact h'.sub (.cons _ (.cons _ (.cons _ .slnil))))⟩) ?_
      refine oR [] [(5, vP b3 0), (4, vP b2 0), (3, vP b1 0)] [5, 4, 3] (by kernel_rfl) ?_
      refine ops_nil ?_
      exact fin_cut (()) (look_has ⟨rfl, rfl, rfl, trivial⟩) (fun w_ hM => hM.reorder [0, 1, 2] (by decide) rfl)
  · --
   refine tree_ways ?_ ?_
   · --
    refine tree_node ?_
    refine ops_mem (d := some 15) (an := [.v (vI b0)]) (evs := [.load ⟨b2, 0, none⟩ (vI b0)]) (v := vI b0) (M' := Mem w [.blk b3 [vI c0] 3, .blk b2 [vI b0] 3, .blk b1 [vI a0] 3]) ⟨by kernel_rfl⟩ (fun w_ hM hS => ⟨w_, ⟨hM.cell 1 rfl rfl, rfl⟩, hM, hS⟩) ?_
    refine oR [] [(15, vI b0), (5, vP b3 0), (4, vP b2 0), (3, vP b1 0)] [15, 5, 4, 3] (by kernel_rfl) ?_
    refine ops_nil ?_
    refine tree_both ?_ ?_
    · --
     refine tree_node ?_
     refine ops_mem (d := some 13) (an := [.v (vI a0)]) (evs := [.load ⟨b1, 0, none⟩ (vI a0)]) (v := vI a0) (M' := Mem w [.blk b3 [vI c0] 3, .blk b2 [vI b0] 3, .blk b1 [vI a0] 3]) ⟨by kernel_rfl⟩ (fun w_ hM hS => ⟨w_, ⟨hM.cell 2 rfl rfl, rfl⟩, hM, hS⟩) ?_
     refine oR [] [(13, vI a0), (15, vI b0), (5, vP b3 0), (4, vP b2 0), (3, vP b1 0)] [13, 15, 5, 4, 3] (by kernel_rfl) ?_
     refine ops_nil ?_
     refine tree_both ?_ ?_
     · --
      refine tree_node ?_
      refine oCS (some 14) 19 #[vI a0] (vI a) ⟨by kernel_rfl⟩ (fun w_ hM => Limit_as a0 a w_ ha) ?_
      refine oR [] [(14, vI a), (15, vI b0), (5, vP b3 0), (4, vP b2 0), (3, vP b1 0)] [14, 15, 5, 4, 3] (by kernel_rfl) ?_
      refine ops_nil ?_
      refine tree_both ?_ ?_
      · --
       refine tree_leaf ?_
       refine oCS (some 16) 19 #[vI b0] (vI b) ⟨by kernel_rfl⟩ (fun w_ hM => Limit_as b0 b w_ hb) ?_
       refine oR [] [(16, vI b), (14, vI a), (5, vP b3 0), (4, vP b2 0), (3, vP b1 0)] [16, 14, 5, 4, 3] (by kernel_rfl) ?_
       refine ops_mem (d := some 17) (an := [.v (vI c0)]) (evs := [.load ⟨b3, 0, none⟩ (vI c0)]) (v := vI c0) (M' := Mem w [.blk b3 [vI c0] 3, .blk b2 [vI b0] 3, .blk b1 [vI a0] 3]) ⟨by kernel_rfl⟩ (fun w_ hM hS => ⟨w_, ⟨hM.cell 0 rfl rfl, rfl⟩, hM, hS⟩) ?_
       refine oR [] [(17, vI c0), (16, vI b), (14, vI a), (5, vP b3 0), (4, vP b2 0), (3, vP b1 0)] [17, 16, 14, 5, 4, 3] (by kernel_rfl) ?_
       refine oCS (some 18) 19 #[vI c0] (vI c) ⟨by kernel_rfl⟩ (fun w_ hM => Limit_as c0 c w_ hc) ?_
       refine oR [] [(18, vI c), (16, vI b), (14, vI a), (5, vP b3 0), (4, vP b2 0), (3, vP b1 0)] [18, 16, 14, 5, 4, 3] (by kernel_rfl) ?_
       refine ops_store (an := []) (evs := [.store ⟨b1, 0, none⟩ (vI a)]) (M' := Mem w [.blk b3 [vI c0] 3, .blk b2 [vI b0] 3, .blk b1 [vI a] 3]) ⟨by kernel_rfl⟩ (fun w_ hM hS => let ⟨w', he, h'⟩ := hM.evs_stores [vI a] 2 rfl 0 (Nat.le_of_ble_eq_true rfl); ⟨w', he, h', (by exact h'.sub (.cons _ (.cons _ (.cons _ .slnil))))⟩) ?_
       refine oR [] [(18, vI c), (16, vI b), (5, vP b3 0), (4, vP b2 0), (3, vP b1 0)] [18, 16, 5, 4, 3] (by kernel_rfl) ?_
       refine ops_store (an := []) (evs := [.store ⟨b2, 0, none⟩ (vI b)]) (M' := Mem w [.blk b3 [vI c0] 3, .blk b2 [vI b] 3, .blk b1 [vI a] 3]) ⟨by kernel_rfl⟩ (fun w_ hM hS => let ⟨w', he, h'⟩ := hM.evs_stores [vI b] 1 rfl 0 (Nat.le_of_ble_eq_true rfl); ⟨w', he, h', (by exact h'.sub (.cons _ (.cons _ (.cons _ .slnil))))⟩) ?_
       refine oR [] [(18, vI c), (5, vP b3 0), (4, vP b2 0), (3, vP b1 0)] [18, 5, 4, 3] (by kernel_rfl) ?_
       refine ops_store (an := []) (evs := [.store ⟨b3, 0, none⟩ (vI c)]) (M' := Mem w [.blk b3 [vI c] 3, .blk b2 [vI b] 3, .blk b1 [vI a] 3]) ⟨by kernel_rfl⟩ (fun w_ hM hS => let ⟨w', he, h'⟩ := hM.evs_stores [vI c] 0 rfl 0 (Nat.le_of_ble_eq_true rfl); ⟨w', he, h', (by exact h'.sub (.cons _ (.cons _ (.cons _ .slnil))))⟩) ?_
       refine oR [] [(5, vP b3 0), (4, vP b2 0), (3, vP b1 0)] [5, 4, 3] (by kernel_rfl) ?_
       refine ops_nil ?_
       exact fin_cut (()) (look_has ⟨rfl, rfl, rfl, trivial⟩) (fun w_ hM => hM.reorder [0, 1, 2] (by decide) rfl)
      · --
       refine tree_leaf ?_
       refine ops_mem (d := some 17) (an := [.v (vI c0)]) (evs := [.load ⟨b3, 0, none⟩ (vI c0)]) (v := vI c0) (M' := Mem w [.blk b3 [vI c0] 3, .blk b2 [vI b0] 3, .blk b1 [vI a0] 3]) ⟨by kernel_rfl⟩ (fun w_ hM hS => ⟨w_, ⟨hM.cell 0 rfl rfl, rfl⟩, hM, hS⟩) ?_
       refine oR [] [(17, vI c0), (14, vI a), (15, vI b0), (5, vP b3 0), (4, vP b2 0), (3, vP b1 0)] [17, 14, 15, 5, 4, 3] (by kernel_rfl) ?_
       refine oCS (some 16) 19 #[vI b0] (vI b) ⟨by kernel_rfl⟩ (fun w_ hM => Limit_as b0 b w_ hb) ?_
       refine oR [] [(16, vI b), (17, vI c0), (14, vI a), (5, vP b3 0), (4, vP b2 0), (3, vP b1 0)] [16, 17, 14, 5, 4, 3] (by kernel_rfl) ?_
       refine oCS (some 18) 19 #[vI c0] (vI c) ⟨by kernel_rfl⟩ (fun w_ hM => Limit_as c0 c w_ hc) ?_
       refine oR [] [(18, vI c), (16, vI b), (14, vI a), (5, vP b3 0), (4, vP b2 0), (3, vP b1 0)] [18, 16, 14, 5, 4, 3] (by kernel_rfl) ?_
       refine ops_store (an := []) (evs := [.store ⟨b1, 0, none⟩ (vI a)]) (M' := Mem w [.blk b3 [vI c0] 3, .blk b2 [vI b0] 3, .blk b1 [vI a] 3]) ⟨by kernel_rfl⟩ (fun w_ hM hS => let ⟨w', he, h'⟩ := hM.evs_stores [vI a] 2 rfl 0 (Nat.le_of_ble_eq_true rfl); ⟨w', he, h', (by exact h'.sub (.cons _ (.cons _ (.cons _ .slnil))))⟩) ?_
       refine oR [] [(18, vI c), (16, vI b), (5, vP b3 0), (4, vP b2 0), (3, vP b1 0)] [18, 16, 5, 4, 3] (by kernel_rfl) ?_
       refine ops_store (an := []) (evs := [.store ⟨b2, 0, none⟩ (vI b)]) (M' := Mem w [.blk b3 [vI c0] 3, .blk b2 [vI b] 3, .blk b1 [vI a] 3]) ⟨by kernel_rfl⟩ (fun w_ hM hS => let ⟨w', he, h'⟩ := hM.evs_stores [vI b] 1 rfl 0 (Nat.le_of_ble_eq_true rfl); ⟨w', he, h', (by exact h'.sub (.cons _ (.cons _ (.cons _ .slnil))))⟩) ?_
       refine oR [] [(18, vI c), (5, vP b3 0), (4, vP b2 0), (3, vP b1 0)] [18, 5, 4, 3] (by kernel_rfl) ?_
       refine ops_store (an := []) (evs := [.store ⟨b3, 0, none⟩ (vI c)]) (M' := Mem w [.blk b3 [vI c] 3, .blk b2 [vI b] 3, .blk b1 [vI a] 3]) ⟨by kernel_rfl⟩ (fun w_ hM hS => let ⟨w', he, h'⟩ := hM.evs_stores [vI c] 0 rfl 0 (Nat.le_of_ble_eq_true rfl); ⟨w', he, h', (by exact h'.sub (.cons _ (.cons _ (.cons _ .slnil))))⟩) ?_
       refine oR [] [(5, vP b3 0), (4, vP b2 0), (3, vP b1 0)] [5, 4, 3] (by kernel_rfl) ?_
       refine ops_nil ?_
       exact fin_cut (()) (look_has ⟨rfl, rfl, rfl, trivial⟩) (fun w_ hM => hM.reorder [0, 1, 2] (by decide) rfl)
     · --
      refine tree_leaf ?_
      refine ops_mem (d := some 17) (an := [.v (vI c0)]) (evs := [.load ⟨b3, 0, none⟩ (vI c0)]) (v := vI c0) (M' := Mem w [.blk b3 [vI c0] 3, .blk b2 [vI b0] 3, .blk b1 [vI a0] 3]) ⟨by kernel_rfl⟩ (fun w_ hM hS => ⟨w_, ⟨hM.cell 0 rfl rfl, rfl⟩, hM, hS⟩) ?_
      refine oR [] [(17, vI c0), (13, vI a0), (15, vI b0), (5, vP b3 0), (4, vP b2 0), (3, vP b1 0)] [17, 13, 15, 5, 4, 3] (by kernel_rfl) ?_
      refine oCS (some 14) 19 #[vI a0] (vI a) ⟨by kernel_rfl⟩ (fun w_ hM => Limit_as a0 a w_ ha) ?_
      refine oR [] [(14, vI a), (17, vI c0), (15, vI b0), (5, vP b3 0), (4, vP b2 0), (3, vP b1 0)] [14, 17, 15, 5, 4, 3] (by kernel_rfl) ?_
      refine oCS (some 16) 19 #[vI b0] (vI b) ⟨by kernel_rfl⟩ (fun w_ hM => Limit_as b0 b w_ hb) ?_
      refine oR [] [(16, vI b), (14, vI a), (17, vI c0), (5, vP b3 0), (4, vP b2 0), (3, vP b1 0)] [16, 14, 17, 5, 4, 3] (by kernel_rfl) ?_
      refine oCS (some 18) 19 #[vI c0] (vI c) ⟨by kernel_rfl⟩ (fun w_ hM => Limit_as c0 c w_ hc) ?_
      refine oR [] [(18, vI c), (16, vI b), (14, vI a), (5, vP b3 0), (4, vP b2 0), (3, vP b1 0)] [18, 16, 14, 5, 4, 3] (by kernel_rfl) ?_
      refine ops_store (an := []) (evs := [.store ⟨b1, 0, none⟩ (vI a)]) (M' := Mem w [.blk b3 [vI c0] 3, .blk b2 [vI b0] 3, .blk b1 [vI a] 3]) ⟨by kernel_rfl⟩ (fun w_ hM hS => let ⟨w', he, h'⟩ := hM.evs_stores [vI a] 2 rfl 0 (Nat.le_of_ble_eq_true rfl); ⟨w', he, h', (by exact h'.sub (.cons _ (.cons _ (.cons _ .slnil))))⟩) ?_
      refine oR [] [(18, vI c), (16, vI b), (5, vP b3 0), (4, vP b2 0), (3, vP b1 0)] [18, 16, 5, 4, 3] (by kernel_rfl) ?_
      refine ops_store (an := []) (evs := [.store ⟨b2, 0, none⟩ (vI b)]) (M' := Mem w [.blk b3 [vI c0] 3, .blk b2 [vI b] 3, .blk b1 [vI a] 3]) ⟨by kernel_rfl⟩ (fun w_ hM hS => let ⟨w', he, h'⟩ := hM.evs_stores [vI b] 1 rfl 0 (Nat.le_of_ble_eq_true rfl); ⟨w', he, h', (by exact h'.sub (.cons _ (.cons _ (.cons _ .slnil))))⟩) ?_
      refine oR [] [(18, vI c), (5, vP b3 0), (4, vP b2 0), (3, vP b1 0)] [18, 5, 4, 3] (by kernel_rfl) ?_
      refine ops_store (an := []) (evs := [.store ⟨b3, 0, none⟩ (vI c)]) (M' := Mem w [.blk b3 [vI c] 3, .blk b2 [vI b] 3, .blk b1 [vI a] 3]) ⟨by kernel_rfl⟩ (fun w_ hM hS => let ⟨w', he, h'⟩ := hM.evs_stores [vI c] 0 rfl 0 (Nat.le_of_ble_eq_true rfl); ⟨w', he, h', (by exact h'.sub (.cons _ (.cons _ (.cons _ .slnil))))⟩) ?_
      refine oR [] [(5, vP b3 0), (4, vP b2 0), (3, vP b1 0)] [5, 4, 3] (by kernel_rfl) ?_
      refine ops_nil ?_
      exact fin_cut (()) (look_has ⟨rfl, rfl, rfl, trivial⟩) (fun w_ hM => hM.reorder [0, 1, 2] (by decide) rfl)
    · --
     refine tree_leaf ?_
     refine ops_mem (d := some 17) (an := [.v (vI c0)]) (evs := [.load ⟨b3, 0, none⟩ (vI c0)]) (v := vI c0) (M' := Mem w [.blk b3 [vI c0] 3, .blk b2 [vI b0] 3, .blk b1 [vI a0] 3]) ⟨by kernel_rfl⟩ (fun w_ hM hS => ⟨w_, ⟨hM.cell 0 rfl rfl, rfl⟩, hM, hS⟩) ?_
     refine oR [] [(17, vI c0), (15, vI b0), (5, vP b3 0), (4, vP b2 0), (3, vP b1 0)] [17, 15, 5, 4, 3] (by kernel_rfl) ?_
     refine ops_mem (d := some 13) (an := [.v (vI a0)]) (evs := [.load ⟨b1, 0, none⟩ (vI a0)]) (v := vI a0) (M' := Mem w [.blk b3 [vI c0] 3, .blk b2 [vI b0] 3, .blk b1 [vI a0] 3]) ⟨by kernel_rfl⟩ (fun w_ hM hS => ⟨w_, ⟨hM.cell 2 rfl rfl, rfl⟩, hM, hS⟩) ?_
     refine oR [] [(13, vI a0), (17, vI c0), (15, vI b0), (5, vP b3 0), (4, vP b2 0), (3, vP b1 0)] [13, 17, 15, 5, 4, 3] (by kernel_rfl) ?_
     refine oCS (some 14) 19 #[vI a0] (vI a) ⟨by kernel_rfl⟩ (fun w_ hM => Limit_as a0 a w_ ha) ?_
     refine oR [] [(14, vI a), (17, vI c0), (15, vI b0), (5, vP b3 0), (4, vP b2 0), (3, vP b1 0)] [14, 17, 15, 5, 4, 3] (by kernel_rfl) ?_
     refine oCS (some 16) 19 #[vI b0] (vI b) ⟨by kernel_rfl⟩ (fun w_ hM => Limit_as b0 b w_ hb) ?_
     refine oR [] [(16, vI b), (14, vI a), (17, vI c0), (5, vP b3 0), (4, vP b2 0), (3, vP b1 0)] [16, 14, 17, 5, 4, 3] (by kernel_rfl) ?_
     refine oCS (some 18) 19 #[vI c0] (vI c) ⟨by kernel_rfl⟩ (fun w_ hM => Limit_as c0 c w_ hc) ?_
     refine oR [] [(18, vI c), (16, vI b), (14, vI a), (5, vP b3 0), (4, vP b2 0), (3, vP b1 0)] [18, 16, 14, 5, 4, 3] (by kernel_rfl) ?_
     refine ops_store (an := []) (evs := [.store ⟨b1, 0, none⟩ (vI a)]) (M' := Mem w [.blk b3 [vI c0] 3, .blk b2 [vI b0] 3, .blk b1 [vI a] 3]) ⟨by kernel_rfl⟩ (fun w_ hM hS => let ⟨w', he, h'⟩ := hM.evs_stores [vI a] 2 rfl 0 (Nat.le_of_ble_eq_true rfl); ⟨w', he, h', (by exact h'.sub (.cons _ (.cons _ (.cons _ .slnil))))⟩) ?_
     refine oR [] [(18, vI c), (16, vI b), (5, vP b3 0), (4, vP b2 0), (3, vP b1 0)] [18, 16, 5, 4, 3] (by kernel_rfl) ?_
     refine ops_store (an := []) (evs := [.store ⟨b2, 0, none⟩ (vI b)]) (M' := Mem w [.blk b3 [vI c0] 3, .blk b2 [vI b] 3, .blk b1 [vI a] 3]) ⟨by kernel_rfl⟩ (fun w_ hM hS => let ⟨w', he, h'⟩ := hM.evs_stores [vI b] 1 rfl 0 (Nat.le_of_ble_eq_true rfl); ⟨w', he, h', (by exact h'.sub (.cons _ (.cons _ (.cons _ .slnil))))⟩) ?_
     refine oR [] [(18, vI c), (5, vP b3 0), (4, vP b2 0), (3, vP b1 0)] [18, 5, 4, 3] (by kernel_rfl) ?_
     refine ops_store (an := []) (evs := [.store ⟨b3, 0, none⟩ (vI c)]) (M' := Mem w [.blk b3 [vI c] 3, .blk b2 [vI b] 3, .blk b1 [vI a] 3]) ⟨by kernel_rfl⟩ (fun w_ hM hS => let ⟨w', he, h'⟩ := hM.evs_stores [vI c] 0 rfl 0 (Nat.le_of_ble_eq_true rfl); ⟨w', he, h', (by exact h'.sub (.cons _ (.cons _ (.cons _ .slnil))))⟩) ?_
     refine oR [] [(5, vP b3 0), (4, vP b2 0), (3, vP b1 0)] [5, 4, 3] (by kernel_rfl) ?_
     refine ops_nil ?_
     exact fin_cut (()) (look_has ⟨rfl, rfl, rfl, trivial⟩) (fun w_ hM => hM.reorder [0, 1, 2] (by decide) rfl)
   · --
    refine tree_node ?_
    refine ops_mem (d := some 17) (an := [.v (vI c0)]) (evs := [.load ⟨b3, 0, none⟩ (vI c0)]) (v := vI c0) (M' := Mem w [.blk b3 [vI c0] 3, .blk b2 [vI b0] 3, .blk b1 [vI a0] 3]) ⟨by kernel_rfl⟩ (fun w_ hM hS => ⟨w_, ⟨hM.cell 0 rfl rfl, rfl⟩, hM, hS⟩) ?_
    refine oR [] [(17, vI c0), (5, vP b3 0), (4, vP b2 0), (3, vP b1 0)] [17, 5, 4, 3] (by kernel_rfl) ?_
    refine ops_nil ?_
    refine tree_both ?_ ?_
    · --
     refine tree_node ?_
     refine ops_mem (d := some 13) (an := [.v (vI a0)]) (evs := [.load ⟨b1, 0, none⟩ (vI a0)]) (v := vI a0) (M' := Mem w [.blk b3 [vI c0] 3, .blk b2 [vI b0] 3, .blk b1 [vI a0] 3]) ⟨by kernel_rfl⟩ (fun w_ hM hS => ⟨w_, ⟨hM.cell 2 rfl rfl, rfl⟩, hM, hS⟩) ?_
     refine oR [] [(13, vI a0), (17, vI c0), (5, vP b3 0), (4, vP b2 0), (3, vP b1 0)] [13, 17, 5, 4, 3] (by kernel_rfl) ?_
     refine ops_nil ?_
     refine tree_both ?_ ?_
     · --
      refine tree_leaf ?_
      refine oCS (some 14) 19 #[vI a0] (vI a) ⟨by kernel_rfl⟩ (fun w_ hM => Limit_as a0 a w_ ha) ?_
      refine oR [] [(14, vI a), (17, vI c0), (5, vP b3 0), (4, vP b2 0), (3, vP b1 0)] [14, 17, 5, 4, 3] (by kernel_rfl) ?_
      refine ops_mem (d := some 15) (an := [.v (vI b0)]) (evs := [.load ⟨b2, 0, none⟩ (vI b0)]) (v := vI b0) (M' := Mem w [.blk b3 [vI c0] 3, .blk b2 [vI b0] 3, .blk b1 [vI a0] 3]) ⟨by kernel_rfl⟩ (fun w_ hM hS => ⟨w_, ⟨hM.cell 1 rfl rfl, rfl⟩, hM, hS⟩) ?_
      refine oR [] [(15, vI b0), (14, vI a), (17, vI c0), (5, vP b3 0), (4, vP b2 0), (3, vP b1 0)] [15, 14, 17, 5, 4, 3] (by kernel_rfl) ?_
      refine oCS (some 16) 19 #[vI b0] (vI b) ⟨by kernel_rfl⟩ (fun w_ hM => Limit_as b0 b w_ hb) ?_
      refine oR [] [(16, vI b), (14, vI a), (17, vI c0), (5, vP b3 0), (4, vP b2 0), (3, vP b1 0)] [16, 14, 17, 5, 4, 3] (by kernel_rfl) ?_
      refine oCS (some 18) 19 #[vI c0] (vI c) ⟨by kernel_rfl⟩ (fun w_ hM => Limit_as c0 c w_ hc) ?_
      refine oR [] [(18, vI c), (16, vI b), (14, vI a), (5, vP b3 0), (4, vP b2 0), (3, vP b1 0)] [18, 16, 14, 5, 4, 3] (by kernel_rfl) ?_
      refine ops_store (an := []) (evs := [.store ⟨b1, 0, none⟩ (vI a)]) (M' := Mem w [.blk b3 [vI c0] 3, .blk b2 [vI b0] 3, .blk b1 [vI a] 3]) ⟨by kernel_rfl⟩ (fun w_ hM hS => let ⟨w', he, h'⟩ := hM.evs_stores [vI a] 2 rfl 0 (Nat.le_of_ble_eq_true rfl); ⟨w', he, h', (by exact h'.sub (.cons _ (.cons _ (.cons _ .slnil))))⟩) ?_
      refine oR [] [(18, vI c), (16, vI b), (5, vP b3 0), (4, vP b2 0), (3, vP b1 0)] [18, 16, 5, 4, 3] (by kernel_rfl) ?_
      refine ops_store (an := []) (evs := [.store ⟨b2, 0, none⟩ (vI b)]) (M' := Mem w [.blk b3 [vI c0] 3, .blk b2 [vI b] 3, .blk b1 [vI a] 3]) ⟨by kernel_rfl⟩ (fun w_ hM hS => let ⟨w', he, h'⟩ := hM.evs_stores [vI b] 1 rfl 0 (Nat.le_of_ble_eq_true rfl); ⟨w', he, h', (by exact h'.sub (.cons _ (.cons _ (.cons _ .slnil))))⟩) ?_
      refine oR [] [(18, vI c), (5, vP b3 0), (4, vP b2 0), (3, vP b1 0)] [18, 5, 4, 3] (by kernel_rfl) ?_
      refine ops_store (an := []) (evs := [.store ⟨b3, 0, none⟩ (vI c)]) (M' := Mem w [.blk b3 [vI c] 3, .blk b2 [vI b] 3, .blk b1 [vI a] 3]) ⟨by kernel_rfl⟩ (fun w_ hM hS => let ⟨w', he, h'⟩ := hM.evs_stores [vI c] 0 rfl 0 (Nat.le_of_ble_eq_true rfl); ⟨w', he, h', (by exact h'.sub (.cons _ (.cons _ (.cons _ .slnil))))⟩) ?_
      refine oR [] [(5, vP b3 0), (4, vP b2 0), (3, vP b1 0)] [5, 4, 3] (by kernel_rfl) ?_
      refine ops_nil ?_
      exact fin_cut (()) (look_has ⟨rfl, rfl, rfl, trivial⟩) (fun w_ hM => hM.reorder [0, 1, 2] (by decide) rfl)
     · --
      refine tree_leaf ?_
      refine ops_mem (d := some 15) (an := [.v (vI b0)]) (evs := [.load ⟨b2, 0, none⟩ (vI b0)]) (v := vI b0) (M' := Mem w [.blk b3 [vI c0] 3, .blk b2 [vI b0] 3, .blk b1 [vI a0] 3]) ⟨by kernel_rfl⟩ (fun w_ hM hS => ⟨w_, ⟨hM.cell 1 rfl rfl, rfl⟩, hM, hS⟩) ?_
      refine oR [] [(15, vI b0), (13, vI a0), (17, vI c0), (5, vP b3 0), (4, vP b2 0), (3, vP b1 0)] [15, 13, 17, 5, 4, 3] (by kernel_rfl) ?_
      refine oCS (some 14) 19 #[vI a0] (vI a) ⟨by kernel_rfl⟩ (fun w_ hM => Limit_as a0 a w_ ha) ?_
      refine oR [] [(14, vI a), (15, vI b0), (17, vI c0), (5, vP b3 0), (4, vP b2 0), (3, vP b1 0)] [14, 15, 17, 5, 4, 3] (by kernel_rfl) ?_
      refine oCS (some 16) 19 #[vI b0] (vI b) ⟨by kernel_rfl⟩ (fun w_ hM => Limit_as b0 b w_ hb) ?_
      refine oR [] [(16, vI b), (14, vI a), (17, vI c0), (5, vP b3 0), (4, vP b2 0), (3, vP b1 0)] [16, 14, 17, 5, 4, 3] (by kernel_rfl) ?_
      refine oCS (some 18) 19 #[vI c0] (vI c) ⟨by kernel_rfl⟩ (fun w_ hM => Limit_as c0 c w_ hc) ?_
      refine oR [] [(18, vI c), (16, vI b), (14, vI a), (5, vP b3 0), (4, vP b2 0), (3, vP b1 0)] [18, 16, 14, 5, 4, 3] (by kernel_rfl) ?_
      refine ops_store (an := []) (evs := [.store ⟨b1, 0, none⟩ (vI a)]) (M' := Mem w [.blk b3 [vI c0] 3, .blk b2 [vI b0] 3, .blk b1 [vI a] 3]) ⟨by kernel_rfl⟩ (fun w_ hM hS => let ⟨w', he, h'⟩ := hM.evs_stores [vI a] 2 rfl 0 (Nat.le_of_ble_eq_true rfl); ⟨w', he, h', (by exact h'.sub (.cons _ (.cons _ (.cons _ .slnil))))⟩) ?_
      refine oR [] [(18, vI c), (16, vI b), (5, vP b3 0), (4, vP b2 0), (3, vP b1 0)] [18, 16, 5, 4, 3] (by kernel_rfl) ?_
      refine ops_store (an := []) (evs := [.store ⟨b2, 0, none⟩ (vI b)]) (M' := Mem w [.blk b3 [vI c0] 3, .blk b2 [vI b] 3, .blk b1 [vI a] 3]) ⟨by kernel_rfl⟩ (fun w_ hM hS => let ⟨w', he, h'⟩ := hM.evs_stores [vI b] 1 rfl 0 (Nat.le_of_ble_eq_true rfl); ⟨w', he, h', (by exact h'.sub (.cons _ (.cons _ (.cons _ .slnil))))⟩) ?_
      refine oR [] [(18, vI c), (5, vP b3 0), (4, vP b2 0), (3, vP b1 0)] [18, 5, 4, 3] (by kernel_rfl) ?_
      refine ops_store (an := []) (evs := [.store ⟨b3, 0, none⟩ (vI c)]) (M' := Mem w [.blk b3 [vI c] 3, .blk b2 [vI b] 3, .blk b1 [vI a] 3]) ⟨by kernel_rfl⟩ (fun w_ hM hS => let ⟨w', he, h'⟩ := hM.evs_stores [vI c] 0 rfl 0 (Nat.le_of_ble_eq_true rfl); ⟨w', he, h', (by exact h'.sub (.cons _ (.cons _ (.cons _ .slnil))))⟩) ?_
      refine oR [] [(5, vP b3 0), (4, vP b2 0), (3, vP b1 0)] [5, 4, 3] (by kernel_rfl) ?_
      refine ops_nil ?_
      exact fin_cut (()) (look_has ⟨rfl, rfl, rfl, trivial⟩) (fun w_ hM => hM.reorder [0, 1, 2] (by decide) rfl)
    · --
     refine tree_leaf ?_
     refine ops_mem (d := some 15) (an := [.v (vI b0)]) (evs := [.load ⟨b2, 0, none⟩ (vI b0)]) (v := vI b0) (M' := Mem w [.blk b3 [vI c0] 3, .blk b2 [vI b0] 3, .blk b1 [vI a0] 3]) ⟨by kernel_rfl⟩ (fun w_ hM hS => ⟨w_, ⟨hM.cell 1 rfl rfl, rfl⟩, hM, hS⟩) ?_
     refine oR [] [(15, vI b0), (17, vI c0), (5, vP b3 0), (4, vP b2 0), (3, vP b1 0)] [15, 17, 5, 4, 3] (by kernel_rfl) ?_
     refine ops_mem (d := some 13) (an := [.v (vI a0)]) (evs := [.load ⟨b1, 0, none⟩ (vI a0)]) (v := vI a0) (M' := Mem w [.blk b3 [vI c0] 3, .blk b2 [vI b0] 3, .blk b1 [vI a0] 3]) ⟨by kernel_rfl⟩ (fun w_ hM hS => ⟨w_, ⟨hM.cell 2 rfl rfl, rfl⟩, hM, hS⟩) ?_
     refine oR [] [(13, vI a0), (15, vI b0), (17, vI c0), (5, vP b3 0), (4, vP b2 0), (3, vP b1 0)] [13, 15, 17, 5, 4, 3] (by kernel_rfl) ?_
     refine oCS (some 14) 19 #[vI a0] (vI a) ⟨by kernel_rfl⟩ (fun w_ hM => Limit_as a0 a w_ ha) ?_
     refine oR [] [(14, vI a), (15, vI b0), (17, vI c0), (5, vP b3 0), (4, vP b2 0), (3, vP b1 0)] [14, 15, 17, 5, 4, 3] (by kernel_rfl) ?_
     refine oCS (some 16) 19 #[vI b0] (vI b) ⟨by kernel_rfl⟩ (fun w_ hM => Limit_as b0 b w_ hb) ?_
     refine oR [] [(16, vI b), (14, vI a), (17, vI c0), (5, vP b3 0), (4, vP b2 0), (3, vP b1 0)] [16, 14, 17, 5, 4, 3] (by kernel_rfl) ?_
     refine oCS (some 18) 19 #[vI c0] (vI c) ⟨by kernel_rfl⟩ (fun w_ hM => Limit_as c0 c w_ hc) ?_
     refine oR [] [(18, vI c), (16, vI b), (14, vI a), (5, vP b3 0), (4, vP b2 0), (3, vP b1 0)] [18, 16, 14, 5, 4, 3] (by kernel_rfl) ?_
     refine ops_store (an := []) (evs := [.store ⟨b1, 0, none⟩ (vI a)]) (M' := Mem w [.blk b3 [vI c0] 3, .blk b2 [vI b0] 3, .blk b1 [vI a] 3]) ⟨by kernel_rfl⟩ (fun w_ hM hS => let ⟨w', he, h'⟩ := hM.evs_stores [vI a] 2 rfl 0 (Nat.le_of_ble_eq_true rfl); ⟨w', he, h', (by exact h'.sub (.cons _ (.cons _ (.cons _ .slnil))))⟩) ?_
     refine oR [] [(18, vI c), (16, vI b), (5, vP b3 0), (4, vP b2 0), (3, vP b1 0)] [18, 16, 5, 4, 3] (by kernel_rfl) ?_
     refine ops_store (an := []) (evs := [.store ⟨b2, 0, none⟩ (vI b)]) (M' := Mem w [.blk b3 [vI c0] 3, .blk b2 [vI b] 3, .blk b1 [vI a] 3]) ⟨by kernel_rfl⟩ (fun w_ hM hS => let ⟨w', he, h'⟩ := hM.evs_stores [vI b] 1 rfl 0 (Nat.le_of_ble_eq_true rfl); ⟨w', he, h', (by exact h'.sub (.cons _ (.cons _ (.cons _ .slnil))))⟩) ?_
     refine oR [] [(18, vI c), (5, vP b3 0), (4, vP b2 0), (3, vP b1 0)] [18, 5, 4, 3] (by kernel_rfl) ?_
     refine ops_store (an := []) (evs := [.store ⟨b3, 0, none⟩ (vI c)]) (M' := Mem w [.blk b3 [vI c] 3, .blk b2 [vI b] 3, .blk b1 [vI a] 3]) ⟨by kernel_rfl⟩ (fun w_ hM hS => let ⟨w', he, h'⟩ := hM.evs_stores [vI c] 0 rfl 0 (Nat.le_of_ble_eq_true rfl); ⟨w', he, h', (by exact h'.sub (.cons _ (.cons _ (.cons _ .slnil))))⟩) ?_
     refine oR [] [(5, vP b3 0), (4, vP b2 0), (3, vP b1 0)] [5, 4, 3] (by kernel_rfl) ?_
     refine ops_nil ?_
     exact fin_cut (()) (look_has ⟨rfl, rfl, rfl, trivial⟩) (fun w_ hM => hM.reorder [0, 1, 2] (by decide) rfl)
 · --
  rintro ⟨⟩
  refine st_seq ?_
  refine st_seq ?_
  refine st_region [oF 0, oF 1, oF 2, oF 3, oF 4, oF 5, oF 6, oF 7, oF 8, oF 9] (by rfl) ?_
  refine ops_mem (d := some 19) (an := [.v (vI a)]) (evs := [.load ⟨b1, 0, none⟩ (vI a)]) (v := vI a) (M' := Mem w [.blk b3 [vI c] 3, .blk b2 [vI b] 3, .blk b1 [vI a] 3]) ⟨by kernel_rfl⟩ (fun w_ hM hS => ⟨w_, ⟨hM.cell 2 rfl rfl, rfl⟩, hM, trivial⟩) ?_
  refine oR [oF 1, oF 2] [(21, .bool (a == 0)), (5, vP b3 0), (4, vP b2 0), (3, vP b1 0)] [21, 5, 4, 3] (by kernel_rfl) ?_
  refine ops_bool (t := (a == 0)) (l1 := [(21, .bool true), (5, vP b3 0), (4, vP b2 0), (3, vP b1 0)]) (l2 := [(21, .bool false), (5, vP b3 0), (4, vP b2 0), (3, vP b1 0)]) (fun h => by rw [h]) (fun h => by rw [h]) (fun hc4 => ?_) (fun hc4 => ?_)
  · --(a == 0)
   have := beq_iff_eq.1 hc4
   refine oR [oF 3, oF 4, oF 5, oF 6, oF 7, oF 8, oF 9] [(28, .bool true), (5, vP b3 0), (4, vP b2 0), (3, vP b1 0)] [28, 5, 4, 3] (by kernel_rfl) ?_
   refine ops_nil ?_
   refine fin_then ?_
   refine st_true rfl ?_
   refine st_seq ?_
   refine st_region [oF 0] (by rfl) ?_
   refine oR [oF 0] [(6, vI 0)] [6] (by kernel_rfl) ?_
   refine ops_nil ?_
   refine fin_then ?_
   refine st_ret ?_
   refine fin_ret_then ?_
   refine fin_ret [.tmp 6] [vI 0] rfl rfl (fun w_ hM => (.tmp rfl .nil)) (fun w_ hM => ?_)
   have hz := hz (by omega)
   rw [hz]
   exact ⟨rfl, hM.done⟩
  · --(a == 0)
   have := beq_eq_false_iff_ne.1 hc4
   refine ops_mem (d := some 22) (an := [.v (vI b)]) (evs := [.load ⟨b2, 0, none⟩ (vI b)]) (v := vI b) (M' := Mem w [.blk b3 [vI c] 3, .blk b2 [vI b] 3, .blk b1 [vI a] 3]) ⟨by kernel_rfl⟩ (fun w_ hM hS => ⟨w_, ⟨hM.cell 1 rfl rfl, rfl⟩, hM, trivial⟩) ?_
   refine oR [oF 4, oF 5, oF 6] [(25, .bool (b == 0)), (5, vP b3 0), (4, vP b2 0), (3, vP b1 0)] [25, 5, 4, 3] (by kernel_rfl) ?_
   refine ops_bool (t := (b == 0)) (l1 := [(25, .bool true), (5, vP b3 0), (4, vP b2 0), (3, vP b1 0)]) (l2 := [(25, .bool false), (5, vP b3 0), (4, vP b2 0), (3, vP b1 0)]) (fun h => by rw [h]) (fun h => by rw [h]) (fun hc5 => ?_) (fun hc5 => ?_)
   · --(b == 0)
    have := beq_iff_eq.1 hc5
    refine oR [oF 7, oF 8, oF 9] [(28, .bool true), (5, vP b3 0), (4, vP b2 0), (3, vP b1 0)] [28, 5, 4, 3] (by kernel_rfl) ?_
    refine ops_nil ?_
    refine fin_then ?_
    refine st_true rfl ?_
    refine st_seq ?_
    refine st_region [oF 0] (by rfl) ?_
    refine oR [oF 0] [(6, vI 0)] [6] (by kernel_rfl) ?_
    refine ops_nil ?_
    refine fin_then ?_
    refine st_ret ?_
    refine fin_ret_then ?_
    refine fin_ret [.tmp 6] [vI 0] rfl rfl (fun w_ hM => (.tmp rfl .nil)) (fun w_ hM => ?_)
    have hz := hz (by omega)
    rw [hz]
    exact ⟨rfl, hM.done⟩
   · --(b == 0)
    have := beq_eq_false_iff_ne.1 hc5
    refine ops_mem (d := some 26) (an := [.v (vI c)]) (evs := [.load ⟨b3, 0, none⟩ (vI c)]) (v := vI c) (M' := Mem w [.blk b3 [vI c] 3, .blk b2 [vI b] 3, .blk b1 [vI a] 3]) ⟨by kernel_rfl⟩ (fun w_ hM hS => ⟨w_, ⟨hM.cell 0 rfl rfl, rfl⟩, hM, trivial⟩) ?_
    refine oR [oF 8, oF 9] [(28, .bool (c == 0)), (5, vP b3 0), (4, vP b2 0), (3, vP b1 0)] [28, 5, 4, 3] (by kernel_rfl) ?_
    refine ops_nil ?_
    refine fin_then ?_
    refine st_if (b := (c == 0)) rfl (fun hc6 => ?_) (fun hc6 => ?_)
    · --
     have : c = 0 := by simpa using hc6
     refine st_seq ?_
     refine st_region [oF 0] (by rfl) ?_
     refine oR [oF 0] [(6, vI 0)] [6] (by kernel_rfl) ?_
     refine ops_nil ?_
     refine fin_then ?_
     refine st_ret ?_
     refine fin_ret_then ?_
     refine fin_ret [.tmp 6] [vI 0] rfl rfl (fun w_ hM => (.tmp rfl .nil)) (fun w_ hM => ?_)
     have hz := hz (by omega)
     rw [hz]
     exact ⟨rfl, hM.done⟩
    · --
     have : ¬ (c = 0) := by simpa using hc6
     have hT := hT (by omega) (by omega) (by omega)
     have hm1 := hT.m1
     have hm2 := hT.m2
     obtain ⟨hA, hB, hD, hp, hD0, hq, hr, hAM, hBM, hDM, ⟨hq1a, hq1b⟩, ⟨hq2a, hq2b⟩, hneg, hpos⟩ := hT
     have hrD : r < D := hr ▸ Nat.mod_lt _ hD0
     have hQ1 : Q1 = (q : Int) ∨ Q1 = (q : Int) + 1 := by omega
     have hQ2 : Q2 = (q : Int) ∨ Q2 = (q : Int) + 1 := by omega
     have hgi := sign3 hg1 hg2 hg3
     have hvn : g3 = true → v = -(min Q2 1099511627776) := fun h => hneg (hgi.1 h)
     have hvp : g3 = false → v = min Q1 1099511627776 := fun h => hpos (fun e => by rw [hgi.2 e] at h; cases h)
     clear hneg hpos
     have hAB : A * B ≤ 1099511627776 * 1099511627776 := Nat.mul_le_mul hAM hBM
     have hL1 : (digs (A * B)).length ≤ 1000 := digs_mid (by omega)
     have hL2 : (digs (2 * (A * B))).length ≤ 1000 := digs_mid (by omega)
     have hwm : IntKind.i64.wrap (0 - (min Q2 1099511627776)) = 0 - (min Q2 1099511627776) := i64in (by omega) (by omega)
     refine st_skip ?_
     refine fin_then ?_
     refine st_seq ?_
     refine st_region [oF 0] (by rfl) ?_
     refine oR [oF 0] [(7, .bool false), (5, vP b3 0), (4, vP b2 0), (3, vP b1 0)] [7, 5, 4, 3] (by kernel_rfl) ?_
     refine ops_nil ?_
     refine fin_then ?_
     refine st_seq ?_
     refine st_seq ?_
     refine st_region [oF 0, oF 1, oF 2] (by rfl) ?_
     refine ops_new (d := some 29) (o := .cells #[vP b1 0, vP b2 0, vP b3 0] 112) (v := fun b7 => .slice (some ⟨b7, 0, none⟩) 3 3) (M' := fun b7 => Mem w [.blk b7 [vP b1 0, vP b2 0, vP b3 0] 112, .blk b3 [vI c] 3, .blk b2 [vI b] 3, .blk b1 [vI a] 3]) (fun b7 => ⟨by kernel_rfl⟩) (fun w_ hM hS => ⟨hM.blk [vP b1 0, vP b2 0, vP b3 0] 112, trivial⟩) (fun b7 => ?_)
     refine oR [oF 1, oF 2] [(31, vI 0), (30, vI 3), (29, .slice (some ⟨b7, 0, none⟩) 3 3), (7, .bool false), (5, vP b3 0), (4, vP b2 0), (3, vP b1 0)] [31, 30, 29, 7, 5, 4, 3] (by kernel_rfl) ?_
     refine ops_nil ?_
     refine fin_then ?_
     refine st_block ?_
     refine st_unroll 6 ?_
     refine str_succ ?_
     refine st_seq ?_
     refine st_region [oF 0] (by rfl) ?_
     refine oR [oF 0] [(32, .bool true), (31, vI 0), (30, vI 3), (29, .slice (some ⟨b7, 0, none⟩) 3 3), (7, .bool false), (5, vP b3 0), (4, vP b2 0), (3, vP b1 0)] [32, 31, 30, 29, 7, 5, 4, 3] (by kernel_rfl) ?_
     refine ops_nil ?_
     refine fin_then ?_
     refine st_seq ?_
     refine st_true rfl ?_
     refine st_skip ?_
     refine fin_then ?_
     refine st_seq_cut (σ := Unit) (fun _ => [(31, vI 0), (30, vI 3), (29, .slice (some ⟨b7, 0, none⟩) 3 3), (7, .bool g1), (5, vP b3 0), (4, vP b2 0), (3, vP b1 0)]) (fun _ => Mem w [.blk b7 [vP b1 0, vP b2 0, vP b3 0] 112, .blk b3 [vI c] 3, .blk b2 [vI b] 3, .blk b1 [vI (A : Int)] 3]) ?_ ?_
     · --
      refine st_block ?_
      refine st_seq ?_
      refine st_region [oF 0, oF 1, oF 2] (by rfl) ?_
      refine oR [oF 0] [(33, vP b7 0), (31, vI 0), (30, vI 3), (29, .slice (some ⟨b7, 0, none⟩) 3 3), (7, .bool false), (5, vP b3 0), (4, vP b2 0), (3, vP b1 0)] [33, 31, 30, 29, 7, 5, 4, 3] (by kernel_rfl) ?_
      refine ops_mem (d := some 34) (an := [.v (vP b1 0)]) (evs := [.load ⟨b7, 0, none⟩ (vP b1 0)]) (v := vP b1 0) (M' := Mem w [.blk b7 [vP b1 0, vP b2 0, vP b3 0] 112, .blk b3 [vI c] 3, .blk b2 [vI b] 3, .blk b1 [vI a] 3]) ⟨by kernel_rfl⟩ (fun w_ hM hS => ⟨w_, ⟨hM.cell 0 rfl rfl, rfl⟩, hM, trivial⟩) ?_
      refine oR [oF 2] [(9, vP b1 0), (31, vI 0), (30, vI 3), (29, .slice (some ⟨b7, 0, none⟩) 3 3), (7, .bool false), (5, vP b3 0), (4, vP b2 0), (3, vP b1 0)] [9, 31, 30, 29, 7, 5, 4, 3] (by kernel_rfl) ?_
      refine ops_nil ?_
      refine fin_then ?_
      refine st_seq ?_
      refine st_region [oF 0, oF 1, oF 2, oF 3] (by rfl) ?_
      refine oR [oF 0, oF 1] [(36, vP b1 0), (9, vP b1 0), (31, vI 0), (30, vI 3), (29, .slice (some ⟨b7, 0, none⟩) 3 3), (7, .bool false), (5, vP b3 0), (4, vP b2 0), (3, vP b1 0)] [36, 9, 31, 30, 29, 7, 5, 4, 3] (by kernel_rfl) ?_
      refine ops_mem (d := some 37) (an := [.v (vI a)]) (evs := [.load ⟨b1, 0, none⟩ (vI a)]) (v := vI a) (M' := Mem w [.blk b7 [vP b1 0, vP b2 0, vP b3 0] 112, .blk b3 [vI c] 3, .blk b2 [vI b] 3, .blk b1 [vI a] 3]) ⟨by kernel_rfl⟩ (fun w_ hM hS => ⟨w_, ⟨hM.cell 3 rfl rfl, rfl⟩, hM, trivial⟩) ?_
      refine oR [oF 3] [(38, .bool (decide (a < 0))), (9, vP b1 0), (31, vI 0), (30, vI 3), (29, .slice (some ⟨b7, 0, none⟩) 3 3), (7, .bool false), (5, vP b3 0), (4, vP b2 0), (3, vP b1 0)] [38, 9, 31, 30, 29, 7, 5, 4, 3] (by kernel_rfl) ?_
      refine ops_nil ?_
      refine fin_then ?_
      refine st_if (b := decide (a < 0)) rfl (fun hc8 => ?_) (fun hc8 => ?_)
      · --
       have : (a < 0) := of_decide_eq_true hc8
       have hAn : IntKind.i64.wrap (0 - a) = (A : Int) := by rw [i64in (by omega) (by omega)]; omega
       refine st_region_draw [oT 0, oT 1, oT 2, oT 3, oT 4, oT 7, oF 5, oT 6, oT 8, oF 9] (Mem w [.blk b7 [vP b1 0, vP b2 0, vP b3 0] 112, .blk b3 [vI c] 3, .blk b2 [vI b] 3]) (by kernel_rfl) (by kernel_rfl) (by kernel_rfl) (fun _ d _ _ _ h => by cases d <;> exact h) (M' := Mem w [.blk b7 [vP b1 0, vP b2 0, vP b3 0] 112, .blk b3 [vI c] 3, .blk b2 [vI b] 3, .blk b1 [vI a] 3]) (fun w_ hM => ⟨hM.drew, hM.drew.sub (.cons_cons _ (.cons_cons _ (.cons_cons _ (.cons _ .slnil))))⟩) ?_
       refine oR [oT 0, oT 1, oT 2, oT 3, oT 4, oT 7] [(7, .bool true), (43, vP b1 0), (39, vP b1 0), (31, vI 0), (30, vI 3), (29, .slice (some ⟨b7, 0, none⟩) 3 3), (5, vP b3 0), (4, vP b2 0), (3, vP b1 0)] [7, 43, 39, 31, 30, 29, 5, 4, 3] (by kernel_rfl) ?_
       refine ops_mem (d := some 44) (an := [.v (vI a)]) (evs := [.load ⟨b1, 0, none⟩ (vI a)]) (v := vI a) (M' := Mem w [.blk b7 [vP b1 0, vP b2 0, vP b3 0] 112, .blk b3 [vI c] 3, .blk b2 [vI b] 3, .blk b1 [vI a] 3]) ⟨by kernel_rfl⟩ (fun w_ hM hS => ⟨w_, ⟨hM.cell 3 rfl rfl, rfl⟩, hM, hS⟩) ?_
       refine oR [oT 6] [(45, vI (IntKind.i64.wrap (0 - a))), (7, .bool true), (39, vP b1 0), (31, vI 0), (30, vI 3), (29, .slice (some ⟨b7, 0, none⟩) 3 3), (5, vP b3 0), (4, vP b2 0), (3, vP b1 0)] [45, 7, 39, 31, 30, 29, 5, 4, 3] (by kernel_rfl) ?_
       refine ops_conv (l' := [(45, vI (A : Int)), (7, .bool true), (39, vP b1 0), (31, vI 0), (30, vI 3), (29, .slice (some ⟨b7, 0, none⟩) 3 3), (5, vP b3 0), (4, vP b2 0), (3, vP b1 0)]) (by rw [hAn]) (fun _ h => h) ?_
       refine oR [oT 8] [(46, vP b1 0), (45, vI (A : Int)), (7, .bool true), (31, vI 0), (30, vI 3), (29, .slice (some ⟨b7, 0, none⟩) 3 3), (5, vP b3 0), (4, vP b2 0), (3, vP b1 0)] [46, 45, 7, 31, 30, 29, 5, 4, 3] (by kernel_rfl) ?_
       refine ops_store (an := []) (evs := [.store ⟨b1, 0, none⟩ (vI (A : Int))]) (M' := Mem w [.blk b7 [vP b1 0, vP b2 0, vP b3 0] 112, .blk b3 [vI c] 3, .blk b2 [vI b] 3, .blk b1 [vI (A : Int)] 3]) ⟨by kernel_rfl⟩ (fun w_ hM hS => let ⟨w', he, h'⟩ := hM.evs_stores [vI (A : Int)] 3 rfl 0 (Nat.le_of_ble_eq_true rfl); ⟨w', he, h', (by exact h'.sub (.cons_cons _ (.cons_cons _ (.cons_cons _ (.cons _ .slnil)))))⟩) ?_
       refine oR [] [(7, .bool true), (31, vI 0), (30, vI 3), (29, .slice (some ⟨b7, 0, none⟩) 3 3), (5, vP b3 0), (4, vP b2 0), (3, vP b1 0)] [7, 31, 30, 29, 5, 4, 3] (by kernel_rfl) ?_
       refine ops_nil ?_
       refine fin_block ?_
       have hgn : (true) = g1 := by rw [← hg1]; first | (simp [this]; done) | (rw [hg1]; simp [this])
       refine fin_conv (l' := [(7, .bool g1), (31, vI 0), (30, vI 3), (29, .slice (some ⟨b7, 0, none⟩) 3 3), (5, vP b3 0), (4, vP b2 0), (3, vP b1 0)]) (M' := Mem w [.blk b7 [vP b1 0, vP b2 0, vP b3 0] 112, .blk b3 [vI c] 3, .blk b2 [vI b] 3, .blk b1 [vI (A : Int)] 3]) (by rw [hgn]) (fun w_ hM => hM) ?_
       exact fin_cut () (look_has ⟨rfl, rfl, rfl, rfl, rfl, rfl, rfl, trivial⟩) (fun w_ hM => hM)
      · --
       have : ¬ (a < 0) := of_decide_eq_false hc8
       have hAp : a = (A : Int) := by omega
       refine st_skip ?_
       refine fin_block ?_
       have hgn : (false) = g1 := by rw [← hg1]; first | (simp [this]; done) | (rw [hg1]; simp [this])
       refine fin_conv (l' := [(38, .bool (decide (a < 0))), (9, vP b1 0), (31, vI 0), (30, vI 3), (29, .slice (some ⟨b7, 0, none⟩) 3 3), (7, .bool g1), (5, vP b3 0), (4, vP b2 0), (3, vP b1 0)]) (M' := Mem w [.blk b7 [vP b1 0, vP b2 0, vP b3 0] 112, .blk b3 [vI c] 3, .blk b2 [vI b] 3, .blk b1 [vI (A : Int)] 3]) (by rw [hgn]) (fun w_ hM => by have e := hAp; exact (congrArg (fun z => Mem w [.blk b7 [vP b1 0, vP b2 0, vP b3 0] 112, .blk b3 [vI c] 3, .blk b2 [vI b] 3, .blk b1 [.int .i64 z] 3] w_) e).mp hM) ?_
       exact fin_cut () (look_has ⟨rfl, rfl, rfl, rfl, rfl, rfl, rfl, trivial⟩) (fun w_ hM => hM)
     · --
      intro _
      refine st_region [oF 0, oF 1] (by rfl) ?_
      refine oR [oF 0, oF 1] [(31, vI 1), (30, vI 3), (29, .slice (some ⟨b7, 0, none⟩) 3 3), (7, .bool g1), (5, vP b3 0), (4, vP b2 0), (3, vP b1 0)] [31, 30, 29, 7, 5, 4, 3] (by kernel_rfl) ?_
      refine ops_nil ?_
      refine fin_rounds ?_
      refine str_succ ?_
      refine st_seq ?_
      refine st_region [oF 0] (by rfl) ?_
      refine oR [oF 0] [(32, .bool true), (31, vI 1), (30, vI 3), (29, .slice (some ⟨b7, 0, none⟩) 3 3), (7, .bool g1), (5, vP b3 0), (4, vP b2 0), (3, vP b1 0)] [32, 31, 30, 29, 7, 5, 4, 3] (by kernel_rfl) ?_
      refine ops_nil ?_
      refine fin_then ?_
      refine st_seq ?_
      refine st_true rfl ?_
      refine st_skip ?_
      refine fin_then ?_
      refine st_seq_cut (σ := Unit) (fun _ => [(31, vI 1), (30, vI 3), (29, .slice (some ⟨b7, 0, none⟩) 3 3), (7, .bool g2), (5, vP b3 0), (4, vP b2 0), (3, vP b1 0)]) (fun _ => Mem w [.blk b7 [vP b1 0, vP b2 0, vP b3 0] 112, .blk b3 [vI c] 3, .blk b2 [vI (B : Int)] 3, .blk b1 [vI (A : Int)] 3]) ?_ ?_
      · --
       refine st_block ?_
       refine st_seq ?_
       refine st_region [oF 0, oF 1, oF 2] (by rfl) ?_
       refine oR [oF 0] [(33, vP b7 1), (31, vI 1), (30, vI 3), (29, .slice (some ⟨b7, 0, none⟩) 3 3), (7, .bool g1), (5, vP b3 0), (4, vP b2 0), (3, vP b1 0)] [33, 31, 30, 29, 7, 5, 4, 3] (by kernel_rfl) ?_
       refine ops_mem (d := some 34) (an := [.v (vP b2 0)]) (evs := [.load ⟨b7, 1, none⟩ (vP b2 0)]) (v := vP b2 0) (M' := Mem w [.blk b7 [vP b1 0, vP b2 0, vP b3 0] 112, .blk b3 [vI c] 3, .blk b2 [vI b] 3, .blk b1 [vI (A : Int)] 3]) ⟨by kernel_rfl⟩ (fun w_ hM hS => ⟨w_, ⟨hM.cell 0 rfl rfl, rfl⟩, hM, trivial⟩) ?_
       refine oR [oF 2] [(9, vP b2 0), (31, vI 1), (30, vI 3), (29, .slice (some ⟨b7, 0, none⟩) 3 3), (7, .bool g1), (5, vP b3 0), (4, vP b2 0), (3, vP b1 0)] [9, 31, 30, 29, 7, 5, 4, 3] (by kernel_rfl) ?_
       refine ops_nil ?_
       refine fin_then ?_
       refine st_seq ?_
       refine st_region [oF 0, oF 1, oF 2, oF 3] (by rfl) ?_
       refine oR [oF 0, oF 1] [(36, vP b2 0), (9, vP b2 0), (31, vI 1), (30, vI 3), (29, .slice (some ⟨b7, 0, none⟩) 3 3), (7, .bool g1), (5, vP b3 0), (4, vP b2 0), (3, vP b1 0)] [36, 9, 31, 30, 29, 7, 5, 4, 3] (by kernel_rfl) ?_
       refine ops_mem (d := some 37) (an := [.v (vI b)]) (evs := [.load ⟨b2, 0, none⟩ (vI b)]) (v := vI b) (M' := Mem w [.blk b7 [vP b1 0, vP b2 0, vP b3 0] 112, .blk b3 [vI c] 3, .blk b2 [vI b] 3, .blk b1 [vI (A : Int)] 3]) ⟨by kernel_rfl⟩ (fun w_ hM hS => ⟨w_, ⟨hM.cell 2 rfl rfl, rfl⟩, hM, trivial⟩) ?_
       refine oR [oF 3] [(38, .bool (decide (b < 0))), (9, vP b2 0), (31, vI 1), (30, vI 3), (29, .slice (some ⟨b7, 0, none⟩) 3 3), (7, .bool g1), (5, vP b3 0), (4, vP b2 0), (3, vP b1 0)] [38, 9, 31, 30, 29, 7, 5, 4, 3] (by kernel_rfl) ?_
       refine ops_nil ?_
       refine fin_then ?_
       refine st_if (b := decide (b < 0)) rfl (fun hc9 => ?_) (fun hc9 => ?_)
       · --
        have : (b < 0) := of_decide_eq_true hc9
        have hBn : IntKind.i64.wrap (0 - b) = (B : Int) := by rw [i64in (by omega) (by omega)]; omega
        refine st_region_draw [oT 0, oT 1, oT 2, oT 3, oT 4, oT 7, oF 5, oT 6, oT 8, oF 9] (Mem w [.blk b7 [vP b1 0, vP b2 0, vP b3 0] 112, .blk b3 [vI c] 3, .blk b1 [vI (A : Int)] 3]) (by kernel_rfl) (by kernel_rfl) (by kernel_rfl) (fun _ d _ _ _ h => by cases d <;> exact h) (M' := Mem w [.blk b7 [vP b1 0, vP b2 0, vP b3 0] 112, .blk b3 [vI c] 3, .blk b2 [vI b] 3, .blk b1 [vI (A : Int)] 3]) (fun w_ hM => ⟨hM.drew, hM.drew.sub (.cons_cons _ (.cons_cons _ (.cons _ (.cons_cons _ .slnil))))⟩) ?_
        refine oR [oT 0, oT 1, oT 2, oT 3, oT 4, oT 7] [(7, .bool (!g1)), (43, vP b2 0), (39, vP b2 0), (31, vI 1), (30, vI 3), (29, .slice (some ⟨b7, 0, none⟩) 3 3), (5, vP b3 0), (4, vP b2 0), (3, vP b1 0)] [7, 43, 39, 31, 30, 29, 5, 4, 3] (by kernel_rfl) ?_
        refine ops_mem (d := some 44) (an := [.v (vI b)]) (evs := [.load ⟨b2, 0, none⟩ (vI b)]) (v := vI b) (M' := Mem w [.blk b7 [vP b1 0, vP b2 0, vP b3 0] 112, .blk b3 [vI c] 3, .blk b2 [vI b] 3, .blk b1 [vI (A : Int)] 3]) ⟨by kernel_rfl⟩ (fun w_ hM hS => ⟨w_, ⟨hM.cell 2 rfl rfl, rfl⟩, hM, hS⟩) ?_
        refine oR [oT 6] [(45, vI (IntKind.i64.wrap (0 - b))), (7, .bool (!g1)), (39, vP b2 0), (31, vI 1), (30, vI 3), (29, .slice (some ⟨b7, 0, none⟩) 3 3), (5, vP b3 0), (4, vP b2 0), (3, vP b1 0)] [45, 7, 39, 31, 30, 29, 5, 4, 3] (by kernel_rfl) ?_
        refine ops_conv (l' := [(45, vI (B : Int)), (7, .bool (!g1)), (39, vP b2 0), (31, vI 1), (30, vI 3), (29, .slice (some ⟨b7, 0, none⟩) 3 3), (5, vP b3 0), (4, vP b2 0), (3, vP b1 0)]) (by rw [hBn]) (fun _ h => h) ?_
        refine oR [oT 8] [(46, vP b2 0), (45, vI (B : Int)), (7, .bool (!g1)), (31, vI 1), (30, vI 3), (29, .slice (some ⟨b7, 0, none⟩) 3 3), (5, vP b3 0), (4, vP b2 0), (3, vP b1 0)] [46, 45, 7, 31, 30, 29, 5, 4, 3] (by kernel_rfl) ?_
        refine ops_store (an := []) (evs := [.store ⟨b2, 0, none⟩ (vI (B : Int))]) (M' := Mem w [.blk b7 [vP b1 0, vP b2 0, vP b3 0] 112, .blk b3 [vI c] 3, .blk b2 [vI (B : Int)] 3, .blk b1 [vI (A : Int)] 3]) ⟨by kernel_rfl⟩ (fun w_ hM hS => let ⟨w', he, h'⟩ := hM.evs_stores [vI (B : Int)] 2 rfl 0 (Nat.le_of_ble_eq_true rfl); ⟨w', he, h', (by exact h'.sub (.cons_cons _ (.cons_cons _ (.cons _ (.cons_cons _ .slnil)))))⟩) ?_
        refine oR [] [(7, .bool (!g1)), (31, vI 1), (30, vI 3), (29, .slice (some ⟨b7, 0, none⟩) 3 3), (5, vP b3 0), (4, vP b2 0), (3, vP b1 0)] [7, 31, 30, 29, 5, 4, 3] (by kernel_rfl) ?_
        refine ops_nil ?_
        refine fin_block ?_
        have hgn : (!g1) = g2 := by rw [← hg2]; first | (simp [this]; done) | (rw [hg1]; simp [this])
        refine fin_conv (l' := [(7, .bool g2), (31, vI 1), (30, vI 3), (29, .slice (some ⟨b7, 0, none⟩) 3 3), (5, vP b3 0), (4, vP b2 0), (3, vP b1 0)]) (M' := Mem w [.blk b7 [vP b1 0, vP b2 0, vP b3 0] 112, .blk b3 [vI c] 3, .blk b2 [vI (B : Int)] 3, .blk b1 [vI (A : Int)] 3]) (by rw [hgn]) (fun w_ hM => hM) ?_
        exact fin_cut () (look_has ⟨rfl, rfl, rfl, rfl, rfl, rfl, rfl, trivial⟩) (fun w_ hM => hM)
       · --
        have : ¬ (b < 0) := of_decide_eq_false hc9
        have hBp : b = (B : Int) := by omega
        refine st_skip ?_
        refine fin_block ?_
        have hgn : (g1) = g2 := by rw [← hg2]; first | (simp [this]; done) | (rw [hg1]; simp [this])
        refine fin_conv (l' := [(38, .bool (decide (b < 0))), (9, vP b2 0), (31, vI 1), (30, vI 3), (29, .slice (some ⟨b7, 0, none⟩) 3 3), (7, .bool g2), (5, vP b3 0), (4, vP b2 0), (3, vP b1 0)]) (M' := Mem w [.blk b7 [vP b1 0, vP b2 0, vP b3 0] 112, .blk b3 [vI c] 3, .blk b2 [vI (B : Int)] 3, .blk b1 [vI (A : Int)] 3]) (by rw [hgn]) (fun w_ hM => by have e := hBp; exact (congrArg (fun z => Mem w [.blk b7 [vP b1 0, vP b2 0, vP b3 0] 112, .blk b3 [vI c] 3, .blk b2 [.int .i64 z] 3, .blk b1 [vI (A : Int)] 3] w_) e).mp hM) ?_
        exact fin_cut () (look_has ⟨rfl, rfl, rfl, rfl, rfl, rfl, rfl, trivial⟩) (fun w_ hM => hM)
      · --
       intro _
       refine st_region [oF 0, oF 1] (by rfl) ?_
       refine oR [oF 0, oF 1] [(31, vI 2), (30, vI 3), (29, .slice (some ⟨b7, 0, none⟩) 3 3), (7, .bool g2), (5, vP b3 0), (4, vP b2 0), (3, vP b1 0)] [31, 30, 29, 7, 5, 4, 3] (by kernel_rfl) ?_
       refine ops_nil ?_
       refine fin_rounds ?_
       refine str_succ ?_
       refine st_seq ?_
       refine st_region [oF 0] (by rfl) ?_
       refine oR [oF 0] [(32, .bool true), (31, vI 2), (30, vI 3), (29, .slice (some ⟨b7, 0, none⟩) 3 3), (7, .bool g2), (5, vP b3 0), (4, vP b2 0), (3, vP b1 0)] [32, 31, 30, 29, 7, 5, 4, 3] (by kernel_rfl) ?_
       refine ops_nil ?_
       refine fin_then ?_
       refine st_seq ?_
       refine st_true rfl ?_
       refine st_skip ?_
       refine fin_then ?_
       refine st_seq_cut (σ := Unit) (fun _ => [(31, vI 2), (30, vI 3), (29, .slice (some ⟨b7, 0, none⟩) 3 3), (7, .bool g3), (5, vP b3 0), (4, vP b2 0), (3, vP b1 0)]) (fun _ => Mem w [.blk b7 [vP b1 0, vP b2 0, vP b3 0] 112, .blk b3 [vI (D : Int)] 3, .blk b2 [vI (B : Int)] 3, .blk b1 [vI (A : Int)] 3]) ?_ ?_
       · --
        refine st_block ?_
        refine st_seq ?_
        refine st_region [oF 0, oF 1, oF 2] (by rfl) ?_
        refine oR [oF 0] [(33, vP b7 2), (31, vI 2), (30, vI 3), (29, .slice (some ⟨b7, 0, none⟩) 3 3), (7, .bool g2), (5, vP b3 0), (4, vP b2 0), (3, vP b1 0)] [33, 31, 30, 29, 7, 5, 4, 3] (by kernel_rfl) ?_
        refine ops_mem (d := some 34) (an := [.v (vP b3 0)]) (evs := [.load ⟨b7, 2, none⟩ (vP b3 0)]) (v := vP b3 0) (M' := Mem w [.blk b7 [vP b1 0, vP b2 0, vP b3 0] 112, .blk b3 [vI c] 3, .blk b2 [vI (B : Int)] 3, .blk b1 [vI (A : Int)] 3]) ⟨by kernel_rfl⟩ (fun w_ hM hS => ⟨w_, ⟨hM.cell 0 rfl rfl, rfl⟩, hM, trivial⟩) ?_
        refine oR [oF 2] [(9, vP b3 0), (31, vI 2), (30, vI 3), (29, .slice (some ⟨b7, 0, none⟩) 3 3), (7, .bool g2), (5, vP b3 0), (4, vP b2 0), (3, vP b1 0)] [9, 31, 30, 29, 7, 5, 4, 3] (by kernel_rfl) ?_
        refine ops_nil ?_
        refine fin_then ?_
        refine st_seq ?_
        refine st_region [oF 0, oF 1, oF 2, oF 3] (by rfl) ?_
        refine oR [oF 0, oF 1] [(36, vP b3 0), (9, vP b3 0), (31, vI 2), (30, vI 3), (29, .slice (some ⟨b7, 0, none⟩) 3 3), (7, .bool g2), (5, vP b3 0), (4, vP b2 0), (3, vP b1 0)] [36, 9, 31, 30, 29, 7, 5, 4, 3] (by kernel_rfl) ?_
        refine ops_mem (d := some 37) (an := [.v (vI c)]) (evs := [.load ⟨b3, 0, none⟩ (vI c)]) (v := vI c) (M' := Mem w [.blk b7 [vP b1 0, vP b2 0, vP b3 0] 112, .blk b3 [vI c] 3, .blk b2 [vI (B : Int)] 3, .blk b1 [vI (A : Int)] 3]) ⟨by kernel_rfl⟩ (fun w_ hM hS => ⟨w_, ⟨hM.cell 1 rfl rfl, rfl⟩, hM, trivial⟩) ?_
        refine oR [oF 3] [(38, .bool (decide (c < 0))), (9, vP b3 0), (31, vI 2), (30, vI 3), (29, .slice (some ⟨b7, 0, none⟩) 3 3), (7, .bool g2), (5, vP b3 0), (4, vP b2 0), (3, vP b1 0)] [38, 9, 31, 30, 29, 7, 5, 4, 3] (by kernel_rfl) ?_
        refine ops_nil ?_
        refine fin_then ?_
        refine st_if (b := decide (c < 0)) rfl (fun hc10 => ?_) (fun hc10 => ?_)
        · --
         have : (c < 0) := of_decide_eq_true hc10
         have hDn : IntKind.i64.wrap (0 - c) = (D : Int) := by rw [i64in (by omega) (by omega)]; omega
         refine st_region_draw [oT 0, oT 1, oT 2, oT 3, oT 4, oT 7, oF 5, oT 6, oT 8, oF 9] (Mem w [.blk b7 [vP b1 0, vP b2 0, vP b3 0] 112, .blk b2 [vI (B : Int)] 3, .blk b1 [vI (A : Int)] 3]) (by kernel_rfl) (by kernel_rfl) (by kernel_rfl) (fun _ d _ _ _ h => by cases d <;> exact h) (M' := Mem w [.blk b7 [vP b1 0, vP b2 0, vP b3 0] 112, .blk b3 [vI c] 3, .blk b2 [vI (B : Int)] 3, .blk b1 [vI (A : Int)] 3]) (fun w_ hM => ⟨hM.drew, hM.drew.sub (.cons_cons _ (.cons _ (.cons_cons _ (.cons_cons _ .slnil))))⟩) ?_
         refine oR [oT 0, oT 1, oT 2, oT 3, oT 4, oT 7] [(7, .bool (!g2)), (43, vP b3 0), (39, vP b3 0), (31, vI 2), (30, vI 3), (29, .slice (some ⟨b7, 0, none⟩) 3 3), (5, vP b3 0), (4, vP b2 0), (3, vP b1 0)] [7, 43, 39, 31, 30, 29, 5, 4, 3] (by kernel_rfl) ?_
         refine ops_mem (d := some 44) (an := [.v (vI c)]) (evs := [.load ⟨b3, 0, none⟩ (vI c)]) (v := vI c) (M' := Mem w [.blk b7 [vP b1 0, vP b2 0, vP b3 0] 112, .blk b3 [vI c] 3, .blk b2 [vI (B : Int)] 3, .blk b1 [vI (A : Int)] 3]) ⟨by kernel_rfl⟩ (fun w_ hM hS => ⟨w_, ⟨hM.cell 1 rfl rfl, rfl⟩, hM, hS⟩) ?_
         refine oR [oT 6] [(45, vI (IntKind.i64.wrap (0 - c))), (7, .bool (!g2)), (39, vP b3 0), (31, vI 2), (30, vI 3), (29, .slice (some ⟨b7, 0, none⟩) 3 3), (5, vP b3 0), (4, vP b2 0), (3, vP b1 0)] [45, 7, 39, 31, 30, 29, 5, 4, 3] (by kernel_rfl) ?_
         refine ops_conv (l' := [(45, vI (D : Int)), (7, .bool (!g2)), (39, vP b3 0), (31, vI 2), (30, vI 3), (29, .slice (some ⟨b7, 0, none⟩) 3 3), (5, vP b3 0), (4, vP b2 0), (3, vP b1 0)]) (by rw [hDn]) (fun _ h => h) ?_
         refine oR [oT 8] [(46, vP b3 0), (45, vI (D : Int)), (7, .bool (!g2)), (31, vI 2), (30, vI 3), (29, .slice (some ⟨b7, 0, none⟩) 3 3), (5, vP b3 0), (4, vP b2 0), (3, vP b1 0)] [46, 45, 7, 31, 30, 29, 5, 4, 3] (by kernel_rfl) ?_
         refine ops_store (an := []) (evs := [.store ⟨b3, 0, none⟩ (vI (D : Int))]) (M' := Mem w [.blk b7 [vP b1 0, vP b2 0, vP b3 0] 112, .blk b3 [vI (D : Int)] 3, .blk b2 [vI (B : Int)] 3, .blk b1 [vI (A : Int)] 3]) ⟨by kernel_rfl⟩ (fun w_ hM hS => let ⟨w', he, h'⟩ := hM.evs_stores [vI (D : Int)] 1 rfl 0 (Nat.le_of_ble_eq_true rfl); ⟨w', he, h', (by exact h'.sub (.cons_cons _ (.cons _ (.cons_cons _ (.cons_cons _ .slnil)))))⟩) ?_
         refine oR [] [(7, .bool (!g2)), (31, vI 2), (30, vI 3), (29, .slice (some ⟨b7, 0, none⟩) 3 3), (5, vP b3 0), (4, vP b2 0), (3, vP b1 0)] [7, 31, 30, 29, 5, 4, 3] (by kernel_rfl) ?_
         refine ops_nil ?_
         refine fin_block ?_
         have hgn : (!g2) = g3 := by rw [← hg3]; first | (simp [this]; done) | (rw [hg1]; simp [this])
         refine fin_conv (l' := [(7, .bool g3), (31, vI 2), (30, vI 3), (29, .slice (some ⟨b7, 0, none⟩) 3 3), (5, vP b3 0), (4, vP b2 0), (3, vP b1 0)]) (M' := Mem w [.blk b7 [vP b1 0, vP b2 0, vP b3 0] 112, .blk b3 [vI (D : Int)] 3, .blk b2 [vI (B : Int)] 3, .blk b1 [vI (A : Int)] 3]) (by rw [hgn]) (fun w_ hM => hM) ?_
         exact fin_cut () (look_has ⟨rfl, rfl, rfl, rfl, rfl, rfl, rfl, trivial⟩) (fun w_ hM => hM)
        · --
         have : ¬ (c < 0) := of_decide_eq_false hc10
         have hDp : c = (D : Int) := by omega
         refine st_skip ?_
         refine fin_block ?_
         have hgn : (g2) = g3 := by rw [← hg3]; first | (simp [this]; done) | (rw [hg1]; simp [this])
         refine fin_conv (l' := [(38, .bool (decide (c < 0))), (9, vP b3 0), (31, vI 2), (30, vI 3), (29, .slice (some ⟨b7, 0, none⟩) 3 3), (7, .bool g3), (5, vP b3 0), (4, vP b2 0), (3, vP b1 0)]) (M' := Mem w [.blk b7 [vP b1 0, vP b2 0, vP b3 0] 112, .blk b3 [vI (D : Int)] 3, .blk b2 [vI (B : Int)] 3, .blk b1 [vI (A : Int)] 3]) (by rw [hgn]) (fun w_ hM => by have e := hDp; exact (congrArg (fun z => Mem w [.blk b7 [vP b1 0, vP b2 0, vP b3 0] 112, .blk b3 [.int .i64 z] 3, .blk b2 [vI (B : Int)] 3, .blk b1 [vI (A : Int)] 3] w_) e).mp hM) ?_
         exact fin_cut () (look_has ⟨rfl, rfl, rfl, rfl, rfl, rfl, rfl, trivial⟩) (fun w_ hM => hM)
       · --
        intro _
        refine st_region [oF 0, oF 1] (by rfl) ?_
        refine oR [oF 0, oF 1] [(31, vI 3), (30, vI 3), (29, .slice (some ⟨b7, 0, none⟩) 3 3), (7, .bool g3), (5, vP b3 0), (4, vP b2 0), (3, vP b1 0)] [31, 30, 29, 7, 5, 4, 3] (by kernel_rfl) ?_
        refine ops_nil ?_
        refine fin_rounds ?_
        refine str_succ ?_
        refine st_seq ?_
        refine st_region [oF 0] (by rfl) ?_
        refine oR [oF 0] [(32, .bool false), (31, vI 3), (30, vI 3), (29, .slice (some ⟨b7, 0, none⟩) 3 3), (7, .bool g3), (5, vP b3 0), (4, vP b2 0), (3, vP b1 0)] [32, 31, 30, 29, 7, 5, 4, 3] (by kernel_rfl) ?_
        refine ops_nil ?_
        refine fin_then ?_
        refine st_seq ?_
        refine st_false rfl ?_
        refine st_exit ?_
        refine fin_exit_then ?_
        refine fin_exit_then ?_
        refine fin_exit ?_
        refine fin_then ?_
        refine st_seq ?_
        refine st_region [oF 0, oF 1, oF 2, oF 3] (by rfl) ?_
        refine oR [] [(7, .bool g3), (5, vP b3 0), (4, vP b2 0), (3, vP b1 0)] [7, 5, 4, 3] (by kernel_rfl) ?_
        refine ops_mem (d := some 48) (an := [.v (vI (D : Int))]) (evs := [.load ⟨b3, 0, none⟩ (vI (D : Int))]) (v := vI (D : Int)) (M' := Mem w [.blk b7 [vP b1 0, vP b2 0, vP b3 0] 112, .blk b3 [vI (D : Int)] 3, .blk b2 [vI (B : Int)] 3, .blk b1 [vI (A : Int)] 3]) ⟨by kernel_rfl⟩ (fun w_ hM hS => ⟨w_, ⟨hM.cell 1 rfl rfl, rfl⟩, hM, trivial⟩) ?_
        refine oR [] [(48, vI (D : Int)), (7, .bool g3), (4, vP b2 0), (3, vP b1 0)] [48, 7, 4, 3] (by kernel_rfl) ?_
        refine ops_call (σ := Option Addr × Nat) (d := some 49) (f := 87) (args := #[vI (D : Int)]) (v := fun x_ => match x_ with | (A11, c12) => .slice A11 ((digs D).length) c12) (M' := fun x_ => match x_ with | (A11, c12) => Mem w [.row A11 ((digs D).length) c12 3 1 (iv .i64 (digs D)), .blk b7 [vP b1 0, vP b2 0, vP b3 0] 112, .blk b3 [vI (D : Int)] 3, .blk b2 [vI (B : Int)] 3, .blk b1 [vI (A : Int)] 3]) ⟨by kernel_rfl⟩ (fun w_ hM hS => (natOf_calls D w_ (by omega)).mono (by rintro e w' ⟨x_, rfl, h2⟩; exact ⟨x_, rfl, hM.join h2 rfl, trivial⟩)) ?_
        rintro ⟨A11, c12⟩
        refine ops_conv (l' := [(49, .slice A11 ((digs D).length) c12), (48, vI (D : Int)), (7, .bool g3), (4, vP b2 0), (3, vP b1 0)]) (M' := Mem w [.row A11 ((digs D).length) c12 3 1 (iv .i64 (digs D)), .blk b7 [vP b1 0, vP b2 0, vP b3 0] 112, .blk b3 [vI (D : Int)] 3, .blk b2 [vI (B : Int)] 3, .blk b1 [vI (A : Int)] 3]) rfl (fun _ h => h) ?_
        refine oR [] [(49, .slice A11 ((digs D).length) c12), (7, .bool g3), (4, vP b2 0), (3, vP b1 0)] [49, 7, 4, 3] (by kernel_rfl) ?_
        refine ops_new (d := some 10) (o := .cells #[.slice none 0 0] 114) (v := fun b13 => vP b13 0) (M' := fun b13 => Mem w [.blk b13 [.slice none 0 0] 114, .row A11 ((digs D).length) c12 3 1 (iv .i64 (digs D)), .blk b7 [vP b1 0, vP b2 0, vP b3 0] 112, .blk b3 [vI (D : Int)] 3, .blk b2 [vI (B : Int)] 3, .blk b1 [vI (A : Int)] 3]) (fun b13 => ⟨by kernel_rfl⟩) (fun w_ hM hS => ⟨hM.blk [.slice none 0 0] 114, trivial⟩) (fun b13 => ?_)
        refine oR [] [(10, vP b13 0), (49, .slice A11 ((digs D).length) c12), (7, .bool g3), (4, vP b2 0), (3, vP b1 0)] [10, 49, 7, 4, 3] (by kernel_rfl) ?_
        refine ops_store (an := []) (evs := [.store ⟨b13, 0, none⟩ (.slice A11 ((digs D).length) c12)]) (M' := Mem w [.blk b13 [.slice A11 ((digs D).length) c12] 114, .row A11 ((digs D).length) c12 3 1 (iv .i64 (digs D)), .blk b7 [vP b1 0, vP b2 0, vP b3 0] 112, .blk b3 [vI (D : Int)] 3, .blk b2 [vI (B : Int)] 3, .blk b1 [vI (A : Int)] 3]) ⟨by kernel_rfl⟩ (fun w_ hM hS => let ⟨w', he, h'⟩ := hM.evs_stores [.slice A11 ((digs D).length) c12] 0 rfl 0 (Nat.le_of_ble_eq_true rfl); ⟨w', he, h', trivial⟩) ?_
        refine oR [] [(10, vP b13 0), (7, .bool g3), (4, vP b2 0), (3, vP b1 0)] [10, 7, 4, 3] (by kernel_rfl) ?_
        refine ops_nil ?_
        refine fin_then ?_
        refine st_seq_cut (σ := Nat × Option Addr × Nat × Option Addr × Nat × Option Addr × Nat × Option Addr × Nat × Option Addr × Nat) (fun x_ => match x_ with | (b24, A22, c23, A20, c21, A18, c19, A16, c17, A14, c15) => [(11, vP b24 0), (10, vP b13 0), (7, .bool g3)]) (fun x_ => match x_ with | (b24, A22, c23, A20, c21, A18, c19, A16, c17, A14, c15) => Mem w [.blk b24 [.slice A22 ((digs (2 * (A * B))).length) c23] 114, .row A22 ((digs (2 * (A * B))).length) c23 3 1 (iv .i64 (digs (2 * (A * B)))), .row A20 ((digs (A * B)).length) c21 3 1 (iv .i64 (digs (A * B))), .row A18 ((digs B).length) c19 3 1 (iv .i64 (digs B)), .row A16 ((digs A).length) c17 3 1 (iv .i64 (digs A)), .row A14 ((digs 2).length) c15 3 1 (iv .i64 (digs 2)), .blk b13 [.slice A11 ((digs D).length) c12] 114, .row A11 ((digs D).length) c12 3 1 (iv .i64 (digs D)), .blk b7 [vP b1 0, vP b2 0, vP b3 0] 112, .blk b3 [vI (D : Int)] 3, .blk b2 [vI (B : Int)] 3, .blk b1 [vI (A : Int)] 3]) ?_ ?_
        · --
         refine st_region_tree (.node [oT 1, oT 3] (.node [oF 0] (.node [oF 2] (.node [oF 4] (.node [oF 5] (.leaf [oF 6, oF 7, oF 8]) (.leaf [oF 7, oF 6, oF 8])) (.leaf [oF 7, oF 5, oF 6, oF 8])) (.leaf [oF 7, oF 4, oF 5, oF 6, oF 8])) (.leaf [oF 7, oF 2, oF 4, oF 5, oF 6, oF 8])) (.leaf [oF 7, oF 0, oF 2, oF 4, oF 5, oF 6, oF 8])) (Mem w [.blk b13 [.slice A11 ((digs D).length) c12] 114, .row A11 ((digs D).length) c12 3 1 (iv .i64 (digs D)), .blk b7 [vP b1 0, vP b2 0, vP b3 0] 112, .blk b3 [vI (D : Int)] 3, .blk b2 [vI (B : Int)] 3, .blk b1 [vI (A : Int)] 3]) (by kernel_rfl) (by kernel_rfl) (by kernel_rfl) (fun _ d _ _ _ h => by cases d <;> exact h) (M' := Mem w [.blk b13 [.slice A11 ((digs D).length) c12] 114, .row A11 ((digs D).length) c12 3 1 (iv .i64 (digs D)), .blk b7 [vP b1 0, vP b2 0, vP b3 0] 112, .blk b3 [vI (D : Int)] 3, .blk b2 [vI (B : Int)] 3, .blk b1 [vI (A : Int)] 3]) (fun w_ hM => ⟨hM.drew, hM.drew.sub (.cons_cons _ (.cons_cons _ (.cons_cons _ (.cons_cons _ (.cons_cons _ (.cons_cons _ .slnil))))))⟩) ?_
         refine tree_node ?_
         refine ops_load (d := some 51) (an := [.v (vI (A : Int))]) (evs := [.load ⟨b1, 0, none⟩ (vI (A : Int))]) (v := vI (A : Int)) ⟨by kernel_rfl⟩ (fun w_ hM => ⟨hM.cell 5 rfl rfl, rfl⟩) ?_
         refine oR [] [(51, vI (A : Int)), (10, vP b13 0), (7, .bool g3), (4, vP b2 0)] [51, 10, 7, 4] (by kernel_rfl) ?_
         refine ops_load (d := some 53) (an := [.v (vI (B : Int))]) (evs := [.load ⟨b2, 0, none⟩ (vI (B : Int))]) (v := vI (B : Int)) ⟨by kernel_rfl⟩ (fun w_ hM => ⟨hM.cell 4 rfl rfl, rfl⟩) ?_
         refine oR [] [(53, vI (B : Int)), (51, vI (A : Int)), (10, vP b13 0), (7, .bool g3)] [53, 51, 10, 7] (by kernel_rfl) ?_
         refine ops_nil ?_
         refine tree_both ?_ ?_
         · --
          refine tree_node ?_
          refine ops_call (σ := Option Addr × Nat) (d := some 50) (f := 87) (args := #[vI 2]) (v := fun x_ => match x_ with | (A14, c15) => .slice A14 ((digs 2).length) c15) (M' := fun x_ => match x_ with | (A14, c15) => Mem w [.row A14 ((digs 2).length) c15 3 1 (iv .i64 (digs 2)), .blk b13 [.slice A11 ((digs D).length) c12] 114, .row A11 ((digs D).length) c12 3 1 (iv .i64 (digs D)), .blk b7 [vP b1 0, vP b2 0, vP b3 0] 112, .blk b3 [vI (D : Int)] 3, .blk b2 [vI (B : Int)] 3, .blk b1 [vI (A : Int)] 3]) ⟨by kernel_rfl⟩ (fun w_ hM hS => (natOf_calls 2 w_ (by omega)).mono (by rintro e w' ⟨x_, rfl, h2⟩; exact ⟨x_, rfl, hM.join h2 rfl, hS.step h2.below⟩)) ?_
          rintro ⟨A14, c15⟩
          refine ops_conv (l' := [(50, .slice A14 ((digs 2).length) c15), (53, vI (B : Int)), (51, vI (A : Int)), (10, vP b13 0), (7, .bool g3)]) (M' := Mem w [.row A14 ((digs 2).length) c15 3 1 (iv .i64 (digs 2)), .blk b13 [.slice A11 ((digs D).length) c12] 114, .row A11 ((digs D).length) c12 3 1 (iv .i64 (digs D)), .blk b7 [vP b1 0, vP b2 0, vP b3 0] 112, .blk b3 [vI (D : Int)] 3, .blk b2 [vI (B : Int)] 3, .blk b1 [vI (A : Int)] 3]) rfl (fun _ h => h) ?_
          refine oR [] [(50, .slice A14 ((digs 2).length) c15), (53, vI (B : Int)), (51, vI (A : Int)), (10, vP b13 0), (7, .bool g3)] [50, 53, 51, 10, 7] (by kernel_rfl) ?_
          refine ops_nil ?_
          refine tree_both ?_ ?_
          · --
           refine tree_node ?_
           refine ops_call (σ := Option Addr × Nat) (d := some 52) (f := 87) (args := #[vI (A : Int)]) (v := fun x_ => match x_ with | (A16, c17) => .slice A16 ((digs A).length) c17) (M' := fun x_ => match x_ with | (A16, c17) => Mem w [.row A16 ((digs A).length) c17 3 1 (iv .i64 (digs A)), .row A14 ((digs 2).length) c15 3 1 (iv .i64 (digs 2)), .blk b13 [.slice A11 ((digs D).length) c12] 114, .row A11 ((digs D).length) c12 3 1 (iv .i64 (digs D)), .blk b7 [vP b1 0, vP b2 0, vP b3 0] 112, .blk b3 [vI (D : Int)] 3, .blk b2 [vI (B : Int)] 3, .blk b1 [vI (A : Int)] 3]) ⟨by kernel_rfl⟩ (fun w_ hM hS => (natOf_calls A w_ (by omega)).mono (by rintro e w' ⟨x_, rfl, h2⟩; exact ⟨x_, rfl, hM.join h2 rfl, hS.step h2.below⟩)) ?_
           rintro ⟨A16, c17⟩
           refine ops_conv (l' := [(52, .slice A16 ((digs A).length) c17), (50, .slice A14 ((digs 2).length) c15), (53, vI (B : Int)), (51, vI (A : Int)), (10, vP b13 0), (7, .bool g3)]) (M' := Mem w [.row A16 ((digs A).length) c17 3 1 (iv .i64 (digs A)), .row A14 ((digs 2).length) c15 3 1 (iv .i64 (digs 2)), .blk b13 [.slice A11 ((digs D).length) c12] 114, .row A11 ((digs D).length) c12 3 1 (iv .i64 (digs D)), .blk b7 [vP b1 0, vP b2 0, vP b3 0] 112, .blk b3 [vI (D : Int)] 3, .blk b2 [vI (B : Int)] 3, .blk b1 [vI (A : Int)] 3]) rfl (fun _ h => h) ?_
           refine oR [] [(52, .slice A16 ((digs A).length) c17), (50, .slice A14 ((digs 2).length) c15), (53, vI (B : Int)), (10, vP b13 0), (7, .bool g3)] [52, 50, 53, 10, 7] (by kernel_rfl) ?_
           refine ops_nil ?_
           refine tree_both ?_ ?_
           · --
            refine tree_node ?_
            refine ops_call (σ := Option Addr × Nat) (d := some 54) (f := 87) (args := #[vI (B : Int)]) (v := fun x_ => match x_ with | (A18, c19) => .slice A18 ((digs B).length) c19) (M' := fun x_ => match x_ with | (A18, c19) => Mem w [.row A18 ((digs B).length) c19 3 1 (iv .i64 (digs B)), .row A16 ((digs A).length) c17 3 1 (iv .i64 (digs A)), .row A14 ((digs 2).length) c15 3 1 (iv .i64 (digs 2)), .blk b13 [.slice A11 ((digs D).length) c12] 114, .row A11 ((digs D).length) c12 3 1 (iv .i64 (digs D)), .blk b7 [vP b1 0, vP b2 0, vP b3 0] 112, .blk b3 [vI (D : Int)] 3, .blk b2 [vI (B : Int)] 3, .blk b1 [vI (A : Int)] 3]) ⟨by kernel_rfl⟩ (fun w_ hM hS => (natOf_calls B w_ (by omega)).mono (by rintro e w' ⟨x_, rfl, h2⟩; exact ⟨x_, rfl, hM.join h2 rfl, hS.step h2.below⟩)) ?_
            rintro ⟨A18, c19⟩
            refine ops_conv (l' := [(54, .slice A18 ((digs B).length) c19), (52, .slice A16 ((digs A).length) c17), (50, .slice A14 ((digs 2).length) c15), (53, vI (B : Int)), (10, vP b13 0), (7, .bool g3)]) (M' := Mem w [.row A18 ((digs B).length) c19 3 1 (iv .i64 (digs B)), .row A16 ((digs A).length) c17 3 1 (iv .i64 (digs A)), .row A14 ((digs 2).length) c15 3 1 (iv .i64 (digs 2)), .blk b13 [.slice A11 ((digs D).length) c12] 114, .row A11 ((digs D).length) c12 3 1 (iv .i64 (digs D)), .blk b7 [vP b1 0, vP b2 0, vP b3 0] 112, .blk b3 [vI (D : Int)] 3, .blk b2 [vI (B : Int)] 3, .blk b1 [vI (A : Int)] 3]) rfl (fun _ h => h) ?_
            refine oR [] [(54, .slice A18 ((digs B).length) c19), (52, .slice A16 ((digs A).length) c17), (50, .slice A14 ((digs 2).length) c15), (10, vP b13 0), (7, .bool g3)] [54, 52, 50, 10, 7] (by kernel_rfl) ?_
            refine ops_nil ?_
            refine tree_both ?_ ?_
            · --
             refine tree_node ?_
             refine ops_call (σ := Option Addr × Nat) (d := some 55) (f := 88) (args := #[.slice A16 ((digs A).length) c17, .slice A18 ((digs B).length) c19]) (v := fun x_ => match x_ with | (A20, c21) => .slice A20 ((digs (A * B)).length) c21) (M' := fun x_ => match x_ with | (A20, c21) => Mem w [.row A20 ((digs (A * B)).length) c21 3 1 (iv .i64 (digs (A * B))), .row A18 ((digs B).length) c19 3 1 (iv .i64 (digs B)), .row A16 ((digs A).length) c17 3 1 (iv .i64 (digs A)), .row A14 ((digs 2).length) c15 3 1 (iv .i64 (digs 2)), .blk b13 [.slice A11 ((digs D).length) c12] 114, .row A11 ((digs D).length) c12 3 1 (iv .i64 (digs D)), .blk b7 [vP b1 0, vP b2 0, vP b3 0] 112, .blk b3 [vI (D : Int)] 3, .blk b2 [vI (B : Int)] 3, .blk b1 [vI (A : Int)] 3]) ⟨by kernel_rfl⟩ (fun w_ hM hS => (times_digs A16 c17 A A18 c19 B w_ (hM.rints 1 rfl) (hM.rints 0 rfl) (by first | assumption | exact Nat.le_trans (digs_length (k := 5) (by omega)) (by decide)) (by first | assumption | exact Nat.le_trans (digs_length (k := 5) (by omega)) (by decide))).mono (by rintro e w' ⟨x_, rfl, h2⟩; exact ⟨x_, rfl, hM.join h2 rfl, hS.step h2.below⟩)) ?_
             rintro ⟨A20, c21⟩
             refine ops_conv (l' := [(55, .slice A20 ((digs (A * B)).length) c21), (54, .slice A18 ((digs B).length) c19), (52, .slice A16 ((digs A).length) c17), (50, .slice A14 ((digs 2).length) c15), (10, vP b13 0), (7, .bool g3)]) (M' := Mem w [.row A20 ((digs (A * B)).length) c21 3 1 (iv .i64 (digs (A * B))), .row A18 ((digs B).length) c19 3 1 (iv .i64 (digs B)), .row A16 ((digs A).length) c17 3 1 (iv .i64 (digs A)), .row A14 ((digs 2).length) c15 3 1 (iv .i64 (digs 2)), .blk b13 [.slice A11 ((digs D).length) c12] 114, .row A11 ((digs D).length) c12 3 1 (iv .i64 (digs D)), .blk b7 [vP b1 0, vP b2 0, vP b3 0] 112, .blk b3 [vI (D : Int)] 3, .blk b2 [vI (B : Int)] 3, .blk b1 [vI (A : Int)] 3]) rfl (fun _ h => h) ?_
             refine oR [] [(55, .slice A20 ((digs (A * B)).length) c21), (50, .slice A14 ((digs 2).length) c15), (10, vP b13 0), (7, .bool g3)] [55, 50, 10, 7] (by kernel_rfl) ?_
             refine ops_nil ?_
             refine tree_both ?_ ?_
             · --
              refine tree_leaf ?_
              refine ops_call (σ := Option Addr × Nat) (d := some 56) (f := 88) (args := #[.slice A14 ((digs 2).length) c15, .slice A20 ((digs (A * B)).length) c21]) (v := fun x_ => match x_ with | (A22, c23) => .slice A22 ((digs (2 * (A * B))).length) c23) (M' := fun x_ => match x_ with | (A22, c23) => Mem w [.row A22 ((digs (2 * (A * B))).length) c23 3 1 (iv .i64 (digs (2 * (A * B)))), .row A20 ((digs (A * B)).length) c21 3 1 (iv .i64 (digs (A * B))), .row A18 ((digs B).length) c19 3 1 (iv .i64 (digs B)), .row A16 ((digs A).length) c17 3 1 (iv .i64 (digs A)), .row A14 ((digs 2).length) c15 3 1 (iv .i64 (digs 2)), .blk b13 [.slice A11 ((digs D).length) c12] 114, .row A11 ((digs D).length) c12 3 1 (iv .i64 (digs D)), .blk b7 [vP b1 0, vP b2 0, vP b3 0] 112, .blk b3 [vI (D : Int)] 3, .blk b2 [vI (B : Int)] 3, .blk b1 [vI (A : Int)] 3]) ⟨by kernel_rfl⟩ (fun w_ hM hS => (times_digs A14 c15 2 A20 c21 (A * B) w_ (hM.rints 3 rfl) (hM.rints 0 rfl) (by first | assumption | exact Nat.le_trans (digs_length (k := 5) (by omega)) (by decide)) (by first | assumption | exact Nat.le_trans (digs_length (k := 5) (by omega)) (by decide))).mono (by rintro e w' ⟨x_, rfl, h2⟩; exact ⟨x_, rfl, hM.join h2 rfl, hS.step h2.below⟩)) ?_
              rintro ⟨A22, c23⟩
              refine ops_conv (l' := [(56, .slice A22 ((digs (2 * (A * B))).length) c23), (55, .slice A20 ((digs (A * B)).length) c21), (50, .slice A14 ((digs 2).length) c15), (10, vP b13 0), (7, .bool g3)]) (M' := Mem w [.row A22 ((digs (2 * (A * B))).length) c23 3 1 (iv .i64 (digs (2 * (A * B)))), .row A20 ((digs (A * B)).length) c21 3 1 (iv .i64 (digs (A * B))), .row A18 ((digs B).length) c19 3 1 (iv .i64 (digs B)), .row A16 ((digs A).length) c17 3 1 (iv .i64 (digs A)), .row A14 ((digs 2).length) c15 3 1 (iv .i64 (digs 2)), .blk b13 [.slice A11 ((digs D).length) c12] 114, .row A11 ((digs D).length) c12 3 1 (iv .i64 (digs D)), .blk b7 [vP b1 0, vP b2 0, vP b3 0] 112, .blk b3 [vI (D : Int)] 3, .blk b2 [vI (B : Int)] 3, .blk b1 [vI (A : Int)] 3]) rfl (fun _ h => h) ?_
              refine oR [] [(56, .slice A22 ((digs (2 * (A * B))).length) c23), (10, vP b13 0), (7, .bool g3)] [56, 10, 7] (by kernel_rfl) ?_
              refine ops_new (d := some 11) (o := .cells #[.slice none 0 0] 114) (v := fun b24 => vP b24 0) (M' := fun b24 => Mem w [.blk b24 [.slice none 0 0] 114, .row A22 ((digs (2 * (A * B))).length) c23 3 1 (iv .i64 (digs (2 * (A * B)))), .row A20 ((digs (A * B)).length) c21 3 1 (iv .i64 (digs (A * B))), .row A18 ((digs B).length) c19 3 1 (iv .i64 (digs B)), .row A16 ((digs A).length) c17 3 1 (iv .i64 (digs A)), .row A14 ((digs 2).length) c15 3 1 (iv .i64 (digs 2)), .blk b13 [.slice A11 ((digs D).length) c12] 114, .row A11 ((digs D).length) c12 3 1 (iv .i64 (digs D)), .blk b7 [vP b1 0, vP b2 0, vP b3 0] 112, .blk b3 [vI (D : Int)] 3, .blk b2 [vI (B : Int)] 3, .blk b1 [vI (A : Int)] 3]) (fun b24 => ⟨by kernel_rfl⟩) (fun w_ hM hS => ⟨hM.blk [.slice none 0 0] 114, hS.alloc _⟩) (fun b24 => ?_)
              refine oR [] [(11, vP b24 0), (56, .slice A22 ((digs (2 * (A * B))).length) c23), (10, vP b13 0), (7, .bool g3)] [11, 56, 10, 7] (by kernel_rfl) ?_
              refine ops_store (an := []) (evs := [.store ⟨b24, 0, none⟩ (.slice A22 ((digs (2 * (A * B))).length) c23)]) (M' := Mem w [.blk b24 [.slice A22 ((digs (2 * (A * B))).length) c23] 114, .row A22 ((digs (2 * (A * B))).length) c23 3 1 (iv .i64 (digs (2 * (A * B)))), .row A20 ((digs (A * B)).length) c21 3 1 (iv .i64 (digs (A * B))), .row A18 ((digs B).length) c19 3 1 (iv .i64 (digs B)), .row A16 ((digs A).length) c17 3 1 (iv .i64 (digs A)), .row A14 ((digs 2).length) c15 3 1 (iv .i64 (digs 2)), .blk b13 [.slice A11 ((digs D).length) c12] 114, .row A11 ((digs D).length) c12 3 1 (iv .i64 (digs D)), .blk b7 [vP b1 0, vP b2 0, vP b3 0] 112, .blk b3 [vI (D : Int)] 3, .blk b2 [vI (B : Int)] 3, .blk b1 [vI (A : Int)] 3]) ⟨by kernel_rfl⟩ (fun w_ hM hS => let ⟨w', he, h'⟩ := hM.evs_stores [.slice A22 ((digs (2 * (A * B))).length) c23] 0 rfl 0 (Nat.le_of_ble_eq_true rfl); ⟨w', he, h', (by exact h'.sub (.cons _ (.cons _ (.cons _ (.cons _ (.cons _ (.cons _ (.cons_cons _ (.cons_cons _ (.cons_cons _ (.cons_cons _ (.cons_cons _ (.cons_cons _ .slnil)))))))))))))⟩) ?_
              refine oR [] [(11, vP b24 0), (10, vP b13 0), (7, .bool g3)] [11, 10, 7] (by kernel_rfl) ?_
              refine ops_nil ?_
              exact fin_cut (b24, A22, c23, A20, c21, A18, c19, A16, c17, A14, c15) (look_has ⟨rfl, rfl, rfl, trivial⟩) (fun w_ hM => hM.reorder [0, 1, 2, 3, 4, 5, 6, 7, 8, 9, 10, 11] (by decide) rfl)
             · --
              refine tree_leaf ?_
              refine ops_new (d := some 11) (o := .cells #[.slice none 0 0] 114) (v := fun b25 => vP b25 0) (M' := fun b25 => Mem w [.blk b25 [.slice none 0 0] 114, .row A20 ((digs (A * B)).length) c21 3 1 (iv .i64 (digs (A * B))), .row A18 ((digs B).length) c19 3 1 (iv .i64 (digs B)), .row A16 ((digs A).length) c17 3 1 (iv .i64 (digs A)), .row A14 ((digs 2).length) c15 3 1 (iv .i64 (digs 2)), .blk b13 [.slice A11 ((digs D).length) c12] 114, .row A11 ((digs D).length) c12 3 1 (iv .i64 (digs D)), .blk b7 [vP b1 0, vP b2 0, vP b3 0] 112, .blk b3 [vI (D : Int)] 3, .blk b2 [vI (B : Int)] 3, .blk b1 [vI (A : Int)] 3]) (fun b25 => ⟨by kernel_rfl⟩) (fun w_ hM hS => ⟨hM.blk [.slice none 0 0] 114, hS.alloc _⟩) (fun b25 => ?_)
              refine oR [] [(11, vP b25 0), (55, .slice A20 ((digs (A * B)).length) c21), (50, .slice A14 ((digs 2).length) c15), (10, vP b13 0), (7, .bool g3)] [11, 55, 50, 10, 7] (by kernel_rfl) ?_
              refine ops_call (σ := Option Addr × Nat) (d := some 56) (f := 88) (args := #[.slice A14 ((digs 2).length) c15, .slice A20 ((digs (A * B)).length) c21]) (v := fun x_ => match x_ with | (A26, c27) => .slice A26 ((digs (2 * (A * B))).length) c27) (M' := fun x_ => match x_ with | (A26, c27) => Mem w [.row A26 ((digs (2 * (A * B))).length) c27 3 1 (iv .i64 (digs (2 * (A * B)))), .blk b25 [.slice none 0 0] 114, .row A20 ((digs (A * B)).length) c21 3 1 (iv .i64 (digs (A * B))), .row A18 ((digs B).length) c19 3 1 (iv .i64 (digs B)), .row A16 ((digs A).length) c17 3 1 (iv .i64 (digs A)), .row A14 ((digs 2).length) c15 3 1 (iv .i64 (digs 2)), .blk b13 [.slice A11 ((digs D).length) c12] 114, .row A11 ((digs D).length) c12 3 1 (iv .i64 (digs D)), .blk b7 [vP b1 0, vP b2 0, vP b3 0] 112, .blk b3 [vI (D : Int)] 3, .blk b2 [vI (B : Int)] 3, .blk b1 [vI (A : Int)] 3]) ⟨by kernel_rfl⟩ (fun w_ hM hS => (times_digs A14 c15 2 A20 c21 (A * B) w_ (hM.rints 4 rfl) (hM.rints 1 rfl) (by first | assumption | exact Nat.le_trans (digs_length (k := 5) (by omega)) (by decide)) (by first | assumption | exact Nat.le_trans (digs_length (k := 5) (by omega)) (by decide))).mono (by rintro e w' ⟨x_, rfl, h2⟩; exact ⟨x_, rfl, hM.join h2 rfl, hS.step h2.below⟩)) ?_
              rintro ⟨A26, c27⟩
              refine ops_conv (l' := [(56, .slice A26 ((digs (2 * (A * B))).length) c27), (11, vP b25 0), (55, .slice A20 ((digs (A * B)).length) c21), (50, .slice A14 ((digs 2).length) c15), (10, vP b13 0), (7, .bool g3)]) (M' := Mem w [.row A26 ((digs (2 * (A * B))).length) c27 3 1 (iv .i64 (digs (2 * (A * B)))), .blk b25 [.slice none 0 0] 114, .row A20 ((digs (A * B)).length) c21 3 1 (iv .i64 (digs (A * B))), .row A18 ((digs B).length) c19 3 1 (iv .i64 (digs B)), .row A16 ((digs A).length) c17 3 1 (iv .i64 (digs A)), .row A14 ((digs 2).length) c15 3 1 (iv .i64 (digs 2)), .blk b13 [.slice A11 ((digs D).length) c12] 114, .row A11 ((digs D).length) c12 3 1 (iv .i64 (digs D)), .blk b7 [vP b1 0, vP b2 0, vP b3 0] 112, .blk b3 [vI (D : Int)] 3, .blk b2 [vI (B : Int)] 3, .blk b1 [vI (A : Int)] 3]) rfl (fun _ h => h) ?_
              refine oR [] [(56, .slice A26 ((digs (2 * (A * B))).length) c27), (11, vP b25 0), (10, vP b13 0), (7, .bool g3)] [56, 11, 10, 7] (by kernel_rfl) ?_
              refine ops_store (an := []) (evs := [.store ⟨b25, 0, none⟩ (.slice A26 ((digs (2 * (A * B))).length) c27)]) (M' := Mem w [.row A26 ((digs (2 * (A * B))).length) c27 3 1 (iv .i64 (digs (2 * (A * B)))), .blk b25 [.slice A26 ((digs (2 * (A * B))).length) c27] 114, .row A20 ((digs (A * B)).length) c21 3 1 (iv .i64 (digs (A * B))), .row A18 ((digs B).length) c19 3 1 (iv .i64 (digs B)), .row A16 ((digs A).length) c17 3 1 (iv .i64 (digs A)), .row A14 ((digs 2).length) c15 3 1 (iv .i64 (digs 2)), .blk b13 [.slice A11 ((digs D).length) c12] 114, .row A11 ((digs D).length) c12 3 1 (iv .i64 (digs D)), .blk b7 [vP b1 0, vP b2 0, vP b3 0] 112, .blk b3 [vI (D : Int)] 3, .blk b2 [vI (B : Int)] 3, .blk b1 [vI (A : Int)] 3]) ⟨by kernel_rfl⟩ (fun w_ hM hS => let ⟨w', he, h'⟩ := hM.evs_stores [.slice A26 ((digs (2 * (A * B))).length) c27] 1 rfl 0 (Nat.le_of_ble_eq_true rfl); ⟨w', he, h', (by exact h'.sub (.cons _ (.cons _ (.cons _ (.cons _ (.cons _ (.cons _ (.cons_cons _ (.cons_cons _ (.cons_cons _ (.cons_cons _ (.cons_cons _ (.cons_cons _ .slnil)))))))))))))⟩) ?_
              refine oR [] [(11, vP b25 0), (10, vP b13 0), (7, .bool g3)] [11, 10, 7] (by kernel_rfl) ?_
              refine ops_nil ?_
              exact fin_cut (b25, A26, c27, A20, c21, A18, c19, A16, c17, A14, c15) (look_has ⟨rfl, rfl, rfl, trivial⟩) (fun w_ hM => hM.reorder [1, 0, 2, 3, 4, 5, 6, 7, 8, 9, 10, 11] (by decide) rfl)
            · --
             refine tree_leaf ?_
             refine ops_new (d := some 11) (o := .cells #[.slice none 0 0] 114) (v := fun b28 => vP b28 0) (M' := fun b28 => Mem w [.blk b28 [.slice none 0 0] 114, .row A18 ((digs B).length) c19 3 1 (iv .i64 (digs B)), .row A16 ((digs A).length) c17 3 1 (iv .i64 (digs A)), .row A14 ((digs 2).length) c15 3 1 (iv .i64 (digs 2)), .blk b13 [.slice A11 ((digs D).length) c12] 114, .row A11 ((digs D).length) c12 3 1 (iv .i64 (digs D)), .blk b7 [vP b1 0, vP b2 0, vP b3 0] 112, .blk b3 [vI (D : Int)] 3, .blk b2 [vI (B : Int)] 3, .blk b1 [vI (A : Int)] 3]) (fun b28 => ⟨by kernel_rfl⟩) (fun w_ hM hS => ⟨hM.blk [.slice none 0 0] 114, hS.alloc _⟩) (fun b28 => ?_)
             refine oR [] [(11, vP b28 0), (54, .slice A18 ((digs B).length) c19), (52, .slice A16 ((digs A).length) c17), (50, .slice A14 ((digs 2).length) c15), (10, vP b13 0), (7, .bool g3)] [11, 54, 52, 50, 10, 7] (by kernel_rfl) ?_
             refine ops_call (σ := Option Addr × Nat) (d := some 55) (f := 88) (args := #[.slice A16 ((digs A).length) c17, .slice A18 ((digs B).length) c19]) (v := fun x_ => match x_ with | (A29, c30) => .slice A29 ((digs (A * B)).length) c30) (M' := fun x_ => match x_ with | (A29, c30) => Mem w [.row A29 ((digs (A * B)).length) c30 3 1 (iv .i64 (digs (A * B))), .blk b28 [.slice none 0 0] 114, .row A18 ((digs B).length) c19 3 1 (iv .i64 (digs B)), .row A16 ((digs A).length) c17 3 1 (iv .i64 (digs A)), .row A14 ((digs 2).length) c15 3 1 (iv .i64 (digs 2)), .blk b13 [.slice A11 ((digs D).length) c12] 114, .row A11 ((digs D).length) c12 3 1 (iv .i64 (digs D)), .blk b7 [vP b1 0, vP b2 0, vP b3 0] 112, .blk b3 [vI (D : Int)] 3, .blk b2 [vI (B : Int)] 3, .blk b1 [vI (A : Int)] 3]) ⟨by kernel_rfl⟩ (fun w_ hM hS => (times_digs A16 c17 A A18 c19 B w_ (hM.rints 2 rfl) (hM.rints 1 rfl) (by first | assumption | exact Nat.le_trans (digs_length (k := 5) (by omega)) (by decide)) (by first | assumption | exact Nat.le_trans (digs_length (k := 5) (by omega)) (by decide))).mono (by rintro e w' ⟨x_, rfl, h2⟩; exact ⟨x_, rfl, hM.join h2 rfl, hS.step h2.below⟩)) ?_
             rintro ⟨A29, c30⟩
             refine ops_conv (l' := [(55, .slice A29 ((digs (A * B)).length) c30), (11, vP b28 0), (54, .slice A18 ((digs B).length) c19), (52, .slice A16 ((digs A).length) c17), (50, .slice A14 ((digs 2).length) c15), (10, vP b13 0), (7, .bool g3)]) (M' := Mem w [.row A29 ((digs (A * B)).length) c30 3 1 (iv .i64 (digs (A * B))), .blk b28 [.slice none 0 0] 114, .row A18 ((digs B).length) c19 3 1 (iv .i64 (digs B)), .row A16 ((digs A).length) c17 3 1 (iv .i64 (digs A)), .row A14 ((digs 2).length) c15 3 1 (iv .i64 (digs 2)), .blk b13 [.slice A11 ((digs D).length) c12] 114, .row A11 ((digs D).length) c12 3 1 (iv .i64 (digs D)), .blk b7 [vP b1 0, vP b2 0, vP b3 0] 112, .blk b3 [vI (D : Int)] 3, .blk b2 [vI (B : Int)] 3, .blk b1 [vI (A : Int)] 3]) rfl (fun _ h => h) ?_
             refine oR [] [(55, .slice A29 ((digs (A * B)).length) c30), (11, vP b28 0), (50, .slice A14 ((digs 2).length) c15), (10, vP b13 0), (7, .bool g3)] [55, 11, 50, 10, 7] (by kernel_rfl) ?_
             refine ops_call (σ := Option Addr × Nat) (d := some 56) (f := 88) (args := #[.slice A14 ((digs 2).length) c15, .slice A29 ((digs (A * B)).length) c30]) (v := fun x_ => match x_ with | (A31, c32) => .slice A31 ((digs (2 * (A * B))).length) c32) (M' := fun x_ => match x_ with | (A31, c32) => Mem w [.row A31 ((digs (2 * (A * B))).length) c32 3 1 (iv .i64 (digs (2 * (A * B)))), .row A29 ((digs (A * B)).length) c30 3 1 (iv .i64 (digs (A * B))), .blk b28 [.slice none 0 0] 114, .row A18 ((digs B).length) c19 3 1 (iv .i64 (digs B)), .row A16 ((digs A).length) c17 3 1 (iv .i64 (digs A)), .row A14 ((digs 2).length) c15 3 1 (iv .i64 (digs 2)), .blk b13 [.slice A11 ((digs D).length) c12] 114, .row A11 ((digs D).length) c12 3 1 (iv .i64 (digs D)), .blk b7 [vP b1 0, vP b2 0, vP b3 0] 112, .blk b3 [vI (D : Int)] 3, .blk b2 [vI (B : Int)] 3, .blk b1 [vI (A : Int)] 3]) ⟨by kernel_rfl⟩ (fun w_ hM hS => (times_digs A14 c15 2 A29 c30 (A * B) w_ (hM.rints 4 rfl) (hM.rints 0 rfl) (by first | assumption | exact Nat.le_trans (digs_length (k := 5) (by omega)) (by decide)) (by first | assumption | exact Nat.le_trans (digs_length (k := 5) (by omega)) (by decide))).mono (by rintro e w' ⟨x_, rfl, h2⟩; exact ⟨x_, rfl, hM.join h2 rfl, hS.step h2.below⟩)) ?_
             rintro ⟨A31, c32⟩
             refine ops_conv (l' := [(56, .slice A31 ((digs (2 * (A * B))).length) c32), (55, .slice A29 ((digs (A * B)).length) c30), (11, vP b28 0), (50, .slice A14 ((digs 2).length) c15), (10, vP b13 0), (7, .bool g3)]) (M' := Mem w [.row A31 ((digs (2 * (A * B))).length) c32 3 1 (iv .i64 (digs (2 * (A * B)))), .row A29 ((digs (A * B)).length) c30 3 1 (iv .i64 (digs (A * B))), .blk b28 [.slice none 0 0] 114, .row A18 ((digs B).length) c19 3 1 (iv .i64 (digs B)), .row A16 ((digs A).length) c17 3 1 (iv .i64 (digs A)), .row A14 ((digs 2).length) c15 3 1 (iv .i64 (digs 2)), .blk b13 [.slice A11 ((digs D).length) c12] 114, .row A11 ((digs D).length) c12 3 1 (iv .i64 (digs D)), .blk b7 [vP b1 0, vP b2 0, vP b3 0] 112, .blk b3 [vI (D : Int)] 3, .blk b2 [vI (B : Int)] 3, .blk b1 [vI (A : Int)] 3]) rfl (fun _ h => h) ?_
             refine oR [] [(56, .slice A31 ((digs (2 * (A * B))).length) c32), (11, vP b28 0), (10, vP b13 0), (7, .bool g3)] [56, 11, 10, 7] (by kernel_rfl) ?_
             refine ops_store (an := []) (evs := [.store ⟨b28, 0, none⟩ (.slice A31 ((digs (2 * (A * B))).length) c32)]) (M' := Mem w [.row A31 ((digs (2 * (A * B))).length) c32 3 1 (iv .i64 (digs (2 * (A * B)))), .row A29 ((digs (A * B)).length) c30 3 1 (iv .i64 (digs (A * B))), .blk b28 [.slice A31 ((digs (2 * (A * B))).length) c32] 114, .row A18 ((digs B).length) c19 3 1 (iv .i64 (digs B)), .row A16 ((digs A).length) c17 3 1 (iv .i64 (digs A)), .row A14 ((digs 2).length) c15 3 1 (iv .i64 (digs 2)), .blk b13 [.slice A11 ((digs D).length) c12] 114, .row A11 ((digs D).length) c12 3 1 (iv .i64 (digs D)), .blk b7 [vP b1 0, vP b2 0, vP b3 0] 112, .blk b3 [vI (D : Int)] 3, .blk b2 [vI (B : Int)] 3, .blk b1 [vI (A : Int)] 3]) ⟨by kernel_rfl⟩ (fun w_ hM hS => let ⟨w', he, h'⟩ := hM.evs_stores [.slice A31 ((digs (2 * (A * B))).length) c32] 2 rfl 0 (Nat.le_of_ble_eq_true rfl); ⟨w', he, h', (by exact h'.sub (.cons _ (.cons _ (.cons _ (.cons _ (.cons _ (.cons _ (.cons_cons _ (.cons_cons _ (.cons_cons _ (.cons_cons _ (.cons_cons _ (.cons_cons _ .slnil)))))))))))))⟩) ?_
             refine oR [] [(11, vP b28 0), (10, vP b13 0), (7, .bool g3)] [11, 10, 7] (by kernel_rfl) ?_
             refine ops_nil ?_
             exact fin_cut (b28, A31, c32, A29, c30, A18, c19, A16, c17, A14, c15) (look_has ⟨rfl, rfl, rfl, trivial⟩) (fun w_ hM => hM.reorder [2, 0, 1, 3, 4, 5, 6, 7, 8, 9, 10, 11] (by decide) rfl)
           · --
            refine tree_leaf ?_
            refine ops_new (d := some 11) (o := .cells #[.slice none 0 0] 114) (v := fun b33 => vP b33 0) (M' := fun b33 => Mem w [.blk b33 [.slice none 0 0] 114, .row A16 ((digs A).length) c17 3 1 (iv .i64 (digs A)), .row A14 ((digs 2).length) c15 3 1 (iv .i64 (digs 2)), .blk b13 [.slice A11 ((digs D).length) c12] 114, .row A11 ((digs D).length) c12 3 1 (iv .i64 (digs D)), .blk b7 [vP b1 0, vP b2 0, vP b3 0] 112, .blk b3 [vI (D : Int)] 3, .blk b2 [vI (B : Int)] 3, .blk b1 [vI (A : Int)] 3]) (fun b33 => ⟨by kernel_rfl⟩) (fun w_ hM hS => ⟨hM.blk [.slice none 0 0] 114, hS.alloc _⟩) (fun b33 => ?_)
            refine oR [] [(11, vP b33 0), (52, .slice A16 ((digs A).length) c17), (50, .slice A14 ((digs 2).length) c15), (53, vI (B : Int)), (10, vP b13 0), (7, .bool g3)] [11, 52, 50, 53, 10, 7] (by kernel_rfl) ?_
            refine ops_call (σ := Option Addr × Nat) (d := some 54) (f := 87) (args := #[vI (B : Int)]) (v := fun x_ => match x_ with | (A34, c35) => .slice A34 ((digs B).length) c35) (M' := fun x_ => match x_ with | (A34, c35) => Mem w [.row A34 ((digs B).length) c35 3 1 (iv .i64 (digs B)), .blk b33 [.slice none 0 0] 114, .row A16 ((digs A).length) c17 3 1 (iv .i64 (digs A)), .row A14 ((digs 2).length) c15 3 1 (iv .i64 (digs 2)), .blk b13 [.slice A11 ((digs D).length) c12] 114, .row A11 ((digs D).length) c12 3 1 (iv .i64 (digs D)), .blk b7 [vP b1 0, vP b2 0, vP b3 0] 112, .blk b3 [vI (D : Int)] 3, .blk b2 [vI (B : Int)] 3, .blk b1 [vI (A : Int)] 3]) ⟨by kernel_rfl⟩ (fun w_ hM hS => (natOf_calls B w_ (by omega)).mono (by rintro e w' ⟨x_, rfl, h2⟩; exact ⟨x_, rfl, hM.join h2 rfl, hS.step h2.below⟩)) ?_
            rintro ⟨A34, c35⟩
            refine ops_conv (l' := [(54, .slice A34 ((digs B).length) c35), (11, vP b33 0), (52, .slice A16 ((digs A).length) c17), (50, .slice A14 ((digs 2).length) c15), (53, vI (B : Int)), (10, vP b13 0), (7, .bool g3)]) (M' := Mem w [.row A34 ((digs B).length) c35 3 1 (iv .i64 (digs B)), .blk b33 [.slice none 0 0] 114, .row A16 ((digs A).length) c17 3 1 (iv .i64 (digs A)), .row A14 ((digs 2).length) c15 3 1 (iv .i64 (digs 2)), .blk b13 [.slice A11 ((digs D).length) c12] 114, .row A11 ((digs D).length) c12 3 1 (iv .i64 (digs D)), .blk b7 [vP b1 0, vP b2 0, vP b3 0] 112, .blk b3 [vI (D : Int)] 3, .blk b2 [vI (B : Int)] 3, .blk b1 [vI (A : Int)] 3]) rfl (fun _ h => h) ?_
            refine oR [] [(54, .slice A34 ((digs B).length) c35), (11, vP b33 0), (52, .slice A16 ((digs A).length) c17), (50, .slice A14 ((digs 2).length) c15), (10, vP b13 0), (7, .bool g3)] [54, 11, 52, 50, 10, 7] (by kernel_rfl) ?_
            refine ops_call (σ := Option Addr × Nat) (d := some 55) (f := 88) (args := #[.slice A16 ((digs A).length) c17, .slice A34 ((digs B).length) c35]) (v := fun x_ => match x_ with | (A36, c37) => .slice A36 ((digs (A * B)).length) c37) (M' := fun x_ => match x_ with | (A36, c37) => Mem w [.row A36 ((digs (A * B)).length) c37 3 1 (iv .i64 (digs (A * B))), .row A34 ((digs B).length) c35 3 1 (iv .i64 (digs B)), .blk b33 [.slice none 0 0] 114, .row A16 ((digs A).length) c17 3 1 (iv .i64 (digs A)), .row A14 ((digs 2).length) c15 3 1 (iv .i64 (digs 2)), .blk b13 [.slice A11 ((digs D).length) c12] 114, .row A11 ((digs D).length) c12 3 1 (iv .i64 (digs D)), .blk b7 [vP b1 0, vP b2 0, vP b3 0] 112, .blk b3 [vI (D : Int)] 3, .blk b2 [vI (B : Int)] 3, .blk b1 [vI (A : Int)] 3]) ⟨by kernel_rfl⟩ (fun w_ hM hS => (times_digs A16 c17 A A34 c35 B w_ (hM.rints 2 rfl) (hM.rints 0 rfl) (by first | assumption | exact Nat.le_trans (digs_length (k := 5) (by omega)) (by decide)) (by first | assumption | exact Nat.le_trans (digs_length (k := 5) (by omega)) (by decide))).mono (by rintro e w' ⟨x_, rfl, h2⟩; exact ⟨x_, rfl, hM.join h2 rfl, hS.step h2.below⟩)) ?_
            rintro ⟨A36, c37⟩
            refine ops_conv (l' := [(55, .slice A36 ((digs (A * B)).length) c37), (54, .slice A34 ((digs B).length) c35), (11, vP b33 0), (52, .slice A16 ((digs A).length) c17), (50, .slice A14 ((digs 2).length) c15), (10, vP b13 0), (7, .bool g3)]) (M' := Mem w [.row A36 ((digs (A * B)).length) c37 3 1 (iv .i64 (digs (A * B))), .row A34 ((digs B).length) c35 3 1 (iv .i64 (digs B)), .blk b33 [.slice none 0 0] 114, .row A16 ((digs A).length) c17 3 1 (iv .i64 (digs A)), .row A14 ((digs 2).length) c15 3 1 (iv .i64 (digs 2)), .blk b13 [.slice A11 ((digs D).length) c12] 114, .row A11 ((digs D).length) c12 3 1 (iv .i64 (digs D)), .blk b7 [vP b1 0, vP b2 0, vP b3 0] 112, .blk b3 [vI (D : Int)] 3, .blk b2 [vI (B : Int)] 3, .blk b1 [vI (A : Int)] 3]) rfl (fun _ h => h) ?_
            refine oR [] [(55, .slice A36 ((digs (A * B)).length) c37), (11, vP b33 0), (50, .slice A14 ((digs 2).length) c15), (10, vP b13 0), (7, .bool g3)] [55, 11, 50, 10, 7] (by kernel_rfl) ?_
            refine ops_call (σ := Option Addr × Nat) (d := some 56) (f := 88) (args := #[.slice A14 ((digs 2).length) c15, .slice A36 ((digs (A * B)).length) c37]) (v := fun x_ => match x_ with | (A38, c39) => .slice A38 ((digs (2 * (A * B))).length) c39) (M' := fun x_ => match x_ with | (A38, c39) => Mem w [.row A38 ((digs (2 * (A * B))).length) c39 3 1 (iv .i64 (digs (2 * (A * B)))), .row A36 ((digs (A * B)).length) c37 3 1 (iv .i64 (digs (A * B))), .row A34 ((digs B).length) c35 3 1 (iv .i64 (digs B)), .blk b33 [.slice none 0 0] 114, .row A16 ((digs A).length) c17 3 1 (iv .i64 (digs A)), .row A14 ((digs 2).length) c15 3 1 (iv .i64 (digs 2)), .blk b13 [.slice A11 ((digs D).length) c12] 114, .row A11 ((digs D).length) c12 3 1 (iv .i64 (digs D)), .blk b7 [vP b1 0, vP b2 0, vP b3 0] 112, .blk b3 [vI (D : Int)] 3, .blk b2 [vI (B : Int)] 3, .blk b1 [vI (A : Int)] 3]) ⟨by kernel_rfl⟩ (fun w_ hM hS => (times_digs A14 c15 2 A36 c37 (A * B) w_ (hM.rints 4 rfl) (hM.rints 0 rfl) (by first | assumption | exact Nat.le_trans (digs_length (k := 5) (by omega)) (by decide)) (by first | assumption | exact Nat.le_trans (digs_length (k := 5) (by omega)) (by decide))).mono (by rintro e w' ⟨x_, rfl, h2⟩; exact ⟨x_, rfl, hM.join h2 rfl, hS.step h2.below⟩)) ?_
            rintro ⟨A38, c39⟩
            refine ops_conv (l' := [(56, .slice A38 ((digs (2 * (A * B))).length) c39), (55, .slice A36 ((digs (A * B)).length) c37), (11, vP b33 0), (50, .slice A14 ((digs 2).length) c15), (10, vP b13 0), (7, .bool g3)]) (M' := Mem w [.row A38 ((digs (2 * (A * B))).length) c39 3 1 (iv .i64 (digs (2 * (A * B)))), .row A36 ((digs (A * B)).length) c37 3 1 (iv .i64 (digs (A * B))), .row A34 ((digs B).length) c35 3 1 (iv .i64 (digs B)), .blk b33 [.slice none 0 0] 114, .row A16 ((digs A).length) c17 3 1 (iv .i64 (digs A)), .row A14 ((digs 2).length) c15 3 1 (iv .i64 (digs 2)), .blk b13 [.slice A11 ((digs D).length) c12] 114, .row A11 ((digs D).length) c12 3 1 (iv .i64 (digs D)), .blk b7 [vP b1 0, vP b2 0, vP b3 0] 112, .blk b3 [vI (D : Int)] 3, .blk b2 [vI (B : Int)] 3, .blk b1 [vI (A : Int)] 3]) rfl (fun _ h => h) ?_
            refine oR [] [(56, .slice A38 ((digs (2 * (A * B))).length) c39), (11, vP b33 0), (10, vP b13 0), (7, .bool g3)] [56, 11, 10, 7] (by kernel_rfl) ?_
            refine ops_store (an := []) (evs := [.store ⟨b33, 0, none⟩ (.slice A38 ((digs (2 * (A * B))).length) c39)]) (M' := Mem w [.row A38 ((digs (2 * (A * B))).length) c39 3 1 (iv .i64 (digs (2 * (A * B)))), .row A36 ((digs (A * B)).length) c37 3 1 (iv .i64 (digs (A * B))), .row A34 ((digs B).length) c35 3 1 (iv .i64 (digs B)), .blk b33 [.slice A38 ((digs (2 * (A * B))).length) c39] 114, .row A16 ((digs A).length) c17 3 1 (iv .i64 (digs A)), .row A14 ((digs 2).length) c15 3 1 (iv .i64 (digs 2)), .blk b13 [.slice A11 ((digs D).length) c12] 114, .row A11 ((digs D).length) c12 3 1 (iv .i64 (digs D)), .blk b7 [vP b1 0, vP b2 0, vP b3 0] 112, .blk b3 [vI (D : Int)] 3, .blk b2 [vI (B : Int)] 3, .blk b1 [vI (A : Int)] 3]) ⟨by kernel_rfl⟩ (fun w_ hM hS => let ⟨w', he, h'⟩ := hM.evs_stores [.slice A38 ((digs (2 * (A * B))).length) c39] 3 rfl 0 (Nat.le_of_ble_eq_true rfl); ⟨w', he, h', (by exact h'.sub (.cons _ (.cons _ (.cons _ (.cons _ (.cons _ (.cons _ (.cons_cons _ (.cons_cons _ (.cons_cons _ (.cons_cons _ (.cons_cons _ (.cons_cons _ .slnil)))))))))))))⟩) ?_
            refine oR [] [(11, vP b33 0), (10, vP b13 0), (7, .bool g3)] [11, 10, 7] (by kernel_rfl) ?_
            refine ops_nil ?_
            exact fin_cut (b33, A38, c39, A36, c37, A34, c35, A16, c17, A14, c15) (look_has ⟨rfl, rfl, rfl, trivial⟩) (fun w_ hM => hM.reorder [3, 0, 1, 2, 4, 5, 6, 7, 8, 9, 10, 11] (by decide) rfl)
          · --
           refine tree_leaf ?_
           refine ops_new (d := some 11) (o := .cells #[.slice none 0 0] 114) (v := fun b40 => vP b40 0) (M' := fun b40 => Mem w [.blk b40 [.slice none 0 0] 114, .row A14 ((digs 2).length) c15 3 1 (iv .i64 (digs 2)), .blk b13 [.slice A11 ((digs D).length) c12] 114, .row A11 ((digs D).length) c12 3 1 (iv .i64 (digs D)), .blk b7 [vP b1 0, vP b2 0, vP b3 0] 112, .blk b3 [vI (D : Int)] 3, .blk b2 [vI (B : Int)] 3, .blk b1 [vI (A : Int)] 3]) (fun b40 => ⟨by kernel_rfl⟩) (fun w_ hM hS => ⟨hM.blk [.slice none 0 0] 114, hS.alloc _⟩) (fun b40 => ?_)
           refine oR [] [(11, vP b40 0), (50, .slice A14 ((digs 2).length) c15), (53, vI (B : Int)), (51, vI (A : Int)), (10, vP b13 0), (7, .bool g3)] [11, 50, 53, 51, 10, 7] (by kernel_rfl) ?_
           refine ops_call (σ := Option Addr × Nat) (d := some 52) (f := 87) (args := #[vI (A : Int)]) (v := fun x_ => match x_ with | (A41, c42) => .slice A41 ((digs A).length) c42) (M' := fun x_ => match x_ with | (A41, c42) => Mem w [.row A41 ((digs A).length) c42 3 1 (iv .i64 (digs A)), .blk b40 [.slice none 0 0] 114, .row A14 ((digs 2).length) c15 3 1 (iv .i64 (digs 2)), .blk b13 [.slice A11 ((digs D).length) c12] 114, .row A11 ((digs D).length) c12 3 1 (iv .i64 (digs D)), .blk b7 [vP b1 0, vP b2 0, vP b3 0] 112, .blk b3 [vI (D : Int)] 3, .blk b2 [vI (B : Int)] 3, .blk b1 [vI (A : Int)] 3]) ⟨by kernel_rfl⟩ (fun w_ hM hS => (natOf_calls A w_ (by omega)).mono (by rintro e w' ⟨x_, rfl, h2⟩; exact ⟨x_, rfl, hM.join h2 rfl, hS.step h2.below⟩)) ?_
           rintro ⟨A41, c42⟩
           refine ops_conv (l' := [(52, .slice A41 ((digs A).length) c42), (11, vP b40 0), (50, .slice A14 ((digs 2).length) c15), (53, vI (B : Int)), (51, vI (A : Int)), (10, vP b13 0), (7, .bool g3)]) (M' := Mem w [.row A41 ((digs A).length) c42 3 1 (iv .i64 (digs A)), .blk b40 [.slice none 0 0] 114, .row A14 ((digs 2).length) c15 3 1 (iv .i64 (digs 2)), .blk b13 [.slice A11 ((digs D).length) c12] 114, .row A11 ((digs D).length) c12 3 1 (iv .i64 (digs D)), .blk b7 [vP b1 0, vP b2 0, vP b3 0] 112, .blk b3 [vI (D : Int)] 3, .blk b2 [vI (B : Int)] 3, .blk b1 [vI (A : Int)] 3]) rfl (fun _ h => h) ?_
           refine oR [] [(52, .slice A41 ((digs A).length) c42), (11, vP b40 0), (50, .slice A14 ((digs 2).length) c15), (53, vI (B : Int)), (10, vP b13 0), (7, .bool g3)] [52, 11, 50, 53, 10, 7] (by kernel_rfl) ?_
           refine ops_call (σ := Option Addr × Nat) (d := some 54) (f := 87) (args := #[vI (B : Int)]) (v := fun x_ => match x_ with | (A43, c44) => .slice A43 ((digs B).length) c44) (M' := fun x_ => match x_ with | (A43, c44) => Mem w [.row A43 ((digs B).length) c44 3 1 (iv .i64 (digs B)), .row A41 ((digs A).length) c42 3 1 (iv .i64 (digs A)), .blk b40 [.slice none 0 0] 114, .row A14 ((digs 2).length) c15 3 1 (iv .i64 (digs 2)), .blk b13 [.slice A11 ((digs D).length) c12] 114, .row A11 ((digs D).length) c12 3 1 (iv .i64 (digs D)), .blk b7 [vP b1 0, vP b2 0, vP b3 0] 112, .blk b3 [vI (D : Int)] 3, .blk b2 [vI (B : Int)] 3, .blk b1 [vI (A : Int)] 3]) ⟨by kernel_rfl⟩ (fun w_ hM hS => (natOf_calls B w_ (by omega)).mono (by rintro e w' ⟨x_, rfl, h2⟩; exact ⟨x_, rfl, hM.join h2 rfl, hS.step h2.below⟩)) ?_
           rintro ⟨A43, c44⟩
           refine ops_conv (l' := [(54, .slice A43 ((digs B).length) c44), (52, .slice A41 ((digs A).length) c42), (11, vP b40 0), (50, .slice A14 ((digs 2).length) c15), (53, vI (B : Int)), (10, vP b13 0), (7, .bool g3)]) (M' := Mem w [.row A43 ((digs B).length) c44 3 1 (iv .i64 (digs B)), .row A41 ((digs A).length) c42 3 1 (iv .i64 (digs A)), .blk b40 [.slice none 0 0] 114, .row A14 ((digs 2).length) c15 3 1 (iv .i64 (digs 2)), .blk b13 [.slice A11 ((digs D).length) c12] 114, .row A11 ((digs D).length) c12 3 1 (iv .i64 (digs D)), .blk b7 [vP b1 0, vP b2 0, vP b3 0] 112, .blk b3 [vI (D : Int)] 3, .blk b2 [vI (B : Int)] 3, .blk b1 [vI (A : Int)] 3]) rfl (fun _ h => h) ?_
           refine oR [] [(54, .slice A43 ((digs B).length) c44), (52, .slice A41 ((digs A).length) c42), (11, vP b40 0), (50, .slice A14 ((digs 2).length) c15), (10, vP b13 0), (7, .bool g3)] [54, 52, 11, 50, 10, 7] (by kernel_rfl) ?_
           refine ops_call (σ := Option Addr × Nat) (d := some 55) (f := 88) (args := #[.slice A41 ((digs A).length) c42, .slice A43 ((digs B).length) c44]) (v := fun x_ => match x_ with | (A45, c46) => .slice A45 ((digs (A * B)).length) c46) (M' := fun x_ => match x_ with | (A45, c46) => Mem w [.row A45 ((digs (A * B)).length) c46 3 1 (iv .i64 (digs (A * B))), .row A43 ((digs B).length) c44 3 1 (iv .i64 (digs B)), .row A41 ((digs A).length) c42 3 1 (iv .i64 (digs A)), .blk b40 [.slice none 0 0] 114, .row A14 ((digs 2).length) c15 3 1 (iv .i64 (digs 2)), .blk b13 [.slice A11 ((digs D).length) c12] 114, .row A11 ((digs D).length) c12 3 1 (iv .i64 (digs D)), .blk b7 [vP b1 0, vP b2 0, vP b3 0] 112, .blk b3 [vI (D : Int)] 3, .blk b2 [vI (B : Int)] 3, .blk b1 [vI (A : Int)] 3]) ⟨by kernel_rfl⟩ (fun w_ hM hS => (times_digs A41 c42 A A43 c44 B w_ (hM.rints 1 rfl) (hM.rints 0 rfl) (by first | assumption | exact Nat.le_trans (digs_length (k := 5) (by omega)) (by decide)) (by first | assumption | exact Nat.le_trans (digs_length (k := 5) (by omega)) (by decide))).mono (by rintro e w' ⟨x_, rfl, h2⟩; exact ⟨x_, rfl, hM.join h2 rfl, hS.step h2.below⟩)) ?_
           rintro ⟨A45, c46⟩
           refine ops_conv (l' := [(55, .slice A45 ((digs (A * B)).length) c46), (54, .slice A43 ((digs B).length) c44), (52, .slice A41 ((digs A).length) c42), (11, vP b40 0), (50, .slice A14 ((digs 2).length) c15), (10, vP b13 0), (7, .bool g3)]) (M' := Mem w [.row A45 ((digs (A * B)).length) c46 3 1 (iv .i64 (digs (A * B))), .row A43 ((digs B).length) c44 3 1 (iv .i64 (digs B)), .row A41 ((digs A).length) c42 3 1 (iv .i64 (digs A)), .blk b40 [.slice none 0 0] 114, .row A14 ((digs 2).length) c15 3 1 (iv .i64 (digs 2)), .blk b13 [.slice A11 ((digs D).length) c12] 114, .row A11 ((digs D).length) c12 3 1 (iv .i64 (digs D)), .blk b7 [vP b1 0, vP b2 0, vP b3 0] 112, .blk b3 [vI (D : Int)] 3, .blk b2 [vI (B : Int)] 3, .blk b1 [vI (A : Int)] 3]) rfl (fun _ h => h) ?_
           refine oR [] [(55, .slice A45 ((digs (A * B)).length) c46), (11, vP b40 0), (50, .slice A14 ((digs 2).length) c15), (10, vP b13 0), (7, .bool g3)] [55, 11, 50, 10, 7] (by kernel_rfl) ?_
           refine ops_call (σ := Option Addr × Nat) (d := some 56) (f := 88) (args := #[.slice A14 ((digs 2).length) c15, .slice A45 ((digs (A * B)).length) c46]) (v := fun x_ => match x_ with | (A47, c48) => .slice A47 ((digs (2 * (A * B))).length) c48) (M' := fun x_ => match x_ with | (A47, c48) => Mem w [.row A47 ((digs (2 * (A * B))).length) c48 3 1 (iv .i64 (digs (2 * (A * B)))), .row A45 ((digs (A * B)).length) c46 3 1 (iv .i64 (digs (A * B))), .row A43 ((digs B).length) c44 3 1 (iv .i64 (digs B)), .row A41 ((digs A).length) c42 3 1 (iv .i64 (digs A)), .blk b40 [.slice none 0 0] 114, .row A14 ((digs 2).length) c15 3 1 (iv .i64 (digs 2)), .blk b13 [.slice A11 ((digs D).length) c12] 114, .row A11 ((digs D).length) c12 3 1 (iv .i64 (digs D)), .blk b7 [vP b1 0, vP b2 0, vP b3 0] 112, .blk b3 [vI (D : Int)] 3, .blk b2 [vI (B : Int)] 3, .blk b1 [vI (A : Int)] 3]) ⟨by kernel_rfl⟩ (fun w_ hM hS => (times_digs A14 c15 2 A45 c46 (A * B) w_ (hM.rints 4 rfl) (hM.rints 0 rfl) (by first | assumption | exact Nat.le_trans (digs_length (k := 5) (by omega)) (by decide)) (by first | assumption | exact Nat.le_trans (digs_length (k := 5) (by omega)) (by decide))).mono (by rintro e w' ⟨x_, rfl, h2⟩; exact ⟨x_, rfl, hM.join h2 rfl, hS.step h2.below⟩)) ?_
           rintro ⟨A47, c48⟩
           refine ops_conv (l' := [(56, .slice A47 ((digs (2 * (A * B))).length) c48), (55, .slice A45 ((digs (A * B)).length) c46), (11, vP b40 0), (50, .slice A14 ((digs 2).length) c15), (10, vP b13 0), (7, .bool g3)]) (M' := Mem w [.row A47 ((digs (2 * (A * B))).length) c48 3 1 (iv .i64 (digs (2 * (A * B)))), .row A45 ((digs (A * B)).length) c46 3 1 (iv .i64 (digs (A * B))), .row A43 ((digs B).length) c44 3 1 (iv .i64 (digs B)), .row A41 ((digs A).length) c42 3 1 (iv .i64 (digs A)), .blk b40 [.slice none 0 0] 114, .row A14 ((digs 2).length) c15 3 1 (iv .i64 (digs 2)), .blk b13 [.slice A11 ((digs D).length) c12] 114, .row A11 ((digs D).length) c12 3 1 (iv .i64 (digs D)), .blk b7 [vP b1 0, vP b2 0, vP b3 0] 112, .blk b3 [vI (D : Int)] 3, .blk b2 [vI (B : Int)] 3, .blk b1 [vI (A : Int)] 3]) rfl (fun _ h => h) ?_
           refine oR [] [(56, .slice A47 ((digs (2 * (A * B))).length) c48), (11, vP b40 0), (10, vP b13 0), (7, .bool g3)] [56, 11, 10, 7] (by kernel_rfl) ?_
           refine ops_store (an := []) (evs := [.store ⟨b40, 0, none⟩ (.slice A47 ((digs (2 * (A * B))).length) c48)]) (M' := Mem w [.row A47 ((digs (2 * (A * B))).length) c48 3 1 (iv .i64 (digs (2 * (A * B)))), .row A45 ((digs (A * B)).length) c46 3 1 (iv .i64 (digs (A * B))), .row A43 ((digs B).length) c44 3 1 (iv .i64 (digs B)), .row A41 ((digs A).length) c42 3 1 (iv .i64 (digs A)), .blk b40 [.slice A47 ((digs (2 * (A * B))).length) c48] 114, .row A14 ((digs 2).length) c15 3 1 (iv .i64 (digs 2)), .blk b13 [.slice A11 ((digs D).length) c12] 114, .row A11 ((digs D).length) c12 3 1 (iv .i64 (digs D)), .blk b7 [vP b1 0, vP b2 0, vP b3 0] 112, .blk b3 [vI (D : Int)] 3, .blk b2 [vI (B : Int)] 3, .blk b1 [vI (A : Int)] 3]) ⟨by kernel_rfl⟩ (fun w_ hM hS => let ⟨w', he, h'⟩ := hM.evs_stores [.slice A47 ((digs (2 * (A * B))).length) c48] 4 rfl 0 (Nat.le_of_ble_eq_true rfl); ⟨w', he, h', (by exact h'.sub (.cons _ (.cons _ (.cons _ (.cons _ (.cons _ (.cons _ (.cons_cons _ (.cons_cons _ (.cons_cons _ (.cons_cons _ (.cons_cons _ (.cons_cons _ .slnil)))))))))))))⟩) ?_
           refine oR [] [(11, vP b40 0), (10, vP b13 0), (7, .bool g3)] [11, 10, 7] (by kernel_rfl) ?_
           refine ops_nil ?_
           exact fin_cut (b40, A47, c48, A45, c46, A43, c44, A41, c42, A14, c15) (look_has ⟨rfl, rfl, rfl, trivial⟩) (fun w_ hM => hM.reorder [4, 0, 1, 2, 3, 5, 6, 7, 8, 9, 10, 11] (by decide) rfl)
         · --
          refine tree_leaf ?_
          refine ops_new (d := some 11) (o := .cells #[.slice none 0 0] 114) (v := fun b49 => vP b49 0) (M' := fun b49 => Mem w [.blk b49 [.slice none 0 0] 114, .blk b13 [.slice A11 ((digs D).length) c12] 114, .row A11 ((digs D).length) c12 3 1 (iv .i64 (digs D)), .blk b7 [vP b1 0, vP b2 0, vP b3 0] 112, .blk b3 [vI (D : Int)] 3, .blk b2 [vI (B : Int)] 3, .blk b1 [vI (A : Int)] 3]) (fun b49 => ⟨by kernel_rfl⟩) (fun w_ hM hS => ⟨hM.blk [.slice none 0 0] 114, hS.alloc _⟩) (fun b49 => ?_)
          refine oR [] [(11, vP b49 0), (53, vI (B : Int)), (51, vI (A : Int)), (10, vP b13 0), (7, .bool g3)] [11, 53, 51, 10, 7] (by kernel_rfl) ?_
          refine ops_call (σ := Option Addr × Nat) (d := some 50) (f := 87) (args := #[vI 2]) (v := fun x_ => match x_ with | (A50, c51) => .slice A50 ((digs 2).length) c51) (M' := fun x_ => match x_ with | (A50, c51) => Mem w [.row A50 ((digs 2).length) c51 3 1 (iv .i64 (digs 2)), .blk b49 [.slice none 0 0] 114, .blk b13 [.slice A11 ((digs D).length) c12] 114, .row A11 ((digs D).length) c12 3 1 (iv .i64 (digs D)), .blk b7 [vP b1 0, vP b2 0, vP b3 0] 112, .blk b3 [vI (D : Int)] 3, .blk b2 [vI (B : Int)] 3, .blk b1 [vI (A : Int)] 3]) ⟨by kernel_rfl⟩ (fun w_ hM hS => (natOf_calls 2 w_ (by omega)).mono (by rintro e w' ⟨x_, rfl, h2⟩; exact ⟨x_, rfl, hM.join h2 rfl, hS.step h2.below⟩)) ?_
          rintro ⟨A50, c51⟩
          refine ops_conv (l' := [(50, .slice A50 ((digs 2).length) c51), (11, vP b49 0), (53, vI (B : Int)), (51, vI (A : Int)), (10, vP b13 0), (7, .bool g3)]) (M' := Mem w [.row A50 ((digs 2).length) c51 3 1 (iv .i64 (digs 2)), .blk b49 [.slice none 0 0] 114, .blk b13 [.slice A11 ((digs D).length) c12] 114, .row A11 ((digs D).length) c12 3 1 (iv .i64 (digs D)), .blk b7 [vP b1 0, vP b2 0, vP b3 0] 112, .blk b3 [vI (D : Int)] 3, .blk b2 [vI (B : Int)] 3, .blk b1 [vI (A : Int)] 3]) rfl (fun _ h => h) ?_
          refine oR [] [(50, .slice A50 ((digs 2).length) c51), (11, vP b49 0), (53, vI (B : Int)), (51, vI (A : Int)), (10, vP b13 0), (7, .bool g3)] [50, 11, 53, 51, 10, 7] (by kernel_rfl) ?_
          refine ops_call (σ := Option Addr × Nat) (d := some 52) (f := 87) (args := #[vI (A : Int)]) (v := fun x_ => match x_ with | (A52, c53) => .slice A52 ((digs A).length) c53) (M' := fun x_ => match x_ with | (A52, c53) => Mem w [.row A52 ((digs A).length) c53 3 1 (iv .i64 (digs A)), .row A50 ((digs 2).length) c51 3 1 (iv .i64 (digs 2)), .blk b49 [.slice none 0 0] 114, .blk b13 [.slice A11 ((digs D).length) c12] 114, .row A11 ((digs D).length) c12 3 1 (iv .i64 (digs D)), .blk b7 [vP b1 0, vP b2 0, vP b3 0] 112, .blk b3 [vI (D : Int)] 3, .blk b2 [vI (B : Int)] 3, .blk b1 [vI (A : Int)] 3]) ⟨by kernel_rfl⟩ (fun w_ hM hS => (natOf_calls A w_ (by omega)).mono (by rintro e w' ⟨x_, rfl, h2⟩; exact ⟨x_, rfl, hM.join h2 rfl, hS.step h2.below⟩)) ?_
          rintro ⟨A52, c53⟩
          refine ops_conv (l' := [(52, .slice A52 ((digs A).length) c53), (50, .slice A50 ((digs 2).length) c51), (11, vP b49 0), (53, vI (B : Int)), (51, vI (A : Int)), (10, vP b13 0), (7, .bool g3)]) (M' := Mem w [.row A52 ((digs A).length) c53 3 1 (iv .i64 (digs A)), .row A50 ((digs 2).length) c51 3 1 (iv .i64 (digs 2)), .blk b49 [.slice none 0 0] 114, .blk b13 [.slice A11 ((digs D).length) c12] 114, .row A11 ((digs D).length) c12 3 1 (iv .i64 (digs D)), .blk b7 [vP b1 0, vP b2 0, vP b3 0] 112, .blk b3 [vI (D : Int)] 3, .blk b2 [vI (B : Int)] 3, .blk b1 [vI (A : Int)] 3]) rfl (fun _ h => h) ?_
          refine oR [] [(52, .slice A52 ((digs A).length) c53), (50, .slice A50 ((digs 2).length) c51), (11, vP b49 0), (53, vI (B : Int)), (10, vP b13 0), (7, .bool g3)] [52, 50, 11, 53, 10, 7] (by kernel_rfl) ?_
          refine ops_call (σ := Option Addr × Nat) (d := some 54) (f := 87) (args := #[vI (B : Int)]) (v := fun x_ => match x_ with | (A54, c55) => .slice A54 ((digs B).length) c55) (M' := fun x_ => match x_ with | (A54, c55) => Mem w [.row A54 ((digs B).length) c55 3 1 (iv .i64 (digs B)), .row A52 ((digs A).length) c53 3 1 (iv .i64 (digs A)), .row A50 ((digs 2).length) c51 3 1 (iv .i64 (digs 2)), .blk b49 [.slice none 0 0] 114, .blk b13 [.slice A11 ((digs D).length) c12] 114, .row A11 ((digs D).length) c12 3 1 (iv .i64 (digs D)), .blk b7 [vP b1 0, vP b2 0, vP b3 0] 112, .blk b3 [vI (D : Int)] 3, .blk b2 [vI (B : Int)] 3, .blk b1 [vI (A : Int)] 3]) ⟨by kernel_rfl⟩ (fun w_ hM hS => (natOf_calls B w_ (by omega)).mono (by rintro e w' ⟨x_, rfl, h2⟩; exact ⟨x_, rfl, hM.join h2 rfl, hS.step h2.below⟩)) ?_
          rintro ⟨A54, c55⟩
          refine ops_conv (l' := [(54, .slice A54 ((digs B).length) c55), (52, .slice A52 ((digs A).length) c53), (50, .slice A50 ((digs 2).length) c51), (11, vP b49 0), (53, vI (B : Int)), (10, vP b13 0), (7, .bool g3)]) (M' := Mem w [.row A54 ((digs B).length) c55 3 1 (iv .i64 (digs B)), .row A52 ((digs A).length) c53 3 1 (iv .i64 (digs A)), .row A50 ((digs 2).length) c51 3 1 (iv .i64 (digs 2)), .blk b49 [.slice none 0 0] 114, .blk b13 [.slice A11 ((digs D).length) c12] 114, .row A11 ((digs D).length) c12 3 1 (iv .i64 (digs D)), .blk b7 [vP b1 0, vP b2 0, vP b3 0] 112, .blk b3 [vI (D : Int)] 3, .blk b2 [vI (B : Int)] 3, .blk b1 [vI (A : Int)] 3]) rfl (fun _ h => h) ?_
          refine oR [] [(54, .slice A54 ((digs B).length) c55), (52, .slice A52 ((digs A).length) c53), (50, .slice A50 ((digs 2).length) c51), (11, vP b49 0), (10, vP b13 0), (7, .bool g3)] [54, 52, 50, 11, 10, 7] (by kernel_rfl) ?_
          refine ops_call (σ := Option Addr × Nat) (d := some 55) (f := 88) (args := #[.slice A52 ((digs A).length) c53, .slice A54 ((digs B).length) c55]) (v := fun x_ => match x_ with | (A56, c57) => .slice A56 ((digs (A * B)).length) c57) (M' := fun x_ => match x_ with | (A56, c57) => Mem w [.row A56 ((digs (A * B)).length) c57 3 1 (iv .i64 (digs (A * B))), .row A54 ((digs B).length) c55 3 1 (iv .i64 (digs B)), .row A52 ((digs A).length) c53 3 1 (iv .i64 (digs A)), .row A50 ((digs 2).length) c51 3 1 (iv .i64 (digs 2)), .blk b49 [.slice none 0 0] 114, .blk b13 [.slice A11 ((digs D).length) c12] 114, .row A11 ((digs D).length) c12 3 1 (iv .i64 (digs D)), .blk b7 [vP b1 0, vP b2 0, vP b3 0] 112, .blk b3 [vI (D : Int)] 3, .blk b2 [vI (B : Int)] 3, .blk b1 [vI (A : Int)] 3]) ⟨by kernel_rfl⟩ (fun w_ hM hS => (times_digs A52 c53 A A54 c55 B w_ (hM.rints 1 rfl) (hM.rints 0 rfl) (by first | assumption | exact Nat.le_trans (digs_length (k := 5) (by omega)) (by decide)) (by first | assumption | exact Nat.le_trans (digs_length (k := 5) (by omega)) (by decide))).mono (by rintro e w' ⟨x_, rfl, h2⟩; exact ⟨x_, rfl, hM.join h2 rfl, hS.step h2.below⟩)) ?_
          rintro ⟨A56, c57⟩
          refine ops_conv (l' := [(55, .slice A56 ((digs (A * B)).length) c57), (54, .slice A54 ((digs B).length) c55), (52, .slice A52 ((digs A).length) c53), (50, .slice A50 ((digs 2).length) c51), (11, vP b49 0), (10, vP b13 0), (7, .bool g3)]) (M' := Mem w [.row A56 ((digs (A * B)).length) c57 3 1 (iv .i64 (digs (A * B))), .row A54 ((digs B).length) c55 3 1 (iv .i64 (digs B)), .row A52 ((digs A).length) c53 3 1 (iv .i64 (digs A)), .row A50 ((digs 2).length) c51 3 1 (iv .i64 (digs 2)), .blk b49 [.slice none 0 0] 114, .blk b13 [.slice A11 ((digs D).length) c12] 114, .row A11 ((digs D).length) c12 3 1 (iv .i64 (digs D)), .blk b7 [vP b1 0, vP b2 0, vP b3 0] 112, .blk b3 [vI (D : Int)] 3, .blk b2 [vI (B : Int)] 3, .blk b1 [vI (A : Int)] 3]) rfl (fun _ h => h) ?_
          refine oR [] [(55, .slice A56 ((digs (A * B)).length) c57), (50, .slice A50 ((digs 2).length) c51), (11, vP b49 0), (10, vP b13 0), (7, .bool g3)] [55, 50, 11, 10, 7] (by kernel_rfl) ?_
          refine ops_call (σ := Option Addr × Nat) (d := some 56) (f := 88) (args := #[.slice A50 ((digs 2).length) c51, .slice A56 ((digs (A * B)).length) c57]) (v := fun x_ => match x_ with | (A58, c59) => .slice A58 ((digs (2 * (A * B))).length) c59) (M' := fun x_ => match x_ with | (A58, c59) => Mem w [.row A58 ((digs (2 * (A * B))).length) c59 3 1 (iv .i64 (digs (2 * (A * B)))), .row A56 ((digs (A * B)).length) c57 3 1 (iv .i64 (digs (A * B))), .row A54 ((digs B).length) c55 3 1 (iv .i64 (digs B)), .row A52 ((digs A).length) c53 3 1 (iv .i64 (digs A)), .row A50 ((digs 2).length) c51 3 1 (iv .i64 (digs 2)), .blk b49 [.slice none 0 0] 114, .blk b13 [.slice A11 ((digs D).length) c12] 114, .row A11 ((digs D).length) c12 3 1 (iv .i64 (digs D)), .blk b7 [vP b1 0, vP b2 0, vP b3 0] 112, .blk b3 [vI (D : Int)] 3, .blk b2 [vI (B : Int)] 3, .blk b1 [vI (A : Int)] 3]) ⟨by kernel_rfl⟩ (fun w_ hM hS => (times_digs A50 c51 2 A56 c57 (A * B) w_ (hM.rints 3 rfl) (hM.rints 0 rfl) (by first | assumption | exact Nat.le_trans (digs_length (k := 5) (by omega)) (by decide)) (by first | assumption | exact Nat.le_trans (digs_length (k := 5) (by omega)) (by decide))).mono (by rintro e w' ⟨x_, rfl, h2⟩; exact ⟨x_, rfl, hM.join h2 rfl, hS.step h2.below⟩)) ?_
          rintro ⟨A58, c59⟩
          refine ops_conv (l' := [(56, .slice A58 ((digs (2 * (A * B))).length) c59), (55, .slice A56 ((digs (A * B)).length) c57), (50, .slice A50 ((digs 2).length) c51), (11, vP b49 0), (10, vP b13 0), (7, .bool g3)]) (M' := Mem w [.row A58 ((digs (2 * (A * B))).length) c59 3 1 (iv .i64 (digs (2 * (A * B)))), .row A56 ((digs (A * B)).length) c57 3 1 (iv .i64 (digs (A * B))), .row A54 ((digs B).length) c55 3 1 (iv .i64 (digs B)), .row A52 ((digs A).length) c53 3 1 (iv .i64 (digs A)), .row A50 ((digs 2).length) c51 3 1 (iv .i64 (digs 2)), .blk b49 [.slice none 0 0] 114, .blk b13 [.slice A11 ((digs D).length) c12] 114, .row A11 ((digs D).length) c12 3 1 (iv .i64 (digs D)), .blk b7 [vP b1 0, vP b2 0, vP b3 0] 112, .blk b3 [vI (D : Int)] 3, .blk b2 [vI (B : Int)] 3, .blk b1 [vI (A : Int)] 3]) rfl (fun _ h => h) ?_
          refine oR [] [(56, .slice A58 ((digs (2 * (A * B))).length) c59), (11, vP b49 0), (10, vP b13 0), (7, .bool g3)] [56, 11, 10, 7] (by kernel_rfl) ?_
          refine ops_store (an := []) (evs := [.store ⟨b49, 0, none⟩ (.slice A58 ((digs (2 * (A * B))).length) c59)]) (M' := Mem w [.row A58 ((digs (2 * (A * B))).length) c59 3 1 (iv .i64 (digs (2 * (A * B)))), .row A56 ((digs (A * B)).length) c57 3 1 (iv .i64 (digs (A * B))), .row A54 ((digs B).length) c55 3 1 (iv .i64 (digs B)), .row A52 ((digs A).length) c53 3 1 (iv .i64 (digs A)), .row A50 ((digs 2).length) c51 3 1 (iv .i64 (digs 2)), .blk b49 [.slice A58 ((digs (2 * (A * B))).length) c59] 114, .blk b13 [.slice A11 ((digs D).length) c12] 114, .row A11 ((digs D).length) c12 3 1 (iv .i64 (digs D)), .blk b7 [vP b1 0, vP b2 0, vP b3 0] 112, .blk b3 [vI (D : Int)] 3, .blk b2 [vI (B : Int)] 3, .blk b1 [vI (A : Int)] 3]) ⟨by kernel_rfl⟩ (fun w_ hM hS => let ⟨w', he, h'⟩ := hM.evs_stores [.slice A58 ((digs (2 * (A * B))).length) c59] 5 rfl 0 (Nat.le_of_ble_eq_true rfl); ⟨w', he, h', (by exact h'.sub (.cons _ (.cons _ (.cons _ (.cons _ (.cons _ (.cons _ (.cons_cons _ (.cons_cons _ (.cons_cons _ (.cons_cons _ (.cons_cons _ (.cons_cons _ .slnil)))))))))))))⟩) ?_
          refine oR [] [(11, vP b49 0), (10, vP b13 0), (7, .bool g3)] [11, 10, 7] (by kernel_rfl) ?_
          refine ops_nil ?_
          exact fin_cut (b49, A58, c59, A56, c57, A54, c55, A52, c53, A50, c51) (look_has ⟨rfl, rfl, rfl, trivial⟩) (fun w_ hM => hM.reorder [5, 0, 1, 2, 3, 4, 6, 7, 8, 9, 10, 11] (by decide) rfl)
        · --
         rintro ⟨b24, A22, c23, A20, c21, A18, c19, A16, c17, A14, c15⟩
         refine st_seq ?_
         refine st_seq ?_
         refine st_region [oF 0, oF 1] (by rfl) ?_
         refine oR [oF 0, oF 1] [(58, .bool (!g3)), (11, vP b24 0), (10, vP b13 0)] [58, 11, 10] (by kernel_rfl) ?_
         refine ops_nil ?_
         refine fin_then ?_
         refine st_if (b := !g3) rfl (fun hc60 => ?_) (fun hc60 => ?_)
         · --
          have hv := hvp (by simpa using hc60)
          refine st_seq ?_
          refine st_region [oF 0, oF 1, oF 2] (by rfl) ?_
          refine oR [oF 0] [(59, .func (.func 90) #[] #[vP b13 0, vP b24 0])] [59] (by kernel_rfl) ?_
          refine oC (some 60) 89 #[vI 1099511627776, .func (.func 90) #[] #[vP b13 0, vP b24 0]] (vI (mostv 1099511627776 (fun n => decide ((2 * n.toNat - 1) * D ≤ 2 * (A * B))))) ⟨by kernel_rfl⟩ (fun w_ hM => most_Through1 1099511627776 (fun n => decide ((2 * n.toNat - 1) * D ≤ 2 * (A * B))) (vP b13 0) (vP b24 0) w_ (by omega) (by omega) (fun n w2 hn0 hn1 hb2 => by obtain ⟨m, rfl⟩ := Int.eq_ofNat_of_zero_le (Int.le_of_lt hn0); exact Through1_calls m D (2 * (A * B)) _ _ _ _ _ _ w2 (cell_below hb2 (hM.cell 6 rfl rfl)) (cell_below hb2 (hM.cell 0 rfl rfl)) ((hM.rints 7 rfl).below hb2) ((hM.rints 1 rfl).below hb2) (by omega) (by omega) hDM hL2)) ?_
          refine oR [] [(60, vI (mostv 1099511627776 (fun n => decide ((2 * n.toNat - 1) * D ≤ 2 * (A * B)))))] [60] (by kernel_rfl) ?_
          refine ops_conv (l' := [(60, vI (min Q1 1099511627776))]) (by rw [hm1]) (fun _ h => h) ?_
          refine oR [oF 2] [(6, vI (min Q1 1099511627776))] [6] (by kernel_rfl) ?_
          refine ops_nil ?_
          refine fin_then ?_
          refine st_ret ?_
          refine fin_ret_then ?_
          refine fin_ret [.tmp 6] [vI (min Q1 1099511627776)] rfl rfl (fun w_ hM => (.tmp rfl .nil)) (fun w_ hM => ?_)
          refine ⟨congrArg (fun z => Ending.returned (.int .i64 z)) ?_, hM.done⟩
          clear ha hb hc hA hB hD hgi hg1 hg2 hg3 hvn hvp hp hq hr hAM hBM
          omega
         · --
          have hv := hvn (by simpa using hc60)
          refine st_skip ?_
          refine fin_then ?_
          refine st_seq ?_
          refine st_region [oF 0, oF 1, oF 2] (by rfl) ?_
          refine oR [oF 0] [(61, .func (.func 92) #[] #[vP b24 0, vP b13 0])] [61] (by kernel_rfl) ?_
          refine oC (some 62) 89 #[vI 1099511627776, .func (.func 92) #[] #[vP b24 0, vP b13 0]] (vI (mostv 1099511627776 (fun n => !decide (2 * (A * B) ≤ (2 * n.toNat - 1) * D)))) ⟨by kernel_rfl⟩ (fun w_ hM => most_Through2 1099511627776 (fun n => !decide (2 * (A * B) ≤ (2 * n.toNat - 1) * D)) (vP b24 0) (vP b13 0) w_ (by omega) (by omega) (fun n w2 hn0 hn1 hb2 => by obtain ⟨m, rfl⟩ := Int.eq_ofNat_of_zero_le (Int.le_of_lt hn0); exact Through2_calls m D (2 * (A * B)) _ _ _ _ _ _ w2 (cell_below hb2 (hM.cell 0 rfl rfl)) (cell_below hb2 (hM.cell 6 rfl rfl)) ((hM.rints 7 rfl).below hb2) ((hM.rints 1 rfl).below hb2) (by omega) (by omega) hDM hL2)) ?_
          refine oR [] [(62, vI (mostv 1099511627776 (fun n => !decide (2 * (A * B) ≤ (2 * n.toNat - 1) * D))))] [62] (by kernel_rfl) ?_
          refine ops_conv (l' := [(62, vI (min Q2 1099511627776))]) (by rw [hm2]) (fun _ h => h) ?_
          refine oR [oF 2] [(12, vI (min Q2 1099511627776))] [12] (by kernel_rfl) ?_
          refine ops_nil ?_
          refine fin_then ?_
          refine st_seq ?_
          refine st_region [oF 0, oF 1, oF 2] (by rfl) ?_
          refine oR [oF 0, oF 1] [(64, vI (IntKind.i64.wrap (0 - min Q2 1099511627776)))] [64] (by kernel_rfl) ?_
          refine ops_conv (l' := [(64, vI (0 - (min Q2 1099511627776)))]) (by rw [hwm]) (fun _ h => h) ?_
          refine oR [oF 2] [(6, vI (0 - (min Q2 1099511627776)))] [6] (by kernel_rfl) ?_
          refine ops_nil ?_
          refine fin_then ?_
          refine st_ret ?_
          refine fin_ret [.tmp 6] [vI (0 - (min Q2 1099511627776))] rfl rfl (fun w_ hM => (.tmp rfl .nil)) (fun w_ hM => ?_)
          refine ⟨congrArg (fun z => Ending.returned (.int .i64 z)) ?_, hM.done⟩
          clear ha hb hc hA hB hD hgi hg1 hg2 hg3 hvn hvp hp hq hr hAM hBM
          omega
theorem thru_zero {a b c : Int} (h : clV a = 0 ∨ clV b = 0 ∨ clV c = 0) : thruV a b c = 0 := by
  by_cases hc : clV c = 0
  · exact if_pos hc
  · have h0 : (clV a).natAbs * (clV b).natAbs = 0 := by rcases h with h | h | h <;> simp_all
    have hD : 0 < (clV c).natAbs := by omega
    have e1 : (2 * 0 + (clV c).natAbs - 1) / (2 * (clV c).natAbs) = 0 := Nat.div_eq_of_lt (by omega)
    have e2 : (2 * 0 + (clV c).natAbs) / (2 * (clV c).natAbs) = 0 := Nat.div_eq_of_lt (by omega)
    unfold thruV thru0
    rw [if_neg hc, h0, e1, e2]
    split <;> rfl
theorem Through_calls (a b c : Int) (w : World) : Calls Try.prog 17 #[.int .i64 a, .int .i64 b, .int .i64 c] w fun e w' => e = .returned (.int .i64 (thruV a b c)) ∧ Below w.heap.size w w' := by
  exact Through0 a b c _ _ _ _ _ _ _ _ _ _ _ _ _ _ _ w (fun _ _ hc => thru_ok hc) (fun h => thru_zero h) rfl rfl rfl rfl rfl rfl
end Go.Proofs.Ytioijglogoppnaa.WThru3
