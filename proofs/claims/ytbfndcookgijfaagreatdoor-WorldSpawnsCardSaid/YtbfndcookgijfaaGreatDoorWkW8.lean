/- The Go functions come to what the plain functions tell. No condition. -/
import Derived.Test.YtbfndcookgijfaaGreatDoorProg
import Derived.Test.YtbfndcookgijfaaGreatDoorFnW
import Derived.Test.YtbfndcookgijfaaGreatDoorWkW5
import Derived.Test.YtbfndcookgijfaaGreatDoorWkW7
import Derived.Test.YtbfndcookgijfaaGreatDoorExMap
namespace Go.Proofs.YtbfndcookgijfaaGreatDoor.W
open Go Go.RowKit Go.Proofs.YtbfndcookgijfaaGreatDoor.Sx
set_option linter.unusedVariables false
set_option maxHeartbeats 4000000
set_option maxRecDepth 100000
theorem tourref3_KindError_ok (w0 w : World) (cs : List Chunk) (F : Nat → Prop) (W : World) (k_0 : ByteArray) (A_k_1 : Option Addr) (c_k_1 : Nat) (k_1 : List api_Field) (hM0 : Mem w0 (Fz F W :: cs) w) (h_k_1 : RdS R_api_Field F W A_k_1 c_k_1 k_1) (i9001 : Int) (hp : tourref3_KindError k_0 k_1 = some i9001) : Calls Tryz.prog 46 #[.agg #[.string k_0, sl A_k_1 k_1 c_k_1]] w fun e w' => (True) ∧ e = .returned (vI i9001) ∧ Mem w0 (Fz F W :: cs) w' := by
 unfold tourref3_KindError at hp
 refine sx_calls Tryz.func46 rfl (n := 34) (by kernel_rfl) (l := [(0, .agg #[.string k_0, sl A_k_1 k_1 c_k_1])]) rfl (by rfl) hM0 ?_
 refine st_seq (st_region [oF 0, oF 1] (by rfl) ?_)
 refine ops_newB (d := some 1) [.string k_0, sl A_k_1 k_1 c_k_1] 86 (fun b1 => ⟨by kernel_rfl⟩) (fun w_ hM hS => trivial) (fun b1 => ?_)
 refine oQ [oF 1] [(1, vP b1 0)] (by kernel_rfl) ?_
 refine ops_nil (fin_then (st_seq (st_seq (st_region [oF 0, oF 1, oF 2, oF 3] (by rfl) ?_))))
 refine oQ [oF 0] [(6, vP b1 0), (1, vP b1 0)] (by kernel_rfl) ?_
 refine ops_mem (d := some 7) (an := [.v (.string k_0)]) (evs := [ld b1 0 (.string k_0)]) (v := .string k_0) ⟨by kernel_rfl⟩ (fun w_ hM hS => ⟨w_, ⟨hM.cell 0 rfl rfl, rfl⟩, hM, trivial⟩) ?_
 obtain ⟨x2, hv3, hp⟩ := obind hp
 refine ops_callI (σ := Unit) (d := some 8) (f := 72) (args := #[.string k_0]) (v := (fun _ => .bool x2)) (I := (fun _ => True)) (M' := (fun _ => Mem w0 (.blk b1 [.string k_0, sl A_k_1 k_1 c_k_1] 86 :: Fz F W :: cs))) ⟨by kernel_rfl⟩ (fun w_ hM hS => (tourref3_IsName_ok w0 w_ (.blk b1 [.string k_0, sl A_k_1 k_1 c_k_1] 86 :: cs) F W k_0 (hM.pick 2 [1, 0] (by kernel_rfl) (by decide) rfl)  x2 hv3).mono (by rintro e w' ⟨-, rfl, h'⟩; have h' : Mem w0 (.blk b1 [.string k_0, sl A_k_1 k_1 c_k_1] 86 :: Fz F W :: cs) w' := (h'.pick 2 [1, 0] (by kernel_rfl) (by decide) rfl); exact ⟨(), trivial, rfl, h', trivial⟩)) ?_
 rintro _ -
 refine oQ [oF 3] [(9, .bool (!x2)), (1, vP b1 0)] (by kernel_rfl) ?_
 refine ops_nil (fin_then ?_)
 refine st_if (b := !x2) rfl (fun hc4 => ?_) (fun hc4 => ?_)
 ·
  have hp := cnd_t hc4 hp
  refine st_seq (st_region [oF 0] (by rfl) ?_)
  refine oQ [oF 0] [(2, vI 3)] (by kernel_rfl) ?_
  refine ops_nil (fin_then (st_ret (fin_ret_then ?_)))
  have hq_ := Option.some.inj hp
  have hr0_ := hq_
  subst hr0_
  refine fin_ret [.tmp 2] [vI 3] rfl rfl (fun w_ hM => (.tmp rfl .nil)) (fun w_ hM => ?_)
  exact ⟨trivial, rfl, hM.pick 2 [1] (by kernel_rfl) (by decide) rfl⟩
 ·
  have hp := cnd_f hc4 hp
  refine st_skip (fin_then (st_seq (st_seq (st_region [oF 0, oF 1, oF 2, oF 3] (by rfl) ?_))))
  refine oQ [oF 0] [(10, vP b1 1), (1, vP b1 0)] (by kernel_rfl) ?_
  refine ops_mem (d := some 11) (an := [.v (sl A_k_1 k_1 c_k_1)]) (evs := [ld b1 1 (sl A_k_1 k_1 c_k_1)]) (v := sl A_k_1 k_1 c_k_1) ⟨by kernel_rfl⟩ (fun w_ hM hS => ⟨w_, ⟨hM.cell 0 rfl rfl, rfl⟩, hM, trivial⟩) ?_
  refine oQ [oF 2, oF 3] [(13, .bool (decide (8 < (k_1.length : Int)))), (1, vP b1 0)] (by kernel_rfl) ?_
  refine ops_nil (fin_then ?_)
  refine st_if (b := decide (8 < (k_1.length : Int))) rfl (fun hc5 => ?_) (fun hc5 => ?_)
  ·
   have hp := cnd_t hc5 hp
   refine st_seq (st_region [oF 0] (by rfl) ?_)
   refine oQ [oF 0] [(2, vI 2)] (by kernel_rfl) ?_
   refine ops_nil (fin_then (st_ret (fin_ret_then ?_)))
   have hq_ := Option.some.inj hp
   have hr0_ := hq_
   subst hr0_
   refine fin_ret [.tmp 2] [vI 2] rfl rfl (fun w_ hM => (.tmp rfl .nil)) (fun w_ hM => ?_)
   exact ⟨trivial, rfl, hM.pick 2 [1] (by kernel_rfl) (by decide) rfl⟩
  ·
   have hp := cnd_f hc5 hp
   refine st_skip (fin_then (st_seq (st_region [oF 0] (by rfl) ?_)))
   refine oQ [oF 0] [(3, .slice none 0 0), (1, vP b1 0)] (by kernel_rfl) ?_
   refine ops_nil (fin_then ?_)
   refine st_join1 (σ := Unit) (L := fun _ => []) (N := fun _ => Mem w0 (Fz F W :: cs)) (I := fun _ => (tourref3_KindError_j1 = some i9001)) ?_ ?_
   ·
    rintro _ hp
    unfold tourref3_KindError_j1 at hp
    refine st_seq (st_region [oF 0] (by rfl) ?_)
    refine oQ [oF 0] [(2, vI 0)] (by kernel_rfl) ?_
    refine ops_nil (fin_then (st_ret ?_))
    have hq_ := Option.some.inj hp
    have hr0_ := hq_
    subst hr0_
    refine fin_ret [.tmp 2] [vI 0] rfl rfl (fun w_ hM => (.tmp rfl .nil)) (fun w_ hM => ?_)
    exact ⟨trivial, rfl, hM⟩
   ·
    intro HJ1
    refine st_seq (st_seq (st_region [oF 0, oF 1, oF 2, oF 3] (by rfl) ?_))
    refine oQ [oF 0] [(14, vP b1 1), (3, .slice none 0 0)] (by kernel_rfl) ?_
    refine ops_mem (d := some 15) (an := [.v (sl A_k_1 k_1 c_k_1)]) (evs := [ld b1 1 (sl A_k_1 k_1 c_k_1)]) (v := sl A_k_1 k_1 c_k_1) ⟨by kernel_rfl⟩ (fun w_ hM hS => ⟨w_, ⟨hM.cell 0 rfl rfl, rfl⟩, hM, trivial⟩) ?_
    refine oQ [oF 2, oF 3] [(17, vI 0), (16, vI (k_1.length : Int)), (15, sl A_k_1 k_1 c_k_1), (3, .slice none 0 0)] (by kernel_rfl) ?_
    refine ops_nil (fin_then (st_block ?_))
    refine st_conv (l' := [(17, vI 0), (16, vI (k_1.length : Int)), (15, sl A_k_1 k_1 c_k_1), (3, .slice none 0 0)]) (M' := Mem w0 (ow none ([] : List ByteArray) 0 9 1 [] :: .blk b1 [.string k_0, sl A_k_1 k_1 c_k_1] 86 :: Fz F W :: cs)) rfl (fun w_ h => h.onil none 9 1) ?_
    obtain ⟨r2, hl2, hk2⟩ := obind hp
    refine st_loopP (σ := (List ByteArray) × Int) (ρ := (Int ⊕ Unit)) (γ := (Option Addr) × Nat × (List Value)) hl2 (none, 0, []) (fun s_ g_ => match s_, g_ with | (l8, i11), (A6, c7, y9) => [(3, sl A6 l8 c7), (15, sl A_k_1 k_1 c_k_1), (16, vI (k_1.length : Int)), (17, vI i11)]) (fun s_ g_ => match s_, g_ with | (l8, i11), (A6, c7, y9) => Mem w0 (ow A6 l8 c7 9 1 y9 :: Fz F W :: cs)) (fun s_ g_ => match s_, g_ with | (l8, i11), (A6, c7, y9) => (RepL Rep.str F W l8 y9)) (RepL.nil (R := Rep.str)) (look_has ⟨rfl, rfl, rfl, rfl, trivial⟩) (fun w_ hM => hM.pick 3 [0, 2] (by kernel_rfl) (by decide) rfl) ?_
    rintro ⟨l8, i11⟩ ⟨A6, c7, y9⟩ o2 h10 hs_ hd2
    have hp : (tourref3_KindError_l2 k_1) l8 i11 = some o2 := hs_
    clear hs_
    unfold tourref3_KindError_l2 at hp
    refine st_seq (st_region [oF 0] (by rfl) ?_)
    refine oQ [oF 0] [(18, .bool (decide (i11 < (k_1.length : Int)))), (3, sl A6 l8 c7), (15, sl A_k_1 k_1 c_k_1), (16, vI (k_1.length : Int)), (17, vI i11)] (by kernel_rfl) ?_
    refine ops_nil (fin_then (st_seq ?_))
    refine st_if (b := decide (i11 < (k_1.length : Int))) rfl (fun hc12 => ?_) (fun hc12 => ?_)
    ·
     have hp := cnd_t hc12 hp
     refine st_skip (fin_then (st_seq (st_block (st_seq (st_region [oF 0, oF 1, oF 2, oF 3] (by rfl) ?_)))))
     obtain ⟨x13, hv14, hp⟩ := obind hp
     obtain ⟨m15, hm16, hx17⟩ := idx_some hv14
     have hl20 := (List.getElem?_eq_some_iff.1 hx17).1
     obtain ⟨ad21, vs18, hA22, hr19, hq23⟩ := RdS.el h_k_1 hx17
     obtain rfl := dec_api_Field hr19
     refine ops_val (op := (.indexAddr 84 (.tmp 15) (.tmp 17))) (d := some 19) (v := .pointer (some (ad21.add (m15 * 3)))) ⟨by kernel_rfl⟩ (run_indexA hA22 Tryz.underlying84 (z := 3) (by kernel_rfl) rfl rfl hm16 hl20) ?_
     refine ops_mem (d := some 20) (an := [.v (.string x13.Name), .v (vI x13.Bits), .v (vI x13.Low)]) (evs := [.load (ad21.add (m15 * 3)) (.string x13.Name), .load ((ad21.add (m15 * 3)).add 1) (vI x13.Bits), .load ((ad21.add (m15 * 3)).add 2) (vI x13.Low)]) (v := .agg #[.string x13.Name, vI x13.Bits, vI x13.Low]) ⟨by kernel_rfl⟩ (fun w_ hM hS => ⟨w_, ⟨hM.elcell 1 rfl hq23 0 rfl, hM.elcell 1 rfl hq23 1 rfl, hM.elcell 1 rfl hq23 2 rfl, rfl⟩, hM, trivial⟩) ?_
     refine ops_newB (d := some 5) [.string ByteArray.empty, vI 0, vI 0] 99 (fun b24 => ⟨by kernel_rfl⟩) (fun w_ hM hS => trivial) (fun b24 => ?_)
     refine ops_store (an := []) (evs := [sr b24 0 (.string x13.Name), sr b24 1 (vI x13.Bits), sr b24 2 (vI x13.Low)]) ⟨by kernel_rfl⟩ (fun w_ hM hS => let ⟨w', he, h'⟩ := hM.evs_stores [.string x13.Name, vI x13.Bits, vI x13.Low] 0 rfl 0 (Nat.le_of_ble_eq_true rfl); ⟨w', he, h', trivial⟩) ?_
     refine ops_nil (fin_then (st_seq (st_seq (st_region [oF 0, oF 1, oF 2] (by rfl) ?_))))
     refine ops_mem (d := some 21) (an := [.v (.string x13.Name), .v (vI x13.Bits), .v (vI x13.Low)]) (evs := [ld b24 0 (.string x13.Name), ld b24 1 (vI x13.Bits), ld b24 2 (vI x13.Low)]) (v := .agg #[.string x13.Name, vI x13.Bits, vI x13.Low]) ⟨by kernel_rfl⟩ (fun w_ hM hS => ⟨w_, ⟨hM.cell 0 rfl rfl, hM.cell 0 rfl rfl, hM.cell 0 rfl rfl, rfl⟩, hM, trivial⟩) ?_
     obtain ⟨x25, hv26, hp⟩ := obind hp
     refine ops_callI (σ := Unit) (d := some 22) (f := 73) (args := #[.agg #[.string x13.Name, vI x13.Bits, vI x13.Low]]) (v := (fun _ => .bool x25)) (I := (fun _ => True)) (M' := (fun _ => Mem w0 (.blk b24 [.string x13.Name, vI x13.Bits, vI x13.Low] 99 :: ow A6 l8 c7 9 1 y9 :: Fz F W :: cs))) ⟨by kernel_rfl⟩ (fun w_ hM hS => (tourref3_FieldOK_ok w0 w_ (.blk b24 [.string x13.Name, vI x13.Bits, vI x13.Low] 99 :: ow A6 l8 c7 9 1 y9 :: cs) F W x13.Name x13.Bits x13.Low (hM.pick 3 [2, 0, 1] (by kernel_rfl) (by decide) rfl)  x25 hv26).mono (by rintro e w' ⟨-, rfl, h'⟩; have h' : Mem w0 (.blk b24 [.string x13.Name, vI x13.Bits, vI x13.Low] 99 :: ow A6 l8 c7 9 1 y9 :: Fz F W :: cs) w' := (h'.pick 3 [1, 2, 0] (by kernel_rfl) (by decide) rfl); exact ⟨(), trivial, rfl, h', trivial⟩)) ?_
     rintro _ -
     refine oQ [oF 2] [(23, .bool (!x25)), (5, vP b24 0), (3, sl A6 l8 c7), (15, sl A_k_1 k_1 c_k_1), (16, vI (k_1.length : Int)), (17, vI i11)] (by kernel_rfl) ?_
     refine ops_nil (fin_then ?_)
     refine st_if (b := !x25) rfl (fun hc27 => ?_) (fun hc27 => ?_)
     ·
      have hp := cnd_t hc27 hp
      refine st_seq (st_region [oF 0] (by rfl) ?_)
      refine oQ [oF 0] [(2, vI 3)] (by kernel_rfl) ?_
      refine ops_nil (fin_then (st_ret (fin_ret_then (fin_ret_block (fin_ret_then (fin_ret_then (fin_ret_block (fin_ret_then ?_))))))))
      obtain hq_ := Option.some.inj hp
      subst hq_
      obtain hq_ := hd2 _ rfl
      subst hq_
      have hp : some 3 = some i9001 := hk2
      have hq_ := Option.some.inj hp
      have hr0_ := hq_
      subst hr0_
      refine fin_ret [.tmp 2] [vI 3] rfl rfl (fun w_ hM => (.tmp rfl .nil)) (fun w_ hM => ?_)
      exact ⟨trivial, rfl, hM.pick 3 [2] (by kernel_rfl) (by decide) rfl⟩
     ·
      have hp := cnd_f hc27 hp
      refine st_skip (fin_then (st_seq (st_seq (st_region [oF 0, oF 1, oF 2, oF 3] (by rfl) ?_))))
      refine oQ [oF 0, oF 1] [(25, vP b24 0), (24, sl A6 l8 c7), (5, vP b24 0), (3, sl A6 l8 c7), (15, sl A_k_1 k_1 c_k_1), (16, vI (k_1.length : Int)), (17, vI i11)] (by kernel_rfl) ?_
      refine ops_mem (d := some 26) (an := [.v (.string x13.Name)]) (evs := [ld b24 0 (.string x13.Name)]) (v := .string x13.Name) ⟨by kernel_rfl⟩ (fun w_ hM hS => ⟨w_, ⟨hM.cell 0 rfl rfl, rfl⟩, hM, trivial⟩) ?_
      obtain ⟨x28, hv29, hp⟩ := obind hp
      refine ops_callI (σ := Unit) (d := some 27) (f := 47) (args := #[sl A6 l8 c7, .string x13.Name]) (v := (fun _ => .bool x28)) (I := (fun _ => True)) (M' := (fun _ => Mem w0 (.blk b24 [.string x13.Name, vI x13.Bits, vI x13.Low] 99 :: ow A6 l8 c7 9 1 y9 :: Fz F W :: cs))) ⟨by kernel_rfl⟩ (fun w_ hM hS => (tourref3_twice_ok w_ w_ [] (fun b => b < w_.heap.size) w_ A6 c7 l8 x13.Name (Mem.fz0 w_) (hM.ordS 1 2 rfl rfl h10 rfl rfl) x28 hv29).mono (by rintro e w' ⟨-, rfl, h'⟩; have h' : Mem w_ [] w' := h'.pick 1 [] (by kernel_rfl) (by decide) rfl; exact ⟨(), trivial, rfl, hM.join h' rfl, trivial⟩)) ?_
      rintro _ -
      refine ops_nil (fin_then ?_)
      refine st_if (b := x28) rfl (fun hc30 => ?_) (fun hc30 => ?_)
      ·
       have hp := cnd_t hc30 hp
       refine st_seq (st_region [oF 0] (by rfl) ?_)
       refine oQ [oF 0] [(2, vI 5)] (by kernel_rfl) ?_
       refine ops_nil (fin_then (st_ret (fin_ret_then (fin_ret_block (fin_ret_then (fin_ret_then (fin_ret_block (fin_ret_then ?_))))))))
       obtain hq_ := Option.some.inj hp
       subst hq_
       obtain hq_ := hd2 _ rfl
       subst hq_
       have hp : some 5 = some i9001 := hk2
       have hq_ := Option.some.inj hp
       have hr0_ := hq_
       subst hr0_
       refine fin_ret [.tmp 2] [vI 5] rfl rfl (fun w_ hM => (.tmp rfl .nil)) (fun w_ hM => ?_)
       exact ⟨trivial, rfl, hM.pick 3 [2] (by kernel_rfl) (by decide) rfl⟩
      ·
       have hp := cnd_f hc30 hp
       refine st_skip (fin_then (st_region [oF 0, oF 1, oF 2, oF 3, oF 4, oF 5] (by rfl) ?_))
       refine oQ [oF 0, oF 1] [(29, vP b24 0), (28, sl A6 l8 c7), (3, sl A6 l8 c7), (15, sl A_k_1 k_1 c_k_1), (16, vI (k_1.length : Int)), (17, vI i11)] (by kernel_rfl) ?_
       refine ops_mem (d := some 30) (an := [.v (.string x13.Name)]) (evs := [ld b24 0 (.string x13.Name)]) (v := .string x13.Name) ⟨by kernel_rfl⟩ (fun w_ hM hS => ⟨w_, ⟨hM.cell 0 rfl rfl, rfl⟩, hM, trivial⟩) ?_
       have h31 : RepL Rep.str F W ([x13.Name] : List ByteArray) ([.string x13.Name]) := (RepL.cons (R := Rep.str) (F := F) (w := W) (vs := [.string x13.Name]) (ys := []) rfl RepL.nil)
       refine ops_new (d := some 31) (o := .cells ([.string x13.Name] : List Value).toArray 9) (v := fun g32 => .slice (sa g32) ([x13.Name] : List ByteArray).length 1) (M' := fun g32 => Mem w0 (orow (sa g32) ([x13.Name] : List ByteArray).length 1 9 1 ([.string x13.Name]) :: .blk b24 [.string x13.Name, vI x13.Bits, vI x13.Low] 99 :: ow A6 l8 c7 9 1 y9 :: Fz F W :: cs)) (fun g32 => ⟨by kernel_rfl⟩) (fun w_ hM hS => ⟨hM.onew [.string x13.Name] 9 1 1 rfl (by decide), trivial⟩) (fun g32 => ?_)
       obtain ⟨l33, hv34, hp⟩ := obind hp
       obtain ⟨he35, hb36⟩ := app_some hv34
       obtain ⟨y37, hy38⟩ : ∃ y_, y9 ++ ([.string x13.Name]) = y_ := ⟨_, rfl⟩
       have h39 : RepL Rep.str F W l33 y37 := by rw [he35, ← hy38]; exact RepL.app h10 h31
       refine ops_appendO (x := (Go.Operand.tmp 28)) (y := (Go.Operand.tmp 31)) (t := 89) (e := 9) (d := some 32) (n' := l33.length) (z := 1) (m := ([x13.Name] : List ByteArray).length) (bytes := 16) (xs' := y37) (news := ([.string x13.Name])) (zv := .string ByteArray.empty) 2 ⟨by kernel_rfl⟩ rfl rfl Tryz.underlying89 (by kernel_rfl) (by rfl) rfl (fun w_ hM => hM.srcO 0 rfl) h31.len h31.one hb36 (by have z_ := congrArg List.length he35; rw [List.length_append] at z_; exact z_.symm) hy38 (fun _ _ _ _ hS h' => trivial) ?_
       rintro ⟨A40, c41⟩
       refine oQ [oF 5] [(3, sl A40 l33 c41), (15, sl A_k_1 k_1 c_k_1), (16, vI (k_1.length : Int)), (17, vI i11)] (by kernel_rfl) ?_
       refine ops_nil (fin_block (fin_then (st_region [oF 0, oF 1] (by rfl) ?_)))
       refine oQ [oF 0, oF 1] [(17, vI (IntKind.i64.wrap (i11 + 1))), (3, sl A40 l33 c41), (15, sl A_k_1 k_1 c_k_1), (16, vI (k_1.length : Int))] (by kernel_rfl) ?_
       refine ops_nil ?_
       exact fin_again (l33, IntKind.i64.wrap (i11 + 1)) (A40, c41, y37) (Option.some.inj hp).symm h39 (look_has ⟨rfl, rfl, rfl, rfl, trivial⟩) (fun w_ hM => hM.pick 4 [2, 3] (by kernel_rfl) (by decide) rfl)
    ·
     have hp := cnd_f hc12 hp
     refine st_exit (fin_exit_then (fin_exit_then (fin_exit ?_)))
     obtain hq_ := Option.some.inj hp
     subst hq_
     obtain hq_ := hd2 _ rfl
     subst hq_
     have hp : tourref3_KindError_j1 = some i9001 := hk2
     exact fin_join HJ1 () hp (look_has trivial) (fun w_ hM => hM.pick 2 [1] (by kernel_rfl) (by decide) rfl)
theorem tourref3_KindsError_ok (w0 w : World) (cs : List Chunk) (F : Nat → Prop) (W : World) (A_l : Option Addr) (c_l : Nat) (l : List api_Kind) (hM0 : Mem w0 (Fz F W :: cs) w) (h_l : RdS R_api_Kind F W A_l c_l l) (i9001 : Int) (hp : tourref3_KindsError l = some i9001) : Calls Tryz.prog 8 #[sl A_l l c_l] w fun e w' => (True) ∧ e = .returned (vI i9001) ∧ Mem w0 (Fz F W :: cs) w' := by
 unfold tourref3_KindsError at hp
 refine sx_calls Tryz.func8 rfl (n := 31) (by kernel_rfl) (l := [(0, sl A_l l c_l)]) rfl (by rfl) hM0 ?_
 refine st_seq (st_region [oF 0] (by rfl) ?_)
 refine oQ [oF 0] [(0, sl A_l l c_l)] (by kernel_rfl) ?_
 refine ops_nil (fin_then (st_seq (st_seq (st_region [oF 0, oF 1, oF 2] (by rfl) ?_))))
 refine oQ [oF 0, oF 1, oF 2] [(9, .bool (decide (16 < (l.length : Int)))), (0, sl A_l l c_l)] (by kernel_rfl) ?_
 refine ops_nil (fin_then ?_)
 refine st_if (b := decide (16 < (l.length : Int))) rfl (fun hc1 => ?_) (fun hc1 => ?_)
 ·
  have hp := cnd_t hc1 hp
  refine st_seq (st_region [oF 0] (by rfl) ?_)
  refine oQ [oF 0] [(2, vI 2)] (by kernel_rfl) ?_
  refine ops_nil (fin_then (st_ret (fin_ret_then ?_)))
  have hq_ := Option.some.inj hp
  have hr0_ := hq_
  subst hr0_
  refine fin_ret [.tmp 2] [vI 2] rfl rfl (fun w_ hM => (.tmp rfl .nil)) (fun w_ hM => ?_)
  exact ⟨trivial, rfl, hM⟩
 ·
  have hp := cnd_f hc1 hp
  refine st_skip (fin_then (st_seq (st_region [oF 0] (by rfl) ?_)))
  refine oQ [oF 0] [(3, .slice none 0 0), (0, sl A_l l c_l)] (by kernel_rfl) ?_
  refine ops_nil (fin_then ?_)
  refine st_join1 (σ := Unit) (L := fun _ => []) (N := fun _ => Mem w0 (Fz F W :: cs)) (I := fun _ => (tourref3_KindsError_j1 = some i9001)) ?_ ?_
  ·
   rintro _ hp
   unfold tourref3_KindsError_j1 at hp
   refine st_seq (st_region [oF 0] (by rfl) ?_)
   refine oQ [oF 0] [(2, vI 0)] (by kernel_rfl) ?_
   refine ops_nil (fin_then (st_ret ?_))
   have hq_ := Option.some.inj hp
   have hr0_ := hq_
   subst hr0_
   refine fin_ret [.tmp 2] [vI 0] rfl rfl (fun w_ hM => (.tmp rfl .nil)) (fun w_ hM => ?_)
   exact ⟨trivial, rfl, hM⟩
  ·
   intro HJ1
   refine st_seq (st_seq (st_region [oF 0, oF 1, oF 2] (by rfl) ?_))
   refine oQ [oF 0, oF 1, oF 2] [(12, vI 0), (11, vI (l.length : Int)), (10, sl A_l l c_l), (3, .slice none 0 0)] (by kernel_rfl) ?_
   refine ops_nil (fin_then (st_block ?_))
   refine st_conv (l' := [(12, vI 0), (11, vI (l.length : Int)), (10, sl A_l l c_l), (3, .slice none 0 0)]) (M' := Mem w0 (ow none ([] : List ByteArray) 0 9 1 [] :: Fz F W :: cs)) rfl (fun w_ h => h.onil none 9 1) ?_
   obtain ⟨r2, hl2, hk2⟩ := obind hp
   refine st_loopP (σ := (List ByteArray) × Int) (ρ := (Int ⊕ Unit)) (γ := (Option Addr) × Nat × (List Value)) hl2 (none, 0, []) (fun s_ g_ => match s_, g_ with | (l4, i7), (A2, c3, y5) => [(3, sl A2 l4 c3), (10, sl A_l l c_l), (11, vI (l.length : Int)), (12, vI i7)]) (fun s_ g_ => match s_, g_ with | (l4, i7), (A2, c3, y5) => Mem w0 (ow A2 l4 c3 9 1 y5 :: Fz F W :: cs)) (fun s_ g_ => match s_, g_ with | (l4, i7), (A2, c3, y5) => (RepL Rep.str F W l4 y5)) (RepL.nil (R := Rep.str)) (look_has ⟨rfl, rfl, rfl, rfl, trivial⟩) (fun w_ hM => hM) ?_
   rintro ⟨l4, i7⟩ ⟨A2, c3, y5⟩ o2 h6 hs_ hd2
   have hp : (tourref3_KindsError_l2 l) l4 i7 = some o2 := hs_
   clear hs_
   unfold tourref3_KindsError_l2 at hp
   refine st_seq (st_region [oF 0] (by rfl) ?_)
   refine oQ [oF 0] [(13, .bool (decide (i7 < (l.length : Int)))), (3, sl A2 l4 c3), (10, sl A_l l c_l), (11, vI (l.length : Int)), (12, vI i7)] (by kernel_rfl) ?_
   refine ops_nil (fin_then (st_seq ?_))
   refine st_if (b := decide (i7 < (l.length : Int))) rfl (fun hc8 => ?_) (fun hc8 => ?_)
   ·
    have hp := cnd_t hc8 hp
    refine st_skip (fin_then (st_seq (st_block (st_seq (st_region [oF 0, oF 1, oF 2, oF 3] (by rfl) ?_)))))
    obtain ⟨x9, hv10, hp⟩ := obind hp
    obtain ⟨m11, hm12, hx13⟩ := idx_some hv10
    have hl16 := (List.getElem?_eq_some_iff.1 hx13).1
    obtain ⟨ad17, vs14, hA18, hr15, hq19⟩ := RdS.el h_l hx13
    obtain ⟨A20, c21, rfl, h22⟩ := dec_api_Kind hr15
    refine ops_val (op := (.indexAddr 22 (.tmp 10) (.tmp 12))) (d := some 14) (v := .pointer (some (ad17.add (m11 * 2)))) ⟨by kernel_rfl⟩ (run_indexA hA18 Tryz.underlying22 (z := 2) (by kernel_rfl) rfl rfl hm12 hl16) ?_
    refine ops_mem (d := some 15) (an := [.v (.string x9.Name), .v (sl A20 x9.Fields c21)]) (evs := [.load (ad17.add (m11 * 2)) (.string x9.Name), .load ((ad17.add (m11 * 2)).add 1) (sl A20 x9.Fields c21)]) (v := .agg #[.string x9.Name, sl A20 x9.Fields c21]) ⟨by kernel_rfl⟩ (fun w_ hM hS => ⟨w_, ⟨hM.elcell 1 rfl hq19 0 rfl, hM.elcell 1 rfl hq19 1 rfl, rfl⟩, hM, trivial⟩) ?_
    refine ops_newB (d := some 5) [.string ByteArray.empty, .slice none 0 0] 86 (fun b23 => ⟨by kernel_rfl⟩) (fun w_ hM hS => trivial) (fun b23 => ?_)
    refine ops_store (an := []) (evs := [sr b23 0 (.string x9.Name), sr b23 1 (sl A20 x9.Fields c21)]) ⟨by kernel_rfl⟩ (fun w_ hM hS => let ⟨w', he, h'⟩ := hM.evs_stores [.string x9.Name, sl A20 x9.Fields c21] 0 rfl 0 (Nat.le_of_ble_eq_true rfl); ⟨w', he, h', trivial⟩) ?_
    refine ops_nil (fin_then (st_seq (st_seq (st_region [oF 0, oF 1, oF 2] (by rfl) ?_))))
    refine ops_mem (d := some 16) (an := [.v (.string x9.Name), .v (sl A20 x9.Fields c21)]) (evs := [ld b23 0 (.string x9.Name), ld b23 1 (sl A20 x9.Fields c21)]) (v := .agg #[.string x9.Name, sl A20 x9.Fields c21]) ⟨by kernel_rfl⟩ (fun w_ hM hS => ⟨w_, ⟨hM.cell 0 rfl rfl, hM.cell 0 rfl rfl, rfl⟩, hM, trivial⟩) ?_
    obtain ⟨x24, hv25, hp⟩ := obind hp
    refine ops_callI (σ := Unit) (d := some 17) (f := 46) (args := #[.agg #[.string x9.Name, sl A20 x9.Fields c21]]) (v := (fun _ => vI x24)) (I := (fun _ => True)) (M' := (fun _ => Mem w0 (.blk b23 [.string x9.Name, sl A20 x9.Fields c21] 86 :: ow A2 l4 c3 9 1 y5 :: Fz F W :: cs))) ⟨by kernel_rfl⟩ (fun w_ hM hS => (tourref3_KindError_ok w0 w_ (.blk b23 [.string x9.Name, sl A20 x9.Fields c21] 86 :: ow A2 l4 c3 9 1 y5 :: cs) F W x9.Name A20 c21 x9.Fields (hM.pick 3 [2, 0, 1] (by kernel_rfl) (by decide) rfl) h22 x24 hv25).mono (by rintro e w' ⟨-, rfl, h'⟩; have h' : Mem w0 (.blk b23 [.string x9.Name, sl A20 x9.Fields c21] 86 :: ow A2 l4 c3 9 1 y5 :: Fz F W :: cs) w' := (h'.pick 3 [1, 2, 0] (by kernel_rfl) (by decide) rfl); exact ⟨(), trivial, rfl, h', trivial⟩)) ?_
    rintro _ -
    refine oQ [oF 2] [(6, vI x24), (5, vP b23 0), (3, sl A2 l4 c3), (10, sl A_l l c_l), (11, vI (l.length : Int)), (12, vI i7)] (by kernel_rfl) ?_
    refine ops_nil (fin_then (st_seq (st_region [oF 0, oF 1] (by rfl) ?_)))
    refine oQ [oF 0, oF 1] [(19, .bool (!(x24 == 0))), (6, vI x24), (5, vP b23 0), (3, sl A2 l4 c3), (10, sl A_l l c_l), (11, vI (l.length : Int)), (12, vI i7)] (by kernel_rfl) ?_
    refine ops_nil (fin_then ?_)
    refine st_if (b := !(x24 == 0)) rfl (fun hc26 => ?_) (fun hc26 => ?_)
    ·
     have hp := cnd_t hc26 hp
     refine st_seq (st_region [oF 0, oF 1] (by rfl) ?_)
     refine oQ [oF 0, oF 1] [(2, vI x24)] (by kernel_rfl) ?_
     refine ops_nil (fin_then (st_ret (fin_ret_then (fin_ret_block (fin_ret_then (fin_ret_then (fin_ret_block (fin_ret_then ?_))))))))
     obtain hq_ := Option.some.inj hp
     subst hq_
     obtain hq_ := hd2 _ rfl
     subst hq_
     have hp : some x24 = some i9001 := hk2
     have hq_ := Option.some.inj hp
     have hr0_ := hq_
     subst hr0_
     refine fin_ret [.tmp 2] [vI x24] rfl rfl (fun w_ hM => (.tmp rfl .nil)) (fun w_ hM => ?_)
     exact ⟨trivial, rfl, hM.pick 3 [2] (by kernel_rfl) (by decide) rfl⟩
    ·
     have hp := cnd_f hc26 hp
     refine st_skip (fin_then (st_seq (st_seq (st_region [oF 0, oF 1, oF 2, oF 3] (by rfl) ?_))))
     refine oQ [oF 0, oF 1] [(22, vP b23 0), (21, sl A2 l4 c3), (5, vP b23 0), (3, sl A2 l4 c3), (10, sl A_l l c_l), (11, vI (l.length : Int)), (12, vI i7)] (by kernel_rfl) ?_
     refine ops_mem (d := some 23) (an := [.v (.string x9.Name)]) (evs := [ld b23 0 (.string x9.Name)]) (v := .string x9.Name) ⟨by kernel_rfl⟩ (fun w_ hM hS => ⟨w_, ⟨hM.cell 0 rfl rfl, rfl⟩, hM, trivial⟩) ?_
     obtain ⟨x27, hv28, hp⟩ := obind hp
     refine ops_callI (σ := Unit) (d := some 24) (f := 47) (args := #[sl A2 l4 c3, .string x9.Name]) (v := (fun _ => .bool x27)) (I := (fun _ => True)) (M' := (fun _ => Mem w0 (.blk b23 [.string x9.Name, sl A20 x9.Fields c21] 86 :: ow A2 l4 c3 9 1 y5 :: Fz F W :: cs))) ⟨by kernel_rfl⟩ (fun w_ hM hS => (tourref3_twice_ok w_ w_ [] (fun b => b < w_.heap.size) w_ A2 c3 l4 x9.Name (Mem.fz0 w_) (hM.ordS 1 2 rfl rfl h6 rfl rfl) x27 hv28).mono (by rintro e w' ⟨-, rfl, h'⟩; have h' : Mem w_ [] w' := h'.pick 1 [] (by kernel_rfl) (by decide) rfl; exact ⟨(), trivial, rfl, hM.join h' rfl, trivial⟩)) ?_
     rintro _ -
     refine ops_nil (fin_then ?_)
     refine st_if (b := x27) rfl (fun hc29 => ?_) (fun hc29 => ?_)
     ·
      have hp := cnd_t hc29 hp
      refine st_seq (st_region [oF 0] (by rfl) ?_)
      refine oQ [oF 0] [(2, vI 5)] (by kernel_rfl) ?_
      refine ops_nil (fin_then (st_ret (fin_ret_then (fin_ret_block (fin_ret_then (fin_ret_then (fin_ret_block (fin_ret_then ?_))))))))
      obtain hq_ := Option.some.inj hp
      subst hq_
      obtain hq_ := hd2 _ rfl
      subst hq_
      have hp : some 5 = some i9001 := hk2
      have hq_ := Option.some.inj hp
      have hr0_ := hq_
      subst hr0_
      refine fin_ret [.tmp 2] [vI 5] rfl rfl (fun w_ hM => (.tmp rfl .nil)) (fun w_ hM => ?_)
      exact ⟨trivial, rfl, hM.pick 3 [2] (by kernel_rfl) (by decide) rfl⟩
     ·
      have hp := cnd_f hc29 hp
      refine st_skip (fin_then (st_region [oF 0, oF 1, oF 2, oF 3, oF 4, oF 5] (by rfl) ?_))
      refine oQ [oF 0, oF 1] [(26, vP b23 0), (25, sl A2 l4 c3), (3, sl A2 l4 c3), (10, sl A_l l c_l), (11, vI (l.length : Int)), (12, vI i7)] (by kernel_rfl) ?_
      refine ops_mem (d := some 27) (an := [.v (.string x9.Name)]) (evs := [ld b23 0 (.string x9.Name)]) (v := .string x9.Name) ⟨by kernel_rfl⟩ (fun w_ hM hS => ⟨w_, ⟨hM.cell 0 rfl rfl, rfl⟩, hM, trivial⟩) ?_
      have h30 : RepL Rep.str F W ([x9.Name] : List ByteArray) ([.string x9.Name]) := (RepL.cons (R := Rep.str) (F := F) (w := W) (vs := [.string x9.Name]) (ys := []) rfl RepL.nil)
      refine ops_new (d := some 28) (o := .cells ([.string x9.Name] : List Value).toArray 9) (v := fun g31 => .slice (sa g31) ([x9.Name] : List ByteArray).length 1) (M' := fun g31 => Mem w0 (orow (sa g31) ([x9.Name] : List ByteArray).length 1 9 1 ([.string x9.Name]) :: .blk b23 [.string x9.Name, sl A20 x9.Fields c21] 86 :: ow A2 l4 c3 9 1 y5 :: Fz F W :: cs)) (fun g31 => ⟨by kernel_rfl⟩) (fun w_ hM hS => ⟨hM.onew [.string x9.Name] 9 1 1 rfl (by decide), trivial⟩) (fun g31 => ?_)
      obtain ⟨l32, hv33, hp⟩ := obind hp
      obtain ⟨he34, hb35⟩ := app_some hv33
      obtain ⟨y36, hy37⟩ : ∃ y_, y5 ++ ([.string x9.Name]) = y_ := ⟨_, rfl⟩
      have h38 : RepL Rep.str F W l32 y36 := by rw [he34, ← hy37]; exact RepL.app h6 h30
      refine ops_appendO (x := (Go.Operand.tmp 25)) (y := (Go.Operand.tmp 28)) (t := 89) (e := 9) (d := some 29) (n' := l32.length) (z := 1) (m := ([x9.Name] : List ByteArray).length) (bytes := 16) (xs' := y36) (news := ([.string x9.Name])) (zv := .string ByteArray.empty) 2 ⟨by kernel_rfl⟩ rfl rfl Tryz.underlying89 (by kernel_rfl) (by rfl) rfl (fun w_ hM => hM.srcO 0 rfl) h30.len h30.one hb35 (by have z_ := congrArg List.length he34; rw [List.length_append] at z_; exact z_.symm) hy37 (fun _ _ _ _ hS h' => trivial) ?_
      rintro ⟨A39, c40⟩
      refine oQ [oF 5] [(3, sl A39 l32 c40), (10, sl A_l l c_l), (11, vI (l.length : Int)), (12, vI i7)] (by kernel_rfl) ?_
      refine ops_nil (fin_block (fin_then (st_region [oF 0, oF 1] (by rfl) ?_)))
      refine oQ [oF 0, oF 1] [(12, vI (IntKind.i64.wrap (i7 + 1))), (3, sl A39 l32 c40), (10, sl A_l l c_l), (11, vI (l.length : Int))] (by kernel_rfl) ?_
      refine ops_nil ?_
      exact fin_again (l32, IntKind.i64.wrap (i7 + 1)) (A39, c40, y36) (Option.some.inj hp).symm h38 (look_has ⟨rfl, rfl, rfl, rfl, trivial⟩) (fun w_ hM => hM.pick 4 [2, 3] (by kernel_rfl) (by decide) rfl)
   ·
    have hp := cnd_f hc8 hp
    refine st_exit (fin_exit_then (fin_exit_then (fin_exit ?_)))
    obtain hq_ := Option.some.inj hp
    subst hq_
    obtain hq_ := hd2 _ rfl
    subst hq_
    have hp : tourref3_KindsError_j1 = some i9001 := hk2
    exact fin_join HJ1 () hp (look_has trivial) (fun w_ hM => hM.pick 2 [1] (by kernel_rfl) (by decide) rfl)
theorem tourref3_Top_ok (w0 w : World) (cs : List Chunk) (F : Nat → Prop) (W : World) (f_0 : ByteArray) (f_1 : Int) (f_2 : Int) (hM0 : Mem w0 (Fz F W :: cs) w) (i9001 : Int) (hp : tourref3_Top f_0 f_1 f_2 = some i9001) : Calls Tryz.prog 101 #[.agg #[.string f_0, vI f_1, vI f_2]] w fun e w' => (True) ∧ e = .returned (vI i9001) ∧ Mem w0 (Fz F W :: cs) w' := by
 unfold tourref3_Top at hp
 refine sx_calls Tryz.func101 rfl (n := 16) (by kernel_rfl) (l := [(0, .agg #[.string f_0, vI f_1, vI f_2])]) rfl (by rfl) hM0 ?_
 refine st_seq (st_region [oF 0, oF 1] (by rfl) ?_)
 refine ops_newB (d := some 1) [.string f_0, vI f_1, vI f_2] 99 (fun b1 => ⟨by kernel_rfl⟩) (fun w_ hM hS => trivial) (fun b1 => ?_)
 refine oQ [oF 1] [(1, vP b1 0)] (by kernel_rfl) ?_
 refine ops_nil (fin_then (st_seq (st_region [oF 0] (by rfl) ?_)))
 refine oQ [oF 0] [(3, vI 1), (1, vP b1 0)] (by kernel_rfl) ?_
 refine ops_nil (fin_then ?_)
 refine st_join1 (σ := Int) (L := fun x_ => match x_ with | i2 => [(1, vP b1 0), (3, vI i2)]) (N := fun x_ => match x_ with | i2 => Mem w0 (.blk b1 [.string f_0, vI f_1, vI f_2] 99 :: Fz F W :: cs)) (I := fun x_ => match x_ with | i2 => ((tourref3_Top_j1 f_2) i2 = some i9001)) ?_ ?_
 ·
  rintro i2 hp
  unfold tourref3_Top_j1 at hp
  refine st_seq (st_region [oF 0, oF 1, oF 2, oF 3, oF 4, oF 5] (by rfl) ?_)
  refine oQ [oF 0] [(11, vP b1 2), (3, vI i2)] (by kernel_rfl) ?_
  refine ops_mem (d := some 12) (an := [.v (vI f_2)]) (evs := [ld b1 2 (vI f_2)]) (v := vI f_2) ⟨by kernel_rfl⟩ (fun w_ hM hS => ⟨w_, ⟨hM.cell 0 rfl rfl, rfl⟩, hM, trivial⟩) ?_
  refine oQ [oF 2, oF 3, oF 4, oF 5] [(2, vI (IntKind.i64.wrap (IntKind.i64.wrap (f_2 + i2) - 1)))] (by kernel_rfl) ?_
  refine ops_nil (fin_then (st_ret ?_))
  have hq_ := Option.some.inj hp
  have hr0_ := hq_
  subst hr0_
  refine fin_ret [.tmp 2] [vI (IntKind.i64.wrap (IntKind.i64.wrap (f_2 + i2) - 1))] rfl rfl (fun w_ hM => (.tmp rfl .nil)) (fun w_ hM => ?_)
  exact ⟨trivial, rfl, hM.pick 2 [1] (by kernel_rfl) (by decide) rfl⟩
 ·
  intro HJ1
  refine st_seq (st_seq (st_region [oF 0, oF 1, oF 2] (by rfl) ?_))
  refine oQ [oF 0] [(4, vP b1 1), (3, vI 1), (1, vP b1 0)] (by kernel_rfl) ?_
  refine ops_mem (d := some 5) (an := [.v (vI f_1)]) (evs := [ld b1 1 (vI f_1)]) (v := vI f_1) ⟨by kernel_rfl⟩ (fun w_ hM hS => ⟨w_, ⟨hM.cell 0 rfl rfl, rfl⟩, hM, trivial⟩) ?_
  refine oQ [oF 2] [(6, vI 0), (5, vI f_1), (3, vI 1), (1, vP b1 0)] (by kernel_rfl) ?_
  refine ops_nil (fin_then (st_block ?_))
  obtain ⟨r2, hl2, hk2⟩ := obind hp
  refine st_loopP (σ := Int × Int) (ρ := Int) (γ := Unit) hl2 () (fun s_ g_ => match s_, g_ with | (i3, i4), _ => [(1, vP b1 0), (3, vI i3), (5, vI f_1), (6, vI i4)]) (fun s_ g_ => match s_, g_ with | (i3, i4), _ => Mem w0 (.blk b1 [.string f_0, vI f_1, vI f_2] 99 :: Fz F W :: cs)) (fun s_ g_ => match s_, g_ with | (i3, i4), _ => True) trivial (look_has ⟨rfl, rfl, rfl, rfl, trivial⟩) (fun w_ hM => hM) ?_
  rintro ⟨i3, i4⟩ _ o2 - hs_ hd2
  have hp : (tourref3_Top_l2 f_1) i3 i4 = some o2 := hs_
  clear hs_
  unfold tourref3_Top_l2 at hp
  refine st_seq (st_region [oF 0] (by rfl) ?_)
  refine oQ [oF 0] [(7, .bool (decide (i4 < f_1))), (1, vP b1 0), (3, vI i3), (5, vI f_1), (6, vI i4)] (by kernel_rfl) ?_
  refine ops_nil (fin_then (st_seq ?_))
  refine st_if (b := decide (i4 < f_1)) rfl (fun hc5 => ?_) (fun hc5 => ?_)
  ·
   have hp := cnd_t hc5 hp
   refine st_skip (fin_then (st_seq (st_block (st_region [oF 0, oF 1, oF 2] (by rfl) ?_))))
   refine oQ [oF 0, oF 1, oF 2] [(3, vI (IntKind.i64.wrap (i3 * 2))), (1, vP b1 0), (5, vI f_1), (6, vI i4)] (by kernel_rfl) ?_
   refine ops_nil (fin_block (fin_then (st_region [oF 0, oF 1] (by rfl) ?_)))
   refine oQ [oF 0, oF 1] [(6, vI (IntKind.i64.wrap (i4 + 1))), (3, vI (IntKind.i64.wrap (i3 * 2))), (1, vP b1 0), (5, vI f_1)] (by kernel_rfl) ?_
   refine ops_nil ?_
   exact fin_again (IntKind.i64.wrap (i3 * 2), IntKind.i64.wrap (i4 + 1)) () (Option.some.inj hp).symm trivial (look_has ⟨rfl, rfl, rfl, rfl, trivial⟩) (fun w_ hM => hM)
  ·
   have hp := cnd_f hc5 hp
   refine st_exit (fin_exit_then (fin_exit_then (fin_exit ?_)))
   obtain hq_ := Option.some.inj hp
   subst hq_
   obtain hq_ := hd2 _ rfl
   subst hq_
   have hp : (tourref3_Top_j1 f_2) i3 = some i9001 := hk2
   exact fin_join HJ1 i3 hp (look_has ⟨rfl, rfl, trivial⟩) (fun w_ hM => hM)
theorem tourref3_Nearest_ok (w0 w : World) (cs : List Chunk) (F : Nat → Prop) (W : World) (f_0 : ByteArray) (f_1 : Int) (f_2 : Int) (v : Int) (hM0 : Mem w0 (Fz F W :: cs) w) (i9001 : Int) (hp : tourref3_Nearest f_0 f_1 f_2 v = some i9001) : Calls Tryz.prog 75 #[.agg #[.string f_0, vI f_1, vI f_2], vI v] w fun e w' => (True) ∧ e = .returned (vI i9001) ∧ Mem w0 (Fz F W :: cs) w' := by
 unfold tourref3_Nearest at hp
 refine sx_calls Tryz.func75 rfl (n := 24) (by kernel_rfl) (l := [(0, .agg #[.string f_0, vI f_1, vI f_2]), (1, vI v)]) rfl (by rfl) hM0 ?_
 refine st_seq (st_region [oF 0, oF 1] (by rfl) ?_)
 refine ops_newB (d := some 2) [.string f_0, vI f_1, vI f_2] 99 (fun b1 => ⟨by kernel_rfl⟩) (fun w_ hM hS => trivial) (fun b1 => ?_)
 refine oQ [oF 1] [(2, vP b1 0), (1, vI v)] (by kernel_rfl) ?_
 refine ops_nil (fin_then (st_seq (st_block (st_seq (st_region [oF 0, oF 1, oF 2, oF 3] (by rfl) ?_)))))
 refine ops_mem (d := some 6) (an := [.v (.string f_0), .v (vI f_1), .v (vI f_2)]) (evs := [ld b1 0 (.string f_0), ld b1 1 (vI f_1), ld b1 2 (vI f_2)]) (v := .agg #[.string f_0, vI f_1, vI f_2]) ⟨by kernel_rfl⟩ (fun w_ hM hS => ⟨w_, ⟨hM.cell 0 rfl rfl, hM.cell 0 rfl rfl, hM.cell 0 rfl rfl, rfl⟩, hM, trivial⟩) ?_
 obtain ⟨x2, hv3, hp⟩ := obind hp
 refine ops_callI (σ := Unit) (d := some 7) (f := 73) (args := #[.agg #[.string f_0, vI f_1, vI f_2]]) (v := (fun _ => .bool x2)) (I := (fun _ => True)) (M' := (fun _ => Mem w0 (.blk b1 [.string f_0, vI f_1, vI f_2] 99 :: Fz F W :: cs))) ⟨by kernel_rfl⟩ (fun w_ hM hS => (tourref3_FieldOK_ok w0 w_ (.blk b1 [.string f_0, vI f_1, vI f_2] 99 :: cs) F W f_0 f_1 f_2 (hM.pick 2 [1, 0] (by kernel_rfl) (by decide) rfl)  x2 hv3).mono (by rintro e w' ⟨-, rfl, h'⟩; have h' : Mem w0 (.blk b1 [.string f_0, vI f_1, vI f_2] 99 :: Fz F W :: cs) w' := (h'.pick 2 [1, 0] (by kernel_rfl) (by decide) rfl); exact ⟨(), trivial, rfl, h', trivial⟩)) ?_
 rintro _ -
 refine oQ [oF 2, oF 3] [(5, .bool (!x2)), (2, vP b1 0), (1, vI v)] (by kernel_rfl) ?_
 refine ops_nil (fin_then ?_)
 refine st_if (b := !x2) rfl (fun hc4 => ?_) (fun hc4 => ?_)
 ·
  have hp := cnd_t hc4 hp
  refine st_seq (st_region [oF 0] (by rfl) ?_)
  refine oQ [oF 0] [(4, vI 0)] (by kernel_rfl) ?_
  refine ops_nil (fin_then (st_ret (fin_ret_block (fin_ret_then ?_))))
  have hq_ := Option.some.inj hp
  have hr0_ := hq_
  subst hr0_
  refine fin_ret [.tmp 4] [vI 0] rfl rfl (fun w_ hM => (.tmp rfl .nil)) (fun w_ hM => ?_)
  exact ⟨trivial, rfl, hM.pick 2 [1] (by kernel_rfl) (by decide) rfl⟩
 ·
  have hp := cnd_f hc4 hp
  refine st_seq (st_region [oF 0, oF 1, oF 2, oF 3, oF 4] (by rfl) ?_)
  refine oQ [oF 0, oF 1] [(11, vP b1 2), (10, vI v), (2, vP b1 0), (1, vI v)] (by kernel_rfl) ?_
  refine ops_mem (d := some 12) (an := [.v (vI f_2)]) (evs := [ld b1 2 (vI f_2)]) (v := vI f_2) ⟨by kernel_rfl⟩ (fun w_ hM hS => ⟨w_, ⟨hM.cell 0 rfl rfl, rfl⟩, hM, trivial⟩) ?_
  refine oQ [oF 3, oF 4] [(9, .bool (decide (v < f_2))), (2, vP b1 0), (1, vI v)] (by kernel_rfl) ?_
  refine ops_nil (fin_then ?_)
  refine st_if (b := decide (v < f_2)) rfl (fun hc5 => ?_) (fun hc5 => ?_)
  ·
   have hp := cnd_t hc5 hp
   refine st_seq (st_region [oF 0, oF 1, oF 2] (by rfl) ?_)
   refine oQ [oF 0] [(14, vP b1 2)] (by kernel_rfl) ?_
   refine ops_mem (d := some 15) (an := [.v (vI f_2)]) (evs := [ld b1 2 (vI f_2)]) (v := vI f_2) ⟨by kernel_rfl⟩ (fun w_ hM hS => ⟨w_, ⟨hM.cell 0 rfl rfl, rfl⟩, hM, trivial⟩) ?_
   refine oQ [oF 2] [(4, vI f_2)] (by kernel_rfl) ?_
   refine ops_nil (fin_then (st_ret (fin_ret_block (fin_ret_then ?_))))
   have hq_ := Option.some.inj hp
   have hr0_ := hq_
   subst hr0_
   refine fin_ret [.tmp 4] [vI f_2] rfl rfl (fun w_ hM => (.tmp rfl .nil)) (fun w_ hM => ?_)
   exact ⟨trivial, rfl, hM.pick 2 [1] (by kernel_rfl) (by decide) rfl⟩
  ·
   have hp := cnd_f hc5 hp
   refine st_seq (st_region [oF 0, oF 1, oF 2, oF 3, oF 4] (by rfl) ?_)
   refine oQ [oF 0] [(17, vI v), (2, vP b1 0), (1, vI v)] (by kernel_rfl) ?_
   refine ops_mem (d := some 18) (an := [.v (.string f_0), .v (vI f_1), .v (vI f_2)]) (evs := [ld b1 0 (.string f_0), ld b1 1 (vI f_1), ld b1 2 (vI f_2)]) (v := .agg #[.string f_0, vI f_1, vI f_2]) ⟨by kernel_rfl⟩ (fun w_ hM hS => ⟨w_, ⟨hM.cell 0 rfl rfl, hM.cell 0 rfl rfl, hM.cell 0 rfl rfl, rfl⟩, hM, trivial⟩) ?_
   obtain ⟨x6, hv7, hp⟩ := obind hp
   refine ops_callI (σ := Unit) (d := some 19) (f := 101) (args := #[.agg #[.string f_0, vI f_1, vI f_2]]) (v := (fun _ => vI x6)) (I := (fun _ => True)) (M' := (fun _ => Mem w0 (.blk b1 [.string f_0, vI f_1, vI f_2] 99 :: Fz F W :: cs))) ⟨by kernel_rfl⟩ (fun w_ hM hS => (tourref3_Top_ok w0 w_ (.blk b1 [.string f_0, vI f_1, vI f_2] 99 :: cs) F W f_0 f_1 f_2 (hM.pick 2 [1, 0] (by kernel_rfl) (by decide) rfl)  x6 hv7).mono (by rintro e w' ⟨-, rfl, h'⟩; have h' : Mem w0 (.blk b1 [.string f_0, vI f_1, vI f_2] 99 :: Fz F W :: cs) w' := (h'.pick 2 [1, 0] (by kernel_rfl) (by decide) rfl); exact ⟨(), trivial, rfl, h', trivial⟩)) ?_
   rintro _ -
   refine oQ [oF 3, oF 4] [(16, .bool (decide (x6 < v))), (2, vP b1 0), (1, vI v)] (by kernel_rfl) ?_
   refine ops_nil (fin_then ?_)
   refine st_if (b := decide (x6 < v)) rfl (fun hc8 => ?_) (fun hc8 => ?_)
   ·
    have hp := cnd_t hc8 hp
    refine st_seq (st_region [oF 0, oF 1, oF 2] (by rfl) ?_)
    refine ops_mem (d := some 21) (an := [.v (.string f_0), .v (vI f_1), .v (vI f_2)]) (evs := [ld b1 0 (.string f_0), ld b1 1 (vI f_1), ld b1 2 (vI f_2)]) (v := .agg #[.string f_0, vI f_1, vI f_2]) ⟨by kernel_rfl⟩ (fun w_ hM hS => ⟨w_, ⟨hM.cell 0 rfl rfl, hM.cell 0 rfl rfl, hM.cell 0 rfl rfl, rfl⟩, hM, trivial⟩) ?_
    obtain ⟨x9, hv10, hp⟩ := obind hp
    refine ops_callI (σ := Unit) (d := some 22) (f := 101) (args := #[.agg #[.string f_0, vI f_1, vI f_2]]) (v := (fun _ => vI x9)) (I := (fun _ => True)) (M' := (fun _ => Mem w0 (.blk b1 [.string f_0, vI f_1, vI f_2] 99 :: Fz F W :: cs))) ⟨by kernel_rfl⟩ (fun w_ hM hS => (tourref3_Top_ok w0 w_ (.blk b1 [.string f_0, vI f_1, vI f_2] 99 :: cs) F W f_0 f_1 f_2 (hM.pick 2 [1, 0] (by kernel_rfl) (by decide) rfl)  x9 hv10).mono (by rintro e w' ⟨-, rfl, h'⟩; have h' : Mem w0 (.blk b1 [.string f_0, vI f_1, vI f_2] 99 :: Fz F W :: cs) w' := (h'.pick 2 [1, 0] (by kernel_rfl) (by decide) rfl); exact ⟨(), trivial, rfl, h', trivial⟩)) ?_
    rintro _ -
    refine oQ [oF 2] [(4, vI x9)] (by kernel_rfl) ?_
    refine ops_nil (fin_then (st_ret (fin_ret_block (fin_ret_then ?_))))
    have hq_ := Option.some.inj hp
    have hr0_ := hq_
    subst hr0_
    refine fin_ret [.tmp 4] [vI x9] rfl rfl (fun w_ hM => (.tmp rfl .nil)) (fun w_ hM => ?_)
    exact ⟨trivial, rfl, hM.pick 2 [1] (by kernel_rfl) (by decide) rfl⟩
   ·
    have hp := cnd_f hc8 hp
    refine st_skip (fin_block (fin_then (st_seq (st_region [oF 0, oF 1] (by rfl) ?_))))
    refine oQ [oF 0, oF 1] [(4, vI v)] (by kernel_rfl) ?_
    refine ops_nil (fin_then (st_ret ?_))
    have hq_ := Option.some.inj hp
    have hr0_ := hq_
    subst hr0_
    refine fin_ret [.tmp 4] [vI v] rfl rfl (fun w_ hM => (.tmp rfl .nil)) (fun w_ hM => ?_)
    exact ⟨trivial, rfl, hM.pick 2 [1] (by kernel_rfl) (by decide) rfl⟩
def tourref3_Fitted__t0 : List Row := [⟨0, 33554432, 128⟩, ⟨0, 67108864, 4⟩, ⟨2, 134217728, 67108864⟩, ⟨0, 268435456, 256⟩, ⟨12, 536870912, 402653184⟩, ⟨16, 1073741824, 536870912⟩, ⟨0, 2147483648, 2⟩, ⟨0, 4294967296, 256⟩, ⟨192, 8589934592, 6442450944⟩, ⟨256, 17179869184, 8589934592⟩, ⟨544, 34359738368, 18253611008⟩, ⟨1024, 68719476736, 34359738368⟩, ⟨3073, 137438953472, 68753031168⟩, ⟨8191, 128, 137438953472⟩]
theorem tourref3_Fitted_ok (w0 w : World) (cs : List Chunk) (F : Nat → Prop) (W : World) (k_0 : ByteArray) (A_k_1 : Option Addr) (c_k_1 : Nat) (k_1 : List api_Field) (A_vals : Option Addr) (c_vals : Nat) (vals : List Int) (hM0 : Mem w0 (Fz F W :: cs) w) (h_k_1 : RdS R_api_Field F W A_k_1 c_k_1 k_1) (h_vals : RdS (Rep.int .i64) F W A_vals c_vals vals) (l9003 : List Int) (i9006 : Int) (hp : tourref3_Fitted k_0 k_1 vals = some (l9003, i9006)) : Calls Tryz.prog 48 #[.agg #[.string k_0, sl A_k_1 k_1 c_k_1], sl A_vals vals c_vals] w fun e w' => ∃ (A9001 : Option Addr), ∃ (c9002 : Nat), ∃ (y9004 : List Value), ((RepL (Rep.int .i64) F W l9003 y9004)) ∧ e = .returned (.tuple #[sl A9001 l9003 c9002, vI i9006]) ∧ Mem w0 (ow A9001 l9003 c9002 3 1 y9004 :: Fz F W :: cs) w' := by
 unfold tourref3_Fitted at hp
 refine sx_calls Tryz.func48 rfl (n := 40) (by kernel_rfl) (l := [(0, .agg #[.string k_0, sl A_k_1 k_1 c_k_1]), (1, sl A_vals vals c_vals)]) rfl (by rfl) hM0 ?_
 refine st_seq (st_region [oF 0, oF 1, oF 2] (by rfl) ?_)
 refine ops_newB (d := some 2) [.string k_0, sl A_k_1 k_1 c_k_1] 86 (fun b1 => ⟨by kernel_rfl⟩) (fun w_ hM hS => trivial) (fun b1 => ?_)
 refine oQ [oF 1, oF 2] [(2, vP b1 0), (1, sl A_vals vals c_vals)] (by kernel_rfl) ?_
 refine ops_nil (fin_then (st_seq (st_seq (st_region [oF 0, oF 1, oF 2] (by rfl) ?_))))
 refine ops_mem (d := some 9) (an := [.v (.string k_0), .v (sl A_k_1 k_1 c_k_1)]) (evs := [ld b1 0 (.string k_0), ld b1 1 (sl A_k_1 k_1 c_k_1)]) (v := .agg #[.string k_0, sl A_k_1 k_1 c_k_1]) ⟨by kernel_rfl⟩ (fun w_ hM hS => ⟨w_, ⟨hM.cell 0 rfl rfl, hM.cell 0 rfl rfl, rfl⟩, hM, trivial⟩) ?_
 obtain ⟨x2, hv3, hp⟩ := obind hp
 refine ops_callI (σ := Unit) (d := some 10) (f := 46) (args := #[.agg #[.string k_0, sl A_k_1 k_1 c_k_1]]) (v := (fun _ => vI x2)) (I := (fun _ => True)) (M' := (fun _ => Mem w0 (.blk b1 [.string k_0, sl A_k_1 k_1 c_k_1] 86 :: Fz F W :: cs))) ⟨by kernel_rfl⟩ (fun w_ hM hS => (tourref3_KindError_ok w0 w_ (.blk b1 [.string k_0, sl A_k_1 k_1 c_k_1] 86 :: cs) F W k_0 A_k_1 c_k_1 k_1 (hM.pick 2 [1, 0] (by kernel_rfl) (by decide) rfl) h_k_1 x2 hv3).mono (by rintro e w' ⟨-, rfl, h'⟩; have h' : Mem w0 (.blk b1 [.string k_0, sl A_k_1 k_1 c_k_1] 86 :: Fz F W :: cs) w' := (h'.pick 2 [1, 0] (by kernel_rfl) (by decide) rfl); exact ⟨(), trivial, rfl, h', trivial⟩)) ?_
 rintro _ -
 refine oQ [oF 2] [(6, vI x2), (2, vP b1 0), (1, sl A_vals vals c_vals)] (by kernel_rfl) ?_
 refine ops_nil (fin_then (st_seq (st_region [oF 0, oF 1] (by rfl) ?_)))
 refine oQ [oF 0, oF 1] [(12, .bool (!(x2 == 0))), (6, vI x2), (2, vP b1 0), (1, sl A_vals vals c_vals)] (by kernel_rfl) ?_
 refine ops_nil (fin_then ?_)
 refine st_if (b := !(x2 == 0)) rfl (fun hc4 => ?_) (fun hc4 => ?_)
 ·
  have hp := cnd_t hc4 hp
  refine st_seq (st_region [oF 0, oF 1, oF 2] (by rfl) ?_)
  refine oQ [oF 0, oF 1, oF 2] [(5, vI x2), (4, .slice none 0 0)] (by kernel_rfl) ?_
  refine ops_nil (fin_then (st_ret (fin_ret_then ?_)))
  refine fin_conv (l' := [(5, vI x2), (4, .slice none 0 0)]) (M' := Mem w0 (ow none ([] : List Int) 0 3 1 [] :: .blk b1 [.string k_0, sl A_k_1 k_1 c_k_1] 86 :: Fz F W :: cs)) rfl (fun w_ h => h.onil none 3 1) ?_
  refine fin_conv (l' := [(5, vI x2), (4, sl none ([] : List Int) 0)]) (M' := Mem w0 (ow none ([] : List Int) 0 3 1 [] :: .blk b1 [.string k_0, sl A_k_1 k_1 c_k_1] 86 :: Fz F W :: cs)) rfl (fun _ h => h) ?_
  have hq_ := Option.some.inj hp
  obtain ⟨hr0_, hq_⟩ := Prod.mk.inj hq_
  have hr1_ := hq_
  subst hr0_
  subst hr1_
  refine fin_ret [.tmp 4, .tmp 5] [sl none ([] : List Int) 0, vI x2] rfl rfl (fun w_ hM => (.tmp rfl (.tmp rfl .nil))) (fun w_ hM => ?_)
  exact ⟨none, 0, [], (RepL.nil (R := (Rep.int .i64))), rfl, hM.pick 3 [0, 2] (by kernel_rfl) (by decide) rfl⟩
 ·
  have hp := cnd_f hc4 hp
  refine st_skip (fin_then (st_seq (st_seq (st_region [oF 0, oF 1, oF 2, oF 3, oF 4, oF 5] (by rfl) ?_))))
  refine oQ [oF 0, oF 1, oF 2] [(16, vP b1 1), (15, vI (vals.length : Int)), (2, vP b1 0), (1, sl A_vals vals c_vals)] (by kernel_rfl) ?_
  refine ops_mem (d := some 17) (an := [.v (sl A_k_1 k_1 c_k_1)]) (evs := [ld b1 1 (sl A_k_1 k_1 c_k_1)]) (v := sl A_k_1 k_1 c_k_1) ⟨by kernel_rfl⟩ (fun w_ hM hS => ⟨w_, ⟨hM.cell 0 rfl rfl, rfl⟩, hM, trivial⟩) ?_
  refine oQ [oF 4, oF 5] [(19, .bool (!((vals.length : Int) == (k_1.length : Int)))), (2, vP b1 0), (1, sl A_vals vals c_vals)] (by kernel_rfl) ?_
  refine ops_nil (fin_then ?_)
  refine st_if (b := !((vals.length : Int) == (k_1.length : Int))) rfl (fun hc5 => ?_) (fun hc5 => ?_)
  ·
   have hp := cnd_t hc5 hp
   refine st_seq (st_region [oF 0, oF 1] (by rfl) ?_)
   refine oQ [oF 0, oF 1] [(5, vI 1), (4, .slice none 0 0)] (by kernel_rfl) ?_
   refine ops_nil (fin_then (st_ret (fin_ret_then ?_)))
   refine fin_conv (l' := [(5, vI 1), (4, .slice none 0 0)]) (M' := Mem w0 (ow none ([] : List Int) 0 3 1 [] :: .blk b1 [.string k_0, sl A_k_1 k_1 c_k_1] 86 :: Fz F W :: cs)) rfl (fun w_ h => h.onil none 3 1) ?_
   refine fin_conv (l' := [(5, vI 1), (4, sl none ([] : List Int) 0)]) (M' := Mem w0 (ow none ([] : List Int) 0 3 1 [] :: .blk b1 [.string k_0, sl A_k_1 k_1 c_k_1] 86 :: Fz F W :: cs)) rfl (fun _ h => h) ?_
   have hq_ := Option.some.inj hp
   obtain ⟨hr0_, hq_⟩ := Prod.mk.inj hq_
   have hr1_ := hq_
   subst hr0_
   subst hr1_
   refine fin_ret [.tmp 4, .tmp 5] [sl none ([] : List Int) 0, vI 1] rfl rfl (fun w_ hM => (.tmp rfl (.tmp rfl .nil))) (fun w_ hM => ?_)
   exact ⟨none, 0, [], (RepL.nil (R := (Rep.int .i64))), rfl, hM.pick 3 [0, 2] (by kernel_rfl) (by decide) rfl⟩
  ·
   have hp := cnd_f hc5 hp
   refine st_skip (fin_then (st_seq (st_region [oF 0] (by rfl) ?_)))
   refine oQ [oF 0] [(7, .slice none 0 0), (2, vP b1 0), (1, sl A_vals vals c_vals)] (by kernel_rfl) ?_
   refine ops_nil (fin_then ?_)
   refine st_join1 (σ := (Option Addr) × Nat × (List Int) × (List Value)) (L := fun x_ => match x_ with | (A6, c7, l8, y9) => [(7, sl A6 l8 c7)]) (N := fun x_ => match x_ with | (A6, c7, l8, y9) => Mem w0 (ow A6 l8 c7 3 1 y9 :: Fz F W :: cs)) (I := fun x_ => match x_ with | (A6, c7, l8, y9) => (tourref3_Fitted_j1 l8 = some (l9003, i9006)) ∧ (RepL (Rep.int .i64) F W l8 y9)) ?_ ?_
   ·
    rintro ⟨A6, c7, l8, y9⟩ ⟨hp, h10⟩
    unfold tourref3_Fitted_j1 at hp
    refine st_seq (st_region [oF 0, oF 1, oF 2] (by rfl) ?_)
    refine oQ [oF 0, oF 1, oF 2] [(5, vI 0), (4, sl A6 l8 c7)] (by kernel_rfl) ?_
    refine ops_nil (fin_then (st_ret ?_))
    have hq_ := Option.some.inj hp
    obtain ⟨hr0_, hq_⟩ := Prod.mk.inj hq_
    have hr1_ := hq_
    subst hr0_
    subst hr1_
    refine fin_ret [.tmp 4, .tmp 5] [sl A6 l8 c7, vI 0] rfl rfl (fun w_ hM => (.tmp rfl (.tmp rfl .nil))) (fun w_ hM => ?_)
    exact ⟨A6, c7, y9, h10, rfl, hM⟩
   ·
    intro HJ1
    refine st_seq (st_seq (st_region [oF 0, oF 1, oF 2] (by rfl) ?_))
    refine oQ [oF 0, oF 1, oF 2] [(22, vI 0), (21, vI (vals.length : Int)), (7, .slice none 0 0), (2, vP b1 0), (1, sl A_vals vals c_vals)] (by kernel_rfl) ?_
    refine ops_nil (fin_then (st_block ?_))
    refine st_conv (l' := [(22, vI 0), (21, vI (vals.length : Int)), (7, .slice none 0 0), (2, vP b1 0), (1, sl A_vals vals c_vals)]) (M' := Mem w0 (ow none ([] : List Int) 0 3 1 [] :: .blk b1 [.string k_0, sl A_k_1 k_1 c_k_1] 86 :: Fz F W :: cs)) rfl (fun w_ h => h.onil none 3 1) ?_
    obtain ⟨r2, hl2, hk2⟩ := obind hp
    refine st_loopP (σ := (List Int) × Int) (ρ := (List Int)) (γ := (Option Addr) × Nat × (List Value)) hl2 (none, 0, []) (fun s_ g_ => match s_, g_ with | (l13, i16), (A11, c12, y14) => [(1, sl A_vals vals c_vals), (2, vP b1 0), (7, sl A11 l13 c12), (21, vI (vals.length : Int)), (22, vI i16)]) (fun s_ g_ => match s_, g_ with | (l13, i16), (A11, c12, y14) => Mem w0 (.blk b1 [.string k_0, sl A_k_1 k_1 c_k_1] 86 :: ow A11 l13 c12 3 1 y14 :: Fz F W :: cs)) (fun s_ g_ => match s_, g_ with | (l13, i16), (A11, c12, y14) => (RepL (Rep.int .i64) F W l13 y14)) (RepL.nil (R := (Rep.int .i64))) (look_has ⟨rfl, rfl, rfl, rfl, rfl, trivial⟩) (fun w_ hM => hM.pick 3 [1, 0, 2] (by kernel_rfl) (by decide) rfl) ?_
    rintro ⟨l13, i16⟩ ⟨A11, c12, y14⟩ o2 h15 hs_ hd2
    have hp : (tourref3_Fitted_l2 vals k_1) l13 i16 = some o2 := hs_
    clear hs_
    unfold tourref3_Fitted_l2 at hp
    refine st_seq (st_region [oF 0] (by rfl) ?_)
    refine oQ [oF 0] [(23, .bool (decide (i16 < (vals.length : Int)))), (1, sl A_vals vals c_vals), (2, vP b1 0), (7, sl A11 l13 c12), (21, vI (vals.length : Int)), (22, vI i16)] (by kernel_rfl) ?_
    refine ops_nil (fin_then (st_seq ?_))
    refine st_if (b := decide (i16 < (vals.length : Int))) rfl (fun hc17 => ?_) (fun hc17 => ?_)
    ·
     have hp := cnd_t hc17 hp
     refine st_skip (fin_then (st_seq (st_block (st_seq (st_region [oF 0, oF 1] (by rfl) ?_)))))
     refine oQ [oF 0, oF 1] [(8, vI i16), (1, sl A_vals vals c_vals), (2, vP b1 0), (7, sl A11 l13 c12), (21, vI (vals.length : Int)), (22, vI i16)] (by kernel_rfl) ?_
     refine ops_nil (fin_then ?_)
     refine st_region_fast tourref3_Fitted__t0 [oT 0, oT 1, oT 2, oT 3, oT 4, oT 5, oT 6, oT 7, oT 8, oT 9, oF 10, oF 11, oF 12, oT 13] (Mem w0 (.blk b1 [.string k_0, sl A_k_1 k_1 c_k_1] 86 :: Fz F W :: cs)) (by kernel_rfl) (by kernel_rfl) (by kernel_rfl) (by kernel_rfl) (by kernel_rfl) (fun _ d _ _ _ h => by cases d <;> exact h) (M' := Mem w0 (.blk b1 [.string k_0, sl A_k_1 k_1 c_k_1] 86 :: ow A11 l13 c12 3 1 y14 :: Fz F W :: cs)) (fun w_ hM => ⟨hM.drew, hM.drew.sub (.cons_cons _ (.cons _ (.cons_cons _ (.refl _))))⟩) ?_
     refine oQ [oT 0, oT 1] [(26, vP b1 1), (25, sl A11 l13 c12), (8, vI i16), (1, sl A_vals vals c_vals), (2, vP b1 0), (7, sl A11 l13 c12), (21, vI (vals.length : Int)), (22, vI i16)] (by kernel_rfl) ?_
     refine ops_load (d := some 27) (an := [.v (sl A_k_1 k_1 c_k_1)]) (evs := [ld b1 1 (sl A_k_1 k_1 c_k_1)]) (v := sl A_k_1 k_1 c_k_1) ⟨by kernel_rfl⟩ (fun w_ hM => ⟨hM.cell 0 rfl rfl, rfl⟩) ?_
     refine oQ [oT 3] [(28, vI i16), (27, sl A_k_1 k_1 c_k_1), (25, sl A11 l13 c12), (8, vI i16), (1, sl A_vals vals c_vals), (2, vP b1 0), (7, sl A11 l13 c12), (21, vI (vals.length : Int)), (22, vI i16)] (by kernel_rfl) ?_
     obtain ⟨x18, hv19, hp⟩ := obind hp
     obtain ⟨m20, hm21, hx22⟩ := idx_some hv19
     have hl25 := (List.getElem?_eq_some_iff.1 hx22).1
     obtain ⟨ad26, vs23, hA27, hr24, hq28⟩ := RdS.el h_k_1 hx22
     obtain rfl := dec_api_Field hr24
     refine ops_val (op := (.indexAddr 84 (.tmp 27) (.tmp 28))) (d := some 29) (v := .pointer (some (ad26.add (m20 * 3)))) ⟨by kernel_rfl⟩ (run_indexA hA27 Tryz.underlying84 (z := 3) (by kernel_rfl) rfl rfl hm21 hl25) ?_
     refine ops_load (d := some 30) (an := [.v (.string x18.Name), .v (vI x18.Bits), .v (vI x18.Low)]) (evs := [.load (ad26.add (m20 * 3)) (.string x18.Name), .load ((ad26.add (m20 * 3)).add 1) (vI x18.Bits), .load ((ad26.add (m20 * 3)).add 2) (vI x18.Low)]) (v := .agg #[.string x18.Name, vI x18.Bits, vI x18.Low]) ⟨by kernel_rfl⟩ (fun w_ hM => ⟨hM.elcell 1 rfl hq28 0 rfl, hM.elcell 1 rfl hq28 1 rfl, hM.elcell 1 rfl hq28 2 rfl, rfl⟩) ?_
     refine oQ [oT 6, oT 7] [(32, vI i16), (31, sl A_vals vals c_vals), (30, .agg #[.string x18.Name, vI x18.Bits, vI x18.Low]), (25, sl A11 l13 c12), (1, sl A_vals vals c_vals), (2, vP b1 0), (7, sl A11 l13 c12), (21, vI (vals.length : Int)), (22, vI i16)] (by kernel_rfl) ?_
     obtain ⟨x29, hv30, hp⟩ := obind hp
     obtain ⟨m31, hm32, hx33⟩ := idx_some hv30
     have hl36 := (List.getElem?_eq_some_iff.1 hx33).1
     obtain ⟨ad37, vs34, hA38, hr35, hq39⟩ := RdS.el h_vals hx33
     obtain rfl := hr35
     refine ops_val (op := (.indexAddr 23 (.tmp 31) (.tmp 32))) (d := some 33) (v := .pointer (some (ad37.add (m31 * 1)))) ⟨by kernel_rfl⟩ (run_indexA hA38 Tryz.underlying23 (z := 1) (by kernel_rfl) rfl rfl hm32 hl36) ?_
     refine ops_load (d := some 34) (an := [.v (vI x29)]) (evs := [.load (ad37.add (m31 * 1)) (vI x29)]) (v := vI x29) ⟨by kernel_rfl⟩ (fun w_ hM => ⟨hM.elcell 1 rfl hq39 0 rfl, rfl⟩) ?_
     obtain ⟨x40, hv41, hp⟩ := obind hp
     refine ops_callI (σ := Unit) (d := some 35) (f := 75) (args := #[.agg #[.string x18.Name, vI x18.Bits, vI x18.Low], vI x29]) (v := (fun _ => vI x40)) (I := (fun _ => True)) (M' := (fun _ => Mem w0 (.blk b1 [.string k_0, sl A_k_1 k_1 c_k_1] 86 :: ow A11 l13 c12 3 1 y14 :: Fz F W :: cs))) ⟨by kernel_rfl⟩ (fun w_ hM hS => (tourref3_Nearest_ok w0 w_ (.blk b1 [.string k_0, sl A_k_1 k_1 c_k_1] 86 :: ow A11 l13 c12 3 1 y14 :: cs) F W x18.Name x18.Bits x18.Low x29 (hM.pick 3 [2, 0, 1] (by kernel_rfl) (by decide) rfl)  x40 hv41).mono (by rintro e w' ⟨-, rfl, h'⟩; have h' : Mem w0 (.blk b1 [.string k_0, sl A_k_1 k_1 c_k_1] 86 :: ow A11 l13 c12 3 1 y14 :: Fz F W :: cs) w' := (h'.pick 3 [1, 2, 0] (by kernel_rfl) (by decide) rfl); exact ⟨(), trivial, rfl, h', (by exact h'.sub (.cons_cons _ (.cons _ (.cons_cons _ (.refl _)))))⟩)) ?_
     rintro _ -
     have h42 : RepL (Rep.int .i64) F W ([x40] : List Int) ([vI x40]) := (RepL.cons (R := (Rep.int .i64)) (F := F) (w := W) (vs := [vI x40]) (ys := []) rfl RepL.nil)
     refine ops_new (d := some 36) (o := .cells ([vI x40] : List Value).toArray 3) (v := fun g43 => .slice (sa g43) ([x40] : List Int).length 1) (M' := fun g43 => Mem w0 (orow (sa g43) ([x40] : List Int).length 1 3 1 ([vI x40]) :: .blk b1 [.string k_0, sl A_k_1 k_1 c_k_1] 86 :: ow A11 l13 c12 3 1 y14 :: Fz F W :: cs)) (fun g43 => ⟨by kernel_rfl⟩) (fun w_ hM hS => ⟨hM.onew [vI x40] 3 1 1 rfl (by decide), hS.alloc _⟩) (fun g43 => ?_)
     obtain ⟨l44, hv45, hp⟩ := obind hp
     obtain ⟨he46, hb47⟩ := app_some hv45
     obtain ⟨y48, hy49⟩ : ∃ y_, y14 ++ ([vI x40]) = y_ := ⟨_, rfl⟩
     have h50 : RepL (Rep.int .i64) F W l44 y48 := by rw [he46, ← hy49]; exact RepL.app h15 h42
     refine ops_appendO (x := (Go.Operand.tmp 25)) (y := (Go.Operand.tmp 36)) (t := 23) (e := 3) (d := some 37) (n' := l44.length) (z := 1) (m := ([x40] : List Int).length) (bytes := 8) (xs' := y48) (news := ([vI x40])) (zv := vI 0) 2 ⟨by kernel_rfl⟩ rfl rfl Tryz.underlying23 (by kernel_rfl) (by rfl) rfl (fun w_ hM => hM.srcO 0 rfl) h42.len h42.one hb47 (by have z_ := congrArg List.length he46; rw [List.length_append] at z_; exact z_.symm) hy49 (fun _ _ _ _ hS h' => (by exact h'.sub (.cons _ (.cons_cons _ (.cons _ (.cons_cons _ (.refl _))))))) ?_
     rintro ⟨A51, c52⟩
     refine oQ [oT 13] [(7, sl A51 l44 c52), (1, sl A_vals vals c_vals), (2, vP b1 0), (21, vI (vals.length : Int)), (22, vI i16)] (by kernel_rfl) ?_
     refine ops_nil (fin_block (fin_then (st_region [oF 0, oF 1] (by rfl) ?_)))
     refine oQ [oF 0, oF 1] [(22, vI (IntKind.i64.wrap (i16 + 1))), (7, sl A51 l44 c52), (1, sl A_vals vals c_vals), (2, vP b1 0), (21, vI (vals.length : Int))] (by kernel_rfl) ?_
     refine ops_nil ?_
     exact fin_again (l44, IntKind.i64.wrap (i16 + 1)) (A51, c52, y48) (Option.some.inj hp).symm h50 (look_has ⟨rfl, rfl, rfl, rfl, rfl, trivial⟩) (fun w_ hM => hM.pick 4 [1, 2, 3] (by kernel_rfl) (by decide) rfl)
    ·
     have hp := cnd_f hc17 hp
     refine st_exit (fin_exit_then (fin_exit_then (fin_exit ?_)))
     obtain hq_ := Option.some.inj hp
     subst hq_
     obtain hq_ := hd2 _ rfl
     subst hq_
     have hp : tourref3_Fitted_j1 l13 = some (l9003, i9006) := hk2
     exact fin_join HJ1 (A11, c12, l13, y14) ⟨hp, h15⟩ (look_has ⟨rfl, trivial⟩) (fun w_ hM => hM.pick 3 [1, 2] (by kernel_rfl) (by decide) rfl)
theorem tourref3_FittedAll_ok (w0 w : World) (cs : List Chunk) (F : Nat → Prop) (W : World) (A_k : Option Addr) (c_k : Nat) (k : List api_Kind) (A_l : Option Addr) (c_l : Nat) (l : List api_Comp) (hM0 : Mem w0 (Fz F W :: cs) w) (h_k : RdS R_api_Kind F W A_k c_k k) (h_l : RdS R_api_Comp F W A_l c_l l) (x9002 : Option (List (Int × (List Int)))) (i9004 : Int) (hp : tourref3_FittedAll k l = some (x9002, i9004)) : Calls Tryz.prog 9 #[sl A_k k c_k, sl A_l l c_l] w fun e w' => ∃ (B9001 : Option Nat), ∃ (F9005 : Nat → Prop), ∃ (W9006 : World), ((RdM (fun x_ : Int => Value.int .i64 x_) (Rep.sl (Rep.int .i64)) false F9005 W9006 B9001 x9002) ∧ (Ext w0 F W F9005 W9006)) ∧ e = .returned (.tuple #[.map B9001, vI i9004]) ∧ Mem w0 (Fz F9005 W9006 :: cs) w' := by
 unfold tourref3_FittedAll at hp
 refine sx_calls Tryz.func9 rfl (n := 58) (by kernel_rfl) (l := [(0, sl A_k k c_k), (1, sl A_l l c_l)]) rfl (by rfl) hM0 ?_
 refine st_seq (st_region [oF 0, oF 1] (by rfl) ?_)
 refine oQ [oF 0, oF 1] [(0, sl A_k k c_k), (1, sl A_l l c_l)] (by kernel_rfl) ?_
 refine ops_nil (fin_then (st_seq (st_region [oF 0, oF 1] (by rfl) ?_)))
 have h2 := (MapOK.nil : MapOK (fun x_ : Int => Value.int .i64 x_) (Rep.sl (Rep.int .i64)) false F W ([] : List (Int × (List Int))) #[] 0)
 refine ops_new (d := some 13) (o := .map #[] 0) (v := fun g1 => .map (some g1)) (M' := fun g1 => Mem w0 (.obj g1 (.map #[] 0) :: Fz F W :: cs)) (fun g1 => ⟨by kernel_rfl⟩) (fun w_ hM hS => ⟨hM.objNew _, trivial⟩) (fun g1 => ?_)
 refine oQ [oF 1] [(6, .map (some g1)), (0, sl A_k k c_k), (1, sl A_l l c_l)] (by kernel_rfl) ?_
 refine ops_nil (fin_then ?_)
 refine st_join1 (σ := (Array MapEntry) × Nat × (List (Int × (List Int))) × (Nat → Prop) × World) (L := fun x_ => match x_ with | (es3, ck4, l5, F7, W8) => [(6, .map (some g1))]) (N := fun x_ => match x_ with | (es3, ck4, l5, F7, W8) => Mem w0 (.obj g1 (.map es3 ck4) :: Fz F7 W8 :: cs)) (I := fun x_ => match x_ with | (es3, ck4, l5, F7, W8) => (tourref3_FittedAll_j1 l5 = some (x9002, i9004)) ∧ (MapOK (fun x_ : Int => Value.int .i64 x_) (Rep.sl (Rep.int .i64)) false F7 W8 l5 es3 ck4) ∧ (Ext w0 F W F7 W8)) ?_ ?_
 ·
  rintro ⟨es3, ck4, l5, F7, W8⟩ ⟨hp, h6, hx1⟩
  unfold tourref3_FittedAll_j1 at hp
  refine st_seq (st_region [oF 0, oF 1, oF 2] (by rfl) ?_)
  refine oQ [oF 0, oF 1, oF 2] [(5, vI 0), (4, .map (some g1))] (by kernel_rfl) ?_
  refine ops_nil (fin_then (st_ret ?_))
  refine fin_ex (σ := (Nat → Prop) × World) (I := fun x_ => Ext w0 F7 W8 x_.1 x_.2 ∧ RdM (fun x_ : Int => Value.int .i64 x_) (Rep.sl (Rep.int .i64)) false x_.1 x_.2 (some g1) (some l5)) (M' := fun x_ => Mem w0 (Fz x_.1 x_.2 :: cs)) (fun w_ hM => ?_) ?_
  · obtain ⟨F_, h1_, h2_, h3_⟩ := (hM.pick 2 [0, 1] (by kernel_rfl) (by decide) rfl : Mem w0 (.obj g1 (.map es3 ck4) :: Fz F7 W8 :: cs) w_).freezeMap h6
    exact ⟨(F_, w_), ⟨h1_, h2_⟩, h3_.pick 1 [0] (by kernel_rfl) (by decide) rfl⟩
  rintro ⟨F9, W10⟩ ⟨hx11, h12⟩
  have hx11 : Ext w0 F7 W8 F9 W10 := hx11
  have h12 : RdM (fun x_ : Int => Value.int .i64 x_) (Rep.sl (Rep.int .i64)) false F9 W10 (some g1) (some l5) := h12
  refine fin_conv (l' := [(5, vI 0), (4, .map (some g1))]) (M' := Mem w0 (Fz F9 W10 :: cs)) rfl (fun _ h => h) ?_
  refine fin_conv (l' := [(5, vI 0), (4, .map (some g1))]) (M' := Mem w0 (Fz F9 W10 :: cs)) rfl (fun _ h => h) ?_
  have hq_ := Option.some.inj hp
  obtain ⟨hr0_, hq_⟩ := Prod.mk.inj hq_
  have hr1_ := hq_
  subst hr0_
  subst hr1_
  refine fin_ret [.tmp 4, .tmp 5] [.map (some g1), vI 0] rfl rfl (fun w_ hM => (.tmp rfl (.tmp rfl .nil))) (fun w_ hM => ?_)
  exact ⟨(some g1), F9, W10, ⟨h12, (hx1.trans hx11)⟩, rfl, hM⟩
 ·
  intro HJ1
  refine st_seq (st_seq (st_region [oF 0, oF 1, oF 2] (by rfl) ?_))
  refine oQ [oF 0, oF 1, oF 2] [(16, vI 0), (15, vI (l.length : Int)), (14, sl A_l l c_l), (6, .map (some g1)), (0, sl A_k k c_k)] (by kernel_rfl) ?_
  refine ops_nil (fin_then (st_block ?_))
  obtain ⟨r2, hl2, hk2⟩ := obind hp
  refine st_loopP (σ := (List (Int × (List Int))) × Int) (ρ := (((Option (List (Int × (List Int)))) × Int) ⊕ (List (Int × (List Int))))) (γ := (Array MapEntry) × Nat × (Nat → Prop) × World) hl2 (#[], 0, F, W) (fun s_ g_ => match s_, g_ with | (l15, i17), (es13, ck14, F18, W19) => [(0, sl A_k k c_k), (6, .map (some g1)), (14, sl A_l l c_l), (15, vI (l.length : Int)), (16, vI i17)]) (fun s_ g_ => match s_, g_ with | (l15, i17), (es13, ck14, F18, W19) => Mem w0 (.obj g1 (.map es13 ck14) :: Fz F18 W19 :: cs)) (fun s_ g_ => match s_, g_ with | (l15, i17), (es13, ck14, F18, W19) => (MapOK (fun x_ : Int => Value.int .i64 x_) (Rep.sl (Rep.int .i64)) false F18 W19 l15 es13 ck14) ∧ (Ext w0 F W F18 W19)) ⟨h2, (Ext.refl _ _ _)⟩ (look_has ⟨rfl, rfl, rfl, rfl, rfl, trivial⟩) (fun w_ hM => hM) ?_
  rintro ⟨l15, i17⟩ ⟨es13, ck14, F18, W19⟩ o2 ⟨h16, hx2⟩ hs_ hd2
  have hp : (tourref3_FittedAll_l2 l k) l15 i17 = some o2 := hs_
  clear hs_
  unfold tourref3_FittedAll_l2 at hp
  have h_k := h_k.ext hx2
  have h_l := h_l.ext hx2
  refine st_seq (st_region [oF 0] (by rfl) ?_)
  refine oQ [oF 0] [(17, .bool (decide (i17 < (l.length : Int)))), (0, sl A_k k c_k), (6, .map (some g1)), (14, sl A_l l c_l), (15, vI (l.length : Int)), (16, vI i17)] (by kernel_rfl) ?_
  refine ops_nil (fin_then (st_seq ?_))
  refine st_if (b := decide (i17 < (l.length : Int))) rfl (fun hc20 => ?_) (fun hc20 => ?_)
  ·
   have hp := cnd_t hc20 hp
   refine st_skip (fin_then (st_seq (st_block (st_seq (st_region [oF 0, oF 1, oF 2, oF 3] (by rfl) ?_)))))
   obtain ⟨x21, hv22, hp⟩ := obind hp
   obtain ⟨m23, hm24, hx25⟩ := idx_some hv22
   have hl28 := (List.getElem?_eq_some_iff.1 hx25).1
   obtain ⟨ad29, vs26, hA30, hr27, hq31⟩ := RdS.el h_l hx25
   obtain ⟨A32, c33, rfl, h34⟩ := dec_api_Comp hr27
   refine ops_val (op := (.indexAddr 27 (.tmp 14) (.tmp 16))) (d := some 18) (v := .pointer (some (ad29.add (m23 * 2)))) ⟨by kernel_rfl⟩ (run_indexA hA30 Tryz.underlying27 (z := 2) (by kernel_rfl) rfl rfl hm24 hl28) ?_
   refine ops_mem (d := some 19) (an := [.v (vI x21.Kind), .v (sl A32 x21.Vals c33)]) (evs := [.load (ad29.add (m23 * 2)) (vI x21.Kind), .load ((ad29.add (m23 * 2)).add 1) (sl A32 x21.Vals c33)]) (v := .agg #[vI x21.Kind, sl A32 x21.Vals c33]) ⟨by kernel_rfl⟩ (fun w_ hM hS => ⟨w_, ⟨hM.elcell 1 rfl hq31 0 rfl, hM.elcell 1 rfl hq31 1 rfl, rfl⟩, hM, trivial⟩) ?_
   refine ops_newB (d := some 8) [vI 0, .slice none 0 0] 42 (fun b35 => ⟨by kernel_rfl⟩) (fun w_ hM hS => trivial) (fun b35 => ?_)
   refine ops_store (an := []) (evs := [sr b35 0 (vI x21.Kind), sr b35 1 (sl A32 x21.Vals c33)]) ⟨by kernel_rfl⟩ (fun w_ hM hS => let ⟨w', he, h'⟩ := hM.evs_stores [vI x21.Kind, sl A32 x21.Vals c33] 0 rfl 0 (Nat.le_of_ble_eq_true rfl); ⟨w', he, h', trivial⟩) ?_
   refine ops_nil (fin_then (st_seq (st_seq (st_region [oF 0, oF 1, oF 2, oF 3, oF 4, oF 5, oF 6, oF 7, oF 8, oF 9] (by rfl) ?_))))
   refine oQ [oF 0] [(20, vP b35 0), (8, vP b35 0), (0, sl A_k k c_k), (6, .map (some g1)), (14, sl A_l l c_l), (15, vI (l.length : Int)), (16, vI i17)] (by kernel_rfl) ?_
   refine ops_mem (d := some 21) (an := [.v (vI x21.Kind)]) (evs := [ld b35 0 (vI x21.Kind)]) (v := vI x21.Kind) ⟨by kernel_rfl⟩ (fun w_ hM hS => ⟨w_, ⟨hM.cell 0 rfl rfl, rfl⟩, hM, trivial⟩) ?_
   refine oQ [oF 2, oF 3] [(23, .bool (decide (x21.Kind < 0))), (8, vP b35 0), (0, sl A_k k c_k), (6, .map (some g1)), (14, sl A_l l c_l), (15, vI (l.length : Int)), (16, vI i17)] (by kernel_rfl) ?_
   refine ops_bool (t := decide (x21.Kind < 0)) (l1 := [(23, .bool true), (8, vP b35 0), (0, sl A_k k c_k), (6, .map (some g1)), (14, sl A_l l c_l), (15, vI (l.length : Int)), (16, vI i17)]) (l2 := [(23, .bool false), (8, vP b35 0), (0, sl A_k k c_k), (6, .map (some g1)), (14, sl A_l l c_l), (15, vI (l.length : Int)), (16, vI i17)]) (fun h => by rw [h]) (fun h => by rw [h]) (fun hc36 => ?_) (fun hc36 => ?_)
   ·
    have hp := cnd_t hc36 hp
    refine oQ [oF 4, oF 5, oF 6, oF 7, oF 8, oF 9] [(29, .bool true), (8, vP b35 0), (0, sl A_k k c_k), (6, .map (some g1)), (14, sl A_l l c_l), (15, vI (l.length : Int)), (16, vI i17)] (by kernel_rfl) ?_
    refine ops_nil (fin_then (st_true rfl (st_seq (st_region [oF 0, oF 1] (by rfl) ?_))))
    refine oQ [oF 0, oF 1] [(5, vI 1), (4, .map none)] (by kernel_rfl) ?_
    refine ops_nil (fin_then (st_ret (fin_ret_then (fin_ret_block (fin_ret_then (fin_ret_then (fin_ret_block (fin_ret_then ?_))))))))
    obtain hq_ := Option.some.inj hp
    subst hq_
    obtain hq_ := hd2 _ rfl
    subst hq_
    have hp : some (none, 1) = some (x9002, i9004) := hk2
    have hq_ := Option.some.inj hp
    obtain ⟨hr0_, hq_⟩ := Prod.mk.inj hq_
    have hr1_ := hq_
    subst hr0_
    subst hr1_
    refine fin_ret [.tmp 4, .tmp 5] [.map none, vI 1] rfl rfl (fun w_ hM => (.tmp rfl (.tmp rfl .nil))) (fun w_ hM => ?_)
    exact ⟨none, F18, W19, ⟨rfl, hx2⟩, rfl, hM.pick 3 [2] (by kernel_rfl) (by decide) rfl⟩
   ·
    have hp := cnd_f hc36 hp
    refine oQ [oF 4] [(24, vP b35 0), (23, .bool false), (8, vP b35 0), (0, sl A_k k c_k), (6, .map (some g1)), (14, sl A_l l c_l), (15, vI (l.length : Int)), (16, vI i17)] (by kernel_rfl) ?_
    refine ops_mem (d := some 25) (an := [.v (vI x21.Kind)]) (evs := [ld b35 0 (vI x21.Kind)]) (v := vI x21.Kind) ⟨by kernel_rfl⟩ (fun w_ hM hS => ⟨w_, ⟨hM.cell 0 rfl rfl, rfl⟩, hM, trivial⟩) ?_
    refine oQ [oF 6, oF 7, oF 8, oF 9] [(29, .bool (decide ((k.length : Int) ≤ x21.Kind))), (8, vP b35 0), (0, sl A_k k c_k), (6, .map (some g1)), (14, sl A_l l c_l), (15, vI (l.length : Int)), (16, vI i17)] (by kernel_rfl) ?_
    refine ops_nil (fin_then ?_)
    refine st_if (b := decide ((k.length : Int) ≤ x21.Kind)) rfl (fun hc37 => ?_) (fun hc37 => ?_)
    ·
     have hp := cnd_t hc37 hp
     refine st_seq (st_region [oF 0, oF 1] (by rfl) ?_)
     refine oQ [oF 0, oF 1] [(5, vI 1), (4, .map none)] (by kernel_rfl) ?_
     refine ops_nil (fin_then (st_ret (fin_ret_then (fin_ret_block (fin_ret_then (fin_ret_then (fin_ret_block (fin_ret_then ?_))))))))
     obtain hq_ := Option.some.inj hp
     subst hq_
     obtain hq_ := hd2 _ rfl
     subst hq_
     have hp : some (none, 1) = some (x9002, i9004) := hk2
     have hq_ := Option.some.inj hp
     obtain ⟨hr0_, hq_⟩ := Prod.mk.inj hq_
     have hr1_ := hq_
     subst hr0_
     subst hr1_
     refine fin_ret [.tmp 4, .tmp 5] [.map none, vI 1] rfl rfl (fun w_ hM => (.tmp rfl (.tmp rfl .nil))) (fun w_ hM => ?_)
     exact ⟨none, F18, W19, ⟨rfl, hx2⟩, rfl, hM.pick 3 [2] (by kernel_rfl) (by decide) rfl⟩
    ·
     have hp := cnd_f hc37 hp
     refine st_skip (fin_then (st_seq (st_seq (st_region [oF 0, oF 1, oF 2, oF 3, oF 4, oF 5, oF 6, oF 7, oF 8] (by rfl) ?_))))
     refine oQ [oF 0, oF 1] [(32, vP b35 0), (31, .map (some g1)), (8, vP b35 0), (0, sl A_k k c_k), (6, .map (some g1)), (14, sl A_l l c_l), (15, vI (l.length : Int)), (16, vI i17)] (by kernel_rfl) ?_
     refine ops_mem (d := some 33) (an := [.v (vI x21.Kind)]) (evs := [ld b35 0 (vI x21.Kind)]) (v := vI x21.Kind) ⟨by kernel_rfl⟩ (fun w_ hM hS => ⟨w_, ⟨hM.cell 0 rfl rfl, rfl⟩, hM, trivial⟩) ?_
     obtain ⟨x38, hv39, hp⟩ := obind hp
     obtain ⟨vs40, hr41, hrun42⟩ := h16.get (KeyLaw.int Tryz.underlying3) Tryz.underlying37 x21.Kind ([] : List Int) ((slrd (RdS.empty _))) (fun u_ => Tryz.zeroValue23 u_)
     have hr41 : (Rep.sl (Rep.int .i64)).rd F18 W19 x38 vs40 := by rw [← Option.some.inj hv39]; exact hr41
     obtain ⟨A43, c44, rfl, h45⟩ := hr41
     refine ops_law (op := (.lookup 37 (.tmp 31) (.tmp 33) true)) (d := some 34) (σ := Unit) (v := fun _ => .tuple #[sl A43 x38 c44, .bool ((mget l15 x21.Kind).isSome)]) (M' := fun _ => Mem w0 (.blk b35 [vI x21.Kind, sl A32 x21.Vals c33] 42 :: .obj g1 (.map es13 ck14) :: Fz F18 W19 :: cs)) ⟨by kernel_rfl⟩ (fun o_ w_ ho_ hM hS => ⟨(), w_, run_lookupV rfl rfl (hrun42 true g1 w_ (hM.mapAt 1 rfl)) o_ ho_, hM, trivial⟩) (fun _ => ?_)
     refine oQ [oF 4, oF 5, oF 6, oF 7, oF 8] [(10, .bool ((mget l15 x21.Kind).isSome)), (8, vP b35 0), (0, sl A_k k c_k), (6, .map (some g1)), (14, sl A_l l c_l), (15, vI (l.length : Int)), (16, vI i17)] (by kernel_rfl) ?_
     refine ops_nil (fin_then (st_seq (st_region [oF 0] (by rfl) ?_)))
     refine oQ [oF 0] [(37, .bool ((mget l15 x21.Kind).isSome)), (8, vP b35 0), (0, sl A_k k c_k), (6, .map (some g1)), (14, sl A_l l c_l), (15, vI (l.length : Int)), (16, vI i17)] (by kernel_rfl) ?_
     refine ops_nil (fin_then ?_)
     refine st_if (b := (mget l15 x21.Kind).isSome) rfl (fun hc46 => ?_) (fun hc46 => ?_)
     ·
      have hp := cnd_t hc46 hp
      refine st_seq (st_region [oF 0, oF 1] (by rfl) ?_)
      refine oQ [oF 0, oF 1] [(5, vI 5), (4, .map none)] (by kernel_rfl) ?_
      refine ops_nil (fin_then (st_ret (fin_ret_then (fin_ret_block (fin_ret_then (fin_ret_then (fin_ret_block (fin_ret_then ?_))))))))
      obtain hq_ := Option.some.inj hp
      subst hq_
      obtain hq_ := hd2 _ rfl
      subst hq_
      have hp : some (none, 5) = some (x9002, i9004) := hk2
      have hq_ := Option.some.inj hp
      obtain ⟨hr0_, hq_⟩ := Prod.mk.inj hq_
      have hr1_ := hq_
      subst hr0_
      subst hr1_
      refine fin_ret [.tmp 4, .tmp 5] [.map none, vI 5] rfl rfl (fun w_ hM => (.tmp rfl (.tmp rfl .nil))) (fun w_ hM => ?_)
      exact ⟨none, F18, W19, ⟨rfl, hx2⟩, rfl, hM.pick 3 [2] (by kernel_rfl) (by decide) rfl⟩
     ·
      have hp := cnd_f hc46 hp
      refine st_skip (fin_then (st_seq ?_))
      refine st_region_draw [oT 0, oT 1, oT 2, oT 3, oT 4, oT 5, oT 6, oF 7, oT 8, oT 9, oT 10, oT 11, oT 12] (Mem w0 (.blk b35 [vI x21.Kind, sl A32 x21.Vals c33] 42 :: .obj g1 (.map es13 ck14) :: Fz F18 W19 :: cs)) (by kernel_rfl) (by kernel_rfl) (by kernel_rfl) (fun _ d _ _ _ h => by cases d <;> exact h) (M' := Mem w0 (.blk b35 [vI x21.Kind, sl A32 x21.Vals c33] 42 :: .obj g1 (.map es13 ck14) :: Fz F18 W19 :: cs)) (fun w_ hM => ⟨hM.drew, hM.drew.sub (.cons_cons _ (.cons_cons _ (.cons_cons _ (.refl _))))⟩) ?_
      refine oQ [oT 0, oT 1] [(40, vP b35 0), (39, sl A_k k c_k), (8, vP b35 0), (0, sl A_k k c_k), (6, .map (some g1)), (14, sl A_l l c_l), (15, vI (l.length : Int)), (16, vI i17)] (by kernel_rfl) ?_
      refine ops_load (d := some 41) (an := [.v (vI x21.Kind)]) (evs := [ld b35 0 (vI x21.Kind)]) (v := vI x21.Kind) ⟨by kernel_rfl⟩ (fun w_ hM => ⟨hM.cell 0 rfl rfl, rfl⟩) ?_
      obtain ⟨x47, hv48, hp⟩ := obind hp
      obtain ⟨m49, hm50, hx51⟩ := idx_some hv48
      have hl54 := (List.getElem?_eq_some_iff.1 hx51).1
      obtain ⟨ad55, vs52, hA56, hr53, hq57⟩ := RdS.el h_k hx51
      obtain ⟨A58, c59, rfl, h60⟩ := dec_api_Kind hr53
      refine ops_val (op := (.indexAddr 22 (.tmp 39) (.tmp 41))) (d := some 42) (v := .pointer (some (ad55.add (m49 * 2)))) ⟨by kernel_rfl⟩ (run_indexA hA56 Tryz.underlying22 (z := 2) (by kernel_rfl) rfl rfl hm50 hl54) ?_
      refine ops_load (d := some 43) (an := [.v (.string x47.Name), .v (sl A58 x47.Fields c59)]) (evs := [.load (ad55.add (m49 * 2)) (.string x47.Name), .load ((ad55.add (m49 * 2)).add 1) (sl A58 x47.Fields c59)]) (v := .agg #[.string x47.Name, sl A58 x47.Fields c59]) ⟨by kernel_rfl⟩ (fun w_ hM => ⟨hM.elcell 2 rfl hq57 0 rfl, hM.elcell 2 rfl hq57 1 rfl, rfl⟩) ?_
      refine oQ [oT 5] [(44, vP b35 1), (43, .agg #[.string x47.Name, sl A58 x47.Fields c59]), (8, vP b35 0), (0, sl A_k k c_k), (6, .map (some g1)), (14, sl A_l l c_l), (15, vI (l.length : Int)), (16, vI i17)] (by kernel_rfl) ?_
      refine ops_load (d := some 45) (an := [.v (sl A32 x21.Vals c33)]) (evs := [ld b35 1 (sl A32 x21.Vals c33)]) (v := sl A32 x21.Vals c33) ⟨by kernel_rfl⟩ (fun w_ hM => ⟨hM.cell 0 rfl rfl, rfl⟩) ?_
      obtain ⟨x61, x62, hv63, hp⟩ := obind2 hp
      refine ops_callI (σ := (Option Addr) × Nat × (List Value)) (d := some 46) (f := 48) (args := #[.agg #[.string x47.Name, sl A58 x47.Fields c59], sl A32 x21.Vals c33]) (v := (fun x_ => match x_ with | (A64, c65, y66) => .tuple #[sl A64 x61 c65, vI x62])) (I := (fun x_ => match x_ with | (A64, c65, y66) => (RepL (Rep.int .i64) F18 W19 x61 y66))) (M' := (fun x_ => match x_ with | (A64, c65, y66) => Mem w0 (ow A64 x61 c65 3 1 y66 :: .blk b35 [vI x21.Kind, sl A32 x21.Vals c33] 42 :: .obj g1 (.map es13 ck14) :: Fz F18 W19 :: cs))) ⟨by kernel_rfl⟩ (fun w_ hM hS => (tourref3_Fitted_ok w0 w_ (.blk b35 [vI x21.Kind, sl A32 x21.Vals c33] 42 :: .obj g1 (.map es13 ck14) :: cs) F18 W19 x47.Name A58 c59 x47.Fields A32 c33 x21.Vals (hM.pick 3 [2, 0, 1] (by kernel_rfl) (by decide) rfl) h60 h34 x61 x62 hv63).mono (by rintro e w' ⟨A64, c65, y66, h67, rfl, h'⟩; have h' : Mem w0 (ow A64 x61 c65 3 1 y66 :: .blk b35 [vI x21.Kind, sl A32 x21.Vals c33] 42 :: .obj g1 (.map es13 ck14) :: Fz F18 W19 :: cs) w' := (h'.pick 4 [0, 2, 3, 1] (by kernel_rfl) (by decide) rfl); exact ⟨(A64, c65, y66), h67, rfl, h', (by exact h'.sub (.cons _ (.cons_cons _ (.cons_cons _ (.cons_cons _ (.refl _))))))⟩)) ?_
      rintro ⟨A64, c65, y66⟩ h67
      refine oQ [oT 8, oT 9, oT 10, oT 11, oT 12] [(12, vI x62), (11, sl A64 x61 c65), (8, vP b35 0), (0, sl A_k k c_k), (6, .map (some g1)), (14, sl A_l l c_l), (15, vI (l.length : Int)), (16, vI i17)] (by kernel_rfl) ?_
      refine ops_nil (fin_then (st_seq (st_seq (st_region [oF 0, oF 1] (by rfl) ?_))))
      refine oQ [oF 0, oF 1] [(50, .bool (!(x62 == 0))), (12, vI x62), (11, sl A64 x61 c65), (8, vP b35 0), (0, sl A_k k c_k), (6, .map (some g1)), (14, sl A_l l c_l), (15, vI (l.length : Int)), (16, vI i17)] (by kernel_rfl) ?_
      refine ops_nil (fin_then ?_)
      refine st_if (b := !(x62 == 0)) rfl (fun hc68 => ?_) (fun hc68 => ?_)
      ·
       have hp := cnd_t hc68 hp
       refine st_seq (st_region [oF 0, oF 1, oF 2] (by rfl) ?_)
       refine oQ [oF 0, oF 1, oF 2] [(5, vI x62), (4, .map none)] (by kernel_rfl) ?_
       refine ops_nil (fin_then (st_ret (fin_ret_then (fin_ret_block (fin_ret_then (fin_ret_then (fin_ret_block (fin_ret_then ?_))))))))
       obtain hq_ := Option.some.inj hp
       subst hq_
       obtain hq_ := hd2 _ rfl
       subst hq_
       have hp : some (none, x62) = some (x9002, i9004) := hk2
       have hq_ := Option.some.inj hp
       obtain ⟨hr0_, hq_⟩ := Prod.mk.inj hq_
       have hr1_ := hq_
       subst hr0_
       subst hr1_
       refine fin_ret [.tmp 4, .tmp 5] [.map none, vI x62] rfl rfl (fun w_ hM => (.tmp rfl (.tmp rfl .nil))) (fun w_ hM => ?_)
       exact ⟨none, F18, W19, ⟨rfl, hx2⟩, rfl, hM.pick 4 [3] (by kernel_rfl) (by decide) rfl⟩
      ·
       have hp := cnd_f hc68 hp
       refine st_skip (fin_then (st_region [oF 0, oF 1, oF 2, oF 3, oF 4] (by rfl) ?_))
       refine oQ [oF 0, oF 1] [(53, vP b35 0), (52, .map (some g1)), (11, sl A64 x61 c65), (0, sl A_k k c_k), (6, .map (some g1)), (14, sl A_l l c_l), (15, vI (l.length : Int)), (16, vI i17)] (by kernel_rfl) ?_
       refine ops_mem (d := some 54) (an := [.v (vI x21.Kind)]) (evs := [ld b35 0 (vI x21.Kind)]) (v := vI x21.Kind) ⟨by kernel_rfl⟩ (fun w_ hM hS => ⟨w_, ⟨hM.cell 1 rfl rfl, rfl⟩, hM, trivial⟩) ?_
       refine oQ [oF 3] [(55, sl A64 x61 c65), (54, vI x21.Kind), (52, .map (some g1)), (0, sl A_k k c_k), (6, .map (some g1)), (14, sl A_l l c_l), (15, vI (l.length : Int)), (16, vI i17)] (by kernel_rfl) ?_
       refine ops_ex (σ := (Nat → Prop) × World) (I := fun x_ => Ext w0 F18 W19 x_.1 x_.2 ∧ RdS (Rep.int .i64) x_.1 x_.2 A64 c65 x61) (M' := fun x_ => Mem w0 (.blk b35 [vI x21.Kind, sl A32 x21.Vals c33] 42 :: .obj g1 (.map es13 ck14) :: Fz x_.1 x_.2 :: cs)) (fun w_ hM => ?_) ?_
       · obtain ⟨F_, h1_, h2_, h3_⟩ := (hM.pick 4 [0, 3, 1, 2] (by kernel_rfl) (by decide) rfl : Mem w0 (ow A64 x61 c65 3 1 y66 :: Fz F18 W19 :: .blk b35 [vI x21.Kind, sl A32 x21.Vals c33] 42 :: .obj g1 (.map es13 ck14) :: cs) w_).freeze (z := 1) h67 rfl rfl
         exact ⟨(F_, w_), ⟨h1_, h2_⟩, h3_.pick 3 [1, 2, 0] (by kernel_rfl) (by decide) rfl⟩
       rintro ⟨F69, W70⟩ ⟨hx71, h72⟩
       have hx71 : Ext w0 F18 W19 F69 W70 := hx71
       have h72 : RdS (Rep.int .i64) F69 W70 A64 c65 x61 := h72
       have h_k := h_k.ext hx71
       have h_l := h_l.ext hx71
       have h34 := h34.ext hx71
       have h16 := h16.ext hx71
       obtain ⟨l73, hv74, hp⟩ := obind hp
       obtain ⟨es75, ck76, h77, hrun78⟩ := MapOK.update h16 (KeyLaw.int Tryz.underlying3) Tryz.underlying37 x21.Kind (v := x61) (vs := [sl A64 x61 c65]) ((slrd h72))
       rw [Option.some.inj hv74] at h77
       refine ops_unit (op := (.mapUpdate 37 (.tmp 52) (.tmp 54) (.tmp 55))) (σ := Unit) (M' := fun _ => Mem w0 (.blk b35 [vI x21.Kind, sl A32 x21.Vals c33] 42 :: .obj g1 (.map es75 ck76) :: Fz F69 W70 :: cs)) ⟨by kernel_rfl⟩ (fun o_ w_ ho_ hM hS => have h' := hM.setObj 1 rfl _; ⟨(), _, run_updateV rfl rfl rfl (hrun78 g1 w_ (hM.mapAt 1 rfl)) o_ ho_, h', trivial⟩) (fun _ => ?_)
       refine ops_nil (fin_block (fin_then (st_region [oF 0, oF 1] (by rfl) ?_)))
       refine oQ [oF 0, oF 1] [(16, vI (IntKind.i64.wrap (i17 + 1))), (0, sl A_k k c_k), (6, .map (some g1)), (14, sl A_l l c_l), (15, vI (l.length : Int))] (by kernel_rfl) ?_
       refine ops_nil ?_
       exact fin_again (l73, IntKind.i64.wrap (i17 + 1)) (es75, ck76, F69, W70) (Option.some.inj hp).symm ⟨h77, (hx2.trans hx71)⟩ (look_has ⟨rfl, rfl, rfl, rfl, rfl, trivial⟩) (fun w_ hM => hM.pick 3 [1, 2] (by kernel_rfl) (by decide) rfl)
  ·
   have hp := cnd_f hc20 hp
   refine st_exit (fin_exit_then (fin_exit_then (fin_exit ?_)))
   obtain hq_ := Option.some.inj hp
   subst hq_
   obtain hq_ := hd2 _ rfl
   subst hq_
   have hp : tourref3_FittedAll_j1 l15 = some (x9002, i9004) := hk2
   exact fin_join HJ1 (es13, ck14, l15, F18, W19) ⟨hp, h16, hx2⟩ (look_has ⟨rfl, trivial⟩) (fun w_ hM => hM)
theorem tourref3_Listed_ok (w0 w : World) (cs : List Chunk) (F : Nat → Prop) (W : World) (B_m : Option Nat) (m : Option (List (Int × (List Int)))) (hM0 : Mem w0 (Fz F W :: cs) w) (h_m : RdM (fun x_ : Int => Value.int .i64 x_) (Rep.sl (Rep.int .i64)) false F W B_m m) (l9003 : List api_Comp) (hp : tourref3_Listed m = some l9003) : Calls Tryz.prog 11 #[.map B_m] w fun e w' => ∃ (A9001 : Option Addr), ∃ (c9002 : Nat), ∃ (y9004 : List Value), ∃ (F9006 : Nat → Prop), ∃ (W9007 : World), ((RepL R_api_Comp F9006 W9007 l9003 y9004) ∧ (Ext w0 F W F9006 W9007)) ∧ e = .returned (sl A9001 l9003 c9002) ∧ Mem w0 (ow A9001 l9003 c9002 42 2 y9004 :: Fz F9006 W9007 :: cs) w' := by
 unfold tourref3_Listed at hp
 refine sx_calls Tryz.func11 rfl (n := 26) (by kernel_rfl) (l := [(0, .map B_m)]) rfl (by rfl) hM0 ?_
 refine st_seq (st_region [oF 0] (by rfl) ?_)
 refine oQ [oF 0] [(0, .map B_m)] (by kernel_rfl) ?_
 refine ops_nil (fin_then (st_seq (st_region [oF 0] (by rfl) ?_)))
 refine oQ [oF 0] [(3, .slice none 0 0), (0, .map B_m)] (by kernel_rfl) ?_
 refine ops_nil (fin_then ?_)
 refine st_join1 (σ := (Option Addr) × Nat × (List api_Comp) × (List Value) × (Nat → Prop) × World) (L := fun x_ => match x_ with | (A1, c2, l3, y4, F6, W7) => [(3, sl A1 l3 c2)]) (N := fun x_ => match x_ with | (A1, c2, l3, y4, F6, W7) => Mem w0 (ow A1 l3 c2 42 2 y4 :: Fz F6 W7 :: cs)) (I := fun x_ => match x_ with | (A1, c2, l3, y4, F6, W7) => (tourref3_Listed_j1 l3 = some l9003) ∧ (RepL R_api_Comp F6 W7 l3 y4) ∧ (Ext w0 F W F6 W7)) ?_ ?_
 ·
  rintro ⟨A1, c2, l3, y4, F6, W7⟩ ⟨hp, h5, hx1⟩
  unfold tourref3_Listed_j1 at hp
  refine st_seq (st_region [oF 0, oF 1] (by rfl) ?_)
  refine oQ [oF 0, oF 1] [(2, sl A1 l3 c2)] (by kernel_rfl) ?_
  refine ops_nil (fin_then (st_ret ?_))
  have hq_ := Option.some.inj hp
  have hr0_ := hq_
  subst hr0_
  refine fin_ret [.tmp 2] [sl A1 l3 c2] rfl rfl (fun w_ hM => (.tmp rfl .nil)) (fun w_ hM => ?_)
  exact ⟨A1, c2, y4, F6, W7, ⟨h5, hx1⟩, rfl, hM⟩
 ·
  intro HJ1
  refine st_seq (st_seq (st_region [oF 0] (by rfl) ?_))
  refine oQ [oF 0] [(7, vI 0), (3, .slice none 0 0), (0, .map B_m)] (by kernel_rfl) ?_
  refine ops_nil (fin_then (st_block ?_))
  refine st_conv (l' := [(7, vI 0), (3, .slice none 0 0), (0, .map B_m)]) (M' := Mem w0 (ow none ([] : List api_Comp) 0 42 2 [] :: Fz F W :: cs)) rfl (fun w_ h => h.onil none 42 2) ?_
  obtain ⟨r2, hl2, hk2⟩ := obind hp
  refine st_loopP (σ := (List api_Comp) × Int) (ρ := (List api_Comp)) (γ := (Option Addr) × Nat × (List Value) × (Nat → Prop) × World) hl2 (none, 0, [], F, W) (fun s_ g_ => match s_, g_ with | (l10, i13), (A8, c9, y11, F14, W15) => [(0, .map B_m), (3, sl A8 l10 c9), (7, vI i13)]) (fun s_ g_ => match s_, g_ with | (l10, i13), (A8, c9, y11, F14, W15) => Mem w0 (ow A8 l10 c9 42 2 y11 :: Fz F14 W15 :: cs)) (fun s_ g_ => match s_, g_ with | (l10, i13), (A8, c9, y11, F14, W15) => (RepL R_api_Comp F14 W15 l10 y11) ∧ (Ext w0 F W F14 W15)) ⟨(RepL.nil (R := R_api_Comp)), (Ext.refl _ _ _)⟩ (look_has ⟨rfl, rfl, rfl, trivial⟩) (fun w_ hM => hM) ?_
  rintro ⟨l10, i13⟩ ⟨A8, c9, y11, F14, W15⟩ o2 ⟨h12, hx2⟩ hs_ hd2
  have hp : (tourref3_Listed_l2 m) l10 i13 = some o2 := hs_
  clear hs_
  unfold tourref3_Listed_l2 at hp
  have h_m := h_m.ext hx2
  refine st_seq (st_region [oF 0] (by rfl) ?_)
  refine oQ [oF 0] [(8, .bool (decide (i13 < 16))), (0, .map B_m), (3, sl A8 l10 c9), (7, vI i13)] (by kernel_rfl) ?_
  refine ops_nil (fin_then (st_seq ?_))
  refine st_if (b := decide (i13 < 16)) rfl (fun hc16 => ?_) (fun hc16 => ?_)
  ·
   have hp := cnd_t hc16 hp
   refine st_skip (fin_then ?_)
   refine st_join1 (σ := (Option Addr) × Nat × (List api_Comp) × (List Value) × (Nat → Prop) × World) (L := fun x_ => match x_ with | (A17, c18, l19, y20, F22, W23) => [(0, .map B_m), (3, sl A17 l19 c18), (7, vI i13)]) (N := fun x_ => match x_ with | (A17, c18, l19, y20, F22, W23) => Mem w0 (ow A17 l19 c18 42 2 y20 :: Fz F22 W23 :: cs)) (I := fun x_ => match x_ with | (A17, c18, l19, y20, F22, W23) => ((tourref3_Listed_j3 i13) l19 = some o2) ∧ (RepL R_api_Comp F22 W23 l19 y20) ∧ (Ext w0 F14 W15 F22 W23)) ?_ ?_
   ·
    rintro ⟨A17, c18, l19, y20, F22, W23⟩ ⟨hp, h21, hx3⟩
    have h_m := h_m.ext hx3
    unfold tourref3_Listed_j3 at hp
    refine st_region [oF 0, oF 1] (by rfl) ?_
    refine oQ [oF 0, oF 1] [(7, vI (IntKind.i64.wrap (i13 + 1))), (0, .map B_m), (3, sl A17 l19 c18)] (by kernel_rfl) ?_
    refine ops_nil ?_
    exact fin_again (l19, IntKind.i64.wrap (i13 + 1)) (A17, c18, y20, F22, W23) (Option.some.inj hp).symm ⟨h21, (hx2.trans hx3)⟩ (look_has ⟨rfl, rfl, rfl, trivial⟩) (fun w_ hM => hM)
   ·
    intro HJ3
    refine st_seq (st_block (st_seq (st_region [oF 0, oF 1] (by rfl) ?_)))
    refine oQ [oF 0, oF 1] [(4, vI i13), (0, .map B_m), (3, sl A8 l10 c9), (7, vI i13)] (by kernel_rfl) ?_
    refine ops_nil (fin_then (st_seq (st_region [oF 0, oF 1, oF 2, oF 3, oF 4, oF 5, oF 6, oF 7] (by rfl) ?_)))
    refine oQ [oF 0, oF 1] [(12, vI i13), (11, .map B_m), (4, vI i13), (0, .map B_m), (3, sl A8 l10 c9), (7, vI i13)] (by kernel_rfl) ?_
    obtain ⟨x24, hv25, hp⟩ := obind hp
    obtain ⟨vs26, hr27, hrun28⟩ := h_m.get (KeyLaw.int Tryz.underlying3) Tryz.underlying37 i13 ([] : List Int) ((slrd (RdS.empty _))) (fun u_ => Tryz.zeroValue23 u_)
    have hr27 : (Rep.sl (Rep.int .i64)).rd F14 W15 x24 vs26 := by rw [← Option.some.inj hv25]; exact hr27
    obtain ⟨A29, c30, rfl, h31⟩ := hr27
    refine ops_law (op := (.lookup 37 (.tmp 11) (.tmp 12) true)) (d := some 13) (σ := Unit) (v := fun _ => .tuple #[sl A29 x24 c30, .bool ((mget (m.getD []) i13).isSome)]) (M' := fun _ => Mem w0 (ow A8 l10 c9 42 2 y11 :: Fz F14 W15 :: cs)) ⟨by kernel_rfl⟩ (fun o_ w_ ho_ hM hS => ⟨(), w_, run_lookupV rfl rfl (hrun28 true w_ (hM.fz 1 rfl)) o_ ho_, hM, trivial⟩) (fun _ => ?_)
    refine oQ [oF 3, oF 4, oF 5, oF 6, oF 7] [(6, .bool ((mget (m.getD []) i13).isSome)), (5, sl A29 x24 c30), (4, vI i13), (0, .map B_m), (3, sl A8 l10 c9), (7, vI i13)] (by kernel_rfl) ?_
    refine ops_nil (fin_then (st_seq (st_region [oF 0] (by rfl) ?_)))
    refine oQ [oF 0] [(16, .bool ((mget (m.getD []) i13).isSome)), (5, sl A29 x24 c30), (4, vI i13), (0, .map B_m), (3, sl A8 l10 c9), (7, vI i13)] (by kernel_rfl) ?_
    refine ops_nil (fin_then ?_)
    refine st_if (b := (mget (m.getD []) i13).isSome) rfl (fun hc32 => ?_) (fun hc32 => ?_)
    ·
     have hp := cnd_t hc32 hp
     refine st_region [oF 0, oF 1, oF 2, oF 3, oF 4, oF 5, oF 6, oF 7] (by rfl) ?_
     refine oQ [oF 0, oF 1, oF 2] [(19, sl A29 x24 c30), (18, vI i13), (17, sl A8 l10 c9), (0, .map B_m), (3, sl A8 l10 c9), (7, vI i13)] (by kernel_rfl) ?_
     obtain ⟨x33, hv34, hp⟩ := obind hp
     refine ops_callI (σ := (Option Addr) × Nat × (List Value)) (d := some 20) (f := 49) (args := #[sl A29 x24 c30]) (v := (fun x_ => match x_ with | (A35, c36, y37) => sl A35 x33 c36)) (I := (fun x_ => match x_ with | (A35, c36, y37) => (RepL (Rep.int .i64) F14 W15 x33 y37))) (M' := (fun x_ => match x_ with | (A35, c36, y37) => Mem w0 (ow A35 x33 c36 3 1 y37 :: ow A8 l10 c9 42 2 y11 :: Fz F14 W15 :: cs))) ⟨by kernel_rfl⟩ (fun w_ hM hS => (slices_Clone_int_int_ok w0 w_ (ow A8 l10 c9 42 2 y11 :: cs) F14 W15 A29 c30 x24 (hM.pick 2 [1, 0] (by kernel_rfl) (by decide) rfl) h31 x33 hv34).mono (by rintro e w' ⟨A35, c36, y37, h38, rfl, h'⟩; have h' : Mem w0 (ow A35 x33 c36 3 1 y37 :: ow A8 l10 c9 42 2 y11 :: Fz F14 W15 :: cs) w' := (h'.pick 3 [0, 2, 1] (by kernel_rfl) (by decide) rfl); exact ⟨(A35, c36, y37), h38, rfl, h', trivial⟩)) ?_
     rintro ⟨A35, c36, y37⟩ h38
     refine oQ [oF 4] [(21, .agg #[vI i13, sl A35 x33 c36]), (17, sl A8 l10 c9), (0, .map B_m), (3, sl A8 l10 c9), (7, vI i13)] (by kernel_rfl) ?_
     refine ops_ex (σ := (Nat → Prop) × World) (I := fun x_ => Ext w0 F14 W15 x_.1 x_.2 ∧ RdS (Rep.int .i64) x_.1 x_.2 A35 c36 x33) (M' := fun x_ => Mem w0 (ow A8 l10 c9 42 2 y11 :: Fz x_.1 x_.2 :: cs)) (fun w_ hM => ?_) ?_
     · obtain ⟨F_, h1_, h2_, h3_⟩ := (hM.pick 3 [0, 2, 1] (by kernel_rfl) (by decide) rfl : Mem w0 (ow A35 x33 c36 3 1 y37 :: Fz F14 W15 :: ow A8 l10 c9 42 2 y11 :: cs) w_).freeze (z := 1) h38 rfl rfl
       exact ⟨(F_, w_), ⟨h1_, h2_⟩, h3_.pick 2 [1, 0] (by kernel_rfl) (by decide) rfl⟩
     rintro ⟨F39, W40⟩ ⟨hx41, h42⟩
     have hx41 : Ext w0 F14 W15 F39 W40 := hx41
     have h42 : RdS (Rep.int .i64) F39 W40 A35 c36 x33 := h42
     have h_m := h_m.ext hx41
     have h12 := h12.ext hx41
     have h43 : RepL R_api_Comp F39 W40 ([(api_Comp.mk i13 x33)] : List api_Comp) ([vI i13, sl A35 x33 c36]) := (RepL.cons (R := R_api_Comp) (F := F39) (w := W40) (vs := [vI i13, sl A35 x33 c36]) (ys := []) (enc_api_Comp h42) RepL.nil)
     refine ops_new (d := some 22) (o := .cells ([vI i13, sl A35 x33 c36] : List Value).toArray 42) (v := fun g44 => .slice (sa g44) ([(api_Comp.mk i13 x33)] : List api_Comp).length 1) (M' := fun g44 => Mem w0 (orow (sa g44) ([(api_Comp.mk i13 x33)] : List api_Comp).length 1 42 2 ([vI i13, sl A35 x33 c36]) :: ow A8 l10 c9 42 2 y11 :: Fz F39 W40 :: cs)) (fun g44 => ⟨by kernel_rfl⟩) (fun w_ hM hS => ⟨hM.onew [vI i13, sl A35 x33 c36] 42 1 2 rfl (by decide), trivial⟩) (fun g44 => ?_)
     obtain ⟨l45, hv46, hp⟩ := obind hp
     obtain ⟨he47, hb48⟩ := app_some hv46
     obtain ⟨y49, hy50⟩ : ∃ y_, y11 ++ ([vI i13, sl A35 x33 c36]) = y_ := ⟨_, rfl⟩
     have h51 : RepL R_api_Comp F39 W40 l45 y49 := by rw [he47, ← hy50]; exact RepL.app h12 h43
     refine ops_appendO (x := (Go.Operand.tmp 17)) (y := (Go.Operand.tmp 22)) (t := 27) (e := 42) (d := some 23) (n' := l45.length) (z := 2) (m := ([(api_Comp.mk i13 x33)] : List api_Comp).length) (bytes := 32) (xs' := y49) (news := ([vI i13, sl A35 x33 c36])) (zv := .agg #[vI 0, .slice none 0 0]) 1 ⟨by kernel_rfl⟩ rfl rfl Tryz.underlying27 (by kernel_rfl) (by rfl) rfl (fun w_ hM => hM.srcO 0 rfl) h43.len h43.one hb48 (by have z_ := congrArg List.length he47; rw [List.length_append] at z_; exact z_.symm) hy50 (fun _ _ _ _ hS h' => trivial) ?_
     rintro ⟨A52, c53⟩
     refine oQ [oF 7] [(3, sl A52 l45 c53), (0, .map B_m), (7, vI i13)] (by kernel_rfl) ?_
     refine ops_nil (fin_block ?_)
     exact fin_join HJ3 (A52, c53, l45, y49, F39, W40) ⟨hp, h51, hx41⟩ (look_has ⟨rfl, rfl, rfl, trivial⟩) (fun w_ hM => hM.pick 3 [1, 2] (by kernel_rfl) (by decide) rfl)
    ·
     have hp := cnd_f hc32 hp
     refine st_skip (fin_block ?_)
     exact fin_join HJ3 (A8, c9, l10, y11, F14, W15) ⟨hp, h12, (Ext.refl _ _ _)⟩ (look_has ⟨rfl, rfl, rfl, trivial⟩) (fun w_ hM => hM)
  ·
   have hp := cnd_f hc16 hp
   refine st_exit (fin_exit_then (fin_exit_then (fin_exit ?_)))
   obtain hq_ := Option.some.inj hp
   subst hq_
   obtain hq_ := hd2 _ rfl
   subst hq_
   have hp : tourref3_Listed_j1 l10 = some l9003 := hk2
   exact fin_join HJ1 (A8, c9, l10, y11, F14, W15) ⟨hp, h12, hx2⟩ (look_has ⟨rfl, trivial⟩) (fun w_ hM => hM)
end Go.Proofs.YtbfndcookgijfaaGreatDoor.W
