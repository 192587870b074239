/- The Go functions come to what the plain functions tell. No condition. -/
import Derived.Test.YthcniadbdjoecaaProg
import Derived.Test.YthcniadbdjoecaaFnR
import Derived.Test.YthcniadbdjoecaaWkR0
import Derived.Test.YthcniadbdjoecaaWkR1
namespace Go.Proofs.Ythcniadbdjoecaa.R
open Go Go.RowKit Go.Proofs.Ythcniadbdjoecaa.Sx
set_option linter.unusedVariables false
set_option maxHeartbeats 4000000
set_option maxRecDepth 100000
theorem slots_Of_ok (w0 w : World) (cs : List Chunk) (F : Nat → Prop) (W : World) (A_gens : Option Addr) (c_gens : Nat) (gens : List Int) (A_used : Option Addr) (c_used : Nat) (used : List Int) (hM0 : Mem w0 (Fz F W :: cs) w) (h_gens : RdS (Rep.int .i64) F W A_gens c_gens gens) (h_used : RdS (Rep.int .i64) F W A_used c_used used) (r_ : (Int ⊕ (List Int) × (List Int) × (List Int))) (hp : slots_Of gens used = some r_) : Calls Try.prog 39 #[sl A_gens gens c_gens, sl A_used used c_used] w fun e w' => Sum.elim (fun (i9001 : Int) => (True) ∧ e = .returned (.tuple #[.pointer none, vI i9001]) ∧ Mem w0 (Fz F W :: cs) w') (un3 fun (l9005 : List Int) (l9010 : List Int) (l9015 : List Int) => ∃ (b9002 : Nat), ∃ (A9003 : Option Addr), ∃ (c9004 : Nat), ∃ (y9006 : List Value), ∃ (A9008 : Option Addr), ∃ (c9009 : Nat), ∃ (y9011 : List Value), ∃ (A9013 : Option Addr), ∃ (c9014 : Nat), ∃ (y9016 : List Value), ((RepL (Rep.int .i64) F W l9005 y9006) ∧ (RepL (Rep.int .u64) F W l9010 y9011) ∧ (RepL (Rep.int .u64) F W l9015 y9016)) ∧ e = .returned (.tuple #[vP b9002 0, vI 0]) ∧ Mem w0 (.blk b9002 [sl A9003 l9005 c9004, sl A9008 l9010 c9009, sl A9013 l9015 c9014] 127 :: ow A9003 l9005 c9004 3 1 y9006 :: ow A9008 l9010 c9009 52 1 y9011 :: ow A9013 l9015 c9014 52 1 y9016 :: Fz F W :: cs) w') r_ := by
 unfold slots_Of at hp
 refine sx_calls Try.func39 rfl (n := 105) (by kernel_rfl) (l := [(0, sl A_gens gens c_gens), (1, sl A_used used c_used)]) rfl (by rfl) hM0 ?_
 refine st_seq (st_region [oF 0, oF 1] (by rfl) ?_)
 refine oQ [oF 0, oF 1] [(0, sl A_gens gens c_gens), (1, sl A_used used c_used)] (by kernel_rfl) ?_
 refine ops_nil (fin_then (st_seq (st_seq (st_region [oF 0, oF 1, oF 2] (by rfl) ?_))))
 refine oQ [oF 0, oF 1, oF 2] [(14, .bool (decide (256 < (gens.length : Int)))), (0, sl A_gens gens c_gens), (1, sl A_used used c_used)] (by kernel_rfl) ?_
 refine ops_nil (fin_then ?_)
 refine st_if (b := decide (256 < (gens.length : Int))) rfl (fun hc1 => ?_) (fun hc1 => ?_)
 ·
  have hp := cnd_t hc1 hp
  refine st_seq (st_region [oF 0, oF 1] (by rfl) ?_)
  refine oQ [oF 0, oF 1] [(5, vI 2), (4, .pointer none)] (by kernel_rfl) ?_
  refine ops_nil (fin_then (st_ret (fin_ret_then ?_)))
  have hq_ := Option.some.inj hp
  subst hq_
  refine fin_ret [.tmp 4, .tmp 5] [.pointer none, vI 2] rfl rfl (fun w_ hM => (.tmp rfl (.tmp rfl .nil))) (fun w_ hM => ?_)
  refine (isel_l ?_)
  exact ⟨trivial, rfl, hM⟩
 ·
  have hp := cnd_f hc1 hp
  refine st_skip (fin_then (st_seq (st_region [oF 0, oF 1, oF 2, oF 3, oF 4] (by rfl) ?_)))
  refine oQ [oF 0] [(15, sl A_gens gens c_gens), (0, sl A_gens gens c_gens), (1, sl A_used used c_used)] (by kernel_rfl) ?_
  refine ops_conv (l' := [(15, sl A_gens gens c_gens), (0, sl A_gens gens c_gens), (1, sl A_used used c_used)]) (M' := Mem w0 (ow none ([] : List Int) 0 3 1 [] :: Fz F W :: cs)) rfl (fun w_ h => h.onil none 3 1) ?_
  obtain ⟨l2, hv3, hp⟩ := obind hp
  obtain ⟨he4, hb5⟩ := app_some hv3
  obtain ⟨y9, h10, hs11⟩ := RdS.src h_gens
  obtain ⟨y6, hy7⟩ : ∃ y_, [] ++ y9 = y_ := ⟨_, rfl⟩
  have h8 : RepL (Rep.int .i64) F W l2 y6 := by rw [he4, ← hy7]; exact RepL.app (RepL.nil (R := (Rep.int .i64))) h10
  refine ops_appendO (x := (Go.Operand.const (Go.Value.slice none 0 0))) (y := (Go.Operand.tmp 15)) (t := 23) (e := 3) (d := some 16) (n' := l2.length) (z := 1) (m := gens.length) (bytes := 8) (xs' := y6) (news := y9) (zv := vI 0) 0 ⟨by kernel_rfl⟩ rfl rfl Try.underlying23 (by kernel_rfl) (by rfl) rfl (fun w_ hM => hM.srcS 1 rfl h10 hs11) h10.len h10.one hb5 (by have z_ := congrArg List.length he4; rw [List.length_append] at z_; exact z_.symm) hy7 (fun _ _ _ _ hS h' => trivial) ?_
  rintro ⟨A12, c13⟩
  refine oQ [oF 2] [(17, .agg #[sl A12 l2 c13, .slice none 0 0, .slice none 0 0]), (0, sl A_gens gens c_gens), (1, sl A_used used c_used)] (by kernel_rfl) ?_
  refine ops_newB (d := some 18) [sl A12 l2 c13, .slice none 0 0, .slice none 0 0] 127 (fun b14 => ⟨by kernel_rfl⟩) (fun w_ hM hS => trivial) (fun b14 => ?_)
  refine oQ [oF 4] [(6, vP b14 0), (0, sl A_gens gens c_gens), (1, sl A_used used c_used)] (by kernel_rfl) ?_
  refine ops_nil (fin_then ?_)
  refine st_join1 (σ := (Option Addr) × Nat × (List Value) × (List Value)) (L := fun x_ => match x_ with | (A15, c16, y17, y19) => [(0, sl A_gens gens c_gens), (1, sl A_used used c_used), (6, vP b14 0)]) (N := fun x_ => match x_ with | (A15, c16, y17, y19) => Mem w0 (.blk b14 [sl A12 l2 c13, sl A15 ([] : List Int) c16, sl A15 ([] : List Int) c16] 127 :: ow A12 l2 c13 3 1 y6 :: ow A15 ([] : List Int) c16 52 1 y17 :: ow A15 ([] : List Int) c16 52 1 y19 :: Fz F W :: cs)) (I := fun x_ => match x_ with | (A15, c16, y17, y19) => ((slots_Of_j1 used gens l2) = some r_) ∧ (RepL (Rep.int .u64) F W ([] : List Int) y17) ∧ (RepL (Rep.int .u64) F W ([] : List Int) y19)) ?_ ?_
  ·
   rintro ⟨A15, c16, y17, y19⟩ ⟨hp, h18, h20⟩
   unfold slots_Of_j1 at hp
   refine st_join1 (σ := (Option Addr) × Nat × (List Int) × (List Value)) (L := fun x_ => match x_ with | (A21, c22, l23, y24) => [(0, sl A_gens gens c_gens), (6, vP b14 0)]) (N := fun x_ => match x_ with | (A21, c22, l23, y24) => Mem w0 (.blk b14 [sl A12 l2 c13, sl A21 l23 c22, sl A15 ([] : List Int) c16] 127 :: ow A12 l2 c13 3 1 y6 :: ow A21 l23 c22 52 1 y24 :: ow A15 ([] : List Int) c16 52 1 y19 :: Fz F W :: cs)) (I := fun x_ => match x_ with | (A21, c22, l23, y24) => ((slots_Of_j2 gens l2) l23 = some r_) ∧ (RepL (Rep.int .u64) F W l23 y24)) ?_ ?_
   ·
    rintro ⟨A21, c22, l23, y24⟩ ⟨hp, h25⟩
    unfold slots_Of_j2 at hp
    refine st_join1 (σ := (Option Addr) × Nat × (List Int) × (List Value)) (L := fun x_ => match x_ with | (A26, c27, l28, y29) => [(6, vP b14 0)]) (N := fun x_ => match x_ with | (A26, c27, l28, y29) => Mem w0 (.blk b14 [sl A12 l2 c13, sl A21 l23 c22, sl A26 l28 c27] 127 :: ow A12 l2 c13 3 1 y6 :: ow A21 l23 c22 52 1 y24 :: ow A26 l28 c27 52 1 y29 :: Fz F W :: cs)) (I := fun x_ => match x_ with | (A26, c27, l28, y29) => ((slots_Of_j3 l2 l23) l28 = some r_) ∧ (RepL (Rep.int .u64) F W l28 y29)) ?_ ?_
    ·
     rintro ⟨A26, c27, l28, y29⟩ ⟨hp, h30⟩
     unfold slots_Of_j3 at hp
     refine st_seq (st_region [oF 0, oF 1, oF 2] (by rfl) ?_)
     refine oQ [oF 0, oF 1, oF 2] [(5, vI 0), (4, vP b14 0)] (by kernel_rfl) ?_
     refine ops_nil (fin_then (st_ret ?_))
     have hq_ := Option.some.inj hp
     subst hq_
     refine fin_ret [.tmp 4, .tmp 5] [vP b14 0, vI 0] rfl rfl (fun w_ hM => (.tmp rfl (.tmp rfl .nil))) (fun w_ hM => ?_)
     refine (isel_r (iun3_at ?_))
     exact ⟨b14, A12, c13, y6, A21, c22, y24, A26, c27, y29, ⟨h8, h25, h30⟩, rfl, hM⟩
    ·
     intro HJ3
     refine st_seq (st_seq (st_region [oF 0, oF 1, oF 2] (by rfl) ?_))
     refine oQ [oF 0, oF 1, oF 2] [(77, vI 0), (76, vI (gens.length : Int)), (0, sl A_gens gens c_gens), (6, vP b14 0)] (by kernel_rfl) ?_
     refine ops_nil (fin_then (st_block ?_))
     obtain ⟨r4, hl4, hk4⟩ := obind hp
     refine st_loopP (σ := (List Int) × Int) (ρ := (List Int)) (γ := (Option Addr) × Nat × (List Value)) hl4 (A15, c16, y19) (fun s_ g_ => match s_, g_ with | (l33, i36), (A31, c32, y34) => [(0, sl A_gens gens c_gens), (6, vP b14 0), (76, vI (gens.length : Int)), (77, vI i36)]) (fun s_ g_ => match s_, g_ with | (l33, i36), (A31, c32, y34) => Mem w0 (.blk b14 [sl A12 l2 c13, sl A21 l23 c22, sl A31 l33 c32] 127 :: ow A12 l2 c13 3 1 y6 :: ow A21 l23 c22 52 1 y24 :: ow A31 l33 c32 52 1 y34 :: Fz F W :: cs)) (fun s_ g_ => match s_, g_ with | (l33, i36), (A31, c32, y34) => (RepL (Rep.int .u64) F W l33 y34)) h20 (look_has ⟨rfl, rfl, rfl, rfl, trivial⟩) (fun w_ hM => hM) ?_
     rintro ⟨l33, i36⟩ ⟨A31, c32, y34⟩ o4 h35 hs_ hd4
     have hp : (slots_Of_l4 gens l23) l33 i36 = some o4 := hs_
     clear hs_
     unfold slots_Of_l4 at hp
     refine st_seq (st_region [oF 0] (by rfl) ?_)
     refine oQ [oF 0] [(78, .bool (decide (i36 < (gens.length : Int)))), (0, sl A_gens gens c_gens), (6, vP b14 0), (76, vI (gens.length : Int)), (77, vI i36)] (by kernel_rfl) ?_
     refine ops_nil (fin_then (st_seq ?_))
     refine st_if (b := decide (i36 < (gens.length : Int))) rfl (fun hc37 => ?_) (fun hc37 => ?_)
     ·
      have hp := cnd_t hc37 hp
      refine st_skip (fin_then ?_)
      refine st_join1 (σ := (Option Addr) × Nat × (List Int) × (List Value)) (L := fun x_ => match x_ with | (A38, c39, l40, y41) => [(0, sl A_gens gens c_gens), (6, vP b14 0), (76, vI (gens.length : Int)), (77, vI i36)]) (N := fun x_ => match x_ with | (A38, c39, l40, y41) => Mem w0 (.blk b14 [sl A12 l2 c13, sl A21 l23 c22, sl A38 l40 c39] 127 :: ow A12 l2 c13 3 1 y6 :: ow A21 l23 c22 52 1 y24 :: ow A38 l40 c39 52 1 y41 :: Fz F W :: cs)) (I := fun x_ => match x_ with | (A38, c39, l40, y41) => ((slots_Of_j5 i36) l40 = some o4) ∧ (RepL (Rep.int .u64) F W l40 y41)) ?_ ?_
      ·
       rintro ⟨A38, c39, l40, y41⟩ ⟨hp, h42⟩
       unfold slots_Of_j5 at hp
       refine st_region [oF 0, oF 1] (by rfl) ?_
       refine oQ [oF 0, oF 1] [(77, vI (IntKind.i64.wrap (i36 + 1))), (0, sl A_gens gens c_gens), (6, vP b14 0), (76, vI (gens.length : Int))] (by kernel_rfl) ?_
       refine ops_nil ?_
       exact fin_again (l40, IntKind.i64.wrap (i36 + 1)) (A38, c39, y41) (Option.some.inj hp).symm h42 (look_has ⟨rfl, rfl, rfl, rfl, trivial⟩) (fun w_ hM => hM)
      ·
       intro HJ5
       refine st_seq (st_block (st_seq (st_region [oF 0, oF 1] (by rfl) ?_)))
       refine oQ [oF 0, oF 1] [(11, vI i36), (0, sl A_gens gens c_gens), (6, vP b14 0), (76, vI (gens.length : Int)), (77, vI i36)] (by kernel_rfl) ?_
       refine ops_nil (fin_then (st_seq (st_region [oF 0, oF 1, oF 2, oF 3, oF 4, oF 5, oF 6, oF 7, oF 8, oF 9, oF 10, oF 11, oF 12, oF 13] (by rfl) ?_)))
       refine oQ [oF 0, oF 1, oF 2] [(82, vP b14 1), (11, vI i36), (0, sl A_gens gens c_gens), (6, vP b14 0), (76, vI (gens.length : Int)), (77, vI i36)] (by kernel_rfl) ?_
       refine ops_mem (d := some 83) (an := [.v (sl A21 l23 c22)]) (evs := [ld b14 1 (sl A21 l23 c22)]) (v := sl A21 l23 c22) ⟨by kernel_rfl⟩ (fun w_ hM hS => ⟨w_, ⟨hM.cell 0 rfl rfl, rfl⟩, hM, trivial⟩) ?_
       refine oQ [oF 4] [(84, vI i36), (83, sl A21 l23 c22), (11, vI i36), (0, sl A_gens gens c_gens), (6, vP b14 0), (76, vI (gens.length : Int)), (77, vI i36)] (by kernel_rfl) ?_
       obtain ⟨x43, hv44, hp⟩ := obind hp
       refine ops_callI (σ := Unit) (d := some 85) (f := 27) (args := #[sl A21 l23 c22, vI i36]) (v := (fun _ => .bool x43)) (I := (fun _ => True)) (M' := (fun _ => Mem w0 (.blk b14 [sl A12 l2 c13, sl A21 l23 c22, sl A31 l33 c32] 127 :: ow A12 l2 c13 3 1 y6 :: ow A21 l23 c22 52 1 y24 :: ow A31 l33 c32 52 1 y34 :: Fz F W :: cs))) ⟨by kernel_rfl⟩ (fun w_ hM hS => (sets_Set_Has_ok w_ w_ [] (fun b => b < w_.heap.size) w_ A21 c22 l23 i36 (Mem.fz0 w_) (hM.ordS 2 4 rfl rfl h25 rfl rfl) x43 hv44).mono (by rintro e w' ⟨-, rfl, h'⟩; have h' : Mem w_ [] w' := h'.pick 1 [] (by kernel_rfl) (by decide) rfl; exact ⟨(), trivial, rfl, hM.join h' rfl, trivial⟩)) ?_
       rintro _ -
       refine oQ [oF 6, oF 7] [(87, .bool (!x43)), (11, vI i36), (0, sl A_gens gens c_gens), (6, vP b14 0), (76, vI (gens.length : Int)), (77, vI i36)] (by kernel_rfl) ?_
       refine ops_bool (t := !x43) (l1 := [(87, .bool true), (11, vI i36), (0, sl A_gens gens c_gens), (6, vP b14 0), (76, vI (gens.length : Int)), (77, vI i36)]) (l2 := [(87, .bool false), (11, vI i36), (0, sl A_gens gens c_gens), (6, vP b14 0), (76, vI (gens.length : Int)), (77, vI i36)]) (fun h => by rw [h]) (fun h => by rw [h]) (fun hc45 => ?_) (fun hc45 => ?_)
       ·
        have hp := cnd_t hc45 hp
        refine oQ [oF 8, oF 9] [(89, vI i36), (88, sl A_gens gens c_gens), (87, .bool true), (11, vI i36), (0, sl A_gens gens c_gens), (6, vP b14 0), (76, vI (gens.length : Int)), (77, vI i36)] (by kernel_rfl) ?_
        obtain ⟨x46, hv47, hp⟩ := obind hp
        obtain ⟨m48, hm49, hx50⟩ := idx_some hv47
        have hl53 := (List.getElem?_eq_some_iff.1 hx50).1
        obtain ⟨ad54, vs51, hA55, hr52, hq56⟩ := RdS.el h_gens hx50
        obtain rfl := hr52
        refine ops_val (op := (.indexAddr 23 (.tmp 88) (.tmp 89))) (d := some 90) (v := .pointer (some (ad54.add (m48 * 1)))) ⟨by kernel_rfl⟩ (run_indexA hA55 Try.underlying23 (z := 1) (by kernel_rfl) rfl rfl hm49 hl53) ?_
        refine ops_mem (d := some 91) (an := [.v (vI x46)]) (evs := [.load (ad54.add (m48 * 1)) (vI x46)]) (v := vI x46) ⟨by kernel_rfl⟩ (fun w_ hM hS => ⟨w_, ⟨hM.elcell 4 rfl hq56 0 rfl, rfl⟩, hM, trivial⟩) ?_
        refine oQ [oF 12, oF 13] [(93, .bool (decide (x46 < 1073741824))), (11, vI i36), (0, sl A_gens gens c_gens), (6, vP b14 0), (76, vI (gens.length : Int)), (77, vI i36)] (by kernel_rfl) ?_
        refine ops_nil (fin_then ?_)
        refine st_if (b := decide (x46 < 1073741824)) rfl (fun hc57 => ?_) (fun hc57 => ?_)
        ·
         have hp := cnd_t hc57 hp
         refine st_region [oF 0, oF 1, oF 2, oF 3, oF 4, oF 5, oF 6, oF 7, oF 8, oF 9] (by rfl) ?_
         refine oQ [oF 0, oF 1, oF 2, oF 3] [(97, vP b14 2), (94, vP b14 0), (11, vI i36), (0, sl A_gens gens c_gens), (6, vP b14 0), (76, vI (gens.length : Int)), (77, vI i36)] (by kernel_rfl) ?_
         refine ops_mem (d := some 98) (an := [.v (sl A31 l33 c32)]) (evs := [ld b14 2 (sl A31 l33 c32)]) (v := sl A31 l33 c32) ⟨by kernel_rfl⟩ (fun w_ hM hS => ⟨w_, ⟨hM.cell 0 rfl rfl, rfl⟩, hM, trivial⟩) ?_
         refine oQ [oF 5] [(99, vI i36), (98, sl A31 l33 c32), (94, vP b14 0), (0, sl A_gens gens c_gens), (6, vP b14 0), (76, vI (gens.length : Int)), (77, vI i36)] (by kernel_rfl) ?_
         obtain ⟨x58, hv59, hp⟩ := obind hp
         refine ops_callI (σ := (Option Addr) × Nat × (List Value)) (d := some 100) (f := 30) (args := #[sl A31 l33 c32, vI i36]) (v := (fun x_ => match x_ with | (A60, c61, y62) => sl A60 x58 c61)) (I := (fun x_ => match x_ with | (A60, c61, y62) => (RepL (Rep.int .u64) F W x58 y62))) (M' := (fun x_ => match x_ with | (A60, c61, y62) => Mem w0 (ow A60 x58 c61 52 1 y62 :: .blk b14 [sl A12 l2 c13, sl A21 l23 c22, sl A31 l33 c32] 127 :: ow A12 l2 c13 3 1 y6 :: ow A21 l23 c22 52 1 y24 :: ow A31 l33 c32 52 1 y34 :: Fz F W :: cs))) ⟨by kernel_rfl⟩ (fun w_ hM hS => (sets_Set_With_ok w_ w_ [] (fun b => b < w_.heap.size) w_ A31 c32 l33 i36 (Mem.fz0 w_) (hM.ordS 3 4 rfl rfl h35 rfl rfl) x58 hv59).mono (by rintro e w' ⟨A60, c61, y62, h63, rfl, h'⟩; have h' : Mem w_ [ow A60 x58 c61 52 1 y62] w' := h'.pick 2 [0] (by kernel_rfl) (by decide) rfl; exact ⟨(A60, c61, y62), (RepL.move' (fun h => h) h63), rfl, hM.join h' rfl, trivial⟩)) ?_
         rintro ⟨A60, c61, y62⟩ h63
         refine oQ [oF 7, oF 8] [(102, vP b14 2), (100, sl A60 x58 c61), (0, sl A_gens gens c_gens), (6, vP b14 0), (76, vI (gens.length : Int)), (77, vI i36)] (by kernel_rfl) ?_
         refine ops_store (an := []) (evs := [sr b14 2 (sl A60 x58 c61)]) ⟨by kernel_rfl⟩ (fun w_ hM hS => let ⟨w', he, h'⟩ := hM.evs_stores [sl A60 x58 c61] 1 rfl 2 (Nat.le_of_ble_eq_true rfl); ⟨w', he, h', trivial⟩) ?_
         refine ops_nil (fin_block ?_)
         exact fin_join HJ5 (A60, c61, x58, y62) ⟨hp, h63⟩ (look_has ⟨rfl, rfl, rfl, rfl, trivial⟩) (fun w_ hM => hM.pick 6 [1, 2, 3, 0, 5] (by kernel_rfl) (by decide) rfl)
        ·
         have hp := cnd_f hc57 hp
         refine st_skip (fin_block ?_)
         exact fin_join HJ5 (A31, c32, l33, y34) ⟨hp, h35⟩ (look_has ⟨rfl, rfl, rfl, rfl, trivial⟩) (fun w_ hM => hM)
       ·
        have hp := cnd_f hc45 hp
        refine oQ [oF 8, oF 9, oF 10, oF 11, oF 12, oF 13] [(93, .bool false), (11, vI i36), (0, sl A_gens gens c_gens), (6, vP b14 0), (76, vI (gens.length : Int)), (77, vI i36)] (by kernel_rfl) ?_
        refine ops_nil (fin_then (st_false rfl (st_skip (fin_block ?_))))
        exact fin_join HJ5 (A31, c32, l33, y34) ⟨hp, h35⟩ (look_has ⟨rfl, rfl, rfl, rfl, trivial⟩) (fun w_ hM => hM)
     ·
      have hp := cnd_f hc37 hp
      refine st_exit (fin_exit_then (fin_exit_then (fin_exit ?_)))
      obtain hq_ := Option.some.inj hp
      subst hq_
      obtain hq_ := hd4 _ rfl
      subst hq_
      have hp : (slots_Of_j3 l2 l23) l33 = some r_ := hk4
      exact fin_join HJ3 (A31, c32, l33, y34) ⟨hp, h35⟩ (look_has ⟨rfl, trivial⟩) (fun w_ hM => hM)
   ·
    intro HJ2
    refine st_seq (st_seq (st_region [oF 0, oF 1, oF 2] (by rfl) ?_))
    refine oQ [oF 0, oF 1, oF 2] [(34, vI 0), (33, vI (used.length : Int)), (32, sl A_used used c_used), (0, sl A_gens gens c_gens), (1, sl A_used used c_used), (6, vP b14 0)] (by kernel_rfl) ?_
    refine ops_nil (fin_then (st_block ?_))
    obtain ⟨r6, hl6, hk6⟩ := obind hp
    refine st_loopP (σ := (List Int) × Int) (ρ := (Int ⊕ (List Int))) (γ := (Option Addr) × Nat × (List Value)) hl6 (A15, c16, y17) (fun s_ g_ => match s_, g_ with | (l66, i69), (A64, c65, y67) => [(0, sl A_gens gens c_gens), (1, sl A_used used c_used), (6, vP b14 0), (32, sl A_used used c_used), (33, vI (used.length : Int)), (34, vI i69)]) (fun s_ g_ => match s_, g_ with | (l66, i69), (A64, c65, y67) => Mem w0 (.blk b14 [sl A12 l2 c13, sl A64 l66 c65, sl A15 ([] : List Int) c16] 127 :: ow A12 l2 c13 3 1 y6 :: ow A64 l66 c65 52 1 y67 :: ow A15 ([] : List Int) c16 52 1 y19 :: Fz F W :: cs)) (fun s_ g_ => match s_, g_ with | (l66, i69), (A64, c65, y67) => (RepL (Rep.int .u64) F W l66 y67)) h18 (look_has ⟨rfl, rfl, rfl, rfl, rfl, rfl, trivial⟩) (fun w_ hM => hM) ?_
    rintro ⟨l66, i69⟩ ⟨A64, c65, y67⟩ o6 h68 hs_ hd6
    have hp : (slots_Of_l6 used gens) l66 i69 = some o6 := hs_
    clear hs_
    unfold slots_Of_l6 at hp
    refine st_seq (st_region [oF 0] (by rfl) ?_)
    refine oQ [oF 0] [(35, .bool (decide (i69 < (used.length : Int)))), (0, sl A_gens gens c_gens), (1, sl A_used used c_used), (6, vP b14 0), (32, sl A_used used c_used), (33, vI (used.length : Int)), (34, vI i69)] (by kernel_rfl) ?_
    refine ops_nil (fin_then (st_seq ?_))
    refine st_if (b := decide (i69 < (used.length : Int))) rfl (fun hc70 => ?_) (fun hc70 => ?_)
    ·
     have hp := cnd_t hc70 hp
     refine st_skip (fin_then (st_seq (st_block (st_seq (st_region [oF 0, oF 1, oF 2, oF 3, oF 4] (by rfl) ?_)))))
     refine oQ [oF 0] [(36, vI i69), (0, sl A_gens gens c_gens), (1, sl A_used used c_used), (6, vP b14 0), (32, sl A_used used c_used), (33, vI (used.length : Int)), (34, vI i69)] (by kernel_rfl) ?_
     obtain ⟨x71, hv72, hp⟩ := obind hp
     obtain ⟨m73, hm74, hx75⟩ := idx_some hv72
     have hl78 := (List.getElem?_eq_some_iff.1 hx75).1
     obtain ⟨ad79, vs76, hA80, hr77, hq81⟩ := RdS.el h_used hx75
     obtain rfl := hr77
     refine ops_val (op := (.indexAddr 23 (.tmp 32) (.tmp 34))) (d := some 37) (v := .pointer (some (ad79.add (m73 * 1)))) ⟨by kernel_rfl⟩ (run_indexA hA80 Try.underlying23 (z := 1) (by kernel_rfl) rfl rfl hm74 hl78) ?_
     refine ops_mem (d := some 38) (an := [.v (vI x71)]) (evs := [.load (ad79.add (m73 * 1)) (vI x71)]) (v := vI x71) ⟨by kernel_rfl⟩ (fun w_ hM hS => ⟨w_, ⟨hM.elcell 4 rfl hq81 0 rfl, rfl⟩, hM, trivial⟩) ?_
     refine oQ [oF 3, oF 4] [(10, vI x71), (9, vI i69), (0, sl A_gens gens c_gens), (1, sl A_used used c_used), (6, vP b14 0), (32, sl A_used used c_used), (33, vI (used.length : Int)), (34, vI i69)] (by kernel_rfl) ?_
     refine ops_nil (fin_then (st_seq (st_seq (st_region [oF 0, oF 1, oF 2, oF 3, oF 4, oF 5, oF 6, oF 7, oF 8, oF 9, oF 10, oF 11, oF 12, oF 13, oF 14] (by rfl) ?_))))
     refine oQ [oF 0, oF 1, oF 2] [(41, .bool (decide (x71 < 0))), (10, vI x71), (9, vI i69), (0, sl A_gens gens c_gens), (1, sl A_used used c_used), (6, vP b14 0), (32, sl A_used used c_used), (33, vI (used.length : Int)), (34, vI i69)] (by kernel_rfl) ?_
     refine ops_bool (t := decide (x71 < 0)) (l1 := [(41, .bool true), (10, vI x71), (9, vI i69), (0, sl A_gens gens c_gens), (1, sl A_used used c_used), (6, vP b14 0), (32, sl A_used used c_used), (33, vI (used.length : Int)), (34, vI i69)]) (l2 := [(41, .bool false), (10, vI x71), (9, vI i69), (0, sl A_gens gens c_gens), (1, sl A_used used c_used), (6, vP b14 0), (32, sl A_used used c_used), (33, vI (used.length : Int)), (34, vI i69)]) (fun h => by rw [h]) (fun h => by rw [h]) (fun hc82 => ?_) (fun hc82 => ?_)
     ·
      have hp := cnd_t hc82 hp
      refine oQ [oF 3, oF 4, oF 5, oF 6, oF 7, oF 8, oF 9, oF 10, oF 11, oF 12, oF 13, oF 14] [(53, .bool true), (10, vI x71), (9, vI i69), (0, sl A_gens gens c_gens), (1, sl A_used used c_used), (6, vP b14 0), (32, sl A_used used c_used), (33, vI (used.length : Int)), (34, vI i69)] (by kernel_rfl) ?_
      refine ops_nil (fin_then (st_true rfl (st_seq (st_region [oF 0, oF 1] (by rfl) ?_))))
      refine oQ [oF 0, oF 1] [(5, vI 1), (4, .pointer none)] (by kernel_rfl) ?_
      refine ops_nil (fin_then (st_ret (fin_ret_then (fin_ret_block (fin_ret_then (fin_ret_then (fin_ret_block (fin_ret_then ?_))))))))
      obtain hq_ := Option.some.inj hp
      subst hq_
      obtain hq_ := hd6 _ rfl
      subst hq_
      have hp : some (.inl 1) = some r_ := hk6
      have hq_ := Option.some.inj hp
      subst hq_
      refine fin_ret [.tmp 4, .tmp 5] [.pointer none, vI 1] rfl rfl (fun w_ hM => (.tmp rfl (.tmp rfl .nil))) (fun w_ hM => ?_)
      refine (isel_l ?_)
      exact ⟨trivial, rfl, hM.pick 5 [4] (by kernel_rfl) (by decide) rfl⟩
     ·
      have hp := cnd_f hc82 hp
      refine oQ [oF 3, oF 4, oF 5, oF 6, oF 7, oF 8] [(47, .bool (decide ((gens.length : Int) ≤ x71))), (10, vI x71), (9, vI i69), (0, sl A_gens gens c_gens), (1, sl A_used used c_used), (6, vP b14 0), (32, sl A_used used c_used), (33, vI (used.length : Int)), (34, vI i69)] (by kernel_rfl) ?_
      refine ops_bool (t := decide ((gens.length : Int) ≤ x71)) (l1 := [(47, .bool true), (10, vI x71), (9, vI i69), (0, sl A_gens gens c_gens), (1, sl A_used used c_used), (6, vP b14 0), (32, sl A_used used c_used), (33, vI (used.length : Int)), (34, vI i69)]) (l2 := [(47, .bool false), (10, vI x71), (9, vI i69), (0, sl A_gens gens c_gens), (1, sl A_used used c_used), (6, vP b14 0), (32, sl A_used used c_used), (33, vI (used.length : Int)), (34, vI i69)]) (fun h => by rw [h]) (fun h => by rw [h]) (fun hc83 => ?_) (fun hc83 => ?_)
      ·
       have hp := cnd_t hc83 hp
       refine oQ [oF 9, oF 10, oF 11, oF 12, oF 13, oF 14] [(53, .bool true), (10, vI x71), (9, vI i69), (0, sl A_gens gens c_gens), (1, sl A_used used c_used), (6, vP b14 0), (32, sl A_used used c_used), (33, vI (used.length : Int)), (34, vI i69)] (by kernel_rfl) ?_
       refine ops_nil (fin_then (st_true rfl (st_seq (st_region [oF 0, oF 1] (by rfl) ?_))))
       refine oQ [oF 0, oF 1] [(5, vI 1), (4, .pointer none)] (by kernel_rfl) ?_
       refine ops_nil (fin_then (st_ret (fin_ret_then (fin_ret_block (fin_ret_then (fin_ret_then (fin_ret_block (fin_ret_then ?_))))))))
       obtain hq_ := Option.some.inj hp
       subst hq_
       obtain hq_ := hd6 _ rfl
       subst hq_
       have hp : some (.inl 1) = some r_ := hk6
       have hq_ := Option.some.inj hp
       subst hq_
       refine fin_ret [.tmp 4, .tmp 5] [.pointer none, vI 1] rfl rfl (fun w_ hM => (.tmp rfl (.tmp rfl .nil))) (fun w_ hM => ?_)
       refine (isel_l ?_)
       exact ⟨trivial, rfl, hM.pick 5 [4] (by kernel_rfl) (by decide) rfl⟩
      ·
       have hp := cnd_f hc83 hp
       refine oQ [oF 9, oF 10] [(49, vI x71), (48, sl A_gens gens c_gens), (47, .bool false), (10, vI x71), (9, vI i69), (0, sl A_gens gens c_gens), (1, sl A_used used c_used), (6, vP b14 0), (32, sl A_used used c_used), (33, vI (used.length : Int)), (34, vI i69)] (by kernel_rfl) ?_
       obtain ⟨x84, hv85, hp⟩ := obind hp
       obtain ⟨m86, hm87, hx88⟩ := idx_some hv85
       have hl91 := (List.getElem?_eq_some_iff.1 hx88).1
       obtain ⟨ad92, vs89, hA93, hr90, hq94⟩ := RdS.el h_gens hx88
       obtain rfl := hr90
       refine ops_val (op := (.indexAddr 23 (.tmp 48) (.tmp 49))) (d := some 50) (v := .pointer (some (ad92.add (m86 * 1)))) ⟨by kernel_rfl⟩ (run_indexA hA93 Try.underlying23 (z := 1) (by kernel_rfl) rfl rfl hm87 hl91) ?_
       refine ops_mem (d := some 51) (an := [.v (vI x84)]) (evs := [.load (ad92.add (m86 * 1)) (vI x84)]) (v := vI x84) ⟨by kernel_rfl⟩ (fun w_ hM hS => ⟨w_, ⟨hM.elcell 4 rfl hq94 0 rfl, rfl⟩, hM, trivial⟩) ?_
       refine oQ [oF 13, oF 14] [(53, .bool (x84 == 1073741824)), (10, vI x71), (9, vI i69), (0, sl A_gens gens c_gens), (1, sl A_used used c_used), (6, vP b14 0), (32, sl A_used used c_used), (33, vI (used.length : Int)), (34, vI i69)] (by kernel_rfl) ?_
       refine ops_nil (fin_then ?_)
       refine st_if (b := (x84 == 1073741824)) rfl (fun hc95 => ?_) (fun hc95 => ?_)
       ·
        have hp := cnd_t hc95 hp
        refine st_seq (st_region [oF 0, oF 1] (by rfl) ?_)
        refine oQ [oF 0, oF 1] [(5, vI 1), (4, .pointer none)] (by kernel_rfl) ?_
        refine ops_nil (fin_then (st_ret (fin_ret_then (fin_ret_block (fin_ret_then (fin_ret_then (fin_ret_block (fin_ret_then ?_))))))))
        obtain hq_ := Option.some.inj hp
        subst hq_
        obtain hq_ := hd6 _ rfl
        subst hq_
        have hp : some (.inl 1) = some r_ := hk6
        have hq_ := Option.some.inj hp
        subst hq_
        refine fin_ret [.tmp 4, .tmp 5] [.pointer none, vI 1] rfl rfl (fun w_ hM => (.tmp rfl (.tmp rfl .nil))) (fun w_ hM => ?_)
        refine (isel_l ?_)
        exact ⟨trivial, rfl, hM.pick 5 [4] (by kernel_rfl) (by decide) rfl⟩
       ·
        have hp := cnd_f hc95 hp
        refine st_skip (fin_then ?_)
        refine st_join1 (σ := Unit) (L := fun _ => [(0, sl A_gens gens c_gens), (1, sl A_used used c_used), (6, vP b14 0), (10, vI x71), (32, sl A_used used c_used), (33, vI (used.length : Int)), (34, vI i69)]) (N := fun _ => Mem w0 (.blk b14 [sl A12 l2 c13, sl A64 l66 c65, sl A15 ([] : List Int) c16] 127 :: ow A12 l2 c13 3 1 y6 :: ow A64 l66 c65 52 1 y67 :: ow A15 ([] : List Int) c16 52 1 y19 :: Fz F W :: cs)) (I := fun _ => ((slots_Of_j7 l66 x71 i69) = some o6)) ?_ ?_
        ·
         rintro _ hp
         unfold slots_Of_j7 at hp
         refine st_region [oF 0, oF 1, oF 2, oF 3, oF 4, oF 5, oF 6, oF 7, oF 8, oF 9] (by rfl) ?_
         refine oQ [oF 0, oF 1, oF 2, oF 3] [(68, vP b14 1), (65, vP b14 0), (0, sl A_gens gens c_gens), (1, sl A_used used c_used), (6, vP b14 0), (10, vI x71), (32, sl A_used used c_used), (33, vI (used.length : Int)), (34, vI i69)] (by kernel_rfl) ?_
         refine ops_mem (d := some 69) (an := [.v (sl A64 l66 c65)]) (evs := [ld b14 1 (sl A64 l66 c65)]) (v := sl A64 l66 c65) ⟨by kernel_rfl⟩ (fun w_ hM hS => ⟨w_, ⟨hM.cell 0 rfl rfl, rfl⟩, hM, trivial⟩) ?_
         refine oQ [oF 5] [(70, vI x71), (69, sl A64 l66 c65), (65, vP b14 0), (0, sl A_gens gens c_gens), (1, sl A_used used c_used), (6, vP b14 0), (32, sl A_used used c_used), (33, vI (used.length : Int)), (34, vI i69)] (by kernel_rfl) ?_
         obtain ⟨x96, hv97, hp⟩ := obind hp
         refine ops_callI (σ := (Option Addr) × Nat × (List Value)) (d := some 71) (f := 30) (args := #[sl A64 l66 c65, vI x71]) (v := (fun x_ => match x_ with | (A98, c99, y100) => sl A98 x96 c99)) (I := (fun x_ => match x_ with | (A98, c99, y100) => (RepL (Rep.int .u64) F W x96 y100))) (M' := (fun x_ => match x_ with | (A98, c99, y100) => Mem w0 (ow A98 x96 c99 52 1 y100 :: .blk b14 [sl A12 l2 c13, sl A64 l66 c65, sl A15 ([] : List Int) c16] 127 :: ow A12 l2 c13 3 1 y6 :: ow A64 l66 c65 52 1 y67 :: ow A15 ([] : List Int) c16 52 1 y19 :: Fz F W :: cs))) ⟨by kernel_rfl⟩ (fun w_ hM hS => (sets_Set_With_ok w_ w_ [] (fun b => b < w_.heap.size) w_ A64 c65 l66 x71 (Mem.fz0 w_) (hM.ordS 2 4 rfl rfl h68 rfl rfl) x96 hv97).mono (by rintro e w' ⟨A98, c99, y100, h101, rfl, h'⟩; have h' : Mem w_ [ow A98 x96 c99 52 1 y100] w' := h'.pick 2 [0] (by kernel_rfl) (by decide) rfl; exact ⟨(A98, c99, y100), (RepL.move' (fun h => h) h101), rfl, hM.join h' rfl, trivial⟩)) ?_
         rintro ⟨A98, c99, y100⟩ h101
         refine oQ [oF 7, oF 8] [(73, vP b14 1), (71, sl A98 x96 c99), (0, sl A_gens gens c_gens), (1, sl A_used used c_used), (6, vP b14 0), (32, sl A_used used c_used), (33, vI (used.length : Int)), (34, vI i69)] (by kernel_rfl) ?_
         refine ops_store (an := []) (evs := [sr b14 1 (sl A98 x96 c99)]) ⟨by kernel_rfl⟩ (fun w_ hM hS => let ⟨w', he, h'⟩ := hM.evs_stores [sl A98 x96 c99] 1 rfl 1 (Nat.le_of_ble_eq_true rfl); ⟨w', he, h', trivial⟩) ?_
         refine ops_nil (fin_block (fin_then (st_region [oF 0, oF 1] (by rfl) ?_)))
         refine oQ [oF 0, oF 1] [(34, vI (IntKind.i64.wrap (i69 + 1))), (0, sl A_gens gens c_gens), (1, sl A_used used c_used), (6, vP b14 0), (32, sl A_used used c_used), (33, vI (used.length : Int))] (by kernel_rfl) ?_
         refine ops_nil ?_
         exact fin_again (x96, IntKind.i64.wrap (i69 + 1)) (A98, c99, y100) (Option.some.inj hp).symm h101 (look_has ⟨rfl, rfl, rfl, rfl, rfl, rfl, trivial⟩) (fun w_ hM => hM.pick 6 [1, 2, 0, 4, 5] (by kernel_rfl) (by decide) rfl)
        ·
         intro HJ7
         refine st_seq (st_seq (st_region [oF 0, oF 1, oF 2, oF 3, oF 4, oF 5, oF 6, oF 7, oF 8, oF 9, oF 10] (by rfl) ?_))
         refine oQ [oF 0, oF 1, oF 2] [(56, .bool (decide (0 < i69))), (10, vI x71), (9, vI i69), (0, sl A_gens gens c_gens), (1, sl A_used used c_used), (6, vP b14 0), (32, sl A_used used c_used), (33, vI (used.length : Int)), (34, vI i69)] (by kernel_rfl) ?_
         refine ops_bool (t := decide (0 < i69)) (l1 := [(56, .bool true), (10, vI x71), (9, vI i69), (0, sl A_gens gens c_gens), (1, sl A_used used c_used), (6, vP b14 0), (32, sl A_used used c_used), (33, vI (used.length : Int)), (34, vI i69)]) (l2 := [(56, .bool false), (10, vI x71), (9, vI i69), (0, sl A_gens gens c_gens), (1, sl A_used used c_used), (6, vP b14 0), (32, sl A_used used c_used), (33, vI (used.length : Int)), (34, vI i69)]) (fun h => by rw [h]) (fun h => by rw [h]) (fun hc102 => ?_) (fun hc102 => ?_)
         ·
          have hp := cnd_t hc102 hp
          refine oQ [oF 3, oF 4, oF 5] [(59, vI (IntKind.i64.wrap (i69 - 1))), (57, sl A_used used c_used), (56, .bool true), (10, vI x71), (0, sl A_gens gens c_gens), (1, sl A_used used c_used), (6, vP b14 0), (32, sl A_used used c_used), (33, vI (used.length : Int)), (34, vI i69)] (by kernel_rfl) ?_
          obtain ⟨x103, hv104, hp⟩ := obind hp
          obtain ⟨m105, hm106, hx107⟩ := idx_some hv104
          have hl110 := (List.getElem?_eq_some_iff.1 hx107).1
          obtain ⟨ad111, vs108, hA112, hr109, hq113⟩ := RdS.el h_used hx107
          obtain rfl := hr109
          refine ops_val (op := (.indexAddr 23 (.tmp 57) (.tmp 59))) (d := some 60) (v := .pointer (some (ad111.add (m105 * 1)))) ⟨by kernel_rfl⟩ (run_indexA hA112 Try.underlying23 (z := 1) (by kernel_rfl) rfl rfl hm106 hl110) ?_
          refine ops_mem (d := some 61) (an := [.v (vI x103)]) (evs := [.load (ad111.add (m105 * 1)) (vI x103)]) (v := vI x103) ⟨by kernel_rfl⟩ (fun w_ hM hS => ⟨w_, ⟨hM.elcell 4 rfl hq113 0 rfl, rfl⟩, hM, trivial⟩) ?_
          refine oQ [oF 8, oF 9, oF 10] [(64, .bool (decide (x71 ≤ x103))), (10, vI x71), (0, sl A_gens gens c_gens), (1, sl A_used used c_used), (6, vP b14 0), (32, sl A_used used c_used), (33, vI (used.length : Int)), (34, vI i69)] (by kernel_rfl) ?_
          refine ops_nil (fin_then ?_)
          refine st_if (b := decide (x71 ≤ x103)) rfl (fun hc114 => ?_) (fun hc114 => ?_)
          ·
           have hp := cnd_t hc114 hp
           refine st_seq (st_region [oF 0, oF 1] (by rfl) ?_)
           refine oQ [oF 0, oF 1] [(5, vI 9), (4, .pointer none)] (by kernel_rfl) ?_
           refine ops_nil (fin_then (st_ret (fin_ret_then (fin_ret_block (fin_ret_then (fin_ret_then (fin_ret_block (fin_ret_then ?_))))))))
           obtain hq_ := Option.some.inj hp
           subst hq_
           obtain hq_ := hd6 _ rfl
           subst hq_
           have hp : some (.inl 9) = some r_ := hk6
           have hq_ := Option.some.inj hp
           subst hq_
           refine fin_ret [.tmp 4, .tmp 5] [.pointer none, vI 9] rfl rfl (fun w_ hM => (.tmp rfl (.tmp rfl .nil))) (fun w_ hM => ?_)
           refine (isel_l ?_)
           exact ⟨trivial, rfl, hM.pick 5 [4] (by kernel_rfl) (by decide) rfl⟩
          ·
           have hp := cnd_f hc114 hp
           refine st_skip ?_
           exact fin_join HJ7 () hp (look_has ⟨rfl, rfl, rfl, rfl, rfl, rfl, rfl, trivial⟩) (fun w_ hM => hM)
         ·
          have hp := cnd_f hc102 hp
          refine oQ [oF 3, oF 4, oF 5, oF 6, oF 7, oF 8, oF 9, oF 10] [(64, .bool false), (10, vI x71), (0, sl A_gens gens c_gens), (1, sl A_used used c_used), (6, vP b14 0), (32, sl A_used used c_used), (33, vI (used.length : Int)), (34, vI i69)] (by kernel_rfl) ?_
          refine ops_nil (fin_then (st_false rfl (st_skip ?_)))
          exact fin_join HJ7 () hp (look_has ⟨rfl, rfl, rfl, rfl, rfl, rfl, rfl, trivial⟩) (fun w_ hM => hM)
    ·
     have hp := cnd_f hc70 hp
     refine st_exit (fin_exit_then (fin_exit_then (fin_exit ?_)))
     obtain hq_ := Option.some.inj hp
     subst hq_
     obtain hq_ := hd6 _ rfl
     subst hq_
     have hp : (slots_Of_j2 gens l2) l66 = some r_ := hk6
     exact fin_join HJ2 (A64, c65, l66, y67) ⟨hp, h68⟩ (look_has ⟨rfl, rfl, trivial⟩) (fun w_ hM => hM)
  ·
   intro HJ1
   refine st_seq (st_seq (st_region [oF 0, oF 1, oF 2] (by rfl) ?_))
   refine oQ [oF 0, oF 1, oF 2] [(21, vI 0), (20, vI (gens.length : Int)), (19, sl A_gens gens c_gens), (6, vP b14 0), (0, sl A_gens gens c_gens), (1, sl A_used used c_used)] (by kernel_rfl) ?_
   refine ops_nil (fin_then (st_block ?_))
   refine st_conv (l' := [(21, vI 0), (20, vI (gens.length : Int)), (19, sl A_gens gens c_gens), (6, vP b14 0), (0, sl A_gens gens c_gens), (1, sl A_used used c_used)]) (M' := Mem w0 (ow none ([] : List Int) 0 52 1 [] :: .blk b14 [sl A12 l2 c13, .slice none 0 0, .slice none 0 0] 127 :: ow A12 l2 c13 3 1 y6 :: Fz F W :: cs)) rfl (fun w_ h => h.onil none 52 1) ?_
   refine st_conv (l' := [(21, vI 0), (20, vI (gens.length : Int)), (19, sl A_gens gens c_gens), (6, vP b14 0), (0, sl A_gens gens c_gens), (1, sl A_used used c_used)]) (M' := Mem w0 (ow none ([] : List Int) 0 52 1 [] :: ow none ([] : List Int) 0 52 1 [] :: .blk b14 [sl A12 l2 c13, .slice none 0 0, .slice none 0 0] 127 :: ow A12 l2 c13 3 1 y6 :: Fz F W :: cs)) rfl (fun w_ h => h.onil none 52 1) ?_
   obtain ⟨r8, hl8, hk8⟩ := obind hp
   refine st_loopP (σ := Int) (ρ := (Int ⊕ Unit)) (γ := (Option Addr) × Nat × (List Value) × (List Value)) hl8 (none, 0, [], []) (fun s_ g_ => match s_, g_ with | i127, (A121, c122, y123, y125) => [(0, sl A_gens gens c_gens), (1, sl A_used used c_used), (6, vP b14 0), (19, sl A_gens gens c_gens), (20, vI (gens.length : Int)), (21, vI i127)]) (fun s_ g_ => match s_, g_ with | i127, (A121, c122, y123, y125) => Mem w0 (.blk b14 [sl A12 l2 c13, sl A121 ([] : List Int) c122, sl A121 ([] : List Int) c122] 127 :: ow A12 l2 c13 3 1 y6 :: ow A121 ([] : List Int) c122 52 1 y123 :: ow A121 ([] : List Int) c122 52 1 y125 :: Fz F W :: cs)) (fun s_ g_ => match s_, g_ with | i127, (A121, c122, y123, y125) => (RepL (Rep.int .u64) F W ([] : List Int) y123) ∧ (RepL (Rep.int .u64) F W ([] : List Int) y125)) ⟨(RepL.nil (R := (Rep.int .u64))), (RepL.nil (R := (Rep.int .u64)))⟩ (look_has ⟨rfl, rfl, rfl, rfl, rfl, rfl, trivial⟩) (fun w_ hM => hM.pick 5 [2, 3, 1, 0, 4] (by kernel_rfl) (by decide) rfl) ?_
   rintro i127 ⟨A121, c122, y123, y125⟩ o8 ⟨h124, h126⟩ hs_ hd8
   have hp : (slots_Of_l8 gens) i127 = some o8 := hs_
   clear hs_
   unfold slots_Of_l8 at hp
   refine st_seq (st_region [oF 0] (by rfl) ?_)
   refine oQ [oF 0] [(22, .bool (decide (i127 < (gens.length : Int)))), (0, sl A_gens gens c_gens), (1, sl A_used used c_used), (6, vP b14 0), (19, sl A_gens gens c_gens), (20, vI (gens.length : Int)), (21, vI i127)] (by kernel_rfl) ?_
   refine ops_nil (fin_then (st_seq ?_))
   refine st_if (b := decide (i127 < (gens.length : Int))) rfl (fun hc128 => ?_) (fun hc128 => ?_)
   ·
    have hp := cnd_t hc128 hp
    refine st_skip (fin_then (st_seq (st_block (st_seq (st_region [oF 0, oF 1, oF 2] (by rfl) ?_)))))
    obtain ⟨x129, hv130, hp⟩ := obind hp
    obtain ⟨m131, hm132, hx133⟩ := idx_some hv130
    have hl136 := (List.getElem?_eq_some_iff.1 hx133).1
    obtain ⟨ad137, vs134, hA138, hr135, hq139⟩ := RdS.el h_gens hx133
    obtain rfl := hr135
    refine ops_val (op := (.indexAddr 23 (.tmp 19) (.tmp 21))) (d := some 23) (v := .pointer (some (ad137.add (m131 * 1)))) ⟨by kernel_rfl⟩ (run_indexA hA138 Try.underlying23 (z := 1) (by kernel_rfl) rfl rfl hm132 hl136) ?_
    refine ops_mem (d := some 24) (an := [.v (vI x129)]) (evs := [.load (ad137.add (m131 * 1)) (vI x129)]) (v := vI x129) ⟨by kernel_rfl⟩ (fun w_ hM hS => ⟨w_, ⟨hM.elcell 4 rfl hq139 0 rfl, rfl⟩, hM, trivial⟩) ?_
    refine oQ [oF 2] [(8, vI x129), (0, sl A_gens gens c_gens), (1, sl A_used used c_used), (6, vP b14 0), (19, sl A_gens gens c_gens), (20, vI (gens.length : Int)), (21, vI i127)] (by kernel_rfl) ?_
    refine ops_nil (fin_then (st_seq (st_region [oF 0, oF 1, oF 2, oF 3, oF 4, oF 5] (by rfl) ?_)))
    refine oQ [oF 0, oF 1, oF 2] [(27, .bool (decide (x129 < 0))), (8, vI x129), (0, sl A_gens gens c_gens), (1, sl A_used used c_used), (6, vP b14 0), (19, sl A_gens gens c_gens), (20, vI (gens.length : Int)), (21, vI i127)] (by kernel_rfl) ?_
    refine ops_bool (t := decide (x129 < 0)) (l1 := [(27, .bool true), (8, vI x129), (0, sl A_gens gens c_gens), (1, sl A_used used c_used), (6, vP b14 0), (19, sl A_gens gens c_gens), (20, vI (gens.length : Int)), (21, vI i127)]) (l2 := [(27, .bool false), (8, vI x129), (0, sl A_gens gens c_gens), (1, sl A_used used c_used), (6, vP b14 0), (19, sl A_gens gens c_gens), (20, vI (gens.length : Int)), (21, vI i127)]) (fun h => by rw [h]) (fun h => by rw [h]) (fun hc140 => ?_) (fun hc140 => ?_)
    ·
     have hp := cnd_t hc140 hp
     refine oQ [oF 3, oF 4, oF 5] [(30, .bool true), (0, sl A_gens gens c_gens), (1, sl A_used used c_used), (6, vP b14 0), (19, sl A_gens gens c_gens), (20, vI (gens.length : Int)), (21, vI i127)] (by kernel_rfl) ?_
     refine ops_nil (fin_then (st_true rfl (st_seq (st_region [oF 0, oF 1] (by rfl) ?_))))
     refine oQ [oF 0, oF 1] [(5, vI 1), (4, .pointer none)] (by kernel_rfl) ?_
     refine ops_nil (fin_then (st_ret (fin_ret_block (fin_ret_then (fin_ret_then (fin_ret_block (fin_ret_then ?_)))))))
     obtain hq_ := Option.some.inj hp
     subst hq_
     obtain hq_ := hd8 _ rfl
     subst hq_
     have hp : some (.inl 1) = some r_ := hk8
     have hq_ := Option.some.inj hp
     subst hq_
     refine fin_ret [.tmp 4, .tmp 5] [.pointer none, vI 1] rfl rfl (fun w_ hM => (.tmp rfl (.tmp rfl .nil))) (fun w_ hM => ?_)
     refine (isel_l ?_)
     exact ⟨trivial, rfl, hM.pick 5 [4] (by kernel_rfl) (by decide) rfl⟩
    ·
     have hp := cnd_f hc140 hp
     refine oQ [oF 3, oF 4, oF 5] [(30, .bool (decide (1073741824 < x129))), (0, sl A_gens gens c_gens), (1, sl A_used used c_used), (6, vP b14 0), (19, sl A_gens gens c_gens), (20, vI (gens.length : Int)), (21, vI i127)] (by kernel_rfl) ?_
     refine ops_nil (fin_then ?_)
     refine st_if (b := decide (1073741824 < x129)) rfl (fun hc141 => ?_) (fun hc141 => ?_)
     ·
      have hp := cnd_t hc141 hp
      refine st_seq (st_region [oF 0, oF 1] (by rfl) ?_)
      refine oQ [oF 0, oF 1] [(5, vI 1), (4, .pointer none)] (by kernel_rfl) ?_
      refine ops_nil (fin_then (st_ret (fin_ret_block (fin_ret_then (fin_ret_then (fin_ret_block (fin_ret_then ?_)))))))
      obtain hq_ := Option.some.inj hp
      subst hq_
      obtain hq_ := hd8 _ rfl
      subst hq_
      have hp : some (.inl 1) = some r_ := hk8
      have hq_ := Option.some.inj hp
      subst hq_
      refine fin_ret [.tmp 4, .tmp 5] [.pointer none, vI 1] rfl rfl (fun w_ hM => (.tmp rfl (.tmp rfl .nil))) (fun w_ hM => ?_)
      refine (isel_l ?_)
      exact ⟨trivial, rfl, hM.pick 5 [4] (by kernel_rfl) (by decide) rfl⟩
     ·
      have hp := cnd_f hc141 hp
      refine st_skip (fin_block (fin_then (st_region [oF 0, oF 1] (by rfl) ?_)))
      refine oQ [oF 0, oF 1] [(21, vI (IntKind.i64.wrap (i127 + 1))), (0, sl A_gens gens c_gens), (1, sl A_used used c_used), (6, vP b14 0), (19, sl A_gens gens c_gens), (20, vI (gens.length : Int))] (by kernel_rfl) ?_
      refine ops_nil ?_
      exact fin_again (IntKind.i64.wrap (i127 + 1)) (A121, c122, y123, y125) (Option.some.inj hp).symm ⟨h124, h126⟩ (look_has ⟨rfl, rfl, rfl, rfl, rfl, rfl, trivial⟩) (fun w_ hM => hM)
   ·
    have hp := cnd_f hc128 hp
    refine st_exit (fin_exit_then (fin_exit_then (fin_exit ?_)))
    obtain hq_ := Option.some.inj hp
    subst hq_
    obtain hq_ := hd8 _ rfl
    subst hq_
    have hp : (slots_Of_j1 used gens l2) = some r_ := hk8
    exact fin_join HJ1 (A121, c122, y123, y125) ⟨hp, h124, h126⟩ (look_has ⟨rfl, rfl, rfl, trivial⟩) (fun w_ hM => hM)
theorem slices_Clone_int_int_ok (w0 w : World) (cs : List Chunk) (F : Nat → Prop) (W : World) (A_s : Option Addr) (c_s : Nat) (s : List Int) (hM0 : Mem w0 (Fz F W :: cs) w) (h_s : RdS (Rep.int .i64) F W A_s c_s s) (l9003 : List Int) (hp : slices_Clone_int_int s = some l9003) : Calls Try.prog 31 #[sl A_s s c_s] w fun e w' => ∃ (A9001 : Option Addr), ∃ (c9002 : Nat), ∃ (y9004 : List Value), ((RepL (Rep.int .i64) F W l9003 y9004)) ∧ e = .returned (sl A9001 l9003 c9002) ∧ Mem w0 (ow A9001 l9003 c9002 3 1 y9004 :: Fz F W :: cs) w' := by
 unfold slices_Clone_int_int at hp
 refine sx_calls Try.func31 rfl (n := 8) (by kernel_rfl) (l := [(0, sl A_s s c_s)]) rfl (by rfl) hM0 ?_
 refine st_seq (st_region [oF 0] (by rfl) ?_)
 refine oQ [oF 0] [(0, sl A_s s c_s)] (by kernel_rfl) ?_
 refine ops_nil (fin_then (st_seq (st_seq (st_region [oF 0, oF 1] (by rfl) ?_))))
 refine oQ [oF 0] [(3, sl A_s s c_s), (0, sl A_s s c_s)] (by kernel_rfl) ?_
 have hz2 := fun e_ => RdS.len0 h_s e_
 rcases A_s with _ | ad1
 ·
  have hp : some ([] : List Int) = some l9003 := by rw [← hp, hz2 rfl]; simp [app]
  refine oQ [oF 1] [(4, .bool true), (3, sl none s c_s), (0, sl none s c_s)] (by kernel_rfl) ?_
  refine ops_nil (fin_then (st_true rfl (st_seq (st_region [oF 0] (by rfl) ?_))))
  refine oQ [oF 0] [(2, .slice none 0 0)] (by kernel_rfl) ?_
  refine ops_nil (fin_then (st_ret (fin_ret_then ?_)))
  refine fin_conv (l' := [(2, .slice none 0 0)]) (M' := Mem w0 (ow none ([] : List Int) 0 3 1 [] :: Fz F W :: cs)) rfl (fun w_ h => h.onil none 3 1) ?_
  refine fin_conv (l' := [(2, sl none ([] : List Int) 0)]) (M' := Mem w0 (ow none ([] : List Int) 0 3 1 [] :: Fz F W :: cs)) rfl (fun _ h => h) ?_
  have hq_ := Option.some.inj hp
  have hr0_ := hq_
  subst hr0_
  refine fin_ret [.tmp 2] [sl none ([] : List Int) 0] rfl rfl (fun w_ hM => (.tmp rfl .nil)) (fun w_ hM => ?_)
  exact ⟨none, 0, [], (RepL.nil (R := (Rep.int .i64))), rfl, hM⟩
 ·
  clear hz2
  refine oQ [oF 1] [(4, .bool false), (3, sl (some ad1) s c_s), (0, sl (some ad1) s c_s)] (by kernel_rfl) ?_
  refine ops_nil (fin_then (st_false rfl (st_skip (fin_then (st_seq (st_region [oF 0, oF 1, oF 2, oF 3] (by rfl) ?_))))))
  have h3 : RepL (Rep.int .i64) F W ([] : List Int) ([]) := RepL.nil
  refine ops_new (d := some 5) (o := .cells ([] : List Value).toArray 3) (v := fun g4 => sl (sa g4) ([] : List Int) 0) (M' := fun g4 => Mem w0 (ow (sa g4) ([] : List Int) 0 3 1 [] :: Fz F W :: cs)) (fun g4 => ⟨by kernel_rfl⟩) (fun w_ hM hS => ⟨hM.onew [] 3 0 1 rfl (by decide), trivial⟩) (fun g4 => ?_)
  refine oQ [oF 1] [(6, sl (some ad1) s c_s), (5, sl (sa g4) ([] : List Int) 0)] (by kernel_rfl) ?_
  obtain ⟨l5, hv6, hp⟩ := obind hp
  obtain ⟨he7, hb8⟩ := app_some hv6
  obtain ⟨y12, h13, hs14⟩ := RdS.src h_s
  obtain ⟨y9, hy10⟩ : ∃ y_, [] ++ y12 = y_ := ⟨_, rfl⟩
  have h11 : RepL (Rep.int .i64) F W l5 y9 := by rw [he7, ← hy10]; exact RepL.app h3 h13
  refine ops_appendO (x := (Go.Operand.tmp 5)) (y := (Go.Operand.tmp 6)) (t := 23) (e := 3) (d := some 7) (n' := l5.length) (z := 1) (m := s.length) (bytes := 8) (xs' := y9) (news := y12) (zv := vI 0) 0 ⟨by kernel_rfl⟩ rfl rfl Try.underlying23 (by kernel_rfl) (by rfl) rfl (fun w_ hM => hM.srcS 1 rfl h13 hs14) h13.len h13.one hb8 (by have z_ := congrArg List.length he7; rw [List.length_append] at z_; exact z_.symm) hy10 (fun _ _ _ _ hS h' => trivial) ?_
  rintro ⟨A15, c16⟩
  refine oQ [oF 3] [(2, sl A15 l5 c16)] (by kernel_rfl) ?_
  refine ops_nil (fin_then (st_ret ?_))
  have hq_ := Option.some.inj hp
  have hr0_ := hq_
  subst hr0_
  refine fin_ret [.tmp 2] [sl A15 l5 c16] rfl rfl (fun w_ hM => (.tmp rfl .nil)) (fun w_ hM => ?_)
  exact ⟨A15, c16, y9, h11, rfl, hM⟩
theorem tourref1_RoomOf_ok (w0 w : World) (cs : List Chunk) (F : Nat → Prop) (W : World) (A_gens : Option Addr) (c_gens : Nat) (gens : List Int) (A_used : Option Addr) (c_used : Nat) (used : List Int) (hM0 : Mem w0 (Fz F W :: cs) w) (h_gens : RdS (Rep.int .i64) F W A_gens c_gens gens) (h_used : RdS (Rep.int .i64) F W A_used c_used used) (r_ : (Int ⊕ (List Int) × (List Bool))) (hp : tourref1_RoomOf gens used = some r_) : Calls Try.prog 40 #[sl A_gens gens c_gens, sl A_used used c_used] w fun e w' => Sum.elim (fun (i9001 : Int) => (True) ∧ e = .returned (.tuple #[.pointer none, vI i9001]) ∧ Mem w0 (Fz F W :: cs) w') (un2 fun (l9005 : List Int) (l9010 : List Bool) => ∃ (b9002 : Nat), ∃ (A9003 : Option Addr), ∃ (c9004 : Nat), ∃ (y9006 : List Value), ∃ (A9008 : Option Addr), ∃ (c9009 : Nat), ∃ (y9011 : List Value), ((RepL (Rep.int .i64) F W l9005 y9006) ∧ (RepL Rep.bool F W l9010 y9011)) ∧ e = .returned (.tuple #[vP b9002 0, vI 0]) ∧ Mem w0 (.blk b9002 [sl A9003 l9005 c9004, sl A9008 l9010 c9009] 86 :: ow A9003 l9005 c9004 3 1 y9006 :: ow A9008 l9010 c9009 4 1 y9011 :: Fz F W :: cs) w') r_ := by
 unfold tourref1_RoomOf at hp
 refine sx_calls Try.func40 rfl (n := 70) (by kernel_rfl) (l := [(0, sl A_gens gens c_gens), (1, sl A_used used c_used)]) rfl (by rfl) hM0 ?_
 refine st_seq (st_region [oF 0, oF 1] (by rfl) ?_)
 refine oQ [oF 0, oF 1] [(0, sl A_gens gens c_gens), (1, sl A_used used c_used)] (by kernel_rfl) ?_
 refine ops_nil (fin_then (st_seq (st_seq (st_region [oF 0, oF 1, oF 2] (by rfl) ?_))))
 refine oQ [oF 0, oF 1, oF 2] [(14, .bool (decide (256 < (gens.length : Int)))), (0, sl A_gens gens c_gens), (1, sl A_used used c_used)] (by kernel_rfl) ?_
 refine ops_nil (fin_then ?_)
 refine st_if (b := decide (256 < (gens.length : Int))) rfl (fun hc1 => ?_) (fun hc1 => ?_)
 ·
  have hp := cnd_t hc1 hp
  refine st_seq (st_region [oF 0, oF 1] (by rfl) ?_)
  refine oQ [oF 0, oF 1] [(5, vI 2), (4, .pointer none)] (by kernel_rfl) ?_
  refine ops_nil (fin_then (st_ret (fin_ret_then ?_)))
  have hq_ := Option.some.inj hp
  subst hq_
  refine fin_ret [.tmp 4, .tmp 5] [.pointer none, vI 2] rfl rfl (fun w_ hM => (.tmp rfl (.tmp rfl .nil))) (fun w_ hM => ?_)
  refine (isel_l ?_)
  exact ⟨trivial, rfl, hM⟩
 ·
  have hp := cnd_f hc1 hp
  refine st_skip (fin_then ?_)
  refine st_join1 (σ := Unit) (L := fun _ => [(0, sl A_gens gens c_gens), (1, sl A_used used c_used)]) (N := fun _ => Mem w0 (Fz F W :: cs)) (I := fun _ => ((tourref1_RoomOf_j1 gens used) = some r_)) ?_ ?_
  ·
   rintro _ hp
   unfold tourref1_RoomOf_j1 at hp
   refine st_join1 (σ := Nat × (Option Addr) × Nat × (List Int) × (List Value) × (Option Addr) × Nat × (List Bool) × (List Value)) (L := fun x_ => match x_ with | (b2, A3, c4, l5, y6, A8, c9, l10, y11) => [(0, sl A_gens gens c_gens), (1, sl A_used used c_used), (8, vP b2 0)]) (N := fun x_ => match x_ with | (b2, A3, c4, l5, y6, A8, c9, l10, y11) => Mem w0 (.blk b2 [sl A3 l5 c4, sl A8 l10 c9] 86 :: ow A3 l5 c4 3 1 y6 :: ow A8 l10 c9 4 1 y11 :: Fz F W :: cs)) (I := fun x_ => match x_ with | (b2, A3, c4, l5, y6, A8, c9, l10, y11) => ((tourref1_RoomOf_j2 used gens) l5 l10 = some r_) ∧ (RepL (Rep.int .i64) F W l5 y6) ∧ (RepL Rep.bool F W l10 y11)) ?_ ?_
   ·
    rintro ⟨b2, A3, c4, l5, y6, A8, c9, l10, y11⟩ ⟨hp, h7, h12⟩
    unfold tourref1_RoomOf_j2 at hp
    refine st_seq (st_region [oF 0] (by rfl) ?_)
    refine oQ [oF 0] [(9, vI (-1)), (0, sl A_gens gens c_gens), (1, sl A_used used c_used), (8, vP b2 0)] (by kernel_rfl) ?_
    refine ops_nil (fin_then ?_)
    refine st_join1 (σ := (List Bool) × (List Value)) (L := fun x_ => match x_ with | (l13, y14) => [(8, vP b2 0)]) (N := fun x_ => match x_ with | (l13, y14) => Mem w0 (.blk b2 [sl A3 l5 c4, sl A8 l13 c9] 86 :: ow A3 l5 c4 3 1 y6 :: ow A8 l13 c9 4 1 y14 :: Fz F W :: cs)) (I := fun x_ => match x_ with | (l13, y14) => ((tourref1_RoomOf_j3 l5) l13 = some r_) ∧ (RepL Rep.bool F W l13 y14)) ?_ ?_
    ·
     rintro ⟨l13, y14⟩ ⟨hp, h15⟩
     unfold tourref1_RoomOf_j3 at hp
     refine st_seq (st_region [oF 0, oF 1, oF 2] (by rfl) ?_)
     refine oQ [oF 0, oF 1, oF 2] [(5, vI 0), (4, vP b2 0)] (by kernel_rfl) ?_
     refine ops_nil (fin_then (st_ret ?_))
     have hq_ := Option.some.inj hp
     subst hq_
     refine fin_ret [.tmp 4, .tmp 5] [vP b2 0, vI 0] rfl rfl (fun w_ hM => (.tmp rfl (.tmp rfl .nil))) (fun w_ hM => ?_)
     refine (isel_r (iun2_at ?_))
     exact ⟨b2, A3, c4, y6, A8, c9, y14, ⟨h7, h15⟩, rfl, hM⟩
    ·
     intro HJ3
     refine st_seq (st_seq (st_region [oF 0, oF 1, oF 2] (by rfl) ?_))
     refine oQ [oF 0, oF 1, oF 2] [(37, vI 0), (36, vI (used.length : Int)), (35, sl A_used used c_used), (9, vI (-1)), (0, sl A_gens gens c_gens), (8, vP b2 0)] (by kernel_rfl) ?_
     refine ops_nil (fin_then (st_block ?_))
     obtain ⟨r4, hl4, hk4⟩ := obind hp
     refine st_loopP (σ := (List Bool) × Int × Int) (ρ := (Int ⊕ (List Bool))) (γ := (List Value)) hl4 y11 (fun s_ g_ => match s_, g_ with | (l16, i19, i20), y17 => [(0, sl A_gens gens c_gens), (8, vP b2 0), (9, vI i19), (35, sl A_used used c_used), (36, vI (used.length : Int)), (37, vI i20)]) (fun s_ g_ => match s_, g_ with | (l16, i19, i20), y17 => Mem w0 (.blk b2 [sl A3 l5 c4, sl A8 l16 c9] 86 :: ow A3 l5 c4 3 1 y6 :: ow A8 l16 c9 4 1 y17 :: Fz F W :: cs)) (fun s_ g_ => match s_, g_ with | (l16, i19, i20), y17 => (RepL Rep.bool F W l16 y17)) h12 (look_has ⟨rfl, rfl, rfl, rfl, rfl, rfl, trivial⟩) (fun w_ hM => hM) ?_
     rintro ⟨l16, i19, i20⟩ y17 o4 h18 hs_ hd4
     have hp : (tourref1_RoomOf_l4 used gens) l16 i19 i20 = some o4 := hs_
     clear hs_
     unfold tourref1_RoomOf_l4 at hp
     refine st_seq (st_region [oF 0] (by rfl) ?_)
     refine oQ [oF 0] [(38, .bool (decide (i20 < (used.length : Int)))), (0, sl A_gens gens c_gens), (8, vP b2 0), (9, vI i19), (35, sl A_used used c_used), (36, vI (used.length : Int)), (37, vI i20)] (by kernel_rfl) ?_
     refine ops_nil (fin_then (st_seq ?_))
     refine st_if (b := decide (i20 < (used.length : Int))) rfl (fun hc21 => ?_) (fun hc21 => ?_)
     ·
      have hp := cnd_t hc21 hp
      refine st_skip (fin_then (st_seq (st_block (st_seq (st_region [oF 0, oF 1, oF 2] (by rfl) ?_)))))
      obtain ⟨x22, hv23, hp⟩ := obind hp
      obtain ⟨m24, hm25, hx26⟩ := idx_some hv23
      have hl29 := (List.getElem?_eq_some_iff.1 hx26).1
      obtain ⟨ad30, vs27, hA31, hr28, hq32⟩ := RdS.el h_used hx26
      obtain rfl := hr28
      refine ops_val (op := (.indexAddr 23 (.tmp 35) (.tmp 37))) (d := some 39) (v := .pointer (some (ad30.add (m24 * 1)))) ⟨by kernel_rfl⟩ (run_indexA hA31 Try.underlying23 (z := 1) (by kernel_rfl) rfl rfl hm25 hl29) ?_
      refine ops_mem (d := some 40) (an := [.v (vI x22)]) (evs := [.load (ad30.add (m24 * 1)) (vI x22)]) (v := vI x22) ⟨by kernel_rfl⟩ (fun w_ hM hS => ⟨w_, ⟨hM.elcell 3 rfl hq32 0 rfl, rfl⟩, hM, trivial⟩) ?_
      refine oQ [oF 2] [(11, vI x22), (0, sl A_gens gens c_gens), (8, vP b2 0), (9, vI i19), (35, sl A_used used c_used), (36, vI (used.length : Int)), (37, vI i20)] (by kernel_rfl) ?_
      refine ops_nil (fin_then (st_seq (st_block (st_seq (st_region [oF 0, oF 1, oF 2, oF 3, oF 4, oF 5, oF 6, oF 7, oF 8, oF 9, oF 10, oF 11, oF 12, oF 13, oF 14, oF 15] (by rfl) ?_)))))
      refine oQ [oF 0, oF 1, oF 2] [(44, .bool (decide (x22 < 0))), (11, vI x22), (0, sl A_gens gens c_gens), (8, vP b2 0), (9, vI i19), (35, sl A_used used c_used), (36, vI (used.length : Int)), (37, vI i20)] (by kernel_rfl) ?_
      refine ops_bool (t := decide (x22 < 0)) (l1 := [(44, .bool true), (11, vI x22), (0, sl A_gens gens c_gens), (8, vP b2 0), (9, vI i19), (35, sl A_used used c_used), (36, vI (used.length : Int)), (37, vI i20)]) (l2 := [(44, .bool false), (11, vI x22), (0, sl A_gens gens c_gens), (8, vP b2 0), (9, vI i19), (35, sl A_used used c_used), (36, vI (used.length : Int)), (37, vI i20)]) (fun h => by rw [h]) (fun h => by rw [h]) (fun hc33 => ?_) (fun hc33 => ?_)
      ·
       have hp := cnd_t hc33 hp
       refine oQ [oF 3, oF 4, oF 5, oF 6, oF 7, oF 8, oF 9, oF 10, oF 11, oF 12, oF 13, oF 14, oF 15] [(41, .bool true), (11, vI x22), (0, sl A_gens gens c_gens), (8, vP b2 0), (9, vI i19), (35, sl A_used used c_used), (36, vI (used.length : Int)), (37, vI i20)] (by kernel_rfl) ?_
       refine ops_nil (fin_then (st_true rfl (st_seq (st_region [oF 0, oF 1] (by rfl) ?_))))
       refine oQ [oF 0, oF 1] [(5, vI 1), (4, .pointer none)] (by kernel_rfl) ?_
       refine ops_nil (fin_then (st_ret (fin_ret_block (fin_ret_then (fin_ret_block (fin_ret_then (fin_ret_then (fin_ret_block (fin_ret_then ?_)))))))))
       obtain hq_ := Option.some.inj hp
       subst hq_
       obtain hq_ := hd4 _ rfl
       subst hq_
       have hp : some (.inl 1) = some r_ := hk4
       have hq_ := Option.some.inj hp
       subst hq_
       refine fin_ret [.tmp 4, .tmp 5] [.pointer none, vI 1] rfl rfl (fun w_ hM => (.tmp rfl (.tmp rfl .nil))) (fun w_ hM => ?_)
       refine (isel_l ?_)
       exact ⟨trivial, rfl, hM.pick 4 [3] (by kernel_rfl) (by decide) rfl⟩
      ·
       have hp := cnd_f hc33 hp
       refine oQ [oF 3, oF 4, oF 5, oF 6, oF 7, oF 8] [(50, .bool (decide ((gens.length : Int) ≤ x22))), (11, vI x22), (0, sl A_gens gens c_gens), (8, vP b2 0), (9, vI i19), (35, sl A_used used c_used), (36, vI (used.length : Int)), (37, vI i20)] (by kernel_rfl) ?_
       refine ops_bool (t := decide ((gens.length : Int) ≤ x22)) (l1 := [(50, .bool true), (11, vI x22), (0, sl A_gens gens c_gens), (8, vP b2 0), (9, vI i19), (35, sl A_used used c_used), (36, vI (used.length : Int)), (37, vI i20)]) (l2 := [(50, .bool false), (11, vI x22), (0, sl A_gens gens c_gens), (8, vP b2 0), (9, vI i19), (35, sl A_used used c_used), (36, vI (used.length : Int)), (37, vI i20)]) (fun h => by rw [h]) (fun h => by rw [h]) (fun hc34 => ?_) (fun hc34 => ?_)
       ·
        have hp := cnd_t hc34 hp
        refine oQ [oF 9, oF 10, oF 11, oF 12, oF 13, oF 14, oF 15] [(41, .bool true), (11, vI x22), (0, sl A_gens gens c_gens), (8, vP b2 0), (9, vI i19), (35, sl A_used used c_used), (36, vI (used.length : Int)), (37, vI i20)] (by kernel_rfl) ?_
        refine ops_nil (fin_then (st_true rfl (st_seq (st_region [oF 0, oF 1] (by rfl) ?_))))
        refine oQ [oF 0, oF 1] [(5, vI 1), (4, .pointer none)] (by kernel_rfl) ?_
        refine ops_nil (fin_then (st_ret (fin_ret_block (fin_ret_then (fin_ret_block (fin_ret_then (fin_ret_then (fin_ret_block (fin_ret_then ?_)))))))))
        obtain hq_ := Option.some.inj hp
        subst hq_
        obtain hq_ := hd4 _ rfl
        subst hq_
        have hp : some (.inl 1) = some r_ := hk4
        have hq_ := Option.some.inj hp
        subst hq_
        refine fin_ret [.tmp 4, .tmp 5] [.pointer none, vI 1] rfl rfl (fun w_ hM => (.tmp rfl (.tmp rfl .nil))) (fun w_ hM => ?_)
        refine (isel_l ?_)
        exact ⟨trivial, rfl, hM.pick 4 [3] (by kernel_rfl) (by decide) rfl⟩
       ·
        have hp := cnd_f hc34 hp
        refine oQ [oF 9, oF 10] [(52, vI x22), (51, sl A_gens gens c_gens), (50, .bool false), (11, vI x22), (0, sl A_gens gens c_gens), (8, vP b2 0), (9, vI i19), (35, sl A_used used c_used), (36, vI (used.length : Int)), (37, vI i20)] (by kernel_rfl) ?_
        obtain ⟨x35, hv36, hp⟩ := obind hp
        obtain ⟨m37, hm38, hx39⟩ := idx_some hv36
        have hl42 := (List.getElem?_eq_some_iff.1 hx39).1
        obtain ⟨ad43, vs40, hA44, hr41, hq45⟩ := RdS.el h_gens hx39
        obtain rfl := hr41
        refine ops_val (op := (.indexAddr 23 (.tmp 51) (.tmp 52))) (d := some 53) (v := .pointer (some (ad43.add (m37 * 1)))) ⟨by kernel_rfl⟩ (run_indexA hA44 Try.underlying23 (z := 1) (by kernel_rfl) rfl rfl hm38 hl42) ?_
        refine ops_mem (d := some 54) (an := [.v (vI x35)]) (evs := [.load (ad43.add (m37 * 1)) (vI x35)]) (v := vI x35) ⟨by kernel_rfl⟩ (fun w_ hM hS => ⟨w_, ⟨hM.elcell 3 rfl hq45 0 rfl, rfl⟩, hM, trivial⟩) ?_
        refine oQ [oF 13, oF 14, oF 15] [(41, .bool (x35 == 1073741824)), (11, vI x22), (0, sl A_gens gens c_gens), (8, vP b2 0), (9, vI i19), (35, sl A_used used c_used), (36, vI (used.length : Int)), (37, vI i20)] (by kernel_rfl) ?_
        refine ops_nil (fin_then ?_)
        refine st_if (b := (x35 == 1073741824)) rfl (fun hc46 => ?_) (fun hc46 => ?_)
        ·
         have hp := cnd_t hc46 hp
         refine st_seq (st_region [oF 0, oF 1] (by rfl) ?_)
         refine oQ [oF 0, oF 1] [(5, vI 1), (4, .pointer none)] (by kernel_rfl) ?_
         refine ops_nil (fin_then (st_ret (fin_ret_block (fin_ret_then (fin_ret_block (fin_ret_then (fin_ret_then (fin_ret_block (fin_ret_then ?_)))))))))
         obtain hq_ := Option.some.inj hp
         subst hq_
         obtain hq_ := hd4 _ rfl
         subst hq_
         have hp : some (.inl 1) = some r_ := hk4
         have hq_ := Option.some.inj hp
         subst hq_
         refine fin_ret [.tmp 4, .tmp 5] [.pointer none, vI 1] rfl rfl (fun w_ hM => (.tmp rfl (.tmp rfl .nil))) (fun w_ hM => ?_)
         refine (isel_l ?_)
         exact ⟨trivial, rfl, hM.pick 4 [3] (by kernel_rfl) (by decide) rfl⟩
        ·
         have hp := cnd_f hc46 hp
         refine st_seq (st_region [oF 0, oF 1, oF 2, oF 3] (by rfl) ?_)
         refine oQ [oF 0, oF 1, oF 2, oF 3] [(57, .bool (decide (x22 ≤ i19))), (11, vI x22), (0, sl A_gens gens c_gens), (8, vP b2 0), (35, sl A_used used c_used), (36, vI (used.length : Int)), (37, vI i20)] (by kernel_rfl) ?_
         refine ops_nil (fin_then ?_)
         refine st_if (b := decide (x22 ≤ i19)) rfl (fun hc47 => ?_) (fun hc47 => ?_)
         ·
          have hp := cnd_t hc47 hp
          refine st_seq (st_region [oF 0, oF 1] (by rfl) ?_)
          refine oQ [oF 0, oF 1] [(5, vI 9), (4, .pointer none)] (by kernel_rfl) ?_
          refine ops_nil (fin_then (st_ret (fin_ret_block (fin_ret_then (fin_ret_block (fin_ret_then (fin_ret_then (fin_ret_block (fin_ret_then ?_)))))))))
          obtain hq_ := Option.some.inj hp
          subst hq_
          obtain hq_ := hd4 _ rfl
          subst hq_
          have hp : some (.inl 9) = some r_ := hk4
          have hq_ := Option.some.inj hp
          subst hq_
          refine fin_ret [.tmp 4, .tmp 5] [.pointer none, vI 9] rfl rfl (fun w_ hM => (.tmp rfl (.tmp rfl .nil))) (fun w_ hM => ?_)
          refine (isel_l ?_)
          exact ⟨trivial, rfl, hM.pick 4 [3] (by kernel_rfl) (by decide) rfl⟩
         ·
          have hp := cnd_f hc47 hp
          refine st_skip (fin_block (fin_then (st_region [oF 0, oF 1, oF 2, oF 3, oF 4, oF 5, oF 6, oF 7, oF 8] (by rfl) ?_)))
          refine oQ [oF 0, oF 1, oF 2] [(63, vP b2 1), (11, vI x22), (0, sl A_gens gens c_gens), (8, vP b2 0), (35, sl A_used used c_used), (36, vI (used.length : Int)), (37, vI i20)] (by kernel_rfl) ?_
          refine ops_mem (d := some 64) (an := [.v (sl A8 l16 c9)]) (evs := [ld b2 1 (sl A8 l16 c9)]) (v := sl A8 l16 c9) ⟨by kernel_rfl⟩ (fun w_ hM hS => ⟨w_, ⟨hM.cell 0 rfl rfl, rfl⟩, hM, trivial⟩) ?_
          refine oQ [oF 4, oF 5] [(66, vI x22), (65, vI x22), (64, sl A8 l16 c9), (0, sl A_gens gens c_gens), (8, vP b2 0), (35, sl A_used used c_used), (36, vI (used.length : Int)), (37, vI i20)] (by kernel_rfl) ?_
          obtain ⟨x48, hv49, hp⟩ := obind hp
          obtain ⟨m50, hm51, hx52⟩ := idx_some hv49
          have hl55 := (List.getElem?_eq_some_iff.1 hx52).1
          refine ops_fact (fun w_ hM => hM.orowSome 2 rfl (Nat.lt_of_le_of_lt (Nat.zero_le _) hl55)) ?_
          rintro ⟨g56, rfl, -⟩
          obtain ⟨vs53, hr54, hq57⟩ := h18.at_ m50 x48 hx52
          obtain rfl := hr54
          refine ops_val (op := (.indexAddr 84 (.tmp 64) (.tmp 65))) (d := some 67) (v := vP g56 (m50 * 1)) ⟨by kernel_rfl⟩ (run_indexRow Try.underlying84 (z := 1) (by kernel_rfl) rfl rfl hm51 hl55 rfl) ?_
          refine oQ [] [(67, vP g56 (m50 * 1)), (66, vI x22), (0, sl A_gens gens c_gens), (8, vP b2 0), (35, sl A_used used c_used), (36, vI (used.length : Int)), (37, vI i20)] (by kernel_rfl) ?_
          obtain ⟨l58, hv59, hp⟩ := obind hp
          obtain ⟨m60, hm61, hl62, he63⟩ := upd_some hv59
          obtain rfl : m50 = m60 := by have := hm51; omega
          have hl64 : l16.length = l58.length := by rw [he63, List.length_set]
          obtain ⟨y65, hy66⟩ : ∃ y_, setAll y17 (m50 * 1 + 0) [.bool true] = y_ := ⟨_, rfl⟩
          have h67 : RepL Rep.bool F W l58 y65 := by rw [he63, ← hy66]; exact RepL.set h18 (List.getElem?_eq_getElem hl62) (fun vs_ hr_ _ => by obtain rfl := hr_; exact ⟨rfl, Nat.le_of_ble_eq_true rfl⟩)
          refine ops_store (an := []) (evs := [.store ⟨g56, m50 * 1, none⟩ (.bool true)]) ⟨by kernel_rfl⟩ (fun w_ hM hS => let ⟨w', he, h'⟩ := hM.ostore' 2 rfl (m50 * 1 + 0) [.bool true] (by have z_ : y17.length = l16.length * 1 := h18.len; have y_ : (m50 + 1) * 1 ≤ l16.length * 1 := Nat.mul_le_mul_right _ hl62; rw [Nat.add_mul] at y_; simp only [List.length_cons, List.length_nil]; omega) hl64 hy66; ⟨w', he, h', trivial⟩) ?_
          refine ops_conv (l' := [(67, vP g56 (m50 * 1)), (66, vI x22), (0, sl A_gens gens c_gens), (8, vP b2 0), (35, sl A_used used c_used), (36, vI (used.length : Int)), (37, vI i20)]) (M' := Mem w0 (.blk b2 [sl A3 l5 c4, sl (sa g56) l58 c9] 86 :: ow A3 l5 c4 3 1 y6 :: ow (sa g56) l58 c9 4 1 y65 :: Fz F W :: cs)) (by first | rfl | ((try dsimp only [sl, ow]); rw [hl64])) (fun w_ hM => by first | exact hM | ((try dsimp only [sl, ow] at hM ⊢); rw [hl64] at hM; exact hM)) ?_
          refine oQ [oF 8] [(9, vI x22), (0, sl A_gens gens c_gens), (8, vP b2 0), (35, sl A_used used c_used), (36, vI (used.length : Int)), (37, vI i20)] (by kernel_rfl) ?_
          refine ops_nil (fin_block (fin_then (st_region [oF 0, oF 1] (by rfl) ?_)))
          refine oQ [oF 0, oF 1] [(37, vI (IntKind.i64.wrap (i20 + 1))), (9, vI x22), (0, sl A_gens gens c_gens), (8, vP b2 0), (35, sl A_used used c_used), (36, vI (used.length : Int))] (by kernel_rfl) ?_
          refine ops_nil ?_
          exact fin_again (l58, x22, IntKind.i64.wrap (i20 + 1)) y65 (Option.some.inj hp).symm h67 (look_has ⟨rfl, rfl, rfl, rfl, rfl, rfl, trivial⟩) (fun w_ hM => hM)
     ·
      have hp := cnd_f hc21 hp
      refine st_exit (fin_exit_then (fin_exit_then (fin_exit ?_)))
      obtain hq_ := Option.some.inj hp
      subst hq_
      obtain hq_ := hd4 _ rfl
      subst hq_
      have hp : (tourref1_RoomOf_j3 l5) l16 = some r_ := hk4
      exact fin_join HJ3 (l16, y17) ⟨hp, h18⟩ (look_has ⟨rfl, trivial⟩) (fun w_ hM => hM)
   ·
    intro HJ2
    refine st_seq ?_
    obtain ⟨x69, hv70, hp⟩ := obind hp
    obtain ⟨l75, hv76, hp⟩ := obind hp
    refine st_region_tree (.node [oT 0, oT 2, oT 3] (.leaf [oF 1, oF 4, oT 5, oF 6, oT 7]) (.leaf [oF 4, oF 1, oT 5, oF 6, oT 7])) (Mem w0 (Fz F W :: cs)) (by kernel_rfl) (by kernel_rfl) (by kernel_rfl) (fun _ d _ _ _ h => by cases d <;> exact h) (M' := Mem w0 (Fz F W :: cs)) (fun w_ hM => ⟨hM.drew, hM.drew.sub (.cons_cons _ (.refl _))⟩) ?_
    refine tree_node ?_
    refine oQ [oT 0, oT 2, oT 3] [(31, vI (gens.length : Int)), (28, sl A_gens gens c_gens), (0, sl A_gens gens c_gens), (1, sl A_used used c_used)] (by kernel_rfl) ?_
    refine ops_nil ?_
    refine tree_both ?_ ?_
    ·
     refine tree_leaf ?_
     refine ops_callI (σ := (Option Addr) × Nat × (List Value)) (d := some 29) (f := 31) (args := #[sl A_gens gens c_gens]) (v := (fun x_ => match x_ with | (A77, c78, y79) => sl A77 x69 c78)) (I := (fun x_ => match x_ with | (A77, c78, y79) => (RepL (Rep.int .i64) F W x69 y79))) (M' := (fun x_ => match x_ with | (A77, c78, y79) => Mem w0 (ow A77 x69 c78 3 1 y79 :: Fz F W :: cs))) ⟨by kernel_rfl⟩ (fun w_ hM hS => (slices_Clone_int_int_ok w0 w_ (cs) F W A_gens c_gens gens hM h_gens x69 hv70).mono (by rintro e w' ⟨A77, c78, y79, h80, rfl, h'⟩; have h' : Mem w0 (ow A77 x69 c78 3 1 y79 :: Fz F W :: cs) w' := h'; exact ⟨(A77, c78, y79), h80, rfl, h', (by exact h'.sub (.cons _ (.cons_cons _ (.refl _))))⟩)) ?_
     rintro ⟨A77, c78, y79⟩ h80
     obtain ⟨m81, hm82, he83, hb84⟩ := mk_some hv76
     have hl85 : l75.length = m81 := by rw [he83, List.length_replicate]
     obtain ⟨y86, hy87⟩ : ∃ y_, (Sx.madeOf [.bool false] (l75.length * 1)).toList = y_ := ⟨_, rfl⟩
     have h88 : RepL Rep.bool F W l75 y86 := by rw [← hy87, hl85, he83]; exact RepL.made rfl (by decide) _
     refine ops_makeO (t := 84) (x := (Go.Operand.tmp 31)) (y := (Go.Operand.tmp 31)) (d := some 32) (nn := l75.length) (z := 1) (bytes := 1) (xs := y86) (zv := .bool false) ⟨by kernel_rfl⟩ rfl rfl (by rw [hl85]; exact hm82) (by rw [hl85]; exact hm82) Try.underlying84 (by kernel_rfl) (by rw [hl85]; exact hb84) (by rfl) hy87 (fun _ _ _ hS h' => (by exact h'.sub (.cons _ (.cons _ (.cons_cons _ (.refl _)))))) (fun g89 => ?_)
     refine oQ [oT 5] [(33, .agg #[sl A77 x69 c78, sl (sa g89) l75 l75.length]), (0, sl A_gens gens c_gens), (1, sl A_used used c_used)] (by kernel_rfl) ?_
     refine ops_newB (d := some 34) [sl A77 x69 c78, sl (sa g89) l75 l75.length] 86 (fun b90 => ⟨by kernel_rfl⟩) (fun w_ hM hS => hS.alloc _) (fun b90 => ?_)
     refine oQ [oT 7] [(8, vP b90 0), (0, sl A_gens gens c_gens), (1, sl A_used used c_used)] (by kernel_rfl) ?_
     refine ops_nil ?_
     exact fin_join HJ2 (b90, A77, c78, x69, y79, (sa g89), l75.length, l75, y86) ⟨hp, h80, h88⟩ (look_has ⟨rfl, rfl, rfl, trivial⟩) (fun w_ hM => hM.pick 4 [0, 2, 1, 3] (by kernel_rfl) (by decide) rfl)
    ·
     refine tree_leaf ?_
     obtain ⟨m91, hm92, he93, hb94⟩ := mk_some hv76
     have hl95 : l75.length = m91 := by rw [he93, List.length_replicate]
     obtain ⟨y96, hy97⟩ : ∃ y_, (Sx.madeOf [.bool false] (l75.length * 1)).toList = y_ := ⟨_, rfl⟩
     have h98 : RepL Rep.bool F W l75 y96 := by rw [← hy97, hl95, he93]; exact RepL.made rfl (by decide) _
     refine ops_makeO (t := 84) (x := (Go.Operand.tmp 31)) (y := (Go.Operand.tmp 31)) (d := some 32) (nn := l75.length) (z := 1) (bytes := 1) (xs := y96) (zv := .bool false) ⟨by kernel_rfl⟩ rfl rfl (by rw [hl95]; exact hm92) (by rw [hl95]; exact hm92) Try.underlying84 (by kernel_rfl) (by rw [hl95]; exact hb94) (by rfl) hy97 (fun _ _ _ hS h' => (by exact h'.sub (.cons _ (.cons_cons _ (.refl _))))) (fun g99 => ?_)
     refine ops_callI (σ := (Option Addr) × Nat × (List Value)) (d := some 29) (f := 31) (args := #[sl A_gens gens c_gens]) (v := (fun x_ => match x_ with | (A100, c101, y102) => sl A100 x69 c101)) (I := (fun x_ => match x_ with | (A100, c101, y102) => (RepL (Rep.int .i64) F W x69 y102))) (M' := (fun x_ => match x_ with | (A100, c101, y102) => Mem w0 (ow A100 x69 c101 3 1 y102 :: ow (sa g99) l75 l75.length 4 1 y96 :: Fz F W :: cs))) ⟨by kernel_rfl⟩ (fun w_ hM hS => (slices_Clone_int_int_ok w0 w_ (ow (sa g99) l75 l75.length 4 1 y96 :: cs) F W A_gens c_gens gens (hM.pick 2 [1, 0] (by kernel_rfl) (by decide) rfl) h_gens x69 hv70).mono (by rintro e w' ⟨A100, c101, y102, h103, rfl, h'⟩; have h' : Mem w0 (ow A100 x69 c101 3 1 y102 :: ow (sa g99) l75 l75.length 4 1 y96 :: Fz F W :: cs) w' := (h'.pick 3 [0, 2, 1] (by kernel_rfl) (by decide) rfl); exact ⟨(A100, c101, y102), h103, rfl, h', (by exact h'.sub (.cons _ (.cons _ (.cons_cons _ (.refl _)))))⟩)) ?_
     rintro ⟨A100, c101, y102⟩ h103
     refine oQ [oT 5] [(33, .agg #[sl A100 x69 c101, sl (sa g99) l75 l75.length]), (0, sl A_gens gens c_gens), (1, sl A_used used c_used)] (by kernel_rfl) ?_
     refine ops_newB (d := some 34) [sl A100 x69 c101, sl (sa g99) l75 l75.length] 86 (fun b104 => ⟨by kernel_rfl⟩) (fun w_ hM hS => hS.alloc _) (fun b104 => ?_)
     refine oQ [oT 7] [(8, vP b104 0), (0, sl A_gens gens c_gens), (1, sl A_used used c_used)] (by kernel_rfl) ?_
     refine ops_nil ?_
     exact fin_join HJ2 (b104, A100, c101, x69, y102, (sa g99), l75.length, l75, y96) ⟨hp, h103, h98⟩ (look_has ⟨rfl, rfl, rfl, trivial⟩) (fun w_ hM => hM)
  ·
   intro HJ1
   refine st_seq (st_seq (st_region [oF 0, oF 1, oF 2] (by rfl) ?_))
   refine oQ [oF 0, oF 1, oF 2] [(17, vI 0), (16, vI (gens.length : Int)), (15, sl A_gens gens c_gens), (0, sl A_gens gens c_gens), (1, sl A_used used c_used)] (by kernel_rfl) ?_
   refine ops_nil (fin_then (st_block ?_))
   obtain ⟨r5, hl5, hk5⟩ := obind hp
   refine st_loopP (σ := Int) (ρ := (Int ⊕ Unit)) (γ := Unit) hl5 () (fun s_ g_ => match s_, g_ with | i105, _ => [(0, sl A_gens gens c_gens), (1, sl A_used used c_used), (15, sl A_gens gens c_gens), (16, vI (gens.length : Int)), (17, vI i105)]) (fun s_ g_ => match s_, g_ with | i105, _ => Mem w0 (Fz F W :: cs)) (fun s_ g_ => match s_, g_ with | i105, _ => True) trivial (look_has ⟨rfl, rfl, rfl, rfl, rfl, trivial⟩) (fun w_ hM => hM) ?_
   rintro i105 _ o5 - hs_ hd5
   have hp : (tourref1_RoomOf_l5 gens) i105 = some o5 := hs_
   clear hs_
   unfold tourref1_RoomOf_l5 at hp
   refine st_seq (st_region [oF 0] (by rfl) ?_)
   refine oQ [oF 0] [(18, .bool (decide (i105 < (gens.length : Int)))), (0, sl A_gens gens c_gens), (1, sl A_used used c_used), (15, sl A_gens gens c_gens), (16, vI (gens.length : Int)), (17, vI i105)] (by kernel_rfl) ?_
   refine ops_nil (fin_then (st_seq ?_))
   refine st_if (b := decide (i105 < (gens.length : Int))) rfl (fun hc106 => ?_) (fun hc106 => ?_)
   ·
    have hp := cnd_t hc106 hp
    refine st_skip (fin_then (st_seq (st_block (st_seq (st_region [oF 0, oF 1, oF 2] (by rfl) ?_)))))
    obtain ⟨x107, hv108, hp⟩ := obind hp
    obtain ⟨m109, hm110, hx111⟩ := idx_some hv108
    have hl114 := (List.getElem?_eq_some_iff.1 hx111).1
    obtain ⟨ad115, vs112, hA116, hr113, hq117⟩ := RdS.el h_gens hx111
    obtain rfl := hr113
    refine ops_val (op := (.indexAddr 23 (.tmp 15) (.tmp 17))) (d := some 19) (v := .pointer (some (ad115.add (m109 * 1)))) ⟨by kernel_rfl⟩ (run_indexA hA116 Try.underlying23 (z := 1) (by kernel_rfl) rfl rfl hm110 hl114) ?_
    refine ops_mem (d := some 20) (an := [.v (vI x107)]) (evs := [.load (ad115.add (m109 * 1)) (vI x107)]) (v := vI x107) ⟨by kernel_rfl⟩ (fun w_ hM hS => ⟨w_, ⟨hM.elcell 0 rfl hq117 0 rfl, rfl⟩, hM, trivial⟩) ?_
    refine oQ [oF 2] [(7, vI x107), (0, sl A_gens gens c_gens), (1, sl A_used used c_used), (15, sl A_gens gens c_gens), (16, vI (gens.length : Int)), (17, vI i105)] (by kernel_rfl) ?_
    refine ops_nil (fin_then (st_seq (st_region [oF 0, oF 1, oF 2, oF 3, oF 4, oF 5] (by rfl) ?_)))
    refine oQ [oF 0, oF 1, oF 2] [(23, .bool (decide (x107 < 0))), (7, vI x107), (0, sl A_gens gens c_gens), (1, sl A_used used c_used), (15, sl A_gens gens c_gens), (16, vI (gens.length : Int)), (17, vI i105)] (by kernel_rfl) ?_
    refine ops_bool (t := decide (x107 < 0)) (l1 := [(23, .bool true), (7, vI x107), (0, sl A_gens gens c_gens), (1, sl A_used used c_used), (15, sl A_gens gens c_gens), (16, vI (gens.length : Int)), (17, vI i105)]) (l2 := [(23, .bool false), (7, vI x107), (0, sl A_gens gens c_gens), (1, sl A_used used c_used), (15, sl A_gens gens c_gens), (16, vI (gens.length : Int)), (17, vI i105)]) (fun h => by rw [h]) (fun h => by rw [h]) (fun hc118 => ?_) (fun hc118 => ?_)
    ·
     have hp := cnd_t hc118 hp
     refine oQ [oF 3, oF 4, oF 5] [(26, .bool true), (0, sl A_gens gens c_gens), (1, sl A_used used c_used), (15, sl A_gens gens c_gens), (16, vI (gens.length : Int)), (17, vI i105)] (by kernel_rfl) ?_
     refine ops_nil (fin_then (st_true rfl (st_seq (st_region [oF 0, oF 1] (by rfl) ?_))))
     refine oQ [oF 0, oF 1] [(5, vI 1), (4, .pointer none)] (by kernel_rfl) ?_
     refine ops_nil (fin_then (st_ret (fin_ret_block (fin_ret_then (fin_ret_then (fin_ret_block (fin_ret_then ?_)))))))
     obtain hq_ := Option.some.inj hp
     subst hq_
     obtain hq_ := hd5 _ rfl
     subst hq_
     have hp : some (.inl 1) = some r_ := hk5
     have hq_ := Option.some.inj hp
     subst hq_
     refine fin_ret [.tmp 4, .tmp 5] [.pointer none, vI 1] rfl rfl (fun w_ hM => (.tmp rfl (.tmp rfl .nil))) (fun w_ hM => ?_)
     refine (isel_l ?_)
     exact ⟨trivial, rfl, hM⟩
    ·
     have hp := cnd_f hc118 hp
     refine oQ [oF 3, oF 4, oF 5] [(26, .bool (decide (1073741824 < x107))), (0, sl A_gens gens c_gens), (1, sl A_used used c_used), (15, sl A_gens gens c_gens), (16, vI (gens.length : Int)), (17, vI i105)] (by kernel_rfl) ?_
     refine ops_nil (fin_then ?_)
     refine st_if (b := decide (1073741824 < x107)) rfl (fun hc119 => ?_) (fun hc119 => ?_)
     ·
      have hp := cnd_t hc119 hp
      refine st_seq (st_region [oF 0, oF 1] (by rfl) ?_)
      refine oQ [oF 0, oF 1] [(5, vI 1), (4, .pointer none)] (by kernel_rfl) ?_
      refine ops_nil (fin_then (st_ret (fin_ret_block (fin_ret_then (fin_ret_then (fin_ret_block (fin_ret_then ?_)))))))
      obtain hq_ := Option.some.inj hp
      subst hq_
      obtain hq_ := hd5 _ rfl
      subst hq_
      have hp : some (.inl 1) = some r_ := hk5
      have hq_ := Option.some.inj hp
      subst hq_
      refine fin_ret [.tmp 4, .tmp 5] [.pointer none, vI 1] rfl rfl (fun w_ hM => (.tmp rfl (.tmp rfl .nil))) (fun w_ hM => ?_)
      refine (isel_l ?_)
      exact ⟨trivial, rfl, hM⟩
     ·
      have hp := cnd_f hc119 hp
      refine st_skip (fin_block (fin_then (st_region [oF 0, oF 1] (by rfl) ?_)))
      refine oQ [oF 0, oF 1] [(17, vI (IntKind.i64.wrap (i105 + 1))), (0, sl A_gens gens c_gens), (1, sl A_used used c_used), (15, sl A_gens gens c_gens), (16, vI (gens.length : Int))] (by kernel_rfl) ?_
      refine ops_nil ?_
      exact fin_again (IntKind.i64.wrap (i105 + 1)) () (Option.some.inj hp).symm trivial (look_has ⟨rfl, rfl, rfl, rfl, rfl, trivial⟩) (fun w_ hM => hM)
   ·
    have hp := cnd_f hc106 hp
    refine st_exit (fin_exit_then (fin_exit_then (fin_exit ?_)))
    obtain hq_ := Option.some.inj hp
    subst hq_
    obtain hq_ := hd5 _ rfl
    subst hq_
    have hp : (tourref1_RoomOf_j1 gens used) = some r_ := hk5
    exact fin_join HJ1 () hp (look_has ⟨rfl, rfl, trivial⟩) (fun w_ hM => hM)
def slots_Slots_Alive__t0 : List Row := [⟨0, 32, 1⟩, ⟨1, 64, 32⟩, ⟨2, 128, 64⟩, ⟨4, 256, 128⟩, ⟨0, 512, 8⟩, ⟨16, 1024, 512⟩, ⟨40, 2048, 1280⟩, ⟨64, 4096, 2048⟩, ⟨128, 8192, 4097⟩, ⟨384, 16384, 12288⟩, ⟨640, 32768, 20480⟩, ⟨1152, 65536, 36864⟩, ⟨128, 131072, 4104⟩, ⟨4224, 262144, 135168⟩, ⟨10368, 524288, 331776⟩, ⟨16512, 1048576, 528384⟩, ⟨128, 2097152, 4104⟩, ⟨65664, 4194304, 2101248⟩, ⟨163968, 8388608, 5246976⟩, ⟨262272, 16777216, 8392704⟩, ⟨1048575, 16, 16777216⟩]
theorem slots_Slots_Alive_ok (w0 w : World) (cs : List Chunk) (F : Nat → Prop) (W : World) (b_s : Nat) (A_s_0 : Option Addr) (c_s_0 : Nat) (s_0 : List Int) (y_s_0 : List Value) (A_s_1 : Option Addr) (c_s_1 : Nat) (s_1 : List Int) (y_s_1 : List Value) (A_s_2 : Option Addr) (c_s_2 : Nat) (s_2 : List Int) (y_s_2 : List Value) (e_0 : Int) (e_1 : Int) (hM0 : Mem w0 (.blk b_s [sl A_s_0 s_0 c_s_0, sl A_s_1 s_1 c_s_1, sl A_s_2 s_2 c_s_2] 127 :: ow A_s_0 s_0 c_s_0 3 1 y_s_0 :: ow A_s_1 s_1 c_s_1 52 1 y_s_1 :: ow A_s_2 s_2 c_s_2 52 1 y_s_2 :: Fz F W :: cs) w) (h_s_0 : RepL (Rep.int .i64) F W s_0 y_s_0) (h_s_1 : RepL (Rep.int .u64) F W s_1 y_s_1) (h_s_2 : RepL (Rep.int .u64) F W s_2 y_s_2) (t9001 : Bool) (hp : slots_Slots_Alive s_0 s_1 s_2 e_0 e_1 = some t9001) : Calls Try.prog 43 #[vP b_s 0, .agg #[vI e_0, vI e_1]] w fun e w' => ∃ (y9002 : List Value), ∃ (y9004 : List Value), ∃ (y9006 : List Value), ((RepL (Rep.int .i64) F W s_0 y9002) ∧ (RepL (Rep.int .u64) F W s_1 y9004) ∧ (RepL (Rep.int .u64) F W s_2 y9006)) ∧ e = .returned (.bool t9001) ∧ Mem w0 (.blk b_s [sl A_s_0 s_0 c_s_0, sl A_s_1 s_1 c_s_1, sl A_s_2 s_2 c_s_2] 127 :: ow A_s_0 s_0 c_s_0 3 1 y9002 :: ow A_s_1 s_1 c_s_1 52 1 y9004 :: ow A_s_2 s_2 c_s_2 52 1 y9006 :: Fz F W :: cs) w' := by
 unfold slots_Slots_Alive at hp
 refine sx_calls Try.func43 rfl (n := 25) (by kernel_rfl) (l := [(0, vP b_s 0), (1, .agg #[vI e_0, vI e_1])]) rfl (by rfl) hM0 ?_
 refine st_seq (st_region [oF 0, oF 1] (by rfl) ?_)
 refine ops_newB (d := some 3) [vI e_0, vI e_1] 35 (fun b1 => ⟨by kernel_rfl⟩) (fun w_ hM hS => trivial) (fun b1 => ?_)
 refine oQ [oF 1] [(3, vP b1 0), (0, vP b_s 0)] (by kernel_rfl) ?_
 refine ops_nil (fin_then ?_)
 refine st_join1 (σ := Bool) (L := fun x_ => match x_ with | t2 => [(4, .bool t2)]) (N := fun x_ => match x_ with | t2 => Mem w0 (.blk b_s [sl A_s_0 s_0 c_s_0, sl A_s_1 s_1 c_s_1, sl A_s_2 s_2 c_s_2] 127 :: ow A_s_0 s_0 c_s_0 3 1 y_s_0 :: ow A_s_1 s_1 c_s_1 52 1 y_s_1 :: ow A_s_2 s_2 c_s_2 52 1 y_s_2 :: Fz F W :: cs)) (I := fun x_ => match x_ with | t2 => (slots_Slots_Alive_j1 t2 = some t9001)) ?_ ?_
 ·
  rintro t2 hp
  unfold slots_Slots_Alive_j1 at hp
  refine st_ret ?_
  have hq_ := Option.some.inj hp
  have hr0_ := hq_
  subst hr0_
  refine fin_ret [.tmp 4] [.bool t2] rfl rfl (fun w_ hM => (.tmp rfl .nil)) (fun w_ hM => ?_)
  exact ⟨y_s_0, y_s_1, y_s_2, ⟨h_s_0, h_s_1, h_s_2⟩, rfl, hM⟩
 ·
  intro HJ1
  refine st_seq ?_
  refine st_region_fast slots_Slots_Alive__t0 [oT 0, oT 1, oT 2, oT 3, oT 4, oT 5, oF 6, oT 7, oT 8, oT 9, oT 10, oT 11, oT 12, oT 13, oT 14, oT 15, oT 16, oT 17, oT 18, oT 19, oT 20] (Mem w0 (.blk b1 [vI e_0, vI e_1] 35 :: .blk b_s [sl A_s_0 s_0 c_s_0, sl A_s_1 s_1 c_s_1, sl A_s_2 s_2 c_s_2] 127 :: ow A_s_0 s_0 c_s_0 3 1 y_s_0 :: ow A_s_1 s_1 c_s_1 52 1 y_s_1 :: ow A_s_2 s_2 c_s_2 52 1 y_s_2 :: Fz F W :: cs)) (by kernel_rfl) (by kernel_rfl) (by kernel_rfl) (by kernel_rfl) (by kernel_rfl) (fun _ d _ _ _ h => by cases d <;> exact h) (M' := Mem w0 (.blk b1 [vI e_0, vI e_1] 35 :: .blk b_s [sl A_s_0 s_0 c_s_0, sl A_s_1 s_1 c_s_1, sl A_s_2 s_2 c_s_2] 127 :: ow A_s_0 s_0 c_s_0 3 1 y_s_0 :: ow A_s_1 s_1 c_s_1 52 1 y_s_1 :: ow A_s_2 s_2 c_s_2 52 1 y_s_2 :: Fz F W :: cs)) (fun w_ hM => ⟨hM.drew, hM.drew.sub (.cons_cons _ (.cons_cons _ (.cons_cons _ (.cons_cons _ (.cons_cons _ (.cons_cons _ (.refl _)))))))⟩) ?_
  refine oQ [oT 0, oT 1, oT 2] [(7, vP b_s 1), (3, vP b1 0), (0, vP b_s 0)] (by kernel_rfl) ?_
  refine ops_load (d := some 8) (an := [.v (sl A_s_1 s_1 c_s_1)]) (evs := [ld b_s 1 (sl A_s_1 s_1 c_s_1)]) (v := sl A_s_1 s_1 c_s_1) ⟨by kernel_rfl⟩ (fun w_ hM => ⟨hM.cell 1 rfl rfl, rfl⟩) ?_
  refine oQ [oT 4] [(9, vP b1 0), (8, sl A_s_1 s_1 c_s_1), (3, vP b1 0), (0, vP b_s 0)] (by kernel_rfl) ?_
  refine ops_load (d := some 10) (an := [.v (vI e_0)]) (evs := [ld b1 0 (vI e_0)]) (v := vI e_0) ⟨by kernel_rfl⟩ (fun w_ hM => ⟨hM.cell 0 rfl rfl, rfl⟩) ?_
  obtain ⟨x3, hv4, hp⟩ := obind hp
  refine ops_callI (σ := Unit) (d := some 11) (f := 27) (args := #[sl A_s_1 s_1 c_s_1, vI e_0]) (v := (fun _ => .bool x3)) (I := (fun _ => True)) (M' := (fun _ => Mem w0 (.blk b1 [vI e_0, vI e_1] 35 :: .blk b_s [sl A_s_0 s_0 c_s_0, sl A_s_1 s_1 c_s_1, sl A_s_2 s_2 c_s_2] 127 :: ow A_s_0 s_0 c_s_0 3 1 y_s_0 :: ow A_s_1 s_1 c_s_1 52 1 y_s_1 :: ow A_s_2 s_2 c_s_2 52 1 y_s_2 :: Fz F W :: cs))) ⟨by kernel_rfl⟩ (fun w_ hM hS => (sets_Set_Has_ok w_ w_ [] (fun b => b < w_.heap.size) w_ A_s_1 c_s_1 s_1 e_0 (Mem.fz0 w_) (hM.ordS 3 5 rfl rfl h_s_1 rfl rfl) x3 hv4).mono (by rintro e w' ⟨-, rfl, h'⟩; have h' : Mem w_ [] w' := h'.pick 1 [] (by kernel_rfl) (by decide) rfl; exact ⟨(), trivial, rfl, hM.join h' rfl, (hS.step h'.below)⟩)) ?_
  rintro _ -
  refine oQ [oT 7] [(12, .bool x3), (3, vP b1 0), (0, vP b_s 0)] (by kernel_rfl) ?_
  refine ops_bool (t := x3) (l1 := [(12, .bool true), (3, vP b1 0), (0, vP b_s 0)]) (l2 := [(12, .bool false), (3, vP b1 0), (0, vP b_s 0)]) (fun h => by rw [h]) (fun h => by rw [h]) (fun hc5 => ?_) (fun hc5 => ?_)
  ·
   have hp := cnd_t hc5 hp
   refine oQ [oT 8, oT 9, oT 10] [(15, vP b_s 0), (12, .bool true), (3, vP b1 0)] (by kernel_rfl) ?_
   refine ops_load (d := some 16) (an := [.v (sl A_s_0 s_0 c_s_0)]) (evs := [ld b_s 0 (sl A_s_0 s_0 c_s_0)]) (v := sl A_s_0 s_0 c_s_0) ⟨by kernel_rfl⟩ (fun w_ hM => ⟨hM.cell 1 rfl rfl, rfl⟩) ?_
   refine oQ [oT 12] [(17, vP b1 0), (16, sl A_s_0 s_0 c_s_0), (12, .bool true), (3, vP b1 0)] (by kernel_rfl) ?_
   refine ops_load (d := some 18) (an := [.v (vI e_0)]) (evs := [ld b1 0 (vI e_0)]) (v := vI e_0) ⟨by kernel_rfl⟩ (fun w_ hM => ⟨hM.cell 0 rfl rfl, rfl⟩) ?_
   obtain ⟨x6, hv7, hp⟩ := obind hp
   obtain ⟨m8, hm9, hx10⟩ := idx_some hv7
   have hl13 := (List.getElem?_eq_some_iff.1 hx10).1
   refine ops_fact (fun w_ hM => hM.orowSome 2 rfl (Nat.lt_of_le_of_lt (Nat.zero_le _) hl13)) ?_
   rintro ⟨g14, rfl, -⟩
   obtain ⟨vs11, hr12, hq15⟩ := h_s_0.at_ m8 x6 hx10
   obtain rfl := hr12
   refine ops_val (op := (.indexAddr 23 (.tmp 16) (.tmp 18))) (d := some 19) (v := vP g14 (m8 * 1)) ⟨by kernel_rfl⟩ (run_indexRow Try.underlying23 (z := 1) (by kernel_rfl) rfl rfl hm9 hl13 rfl) ?_
   refine ops_load (d := some 20) (an := [.v (vI x6)]) (evs := [.load ⟨g14, m8 * 1, none⟩ (vI x6)]) (v := vI x6) ⟨by kernel_rfl⟩ (fun w_ hM => ⟨hM.ocell 2 rfl (hq15 0 _ rfl), rfl⟩) ?_
   refine oQ [oT 16] [(21, vP b1 1), (20, vI x6), (12, .bool true)] (by kernel_rfl) ?_
   refine ops_load (d := some 22) (an := [.v (vI e_1)]) (evs := [ld b1 1 (vI e_1)]) (v := vI e_1) ⟨by kernel_rfl⟩ (fun w_ hM => ⟨hM.cell 0 rfl rfl, rfl⟩) ?_
   refine oQ [oT 18, oT 19, oT 20] [(4, .bool (x6 == e_1))] (by kernel_rfl) ?_
   refine ops_nil ?_
   exact fin_join HJ1 (x6 == e_1) hp (look_has ⟨rfl, trivial⟩) (fun w_ hM => hM.pick 6 [1, 2, 3, 4, 5] (by kernel_rfl) (by decide) rfl)
  ·
   have hp := cnd_f hc5 hp
   refine oQ [oT 8, oT 9, oT 10, oT 11, oT 12, oT 13, oT 14, oT 15, oT 16, oT 17, oT 18, oT 19, oT 20] [(4, .bool false)] (by kernel_rfl) ?_
   refine ops_nil ?_
   exact fin_join HJ1 false hp (look_has ⟨rfl, trivial⟩) (fun w_ hM => hM.pick 6 [1, 2, 3, 4, 5] (by kernel_rfl) (by decide) rfl)
def tourref1_Room_Alive__t0 : List Row := [⟨0, 32, 8⟩, ⟨1, 64, 32⟩, ⟨2, 128, 64⟩, ⟨4, 256, 128⟩, ⟨8, 512, 264⟩, ⟨24, 1024, 768⟩, ⟨8, 2048, 257⟩, ⟨72, 4096, 2304⟩, ⟨136, 8192, 4352⟩, ⟨264, 16384, 8448⟩, ⟨520, 32768, 16640⟩, ⟨1064, 65536, 34048⟩, ⟨2056, 131072, 65792⟩, ⟨4104, 262144, 131072⟩, ⟨8192, 524288, 262145⟩, ⟨24576, 1048576, 786432⟩, ⟨40960, 2097152, 1310720⟩, ⟨73728, 4194304, 2359296⟩, ⟨8192, 8388608, 262152⟩, ⟨270336, 16777216, 8650752⟩, ⟨663552, 33554432, 21233664⟩, ⟨1056768, 67108864, 33816576⟩, ⟨2105344, 134217728, 67371008⟩, ⟨4202496, 268435456, 134217728⟩, ⟨8388608, 536870912, 268435457⟩, ⟨25165824, 1073741824, 805306368⟩, ⟨41943040, 2147483648, 1342177280⟩, ⟨75497472, 4294967296, 2415919104⟩, ⟨8388608, 8589934592, 268435464⟩, ⟨276824064, 17179869184, 8858370048⟩, ⟨679477248, 34359738368, 21743271936⟩, ⟨1082130432, 68719476736, 34628173824⟩, ⟨8388608, 137438953472, 268435464⟩, ⟨4303355904, 274877906944, 137707388928⟩, ⟨10745806848, 549755813888, 343865819136⟩, ⟨17188257792, 1099511627776, 550024249344⟩, ⟨68719476735, 16, 1099511627776⟩]
theorem tourref1_Room_Alive_ok (w0 w : World) (cs : List Chunk) (F : Nat → Prop) (W : World) (e_0 : Int) (e_1 : Int) (hM0 : Mem w0 (Fz F W :: cs) w) (hp : tourref1_Room_Alive e_0 e_1 = some ()) : Calls Try.prog 44 #[.pointer none, .agg #[vI e_0, vI e_1]] w fun e w' => (True) ∧ e = .returned (.bool false) ∧ Mem w0 (Fz F W :: cs) w' := by
 unfold tourref1_Room_Alive at hp
 refine sx_calls Try.func44 rfl (n := 41) (by kernel_rfl) (l := [(0, .pointer none), (1, .agg #[vI e_0, vI e_1])]) rfl (by rfl) hM0 ?_
 refine st_seq (st_region [oF 0, oF 1] (by rfl) ?_)
 refine ops_newB (d := some 3) [vI e_0, vI e_1] 35 (fun b1 => ⟨by kernel_rfl⟩) (fun w_ hM hS => trivial) (fun b1 => ?_)
 refine oQ [oF 1] [(3, vP b1 0), (0, .pointer none)] (by kernel_rfl) ?_
 refine ops_nil (fin_then (st_seq ?_))
 refine st_region_fast tourref1_Room_Alive__t0 [oT 0, oT 1, oT 2, oT 3, oT 4, oT 5, oT 6, oT 7, oT 8, oT 9, oT 10, oT 11, oT 12, oT 13, oT 14, oT 15, oT 16, oT 17, oT 18, oT 19, oT 20, oT 21, oT 22, oT 23, oT 24, oT 25, oT 26, oT 27, oT 28, oT 29, oT 30, oT 31, oT 32, oT 33, oT 34, oT 35, oT 36] (Mem w0 (.blk b1 [vI e_0, vI e_1] 35 :: Fz F W :: cs)) (by kernel_rfl) (by kernel_rfl) (by kernel_rfl) (by kernel_rfl) (by kernel_rfl) (fun _ d _ _ _ h => by cases d <;> exact h) (M' := Mem w0 (.blk b1 [vI e_0, vI e_1] 35 :: Fz F W :: cs)) (fun w_ hM => ⟨hM.drew, hM.drew.sub (.cons_cons _ (.cons_cons _ (.refl _)))⟩) ?_
 refine oQ [oT 0] [(5, vP b1 0), (3, vP b1 0), (0, .pointer none)] (by kernel_rfl) ?_
 refine ops_load (d := some 6) (an := [.v (vI e_0)]) (evs := [ld b1 0 (vI e_0)]) (v := vI e_0) ⟨by kernel_rfl⟩ (fun w_ hM => ⟨hM.cell 0 rfl rfl, rfl⟩) ?_
 refine oQ [oT 2, oT 3] [(8, .bool (decide (0 ≤ e_0))), (3, vP b1 0), (0, .pointer none)] (by kernel_rfl) ?_
 refine ops_bool (t := decide (0 ≤ e_0)) (l1 := [(8, .bool true), (3, vP b1 0), (0, .pointer none)]) (l2 := [(8, .bool false), (3, vP b1 0), (0, .pointer none)]) (fun h => by rw [h]) (fun h => by rw [h]) (fun hc2 => ?_) (fun hc2 => ?_)
 ·
  have hp := cnd_t hc2 hp
  refine oQ [oT 4] [(9, vP b1 0), (8, .bool true), (3, vP b1 0), (0, .pointer none)] (by kernel_rfl) ?_
  refine ops_load (d := some 10) (an := [.v (vI e_0)]) (evs := [ld b1 0 (vI e_0)]) (v := vI e_0) ⟨by kernel_rfl⟩ (fun w_ hM => ⟨hM.cell 0 rfl rfl, rfl⟩) ?_
  refine oQ [oT 6] [(11, .pointer none), (10, vI e_0), (8, .bool true), (3, vP b1 0), (0, .pointer none)] (by kernel_rfl) ?_
  cases hp
 ·
  have hp := cnd_f hc2 hp
  refine oQ [oT 4, oT 5, oT 6, oT 7, oT 8, oT 9, oT 10, oT 11, oT 12, oT 13, oT 14, oT 15, oT 16, oT 17, oT 18, oT 19, oT 20, oT 21, oT 22, oT 23, oT 24, oT 25, oT 26, oT 27, oT 28, oT 29, oT 30, oT 31, oT 32, oT 33, oT 34, oT 35, oT 36] [(4, .bool false)] (by kernel_rfl) ?_
  refine ops_nil (fin_then (st_ret ?_))
  refine fin_ret [.tmp 4] [.bool false] rfl rfl (fun w_ hM => (.tmp rfl .nil)) (fun w_ hM => ?_)
  exact ⟨trivial, rfl, hM.pick 2 [1] (by kernel_rfl) (by decide) rfl⟩
end Go.Proofs.Ythcniadbdjoecaa.R
