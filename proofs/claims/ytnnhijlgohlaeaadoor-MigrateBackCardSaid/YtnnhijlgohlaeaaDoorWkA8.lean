/- The Go functions come to what the plain functions tell. No condition. -/
import Derived.Test.YtnnhijlgohlaeaaDoorProg
import Derived.Test.YtnnhijlgohlaeaaDoorFnA
import Derived.Test.YtnnhijlgohlaeaaDoorExOwnM
namespace Go.Proofs.YtnnhijlgohlaeaaDoor.A
open Go Go.RowKit Go.Proofs.YtnnhijlgohlaeaaDoor.Sx
set_option linter.unusedVariables false
set_option maxHeartbeats 4000000
set_option maxRecDepth 100000
theorem tourref3_where_ok (w0 w : World) (cs : List Chunk) (F : Nat → Prop) (W : World) (A_k : Option Addr) (c_k : Nat) (k : List api_Kind) (kind : ByteArray) (field : ByteArray) (hM0 : Mem w0 (Fz F W :: cs) w) (h_k : RdS R_api_Kind F W A_k c_k k) (i9001 : Int) (i9002 : Int) (hp : tourref3_where k kind field = some (i9001, i9002)) : Calls Tryd.prog 47 #[sl A_k k c_k, .string kind, .string field] w fun e w' => (True) ∧ e = .returned (.tuple #[vI i9001, vI i9002]) ∧ Mem w0 (Fz F W :: cs) w' := by
 unfold tourref3_where at hp
 refine sx_calls Tryd.func47 rfl (n := 40) (by kernel_rfl) (l := [(0, sl A_k k c_k), (1, .string kind), (2, .string field)]) rfl (by rfl) hM0 ?_
 refine st_seq (st_region [oF 0, oF 1] (by rfl) ?_)
 refine oQ [oF 0, oF 1] [(0, sl A_k k c_k), (1, .string kind), (2, .string field)] (by kernel_rfl) ?_
 refine ops_nil (fin_then ?_)
 refine st_join1 (σ := Unit) (L := fun _ => []) (N := fun _ => Mem w0 (Fz F W :: cs)) (I := fun _ => (tourref3_where_j1 = some (i9001, i9002))) ?_ ?_
 ·
  rintro _ hp
  unfold tourref3_where_j1 at hp
  refine st_seq (st_region [oF 0, oF 1] (by rfl) ?_)
  refine oQ [oF 0, oF 1] [(7, vI (-1)), (6, vI (-1))] (by kernel_rfl) ?_
  refine ops_nil (fin_then (st_ret ?_))
  have hq_ := Option.some.inj hp
  obtain ⟨hr0_, hq_⟩ := Prod.mk.inj hq_
  have hr1_ := hq_
  subst hr0_
  subst hr1_
  refine fin_ret [.tmp 6, .tmp 7] [vI (-1), vI (-1)] rfl rfl (fun w_ hM => (.tmp rfl (.tmp rfl .nil))) (fun w_ hM => ?_)
  exact ⟨trivial, rfl, hM⟩
 ·
  intro HJ1
  refine st_seq (st_seq (st_region [oF 0, oF 1, oF 2] (by rfl) ?_))
  refine oQ [oF 0, oF 1, oF 2] [(14, vI 0), (13, vI (k.length : Int)), (12, sl A_k k c_k), (1, .string kind), (2, .string field)] (by kernel_rfl) ?_
  refine ops_nil (fin_then (st_block ?_))
  obtain ⟨r2, hl2, hk2⟩ := obind hp
  refine st_loopP (σ := Int) (ρ := ((Int × Int) ⊕ Unit)) (γ := Unit) hl2 () (fun s_ g_ => match s_, g_ with | i1, _ => [(1, .string kind), (2, .string field), (12, sl A_k k c_k), (13, vI (k.length : Int)), (14, vI i1)]) (fun s_ g_ => match s_, g_ with | i1, _ => Mem w0 (Fz F W :: cs)) (fun s_ g_ => match s_, g_ with | i1, _ => True) trivial (look_has ⟨rfl, rfl, rfl, rfl, rfl, trivial⟩) (fun w_ hM => hM) ?_
  rintro i1 _ o2 - hs_ hd2
  have hp : (tourref3_where_l2 k kind field) i1 = some o2 := hs_
  clear hs_
  unfold tourref3_where_l2 at hp
  refine st_seq (st_region [oF 0] (by rfl) ?_)
  refine oQ [oF 0] [(15, .bool (decide (i1 < (k.length : Int)))), (1, .string kind), (2, .string field), (12, sl A_k k c_k), (13, vI (k.length : Int)), (14, vI i1)] (by kernel_rfl) ?_
  refine ops_nil (fin_then (st_seq ?_))
  refine st_if (b := decide (i1 < (k.length : Int))) rfl (fun hc2 => ?_) (fun hc2 => ?_)
  ·
   have hp := cnd_t hc2 hp
   refine st_skip (fin_then (st_seq (st_block (st_seq (st_region [oF 0, oF 1, oF 2, oF 3, oF 4, oF 5] (by rfl) ?_)))))
   refine oQ [oF 0] [(16, vI i1), (1, .string kind), (2, .string field), (12, sl A_k k c_k), (13, vI (k.length : Int)), (14, vI i1)] (by kernel_rfl) ?_
   obtain ⟨x3, hv4, hp⟩ := obind hp
   obtain ⟨m5, hm6, hx7⟩ := idx_some hv4
   have hl10 := (List.getElem?_eq_some_iff.1 hx7).1
   obtain ⟨ad11, vs8, hA12, hr9, hq13⟩ := RdS.el h_k hx7
   obtain ⟨A14, c15, rfl, h16⟩ := dec_api_Kind hr9
   refine ops_val (op := (.indexAddr 22 (.tmp 12) (.tmp 14))) (d := some 17) (v := .pointer (some (ad11.add (m5 * 2)))) ⟨by kernel_rfl⟩ (run_indexA hA12 Tryd.underlying22 (z := 2) (by kernel_rfl) rfl rfl hm6 hl10) ?_
   refine ops_mem (d := some 18) (an := [.v (.string x3.Name), .v (sl A14 x3.Fields c15)]) (evs := [.load (ad11.add (m5 * 2)) (.string x3.Name), .load ((ad11.add (m5 * 2)).add 1) (sl A14 x3.Fields c15)]) (v := .agg #[.string x3.Name, sl A14 x3.Fields c15]) ⟨by kernel_rfl⟩ (fun w_ hM hS => ⟨w_, ⟨hM.elcell 0 rfl hq13 0 rfl, hM.elcell 0 rfl hq13 1 rfl, rfl⟩, hM, trivial⟩) ?_
   refine ops_newB (d := some 9) [.string ByteArray.empty, .slice none 0 0] 35 (fun b17 => ⟨by kernel_rfl⟩) (fun w_ hM hS => trivial) (fun b17 => ?_)
   refine oQ [oF 4] [(8, vI i1), (9, vP b17 0), (18, .agg #[.string x3.Name, sl A14 x3.Fields c15]), (1, .string kind), (2, .string field), (12, sl A_k k c_k), (13, vI (k.length : Int)), (14, vI i1)] (by kernel_rfl) ?_
   refine ops_store (an := []) (evs := [sr b17 0 (.string x3.Name), sr b17 1 (sl A14 x3.Fields c15)]) ⟨by kernel_rfl⟩ (fun w_ hM hS => let ⟨w', he, h'⟩ := hM.evs_stores [.string x3.Name, sl A14 x3.Fields c15] 0 rfl 0 (Nat.le_of_ble_eq_true rfl); ⟨w', he, h', trivial⟩) ?_
   refine ops_nil (fin_then (st_seq (st_seq (st_region [oF 0, oF 1, oF 2, oF 3] (by rfl) ?_))))
   refine oQ [oF 0] [(19, vP b17 0), (8, vI i1), (9, vP b17 0), (1, .string kind), (2, .string field), (12, sl A_k k c_k), (13, vI (k.length : Int)), (14, vI i1)] (by kernel_rfl) ?_
   refine ops_mem (d := some 20) (an := [.v (.string x3.Name)]) (evs := [ld b17 0 (.string x3.Name)]) (v := .string x3.Name) ⟨by kernel_rfl⟩ (fun w_ hM hS => ⟨w_, ⟨hM.cell 0 rfl rfl, rfl⟩, hM, trivial⟩) ?_
   refine oQ [oF 2, oF 3] [(22, .bool (!(x3.Name.toList == kind.toList))), (8, vI i1), (9, vP b17 0), (1, .string kind), (2, .string field), (12, sl A_k k c_k), (13, vI (k.length : Int)), (14, vI i1)] (by kernel_rfl) ?_
   refine ops_nil (fin_then ?_)
   refine st_if (b := !(x3.Name.toList == kind.toList)) rfl (fun hc18 => ?_) (fun hc18 => ?_)
   ·
    have hp := cnd_t hc18 hp
    refine st_exit (fin_exit_then (fin_exit (fin_then (st_region [oF 0, oF 1] (by rfl) ?_))))
    refine oQ [oF 0, oF 1] [(14, vI (IntKind.i64.wrap (i1 + 1))), (1, .string kind), (2, .string field), (12, sl A_k k c_k), (13, vI (k.length : Int))] (by kernel_rfl) ?_
    refine ops_nil ?_
    exact fin_again (IntKind.i64.wrap (i1 + 1)) () (Option.some.inj hp).symm trivial (look_has ⟨rfl, rfl, rfl, rfl, rfl, trivial⟩) (fun w_ hM => hM.pick 2 [1] (by kernel_rfl) (by decide) rfl)
   ·
    have hp := cnd_f hc18 hp
    refine st_skip (fin_then ?_)
    refine st_join1 (σ := Unit) (L := fun _ => [(8, vI i1)]) (N := fun _ => Mem w0 (Fz F W :: cs)) (I := fun _ => ((tourref3_where_j3 i1) = some o2)) ?_ ?_
    ·
     rintro _ hp
     unfold tourref3_where_j3 at hp
     refine st_seq (st_region [oF 0, oF 1, oF 2] (by rfl) ?_)
     refine oQ [oF 0, oF 1, oF 2] [(7, vI (-1)), (6, vI i1)] (by kernel_rfl) ?_
     refine ops_nil (fin_then (st_ret (fin_ret_block (fin_ret_then (fin_ret_then (fin_ret_block (fin_ret_then ?_)))))))
     obtain hq_ := Option.some.inj hp
     subst hq_
     obtain hq_ := hd2 _ rfl
     subst hq_
     have hp : some (i1, (-1)) = some (i9001, i9002) := hk2
     have hq_ := Option.some.inj hp
     obtain ⟨hr0_, hq_⟩ := Prod.mk.inj hq_
     have hr1_ := hq_
     subst hr0_
     subst hr1_
     refine fin_ret [.tmp 6, .tmp 7] [vI i1, vI (-1)] rfl rfl (fun w_ hM => (.tmp rfl (.tmp rfl .nil))) (fun w_ hM => ?_)
     exact ⟨trivial, rfl, hM⟩
    ·
     intro HJ3
     refine st_seq (st_seq (st_region [oF 0, oF 1, oF 2, oF 3] (by rfl) ?_))
     refine oQ [oF 0] [(23, vP b17 1), (8, vI i1), (2, .string field)] (by kernel_rfl) ?_
     refine ops_mem (d := some 24) (an := [.v (sl A14 x3.Fields c15)]) (evs := [ld b17 1 (sl A14 x3.Fields c15)]) (v := sl A14 x3.Fields c15) ⟨by kernel_rfl⟩ (fun w_ hM hS => ⟨w_, ⟨hM.cell 0 rfl rfl, rfl⟩, hM, trivial⟩) ?_
     refine oQ [oF 2, oF 3] [(26, vI 0), (25, vI (x3.Fields.length : Int)), (24, sl A14 x3.Fields c15), (8, vI i1), (2, .string field)] (by kernel_rfl) ?_
     refine ops_nil (fin_then (st_block ?_))
     obtain ⟨r4, hl4, hk4⟩ := obind hp
     refine st_loopP (σ := Int) (ρ := ((Int × Int) ⊕ Unit)) (γ := Unit) hl4 () (fun s_ g_ => match s_, g_ with | i19, _ => [(2, .string field), (8, vI i1), (24, sl A14 x3.Fields c15), (25, vI (x3.Fields.length : Int)), (26, vI i19)]) (fun s_ g_ => match s_, g_ with | i19, _ => Mem w0 (Fz F W :: cs)) (fun s_ g_ => match s_, g_ with | i19, _ => True) trivial (look_has ⟨rfl, rfl, rfl, rfl, rfl, trivial⟩) (fun w_ hM => hM.pick 2 [1] (by kernel_rfl) (by decide) rfl) ?_
     rintro i19 _ o4 - hs_ hd4
     have hp : (tourref3_where_l4 x3 field i1) i19 = some o4 := hs_
     clear hs_
     unfold tourref3_where_l4 at hp
     refine st_seq (st_region [oF 0] (by rfl) ?_)
     refine oQ [oF 0] [(27, .bool (decide (i19 < (x3.Fields.length : Int)))), (2, .string field), (8, vI i1), (24, sl A14 x3.Fields c15), (25, vI (x3.Fields.length : Int)), (26, vI i19)] (by kernel_rfl) ?_
     refine ops_nil (fin_then (st_seq ?_))
     refine st_if (b := decide (i19 < (x3.Fields.length : Int))) rfl (fun hc20 => ?_) (fun hc20 => ?_)
     ·
      have hp := cnd_t hc20 hp
      refine st_skip (fin_then (st_seq (st_block (st_seq (st_region [oF 0, oF 1, oF 2, oF 3, oF 4, oF 5] (by rfl) ?_)))))
      refine oQ [oF 0] [(28, vI i19), (2, .string field), (8, vI i1), (24, sl A14 x3.Fields c15), (25, vI (x3.Fields.length : Int)), (26, vI i19)] (by kernel_rfl) ?_
      obtain ⟨x21, hv22, hp⟩ := obind hp
      obtain ⟨m23, hm24, hx25⟩ := idx_some hv22
      have hl28 := (List.getElem?_eq_some_iff.1 hx25).1
      obtain ⟨ad29, vs26, hA30, hr27, hq31⟩ := RdS.el h16 hx25
      obtain rfl := dec_api_Field hr27
      refine ops_val (op := (.indexAddr 33 (.tmp 24) (.tmp 26))) (d := some 29) (v := .pointer (some (ad29.add (m23 * 3)))) ⟨by kernel_rfl⟩ (run_indexA hA30 Tryd.underlying33 (z := 3) (by kernel_rfl) rfl rfl hm24 hl28) ?_
      refine ops_mem (d := some 30) (an := [.v (.string x21.Name), .v (vI x21.Bits), .v (vI x21.Low)]) (evs := [.load (ad29.add (m23 * 3)) (.string x21.Name), .load ((ad29.add (m23 * 3)).add 1) (vI x21.Bits), .load ((ad29.add (m23 * 3)).add 2) (vI x21.Low)]) (v := .agg #[.string x21.Name, vI x21.Bits, vI x21.Low]) ⟨by kernel_rfl⟩ (fun w_ hM hS => ⟨w_, ⟨hM.elcell 0 rfl hq31 0 rfl, hM.elcell 0 rfl hq31 1 rfl, hM.elcell 0 rfl hq31 2 rfl, rfl⟩, hM, trivial⟩) ?_
      refine ops_newB (d := some 11) [.string ByteArray.empty, vI 0, vI 0] 32 (fun b32 => ⟨by kernel_rfl⟩) (fun w_ hM hS => trivial) (fun b32 => ?_)
      refine oQ [oF 4] [(10, vI i19), (11, vP b32 0), (30, .agg #[.string x21.Name, vI x21.Bits, vI x21.Low]), (2, .string field), (8, vI i1), (24, sl A14 x3.Fields c15), (25, vI (x3.Fields.length : Int)), (26, vI i19)] (by kernel_rfl) ?_
      refine ops_store (an := []) (evs := [sr b32 0 (.string x21.Name), sr b32 1 (vI x21.Bits), sr b32 2 (vI x21.Low)]) ⟨by kernel_rfl⟩ (fun w_ hM hS => let ⟨w', he, h'⟩ := hM.evs_stores [.string x21.Name, vI x21.Bits, vI x21.Low] 0 rfl 0 (Nat.le_of_ble_eq_true rfl); ⟨w', he, h', trivial⟩) ?_
      refine ops_nil (fin_then (st_seq (st_region [oF 0, oF 1, oF 2, oF 3] (by rfl) ?_)))
      refine oQ [oF 0] [(31, vP b32 0), (10, vI i19), (2, .string field), (8, vI i1), (24, sl A14 x3.Fields c15), (25, vI (x3.Fields.length : Int)), (26, vI i19)] (by kernel_rfl) ?_
      refine ops_mem (d := some 32) (an := [.v (.string x21.Name)]) (evs := [ld b32 0 (.string x21.Name)]) (v := .string x21.Name) ⟨by kernel_rfl⟩ (fun w_ hM hS => ⟨w_, ⟨hM.cell 0 rfl rfl, rfl⟩, hM, trivial⟩) ?_
      refine oQ [oF 2, oF 3] [(34, .bool (x21.Name.toList == field.toList)), (10, vI i19), (2, .string field), (8, vI i1), (24, sl A14 x3.Fields c15), (25, vI (x3.Fields.length : Int)), (26, vI i19)] (by kernel_rfl) ?_
      refine ops_nil (fin_then ?_)
      refine st_if (b := (x21.Name.toList == field.toList)) rfl (fun hc33 => ?_) (fun hc33 => ?_)
      ·
       have hp := cnd_t hc33 hp
       refine st_seq (st_region [oF 0, oF 1, oF 2, oF 3] (by rfl) ?_)
       refine oQ [oF 0, oF 1, oF 2, oF 3] [(7, vI i19), (6, vI i1)] (by kernel_rfl) ?_
       refine ops_nil (fin_then (st_ret (fin_ret_block (fin_ret_then (fin_ret_then (fin_ret_block (fin_ret_then (fin_ret_block (fin_ret_then (fin_ret_then (fin_ret_block (fin_ret_then ?_))))))))))))
       obtain hq_ := Option.some.inj hp
       subst hq_
       obtain hq_ := hd4 _ rfl
       subst hq_
       have hp : some (.inr (.inl (i1, i19))) = some o2 := hk4
       obtain hq_ := Option.some.inj hp
       subst hq_
       obtain hq_ := hd2 _ rfl
       subst hq_
       have hp : some (i1, i19) = some (i9001, i9002) := hk2
       have hq_ := Option.some.inj hp
       obtain ⟨hr0_, hq_⟩ := Prod.mk.inj hq_
       have hr1_ := hq_
       subst hr0_
       subst hr1_
       refine fin_ret [.tmp 6, .tmp 7] [vI i1, vI i19] rfl rfl (fun w_ hM => (.tmp rfl (.tmp rfl .nil))) (fun w_ hM => ?_)
       exact ⟨trivial, rfl, hM.pick 2 [1] (by kernel_rfl) (by decide) rfl⟩
      ·
       have hp := cnd_f hc33 hp
       refine st_skip (fin_block (fin_then (st_region [oF 0, oF 1] (by rfl) ?_)))
       refine oQ [oF 0, oF 1] [(26, vI (IntKind.i64.wrap (i19 + 1))), (2, .string field), (8, vI i1), (24, sl A14 x3.Fields c15), (25, vI (x3.Fields.length : Int))] (by kernel_rfl) ?_
       refine ops_nil ?_
       exact fin_again (IntKind.i64.wrap (i19 + 1)) () (Option.some.inj hp).symm trivial (look_has ⟨rfl, rfl, rfl, rfl, rfl, trivial⟩) (fun w_ hM => hM.pick 2 [1] (by kernel_rfl) (by decide) rfl)
     ·
      have hp := cnd_f hc20 hp
      refine st_exit (fin_exit_then (fin_exit_then (fin_exit ?_)))
      obtain hq_ := Option.some.inj hp
      subst hq_
      obtain hq_ := hd4 _ rfl
      subst hq_
      have hp : (tourref3_where_j3 i1) = some o2 := hk4
      exact fin_join HJ3 () hp (look_has ⟨rfl, trivial⟩) (fun w_ hM => hM)
  ·
   have hp := cnd_f hc2 hp
   refine st_exit (fin_exit_then (fin_exit_then (fin_exit ?_)))
   obtain hq_ := Option.some.inj hp
   subst hq_
   obtain hq_ := hd2 _ rfl
   subst hq_
   have hp : tourref3_where_j1 = some (i9001, i9002) := hk2
   exact fin_join HJ1 () hp (look_has trivial) (fun w_ hM => hM)
end Go.Proofs.YtnnhijlgohlaeaaDoor.A
