/- The Go functions as plain functions over Option. No condition. -/
import Derived.Test.YthcbepikeinglaaTyY
namespace Go.Proofs.Ythcbepikeinglaa.Y
open Go Go.RowKit Go.Proofs.Ythcbepikeinglaa.Sx
set_option linter.unusedVariables false
noncomputable def slices_Clone_int_int (s : List Int) : Option ((List Int)) :=
 (app 8 ([] : List Int) s).bind fun l5 =>
 some l5
noncomputable def world_CopyComps_j1 (l12 : List api_Comp) : Option ((List api_Comp)) :=
 some l12
noncomputable def world_CopyComps_l2 (l : List api_Comp) (l17 : List api_Comp) (i20 : Int) : Option (((List api_Comp) × Int) ⊕ (List api_Comp)) :=
 cnd (decide (i20 < (l.length : Int))) ((idx l i20).bind fun x24 =>
 (slices_Clone_int_int x24.Vals).bind fun x39 =>
 (idx l17 i20).bind fun x45 =>
 (upd l17 i20 (api_Comp.mk x24.Kind x39)).bind fun l61 =>
 some (.inl (l61, IntKind.i64.wrap (i20 + 1)))) (some (.inr l17))
noncomputable def world_CopyComps (l : List api_Comp) : Option ((List api_Comp)) :=
 (mk 32 (l.length : Int) ((api_Comp.mk 0 []) : api_Comp)).bind fun l1 =>
 (loop (σ := (List api_Comp) × Int) (ρ := (List api_Comp)) (fun s_ => world_CopyComps_l2 l s_.1 s_.2) (l1, 0)).bind (fun e_ => world_CopyComps_j1 e_)
noncomputable def cmd_Copy (c_0 : Int) (c_1 : Int) (c_2 : Int) (c_3 : Int) (c_4 : List api_Comp) : Option ((List api_Comp)) :=
 (world_CopyComps c_4).bind fun x3 =>
 some x3
noncomputable def cmd_Join_j2 (l3 : List api_Cmd) : Option ((List api_Cmd) × Int) :=
 some (l3, 0)
noncomputable def cmd_Join_j4 (i13 : Int) (l19 : List api_Cmd) : Option (((List api_Cmd) × Int) ⊕ (List api_Cmd)) :=
 some (.inl (l19, IntKind.i64.wrap (i13 + 1)))
noncomputable def cmd_Join_l5 (x24 : List api_Cmd) (l40 : List api_Cmd) (i43 : Int) : Option (((List api_Cmd) × Int) ⊕ (List api_Cmd)) :=
 cnd (decide (i43 < (x24.length : Int))) ((idx x24 i43).bind fun x47 =>
 (cmd_Copy x47.Do x47.Ent.N x47.Ent.Gen x47.Kind x47.Comps).bind fun x62 =>
 (app 56 l40 ([(api_Cmd.mk x47.Do (api_Ent.mk x47.Ent.N x47.Ent.Gen) x47.Kind x62)] : List api_Cmd)).bind fun l77 =>
 some (.inl (l77, IntKind.i64.wrap (i43 + 1)))) (some (.inr l40))
noncomputable def cmd_Join_l3 (l : List (List api_Cmd)) (l10 : List api_Cmd) (i13 : Int) : Option (((List api_Cmd) × Int) ⊕ (List api_Cmd)) :=
 cnd (decide (i13 < (l.length : Int))) ((idx l i13).bind fun x24 =>
 (loop (σ := (List api_Cmd) × Int) (ρ := (List api_Cmd)) (fun s_ => cmd_Join_l5 x24 s_.1 s_.2) (l10, 0)).bind (fun e_ => cmd_Join_j4 i13 e_)) (some (.inr l10))
noncomputable def cmd_Join_j1 (l : List (List api_Cmd)) : Option ((List api_Cmd) × Int) :=
 (loop (σ := (List api_Cmd) × Int) (ρ := (List api_Cmd)) (fun s_ => cmd_Join_l3 l s_.1 s_.2) (([] : List api_Cmd), 0)).bind (fun e_ => cmd_Join_j2 e_)
noncomputable def cmd_Join_l6 (l : List (List api_Cmd)) (i86 : Int) (i87 : Int) : Option ((Int × Int) ⊕ (((List api_Cmd) × Int) ⊕ Unit)) :=
 cnd (decide (i87 < (l.length : Int))) ((idx l i87).bind fun x89 =>
 cnd (decide (131072 < IntKind.i64.wrap (i86 + (x89.length : Int)))) (some (.inr (.inl (([] : List api_Cmd), 2)))) (some (.inl (IntKind.i64.wrap (i86 + (x89.length : Int)), IntKind.i64.wrap (i87 + 1))))) (some (.inr (.inr ())))
noncomputable def cmd_Join (l : List (List api_Cmd)) : Option ((List api_Cmd) × Int) :=
 (loop (σ := Int × Int) (ρ := (((List api_Cmd) × Int) ⊕ Unit)) (fun s_ => cmd_Join_l6 l s_.1 s_.2) (0, 0)).bind (Sum.elim (fun e_ => some (e_.1, e_.2)) (fun e_ => cmd_Join_j1 l))
noncomputable def slices_Grow_api_Cmd_api_Cmd (n_ : Int) : Option (List api_Cmd) := grow 56 n_
noncomputable def slices_Concat_api_Cmd_api_Cmd_j2 (l10 : List api_Cmd) : Option ((List api_Cmd)) :=
 some l10
noncomputable def slices_Concat_api_Cmd_api_Cmd_l3 (slices : List (List api_Cmd)) (l15 : List api_Cmd) (i18 : Int) : Option (((List api_Cmd) × Int) ⊕ (List api_Cmd)) :=
 cnd (decide (i18 < (slices.length : Int))) ((idx slices i18).bind fun x20 =>
 (app 56 l15 x20).bind fun l34 =>
 some (.inl (l34, IntKind.i64.wrap (i18 + 1)))) (some (.inr l15))
noncomputable def slices_Concat_api_Cmd_api_Cmd_j1 (slices : List (List api_Cmd)) (i1 : Int) : Option ((List api_Cmd)) :=
 (slices_Grow_api_Cmd_api_Cmd i1).bind fun x2 =>
 (loop (σ := (List api_Cmd) × Int) (ρ := (List api_Cmd)) (fun s_ => slices_Concat_api_Cmd_api_Cmd_l3 slices s_.1 s_.2) (x2, 0)).bind (fun e_ => slices_Concat_api_Cmd_api_Cmd_j2 e_)
noncomputable def slices_Concat_api_Cmd_api_Cmd_l4 (slices : List (List api_Cmd)) (i46 : Int) (i47 : Int) : Option ((Int × Int) ⊕ Int) :=
 cnd (decide (i47 < (slices.length : Int))) ((idx slices i47).bind fun x49 =>
 cnd (decide (IntKind.i64.wrap (i46 + (x49.length : Int)) < 0)) (none) (some (.inl (IntKind.i64.wrap (i46 + (x49.length : Int)), IntKind.i64.wrap (i47 + 1))))) (some (.inr i46))
noncomputable def slices_Concat_api_Cmd_api_Cmd (slices : List (List api_Cmd)) : Option ((List api_Cmd)) :=
 (loop (σ := Int × Int) (ρ := Int) (fun s_ => slices_Concat_api_Cmd_api_Cmd_l4 slices s_.1 s_.2) (0, 0)).bind (fun e_ => slices_Concat_api_Cmd_api_Cmd_j1 slices e_)
noncomputable def slices_Equal_int_int_j1 : Option Bool :=
 some true
noncomputable def slices_Equal_int_int_l2 (s1_1 : List Int) (s2_1 : List Int) (i2 : Int) : Option (Int ⊕ (Bool ⊕ Unit)) :=
 cnd (decide (i2 < (s1_1.length : Int))) ((idx s1_1 i2).bind fun x4 =>
 (idx s2_1 i2).bind fun x15 =>
 cnd (!(x4 == x15)) (some (.inr (.inl false))) (some (.inl (IntKind.i64.wrap (i2 + 1))))) (some (.inr (.inr ())))
noncomputable def slices_Equal_int_int (s1_1 : List Int) (s2_1 : List Int) : Option Bool :=
 cnd (!((s1_1.length : Int) == (s2_1.length : Int))) (some false) ((loop (σ := Int) (ρ := (Bool ⊕ Unit)) (fun s_ => slices_Equal_int_int_l2 s1_1 s2_1 s_) 0).bind (Sum.elim (fun e_ => some e_) (fun e_ => slices_Equal_int_int_j1)))
noncomputable def tourref3_SameComp_j1 (t3 : Bool) : Option Bool :=
 some t3
noncomputable def tourref3_SameComp (a_0 : Int) (a_1 : List Int) (b_0 : Int) (b_1 : List Int) : Option Bool :=
 cnd (a_0 == b_0) ((slices_Equal_int_int a_1 b_1).bind fun x5 =>
 tourref3_SameComp_j1 x5) (tourref3_SameComp_j1 false)
noncomputable def slices_EqualFunc_api_Comp_api_Comp_api_Comp_api_Comp_j1 : Option Bool :=
 some true
noncomputable def slices_EqualFunc_api_Comp_api_Comp_api_Comp_api_Comp_l2 (s1_1 : List api_Comp) (s2_1 : List api_Comp) (i2 : Int) : Option (Int ⊕ (Bool ⊕ Unit)) :=
 cnd (decide (i2 < (s1_1.length : Int))) ((idx s1_1 i2).bind fun x4 =>
 (idx s2_1 i2).bind fun x19 =>
 (tourref3_SameComp x4.Kind x4.Vals x19.Kind x19.Vals).bind fun x34 =>
 cnd (!x34) (some (.inr (.inl false))) (some (.inl (IntKind.i64.wrap (i2 + 1))))) (some (.inr (.inr ())))
noncomputable def slices_EqualFunc_api_Comp_api_Comp_api_Comp_api_Comp (s1_1 : List api_Comp) (s2_1 : List api_Comp) : Option Bool :=
 cnd (!((s1_1.length : Int) == (s2_1.length : Int))) (some false) ((loop (σ := Int) (ρ := (Bool ⊕ Unit)) (fun s_ => slices_EqualFunc_api_Comp_api_Comp_api_Comp_api_Comp_l2 s1_1 s2_1 s_) 0).bind (Sum.elim (fun e_ => some e_) (fun e_ => slices_EqualFunc_api_Comp_api_Comp_api_Comp_api_Comp_j1)))
noncomputable def tourref3_SameCmds_1_j1 (t3 : Bool) : Option Bool :=
 some t3
noncomputable def tourref3_SameCmds_1 (x_0 : Int) (x_1 : Int) (x_2 : Int) (x_3 : Int) (x_4 : List api_Comp) (y_0 : Int) (y_1 : Int) (y_2 : Int) (y_3 : Int) (y_4 : List api_Comp) : Option Bool :=
 cnd (x_0 == y_0) (cnd (x_1 == y_1 && (x_2 == y_2)) (cnd (x_3 == y_3) ((slices_EqualFunc_api_Comp_api_Comp_api_Comp_api_Comp x_4 y_4).bind fun x7 =>
 tourref3_SameCmds_1_j1 x7) (tourref3_SameCmds_1_j1 false)) (tourref3_SameCmds_1_j1 false)) (tourref3_SameCmds_1_j1 false)
noncomputable def slices_EqualFunc_api_Cmd_api_Cmd_api_Cmd_api_Cmd_j1 : Option Bool :=
 some true
noncomputable def slices_EqualFunc_api_Cmd_api_Cmd_api_Cmd_api_Cmd_l2 (s1_1 : List api_Cmd) (s2_1 : List api_Cmd) (i2 : Int) : Option (Int ⊕ (Bool ⊕ Unit)) :=
 cnd (decide (i2 < (s1_1.length : Int))) ((idx s1_1 i2).bind fun x4 =>
 (idx s2_1 i2).bind fun x19 =>
 (tourref3_SameCmds_1 x4.Do x4.Ent.N x4.Ent.Gen x4.Kind x4.Comps x19.Do x19.Ent.N x19.Ent.Gen x19.Kind x19.Comps).bind fun x34 =>
 cnd (!x34) (some (.inr (.inl false))) (some (.inl (IntKind.i64.wrap (i2 + 1))))) (some (.inr (.inr ())))
noncomputable def slices_EqualFunc_api_Cmd_api_Cmd_api_Cmd_api_Cmd (s1_1 : List api_Cmd) (s2_1 : List api_Cmd) : Option Bool :=
 cnd (!((s1_1.length : Int) == (s2_1.length : Int))) (some false) ((loop (σ := Int) (ρ := (Bool ⊕ Unit)) (fun s_ => slices_EqualFunc_api_Cmd_api_Cmd_api_Cmd_api_Cmd_l2 s1_1 s2_1 s_) 0).bind (Sum.elim (fun e_ => some e_) (fun e_ => slices_EqualFunc_api_Cmd_api_Cmd_api_Cmd_api_Cmd_j1)))
noncomputable def tourref3_SameCmds (a : List api_Cmd) (b : List api_Cmd) : Option Bool :=
 (slices_EqualFunc_api_Cmd_api_Cmd_api_Cmd_api_Cmd a b).bind fun x1 =>
 some x1
noncomputable def tourlaw3_CmdJoins_j2 (t37 : Bool) : Option Bool :=
 some t37
noncomputable def tourlaw3_CmdJoins_j3 (t39 : Bool) : Option Bool :=
 some t39
noncomputable def tourlaw3_CmdJoins_j1 (x26 : Int) (x25 : List api_Cmd) (l : List (List api_Cmd)) (i35 : Int) : Option Bool :=
 cnd (decide (131072 < i35)) (cnd (x26 == 2) (tourlaw3_CmdJoins_j2 ((x25.length : Int) == 0)) (tourlaw3_CmdJoins_j2 false)) (cnd (x26 == 0) ((slices_Concat_api_Cmd_api_Cmd l).bind fun x41 =>
 (tourref3_SameCmds x25 x41).bind fun x47 =>
 tourlaw3_CmdJoins_j3 x47) (tourlaw3_CmdJoins_j3 false))
noncomputable def tourlaw3_CmdJoins_l4 (l : List (List api_Cmd)) (i49 : Int) (i50 : Int) : Option ((Int × Int) ⊕ Int) :=
 cnd (decide (i50 < (l.length : Int))) ((idx l i50).bind fun x52 =>
 some (.inl (IntKind.i64.wrap (i49 + (x52.length : Int)), IntKind.i64.wrap (i50 + 1)))) (some (.inr i49))
noncomputable def tourlaw3_CmdJoins (l : List (List api_Cmd)) : Option Bool :=
 bnd2 (cmd_Join ([([(api_Cmd.mk 2 (api_Ent.mk 0 0) 0 [])] : List api_Cmd), ([(api_Cmd.mk 2 (api_Ent.mk 0 0) 0 [])] : List api_Cmd)] : List (List api_Cmd))) fun x13 x14 =>
 cnd (!(x14 == 0)) (some false) (cnd (!((x13.length : Int) == 2)) (some false) (bnd2 (cmd_Join l) fun x25 x26 =>
 (loop (σ := Int × Int) (ρ := Int) (fun s_ => tourlaw3_CmdJoins_l4 l s_.1 s_.2) (0, 0)).bind (fun e_ => tourlaw3_CmdJoins_j1 x26 x25 l e_)))
end Go.Proofs.Ythcbepikeinglaa.Y
