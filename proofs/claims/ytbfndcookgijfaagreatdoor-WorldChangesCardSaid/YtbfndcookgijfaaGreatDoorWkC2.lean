/- The Go functions come to what the plain functions tell. No condition. -/
import Derived.Test.YtbfndcookgijfaaGreatDoorProg
import Derived.Test.YtbfndcookgijfaaGreatDoorFnC
import Derived.Test.YtbfndcookgijfaaGreatDoorExSq
import Derived.Test.YtbfndcookgijfaaGreatDoorExOwnM
import Derived.Test.YtbfndcookgijfaaGreatDoorExSort
import Derived.Test.YtbfndcookgijfaaGreatDoorLyCmp37
import Derived.Test.YtbfndcookgijfaaGreatDoorLySort44
namespace Go.Proofs.YtbfndcookgijfaaGreatDoor.C
open Go Go.RowKit Go.Proofs.YtbfndcookgijfaaGreatDoor.Sx
set_option linter.unusedVariables false
set_option maxHeartbeats 4000000
set_option maxRecDepth 100000
variable {w0 w : World} {cs : List Chunk} {F : Nat → Prop} {W : World}
set_option maxHeartbeats 4000000 in
set_option maxRecDepth 100000 in
theorem slices_SortFunc_api_Comp_api_Comp_ok_cmp (F : Nat → Prop) (W : World) (x y : api_Comp) (vx vy : List Value) (hx : (R_api_Comp).rd F W x vx) (hy : (R_api_Comp).rd F W y vy) (W' : World) : Calls Tryz.prog 45 #[.agg vx.toArray, .agg vy.toArray] W' fun e w' => e = .returned (.int .i64 (Lib.compareInt x.Kind y.Kind)) ∧ ∃ q os', w' = Go.Sort.grow (W'.drewN q) os' := by
  obtain ⟨_, _, rfl, _⟩ := dec_api_Comp hx
  obtain ⟨_, _, rfl, _⟩ := dec_api_Comp hy
  clear hx hy
  have hcon := fun W' => AnyG.cmp_Compare_int laysLyCmp37 x.Kind y.Kind W'
  change ∀ W', Calls Tryz.prog 37 _ _ _ at hcon
  generalize Lib.compareInt x.Kind y.Kind = r at hcon ⊢
  go_enter Tryz.func45, Tryz.ntmps45
  go_wp2_with (go_at_call 37; refine (hcon _).mono ?_; rintro e w' ⟨rfl, rfl⟩)
  go_ret
  exact ⟨rfl, 0, _, by rw [Go.Sort.alloc_eq_grow, Go.Sort.alloc_eq_grow, Go.Sort.grow_grow]; rfl⟩
set_option maxHeartbeats 4000000 in
set_option maxRecDepth 100000 in
theorem slices_SortFunc_api_Comp_api_Comp_ok (w0 w : World) (cs : List Chunk) (F : Nat → Prop) (W : World) (A_s : Option Addr) (c_s : Nat) (s_ : List api_Comp) (y_s : List Value) (hM0 : Mem w0 (orow A_s s_.length c_s 42 2 y_s :: Fz F W :: cs) w) (h_s : RepL R_api_Comp F W s_ y_s) (l9001 : List api_Comp) (hp : slices_SortFunc_api_Comp_api_Comp s_ = some l9001) : Calls Tryz.prog 44 #[.slice A_s s_.length c_s, .func (.func 45) #[] #[]] w fun e w' => ∃ (y9001 : List Value), ((RepL R_api_Comp F W l9001 y9001) ∧ (l9001.length = s_.length)) ∧ e = .returned (.tuple #[]) ∧ Mem w0 (orow A_s l9001.length c_s 42 2 y9001 :: Fz F W :: cs) w' := by
  have hp' : sortBy (fun x => x.Kind) s_ = some l9001 := hp
  have hl : l9001.length = s_.length := by rw [(sortBy_some hp').2.2, List.length_mergeSort]
  have eg : ∀ args w, (callFunc 45 args).run Tryz.prog w = .ok (.enter 45 args) w := enters_of Tryz.func45 (by kernel_rfl) rfl
  have h := sort_row laysLySort44 (R := R_api_Comp) Tryz.isAgg42 (fun w => Tryz.sizeOf42 w) (fun x => x.Kind) 45 eg slices_SortFunc_api_Comp_api_Comp_ok_cmp hM0 h_s hp'
  refine h.mono ?_
  rintro e w' ⟨rfl, y', h1, h2⟩
  exact ⟨y', ⟨h1, hl⟩, rfl, h2⟩
end Go.Proofs.YtbfndcookgijfaaGreatDoor.C
