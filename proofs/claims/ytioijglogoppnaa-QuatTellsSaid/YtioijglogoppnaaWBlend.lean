/- Walks of quat.Blend. No condition. -/
import Derived.Test.YtioijglogoppnaaProg
import Derived.Test.YtioijglogoppnaaSxOps
import Derived.Test.YtioijglogoppnaaQuatSpec
import Derived.Test.YtioijglogoppnaaWQuat
import Derived.Test.YtioijglogoppnaaSxFast
import Derived.Test.YtioijglogoppnaaSxDag
namespace Go.Proofs.Ytioijglogoppnaa.WBlend
open Go Go.RowKit Go.Proofs.Ytioijglogoppnaa.Sx Go.Proofs.Ytioijglogoppnaa.Rnd Go.Proofs.Ytioijglogoppnaa.Nats Go.Proofs.Ytioijglogoppnaa.Trig Go.Proofs.Ytioijglogoppnaa.Root Go.Proofs.Ytioijglogoppnaa.Vecs Go.Proofs.Ytioijglogoppnaa.Divs Go.Proofs.Ytioijglogoppnaa.Quats Go.Proofs.Ytioijglogoppnaa.WUnit Go.Proofs.Ytioijglogoppnaa.WEven Go.Proofs.Ytioijglogoppnaa.WFix Go.Proofs.Ytioijglogoppnaa.WClamp Go.Proofs.Ytioijglogoppnaa.WQuat
set_option linter.unusedVariables false
set_option linter.unusedSimpArgs false
def QBlend0_t0 : List Row := [⟨0, 4096, 128⟩, ⟨0, 8192, 8⟩, ⟨2, 16384, 8192⟩, ⟨0, 32768, 16⟩, ⟨8, 65536, 32768⟩, ⟨21, 131072, 86016⟩, ⟨0, 262144, 128⟩, ⟨0, 524288, 8⟩, ⟨128, 1048576, 524288⟩, ⟨0, 2097152, 16⟩, ⟨512, 4194304, 2097152⟩, ⟨1376, 8388608, 5505024⟩, ⟨0, 16777216, 128⟩, ⟨0, 33554432, 8⟩, ⟨8192, 67108864, 33554432⟩, ⟨0, 134217728, 16⟩, ⟨32768, 268435456, 134217728⟩, ⟨88064, 536870912, 352321536⟩, ⟨0, 1073741824, 128⟩, ⟨0, 2147483648, 8⟩, ⟨524288, 4294967296, 2147483648⟩, ⟨0, 8589934592, 16⟩, ⟨2097152, 17179869184, 8589934592⟩, ⟨5636096, 34359738368, 22548578304⟩, ⟨8521760, 68719476736, 34905128960⟩, ⟨25165824, 137438953472, 68719476736⟩, ⟨33554432, 274877906944, 137438953472⟩]
def QBlend0_t1 : List Row := [⟨0, 288230376151711744, 128⟩, ⟨0, 576460752303423488, 8⟩, ⟨2, 1152921504606846976, 576460752303423488⟩, ⟨0, 2305843009213693952, 256⟩, ⟨13, 4611686018427387904, 3746994889972252672⟩, ⟨0, 9223372036854775808, 128⟩, ⟨0, 18446744073709551616, 16⟩, ⟨64, 36893488147419103232, 18446744073709551616⟩, ⟨0, 73786976294838206464, 4⟩, ⟨432, 147573952589676412928, 119903836479112085504⟩, ⟨528, 295147905179352825856, 152185638608103800832⟩, ⟨0, 590295810358705651712, 128⟩, ⟨0, 1180591620717411303424, 8⟩, ⟨4096, 2361183241434822606848, 1180591620717411303424⟩, ⟨0, 4722366482869645213696, 256⟩, ⟨27648, 9444732965739290427392, 7673845534663173472256⟩, ⟨0, 18889465931478580854784, 128⟩, ⟨0, 37778931862957161709568, 16⟩, ⟨131072, 75557863725914323419136, 37778931862957161709568⟩, ⟨0, 151115727451828646838272, 4⟩, ⟨884736, 302231454903657293676544, 245563057109221551112192⟩, ⟨1081344, 604462909807314587353088, 311676187869396584103936⟩, ⟨0, 1208925819614629174706176, 128⟩, ⟨0, 2417851639229258349412352, 8⟩, ⟨8388608, 4835703278458516698824704, 2417851639229258349412352⟩, ⟨0, 9671406556917033397649408, 256⟩, ⟨56623104, 19342813113834066795298816, 15716035654990179271180288⟩, ⟨0, 38685626227668133590597632, 128⟩, ⟨0, 77371252455336267181195264, 16⟩, ⟨268435456, 154742504910672534362390528, 77371252455336267181195264⟩, ⟨0, 309485009821345068724781056, 4⟩, ⟨1811939328, 618970019642690137449562112, 502913140959685736677769216⟩, ⟨2214592512, 1237940039285380274899124224, 638312832756524204244860928⟩, ⟨0, 2475880078570760549798248448, 128⟩, ⟨0, 4951760157141521099596496896, 8⟩, ⟨17179869184, 9903520314283042199192993792, 4951760157141521099596496896⟩, ⟨0, 19807040628566084398385987584, 256⟩, ⟨115964116992, 39614081257132168796771975168, 32186441021419887147377229824⟩, ⟨0, 79228162514264337593543950336, 128⟩, ⟨0, 158456325028528675187087900672, 16⟩, ⟨549755813888, 316912650057057350374175801344, 158456325028528675187087900672⟩, ⟨0, 633825300114114700748351602688, 4⟩, ⟨3710851743744, 1267650600228229401496703205376, 1029966112685436388716071354368⟩, ⟨4535485464576, 2535301200456458802993406410752, 1307264681485361570293475180544⟩, ⟨8800390087680, 5070602400912917605986812821504, 2536539745253801895762245713920⟩, ⟨26388279066624, 10141204801825835211973625643008, 5070602400912917605986812821504⟩, ⟨70368744177663, 0, 10141204801825835211973625643072⟩]
set_option maxHeartbeats 4000000 in
set_option maxRecDepth 100000 in
theorem QBlend0 (qa qb qc qd qe qf qg qh t T Z dt ea eb ec ed : Int) (w : World) (hT : min (max t 0) 65536 = T) (hZ : 65536 - T = Z) (hdt : q4 (mulV qa qe) (mulV qb qf) (mulV qc qg) (mulV qd qh) = dt) (hn : dt < 0 → ea = 0 - clV qe ∧ eb = 0 - clV qf ∧ ec = 0 - clV qg ∧ ed = 0 - clV qh) (hp : ¬ (dt < 0) → ea = qe ∧ eb = qf ∧ ec = qg ∧ ed = qh) : Calls Try.prog 39 #[.agg #[vI qa, vI qb, vI qc, vI qd], .agg #[vI qe, vI qf, vI qg, vI qh], vI t] w fun e w' => e = .returned (.agg #[vI (unitV [addV (mulV qa Z) (mulV ea T), addV (mulV qb Z) (mulV eb T), addV (mulV qc Z) (mulV ec T), addV (mulV qd Z) (mulV ed T)] 0), vI (unitV [addV (mulV qa Z) (mulV ea T), addV (mulV qb Z) (mulV eb T), addV (mulV qc Z) (mulV ec T), addV (mulV qd Z) (mulV ed T)] 1), vI (unitV [addV (mulV qa Z) (mulV ea T), addV (mulV qb Z) (mulV eb T), addV (mulV qc Z) (mulV ec T), addV (mulV qd Z) (mulV ed T)] 2), vI (unitV [addV (mulV qa Z) (mulV ea T), addV (mulV qb Z) (mulV eb T), addV (mulV qc Z) (mulV ec T), addV (mulV qd Z) (mulV ed T)] 3)]) ∧ Below w.heap.size w w' := by
 have hZw : IntKind.i64.wrap (65536 - T) = Z := by rw [i64in (by omega) (by omega)]; exact hZ
 refine sx_calls Try.func39 rfl (n := 104) (by kernel_rfl) (l := [(0, .agg #[vI qa, vI qb, vI qc, vI qd]), (1, .agg #[vI qe, vI qf, vI qg, vI qh]), (2, vI t)]) rfl (by rfl) (Mem.nil w) ?_
 refine st_seq ?_
 refine st_region [oF 0, oF 1, oF 2] (by rfl) ?_
 refine ops_new (d := some 3) (o := .cells #[vI qa, vI qb, vI qc, vI qd] 36) (v := fun b1 => vP b1 0) (M' := fun b1 => Mem w [.blk b1 [vI qa, vI qb, vI qc, vI qd] 36]) (fun b1 => ⟨by kernel_rfl⟩) (fun w_ hM hS => ⟨hM.blk [vI qa, vI qb, vI qc, vI qd] 36, trivial⟩) (fun b1 => ?_)
 refine oR [] [(3, vP b1 0), (1, .agg #[vI qe, vI qf, vI qg, vI qh]), (2, vI t)] [3, 1, 2] (by kernel_rfl) ?_
 refine ops_new (d := some 4) (o := .cells #[vI qe, vI qf, vI qg, vI qh] 36) (v := fun b2 => vP b2 0) (M' := fun b2 => Mem w [.blk b2 [vI qe, vI qf, vI qg, vI qh] 36, .blk b1 [vI qa, vI qb, vI qc, vI qd] 36]) (fun b2 => ⟨by kernel_rfl⟩) (fun w_ hM hS => ⟨hM.blk [vI qe, vI qf, vI qg, vI qh] 36, trivial⟩) (fun b2 => ?_)
 refine oR [] [(4, vP b2 0), (3, vP b1 0), (2, vI t)] [4, 3, 2] (by kernel_rfl) ?_
 refine ops_new (d := some 6) (o := .cells #[vI 0, vI 0, vI 0, vI 0] 36) (v := fun b3 => vP b3 0) (M' := fun b3 => Mem w [.blk b3 [vI 0, vI 0, vI 0, vI 0] 36, .blk b2 [vI qe, vI qf, vI qg, vI qh] 36, .blk b1 [vI qa, vI qb, vI qc, vI qd] 36]) (fun b3 => ⟨by kernel_rfl⟩) (fun w_ hM hS => ⟨hM.blk [vI 0, vI 0, vI 0, vI 0] 36, trivial⟩) (fun b3 => ?_)
 refine oR [] [(6, vP b3 0), (4, vP b2 0), (3, vP b1 0), (2, vI t)] [6, 4, 3, 2] (by kernel_rfl) ?_
 refine ops_nil ?_
 refine fin_then ?_
 refine st_seq ?_
 refine st_region [oF 0, oF 1, oF 2, oF 3] (by rfl) ?_
 refine oR [oF 0] [(9, vI t), (6, vP b3 0), (4, vP b2 0), (3, vP b1 0), (2, vI t)] [9, 6, 4, 3, 2] (by kernel_rfl) ?_
 refine ops_val (op := (Go.Op.call { callee := (Go.Callee.builtin Go.Builtin.max), args := #[(Go.Operand.tmp 9), (Go.Operand.const (Go.Value.int Go.IntKind.i64 0))], argTypes := #[3, 3] })) (d := some 10) (v := vI (max t 0)) ⟨by kernel_rfl⟩ (run_max rfl rfl) ?_
 refine oR [] [(10, vI (max t 0)), (6, vP b3 0), (4, vP b2 0), (3, vP b1 0), (2, vI t)] [10, 6, 4, 3, 2] (by kernel_rfl) ?_
 refine ops_val (op := (Go.Op.call { callee := (Go.Callee.builtin Go.Builtin.min), args := #[(Go.Operand.tmp 10), (Go.Operand.const (Go.Value.int Go.IntKind.i64 65536))], argTypes := #[3, 3] })) (d := some 11) (v := vI (min (max t 0) 65536)) ⟨by kernel_rfl⟩ (run_min rfl rfl) ?_
 refine oR [] [(11, vI (min (max t 0) 65536)), (6, vP b3 0), (4, vP b2 0), (3, vP b1 0), (2, vI t)] [11, 6, 4, 3, 2] (by kernel_rfl) ?_
 refine ops_conv (l' := [(11, vI T), (6, vP b3 0), (4, vP b2 0), (3, vP b1 0), (2, vI t)]) (by rw [hT]) (fun _ h => h) ?_
 refine oR [oF 3] [(2, vI T), (6, vP b3 0), (4, vP b2 0), (3, vP b1 0)] [2, 6, 4, 3] (by kernel_rfl) ?_
 refine ops_nil ?_
 refine fin_then ?_
 refine st_seq ?_
 refine st_region [oF 0] (by rfl) ?_
 refine oR [oF 0] [(7, .func (.func 15) #[] #[]), (2, vI T), (6, vP b3 0), (4, vP b2 0), (3, vP b1 0)] [7, 2, 6, 4, 3] (by kernel_rfl) ?_
 refine ops_nil ?_
 refine fin_then ?_
 refine st_seq_cut (σ := Unit) (fun _ => [(7, .func (.func 15) #[] #[]), (2, vI T), (6, vP b3 0), (4, vP b2 0), (3, vP b1 0)]) (fun _ => Mem w [.blk b3 [vI 0, vI 0, vI 0, vI 0] 36, .blk b2 [vI ea, vI eb, vI ec, vI ed] 36, .blk b1 [vI qa, vI qb, vI qc, vI qd] 36]) ?_ ?_
 · --
  refine st_seq ?_
  refine st_region_fast QBlend0_t0 [oT 0, oT 1, oT 2, oT 3, oT 4, oT 6, oT 7, oT 8, oT 9, oT 10, oT 12, oT 13, oT 14, oT 15, oT 16, oT 18, oT 19, oT 20, oT 21, oT 22, oF 5, oF 11, oF 17, oF 23, oF 24, oF 25, oT 26] (Mem w [.blk b3 [vI 0, vI 0, vI 0, vI 0] 36, .blk b2 [vI qe, vI qf, vI qg, vI qh] 36, .blk b1 [vI qa, vI qb, vI qc, vI qd] 36]) (by kernel_rfl) (by kernel_rfl) (by kernel_rfl) (by kernel_rfl) (by kernel_rfl) (fun _ d _ _ _ h => by cases d <;> exact h) (M' := Mem w [.blk b3 [vI 0, vI 0, vI 0, vI 0] 36, .blk b2 [vI qe, vI qf, vI qg, vI qh] 36, .blk b1 [vI qa, vI qb, vI qc, vI qd] 36]) (fun w_ hM => ⟨hM.drew, hM.drew.sub (.cons_cons _ (.cons_cons _ (.cons_cons _ .slnil)))⟩) ?_
  refine oR [oT 0, oT 1] [(13, vP b1 0), (12, .func (.func 15) #[] #[]), (7, .func (.func 15) #[] #[]), (2, vI T), (6, vP b3 0), (4, vP b2 0), (3, vP b1 0)] [13, 12, 7, 2, 6, 4, 3] (by kernel_rfl) ?_
  refine ops_load (d := some 14) (an := [.v (vI qa)]) (evs := [.load ⟨b1, 0, none⟩ (vI qa)]) (v := vI qa) ⟨by kernel_rfl⟩ (fun w_ hM => ⟨hM.cell 2 rfl rfl, rfl⟩) ?_
  refine oR [oT 3] [(15, vP b2 0), (14, vI qa), (12, .func (.func 15) #[] #[]), (7, .func (.func 15) #[] #[]), (2, vI T), (6, vP b3 0), (4, vP b2 0), (3, vP b1 0)] [15, 14, 12, 7, 2, 6, 4, 3] (by kernel_rfl) ?_
  refine ops_load (d := some 16) (an := [.v (vI qe)]) (evs := [.load ⟨b2, 0, none⟩ (vI qe)]) (v := vI qe) ⟨by kernel_rfl⟩ (fun w_ hM => ⟨hM.cell 1 rfl rfl, rfl⟩) ?_
  refine oR [oT 6, oT 7] [(19, vP b1 1), (18, .func (.func 15) #[] #[]), (16, vI qe), (14, vI qa), (12, .func (.func 15) #[] #[]), (7, .func (.func 15) #[] #[]), (2, vI T), (6, vP b3 0), (4, vP b2 0), (3, vP b1 0)] [19, 18, 16, 14, 12, 7, 2, 6, 4, 3] (by kernel_rfl) ?_
  refine ops_load (d := some 20) (an := [.v (vI qb)]) (evs := [.load ⟨b1, 1, none⟩ (vI qb)]) (v := vI qb) ⟨by kernel_rfl⟩ (fun w_ hM => ⟨hM.cell 2 rfl rfl, rfl⟩) ?_
  refine oR [oT 9] [(21, vP b2 1), (20, vI qb), (18, .func (.func 15) #[] #[]), (16, vI qe), (14, vI qa), (12, .func (.func 15) #[] #[]), (7, .func (.func 15) #[] #[]), (2, vI T), (6, vP b3 0), (4, vP b2 0), (3, vP b1 0)] [21, 20, 18, 16, 14, 12, 7, 2, 6, 4, 3] (by kernel_rfl) ?_
  refine ops_load (d := some 22) (an := [.v (vI qf)]) (evs := [.load ⟨b2, 1, none⟩ (vI qf)]) (v := vI qf) ⟨by kernel_rfl⟩ (fun w_ hM => ⟨hM.cell 1 rfl rfl, rfl⟩) ?_
  refine oR [oT 12, oT 13] [(25, vP b1 2), (24, .func (.func 15) #[] #[]), (22, vI qf), (20, vI qb), (18, .func (.func 15) #[] #[]), (16, vI qe), (14, vI qa), (12, .func (.func 15) #[] #[]), (7, .func (.func 15) #[] #[]), (2, vI T), (6, vP b3 0), (4, vP b2 0), (3, vP b1 0)] [25, 24, 22, 20, 18, 16, 14, 12, 7, 2, 6, 4, 3] (by kernel_rfl) ?_
  refine ops_load (d := some 26) (an := [.v (vI qc)]) (evs := [.load ⟨b1, 2, none⟩ (vI qc)]) (v := vI qc) ⟨by kernel_rfl⟩ (fun w_ hM => ⟨hM.cell 2 rfl rfl, rfl⟩) ?_
  refine oR [oT 15] [(27, vP b2 2), (26, vI qc), (24, .func (.func 15) #[] #[]), (22, vI qf), (20, vI qb), (18, .func (.func 15) #[] #[]), (16, vI qe), (14, vI qa), (12, .func (.func 15) #[] #[]), (7, .func (.func 15) #[] #[]), (2, vI T), (6, vP b3 0), (4, vP b2 0), (3, vP b1 0)] [27, 26, 24, 22, 20, 18, 16, 14, 12, 7, 2, 6, 4, 3] (by kernel_rfl) ?_
  refine ops_load (d := some 28) (an := [.v (vI qg)]) (evs := [.load ⟨b2, 2, none⟩ (vI qg)]) (v := vI qg) ⟨by kernel_rfl⟩ (fun w_ hM => ⟨hM.cell 1 rfl rfl, rfl⟩) ?_
  refine oR [oT 18, oT 19] [(31, vP b1 3), (30, .func (.func 15) #[] #[]), (28, vI qg), (26, vI qc), (24, .func (.func 15) #[] #[]), (22, vI qf), (20, vI qb), (18, .func (.func 15) #[] #[]), (16, vI qe), (14, vI qa), (12, .func (.func 15) #[] #[]), (7, .func (.func 15) #[] #[]), (2, vI T), (6, vP b3 0), (4, vP b2 0), (3, vP b1 0)] [31, 30, 28, 26, 24, 22, 20, 18, 16, 14, 12, 7, 2, 6, 4, 3] (by kernel_rfl) ?_
  refine ops_load (d := some 32) (an := [.v (vI qd)]) (evs := [.load ⟨b1, 3, none⟩ (vI qd)]) (v := vI qd) ⟨by kernel_rfl⟩ (fun w_ hM => ⟨hM.cell 2 rfl rfl, rfl⟩) ?_
  refine oR [oT 21] [(33, vP b2 3), (32, vI qd), (30, .func (.func 15) #[] #[]), (28, vI qg), (26, vI qc), (24, .func (.func 15) #[] #[]), (22, vI qf), (20, vI qb), (18, .func (.func 15) #[] #[]), (16, vI qe), (14, vI qa), (12, .func (.func 15) #[] #[]), (7, .func (.func 15) #[] #[]), (2, vI T), (6, vP b3 0), (4, vP b2 0), (3, vP b1 0)] [33, 32, 30, 28, 26, 24, 22, 20, 18, 16, 14, 12, 7, 2, 6, 4, 3] (by kernel_rfl) ?_
  refine ops_load (d := some 34) (an := [.v (vI qh)]) (evs := [.load ⟨b2, 3, none⟩ (vI qh)]) (v := vI qh) ⟨by kernel_rfl⟩ (fun w_ hM => ⟨hM.cell 1 rfl rfl, rfl⟩) ?_
  refine oR [] [(34, vI qh), (32, vI qd), (30, .func (.func 15) #[] #[]), (28, vI qg), (26, vI qc), (24, .func (.func 15) #[] #[]), (22, vI qf), (20, vI qb), (18, .func (.func 15) #[] #[]), (16, vI qe), (14, vI qa), (12, .func (.func 15) #[] #[]), (7, .func (.func 15) #[] #[]), (2, vI T), (6, vP b3 0), (4, vP b2 0), (3, vP b1 0)] [34, 32, 30, 28, 26, 24, 22, 20, 18, 16, 14, 12, 7, 2, 6, 4, 3] (by kernel_rfl) ?_
  refine oCS (some 17) 15 #[vI qa, vI qe] (vI (mulV qa qe)) ⟨by kernel_rfl⟩ (fun w_ hM => Mul_v qa qe w_) ?_
  refine oR [] [(17, vI (mulV qa qe)), (34, vI qh), (32, vI qd), (30, .func (.func 15) #[] #[]), (28, vI qg), (26, vI qc), (24, .func (.func 15) #[] #[]), (22, vI qf), (20, vI qb), (18, .func (.func 15) #[] #[]), (7, .func (.func 15) #[] #[]), (2, vI T), (6, vP b3 0), (4, vP b2 0), (3, vP b1 0)] [17, 34, 32, 30, 28, 26, 24, 22, 20, 18, 7, 2, 6, 4, 3] (by kernel_rfl) ?_
  refine oCS (some 23) 15 #[vI qb, vI qf] (vI (mulV qb qf)) ⟨by kernel_rfl⟩ (fun w_ hM => Mul_v qb qf w_) ?_
  refine oR [] [(23, vI (mulV qb qf)), (17, vI (mulV qa qe)), (34, vI qh), (32, vI qd), (30, .func (.func 15) #[] #[]), (28, vI qg), (26, vI qc), (24, .func (.func 15) #[] #[]), (7, .func (.func 15) #[] #[]), (2, vI T), (6, vP b3 0), (4, vP b2 0), (3, vP b1 0)] [23, 17, 34, 32, 30, 28, 26, 24, 7, 2, 6, 4, 3] (by kernel_rfl) ?_
  refine oCS (some 29) 15 #[vI qc, vI qg] (vI (mulV qc qg)) ⟨by kernel_rfl⟩ (fun w_ hM => Mul_v qc qg w_) ?_
  refine oR [] [(29, vI (mulV qc qg)), (23, vI (mulV qb qf)), (17, vI (mulV qa qe)), (34, vI qh), (32, vI qd), (30, .func (.func 15) #[] #[]), (7, .func (.func 15) #[] #[]), (2, vI T), (6, vP b3 0), (4, vP b2 0), (3, vP b1 0)] [29, 23, 17, 34, 32, 30, 7, 2, 6, 4, 3] (by kernel_rfl) ?_
  refine oCS (some 35) 15 #[vI qd, vI qh] (vI (mulV qd qh)) ⟨by kernel_rfl⟩ (fun w_ hM => Mul_v qd qh w_) ?_
  refine oR [] [(35, vI (mulV qd qh)), (29, vI (mulV qc qg)), (23, vI (mulV qb qf)), (17, vI (mulV qa qe)), (7, .func (.func 15) #[] #[]), (2, vI T), (6, vP b3 0), (4, vP b2 0), (3, vP b1 0)] [35, 29, 23, 17, 7, 2, 6, 4, 3] (by kernel_rfl) ?_
  refine ops_new (d := some 36) (o := .cells #[vI (mulV qa qe), vI (mulV qb qf), vI (mulV qc qg), vI (mulV qd qh)] 3) (v := fun b4 => .slice (some ⟨b4, 0, none⟩) 4 4) (M' := fun b4 => Mem w [.blk b4 [vI (mulV qa qe), vI (mulV qb qf), vI (mulV qc qg), vI (mulV qd qh)] 3, .blk b3 [vI 0, vI 0, vI 0, vI 0] 36, .blk b2 [vI qe, vI qf, vI qg, vI qh] 36, .blk b1 [vI qa, vI qb, vI qc, vI qd] 36]) (fun b4 => ⟨by kernel_rfl⟩) (fun w_ hM hS => ⟨hM.blk [vI (mulV qa qe), vI (mulV qb qf), vI (mulV qc qg), vI (mulV qd qh)] 3, hS.alloc _⟩) (fun b4 => ?_)
  refine oR [] [(36, .slice (some ⟨b4, 0, none⟩) 4 4), (7, .func (.func 15) #[] #[]), (2, vI T), (6, vP b3 0), (4, vP b2 0), (3, vP b1 0)] [36, 7, 2, 6, 4, 3] (by kernel_rfl) ?_
  refine oCS (some 37) 100 #[.slice (some ⟨b4, 0, none⟩) 4 4] (vI (q4 (mulV qa qe) (mulV qb qf) (mulV qc qg) (mulV qd qh))) ⟨by kernel_rfl⟩ (fun w_ hM => sum4_calls (some ⟨b4, 0, none⟩) 4 (mulV qa qe) (mulV qb qf) (mulV qc qg) (mulV qd qh) w_ (hM.rintsBlk 0 rfl rfl)) ?_
  refine oR [] [(37, vI (q4 (mulV qa qe) (mulV qb qf) (mulV qc qg) (mulV qd qh))), (7, .func (.func 15) #[] #[]), (2, vI T), (6, vP b3 0), (4, vP b2 0), (3, vP b1 0)] [37, 7, 2, 6, 4, 3] (by kernel_rfl) ?_
  refine ops_conv (l' := [(37, vI dt), (7, .func (.func 15) #[] #[]), (2, vI T), (6, vP b3 0), (4, vP b2 0), (3, vP b1 0)]) (by rw [hdt]) (fun _ h => h) ?_
  refine oR [oT 26] [(38, .bool (decide (dt < 0))), (7, .func (.func 15) #[] #[]), (2, vI T), (6, vP b3 0), (4, vP b2 0), (3, vP b1 0)] [38, 7, 2, 6, 4, 3] (by kernel_rfl) ?_
  refine ops_nil ?_
  refine fin_then ?_
  refine st_if (b := decide (dt < 0)) rfl (fun hc5 => ?_) (fun hc5 => ?_)
  · --
   refine st_region_dag (Mem w [.blk b4 [vI (mulV qa qe), vI (mulV qb qf), vI (mulV qc qg), vI (mulV qd qh)] 3, .blk b3 [vI 0, vI 0, vI 0, vI 0] 36, .blk b1 [vI qa, vI qb, vI qc, vI qd] 36]) (f := 18) (li := #[false, false, false, false, false, false, false, false, false, false, false, false, false, false, false, false, false, false]) (by kernel_rfl) (by kernel_rfl) (by kernel_rfl) (M' := Mem w [.blk b4 [vI (mulV qa qe), vI (mulV qb qf), vI (mulV qc qg), vI (mulV qd qh)] 3, .blk b3 [vI 0, vI 0, vI 0, vI 0] 36, .blk b2 [vI qe, vI qf, vI qg, vI qh] 36, .blk b1 [vI qa, vI qb, vI qc, vI qd] 36]) (fun w_ hM => ⟨hM.drew, hM.drew.sub (.cons_cons _ (.cons_cons _ (.cons _ (.cons_cons _ .slnil))))⟩) ?_
   refine dag_have (f := 0) (li := #[true, true, true, true, true, true, true, true, true, true, true, true, true, true, true, true, true, true]) (l := [(7, .func (.func 15) #[] #[]), (2, vI T), (6, vP b3 0), (4, vP b2 0), (3, vP b1 0)]) (M := Mem w [.blk b4 [vI (mulV qa qe), vI (mulV qb qf), vI (mulV qc qg), vI (mulV qd qh)] 3, .blk b3 [vI 0, vI 0, vI 0, vI 0] 36, .blk b2 [vI (0 - clV qe), vI (0 - clV qf), vI (0 - clV qg), vI (0 - clV qh)] 36, .blk b1 [vI qa, vI qb, vI qc, vI qd] 36]) ?_ (fun H31 => ?_)
   · --
    refine dag_end (by kernel_rfl) ?_
    refine fin_conv (l' := [(7, .func (.func 15) #[] #[]), (2, vI T), (6, vP b3 0), (4, vP b2 0), (3, vP b1 0)]) (M' := Mem w [.blk b3 [vI 0, vI 0, vI 0, vI 0] 36, .blk b2 [vI (0 - clV qe), vI (0 - clV qf), vI (0 - clV qg), vI (0 - clV qh)] 36, .blk b1 [vI qa, vI qb, vI qc, vI qd] 36]) rfl (fun w_ hM => hM.sub (.cons _ (.cons_cons _ (.cons_cons _ (.cons_cons _ .slnil))))) ?_
    obtain ⟨e1, e2, e3, e4⟩ := hn (of_decide_eq_true hc5)
    refine fin_conv (l' := [(7, .func (.func 15) #[] #[]), (2, vI T), (6, vP b3 0), (4, vP b2 0), (3, vP b1 0)]) (M' := Mem w [.blk b3 [vI 0, vI 0, vI 0, vI 0] 36, .blk b2 [vI ea, vI eb, vI ec, vI ed] 36, .blk b1 [vI qa, vI qb, vI qc, vI qd] 36]) (by rfl) (fun w_ hM => by rw [e1, e2, e3, e4]; exact hM) ?_
    exact fin_cut () (look_has ⟨rfl, rfl, rfl, rfl, rfl, trivial⟩) (fun w_ hM => hM)
   refine dag_have (f := 1) (li := #[true, true, true, true, true, true, true, true, true, true, true, true, true, true, true, true, true, false]) (l := [(55, .agg #[vI (0 - clV qe), vI (0 - clV qf), vI (0 - clV qg), vI (0 - clV qh)]), (7, .func (.func 15) #[] #[]), (2, vI T), (6, vP b3 0), (4, vP b2 0), (3, vP b1 0)]) (M := Mem w [.blk b4 [vI (mulV qa qe), vI (mulV qb qf), vI (mulV qc qg), vI (mulV qd qh)] 3, .blk b3 [vI 0, vI 0, vI 0, vI 0] 36, .blk b2 [vI qe, vI qf, vI qg, vI qh] 36, .blk b1 [vI qa, vI qb, vI qc, vI qd] 36]) ?_ (fun H30 => ?_)
   · --
    refine dag_ways [(17, [], 0)] (by kernel_rfl) (fun _ d _ _ _ h => by cases d <;> exact h) (by kernel_rfl) (by simp) ⟨by kernel_rfl, ?_, trivial⟩
    · --
     refine ops_store (an := []) (evs := [.store ⟨b2, 0, none⟩ (vI (0 - clV qe)), .store ⟨b2, 1, none⟩ (vI (0 - clV qf)), .store ⟨b2, 2, none⟩ (vI (0 - clV qg)), .store ⟨b2, 3, none⟩ (vI (0 - clV qh))]) (M' := Mem w [.blk b4 [vI (mulV qa qe), vI (mulV qb qf), vI (mulV qc qg), vI (mulV qd qh)] 3, .blk b3 [vI 0, vI 0, vI 0, vI 0] 36, .blk b2 [vI (0 - clV qe), vI (0 - clV qf), vI (0 - clV qg), vI (0 - clV qh)] 36, .blk b1 [vI qa, vI qb, vI qc, vI qd] 36]) ⟨by kernel_rfl⟩ (fun w_ hM hS => let ⟨w', he, h'⟩ := hM.evs_stores [vI (0 - clV qe), vI (0 - clV qf), vI (0 - clV qg), vI (0 - clV qh)] 2 rfl 0 (Nat.le_of_ble_eq_true rfl); ⟨w', he, h', (by exact h'.sub (.cons_cons _ (.cons_cons _ (.cons _ (.cons_cons _ .slnil)))))⟩) ?_
     refine oR [] [(7, .func (.func 15) #[] #[]), (2, vI T), (6, vP b3 0), (4, vP b2 0), (3, vP b1 0)] [7, 2, 6, 4, 3] (by kernel_rfl) ?_
     refine ops_nil ?_
     exact to_dag H31 (by kernel_rfl) (look_has ⟨rfl, rfl, rfl, rfl, rfl, trivial⟩) (fun w_ hM => hM)
   refine dag_have (f := 4) (li := #[true, true, true, true, true, true, true, true, true, true, true, true, true, true, false, false, false, false]) (l := [(52, vI qh), (50, vI (0 - clV qg)), (46, vI (0 - clV qf)), (42, vI (0 - clV qe)), (7, .func (.func 15) #[] #[]), (2, vI T), (6, vP b3 0), (4, vP b2 0), (3, vP b1 0)]) (M := Mem w [.blk b4 [vI (mulV qa qe), vI (mulV qb qf), vI (mulV qc qg), vI (mulV qd qh)] 3, .blk b3 [vI 0, vI 0, vI 0, vI 0] 36, .blk b2 [vI qe, vI qf, vI qg, vI qh] 36, .blk b1 [vI qa, vI qb, vI qc, vI qd] 36]) ?_ (fun H29 => ?_)
   · --
    refine dag_ways [(14, [oT 15, oT 16], 1)] (by kernel_rfl) (fun _ d _ _ _ h => by cases d <;> exact h) (by kernel_rfl) (by simp) ⟨by kernel_rfl, ?_, trivial⟩
    · --
     refine oCS (some 53) 18 #[vI qh] (vI (clV qh)) ⟨by kernel_rfl⟩ (fun w_ hM => Clamp_v qh w_) ?_
     refine oR [oT 15] [(54, vI (IntKind.i64.wrap (0 - clV qh))), (50, vI (0 - clV qg)), (46, vI (0 - clV qf)), (42, vI (0 - clV qe)), (7, .func (.func 15) #[] #[]), (2, vI T), (6, vP b3 0), (4, vP b2 0), (3, vP b1 0)] [54, 50, 46, 42, 7, 2, 6, 4, 3] (by kernel_rfl) ?_
     refine ops_conv (l' := [(54, vI (0 - clV qh)), (50, vI (0 - clV qg)), (46, vI (0 - clV qf)), (42, vI (0 - clV qe)), (7, .func (.func 15) #[] #[]), (2, vI T), (6, vP b3 0), (4, vP b2 0), (3, vP b1 0)]) (by rw [(neg_cl _)]) (fun _ h => h) ?_
     refine oR [oT 16] [(55, .agg #[vI (0 - clV qe), vI (0 - clV qf), vI (0 - clV qg), vI (0 - clV qh)]), (7, .func (.func 15) #[] #[]), (2, vI T), (6, vP b3 0), (4, vP b2 0), (3, vP b1 0)] [55, 7, 2, 6, 4, 3] (by kernel_rfl) ?_
     refine ops_nil ?_
     exact to_dag H30 (by kernel_rfl) (look_has ⟨rfl, rfl, rfl, rfl, rfl, rfl, trivial⟩) (fun w_ hM => hM)
   refine dag_have (f := 5) (li := #[true, true, true, true, true, true, true, true, true, true, true, true, true, false, false, false, false, false]) (l := [(50, vI (0 - clV qg)), (46, vI (0 - clV qf)), (42, vI (0 - clV qe)), (51, vP b2 3), (7, .func (.func 15) #[] #[]), (2, vI T), (6, vP b3 0), (4, vP b2 0), (3, vP b1 0)]) (M := Mem w [.blk b4 [vI (mulV qa qe), vI (mulV qb qf), vI (mulV qc qg), vI (mulV qd qh)] 3, .blk b3 [vI 0, vI 0, vI 0, vI 0] 36, .blk b2 [vI qe, vI qf, vI qg, vI qh] 36, .blk b1 [vI qa, vI qb, vI qc, vI qd] 36]) ?_ (fun H28 => ?_)
   · --
    refine dag_ways [(13, [], 4)] (by kernel_rfl) (fun _ d _ _ _ h => by cases d <;> exact h) (by kernel_rfl) (by simp) ⟨by kernel_rfl, ?_, trivial⟩
    · --
     refine ops_mem (d := some 52) (an := [.v (vI qh)]) (evs := [.load ⟨b2, 3, none⟩ (vI qh)]) (v := vI qh) (M' := Mem w [.blk b4 [vI (mulV qa qe), vI (mulV qb qf), vI (mulV qc qg), vI (mulV qd qh)] 3, .blk b3 [vI 0, vI 0, vI 0, vI 0] 36, .blk b2 [vI qe, vI qf, vI qg, vI qh] 36, .blk b1 [vI qa, vI qb, vI qc, vI qd] 36]) ⟨by kernel_rfl⟩ (fun w_ hM hS => ⟨w_, ⟨hM.cell 2 rfl rfl, rfl⟩, hM, hS⟩) ?_
     refine oR [] [(52, vI qh), (50, vI (0 - clV qg)), (46, vI (0 - clV qf)), (42, vI (0 - clV qe)), (7, .func (.func 15) #[] #[]), (2, vI T), (6, vP b3 0), (4, vP b2 0), (3, vP b1 0)] [52, 50, 46, 42, 7, 2, 6, 4, 3] (by kernel_rfl) ?_
     refine ops_nil ?_
     exact to_dag H29 (by kernel_rfl) (look_has ⟨rfl, rfl, rfl, rfl, rfl, rfl, rfl, rfl, rfl, trivial⟩) (fun w_ hM => hM)
   refine dag_have (f := 6) (li := #[true, true, true, true, true, true, true, true, true, true, false, false, true, true, false, false, false, false]) (l := [(52, vI qh), (48, vI qg), (46, vI (0 - clV qf)), (42, vI (0 - clV qe)), (7, .func (.func 15) #[] #[]), (2, vI T), (6, vP b3 0), (4, vP b2 0), (3, vP b1 0)]) (M := Mem w [.blk b4 [vI (mulV qa qe), vI (mulV qb qf), vI (mulV qc qg), vI (mulV qd qh)] 3, .blk b3 [vI 0, vI 0, vI 0, vI 0] 36, .blk b2 [vI qe, vI qf, vI qg, vI qh] 36, .blk b1 [vI qa, vI qb, vI qc, vI qd] 36]) ?_ (fun H27 => ?_)
   · --
    refine dag_ways [(10, [oT 11], 4)] (by kernel_rfl) (fun _ d _ _ _ h => by cases d <;> exact h) (by kernel_rfl) (by simp) ⟨by kernel_rfl, ?_, trivial⟩
    · --
     refine oCS (some 49) 18 #[vI qg] (vI (clV qg)) ⟨by kernel_rfl⟩ (fun w_ hM => Clamp_v qg w_) ?_
     refine oR [oT 11] [(50, vI (IntKind.i64.wrap (0 - clV qg))), (52, vI qh), (46, vI (0 - clV qf)), (42, vI (0 - clV qe)), (7, .func (.func 15) #[] #[]), (2, vI T), (6, vP b3 0), (4, vP b2 0), (3, vP b1 0)] [50, 52, 46, 42, 7, 2, 6, 4, 3] (by kernel_rfl) ?_
     refine ops_conv (l' := [(50, vI (0 - clV qg)), (52, vI qh), (46, vI (0 - clV qf)), (42, vI (0 - clV qe)), (7, .func (.func 15) #[] #[]), (2, vI T), (6, vP b3 0), (4, vP b2 0), (3, vP b1 0)]) (by rw [(neg_cl _)]) (fun _ h => h) ?_
     refine ops_nil ?_
     exact to_dag H29 (by kernel_rfl) (look_has ⟨rfl, rfl, rfl, rfl, rfl, rfl, rfl, rfl, rfl, trivial⟩) (fun w_ hM => hM)
   refine dag_have (f := 7) (li := #[true, true, true, true, true, true, true, true, true, false, false, false, true, true, false, false, false, false]) (l := [(52, vI qh), (46, vI (0 - clV qf)), (42, vI (0 - clV qe)), (47, vP b2 2), (7, .func (.func 15) #[] #[]), (2, vI T), (6, vP b3 0), (4, vP b2 0), (3, vP b1 0)]) (M := Mem w [.blk b4 [vI (mulV qa qe), vI (mulV qb qf), vI (mulV qc qg), vI (mulV qd qh)] 3, .blk b3 [vI 0, vI 0, vI 0, vI 0] 36, .blk b2 [vI qe, vI qf, vI qg, vI qh] 36, .blk b1 [vI qa, vI qb, vI qc, vI qd] 36]) ?_ (fun H26 => ?_)
   · --
    refine dag_ways [(9, [], 6)] (by kernel_rfl) (fun _ d _ _ _ h => by cases d <;> exact h) (by kernel_rfl) (by simp) ⟨by kernel_rfl, ?_, trivial⟩
    · --
     refine ops_mem (d := some 48) (an := [.v (vI qg)]) (evs := [.load ⟨b2, 2, none⟩ (vI qg)]) (v := vI qg) (M' := Mem w [.blk b4 [vI (mulV qa qe), vI (mulV qb qf), vI (mulV qc qg), vI (mulV qd qh)] 3, .blk b3 [vI 0, vI 0, vI 0, vI 0] 36, .blk b2 [vI qe, vI qf, vI qg, vI qh] 36, .blk b1 [vI qa, vI qb, vI qc, vI qd] 36]) ⟨by kernel_rfl⟩ (fun w_ hM hS => ⟨w_, ⟨hM.cell 2 rfl rfl, rfl⟩, hM, hS⟩) ?_
     refine oR [] [(48, vI qg), (52, vI qh), (46, vI (0 - clV qf)), (42, vI (0 - clV qe)), (7, .func (.func 15) #[] #[]), (2, vI T), (6, vP b3 0), (4, vP b2 0), (3, vP b1 0)] [48, 52, 46, 42, 7, 2, 6, 4, 3] (by kernel_rfl) ?_
     refine ops_nil ?_
     exact to_dag H27 (by kernel_rfl) (look_has ⟨rfl, rfl, rfl, rfl, rfl, rfl, rfl, rfl, rfl, trivial⟩) (fun w_ hM => hM)
   refine dag_have (f := 7) (li := #[true, true, true, true, true, true, true, true, true, true, false, false, true, false, false, false, false, false]) (l := [(48, vI qg), (46, vI (0 - clV qf)), (42, vI (0 - clV qe)), (51, vP b2 3), (7, .func (.func 15) #[] #[]), (2, vI T), (6, vP b3 0), (4, vP b2 0), (3, vP b1 0)]) (M := Mem w [.blk b4 [vI (mulV qa qe), vI (mulV qb qf), vI (mulV qc qg), vI (mulV qd qh)] 3, .blk b3 [vI 0, vI 0, vI 0, vI 0] 36, .blk b2 [vI qe, vI qf, vI qg, vI qh] 36, .blk b1 [vI qa, vI qb, vI qc, vI qd] 36]) ?_ (fun H25 => ?_)
   · --
    refine dag_ways [(10, [oT 11], 5), (13, [], 6)] (by kernel_rfl) (fun _ d _ _ _ h => by cases d <;> exact h) (by kernel_rfl) (by simp) ⟨by kernel_rfl, ?_, by kernel_rfl, ?_, trivial⟩
    · --
     refine oCS (some 49) 18 #[vI qg] (vI (clV qg)) ⟨by kernel_rfl⟩ (fun w_ hM => Clamp_v qg w_) ?_
     refine oR [oT 11] [(50, vI (IntKind.i64.wrap (0 - clV qg))), (46, vI (0 - clV qf)), (42, vI (0 - clV qe)), (51, vP b2 3), (7, .func (.func 15) #[] #[]), (2, vI T), (6, vP b3 0), (4, vP b2 0), (3, vP b1 0)] [50, 46, 42, 51, 7, 2, 6, 4, 3] (by kernel_rfl) ?_
     refine ops_conv (l' := [(50, vI (0 - clV qg)), (46, vI (0 - clV qf)), (42, vI (0 - clV qe)), (51, vP b2 3), (7, .func (.func 15) #[] #[]), (2, vI T), (6, vP b3 0), (4, vP b2 0), (3, vP b1 0)]) (by rw [(neg_cl _)]) (fun _ h => h) ?_
     refine ops_nil ?_
     exact to_dag H28 (by kernel_rfl) (look_has ⟨rfl, rfl, rfl, rfl, rfl, rfl, rfl, rfl, rfl, trivial⟩) (fun w_ hM => hM)
    · --
     refine ops_mem (d := some 52) (an := [.v (vI qh)]) (evs := [.load ⟨b2, 3, none⟩ (vI qh)]) (v := vI qh) (M' := Mem w [.blk b4 [vI (mulV qa qe), vI (mulV qb qf), vI (mulV qc qg), vI (mulV qd qh)] 3, .blk b3 [vI 0, vI 0, vI 0, vI 0] 36, .blk b2 [vI qe, vI qf, vI qg, vI qh] 36, .blk b1 [vI qa, vI qb, vI qc, vI qd] 36]) ⟨by kernel_rfl⟩ (fun w_ hM hS => ⟨w_, ⟨hM.cell 2 rfl rfl, rfl⟩, hM, hS⟩) ?_
     refine oR [] [(52, vI qh), (48, vI qg), (46, vI (0 - clV qf)), (42, vI (0 - clV qe)), (7, .func (.func 15) #[] #[]), (2, vI T), (6, vP b3 0), (4, vP b2 0), (3, vP b1 0)] [52, 48, 46, 42, 7, 2, 6, 4, 3] (by kernel_rfl) ?_
     refine ops_nil ?_
     exact to_dag H27 (by kernel_rfl) (look_has ⟨rfl, rfl, rfl, rfl, rfl, rfl, rfl, rfl, rfl, trivial⟩) (fun w_ hM => hM)
   refine dag_have (f := 8) (li := #[true, true, true, true, true, true, false, false, true, true, false, false, true, true, false, false, false, false]) (l := [(52, vI qh), (48, vI qg), (44, vI qf), (42, vI (0 - clV qe)), (7, .func (.func 15) #[] #[]), (2, vI T), (6, vP b3 0), (4, vP b2 0), (3, vP b1 0)]) (M := Mem w [.blk b4 [vI (mulV qa qe), vI (mulV qb qf), vI (mulV qc qg), vI (mulV qd qh)] 3, .blk b3 [vI 0, vI 0, vI 0, vI 0] 36, .blk b2 [vI qe, vI qf, vI qg, vI qh] 36, .blk b1 [vI qa, vI qb, vI qc, vI qd] 36]) ?_ (fun H24 => ?_)
   · --
    refine dag_ways [(6, [oT 7], 6)] (by kernel_rfl) (fun _ d _ _ _ h => by cases d <;> exact h) (by kernel_rfl) (by simp) ⟨by kernel_rfl, ?_, trivial⟩
    · --
     refine oCS (some 45) 18 #[vI qf] (vI (clV qf)) ⟨by kernel_rfl⟩ (fun w_ hM => Clamp_v qf w_) ?_
     refine oR [oT 7] [(46, vI (IntKind.i64.wrap (0 - clV qf))), (52, vI qh), (48, vI qg), (42, vI (0 - clV qe)), (7, .func (.func 15) #[] #[]), (2, vI T), (6, vP b3 0), (4, vP b2 0), (3, vP b1 0)] [46, 52, 48, 42, 7, 2, 6, 4, 3] (by kernel_rfl) ?_
     refine ops_conv (l' := [(46, vI (0 - clV qf)), (52, vI qh), (48, vI qg), (42, vI (0 - clV qe)), (7, .func (.func 15) #[] #[]), (2, vI T), (6, vP b3 0), (4, vP b2 0), (3, vP b1 0)]) (by rw [(neg_cl _)]) (fun _ h => h) ?_
     refine ops_nil ?_
     exact to_dag H27 (by kernel_rfl) (look_has ⟨rfl, rfl, rfl, rfl, rfl, rfl, rfl, rfl, rfl, trivial⟩) (fun w_ hM => hM)
   refine dag_have (f := 8) (li := #[true, true, true, true, true, true, true, true, true, false, false, false, true, false, false, false, false, false]) (l := [(46, vI (0 - clV qf)), (42, vI (0 - clV qe)), (51, vP b2 3), (47, vP b2 2), (7, .func (.func 15) #[] #[]), (2, vI T), (6, vP b3 0), (4, vP b2 0), (3, vP b1 0)]) (M := Mem w [.blk b4 [vI (mulV qa qe), vI (mulV qb qf), vI (mulV qc qg), vI (mulV qd qh)] 3, .blk b3 [vI 0, vI 0, vI 0, vI 0] 36, .blk b2 [vI qe, vI qf, vI qg, vI qh] 36, .blk b1 [vI qa, vI qb, vI qc, vI qd] 36]) ?_ (fun H23 => ?_)
   · --
    refine dag_ways [(9, [], 7), (13, [], 7)] (by kernel_rfl) (fun _ d _ _ _ h => by cases d <;> exact h) (by kernel_rfl) (by simp) ⟨by kernel_rfl, ?_, by kernel_rfl, ?_, trivial⟩
    · --
     refine ops_mem (d := some 48) (an := [.v (vI qg)]) (evs := [.load ⟨b2, 2, none⟩ (vI qg)]) (v := vI qg) (M' := Mem w [.blk b4 [vI (mulV qa qe), vI (mulV qb qf), vI (mulV qc qg), vI (mulV qd qh)] 3, .blk b3 [vI 0, vI 0, vI 0, vI 0] 36, .blk b2 [vI qe, vI qf, vI qg, vI qh] 36, .blk b1 [vI qa, vI qb, vI qc, vI qd] 36]) ⟨by kernel_rfl⟩ (fun w_ hM hS => ⟨w_, ⟨hM.cell 2 rfl rfl, rfl⟩, hM, hS⟩) ?_
     refine oR [] [(48, vI qg), (46, vI (0 - clV qf)), (42, vI (0 - clV qe)), (51, vP b2 3), (7, .func (.func 15) #[] #[]), (2, vI T), (6, vP b3 0), (4, vP b2 0), (3, vP b1 0)] [48, 46, 42, 51, 7, 2, 6, 4, 3] (by kernel_rfl) ?_
     refine ops_nil ?_
     exact to_dag H25 (by kernel_rfl) (look_has ⟨rfl, rfl, rfl, rfl, rfl, rfl, rfl, rfl, rfl, trivial⟩) (fun w_ hM => hM)
    · --
     refine ops_mem (d := some 52) (an := [.v (vI qh)]) (evs := [.load ⟨b2, 3, none⟩ (vI qh)]) (v := vI qh) (M' := Mem w [.blk b4 [vI (mulV qa qe), vI (mulV qb qf), vI (mulV qc qg), vI (mulV qd qh)] 3, .blk b3 [vI 0, vI 0, vI 0, vI 0] 36, .blk b2 [vI qe, vI qf, vI qg, vI qh] 36, .blk b1 [vI qa, vI qb, vI qc, vI qd] 36]) ⟨by kernel_rfl⟩ (fun w_ hM hS => ⟨w_, ⟨hM.cell 2 rfl rfl, rfl⟩, hM, hS⟩) ?_
     refine oR [] [(52, vI qh), (46, vI (0 - clV qf)), (42, vI (0 - clV qe)), (47, vP b2 2), (7, .func (.func 15) #[] #[]), (2, vI T), (6, vP b3 0), (4, vP b2 0), (3, vP b1 0)] [52, 46, 42, 47, 7, 2, 6, 4, 3] (by kernel_rfl) ?_
     refine ops_nil ?_
     exact to_dag H26 (by kernel_rfl) (look_has ⟨rfl, rfl, rfl, rfl, rfl, rfl, rfl, rfl, rfl, trivial⟩) (fun w_ hM => hM)
   refine dag_have (f := 9) (li := #[true, true, true, true, true, false, false, false, true, true, false, false, true, true, false, false, false, false]) (l := [(52, vI qh), (48, vI qg), (42, vI (0 - clV qe)), (43, vP b2 1), (7, .func (.func 15) #[] #[]), (2, vI T), (6, vP b3 0), (4, vP b2 0), (3, vP b1 0)]) (M := Mem w [.blk b4 [vI (mulV qa qe), vI (mulV qb qf), vI (mulV qc qg), vI (mulV qd qh)] 3, .blk b3 [vI 0, vI 0, vI 0, vI 0] 36, .blk b2 [vI qe, vI qf, vI qg, vI qh] 36, .blk b1 [vI qa, vI qb, vI qc, vI qd] 36]) ?_ (fun H22 => ?_)
   · --
    refine dag_ways [(5, [], 8)] (by kernel_rfl) (fun _ d _ _ _ h => by cases d <;> exact h) (by kernel_rfl) (by simp) ⟨by kernel_rfl, ?_, trivial⟩
    · --
     refine ops_mem (d := some 44) (an := [.v (vI qf)]) (evs := [.load ⟨b2, 1, none⟩ (vI qf)]) (v := vI qf) (M' := Mem w [.blk b4 [vI (mulV qa qe), vI (mulV qb qf), vI (mulV qc qg), vI (mulV qd qh)] 3, .blk b3 [vI 0, vI 0, vI 0, vI 0] 36, .blk b2 [vI qe, vI qf, vI qg, vI qh] 36, .blk b1 [vI qa, vI qb, vI qc, vI qd] 36]) ⟨by kernel_rfl⟩ (fun w_ hM hS => ⟨w_, ⟨hM.cell 2 rfl rfl, rfl⟩, hM, hS⟩) ?_
     refine oR [] [(44, vI qf), (52, vI qh), (48, vI qg), (42, vI (0 - clV qe)), (7, .func (.func 15) #[] #[]), (2, vI T), (6, vP b3 0), (4, vP b2 0), (3, vP b1 0)] [44, 52, 48, 42, 7, 2, 6, 4, 3] (by kernel_rfl) ?_
     refine ops_nil ?_
     exact to_dag H24 (by kernel_rfl) (look_has ⟨rfl, rfl, rfl, rfl, rfl, rfl, rfl, rfl, rfl, trivial⟩) (fun w_ hM => hM)
   refine dag_have (f := 9) (li := #[true, true, true, true, true, true, false, false, true, false, false, false, true, true, false, false, false, false]) (l := [(52, vI qh), (44, vI qf), (42, vI (0 - clV qe)), (47, vP b2 2), (7, .func (.func 15) #[] #[]), (2, vI T), (6, vP b3 0), (4, vP b2 0), (3, vP b1 0)]) (M := Mem w [.blk b4 [vI (mulV qa qe), vI (mulV qb qf), vI (mulV qc qg), vI (mulV qd qh)] 3, .blk b3 [vI 0, vI 0, vI 0, vI 0] 36, .blk b2 [vI qe, vI qf, vI qg, vI qh] 36, .blk b1 [vI qa, vI qb, vI qc, vI qd] 36]) ?_ (fun H21 => ?_)
   · --
    refine dag_ways [(6, [oT 7], 7), (9, [], 8)] (by kernel_rfl) (fun _ d _ _ _ h => by cases d <;> exact h) (by kernel_rfl) (by simp) ⟨by kernel_rfl, ?_, by kernel_rfl, ?_, trivial⟩
    · --
     refine oCS (some 45) 18 #[vI qf] (vI (clV qf)) ⟨by kernel_rfl⟩ (fun w_ hM => Clamp_v qf w_) ?_
     refine oR [oT 7] [(46, vI (IntKind.i64.wrap (0 - clV qf))), (52, vI qh), (42, vI (0 - clV qe)), (47, vP b2 2), (7, .func (.func 15) #[] #[]), (2, vI T), (6, vP b3 0), (4, vP b2 0), (3, vP b1 0)] [46, 52, 42, 47, 7, 2, 6, 4, 3] (by kernel_rfl) ?_
     refine ops_conv (l' := [(46, vI (0 - clV qf)), (52, vI qh), (42, vI (0 - clV qe)), (47, vP b2 2), (7, .func (.func 15) #[] #[]), (2, vI T), (6, vP b3 0), (4, vP b2 0), (3, vP b1 0)]) (by rw [(neg_cl _)]) (fun _ h => h) ?_
     refine ops_nil ?_
     exact to_dag H26 (by kernel_rfl) (look_has ⟨rfl, rfl, rfl, rfl, rfl, rfl, rfl, rfl, rfl, trivial⟩) (fun w_ hM => hM)
    · --
     refine ops_mem (d := some 48) (an := [.v (vI qg)]) (evs := [.load ⟨b2, 2, none⟩ (vI qg)]) (v := vI qg) (M' := Mem w [.blk b4 [vI (mulV qa qe), vI (mulV qb qf), vI (mulV qc qg), vI (mulV qd qh)] 3, .blk b3 [vI 0, vI 0, vI 0, vI 0] 36, .blk b2 [vI qe, vI qf, vI qg, vI qh] 36, .blk b1 [vI qa, vI qb, vI qc, vI qd] 36]) ⟨by kernel_rfl⟩ (fun w_ hM hS => ⟨w_, ⟨hM.cell 2 rfl rfl, rfl⟩, hM, hS⟩) ?_
     refine oR [] [(48, vI qg), (52, vI qh), (44, vI qf), (42, vI (0 - clV qe)), (7, .func (.func 15) #[] #[]), (2, vI T), (6, vP b3 0), (4, vP b2 0), (3, vP b1 0)] [48, 52, 44, 42, 7, 2, 6, 4, 3] (by kernel_rfl) ?_
     refine ops_nil ?_
     exact to_dag H24 (by kernel_rfl) (look_has ⟨rfl, rfl, rfl, rfl, rfl, rfl, rfl, rfl, rfl, trivial⟩) (fun w_ hM => hM)
   refine dag_have (f := 9) (li := #[true, true, true, true, true, true, false, false, true, true, false, false, true, false, false, false, false, false]) (l := [(48, vI qg), (44, vI qf), (42, vI (0 - clV qe)), (51, vP b2 3), (7, .func (.func 15) #[] #[]), (2, vI T), (6, vP b3 0), (4, vP b2 0), (3, vP b1 0)]) (M := Mem w [.blk b4 [vI (mulV qa qe), vI (mulV qb qf), vI (mulV qc qg), vI (mulV qd qh)] 3, .blk b3 [vI 0, vI 0, vI 0, vI 0] 36, .blk b2 [vI qe, vI qf, vI qg, vI qh] 36, .blk b1 [vI qa, vI qb, vI qc, vI qd] 36]) ?_ (fun H20 => ?_)
   · --
    refine dag_ways [(6, [oT 7], 7), (13, [], 8)] (by kernel_rfl) (fun _ d _ _ _ h => by cases d <;> exact h) (by kernel_rfl) (by simp) ⟨by kernel_rfl, ?_, by kernel_rfl, ?_, trivial⟩
    · --
     refine oCS (some 45) 18 #[vI qf] (vI (clV qf)) ⟨by kernel_rfl⟩ (fun w_ hM => Clamp_v qf w_) ?_
     refine oR [oT 7] [(46, vI (IntKind.i64.wrap (0 - clV qf))), (48, vI qg), (42, vI (0 - clV qe)), (51, vP b2 3), (7, .func (.func 15) #[] #[]), (2, vI T), (6, vP b3 0), (4, vP b2 0), (3, vP b1 0)] [46, 48, 42, 51, 7, 2, 6, 4, 3] (by kernel_rfl) ?_
     refine ops_conv (l' := [(46, vI (0 - clV qf)), (48, vI qg), (42, vI (0 - clV qe)), (51, vP b2 3), (7, .func (.func 15) #[] #[]), (2, vI T), (6, vP b3 0), (4, vP b2 0), (3, vP b1 0)]) (by rw [(neg_cl _)]) (fun _ h => h) ?_
     refine ops_nil ?_
     exact to_dag H25 (by kernel_rfl) (look_has ⟨rfl, rfl, rfl, rfl, rfl, rfl, rfl, rfl, rfl, trivial⟩) (fun w_ hM => hM)
    · --
     refine ops_mem (d := some 52) (an := [.v (vI qh)]) (evs := [.load ⟨b2, 3, none⟩ (vI qh)]) (v := vI qh) (M' := Mem w [.blk b4 [vI (mulV qa qe), vI (mulV qb qf), vI (mulV qc qg), vI (mulV qd qh)] 3, .blk b3 [vI 0, vI 0, vI 0, vI 0] 36, .blk b2 [vI qe, vI qf, vI qg, vI qh] 36, .blk b1 [vI qa, vI qb, vI qc, vI qd] 36]) ⟨by kernel_rfl⟩ (fun w_ hM hS => ⟨w_, ⟨hM.cell 2 rfl rfl, rfl⟩, hM, hS⟩) ?_
     refine oR [] [(52, vI qh), (48, vI qg), (44, vI qf), (42, vI (0 - clV qe)), (7, .func (.func 15) #[] #[]), (2, vI T), (6, vP b3 0), (4, vP b2 0), (3, vP b1 0)] [52, 48, 44, 42, 7, 2, 6, 4, 3] (by kernel_rfl) ?_
     refine ops_nil ?_
     exact to_dag H24 (by kernel_rfl) (look_has ⟨rfl, rfl, rfl, rfl, rfl, rfl, rfl, rfl, rfl, trivial⟩) (fun w_ hM => hM)
   refine dag_have (f := 10) (li := #[true, true, false, false, true, true, false, false, true, true, false, false, true, true, false, false, false, false]) (l := [(52, vI qh), (48, vI qg), (44, vI qf), (40, vI qe), (7, .func (.func 15) #[] #[]), (2, vI T), (6, vP b3 0), (4, vP b2 0), (3, vP b1 0)]) (M := Mem w [.blk b4 [vI (mulV qa qe), vI (mulV qb qf), vI (mulV qc qg), vI (mulV qd qh)] 3, .blk b3 [vI 0, vI 0, vI 0, vI 0] 36, .blk b2 [vI qe, vI qf, vI qg, vI qh] 36, .blk b1 [vI qa, vI qb, vI qc, vI qd] 36]) ?_ (fun H19 => ?_)
   · --
    refine dag_ways [(2, [oT 3], 8)] (by kernel_rfl) (fun _ d _ _ _ h => by cases d <;> exact h) (by kernel_rfl) (by simp) ⟨by kernel_rfl, ?_, trivial⟩
    · --
     refine oCS (some 41) 18 #[vI qe] (vI (clV qe)) ⟨by kernel_rfl⟩ (fun w_ hM => Clamp_v qe w_) ?_
     refine oR [oT 3] [(42, vI (IntKind.i64.wrap (0 - clV qe))), (52, vI qh), (48, vI qg), (44, vI qf), (7, .func (.func 15) #[] #[]), (2, vI T), (6, vP b3 0), (4, vP b2 0), (3, vP b1 0)] [42, 52, 48, 44, 7, 2, 6, 4, 3] (by kernel_rfl) ?_
     refine ops_conv (l' := [(42, vI (0 - clV qe)), (52, vI qh), (48, vI qg), (44, vI qf), (7, .func (.func 15) #[] #[]), (2, vI T), (6, vP b3 0), (4, vP b2 0), (3, vP b1 0)]) (by rw [(neg_cl _)]) (fun _ h => h) ?_
     refine ops_nil ?_
     exact to_dag H24 (by kernel_rfl) (look_has ⟨rfl, rfl, rfl, rfl, rfl, rfl, rfl, rfl, rfl, trivial⟩) (fun w_ hM => hM)
   refine dag_have (f := 10) (li := #[true, true, true, true, true, false, false, false, true, false, false, false, true, true, false, false, false, false]) (l := [(52, vI qh), (42, vI (0 - clV qe)), (47, vP b2 2), (43, vP b2 1), (7, .func (.func 15) #[] #[]), (2, vI T), (6, vP b3 0), (4, vP b2 0), (3, vP b1 0)]) (M := Mem w [.blk b4 [vI (mulV qa qe), vI (mulV qb qf), vI (mulV qc qg), vI (mulV qd qh)] 3, .blk b3 [vI 0, vI 0, vI 0, vI 0] 36, .blk b2 [vI qe, vI qf, vI qg, vI qh] 36, .blk b1 [vI qa, vI qb, vI qc, vI qd] 36]) ?_ (fun H18 => ?_)
   · --
    refine dag_ways [(5, [], 9), (9, [], 9)] (by kernel_rfl) (fun _ d _ _ _ h => by cases d <;> exact h) (by kernel_rfl) (by simp) ⟨by kernel_rfl, ?_, by kernel_rfl, ?_, trivial⟩
    · --
     refine ops_mem (d := some 44) (an := [.v (vI qf)]) (evs := [.load ⟨b2, 1, none⟩ (vI qf)]) (v := vI qf) (M' := Mem w [.blk b4 [vI (mulV qa qe), vI (mulV qb qf), vI (mulV qc qg), vI (mulV qd qh)] 3, .blk b3 [vI 0, vI 0, vI 0, vI 0] 36, .blk b2 [vI qe, vI qf, vI qg, vI qh] 36, .blk b1 [vI qa, vI qb, vI qc, vI qd] 36]) ⟨by kernel_rfl⟩ (fun w_ hM hS => ⟨w_, ⟨hM.cell 2 rfl rfl, rfl⟩, hM, hS⟩) ?_
     refine oR [] [(44, vI qf), (52, vI qh), (42, vI (0 - clV qe)), (47, vP b2 2), (7, .func (.func 15) #[] #[]), (2, vI T), (6, vP b3 0), (4, vP b2 0), (3, vP b1 0)] [44, 52, 42, 47, 7, 2, 6, 4, 3] (by kernel_rfl) ?_
     refine ops_nil ?_
     exact to_dag H21 (by kernel_rfl) (look_has ⟨rfl, rfl, rfl, rfl, rfl, rfl, rfl, rfl, rfl, trivial⟩) (fun w_ hM => hM)
    · --
     refine ops_mem (d := some 48) (an := [.v (vI qg)]) (evs := [.load ⟨b2, 2, none⟩ (vI qg)]) (v := vI qg) (M' := Mem w [.blk b4 [vI (mulV qa qe), vI (mulV qb qf), vI (mulV qc qg), vI (mulV qd qh)] 3, .blk b3 [vI 0, vI 0, vI 0, vI 0] 36, .blk b2 [vI qe, vI qf, vI qg, vI qh] 36, .blk b1 [vI qa, vI qb, vI qc, vI qd] 36]) ⟨by kernel_rfl⟩ (fun w_ hM hS => ⟨w_, ⟨hM.cell 2 rfl rfl, rfl⟩, hM, hS⟩) ?_
     refine oR [] [(48, vI qg), (52, vI qh), (42, vI (0 - clV qe)), (43, vP b2 1), (7, .func (.func 15) #[] #[]), (2, vI T), (6, vP b3 0), (4, vP b2 0), (3, vP b1 0)] [48, 52, 42, 43, 7, 2, 6, 4, 3] (by kernel_rfl) ?_
     refine ops_nil ?_
     exact to_dag H22 (by kernel_rfl) (look_has ⟨rfl, rfl, rfl, rfl, rfl, rfl, rfl, rfl, rfl, trivial⟩) (fun w_ hM => hM)
   refine dag_have (f := 10) (li := #[true, true, true, true, true, false, false, false, true, true, false, false, true, false, false, false, false, false]) (l := [(48, vI qg), (42, vI (0 - clV qe)), (51, vP b2 3), (43, vP b2 1), (7, .func (.func 15) #[] #[]), (2, vI T), (6, vP b3 0), (4, vP b2 0), (3, vP b1 0)]) (M := Mem w [.blk b4 [vI (mulV qa qe), vI (mulV qb qf), vI (mulV qc qg), vI (mulV qd qh)] 3, .blk b3 [vI 0, vI 0, vI 0, vI 0] 36, .blk b2 [vI qe, vI qf, vI qg, vI qh] 36, .blk b1 [vI qa, vI qb, vI qc, vI qd] 36]) ?_ (fun H17 => ?_)
   · --
    refine dag_ways [(5, [], 9), (13, [], 9)] (by kernel_rfl) (fun _ d _ _ _ h => by cases d <;> exact h) (by kernel_rfl) (by simp) ⟨by kernel_rfl, ?_, by kernel_rfl, ?_, trivial⟩
    · --
     refine ops_mem (d := some 44) (an := [.v (vI qf)]) (evs := [.load ⟨b2, 1, none⟩ (vI qf)]) (v := vI qf) (M' := Mem w [.blk b4 [vI (mulV qa qe), vI (mulV qb qf), vI (mulV qc qg), vI (mulV qd qh)] 3, .blk b3 [vI 0, vI 0, vI 0, vI 0] 36, .blk b2 [vI qe, vI qf, vI qg, vI qh] 36, .blk b1 [vI qa, vI qb, vI qc, vI qd] 36]) ⟨by kernel_rfl⟩ (fun w_ hM hS => ⟨w_, ⟨hM.cell 2 rfl rfl, rfl⟩, hM, hS⟩) ?_
     refine oR [] [(44, vI qf), (48, vI qg), (42, vI (0 - clV qe)), (51, vP b2 3), (7, .func (.func 15) #[] #[]), (2, vI T), (6, vP b3 0), (4, vP b2 0), (3, vP b1 0)] [44, 48, 42, 51, 7, 2, 6, 4, 3] (by kernel_rfl) ?_
     refine ops_nil ?_
     exact to_dag H20 (by kernel_rfl) (look_has ⟨rfl, rfl, rfl, rfl, rfl, rfl, rfl, rfl, rfl, trivial⟩) (fun w_ hM => hM)
    · --
     refine ops_mem (d := some 52) (an := [.v (vI qh)]) (evs := [.load ⟨b2, 3, none⟩ (vI qh)]) (v := vI qh) (M' := Mem w [.blk b4 [vI (mulV qa qe), vI (mulV qb qf), vI (mulV qc qg), vI (mulV qd qh)] 3, .blk b3 [vI 0, vI 0, vI 0, vI 0] 36, .blk b2 [vI qe, vI qf, vI qg, vI qh] 36, .blk b1 [vI qa, vI qb, vI qc, vI qd] 36]) ⟨by kernel_rfl⟩ (fun w_ hM hS => ⟨w_, ⟨hM.cell 2 rfl rfl, rfl⟩, hM, hS⟩) ?_
     refine oR [] [(52, vI qh), (48, vI qg), (42, vI (0 - clV qe)), (43, vP b2 1), (7, .func (.func 15) #[] #[]), (2, vI T), (6, vP b3 0), (4, vP b2 0), (3, vP b1 0)] [52, 48, 42, 43, 7, 2, 6, 4, 3] (by kernel_rfl) ?_
     refine ops_nil ?_
     exact to_dag H22 (by kernel_rfl) (look_has ⟨rfl, rfl, rfl, rfl, rfl, rfl, rfl, rfl, rfl, trivial⟩) (fun w_ hM => hM)
   refine dag_have (f := 10) (li := #[true, true, true, true, true, true, false, false, true, false, false, false, true, false, false, false, false, false]) (l := [(44, vI qf), (42, vI (0 - clV qe)), (51, vP b2 3), (47, vP b2 2), (7, .func (.func 15) #[] #[]), (2, vI T), (6, vP b3 0), (4, vP b2 0), (3, vP b1 0)]) (M := Mem w [.blk b4 [vI (mulV qa qe), vI (mulV qb qf), vI (mulV qc qg), vI (mulV qd qh)] 3, .blk b3 [vI 0, vI 0, vI 0, vI 0] 36, .blk b2 [vI qe, vI qf, vI qg, vI qh] 36, .blk b1 [vI qa, vI qb, vI qc, vI qd] 36]) ?_ (fun H16 => ?_)
   · --
    refine dag_ways [(6, [oT 7], 8), (9, [], 9), (13, [], 9)] (by kernel_rfl) (fun _ d _ _ _ h => by cases d <;> exact h) (by kernel_rfl) (by simp) ⟨by kernel_rfl, ?_, by kernel_rfl, ?_, by kernel_rfl, ?_, trivial⟩
    · --
     refine oCS (some 45) 18 #[vI qf] (vI (clV qf)) ⟨by kernel_rfl⟩ (fun w_ hM => Clamp_v qf w_) ?_
     refine oR [oT 7] [(46, vI (IntKind.i64.wrap (0 - clV qf))), (42, vI (0 - clV qe)), (51, vP b2 3), (47, vP b2 2), (7, .func (.func 15) #[] #[]), (2, vI T), (6, vP b3 0), (4, vP b2 0), (3, vP b1 0)] [46, 42, 51, 47, 7, 2, 6, 4, 3] (by kernel_rfl) ?_
     refine ops_conv (l' := [(46, vI (0 - clV qf)), (42, vI (0 - clV qe)), (51, vP b2 3), (47, vP b2 2), (7, .func (.func 15) #[] #[]), (2, vI T), (6, vP b3 0), (4, vP b2 0), (3, vP b1 0)]) (by rw [(neg_cl _)]) (fun _ h => h) ?_
     refine ops_nil ?_
     exact to_dag H23 (by kernel_rfl) (look_has ⟨rfl, rfl, rfl, rfl, rfl, rfl, rfl, rfl, rfl, trivial⟩) (fun w_ hM => hM)
    · --
     refine ops_mem (d := some 48) (an := [.v (vI qg)]) (evs := [.load ⟨b2, 2, none⟩ (vI qg)]) (v := vI qg) (M' := Mem w [.blk b4 [vI (mulV qa qe), vI (mulV qb qf), vI (mulV qc qg), vI (mulV qd qh)] 3, .blk b3 [vI 0, vI 0, vI 0, vI 0] 36, .blk b2 [vI qe, vI qf, vI qg, vI qh] 36, .blk b1 [vI qa, vI qb, vI qc, vI qd] 36]) ⟨by kernel_rfl⟩ (fun w_ hM hS => ⟨w_, ⟨hM.cell 2 rfl rfl, rfl⟩, hM, hS⟩) ?_
     refine oR [] [(48, vI qg), (44, vI qf), (42, vI (0 - clV qe)), (51, vP b2 3), (7, .func (.func 15) #[] #[]), (2, vI T), (6, vP b3 0), (4, vP b2 0), (3, vP b1 0)] [48, 44, 42, 51, 7, 2, 6, 4, 3] (by kernel_rfl) ?_
     refine ops_nil ?_
     exact to_dag H20 (by kernel_rfl) (look_has ⟨rfl, rfl, rfl, rfl, rfl, rfl, rfl, rfl, rfl, trivial⟩) (fun w_ hM => hM)
    · --
     refine ops_mem (d := some 52) (an := [.v (vI qh)]) (evs := [.load ⟨b2, 3, none⟩ (vI qh)]) (v := vI qh) (M' := Mem w [.blk b4 [vI (mulV qa qe), vI (mulV qb qf), vI (mulV qc qg), vI (mulV qd qh)] 3, .blk b3 [vI 0, vI 0, vI 0, vI 0] 36, .blk b2 [vI qe, vI qf, vI qg, vI qh] 36, .blk b1 [vI qa, vI qb, vI qc, vI qd] 36]) ⟨by kernel_rfl⟩ (fun w_ hM hS => ⟨w_, ⟨hM.cell 2 rfl rfl, rfl⟩, hM, hS⟩) ?_
     refine oR [] [(52, vI qh), (44, vI qf), (42, vI (0 - clV qe)), (47, vP b2 2), (7, .func (.func 15) #[] #[]), (2, vI T), (6, vP b3 0), (4, vP b2 0), (3, vP b1 0)] [52, 44, 42, 47, 7, 2, 6, 4, 3] (by kernel_rfl) ?_
     refine ops_nil ?_
     exact to_dag H21 (by kernel_rfl) (look_has ⟨rfl, rfl, rfl, rfl, rfl, rfl, rfl, rfl, rfl, trivial⟩) (fun w_ hM => hM)
   refine dag_have (f := 11) (li := #[true, false, false, false, true, true, false, false, true, true, false, false, true, true, false, false, false, false]) (l := [(52, vI qh), (48, vI qg), (44, vI qf), (39, vP b2 0), (7, .func (.func 15) #[] #[]), (2, vI T), (6, vP b3 0), (4, vP b2 0), (3, vP b1 0)]) (M := Mem w [.blk b4 [vI (mulV qa qe), vI (mulV qb qf), vI (mulV qc qg), vI (mulV qd qh)] 3, .blk b3 [vI 0, vI 0, vI 0, vI 0] 36, .blk b2 [vI qe, vI qf, vI qg, vI qh] 36, .blk b1 [vI qa, vI qb, vI qc, vI qd] 36]) ?_ (fun H15 => ?_)
   · --
    refine dag_ways [(1, [], 10)] (by kernel_rfl) (fun _ d _ _ _ h => by cases d <;> exact h) (by kernel_rfl) (by simp) ⟨by kernel_rfl, ?_, trivial⟩
    · --
     refine ops_mem (d := some 40) (an := [.v (vI qe)]) (evs := [.load ⟨b2, 0, none⟩ (vI qe)]) (v := vI qe) (M' := Mem w [.blk b4 [vI (mulV qa qe), vI (mulV qb qf), vI (mulV qc qg), vI (mulV qd qh)] 3, .blk b3 [vI 0, vI 0, vI 0, vI 0] 36, .blk b2 [vI qe, vI qf, vI qg, vI qh] 36, .blk b1 [vI qa, vI qb, vI qc, vI qd] 36]) ⟨by kernel_rfl⟩ (fun w_ hM hS => ⟨w_, ⟨hM.cell 2 rfl rfl, rfl⟩, hM, hS⟩) ?_
     refine oR [] [(40, vI qe), (52, vI qh), (48, vI qg), (44, vI qf), (7, .func (.func 15) #[] #[]), (2, vI T), (6, vP b3 0), (4, vP b2 0), (3, vP b1 0)] [40, 52, 48, 44, 7, 2, 6, 4, 3] (by kernel_rfl) ?_
     refine ops_nil ?_
     exact to_dag H19 (by kernel_rfl) (look_has ⟨rfl, rfl, rfl, rfl, rfl, rfl, rfl, rfl, rfl, trivial⟩) (fun w_ hM => hM)
   refine dag_have (f := 11) (li := #[true, true, false, false, true, false, false, false, true, true, false, false, true, true, false, false, false, false]) (l := [(52, vI qh), (48, vI qg), (40, vI qe), (43, vP b2 1), (7, .func (.func 15) #[] #[]), (2, vI T), (6, vP b3 0), (4, vP b2 0), (3, vP b1 0)]) (M := Mem w [.blk b4 [vI (mulV qa qe), vI (mulV qb qf), vI (mulV qc qg), vI (mulV qd qh)] 3, .blk b3 [vI 0, vI 0, vI 0, vI 0] 36, .blk b2 [vI qe, vI qf, vI qg, vI qh] 36, .blk b1 [vI qa, vI qb, vI qc, vI qd] 36]) ?_ (fun H14 => ?_)
   · --
    refine dag_ways [(2, [oT 3], 9), (5, [], 10)] (by kernel_rfl) (fun _ d _ _ _ h => by cases d <;> exact h) (by kernel_rfl) (by simp) ⟨by kernel_rfl, ?_, by kernel_rfl, ?_, trivial⟩
    · --
     refine oCS (some 41) 18 #[vI qe] (vI (clV qe)) ⟨by kernel_rfl⟩ (fun w_ hM => Clamp_v qe w_) ?_
     refine oR [oT 3] [(42, vI (IntKind.i64.wrap (0 - clV qe))), (52, vI qh), (48, vI qg), (43, vP b2 1), (7, .func (.func 15) #[] #[]), (2, vI T), (6, vP b3 0), (4, vP b2 0), (3, vP b1 0)] [42, 52, 48, 43, 7, 2, 6, 4, 3] (by kernel_rfl) ?_
     refine ops_conv (l' := [(42, vI (0 - clV qe)), (52, vI qh), (48, vI qg), (43, vP b2 1), (7, .func (.func 15) #[] #[]), (2, vI T), (6, vP b3 0), (4, vP b2 0), (3, vP b1 0)]) (by rw [(neg_cl _)]) (fun _ h => h) ?_
     refine ops_nil ?_
     exact to_dag H22 (by kernel_rfl) (look_has ⟨rfl, rfl, rfl, rfl, rfl, rfl, rfl, rfl, rfl, trivial⟩) (fun w_ hM => hM)
    · --
     refine ops_mem (d := some 44) (an := [.v (vI qf)]) (evs := [.load ⟨b2, 1, none⟩ (vI qf)]) (v := vI qf) (M' := Mem w [.blk b4 [vI (mulV qa qe), vI (mulV qb qf), vI (mulV qc qg), vI (mulV qd qh)] 3, .blk b3 [vI 0, vI 0, vI 0, vI 0] 36, .blk b2 [vI qe, vI qf, vI qg, vI qh] 36, .blk b1 [vI qa, vI qb, vI qc, vI qd] 36]) ⟨by kernel_rfl⟩ (fun w_ hM hS => ⟨w_, ⟨hM.cell 2 rfl rfl, rfl⟩, hM, hS⟩) ?_
     refine oR [] [(44, vI qf), (52, vI qh), (48, vI qg), (40, vI qe), (7, .func (.func 15) #[] #[]), (2, vI T), (6, vP b3 0), (4, vP b2 0), (3, vP b1 0)] [44, 52, 48, 40, 7, 2, 6, 4, 3] (by kernel_rfl) ?_
     refine ops_nil ?_
     exact to_dag H19 (by kernel_rfl) (look_has ⟨rfl, rfl, rfl, rfl, rfl, rfl, rfl, rfl, rfl, trivial⟩) (fun w_ hM => hM)
   refine dag_have (f := 11) (li := #[true, true, false, false, true, true, false, false, true, false, false, false, true, true, false, false, false, false]) (l := [(52, vI qh), (44, vI qf), (40, vI qe), (47, vP b2 2), (7, .func (.func 15) #[] #[]), (2, vI T), (6, vP b3 0), (4, vP b2 0), (3, vP b1 0)]) (M := Mem w [.blk b4 [vI (mulV qa qe), vI (mulV qb qf), vI (mulV qc qg), vI (mulV qd qh)] 3, .blk b3 [vI 0, vI 0, vI 0, vI 0] 36, .blk b2 [vI qe, vI qf, vI qg, vI qh] 36, .blk b1 [vI qa, vI qb, vI qc, vI qd] 36]) ?_ (fun H13 => ?_)
   · --
    refine dag_ways [(2, [oT 3], 9), (9, [], 10)] (by kernel_rfl) (fun _ d _ _ _ h => by cases d <;> exact h) (by kernel_rfl) (by simp) ⟨by kernel_rfl, ?_, by kernel_rfl, ?_, trivial⟩
    · --
     refine oCS (some 41) 18 #[vI qe] (vI (clV qe)) ⟨by kernel_rfl⟩ (fun w_ hM => Clamp_v qe w_) ?_
     refine oR [oT 3] [(42, vI (IntKind.i64.wrap (0 - clV qe))), (52, vI qh), (44, vI qf), (47, vP b2 2), (7, .func (.func 15) #[] #[]), (2, vI T), (6, vP b3 0), (4, vP b2 0), (3, vP b1 0)] [42, 52, 44, 47, 7, 2, 6, 4, 3] (by kernel_rfl) ?_
     refine ops_conv (l' := [(42, vI (0 - clV qe)), (52, vI qh), (44, vI qf), (47, vP b2 2), (7, .func (.func 15) #[] #[]), (2, vI T), (6, vP b3 0), (4, vP b2 0), (3, vP b1 0)]) (by rw [(neg_cl _)]) (fun _ h => h) ?_
     refine ops_nil ?_
     exact to_dag H21 (by kernel_rfl) (look_has ⟨rfl, rfl, rfl, rfl, rfl, rfl, rfl, rfl, rfl, trivial⟩) (fun w_ hM => hM)
    · --
     refine ops_mem (d := some 48) (an := [.v (vI qg)]) (evs := [.load ⟨b2, 2, none⟩ (vI qg)]) (v := vI qg) (M' := Mem w [.blk b4 [vI (mulV qa qe), vI (mulV qb qf), vI (mulV qc qg), vI (mulV qd qh)] 3, .blk b3 [vI 0, vI 0, vI 0, vI 0] 36, .blk b2 [vI qe, vI qf, vI qg, vI qh] 36, .blk b1 [vI qa, vI qb, vI qc, vI qd] 36]) ⟨by kernel_rfl⟩ (fun w_ hM hS => ⟨w_, ⟨hM.cell 2 rfl rfl, rfl⟩, hM, hS⟩) ?_
     refine oR [] [(48, vI qg), (52, vI qh), (44, vI qf), (40, vI qe), (7, .func (.func 15) #[] #[]), (2, vI T), (6, vP b3 0), (4, vP b2 0), (3, vP b1 0)] [48, 52, 44, 40, 7, 2, 6, 4, 3] (by kernel_rfl) ?_
     refine ops_nil ?_
     exact to_dag H19 (by kernel_rfl) (look_has ⟨rfl, rfl, rfl, rfl, rfl, rfl, rfl, rfl, rfl, trivial⟩) (fun w_ hM => hM)
   refine dag_have (f := 11) (li := #[true, true, false, false, true, true, false, false, true, true, false, false, true, false, false, false, false, false]) (l := [(48, vI qg), (44, vI qf), (40, vI qe), (51, vP b2 3), (7, .func (.func 15) #[] #[]), (2, vI T), (6, vP b3 0), (4, vP b2 0), (3, vP b1 0)]) (M := Mem w [.blk b4 [vI (mulV qa qe), vI (mulV qb qf), vI (mulV qc qg), vI (mulV qd qh)] 3, .blk b3 [vI 0, vI 0, vI 0, vI 0] 36, .blk b2 [vI qe, vI qf, vI qg, vI qh] 36, .blk b1 [vI qa, vI qb, vI qc, vI qd] 36]) ?_ (fun H12 => ?_)
   · --
    refine dag_ways [(2, [oT 3], 9), (13, [], 10)] (by kernel_rfl) (fun _ d _ _ _ h => by cases d <;> exact h) (by kernel_rfl) (by simp) ⟨by kernel_rfl, ?_, by kernel_rfl, ?_, trivial⟩
    · --
     refine oCS (some 41) 18 #[vI qe] (vI (clV qe)) ⟨by kernel_rfl⟩ (fun w_ hM => Clamp_v qe w_) ?_
     refine oR [oT 3] [(42, vI (IntKind.i64.wrap (0 - clV qe))), (48, vI qg), (44, vI qf), (51, vP b2 3), (7, .func (.func 15) #[] #[]), (2, vI T), (6, vP b3 0), (4, vP b2 0), (3, vP b1 0)] [42, 48, 44, 51, 7, 2, 6, 4, 3] (by kernel_rfl) ?_
     refine ops_conv (l' := [(42, vI (0 - clV qe)), (48, vI qg), (44, vI qf), (51, vP b2 3), (7, .func (.func 15) #[] #[]), (2, vI T), (6, vP b3 0), (4, vP b2 0), (3, vP b1 0)]) (by rw [(neg_cl _)]) (fun _ h => h) ?_
     refine ops_nil ?_
     exact to_dag H20 (by kernel_rfl) (look_has ⟨rfl, rfl, rfl, rfl, rfl, rfl, rfl, rfl, rfl, trivial⟩) (fun w_ hM => hM)
    · --
     refine ops_mem (d := some 52) (an := [.v (vI qh)]) (evs := [.load ⟨b2, 3, none⟩ (vI qh)]) (v := vI qh) (M' := Mem w [.blk b4 [vI (mulV qa qe), vI (mulV qb qf), vI (mulV qc qg), vI (mulV qd qh)] 3, .blk b3 [vI 0, vI 0, vI 0, vI 0] 36, .blk b2 [vI qe, vI qf, vI qg, vI qh] 36, .blk b1 [vI qa, vI qb, vI qc, vI qd] 36]) ⟨by kernel_rfl⟩ (fun w_ hM hS => ⟨w_, ⟨hM.cell 2 rfl rfl, rfl⟩, hM, hS⟩) ?_
     refine oR [] [(52, vI qh), (48, vI qg), (44, vI qf), (40, vI qe), (7, .func (.func 15) #[] #[]), (2, vI T), (6, vP b3 0), (4, vP b2 0), (3, vP b1 0)] [52, 48, 44, 40, 7, 2, 6, 4, 3] (by kernel_rfl) ?_
     refine ops_nil ?_
     exact to_dag H19 (by kernel_rfl) (look_has ⟨rfl, rfl, rfl, rfl, rfl, rfl, rfl, rfl, rfl, trivial⟩) (fun w_ hM => hM)
   refine dag_have (f := 11) (li := #[true, true, true, true, true, false, false, false, true, false, false, false, true, false, false, false, false, false]) (l := [(42, vI (0 - clV qe)), (51, vP b2 3), (47, vP b2 2), (43, vP b2 1), (7, .func (.func 15) #[] #[]), (2, vI T), (6, vP b3 0), (4, vP b2 0), (3, vP b1 0)]) (M := Mem w [.blk b4 [vI (mulV qa qe), vI (mulV qb qf), vI (mulV qc qg), vI (mulV qd qh)] 3, .blk b3 [vI 0, vI 0, vI 0, vI 0] 36, .blk b2 [vI qe, vI qf, vI qg, vI qh] 36, .blk b1 [vI qa, vI qb, vI qc, vI qd] 36]) ?_ (fun H11 => ?_)
   · --
    refine dag_ways [(5, [], 10), (9, [], 10), (13, [], 10)] (by kernel_rfl) (fun _ d _ _ _ h => by cases d <;> exact h) (by kernel_rfl) (by simp) ⟨by kernel_rfl, ?_, by kernel_rfl, ?_, by kernel_rfl, ?_, trivial⟩
    · --
     refine ops_mem (d := some 44) (an := [.v (vI qf)]) (evs := [.load ⟨b2, 1, none⟩ (vI qf)]) (v := vI qf) (M' := Mem w [.blk b4 [vI (mulV qa qe), vI (mulV qb qf), vI (mulV qc qg), vI (mulV qd qh)] 3, .blk b3 [vI 0, vI 0, vI 0, vI 0] 36, .blk b2 [vI qe, vI qf, vI qg, vI qh] 36, .blk b1 [vI qa, vI qb, vI qc, vI qd] 36]) ⟨by kernel_rfl⟩ (fun w_ hM hS => ⟨w_, ⟨hM.cell 2 rfl rfl, rfl⟩, hM, hS⟩) ?_
     refine oR [] [(44, vI qf), (42, vI (0 - clV qe)), (51, vP b2 3), (47, vP b2 2), (7, .func (.func 15) #[] #[]), (2, vI T), (6, vP b3 0), (4, vP b2 0), (3, vP b1 0)] [44, 42, 51, 47, 7, 2, 6, 4, 3] (by kernel_rfl) ?_
     refine ops_nil ?_
     exact to_dag H16 (by kernel_rfl) (look_has ⟨rfl, rfl, rfl, rfl, rfl, rfl, rfl, rfl, rfl, trivial⟩) (fun w_ hM => hM)
    · --
     refine ops_mem (d := some 48) (an := [.v (vI qg)]) (evs := [.load ⟨b2, 2, none⟩ (vI qg)]) (v := vI qg) (M' := Mem w [.blk b4 [vI (mulV qa qe), vI (mulV qb qf), vI (mulV qc qg), vI (mulV qd qh)] 3, .blk b3 [vI 0, vI 0, vI 0, vI 0] 36, .blk b2 [vI qe, vI qf, vI qg, vI qh] 36, .blk b1 [vI qa, vI qb, vI qc, vI qd] 36]) ⟨by kernel_rfl⟩ (fun w_ hM hS => ⟨w_, ⟨hM.cell 2 rfl rfl, rfl⟩, hM, hS⟩) ?_
     refine oR [] [(48, vI qg), (42, vI (0 - clV qe)), (51, vP b2 3), (43, vP b2 1), (7, .func (.func 15) #[] #[]), (2, vI T), (6, vP b3 0), (4, vP b2 0), (3, vP b1 0)] [48, 42, 51, 43, 7, 2, 6, 4, 3] (by kernel_rfl) ?_
     refine ops_nil ?_
     exact to_dag H17 (by kernel_rfl) (look_has ⟨rfl, rfl, rfl, rfl, rfl, rfl, rfl, rfl, rfl, trivial⟩) (fun w_ hM => hM)
    · --
     refine ops_mem (d := some 52) (an := [.v (vI qh)]) (evs := [.load ⟨b2, 3, none⟩ (vI qh)]) (v := vI qh) (M' := Mem w [.blk b4 [vI (mulV qa qe), vI (mulV qb qf), vI (mulV qc qg), vI (mulV qd qh)] 3, .blk b3 [vI 0, vI 0, vI 0, vI 0] 36, .blk b2 [vI qe, vI qf, vI qg, vI qh] 36, .blk b1 [vI qa, vI qb, vI qc, vI qd] 36]) ⟨by kernel_rfl⟩ (fun w_ hM hS => ⟨w_, ⟨hM.cell 2 rfl rfl, rfl⟩, hM, hS⟩) ?_
     refine oR [] [(52, vI qh), (42, vI (0 - clV qe)), (47, vP b2 2), (43, vP b2 1), (7, .func (.func 15) #[] #[]), (2, vI T), (6, vP b3 0), (4, vP b2 0), (3, vP b1 0)] [52, 42, 47, 43, 7, 2, 6, 4, 3] (by kernel_rfl) ?_
     refine ops_nil ?_
     exact to_dag H18 (by kernel_rfl) (look_has ⟨rfl, rfl, rfl, rfl, rfl, rfl, rfl, rfl, rfl, trivial⟩) (fun w_ hM => hM)
   refine dag_have (f := 12) (li := #[true, false, false, false, true, false, false, false, true, true, false, false, true, true, false, false, false, false]) (l := [(52, vI qh), (48, vI qg), (43, vP b2 1), (39, vP b2 0), (7, .func (.func 15) #[] #[]), (2, vI T), (6, vP b3 0), (4, vP b2 0), (3, vP b1 0)]) (M := Mem w [.blk b4 [vI (mulV qa qe), vI (mulV qb qf), vI (mulV qc qg), vI (mulV qd qh)] 3, .blk b3 [vI 0, vI 0, vI 0, vI 0] 36, .blk b2 [vI qe, vI qf, vI qg, vI qh] 36, .blk b1 [vI qa, vI qb, vI qc, vI qd] 36]) ?_ (fun H10 => ?_)
   · --
    refine dag_ways [(1, [], 11), (5, [], 11)] (by kernel_rfl) (fun _ d _ _ _ h => by cases d <;> exact h) (by kernel_rfl) (by simp) ⟨by kernel_rfl, ?_, by kernel_rfl, ?_, trivial⟩
    · --
     refine ops_mem (d := some 40) (an := [.v (vI qe)]) (evs := [.load ⟨b2, 0, none⟩ (vI qe)]) (v := vI qe) (M' := Mem w [.blk b4 [vI (mulV qa qe), vI (mulV qb qf), vI (mulV qc qg), vI (mulV qd qh)] 3, .blk b3 [vI 0, vI 0, vI 0, vI 0] 36, .blk b2 [vI qe, vI qf, vI qg, vI qh] 36, .blk b1 [vI qa, vI qb, vI qc, vI qd] 36]) ⟨by kernel_rfl⟩ (fun w_ hM hS => ⟨w_, ⟨hM.cell 2 rfl rfl, rfl⟩, hM, hS⟩) ?_
     refine oR [] [(40, vI qe), (52, vI qh), (48, vI qg), (43, vP b2 1), (7, .func (.func 15) #[] #[]), (2, vI T), (6, vP b3 0), (4, vP b2 0), (3, vP b1 0)] [40, 52, 48, 43, 7, 2, 6, 4, 3] (by kernel_rfl) ?_
     refine ops_nil ?_
     exact to_dag H14 (by kernel_rfl) (look_has ⟨rfl, rfl, rfl, rfl, rfl, rfl, rfl, rfl, rfl, trivial⟩) (fun w_ hM => hM)
    · --
     refine ops_mem (d := some 44) (an := [.v (vI qf)]) (evs := [.load ⟨b2, 1, none⟩ (vI qf)]) (v := vI qf) (M' := Mem w [.blk b4 [vI (mulV qa qe), vI (mulV qb qf), vI (mulV qc qg), vI (mulV qd qh)] 3, .blk b3 [vI 0, vI 0, vI 0, vI 0] 36, .blk b2 [vI qe, vI qf, vI qg, vI qh] 36, .blk b1 [vI qa, vI qb, vI qc, vI qd] 36]) ⟨by kernel_rfl⟩ (fun w_ hM hS => ⟨w_, ⟨hM.cell 2 rfl rfl, rfl⟩, hM, hS⟩) ?_
     refine oR [] [(44, vI qf), (52, vI qh), (48, vI qg), (39, vP b2 0), (7, .func (.func 15) #[] #[]), (2, vI T), (6, vP b3 0), (4, vP b2 0), (3, vP b1 0)] [44, 52, 48, 39, 7, 2, 6, 4, 3] (by kernel_rfl) ?_
     refine ops_nil ?_
     exact to_dag H15 (by kernel_rfl) (look_has ⟨rfl, rfl, rfl, rfl, rfl, rfl, rfl, rfl, rfl, trivial⟩) (fun w_ hM => hM)
   refine dag_have (f := 12) (li := #[true, false, false, false, true, true, false, false, true, false, false, false, true, true, false, false, false, false]) (l := [(52, vI qh), (44, vI qf), (47, vP b2 2), (39, vP b2 0), (7, .func (.func 15) #[] #[]), (2, vI T), (6, vP b3 0), (4, vP b2 0), (3, vP b1 0)]) (M := Mem w [.blk b4 [vI (mulV qa qe), vI (mulV qb qf), vI (mulV qc qg), vI (mulV qd qh)] 3, .blk b3 [vI 0, vI 0, vI 0, vI 0] 36, .blk b2 [vI qe, vI qf, vI qg, vI qh] 36, .blk b1 [vI qa, vI qb, vI qc, vI qd] 36]) ?_ (fun H9 => ?_)
   · --
    refine dag_ways [(1, [], 11), (9, [], 11)] (by kernel_rfl) (fun _ d _ _ _ h => by cases d <;> exact h) (by kernel_rfl) (by simp) ⟨by kernel_rfl, ?_, by kernel_rfl, ?_, trivial⟩
    · --
     refine ops_mem (d := some 40) (an := [.v (vI qe)]) (evs := [.load ⟨b2, 0, none⟩ (vI qe)]) (v := vI qe) (M' := Mem w [.blk b4 [vI (mulV qa qe), vI (mulV qb qf), vI (mulV qc qg), vI (mulV qd qh)] 3, .blk b3 [vI 0, vI 0, vI 0, vI 0] 36, .blk b2 [vI qe, vI qf, vI qg, vI qh] 36, .blk b1 [vI qa, vI qb, vI qc, vI qd] 36]) ⟨by kernel_rfl⟩ (fun w_ hM hS => ⟨w_, ⟨hM.cell 2 rfl rfl, rfl⟩, hM, hS⟩) ?_
     refine oR [] [(40, vI qe), (52, vI qh), (44, vI qf), (47, vP b2 2), (7, .func (.func 15) #[] #[]), (2, vI T), (6, vP b3 0), (4, vP b2 0), (3, vP b1 0)] [40, 52, 44, 47, 7, 2, 6, 4, 3] (by kernel_rfl) ?_
     refine ops_nil ?_
     exact to_dag H13 (by kernel_rfl) (look_has ⟨rfl, rfl, rfl, rfl, rfl, rfl, rfl, rfl, rfl, trivial⟩) (fun w_ hM => hM)
    · --
     refine ops_mem (d := some 48) (an := [.v (vI qg)]) (evs := [.load ⟨b2, 2, none⟩ (vI qg)]) (v := vI qg) (M' := Mem w [.blk b4 [vI (mulV qa qe), vI (mulV qb qf), vI (mulV qc qg), vI (mulV qd qh)] 3, .blk b3 [vI 0, vI 0, vI 0, vI 0] 36, .blk b2 [vI qe, vI qf, vI qg, vI qh] 36, .blk b1 [vI qa, vI qb, vI qc, vI qd] 36]) ⟨by kernel_rfl⟩ (fun w_ hM hS => ⟨w_, ⟨hM.cell 2 rfl rfl, rfl⟩, hM, hS⟩) ?_
     refine oR [] [(48, vI qg), (52, vI qh), (44, vI qf), (39, vP b2 0), (7, .func (.func 15) #[] #[]), (2, vI T), (6, vP b3 0), (4, vP b2 0), (3, vP b1 0)] [48, 52, 44, 39, 7, 2, 6, 4, 3] (by kernel_rfl) ?_
     refine ops_nil ?_
     exact to_dag H15 (by kernel_rfl) (look_has ⟨rfl, rfl, rfl, rfl, rfl, rfl, rfl, rfl, rfl, trivial⟩) (fun w_ hM => hM)
   refine dag_have (f := 12) (li := #[true, false, false, false, true, true, false, false, true, true, false, false, true, false, false, false, false, false]) (l := [(48, vI qg), (44, vI qf), (51, vP b2 3), (39, vP b2 0), (7, .func (.func 15) #[] #[]), (2, vI T), (6, vP b3 0), (4, vP b2 0), (3, vP b1 0)]) (M := Mem w [.blk b4 [vI (mulV qa qe), vI (mulV qb qf), vI (mulV qc qg), vI (mulV qd qh)] 3, .blk b3 [vI 0, vI 0, vI 0, vI 0] 36, .blk b2 [vI qe, vI qf, vI qg, vI qh] 36, .blk b1 [vI qa, vI qb, vI qc, vI qd] 36]) ?_ (fun H8 => ?_)
   · --
    refine dag_ways [(1, [], 11), (13, [], 11)] (by kernel_rfl) (fun _ d _ _ _ h => by cases d <;> exact h) (by kernel_rfl) (by simp) ⟨by kernel_rfl, ?_, by kernel_rfl, ?_, trivial⟩
    · --
     refine ops_mem (d := some 40) (an := [.v (vI qe)]) (evs := [.load ⟨b2, 0, none⟩ (vI qe)]) (v := vI qe) (M' := Mem w [.blk b4 [vI (mulV qa qe), vI (mulV qb qf), vI (mulV qc qg), vI (mulV qd qh)] 3, .blk b3 [vI 0, vI 0, vI 0, vI 0] 36, .blk b2 [vI qe, vI qf, vI qg, vI qh] 36, .blk b1 [vI qa, vI qb, vI qc, vI qd] 36]) ⟨by kernel_rfl⟩ (fun w_ hM hS => ⟨w_, ⟨hM.cell 2 rfl rfl, rfl⟩, hM, hS⟩) ?_
     refine oR [] [(40, vI qe), (48, vI qg), (44, vI qf), (51, vP b2 3), (7, .func (.func 15) #[] #[]), (2, vI T), (6, vP b3 0), (4, vP b2 0), (3, vP b1 0)] [40, 48, 44, 51, 7, 2, 6, 4, 3] (by kernel_rfl) ?_
     refine ops_nil ?_
     exact to_dag H12 (by kernel_rfl) (look_has ⟨rfl, rfl, rfl, rfl, rfl, rfl, rfl, rfl, rfl, trivial⟩) (fun w_ hM => hM)
    · --
     refine ops_mem (d := some 52) (an := [.v (vI qh)]) (evs := [.load ⟨b2, 3, none⟩ (vI qh)]) (v := vI qh) (M' := Mem w [.blk b4 [vI (mulV qa qe), vI (mulV qb qf), vI (mulV qc qg), vI (mulV qd qh)] 3, .blk b3 [vI 0, vI 0, vI 0, vI 0] 36, .blk b2 [vI qe, vI qf, vI qg, vI qh] 36, .blk b1 [vI qa, vI qb, vI qc, vI qd] 36]) ⟨by kernel_rfl⟩ (fun w_ hM hS => ⟨w_, ⟨hM.cell 2 rfl rfl, rfl⟩, hM, hS⟩) ?_
     refine oR [] [(52, vI qh), (48, vI qg), (44, vI qf), (39, vP b2 0), (7, .func (.func 15) #[] #[]), (2, vI T), (6, vP b3 0), (4, vP b2 0), (3, vP b1 0)] [52, 48, 44, 39, 7, 2, 6, 4, 3] (by kernel_rfl) ?_
     refine ops_nil ?_
     exact to_dag H15 (by kernel_rfl) (look_has ⟨rfl, rfl, rfl, rfl, rfl, rfl, rfl, rfl, rfl, trivial⟩) (fun w_ hM => hM)
   refine dag_have (f := 12) (li := #[true, true, false, false, true, false, false, false, true, false, false, false, true, true, false, false, false, false]) (l := [(52, vI qh), (40, vI qe), (47, vP b2 2), (43, vP b2 1), (7, .func (.func 15) #[] #[]), (2, vI T), (6, vP b3 0), (4, vP b2 0), (3, vP b1 0)]) (M := Mem w [.blk b4 [vI (mulV qa qe), vI (mulV qb qf), vI (mulV qc qg), vI (mulV qd qh)] 3, .blk b3 [vI 0, vI 0, vI 0, vI 0] 36, .blk b2 [vI qe, vI qf, vI qg, vI qh] 36, .blk b1 [vI qa, vI qb, vI qc, vI qd] 36]) ?_ (fun H7 => ?_)
   · --
    refine dag_ways [(2, [oT 3], 10), (5, [], 11), (9, [], 11)] (by kernel_rfl) (fun _ d _ _ _ h => by cases d <;> exact h) (by kernel_rfl) (by simp) ⟨by kernel_rfl, ?_, by kernel_rfl, ?_, by kernel_rfl, ?_, trivial⟩
    · --
     refine oCS (some 41) 18 #[vI qe] (vI (clV qe)) ⟨by kernel_rfl⟩ (fun w_ hM => Clamp_v qe w_) ?_
     refine oR [oT 3] [(42, vI (IntKind.i64.wrap (0 - clV qe))), (52, vI qh), (47, vP b2 2), (43, vP b2 1), (7, .func (.func 15) #[] #[]), (2, vI T), (6, vP b3 0), (4, vP b2 0), (3, vP b1 0)] [42, 52, 47, 43, 7, 2, 6, 4, 3] (by kernel_rfl) ?_
     refine ops_conv (l' := [(42, vI (0 - clV qe)), (52, vI qh), (47, vP b2 2), (43, vP b2 1), (7, .func (.func 15) #[] #[]), (2, vI T), (6, vP b3 0), (4, vP b2 0), (3, vP b1 0)]) (by rw [(neg_cl _)]) (fun _ h => h) ?_
     refine ops_nil ?_
     exact to_dag H18 (by kernel_rfl) (look_has ⟨rfl, rfl, rfl, rfl, rfl, rfl, rfl, rfl, rfl, trivial⟩) (fun w_ hM => hM)
    · --
     refine ops_mem (d := some 44) (an := [.v (vI qf)]) (evs := [.load ⟨b2, 1, none⟩ (vI qf)]) (v := vI qf) (M' := Mem w [.blk b4 [vI (mulV qa qe), vI (mulV qb qf), vI (mulV qc qg), vI (mulV qd qh)] 3, .blk b3 [vI 0, vI 0, vI 0, vI 0] 36, .blk b2 [vI qe, vI qf, vI qg, vI qh] 36, .blk b1 [vI qa, vI qb, vI qc, vI qd] 36]) ⟨by kernel_rfl⟩ (fun w_ hM hS => ⟨w_, ⟨hM.cell 2 rfl rfl, rfl⟩, hM, hS⟩) ?_
     refine oR [] [(44, vI qf), (52, vI qh), (40, vI qe), (47, vP b2 2), (7, .func (.func 15) #[] #[]), (2, vI T), (6, vP b3 0), (4, vP b2 0), (3, vP b1 0)] [44, 52, 40, 47, 7, 2, 6, 4, 3] (by kernel_rfl) ?_
     refine ops_nil ?_
     exact to_dag H13 (by kernel_rfl) (look_has ⟨rfl, rfl, rfl, rfl, rfl, rfl, rfl, rfl, rfl, trivial⟩) (fun w_ hM => hM)
    · --
     refine ops_mem (d := some 48) (an := [.v (vI qg)]) (evs := [.load ⟨b2, 2, none⟩ (vI qg)]) (v := vI qg) (M' := Mem w [.blk b4 [vI (mulV qa qe), vI (mulV qb qf), vI (mulV qc qg), vI (mulV qd qh)] 3, .blk b3 [vI 0, vI 0, vI 0, vI 0] 36, .blk b2 [vI qe, vI qf, vI qg, vI qh] 36, .blk b1 [vI qa, vI qb, vI qc, vI qd] 36]) ⟨by kernel_rfl⟩ (fun w_ hM hS => ⟨w_, ⟨hM.cell 2 rfl rfl, rfl⟩, hM, hS⟩) ?_
     refine oR [] [(48, vI qg), (52, vI qh), (40, vI qe), (43, vP b2 1), (7, .func (.func 15) #[] #[]), (2, vI T), (6, vP b3 0), (4, vP b2 0), (3, vP b1 0)] [48, 52, 40, 43, 7, 2, 6, 4, 3] (by kernel_rfl) ?_
     refine ops_nil ?_
     exact to_dag H14 (by kernel_rfl) (look_has ⟨rfl, rfl, rfl, rfl, rfl, rfl, rfl, rfl, rfl, trivial⟩) (fun w_ hM => hM)
   refine dag_have (f := 12) (li := #[true, true, false, false, true, false, false, false, true, true, false, false, true, false, false, false, false, false]) (l := [(48, vI qg), (40, vI qe), (51, vP b2 3), (43, vP b2 1), (7, .func (.func 15) #[] #[]), (2, vI T), (6, vP b3 0), (4, vP b2 0), (3, vP b1 0)]) (M := Mem w [.blk b4 [vI (mulV qa qe), vI (mulV qb qf), vI (mulV qc qg), vI (mulV qd qh)] 3, .blk b3 [vI 0, vI 0, vI 0, vI 0] 36, .blk b2 [vI qe, vI qf, vI qg, vI qh] 36, .blk b1 [vI qa, vI qb, vI qc, vI qd] 36]) ?_ (fun H6 => ?_)
   · --
    refine dag_ways [(2, [oT 3], 10), (5, [], 11), (13, [], 11)] (by kernel_rfl) (fun _ d _ _ _ h => by cases d <;> exact h) (by kernel_rfl) (by simp) ⟨by kernel_rfl, ?_, by kernel_rfl, ?_, by kernel_rfl, ?_, trivial⟩
    · --
     refine oCS (some 41) 18 #[vI qe] (vI (clV qe)) ⟨by kernel_rfl⟩ (fun w_ hM => Clamp_v qe w_) ?_
     refine oR [oT 3] [(42, vI (IntKind.i64.wrap (0 - clV qe))), (48, vI qg), (51, vP b2 3), (43, vP b2 1), (7, .func (.func 15) #[] #[]), (2, vI T), (6, vP b3 0), (4, vP b2 0), (3, vP b1 0)] [42, 48, 51, 43, 7, 2, 6, 4, 3] (by kernel_rfl) ?_
     refine ops_conv (l' := [(42, vI (0 - clV qe)), (48, vI qg), (51, vP b2 3), (43, vP b2 1), (7, .func (.func 15) #[] #[]), (2, vI T), (6, vP b3 0), (4, vP b2 0), (3, vP b1 0)]) (by rw [(neg_cl _)]) (fun _ h => h) ?_
     refine ops_nil ?_
     exact to_dag H17 (by kernel_rfl) (look_has ⟨rfl, rfl, rfl, rfl, rfl, rfl, rfl, rfl, rfl, trivial⟩) (fun w_ hM => hM)
    · --
     refine ops_mem (d := some 44) (an := [.v (vI qf)]) (evs := [.load ⟨b2, 1, none⟩ (vI qf)]) (v := vI qf) (M' := Mem w [.blk b4 [vI (mulV qa qe), vI (mulV qb qf), vI (mulV qc qg), vI (mulV qd qh)] 3, .blk b3 [vI 0, vI 0, vI 0, vI 0] 36, .blk b2 [vI qe, vI qf, vI qg, vI qh] 36, .blk b1 [vI qa, vI qb, vI qc, vI qd] 36]) ⟨by kernel_rfl⟩ (fun w_ hM hS => ⟨w_, ⟨hM.cell 2 rfl rfl, rfl⟩, hM, hS⟩) ?_
     refine oR [] [(44, vI qf), (48, vI qg), (40, vI qe), (51, vP b2 3), (7, .func (.func 15) #[] #[]), (2, vI T), (6, vP b3 0), (4, vP b2 0), (3, vP b1 0)] [44, 48, 40, 51, 7, 2, 6, 4, 3] (by kernel_rfl) ?_
     refine ops_nil ?_
     exact to_dag H12 (by kernel_rfl) (look_has ⟨rfl, rfl, rfl, rfl, rfl, rfl, rfl, rfl, rfl, trivial⟩) (fun w_ hM => hM)
    · --
     refine ops_mem (d := some 52) (an := [.v (vI qh)]) (evs := [.load ⟨b2, 3, none⟩ (vI qh)]) (v := vI qh) (M' := Mem w [.blk b4 [vI (mulV qa qe), vI (mulV qb qf), vI (mulV qc qg), vI (mulV qd qh)] 3, .blk b3 [vI 0, vI 0, vI 0, vI 0] 36, .blk b2 [vI qe, vI qf, vI qg, vI qh] 36, .blk b1 [vI qa, vI qb, vI qc, vI qd] 36]) ⟨by kernel_rfl⟩ (fun w_ hM hS => ⟨w_, ⟨hM.cell 2 rfl rfl, rfl⟩, hM, hS⟩) ?_
     refine oR [] [(52, vI qh), (48, vI qg), (40, vI qe), (43, vP b2 1), (7, .func (.func 15) #[] #[]), (2, vI T), (6, vP b3 0), (4, vP b2 0), (3, vP b1 0)] [52, 48, 40, 43, 7, 2, 6, 4, 3] (by kernel_rfl) ?_
     refine ops_nil ?_
     exact to_dag H14 (by kernel_rfl) (look_has ⟨rfl, rfl, rfl, rfl, rfl, rfl, rfl, rfl, rfl, trivial⟩) (fun w_ hM => hM)
   refine dag_have (f := 12) (li := #[true, true, false, false, true, true, false, false, true, false, false, false, true, false, false, false, false, false]) (l := [(44, vI qf), (40, vI qe), (51, vP b2 3), (47, vP b2 2), (7, .func (.func 15) #[] #[]), (2, vI T), (6, vP b3 0), (4, vP b2 0), (3, vP b1 0)]) (M := Mem w [.blk b4 [vI (mulV qa qe), vI (mulV qb qf), vI (mulV qc qg), vI (mulV qd qh)] 3, .blk b3 [vI 0, vI 0, vI 0, vI 0] 36, .blk b2 [vI qe, vI qf, vI qg, vI qh] 36, .blk b1 [vI qa, vI qb, vI qc, vI qd] 36]) ?_ (fun H5 => ?_)
   · --
    refine dag_ways [(2, [oT 3], 10), (9, [], 11), (13, [], 11)] (by kernel_rfl) (fun _ d _ _ _ h => by cases d <;> exact h) (by kernel_rfl) (by simp) ⟨by kernel_rfl, ?_, by kernel_rfl, ?_, by kernel_rfl, ?_, trivial⟩
    · --
     refine oCS (some 41) 18 #[vI qe] (vI (clV qe)) ⟨by kernel_rfl⟩ (fun w_ hM => Clamp_v qe w_) ?_
     refine oR [oT 3] [(42, vI (IntKind.i64.wrap (0 - clV qe))), (44, vI qf), (51, vP b2 3), (47, vP b2 2), (7, .func (.func 15) #[] #[]), (2, vI T), (6, vP b3 0), (4, vP b2 0), (3, vP b1 0)] [42, 44, 51, 47, 7, 2, 6, 4, 3] (by kernel_rfl) ?_
     refine ops_conv (l' := [(42, vI (0 - clV qe)), (44, vI qf), (51, vP b2 3), (47, vP b2 2), (7, .func (.func 15) #[] #[]), (2, vI T), (6, vP b3 0), (4, vP b2 0), (3, vP b1 0)]) (by rw [(neg_cl _)]) (fun _ h => h) ?_
     refine ops_nil ?_
     exact to_dag H16 (by kernel_rfl) (look_has ⟨rfl, rfl, rfl, rfl, rfl, rfl, rfl, rfl, rfl, trivial⟩) (fun w_ hM => hM)
    · --
     refine ops_mem (d := some 48) (an := [.v (vI qg)]) (evs := [.load ⟨b2, 2, none⟩ (vI qg)]) (v := vI qg) (M' := Mem w [.blk b4 [vI (mulV qa qe), vI (mulV qb qf), vI (mulV qc qg), vI (mulV qd qh)] 3, .blk b3 [vI 0, vI 0, vI 0, vI 0] 36, .blk b2 [vI qe, vI qf, vI qg, vI qh] 36, .blk b1 [vI qa, vI qb, vI qc, vI qd] 36]) ⟨by kernel_rfl⟩ (fun w_ hM hS => ⟨w_, ⟨hM.cell 2 rfl rfl, rfl⟩, hM, hS⟩) ?_
     refine oR [] [(48, vI qg), (44, vI qf), (40, vI qe), (51, vP b2 3), (7, .func (.func 15) #[] #[]), (2, vI T), (6, vP b3 0), (4, vP b2 0), (3, vP b1 0)] [48, 44, 40, 51, 7, 2, 6, 4, 3] (by kernel_rfl) ?_
     refine ops_nil ?_
     exact to_dag H12 (by kernel_rfl) (look_has ⟨rfl, rfl, rfl, rfl, rfl, rfl, rfl, rfl, rfl, trivial⟩) (fun w_ hM => hM)
    · --
     refine ops_mem (d := some 52) (an := [.v (vI qh)]) (evs := [.load ⟨b2, 3, none⟩ (vI qh)]) (v := vI qh) (M' := Mem w [.blk b4 [vI (mulV qa qe), vI (mulV qb qf), vI (mulV qc qg), vI (mulV qd qh)] 3, .blk b3 [vI 0, vI 0, vI 0, vI 0] 36, .blk b2 [vI qe, vI qf, vI qg, vI qh] 36, .blk b1 [vI qa, vI qb, vI qc, vI qd] 36]) ⟨by kernel_rfl⟩ (fun w_ hM hS => ⟨w_, ⟨hM.cell 2 rfl rfl, rfl⟩, hM, hS⟩) ?_
     refine oR [] [(52, vI qh), (44, vI qf), (40, vI qe), (47, vP b2 2), (7, .func (.func 15) #[] #[]), (2, vI T), (6, vP b3 0), (4, vP b2 0), (3, vP b1 0)] [52, 44, 40, 47, 7, 2, 6, 4, 3] (by kernel_rfl) ?_
     refine ops_nil ?_
     exact to_dag H13 (by kernel_rfl) (look_has ⟨rfl, rfl, rfl, rfl, rfl, rfl, rfl, rfl, rfl, trivial⟩) (fun w_ hM => hM)
   refine dag_have (f := 13) (li := #[true, false, false, false, true, false, false, false, true, false, false, false, true, true, false, false, false, false]) (l := [(52, vI qh), (47, vP b2 2), (43, vP b2 1), (39, vP b2 0), (7, .func (.func 15) #[] #[]), (2, vI T), (6, vP b3 0), (4, vP b2 0), (3, vP b1 0)]) (M := Mem w [.blk b4 [vI (mulV qa qe), vI (mulV qb qf), vI (mulV qc qg), vI (mulV qd qh)] 3, .blk b3 [vI 0, vI 0, vI 0, vI 0] 36, .blk b2 [vI qe, vI qf, vI qg, vI qh] 36, .blk b1 [vI qa, vI qb, vI qc, vI qd] 36]) ?_ (fun H4 => ?_)
   · --
    refine dag_ways [(1, [], 12), (5, [], 12), (9, [], 12)] (by kernel_rfl) (fun _ d _ _ _ h => by cases d <;> exact h) (by kernel_rfl) (by simp) ⟨by kernel_rfl, ?_, by kernel_rfl, ?_, by kernel_rfl, ?_, trivial⟩
    · --
     refine ops_mem (d := some 40) (an := [.v (vI qe)]) (evs := [.load ⟨b2, 0, none⟩ (vI qe)]) (v := vI qe) (M' := Mem w [.blk b4 [vI (mulV qa qe), vI (mulV qb qf), vI (mulV qc qg), vI (mulV qd qh)] 3, .blk b3 [vI 0, vI 0, vI 0, vI 0] 36, .blk b2 [vI qe, vI qf, vI qg, vI qh] 36, .blk b1 [vI qa, vI qb, vI qc, vI qd] 36]) ⟨by kernel_rfl⟩ (fun w_ hM hS => ⟨w_, ⟨hM.cell 2 rfl rfl, rfl⟩, hM, hS⟩) ?_
     refine oR [] [(40, vI qe), (52, vI qh), (47, vP b2 2), (43, vP b2 1), (7, .func (.func 15) #[] #[]), (2, vI T), (6, vP b3 0), (4, vP b2 0), (3, vP b1 0)] [40, 52, 47, 43, 7, 2, 6, 4, 3] (by kernel_rfl) ?_
     refine ops_nil ?_
     exact to_dag H7 (by kernel_rfl) (look_has ⟨rfl, rfl, rfl, rfl, rfl, rfl, rfl, rfl, rfl, trivial⟩) (fun w_ hM => hM)
    · --
     refine ops_mem (d := some 44) (an := [.v (vI qf)]) (evs := [.load ⟨b2, 1, none⟩ (vI qf)]) (v := vI qf) (M' := Mem w [.blk b4 [vI (mulV qa qe), vI (mulV qb qf), vI (mulV qc qg), vI (mulV qd qh)] 3, .blk b3 [vI 0, vI 0, vI 0, vI 0] 36, .blk b2 [vI qe, vI qf, vI qg, vI qh] 36, .blk b1 [vI qa, vI qb, vI qc, vI qd] 36]) ⟨by kernel_rfl⟩ (fun w_ hM hS => ⟨w_, ⟨hM.cell 2 rfl rfl, rfl⟩, hM, hS⟩) ?_
     refine oR [] [(44, vI qf), (52, vI qh), (47, vP b2 2), (39, vP b2 0), (7, .func (.func 15) #[] #[]), (2, vI T), (6, vP b3 0), (4, vP b2 0), (3, vP b1 0)] [44, 52, 47, 39, 7, 2, 6, 4, 3] (by kernel_rfl) ?_
     refine ops_nil ?_
     exact to_dag H9 (by kernel_rfl) (look_has ⟨rfl, rfl, rfl, rfl, rfl, rfl, rfl, rfl, rfl, trivial⟩) (fun w_ hM => hM)
    · --
     refine ops_mem (d := some 48) (an := [.v (vI qg)]) (evs := [.load ⟨b2, 2, none⟩ (vI qg)]) (v := vI qg) (M' := Mem w [.blk b4 [vI (mulV qa qe), vI (mulV qb qf), vI (mulV qc qg), vI (mulV qd qh)] 3, .blk b3 [vI 0, vI 0, vI 0, vI 0] 36, .blk b2 [vI qe, vI qf, vI qg, vI qh] 36, .blk b1 [vI qa, vI qb, vI qc, vI qd] 36]) ⟨by kernel_rfl⟩ (fun w_ hM hS => ⟨w_, ⟨hM.cell 2 rfl rfl, rfl⟩, hM, hS⟩) ?_
     refine oR [] [(48, vI qg), (52, vI qh), (43, vP b2 1), (39, vP b2 0), (7, .func (.func 15) #[] #[]), (2, vI T), (6, vP b3 0), (4, vP b2 0), (3, vP b1 0)] [48, 52, 43, 39, 7, 2, 6, 4, 3] (by kernel_rfl) ?_
     refine ops_nil ?_
     exact to_dag H10 (by kernel_rfl) (look_has ⟨rfl, rfl, rfl, rfl, rfl, rfl, rfl, rfl, rfl, trivial⟩) (fun w_ hM => hM)
   refine dag_have (f := 13) (li := #[true, false, false, false, true, false, false, false, true, true, false, false, true, false, false, false, false, false]) (l := [(48, vI qg), (51, vP b2 3), (43, vP b2 1), (39, vP b2 0), (7, .func (.func 15) #[] #[]), (2, vI T), (6, vP b3 0), (4, vP b2 0), (3, vP b1 0)]) (M := Mem w [.blk b4 [vI (mulV qa qe), vI (mulV qb qf), vI (mulV qc qg), vI (mulV qd qh)] 3, .blk b3 [vI 0, vI 0, vI 0, vI 0] 36, .blk b2 [vI qe, vI qf, vI qg, vI qh] 36, .blk b1 [vI qa, vI qb, vI qc, vI qd] 36]) ?_ (fun H3 => ?_)
   · --
    refine dag_ways [(1, [], 12), (5, [], 12), (13, [], 12)] (by kernel_rfl) (fun _ d _ _ _ h => by cases d <;> exact h) (by kernel_rfl) (by simp) ⟨by kernel_rfl, ?_, by kernel_rfl, ?_, by kernel_rfl, ?_, trivial⟩
    · --
     refine ops_mem (d := some 40) (an := [.v (vI qe)]) (evs := [.load ⟨b2, 0, none⟩ (vI qe)]) (v := vI qe) (M' := Mem w [.blk b4 [vI (mulV qa qe), vI (mulV qb qf), vI (mulV qc qg), vI (mulV qd qh)] 3, .blk b3 [vI 0, vI 0, vI 0, vI 0] 36, .blk b2 [vI qe, vI qf, vI qg, vI qh] 36, .blk b1 [vI qa, vI qb, vI qc, vI qd] 36]) ⟨by kernel_rfl⟩ (fun w_ hM hS => ⟨w_, ⟨hM.cell 2 rfl rfl, rfl⟩, hM, hS⟩) ?_
     refine oR [] [(40, vI qe), (48, vI qg), (51, vP b2 3), (43, vP b2 1), (7, .func (.func 15) #[] #[]), (2, vI T), (6, vP b3 0), (4, vP b2 0), (3, vP b1 0)] [40, 48, 51, 43, 7, 2, 6, 4, 3] (by kernel_rfl) ?_
     refine ops_nil ?_
     exact to_dag H6 (by kernel_rfl) (look_has ⟨rfl, rfl, rfl, rfl, rfl, rfl, rfl, rfl, rfl, trivial⟩) (fun w_ hM => hM)
    · --
     refine ops_mem (d := some 44) (an := [.v (vI qf)]) (evs := [.load ⟨b2, 1, none⟩ (vI qf)]) (v := vI qf) (M' := Mem w [.blk b4 [vI (mulV qa qe), vI (mulV qb qf), vI (mulV qc qg), vI (mulV qd qh)] 3, .blk b3 [vI 0, vI 0, vI 0, vI 0] 36, .blk b2 [vI qe, vI qf, vI qg, vI qh] 36, .blk b1 [vI qa, vI qb, vI qc, vI qd] 36]) ⟨by kernel_rfl⟩ (fun w_ hM hS => ⟨w_, ⟨hM.cell 2 rfl rfl, rfl⟩, hM, hS⟩) ?_
     refine oR [] [(44, vI qf), (48, vI qg), (51, vP b2 3), (39, vP b2 0), (7, .func (.func 15) #[] #[]), (2, vI T), (6, vP b3 0), (4, vP b2 0), (3, vP b1 0)] [44, 48, 51, 39, 7, 2, 6, 4, 3] (by kernel_rfl) ?_
     refine ops_nil ?_
     exact to_dag H8 (by kernel_rfl) (look_has ⟨rfl, rfl, rfl, rfl, rfl, rfl, rfl, rfl, rfl, trivial⟩) (fun w_ hM => hM)
    · --
     refine ops_mem (d := some 52) (an := [.v (vI qh)]) (evs := [.load ⟨b2, 3, none⟩ (vI qh)]) (v := vI qh) (M' := Mem w [.blk b4 [vI (mulV qa qe), vI (mulV qb qf), vI (mulV qc qg), vI (mulV qd qh)] 3, .blk b3 [vI 0, vI 0, vI 0, vI 0] 36, .blk b2 [vI qe, vI qf, vI qg, vI qh] 36, .blk b1 [vI qa, vI qb, vI qc, vI qd] 36]) ⟨by kernel_rfl⟩ (fun w_ hM hS => ⟨w_, ⟨hM.cell 2 rfl rfl, rfl⟩, hM, hS⟩) ?_
     refine oR [] [(52, vI qh), (48, vI qg), (43, vP b2 1), (39, vP b2 0), (7, .func (.func 15) #[] #[]), (2, vI T), (6, vP b3 0), (4, vP b2 0), (3, vP b1 0)] [52, 48, 43, 39, 7, 2, 6, 4, 3] (by kernel_rfl) ?_
     refine ops_nil ?_
     exact to_dag H10 (by kernel_rfl) (look_has ⟨rfl, rfl, rfl, rfl, rfl, rfl, rfl, rfl, rfl, trivial⟩) (fun w_ hM => hM)
   refine dag_have (f := 13) (li := #[true, false, false, false, true, true, false, false, true, false, false, false, true, false, false, false, false, false]) (l := [(44, vI qf), (51, vP b2 3), (47, vP b2 2), (39, vP b2 0), (7, .func (.func 15) #[] #[]), (2, vI T), (6, vP b3 0), (4, vP b2 0), (3, vP b1 0)]) (M := Mem w [.blk b4 [vI (mulV qa qe), vI (mulV qb qf), vI (mulV qc qg), vI (mulV qd qh)] 3, .blk b3 [vI 0, vI 0, vI 0, vI 0] 36, .blk b2 [vI qe, vI qf, vI qg, vI qh] 36, .blk b1 [vI qa, vI qb, vI qc, vI qd] 36]) ?_ (fun H2 => ?_)
   · --
    refine dag_ways [(1, [], 12), (9, [], 12), (13, [], 12)] (by kernel_rfl) (fun _ d _ _ _ h => by cases d <;> exact h) (by kernel_rfl) (by simp) ⟨by kernel_rfl, ?_, by kernel_rfl, ?_, by kernel_rfl, ?_, trivial⟩
    · --
     refine ops_mem (d := some 40) (an := [.v (vI qe)]) (evs := [.load ⟨b2, 0, none⟩ (vI qe)]) (v := vI qe) (M' := Mem w [.blk b4 [vI (mulV qa qe), vI (mulV qb qf), vI (mulV qc qg), vI (mulV qd qh)] 3, .blk b3 [vI 0, vI 0, vI 0, vI 0] 36, .blk b2 [vI qe, vI qf, vI qg, vI qh] 36, .blk b1 [vI qa, vI qb, vI qc, vI qd] 36]) ⟨by kernel_rfl⟩ (fun w_ hM hS => ⟨w_, ⟨hM.cell 2 rfl rfl, rfl⟩, hM, hS⟩) ?_
     refine oR [] [(40, vI qe), (44, vI qf), (51, vP b2 3), (47, vP b2 2), (7, .func (.func 15) #[] #[]), (2, vI T), (6, vP b3 0), (4, vP b2 0), (3, vP b1 0)] [40, 44, 51, 47, 7, 2, 6, 4, 3] (by kernel_rfl) ?_
     refine ops_nil ?_
     exact to_dag H5 (by kernel_rfl) (look_has ⟨rfl, rfl, rfl, rfl, rfl, rfl, rfl, rfl, rfl, trivial⟩) (fun w_ hM => hM)
    · --
     refine ops_mem (d := some 48) (an := [.v (vI qg)]) (evs := [.load ⟨b2, 2, none⟩ (vI qg)]) (v := vI qg) (M' := Mem w [.blk b4 [vI (mulV qa qe), vI (mulV qb qf), vI (mulV qc qg), vI (mulV qd qh)] 3, .blk b3 [vI 0, vI 0, vI 0, vI 0] 36, .blk b2 [vI qe, vI qf, vI qg, vI qh] 36, .blk b1 [vI qa, vI qb, vI qc, vI qd] 36]) ⟨by kernel_rfl⟩ (fun w_ hM hS => ⟨w_, ⟨hM.cell 2 rfl rfl, rfl⟩, hM, hS⟩) ?_
     refine oR [] [(48, vI qg), (44, vI qf), (51, vP b2 3), (39, vP b2 0), (7, .func (.func 15) #[] #[]), (2, vI T), (6, vP b3 0), (4, vP b2 0), (3, vP b1 0)] [48, 44, 51, 39, 7, 2, 6, 4, 3] (by kernel_rfl) ?_
     refine ops_nil ?_
     exact to_dag H8 (by kernel_rfl) (look_has ⟨rfl, rfl, rfl, rfl, rfl, rfl, rfl, rfl, rfl, trivial⟩) (fun w_ hM => hM)
    · --
     refine ops_mem (d := some 52) (an := [.v (vI qh)]) (evs := [.load ⟨b2, 3, none⟩ (vI qh)]) (v := vI qh) (M' := Mem w [.blk b4 [vI (mulV qa qe), vI (mulV qb qf), vI (mulV qc qg), vI (mulV qd qh)] 3, .blk b3 [vI 0, vI 0, vI 0, vI 0] 36, .blk b2 [vI qe, vI qf, vI qg, vI qh] 36, .blk b1 [vI qa, vI qb, vI qc, vI qd] 36]) ⟨by kernel_rfl⟩ (fun w_ hM hS => ⟨w_, ⟨hM.cell 2 rfl rfl, rfl⟩, hM, hS⟩) ?_
     refine oR [] [(52, vI qh), (44, vI qf), (47, vP b2 2), (39, vP b2 0), (7, .func (.func 15) #[] #[]), (2, vI T), (6, vP b3 0), (4, vP b2 0), (3, vP b1 0)] [52, 44, 47, 39, 7, 2, 6, 4, 3] (by kernel_rfl) ?_
     refine ops_nil ?_
     exact to_dag H9 (by kernel_rfl) (look_has ⟨rfl, rfl, rfl, rfl, rfl, rfl, rfl, rfl, rfl, trivial⟩) (fun w_ hM => hM)
   refine dag_have (f := 13) (li := #[true, true, false, false, true, false, false, false, true, false, false, false, true, false, false, false, false, false]) (l := [(40, vI qe), (51, vP b2 3), (47, vP b2 2), (43, vP b2 1), (7, .func (.func 15) #[] #[]), (2, vI T), (6, vP b3 0), (4, vP b2 0), (3, vP b1 0)]) (M := Mem w [.blk b4 [vI (mulV qa qe), vI (mulV qb qf), vI (mulV qc qg), vI (mulV qd qh)] 3, .blk b3 [vI 0, vI 0, vI 0, vI 0] 36, .blk b2 [vI qe, vI qf, vI qg, vI qh] 36, .blk b1 [vI qa, vI qb, vI qc, vI qd] 36]) ?_ (fun H1 => ?_)
   · --
    refine dag_ways [(2, [oT 3], 11), (5, [], 12), (9, [], 12), (13, [], 12)] (by kernel_rfl) (fun _ d _ _ _ h => by cases d <;> exact h) (by kernel_rfl) (by simp) ⟨by kernel_rfl, ?_, by kernel_rfl, ?_, by kernel_rfl, ?_, by kernel_rfl, ?_, trivial⟩
    · --
     refine oCS (some 41) 18 #[vI qe] (vI (clV qe)) ⟨by kernel_rfl⟩ (fun w_ hM => Clamp_v qe w_) ?_
     refine oR [oT 3] [(42, vI (IntKind.i64.wrap (0 - clV qe))), (51, vP b2 3), (47, vP b2 2), (43, vP b2 1), (7, .func (.func 15) #[] #[]), (2, vI T), (6, vP b3 0), (4, vP b2 0), (3, vP b1 0)] [42, 51, 47, 43, 7, 2, 6, 4, 3] (by kernel_rfl) ?_
     refine ops_conv (l' := [(42, vI (0 - clV qe)), (51, vP b2 3), (47, vP b2 2), (43, vP b2 1), (7, .func (.func 15) #[] #[]), (2, vI T), (6, vP b3 0), (4, vP b2 0), (3, vP b1 0)]) (by rw [(neg_cl _)]) (fun _ h => h) ?_
     refine ops_nil ?_
     exact to_dag H11 (by kernel_rfl) (look_has ⟨rfl, rfl, rfl, rfl, rfl, rfl, rfl, rfl, rfl, trivial⟩) (fun w_ hM => hM)
    · --
     refine ops_mem (d := some 44) (an := [.v (vI qf)]) (evs := [.load ⟨b2, 1, none⟩ (vI qf)]) (v := vI qf) (M' := Mem w [.blk b4 [vI (mulV qa qe), vI (mulV qb qf), vI (mulV qc qg), vI (mulV qd qh)] 3, .blk b3 [vI 0, vI 0, vI 0, vI 0] 36, .blk b2 [vI qe, vI qf, vI qg, vI qh] 36, .blk b1 [vI qa, vI qb, vI qc, vI qd] 36]) ⟨by kernel_rfl⟩ (fun w_ hM hS => ⟨w_, ⟨hM.cell 2 rfl rfl, rfl⟩, hM, hS⟩) ?_
     refine oR [] [(44, vI qf), (40, vI qe), (51, vP b2 3), (47, vP b2 2), (7, .func (.func 15) #[] #[]), (2, vI T), (6, vP b3 0), (4, vP b2 0), (3, vP b1 0)] [44, 40, 51, 47, 7, 2, 6, 4, 3] (by kernel_rfl) ?_
     refine ops_nil ?_
     exact to_dag H5 (by kernel_rfl) (look_has ⟨rfl, rfl, rfl, rfl, rfl, rfl, rfl, rfl, rfl, trivial⟩) (fun w_ hM => hM)
    · --
     refine ops_mem (d := some 48) (an := [.v (vI qg)]) (evs := [.load ⟨b2, 2, none⟩ (vI qg)]) (v := vI qg) (M' := Mem w [.blk b4 [vI (mulV qa qe), vI (mulV qb qf), vI (mulV qc qg), vI (mulV qd qh)] 3, .blk b3 [vI 0, vI 0, vI 0, vI 0] 36, .blk b2 [vI qe, vI qf, vI qg, vI qh] 36, .blk b1 [vI qa, vI qb, vI qc, vI qd] 36]) ⟨by kernel_rfl⟩ (fun w_ hM hS => ⟨w_, ⟨hM.cell 2 rfl rfl, rfl⟩, hM, hS⟩) ?_
     refine oR [] [(48, vI qg), (40, vI qe), (51, vP b2 3), (43, vP b2 1), (7, .func (.func 15) #[] #[]), (2, vI T), (6, vP b3 0), (4, vP b2 0), (3, vP b1 0)] [48, 40, 51, 43, 7, 2, 6, 4, 3] (by kernel_rfl) ?_
     refine ops_nil ?_
     exact to_dag H6 (by kernel_rfl) (look_has ⟨rfl, rfl, rfl, rfl, rfl, rfl, rfl, rfl, rfl, trivial⟩) (fun w_ hM => hM)
    · --
     refine ops_mem (d := some 52) (an := [.v (vI qh)]) (evs := [.load ⟨b2, 3, none⟩ (vI qh)]) (v := vI qh) (M' := Mem w [.blk b4 [vI (mulV qa qe), vI (mulV qb qf), vI (mulV qc qg), vI (mulV qd qh)] 3, .blk b3 [vI 0, vI 0, vI 0, vI 0] 36, .blk b2 [vI qe, vI qf, vI qg, vI qh] 36, .blk b1 [vI qa, vI qb, vI qc, vI qd] 36]) ⟨by kernel_rfl⟩ (fun w_ hM hS => ⟨w_, ⟨hM.cell 2 rfl rfl, rfl⟩, hM, hS⟩) ?_
     refine oR [] [(52, vI qh), (40, vI qe), (47, vP b2 2), (43, vP b2 1), (7, .func (.func 15) #[] #[]), (2, vI T), (6, vP b3 0), (4, vP b2 0), (3, vP b1 0)] [52, 40, 47, 43, 7, 2, 6, 4, 3] (by kernel_rfl) ?_
     refine ops_nil ?_
     exact to_dag H7 (by kernel_rfl) (look_has ⟨rfl, rfl, rfl, rfl, rfl, rfl, rfl, rfl, rfl, trivial⟩) (fun w_ hM => hM)
   refine dag_have (f := 14) (li := #[true, false, false, false, true, false, false, false, true, false, false, false, true, false, false, false, false, false]) (l := [(51, vP b2 3), (47, vP b2 2), (43, vP b2 1), (39, vP b2 0), (7, .func (.func 15) #[] #[]), (2, vI T), (6, vP b3 0), (4, vP b2 0), (3, vP b1 0)]) (M := Mem w [.blk b4 [vI (mulV qa qe), vI (mulV qb qf), vI (mulV qc qg), vI (mulV qd qh)] 3, .blk b3 [vI 0, vI 0, vI 0, vI 0] 36, .blk b2 [vI qe, vI qf, vI qg, vI qh] 36, .blk b1 [vI qa, vI qb, vI qc, vI qd] 36]) ?_ (fun H0 => ?_)
   · --
    refine dag_ways [(1, [], 13), (5, [], 13), (9, [], 13), (13, [], 13)] (by kernel_rfl) (fun _ d _ _ _ h => by cases d <;> exact h) (by kernel_rfl) (by simp) ⟨by kernel_rfl, ?_, by kernel_rfl, ?_, by kernel_rfl, ?_, by kernel_rfl, ?_, trivial⟩
    · --
     refine ops_mem (d := some 40) (an := [.v (vI qe)]) (evs := [.load ⟨b2, 0, none⟩ (vI qe)]) (v := vI qe) (M' := Mem w [.blk b4 [vI (mulV qa qe), vI (mulV qb qf), vI (mulV qc qg), vI (mulV qd qh)] 3, .blk b3 [vI 0, vI 0, vI 0, vI 0] 36, .blk b2 [vI qe, vI qf, vI qg, vI qh] 36, .blk b1 [vI qa, vI qb, vI qc, vI qd] 36]) ⟨by kernel_rfl⟩ (fun w_ hM hS => ⟨w_, ⟨hM.cell 2 rfl rfl, rfl⟩, hM, hS⟩) ?_
     refine oR [] [(40, vI qe), (51, vP b2 3), (47, vP b2 2), (43, vP b2 1), (7, .func (.func 15) #[] #[]), (2, vI T), (6, vP b3 0), (4, vP b2 0), (3, vP b1 0)] [40, 51, 47, 43, 7, 2, 6, 4, 3] (by kernel_rfl) ?_
     refine ops_nil ?_
     exact to_dag H1 (by kernel_rfl) (look_has ⟨rfl, rfl, rfl, rfl, rfl, rfl, rfl, rfl, rfl, trivial⟩) (fun w_ hM => hM)
    · --
     refine ops_mem (d := some 44) (an := [.v (vI qf)]) (evs := [.load ⟨b2, 1, none⟩ (vI qf)]) (v := vI qf) (M' := Mem w [.blk b4 [vI (mulV qa qe), vI (mulV qb qf), vI (mulV qc qg), vI (mulV qd qh)] 3, .blk b3 [vI 0, vI 0, vI 0, vI 0] 36, .blk b2 [vI qe, vI qf, vI qg, vI qh] 36, .blk b1 [vI qa, vI qb, vI qc, vI qd] 36]) ⟨by kernel_rfl⟩ (fun w_ hM hS => ⟨w_, ⟨hM.cell 2 rfl rfl, rfl⟩, hM, hS⟩) ?_
     refine oR [] [(44, vI qf), (51, vP b2 3), (47, vP b2 2), (39, vP b2 0), (7, .func (.func 15) #[] #[]), (2, vI T), (6, vP b3 0), (4, vP b2 0), (3, vP b1 0)] [44, 51, 47, 39, 7, 2, 6, 4, 3] (by kernel_rfl) ?_
     refine ops_nil ?_
     exact to_dag H2 (by kernel_rfl) (look_has ⟨rfl, rfl, rfl, rfl, rfl, rfl, rfl, rfl, rfl, trivial⟩) (fun w_ hM => hM)
    · --
     refine ops_mem (d := some 48) (an := [.v (vI qg)]) (evs := [.load ⟨b2, 2, none⟩ (vI qg)]) (v := vI qg) (M' := Mem w [.blk b4 [vI (mulV qa qe), vI (mulV qb qf), vI (mulV qc qg), vI (mulV qd qh)] 3, .blk b3 [vI 0, vI 0, vI 0, vI 0] 36, .blk b2 [vI qe, vI qf, vI qg, vI qh] 36, .blk b1 [vI qa, vI qb, vI qc, vI qd] 36]) ⟨by kernel_rfl⟩ (fun w_ hM hS => ⟨w_, ⟨hM.cell 2 rfl rfl, rfl⟩, hM, hS⟩) ?_
     refine oR [] [(48, vI qg), (51, vP b2 3), (43, vP b2 1), (39, vP b2 0), (7, .func (.func 15) #[] #[]), (2, vI T), (6, vP b3 0), (4, vP b2 0), (3, vP b1 0)] [48, 51, 43, 39, 7, 2, 6, 4, 3] (by kernel_rfl) ?_
     refine ops_nil ?_
     exact to_dag H3 (by kernel_rfl) (look_has ⟨rfl, rfl, rfl, rfl, rfl, rfl, rfl, rfl, rfl, trivial⟩) (fun w_ hM => hM)
    · --
     refine ops_mem (d := some 52) (an := [.v (vI qh)]) (evs := [.load ⟨b2, 3, none⟩ (vI qh)]) (v := vI qh) (M' := Mem w [.blk b4 [vI (mulV qa qe), vI (mulV qb qf), vI (mulV qc qg), vI (mulV qd qh)] 3, .blk b3 [vI 0, vI 0, vI 0, vI 0] 36, .blk b2 [vI qe, vI qf, vI qg, vI qh] 36, .blk b1 [vI qa, vI qb, vI qc, vI qd] 36]) ⟨by kernel_rfl⟩ (fun w_ hM hS => ⟨w_, ⟨hM.cell 2 rfl rfl, rfl⟩, hM, hS⟩) ?_
     refine oR [] [(52, vI qh), (47, vP b2 2), (43, vP b2 1), (39, vP b2 0), (7, .func (.func 15) #[] #[]), (2, vI T), (6, vP b3 0), (4, vP b2 0), (3, vP b1 0)] [52, 47, 43, 39, 7, 2, 6, 4, 3] (by kernel_rfl) ?_
     refine ops_nil ?_
     exact to_dag H4 (by kernel_rfl) (look_has ⟨rfl, rfl, rfl, rfl, rfl, rfl, rfl, rfl, rfl, trivial⟩) (fun w_ hM => hM)
   refine dag_takes [oT 0, oT 4, oT 8, oT 12] (f := 14) (by kernel_rfl) (fun _ d _ _ _ h => by cases d <;> exact h) (by kernel_rfl) ?_
   refine oR [oT 0, oT 4, oT 8, oT 12] [(51, vP b2 3), (47, vP b2 2), (43, vP b2 1), (39, vP b2 0), (7, .func (.func 15) #[] #[]), (2, vI T), (6, vP b3 0), (4, vP b2 0), (3, vP b1 0)] [51, 47, 43, 39, 7, 2, 6, 4, 3] (by kernel_rfl) ?_
   refine ops_nil ?_
   exact to_dag H0 (by kernel_rfl) (look_has ⟨rfl, rfl, rfl, rfl, rfl, rfl, rfl, rfl, rfl, trivial⟩) (fun w_ hM => hM)
  · --
   refine st_skip ?_
   refine fin_conv (l' := [(38, .bool (decide (dt < 0))), (7, .func (.func 15) #[] #[]), (2, vI T), (6, vP b3 0), (4, vP b2 0), (3, vP b1 0)]) (M' := Mem w [.blk b3 [vI 0, vI 0, vI 0, vI 0] 36, .blk b2 [vI qe, vI qf, vI qg, vI qh] 36, .blk b1 [vI qa, vI qb, vI qc, vI qd] 36]) rfl (fun w_ hM => hM.sub (.cons _ (.cons_cons _ (.cons_cons _ (.cons_cons _ .slnil))))) ?_
   obtain ⟨e1, e2, e3, e4⟩ := hp (of_decide_eq_false hc5)
   refine fin_conv (l' := [(38, .bool (decide (dt < 0))), (7, .func (.func 15) #[] #[]), (2, vI T), (6, vP b3 0), (4, vP b2 0), (3, vP b1 0)]) (M' := Mem w [.blk b3 [vI 0, vI 0, vI 0, vI 0] 36, .blk b2 [vI ea, vI eb, vI ec, vI ed] 36, .blk b1 [vI qa, vI qb, vI qc, vI qd] 36]) (by rfl) (fun w_ hM => by rw [e1, e2, e3, e4]; exact hM) ?_
   exact fin_cut () (look_has ⟨rfl, rfl, rfl, rfl, rfl, trivial⟩) (fun w_ hM => hM)
 · --
  intro _
  refine st_seq ?_
  refine st_region [oF 0, oF 1, oF 2] (by rfl) ?_
  refine oR [oF 0, oF 1] [(57, vI (IntKind.i64.wrap (65536 - T))), (7, .func (.func 15) #[] #[]), (2, vI T), (6, vP b3 0), (4, vP b2 0), (3, vP b1 0)] [57, 7, 2, 6, 4, 3] (by kernel_rfl) ?_
  refine ops_conv (l' := [(57, vI Z), (7, .func (.func 15) #[] #[]), (2, vI T), (6, vP b3 0), (4, vP b2 0), (3, vP b1 0)]) (by rw [hZw]) (fun _ h => h) ?_
  refine oR [oF 2] [(8, vI Z), (7, .func (.func 15) #[] #[]), (2, vI T), (6, vP b3 0), (4, vP b2 0), (3, vP b1 0)] [8, 7, 2, 6, 4, 3] (by kernel_rfl) ?_
  refine ops_nil ?_
  refine fin_then ?_
  refine st_seq ?_
  refine st_region_fast QBlend0_t1 [oT 0, oT 1, oT 2, oT 3, oT 5, oT 6, oT 7, oT 8, oT 11, oT 12, oT 13, oT 14, oT 16, oT 17, oT 18, oT 19, oT 22, oT 23, oT 24, oT 25, oT 27, oT 28, oT 29, oT 30, oT 33, oT 34, oT 35, oT 36, oT 38, oT 39, oT 40, oT 41, oF 4, oF 9, oF 10, oF 15, oF 20, oF 21, oF 26, oF 31, oF 32, oF 37, oF 42, oF 43, oT 44, oF 45, oF 46] (Mem w [.blk b2 [vI ea, vI eb, vI ec, vI ed] 36, .blk b1 [vI qa, vI qb, vI qc, vI qd] 36]) (by kernel_rfl) (by kernel_rfl) (by kernel_rfl) (by kernel_rfl) (by kernel_rfl) (fun _ d _ _ _ h => by cases d <;> exact h) (M' := Mem w [.blk b3 [vI 0, vI 0, vI 0, vI 0] 36, .blk b2 [vI ea, vI eb, vI ec, vI ed] 36, .blk b1 [vI qa, vI qb, vI qc, vI qd] 36]) (fun w_ hM => ⟨hM.drew, hM.drew.sub (.cons _ (.cons_cons _ (.cons_cons _ .slnil)))⟩) ?_
  refine oR [oT 0, oT 1] [(59, vP b1 0), (58, .func (.func 15) #[] #[]), (8, vI Z), (7, .func (.func 15) #[] #[]), (2, vI T), (6, vP b3 0), (4, vP b2 0), (3, vP b1 0)] [59, 58, 8, 7, 2, 6, 4, 3] (by kernel_rfl) ?_
  refine ops_load (d := some 60) (an := [.v (vI qa)]) (evs := [.load ⟨b1, 0, none⟩ (vI qa)]) (v := vI qa) ⟨by kernel_rfl⟩ (fun w_ hM => ⟨hM.cell 1 rfl rfl, rfl⟩) ?_
  refine oR [oT 3, oT 5, oT 6] [(64, vP b2 0), (63, .func (.func 15) #[] #[]), (61, vI Z), (60, vI qa), (58, .func (.func 15) #[] #[]), (8, vI Z), (7, .func (.func 15) #[] #[]), (2, vI T), (6, vP b3 0), (4, vP b2 0), (3, vP b1 0)] [64, 63, 61, 60, 58, 8, 7, 2, 6, 4, 3] (by kernel_rfl) ?_
  refine ops_load (d := some 65) (an := [.v (vI ea)]) (evs := [.load ⟨b2, 0, none⟩ (vI ea)]) (v := vI ea) ⟨by kernel_rfl⟩ (fun w_ hM => ⟨hM.cell 0 rfl rfl, rfl⟩) ?_
  refine oR [oT 8, oT 11, oT 12] [(70, vP b1 1), (69, .func (.func 15) #[] #[]), (66, vI T), (65, vI ea), (63, .func (.func 15) #[] #[]), (61, vI Z), (60, vI qa), (58, .func (.func 15) #[] #[]), (8, vI Z), (7, .func (.func 15) #[] #[]), (2, vI T), (6, vP b3 0), (4, vP b2 0), (3, vP b1 0)] [70, 69, 66, 65, 63, 61, 60, 58, 8, 7, 2, 6, 4, 3] (by kernel_rfl) ?_
  refine ops_load (d := some 71) (an := [.v (vI qb)]) (evs := [.load ⟨b1, 1, none⟩ (vI qb)]) (v := vI qb) ⟨by kernel_rfl⟩ (fun w_ hM => ⟨hM.cell 1 rfl rfl, rfl⟩) ?_
  refine oR [oT 14, oT 16, oT 17] [(75, vP b2 1), (74, .func (.func 15) #[] #[]), (72, vI Z), (71, vI qb), (69, .func (.func 15) #[] #[]), (66, vI T), (65, vI ea), (63, .func (.func 15) #[] #[]), (61, vI Z), (60, vI qa), (58, .func (.func 15) #[] #[]), (8, vI Z), (7, .func (.func 15) #[] #[]), (2, vI T), (6, vP b3 0), (4, vP b2 0), (3, vP b1 0)] [75, 74, 72, 71, 69, 66, 65, 63, 61, 60, 58, 8, 7, 2, 6, 4, 3] (by kernel_rfl) ?_
  refine ops_load (d := some 76) (an := [.v (vI eb)]) (evs := [.load ⟨b2, 1, none⟩ (vI eb)]) (v := vI eb) ⟨by kernel_rfl⟩ (fun w_ hM => ⟨hM.cell 0 rfl rfl, rfl⟩) ?_
  refine oR [oT 19, oT 22, oT 23] [(81, vP b1 2), (80, .func (.func 15) #[] #[]), (77, vI T), (76, vI eb), (74, .func (.func 15) #[] #[]), (72, vI Z), (71, vI qb), (69, .func (.func 15) #[] #[]), (66, vI T), (65, vI ea), (63, .func (.func 15) #[] #[]), (61, vI Z), (60, vI qa), (58, .func (.func 15) #[] #[]), (8, vI Z), (7, .func (.func 15) #[] #[]), (2, vI T), (6, vP b3 0), (4, vP b2 0), (3, vP b1 0)] [81, 80, 77, 76, 74, 72, 71, 69, 66, 65, 63, 61, 60, 58, 8, 7, 2, 6, 4, 3] (by kernel_rfl) ?_
  refine ops_load (d := some 82) (an := [.v (vI qc)]) (evs := [.load ⟨b1, 2, none⟩ (vI qc)]) (v := vI qc) ⟨by kernel_rfl⟩ (fun w_ hM => ⟨hM.cell 1 rfl rfl, rfl⟩) ?_
  refine oR [oT 25, oT 27, oT 28] [(86, vP b2 2), (85, .func (.func 15) #[] #[]), (83, vI Z), (82, vI qc), (80, .func (.func 15) #[] #[]), (77, vI T), (76, vI eb), (74, .func (.func 15) #[] #[]), (72, vI Z), (71, vI qb), (69, .func (.func 15) #[] #[]), (66, vI T), (65, vI ea), (63, .func (.func 15) #[] #[]), (61, vI Z), (60, vI qa), (58, .func (.func 15) #[] #[]), (8, vI Z), (7, .func (.func 15) #[] #[]), (2, vI T), (6, vP b3 0), (4, vP b2 0), (3, vP b1 0)] [86, 85, 83, 82, 80, 77, 76, 74, 72, 71, 69, 66, 65, 63, 61, 60, 58, 8, 7, 2, 6, 4, 3] (by kernel_rfl) ?_
  refine ops_load (d := some 87) (an := [.v (vI ec)]) (evs := [.load ⟨b2, 2, none⟩ (vI ec)]) (v := vI ec) ⟨by kernel_rfl⟩ (fun w_ hM => ⟨hM.cell 0 rfl rfl, rfl⟩) ?_
  refine oR [oT 30, oT 33, oT 34] [(92, vP b1 3), (91, .func (.func 15) #[] #[]), (88, vI T), (87, vI ec), (85, .func (.func 15) #[] #[]), (83, vI Z), (82, vI qc), (80, .func (.func 15) #[] #[]), (77, vI T), (76, vI eb), (74, .func (.func 15) #[] #[]), (72, vI Z), (71, vI qb), (69, .func (.func 15) #[] #[]), (66, vI T), (65, vI ea), (63, .func (.func 15) #[] #[]), (61, vI Z), (60, vI qa), (58, .func (.func 15) #[] #[]), (8, vI Z), (7, .func (.func 15) #[] #[]), (2, vI T), (6, vP b3 0), (4, vP b2 0)] [92, 91, 88, 87, 85, 83, 82, 80, 77, 76, 74, 72, 71, 69, 66, 65, 63, 61, 60, 58, 8, 7, 2, 6, 4] (by kernel_rfl) ?_
  refine ops_load (d := some 93) (an := [.v (vI qd)]) (evs := [.load ⟨b1, 3, none⟩ (vI qd)]) (v := vI qd) ⟨by kernel_rfl⟩ (fun w_ hM => ⟨hM.cell 1 rfl rfl, rfl⟩) ?_
  refine oR [oT 36, oT 38, oT 39] [(97, vP b2 3), (96, .func (.func 15) #[] #[]), (94, vI Z), (93, vI qd), (91, .func (.func 15) #[] #[]), (88, vI T), (87, vI ec), (85, .func (.func 15) #[] #[]), (83, vI Z), (82, vI qc), (80, .func (.func 15) #[] #[]), (77, vI T), (76, vI eb), (74, .func (.func 15) #[] #[]), (72, vI Z), (71, vI qb), (69, .func (.func 15) #[] #[]), (66, vI T), (65, vI ea), (63, .func (.func 15) #[] #[]), (61, vI Z), (60, vI qa), (58, .func (.func 15) #[] #[]), (2, vI T), (6, vP b3 0)] [97, 96, 94, 93, 91, 88, 87, 85, 83, 82, 80, 77, 76, 74, 72, 71, 69, 66, 65, 63, 61, 60, 58, 2, 6] (by kernel_rfl) ?_
  refine ops_load (d := some 98) (an := [.v (vI ed)]) (evs := [.load ⟨b2, 3, none⟩ (vI ed)]) (v := vI ed) ⟨by kernel_rfl⟩ (fun w_ hM => ⟨hM.cell 0 rfl rfl, rfl⟩) ?_
  refine oR [oT 41] [(99, vI T), (98, vI ed), (96, .func (.func 15) #[] #[]), (94, vI Z), (93, vI qd), (91, .func (.func 15) #[] #[]), (88, vI T), (87, vI ec), (85, .func (.func 15) #[] #[]), (83, vI Z), (82, vI qc), (80, .func (.func 15) #[] #[]), (77, vI T), (76, vI eb), (74, .func (.func 15) #[] #[]), (72, vI Z), (71, vI qb), (69, .func (.func 15) #[] #[]), (66, vI T), (65, vI ea), (63, .func (.func 15) #[] #[]), (61, vI Z), (60, vI qa), (58, .func (.func 15) #[] #[]), (6, vP b3 0)] [99, 98, 96, 94, 93, 91, 88, 87, 85, 83, 82, 80, 77, 76, 74, 72, 71, 69, 66, 65, 63, 61, 60, 58, 6] (by kernel_rfl) ?_
  refine oCS (some 62) 15 #[vI qa, vI Z] (vI (mulV qa Z)) ⟨by kernel_rfl⟩ (fun w_ hM => Mul_v qa Z w_) ?_
  refine oR [] [(62, vI (mulV qa Z)), (99, vI T), (98, vI ed), (96, .func (.func 15) #[] #[]), (94, vI Z), (93, vI qd), (91, .func (.func 15) #[] #[]), (88, vI T), (87, vI ec), (85, .func (.func 15) #[] #[]), (83, vI Z), (82, vI qc), (80, .func (.func 15) #[] #[]), (77, vI T), (76, vI eb), (74, .func (.func 15) #[] #[]), (72, vI Z), (71, vI qb), (69, .func (.func 15) #[] #[]), (66, vI T), (65, vI ea), (63, .func (.func 15) #[] #[]), (6, vP b3 0)] [62, 99, 98, 96, 94, 93, 91, 88, 87, 85, 83, 82, 80, 77, 76, 74, 72, 71, 69, 66, 65, 63, 6] (by kernel_rfl) ?_
  refine oCS (some 67) 15 #[vI ea, vI T] (vI (mulV ea T)) ⟨by kernel_rfl⟩ (fun w_ hM => Mul_v ea T w_) ?_
  refine oR [] [(67, vI (mulV ea T)), (62, vI (mulV qa Z)), (99, vI T), (98, vI ed), (96, .func (.func 15) #[] #[]), (94, vI Z), (93, vI qd), (91, .func (.func 15) #[] #[]), (88, vI T), (87, vI ec), (85, .func (.func 15) #[] #[]), (83, vI Z), (82, vI qc), (80, .func (.func 15) #[] #[]), (77, vI T), (76, vI eb), (74, .func (.func 15) #[] #[]), (72, vI Z), (71, vI qb), (69, .func (.func 15) #[] #[]), (6, vP b3 0)] [67, 62, 99, 98, 96, 94, 93, 91, 88, 87, 85, 83, 82, 80, 77, 76, 74, 72, 71, 69, 6] (by kernel_rfl) ?_
  refine oCS (some 68) 20 #[vI (mulV qa Z), vI (mulV ea T)] (vI (addV (mulV qa Z) (mulV ea T))) ⟨by kernel_rfl⟩ (fun w_ hM => Add_v (mulV qa Z) (mulV ea T) w_) ?_
  refine oR [] [(68, vI (addV (mulV qa Z) (mulV ea T))), (99, vI T), (98, vI ed), (96, .func (.func 15) #[] #[]), (94, vI Z), (93, vI qd), (91, .func (.func 15) #[] #[]), (88, vI T), (87, vI ec), (85, .func (.func 15) #[] #[]), (83, vI Z), (82, vI qc), (80, .func (.func 15) #[] #[]), (77, vI T), (76, vI eb), (74, .func (.func 15) #[] #[]), (72, vI Z), (71, vI qb), (69, .func (.func 15) #[] #[]), (6, vP b3 0)] [68, 99, 98, 96, 94, 93, 91, 88, 87, 85, 83, 82, 80, 77, 76, 74, 72, 71, 69, 6] (by kernel_rfl) ?_
  refine oCS (some 73) 15 #[vI qb, vI Z] (vI (mulV qb Z)) ⟨by kernel_rfl⟩ (fun w_ hM => Mul_v qb Z w_) ?_
  refine oR [] [(73, vI (mulV qb Z)), (68, vI (addV (mulV qa Z) (mulV ea T))), (99, vI T), (98, vI ed), (96, .func (.func 15) #[] #[]), (94, vI Z), (93, vI qd), (91, .func (.func 15) #[] #[]), (88, vI T), (87, vI ec), (85, .func (.func 15) #[] #[]), (83, vI Z), (82, vI qc), (80, .func (.func 15) #[] #[]), (77, vI T), (76, vI eb), (74, .func (.func 15) #[] #[]), (6, vP b3 0)] [73, 68, 99, 98, 96, 94, 93, 91, 88, 87, 85, 83, 82, 80, 77, 76, 74, 6] (by kernel_rfl) ?_
  refine oCS (some 78) 15 #[vI eb, vI T] (vI (mulV eb T)) ⟨by kernel_rfl⟩ (fun w_ hM => Mul_v eb T w_) ?_
  refine oR [] [(78, vI (mulV eb T)), (73, vI (mulV qb Z)), (68, vI (addV (mulV qa Z) (mulV ea T))), (99, vI T), (98, vI ed), (96, .func (.func 15) #[] #[]), (94, vI Z), (93, vI qd), (91, .func (.func 15) #[] #[]), (88, vI T), (87, vI ec), (85, .func (.func 15) #[] #[]), (83, vI Z), (82, vI qc), (80, .func (.func 15) #[] #[]), (6, vP b3 0)] [78, 73, 68, 99, 98, 96, 94, 93, 91, 88, 87, 85, 83, 82, 80, 6] (by kernel_rfl) ?_
  refine oCS (some 79) 20 #[vI (mulV qb Z), vI (mulV eb T)] (vI (addV (mulV qb Z) (mulV eb T))) ⟨by kernel_rfl⟩ (fun w_ hM => Add_v (mulV qb Z) (mulV eb T) w_) ?_
  refine oR [] [(79, vI (addV (mulV qb Z) (mulV eb T))), (68, vI (addV (mulV qa Z) (mulV ea T))), (99, vI T), (98, vI ed), (96, .func (.func 15) #[] #[]), (94, vI Z), (93, vI qd), (91, .func (.func 15) #[] #[]), (88, vI T), (87, vI ec), (85, .func (.func 15) #[] #[]), (83, vI Z), (82, vI qc), (80, .func (.func 15) #[] #[]), (6, vP b3 0)] [79, 68, 99, 98, 96, 94, 93, 91, 88, 87, 85, 83, 82, 80, 6] (by kernel_rfl) ?_
  refine oCS (some 84) 15 #[vI qc, vI Z] (vI (mulV qc Z)) ⟨by kernel_rfl⟩ (fun w_ hM => Mul_v qc Z w_) ?_
  refine oR [] [(84, vI (mulV qc Z)), (79, vI (addV (mulV qb Z) (mulV eb T))), (68, vI (addV (mulV qa Z) (mulV ea T))), (99, vI T), (98, vI ed), (96, .func (.func 15) #[] #[]), (94, vI Z), (93, vI qd), (91, .func (.func 15) #[] #[]), (88, vI T), (87, vI ec), (85, .func (.func 15) #[] #[]), (6, vP b3 0)] [84, 79, 68, 99, 98, 96, 94, 93, 91, 88, 87, 85, 6] (by kernel_rfl) ?_
  refine oCS (some 89) 15 #[vI ec, vI T] (vI (mulV ec T)) ⟨by kernel_rfl⟩ (fun w_ hM => Mul_v ec T w_) ?_
  refine oR [] [(89, vI (mulV ec T)), (84, vI (mulV qc Z)), (79, vI (addV (mulV qb Z) (mulV eb T))), (68, vI (addV (mulV qa Z) (mulV ea T))), (99, vI T), (98, vI ed), (96, .func (.func 15) #[] #[]), (94, vI Z), (93, vI qd), (91, .func (.func 15) #[] #[]), (6, vP b3 0)] [89, 84, 79, 68, 99, 98, 96, 94, 93, 91, 6] (by kernel_rfl) ?_
  refine oCS (some 90) 20 #[vI (mulV qc Z), vI (mulV ec T)] (vI (addV (mulV qc Z) (mulV ec T))) ⟨by kernel_rfl⟩ (fun w_ hM => Add_v (mulV qc Z) (mulV ec T) w_) ?_
  refine oR [] [(90, vI (addV (mulV qc Z) (mulV ec T))), (79, vI (addV (mulV qb Z) (mulV eb T))), (68, vI (addV (mulV qa Z) (mulV ea T))), (99, vI T), (98, vI ed), (96, .func (.func 15) #[] #[]), (94, vI Z), (93, vI qd), (91, .func (.func 15) #[] #[]), (6, vP b3 0)] [90, 79, 68, 99, 98, 96, 94, 93, 91, 6] (by kernel_rfl) ?_
  refine oCS (some 95) 15 #[vI qd, vI Z] (vI (mulV qd Z)) ⟨by kernel_rfl⟩ (fun w_ hM => Mul_v qd Z w_) ?_
  refine oR [] [(95, vI (mulV qd Z)), (90, vI (addV (mulV qc Z) (mulV ec T))), (79, vI (addV (mulV qb Z) (mulV eb T))), (68, vI (addV (mulV qa Z) (mulV ea T))), (99, vI T), (98, vI ed), (96, .func (.func 15) #[] #[]), (6, vP b3 0)] [95, 90, 79, 68, 99, 98, 96, 6] (by kernel_rfl) ?_
  refine oCS (some 100) 15 #[vI ed, vI T] (vI (mulV ed T)) ⟨by kernel_rfl⟩ (fun w_ hM => Mul_v ed T w_) ?_
  refine oR [] [(100, vI (mulV ed T)), (95, vI (mulV qd Z)), (90, vI (addV (mulV qc Z) (mulV ec T))), (79, vI (addV (mulV qb Z) (mulV eb T))), (68, vI (addV (mulV qa Z) (mulV ea T))), (6, vP b3 0)] [100, 95, 90, 79, 68, 6] (by kernel_rfl) ?_
  refine oCS (some 101) 20 #[vI (mulV qd Z), vI (mulV ed T)] (vI (addV (mulV qd Z) (mulV ed T))) ⟨by kernel_rfl⟩ (fun w_ hM => Add_v (mulV qd Z) (mulV ed T) w_) ?_
  refine oR [oT 44] [(102, .agg #[vI (addV (mulV qa Z) (mulV ea T)), vI (addV (mulV qb Z) (mulV eb T)), vI (addV (mulV qc Z) (mulV ec T)), vI (addV (mulV qd Z) (mulV ed T))]), (6, vP b3 0)] [102, 6] (by kernel_rfl) ?_
  refine oCS (some 103) 37 #[.agg #[vI (addV (mulV qa Z) (mulV ea T)), vI (addV (mulV qb Z) (mulV eb T)), vI (addV (mulV qc Z) (mulV ec T)), vI (addV (mulV qd Z) (mulV ed T))]] (.agg #[vI (unitV [addV (mulV qa Z) (mulV ea T), addV (mulV qb Z) (mulV eb T), addV (mulV qc Z) (mulV ec T), addV (mulV qd Z) (mulV ed T)] 0), vI (unitV [addV (mulV qa Z) (mulV ea T), addV (mulV qb Z) (mulV eb T), addV (mulV qc Z) (mulV ec T), addV (mulV qd Z) (mulV ed T)] 1), vI (unitV [addV (mulV qa Z) (mulV ea T), addV (mulV qb Z) (mulV eb T), addV (mulV qc Z) (mulV ec T), addV (mulV qd Z) (mulV ed T)] 2), vI (unitV [addV (mulV qa Z) (mulV ea T), addV (mulV qb Z) (mulV eb T), addV (mulV qc Z) (mulV ec T), addV (mulV qd Z) (mulV ed T)] 3)]) ⟨by kernel_rfl⟩ (fun w_ hM => QUnit_calls (addV (mulV qa Z) (mulV ea T)) (addV (mulV qb Z) (mulV eb T)) (addV (mulV qc Z) (mulV ec T)) (addV (mulV qd Z) (mulV ed T)) w_) ?_
  refine oR [] [(103, .agg #[vI (unitV [addV (mulV qa Z) (mulV ea T), addV (mulV qb Z) (mulV eb T), addV (mulV qc Z) (mulV ec T), addV (mulV qd Z) (mulV ed T)] 0), vI (unitV [addV (mulV qa Z) (mulV ea T), addV (mulV qb Z) (mulV eb T), addV (mulV qc Z) (mulV ec T), addV (mulV qd Z) (mulV ed T)] 1), vI (unitV [addV (mulV qa Z) (mulV ea T), addV (mulV qb Z) (mulV eb T), addV (mulV qc Z) (mulV ec T), addV (mulV qd Z) (mulV ed T)] 2), vI (unitV [addV (mulV qa Z) (mulV ea T), addV (mulV qb Z) (mulV eb T), addV (mulV qc Z) (mulV ec T), addV (mulV qd Z) (mulV ed T)] 3)]), (6, vP b3 0)] [103, 6] (by kernel_rfl) ?_
  refine ops_store (an := []) (evs := [.store ⟨b3, 0, none⟩ (vI (unitV [addV (mulV qa Z) (mulV ea T), addV (mulV qb Z) (mulV eb T), addV (mulV qc Z) (mulV ec T), addV (mulV qd Z) (mulV ed T)] 0)), .store ⟨b3, 1, none⟩ (vI (unitV [addV (mulV qa Z) (mulV ea T), addV (mulV qb Z) (mulV eb T), addV (mulV qc Z) (mulV ec T), addV (mulV qd Z) (mulV ed T)] 1)), .store ⟨b3, 2, none⟩ (vI (unitV [addV (mulV qa Z) (mulV ea T), addV (mulV qb Z) (mulV eb T), addV (mulV qc Z) (mulV ec T), addV (mulV qd Z) (mulV ed T)] 2)), .store ⟨b3, 3, none⟩ (vI (unitV [addV (mulV qa Z) (mulV ea T), addV (mulV qb Z) (mulV eb T), addV (mulV qc Z) (mulV ec T), addV (mulV qd Z) (mulV ed T)] 3))]) (M' := Mem w [.blk b3 [vI (unitV [addV (mulV qa Z) (mulV ea T), addV (mulV qb Z) (mulV eb T), addV (mulV qc Z) (mulV ec T), addV (mulV qd Z) (mulV ed T)] 0), vI (unitV [addV (mulV qa Z) (mulV ea T), addV (mulV qb Z) (mulV eb T), addV (mulV qc Z) (mulV ec T), addV (mulV qd Z) (mulV ed T)] 1), vI (unitV [addV (mulV qa Z) (mulV ea T), addV (mulV qb Z) (mulV eb T), addV (mulV qc Z) (mulV ec T), addV (mulV qd Z) (mulV ed T)] 2), vI (unitV [addV (mulV qa Z) (mulV ea T), addV (mulV qb Z) (mulV eb T), addV (mulV qc Z) (mulV ec T), addV (mulV qd Z) (mulV ed T)] 3)] 36, .blk b2 [vI ea, vI eb, vI ec, vI ed] 36, .blk b1 [vI qa, vI qb, vI qc, vI qd] 36]) ⟨by kernel_rfl⟩ (fun w_ hM hS => let ⟨w', he, h'⟩ := hM.evs_stores [vI (unitV [addV (mulV qa Z) (mulV ea T), addV (mulV qb Z) (mulV eb T), addV (mulV qc Z) (mulV ec T), addV (mulV qd Z) (mulV ed T)] 0), vI (unitV [addV (mulV qa Z) (mulV ea T), addV (mulV qb Z) (mulV eb T), addV (mulV qc Z) (mulV ec T), addV (mulV qd Z) (mulV ed T)] 1), vI (unitV [addV (mulV qa Z) (mulV ea T), addV (mulV qb Z) (mulV eb T), addV (mulV qc Z) (mulV ec T), addV (mulV qd Z) (mulV ed T)] 2), vI (unitV [addV (mulV qa Z) (mulV ea T), addV (mulV qb Z) (mulV eb T), addV (mulV qc Z) (mulV ec T), addV (mulV qd Z) (mulV ed T)] 3)] 0 rfl 0 (Nat.le_of_ble_eq_true rfl); ⟨w', he, h', (by exact h'.sub (.cons _ (.cons_cons _ (.cons_cons _ .slnil))))⟩) ?_
  refine oR [] [(6, vP b3 0)] [6] (by kernel_rfl) ?_
  refine ops_nil ?_
  refine fin_then ?_
  refine st_ret ?_
  refine fin_ret [.cell 6 36] [.agg #[vI (unitV [addV (mulV qa Z) (mulV ea T), addV (mulV qb Z) (mulV eb T), addV (mulV qc Z) (mulV ec T), addV (mulV qd Z) (mulV ed T)] 0), vI (unitV [addV (mulV qa Z) (mulV ea T), addV (mulV qb Z) (mulV eb T), addV (mulV qc Z) (mulV ec T), addV (mulV qd Z) (mulV ed T)] 1), vI (unitV [addV (mulV qa Z) (mulV ea T), addV (mulV qb Z) (mulV eb T), addV (mulV qc Z) (mulV ec T), addV (mulV qd Z) (mulV ed T)] 2), vI (unitV [addV (mulV qa Z) (mulV ea T), addV (mulV qb Z) (mulV eb T), addV (mulV qc Z) (mulV ec T), addV (mulV qd Z) (mulV ed T)] 3)]] rfl rfl (fun w_ hM => (.cell rfl (tr_run _ [.v (vI (unitV [addV (mulV qa Z) (mulV ea T), addV (mulV qb Z) (mulV eb T), addV (mulV qc Z) (mulV ec T), addV (mulV qd Z) (mulV ed T)] 0)), .v (vI (unitV [addV (mulV qa Z) (mulV ea T), addV (mulV qb Z) (mulV eb T), addV (mulV qc Z) (mulV ec T), addV (mulV qd Z) (mulV ed T)] 1)), .v (vI (unitV [addV (mulV qa Z) (mulV ea T), addV (mulV qb Z) (mulV eb T), addV (mulV qc Z) (mulV ec T), addV (mulV qd Z) (mulV ed T)] 2)), .v (vI (unitV [addV (mulV qa Z) (mulV ea T), addV (mulV qb Z) (mulV eb T), addV (mulV qc Z) (mulV ec T), addV (mulV qd Z) (mulV ed T)] 3))] [.load ⟨b3, 0, none⟩ (vI (unitV [addV (mulV qa Z) (mulV ea T), addV (mulV qb Z) (mulV eb T), addV (mulV qc Z) (mulV ec T), addV (mulV qd Z) (mulV ed T)] 0)), .load ⟨b3, 1, none⟩ (vI (unitV [addV (mulV qa Z) (mulV ea T), addV (mulV qb Z) (mulV eb T), addV (mulV qc Z) (mulV ec T), addV (mulV qd Z) (mulV ed T)] 1)), .load ⟨b3, 2, none⟩ (vI (unitV [addV (mulV qa Z) (mulV ea T), addV (mulV qb Z) (mulV eb T), addV (mulV qc Z) (mulV ec T), addV (mulV qd Z) (mulV ed T)] 2)), .load ⟨b3, 3, none⟩ (vI (unitV [addV (mulV qa Z) (mulV ea T), addV (mulV qb Z) (mulV eb T), addV (mulV qc Z) (mulV ec T), addV (mulV qd Z) (mulV ed T)] 3))] (.agg #[vI (unitV [addV (mulV qa Z) (mulV ea T), addV (mulV qb Z) (mulV eb T), addV (mulV qc Z) (mulV ec T), addV (mulV qd Z) (mulV ed T)] 0), vI (unitV [addV (mulV qa Z) (mulV ea T), addV (mulV qb Z) (mulV eb T), addV (mulV qc Z) (mulV ec T), addV (mulV qd Z) (mulV ed T)] 1), vI (unitV [addV (mulV qa Z) (mulV ea T), addV (mulV qb Z) (mulV eb T), addV (mulV qc Z) (mulV ec T), addV (mulV qd Z) (mulV ed T)] 2), vI (unitV [addV (mulV qa Z) (mulV ea T), addV (mulV qb Z) (mulV eb T), addV (mulV qc Z) (mulV ec T), addV (mulV qd Z) (mulV ed T)] 3)] : Value) _ _ (by kernel_rfl) ⟨hM.cell 0 rfl rfl, hM.cell 0 rfl rfl, hM.cell 0 rfl rfl, hM.cell 0 rfl rfl, rfl⟩) .nil)) (fun w_ hM => ?_)
  refine ⟨?_, hM.done⟩
  rfl
end Go.Proofs.Ytioijglogoppnaa.WBlend
