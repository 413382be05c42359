/- Texts of this claim: S28.Types, S28.Gf, S28.Poly, S28.PolyB, S28.PolyC, S28.PolyD, S28.PolyE, S28.PolyF, S28.PolyG, S28.PolyH, S28.PolyI, S28.PolyJ, S28.PolyK. -/
import Derived.Test.YtpfehhcljeagoaaDoorVc10
import Derived.Test.YtpfehhcljeagoaaDoorProg
import Derived.KernelRfl
set_option linter.unusedVariables false
set_option linter.unusedSimpArgs false
namespace Go.Proofs.YtpfehhcljeagoaaDoor.S28
open Go Go.Proofs.YtpfehhcljeagoaaDoor.Vc Go.Proofs
theorem ty1 : TyOk Tryd.prog 1 .fnT := ⟨(by unfold InfoOk; kernel_rfl), _, _, _, Tryd.underlying1⟩
theorem ty2 : TyOk Tryd.prog 2 (.int .i64) := ⟨(by unfold InfoOk; kernel_rfl), Tryd.underlying2⟩
theorem ty3 : TyOk Tryd.prog 3 (.int .i64) := ⟨(by unfold InfoOk; kernel_rfl), Tryd.underlying3⟩
theorem ty4 : TyOk Tryd.prog 4 .bool := ⟨(by unfold InfoOk; kernel_rfl), Tryd.underlying4⟩
theorem ty5 : TyOk Tryd.prog 5 .u8 := ⟨(by unfold InfoOk; kernel_rfl), Tryd.underlying5⟩
theorem ty9 : TyOk Tryd.prog 9 .str := ⟨(by unfold InfoOk; kernel_rfl), Tryd.underlying9⟩
theorem ty12 : TyOk Tryd.prog 12 (.int .u64) := ⟨(by unfold InfoOk; kernel_rfl), Tryd.underlying12⟩
theorem ty21 : TyOk Tryd.prog 21 (.int .i32) := ⟨(by unfold InfoOk; kernel_rfl), Tryd.underlying21⟩
theorem ty22 : TyOk Tryd.prog 22 (.sl (.int .i64)) := ⟨(by unfold InfoOk; kernel_rfl), 3, Tryd.underlying22, by unfold InfoOk; kernel_rfl, by decide⟩
theorem ty23 : TyOk Tryd.prog 23 (.cons (.sl (.int .i64)) (.cons (.int .i64) (.cons (.int .i64) (.cons (.int .i64) (.cons (.int .i64) (.cons (.int .i64) .nil)))))) := ⟨(by unfold InfoOk; kernel_rfl), _, Tryd.underlying23, by kernel_rfl⟩
theorem ty24 : TyOk Tryd.prog 24 (.cons (.sl (.int .i64)) (.cons (.int .i64) (.cons (.int .i64) (.cons (.int .i64) (.cons (.int .i64) (.cons (.int .i64) .nil)))))) := ⟨(by unfold InfoOk; kernel_rfl), _, Tryd.underlying24, by kernel_rfl⟩
theorem ty25 : TyOk Tryd.prog 25 (.sl (.cons (.int .i64) (.cons (.sl (.int .i64)) .nil))) := ⟨(by unfold InfoOk; kernel_rfl), 54, Tryd.underlying25, by unfold InfoOk; kernel_rfl, by decide⟩
theorem ty26 : TyOk Tryd.prog 26 .fnT := ⟨(by unfold InfoOk; kernel_rfl), _, _, _, Tryd.underlying26⟩
theorem ty27 : TyOk Tryd.prog 27 (.sl (.cons (.int .i64) (.cons (.int .i64) .nil))) := ⟨(by unfold InfoOk; kernel_rfl), 35, Tryd.underlying27, by unfold InfoOk; kernel_rfl, by decide⟩
theorem ty28 : TyOk Tryd.prog 28 (.int .i64) := ⟨(by unfold InfoOk; kernel_rfl), Tryd.underlying28⟩
theorem ty30 : TyOk Tryd.prog 30 .fnT := ⟨(by unfold InfoOk; kernel_rfl), _, _, _, Tryd.underlying30⟩
theorem ty31 : TyOk Tryd.prog 31 (.cons (.sl (.cons (.int .i64) (.cons (.int .i64) .nil))) (.cons (.int .i64) .nil)) := ⟨(by unfold InfoOk; kernel_rfl), _, Tryd.underlying31, by kernel_rfl⟩
theorem ty32 : TyOk Tryd.prog 32 (.cons (.sl (.cons (.int .i64) (.cons (.int .i64) .nil))) (.cons (.int .i64) .nil)) := ⟨(by unfold InfoOk; kernel_rfl), _, Tryd.underlying32, by kernel_rfl⟩
theorem ty33 : TyOk Tryd.prog 33 .fnT := ⟨(by unfold InfoOk; kernel_rfl), _, _, _, Tryd.underlying33⟩
theorem ty34 : TyOk Tryd.prog 34 (.cons (.int .i64) (.cons (.int .i64) .nil)) := ⟨(by unfold InfoOk; kernel_rfl), _, Tryd.underlying34, by kernel_rfl⟩
theorem ty35 : TyOk Tryd.prog 35 (.cons (.int .i64) (.cons (.int .i64) .nil)) := ⟨(by unfold InfoOk; kernel_rfl), _, Tryd.underlying35, by kernel_rfl⟩
theorem ty36 : TyOk Tryd.prog 36 .fnT := ⟨(by unfold InfoOk; kernel_rfl), _, _, _, Tryd.underlying36⟩
theorem ty37 : TyOk Tryd.prog 37 .fnT := ⟨(by unfold InfoOk; kernel_rfl), _, _, _, Tryd.underlying37⟩
theorem ty38 : TyOk Tryd.prog 38 (.sl (.sl .str)) := ⟨(by unfold InfoOk; kernel_rfl), 45, Tryd.underlying38, by unfold InfoOk; kernel_rfl, by decide⟩
theorem ty39 : TyOk Tryd.prog 39 (.sl (.sl (.sl .str))) := ⟨(by unfold InfoOk; kernel_rfl), 38, Tryd.underlying39, by unfold InfoOk; kernel_rfl, by decide⟩
theorem ty40 : TyOk Tryd.prog 40 (.cons (.int .i64) (.cons .str (.cons (.sl (.sl .str)) (.cons (.sl (.sl (.sl .str))) .nil)))) := ⟨(by unfold InfoOk; kernel_rfl), _, Tryd.underlying40, by kernel_rfl⟩
theorem ty41 : TyOk Tryd.prog 41 (.cons (.int .i64) (.cons .str (.cons (.sl (.sl .str)) (.cons (.sl (.sl (.sl .str))) .nil)))) := ⟨(by unfold InfoOk; kernel_rfl), _, Tryd.underlying41, by kernel_rfl⟩
theorem ty42 : TyOk Tryd.prog 42 (.sl (.cons (.int .i64) (.cons (.int .i64) (.cons (.int .i64) (.cons (.int .i64) (.cons (.sl .str) .nil)))))) := ⟨(by unfold InfoOk; kernel_rfl), 47, Tryd.underlying42, by unfold InfoOk; kernel_rfl, by decide⟩
theorem ty44 : TyOk Tryd.prog 44 .fnT := ⟨(by unfold InfoOk; kernel_rfl), _, _, _, Tryd.underlying44⟩
theorem ty45 : TyOk Tryd.prog 45 (.sl .str) := ⟨(by unfold InfoOk; kernel_rfl), 9, Tryd.underlying45, by unfold InfoOk; kernel_rfl, by decide⟩
theorem ty46 : TyOk Tryd.prog 46 (.cons (.int .i64) (.cons (.int .i64) (.cons (.int .i64) (.cons (.int .i64) (.cons (.sl .str) .nil))))) := ⟨(by unfold InfoOk; kernel_rfl), _, Tryd.underlying46, by kernel_rfl⟩
theorem ty47 : TyOk Tryd.prog 47 (.cons (.int .i64) (.cons (.int .i64) (.cons (.int .i64) (.cons (.int .i64) (.cons (.sl .str) .nil))))) := ⟨(by unfold InfoOk; kernel_rfl), _, Tryd.underlying47, by kernel_rfl⟩
theorem ty48 : TyOk Tryd.prog 48 .fnT := ⟨(by unfold InfoOk; kernel_rfl), _, _, _, Tryd.underlying48⟩
theorem ty49 : TyOk Tryd.prog 49 .fnT := ⟨(by unfold InfoOk; kernel_rfl), _, _, _, Tryd.underlying49⟩
theorem ty50 : TyOk Tryd.prog 50 .fnT := ⟨(by unfold InfoOk; kernel_rfl), _, _, _, Tryd.underlying50⟩
theorem ty51 : TyOk Tryd.prog 51 .fnT := ⟨(by unfold InfoOk; kernel_rfl), _, _, _, Tryd.underlying51⟩
theorem ty52 : TyOk Tryd.prog 52 .fnT := ⟨(by unfold InfoOk; kernel_rfl), _, _, _, Tryd.underlying52⟩
theorem ty53 : TyOk Tryd.prog 53 (.cons (.int .i64) (.cons (.sl (.int .i64)) .nil)) := ⟨(by unfold InfoOk; kernel_rfl), _, Tryd.underlying53, by kernel_rfl⟩
theorem ty54 : TyOk Tryd.prog 54 (.cons (.int .i64) (.cons (.sl (.int .i64)) .nil)) := ⟨(by unfold InfoOk; kernel_rfl), _, Tryd.underlying54, by kernel_rfl⟩
theorem ty55 : TyOk Tryd.prog 55 .fnT := ⟨(by unfold InfoOk; kernel_rfl), _, _, _, Tryd.underlying55⟩
theorem ty56 : TyOk Tryd.prog 56 .fnT := ⟨(by unfold InfoOk; kernel_rfl), _, _, _, Tryd.underlying56⟩
theorem ty57 : TyOk Tryd.prog 57 (.cons (.int .i64) (.cons .str .nil)) := ⟨(by unfold InfoOk; kernel_rfl), _, Tryd.underlying57, by kernel_rfl⟩
theorem ty58 : TyOk Tryd.prog 58 (.cons (.int .i64) (.cons .str .nil)) := ⟨(by unfold InfoOk; kernel_rfl), _, Tryd.underlying58, by kernel_rfl⟩
theorem ty60 : TyOk Tryd.prog 60 .fnT := ⟨(by unfold InfoOk; kernel_rfl), _, _, _, Tryd.underlying60⟩
theorem ty61 : TyOk Tryd.prog 61 (.mapT (.sl (.int .i64))) := ⟨(by unfold InfoOk; kernel_rfl), 3, 22, Tryd.underlying61, Tryd.underlying3, by unfold InfoOk; kernel_rfl, by kernel_rfl⟩
theorem ty63 : TyOk Tryd.prog 63 .fnT := ⟨(by unfold InfoOk; kernel_rfl), _, _, _, Tryd.underlying63⟩
theorem ty64 : TyOk Tryd.prog 64 .fnT := ⟨(by unfold InfoOk; kernel_rfl), _, _, _, Tryd.underlying64⟩
theorem ty65 : TyOk Tryd.prog 65 .fnT := ⟨(by unfold InfoOk; kernel_rfl), _, _, _, Tryd.underlying65⟩
theorem ty66 : TyOk Tryd.prog 66 .fnT := ⟨(by unfold InfoOk; kernel_rfl), _, _, _, Tryd.underlying66⟩
theorem ty67 : TyOk Tryd.prog 67 .fnT := ⟨(by unfold InfoOk; kernel_rfl), _, _, _, Tryd.underlying67⟩
theorem ty68 : TyOk Tryd.prog 68 .fnT := ⟨(by unfold InfoOk; kernel_rfl), _, _, _, Tryd.underlying68⟩
theorem ty69 : TyOk Tryd.prog 69 .fnT := ⟨(by unfold InfoOk; kernel_rfl), _, _, _, Tryd.underlying69⟩
theorem ty70 : TyOk Tryd.prog 70 .fnT := ⟨(by unfold InfoOk; kernel_rfl), _, _, _, Tryd.underlying70⟩
theorem ty71 : TyOk Tryd.prog 71 (.cons (.int .i64) (.cons (.sl (.sl .str)) .nil)) := ⟨(by unfold InfoOk; kernel_rfl), _, Tryd.underlying71, by kernel_rfl⟩
theorem ty72 : TyOk Tryd.prog 72 (.cons (.int .i64) (.cons (.sl (.sl .str)) .nil)) := ⟨(by unfold InfoOk; kernel_rfl), _, Tryd.underlying72, by kernel_rfl⟩
theorem ty74 : TyOk Tryd.prog 74 .fnT := ⟨(by unfold InfoOk; kernel_rfl), _, _, _, Tryd.underlying74⟩
theorem ty76 : TyOk Tryd.prog 76 .fnT := ⟨(by unfold InfoOk; kernel_rfl), _, _, _, Tryd.underlying76⟩
theorem ty77 : TyOk Tryd.prog 77 .fnT := ⟨(by unfold InfoOk; kernel_rfl), _, _, _, Tryd.underlying77⟩
theorem ty79 : TyOk Tryd.prog 79 .fnT := ⟨(by unfold InfoOk; kernel_rfl), _, _, _, Tryd.underlying79⟩
theorem ty80 : TyOk Tryd.prog 80 .fnT := ⟨(by unfold InfoOk; kernel_rfl), _, _, _, Tryd.underlying80⟩
theorem ty81 : TyOk Tryd.prog 81 .fnT := ⟨(by unfold InfoOk; kernel_rfl), _, _, _, Tryd.underlying81⟩
theorem ty82 : TyOk Tryd.prog 82 .fnT := ⟨(by unfold InfoOk; kernel_rfl), _, _, _, Tryd.underlying82⟩
theorem ty84 : TyOk Tryd.prog 84 .fnT := ⟨(by unfold InfoOk; kernel_rfl), _, _, _, Tryd.underlying84⟩
theorem ty86 : TyOk Tryd.prog 86 .fnT := ⟨(by unfold InfoOk; kernel_rfl), _, _, _, Tryd.underlying86⟩
theorem ty87 : TyOk Tryd.prog 87 .fnT := ⟨(by unfold InfoOk; kernel_rfl), _, _, _, Tryd.underlying87⟩
theorem ty88 : TyOk Tryd.prog 88 .fnT := ⟨(by unfold InfoOk; kernel_rfl), _, _, _, Tryd.underlying88⟩
theorem ty89 : TyOk Tryd.prog 89 .fnT := ⟨(by unfold InfoOk; kernel_rfl), _, _, _, Tryd.underlying89⟩
theorem ty90 : TyOk Tryd.prog 90 .fnT := ⟨(by unfold InfoOk; kernel_rfl), _, _, _, Tryd.underlying90⟩
theorem ty91 : TyOk Tryd.prog 91 (.sl .bool) := ⟨(by unfold InfoOk; kernel_rfl), 4, Tryd.underlying91, by unfold InfoOk; kernel_rfl, by decide⟩
theorem ty92 : TyOk Tryd.prog 92 .fnT := ⟨(by unfold InfoOk; kernel_rfl), _, _, _, Tryd.underlying92⟩
theorem ty93 : TyOk Tryd.prog 93 .fnT := ⟨(by unfold InfoOk; kernel_rfl), _, _, _, Tryd.underlying93⟩
theorem ty94 : TyOk Tryd.prog 94 .fnT := ⟨(by unfold InfoOk; kernel_rfl), _, _, _, Tryd.underlying94⟩
theorem ty95 : TyOk Tryd.prog 95 .fnT := ⟨(by unfold InfoOk; kernel_rfl), _, _, _, Tryd.underlying95⟩
theorem ty96 : TyOk Tryd.prog 96 .fnT := ⟨(by unfold InfoOk; kernel_rfl), _, _, _, Tryd.underlying96⟩
theorem ty97 : TyOk Tryd.prog 97 .fnT := ⟨(by unfold InfoOk; kernel_rfl), _, _, _, Tryd.underlying97⟩
theorem ty98 : TyOk Tryd.prog 98 .fnT := ⟨(by unfold InfoOk; kernel_rfl), _, _, _, Tryd.underlying98⟩
theorem ty99 : TyOk Tryd.prog 99 (.sl .u8) := ⟨(by unfold InfoOk; kernel_rfl), 5, Tryd.underlying99, by unfold InfoOk; kernel_rfl, by decide⟩
theorem ty100 : TyOk Tryd.prog 100 (.sl (.sl .u8)) := ⟨(by unfold InfoOk; kernel_rfl), 99, Tryd.underlying100, by unfold InfoOk; kernel_rfl, by decide⟩
theorem ty102 : TyOk Tryd.prog 102 .fnT := ⟨(by unfold InfoOk; kernel_rfl), _, _, _, Tryd.underlying102⟩
theorem ty103 : TyOk Tryd.prog 103 .fnT := ⟨(by unfold InfoOk; kernel_rfl), _, _, _, Tryd.underlying103⟩
theorem ty104 : TyOk Tryd.prog 104 .fnT := ⟨(by unfold InfoOk; kernel_rfl), _, _, _, Tryd.underlying104⟩
theorem ty105 : TyOk Tryd.prog 105 .fnT := ⟨(by unfold InfoOk; kernel_rfl), _, _, _, Tryd.underlying105⟩
theorem ty106 : TyOk Tryd.prog 106 .fnT := ⟨(by unfold InfoOk; kernel_rfl), _, _, _, Tryd.underlying106⟩
theorem ty107 : TyOk Tryd.prog 107 .fnT := ⟨(by unfold InfoOk; kernel_rfl), _, _, _, Tryd.underlying107⟩
theorem ty108 : TyOk Tryd.prog 108 .fnT := ⟨(by unfold InfoOk; kernel_rfl), _, _, _, Tryd.underlying108⟩
theorem ty109 : TyOk Tryd.prog 109 .fnT := ⟨(by unfold InfoOk; kernel_rfl), _, _, _, Tryd.underlying109⟩
theorem ty111 : TyOk Tryd.prog 111 .fnT := ⟨(by unfold InfoOk; kernel_rfl), _, _, _, Tryd.underlying111⟩
theorem ty112 : TyOk Tryd.prog 112 .fnT := ⟨(by unfold InfoOk; kernel_rfl), _, _, _, Tryd.underlying112⟩
theorem ty113 : TyOk Tryd.prog 113 .fnT := ⟨(by unfold InfoOk; kernel_rfl), _, _, _, Tryd.underlying113⟩
theorem ty114 : TyOk Tryd.prog 114 .fnT := ⟨(by unfold InfoOk; kernel_rfl), _, _, _, Tryd.underlying114⟩
theorem ty115 : TyOk Tryd.prog 115 .fnT := ⟨(by unfold InfoOk; kernel_rfl), _, _, _, Tryd.underlying115⟩
theorem ty116 : TyOk Tryd.prog 116 .fnT := ⟨(by unfold InfoOk; kernel_rfl), _, _, _, Tryd.underlying116⟩
theorem ty117 : TyOk Tryd.prog 117 .fnT := ⟨(by unfold InfoOk; kernel_rfl), _, _, _, Tryd.underlying117⟩
theorem ty118 : TyOk Tryd.prog 118 (.arr 256 .bool) := ⟨(by unfold InfoOk; kernel_rfl), 4, Tryd.underlying118, by unfold InfoOk; kernel_rfl, by decide, by kernel_rfl⟩
theorem ty120 : TyOk Tryd.prog 120 .fnT := ⟨(by unfold InfoOk; kernel_rfl), _, _, _, Tryd.underlying120⟩
theorem ty121 : TyOk Tryd.prog 121 .fnT := ⟨(by unfold InfoOk; kernel_rfl), _, _, _, Tryd.underlying121⟩
theorem ty122 : TyOk Tryd.prog 122 .fnT := ⟨(by unfold InfoOk; kernel_rfl), _, _, _, Tryd.underlying122⟩
theorem ty123 : TyOk Tryd.prog 123 (.int .u64) := ⟨(by unfold InfoOk; kernel_rfl), Tryd.underlying123⟩
theorem ty124 : TyOk Tryd.prog 124 .fnT := ⟨(by unfold InfoOk; kernel_rfl), _, _, _, Tryd.underlying124⟩
theorem ty125 : TyOk Tryd.prog 125 .fnT := ⟨(by unfold InfoOk; kernel_rfl), _, _, _, Tryd.underlying125⟩
theorem ty126 : TyOk Tryd.prog 126 (.arr 16 .u8) := ⟨(by unfold InfoOk; kernel_rfl), 5, Tryd.underlying126, by unfold InfoOk; kernel_rfl, by decide, by kernel_rfl⟩
theorem ty127 : TyOk Tryd.prog 127 .fnT := ⟨(by unfold InfoOk; kernel_rfl), _, _, _, Tryd.underlying127⟩
theorem ty133 : TyOk Tryd.prog 133 .fnT := ⟨(by unfold InfoOk; kernel_rfl), _, _, _, Tryd.underlying133⟩
theorem ty134 : TyOk Tryd.prog 134 (.int .u32) := ⟨(by unfold InfoOk; kernel_rfl), Tryd.underlying134⟩
theorem ty137 : TyOk Tryd.prog 137 .fnT := ⟨(by unfold InfoOk; kernel_rfl), _, _, _, Tryd.underlying137⟩
def tys : List (Nat × Ty) := [(1, .fnT), (2, (.int .i64)), (3, (.int .i64)), (4, .bool), (5, .u8), (9, .str), (12, (.int .u64)), (21, (.int .i32)), (22, (.sl (.int .i64))), (23, (.cons (.sl (.int .i64)) (.cons (.int .i64) (.cons (.int .i64) (.cons (.int .i64) (.cons (.int .i64) (.cons (.int .i64) .nil))))))), (24, (.cons (.sl (.int .i64)) (.cons (.int .i64) (.cons (.int .i64) (.cons (.int .i64) (.cons (.int .i64) (.cons (.int .i64) .nil))))))), (25, (.sl (.cons (.int .i64) (.cons (.sl (.int .i64)) .nil)))), (26, .fnT), (27, (.sl (.cons (.int .i64) (.cons (.int .i64) .nil)))), (28, (.int .i64)), (30, .fnT), (31, (.cons (.sl (.cons (.int .i64) (.cons (.int .i64) .nil))) (.cons (.int .i64) .nil))), (32, (.cons (.sl (.cons (.int .i64) (.cons (.int .i64) .nil))) (.cons (.int .i64) .nil))), (33, .fnT), (34, (.cons (.int .i64) (.cons (.int .i64) .nil))), (35, (.cons (.int .i64) (.cons (.int .i64) .nil))), (36, .fnT), (37, .fnT), (38, (.sl (.sl .str))), (39, (.sl (.sl (.sl .str)))), (40, (.cons (.int .i64) (.cons .str (.cons (.sl (.sl .str)) (.cons (.sl (.sl (.sl .str))) .nil))))), (41, (.cons (.int .i64) (.cons .str (.cons (.sl (.sl .str)) (.cons (.sl (.sl (.sl .str))) .nil))))), (42, (.sl (.cons (.int .i64) (.cons (.int .i64) (.cons (.int .i64) (.cons (.int .i64) (.cons (.sl .str) .nil))))))), (44, .fnT), (45, (.sl .str)), (46, (.cons (.int .i64) (.cons (.int .i64) (.cons (.int .i64) (.cons (.int .i64) (.cons (.sl .str) .nil)))))), (47, (.cons (.int .i64) (.cons (.int .i64) (.cons (.int .i64) (.cons (.int .i64) (.cons (.sl .str) .nil)))))), (48, .fnT), (49, .fnT), (50, .fnT), (51, .fnT), (52, .fnT), (53, (.cons (.int .i64) (.cons (.sl (.int .i64)) .nil))), (54, (.cons (.int .i64) (.cons (.sl (.int .i64)) .nil))), (55, .fnT), (56, .fnT), (57, (.cons (.int .i64) (.cons .str .nil))), (58, (.cons (.int .i64) (.cons .str .nil))), (60, .fnT), (61, (.mapT (.sl (.int .i64)))), (63, .fnT), (64, .fnT), (65, .fnT), (66, .fnT), (67, .fnT), (68, .fnT), (69, .fnT), (70, .fnT), (71, (.cons (.int .i64) (.cons (.sl (.sl .str)) .nil))), (72, (.cons (.int .i64) (.cons (.sl (.sl .str)) .nil))), (74, .fnT), (76, .fnT), (77, .fnT), (79, .fnT), (80, .fnT), (81, .fnT), (82, .fnT), (84, .fnT), (86, .fnT), (87, .fnT), (88, .fnT), (89, .fnT), (90, .fnT), (91, (.sl .bool)), (92, .fnT), (93, .fnT), (94, .fnT), (95, .fnT), (96, .fnT), (97, .fnT), (98, .fnT), (99, (.sl .u8)), (100, (.sl (.sl .u8))), (102, .fnT), (103, .fnT), (104, .fnT), (105, .fnT), (106, .fnT), (107, .fnT), (108, .fnT), (109, .fnT), (111, .fnT), (112, .fnT), (113, .fnT), (114, .fnT), (115, .fnT), (116, .fnT), (117, .fnT), (118, (.arr 256 .bool)), (120, .fnT), (121, .fnT), (122, .fnT), (123, (.int .u64)), (124, .fnT), (125, .fnT), (126, (.arr 16 .u8)), (127, .fnT), (133, .fnT), (134, (.int .u32)), (137, .fnT)]
theorem tysOk : ∀ T t, lk tys T = some t → TyOk Tryd.prog T t ∧ eqTyOk Tryd.prog T t = true :=
 AllTy.ok (⟨⟨ty1, by kernel_rfl⟩, ⟨ty2, by kernel_rfl⟩, ⟨ty3, by kernel_rfl⟩, ⟨ty4, by kernel_rfl⟩, ⟨ty5, by kernel_rfl⟩, ⟨ty9, by kernel_rfl⟩, ⟨ty12, by kernel_rfl⟩, ⟨ty21, by kernel_rfl⟩, ⟨ty22, by kernel_rfl⟩, ⟨ty23, by kernel_rfl⟩, ⟨ty24, by kernel_rfl⟩, ⟨ty25, by kernel_rfl⟩, ⟨ty26, by kernel_rfl⟩, ⟨ty27, by kernel_rfl⟩, ⟨ty28, by kernel_rfl⟩, ⟨ty30, by kernel_rfl⟩, ⟨ty31, by kernel_rfl⟩, ⟨ty32, by kernel_rfl⟩, ⟨ty33, by kernel_rfl⟩, ⟨ty34, by kernel_rfl⟩, ⟨ty35, by kernel_rfl⟩, ⟨ty36, by kernel_rfl⟩, ⟨ty37, by kernel_rfl⟩, ⟨ty38, by kernel_rfl⟩, ⟨ty39, by kernel_rfl⟩, ⟨ty40, by kernel_rfl⟩, ⟨ty41, by kernel_rfl⟩, ⟨ty42, by kernel_rfl⟩, ⟨ty44, by kernel_rfl⟩, ⟨ty45, by kernel_rfl⟩, ⟨ty46, by kernel_rfl⟩, ⟨ty47, by kernel_rfl⟩, ⟨ty48, by kernel_rfl⟩, ⟨ty49, by kernel_rfl⟩, ⟨ty50, by kernel_rfl⟩, ⟨ty51, by kernel_rfl⟩, ⟨ty52, by kernel_rfl⟩, ⟨ty53, by kernel_rfl⟩, ⟨ty54, by kernel_rfl⟩, ⟨ty55, by kernel_rfl⟩, ⟨ty56, by kernel_rfl⟩, ⟨ty57, by kernel_rfl⟩, ⟨ty58, by kernel_rfl⟩, ⟨ty60, by kernel_rfl⟩, ⟨ty61, by kernel_rfl⟩, ⟨ty63, by kernel_rfl⟩, ⟨ty64, by kernel_rfl⟩, ⟨ty65, by kernel_rfl⟩, ⟨ty66, by kernel_rfl⟩, ⟨ty67, by kernel_rfl⟩, ⟨ty68, by kernel_rfl⟩, ⟨ty69, by kernel_rfl⟩, ⟨ty70, by kernel_rfl⟩, ⟨ty71, by kernel_rfl⟩, ⟨ty72, by kernel_rfl⟩, ⟨ty74, by kernel_rfl⟩, ⟨ty76, by kernel_rfl⟩, ⟨ty77, by kernel_rfl⟩, ⟨ty79, by kernel_rfl⟩, ⟨ty80, by kernel_rfl⟩, ⟨ty81, by kernel_rfl⟩, ⟨ty82, by kernel_rfl⟩, ⟨ty84, by kernel_rfl⟩, ⟨ty86, by kernel_rfl⟩, ⟨ty87, by kernel_rfl⟩, ⟨ty88, by kernel_rfl⟩, ⟨ty89, by kernel_rfl⟩, ⟨ty90, by kernel_rfl⟩, ⟨ty91, by kernel_rfl⟩, ⟨ty92, by kernel_rfl⟩, ⟨ty93, by kernel_rfl⟩, ⟨ty94, by kernel_rfl⟩, ⟨ty95, by kernel_rfl⟩, ⟨ty96, by kernel_rfl⟩, ⟨ty97, by kernel_rfl⟩, ⟨ty98, by kernel_rfl⟩, ⟨ty99, by kernel_rfl⟩, ⟨ty100, by kernel_rfl⟩, ⟨ty102, by kernel_rfl⟩, ⟨ty103, by kernel_rfl⟩, ⟨ty104, by kernel_rfl⟩, ⟨ty105, by kernel_rfl⟩, ⟨ty106, by kernel_rfl⟩, ⟨ty107, by kernel_rfl⟩, ⟨ty108, by kernel_rfl⟩, ⟨ty109, by kernel_rfl⟩, ⟨ty111, by kernel_rfl⟩, ⟨ty112, by kernel_rfl⟩, ⟨ty113, by kernel_rfl⟩, ⟨ty114, by kernel_rfl⟩, ⟨ty115, by kernel_rfl⟩, ⟨ty116, by kernel_rfl⟩, ⟨ty117, by kernel_rfl⟩, ⟨ty118, by kernel_rfl⟩, ⟨ty120, by kernel_rfl⟩, ⟨ty121, by kernel_rfl⟩, ⟨ty122, by kernel_rfl⟩, ⟨ty123, by kernel_rfl⟩, ⟨ty124, by kernel_rfl⟩, ⟨ty125, by kernel_rfl⟩, ⟨ty126, by kernel_rfl⟩, ⟨ty127, by kernel_rfl⟩, ⟨ty133, by kernel_rfl⟩, ⟨ty134, by kernel_rfl⟩, ⟨ty137, by kernel_rfl⟩, trivial⟩ : AllTy Tryd.prog tys)
end Go.Proofs.YtpfehhcljeagoaaDoor.S28

namespace Go.Proofs.YtpfehhcljeagoaaDoor.S28
open Go Go.Proofs.YtpfehhcljeagoaaDoor.Vc Go.Proofs
set_option maxRecDepth 100000

def hi : List UInt8 := [0, 29, 58, 39, 116, 105, 78, 83, 232, 245, 210, 207, 156, 129, 166, 187]
def G6 : List (Nat × V) := [(0, .rp false (.arr 16 .u8) hi 0)]
theorem globOk : GlobOk G6 := fun g x id h => by
 unfold G6 lk at h
 cases hb : Nat.beq 0 g <;> simp [hb, lk] at h
 subst h; rfl
theorem noRef6 : noRef G6 := fun g x h => by
 unfold G6 lk at h
 cases hb : Nat.beq 0 g <;> simp [hb, lk] at h
 exact ⟨_, _, _, h.symm⟩
theorem mixed : Tryd.prog.follows .mixedOrders = true := by kernel_rfl

theorem k0 : Known Tryd.prog (En [] tys G6 []) := .start globOk noRef6 mixed tysOk

def redL (x : Int) : UInt8 := UInt8.ofNat (x % 256).toNat ^^^ hi.getD (((x / 256).toNat &&& 15 : Nat) : Int).toNat 0
def sRed : List V → Option (Prop × V × List Blk)
 | [.int .u64 x] => some (0 ≤ x, .u8 (redL x), [])
 | _ => none

theorem and15 (n : Nat) : n &&& 15 < 16 := Nat.lt_of_le_of_lt Nat.and_le_right (by omega)

def C1 : List (Nat × Con) := [(67, pureC [.v (.int .u64)] sRed)]
theorem bRed (x : Int) (hx : 0 ≤ x) : bodyP (En [] tys G6 []) Tryd.f67 [.k] [.int .u64 x] (.u8 (redL x)) [] := by
 have h15 := and15 (x / 256).toNat
 refine ⟨⟨by omega, by omega⟩, .inl ⟨⟨?_, by omega⟩, ?_⟩⟩
 ·show 0 ≤ x / 256
  omega
 refine ⟨⟨?_, ?_⟩, ?_⟩
 ·show (0 : Int) ≤ (((x / 256).toNat &&& 15 : Nat) : Int)
  omega
 ·show (((x / 256).toNat &&& 15 : Nat) : Int) < 16
  omega
 exact ⟨rfl, rfl, rfl, rfl⟩

theorem k1 : Known Tryd.prog (En C1 tys G6 []) := k0.add Tryd.func67 Tryd.call67 [.k] fun ds p v bs h hp => by
 unfold sRed at h
 split at h <;> simp only [Option.some.injEq, Prod.mk.injEq, reduceCtorEq] at h
 obtain ⟨rfl, rfl, rfl⟩ := h
 exact bRed _ hp

def tx (a n : Int) : Nat → Int
 | 0 => 0
 | k + 1 => if (((n / 2 ^ k).toNat &&& 1 : Nat) : Int) = 1 then (((tx a n k).toNat ^^^ (a * 2 ^ k).toNat : Nat) : Int) else tx a n k
theorem tx_nonneg (a n : Int) (k : Nat) : 0 ≤ tx a n k := by
 induction k with
 | zero => exact Int.le_refl _
 | succ k ih => unfold tx; split <;> omega
def timesL (a : UInt8) (n : Int) : UInt8 := redL (tx a.toNat n 4)
def sTimes : List V → Option (Prop × V × List Blk)
 | [.u8 a, .int .u64 n] => some (0 ≤ n, .u8 (timesL a n), [])
 | _ => none

def C2 : List (Nat × Con) := (68, pureC [.v .u8, .v (.int .u64)] sTimes) :: C1
theorem bTimes (a : UInt8) (m : Int) (hm : 0 ≤ m) : bodyP (En C1 tys G6 []) Tryd.f68 [.k] [.u8 a, .int .u64 m] (.u8 (timesL a m)) [] := by
 have ha := a.toNat_lt
 refine ⟨0, [(0, .k), (1, .k), (5, .k), (7, .k)], fun n vs H => ∃ k : Nat, k ≤ 4 ∧ n = 4 - k ∧ vs = [.u8 a, .int .u64 m, .int .u64 (tx a.toNat m k), .int .i64 k] ∧ H = [], ⟨rfl, 4, 0, by omega, rfl, rfl, rfl⟩, ?_⟩
 rintro n vs H ⟨k, hk, rfl, rfl, rfl⟩
 refine ⟨fun h4 => ?_, fun h4 => ?_⟩
 ·have hk4 : k < 4 := by omega
  have hp : (2 : Int) ^ k ≤ 8 := by
   have : k = 0 ∨ k = 1 ∨ k = 2 ∨ k = 3 := by omega
   rcases this with h | h | h | h <;> subst h <;> decide
  have hp0 : (0 : Int) < 2 ^ k := Int.pow_pos (by decide)
  refine ⟨⟨by omega, by omega⟩, .inl ⟨⟨?_, by omega⟩, ?_⟩⟩
  ·exact Int.ediv_nonneg hm (Int.le_of_lt hp0)
  refine ⟨fun h1 => ?_, fun h1 => ?_⟩
  ·have hx : (a.toNat : Int) * 2 ^ k ≤ 255 * 8 := Int.mul_le_mul (by omega) hp (by omega) (by omega)
   have hx0 : (0 : Int) ≤ (a.toNat : Int) * 2 ^ k := Int.mul_nonneg (by omega) (by omega)
   have e : tx a.toNat m (k + 1) = _ := if_pos h1
   refine ⟨⟨by omega, by omega⟩, ⟨hx0, ?_⟩, ⟨tx_nonneg _ _ _, hx0⟩, ⟨by omega, by omega⟩, ⟨rfl, 4 - (k + 1), by omega, k + 1, by omega, by omega, ?_, rfl⟩⟩
   ·show (a.toNat : Int) * 2 ^ k ≤ 18446744073709551615
    omega
   ·rw [e]; rfl
  ·have e : tx a.toNat m (k + 1) = _ := if_neg h1
   refine ⟨⟨by omega, by omega⟩, ⟨rfl, 4 - (k + 1), by omega, k + 1, by omega, by omega, ?_, rfl⟩⟩
   rw [e]; rfl
 ·have : k = 4 := by omega
  subst this
  exact ⟨rfl, tx_nonneg _ _ _, rfl, rfl, rfl, rfl⟩

theorem k2 : Known Tryd.prog (En C2 tys G6 []) := k1.add Tryd.func68 Tryd.call68 [.k] fun ds p v bs h hp => by
 unfold sTimes at h
 split at h <;> simp only [Option.some.injEq, Prod.mk.injEq, reduceCtorEq] at h
 obtain ⟨rfl, rfl, rfl⟩ := h
 exact bTimes _ _ hp

def mulL (a b : UInt8) : UInt8 := redL ((timesL a (UInt8.ofNat (b.toNat / 16)).toNat).toNat * 16) ^^^ timesL a (b &&& 15).toNat
def sMul : List V → Option (Prop × V × List Blk)
 | [.u8 a, .u8 b] => some (True, .u8 (mulL a b), [])
 | _ => none
theorem bMul (a b : UInt8) : bodyP (En C2 tys G6 []) Tryd.f62 [.k] [.u8 a, .u8 b] (.u8 (mulL a b)) [] := by
 have h1 := (timesL a (UInt8.ofNat (b.toNat / 16)).toNat).toNat_lt
 refine ⟨⟨by omega, by omega⟩, ⟨rfl, by omega, ?_⟩⟩
 refine ⟨⟨by omega, by omega⟩, ⟨?_, ?_⟩, ⟨rfl, ?_, ?_⟩⟩
 ·show (0 : Int) ≤ (timesL a (UInt8.ofNat (b.toNat / 16)).toNat).toNat * 16
  omega
 ·show ((timesL a (UInt8.ofNat (b.toNat / 16)).toNat).toNat : Int) * 16 ≤ 18446744073709551615
  omega
 ·show (0 : Int) ≤ (timesL a (UInt8.ofNat (b.toNat / 16)).toNat).toNat * 16
  omega
 exact ⟨rfl, by omega, rfl, rfl, rfl, rfl⟩
def C3 : List (Nat × Con) := (62, pureC [.v .u8, .v .u8] sMul) :: C2
theorem k3 : Known Tryd.prog (En C3 tys G6 []) := k2.add Tryd.func62 Tryd.call62 [.k] fun ds p v bs h hp => by
 unfold sMul at h
 split at h <;> simp only [Option.some.injEq, Prod.mk.injEq, reduceCtorEq] at h
 obtain ⟨rfl, rfl, rfl⟩ := h
 exact bMul _ _

def powF : Nat → UInt8 → Int → UInt8 → UInt8
 | 0, _, _, x => x
 | f + 1, a, n, x => if 0 < n then powF f (mulL a a) (n / 2) (if ((n.toNat &&& 1 : Nat) : Int) = 1 then mulL x a else x) else x
def sPow : List V → Option (Prop × V × List Blk)
 | [.u8 a, .int .i64 n] => some (0 ≤ n ∧ n < 256, .u8 (powF 8 a n 1), [])
 | _ => none
theorem bPow (a : UInt8) (m : Int) (h0 : 0 ≤ m) (h1 : m < 256) : bodyP (En C3 tys G6 []) Tryd.f69 [.k] [.u8 a, .int .i64 m] (.u8 (powF 8 a m 1)) [] := by
 refine ⟨0, [(0, .k), (1, .k), (5, .k)], fun f vs H => ∃ a' n' x', 0 ≤ n' ∧ n' < 2 ^ f ∧ powF f a' n' x' = powF 8 a m 1 ∧ vs = [.u8 a', .int .i64 n', .u8 x'] ∧ H = [], ⟨rfl, 8, a, m, 1, h0, by omega, rfl, rfl, rfl⟩, ?_⟩
 rintro f vs H ⟨a', n', x', h2, h3, h4, rfl, rfl⟩
 refine ⟨fun hn => ?_, fun hn => ?_⟩
 ·cases f with
  | zero => exact absurd h3 (by omega)
  | succ f =>
  have hb : n' / 2 < 2 ^ f := by rw [Int.pow_succ] at h3; omega
  rw [show powF (f + 1) a' n' x' = _ from if_pos hn] at h4
  refine .inl ⟨⟨h2, by omega⟩, fun h5 => ?_, fun h5 => ?_⟩
  ·replace h5 : ((n'.toNat &&& 1 : Nat) : Int) = 1 := h5
   rw [if_pos h5] at h4
   exact ⟨trivial, trivial, ⟨by omega, by omega⟩, rfl, f, by omega, _, _, _, Int.ediv_nonneg h2 (by omega), hb, h4, rfl, rfl⟩
  ·replace h5 : ¬ ((n'.toNat &&& 1 : Nat) : Int) = 1 := h5
   rw [if_neg h5] at h4
   exact ⟨trivial, ⟨by omega, by omega⟩, rfl, f, by omega, _, _, _, Int.ediv_nonneg h2 (by omega), hb, h4, rfl, rfl⟩
 ·have : n' = 0 := by omega
  subst this
  have : powF f a' 0 x' = x' := by cases f <;> rfl
  rw [this] at h4
  subst h4
  exact ⟨rfl, rfl, rfl, rfl⟩
def C4 : List (Nat × Con) := (69, pureC [.v .u8, .v (.int .i64)] sPow) :: C3
theorem k4 : Known Tryd.prog (En C4 tys G6 []) := k3.add Tryd.func69 Tryd.call69 [.k] fun ds p v bs h hp => by
 unfold sPow at h
 split at h <;> simp only [Option.some.injEq, Prod.mk.injEq, reduceCtorEq] at h
 obtain ⟨rfl, rfl, rfl⟩ := h
 exact bPow _ _ hp.1 hp.2

def invL (a : UInt8) : UInt8 := if a = 0 then 0 else powF 8 a 254 1
def sInv : List V → Option (Prop × V × List Blk)
 | [.u8 a] => some (True, .tup [.u8 (invL a), .int .i64 (if a = 0 then 1 else 0)], [])
 | _ => none
theorem bInv (a : UInt8) : bodyP (En C4 tys G6 []) Tryd.f64 [.k, .k] [.u8 a] (.tup [.u8 (invL a), .int .i64 (if a = 0 then 1 else 0)]) [] := by
 refine ⟨fun h => ?_, fun h => ?_⟩
 ·replace h : a = 0 := h
  rw [show invL a = 0 from if_pos h, if_pos h]
  exact ⟨rfl, rfl, rfl, rfl⟩
 ·replace h : ¬ a = 0 := h
  rw [show invL a = _ from if_neg h, if_neg h]
  exact ⟨rfl, ⟨by omega, by omega⟩, rfl, rfl, rfl, rfl⟩
def C5 : List (Nat × Con) := (64, pureC [.v .u8] sInv) :: C4
theorem k5 : Known Tryd.prog (En C5 tys G6 []) := k4.add Tryd.func64 Tryd.call64 [.k, .k] fun ds p v bs h hp => by
 unfold sInv at h
 split at h <;> simp only [Option.some.injEq, Prod.mk.injEq, reduceCtorEq] at h
 obtain ⟨rfl, rfl, rfl⟩ := h
 exact bInv _

/-! ### The specification's -/
def C6 : List (Nat × Con) := C5
theorem k6 : Known Tryd.prog (En C6 tys G6 []) := k5
def C7 : List (Nat × Con) := C6
theorem k7 : Known Tryd.prog (En C7 tys G6 []) := k6
end Go.Proofs.YtpfehhcljeagoaaDoor.S28

namespace Go.Proofs.YtpfehhcljeagoaaDoor.S28
open Go Go.Proofs.YtpfehhcljeagoaaDoor.Vc Go.Proofs
set_option maxRecDepth 100000

/-! ### Eval -/
def horner (x : UInt8) : List UInt8 → UInt8
 | [] => 0
 | c :: p => mulL (horner x p) x ^^^ c
theorem horner_drop (x : UInt8) (p : List UInt8) (k : Nat) (h : k < p.length) : horner x (p.drop k) = mulL (horner x (p.drop (k + 1))) x ^^^ p.getD k 0 := by
 rw [List.drop_eq_getElem_cons h, horner]
 simp [List.getElem?_eq_getElem h]
def sEval : List V → Option (Prop × V × List Blk)
 | [.sl false .u8 p, .u8 x] => some (p.length ≤ 1000000, .u8 (horner x p), [])
 | _ => none
theorem bEval (p : List UInt8) (x : UInt8) (hp : p.length ≤ 1000000) : bodyP (En C7 tys G6 []) Tryd.f58 [.k] [.sl false .u8 p, .u8 x] (.u8 (horner x p)) [] := by
 refine ⟨⟨by omega, by omega⟩, 0, [(0, .k), (1, .k), (5, .k), (6, .k)], fun n vs H => ∃ k : Int, n = (k + 1).toNat ∧ -1 ≤ k ∧ k < p.length ∧ vs = [.sl false .u8 p, .u8 x, .u8 (horner x (p.drop (k + 1).toNat)), .int .i64 k] ∧ H = [], ⟨rfl, p.length, p.length - 1, by omega, by omega, by omega, ?_, rfl⟩, ?_⟩
 ·have : ((p.length : Int) - 1 + 1).toNat = p.length := by omega
  rw [this, List.drop_length]
  rfl
 ·rintro n vs H ⟨k, rfl, h1, h2, rfl, rfl⟩
  refine ⟨fun hk => ?_, fun hk => ?_⟩
  ·refine ⟨by kernel_rfl, trivial, ⟨hk, h2⟩, ⟨by omega, by omega⟩, rfl, k.toNat, by omega, k - 1, by omega, by omega, by omega, ?_, rfl⟩
   have e := horner_drop x p k.toNat (by omega)
   have e1 : (k - 1 + 1).toNat = k.toNat := by omega
   have e2 : (k + 1).toNat = k.toNat + 1 := by omega
   rw [e1, e, ← e2]
   rfl
  ·have : k = -1 := by omega
   subst this
   exact ⟨rfl, rfl, rfl, rfl⟩
def C8 : List (Nat × Con) := (58, pureC [.v (.sl .u8), .v .u8] sEval) :: C7
theorem k8 : Known Tryd.prog (En C8 tys G6 []) := k7.add Tryd.func58 Tryd.call58 [.k] fun ds p v bs h hp => by
 unfold sEval at h
 split at h <;> simp only [Option.some.injEq, Prod.mk.injEq, reduceCtorEq] at h
 obtain ⟨rfl, rfl, rfl⟩ := h
 exact bEval _ _ hp

/-! ### Degree, Clone, Trim -/
def trimL : List UInt8 → List UInt8
 | [] => []
 | c :: p => match trimL p with
  | [] => if c = 0 then [] else [c]
  | d :: q => c :: d :: q
theorem trimL_snoc (c : UInt8) : ∀ l : List UInt8, trimL (l ++ [c]) = if c = 0 then trimL l else l ++ [c]
 | [] => by simp [trimL]
 | d :: l => by
  have ih := trimL_snoc c l
  by_cases hc : c = 0
  ·rw [if_pos hc] at ih ⊢
   simp [trimL, ih]
  ·rw [if_neg hc] at ih ⊢
   rw [List.cons_append]
   show (match trimL (l ++ [c]) with | [] => if d = 0 then [] else [d] | e :: q => d :: e :: q) = _
   rw [ih]
   cases l <;> rfl
theorem trimL_len : ∀ l : List UInt8, (trimL l).length ≤ l.length
 | [] => by simp [trimL]
 | c :: l => by
  have := trimL_len l
  unfold trimL
  split
  ·split <;> simp
  ·rename_i h; rw [h] at this; simpa using this
theorem trimL_take : ∀ l : List UInt8, l.take (trimL l).length = trimL l
 | [] => rfl
 | c :: l => by
  have ih := trimL_take l
  unfold trimL
  split
  ·split <;> simp
  ·rename_i h; rw [h] at ih; simpa using ih
theorem take_snoc (p : List UInt8) (k : Nat) (h : k < p.length) : p.take (k + 1) = p.take k ++ [p.getD k 0] := by
 rw [List.take_succ_eq_append_getElem h]
 simp [List.getElem?_eq_getElem h]
def degL (p : List UInt8) : Int := (trimL p).length - 1
def sDeg : List V → Option (Prop × V × List Blk)
 | [.sl false .u8 p] => some (p.length ≤ 1000000, .int .i64 (degL p), [])
 | _ => none
theorem bDeg (p : List UInt8) (hp : p.length ≤ 1000000) : bodyP (En C8 tys G6 []) Tryd.f54 [.k] [.sl false .u8 p] (.int .i64 (degL p)) [] := by
 refine ⟨⟨by omega, by omega⟩, 0, [(0, .k), (3, .k)], fun n vs H => ∃ k : Int, n = (k + 1).toNat ∧ -1 ≤ k ∧ k < p.length ∧ trimL p = trimL (p.take (k + 1).toNat) ∧ vs = [.sl false .u8 p, .int .i64 k] ∧ H = [], ⟨rfl, p.length, p.length - 1, by omega, by omega, by omega, ?_, rfl, rfl⟩, ?_⟩
 ·have : ((p.length : Int) - 1 + 1).toNat = p.length := by omega
  rw [this, List.take_length]
 ·rintro n vs H ⟨k, rfl, h1, h2, ht, rfl, rfl⟩
  refine ⟨fun hk => ?_, fun hk => ?_⟩
  ·have e2 : (k + 1).toNat = k.toNat + 1 := by omega
   rw [e2, take_snoc p k.toNat (by omega), trimL_snoc] at ht
   refine ⟨⟨hk, h2⟩, fun h3 => ?_, fun h3 => ?_⟩
   ·replace h3 : p.getD k.toNat 0 ≠ 0 := h3
    rw [if_neg h3] at ht
    have : degL p = k := by
     unfold degL
     rw [ht, List.length_append, List.length_take]
     simp
     omega
    rw [this]
    exact ⟨rfl, rfl, rfl, rfl⟩
   ·replace h3 : ¬ p.getD k.toNat 0 ≠ 0 := h3
    have h3 : p.getD k.toNat 0 = 0 := Classical.not_not.1 h3
    rw [if_pos h3] at ht
    refine ⟨⟨by omega, by omega⟩, rfl, k.toNat, by omega, k - 1, by omega, by omega, by omega, ?_, rfl, rfl⟩
    rw [ht]
    congr 2
    omega
  ·have : k = -1 := by omega
   subst this
   have : degL p = -1 := by unfold degL; rw [ht]; rfl
   rw [this]
   exact ⟨rfl, rfl, rfl, rfl⟩
def C9 : List (Nat × Con) := (54, pureC [.v (.sl .u8)] sDeg) :: C8
theorem k9 : Known Tryd.prog (En C9 tys G6 []) := k8.add Tryd.func54 Tryd.call54 [.k] fun ds p v bs h hp => by
 unfold sDeg at h
 split at h <;> simp only [Option.some.injEq, Prod.mk.injEq, reduceCtorEq] at h
 obtain ⟨rfl, rfl, rfl⟩ := h
 exact bDeg _ hp

def sClone : List V → Option (Prop × V × List Blk)
 | [.sl false .u8 p] => some (p.length ≤ 1000000, .own .u8 0, [.row true .u8 p])
 | _ => none
theorem bClone (p : List UInt8) (hp : p.length ≤ 1000000) : bodyP (En C9 tys G6 []) Tryd.f70 [.o .u8] [.sl false .u8 p] (.own .u8 0) [.row true .u8 p] := by
 intro q hq
 refine ⟨fun h => ?_, fun h => ?_⟩
 ·have := hq h
  subst this
  exact ⟨rfl, rfl, rfl, rfl⟩
 ·refine ⟨⟨rfl, rfl⟩, ?_, ?_⟩
  ·show 0 + p.length ≤ 1000000000
   omega
  exact ⟨rfl, rfl, rfl, rfl⟩
def C10 : List (Nat × Con) := (70, pureC [.v (.sl .u8)] sClone) :: C9
theorem k10 : Known Tryd.prog (En C10 tys G6 []) := k9.add Tryd.func70 Tryd.call70 [.o .u8] fun ds p v bs h hp => by
 unfold sClone at h
 split at h <;> simp only [Option.some.injEq, Prod.mk.injEq, reduceCtorEq] at h
 obtain ⟨rfl, rfl, rfl⟩ := h
 exact bClone _ hp

def sTrim : List V → Option (Prop × V × List Blk)
 | [.sl false .u8 p] => some (p.length ≤ 1000000, .own .u8 0, [.row true .u8 (trimL p)])
 | _ => none
theorem bTrim (p : List UInt8) (hp : p.length ≤ 1000000) : bodyP (En C10 tys G6 []) Tryd.f65 [.o .u8] [.sl false .u8 p] (.own .u8 0) [.row true .u8 (trimL p)] := by
 have h1 := trimL_len p
 have h2 : degL p = (trimL p).length - 1 := rfl
 have h3 : (degL p + 1).toNat = (trimL p).length := by omega
 refine ⟨hp, ⟨by omega, by omega⟩, ⟨by omega, by omega⟩, ?_, ?_⟩
 ·show (p.take (degL p + 1).toNat).length ≤ 1000000
  rw [List.length_take]
  omega
 have e : p.take (degL p + 1).toNat = trimL p := by rw [h3, trimL_take]
 refine ⟨rfl, rfl, rfl, ?_⟩
 show [Blk.row true .u8 (p.take (degL p + 1).toNat)] = _
 rw [e]
def C11 : List (Nat × Con) := (65, pureC [.v (.sl .u8)] sTrim) :: C10
theorem k11 : Known Tryd.prog (En C11 tys G6 []) := k10.add Tryd.func65 Tryd.call65 [.o .u8] fun ds p v bs h hp => by
 unfold sTrim at h
 split at h <;> simp only [Option.some.injEq, Prod.mk.injEq, reduceCtorEq] at h
 obtain ⟨rfl, rfl, rfl⟩ := h
 exact bTrim _ hp
end Go.Proofs.YtpfehhcljeagoaaDoor.S28

namespace Go.Proofs.YtpfehhcljeagoaaDoor.S28
open Go Go.Proofs.YtpfehhcljeagoaaDoor.Vc Go.Proofs
set_option maxRecDepth 100000

def xorL : List UInt8 → List UInt8 → List UInt8
 | [], b => b
 | a, [] => a
 | x :: a, y :: b => (x ^^^ y) :: xorL a b
theorem xorL_nil (a : List UInt8) : xorL a [] = a := by cases a <;> rfl
theorem xorL_length : ∀ a b : List UInt8, (xorL a b).length = max a.length b.length
 | [], b => by simp [xorL]
 | x :: a, [] => by simp [xorL]
 | x :: a, y :: b => by simp [xorL, xorL_length a b]
theorem xorL_snoc (c : UInt8) : ∀ (a l : List UInt8), xorL a (l ++ [c]) = if l.length = (xorL a l).length then xorL a l ++ [c] else (xorL a l).set l.length ((xorL a l).getD l.length 0 ^^^ c)
 | [], l => by simp [xorL]
 | x :: a, [] => by simp [xorL, xorL_nil]
 | x :: a, y :: l => by
  have ih := xorL_snoc c a l
  simp only [List.cons_append, xorL, List.length_cons, Nat.add_right_cancel_iff, List.set_cons_succ, List.getD_cons_succ]
  rw [ih]
  split <;> rfl
def sumA (ls : List (List UInt8)) : List UInt8 := ls.foldl xorL []
def sumL (ls : List (List UInt8)) : List UInt8 := trimL (sumA ls)
theorem sumA_snoc (ls : List (List UInt8)) (p : List UInt8) : sumA (ls ++ [p]) = xorL (sumA ls) p := by simp [sumA]
theorem takeL_snoc (ls : List (List UInt8)) (k : Nat) (h : k < ls.length) : ls.take (k + 1) = ls.take k ++ [ls.getD k []] := by
 rw [List.take_succ_eq_append_getElem h]
 simp [List.getElem?_eq_getElem h]
theorem sumA_len (N : Nat) : ∀ (ls : List (List UInt8)), (∀ p ∈ ls, p.length ≤ N) → (sumA ls).length ≤ N := by
 intro ls h
 have : ∀ (ls : List (List UInt8)) (a : List UInt8), a.length ≤ N → (∀ p ∈ ls, p.length ≤ N) → (ls.foldl xorL a).length ≤ N := by
  intro ls
  induction ls with
  | nil => intro a ha _; exact ha
  | cons p ls ih =>
   intro a ha hp
   refine ih _ ?_ fun q hq => hp q (by simp [hq])
   rw [xorL_length]
   have := hp p (by simp)
   omega
 exact this ls [] (by simp) h

def sSum : List V → Option (Prop × V × List Blk)
 | [.sl false (.sl .u8) ls] => some (ls.length ≤ 1000 ∧ ∀ p ∈ ls, p.length ≤ 1000000, .own .u8 0, [.row true .u8 (sumL ls)])
 | _ => none
theorem bSum (ls : List (List UInt8)) (hl : ls.length ≤ 1000) (hp : ∀ p ∈ ls, p.length ≤ 1000000) : bodyP (En C11 tys G6 []) Tryd.f56 [.o .u8] [.sl false (.sl .u8) ls] (.own .u8 0) [.row true .u8 (sumL ls)] := by
 have hlen : ∀ k, (sumA (ls.take k)).length ≤ 1000000 := fun k => sumA_len _ _ fun p h => hp p (List.mem_of_mem_take h)
 refine ⟨0, [(3, .o .u8), (8, .k), (9, .k), (10, .k)], fun n vs H => ∃ k : Nat, k ≤ ls.length ∧ n = ls.length - k ∧ vs = [.own .u8 0, .sl false (.sl .u8) ls, .int .i64 ls.length, .int .i64 k] ∧ H = [.row true .u8 (sumA (ls.take k))], ⟨rfl, ls.length, 0, by omega, rfl, rfl, rfl⟩, ?_⟩
 rintro n vs H ⟨k, hk, rfl, rfl, rfl⟩
 refine ⟨fun hlt => ?_, fun hlt => ?_⟩
 ·have hk' : k < ls.length := by omega
  obtain ⟨p, hpe⟩ : ∃ p, p = ls.getD k [] := ⟨_, rfl⟩
  have hpl : p.length ≤ 1000000 := hp p (by rw [hpe]; simp [List.getElem?_eq_getElem hk'])
  refine ⟨⟨by omega, by omega⟩, ?_⟩
  refine ⟨0, [(3, .o .u8), (8, .k), (9, .k), (10, .k), (14, .k), (15, .k), (16, .k)], fun n vs H => ∃ i : Nat, i ≤ p.length ∧ n = p.length - i ∧ vs = [.own .u8 0, .sl false (.sl .u8) ls, .int .i64 ls.length, .int .i64 k, .sl false .u8 p, .int .i64 p.length, .int .i64 i] ∧ H = [.row true .u8 (xorL (sumA (ls.take k)) (p.take i))], ?_, ?_⟩
  ·subst hpe
   refine ⟨rfl, (ls.getD k []).length, 0, by omega, rfl, rfl, ?_⟩
   rw [List.take_zero, xorL_nil]
   rfl
  ·rintro n vs H ⟨i, hi, rfl, rfl, rfl⟩
   have hle : (xorL (sumA (ls.take k)) (p.take i)).length ≤ 1000000 := by
    rw [xorL_length, List.length_take]
    have := hlen k
    omega
   have hge : i ≤ (xorL (sumA (ls.take k)) (p.take i)).length := by
    rw [xorL_length, List.length_take]
    omega
   refine ⟨fun hilt => ?_, fun hilt => ?_⟩
   ·have hi' : i < p.length := by omega
    have hs := xorL_snoc (p.getD i 0) (sumA (ls.take k)) (p.take i)
    rw [← take_snoc p i hi', List.length_take, Nat.min_eq_left hi] at hs
    generalize xorL (sumA (ls.take k)) (p.take i) = cur at *
    refine ⟨⟨by omega, by omega⟩, fun he => ?_, fun he => ?_⟩
    ·replace he : (i : Int) = cur.length := he
     have he' : i = cur.length := by omega
     rw [if_pos he'] at hs
     refine ⟨⟨rfl, rfl⟩, ?_, ?_⟩
     ·show cur.length + 1 ≤ 1000000000
      omega
     have e0 : (cur ++ [0]).getD i 0 ^^^ p.getD i 0 = p.getD i 0 := by rw [he']; simp
     have e1 : (cur ++ [(0 : UInt8)]).set i (p.getD i 0) = cur ++ [p.getD i 0] := by rw [he']; simp
     have hl1 : (i : Int) < ((cur ++ [(0 : UInt8)]).length : Int) := by rw [List.length_append, List.length_singleton]; omega
     refine ⟨⟨by omega, hl1⟩, ⟨by omega, hl1⟩, ⟨rfl, rfl⟩, ⟨by omega, by omega⟩, rfl, p.length - (i + 1), by omega, i + 1, by omega, rfl, rfl, ?_⟩
     show [Blk.row true .u8 ((cur ++ [(0 : UInt8)]).set i ((cur ++ [(0 : UInt8)]).getD i 0 ^^^ p.getD i 0))] = _
     rw [e0, e1, hs]
    ·replace he : ¬ (i : Int) = cur.length := he
     have he' : ¬ i = cur.length := by omega
     rw [if_neg he'] at hs
     refine ⟨⟨by omega, by omega⟩, ⟨by omega, by omega⟩, ⟨rfl, rfl⟩, ⟨by omega, by omega⟩, rfl, p.length - (i + 1), by omega, i + 1, by omega, rfl, rfl, ?_⟩
     rw [hs]
     rfl
   ·have hie : i = p.length := by omega
    subst hie
    rw [List.take_length]
    refine ⟨⟨by omega, by omega⟩, rfl, ls.length - (k + 1), by omega, k + 1, by omega, rfl, rfl, ?_⟩
    rw [takeL_snoc ls k hk', sumA_snoc, ← hpe]
    rfl
 ·have hke : k = ls.length := by omega
  subst hke
  rw [List.take_length]
  have := sumA_len _ _ hp
  exact ⟨this, rfl, rfl, rfl, rfl⟩
end Go.Proofs.YtpfehhcljeagoaaDoor.S28

namespace Go.Proofs.YtpfehhcljeagoaaDoor.S28
open Go Go.Proofs.YtpfehhcljeagoaaDoor.Vc Go.Proofs
set_option maxRecDepth 100000

def C12 : List (Nat × Con) := (56, pureC [.v (.sl (.sl .u8))] sSum) :: C11
theorem k12 : Known Tryd.prog (En C12 tys G6 []) := k11.add Tryd.func56 Tryd.call56 [.o .u8] fun ds p v bs h hp => by
 unfold sSum at h
 split at h <;> simp only [Option.some.injEq, Prod.mk.injEq, reduceCtorEq] at h
 obtain ⟨rfl, rfl, rfl⟩ := h
 exact bSum _ hp.1 hp.2

def sAdd : List V → Option (Prop × V × List Blk)
 | [.sl false .u8 a, .sl false .u8 b] => some (a.length ≤ 1000000 ∧ b.length ≤ 1000000, .own .u8 0, [.row true .u8 (sumL [a, b])])
 | _ => none
def C13 : List (Nat × Con) := C12
theorem k13 : Known Tryd.prog (En C13 tys G6 []) := k12
def addAt (acc : List UInt8) (i : Nat) (c : UInt8) : List UInt8 := acc.set i (acc.getD i 0 ^^^ c)
def rowA (x : UInt8) : List UInt8 → Nat → List UInt8 → List UInt8
 | acc, _, [] => acc
 | acc, i, y :: ys => rowA x (addAt acc i (mulL x y)) (i + 1) ys
def prodA (b : List UInt8) : List UInt8 → Nat → List UInt8 → List UInt8
 | acc, _, [] => acc
 | acc, i, x :: xs => prodA b (rowA x acc i b) (i + 1) xs
def prodL (a b : List UInt8) : List UInt8 := trimL (prodA b (List.replicate (a.length + b.length) 0) 0 a)
theorem addAt_len (acc : List UInt8) (i : Nat) (c : UInt8) : (addAt acc i c).length = acc.length := by simp [addAt]
theorem rowA_len (x : UInt8) : ∀ (b acc : List UInt8) (i : Nat), (rowA x acc i b).length = acc.length
 | [], acc, i => rfl
 | y :: b, acc, i => by rw [rowA, rowA_len x b, addAt_len]
theorem prodA_len (b : List UInt8) : ∀ (a acc : List UInt8) (i : Nat), (prodA b acc i a).length = acc.length
 | [], acc, i => rfl
 | y :: a, acc, i => by rw [prodA, prodA_len b a, rowA_len]
theorem drop_one (p : List UInt8) (k : Nat) (h : k < p.length) : p.drop k = p.getD k 0 :: p.drop (k + 1) := by
 rw [List.drop_eq_getElem_cons h]
 simp [List.getElem?_eq_getElem h]

def sProd : List V → Option (Prop × V × List Blk)
 | [.sl false .u8 a, .sl false .u8 b] => some (a.length ≤ 100000 ∧ b.length ≤ 100000, .own .u8 0, [.row true .u8 (prodL a b)])
 | _ => none
theorem bProd (a b : List UInt8) (ha : a.length ≤ 100000) (hb : b.length ≤ 100000) : bodyP (En C13 tys G6 []) Tryd.f57 [.o .u8] [.sl false .u8 a, .sl false .u8 b] (.own .u8 0) [.row true .u8 (prodL a b)] := by
 obtain ⟨fin, hfin⟩ : ∃ fin, fin = prodA b (List.replicate (a.length + b.length) 0) 0 a := ⟨_, rfl⟩
 have hfl : fin.length = a.length + b.length := by rw [hfin, prodA_len, List.length_replicate]
 refine ⟨⟨by omega, by omega⟩, ⟨rfl, by omega, by omega⟩, ?_⟩
 refine ⟨0, [(1, .k), (5, .o .u8), (16, .k), (17, .k), (18, .k)], fun n vs H => ∃ (i : Nat) (cur : List UInt8), i ≤ a.length ∧ n = a.length - i ∧ cur.length = a.length + b.length ∧ prodA b cur i (a.drop i) = fin ∧ vs = [.sl false .u8 b, .own .u8 0, .sl false .u8 a, .int .i64 a.length, .int .i64 i] ∧ H = [.row true .u8 cur],
  ⟨rfl, a.length, 0, List.replicate (a.length + b.length) 0, by omega, rfl, by rw [List.length_replicate], hfin.symm, rfl, ?_⟩, ?_⟩
 ·have : ((a.length : Int) + b.length).toNat = a.length + b.length := by omega
  show [Blk.row true .u8 (List.replicate ((a.length : Int) + b.length).toNat 0)] = _
  rw [this]
 rintro n vs H ⟨i, cur, hi, rfl, hcl, hcur, rfl, rfl⟩
 refine ⟨fun hlt => ?_, fun hlt => ?_⟩
 ·have hi' : i < a.length := by omega
  obtain ⟨x, hx⟩ : ∃ x, x = a.getD i 0 := ⟨_, rfl⟩
  rw [drop_one a i hi', ← hx, prodA] at hcur
  refine ⟨⟨by omega, by omega⟩, ?_⟩
  refine ⟨0, [(1, .k), (5, .o .u8), (6, .k), (7, .k), (16, .k), (17, .k), (18, .k), (23, .k), (24, .k), (25, .k)], fun n vs H => ∃ (j : Nat) (cur2 : List UInt8), j ≤ b.length ∧ n = b.length - j ∧ cur2.length = a.length + b.length ∧ rowA x cur2 (i + j) (b.drop j) = rowA x cur i b ∧ vs = [.sl false .u8 b, .own .u8 0, .int .i64 i, .u8 x, .sl false .u8 a, .int .i64 a.length, .int .i64 i, .sl false .u8 b, .int .i64 b.length, .int .i64 j] ∧ H = [.row true .u8 cur2],
   ⟨rfl, b.length, 0, cur, by omega, rfl, hcl, rfl, by rw [hx]; rfl, rfl⟩, ?_⟩
  rintro n vs H ⟨j, cur2, hj, rfl, hc2, hrow, rfl, rfl⟩
  refine ⟨fun hlt2 => ?_, fun hlt2 => ?_⟩
  ·have hj' : j < b.length := by omega
   rw [drop_one b j hj', rowA] at hrow
   refine ⟨⟨by omega, by omega⟩, by kernel_rfl, ⟨by omega, by omega⟩, ⟨by omega, by omega⟩, trivial, ⟨by omega, by omega⟩, ⟨rfl, rfl⟩, ⟨by omega, by omega⟩, rfl, b.length - (j + 1), by omega, j + 1, addAt cur2 (i + j) (mulL x (b.getD j 0)), by omega, rfl, by rw [addAt_len]; exact hc2, hrow, rfl, ?_⟩
   have e : ((i : Int) + j).toNat = i + j := by omega
   show [Blk.row true .u8 (cur2.set ((i : Int) + j).toNat (cur2.getD ((i : Int) + j).toNat 0 ^^^ mulL x (b.getD j 0)))] = _
   rw [e]
   rfl
  ·have hje : j = b.length := by omega
   subst hje
   rw [List.drop_length, rowA] at hrow
   subst hrow
   exact ⟨⟨by omega, by omega⟩, rfl, a.length - (i + 1), by omega, i + 1, _, by omega, rfl, hc2, hcur, rfl, rfl⟩
 ·have hie : i = a.length := by omega
  subst hie
  rw [List.drop_length, prodA] at hcur
  subst hcur
  refine ⟨by show cur.length ≤ 1000000; omega, rfl, rfl, rfl, ?_⟩
  show [Blk.row true .u8 (trimL cur)] = _
  rw [hfin]
  rfl
end Go.Proofs.YtpfehhcljeagoaaDoor.S28

namespace Go.Proofs.YtpfehhcljeagoaaDoor.S28
open Go Go.Proofs.YtpfehhcljeagoaaDoor.Vc Go.Proofs
set_option maxRecDepth 100000

def C14 : List (Nat × Con) := (57, pureC [.v (.sl .u8), .v (.sl .u8)] sProd) :: C13
theorem k14 : Known Tryd.prog (En C14 tys G6 []) := k13.add Tryd.func57 Tryd.call57 [.o .u8] fun ds p v bs h hp => by
 unfold sProd at h
 split at h <;> simp only [Option.some.injEq, Prod.mk.injEq, reduceCtorEq] at h
 obtain ⟨rfl, rfl, rfl⟩ := h
 exact bProd _ _ hp.1 hp.2

def C15 : List (Nat × Con) := C14
theorem k15 : Known Tryd.prog (En C15 tys G6 []) := k14
end Go.Proofs.YtpfehhcljeagoaaDoor.S28

namespace Go.Proofs.YtpfehhcljeagoaaDoor.S28
open Go Go.Proofs.YtpfehhcljeagoaaDoor.Vc Go.Proofs
set_option maxRecDepth 100000

def divA (b : List UInt8) (inv : UInt8) : Nat → List UInt8 → List UInt8 → List UInt8 × List UInt8
 | 0, q, r => (q, r)
 | k + 1, q, r => divA b inv k (q.set k (mulL (r.getD (k + b.length - 1) 0) inv)) (rowA (mulL (r.getD (k + b.length - 1) 0) inv) r k b)
def divR (a b : List UInt8) : List UInt8 × List UInt8 :=
 divA (trimL b) (invL ((trimL b).getD ((trimL b).length - 1) 0)) ((trimL a).length + 1 - (trimL b).length) (List.replicate ((trimL a).length + 1 - (trimL b).length) 0) (trimL a)
theorem divA_len (b : List UInt8) (inv : UInt8) : ∀ (k : Nat) (q r : List UInt8), (divA b inv k q r).1.length = q.length ∧ (divA b inv k q r).2.length = r.length
 | 0, q, r => ⟨rfl, rfl⟩
 | k + 1, q, r => by
  rw [divA]
  have := divA_len b inv k (q.set k (mulL (r.getD (k + b.length - 1) 0) inv)) (rowA (mulL (r.getD (k + b.length - 1) 0) inv) r k b)
  rw [this.1, this.2, rowA_len, List.length_set]
  exact ⟨rfl, rfl⟩

def sDivide : List V → Option (Prop × V × List Blk)
 | [.sl false .u8 a, .sl false .u8 b] => some (a.length ≤ 100000 ∧ b.length ≤ 100000 ∧ trimL b ≠ [], .tup [.own .u8 0, .own .u8 1], [.row true .u8 (trimL (divR a b).1), .row true .u8 (trimL (divR a b).2)])
 | _ => none
set_option maxHeartbeats 4000000 in
theorem bDivide (a b : List UInt8) (ha : a.length ≤ 100000) (hb : b.length ≤ 100000) (hb0 : trimL b ≠ []) :
  bodyP (En C15 tys G6 []) Tryd.f55 [.o .u8, .o .u8] [.sl false .u8 a, .sl false .u8 b] (.tup [.own .u8 0, .own .u8 1]) [.row true .u8 (trimL (divR a b).1), .row true .u8 (trimL (divR a b).2)] := by
 have hta := trimL_len a
 have htb := trimL_len b
 have hcl : 0 < (trimL b).length := List.length_pos_iff.2 hb0
 obtain ⟨N, hN⟩ : ∃ N, N = (trimL a).length + 1 - (trimL b).length := ⟨_, rfl⟩
 obtain ⟨inv, hinv⟩ : ∃ inv, inv = invL ((trimL b).getD ((trimL b).length - 1) 0) := ⟨_, rfl⟩
 have hfin : divR a b = divA (trimL b) inv N (List.replicate N 0) (trimL a) := by rw [hinv, hN]; rfl
 generalize divR a b = fin at hfin ⊢
 have hfl := divA_len (trimL b) inv N (List.replicate N 0) (trimL a)
 rw [← hfin, List.length_replicate] at hfl
 have hinv' : ∀ m : Int, m = (trimL b).length - 1 → invL ((trimL b).getD m.toNat 0) = inv := fun m hm => by
  rw [hinv]
  congr 2
  omega
 have hrev : ∀ (n : Nat) (q r : List UInt8), divA (trimL b) inv n q r = fin → True := fun _ _ _ _ => trivial
 obtain ⟨I, hI⟩ : ∃ I : Nat → List V → List Blk → Prop, I = fun n vs H => ∃ (k : Int) (q r : List UInt8), n = (k + 1).toNat ∧ k < N ∧ -1000000 ≤ k ∧ q.length = N ∧ r.length = (trimL a).length ∧ divA (trimL b) inv n q r = fin ∧ vs = [.sl true .u8 (trimL b), .own .u8 0, .own .u8 1, .u8 inv, .int .i64 k] ∧ H = [.row true .u8 q, .row true .u8 r] := ⟨_, rfl⟩
 refine ⟨by show a.length ≤ 1000000; omega, by show b.length ≤ 1000000; omega, ⟨by omega, by omega⟩, ⟨by omega, by omega⟩, trivial, fun hge => ⟨⟨by omega, by omega⟩, ⟨by omega, by omega⟩, ⟨rfl, ?p1, ?p2⟩, ⟨by omega, by omega⟩,
   ⟨0, [(1, .d .u8), (4, .o .u8), (5, .o .u8), (6, .k), (8, .k)], I, ?i1, ?s1⟩⟩, fun hge => ⟨⟨by omega, by omega⟩, ⟨0, [(1, .d .u8), (4, .o .u8), (5, .o .u8), (6, .k), (8, .k)], I, ?i2, ?s2⟩⟩⟩
 case p1 =>
  replace hge : ((trimL b).length : Int) ≤ (trimL a).length := hge
  omega
 case p2 => omega
 case i1 =>
  replace hge : ((trimL b).length : Int) ≤ (trimL a).length := hge
  rw [hI]
  have hn : ((trimL a).length - (trimL b).length + 1 : Int).toNat = N := by omega
  refine ⟨rfl, N, (trimL a).length - (trimL b).length, List.replicate N 0, trimL a, by omega, by omega, by omega, by rw [List.length_replicate], rfl, hfin.symm, ?_, ?_⟩
  ·rw [← hinv' _ rfl]; rfl
  ·rw [← hn]; rfl
 case i2 =>
  replace hge : ¬ ((trimL b).length : Int) ≤ (trimL a).length := hge
  rw [hI]
  have hn : N = 0 := by omega
  refine ⟨rfl, 0, (trimL a).length - (trimL b).length, [], trimL a, by omega, by omega, by omega, by rw [hn]; rfl, rfl, ?_, ?_, rfl⟩
  ·rw [hfin, hn]; rfl
  ·rw [← hinv' _ rfl]; rfl
 all_goals
  rw [hI]
  rintro n vs H ⟨k, q, r, rfl, hkN, hk0, hql, hrl, hdiv, rfl, rfl⟩
  refine ⟨fun hk => ?_, fun hk => ?_⟩
  ·replace hk : 0 ≤ k := hk
   have e1 : (k + 1).toNat = k.toNat + 1 := by omega
   rw [e1, divA] at hdiv
   have e2 : (k + (trimL b).length - 1).toNat = k.toNat + (trimL b).length - 1 := by omega
   refine ⟨⟨by omega, by omega⟩, ⟨by omega, by omega⟩, ⟨by omega, by omega⟩, trivial, ⟨by omega, by omega⟩, ⟨rfl, rfl⟩, ?_⟩
   obtain ⟨x, hx⟩ : ∃ x, x = mulL (r.getD (k.toNat + (trimL b).length - 1) 0) inv := ⟨_, rfl⟩
   rw [← hx] at hdiv
   refine ⟨0, [(1, .k), (4, .o .u8), (5, .o .u8), (6, .k), (8, .k), (9, .k), (61, .k), (62, .k), (63, .k)], fun n vs H => ∃ (j : Nat) (r2 : List UInt8), j ≤ (trimL b).length ∧ n = (trimL b).length - j ∧ r2.length = (trimL a).length ∧ rowA x r2 (k.toNat + j) ((trimL b).drop j) = rowA x r k.toNat (trimL b) ∧
    vs = [.sl true .u8 (trimL b), .own .u8 0, .own .u8 1, .u8 inv, .int .i64 k, .u8 x, .sl true .u8 (trimL b), .int .i64 (trimL b).length, .int .i64 j] ∧ H = [.row true .u8 (q.set k.toNat x), .row true .u8 r2], ⟨rfl, (trimL b).length, 0, r, by omega, rfl, hrl, rfl, ?_, ?_⟩, ?_⟩
   ·rw [hx, ← e2]; rfl
   ·rw [hx, ← e2]; rfl
   rintro n vs H ⟨j, r2, hj, rfl, hr2, hrow, rfl, rfl⟩
   refine ⟨fun hlt => ?_, fun hlt => ?_⟩
   ·have hj' : j < (trimL b).length := by omega
    rw [drop_one (trimL b) j hj', rowA] at hrow
    refine ⟨⟨by omega, by omega⟩, by kernel_rfl, ⟨by omega, by omega⟩, ⟨by omega, by omega⟩, trivial, ⟨by omega, by omega⟩, ⟨rfl, rfl⟩, ⟨by omega, by omega⟩, rfl, (trimL b).length - (j + 1), by omega, j + 1, addAt r2 (k.toNat + j) (mulL x ((trimL b).getD j 0)), by omega, rfl, by rw [addAt_len]; exact hr2, hrow, rfl, ?_⟩
    have e : (k + j).toNat = k.toNat + j := by omega
    show [Blk.row true .u8 (q.set k.toNat x), Blk.row true .u8 (r2.set (k + j).toNat (r2.getD (k + j).toNat 0 ^^^ mulL x ((trimL b).getD j 0)))] = _
    rw [e]
    rfl
   ·have hje : j = (trimL b).length := by omega
    rw [hje, List.drop_length, rowA] at hrow
    refine ⟨⟨by omega, by omega⟩, rfl, k.toNat, by omega, k - 1, q.set k.toNat x, r2, by omega, by omega, by omega, by rw [List.length_set]; exact hql, hr2, ?_, rfl, rfl⟩
    rw [hrow]
    exact hdiv
  ·replace hk : ¬ 0 ≤ k := hk
   have e1 : (k + 1).toNat = 0 := by omega
   rw [e1, divA] at hdiv
   rw [← hdiv]
   exact ⟨by show q.length ≤ 1000000; omega, by show r.length ≤ 1000000; omega, rfl, rfl, rfl, rfl⟩
end Go.Proofs.YtpfehhcljeagoaaDoor.S28

namespace Go.Proofs.YtpfehhcljeagoaaDoor.S28
open Go Go.Proofs.YtpfehhcljeagoaaDoor.Vc Go.Proofs
set_option maxRecDepth 100000

def C16 : List (Nat × Con) := (55, pureC [.v (.sl .u8), .v (.sl .u8)] sDivide) :: C15
theorem k16 : Known Tryd.prog (En C16 tys G6 []) := k15.add Tryd.func55 Tryd.call55 [.o .u8, .o .u8] fun ds p v bs h hp => by
 unfold sDivide at h
 split at h <;> simp only [Option.some.injEq, Prod.mk.injEq, reduceCtorEq] at h
 obtain ⟨rfl, rfl, rfl⟩ := h
 exact bDivide _ _ hp.1 hp.2.1 hp.2.2

def C17 : List (Nat × Con) := C16
theorem k17 : Known Tryd.prog (En C17 tys G6 []) := k16
end Go.Proofs.YtpfehhcljeagoaaDoor.S28

namespace Go.Proofs.YtpfehhcljeagoaaDoor.S28
open Go Go.Proofs.YtpfehhcljeagoaaDoor.Vc Go.Proofs
set_option maxRecDepth 100000

def rightP (xs ys : List UInt8) : Prop := xs.Nodup ∧ xs.length = ys.length
def sRight : List V → Option (Prop × V × List Blk)
 | [.sl false .u8 a, .sl false .u8 b] => some (a.length ≤ 100000 ∧ b.length ≤ 100000, .b (rightP a b), [])
 | _ => none
theorem nodup_snoc (l : List UInt8) (x : UInt8) : (l ++ [x]).Nodup ↔ l.Nodup ∧ x ∉ l := by
 rw [List.nodup_append]
 constructor
 ·rintro ⟨h1, _, h3⟩
  exact ⟨h1, fun hx => h3 x hx x (by simp) rfl⟩
 ·rintro ⟨h1, h2⟩
  refine ⟨h1, by simp, fun a ha b hb => ?_⟩
  simp only [List.mem_singleton] at hb
  subst hb
  exact fun e => h2 (e ▸ ha)
theorem bRight (a b : List UInt8) (ha : a.length ≤ 100000) (hb : b.length ≤ 100000) : bodyP (En C17 tys G6 []) Tryd.f51 [.k] [.sl false .u8 a, .sl false .u8 b] (.b (rightP a b)) [] := by
 refine ⟨1, [(0, .k), (1, .k), (5, .k), (8, .k), (9, .k), (10, .k)], fun n vs H => ∃ (k : Nat) (seen : List Bool), k ≤ a.length ∧ n = a.length - k ∧ seen.length = 256 ∧ (∀ c : UInt8, seen.getD c.toNat false = true ↔ c ∈ a.take k) ∧ (a.take k).Nodup ∧
  vs = [.sl false .u8 a, .sl false .u8 b, .ptr 0 1 0 0, .sl false .u8 a, .int .i64 a.length, .int .i64 k] ∧ H = [.row true .bool seen], ⟨rfl, a.length, 0, List.replicate 256 false, by omega, rfl, by rw [List.length_replicate], ?_, by simp, rfl, rfl⟩, ?_⟩
 ·intro c
  have := c.toNat_lt
  have e : (List.replicate 256 false).getD c.toNat false = false := by
   simp only [List.getD_eq_getElem?_getD, List.getElem?_replicate]
   split <;> rfl
  rw [e, List.take_zero]
  simp
 rintro n vs H ⟨k, seen, hk, rfl, hsl, hseen, hnd, rfl, rfl⟩
 refine ⟨fun hlt => ?_, fun hlt => ?_⟩
 ·have hk' : k < a.length := by omega
  obtain ⟨x, hx⟩ : ∃ x, x = a.getD k 0 := ⟨_, rfl⟩
  have hxt := x.toNat_lt
  have hts : a.take (k + 1) = a.take k ++ [x] := by rw [take_snoc a k hk', hx]
  have hxi : ((x.toNat : Int)).toNat = x.toNat := by omega
  refine ⟨⟨by omega, by omega⟩, ?_⟩
  have hx' : a.getD (k : Int).toNat Ty.u8.dflt = x := hx.symm
  rw [hx']
  refine ⟨⟨by omega, by omega, hsl⟩, fun hs => ?_, fun hs => ?_⟩
  ·replace hs : seen.getD x.toNat false = true := hs
   have hno : ¬ rightP a b := fun h => by
    have h1 : (a.take (k + 1)).Nodup := h.1.sublist (List.take_sublist _ _)
    rw [hts, nodup_snoc] at h1
    exact h1.2 ((hseen x).1 hs)
   refine ⟨rfl, rfl, congrArg V.b (propext ⟨fun h => absurd h (by decide), fun h => absurd h hno⟩), rfl⟩
  ·replace hs : ¬ seen.getD x.toNat false = true := hs
   have hno : x ∉ a.take k := fun h => hs ((hseen x).2 h)
   refine ⟨⟨by omega, by omega, hsl⟩, ⟨rfl, rfl⟩, ⟨by omega, by omega⟩, rfl, a.length - (k + 1), by omega, k + 1, seen.set x.toNat true, by omega, rfl, by rw [List.length_set]; exact hsl, fun c => ?_, ?_, rfl, ?_⟩
   ·rw [hts, List.mem_append, List.mem_singleton, ← hseen c]
    by_cases hc : x.toNat = c.toNat
    ·have : c = x := (UInt8.toNat_inj.1 hc).symm
     subst this
     simp [List.getD_eq_getElem?_getD, hsl, hxt]
    ·have hne : c ≠ x := fun h => hc (by rw [h])
     simp [List.getD_eq_getElem?_getD, List.getElem?_set_ne hc, hne]
   ·rw [hts, nodup_snoc]
    exact ⟨hnd, hno⟩
   ·show [Blk.row true .bool (seen.set x.toNat (@decide (true = true) (Classical.propDecidable _)))] = _
    simp
 ·have hke : k = a.length := by omega
  rw [hke, List.take_length] at hnd
  refine ⟨rfl, rfl, congrArg V.b (propext ?_), rfl⟩
  show (a.length : Int) = b.length ↔ rightP a b
  exact ⟨fun h => ⟨hnd, by omega⟩, fun h => by have := h.2; omega⟩
end Go.Proofs.YtpfehhcljeagoaaDoor.S28

namespace Go.Proofs.YtpfehhcljeagoaaDoor.S28
open Go Go.Proofs.YtpfehhcljeagoaaDoor.Vc Go.Proofs
set_option maxRecDepth 100000

def C18 : List (Nat × Con) := (51, pureC [.v (.sl .u8), .v (.sl .u8)] sRight) :: C17
theorem k18 : Known Tryd.prog (En C18 tys G6 []) := k17.add Tryd.func51 Tryd.call51 [.k] fun ds p v bs h hp => by
 unfold sRight at h
 split at h <;> simp only [Option.some.injEq, Prod.mk.injEq, reduceCtorEq] at h
 obtain ⟨rfl, rfl, rfl⟩ := h
 exact bRight _ _ hp.1 hp.2

theorem prodL_len (a b : List UInt8) : (prodL a b).length ≤ a.length + b.length := by
 unfold prodL
 refine Nat.le_trans (trimL_len _) ?_
 rw [prodA_len, List.length_replicate]
 exact Nat.le_refl _
def rootsL (xs : List UInt8) : List UInt8 := xs.foldl (fun p x => prodL p [x, 1]) [1]
theorem rootsL_snoc (xs : List UInt8) (x : UInt8) : rootsL (xs ++ [x]) = prodL (rootsL xs) [x, 1] := by simp [rootsL]
theorem rootsL_len (xs : List UInt8) : (rootsL xs).length ≤ 1 + 2 * xs.length := by
 have : ∀ (xs p : List UInt8), (xs.foldl (fun p x => prodL p [x, 1]) p).length ≤ p.length + 2 * xs.length := by
  intro xs
  induction xs with
  | nil => intro p; simp
  | cons x xs ih =>
   intro p
   have h1 := ih (prodL p [x, 1])
   have h2 := prodL_len p [x, 1]
   simp only [List.foldl_cons, List.length_cons, List.length_nil] at *
   omega
 exact this xs [1]
def sRoots : List V → Option (Prop × V × List Blk)
 | [.sl false .u8 a] => some (a.length ≤ 10000, .own .u8 0, [.row true .u8 (rootsL a)])
 | _ => none
theorem bRoots (a : List UInt8) (ha : a.length ≤ 10000) : bodyP (En C18 tys G6 []) Tryd.f52 [.o .u8] [.sl false .u8 a] (.own .u8 0) [.row true .u8 (rootsL a)] := by
 refine ⟨0, [(3, .o .u8), (7, .k), (8, .k), (9, .k)], fun n vs H => ∃ k : Nat, k ≤ a.length ∧ n = a.length - k ∧ vs = [.own .u8 0, .sl false .u8 a, .int .i64 a.length, .int .i64 k] ∧ H = [.row true .u8 (rootsL (a.take k))], ⟨rfl, a.length, 0, by omega, rfl, rfl, rfl⟩, ?_⟩
 rintro n vs H ⟨k, hk, rfl, rfl, rfl⟩
 have hlen := rootsL_len (a.take k)
 rw [List.length_take] at hlen
 refine ⟨fun hlt => ?_, fun hlt => ?_⟩
 ·have hk' : k < a.length := by omega
  refine ⟨⟨by omega, by omega⟩, ⟨by show (rootsL (a.take k)).length ≤ 100000; omega, by show 2 ≤ 100000; omega⟩, ⟨by omega, by omega⟩, rfl, a.length - (k + 1), by omega, k + 1, by omega, rfl, rfl, ?_⟩
  rw [take_snoc a k hk', rootsL_snoc]
  rfl
 ·have hke : k = a.length := by omega
  subst hke
  rw [List.take_length]
  exact ⟨rfl, rfl, rfl, rfl⟩
def C19 : List (Nat × Con) := (52, pureC [.v (.sl .u8)] sRoots) :: C18
theorem k19 : Known Tryd.prog (En C19 tys G6 []) := k18.add Tryd.func52 Tryd.call52 [.o .u8] fun ds p v bs h hp => by
 unfold sRoots at h
 split at h <;> simp only [Option.some.injEq, Prod.mk.injEq, reduceCtorEq] at h
 obtain ⟨rfl, rfl, rfl⟩ := h
 exact bRoots _ hp

def divQ (a b : List UInt8) : List UInt8 := trimL (divR a b).1
theorem divQ_len (a b : List UInt8) : (divQ a b).length ≤ a.length + 1 := by
 unfold divQ divR
 have h1 := trimL_len a
 refine Nat.le_trans (trimL_len _) ?_
 rw [(divA_len _ _ _ _ _).1, List.length_replicate]
 omega
def partL (all : List UInt8) (x y : UInt8) : List UInt8 := prodL (divQ all [x, 1]) [mulL y (invL (horner x (divQ all [x, 1])))]
theorem partL_len (all : List UInt8) (x y : UInt8) : (partL all x y).length ≤ all.length + 2 := by
 have h1 := divQ_len all [x, 1]
 have h2 := prodL_len (divQ all [x, 1]) [mulL y (invL (horner x (divQ all [x, 1])))]
 unfold partL
 simp only [List.length_cons, List.length_nil] at h2
 omega
theorem trim_x1 (x : UInt8) : trimL [x, 1] ≠ [] := by
 have : trimL [x, 1] = [x, 1] := trimL_snoc 1 [x]
 rw [this]
 simp
def sPart : List V → Option (Prop × V × List Blk)
 | [.u8 x, .u8 y, .rp false (.sl .u8) all 0] => some (all.length ≤ 50000, .own .u8 0, [.row true .u8 (partL all x y)])
 | _ => none
theorem bPart (x y : UInt8) (all : List UInt8) (ha : all.length ≤ 50000) : bodyP (En C19 tys G6 []) Tryd.f63 [.o .u8] [.u8 x, .u8 y, .rp false (.sl .u8) all 0] (.own .u8 0) [.row true .u8 (partL all x y)] := by
 have h1 := divQ_len all [x, 1]
 refine ⟨⟨by show all.length ≤ 100000; omega, by show 2 ≤ 100000; omega, trim_x1 x⟩, ?_⟩
 refine ⟨by show (divQ all [x, 1]).length ≤ 1000000; omega, trivial, trivial, ⟨by show (divQ all [x, 1]).length ≤ 100000; omega, by show 1 ≤ 100000; omega⟩, rfl, rfl, rfl, rfl⟩
def C20 : List (Nat × Con) := (63, pureC [.v .u8, .v .u8, .ref (.sl .u8)] sPart) :: C19
theorem k20 : Known Tryd.prog (En C20 tys G6 []) := k19.add Tryd.func63 Tryd.call63 [.o .u8] fun ds p v bs h hp => by
 unfold sPart at h
 split at h <;> simp only [Option.some.injEq, Prod.mk.injEq, reduceCtorEq] at h
 obtain ⟨rfl, rfl, rfl⟩ := h
 exact bPart _ _ _ hp
end Go.Proofs.YtpfehhcljeagoaaDoor.S28

namespace Go.Proofs.YtpfehhcljeagoaaDoor.S28
open Go Go.Proofs.YtpfehhcljeagoaaDoor.Vc Go.Proofs
set_option maxRecDepth 100000

def thrF (all : List UInt8) (zs : List (UInt8 × UInt8)) : List UInt8 := zs.foldl (fun p q => sumL [p, partL all q.1 q.2]) []
def thrL (xs ys : List UInt8) : List UInt8 := thrF (rootsL xs) (xs.zip ys)
theorem thrF_snoc (all : List UInt8) (zs : List (UInt8 × UInt8)) (q : UInt8 × UInt8) : thrF all (zs ++ [q]) = sumL [thrF all zs, partL all q.1 q.2] := by simp [thrF]
theorem thrF_len (all : List UInt8) (zs : List (UInt8 × UInt8)) : (thrF all zs).length ≤ all.length + 2 := by
 have : ∀ (zs : List (UInt8 × UInt8)) (p : List UInt8), p.length ≤ all.length + 2 → (zs.foldl (fun p q => sumL [p, partL all q.1 q.2]) p).length ≤ all.length + 2 := by
  intro zs
  induction zs with
  | nil => intro p h; exact h
  | cons q zs ih =>
   intro p h
   refine ih _ (Nat.le_trans (trimL_len _) (sumA_len _ _ fun r hr => ?_))
   simp only [List.mem_cons, List.not_mem_nil, or_false] at hr
   rcases hr with hr | hr <;> subst hr
   ·exact h
   ·exact partL_len _ _ _
 exact this zs [] (by simp)
theorem zip_snoc (xs ys : List UInt8) (k : Nat) (h1 : k < xs.length) (h2 : k < ys.length) : (xs.take (k + 1)).zip (ys.take (k + 1)) = (xs.take k).zip (ys.take k) ++ [(xs.getD k 0, ys.getD k 0)] := by
 rw [take_snoc xs k h1, take_snoc ys k h2, List.zip_append (by simp; omega)]
 rfl
def sThrough : List V → Option (Prop × V × List Blk)
 | [.sl false .u8 a, .sl false .u8 b] => some (a.length ≤ 10000 ∧ a.length = b.length, .own .u8 0, [.row true .u8 (thrL a b)])
 | _ => none
theorem bThrough (a b : List UInt8) (ha : a.length ≤ 10000) (hab : a.length = b.length) : bodyP (En C20 tys G6 []) Tryd.f53 [.o .u8] [.sl false .u8 a, .sl false .u8 b] (.own .u8 0) [.row true .u8 (thrL a b)] := by
 have hall := rootsL_len a
 refine ⟨ha, ⟨rfl, rfl, rfl⟩, ?_⟩
 refine ⟨2, [(1, .k), (6, .k), (7, .o .u8), (13, .k), (14, .k), (15, .k)], fun n vs H => ∃ k : Nat, k ≤ a.length ∧ n = a.length - k ∧ vs = [.sl false .u8 b, .fn 63 [.ptr 1 1 0 0], .own .u8 2, .sl false .u8 a, .int .i64 a.length, .int .i64 k] ∧ H = [.row true .u8 (rootsL a), .cells [.own .u8 0], .row true .u8 (thrF (rootsL a) ((a.take k).zip (b.take k)))], ⟨rfl, a.length, 0, by omega, rfl, rfl, rfl⟩, ?_⟩
 rintro n vs H ⟨k, hk, rfl, rfl, rfl⟩
 have hlen := thrF_len (rootsL a) ((a.take k).zip (b.take k))
 refine ⟨fun hlt => ?_, fun hlt => ?_⟩
 ·have hk' : k < a.length := by omega
  have hpl := partL_len (rootsL a) (a.getD k 0) (b.getD k 0)
  refine ⟨⟨by omega, by omega⟩, ⟨by omega, by omega⟩, by show (rootsL a).length ≤ 50000; omega, ⟨by show 2 ≤ 1000; omega, ?_⟩, ⟨by omega, by omega⟩, rfl, a.length - (k + 1), by omega, k + 1, by omega, rfl, rfl, ?_⟩
  ·intro p hp
   replace hp : p ∈ [thrF (rootsL a) ((a.take k).zip (b.take k)), partL (rootsL a) (a.getD k 0) (b.getD k 0)] := hp
   simp only [List.mem_cons, List.not_mem_nil, or_false] at hp
   rcases hp with h | h <;> subst h <;> omega
  ·rw [zip_snoc a b k hk' (by omega), thrF_snoc]
   rfl
 ·have hke : k = a.length := by omega
  rw [hke, List.take_length, hab, List.take_length]
  exact ⟨rfl, rfl, rfl, rfl⟩
def C21 : List (Nat × Con) := (53, pureC [.v (.sl .u8), .v (.sl .u8)] sThrough) :: C20
theorem k21 : Known Tryd.prog (En C21 tys G6 []) := k20.add Tryd.func53 Tryd.call53 [.o .u8] fun ds p v bs h hp => by
 unfold sThrough at h
 split at h <;> simp only [Option.some.injEq, Prod.mk.injEq, reduceCtorEq] at h
 obtain ⟨rfl, rfl, rfl⟩ := h
 exact bThrough _ _ hp.1 hp.2
end Go.Proofs.YtpfehhcljeagoaaDoor.S28

namespace Go.Proofs.YtpfehhcljeagoaaDoor.S28
open Go Go.Proofs.YtpfehhcljeagoaaDoor.Vc Go.Proofs
set_option maxRecDepth 100000

instance (xs ys : List UInt8) : Decidable (rightP xs ys) := inferInstanceAs (Decidable (_ ∧ _))
def C22 : List (Nat × Con) := C21
theorem k22 : Known Tryd.prog (En C22 tys G6 []) := k21
def C23 : List (Nat × Con) := C22
theorem k23 : Known Tryd.prog (En C23 tys G6 []) := k22
end Go.Proofs.YtpfehhcljeagoaaDoor.S28

namespace Go.Proofs.YtpfehhcljeagoaaDoor.S28
open Go Go.Proofs.YtpfehhcljeagoaaDoor.Vc Go.Proofs
set_option maxRecDepth 100000

def divM (a b : List UInt8) : List UInt8 := trimL (divR a b).2
def small (l : List UInt8) : Prop := l.length ≤ 40000
instance (l : List UInt8) : Decidable (small l) := inferInstanceAs (Decidable (_ ≤ _))
def eu : Nat → Int → List UInt8 → List UInt8 → List UInt8 → List UInt8 → Option (List UInt8 × List UInt8)
 | 0, _, _, _, _, _ => none
 | f + 1, m, a, b, u, v => if small a ∧ small b ∧ small u ∧ small v then
   if 2 * degL b < m then some (b, v) else if trimL b = [] then none else eu f m b (divM a b) v (sumL [u, prodL (divQ a b) v])
  else none
def missA (p xs ys : List UInt8) : Nat → List Int
 | 0 => []
 | k + 1 => if horner (xs.getD k 0) p ≠ ys.getD k 0 then missA p xs ys k ++ [(k : Int)] else missA p xs ys k
theorem missA_len (p xs ys : List UInt8) : ∀ k, (missA p xs ys k).length ≤ k
 | 0 => Nat.le_refl _
 | k + 1 => by
  have := missA_len p xs ys k
  unfold missA
  split
  ·rw [List.length_append, List.length_singleton]; omega
  ·omega
def decEnd (xs ys : List UInt8) (d w : Int) (b v : List UInt8) : Option (List UInt8 × List Int × Int) :=
 if trimL v = [] then none else if 0 < (divM b v).length then some ([], [], 17) else if d < degL (divQ b v) then some ([], [], 17) else
  if w < (missA (divQ b v) xs ys xs.length).length then some ([], [], 17) else some (divQ b v, missA (divQ b v) xs ys xs.length, 0)
def decL (xs ys : List UInt8) (d w : Int) : Option (List UInt8 × List Int × Int) :=
 if rightP xs ys then
  if d < 0 ∨ w < 0 ∨ (xs.length : Int) ≤ d ∨ ((xs.length : Int) - d - 1) / 2 < w then some ([], [], 3)
  else match eu 20000 (xs.length + d + 1) (rootsL xs) (thrL xs ys) [] [1] with
   | none => none
   | some (b, v) => decEnd xs ys d w b v
 else some ([], [], 1)
def sDec : List V → Option (Prop × V × List Blk)
 | [.sl false .u8 a, .sl false .u8 b, .int .i64 d, .int .i64 w] => match decL a b d w with
  | some (p, l, e) => some (a.length ≤ 10000 ∧ b.length ≤ 10000, .tup [.own .u8 0, .own (.int .i64) 1, .int .i64 e], [.row true .u8 p, .row true (.int .i64) l])
  | none => none
 | _ => none
set_option maxHeartbeats 4000000 in
theorem bDec (a b : List UInt8) (d w : Int) (p : List UInt8) (l : List Int) (e : Int) (ha : a.length ≤ 10000) (hb : b.length ≤ 10000) (hd : decL a b d w = some (p, l, e)) :
  bodyP (En C23 tys G6 []) Tryd.f47 [.o .u8, .o (.int .i64), .k] [.sl false .u8 a, .sl false .u8 b, .int .i64 d, .int .i64 w] (.tup [.own .u8 0, .own (.int .i64) 1, .int .i64 e]) [.row true .u8 p, .row true (.int .i64) l] := by
 have bad : ∀ {c : Int}, decL a b d w = some ([], [], c) → p = [] ∧ l = [] ∧ e = c := fun {c} h => by
  rw [h] at hd
  simp only [Option.some.injEq, Prod.mk.injEq] at hd
  exact ⟨hd.1.symm, hd.2.1.symm, hd.2.2.symm⟩
 refine ⟨⟨by show a.length ≤ 100000; omega, by show b.length ≤ 100000; omega⟩, fun h => ?_, fun h => ?_⟩
 ·obtain ⟨rfl, rfl, rfl⟩ := bad (if_neg h)
  exact ⟨rfl, rfl, rfl, rfl⟩
 have h : rightP a b := Classical.not_not.1 h
 have bad3 : (d < 0 ∨ w < 0 ∨ (a.length : Int) ≤ d ∨ ((a.length : Int) - d - 1) / 2 < w) → p = [] ∧ l = [] ∧ e = 3 := fun hx => bad (by unfold decL; rw [if_pos h, if_pos hx])
 refine ⟨fun h1 => ⟨fun h2 => ⟨fun h3 => ?_, fun h3 => ?_⟩, fun h2 => ?_⟩, fun h1 => ?_⟩
 rotate_left
 ·obtain ⟨rfl, rfl, rfl⟩ := bad3 (.inr (.inr (.inl h3)))
  exact ⟨rfl, rfl, rfl, rfl⟩
 ·obtain ⟨rfl, rfl, rfl⟩ := bad3 (.inr (.inl h2))
  exact ⟨rfl, rfl, rfl, rfl⟩
 ·obtain ⟨rfl, rfl, rfl⟩ := bad3 (.inl h1)
  exact ⟨rfl, rfl, rfl, rfl⟩
 replace h1 : ¬ d < 0 := h1
 replace h2 : ¬ w < 0 := h2
 replace h3 : ¬ (a.length : Int) ≤ d := h3
 refine ⟨⟨by omega, by omega⟩, ⟨by omega, by omega⟩, .inl ⟨⟨by omega, by omega⟩, ⟨fun h4 => ?_, fun h4 => ?_⟩⟩⟩
 ·obtain ⟨rfl, rfl, rfl⟩ := bad3 (.inr (.inr (.inr h4)))
  exact ⟨rfl, rfl, rfl, rfl⟩
 replace h4 : ¬ ((a.length : Int) - d - 1) / 2 < w := h4
 have hx : ¬ (d < 0 ∨ w < 0 ∨ (a.length : Int) ≤ d ∨ ((a.length : Int) - d - 1) / 2 < w) := by
  rintro (h | h | h | h) <;> contradiction
 unfold decL at hd
 rw [if_pos h, if_neg hx] at hd
 cases heu : eu 20000 (a.length + d + 1) (rootsL a) (thrL a b) [] [1] with
 | none => rw [heu] at hd; cases hd
 | some q =>
 obtain ⟨b1, v1⟩ := q
 rw [heu] at hd
 replace hd : decEnd a b d w b1 v1 = some (p, l, e) := hd
 refine ⟨ha, ⟨ha, h.2⟩, ?_⟩
 refine ⟨0, [(0, .k), (1, .k), (2, .k), (3, .k), (9, .k), (11, .k), (12, .d .u8), (13, .d .u8), (14, .d .u8), (15, .d .u8)], fun f vs H => ∃ a' b' u' v' : List UInt8, eu f (a.length + d + 1) a' b' u' v' = some (b1, v1) ∧ vs = [.sl false .u8 a, .sl false .u8 b, .int .i64 d, .int .i64 w, .nils, .int .i64 a.length, .sl true .u8 a', .sl true .u8 b', .sl true .u8 u', .sl true .u8 v'] ∧ H = [], ⟨rfl, 20000, rootsL a, thrL a b, [], [1], heu, rfl, rfl⟩, ?_⟩
 rintro f vs H ⟨a', b', u', v', he, rfl, rfl⟩
 cases f with
 | zero => cases he
 | succ f =>
 unfold eu at he
 split at he
 ·rename_i hsm
  obtain ⟨hs1, hs2, hs3, hs4⟩ := hsm
  unfold small at hs1 hs2 hs3 hs4
  have htb := trimL_len b'
  have hdeg : degL b' = (trimL b').length - 1 := rfl
  refine ⟨by show b'.length ≤ 1000000; omega, ⟨by omega, by omega⟩, ⟨by omega, by omega⟩, ⟨by omega, by omega⟩, fun h5 => ?_, fun h5 => ?_⟩
  ·replace h5 : 2 * degL b' < a.length + d + 1 := h5
   rw [if_pos h5] at he
   simp only [Option.some.injEq, Prod.mk.injEq] at he
   obtain ⟨rfl, rfl⟩ := he
   unfold decEnd at hd
   split at hd
   ·cases hd
   ·rename_i htr
    have hq := divQ_len b' v'
    have bad' : ∀ {c : Int}, some (([] : List UInt8), ([] : List Int), c) = some (p, l, e) → p = [] ∧ l = [] ∧ e = c := fun {c} h => by
     simp only [Option.some.injEq, Prod.mk.injEq] at h
     exact ⟨h.1.symm, h.2.1.symm, h.2.2.symm⟩
    refine ⟨⟨by show b'.length ≤ 100000; omega, by show v'.length ≤ 100000; omega, htr⟩, fun g1 => ⟨by show (divQ b' v').length ≤ 1000000; omega, ⟨fun h6 => ?_, fun h6 => ?_⟩⟩, fun g1 => ?_⟩
    ·replace g1 : ¬ (0 : Int) < (divM b' v').length := g1
     replace h6 : d < degL (divQ b' v') := h6
     rw [if_neg (by omega), if_pos h6] at hd
     obtain ⟨rfl, rfl, rfl⟩ := bad' hd
     exact ⟨rfl, rfl, rfl, rfl⟩
    ·replace g1 : ¬ (0 : Int) < (divM b' v').length := g1
     replace h6 : ¬ d < degL (divQ b' v') := h6
     rw [if_neg (by omega), if_neg h6] at hd
     refine ⟨0, [(1, .k), (3, .k), (8, .o .u8), (9, .o (.int .i64)), (91, .k), (92, .k), (93, .k)], fun n vs H => ∃ k : Nat, k ≤ a.length ∧ n = a.length - k ∧ vs = [.sl false .u8 b, .int .i64 w, .own .u8 0, .own (.int .i64) 1, .sl false .u8 a, .int .i64 a.length, .int .i64 k] ∧ H = [.row true .u8 (divQ b' v'), .row true (.int .i64) (missA (divQ b' v') a b k)], ⟨rfl, a.length, 0, by omega, rfl, rfl, rfl⟩, ?_⟩
     rintro n vs H ⟨k, hk, rfl, rfl, rfl⟩
     have hml := missA_len (divQ b' v') a b k
     have hab := h.2
     refine ⟨fun hlt => ?_, fun hlt => ?_⟩
     ·have hk' : k < a.length := by omega
      refine ⟨⟨by omega, by omega⟩, by kernel_rfl, by show (divQ b' v').length ≤ 1000000; omega, ⟨by omega, by omega⟩, fun h7 => ?_, fun h7 => ?_⟩
      ·replace h7 : horner (a.getD k 0) (divQ b' v') ≠ b.getD k 0 := h7
       refine ⟨rfl, ⟨rfl, rfl⟩, ?_, ⟨by omega, by omega⟩, rfl, a.length - (k + 1), by omega, k + 1, by omega, rfl, rfl, ?_⟩
       ·show (missA (divQ b' v') a b k).length + 1 ≤ 1000000000
        omega
       rw [show missA (divQ b' v') a b (k + 1) = _ from if_pos h7]
       rfl
      ·replace h7 : ¬ horner (a.getD k 0) (divQ b' v') ≠ b.getD k 0 := h7
       refine ⟨⟨by omega, by omega⟩, rfl, a.length - (k + 1), by omega, k + 1, by omega, rfl, rfl, ?_⟩
       rw [show missA (divQ b' v') a b (k + 1) = _ from if_neg h7]
       rfl
     ·have hke : k = a.length := by omega
      subst hke
      refine ⟨fun h8 => ?_, fun h8 => ?_⟩
      ·replace h8 : w < (missA (divQ b' v') a b a.length).length := h8
       rw [if_pos h8] at hd
       obtain ⟨rfl, rfl, rfl⟩ := bad' hd
       exact ⟨rfl, rfl, rfl, rfl⟩
      ·replace h8 : ¬ w < (missA (divQ b' v') a b a.length).length := h8
       rw [if_neg h8] at hd
       simp only [Option.some.injEq, Prod.mk.injEq] at hd
       obtain ⟨rfl, rfl, rfl⟩ := hd
       exact ⟨rfl, rfl, rfl, rfl⟩
    ·replace g1 : (0 : Int) < (divM b' v').length := g1
     rw [if_pos (by omega)] at hd
     obtain ⟨rfl, rfl, rfl⟩ := bad' hd
     exact ⟨rfl, rfl, rfl, rfl⟩
  ·replace h5 : ¬ 2 * degL b' < a.length + d + 1 := h5
   rw [if_neg h5] at he
   split at he
   ·cases he
   ·rename_i htr
    have hq := divQ_len a' b'
    have hpr := prodL_len (divQ a' b') v'
    refine ⟨⟨by show a'.length ≤ 100000; omega, by show b'.length ≤ 100000; omega, htr⟩, ⟨by show (divQ a' b').length ≤ 100000; omega, by show v'.length ≤ 100000; omega⟩, ⟨by show 2 ≤ 1000; omega, ?_⟩, rfl, f, by omega, _, _, _, _, he, rfl, rfl⟩
    intro x hx
    replace hx : x ∈ [u', prodL (divQ a' b') v'] := hx
    simp only [List.mem_cons, List.not_mem_nil, or_false] at hx
    rcases hx with h | h <;> subst h <;> omega
 ·cases he
end Go.Proofs.YtpfehhcljeagoaaDoor.S28
