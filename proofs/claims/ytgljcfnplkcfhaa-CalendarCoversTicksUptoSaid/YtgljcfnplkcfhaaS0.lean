/- Texts of this claim: S29.Types, S29.Pa, S29.K0, S29.A0, S29.Pb, S29.A1. -/
import Derived.Test.YtgljcfnplkcfhaaVc8
import Derived.Test.YtgljcfnplkcfhaaProg
import Derived.KernelRfl
set_option linter.unusedVariables false
set_option linter.unusedSimpArgs false
namespace Go.Proofs.Ytgljcfnplkcfhaa.S29
open Go Go.Proofs.Ytgljcfnplkcfhaa.Vc Go.Proofs
theorem ty1 : TyOk Try.prog 1 .fnT := ⟨(by unfold InfoOk; kernel_rfl), _, _, _, Try.underlying1⟩
theorem ty2 : TyOk Try.prog 2 (.int .i64) := ⟨(by unfold InfoOk; kernel_rfl), Try.underlying2⟩
theorem ty3 : TyOk Try.prog 3 (.int .i64) := ⟨(by unfold InfoOk; kernel_rfl), Try.underlying3⟩
theorem ty4 : TyOk Try.prog 4 .bool := ⟨(by unfold InfoOk; kernel_rfl), Try.underlying4⟩
theorem ty5 : TyOk Try.prog 5 .u8 := ⟨(by unfold InfoOk; kernel_rfl), Try.underlying5⟩
theorem ty9 : TyOk Try.prog 9 .str := ⟨(by unfold InfoOk; kernel_rfl), Try.underlying9⟩
theorem ty12 : TyOk Try.prog 12 (.int .u64) := ⟨(by unfold InfoOk; kernel_rfl), Try.underlying12⟩
theorem ty21 : TyOk Try.prog 21 (.int .i32) := ⟨(by unfold InfoOk; kernel_rfl), Try.underlying21⟩
theorem ty22 : TyOk Try.prog 22 (.sl (.int .i64)) := ⟨(by unfold InfoOk; kernel_rfl), 3, Try.underlying22, by unfold InfoOk; kernel_rfl, by decide⟩
theorem ty23 : TyOk Try.prog 23 (.cons (.int .i64) (.cons (.int .i64) (.cons (.int .i64) (.cons (.int .i64) (.cons (.sl (.int .i64)) .nil))))) := ⟨(by unfold InfoOk; kernel_rfl), _, Try.underlying23, by kernel_rfl⟩
theorem ty24 : TyOk Try.prog 24 (.cons (.int .i64) (.cons (.int .i64) (.cons (.int .i64) (.cons (.int .i64) (.cons (.sl (.int .i64)) .nil))))) := ⟨(by unfold InfoOk; kernel_rfl), _, Try.underlying24, by kernel_rfl⟩
theorem ty25 : TyOk Try.prog 25 (.arr 3 (.int .i64)) := ⟨(by unfold InfoOk; kernel_rfl), 3, Try.underlying25, by unfold InfoOk; kernel_rfl, by decide, by kernel_rfl⟩
theorem ty26 : TyOk Try.prog 26 .fnT := ⟨(by unfold InfoOk; kernel_rfl), _, _, _, Try.underlying26⟩
theorem ty27 : TyOk Try.prog 27 .fnT := ⟨(by unfold InfoOk; kernel_rfl), _, _, _, Try.underlying27⟩
theorem ty28 : TyOk Try.prog 28 (.int .i64) := ⟨(by unfold InfoOk; kernel_rfl), Try.underlying28⟩
theorem ty30 : TyOk Try.prog 30 .fnT := ⟨(by unfold InfoOk; kernel_rfl), _, _, _, Try.underlying30⟩
theorem ty31 : TyOk Try.prog 31 (.cons (.int .i64) (.cons (.int .i64) (.cons (.int .i64) .nil))) := ⟨(by unfold InfoOk; kernel_rfl), _, Try.underlying31, by kernel_rfl⟩
theorem ty32 : TyOk Try.prog 32 (.cons (.int .i64) (.cons (.int .i64) (.cons (.int .i64) .nil))) := ⟨(by unfold InfoOk; kernel_rfl), _, Try.underlying32, by kernel_rfl⟩
theorem ty33 : TyOk Try.prog 33 .fnT := ⟨(by unfold InfoOk; kernel_rfl), _, _, _, Try.underlying33⟩
theorem ty35 : TyOk Try.prog 35 .fnT := ⟨(by unfold InfoOk; kernel_rfl), _, _, _, Try.underlying35⟩
theorem ty36 : TyOk Try.prog 36 (.cons (.cons (.int .i64) (.cons (.int .i64) (.cons (.int .i64) (.cons (.int .i64) (.cons (.sl (.int .i64)) .nil))))) (.cons (.int .i64) .nil)) := ⟨(by unfold InfoOk; kernel_rfl), _, Try.underlying36, by kernel_rfl⟩
theorem ty37 : TyOk Try.prog 37 (.cons (.cons (.int .i64) (.cons (.int .i64) (.cons (.int .i64) (.cons (.int .i64) (.cons (.sl (.int .i64)) .nil))))) (.cons (.int .i64) .nil)) := ⟨(by unfold InfoOk; kernel_rfl), _, Try.underlying37, by kernel_rfl⟩
theorem ty38 : TyOk Try.prog 38 .fnT := ⟨(by unfold InfoOk; kernel_rfl), _, _, _, Try.underlying38⟩
theorem ty39 : TyOk Try.prog 39 .fnT := ⟨(by unfold InfoOk; kernel_rfl), _, _, _, Try.underlying39⟩
theorem ty40 : TyOk Try.prog 40 .fnT := ⟨(by unfold InfoOk; kernel_rfl), _, _, _, Try.underlying40⟩
theorem ty41 : TyOk Try.prog 41 .fnT := ⟨(by unfold InfoOk; kernel_rfl), _, _, _, Try.underlying41⟩
theorem ty42 : TyOk Try.prog 42 .fnT := ⟨(by unfold InfoOk; kernel_rfl), _, _, _, Try.underlying42⟩
theorem ty43 : TyOk Try.prog 43 .fnT := ⟨(by unfold InfoOk; kernel_rfl), _, _, _, Try.underlying43⟩
theorem ty44 : TyOk Try.prog 44 (.sl (.cons (.int .i64) (.cons (.int .i64) .nil))) := ⟨(by unfold InfoOk; kernel_rfl), 77, Try.underlying44, by unfold InfoOk; kernel_rfl, by decide⟩
theorem ty45 : TyOk Try.prog 45 (.arr 2 (.int .i64)) := ⟨(by unfold InfoOk; kernel_rfl), 3, Try.underlying45, by unfold InfoOk; kernel_rfl, by decide, by kernel_rfl⟩
theorem ty47 : TyOk Try.prog 47 .fnT := ⟨(by unfold InfoOk; kernel_rfl), _, _, _, Try.underlying47⟩
theorem ty48 : TyOk Try.prog 48 (.cons (.int .i64) (.cons (.int .i64) .nil)) := ⟨(by unfold InfoOk; kernel_rfl), _, Try.underlying48, by kernel_rfl⟩
theorem ty49 : TyOk Try.prog 49 (.cons (.int .i64) (.cons (.int .i64) .nil)) := ⟨(by unfold InfoOk; kernel_rfl), _, Try.underlying49, by kernel_rfl⟩
theorem ty50 : TyOk Try.prog 50 .fnT := ⟨(by unfold InfoOk; kernel_rfl), _, _, _, Try.underlying50⟩
theorem ty52 : TyOk Try.prog 52 .fnT := ⟨(by unfold InfoOk; kernel_rfl), _, _, _, Try.underlying52⟩
theorem ty53 : TyOk Try.prog 53 (.cons (.sl (.int .i64)) (.cons (.int .i64) .nil)) := ⟨(by unfold InfoOk; kernel_rfl), _, Try.underlying53, by kernel_rfl⟩
theorem ty54 : TyOk Try.prog 54 (.cons (.sl (.int .i64)) (.cons (.int .i64) .nil)) := ⟨(by unfold InfoOk; kernel_rfl), _, Try.underlying54, by kernel_rfl⟩
theorem ty55 : TyOk Try.prog 55 .fnT := ⟨(by unfold InfoOk; kernel_rfl), _, _, _, Try.underlying55⟩
theorem ty56 : TyOk Try.prog 56 .fnT := ⟨(by unfold InfoOk; kernel_rfl), _, _, _, Try.underlying56⟩
theorem ty57 : TyOk Try.prog 57 .fnT := ⟨(by unfold InfoOk; kernel_rfl), _, _, _, Try.underlying57⟩
theorem ty58 : TyOk Try.prog 58 (.arr 4 (.int .i64)) := ⟨(by unfold InfoOk; kernel_rfl), 3, Try.underlying58, by unfold InfoOk; kernel_rfl, by decide, by kernel_rfl⟩
theorem ty59 : TyOk Try.prog 59 (.cons (.int .i64) (.cons (.int .i64) (.cons .bool (.cons (.sl (.int .i64)) (.cons (.sl (.int .i64)) (.cons (.sl (.int .i64)) .nil)))))) := ⟨(by unfold InfoOk; kernel_rfl), _, Try.underlying59, by kernel_rfl⟩
theorem ty60 : TyOk Try.prog 60 (.cons (.int .i64) (.cons (.int .i64) (.cons .bool (.cons (.sl (.int .i64)) (.cons (.sl (.int .i64)) (.cons (.sl (.int .i64)) .nil)))))) := ⟨(by unfold InfoOk; kernel_rfl), _, Try.underlying60, by kernel_rfl⟩
theorem ty62 : TyOk Try.prog 62 .fnT := ⟨(by unfold InfoOk; kernel_rfl), _, _, _, Try.underlying62⟩
theorem ty63 : TyOk Try.prog 63 (.cons (.cons (.int .i64) (.cons (.int .i64) (.cons .bool (.cons (.sl (.int .i64)) (.cons (.sl (.int .i64)) (.cons (.sl (.int .i64)) .nil)))))) (.cons (.int .i64) .nil)) := ⟨(by unfold InfoOk; kernel_rfl), _, Try.underlying63, by kernel_rfl⟩
theorem ty64 : TyOk Try.prog 64 (.cons (.cons (.int .i64) (.cons (.int .i64) (.cons .bool (.cons (.sl (.int .i64)) (.cons (.sl (.int .i64)) (.cons (.sl (.int .i64)) .nil)))))) (.cons (.int .i64) .nil)) := ⟨(by unfold InfoOk; kernel_rfl), _, Try.underlying64, by kernel_rfl⟩
theorem ty65 : TyOk Try.prog 65 .fnT := ⟨(by unfold InfoOk; kernel_rfl), _, _, _, Try.underlying65⟩
theorem ty67 : TyOk Try.prog 67 .fnT := ⟨(by unfold InfoOk; kernel_rfl), _, _, _, Try.underlying67⟩
theorem ty68 : TyOk Try.prog 68 (.cons .bool (.cons (.int .i64) .nil)) := ⟨(by unfold InfoOk; kernel_rfl), _, Try.underlying68, by kernel_rfl⟩
theorem ty69 : TyOk Try.prog 69 (.cons .bool (.cons (.int .i64) .nil)) := ⟨(by unfold InfoOk; kernel_rfl), _, Try.underlying69, by kernel_rfl⟩
theorem ty70 : TyOk Try.prog 70 .fnT := ⟨(by unfold InfoOk; kernel_rfl), _, _, _, Try.underlying70⟩
theorem ty71 : TyOk Try.prog 71 .fnT := ⟨(by unfold InfoOk; kernel_rfl), _, _, _, Try.underlying71⟩
theorem ty72 : TyOk Try.prog 72 .fnT := ⟨(by unfold InfoOk; kernel_rfl), _, _, _, Try.underlying72⟩
theorem ty73 : TyOk Try.prog 73 (.sl .bool) := ⟨(by unfold InfoOk; kernel_rfl), 4, Try.underlying73, by unfold InfoOk; kernel_rfl, by decide⟩
theorem ty74 : TyOk Try.prog 74 .fnT := ⟨(by unfold InfoOk; kernel_rfl), _, _, _, Try.underlying74⟩
theorem ty75 : TyOk Try.prog 75 .fnT := ⟨(by unfold InfoOk; kernel_rfl), _, _, _, Try.underlying75⟩
theorem ty76 : TyOk Try.prog 76 (.cons (.int .i64) (.cons (.int .i64) .nil)) := ⟨(by unfold InfoOk; kernel_rfl), _, Try.underlying76, by kernel_rfl⟩
theorem ty77 : TyOk Try.prog 77 (.cons (.int .i64) (.cons (.int .i64) .nil)) := ⟨(by unfold InfoOk; kernel_rfl), _, Try.underlying77, by kernel_rfl⟩
theorem ty78 : TyOk Try.prog 78 .fnT := ⟨(by unfold InfoOk; kernel_rfl), _, _, _, Try.underlying78⟩
theorem ty79 : TyOk Try.prog 79 .fnT := ⟨(by unfold InfoOk; kernel_rfl), _, _, _, Try.underlying79⟩
theorem ty80 : TyOk Try.prog 80 (.sl (.cons (.int .i64) (.cons (.int .i64) (.cons (.int .i64) (.cons (.sl (.int .i64)) (.cons (.int .i64) (.cons (.int .i64) (.cons (.int .i64) (.cons (.int .i64) (.cons (.int .i64) (.cons (.int .i64) .nil))))))))))) := ⟨(by unfold InfoOk; kernel_rfl), 82, Try.underlying80, by unfold InfoOk; kernel_rfl, by decide⟩
theorem ty81 : TyOk Try.prog 81 (.cons (.int .i64) (.cons (.int .i64) (.cons (.int .i64) (.cons (.sl (.int .i64)) (.cons (.int .i64) (.cons (.int .i64) (.cons (.int .i64) (.cons (.int .i64) (.cons (.int .i64) (.cons (.int .i64) .nil)))))))))) := ⟨(by unfold InfoOk; kernel_rfl), _, Try.underlying81, by kernel_rfl⟩
theorem ty82 : TyOk Try.prog 82 (.cons (.int .i64) (.cons (.int .i64) (.cons (.int .i64) (.cons (.sl (.int .i64)) (.cons (.int .i64) (.cons (.int .i64) (.cons (.int .i64) (.cons (.int .i64) (.cons (.int .i64) (.cons (.int .i64) .nil)))))))))) := ⟨(by unfold InfoOk; kernel_rfl), _, Try.underlying82, by kernel_rfl⟩
theorem ty83 : TyOk Try.prog 83 .fnT := ⟨(by unfold InfoOk; kernel_rfl), _, _, _, Try.underlying83⟩
theorem ty85 : TyOk Try.prog 85 .fnT := ⟨(by unfold InfoOk; kernel_rfl), _, _, _, Try.underlying85⟩
theorem ty86 : TyOk Try.prog 86 (.cons (.sl (.cons (.int .i64) (.cons (.int .i64) (.cons (.int .i64) (.cons (.sl (.int .i64)) (.cons (.int .i64) (.cons (.int .i64) (.cons (.int .i64) (.cons (.int .i64) (.cons (.int .i64) (.cons (.int .i64) .nil))))))))))) (.cons (.int .i64) .nil)) := ⟨(by unfold InfoOk; kernel_rfl), _, Try.underlying86, by kernel_rfl⟩
theorem ty87 : TyOk Try.prog 87 (.cons (.sl (.cons (.int .i64) (.cons (.int .i64) (.cons (.int .i64) (.cons (.sl (.int .i64)) (.cons (.int .i64) (.cons (.int .i64) (.cons (.int .i64) (.cons (.int .i64) (.cons (.int .i64) (.cons (.int .i64) .nil))))))))))) (.cons (.int .i64) .nil)) := ⟨(by unfold InfoOk; kernel_rfl), _, Try.underlying87, by kernel_rfl⟩
theorem ty88 : TyOk Try.prog 88 .fnT := ⟨(by unfold InfoOk; kernel_rfl), _, _, _, Try.underlying88⟩
theorem ty89 : TyOk Try.prog 89 .fnT := ⟨(by unfold InfoOk; kernel_rfl), _, _, _, Try.underlying89⟩
theorem ty90 : TyOk Try.prog 90 .fnT := ⟨(by unfold InfoOk; kernel_rfl), _, _, _, Try.underlying90⟩
theorem ty91 : TyOk Try.prog 91 .fnT := ⟨(by unfold InfoOk; kernel_rfl), _, _, _, Try.underlying91⟩
theorem ty92 : TyOk Try.prog 92 (.cons (.sl (.int .i64)) (.cons (.int .i64) .nil)) := ⟨(by unfold InfoOk; kernel_rfl), _, Try.underlying92, by kernel_rfl⟩
theorem ty93 : TyOk Try.prog 93 .fnT := ⟨(by unfold InfoOk; kernel_rfl), _, _, _, Try.underlying93⟩
theorem ty94 : TyOk Try.prog 94 .fnT := ⟨(by unfold InfoOk; kernel_rfl), _, _, _, Try.underlying94⟩
theorem ty95 : TyOk Try.prog 95 .fnT := ⟨(by unfold InfoOk; kernel_rfl), _, _, _, Try.underlying95⟩
theorem ty96 : TyOk Try.prog 96 .fnT := ⟨(by unfold InfoOk; kernel_rfl), _, _, _, Try.underlying96⟩
theorem ty97 : TyOk Try.prog 97 (.cons (.int .i64) (.cons (.sl (.cons (.int .i64) (.cons (.int .i64) .nil))) .nil)) := ⟨(by unfold InfoOk; kernel_rfl), _, Try.underlying97, by kernel_rfl⟩
theorem ty98 : TyOk Try.prog 98 (.cons (.int .i64) (.cons (.sl (.cons (.int .i64) (.cons (.int .i64) .nil))) .nil)) := ⟨(by unfold InfoOk; kernel_rfl), _, Try.underlying98, by kernel_rfl⟩
theorem ty99 : TyOk Try.prog 99 .fnT := ⟨(by unfold InfoOk; kernel_rfl), _, _, _, Try.underlying99⟩
theorem ty100 : TyOk Try.prog 100 .fnT := ⟨(by unfold InfoOk; kernel_rfl), _, _, _, Try.underlying100⟩
theorem ty101 : TyOk Try.prog 101 .fnT := ⟨(by unfold InfoOk; kernel_rfl), _, _, _, Try.underlying101⟩
theorem ty102 : TyOk Try.prog 102 (.cons (.int .i64) (.cons (.int .i64) .nil)) := ⟨(by unfold InfoOk; kernel_rfl), _, Try.underlying102, by kernel_rfl⟩
theorem ty103 : TyOk Try.prog 103 .fnT := ⟨(by unfold InfoOk; kernel_rfl), _, _, _, Try.underlying103⟩
theorem ty104 : TyOk Try.prog 104 .fnT := ⟨(by unfold InfoOk; kernel_rfl), _, _, _, Try.underlying104⟩
theorem ty105 : TyOk Try.prog 105 .fnT := ⟨(by unfold InfoOk; kernel_rfl), _, _, _, Try.underlying105⟩
theorem ty106 : TyOk Try.prog 106 .fnT := ⟨(by unfold InfoOk; kernel_rfl), _, _, _, Try.underlying106⟩
theorem ty107 : TyOk Try.prog 107 .fnT := ⟨(by unfold InfoOk; kernel_rfl), _, _, _, Try.underlying107⟩
theorem ty108 : TyOk Try.prog 108 .fnT := ⟨(by unfold InfoOk; kernel_rfl), _, _, _, Try.underlying108⟩
theorem ty109 : TyOk Try.prog 109 (.cons .bool (.cons (.int .i64) .nil)) := ⟨(by unfold InfoOk; kernel_rfl), _, Try.underlying109, by kernel_rfl⟩
theorem ty110 : TyOk Try.prog 110 .fnT := ⟨(by unfold InfoOk; kernel_rfl), _, _, _, Try.underlying110⟩
theorem ty111 : TyOk Try.prog 111 .fnT := ⟨(by unfold InfoOk; kernel_rfl), _, _, _, Try.underlying111⟩
theorem ty112 : TyOk Try.prog 112 (.sl (.sl (.int .i64))) := ⟨(by unfold InfoOk; kernel_rfl), 22, Try.underlying112, by unfold InfoOk; kernel_rfl, by decide⟩
theorem ty113 : TyOk Try.prog 113 .fnT := ⟨(by unfold InfoOk; kernel_rfl), _, _, _, Try.underlying113⟩
theorem ty114 : TyOk Try.prog 114 .fnT := ⟨(by unfold InfoOk; kernel_rfl), _, _, _, Try.underlying114⟩
theorem ty115 : TyOk Try.prog 115 .fnT := ⟨(by unfold InfoOk; kernel_rfl), _, _, _, Try.underlying115⟩
theorem ty116 : TyOk Try.prog 116 (.arr 2 (.cons (.int .i64) (.cons (.sl (.cons (.int .i64) (.cons (.int .i64) .nil))) .nil))) := ⟨(by unfold InfoOk; kernel_rfl), 98, Try.underlying116, by unfold InfoOk; kernel_rfl, by decide, by kernel_rfl⟩
theorem ty117 : TyOk Try.prog 117 .fnT := ⟨(by unfold InfoOk; kernel_rfl), _, _, _, Try.underlying117⟩
theorem ty118 : TyOk Try.prog 118 .fnT := ⟨(by unfold InfoOk; kernel_rfl), _, _, _, Try.underlying118⟩
theorem ty119 : TyOk Try.prog 119 .fnT := ⟨(by unfold InfoOk; kernel_rfl), _, _, _, Try.underlying119⟩
theorem ty120 : TyOk Try.prog 120 .fnT := ⟨(by unfold InfoOk; kernel_rfl), _, _, _, Try.underlying120⟩
theorem ty122 : TyOk Try.prog 122 .fnT := ⟨(by unfold InfoOk; kernel_rfl), _, _, _, Try.underlying122⟩
theorem ty123 : TyOk Try.prog 123 .fnT := ⟨(by unfold InfoOk; kernel_rfl), _, _, _, Try.underlying123⟩
theorem ty124 : TyOk Try.prog 124 .fnT := ⟨(by unfold InfoOk; kernel_rfl), _, _, _, Try.underlying124⟩
theorem ty125 : TyOk Try.prog 125 .fnT := ⟨(by unfold InfoOk; kernel_rfl), _, _, _, Try.underlying125⟩
theorem ty126 : TyOk Try.prog 126 (.arr 12 .bool) := ⟨(by unfold InfoOk; kernel_rfl), 4, Try.underlying126, by unfold InfoOk; kernel_rfl, by decide, by kernel_rfl⟩
theorem ty127 : TyOk Try.prog 127 (.arr 12 .bool) := ⟨(by unfold InfoOk; kernel_rfl), 4, Try.underlying127, by unfold InfoOk; kernel_rfl, by decide, by kernel_rfl⟩
theorem ty128 : TyOk Try.prog 128 (.sl (.arr 12 .bool)) := ⟨(by unfold InfoOk; kernel_rfl), 127, Try.underlying128, by unfold InfoOk; kernel_rfl, by decide⟩
theorem ty129 : TyOk Try.prog 129 .fnT := ⟨(by unfold InfoOk; kernel_rfl), _, _, _, Try.underlying129⟩
theorem ty130 : TyOk Try.prog 130 .fnT := ⟨(by unfold InfoOk; kernel_rfl), _, _, _, Try.underlying130⟩
theorem ty131 : TyOk Try.prog 131 .fnT := ⟨(by unfold InfoOk; kernel_rfl), _, _, _, Try.underlying131⟩
theorem ty132 : TyOk Try.prog 132 .fnT := ⟨(by unfold InfoOk; kernel_rfl), _, _, _, Try.underlying132⟩
theorem ty133 : TyOk Try.prog 133 .fnT := ⟨(by unfold InfoOk; kernel_rfl), _, _, _, Try.underlying133⟩
theorem ty134 : TyOk Try.prog 134 .fnT := ⟨(by unfold InfoOk; kernel_rfl), _, _, _, Try.underlying134⟩
theorem ty135 : TyOk Try.prog 135 .fnT := ⟨(by unfold InfoOk; kernel_rfl), _, _, _, Try.underlying135⟩
theorem ty136 : TyOk Try.prog 136 .fnT := ⟨(by unfold InfoOk; kernel_rfl), _, _, _, Try.underlying136⟩
theorem ty137 : TyOk Try.prog 137 .fnT := ⟨(by unfold InfoOk; kernel_rfl), _, _, _, Try.underlying137⟩
theorem ty138 : TyOk Try.prog 138 .fnT := ⟨(by unfold InfoOk; kernel_rfl), _, _, _, Try.underlying138⟩
theorem ty139 : TyOk Try.prog 139 .fnT := ⟨(by unfold InfoOk; kernel_rfl), _, _, _, Try.underlying139⟩
theorem ty140 : TyOk Try.prog 140 .fnT := ⟨(by unfold InfoOk; kernel_rfl), _, _, _, Try.underlying140⟩
theorem ty141 : TyOk Try.prog 141 .fnT := ⟨(by unfold InfoOk; kernel_rfl), _, _, _, Try.underlying141⟩
theorem ty142 : TyOk Try.prog 142 .fnT := ⟨(by unfold InfoOk; kernel_rfl), _, _, _, Try.underlying142⟩
theorem ty143 : TyOk Try.prog 143 .fnT := ⟨(by unfold InfoOk; kernel_rfl), _, _, _, Try.underlying143⟩
theorem ty144 : TyOk Try.prog 144 .fnT := ⟨(by unfold InfoOk; kernel_rfl), _, _, _, Try.underlying144⟩
theorem ty145 : TyOk Try.prog 145 .fnT := ⟨(by unfold InfoOk; kernel_rfl), _, _, _, Try.underlying145⟩
theorem ty146 : TyOk Try.prog 146 .fnT := ⟨(by unfold InfoOk; kernel_rfl), _, _, _, Try.underlying146⟩
theorem ty147 : TyOk Try.prog 147 .fnT := ⟨(by unfold InfoOk; kernel_rfl), _, _, _, Try.underlying147⟩
theorem ty148 : TyOk Try.prog 148 .fnT := ⟨(by unfold InfoOk; kernel_rfl), _, _, _, Try.underlying148⟩
theorem ty149 : TyOk Try.prog 149 .fnT := ⟨(by unfold InfoOk; kernel_rfl), _, _, _, Try.underlying149⟩
theorem ty150 : TyOk Try.prog 150 .fnT := ⟨(by unfold InfoOk; kernel_rfl), _, _, _, Try.underlying150⟩
theorem ty151 : TyOk Try.prog 151 .fnT := ⟨(by unfold InfoOk; kernel_rfl), _, _, _, Try.underlying151⟩
theorem ty152 : TyOk Try.prog 152 .fnT := ⟨(by unfold InfoOk; kernel_rfl), _, _, _, Try.underlying152⟩
theorem ty153 : TyOk Try.prog 153 .fnT := ⟨(by unfold InfoOk; kernel_rfl), _, _, _, Try.underlying153⟩
theorem ty155 : TyOk Try.prog 155 .fnT := ⟨(by unfold InfoOk; kernel_rfl), _, _, _, Try.underlying155⟩
theorem ty156 : TyOk Try.prog 156 .fnT := ⟨(by unfold InfoOk; kernel_rfl), _, _, _, Try.underlying156⟩
theorem ty157 : TyOk Try.prog 157 .fnT := ⟨(by unfold InfoOk; kernel_rfl), _, _, _, Try.underlying157⟩
theorem ty158 : TyOk Try.prog 158 .fnT := ⟨(by unfold InfoOk; kernel_rfl), _, _, _, Try.underlying158⟩
theorem ty160 : TyOk Try.prog 160 .fnT := ⟨(by unfold InfoOk; kernel_rfl), _, _, _, Try.underlying160⟩
theorem ty162 : TyOk Try.prog 162 .fnT := ⟨(by unfold InfoOk; kernel_rfl), _, _, _, Try.underlying162⟩
theorem ty163 : TyOk Try.prog 163 .fnT := ⟨(by unfold InfoOk; kernel_rfl), _, _, _, Try.underlying163⟩
theorem ty164 : TyOk Try.prog 164 .fnT := ⟨(by unfold InfoOk; kernel_rfl), _, _, _, Try.underlying164⟩
theorem ty165 : TyOk Try.prog 165 .fnT := ⟨(by unfold InfoOk; kernel_rfl), _, _, _, Try.underlying165⟩
theorem ty166 : TyOk Try.prog 166 .fnT := ⟨(by unfold InfoOk; kernel_rfl), _, _, _, Try.underlying166⟩
theorem ty167 : TyOk Try.prog 167 .fnT := ⟨(by unfold InfoOk; kernel_rfl), _, _, _, Try.underlying167⟩
theorem ty168 : TyOk Try.prog 168 .fnT := ⟨(by unfold InfoOk; kernel_rfl), _, _, _, Try.underlying168⟩
theorem ty169 : TyOk Try.prog 169 .fnT := ⟨(by unfold InfoOk; kernel_rfl), _, _, _, Try.underlying169⟩
theorem ty170 : TyOk Try.prog 170 .fnT := ⟨(by unfold InfoOk; kernel_rfl), _, _, _, Try.underlying170⟩
theorem ty171 : TyOk Try.prog 171 .fnT := ⟨(by unfold InfoOk; kernel_rfl), _, _, _, Try.underlying171⟩
theorem ty172 : TyOk Try.prog 172 .fnT := ⟨(by unfold InfoOk; kernel_rfl), _, _, _, Try.underlying172⟩
theorem ty178 : TyOk Try.prog 178 (.int .u32) := ⟨(by unfold InfoOk; kernel_rfl), Try.underlying178⟩
theorem ty181 : TyOk Try.prog 181 .fnT := ⟨(by unfold InfoOk; kernel_rfl), _, _, _, Try.underlying181⟩
def tys : List (Nat × Ty) := [(1, .fnT), (2, (.int .i64)), (3, (.int .i64)), (4, .bool), (5, .u8), (9, .str), (12, (.int .u64)), (21, (.int .i32)), (22, (.sl (.int .i64))), (23, (.cons (.int .i64) (.cons (.int .i64) (.cons (.int .i64) (.cons (.int .i64) (.cons (.sl (.int .i64)) .nil)))))), (24, (.cons (.int .i64) (.cons (.int .i64) (.cons (.int .i64) (.cons (.int .i64) (.cons (.sl (.int .i64)) .nil)))))), (25, (.arr 3 (.int .i64))), (26, .fnT), (27, .fnT), (28, (.int .i64)), (30, .fnT), (31, (.cons (.int .i64) (.cons (.int .i64) (.cons (.int .i64) .nil)))), (32, (.cons (.int .i64) (.cons (.int .i64) (.cons (.int .i64) .nil)))), (33, .fnT), (35, .fnT), (36, (.cons (.cons (.int .i64) (.cons (.int .i64) (.cons (.int .i64) (.cons (.int .i64) (.cons (.sl (.int .i64)) .nil))))) (.cons (.int .i64) .nil))), (37, (.cons (.cons (.int .i64) (.cons (.int .i64) (.cons (.int .i64) (.cons (.int .i64) (.cons (.sl (.int .i64)) .nil))))) (.cons (.int .i64) .nil))), (38, .fnT), (39, .fnT), (40, .fnT), (41, .fnT), (42, .fnT), (43, .fnT), (44, (.sl (.cons (.int .i64) (.cons (.int .i64) .nil)))), (45, (.arr 2 (.int .i64))), (47, .fnT), (48, (.cons (.int .i64) (.cons (.int .i64) .nil))), (49, (.cons (.int .i64) (.cons (.int .i64) .nil))), (50, .fnT), (52, .fnT), (53, (.cons (.sl (.int .i64)) (.cons (.int .i64) .nil))), (54, (.cons (.sl (.int .i64)) (.cons (.int .i64) .nil))), (55, .fnT), (56, .fnT), (57, .fnT), (58, (.arr 4 (.int .i64))), (59, (.cons (.int .i64) (.cons (.int .i64) (.cons .bool (.cons (.sl (.int .i64)) (.cons (.sl (.int .i64)) (.cons (.sl (.int .i64)) .nil))))))), (60, (.cons (.int .i64) (.cons (.int .i64) (.cons .bool (.cons (.sl (.int .i64)) (.cons (.sl (.int .i64)) (.cons (.sl (.int .i64)) .nil))))))), (62, .fnT), (63, (.cons (.cons (.int .i64) (.cons (.int .i64) (.cons .bool (.cons (.sl (.int .i64)) (.cons (.sl (.int .i64)) (.cons (.sl (.int .i64)) .nil)))))) (.cons (.int .i64) .nil))), (64, (.cons (.cons (.int .i64) (.cons (.int .i64) (.cons .bool (.cons (.sl (.int .i64)) (.cons (.sl (.int .i64)) (.cons (.sl (.int .i64)) .nil)))))) (.cons (.int .i64) .nil))), (65, .fnT), (67, .fnT), (68, (.cons .bool (.cons (.int .i64) .nil))), (69, (.cons .bool (.cons (.int .i64) .nil))), (70, .fnT), (71, .fnT), (72, .fnT), (73, (.sl .bool)), (74, .fnT), (75, .fnT), (76, (.cons (.int .i64) (.cons (.int .i64) .nil))), (77, (.cons (.int .i64) (.cons (.int .i64) .nil))), (78, .fnT), (79, .fnT), (80, (.sl (.cons (.int .i64) (.cons (.int .i64) (.cons (.int .i64) (.cons (.sl (.int .i64)) (.cons (.int .i64) (.cons (.int .i64) (.cons (.int .i64) (.cons (.int .i64) (.cons (.int .i64) (.cons (.int .i64) .nil)))))))))))), (81, (.cons (.int .i64) (.cons (.int .i64) (.cons (.int .i64) (.cons (.sl (.int .i64)) (.cons (.int .i64) (.cons (.int .i64) (.cons (.int .i64) (.cons (.int .i64) (.cons (.int .i64) (.cons (.int .i64) .nil))))))))))), (82, (.cons (.int .i64) (.cons (.int .i64) (.cons (.int .i64) (.cons (.sl (.int .i64)) (.cons (.int .i64) (.cons (.int .i64) (.cons (.int .i64) (.cons (.int .i64) (.cons (.int .i64) (.cons (.int .i64) .nil))))))))))), (83, .fnT), (85, .fnT), (86, (.cons (.sl (.cons (.int .i64) (.cons (.int .i64) (.cons (.int .i64) (.cons (.sl (.int .i64)) (.cons (.int .i64) (.cons (.int .i64) (.cons (.int .i64) (.cons (.int .i64) (.cons (.int .i64) (.cons (.int .i64) .nil))))))))))) (.cons (.int .i64) .nil))), (87, (.cons (.sl (.cons (.int .i64) (.cons (.int .i64) (.cons (.int .i64) (.cons (.sl (.int .i64)) (.cons (.int .i64) (.cons (.int .i64) (.cons (.int .i64) (.cons (.int .i64) (.cons (.int .i64) (.cons (.int .i64) .nil))))))))))) (.cons (.int .i64) .nil))), (88, .fnT), (89, .fnT), (90, .fnT), (91, .fnT), (92, (.cons (.sl (.int .i64)) (.cons (.int .i64) .nil))), (93, .fnT), (94, .fnT), (95, .fnT), (96, .fnT), (97, (.cons (.int .i64) (.cons (.sl (.cons (.int .i64) (.cons (.int .i64) .nil))) .nil))), (98, (.cons (.int .i64) (.cons (.sl (.cons (.int .i64) (.cons (.int .i64) .nil))) .nil))), (99, .fnT), (100, .fnT), (101, .fnT), (102, (.cons (.int .i64) (.cons (.int .i64) .nil))), (103, .fnT), (104, .fnT), (105, .fnT), (106, .fnT), (107, .fnT), (108, .fnT), (109, (.cons .bool (.cons (.int .i64) .nil))), (110, .fnT), (111, .fnT), (112, (.sl (.sl (.int .i64)))), (113, .fnT), (114, .fnT), (115, .fnT), (116, (.arr 2 (.cons (.int .i64) (.cons (.sl (.cons (.int .i64) (.cons (.int .i64) .nil))) .nil)))), (117, .fnT), (118, .fnT), (119, .fnT), (120, .fnT), (122, .fnT), (123, .fnT), (124, .fnT), (125, .fnT), (126, (.arr 12 .bool)), (127, (.arr 12 .bool)), (128, (.sl (.arr 12 .bool))), (129, .fnT), (130, .fnT), (131, .fnT), (132, .fnT), (133, .fnT), (134, .fnT), (135, .fnT), (136, .fnT), (137, .fnT), (138, .fnT), (139, .fnT), (140, .fnT), (141, .fnT), (142, .fnT), (143, .fnT), (144, .fnT), (145, .fnT), (146, .fnT), (147, .fnT), (148, .fnT), (149, .fnT), (150, .fnT), (151, .fnT), (152, .fnT), (153, .fnT), (155, .fnT), (156, .fnT), (157, .fnT), (158, .fnT), (160, .fnT), (162, .fnT), (163, .fnT), (164, .fnT), (165, .fnT), (166, .fnT), (167, .fnT), (168, .fnT), (169, .fnT), (170, .fnT), (171, .fnT), (172, .fnT), (178, (.int .u32)), (181, .fnT)]
theorem tysOk : ∀ T t, lk tys T = some t → TyOk Try.prog T t ∧ eqTyOk Try.prog T t = true :=
  AllTy.ok (⟨⟨ty1, by kernel_rfl⟩, ⟨ty2, by kernel_rfl⟩, ⟨ty3, by kernel_rfl⟩, ⟨ty4, by kernel_rfl⟩, ⟨ty5, by kernel_rfl⟩, ⟨ty9, by kernel_rfl⟩, ⟨ty12, by kernel_rfl⟩, ⟨ty21, by kernel_rfl⟩, ⟨ty22, by kernel_rfl⟩, ⟨ty23, by kernel_rfl⟩, ⟨ty24, by kernel_rfl⟩, ⟨ty25, by kernel_rfl⟩, ⟨ty26, by kernel_rfl⟩, ⟨ty27, by kernel_rfl⟩, ⟨ty28, by kernel_rfl⟩, ⟨ty30, by kernel_rfl⟩, ⟨ty31, by kernel_rfl⟩, ⟨ty32, by kernel_rfl⟩, ⟨ty33, by kernel_rfl⟩, ⟨ty35, by kernel_rfl⟩, ⟨ty36, by kernel_rfl⟩, ⟨ty37, by kernel_rfl⟩, ⟨ty38, by kernel_rfl⟩, ⟨ty39, by kernel_rfl⟩, ⟨ty40, by kernel_rfl⟩, ⟨ty41, by kernel_rfl⟩, ⟨ty42, by kernel_rfl⟩, ⟨ty43, by kernel_rfl⟩, ⟨ty44, by kernel_rfl⟩, ⟨ty45, by kernel_rfl⟩, ⟨ty47, by kernel_rfl⟩, ⟨ty48, by kernel_rfl⟩, ⟨ty49, by kernel_rfl⟩, ⟨ty50, by kernel_rfl⟩, ⟨ty52, by kernel_rfl⟩, ⟨ty53, by kernel_rfl⟩, ⟨ty54, by kernel_rfl⟩, ⟨ty55, by kernel_rfl⟩, ⟨ty56, by kernel_rfl⟩, ⟨ty57, by kernel_rfl⟩, ⟨ty58, by kernel_rfl⟩, ⟨ty59, by kernel_rfl⟩, ⟨ty60, by kernel_rfl⟩, ⟨ty62, by kernel_rfl⟩, ⟨ty63, by kernel_rfl⟩, ⟨ty64, by kernel_rfl⟩, ⟨ty65, by kernel_rfl⟩, ⟨ty67, by kernel_rfl⟩, ⟨ty68, by kernel_rfl⟩, ⟨ty69, by kernel_rfl⟩, ⟨ty70, by kernel_rfl⟩, ⟨ty71, by kernel_rfl⟩, ⟨ty72, by kernel_rfl⟩, ⟨ty73, by kernel_rfl⟩, ⟨ty74, by kernel_rfl⟩, ⟨ty75, by kernel_rfl⟩, ⟨ty76, by kernel_rfl⟩, ⟨ty77, by kernel_rfl⟩, ⟨ty78, by kernel_rfl⟩, ⟨ty79, by kernel_rfl⟩, ⟨ty80, by kernel_rfl⟩, ⟨ty81, by kernel_rfl⟩, ⟨ty82, by kernel_rfl⟩, ⟨ty83, by kernel_rfl⟩, ⟨ty85, by kernel_rfl⟩, ⟨ty86, by kernel_rfl⟩, ⟨ty87, by kernel_rfl⟩, ⟨ty88, by kernel_rfl⟩, ⟨ty89, by kernel_rfl⟩, ⟨ty90, by kernel_rfl⟩, ⟨ty91, by kernel_rfl⟩, ⟨ty92, by kernel_rfl⟩, ⟨ty93, by kernel_rfl⟩, ⟨ty94, by kernel_rfl⟩, ⟨ty95, by kernel_rfl⟩, ⟨ty96, by kernel_rfl⟩, ⟨ty97, by kernel_rfl⟩, ⟨ty98, by kernel_rfl⟩, ⟨ty99, by kernel_rfl⟩, ⟨ty100, by kernel_rfl⟩, ⟨ty101, by kernel_rfl⟩, ⟨ty102, by kernel_rfl⟩, ⟨ty103, by kernel_rfl⟩, ⟨ty104, by kernel_rfl⟩, ⟨ty105, by kernel_rfl⟩, ⟨ty106, by kernel_rfl⟩, ⟨ty107, by kernel_rfl⟩, ⟨ty108, by kernel_rfl⟩, ⟨ty109, by kernel_rfl⟩, ⟨ty110, by kernel_rfl⟩, ⟨ty111, by kernel_rfl⟩, ⟨ty112, by kernel_rfl⟩, ⟨ty113, by kernel_rfl⟩, ⟨ty114, by kernel_rfl⟩, ⟨ty115, by kernel_rfl⟩, ⟨ty116, by kernel_rfl⟩, ⟨ty117, by kernel_rfl⟩, ⟨ty118, by kernel_rfl⟩, ⟨ty119, by kernel_rfl⟩, ⟨ty120, by kernel_rfl⟩, ⟨ty122, by kernel_rfl⟩, ⟨ty123, by kernel_rfl⟩, ⟨ty124, by kernel_rfl⟩, ⟨ty125, by kernel_rfl⟩, ⟨ty126, by kernel_rfl⟩, ⟨ty127, by kernel_rfl⟩, ⟨ty128, by kernel_rfl⟩, ⟨ty129, by kernel_rfl⟩, ⟨ty130, by kernel_rfl⟩, ⟨ty131, by kernel_rfl⟩, ⟨ty132, by kernel_rfl⟩, ⟨ty133, by kernel_rfl⟩, ⟨ty134, by kernel_rfl⟩, ⟨ty135, by kernel_rfl⟩, ⟨ty136, by kernel_rfl⟩, ⟨ty137, by kernel_rfl⟩, ⟨ty138, by kernel_rfl⟩, ⟨ty139, by kernel_rfl⟩, ⟨ty140, by kernel_rfl⟩, ⟨ty141, by kernel_rfl⟩, ⟨ty142, by kernel_rfl⟩, ⟨ty143, by kernel_rfl⟩, ⟨ty144, by kernel_rfl⟩, ⟨ty145, by kernel_rfl⟩, ⟨ty146, by kernel_rfl⟩, ⟨ty147, by kernel_rfl⟩, ⟨ty148, by kernel_rfl⟩, ⟨ty149, by kernel_rfl⟩, ⟨ty150, by kernel_rfl⟩, ⟨ty151, by kernel_rfl⟩, ⟨ty152, by kernel_rfl⟩, ⟨ty153, by kernel_rfl⟩, ⟨ty155, by kernel_rfl⟩, ⟨ty156, by kernel_rfl⟩, ⟨ty157, by kernel_rfl⟩, ⟨ty158, by kernel_rfl⟩, ⟨ty160, by kernel_rfl⟩, ⟨ty162, by kernel_rfl⟩, ⟨ty163, by kernel_rfl⟩, ⟨ty164, by kernel_rfl⟩, ⟨ty165, by kernel_rfl⟩, ⟨ty166, by kernel_rfl⟩, ⟨ty167, by kernel_rfl⟩, ⟨ty168, by kernel_rfl⟩, ⟨ty169, by kernel_rfl⟩, ⟨ty170, by kernel_rfl⟩, ⟨ty171, by kernel_rfl⟩, ⟨ty172, by kernel_rfl⟩, ⟨ty178, by kernel_rfl⟩, ⟨ty181, by kernel_rfl⟩, trivial⟩ : AllTy Try.prog tys)
end Go.Proofs.Ytgljcfnplkcfhaa.S29

namespace Go.Proofs.Ytgljcfnplkcfhaa.S29
open Go

def cntL (b l n : Int) : Int := (l - b) / n + 1
def hsF : Int → List Int → Bool
  | _, [] => true
  | p, h :: t => decide (0 ≤ h ∧ h ≤ 11 ∧ p < h) && hsF h t
def chkL (b l n m : Int) (hs : List Int) : Int :=
  if 0 ≤ b ∧ b ≤ 1000000 ∧ b ≤ l ∧ l ≤ 1000000 ∧ 1 ≤ n ∧ n ≤ 1000000 then
    (if 500 < cntL b l n then 2 else if hsF (-1) hs = true then (if 1 ≤ m ∧ m ≤ hs.length then 0 else 3) else 1)
  else 3

/-- What is so of a calendar that is right. -/
structure Cal (b l n m : Int) (hs : List Int) : Prop where
  b0 : 0 ≤ b
  bl : b ≤ l
  l1 : l ≤ 1000000
  n1 : 1 ≤ n
  n2 : n ≤ 1000000
  c1 : 1 ≤ cntL b l n
  c2 : cntL b l n ≤ 500
  ho : hsF (-1) hs = true
  m1 : 1 ≤ m
  m2 : m ≤ List.length hs
  h12 : List.length hs ≤ 12

theorem hsF_len : ∀ (l : List Int) (p : Int), -1 ≤ p → hsF p l = true → p ≤ 11 → (List.length l : Int) ≤ 11 - p
  | [], p, _, _, hp => by simp only [List.length_nil]; omega
  | h :: t, p, h0, hh, hp => by
    simp only [hsF, Bool.and_eq_true, decide_eq_true_eq] at hh
    have := hsF_len t h (by omega) hh.2 (by omega)
    simp only [List.length_cons]; omega

theorem chk0 {b l n m : Int} {hs : List Int} (h : chkL b l n m hs = 0) : Cal b l n m hs := by
  unfold chkL at h
  split at h
  · rename_i h1
    split at h
    · omega
    · rename_i h2
      split at h
      · rename_i h3
        split at h
        · rename_i h4
          obtain ⟨a1, a2, a3, a4, a5, a6⟩ := h1
          have := hsF_len hs (-1) (by omega) h3 (by omega)
          exact ⟨a1, a3, a4, a5, a6, by unfold cntL; have := Int.ediv_nonneg (a := l - b) (b := n) (by omega) (by omega); omega, by omega, h3, h4.1, h4.2, by omega⟩
        · omega
      · omega
  · omega
theorem Cal.chk {b l n m : Int} {hs : List Int} (h : Cal b l n m hs) : chkL b l n m hs = 0 := by
  unfold chkL
  rw [if_pos ⟨h.b0, by have := h.bl; have := h.l1; omega, h.bl, h.l1, h.n1, h.n2⟩, if_neg (by have := h.c2; omega), if_pos h.ho, if_pos ⟨h.m1, h.m2⟩]

def spanF (b n q : Int) : Int := b + q * n
def spanT (b l n q : Int) : Int := min l (b + q * n + n - 1)
def expF (b n q : Int) : Int := b + max 0 (q - 1) * n
def expT (b l n q : Int) : Int := min l (b + q * n + n - 1) + 2
def perL (b l n m : Int) (hs : List Int) (t : Int) : Int := if chkL b l n m hs = 0 ∧ b ≤ t ∧ t ≤ l then (t - b) / n else -1
def askL (b l n m : Int) (hs : List Int) (q : Int) : Int := if chkL b l n m hs = 0 then (if 0 ≤ q ∧ q ≤ cntL b l n - 1 then 0 else 8) else chkL b l n m hs

theorem ask0 {b l n m : Int} {hs : List Int} {q : Int} (h : askL b l n m hs q = 0) : Cal b l n m hs ∧ 0 ≤ q ∧ q < cntL b l n := by
  unfold askL at h
  split at h
  · rename_i h1
    split at h
    · exact ⟨chk0 h1, by omega, by omega⟩
    · omega
  · contradiction
theorem Cal.ask {b l n m : Int} {hs : List Int} (h : Cal b l n m hs) {q : Int} (h0 : 0 ≤ q) (h1 : q < cntL b l n) : askL b l n m hs q = 0 := by
  unfold askL
  rw [if_pos h.chk, if_pos ⟨h0, by omega⟩]

theorem qn_ok {b l n q : Int} (hb : b ≤ l) (hn : 1 ≤ n) (h0 : 0 ≤ q) (h1 : q < cntL b l n) : 0 ≤ q * n ∧ q * n ≤ l - b ∧ q ≤ q * n := by
  have h5 : q * 1 ≤ q * n := Int.mul_le_mul_of_nonneg_left hn h0
  suffices q * n ≤ l - b from ⟨Int.mul_nonneg h0 (by omega), this, by omega⟩
  have h2 : q ≤ (l - b) / n := by unfold cntL at h1; omega
  have h3 : q * n ≤ ((l - b) / n) * n := Int.mul_le_mul_of_nonneg_right h2 (by omega)
  have h4 := Int.ediv_mul_le (l - b) (b := n) (by omega)
  omega
theorem Cal.qn {b l n m : Int} {hs : List Int} (h : Cal b l n m hs) {q : Int} (h0 : 0 ≤ q) (h1 : q < cntL b l n) : 0 ≤ q * n ∧ q * n ≤ l - b ∧ q ≤ q * n := qn_ok h.bl h.n1 h0 h1
theorem Cal.qn1 {b l n m : Int} {hs : List Int} (h : Cal b l n m hs) {q : Int} (h0 : 0 ≤ q) (h1 : q < cntL b l n) : 0 ≤ max 0 (q - 1) * n ∧ max 0 (q - 1) * n ≤ q * n :=
  ⟨Int.mul_nonneg (by omega) (by have := h.n1; omega), Int.mul_le_mul_of_nonneg_right (by omega) (by have := h.n1; omega)⟩

theorem drop_one {α : Type} (d : α) (l : List α) (k : Nat) (h : k < l.length) : l.drop k = l.getD k d :: l.drop (k + 1) := by
  rw [List.drop_eq_getElem_cons h]
  simp [List.getD_eq_getElem?_getD, h]
theorem take_snoc {α : Type} (d : α) (l : List α) (k : Nat) (h : k < l.length) : l.take (k + 1) = l.take k ++ [l.getD k d] := by
  rw [List.take_succ_eq_append_getElem h]
  simp [List.getD_eq_getElem?_getD, h]

/-- The one before, in a list of houses. -/
def prv (hs : List Int) (k : Nat) : Int := if k = 0 then -1 else hs.getD (k - 1) 0
theorem prv_pos (hs : List Int) {k : Nat} (h : 0 < k) : prv hs k = hs.getD (k - 1) 0 := if_neg (by omega)
theorem prv_zero (hs : List Int) {k : Nat} (h : ¬ 0 < k) : prv hs k = -1 := if_pos (by omega)
theorem hs_bad {hs : List Int} {k : Nat} (hk : k < hs.length) (hc : hsF (prv hs k) (hs.drop k) = hsF (-1) hs) (h : ¬ (0 ≤ hs.getD k 0 ∧ hs.getD k 0 ≤ 11 ∧ prv hs k < hs.getD k 0)) : hsF (-1) hs = false := by
  rw [← hc, drop_one 0 hs k hk, hsF, decide_eq_false h, Bool.false_and]
theorem hs_next {hs : List Int} {k : Nat} (hk : k < hs.length) (hc : hsF (prv hs k) (hs.drop k) = hsF (-1) hs) (h : 0 ≤ hs.getD k 0 ∧ hs.getD k 0 ≤ 11 ∧ prv hs k < hs.getD k 0) : hsF (prv hs (k + 1)) (hs.drop (k + 1)) = hsF (-1) hs := by
  rw [← hc, drop_one 0 hs k hk, hsF, decide_eq_true h, Bool.true_and]; rfl
theorem hs_end {hs : List Int} {k : Nat} (hk : k = hs.length) (hc : hsF (prv hs k) (hs.drop k) = hsF (-1) hs) : hsF (-1) hs = true := by
  rw [← hc, hk, List.drop_length]; rfl
end Go.Proofs.Ytgljcfnplkcfhaa.S29

namespace Go.Proofs.Ytgljcfnplkcfhaa.S29
open Go Go.Proofs.Ytgljcfnplkcfhaa.Vc Go.Proofs
theorem globOk : GlobOk [] := fun g x id h => by simp [lk] at h
theorem noRef0 : noRef [] := fun g x h => by simp [lk] at h
theorem mixed : Try.prog.follows .mixedOrders = true := by kernel_rfl
def C0 : List (Nat × Con) := []
theorem k0 : Known Try.prog (En C0 tys [] []) := .start globOk noRef0 mixed tysOk
end Go.Proofs.Ytgljcfnplkcfhaa.S29

namespace Go.Proofs.Ytgljcfnplkcfhaa.S29
open Go Go.Proofs.Ytgljcfnplkcfhaa.Vc Go.Proofs
set_option maxRecDepth 100000
set_option linter.unusedVariables false

def sWi : List V → Option (Prop × V × List Blk)
  | [.int .i64 x, .int .i64 lo, .int .i64 hi] => some (True, .b (lo ≤ x ∧ x ≤ hi), [])
  | _ => none
set_option maxHeartbeats 1000000 in
theorem bWi (x : Int) (lo : Int) (hi : Int)  : bodyP (En C0 tys [] []) Try.f78 [.k] [.int .i64 x, .int .i64 lo, .int .i64 hi] (.b (lo ≤ x ∧ x ≤ hi)) [] := by
  refine ⟨fun h0 => ?_, fun h0 => ?_⟩
  · replace h0 : lo ≤ x := h0
    exact ⟨rfl, rfl, congrArg V.b (propext (by constructor <;> intro h <;> first | omega | (exfalso; first | omega | exact Bool.noConfusion h))), rfl⟩
  · replace h0 : ¬ (lo ≤ x) := h0
    exact ⟨rfl, rfl, congrArg V.b (propext (by constructor <;> intro h <;> first | omega | (exfalso; first | omega | exact Bool.noConfusion h))), rfl⟩
def CWi : List (Nat × Con) := (78, pureC [.v (.int .i64), .v (.int .i64), .v (.int .i64)] sWi) :: C0
theorem kWi : Known Try.prog (En CWi tys [] []) := k0.add Try.func78 Try.call78 [.k] fun ds p v bs h hp => by
  unfold sWi at h
  split at h <;> simp only [Option.some.injEq, Prod.mk.injEq, reduceCtorEq] at h
  obtain ⟨rfl, rfl, rfl⟩ := h
  exact bWi _ _ _
def sCnt : List V → Option (Prop × V × List Blk)
  | [.agg [.int .i64 b, .int .i64 l, .int .i64 d, .int .i64 m, .sl false (.int .i64) hs]] => some (0 ≤ b ∧ b ≤ l ∧ l ≤ 1000000 ∧ 1 ≤ d, .int .i64 (cntL b l d), [])
  | _ => none
set_option maxHeartbeats 1000000 in
theorem bCnt (b : Int) (l : Int) (d : Int) (m : Int) (hs : List Int) (hp0 : 0 ≤ b) (hp1 : b ≤ l) (hp2 : l ≤ 1000000) (hp3 : 1 ≤ d) : bodyP (En CWi tys [] []) Try.f79 [.k] [.agg [.int .i64 b, .int .i64 l, .int .i64 d, .int .i64 m, .sl false (.int .i64) hs]] (.int .i64 (cntL b l d)) [] := by
  have hd := Int.ediv_nonneg (a := l - b) (b := d) (by omega) (by omega)
  have hd2 := Int.ediv_le_self (a := l - b) d (by omega)
  refine ⟨⟨by show (-9223372036854775808 : Int) ≤ (l - b); omega, by show (l - b) ≤ (9223372036854775807 : Int); omega⟩, .inl ⟨⟨by show (0 : Int) ≤ (l - b); omega, by show (0 : Int) < d; omega⟩, ?_⟩⟩
  refine ⟨⟨by show (-9223372036854775808 : Int) ≤ (((l - b) / d) + 1); omega, by show (((l - b) / d) + 1) ≤ (9223372036854775807 : Int); omega⟩, ?_⟩
  exact ⟨rfl, rfl, rfl, rfl⟩
def CCnt : List (Nat × Con) := (79, pureC [.v (.cons (.int .i64) (.cons (.int .i64) (.cons (.int .i64) (.cons (.int .i64) (.cons (.sl (.int .i64)) .nil)))))] sCnt) :: CWi
theorem kCnt : Known Try.prog (En CCnt tys [] []) := kWi.add Try.func79 Try.call79 [.k] fun ds p v bs h hp => by
  unfold sCnt at h
  split at h <;> simp only [Option.some.injEq, Prod.mk.injEq, reduceCtorEq] at h
  obtain ⟨rfl, rfl, rfl⟩ := h
  exact bCnt _ _ _ _ _ hp.1 hp.2.1 hp.2.2.1 hp.2.2.2
def sChk : List V → Option (Prop × V × List Blk)
  | [.agg [.int .i64 b, .int .i64 l, .int .i64 d, .int .i64 m, .sl false (.int .i64) hs]] => some (hs.length ≤ 2000000, .int .i64 (chkL b l d m hs), [])
  | _ => none
set_option maxHeartbeats 1000000 in
theorem bChk (b : Int) (l : Int) (d : Int) (m : Int) (hs : List Int) (hp0 : hs.length ≤ 2000000) : bodyP (En CCnt tys [] []) Try.f27 [.k] [.agg [.int .i64 b, .int .i64 l, .int .i64 d, .int .i64 m, .sl false (.int .i64) hs]] (.int .i64 (chkL b l d m hs)) [] := by
  refine ⟨rfl, rfl, rfl, trivial, fun h0 => ?_, fun h0 => ?_⟩
  · replace h0 : ¬ (¬ (0 ≤ b ∧ b ≤ 1000000)) := h0
    refine ⟨rfl, rfl, rfl, trivial, fun h1 => ?_, fun h1 => ?_⟩
    · replace h1 : ¬ (¬ (b ≤ l ∧ l ≤ 1000000)) := h1
      refine ⟨rfl, rfl, rfl, trivial, fun h2 => ?_, fun h2 => ?_⟩
      · replace h2 : ¬ (1 ≤ d ∧ d ≤ 1000000) := h2
        refine ⟨rfl, rfl, ?_, rfl⟩
        unfold chkL
        repeat' split
        all_goals first | rfl | omega | (exfalso; simp_all; done)
      · replace h2 : ¬ (¬ (1 ≤ d ∧ d ≤ 1000000)) := h2
        refine ⟨rfl, rfl, rfl, rfl, ⟨by show 0 ≤ b; first | omega | assumption, by show b ≤ l; first | omega | assumption, by show l ≤ 1000000; first | omega | assumption, by show 1 ≤ d; first | omega | assumption⟩, fun h3 => ?_, fun h3 => ?_⟩
        · replace h3 : 500 < (cntL b l d) := h3
          refine ⟨rfl, rfl, ?_, rfl⟩
          unfold chkL
          repeat' split
          all_goals first | rfl | omega | (exfalso; simp_all; done)
        · replace h3 : ¬ (500 < (cntL b l d)) := h3
          refine ⟨1, [(1, .k), (29, .k), (30, .k), (31, .k)], fun nM vs H => ∃ (k : Nat), k ≤ hs.length ∧ hsF (prv hs k) (hs.drop k) = hsF (-1) hs ∧ nM = hs.length - k ∧ vs = [.ptr 0 1 0 0, .sl false (.int .i64) hs, .int .i64 (hs.length : Int), .int .i64 (k : Int)] ∧ H = [.cells [.int .i64 b, .int .i64 l, .int .i64 d, .int .i64 m, .sl false (.int .i64) hs]], ⟨rfl, hs.length, 0, by omega, rfl, by omega, rfl, rfl⟩, ?_⟩
          rintro nM vs H ⟨k, hc1_0, hc1_1, rfl, rfl, rfl⟩
          refine ⟨fun h4 => ?_, fun h4 => ?_⟩
          · replace h4 : (k : Int) < (hs.length : Int) := h4
            have hkl : k < hs.length := by omega
            have hk1 : ((k : Int) - 1).toNat = k - 1 := by omega
            refine ⟨⟨by show (0 : Int) ≤ (k : Int); omega, by show (k : Int) < (hs.length : Int); omega⟩, rfl, rfl, rfl, trivial, fun h5 => ?_, fun h5 => ?_⟩
            · replace h5 : ¬ (¬ (0 ≤ (hs.getD k 0) ∧ (hs.getD k 0) ≤ 11)) := h5
              refine ⟨fun h6 => ?_, fun h6 => ?_⟩
              · replace h6 : 0 < (k : Int) := h6
                refine ⟨⟨by show (-9223372036854775808 : Int) ≤ ((k : Int) - 1); omega, by show ((k : Int) - 1) ≤ (9223372036854775807 : Int); omega⟩, ⟨by show (0 : Int) ≤ ((k : Int) - 1); omega, by show ((k : Int) - 1) < (hs.length : Int); omega⟩, fun h7 => ?_, fun h7 => ?_⟩
                · replace h7 : (hs.getD k 0) ≤ (hs.getD (((k : Int) - 1).toNat) 0) := h7
                  rw [hk1] at h7
                  have e := hs_bad hkl hc1_1 (by rw [prv_pos hs (by omega)]; omega)
                  refine ⟨rfl, rfl, ?_, rfl⟩
                  unfold chkL
                  repeat' split
                  all_goals first | rfl | omega | (exfalso; simp_all; done)
                · replace h7 : ¬ ((hs.getD k 0) ≤ (hs.getD (((k : Int) - 1).toNat) 0)) := h7
                  rw [hk1] at h7
                  refine ⟨⟨by show (-9223372036854775808 : Int) ≤ ((k : Int) + 1); omega, by show ((k : Int) + 1) ≤ (9223372036854775807 : Int); omega⟩, ?_⟩
                  exact ⟨rfl, hs.length - (k + 1), by omega, k + 1, by omega, hs_next hkl hc1_1 (by first | (rw [prv_pos hs (by omega)]; omega) | (rw [prv_zero hs (by omega)]; omega)), rfl, rfl, rfl⟩
              · replace h6 : ¬ (0 < (k : Int)) := h6
                refine ⟨⟨by show (-9223372036854775808 : Int) ≤ ((k : Int) + 1); omega, by show ((k : Int) + 1) ≤ (9223372036854775807 : Int); omega⟩, ?_⟩
                exact ⟨rfl, hs.length - (k + 1), by omega, k + 1, by omega, hs_next hkl hc1_1 (by first | (rw [prv_pos hs (by omega)]; omega) | (rw [prv_zero hs (by omega)]; omega)), rfl, rfl, rfl⟩
            · replace h5 : ¬ (0 ≤ (hs.getD k 0) ∧ (hs.getD k 0) ≤ 11) := h5
              have e := hs_bad hkl hc1_1 (by omega)
              refine ⟨rfl, rfl, ?_, rfl⟩
              unfold chkL
              repeat' split
              all_goals first | rfl | omega | (exfalso; simp_all; done)
          · replace h4 : ¬ ((k : Int) < (hs.length : Int)) := h4
            have e := hs_end (by omega) hc1_1
            refine ⟨rfl, rfl, rfl, trivial, fun h8 => ?_, fun h8 => ?_⟩
            · replace h8 : ¬ (1 ≤ m ∧ m ≤ (hs.length : Int)) := h8
              refine ⟨rfl, rfl, ?_, rfl⟩
              unfold chkL
              repeat' split
              all_goals first | rfl | omega | (exfalso; simp_all; done)
            · replace h8 : ¬ (¬ (1 ≤ m ∧ m ≤ (hs.length : Int))) := h8
              refine ⟨rfl, rfl, ?_, rfl⟩
              unfold chkL
              repeat' split
              all_goals first | rfl | omega | (exfalso; simp_all; done)
    · replace h1 : ¬ (b ≤ l ∧ l ≤ 1000000) := h1
      refine ⟨rfl, rfl, ?_, rfl⟩
      unfold chkL
      repeat' split
      all_goals first | rfl | omega | (exfalso; simp_all; done)
  · replace h0 : ¬ (0 ≤ b ∧ b ≤ 1000000) := h0
    refine ⟨rfl, rfl, ?_, rfl⟩
    unfold chkL
    repeat' split
    all_goals first | rfl | omega | (exfalso; simp_all; done)
def CChk : List (Nat × Con) := (27, pureC [.v (.cons (.int .i64) (.cons (.int .i64) (.cons (.int .i64) (.cons (.int .i64) (.cons (.sl (.int .i64)) .nil)))))] sChk) :: CCnt
theorem kChk : Known Try.prog (En CChk tys [] []) := kCnt.add Try.func27 Try.call27 [.k] fun ds p v bs h hp => by
  unfold sChk at h
  split at h <;> simp only [Option.some.injEq, Prod.mk.injEq, reduceCtorEq] at h
  obtain ⟨rfl, rfl, rfl⟩ := h
  exact bChk _ _ _ _ _ hp
def sPers : List V → Option (Prop × V × List Blk)
  | [.agg [.int .i64 b, .int .i64 l, .int .i64 d, .int .i64 m, .sl false (.int .i64) hs]] => some (hs.length ≤ 2000000, .int .i64 (if chkL b l d m hs = 0 then cntL b l d else 0), [])
  | _ => none
set_option maxHeartbeats 1000000 in
theorem bPers (b : Int) (l : Int) (d : Int) (m : Int) (hs : List Int) (hp0 : hs.length ≤ 2000000) : bodyP (En CChk tys [] []) Try.f28 [.k] [.agg [.int .i64 b, .int .i64 l, .int .i64 d, .int .i64 m, .sl false (.int .i64) hs]] (.int .i64 (if chkL b l d m hs = 0 then cntL b l d else 0)) [] := by
  refine ⟨rfl, rfl, rfl, rfl, by show hs.length ≤ 2000000; first | omega | assumption, fun h0 => ?_, fun h0 => ?_⟩
  · replace h0 : (chkL b l d m hs) ≠ 0 := h0
    first | (rw [if_neg h0]; exact ⟨rfl, rfl, rfl, rfl⟩) | (rw [if_pos (Classical.not_not.1 h0)]; exact ⟨rfl, rfl, rfl, rfl⟩)
  · replace h0 : ¬ ((chkL b l d m hs) ≠ 0) := h0
    have hc := chk0 (Classical.not_not.1 h0)
    obtain ⟨q1, q2, q3, q4, q5, q6, q7, _, _, _, _⟩ := hc
    refine ⟨rfl, rfl, rfl, rfl, ⟨by show 0 ≤ b; first | omega | assumption, by show b ≤ l; first | omega | assumption, by show l ≤ 1000000; first | omega | assumption, by show 1 ≤ d; first | omega | assumption⟩, ?_⟩
    first | (rw [if_neg h0]; exact ⟨rfl, rfl, rfl, rfl⟩) | (rw [if_pos (Classical.not_not.1 h0)]; exact ⟨rfl, rfl, rfl, rfl⟩)
def CPers : List (Nat × Con) := (28, pureC [.v (.cons (.int .i64) (.cons (.int .i64) (.cons (.int .i64) (.cons (.int .i64) (.cons (.sl (.int .i64)) .nil)))))] sPers) :: CChk
theorem kPers : Known Try.prog (En CPers tys [] []) := kChk.add Try.func28 Try.call28 [.k] fun ds p v bs h hp => by
  unfold sPers at h
  split at h <;> simp only [Option.some.injEq, Prod.mk.injEq, reduceCtorEq] at h
  obtain ⟨rfl, rfl, rfl⟩ := h
  exact bPers _ _ _ _ _ hp
def sPer : List V → Option (Prop × V × List Blk)
  | [.agg [.int .i64 b, .int .i64 l, .int .i64 d, .int .i64 m, .sl false (.int .i64) hs], .int .i64 t] => some (hs.length ≤ 2000000, .int .i64 (perL b l d m hs t), [])
  | _ => none
set_option maxHeartbeats 1000000 in
theorem bPer (b : Int) (l : Int) (d : Int) (m : Int) (hs : List Int) (t : Int) (hp0 : hs.length ≤ 2000000) : bodyP (En CPers tys [] []) Try.f29 [.k] [.agg [.int .i64 b, .int .i64 l, .int .i64 d, .int .i64 m, .sl false (.int .i64) hs], .int .i64 t] (.int .i64 (perL b l d m hs t)) [] := by
  refine ⟨rfl, rfl, rfl, rfl, by show hs.length ≤ 2000000; first | omega | assumption, fun h0 => ?_, fun h0 => ?_⟩
  · replace h0 : ¬ ((chkL b l d m hs) ≠ 0) := h0
    have hc := chk0 (Classical.not_not.1 h0)
    obtain ⟨q1, q2, q3, q4, q5, q6, q7, q8, q9, q10, q11⟩ := id hc
    refine ⟨rfl, rfl, rfl, trivial, fun h1 => ?_, fun h1 => ?_⟩
    · replace h1 : ¬ (b ≤ t ∧ t ≤ l) := h1
      refine ⟨rfl, rfl, ?_, rfl⟩
      unfold perL
      repeat' split
      all_goals first | rfl | omega | (exfalso; simp_all; done)
    · replace h1 : ¬ (¬ (b ≤ t ∧ t ≤ l)) := h1
      refine ⟨⟨by show (-9223372036854775808 : Int) ≤ (t - b); omega, by show (t - b) ≤ (9223372036854775807 : Int); omega⟩, .inl ⟨⟨by show (0 : Int) ≤ (t - b); omega, by show (0 : Int) < d; omega⟩, ?_⟩⟩
      refine ⟨rfl, rfl, ?_, rfl⟩
      unfold perL
      repeat' split
      all_goals first | rfl | omega | (exfalso; simp_all; done)
  · replace h0 : (chkL b l d m hs) ≠ 0 := h0
    refine ⟨rfl, rfl, ?_, rfl⟩
    unfold perL
    repeat' split
    all_goals first | rfl | omega | (exfalso; simp_all; done)
def CPer : List (Nat × Con) := (29, pureC [.v (.cons (.int .i64) (.cons (.int .i64) (.cons (.int .i64) (.cons (.int .i64) (.cons (.sl (.int .i64)) .nil))))), .v (.int .i64)] sPer) :: CPers
theorem kPer : Known Try.prog (En CPer tys [] []) := kPers.add Try.func29 Try.call29 [.k] fun ds p v bs h hp => by
  unfold sPer at h
  split at h <;> simp only [Option.some.injEq, Prod.mk.injEq, reduceCtorEq] at h
  obtain ⟨rfl, rfl, rfl⟩ := h
  exact bPer _ _ _ _ _ _ hp
def sSp : List V → Option (Prop × V × List Blk)
  | [.agg [.int .i64 b, .int .i64 l, .int .i64 d, .int .i64 m, .sl false (.int .i64) hs], .int .i64 q] => some (0 ≤ b ∧ b ≤ l ∧ l ≤ 1000000 ∧ 1 ≤ d ∧ d ≤ 1000000 ∧ 0 ≤ q ∧ q < cntL b l d, .tup [.int .i64 (spanF b d q), .int .i64 (spanT b l d q)], [])
  | _ => none
set_option maxHeartbeats 1000000 in
theorem bSp (b : Int) (l : Int) (d : Int) (m : Int) (hs : List Int) (q : Int) (hp0 : 0 ≤ b) (hp1 : b ≤ l) (hp2 : l ≤ 1000000) (hp3 : 1 ≤ d) (hp4 : d ≤ 1000000) (hp5 : 0 ≤ q) (hp6 : q < cntL b l d) : bodyP (En CPer tys [] []) Try.f75 [.k, .k] [.agg [.int .i64 b, .int .i64 l, .int .i64 d, .int .i64 m, .sl false (.int .i64) hs], .int .i64 q] (.tup [.int .i64 (spanF b d q), .int .i64 (spanT b l d q)]) [] := by
  obtain ⟨z1, z2, z3⟩ := qn_ok hp1 hp3 hp5 hp6
  refine ⟨⟨by show (-9223372036854775808 : Int) ≤ (q * d); omega, by show (q * d) ≤ (9223372036854775807 : Int); omega⟩, ⟨by show (-9223372036854775808 : Int) ≤ (b + (q * d)); omega, by show (b + (q * d)) ≤ (9223372036854775807 : Int); omega⟩, by kernel_rfl, ⟨by show (-9223372036854775808 : Int) ≤ ((b + (q * d)) + d); omega, by show ((b + (q * d)) + d) ≤ (9223372036854775807 : Int); omega⟩, ⟨by show (-9223372036854775808 : Int) ≤ (((b + (q * d)) + d) - 1); omega, by show (((b + (q * d)) + d) - 1) ≤ (9223372036854775807 : Int); omega⟩, ?_⟩
  exact ⟨rfl, rfl, rfl, rfl⟩
def CSp : List (Nat × Con) := (75, pureC [.v (.cons (.int .i64) (.cons (.int .i64) (.cons (.int .i64) (.cons (.int .i64) (.cons (.sl (.int .i64)) .nil))))), .v (.int .i64)] sSp) :: CPer
theorem kSp : Known Try.prog (En CSp tys [] []) := kPer.add Try.func75 Try.call75 [.k, .k] fun ds p v bs h hp => by
  unfold sSp at h
  split at h <;> simp only [Option.some.injEq, Prod.mk.injEq, reduceCtorEq] at h
  obtain ⟨rfl, rfl, rfl⟩ := h
  exact bSp _ _ _ _ _ _ hp.1 hp.2.1 hp.2.2.1 hp.2.2.2.1 hp.2.2.2.2.1 hp.2.2.2.2.2.1 hp.2.2.2.2.2.2
def sEx : List V → Option (Prop × V × List Blk)
  | [.agg [.int .i64 b, .int .i64 l, .int .i64 d, .int .i64 m, .sl false (.int .i64) hs], .int .i64 q] => some (0 ≤ b ∧ b ≤ l ∧ l ≤ 1000000 ∧ 1 ≤ d ∧ d ≤ 1000000 ∧ 0 ≤ q ∧ q < cntL b l d, .tup [.int .i64 (expF b d q), .int .i64 (expT b l d q)], [])
  | _ => none
set_option maxHeartbeats 1000000 in
theorem bEx (b : Int) (l : Int) (d : Int) (m : Int) (hs : List Int) (q : Int) (hp0 : 0 ≤ b) (hp1 : b ≤ l) (hp2 : l ≤ 1000000) (hp3 : 1 ≤ d) (hp4 : d ≤ 1000000) (hp5 : 0 ≤ q) (hp6 : q < cntL b l d) : bodyP (En CSp tys [] []) Try.f76 [.k, .k] [.agg [.int .i64 b, .int .i64 l, .int .i64 d, .int .i64 m, .sl false (.int .i64) hs], .int .i64 q] (.tup [.int .i64 (expF b d q), .int .i64 (expT b l d q)]) [] := by
  obtain ⟨z1, z2, z3⟩ := qn_ok hp1 hp3 hp5 hp6
  have hz : spanT b l d q ≤ l ∧ b - 1 ≤ spanT b l d q := by unfold spanT; omega
  refine ⟨⟨by show (-9223372036854775808 : Int) ≤ (q - 1); omega, by show (q - 1) ≤ (9223372036854775807 : Int); omega⟩, rfl, rfl, rfl, rfl, rfl, ⟨by show 0 ≤ b; first | omega | assumption, by show b ≤ l; first | omega | assumption, by show l ≤ 1000000; first | omega | assumption, by show 1 ≤ d; first | omega | assumption, by show d ≤ 1000000; first | omega | assumption, by show 0 ≤ (max 0 (q - 1)); first | omega | assumption, by show (max 0 (q - 1)) < cntL b l d; first | omega | assumption⟩, rfl, rfl, rfl, rfl, rfl, ⟨by show 0 ≤ b; first | omega | assumption, by show b ≤ l; first | omega | assumption, by show l ≤ 1000000; first | omega | assumption, by show 1 ≤ d; first | omega | assumption, by show d ≤ 1000000; first | omega | assumption, by show 0 ≤ q; first | omega | assumption, by show q < cntL b l d; first | omega | assumption⟩, ⟨by show (-9223372036854775808 : Int) ≤ ((spanT b l d q) + 2); omega, by show ((spanT b l d q) + 2) ≤ (9223372036854775807 : Int); omega⟩, ?_⟩
  exact ⟨rfl, rfl, rfl, rfl⟩
def CEx : List (Nat × Con) := (76, pureC [.v (.cons (.int .i64) (.cons (.int .i64) (.cons (.int .i64) (.cons (.int .i64) (.cons (.sl (.int .i64)) .nil))))), .v (.int .i64)] sEx) :: CSp
theorem kEx : Known Try.prog (En CEx tys [] []) := kSp.add Try.func76 Try.call76 [.k, .k] fun ds p v bs h hp => by
  unfold sEx at h
  split at h <;> simp only [Option.some.injEq, Prod.mk.injEq, reduceCtorEq] at h
  obtain ⟨rfl, rfl, rfl⟩ := h
  exact bEx _ _ _ _ _ _ hp.1 hp.2.1 hp.2.2.1 hp.2.2.2.1 hp.2.2.2.2.1 hp.2.2.2.2.2.1 hp.2.2.2.2.2.2
def sAsk : List V → Option (Prop × V × List Blk)
  | [.agg [.int .i64 b, .int .i64 l, .int .i64 d, .int .i64 m, .sl false (.int .i64) hs], .int .i64 q] => some (hs.length ≤ 2000000, .int .i64 (askL b l d m hs q), [])
  | _ => none
set_option maxHeartbeats 1000000 in
theorem bAsk (b : Int) (l : Int) (d : Int) (m : Int) (hs : List Int) (q : Int) (hp0 : hs.length ≤ 2000000) : bodyP (En CEx tys [] []) Try.f74 [.k] [.agg [.int .i64 b, .int .i64 l, .int .i64 d, .int .i64 m, .sl false (.int .i64) hs], .int .i64 q] (.int .i64 (askL b l d m hs q)) [] := by
  refine ⟨rfl, rfl, rfl, rfl, by show hs.length ≤ 2000000; first | omega | assumption, fun h0 => ?_, fun h0 => ?_⟩
  · replace h0 : (chkL b l d m hs) ≠ 0 := h0
    refine ⟨rfl, rfl, ?_, rfl⟩
    unfold askL
    repeat' split
    all_goals first | rfl | omega | (exfalso; simp_all; done)
  · replace h0 : ¬ ((chkL b l d m hs) ≠ 0) := h0
    have hc := chk0 (Classical.not_not.1 h0)
    obtain ⟨q1, q2, q3, q4, q5, q6, q7, q8, q9, q10, q11⟩ := id hc
    refine ⟨rfl, rfl, rfl, rfl, ⟨by show 0 ≤ b; first | omega | assumption, by show b ≤ l; first | omega | assumption, by show l ≤ 1000000; first | omega | assumption, by show 1 ≤ d; first | omega | assumption⟩, ⟨by show (-9223372036854775808 : Int) ≤ ((cntL b l d) - 1); omega, by show ((cntL b l d) - 1) ≤ (9223372036854775807 : Int); omega⟩, rfl, rfl, rfl, trivial, fun h1 => ?_, fun h1 => ?_⟩
    · replace h1 : ¬ (0 ≤ q ∧ q ≤ ((cntL b l d) - 1)) := h1
      refine ⟨rfl, rfl, ?_, rfl⟩
      unfold askL
      repeat' split
      all_goals first | rfl | omega | (exfalso; simp_all; done)
    · replace h1 : ¬ (¬ (0 ≤ q ∧ q ≤ ((cntL b l d) - 1))) := h1
      refine ⟨rfl, rfl, ?_, rfl⟩
      unfold askL
      repeat' split
      all_goals first | rfl | omega | (exfalso; simp_all; done)
def CAsk : List (Nat × Con) := (74, pureC [.v (.cons (.int .i64) (.cons (.int .i64) (.cons (.int .i64) (.cons (.int .i64) (.cons (.sl (.int .i64)) .nil))))), .v (.int .i64)] sAsk) :: CEx
theorem kAsk : Known Try.prog (En CAsk tys [] []) := kEx.add Try.func74 Try.call74 [.k] fun ds p v bs h hp => by
  unfold sAsk at h
  split at h <;> simp only [Option.some.injEq, Prod.mk.injEq, reduceCtorEq] at h
  obtain ⟨rfl, rfl, rfl⟩ := h
  exact bAsk _ _ _ _ _ _ hp
def sSpn : List V → Option (Prop × V × List Blk)
  | [.agg [.int .i64 b, .int .i64 l, .int .i64 d, .int .i64 m, .sl false (.int .i64) hs], .int .i64 q] => some (hs.length ≤ 2000000, .tup [.int .i64 (if askL b l d m hs q = 0 then spanF b d q else 0), .int .i64 (if askL b l d m hs q = 0 then spanT b l d q else 0), .int .i64 (askL b l d m hs q)], [])
  | _ => none
set_option maxHeartbeats 1000000 in
theorem bSpn (b : Int) (l : Int) (d : Int) (m : Int) (hs : List Int) (q : Int) (hp0 : hs.length ≤ 2000000) : bodyP (En CAsk tys [] []) Try.f18 [.k, .k, .k] [.agg [.int .i64 b, .int .i64 l, .int .i64 d, .int .i64 m, .sl false (.int .i64) hs], .int .i64 q] (.tup [.int .i64 (if askL b l d m hs q = 0 then spanF b d q else 0), .int .i64 (if askL b l d m hs q = 0 then spanT b l d q else 0), .int .i64 (askL b l d m hs q)]) [] := by
  refine ⟨rfl, rfl, rfl, rfl, rfl, by show hs.length ≤ 2000000; first | omega | assumption, fun h0 => ?_, fun h0 => ?_⟩
  · replace h0 : (askL b l d m hs q) ≠ 0 := h0
    rw [if_neg h0, if_neg h0]
    exact ⟨rfl, rfl, rfl, rfl⟩
  · replace h0 : ¬ ((askL b l d m hs q) ≠ 0) := h0
    obtain ⟨hc, hq0, hq1⟩ := ask0 (Classical.not_not.1 h0)
    obtain ⟨q1, q2, q3, q4, q5, q6, q7, q8, q9, q10, q11⟩ := id hc
    rw [if_pos (Classical.not_not.1 h0), if_pos (Classical.not_not.1 h0)]
    refine ⟨rfl, rfl, rfl, rfl, rfl, ⟨by show 0 ≤ b; first | omega | assumption, by show b ≤ l; first | omega | assumption, by show l ≤ 1000000; first | omega | assumption, by show 1 ≤ d; first | omega | assumption, by show d ≤ 1000000; first | omega | assumption, by show 0 ≤ q; first | omega | assumption, by show q < cntL b l d; first | omega | assumption⟩, ?_⟩
    rw [Classical.not_not.1 h0]
    exact ⟨rfl, rfl, rfl, rfl⟩
def CSpn : List (Nat × Con) := (18, pureC [.v (.cons (.int .i64) (.cons (.int .i64) (.cons (.int .i64) (.cons (.int .i64) (.cons (.sl (.int .i64)) .nil))))), .v (.int .i64)] sSpn) :: CAsk
theorem kSpn : Known Try.prog (En CSpn tys [] []) := kAsk.add Try.func18 Try.call18 [.k, .k, .k] fun ds p v bs h hp => by
  unfold sSpn at h
  split at h <;> simp only [Option.some.injEq, Prod.mk.injEq, reduceCtorEq] at h
  obtain ⟨rfl, rfl, rfl⟩ := h
  exact bSpn _ _ _ _ _ _ hp
def sExd : List V → Option (Prop × V × List Blk)
  | [.agg [.int .i64 b, .int .i64 l, .int .i64 d, .int .i64 m, .sl false (.int .i64) hs], .int .i64 q] => some (hs.length ≤ 2000000, .tup [.int .i64 (if askL b l d m hs q = 0 then expF b d q else 0), .int .i64 (if askL b l d m hs q = 0 then expT b l d q else 0), .int .i64 (askL b l d m hs q)], [])
  | _ => none
set_option maxHeartbeats 1000000 in
theorem bExd (b : Int) (l : Int) (d : Int) (m : Int) (hs : List Int) (q : Int) (hp0 : hs.length ≤ 2000000) : bodyP (En CSpn tys [] []) Try.f20 [.k, .k, .k] [.agg [.int .i64 b, .int .i64 l, .int .i64 d, .int .i64 m, .sl false (.int .i64) hs], .int .i64 q] (.tup [.int .i64 (if askL b l d m hs q = 0 then expF b d q else 0), .int .i64 (if askL b l d m hs q = 0 then expT b l d q else 0), .int .i64 (askL b l d m hs q)]) [] := by
  refine ⟨rfl, rfl, rfl, rfl, rfl, by show hs.length ≤ 2000000; first | omega | assumption, fun h0 => ?_, fun h0 => ?_⟩
  · replace h0 : (askL b l d m hs q) ≠ 0 := h0
    rw [if_neg h0, if_neg h0]
    exact ⟨rfl, rfl, rfl, rfl⟩
  · replace h0 : ¬ ((askL b l d m hs q) ≠ 0) := h0
    obtain ⟨hc, hq0, hq1⟩ := ask0 (Classical.not_not.1 h0)
    obtain ⟨q1, q2, q3, q4, q5, q6, q7, q8, q9, q10, q11⟩ := id hc
    rw [if_pos (Classical.not_not.1 h0), if_pos (Classical.not_not.1 h0)]
    refine ⟨rfl, rfl, rfl, rfl, rfl, ⟨by show 0 ≤ b; first | omega | assumption, by show b ≤ l; first | omega | assumption, by show l ≤ 1000000; first | omega | assumption, by show 1 ≤ d; first | omega | assumption, by show d ≤ 1000000; first | omega | assumption, by show 0 ≤ q; first | omega | assumption, by show q < cntL b l d; first | omega | assumption⟩, ?_⟩
    rw [Classical.not_not.1 h0]
    exact ⟨rfl, rfl, rfl, rfl⟩
def CExd : List (Nat × Con) := (20, pureC [.v (.cons (.int .i64) (.cons (.int .i64) (.cons (.int .i64) (.cons (.int .i64) (.cons (.sl (.int .i64)) .nil))))), .v (.int .i64)] sExd) :: CSpn
theorem kExd : Known Try.prog (En CExd tys [] []) := kSpn.add Try.func20 Try.call20 [.k, .k, .k] fun ds p v bs h hp => by
  unfold sExd at h
  split at h <;> simp only [Option.some.injEq, Prod.mk.injEq, reduceCtorEq] at h
  obtain ⟨rfl, rfl, rfl⟩ := h
  exact bExd _ _ _ _ _ _ hp
end Go.Proofs.Ytgljcfnplkcfhaa.S29

namespace Go.Proofs.Ytgljcfnplkcfhaa.S29
open Go

def idxF (v : Int) : List Int → Int → Int
  | [], _ => -1
  | x :: t, k => if v = x then k else idxF v t (k + 1)
theorem idxF_mem (v : Int) : ∀ (l : List Int) (k : Int), 0 ≤ k → (0 ≤ idxF v l k ↔ v ∈ l)
  | [], k, _ => by simp [idxF]
  | x :: t, k, h => by
    unfold idxF
    split
    · rename_i e; subst e; simp [h]
    · rename_i e
      rw [idxF_mem v t (k + 1) (by omega)]
      simp [e]

abbrev Cp := Int × Int × Unit
def capB (x : Cp) : Bool := decide (0 ≤ x.1 ∧ x.1 ≤ 11 ∧ 0 ≤ x.2.1 ∧ x.2.1 ≤ 1000000)
def capL (l : List Cp) : Int := if 500 < l.length then 2 else if l.all capB = true then 0 else 3
theorem cap0 {l : List Cp} (h : capL l = 0) : l.length ≤ 500 ∧ ∀ x ∈ l, capB x = true := by
  unfold capL at h
  split at h
  · omega
  · split at h
    · rename_i h1 h2; exact ⟨by omega, by simpa using h2⟩
    · omega
theorem cap0' {l : List Cp} (h : l.length ≤ 500) (h2 : ∀ x ∈ l, capB x = true) : capL l = 0 := by
  unfold capL
  rw [if_neg (by omega), if_pos (by simpa using h2)]
theorem capB_ok {x : Cp} (h : capB x = true) : 0 ≤ x.1 ∧ x.1 ≤ 11 ∧ 0 ≤ x.2.1 ∧ x.2.1 ≤ 1000000 := by simpa [capB] using h

theorem capB_no {x : Cp} (h : ¬ (0 ≤ x.1 ∧ x.1 ≤ 11 ∧ 0 ≤ x.2.1 ∧ x.2.1 ≤ 1000000)) : capB x = false := decide_eq_false h
theorem capB_yes {x : Cp} (h : 0 ≤ x.1 ∧ x.1 ≤ 11 ∧ 0 ≤ x.2.1 ∧ x.2.1 ≤ 1000000) : capB x = true := decide_eq_true h
theorem all_bad {α : Type} {d : α} {p : α → Bool} {l : List α} {k : Nat} (hk : k < l.length) (hc : (l.drop k).all p = l.all p) (h : p (l.getD k d) = false) : l.all p = false := by
  rw [← hc, drop_one d l k hk, List.all_cons, h, Bool.false_and]
theorem all_next {α : Type} {d : α} {p : α → Bool} {l : List α} {k : Nat} (hk : k < l.length) (hc : (l.drop k).all p = l.all p) (h : p (l.getD k d) = true) : (l.drop (k + 1)).all p = l.all p := by
  rw [← hc, drop_one d l k hk, List.all_cons, h, Bool.true_and]
theorem all_end {α : Type} {p : α → Bool} {l : List α} {k : Nat} (hk : l.length ≤ k) (hc : (l.drop k).all p = l.all p) : l.all p = true := by
  rw [← hc, List.drop_eq_nil_of_le hk]; rfl

/-! ### periods that are exposed at a tick -/
def exB (b l d t q : Int) : Bool := decide (expF b d q ≤ t ∧ t ≤ expT b l d q)
def atG (b l d t : Int) : Nat → Int → List Int
  | 0, _ => []
  | f + 1, q => if exB b l d t q = true then q :: atG b l d t f (q + 1) else atG b l d t f (q + 1)
def atL (b l d t : Int) : List Int := atG b l d t (cntL b l d).toNat 0
theorem atG_mem (b l d t : Int) : ∀ (f : Nat) (q x : Int), x ∈ atG b l d t f q ↔ q ≤ x ∧ x < q + f ∧ exB b l d t x = true
  | 0, q, x => by simp [atG]; omega
  | f + 1, q, x => by
    unfold atG
    split
    · rename_i h
      rw [List.mem_cons, atG_mem b l d t f (q + 1) x]
      constructor
      · rintro (rfl | ⟨h1, h2, h3⟩)
        · exact ⟨by omega, by omega, h⟩
        · exact ⟨by omega, by omega, h3⟩
      · rintro ⟨h1, h2, h3⟩
        by_cases e : x = q
        · exact .inl e
        · exact .inr ⟨by omega, by omega, h3⟩
    · rename_i h
      rw [atG_mem b l d t f (q + 1) x]
      constructor
      · rintro ⟨h1, h2, h3⟩; exact ⟨by omega, by omega, h3⟩
      · rintro ⟨h1, h2, h3⟩
        refine ⟨?_, by omega, h3⟩
        by_cases e : x = q
        · subst e; exact absurd h3 h
        · omega
theorem atG_skip (b l d t : Int) : ∀ (j f : Nat) (q : Int), (∀ x, q ≤ x → x < q + j → exB b l d t x = false) → atG b l d t (f + j) q = atG b l d t f (q + j)
  | 0, f, q, _ => by simp
  | j + 1, f, q, h => by
    rw [show f + (j + 1) = (f + j) + 1 by omega, atG, if_neg (by rw [h q (by omega) (by omega)]; simp), atG_skip b l d t j f (q + 1) fun x h1 h2 => h x (by omega) (by omega)]
    congr 1; omega
theorem atG_nil (b l d t : Int) (f : Nat) (q : Int) (h : ∀ x, q ≤ x → x < q + f → exB b l d t x = false) : atG b l d t f q = [] := by
  cases e : atG b l d t f q with
  | nil => rfl
  | cons x r =>
    have := (atG_mem b l d t f q x).1 (by rw [e]; simp)
    rw [h x this.1 this.2.1] at this
    simp at this
theorem max_tdiv (a d : Int) (hd : 0 < d) : max 0 (Int.tdiv a d) = if 0 ≤ a then a / d else 0 := by
  split
  · rename_i h
    rw [Int.tdiv_eq_ediv_of_nonneg h]
    have := Int.ediv_nonneg h (by omega : 0 ≤ d)
    omega
  · rename_i h
    have : a.tdiv d = -((-a) / d) := by rw [Go.tdiv_eq_if, if_neg (by omega)]
    have := Int.ediv_nonneg (a := -a) (b := d) (by omega) (by omega)
    omega
theorem at_early {b l d t : Int} (hd : 1 ≤ d) {x : Int} (h1 : x < max 0 (Int.tdiv (t - 2 - b) d)) (h0 : 0 ≤ x) : exB b l d t x = false := by
  rw [max_tdiv _ _ (by omega)] at h1
  split at h1
  · rename_i h2
    have h3 : x + 1 ≤ (t - 2 - b) / d := by omega
    have h4 := Int.mul_le_mul_of_nonneg_right h3 (by omega : 0 ≤ d)
    have h5 := Int.ediv_mul_le (t - 2 - b) (b := d) (by omega)
    have h6 : (x + 1) * d = x * d + d := by rw [Int.add_mul, Int.one_mul]
    apply decide_eq_false
    unfold expT
    omega
  · omega
theorem expF_mono {b d q x : Int} (hd : 1 ≤ d) (h : q ≤ x) : expF b d q ≤ expF b d x := by
  unfold expF
  have := Int.mul_le_mul_of_nonneg_right (by omega : max 0 (q - 1) ≤ max 0 (x - 1)) (by omega : 0 ≤ d)
  omega
theorem at_late {b l d t q : Int} (hd : 1 ≤ d) (h : t < expF b d q) {x : Int} (hx : q ≤ x) : exB b l d t x = false := by
  have := expF_mono (b := b) hd hx
  apply decide_eq_false
  omega
theorem at_start {b l d t : Int} (hd : 1 ≤ d) (hc : 0 ≤ cntL b l d) : atL b l d t = atG b l d t (cntL b l d - max 0 (Int.tdiv (t - 2 - b) d)).toNat (max 0 (Int.tdiv (t - 2 - b) d)) := by
  obtain ⟨q0, hq⟩ : ∃ q0 : Nat, max 0 (Int.tdiv (t - 2 - b) d) = (q0 : Int) := ⟨(max 0 (Int.tdiv (t - 2 - b) d)).toNat, by omega⟩
  have he : ∀ x : Int, 0 ≤ x → x < q0 → exB b l d t x = false := fun x h0 h1 => at_early hd (by omega) h0
  rw [hq]
  unfold atL
  rcases Nat.le_total q0 (cntL b l d).toNat with h | h
  · rw [show (cntL b l d).toNat = (cntL b l d - q0).toNat + q0 by omega, atG_skip _ _ _ _ q0 _ 0 fun x h1 h2 => he x h1 (by omega)]
    congr 1
    omega
  · rw [show (cntL b l d - (q0 : Int)).toNat = 0 by omega, atG_nil _ _ _ _ _ 0 fun x h1 h2 => he x h1 (by omega)]
    rfl

theorem drop_cons {α : Type} {l r : List α} {x d : α} {k : Nat} (h : l.drop k = x :: r) : k < l.length ∧ l.getD k d = x ∧ l.drop (k + 1) = r := by
  have hk : k < l.length := by
    rcases Nat.lt_or_ge k l.length with g | g
    · exact g
    · rw [List.drop_eq_nil_of_le g] at h; cases h
  rw [drop_one d l k hk] at h
  injection h with h1 h2
  exact ⟨hk, h1, h2⟩
theorem drop_nil {α : Type} {l : List α} {k : Nat} (hk : k ≤ l.length) (h : l.drop k = []) : k = l.length := by
  have := List.drop_eq_nil_iff.1 h; omega

theorem getD_mem {α : Type} (d : α) (l : List α) (k : Nat) (h : k < l.length) : l.getD k d ∈ l := by
  simp [List.getD_eq_getElem?_getD, h]
theorem atL_at {b l d t : Int} {n : Nat} (hc : 0 ≤ cntL b l d) (h : n < (atL b l d t).length) : 0 ≤ (atL b l d t).getD n 0 ∧ (atL b l d t).getD n 0 < cntL b l d ∧ exB b l d t ((atL b l d t).getD n 0) = true := by
  have := (atG_mem b l d t (cntL b l d).toNat 0 _).1 (getD_mem 0 (atL b l d t) n h)
  exact ⟨this.1, by have := this.2.1; omega, this.2.2⟩
theorem hsF_at : ∀ (l : List Int) (p : Int) (k : Nat), hsF p l = true → k < l.length → 0 ≤ l.getD k 0 ∧ l.getD k 0 ≤ 11
  | [], p, k, _, hk => by simp at hk
  | h :: t, p, 0, hh, hk => by
    simp only [hsF, Bool.and_eq_true, decide_eq_true_eq] at hh
    exact ⟨hh.1.1, hh.1.2.1⟩
  | h :: t, p, k + 1, hh, hk => by
    simp only [hsF, Bool.and_eq_true, decide_eq_true_eq] at hh
    have := hsF_at t h k hh.2 (by simpa using hk)
    simpa using this
theorem sh_nonneg {a : Int} (h : 0 ≤ a) (n : Nat) : 0 ≤ a / 2 ^ n := Int.ediv_nonneg h (Int.pow_nonneg (by omega))

/-! ### houses that are known in the periods -/
def mk (N : Nat) (F : Nat → Nat → Bool) : List (List Bool) := (List.range N).map fun q => (List.range 12).map (F q)
theorem mk_len (N F) : (mk N F).length = N := by simp [mk]
theorem mk_get {N : Nat} {F : Nat → Nat → Bool} {q : Nat} (h : q < N) (e : List Bool) : (mk N F).getD q e = (List.range 12).map (F q) := by
  simp [mk, List.getD_eq_getElem?_getD, h]
theorem row_get {f : Nat → Bool} {h : Nat} (hh : h < 12) (e : Bool) : ((List.range 12).map f).getD h e = f h := by
  simp [List.getD_eq_getElem?_getD, hh]
theorem mk_congr {N : Nat} {F G : Nat → Nat → Bool} (h : ∀ q h, q < N → h < 12 → F q h = G q h) : mk N F = mk N G := by
  apply List.map_congr_left
  intro q hq
  apply List.map_congr_left
  intro k hk
  exact h q k (by simpa using hq) (by simpa using hk)
theorem row_set (f : Nat → Bool) (h : Nat) (v : Bool) : ((List.range 12).map f).set h v = (List.range 12).map fun x => if x = h then v else f x := by
  apply List.ext_getElem (by simp)
  intro i h1 h2
  simp only [List.getElem_set, List.getElem_map, List.getElem_range]
  by_cases e : h = i
  · subst e; simp
  · rw [if_neg e, if_neg (fun x => e x.symm)]
theorem mk_set {N : Nat} {F : Nat → Nat → Bool} {q : Nat} (hq : q < N) (h : Nat) (v : Bool) (e : List Bool) :
    (mk N F).set q (((mk N F).getD q e).set h v) = mk N fun x y => if x = q ∧ y = h then v else F x y := by
  rw [mk_get hq, row_set]
  apply List.ext_getElem (by simp [mk])
  intro i h1 h2
  simp only [mk, List.getElem_set, List.getElem_map, List.getElem_range]
  by_cases e : q = i
  · subst e
    rw [if_pos rfl]
    apply List.map_congr_left
    intro y hy
    by_cases e2 : y = h
    · simp [e2]
    · simp [e2]
  · rw [if_neg e]
    apply List.map_congr_left
    intro y hy
    rw [if_neg (fun x => e x.1.symm)]
theorem mk_zero (N : Nat) : List.replicate N (List.replicate 12 false) = mk N fun _ _ => false := by
  apply List.ext_getElem (by simp [mk])
  intro i h1 h2
  simp only [mk, List.getElem_replicate, List.getElem_map, List.getElem_range]
  rfl

def bitB (bad : Int) (h : Nat) : Bool := decide (bad / 2 ^ h % 2 = 1)
theorem bit_and (x : Int) (h : 0 ≤ x) : ((x.toNat &&& (1 : Int).toNat : Nat) : Int) = x % 2 := by
  have : x.toNat &&& 1 = x.toNat % 2 := Nat.and_one_is_mod _
  rw [show (1 : Int).toNat = 1 from rfl, this]; omega
theorem bit_store {bad : Int} (h0 : 0 ≤ bad) (h : Int) : (@decide ((((bad / 2 ^ h.toNat).toNat &&& (1 : Int).toNat : Nat) : Int) = 1) (Classical.propDecidable _)) = bitB bad h.toNat := by
  have e := bit_and (bad / 2 ^ h.toNat) (Int.ediv_nonneg h0 (by exact_mod_cast Nat.zero_le _))
  unfold bitB
  rw [← e]
  congr

/-- after the first i periods, and the first k houses of the next one -/
def seenA (hs : List Int) (bad : Int) (i k : Nat) (q h : Nat) : Bool := (decide (q < i) && hs.contains (h : Int) || decide (q = i) && (hs.take k).contains (h : Int)) && bitB bad h
def capIn (b l d : Int) (q h : Nat) (x : Cp) : Bool := decide (x.1 = h) && exB b l d x.2.1 q
def seenC (b l d : Int) (hs : List Int) (bad : Int) (caps : List Cp) (q h : Nat) : Bool := hs.contains (h : Int) && (bitB bad h || caps.any (capIn b l d q h))

theorem seenA_zero (hs bad N) : mk N (seenA hs bad 0 0) = mk N fun _ _ => false := mk_congr fun q h _ _ => by simp [seenA]
theorem contains_take (hs : List Int) (k : Nat) (hk : k < hs.length) (x : Int) : (hs.take (k + 1)).contains x = ((hs.take k).contains x || decide (x = hs.getD k 0)) := by
  rw [take_snoc 0 hs k hk]
  simp [Bool.eq_iff_iff]
theorem seenA_step {hs : List Int} {bad : Int} {N i k : Nat} (hk : k < hs.length) (h0 : 0 ≤ hs.getD k 0) (h1 : hs.getD k 0 ≤ 11) (hi : i < N) (e : List Bool) :
    (mk N (seenA hs bad i k)).set i (((mk N (seenA hs bad i k)).getD i e).set ((hs.getD k 0).toNat * 1) (bitB bad (hs.getD k 0).toNat)) = mk N (seenA hs bad i (k + 1)) := by
  rw [Nat.mul_one, mk_set hi]
  refine mk_congr fun q h hq hh => ?_
  unfold seenA
  rw [contains_take hs k hk]
  by_cases e1 : q = i
  · subst e1
    by_cases e2 : h = (hs.getD k 0).toNat
    · have e3 : (h : Int) = hs.getD k 0 := by omega
      have e4 : (h : Int) = hs.getD k 0 := e3
      rw [if_pos ⟨rfl, e2⟩, ← e2]
      generalize hs.getD k 0 = y at e4 ⊢
      simp [e4]
    · have e3 : ¬ (h : Int) = hs.getD k 0 := by omega
      rw [if_neg (fun x => e2 x.2)]
      generalize hs.getD k 0 = y at e3 ⊢
      simp [e3]
  · rw [if_neg (fun x => e1 x.1)]
    simp [e1]
theorem seenA_next (hs bad N i) : mk N (seenA hs bad i hs.length) = mk N (seenA hs bad (i + 1) 0) := mk_congr fun q h _ _ => by
  unfold seenA
  rw [List.take_length, List.take_zero, Bool.eq_iff_iff]
  simp only [Bool.and_eq_true, Bool.or_eq_true, decide_eq_true_eq]
  constructor
  · rintro ⟨h | h, h2⟩
    · exact ⟨.inl ⟨by omega, h.2⟩, h2⟩
    · exact ⟨.inl ⟨by omega, h.2⟩, h2⟩
  · rintro ⟨h | h, h2⟩
    · by_cases e : q = i
      · exact ⟨.inr ⟨e, h.2⟩, h2⟩
      · exact ⟨.inl ⟨by omega, h.2⟩, h2⟩
    · simp at h
theorem seenA_end (b l d hs bad N) : mk N (seenA hs bad N 0) = mk N (seenC b l d hs bad []) := mk_congr fun q h hq _ => by
  simp [seenA, seenC, hq, Nat.ne_of_lt hq]

theorem seenC_skip {b l d : Int} {hs : List Int} {bad : Int} {caps : List Cp} {N k : Nat} (hk : k < caps.length) (h : ¬ (caps.getD k (0, 0, ())).1 ∈ hs) : mk N (seenC b l d hs bad (caps.take k)) = mk N (seenC b l d hs bad (caps.take (k + 1))) :=
  mk_congr fun q x _ _ => by
    rw [take_snoc (0, 0, ()) caps k hk]
    unfold seenC
    rw [List.any_append]
    by_cases e : (caps.getD k (0, 0, ())).1 = (x : Int)
    · have : hs.contains (x : Int) = false := by rw [← e]; simpa using h
      rw [this]; simp
    · generalize caps.getD k (0, 0, ()) = y at e ⊢
      simp [capIn, e]
/-- in the midst of the periods of a capture -/
def seenR (b l d : Int) (hs : List Int) (bad : Int) (caps : List Cp) (x : Cp) (n : Nat) (q h : Nat) : Bool := seenC b l d hs bad caps q h || decide (x.1 = h) && ((atL b l d x.2.1).take n).contains (q : Int)
theorem seenR_zero (b l d hs bad caps x N) : mk N (seenR b l d hs bad caps x 0) = mk N (seenC b l d hs bad caps) := mk_congr fun q h _ _ => by simp [seenR]
theorem seenR_step {b l d : Int} {hs : List Int} {bad : Int} {caps : List Cp} {x : Cp} {n N : Nat} {v : Bool} (hv : v = true) (hx : x.1 ∈ hs) (h0 : 0 ≤ x.1) (h1 : x.1 ≤ 11) (hn : n < (atL b l d x.2.1).length) (hq0 : 0 ≤ (atL b l d x.2.1).getD n 0) (hq1 : ((atL b l d x.2.1).getD n 0).toNat < N) (e : List Bool) :
    (mk N (seenR b l d hs bad caps x n)).set ((atL b l d x.2.1).getD n 0).toNat (((mk N (seenR b l d hs bad caps x n)).getD ((atL b l d x.2.1).getD n 0).toNat e).set (x.1.toNat * 1) v) = mk N (seenR b l d hs bad caps x (n + 1)) := by
  subst hv
  rw [Nat.mul_one, mk_set hq1]
  refine mk_congr fun q h hq hh => ?_
  unfold seenR
  rw [contains_take _ n hn]
  by_cases e1 : q = ((atL b l d x.2.1).getD n 0).toNat
  · have e3 : (q : Int) = (atL b l d x.2.1).getD n 0 := by omega
    by_cases e2 : h = x.1.toNat
    · have e4 : x.1 = (h : Int) := by omega
      rw [if_pos ⟨e1, e2⟩]
      simp [e4, e3]
    · have e4 : ¬ x.1 = (h : Int) := by omega
      rw [if_neg (fun x => e2 x.2)]
      simp [e4]
  · have e3 : ¬ (q : Int) = (atL b l d x.2.1).getD n 0 := by omega
    rw [if_neg (fun x => e1 x.1)]
    simp only [e3, decide_false, Bool.or_false]
theorem seenR_end {b l d : Int} {hs : List Int} {bad : Int} {caps : List Cp} {k N : Nat} (hk : k < caps.length) (hc : cntL b l d = N) (hx : (caps.getD k (0, 0, ())).1 ∈ hs) :
    mk N (seenR b l d hs bad (caps.take k) (caps.getD k (0, 0, ())) (atL b l d (caps.getD k (0, 0, ())).2.1).length) = mk N (seenC b l d hs bad (caps.take (k + 1))) := mk_congr fun q h hq _ => by
  rw [take_snoc (0, 0, ()) caps k hk]
  unfold seenR seenC
  rw [List.take_length, List.any_append]
  have e : (atL b l d (caps.getD k (0, 0, ())).2.1).contains (q : Int) = exB b l d (caps.getD k (0, 0, ())).2.1 q := by
    rw [Bool.eq_iff_iff, List.contains_iff_mem]
    unfold atL
    rw [atG_mem]
    constructor
    · exact fun h => h.2.2
    · exact fun h => ⟨by omega, by omega, h⟩
  rw [e]
  generalize caps.getD k (0, 0, ()) = y at hx ⊢
  by_cases e2 : y.1 = (h : Int)
  · have : hs.contains (h : Int) = true := by rw [← e2]; simpa using hx
    rw [this]; simp [capIn, e2, Bool.or_assoc]
  · simp [capIn, e2]

/-- how many are true -/
def cntF (f : Nat → Bool) : Nat → Nat
  | 0 => 0
  | k + 1 => cntF f k + (if f k = true then 1 else 0)
theorem cntF_congr {f g : Nat → Bool} : ∀ {k : Nat}, (∀ i, i < k → f i = g i) → cntF f k = cntF g k
  | 0, _ => rfl
  | k + 1, h => by rw [cntF, cntF, cntF_congr fun i hi => h i (by omega), h k (by omega)]
theorem cntF_le (f : Nat → Bool) : ∀ k, cntF f k ≤ k
  | 0 => Nat.le_refl _
  | k + 1 => by have := cntF_le f k; rw [cntF]; split <;> omega
/-- the set of those that are true -/
def setF2 (f : Nat → Bool) : Nat → Nat
  | 0 => 0
  | k + 1 => setF2 f k + (if f k = true then 2 ^ k else 0)
theorem setF2_lt (f : Nat → Bool) : ∀ k, setF2 f k < 2 ^ k
  | 0 => by simp [setF2]
  | k + 1 => by have := setF2_lt f k; rw [setF2, Nat.pow_succ]; split <;> omega
theorem setF2_or (f : Nat → Bool) (k : Nat) : setF2 f k ||| 2 ^ k = setF2 f k + 2 ^ k := by
  have := Nat.two_pow_add_eq_or_of_lt (setF2_lt f k) 1
  rw [Nat.mul_one] at this
  rw [Nat.add_comm, this, Nat.or_comm]
theorem setF2_congr {f g : Nat → Bool} : ∀ {k : Nat}, (∀ i, i < k → f i = g i) → setF2 f k = setF2 g k
  | 0, _ => rfl
  | k + 1, h => by rw [setF2, setF2, setF2_congr fun i hi => h i (by omega), h k (by omega)]
theorem setF2_bound (f : Nat → Bool) {k : Nat} (h : k ≤ 12) : setF2 f k < 4096 := Nat.lt_of_lt_of_le (setF2_lt f k) (Nat.pow_le_pow_right (by omega) h)

def telP (b l d m : Int) (hs : List Int) (bad : Int) (caps : List Cp) (q : Nat) : Bool := decide (m ≤ (cntF (seenC b l d hs bad caps q) 12 : Int))
def telG (b l d m : Int) (hs : List Int) (bad : Int) (caps : List Cp) (k : Nat) : List Int := ((List.range k).filter (telP b l d m hs bad caps)).map Int.ofNat
theorem telG_succ (b l d m hs bad caps k) : telG b l d m hs bad caps (k + 1) = telG b l d m hs bad caps k ++ (if telP b l d m hs bad caps k = true then [(k : Int)] else []) := by
  unfold telG
  rw [List.range_succ, List.filter_append, List.map_append]
  split <;> simp_all
theorem telG_len (b l d m hs bad caps k) : (telG b l d m hs bad caps k).length ≤ k := by
  unfold telG
  rw [List.length_map]
  exact Nat.le_trans (List.length_filter_le _ _) (by simp)
def redL (b l d m : Int) (hs : List Int) (bad : Int) (caps : List Cp) : Int := if chkL b l d m hs = 0 then (if 0 ≤ bad ∧ bad ≤ 4095 then capL caps else 1) else chkL b l d m hs
theorem red0 {b l d m : Int} {hs : List Int} {bad : Int} {caps : List Cp} (h : redL b l d m hs bad caps = 0) : Cal b l d m hs ∧ 0 ≤ bad ∧ bad ≤ 4095 ∧ caps.length ≤ 500 ∧ ∀ x ∈ caps, capB x = true := by
  unfold redL at h
  split at h
  · rename_i h1
    split at h
    · rename_i h2; exact ⟨chk0 h1, h2.1, h2.2, cap0 h⟩
    · omega
  · contradiction
def telL (b l d m : Int) (hs : List Int) (bad : Int) (caps : List Cp) : List Int := if redL b l d m hs bad caps = 0 then telG b l d m hs bad caps (cntL b l d).toNat else []
def senL (b l d m : Int) (hs : List Int) (caps : List Cp) (q : Int) : Int := if chkL b l d m hs = 0 ∧ capL caps = 0 ∧ askL b l d m hs q = 0 then (setF2 (seenC b l d hs 0 caps q.toNat) 12 : Int) else 0
def senE (b l d m : Int) (hs : List Int) (caps : List Cp) (q : Int) : Int := if chkL b l d m hs = 0 then (if capL caps = 0 then askL b l d m hs q else capL caps) else chkL b l d m hs
end Go.Proofs.Ytgljcfnplkcfhaa.S29

namespace Go.Proofs.Ytgljcfnplkcfhaa.S29
open Go Go.Proofs.Ytgljcfnplkcfhaa.Vc Go.Proofs
set_option maxRecDepth 100000
set_option linter.unusedVariables false

def sIdx : List V → Option (Prop × V × List Blk)
  | [.sl false (.int .i64) s, .int .i64 x] => some (s.length ≤ 2000000, .int .i64 (idxF x s 0), [])
  | _ => none
set_option maxHeartbeats 1000000 in
theorem bIdx (s : List Int) (x : Int) (hp0 : s.length ≤ 2000000) : bodyP (En CExd tys [] []) Try.f123 [.k] [.sl false (.int .i64) s, .int .i64 x] (.int .i64 (idxF x s 0)) [] := by
  refine ⟨0, [(0, .k), (1, .k), (7, .k), (8, .k)], fun nM vs H => ∃ (k : Nat), k ≤ s.length ∧ idxF x (s.drop k) k = idxF x s 0 ∧ nM = s.length - k ∧ vs = [.sl false (.int .i64) s, .int .i64 x, .int .i64 (s.length : Int), .int .i64 (k : Int)] ∧ H = [], ⟨rfl, s.length, 0, by omega, rfl, by omega, rfl, rfl⟩, ?_⟩
  rintro nM vs H ⟨k, hc1_0, hc1_1, rfl, rfl, rfl⟩
  refine ⟨fun h0 => ?_, fun h0 => ?_⟩
  · replace h0 : (k : Int) < (s.length : Int) := h0
    rw [drop_one 0 s k (by omega), idxF] at hc1_1
    refine ⟨⟨by show (0 : Int) ≤ (k : Int); omega, by show (k : Int) < (s.length : Int); omega⟩, fun h1 => ?_, fun h1 => ?_⟩
    · replace h1 : x = (s.getD k 0) := h1
      rw [if_pos h1] at hc1_1
      rw [← hc1_1]
      exact ⟨rfl, rfl, rfl, rfl⟩
    · replace h1 : ¬ (x = (s.getD k 0)) := h1
      rw [if_neg h1] at hc1_1
      refine ⟨⟨by show (-9223372036854775808 : Int) ≤ ((k : Int) + 1); omega, by show ((k : Int) + 1) ≤ (9223372036854775807 : Int); omega⟩, ?_⟩
      exact ⟨rfl, s.length - (k + 1), by omega, k + 1, by omega, hc1_1, rfl, rfl, rfl⟩
  · replace h0 : ¬ ((k : Int) < (s.length : Int)) := h0
    rw [List.drop_eq_nil_of_le (by omega), idxF] at hc1_1
    rw [← hc1_1]
    exact ⟨rfl, rfl, rfl, rfl⟩
def CIdx : List (Nat × Con) := (123, pureC [.v (.sl (.int .i64)), .v (.int .i64)] sIdx) :: CExd
theorem kIdx : Known Try.prog (En CIdx tys [] []) := kExd.add Try.func123 Try.call123 [.k] fun ds p v bs h hp => by
  unfold sIdx at h
  split at h <;> simp only [Option.some.injEq, Prod.mk.injEq, reduceCtorEq] at h
  obtain ⟨rfl, rfl, rfl⟩ := h
  exact bIdx _ _ hp
def sCts : List V → Option (Prop × V × List Blk)
  | [.sl false (.int .i64) s, .int .i64 x] => some (s.length ≤ 2000000, .b (x ∈ s), [])
  | _ => none
set_option maxHeartbeats 1000000 in
theorem bCts (s : List Int) (x : Int) (hp0 : s.length ≤ 2000000) : bodyP (En CIdx tys [] []) Try.f88 [.k] [.sl false (.int .i64) s, .int .i64 x] (.b (x ∈ s)) [] := by
  refine ⟨rfl, by show s.length ≤ 2000000; first | omega | assumption, ?_⟩
  exact ⟨rfl, rfl, congrArg V.b (propext (idxF_mem x s 0 (by omega))), rfl⟩
def CCts : List (Nat × Con) := (88, pureC [.v (.sl (.int .i64)), .v (.int .i64)] sCts) :: CIdx
theorem kCts : Known Try.prog (En CCts tys [] []) := kIdx.add Try.func88 Try.call88 [.k] fun ds p v bs h hp => by
  unfold sCts at h
  split at h <;> simp only [Option.some.injEq, Prod.mk.injEq, reduceCtorEq] at h
  obtain ⟨rfl, rfl, rfl⟩ := h
  exact bCts _ _ hp
def sCap : List V → Option (Prop × V × List Blk)
  | [.sl false (.cons (.int .i64) (.cons (.int .i64) .nil)) a] => some (a.length ≤ 2000000, .int .i64 (capL a), [])
  | _ => none
set_option maxHeartbeats 1000000 in
theorem bCap (a : List (Int × (Int × Unit))) (hp0 : a.length ≤ 2000000) : bodyP (En CCts tys [] []) Try.f80 [.k] [.sl false (.cons (.int .i64) (.cons (.int .i64) .nil)) a] (.int .i64 (capL a)) [] := by
  refine ⟨fun h0 => ?_, fun h0 => ?_⟩
  · replace h0 : 500 < (a.length : Int) := h0
    refine ⟨rfl, rfl, ?_, rfl⟩
    unfold capL
    repeat' split
    all_goals first | rfl | omega | (exfalso; simp_all; done)
  · replace h0 : ¬ (500 < (a.length : Int)) := h0
    refine ⟨0, [(3, .k), (9, .k), (10, .k), (11, .k)], fun nM vs H => ∃ (k : Nat), k ≤ a.length ∧ (a.drop k).all capB = a.all capB ∧ nM = a.length - k ∧ vs = [.int .i64 0, .sl false (.cons (.int .i64) (.cons (.int .i64) .nil)) a, .int .i64 (a.length : Int), .int .i64 (k : Int)] ∧ H = [], ⟨rfl, a.length, 0, by omega, rfl, by omega, rfl, rfl⟩, ?_⟩
    rintro nM vs H ⟨k, hc1_0, hc1_1, rfl, rfl, rfl⟩
    refine ⟨fun h1 => ?_, fun h1 => ?_⟩
    · replace h1 : (k : Int) < (a.length : Int) := h1
      have hk : k < a.length := by omega
      refine ⟨⟨by show (0 : Int) ≤ (k : Int); omega, by show (k : Int) < (a.length : Int); omega⟩, ⟨rfl, rfl, rfl, Nat.le_of_ble_eq_true rfl⟩, rfl, rfl, rfl, trivial, fun h2 => ?_, fun h2 => ?_⟩
      · replace h2 : ¬ (¬ (0 ≤ ((a.getD k (0, (0, ()))).1) ∧ ((a.getD k (0, (0, ()))).1) ≤ 11)) := h2
        refine ⟨rfl, rfl, rfl, trivial, fun h3 => ?_, fun h3 => ?_⟩
        · replace h3 : ¬ (0 ≤ (((a.getD k (0, (0, ()))).2).1) ∧ (((a.getD k (0, (0, ()))).2).1) ≤ 1000000) := h3
          have e := all_bad (d := (0, (0, ()))) hk hc1_1 (capB_no (by omega))
          refine ⟨rfl, rfl, ?_, rfl⟩
          unfold capL
          repeat' split
          all_goals first | rfl | omega | (exfalso; simp_all; done)
        · replace h3 : ¬ (¬ (0 ≤ (((a.getD k (0, (0, ()))).2).1) ∧ (((a.getD k (0, (0, ()))).2).1) ≤ 1000000)) := h3
          refine ⟨⟨by show (-9223372036854775808 : Int) ≤ ((k : Int) + 1); omega, by show ((k : Int) + 1) ≤ (9223372036854775807 : Int); omega⟩, ?_⟩
          exact ⟨rfl, a.length - (k + 1), by omega, k + 1, by omega, all_next (d := (0, (0, ()))) hk hc1_1 (capB_yes (by omega)), rfl, rfl, rfl⟩
      · replace h2 : ¬ (0 ≤ ((a.getD k (0, (0, ()))).1) ∧ ((a.getD k (0, (0, ()))).1) ≤ 11) := h2
        have e := all_bad (d := (0, (0, ()))) hk hc1_1 (capB_no (by omega))
        refine ⟨rfl, rfl, ?_, rfl⟩
        unfold capL
        repeat' split
        all_goals first | rfl | omega | (exfalso; simp_all; done)
    · replace h1 : ¬ ((k : Int) < (a.length : Int)) := h1
      have e := all_end (by omega) hc1_1
      refine ⟨rfl, rfl, ?_, rfl⟩
      unfold capL
      repeat' split
      all_goals first | rfl | omega | (exfalso; simp_all; done)
def CCap : List (Nat × Con) := (80, pureC [.v (.sl (.cons (.int .i64) (.cons (.int .i64) .nil)))] sCap) :: CCts
theorem kCap : Known Try.prog (En CCap tys [] []) := kCts.add Try.func80 Try.call80 [.k] fun ds p v bs h hp => by
  unfold sCap at h
  split at h <;> simp only [Option.some.injEq, Prod.mk.injEq, reduceCtorEq] at h
  obtain ⟨rfl, rfl, rfl⟩ := h
  exact bCap _ hp
def sAt : List V → Option (Prop × Nat × (Nat → List V))
  | [.rp false (.int .i64) t 0, .rp false (.cons (.int .i64) (.cons (.int .i64) (.cons (.int .i64) (.cons (.int .i64) (.cons (.sl (.int .i64)) .nil))))) c 0] => some (Cal c.1 c.2.1 c.2.2.1 c.2.2.2.1 c.2.2.2.2.1 ∧ 0 ≤ t ∧ t ≤ 1000000, ((atL c.1 c.2.1 c.2.2.1 t).length, fun n => [.int .i64 ((atL c.1 c.2.1 c.2.2.1 t).getD n 0)]))
  | _ => none
set_option maxHeartbeats 1000000 in
theorem bAt (t : Int) (c : (Int × (Int × (Int × (Int × (List Int × Unit)))))) (hp0 : Cal c.1 c.2.1 c.2.2.1 c.2.2.2.1 c.2.2.2.2.1) (hp1 : 0 ≤ t) (hp2 : t ≤ 1000000) : bodyS (En CCap tys [] []).inR Try.f137 [.rp false (.int .i64) t 0, .rp false (.cons (.int .i64) (.cons (.int .i64) (.cons (.int .i64) (.cons (.int .i64) (.cons (.sl (.int .i64)) .nil))))) c 0] [.v (.int .i64)] ((atL c.1 c.2.1 c.2.2.1 t).length, fun n => [.int .i64 ((atL c.1 c.2.1 c.2.2.1 t).getD n 0)]) := by
  obtain ⟨q1, q2, q3, q4, q5, q6, q7, q8, q9, q10, q11⟩ := id hp0
  have hst := at_start (b := c.1) (l := c.2.1) (t := t) q4 (by omega)
  obtain ⟨q0, hq0⟩ : ∃ q0 : Nat, max 0 (Int.tdiv (t - 2 - c.1) c.2.2.1) = (q0 : Int) := ⟨(max 0 (Int.tdiv (t - 2 - c.1) c.2.2.1)).toNat, by omega⟩
  rw [hq0] at hst
  refine ⟨rfl, ⟨by show (-9223372036854775808 : Int) ≤ (t - 2); omega, by show (t - 2) ≤ (9223372036854775807 : Int); omega⟩, ⟨by show (-9223372036854775808 : Int) ≤ ((t - 2) - c.1); omega, by show ((t - 2) - c.1) ≤ (9223372036854775807 : Int); omega⟩, .inr (.inr ⟨by show (0 : Int) < c.2.2.1; omega, ?_⟩)⟩
  refine ⟨0, [(0, .k), (1, .k), (2, .k), (4, .k)], fun nM vs H => ∃ (k q : Nat), k ≤ (atL c.1 c.2.1 c.2.2.1 t).length ∧ (atL c.1 c.2.1 c.2.2.1 t).drop k = atG c.1 c.2.1 c.2.2.1 t (cntL c.1 c.2.1 c.2.2.1 - q).toNat q ∧ nM = (cntL c.1 c.2.1 c.2.2.1).toNat - q ∧ vs = [.yld (some k), .rp false (.int .i64) t 0, .rp false (.cons (.int .i64) (.cons (.int .i64) (.cons (.int .i64) (.cons (.int .i64) (.cons (.sl (.int .i64)) .nil))))) c 0, .int .i64 (q : Int)] ∧ H = [], ⟨rfl, (cntL c.1 c.2.1 c.2.2.1).toNat - q0, 0, q0, by omega, hst, by omega, by rw [← hq0]; rfl, rfl⟩, ?_⟩
  rintro nM vs H ⟨k, q, hc1_0, hc1_1, rfl, rfl, rfl⟩
  refine ⟨rfl, rfl, rfl, rfl, ⟨by show 0 ≤ c.1; first | omega | assumption, by show c.1 ≤ c.2.1; first | omega | assumption, by show c.2.1 ≤ 1000000; first | omega | assumption, by show 1 ≤ c.2.2.1; first | omega | assumption⟩, fun h0 => ?_, fun h0 => ?_⟩
  · replace h0 : (q : Int) < (cntL c.1 c.2.1 c.2.2.1) := h0
    obtain ⟨f, hf⟩ : ∃ f : Nat, (cntL c.1 c.2.1 c.2.2.1 - q).toNat = f + 1 := ⟨(cntL c.1 c.2.1 c.2.2.1 - q).toNat - 1, by omega⟩
    have hf2 : (cntL c.1 c.2.1 c.2.2.1 - ((q + 1 : Nat) : Int)).toNat = f := by omega
    rw [hf] at hc1_1
    refine ⟨rfl, rfl, rfl, rfl, rfl, ⟨by show 0 ≤ c.1; first | omega | assumption, by show c.1 ≤ c.2.1; first | omega | assumption, by show c.2.1 ≤ 1000000; first | omega | assumption, by show 1 ≤ c.2.2.1; first | omega | assumption, by show c.2.2.1 ≤ 1000000; first | omega | assumption, by show 0 ≤ (q : Int); first | omega | assumption, by show (q : Int) < cntL c.1 c.2.1 c.2.2.1; first | omega | assumption⟩, fun h1 => ?_, fun h1 => ?_⟩
    · replace h1 : t < (expF c.1 c.2.2.1 (q : Int)) := h1
      rw [atG_nil _ _ _ _ _ _ fun x g1 _ => at_late q4 h1 g1] at hc1_1
      have hz := drop_nil hc1_0 hc1_1
      show (k : Nat) = (atL c.1 c.2.1 c.2.2.1 t).length
      omega
    · replace h1 : ¬ (t < (expF c.1 c.2.2.1 (q : Int))) := h1
      refine ⟨fun h2 => ?_, fun h2 => ?_⟩
      · replace h2 : t ≤ (expT c.1 c.2.1 c.2.2.1 (q : Int)) := h2
        have hx : exB c.1 c.2.1 c.2.2.1 t q = true := decide_eq_true ⟨by omega, h2⟩
        rw [atG, if_pos hx] at hc1_1
        obtain ⟨y1, y2, y3⟩ := drop_cons (d := 0) hc1_1
        refine ⟨rfl, ⟨y1, by show [V.int .i64 (q : Int)] = [V.int .i64 ((atL c.1 c.2.1 c.2.2.1 t).getD k 0)]; rw [y2]⟩, ?_, ?_⟩
        · refine ⟨⟨by show (-9223372036854775808 : Int) ≤ ((q : Int) + 1); omega, by show ((q : Int) + 1) ≤ (9223372036854775807 : Int); omega⟩, ?_⟩
          exact ⟨rfl, (cntL c.1 c.2.1 c.2.2.1).toNat - (q + 1), by omega, k + 1, q + 1, by omega, by rw [y3, hf2]; rfl, rfl, rfl, rfl⟩
        · trivial
      · replace h2 : ¬ (t ≤ (expT c.1 c.2.1 c.2.2.1 (q : Int))) := h2
        have hx : ¬ exB c.1 c.2.1 c.2.2.1 t q = true := by unfold exB; rw [decide_eq_true_eq]; omega
        rw [atG, if_neg hx] at hc1_1
        refine ⟨⟨by show (-9223372036854775808 : Int) ≤ ((q : Int) + 1); omega, by show ((q : Int) + 1) ≤ (9223372036854775807 : Int); omega⟩, ?_⟩
        exact ⟨rfl, (cntL c.1 c.2.1 c.2.2.1).toNat - (q + 1), by omega, k, q + 1, by omega, by rw [hc1_1, hf2]; rfl, rfl, rfl, rfl⟩
  · replace h0 : ¬ ((q : Int) < (cntL c.1 c.2.1 c.2.2.1)) := h0
    rw [show (cntL c.1 c.2.1 c.2.2.1 - (q : Int)).toNat = 0 by omega, atG] at hc1_1
    have hz := drop_nil hc1_0 hc1_1
    show (k : Nat) = (atL c.1 c.2.1 c.2.2.1 t).length
    omega
def QAt : List (Nat × SeqC) := (137, [.ref (.int .i64), .ref (.cons (.int .i64) (.cons (.int .i64) (.cons (.int .i64) (.cons (.int .i64) (.cons (.sl (.int .i64)) .nil)))))], sAt) :: []
def CAt : List (Nat × Con) := CCap
theorem kAt : Known Try.prog (En CAt tys [] QAt) := kCap.addSeq Try.func137 Try.call137 [.v (.int .i64)] fun ds p L h hp => by
  unfold sAt at h
  split at h <;> simp only [Option.some.injEq, Prod.mk.injEq, reduceCtorEq] at h
  obtain ⟨rfl, rfl⟩ := h
  exact bAt _ _ hp.1 hp.2.1 hp.2.2
def sAtt : List V → Option (Prop × V × List Blk)
  | [.agg [.int .i64 b, .int .i64 l, .int .i64 d, .int .i64 m, .sl false (.int .i64) hs], .int .i64 t] => some (True, .fn 137 [.ptr 0 1 0 0, .ptr 1 1 0 0], [.cells [.int .i64 (t)], .cells [.int .i64 (b), .int .i64 (l), .int .i64 (d), .int .i64 (m), .sl false (.int .i64) (hs)]])
  | _ => none
set_option maxHeartbeats 1000000 in
theorem bAtt (b : Int) (l : Int) (d : Int) (m : Int) (hs : List Int) (t : Int)  : bodyI (En CAt tys [] QAt) Try.f121 [.c []] [.agg [.int .i64 b, .int .i64 l, .int .i64 d, .int .i64 m, .sl false (.int .i64) hs], .int .i64 t] (.fn 137 [.ptr 0 1 0 0, .ptr 1 1 0 0]) [.cells [.int .i64 (t)], .cells [.int .i64 (b), .int .i64 (l), .int .i64 (d), .int .i64 (m), .sl false (.int .i64) (hs)]] := by
  exact ⟨rfl, rfl, rfl, rfl⟩
def CAtt : List (Nat × Con) := (121, immC [.v (.cons (.int .i64) (.cons (.int .i64) (.cons (.int .i64) (.cons (.int .i64) (.cons (.sl (.int .i64)) .nil))))), .v (.int .i64)] sAtt) :: CAt
theorem kAtt : Known Try.prog (En CAtt tys [] QAt) := kAt.addI Try.func121 Try.call121 [.c []] fun ds p v bs h hp => by
  unfold sAtt at h
  split at h <;> simp only [Option.some.injEq, Prod.mk.injEq, reduceCtorEq] at h
  obtain ⟨rfl, rfl, rfl⟩ := h
  exact bAtt _ _ _ _ _ _
def sMany : List V → Option (Prop × V × List Blk)
  | [.dat false (.arr 12 .bool) x] => some (x.length = 12, .int .i64 (cntF (fun i => x.getD i false) 12 : Int), [])
  | _ => none
set_option maxHeartbeats 1000000 in
theorem bMany (x : List Bool) (hp0 : x.length = 12) : bodyP (En CAtt tys [] QAt) Try.f86 [.k] [.dat false (.arr 12 .bool) x] (.int .i64 (cntF (fun i => x.getD i false) 12 : Int)) [] := by
  refine ⟨⟨rfl, by first | assumption | rfl | simp⟩, by first | assumption | rfl | simp, 1, [(3, .k), (6, .k), (7, .k)], fun nM vs H => ∃ (k : Nat), k ≤ 12 ∧ nM = 12 - k ∧ vs = [.int .i64 (cntF (fun i => x.getD i false) k : Int), .dat true (.arr 12 .bool) x, .int .i64 (k : Int)] ∧ H = [.row true .bool x], ⟨rfl, 12, 0, by omega, by omega, rfl, rfl⟩, ?_⟩
  rintro nM vs H ⟨k, hc1_0, rfl, rfl, rfl⟩
  have hle := cntF_le (fun i => x.getD i false) k
  have hsu : cntF (fun i => x.getD i false) (k + 1) = cntF (fun i => x.getD i false) k + (if x.getD k false = true then 1 else 0) := rfl
  refine ⟨fun h0 => ?_, fun h0 => ?_⟩
  · replace h0 : (k : Int) < 12 := h0
    refine ⟨⟨by show (0 : Int) ≤ (k : Int); omega, by show (k : Int) < (12 : Int); omega⟩, fun h1 => ?_, fun h1 => ?_⟩
    · replace h1 : (x.getD k false) = true := h1
      refine ⟨⟨by show (-9223372036854775808 : Int) ≤ ((cntF (fun i => x.getD i false) k : Int) + 1); omega, by show ((cntF (fun i => x.getD i false) k : Int) + 1) ≤ (9223372036854775807 : Int); omega⟩, ⟨by show (-9223372036854775808 : Int) ≤ ((k : Int) + 1); omega, by show ((k : Int) + 1) ≤ (9223372036854775807 : Int); omega⟩, ?_⟩
      first | rw [if_pos h1] at hsu | rw [if_neg h1] at hsu
      exact ⟨rfl, 12 - (k + 1), by omega, k + 1, by omega, rfl, by rw [hsu]; rfl, rfl⟩
    · replace h1 : ¬ ((x.getD k false) = true) := h1
      refine ⟨⟨by show (-9223372036854775808 : Int) ≤ ((k : Int) + 1); omega, by show ((k : Int) + 1) ≤ (9223372036854775807 : Int); omega⟩, ?_⟩
      first | rw [if_pos h1] at hsu | rw [if_neg h1] at hsu
      exact ⟨rfl, 12 - (k + 1), by omega, k + 1, by omega, rfl, by rw [hsu]; rfl, rfl⟩
  · replace h0 : ¬ ((k : Int) < 12) := h0
    obtain rfl : k = 12 := by omega
    exact ⟨rfl, rfl, rfl, rfl⟩
def CMany : List (Nat × Con) := (86, pureC [.v (.arr 12 .bool)] sMany) :: CAtt
theorem kMany : Known Try.prog (En CMany tys [] QAt) := kAtt.add Try.func86 Try.call86 [.k] fun ds p v bs h hp => by
  unfold sMany at h
  split at h <;> simp only [Option.some.injEq, Prod.mk.injEq, reduceCtorEq] at h
  obtain ⟨rfl, rfl, rfl⟩ := h
  exact bMany _ hp
def sSeen : List V → Option (Prop × V × List Blk)
  | [.agg [.int .i64 b, .int .i64 l, .int .i64 d, .int .i64 m, .sl false (.int .i64) hs], .int .i64 bad, .sl false (.cons (.int .i64) (.cons (.int .i64) .nil)) a] => some (Cal b l d m hs ∧ 0 ≤ bad ∧ a.length ≤ 500 ∧ ∀ x ∈ a, capB x = true, .own (.arr 12 .bool) 0, [.row true (.arr 12 .bool) (mk (cntL b l d).toNat (seenC b l d hs bad a))])
  | _ => none
set_option maxHeartbeats 1000000 in
theorem bSeen (b : Int) (l : Int) (d : Int) (m : Int) (hs : List Int) (bad : Int) (a : List (Int × (Int × Unit))) (hp0 : Cal b l d m hs) (hp1 : 0 ≤ bad) (hp2 : a.length ≤ 500) (hp3 : ∀ x ∈ a, capB x = true) : bodyP (En CMany tys [] QAt) Try.f81 [.o (.arr 12 .bool)] [.agg [.int .i64 b, .int .i64 l, .int .i64 d, .int .i64 m, .sl false (.int .i64) hs], .int .i64 bad, .sl false (.cons (.int .i64) (.cons (.int .i64) .nil)) a] (.own (.arr 12 .bool) 0) [.row true (.arr 12 .bool) (mk (cntL b l d).toNat (seenC b l d hs bad a))] := by
  obtain ⟨q1, q2, q3, q4, q5, q6, q7, q8, q9, q10, q11⟩ := id hp0
  obtain ⟨N, hN⟩ : ∃ N : Nat, cntL b l d = (N : Int) := ⟨(cntL b l d).toNat, by omega⟩
  have hRl : (List.replicate ((cntL b l d).toNat) (List.replicate 12 false)).length = N := by rw [List.length_replicate, hN]; rfl
  have hinit : mk N (seenA hs bad 0 0) = List.replicate ((cntL b l d).toNat) (List.replicate 12 false) := by rw [seenA_zero, ← mk_zero, hN]; rfl
  refine ⟨rfl, rfl, rfl, rfl, ⟨by show 0 ≤ b; first | omega | assumption, by show b ≤ l; first | omega | assumption, by show l ≤ 1000000; first | omega | assumption, by show 1 ≤ d; first | omega | assumption⟩, ⟨rfl, by show (0 : Int) ≤ cntL b l d; omega, by show cntL b l d ≤ (1000000000 : Int); omega⟩, ⟨rfl, rfl, rfl⟩, 3, [(1, .k), (2, .k), (3, .k), (7, .k), (18, .k), (19, .k)], fun nM vs H => ∃ (i : Nat), i ≤ N ∧ nM = N - i ∧ vs = [.int .i64 bad, .sl false (.cons (.int .i64) (.cons (.int .i64) .nil)) a, .ptr 0 1 0 0, .ptr 2 1 0 0, .int .i64 (((List.replicate ((cntL b l d).toNat) (List.replicate 12 false)).length : Nat) : Int), .int .i64 (i : Int)] ∧ H = [.cells [.int .i64 b, .int .i64 l, .int .i64 d, .int .i64 m, .sl false (.int .i64) hs], .row true (.arr 12 .bool) (mk N (seenA hs bad i 0)), .cells [.own (.arr 12 .bool) 1]], ⟨rfl, N, 0, by omega, by omega, rfl, by rw [hinit]; rfl⟩, ?_⟩
  rintro nM vs H ⟨i, hc1_0, rfl, rfl, rfl⟩
  refine ⟨fun h0 => ?_, fun h0 => ?_⟩
  · replace h0 : (i : Int) < (((List.replicate ((cntL b l d).toNat) (List.replicate 12 false)).length : Nat) : Int) := h0
    refine ⟨3, [(1, .k), (2, .k), (3, .k), (7, .k), (8, .k), (18, .k), (19, .k), (23, .k), (24, .k), (25, .k)], fun nM vs H => ∃ (k : Nat), k ≤ hs.length ∧ nM = hs.length - k ∧ vs = [.int .i64 bad, .sl false (.cons (.int .i64) (.cons (.int .i64) .nil)) a, .ptr 0 1 0 0, .ptr 2 1 0 0, .int .i64 (i : Int), .int .i64 (((List.replicate ((cntL b l d).toNat) (List.replicate 12 false)).length : Nat) : Int), .int .i64 (i : Int), .sl false (.int .i64) hs, .int .i64 (hs.length : Int), .int .i64 (k : Int)] ∧ H = [.cells [.int .i64 b, .int .i64 l, .int .i64 d, .int .i64 m, .sl false (.int .i64) hs], .row true (.arr 12 .bool) (mk N (seenA hs bad i k)), .cells [.own (.arr 12 .bool) 1]], ⟨rfl, hs.length, 0, by omega, by omega, rfl, rfl⟩, ?_⟩
    rintro nM vs H ⟨k, hc2_0, rfl, rfl, rfl⟩
    refine ⟨fun h1 => ?_, fun h1 => ?_⟩
    · replace h1 : (k : Int) < (hs.length : Int) := h1
      have hkl : k < hs.length := by omega
      obtain ⟨g0, g1⟩ := hsF_at hs _ k q8 hkl
      have g2 := sh_nonneg hp1 (hs.getD k 0).toNat
      have hiN : i < N := by omega
      have hml := mk_len N (seenA hs bad i k)
      refine ⟨⟨by show (0 : Int) ≤ (k : Int); omega, by show (k : Int) < (hs.length : Int); omega⟩, by kernel_rfl, ⟨by show (0 : Int) ≤ hs.getD k 0; omega, by show hs.getD k 0 ≤ (64 : Int); omega⟩, .inl ⟨⟨by show (0 : Int) ≤ (bad / 2 ^ ((hs.getD k 0).toNat)); omega, by show (0 : Int) ≤ 1; omega⟩, ?_⟩⟩
      refine ⟨⟨by show (0 : Int) ≤ (i : Int); omega, by show (i : Int) < ((mk N (seenA hs bad i k)).length : Int); omega⟩, ⟨by show (0 : Int) ≤ hs.getD k 0; omega, by show hs.getD k 0 < (12 : Int); omega⟩, ⟨rfl, rfl⟩, ⟨by show (-9223372036854775808 : Int) ≤ ((k : Int) + 1); omega, by show ((k : Int) + 1) ≤ (9223372036854775807 : Int); omega⟩, ?_⟩
      exact ⟨rfl, hs.length - (k + 1), by omega, k + 1, by omega, rfl, rfl, by rw [← seenA_step hkl g0 g1 hiN (List.replicate 12 false), ← bit_store hp1]; rfl⟩
    · replace h1 : ¬ ((k : Int) < (hs.length : Int)) := h1
      have hk : k = hs.length := by omega
      refine ⟨⟨by show (-9223372036854775808 : Int) ≤ ((i : Int) + 1); omega, by show ((i : Int) + 1) ≤ (9223372036854775807 : Int); omega⟩, ?_⟩
      exact ⟨rfl, N - (i + 1), by omega, i + 1, by omega, rfl, rfl, by rw [hk, seenA_next]; rfl⟩
  · replace h0 : ¬ ((i : Int) < (((List.replicate ((cntL b l d).toNat) (List.replicate 12 false)).length : Nat) : Int)) := h0
    have hi : i = N := by omega
    refine ⟨3, [(3, .k), (7, .k), (41, .k), (42, .k), (43, .k)], fun nM vs H => ∃ (k : Nat), k ≤ a.length ∧ nM = a.length - k ∧ vs = [.ptr 0 1 0 0, .ptr 2 1 0 0, .sl false (.cons (.int .i64) (.cons (.int .i64) .nil)) a, .int .i64 (a.length : Int), .int .i64 (k : Int)] ∧ H = [.cells [.int .i64 b, .int .i64 l, .int .i64 d, .int .i64 m, .sl false (.int .i64) hs], .row true (.arr 12 .bool) (mk N (seenC b l d hs bad (a.take k))), .cells [.own (.arr 12 .bool) 1]], ⟨rfl, a.length, 0, by omega, by omega, rfl, by rw [hi, List.take_zero, ← seenA_end]; rfl⟩, ?_⟩
    rintro nM vs H ⟨k, hc3_0, rfl, rfl, rfl⟩
    refine ⟨fun h2 => ?_, fun h2 => ?_⟩
    · replace h2 : (k : Int) < (a.length : Int) := h2
      have hka : k < a.length := by omega
      have hcb := capB_ok (hp3 _ (getD_mem (0, (0, ())) a k hka))
      refine ⟨⟨by show (0 : Int) ≤ (k : Int); omega, by show (k : Int) < (a.length : Int); omega⟩, ⟨rfl, rfl, rfl, Nat.le_of_ble_eq_true rfl⟩, rfl, by show hs.length ≤ 2000000; first | omega | assumption, fun h3 => ?_, fun h3 => ?_⟩
      · replace h3 : ¬ (((a.getD k (0, (0, ()))).1) ∈ hs) := h3
        refine ⟨⟨by show (-9223372036854775808 : Int) ≤ ((k : Int) + 1); omega, by show ((k : Int) + 1) ≤ (9223372036854775807 : Int); omega⟩, ?_⟩
        first
        | exact ⟨rfl, a.length - (k + 1), by omega, k + 1, by omega, rfl, rfl, by rw [← seenC_skip hka h3]; rfl⟩
        | exact ⟨rfl, a.length - (k + 1), by omega, k + 1, by omega, rfl, rfl, by rw [← seenR_end hka hN hx]; rfl⟩
      · replace h3 : ¬ (¬ (((a.getD k (0, (0, ()))).1) ∈ hs)) := h3
        have hx := Classical.not_not.1 h3
        have hz : 0 ≤ cntL b l d := by omega
        refine ⟨rfl, rfl, rfl, rfl, rfl, trivial, rfl, rfl, rfl, rfl, rfl, rfl, ⟨⟨by assumption, by show 0 ≤ (((a.getD k (0, (0, ()))).2).1); first | omega | assumption, by show (((a.getD k (0, (0, ()))).2).1) ≤ 1000000; first | omega | assumption⟩, fun _ _ => rfl⟩, 4, [(3, .k), (7, .k), (12, .k), (41, .k), (42, .k), (43, .k)], fun n vs H => n ≤ (atL b l d (a.getD k (0, (0, ()))).2.1).length ∧ vs = [.ptr 0 1 0 0, .ptr 2 1 0 0, .ptr 3 1 0 0, .sl false (.cons (.int .i64) (.cons (.int .i64) .nil)) a, .int .i64 (a.length : Int), .int .i64 (k : Int)] ∧ H = [.cells [.int .i64 b, .int .i64 l, .int .i64 d, .int .i64 m, .sl false (.int .i64) hs], .row true (.arr 12 .bool) (mk N (seenR b l d hs bad (a.take k) (a.getD k (0, (0, ()))) n)), .cells [.own (.arr 12 .bool) 1], .cells [.int .i64 ((a.getD k (0, (0, ()))).1), .int .i64 (((a.getD k (0, (0, ()))).2).1)]], ⟨rfl, by omega, rfl, by rw [seenR_zero]; rfl⟩, ?_, ?_⟩
        · rintro n vs H ⟨hc4_0, rfl, rfl⟩ hn4
          replace hn4 : n < (atL b l d (((a.getD k (0, (0, ()))).2).1)).length := hn4
          replace hn4 : n < (atL b l d (a.getD k (0, (0, ()))).2.1).length := hn4
          obtain ⟨y1, y2, y3⟩ := atL_at hz hn4
          have hml := mk_len N (seenR b l d hs bad (a.take k) (a.getD k (0, (0, ()))) n)
          refine ⟨by kernel_rfl, ⟨by show (0 : Int) ≤ (atL b l d (((a.getD k (0, (0, ()))).2).1)).getD n 0; omega, by show (atL b l d (((a.getD k (0, (0, ()))).2).1)).getD n 0 < ((mk N (seenR b l d hs bad (a.take k) (a.getD k (0, (0, ()))) n)).length : Int); omega⟩, ⟨by show (0 : Int) ≤ (a.getD k (0, (0, ()))).1; omega, by show (a.getD k (0, (0, ()))).1 < (12 : Int); omega⟩, ⟨rfl, rfl⟩, ?_⟩
          exact ⟨rfl, rfl, by omega, rfl, by rw [← seenR_step (v := @decide (true = true) (Classical.propDecidable _)) (by simp) hx hcb.1 hcb.2.1 hn4 y1 (by omega) (List.replicate 12 false)]; rfl⟩
        · rintro vs H ⟨hc4_0, rfl, rfl⟩
          refine ⟨⟨by show (-9223372036854775808 : Int) ≤ ((k : Int) + 1); omega, by show ((k : Int) + 1) ≤ (9223372036854775807 : Int); omega⟩, ?_⟩
          first
          | exact ⟨rfl, a.length - (k + 1), by omega, k + 1, by omega, rfl, rfl, by rw [← seenC_skip hka h3]; rfl⟩
          | exact ⟨rfl, a.length - (k + 1), by omega, k + 1, by omega, rfl, rfl, by rw [← seenR_end hka hN hx]; rfl⟩
    · replace h2 : ¬ ((k : Int) < (a.length : Int)) := h2
      have e : mk N (seenC b l d hs bad (a.take k)) = mk (cntL b l d).toNat (seenC b l d hs bad a) := by rw [show k = a.length by omega, List.take_length, hN]; rfl
      rw [← e]
      exact ⟨rfl, rfl, rfl, rfl⟩
def CSeen : List (Nat × Con) := (81, pureC [.v (.cons (.int .i64) (.cons (.int .i64) (.cons (.int .i64) (.cons (.int .i64) (.cons (.sl (.int .i64)) .nil))))), .v (.int .i64), .v (.sl (.cons (.int .i64) (.cons (.int .i64) .nil)))] sSeen) :: CMany
theorem kSeen : Known Try.prog (En CSeen tys [] QAt) := kMany.add Try.func81 Try.call81 [.o (.arr 12 .bool)] fun ds p v bs h hp => by
  unfold sSeen at h
  split at h <;> simp only [Option.some.injEq, Prod.mk.injEq, reduceCtorEq] at h
  obtain ⟨rfl, rfl, rfl⟩ := h
  exact bSeen _ _ _ _ _ _ _ hp.1 hp.2.1 hp.2.2.1 hp.2.2.2
end Go.Proofs.Ytgljcfnplkcfhaa.S29
