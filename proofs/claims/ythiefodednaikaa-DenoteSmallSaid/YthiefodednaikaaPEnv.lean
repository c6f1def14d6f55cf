/- Part of the proof: conditions and contracts of functions of this program. No condition of its own. -/
import Derived.Test.YthiefodednaikaaProg
import Derived.Test.YthiefodednaikaaMc
import Derived.KernelRfl
set_option linter.unusedVariables false
set_option linter.unusedSimpArgs false
set_option linter.unusedSectionVars false
namespace Go.Proofs.Ythiefodednaikaa
open Go Go.Eng Go.Proofs
set_option maxRecDepth 100000
abbrev Zaq(s:Shape)(R:Value->Mem->List (List Value)->Prop):Prop:=∀(v:Value)(m':Mem) (css:List (List Value)),R v m' css->Shape.fits s v=true
abbrev shT:Shape:=.agg [.int .u8,.int .u64,.int .u64,.int .u64,.int .u64,.int .i64,.int .i64,.slice]
noncomputable def Zyj:List (Nat×TI):=[
 (3,⟨.int .i64,1,.int .i64 0,8⟩),
 (4,⟨.bool,1,.bool .false,1⟩),
 (5,⟨.int .u8,1,.int .u8 0,1⟩),
 (9,⟨.string,1,.string .empty,16⟩),
 (22,⟨.slice 83,1,.slice none 0 0,24⟩),
 (24,⟨.int .u64,1,.int .u64 0,8⟩),
 (25,⟨.array 4 24,4,.agg #[.int .u64 0,.int .u64 0,.int .u64 0,.int .u64 0],32⟩),
 (26,⟨.array 4 24,4,.agg #[.int .u64 0,.int .u64 0,.int .u64 0,.int .u64 0],32⟩),
 (27,⟨.slice 29,1,.slice none 0 0,24⟩),
 (29,⟨.struct #[⟨ "Kind",5,0,.false, "", "",0⟩,⟨ "Set",26,1,.false, "", "",8⟩,⟨ "Min",3,5,.false, "", "",40⟩,⟨ "Max",3,6,.false, "", "",48⟩,⟨ "Subs",27,7,.false, "", "",56⟩],8,.agg #[.int .u8 0,.int .u64 0,.int .u64 0,.int .u64 0,.int .u64 0,.int .i64 0,.int .i64 0,.slice none 0 0],80⟩),
 (32,⟨.slice 5,1,.slice none 0 0,24⟩),
 (33,⟨.int .i64,1,.int .i64 0,8⟩),
 (34,⟨.struct #[⟨ "n",29,0,.false, "", "repartee/reparteelaw13",0⟩,⟨ "s",32,8,.false, "", "repartee/reparteelaw13",80⟩,⟨ "at",3,9,.false, "", "repartee/reparteelaw13",104⟩,⟨ "want",33,10,.false, "", "repartee/reparteelaw13",112⟩],11,.agg #[.int .u8 0,.int .u64 0,.int .u64 0,.int .u64 0,.int .u64 0,.int .i64 0,.int .i64 0,.slice none 0 0,.slice none 0 0,.int .i64 0,.int .i64 0],120⟩),
 (35,⟨.slice 34,1,.slice none 0 0,24⟩),
 (37,⟨.struct #[⟨ "Begin",4,0,.false, "", "",0⟩,⟨ "End",4,1,.false, "", "",1⟩,⟨ "Root",29,2,.false, "", "",8⟩],10,.agg #[.bool .false,.bool .false,.int .u8 0,.int .u64 0,.int .u64 0,.int .u64 0,.int .u64 0,.int .i64 0,.int .i64 0,.slice none 0 0],88⟩),
 (38,⟨.slice 3,1,.slice none 0 0,24⟩),
 (46,⟨.struct #[⟨ "Rule",3,0,.false, "", "",0⟩,⟨ "From",3,1,.false, "", "",8⟩,⟨ "To",3,2,.false, "", "",16⟩],3,.agg #[.int .i64 0,.int .i64 0,.int .i64 0],24⟩),
 (49,⟨.slice 37,1,.slice none 0 0,24⟩),
 (50,⟨.slice 33,1,.slice none 0 0,24⟩),
 (60,⟨.slice 22,1,.slice none 0 0,24⟩),
 (63,⟨.slice 38,1,.slice none 0 0,24⟩),
 (71,⟨.slice 4,1,.slice none 0 0,24⟩),
 (76,⟨.array 2 3,2,.agg #[.int .i64 0,.int .i64 0],16⟩),
 (77,⟨.slice 76,1,.slice none 0 0,24⟩),
 (79,⟨.struct #[⟨ "l",49,0,.false, "", "repartee/reparteelaw13",0⟩,⟨ "b",9,1,.false, "", "repartee/reparteelaw13",24⟩,⟨ "want",46,2,.false, "", "repartee/reparteelaw13",40⟩],5,.agg #[.slice none 0 0,.string .empty,.int .i64 0,.int .i64 0,.int .i64 0],64⟩),
 (80,⟨.slice 79,1,.slice none 0 0,24⟩),
 (81,⟨.slice 9,1,.slice none 0 0,24⟩),
 (83,⟨.struct #[⟨ "Kind",5,0,.false, "", "",0⟩,⟨ "N",5,1,.false, "", "",1⟩,⟨ "M",5,2,.false, "", "",2⟩],3,.agg #[.int .u8 0,.int .u8 0,.int .u8 0],3⟩),
 (95,⟨.array 9 24,9,.agg (List.replicate 9 (.int .u64 0)).toArray,72⟩),
 (97,⟨.struct #[⟨ "s",32,0,.false, "", "repartee/denote",0⟩,⟨ "back",4,1,.false, "", "repartee/denote",24⟩],2,.agg #[.slice none 0 0,.bool .false],32⟩),
 (98,⟨.func #[29,95] #[95] .false,1,.nilFunc,8⟩),
 (100,⟨.func #[3] #[4] .false,1,.nilFunc,8⟩),
 (101,⟨.slice 111,1,.slice none 0 0,24⟩),
 (106,⟨.array 256 3,256,.agg (List.replicate 256 (.int .i64 0)).toArray,2048⟩),
 (107,⟨.slice 109,1,.slice none 0 0,24⟩),
 (109,⟨.struct #[⟨ "Kind",3,0,.false, "", "",0⟩,⟨ "Set",106,1,.false, "", "",8⟩,⟨ "Min",3,257,.false, "", "",2056⟩,⟨ "Max",3,258,.false, "", "",2064⟩,⟨ "Subs",107,259,.false, "", "",2072⟩],260,.agg #[.int .i64 0,.int .i64 0,.int .i64 0,.int .i64 0,.int .i64 0,.int .i64 0,.int .i64 0,.int .i64 0,.int .i64 0,.int .i64 0,.int .i64 0,.int .i64 0,.int .i64 0,.int .i64 0,.int .i64 0,.int .i64 0,.int .i64 0,.int .i64 0,.int .i64 0,.int .i64 0,.int .i64 0,.int .i64 0,.int .i64 0,.int .i64 0,.int .i64 0,.int .i64 0,.int .i64 0,.int .i64 0,.int .i64 0,.int .i64 0,.int .i64 0,.int .i64 0,.int .i64 0,.int .i64 0,.int .i64 0,.int .i64 0,.int .i64 0,.int .i64 0,.int .i64 0,.int .i64 0,.int .i64 0,.int .i64 0,.int .i64 0,.int .i64 0,.int .i64 0,.int .i64 0,.int .i64 0,.int .i64 0,.int .i64 0,.int .i64 0,.int .i64 0,.int .i64 0,.int .i64 0,.int .i64 0,.int .i64 0,.int .i64 0,.int .i64 0,.int .i64 0,.int .i64 0,.int .i64 0,.int .i64 0,.int .i64 0,.int .i64 0,.int .i64 0,.int .i64 0,.int .i64 0,.int .i64 0,.int .i64 0,.int .i64 0,.int .i64 0,.int .i64 0,.int .i64 0,.int .i64 0,.int .i64 0,.int .i64 0,.int .i64 0,.int .i64 0,.int .i64 0,.int .i64 0,.int .i64 0,.int .i64 0,.int .i64 0,.int .i64 0,.int .i64 0,.int .i64 0,.int .i64 0,.int .i64 0,.int .i64 0,.int .i64 0,.int .i64 0,.int .i64 0,.int .i64 0,.int .i64 0,.int .i64 0,.int .i64 0,.int .i64 0,.int .i64 0,.int .i64 0,.int .i64 0,.int .i64 0,.int .i64 0,.int .i64 0,.int .i64 0,.int .i64 0,.int .i64 0,.int .i64 0,.int .i64 0,.int .i64 0,.int .i64 0,.int .i64 0,.int .i64 0,.int .i64 0,.int .i64 0,.int .i64 0,.int .i64 0,.int .i64 0,.int .i64 0,.int .i64 0,.int .i64 0,.int .i64 0,.int .i64 0,.int .i64 0,.int .i64 0,.int .i64 0,.int .i64 0,.int .i64 0,.int .i64 0,.int .i64 0,.int .i64 0,.int .i64 0,.int .i64 0,.int .i64 0,.int .i64 0,.int .i64 0,.int .i64 0,.int .i64 0,.int .i64 0,.int .i64 0,.int .i64 0,.int .i64 0,.int .i64 0,.int .i64 0,.int .i64 0,.int .i64 0,.int .i64 0,.int .i64 0,.int .i64 0,.int .i64 0,.int .i64 0,.int .i64 0,.int .i64 0,.int .i64 0,.int .i64 0,.int .i64 0,.int .i64 0,.int .i64 0,.int .i64 0,.int .i64 0,.int .i64 0,.int .i64 0,.int .i64 0,.int .i64 0,.int .i64 0,.int .i64 0,.int .i64 0,.int .i64 0,.int .i64 0,.int .i64 0,.int .i64 0,.int .i64 0,.int .i64 0,.int .i64 0,.int .i64 0,.int .i64 0,.int .i64 0,.int .i64 0,.int .i64 0,.int .i64 0,.int .i64 0,.int .i64 0,.int .i64 0,.int .i64 0,.int .i64 0,.int .i64 0,.int .i64 0,.int .i64 0,.int .i64 0,.int .i64 0,.int .i64 0,.int .i64 0,.int .i64 0,.int .i64 0,.int .i64 0,.int .i64 0,.int .i64 0,.int .i64 0,.int .i64 0,.int .i64 0,.int .i64 0,.int .i64 0,.int .i64 0,.int .i64 0,.int .i64 0,.int .i64 0,.int .i64 0,.int .i64 0,.int .i64 0,.int .i64 0,.int .i64 0,.int .i64 0,.int .i64 0,.int .i64 0,.int .i64 0,.int .i64 0,.int .i64 0,.int .i64 0,.int .i64 0,.int .i64 0,.int .i64 0,.int .i64 0,.int .i64 0,.int .i64 0,.int .i64 0,.int .i64 0,.int .i64 0,.int .i64 0,.int .i64 0,.int .i64 0,.int .i64 0,.int .i64 0,.int .i64 0,.int .i64 0,.int .i64 0,.int .i64 0,.int .i64 0,.int .i64 0,.int .i64 0,.int .i64 0,.int .i64 0,.int .i64 0,.int .i64 0,.int .i64 0,.int .i64 0,.int .i64 0,.int .i64 0,.int .i64 0,.int .i64 0,.int .i64 0,.int .i64 0,.int .i64 0,.int .i64 0,.int .i64 0,.int .i64 0,.int .i64 0,.int .i64 0,.int .i64 0,.int .i64 0,.int .i64 0,.int .i64 0,.slice none 0 0],2096⟩),
 (111,⟨.struct #[⟨ "Begin",4,0,.false, "", "",0⟩,⟨ "End",4,1,.false, "", "",1⟩,⟨ "Root",109,2,.false, "", "",8⟩],262,.agg #[.bool .false,.bool .false,.int .i64 0,.int .i64 0,.int .i64 0,.int .i64 0,.int .i64 0,.int .i64 0,.int .i64 0,.int .i64 0,.int .i64 0,.int .i64 0,.int .i64 0,.int .i64 0,.int .i64 0,.int .i64 0,.int .i64 0,.int .i64 0,.int .i64 0,.int .i64 0,.int .i64 0,.int .i64 0,.int .i64 0,.int .i64 0,.int .i64 0,.int .i64 0,.int .i64 0,.int .i64 0,.int .i64 0,.int .i64 0,.int .i64 0,.int .i64 0,.int .i64 0,.int .i64 0,.int .i64 0,.int .i64 0,.int .i64 0,.int .i64 0,.int .i64 0,.int .i64 0,.int .i64 0,.int .i64 0,.int .i64 0,.int .i64 0,.int .i64 0,.int .i64 0,.int .i64 0,.int .i64 0,.int .i64 0,.int .i64 0,.int .i64 0,.int .i64 0,.int .i64 0,.int .i64 0,.int .i64 0,.int .i64 0,.int .i64 0,.int .i64 0,.int .i64 0,.int .i64 0,.int .i64 0,.int .i64 0,.int .i64 0,.int .i64 0,.int .i64 0,.int .i64 0,.int .i64 0,.int .i64 0,.int .i64 0,.int .i64 0,.int .i64 0,.int .i64 0,.int .i64 0,.int .i64 0,.int .i64 0,.int .i64 0,.int .i64 0,.int .i64 0,.int .i64 0,.int .i64 0,.int .i64 0,.int .i64 0,.int .i64 0,.int .i64 0,.int .i64 0,.int .i64 0,.int .i64 0,.int .i64 0,.int .i64 0,.int .i64 0,.int .i64 0,.int .i64 0,.int .i64 0,.int .i64 0,.int .i64 0,.int .i64 0,.int .i64 0,.int .i64 0,.int .i64 0,.int .i64 0,.int .i64 0,.int .i64 0,.int .i64 0,.int .i64 0,.int .i64 0,.int .i64 0,.int .i64 0,.int .i64 0,.int .i64 0,.int .i64 0,.int .i64 0,.int .i64 0,.int .i64 0,.int .i64 0,.int .i64 0,.int .i64 0,.int .i64 0,.int .i64 0,.int .i64 0,.int .i64 0,.int .i64 0,.int .i64 0,.int .i64 0,.int .i64 0,.int .i64 0,.int .i64 0,.int .i64 0,.int .i64 0,.int .i64 0,.int .i64 0,.int .i64 0,.int .i64 0,.int .i64 0,.int .i64 0,.int .i64 0,.int .i64 0,.int .i64 0,.int .i64 0,.int .i64 0,.int .i64 0,.int .i64 0,.int .i64 0,.int .i64 0,.int .i64 0,.int .i64 0,.int .i64 0,.int .i64 0,.int .i64 0,.int .i64 0,.int .i64 0,.int .i64 0,.int .i64 0,.int .i64 0,.int .i64 0,.int .i64 0,.int .i64 0,.int .i64 0,.int .i64 0,.int .i64 0,.int .i64 0,.int .i64 0,.int .i64 0,.int .i64 0,.int .i64 0,.int .i64 0,.int .i64 0,.int .i64 0,.int .i64 0,.int .i64 0,.int .i64 0,.int .i64 0,.int .i64 0,.int .i64 0,.int .i64 0,.int .i64 0,.int .i64 0,.int .i64 0,.int .i64 0,.int .i64 0,.int .i64 0,.int .i64 0,.int .i64 0,.int .i64 0,.int .i64 0,.int .i64 0,.int .i64 0,.int .i64 0,.int .i64 0,.int .i64 0,.int .i64 0,.int .i64 0,.int .i64 0,.int .i64 0,.int .i64 0,.int .i64 0,.int .i64 0,.int .i64 0,.int .i64 0,.int .i64 0,.int .i64 0,.int .i64 0,.int .i64 0,.int .i64 0,.int .i64 0,.int .i64 0,.int .i64 0,.int .i64 0,.int .i64 0,.int .i64 0,.int .i64 0,.int .i64 0,.int .i64 0,.int .i64 0,.int .i64 0,.int .i64 0,.int .i64 0,.int .i64 0,.int .i64 0,.int .i64 0,.int .i64 0,.int .i64 0,.int .i64 0,.int .i64 0,.int .i64 0,.int .i64 0,.int .i64 0,.int .i64 0,.int .i64 0,.int .i64 0,.int .i64 0,.int .i64 0,.int .i64 0,.int .i64 0,.int .i64 0,.int .i64 0,.int .i64 0,.int .i64 0,.int .i64 0,.int .i64 0,.int .i64 0,.int .i64 0,.int .i64 0,.int .i64 0,.int .i64 0,.int .i64 0,.int .i64 0,.int .i64 0,.int .i64 0,.int .i64 0,.int .i64 0,.int .i64 0,.int .i64 0,.int .i64 0,.int .i64 0,.int .i64 0,.int .i64 0,.int .i64 0,.int .i64 0,.int .i64 0,.int .i64 0,.int .i64 0,.slice none 0 0],2104⟩),
 (113,⟨.struct #[⟨ "h",46,0,.false, "", "repartee/reparteelaw13",0⟩,⟨ "ok",4,3,.false, "", "repartee/reparteelaw13",24⟩,⟨ "bad",3,4,.false, "", "repartee/reparteelaw13",32⟩,⟨ "low",3,5,.false, "", "repartee/reparteelaw13",40⟩,⟨ "high",3,6,.false, "", "repartee/reparteelaw13",48⟩],7,.agg #[.int .i64 0,.int .i64 0,.int .i64 0,.bool .false,.int .i64 0,.int .i64 0,.int .i64 0],56⟩),
 (114,⟨.slice 113,1,.slice none 0 0,24⟩),
 (121,⟨.slice 32,1,.slice none 0 0,24⟩),
 (123,⟨.slice 49,1,.slice none 0 0,24⟩),
 (127,⟨.func #[29] #[4] .false,1,.nilFunc,8⟩),
 (131,⟨.func #[100] #[] .false,1,.nilFunc,8⟩),
 (132,⟨.func #[100] #[] .false,1,.nilFunc,8⟩),
 (134,⟨.func #[29,29] #[4] .false,1,.nilFunc,8⟩),
 (135,⟨.array 7 98,7,.agg #[.nilFunc,.nilFunc,.nilFunc,.nilFunc,.nilFunc,.nilFunc,.nilFunc],56⟩),
 (137,⟨.pointer 95,1,.pointer none,8⟩),
 (141,⟨.slice 63,1,.slice none 0 0,24⟩),
 (144,⟨.func #[127] #[] .false,1,.nilFunc,8⟩),
 (145,⟨.func #[127] #[] .false,1,.nilFunc,8⟩),
 (147,⟨.int .u64,1,.int .u64 0,8⟩),
 (157,⟨.int .u32,1,.int .u32 0,4⟩)]
theorem Zu0:Zxm Try.prog Zyj:=⟨⟨by kernel_rfl,by kernel_rfl,by kernel_rfl⟩,⟨⟨by kernel_rfl,by kernel_rfl,by kernel_rfl⟩,⟨⟨by kernel_rfl,by kernel_rfl,by kernel_rfl⟩,⟨⟨by kernel_rfl,by kernel_rfl,by kernel_rfl⟩,⟨⟨by kernel_rfl,by kernel_rfl,by kernel_rfl⟩,⟨⟨by kernel_rfl,by kernel_rfl,by kernel_rfl⟩,⟨⟨by kernel_rfl,by kernel_rfl,by kernel_rfl⟩,⟨⟨by kernel_rfl,by kernel_rfl,by kernel_rfl⟩,⟨⟨by kernel_rfl,by kernel_rfl,by kernel_rfl⟩,⟨⟨by kernel_rfl,by kernel_rfl,by kernel_rfl⟩,⟨⟨by kernel_rfl,by kernel_rfl,by kernel_rfl⟩,⟨⟨by kernel_rfl,by kernel_rfl,by kernel_rfl⟩,⟨⟨by kernel_rfl,by kernel_rfl,by kernel_rfl⟩,⟨⟨by kernel_rfl,by kernel_rfl,by kernel_rfl⟩,⟨⟨by kernel_rfl,by kernel_rfl,by kernel_rfl⟩,⟨⟨by kernel_rfl,by kernel_rfl,by kernel_rfl⟩,⟨⟨by kernel_rfl,by kernel_rfl,by kernel_rfl⟩,⟨⟨by kernel_rfl,by kernel_rfl,by kernel_rfl⟩,⟨⟨by kernel_rfl,by kernel_rfl,by kernel_rfl⟩,⟨⟨by kernel_rfl,by kernel_rfl,by kernel_rfl⟩,⟨⟨by kernel_rfl,by kernel_rfl,by kernel_rfl⟩,⟨⟨by kernel_rfl,by kernel_rfl,by kernel_rfl⟩,⟨⟨by kernel_rfl,by kernel_rfl,by kernel_rfl⟩,⟨⟨by kernel_rfl,by kernel_rfl,by kernel_rfl⟩,⟨⟨by kernel_rfl,by kernel_rfl,by kernel_rfl⟩,⟨⟨by kernel_rfl,by kernel_rfl,by kernel_rfl⟩,⟨⟨by kernel_rfl,by kernel_rfl,by kernel_rfl⟩,⟨⟨by kernel_rfl,by kernel_rfl,by kernel_rfl⟩,⟨⟨by kernel_rfl,by kernel_rfl,by kernel_rfl⟩,⟨⟨by kernel_rfl,by kernel_rfl,by kernel_rfl⟩,⟨⟨by kernel_rfl,by kernel_rfl,by kernel_rfl⟩,⟨⟨by kernel_rfl,by kernel_rfl,by kernel_rfl⟩,⟨⟨by kernel_rfl,by kernel_rfl,by kernel_rfl⟩,⟨⟨by kernel_rfl,by kernel_rfl,by kernel_rfl⟩,⟨⟨by kernel_rfl,by kernel_rfl,by kernel_rfl⟩,⟨⟨by kernel_rfl,by kernel_rfl,by kernel_rfl⟩,⟨⟨by kernel_rfl,by kernel_rfl,by kernel_rfl⟩,⟨⟨by kernel_rfl,by kernel_rfl,by kernel_rfl⟩,⟨⟨by kernel_rfl,by kernel_rfl,by kernel_rfl⟩,⟨⟨by kernel_rfl,by kernel_rfl,by kernel_rfl⟩,⟨⟨by kernel_rfl,by kernel_rfl,by kernel_rfl⟩,⟨⟨by kernel_rfl,by kernel_rfl,by kernel_rfl⟩,⟨⟨by kernel_rfl,by kernel_rfl,by kernel_rfl⟩,⟨⟨by kernel_rfl,by kernel_rfl,by kernel_rfl⟩,⟨⟨by kernel_rfl,by kernel_rfl,by kernel_rfl⟩,⟨⟨by kernel_rfl,by kernel_rfl,by kernel_rfl⟩,⟨⟨by kernel_rfl,by kernel_rfl,by kernel_rfl⟩,⟨⟨by kernel_rfl,by kernel_rfl,by kernel_rfl⟩,⟨⟨by kernel_rfl,by kernel_rfl,by kernel_rfl⟩,⟨⟨by kernel_rfl,by kernel_rfl,by kernel_rfl⟩,⟨⟨by kernel_rfl,by kernel_rfl,by kernel_rfl⟩,⟨⟨by kernel_rfl,by kernel_rfl,by kernel_rfl⟩,trivial⟩⟩⟩⟩⟩⟩⟩⟩⟩⟩⟩⟩⟩⟩⟩⟩⟩⟩⟩⟩⟩⟩⟩⟩⟩⟩⟩⟩⟩⟩⟩⟩⟩⟩⟩⟩⟩⟩⟩⟩⟩⟩⟩⟩⟩⟩⟩⟩⟩⟩⟩⟩
noncomputable def ZyO:Nat->Shape:=λi=>bif Nat.beq i 0 then .tup []else bif Nat.beq i 3 then .int .i64 else bif Nat.beq i 4 then .bool else bif Nat.beq i 5 then .int .u8 else bif Nat.beq i 9 then .str else bif Nat.beq i 22 then .slice else bif Nat.beq i 24 then .int .u64 else bif Nat.beq i 25 then .agg [.int .u64,.int .u64,.int .u64,.int .u64]else bif Nat.beq i 26 then .agg [.int .u64,.int .u64,.int .u64,.int .u64]else bif Nat.beq i 27 then .slice else bif Nat.beq i 29 then .agg [.int .u8,.int .u64,.int .u64,.int .u64,.int .u64,.int .i64,.int .i64,.slice]else bif Nat.beq i 32 then .slice else bif Nat.beq i 33 then .int .i64 else bif Nat.beq i 34 then .agg [.int .u8,.int .u64,.int .u64,.int .u64,.int .u64,.int .i64,.int .i64,.slice,.slice,.int .i64,.int .i64]else bif Nat.beq i 35 then .slice else bif Nat.beq i 37 then .agg [.bool,.bool,.int .u8,.int .u64,.int .u64,.int .u64,.int .u64,.int .i64,.int .i64,.slice]else bif Nat.beq i 38 then .slice else bif Nat.beq i 39 then .tup [.slice,.int .i64]else bif Nat.beq i 41 then .tup [.bool,.int .i64]else bif Nat.beq i 43 then .tup [.int .i64,.bool,.int .i64]else bif Nat.beq i 46 then .agg [.int .i64,.int .i64,.int .i64]else bif Nat.beq i 47 then .tup [.agg [.int .i64,.int .i64,.int .i64],.bool,.int .i64]else bif Nat.beq i 49 then .slice else bif Nat.beq i 50 then .slice else bif Nat.beq i 60 then .slice else bif Nat.beq i 63 then .slice else bif Nat.beq i 71 then .slice else bif Nat.beq i 76 then .agg [.int .i64,.int .i64]else bif Nat.beq i 77 then .slice else bif Nat.beq i 79 then .agg [.slice,.str,.int .i64,.int .i64,.int .i64]else bif Nat.beq i 80 then .slice else bif Nat.beq i 81 then .slice else bif Nat.beq i 83 then .agg [.int .u8,.int .u8,.int .u8]else bif Nat.beq i 88 then .tup [.int .i64,.bool]else bif Nat.beq i 91 then .tup [.agg [.int .i64,.int .i64,.int .i64],.bool]else bif Nat.beq i 95 then .agg [.int .u64,.int .u64,.int .u64,.int .u64,.int .u64,.int .u64,.int .u64,.int .u64,.int .u64]else bif Nat.beq i 97 then .agg [.slice,.bool]else bif Nat.beq i 98 then .fn else bif Nat.beq i 100 then .fn else bif Nat.beq i 101 then .slice else bif Nat.beq i 106 then .cells else bif Nat.beq i 107 then .slice else bif Nat.beq i 109 then .cells else bif Nat.beq i 111 then .cells else bif Nat.beq i 113 then .agg [.int .i64,.int .i64,.int .i64,.bool,.int .i64,.int .i64,.int .i64]else bif Nat.beq i 114 then .slice else bif Nat.beq i 115 then .tup [.int .i64,.int .i64,.int .i64]else bif Nat.beq i 121 then .slice else bif Nat.beq i 123 then .slice else bif Nat.beq i 127 then .fn else bif Nat.beq i 131 then .fn else bif Nat.beq i 132 then .fn else bif Nat.beq i 134 then .fn else bif Nat.beq i 135 then .agg [.fn,.fn,.fn,.fn,.fn,.fn,.fn]else bif Nat.beq i 137 then .ptr else bif Nat.beq i 141 then .slice else bif Nat.beq i 144 then .fn else bif Nat.beq i 145 then .fn else bif Nat.beq i 147 then .int .u64 else bif Nat.beq i 148 then .tup [.int .u64,.int .u64]else bif Nat.beq i 157 then .int .u32 else bif Nat.beq i 158 then .tup [.int .u32,.int .u32]else bif Nat.beq i 160 then .tup [.int .u64,.int .u64]else .any
noncomputable def EB:Env where
 P:=Try.prog
 loops:=λ_=>⟨[],[],[],false⟩
 cuts:=λ_=>none
 joins:=λ_=>none
 dr:=λ_=>[]
 tt:=ZvE Zyj
 sh:=ZyO
 hint:=λ_=>none
 borrow:=λ_=>[]
 tokOf:=λ_=>0
 frz:=[]
 fix:=none
 yl:=none
 frzNew:=[]
 frzAt:=λ_=>[]
 thaw:=false
 stAt:=λ_=>none
theorem Zax:EB.ok:=Zrl Zu0
theorem mix:Try.prog.follows .mixedOrders=true:=by kernel_rfl
end Go.Proofs.Ythiefodednaikaa