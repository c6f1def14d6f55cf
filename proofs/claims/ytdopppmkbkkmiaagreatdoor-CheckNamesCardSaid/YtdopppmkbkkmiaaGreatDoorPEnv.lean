/- Part of the proof: functions of the program. No condition. -/
import Derived.Test.YtdopppmkbkkmiaaGreatDoorProg
import Derived.Test.YtdopppmkbkkmiaaGreatDoorMc
import Derived.KernelRfl
set_option linter.unusedVariables false
set_option linter.unusedSimpArgs false
set_option linter.unusedSectionVars false
noncomputable section
namespace Go.Proofs.YtdopppmkbkkmiaaGreatDoor
open Go Go.Eng Go.Proofs
set_option maxRecDepth 100000
abbrev Za7(s:Shape)(R:Value->Mem->List (List Value)->Prop):Prop:=∀(v:Value)(m':Mem) (css:List (List Value)),R v m' css->Shape.fits s v=true
abbrev shT:Shape:=.agg [.int .u8,.int .u64,.int .u64,.int .u64,.int .u64,.int .i64,.int .i64,.slice]
def ZB4:List (Nat×TI):=[
 (3,⟨.int .i64,1,.int .i64 0,8⟩),
 (4,⟨.bool,1,.bool .false,1⟩),
 (5,⟨.int .u8,1,.int .u8 0,1⟩),
 (9,⟨.string,1,.string .empty,16⟩),
 (21,⟨.int .i32,1,.int .i32 0,4⟩),
 (22,⟨.slice 5,1,.slice none 0 0,24⟩),
 (23,⟨.slice 100,1,.slice none 0 0,24⟩),
 (25,⟨.struct #[⟨ "Buffer",5,0,.false, "", "",0⟩,⟨ "Values",22,1,.false, "", "",8⟩,⟨ "States",23,2,.false, "", "",32⟩],3,.agg #[.int .u8 0,.slice none 0 0,.slice none 0 0],56⟩),
 (26,⟨.func #[] #[4] .false,1,.nilFunc,8⟩),
 (27,⟨.slice 71,1,.slice none 0 0,24⟩),
 (28,⟨.slice 34,1,.slice none 0 0,24⟩),
 (30,⟨.struct #[⟨ "Buffer",3,0,.false, "", "",0⟩,⟨ "Vars",27,1,.false, "", "",8⟩,⟨ "States",28,2,.false, "", "",32⟩],3,.agg #[.int .i64 0,.slice none 0 0,.slice none 0 0],56⟩),
 (32,⟨.slice 45,1,.slice none 0 0,24⟩),
 (34,⟨.struct #[⟨ "Name",9,0,.false, "", "",0⟩,⟨ "Rules",32,1,.false, "", "",16⟩],2,.agg #[.string .empty,.slice none 0 0],40⟩),
 (35,⟨.int .u64,1,.int .u64 0,8⟩),
 (37,⟨.array 4 35,4,.agg #[.int .u64 0,.int .u64 0,.int .u64 0,.int .u64 0],32⟩),
 (38,⟨.slice 40,1,.slice none 0 0,24⟩),
 (40,⟨.struct #[⟨ "Kind",5,0,.false, "", "",0⟩,⟨ "Set",37,1,.false, "", "",8⟩,⟨ "Min",3,5,.false, "", "",40⟩,⟨ "Max",3,6,.false, "", "",48⟩,⟨ "Subs",38,7,.false, "", "",56⟩],8,.agg #[.int .u8 0,.int .u64 0,.int .u64 0,.int .u64 0,.int .u64 0,.int .i64 0,.int .i64 0,.slice none 0 0],80⟩),
 (42,⟨.struct #[⟨ "Begin",4,0,.false, "", "",0⟩,⟨ "End",4,1,.false, "", "",1⟩,⟨ "Root",40,2,.false, "", "",8⟩],10,.agg #[.bool .false,.bool .false,.int .u8 0,.int .u64 0,.int .u64 0,.int .u64 0,.int .u64 0,.int .i64 0,.int .i64 0,.slice none 0 0],88⟩),
 (43,⟨.slice 57,1,.slice none 0 0,24⟩),
 (45,⟨.struct #[⟨ "Kind",5,0,.false, "", "",0⟩,⟨ "Regex",42,1,.false, "", "",8⟩,⟨ "Text",9,11,.false, "", "",96⟩,⟨ "Ticks",3,12,.false, "", "",112⟩,⟨ "Actions",43,13,.false, "", "",120⟩,⟨ "Goto",9,14,.false, "", "",144⟩,⟨ "Code",3,15,.false, "", "",160⟩],16,.agg #[.int .u8 0,.bool .false,.bool .false,.int .u8 0,.int .u64 0,.int .u64 0,.int .u64 0,.int .u64 0,.int .i64 0,.int .i64 0,.slice none 0 0,.string .empty,.int .i64 0,.slice none 0 0,.string .empty,.int .i64 0],168⟩),
 (48,⟨.func #[45] #[45] .false,1,.nilFunc,8⟩),
 (49,⟨.float .f64,1,.float .f64 0,8⟩),
 (50,⟨.slice 52,1,.slice none 0 0,24⟩),
 (52,⟨.struct #[⟨ "Kind",5,0,.false, "", "",0⟩,⟨ "Number",49,1,.false, "", "",8⟩,⟨ "Name",9,2,.false, "", "",16⟩,⟨ "Capture",3,3,.false, "", "",32⟩,⟨ "Subs",50,4,.false, "", "",40⟩],5,.agg #[.int .u8 0,.float .f64 0,.string .empty,.int .i64 0,.slice none 0 0],64⟩),
 (54,⟨.struct #[⟨ "Kind",5,0,.false, "", "",0⟩,⟨ "Text",9,1,.false, "", "",8⟩,⟨ "Group",3,2,.false, "", "",24⟩,⟨ "Expr",52,3,.false, "", "",32⟩],8,.agg #[.int .u8 0,.string .empty,.int .i64 0,.int .u8 0,.float .f64 0,.string .empty,.int .i64 0,.slice none 0 0],96⟩),
 (55,⟨.slice 54,1,.slice none 0 0,24⟩),
 (57,⟨.struct #[⟨ "Kind",5,0,.false, "", "",0⟩,⟨ "Name",9,1,.false, "", "",8⟩,⟨ "Parts",55,2,.false, "", "",24⟩,⟨ "Expr",52,3,.false, "", "",48⟩],8,.agg #[.int .u8 0,.string .empty,.slice none 0 0,.int .u8 0,.float .f64 0,.string .empty,.int .i64 0,.slice none 0 0],112⟩),
 (58,⟨.int .i64,1,.int .i64 0,8⟩),
 (61,⟨.slice 66,1,.slice none 0 0,24⟩),
 (64,⟨.struct #[⟨ "Var",3,0,.false, "", "",0⟩,⟨ "State",3,1,.false, "", "",8⟩,⟨ "Rule",3,2,.false, "", "",16⟩,⟨ "Action",3,3,.false, "", "",24⟩,⟨ "Part",3,4,.false, "", "",32⟩],5,.agg #[.int .i64 0,.int .i64 0,.int .i64 0,.int .i64 0,.int .i64 0],40⟩),
 (66,⟨.struct #[⟨ "Place",64,0,.false, "", "",0⟩,⟨ "Error",58,5,.false, "", "",40⟩],6,.agg #[.int .i64 0,.int .i64 0,.int .i64 0,.int .i64 0,.int .i64 0,.int .i64 0],48⟩),
 (69,⟨.struct #[⟨ "Number",4,0,.false, "", "",0⟩,⟨ "Text",9,1,.false, "", "",8⟩,⟨ "Float",49,2,.false, "", "",24⟩],3,.agg #[.bool .false,.string .empty,.float .f64 0],32⟩),
 (71,⟨.struct #[⟨ "Name",9,0,.false, "", "",0⟩,⟨ "Value",69,1,.false, "", "",16⟩],4,.agg #[.string .empty,.bool .false,.string .empty,.float .f64 0],48⟩),
 (74,⟨.slice 64,1,.slice none 0 0,24⟩),
 (76,⟨.slice 9,1,.slice none 0 0,24⟩),
 (88,⟨.slice 3,1,.slice none 0 0,24⟩),
 (91,⟨.func #[3,3,3,3] #[64] .false,1,.nilFunc,8⟩),
 (95,⟨.struct #[⟨ "s",30,0,.false, "", "repartee/reparteelaw30",0⟩,⟨ "p",64,3,.false, "", "repartee/reparteelaw30",56⟩,⟨ "e",58,8,.false, "", "repartee/reparteelaw30",96⟩],9,.agg #[.int .i64 0,.slice none 0 0,.slice none 0 0,.int .i64 0,.int .i64 0,.int .i64 0,.int .i64 0,.int .i64 0,.int .i64 0],104⟩),
 (96,⟨.slice 95,1,.slice none 0 0,24⟩),
 (98,⟨.func #[3] #[3] .false,1,.nilFunc,8⟩),
 (100,⟨.slice 104,1,.slice none 0 0,24⟩),
 (101,⟨.slice 162,1,.slice none 0 0,24⟩),
 (102,⟨.slice 135,1,.slice none 0 0,24⟩),
 (104,⟨.struct #[⟨ "Kind",5,0,.false, "", "",0⟩,⟨ "N",5,1,.false, "", "",1⟩,⟨ "Ticks",5,2,.false, "", "",2⟩,⟨ "Goto",5,3,.false, "", "",3⟩,⟨ "Regex",101,4,.false, "", "",8⟩,⟨ "Acts",102,5,.false, "", "",32⟩],6,.agg #[.int .u8 0,.int .u8 0,.int .u8 0,.int .u8 0,.slice none 0 0,.slice none 0 0],56⟩),
 (106,⟨.func #[40] #[4] .false,1,.nilFunc,8⟩),
 (107,⟨.func #[106] #[] .false,1,.nilFunc,8⟩),
 (108,⟨.func #[106] #[] .false,1,.nilFunc,8⟩),
 (111,⟨.func #[145] #[] .false,1,.nilFunc,8⟩),
 (112,⟨.func #[145] #[] .false,1,.nilFunc,8⟩),
 (117,⟨.func #[34] #[34] .false,1,.nilFunc,8⟩),
 (125,⟨.map 3 126,1,.map none,8⟩),
 (126,⟨.struct #[],0,.agg #[],0⟩),
 (128,⟨.slice 88,1,.slice none 0 0,24⟩),
 (133,⟨.slice 183,1,.slice none 0 0,24⟩),
 (135,⟨.struct #[⟨ "Kind",5,0,.false, "", "",0⟩,⟨ "N",5,1,.false, "", "",1⟩,⟨ "Parts",22,2,.false, "", "",8⟩,⟨ "Expr",133,3,.false, "", "",32⟩],4,.agg #[.int .u8 0,.int .u8 0,.slice none 0 0,.slice none 0 0],56⟩),
 (140,⟨.func #[52] #[52] .false,1,.nilFunc,8⟩),
 (142,⟨.func #[54] #[54] .false,1,.nilFunc,8⟩),
 (143,⟨.func #[57] #[57] .false,1,.nilFunc,8⟩),
 (145,⟨.func #[66] #[4] .false,1,.nilFunc,8⟩),
 (148,⟨.func #[76] #[] .true,1,.nilFunc,8⟩),
 (149,⟨.func #[177] #[] .false,1,.nilFunc,8⟩),
 (150,⟨.func #[177] #[] .false,1,.nilFunc,8⟩),
 (154,⟨.map 9 3,1,.map none,8⟩),
 (159,⟨.func #[34] #[88] .false,1,.nilFunc,8⟩),
 (162,⟨.struct #[⟨ "Kind",5,0,.false, "", "",0⟩,⟨ "N",5,1,.false, "", "",1⟩,⟨ "M",5,2,.false, "", "",2⟩],3,.agg #[.int .u8 0,.int .u8 0,.int .u8 0],3⟩),
 (170,⟨.func #[52] #[4] .false,1,.nilFunc,8⟩),
 (177,⟨.func #[57] #[4] .false,1,.nilFunc,8⟩),
 (181,⟨.int .u64,1,.int .u64 0,8⟩),
 (183,⟨.struct #[⟨ "Kind",5,0,.false, "", "",0⟩,⟨ "N",5,1,.false, "", "",1⟩,⟨ "Bits",35,2,.false, "", "",8⟩],3,.agg #[.int .u8 0,.int .u8 0,.int .u64 0],16⟩),
 (184,⟨.int .i8,1,.int .i8 0,1⟩),
 (190,⟨.func #[170] #[] .false,1,.nilFunc,8⟩),
 (191,⟨.func #[170] #[] .false,1,.nilFunc,8⟩),
 (196,⟨.func #[9] #[4] .false,1,.nilFunc,8⟩),
 (199,⟨.func #[71] #[4] .false,1,.nilFunc,8⟩),
 (201,⟨.struct #[⟨ "e",58,0,.false, "", "repartee/check",0⟩,⟨ "wrong",26,1,.false, "", "repartee/check",8⟩],2,.agg #[.int .i64 0,.nilFunc],16⟩),
 (204,⟨.func #[34] #[4] .false,1,.nilFunc,8⟩),
 (211,⟨.func #[54] #[4] .false,1,.nilFunc,8⟩),
 (213,⟨.int .i64,1,.int .i64 0,8⟩),
 (221,⟨.int .u32,1,.int .u32 0,4⟩),
 (223,⟨.slice 201,1,.slice none 0 0,24⟩),
 (229,⟨.func #[40,40] #[4] .false,1,.nilFunc,8⟩),
 (230,⟨.func #[52,52] #[4] .false,1,.nilFunc,8⟩),
 (232,⟨.int .u64,1,.int .u64 0,8⟩),
 (236,⟨.pointer 3,1,.pointer none,8⟩),
 (241,⟨.array 256 4,256,.agg (List.replicate 256 (.bool .false)).toArray,256⟩),
 (245,⟨.pointer 241,1,.pointer none,8⟩),
 (249,⟨.pointer 232,1,.pointer none,8⟩),
 (262,⟨.array 256 5,256,.agg (List.replicate 256 (.int .u8 0)).toArray,256⟩),
 (264,⟨.struct #[⟨ "lo",5,0,.false, "", "unicode/utf8",0⟩,⟨ "hi",5,1,.false, "", "unicode/utf8",1⟩],2,.agg #[.int .u8 0,.int .u8 0],2⟩),
 (265,⟨.array 16 264,32,.agg (List.replicate 32 (.int .u8 0)).toArray,32⟩)]
theorem Zxr:ZAL Tryz.prog ZB4:=⟨⟨by kernel_rfl,by kernel_rfl,by kernel_rfl⟩,⟨⟨by kernel_rfl,by kernel_rfl,by kernel_rfl⟩,⟨⟨by kernel_rfl,by kernel_rfl,by kernel_rfl⟩,⟨⟨by kernel_rfl,by kernel_rfl,by kernel_rfl⟩,⟨⟨by kernel_rfl,by kernel_rfl,by kernel_rfl⟩,⟨⟨by kernel_rfl,by kernel_rfl,by kernel_rfl⟩,⟨⟨by kernel_rfl,by kernel_rfl,by kernel_rfl⟩,⟨⟨by kernel_rfl,by kernel_rfl,by kernel_rfl⟩,⟨⟨by kernel_rfl,by kernel_rfl,by kernel_rfl⟩,⟨⟨by kernel_rfl,by kernel_rfl,by kernel_rfl⟩,⟨⟨by kernel_rfl,by kernel_rfl,by kernel_rfl⟩,⟨⟨by kernel_rfl,by kernel_rfl,by kernel_rfl⟩,⟨⟨by kernel_rfl,by kernel_rfl,by kernel_rfl⟩,⟨⟨by kernel_rfl,by kernel_rfl,by kernel_rfl⟩,⟨⟨by kernel_rfl,by kernel_rfl,by kernel_rfl⟩,⟨⟨by kernel_rfl,by kernel_rfl,by kernel_rfl⟩,⟨⟨by kernel_rfl,by kernel_rfl,by kernel_rfl⟩,⟨⟨by kernel_rfl,by kernel_rfl,by kernel_rfl⟩,⟨⟨by kernel_rfl,by kernel_rfl,by kernel_rfl⟩,⟨⟨by kernel_rfl,by kernel_rfl,by kernel_rfl⟩,⟨⟨by kernel_rfl,by kernel_rfl,by kernel_rfl⟩,⟨⟨by kernel_rfl,by kernel_rfl,by kernel_rfl⟩,⟨⟨by kernel_rfl,by kernel_rfl,by kernel_rfl⟩,⟨⟨by kernel_rfl,by kernel_rfl,by kernel_rfl⟩,⟨⟨by kernel_rfl,by kernel_rfl,by kernel_rfl⟩,⟨⟨by kernel_rfl,by kernel_rfl,by kernel_rfl⟩,⟨⟨by kernel_rfl,by kernel_rfl,by kernel_rfl⟩,⟨⟨by kernel_rfl,by kernel_rfl,by kernel_rfl⟩,⟨⟨by kernel_rfl,by kernel_rfl,by kernel_rfl⟩,⟨⟨by kernel_rfl,by kernel_rfl,by kernel_rfl⟩,⟨⟨by kernel_rfl,by kernel_rfl,by kernel_rfl⟩,⟨⟨by kernel_rfl,by kernel_rfl,by kernel_rfl⟩,⟨⟨by kernel_rfl,by kernel_rfl,by kernel_rfl⟩,⟨⟨by kernel_rfl,by kernel_rfl,by kernel_rfl⟩,⟨⟨by kernel_rfl,by kernel_rfl,by kernel_rfl⟩,⟨⟨by kernel_rfl,by kernel_rfl,by kernel_rfl⟩,⟨⟨by kernel_rfl,by kernel_rfl,by kernel_rfl⟩,⟨⟨by kernel_rfl,by kernel_rfl,by kernel_rfl⟩,⟨⟨by kernel_rfl,by kernel_rfl,by kernel_rfl⟩,⟨⟨by kernel_rfl,by kernel_rfl,by kernel_rfl⟩,⟨⟨by kernel_rfl,by kernel_rfl,by kernel_rfl⟩,⟨⟨by kernel_rfl,by kernel_rfl,by kernel_rfl⟩,⟨⟨by kernel_rfl,by kernel_rfl,by kernel_rfl⟩,⟨⟨by kernel_rfl,by kernel_rfl,by kernel_rfl⟩,⟨⟨by kernel_rfl,by kernel_rfl,by kernel_rfl⟩,⟨⟨by kernel_rfl,by kernel_rfl,by kernel_rfl⟩,⟨⟨by kernel_rfl,by kernel_rfl,by kernel_rfl⟩,⟨⟨by kernel_rfl,by kernel_rfl,by kernel_rfl⟩,⟨⟨by kernel_rfl,by kernel_rfl,by kernel_rfl⟩,⟨⟨by kernel_rfl,by kernel_rfl,by kernel_rfl⟩,⟨⟨by kernel_rfl,by kernel_rfl,by kernel_rfl⟩,⟨⟨by kernel_rfl,by kernel_rfl,by kernel_rfl⟩,⟨⟨by kernel_rfl,by kernel_rfl,by kernel_rfl⟩,⟨⟨by kernel_rfl,by kernel_rfl,by kernel_rfl⟩,⟨⟨by kernel_rfl,by kernel_rfl,by kernel_rfl⟩,⟨⟨by kernel_rfl,by kernel_rfl,by kernel_rfl⟩,⟨⟨by kernel_rfl,by kernel_rfl,by kernel_rfl⟩,⟨⟨by kernel_rfl,by kernel_rfl,by kernel_rfl⟩,⟨⟨by kernel_rfl,by kernel_rfl,by kernel_rfl⟩,⟨⟨by kernel_rfl,by kernel_rfl,by kernel_rfl⟩,⟨⟨by kernel_rfl,by kernel_rfl,by kernel_rfl⟩,⟨⟨by kernel_rfl,by kernel_rfl,by kernel_rfl⟩,⟨⟨by kernel_rfl,by kernel_rfl,by kernel_rfl⟩,⟨⟨by kernel_rfl,by kernel_rfl,by kernel_rfl⟩,⟨⟨by kernel_rfl,by kernel_rfl,by kernel_rfl⟩,⟨⟨by kernel_rfl,by kernel_rfl,by kernel_rfl⟩,⟨⟨by kernel_rfl,by kernel_rfl,by kernel_rfl⟩,⟨⟨by kernel_rfl,by kernel_rfl,by kernel_rfl⟩,⟨⟨by kernel_rfl,by kernel_rfl,by kernel_rfl⟩,⟨⟨by kernel_rfl,by kernel_rfl,by kernel_rfl⟩,⟨⟨by kernel_rfl,by kernel_rfl,by kernel_rfl⟩,⟨⟨by kernel_rfl,by kernel_rfl,by kernel_rfl⟩,⟨⟨by kernel_rfl,by kernel_rfl,by kernel_rfl⟩,⟨⟨by kernel_rfl,by kernel_rfl,by kernel_rfl⟩,⟨⟨by kernel_rfl,by kernel_rfl,by kernel_rfl⟩,⟨⟨by kernel_rfl,by kernel_rfl,by kernel_rfl⟩,⟨⟨by kernel_rfl,by kernel_rfl,by kernel_rfl⟩,⟨⟨by kernel_rfl,by kernel_rfl,by kernel_rfl⟩,⟨⟨by kernel_rfl,by kernel_rfl,by kernel_rfl⟩,⟨⟨by kernel_rfl,by kernel_rfl,by kernel_rfl⟩,⟨⟨by kernel_rfl,by kernel_rfl,by kernel_rfl⟩,⟨⟨by kernel_rfl,by kernel_rfl,by kernel_rfl⟩,⟨⟨by kernel_rfl,by kernel_rfl,by kernel_rfl⟩,⟨⟨by kernel_rfl,by kernel_rfl,by kernel_rfl⟩,⟨⟨by kernel_rfl,by kernel_rfl,by kernel_rfl⟩,⟨⟨by kernel_rfl,by kernel_rfl,by kernel_rfl⟩,⟨⟨by kernel_rfl,by kernel_rfl,by kernel_rfl⟩,⟨⟨by kernel_rfl,by kernel_rfl,by kernel_rfl⟩,⟨⟨by kernel_rfl,by kernel_rfl,by kernel_rfl⟩,⟨⟨by kernel_rfl,by kernel_rfl,by kernel_rfl⟩,⟨⟨by kernel_rfl,by kernel_rfl,by kernel_rfl⟩,trivial⟩⟩⟩⟩⟩⟩⟩⟩⟩⟩⟩⟩⟩⟩⟩⟩⟩⟩⟩⟩⟩⟩⟩⟩⟩⟩⟩⟩⟩⟩⟩⟩⟩⟩⟩⟩⟩⟩⟩⟩⟩⟩⟩⟩⟩⟩⟩⟩⟩⟩⟩⟩⟩⟩⟩⟩⟩⟩⟩⟩⟩⟩⟩⟩⟩⟩⟩⟩⟩⟩⟩⟩⟩⟩⟩⟩⟩⟩⟩⟩⟩⟩⟩⟩⟩⟩⟩⟩⟩⟩⟩
def ZCQ:Nat->Shape:=λi=>bif Nat.beq i 0 then .tup []else bif Nat.beq i 3 then .int .i64 else bif Nat.beq i 4 then .bool else bif Nat.beq i 5 then .int .u8 else bif Nat.beq i 9 then .str else bif Nat.beq i 21 then .int .i32 else bif Nat.beq i 22 then .slice else bif Nat.beq i 23 then .slice else bif Nat.beq i 25 then .agg [.int .u8,.slice,.slice]else bif Nat.beq i 26 then .fn else bif Nat.beq i 27 then .slice else bif Nat.beq i 28 then .slice else bif Nat.beq i 30 then .agg [.int .i64,.slice,.slice]else bif Nat.beq i 32 then .slice else bif Nat.beq i 34 then .agg [.str,.slice]else bif Nat.beq i 35 then .int .u64 else bif Nat.beq i 37 then .agg [.int .u64,.int .u64,.int .u64,.int .u64]else bif Nat.beq i 38 then .slice else bif Nat.beq i 40 then .agg [.int .u8,.int .u64,.int .u64,.int .u64,.int .u64,.int .i64,.int .i64,.slice]else bif Nat.beq i 42 then .agg [.bool,.bool,.int .u8,.int .u64,.int .u64,.int .u64,.int .u64,.int .i64,.int .i64,.slice]else bif Nat.beq i 43 then .slice else bif Nat.beq i 45 then .agg [.int .u8,.bool,.bool,.int .u8,.int .u64,.int .u64,.int .u64,.int .u64,.int .i64,.int .i64,.slice,.str,.int .i64,.slice,.str,.int .i64]else bif Nat.beq i 48 then .fn else bif Nat.beq i 50 then .slice else bif Nat.beq i 52 then .agg [.int .u8,.any,.str,.int .i64,.slice]else bif Nat.beq i 54 then .agg [.int .u8,.str,.int .i64,.int .u8,.any,.str,.int .i64,.slice]else bif Nat.beq i 55 then .slice else bif Nat.beq i 57 then .agg [.int .u8,.str,.slice,.int .u8,.any,.str,.int .i64,.slice]else bif Nat.beq i 58 then .int .i64 else bif Nat.beq i 59 then .tup [.agg [.int .i64,.slice,.slice],.int .i64]else bif Nat.beq i 61 then .slice else bif Nat.beq i 64 then .agg [.int .i64,.int .i64,.int .i64,.int .i64,.int .i64]else bif Nat.beq i 66 then .agg [.int .i64,.int .i64,.int .i64,.int .i64,.int .i64,.int .i64]else bif Nat.beq i 69 then .agg [.bool,.str,.any]else bif Nat.beq i 71 then .agg [.str,.bool,.str,.any]else bif Nat.beq i 74 then .slice else bif Nat.beq i 76 then .slice else bif Nat.beq i 81 then .tup [.agg [.int .i64,.int .i64,.int .i64,.int .i64,.int .i64],.int .i64]else bif Nat.beq i 88 then .slice else bif Nat.beq i 91 then .fn else bif Nat.beq i 95 then .agg [.int .i64,.slice,.slice,.int .i64,.int .i64,.int .i64,.int .i64,.int .i64,.int .i64]else bif Nat.beq i 96 then .slice else bif Nat.beq i 98 then .fn else bif Nat.beq i 100 then .slice else bif Nat.beq i 101 then .slice else bif Nat.beq i 102 then .slice else bif Nat.beq i 104 then .agg [.int .u8,.int .u8,.int .u8,.int .u8,.slice,.slice]else bif Nat.beq i 106 then .fn else bif Nat.beq i 107 then .fn else bif Nat.beq i 108 then .fn else bif Nat.beq i 111 then .fn else bif Nat.beq i 112 then .fn else bif Nat.beq i 117 then .fn else bif Nat.beq i 123 then .tup [.int .i64,.bool]else bif Nat.beq i 126 then .agg []else bif Nat.beq i 127 then .tup [.agg [],.bool]else bif Nat.beq i 128 then .slice else bif Nat.beq i 133 then .slice else bif Nat.beq i 135 then .agg [.int .u8,.int .u8,.slice,.slice]else bif Nat.beq i 140 then .fn else bif Nat.beq i 142 then .fn else bif Nat.beq i 143 then .fn else bif Nat.beq i 145 then .fn else bif Nat.beq i 148 then .fn else bif Nat.beq i 149 then .fn else bif Nat.beq i 150 then .fn else bif Nat.beq i 155 then .tup [.int .i64,.bool]else bif Nat.beq i 159 then .fn else bif Nat.beq i 162 then .agg [.int .u8,.int .u8,.int .u8]else bif Nat.beq i 170 then .fn else bif Nat.beq i 177 then .fn else bif Nat.beq i 181 then .int .u64 else bif Nat.beq i 183 then .agg [.int .u8,.int .u8,.int .u64]else bif Nat.beq i 184 then .int .i8 else bif Nat.beq i 190 then .fn else bif Nat.beq i 191 then .fn else bif Nat.beq i 196 then .fn else bif Nat.beq i 199 then .fn else bif Nat.beq i 201 then .agg [.int .i64,.fn]else bif Nat.beq i 204 then .fn else bif Nat.beq i 208 then .tup [.bool,.bool]else bif Nat.beq i 211 then .fn else bif Nat.beq i 213 then .int .i64 else bif Nat.beq i 214 then .tup [.int .i64,.int .i64]else bif Nat.beq i 221 then .int .u32 else bif Nat.beq i 223 then .slice else bif Nat.beq i 229 then .fn else bif Nat.beq i 230 then .fn else bif Nat.beq i 232 then .int .u64 else bif Nat.beq i 236 then .ptr else bif Nat.beq i 241 then .cells else bif Nat.beq i 242 then .tup [.cells,.bool]else bif Nat.beq i 245 then .ptr else bif Nat.beq i 249 then .ptr else bif Nat.beq i 250 then .tup [.int .i64,.int .i64]else bif Nat.beq i 253 then .tup [.int .i32,.int .i64]else bif Nat.beq i 262 then .cells else bif Nat.beq i 264 then .agg [.int .u8,.int .u8]else bif Nat.beq i 265 then .cells else .any
def EB:Env where
 P:=Tryz.prog
 loops:=λ_=>⟨[],[],[],false⟩
 cuts:=λ_=>none
 joins:=λ_=>none
 dr:=λ_=>[]
 tt:=Zyu ZB4
 sh:=ZCQ
 hint:=λ_=>none
 borrow:=λ_=>[]
 tokOf:=λ_=>0
 frz:=[]
 fix:=none
 yl:=none
 frzNew:=[]
 frzAt:=λ_=>[]
 thaw:=false
 stAt:=λ_=>none
theorem Zam:EB.ok:=Zsv Zxr
theorem mix:Tryz.prog.follows .mixedOrders=true:=by kernel_rfl
abbrev bE0:ByteArray:=ByteArray.mk (Array.mk [])
abbrev pG:Program:=Tryz.prog
def swI{α:Type}(z:α)(l:List (Nat×α))(i:Nat):α:=l.foldr (λp r=>bif Nat.beq i p.1 then p.2 else r) z
def nLa:LoopAnn:=⟨[],[],[],false⟩
def dO(i:Nat)(a:List Nat):DOp:=⟨i,[],[],none,a,[]⟩
end Go.Proofs.YtdopppmkbkkmiaaGreatDoor
end
