/- Part of the proof: functions of the program. No condition. -/
import Derived.Test.YtojlhhphofhaoaaGreatDoorProg
import Derived.Test.YtojlhhphofhaoaaGreatDoorMc
import Derived.KernelRfl
set_option linter.unusedVariables false
set_option linter.unusedSimpArgs false
set_option linter.unusedSectionVars false
namespace Go.Proofs.YtojlhhphofhaoaaGreatDoor
open Go Go.Eng Go.Proofs
set_option maxRecDepth 100000
abbrev Za1(s:Shape)(R:Value->Mem->List (List Value)->Prop):Prop:=∀(v:Value)(m':Mem) (css:List (List Value)),R v m' css->Shape.fits s v=true
abbrev shT:Shape:=.agg [.int .u8,.int .u64,.int .u64,.int .u64,.int .u64,.int .i64,.int .i64,.slice]
noncomputable def ZAs:List (Nat×TI):=[
 (3,⟨.int .i64,1,.int .i64 0,8⟩),
 (4,⟨.bool,1,.bool .false,1⟩),
 (5,⟨.int .u8,1,.int .u8 0,1⟩),
 (9,⟨.string,1,.string .empty,16⟩),
 (21,⟨.int .i32,1,.int .i32 0,4⟩),
 (22,⟨.slice 5,1,.slice none 0 0,24⟩),
 (23,⟨.slice 92,1,.slice none 0 0,24⟩),
 (25,⟨.struct #[⟨ "Buffer",5,0,.false, "", "",0⟩,⟨ "Values",22,1,.false, "", "",8⟩,⟨ "States",23,2,.false, "", "",32⟩],3,.agg #[.int .u8 0,.slice none 0 0,.slice none 0 0],56⟩),
 (26,⟨.func #[] #[4] .false,1,.nilFunc,8⟩),
 (27,⟨.slice 91,1,.slice none 0 0,24⟩),
 (28,⟨.slice 42,1,.slice none 0 0,24⟩),
 (30,⟨.struct #[⟨ "Buffer",3,0,.false, "", "",0⟩,⟨ "Vars",27,1,.false, "", "",8⟩,⟨ "States",28,2,.false, "", "",32⟩],3,.agg #[.int .i64 0,.slice none 0 0,.slice none 0 0],56⟩),
 (32,⟨.slice 37,1,.slice none 0 0,24⟩),
 (33,⟨.int .i64,1,.int .i64 0,8⟩),
 (37,⟨.struct #[⟨ "State",3,0,.false, "", "",0⟩,⟨ "Rule",3,1,.false, "", "",8⟩],2,.agg #[.int .i64 0,.int .i64 0],16⟩),
 (40,⟨.slice 57,1,.slice none 0 0,24⟩),
 (42,⟨.struct #[⟨ "Name",9,0,.false, "", "",0⟩,⟨ "Rules",40,1,.false, "", "",16⟩],2,.agg #[.string .empty,.slice none 0 0],40⟩),
 (46,⟨.map 37 37,1,.map none,8⟩),
 (47,⟨.int .u64,1,.int .u64 0,8⟩),
 (49,⟨.array 4 47,4,.agg #[.int .u64 0,.int .u64 0,.int .u64 0,.int .u64 0],32⟩),
 (50,⟨.slice 52,1,.slice none 0 0,24⟩),
 (52,⟨.struct #[⟨ "Kind",5,0,.false, "", "",0⟩,⟨ "Set",49,1,.false, "", "",8⟩,⟨ "Min",3,5,.false, "", "",40⟩,⟨ "Max",3,6,.false, "", "",48⟩,⟨ "Subs",50,7,.false, "", "",56⟩],8,.agg #[.int .u8 0,.int .u64 0,.int .u64 0,.int .u64 0,.int .u64 0,.int .i64 0,.int .i64 0,.slice none 0 0],80⟩),
 (54,⟨.struct #[⟨ "Begin",4,0,.false, "", "",0⟩,⟨ "End",4,1,.false, "", "",1⟩,⟨ "Root",52,2,.false, "", "",8⟩],10,.agg #[.bool .false,.bool .false,.int .u8 0,.int .u64 0,.int .u64 0,.int .u64 0,.int .u64 0,.int .i64 0,.int .i64 0,.slice none 0 0],88⟩),
 (55,⟨.slice 141,1,.slice none 0 0,24⟩),
 (57,⟨.struct #[⟨ "Kind",5,0,.false, "", "",0⟩,⟨ "Regex",54,1,.false, "", "",8⟩,⟨ "Text",9,11,.false, "", "",96⟩,⟨ "Ticks",3,12,.false, "", "",112⟩,⟨ "Actions",55,13,.false, "", "",120⟩,⟨ "Goto",9,14,.false, "", "",144⟩,⟨ "Code",3,15,.false, "", "",160⟩],16,.agg #[.int .u8 0,.bool .false,.bool .false,.int .u8 0,.int .u64 0,.int .u64 0,.int .u64 0,.int .u64 0,.int .i64 0,.int .i64 0,.slice none 0 0,.string .empty,.int .i64 0,.slice none 0 0,.string .empty,.int .i64 0],168⟩),
 (58,⟨.slice 3,1,.slice none 0 0,24⟩),
 (65,⟨.func #[57,57] #[4] .false,1,.nilFunc,8⟩),
 (77,⟨.struct #[⟨ "States",3,0,.false, "", "",0⟩,⟨ "Rules",3,1,.false, "", "",8⟩,⟨ "Regex",3,2,.false, "", "",16⟩,⟨ "Parts",3,3,.false, "", "",24⟩,⟨ "Operators",3,4,.false, "", "",32⟩,⟨ "Vars",3,5,.false, "", "",40⟩],6,.agg #[.int .i64 0,.int .i64 0,.int .i64 0,.int .i64 0,.int .i64 0,.int .i64 0],48⟩),
 (79,⟨.map 5 3,1,.map none,8⟩),
 (84,⟨.func #[3] #[3] .false,1,.nilFunc,8⟩),
 (85,⟨.slice 9,1,.slice none 0 0,24⟩),
 (87,⟨.float .f64,1,.float .f64 0,8⟩),
 (89,⟨.struct #[⟨ "Number",4,0,.false, "", "",0⟩,⟨ "Text",9,1,.false, "", "",8⟩,⟨ "Float",87,2,.false, "", "",24⟩],3,.agg #[.bool .false,.string .empty,.float .f64 0],32⟩),
 (91,⟨.struct #[⟨ "Name",9,0,.false, "", "",0⟩,⟨ "Value",89,1,.false, "", "",16⟩],4,.agg #[.string .empty,.bool .false,.string .empty,.float .f64 0],48⟩),
 (92,⟨.slice 96,1,.slice none 0 0,24⟩),
 (93,⟨.slice 183,1,.slice none 0 0,24⟩),
 (94,⟨.slice 147,1,.slice none 0 0,24⟩),
 (96,⟨.struct #[⟨ "Kind",5,0,.false, "", "",0⟩,⟨ "N",5,1,.false, "", "",1⟩,⟨ "Ticks",5,2,.false, "", "",2⟩,⟨ "Goto",5,3,.false, "", "",3⟩,⟨ "Regex",93,4,.false, "", "",8⟩,⟨ "Acts",94,5,.false, "", "",32⟩],6,.agg #[.int .u8 0,.int .u8 0,.int .u8 0,.int .u8 0,.slice none 0 0,.slice none 0 0],56⟩),
 (98,⟨.func #[149] #[] .false,1,.nilFunc,8⟩),
 (99,⟨.func #[149] #[] .false,1,.nilFunc,8⟩),
 (105,⟨.func #[57] #[57] .false,1,.nilFunc,8⟩),
 (106,⟨.func #[42] #[42] .false,1,.nilFunc,8⟩),
 (107,⟨.map 3 108,1,.map none,8⟩),
 (108,⟨.struct #[],0,.agg #[],0⟩),
 (110,⟨.func #[157] #[] .false,1,.nilFunc,8⟩),
 (111,⟨.func #[157] #[] .false,1,.nilFunc,8⟩),
 (119,⟨.struct #[⟨ "Var",3,0,.false, "", "",0⟩,⟨ "State",3,1,.false, "", "",8⟩,⟨ "Rule",3,2,.false, "", "",16⟩,⟨ "Action",3,3,.false, "", "",24⟩,⟨ "Part",3,4,.false, "", "",32⟩],5,.agg #[.int .i64 0,.int .i64 0,.int .i64 0,.int .i64 0,.int .i64 0],40⟩),
 (124,⟨.func #[91,91] #[4] .false,1,.nilFunc,8⟩),
 (127,⟨.func #[42,42] #[4] .false,1,.nilFunc,8⟩),
 (131,⟨.slice 133,1,.slice none 0 0,24⟩),
 (133,⟨.struct #[⟨ "Kind",5,0,.false, "", "",0⟩,⟨ "Number",87,1,.false, "", "",8⟩,⟨ "Name",9,2,.false, "", "",16⟩,⟨ "Capture",3,3,.false, "", "",32⟩,⟨ "Subs",131,4,.false, "", "",40⟩],5,.agg #[.int .u8 0,.float .f64 0,.string .empty,.int .i64 0,.slice none 0 0],64⟩),
 (135,⟨.func #[133] #[] .false,1,.nilFunc,8⟩),
 (136,⟨.func #[181] #[] .false,1,.nilFunc,8⟩),
 (137,⟨.func #[181] #[] .false,1,.nilFunc,8⟩),
 (139,⟨.slice 143,1,.slice none 0 0,24⟩),
 (141,⟨.struct #[⟨ "Kind",5,0,.false, "", "",0⟩,⟨ "Name",9,1,.false, "", "",8⟩,⟨ "Parts",139,2,.false, "", "",24⟩,⟨ "Expr",133,3,.false, "", "",48⟩],8,.agg #[.int .u8 0,.string .empty,.slice none 0 0,.int .u8 0,.float .f64 0,.string .empty,.int .i64 0,.slice none 0 0],112⟩),
 (143,⟨.struct #[⟨ "Kind",5,0,.false, "", "",0⟩,⟨ "Text",9,1,.false, "", "",8⟩,⟨ "Group",3,2,.false, "", "",24⟩,⟨ "Expr",133,3,.false, "", "",32⟩],8,.agg #[.int .u8 0,.string .empty,.int .i64 0,.int .u8 0,.float .f64 0,.string .empty,.int .i64 0,.slice none 0 0],96⟩),
 (145,⟨.slice 204,1,.slice none 0 0,24⟩),
 (147,⟨.struct #[⟨ "Kind",5,0,.false, "", "",0⟩,⟨ "N",5,1,.false, "", "",1⟩,⟨ "Parts",22,2,.false, "", "",8⟩,⟨ "Expr",145,3,.false, "", "",32⟩],4,.agg #[.int .u8 0,.int .u8 0,.slice none 0 0,.slice none 0 0],56⟩),
 (149,⟨.func #[37] #[4] .false,1,.nilFunc,8⟩),
 (150,⟨.func #[52] #[4] .false,1,.nilFunc,8⟩),
 (153,⟨.func #[133] #[133] .false,1,.nilFunc,8⟩),
 (155,⟨.func #[143] #[143] .false,1,.nilFunc,8⟩),
 (156,⟨.func #[141] #[141] .false,1,.nilFunc,8⟩),
 (157,⟨.func #[3,37] #[4] .false,1,.nilFunc,8⟩),
 (160,⟨.func #[52,52] #[4] .false,1,.nilFunc,8⟩),
 (162,⟨.func #[141,141] #[4] .false,1,.nilFunc,8⟩),
 (164,⟨.func #[57] #[4] .false,1,.nilFunc,8⟩),
 (165,⟨.func #[57] #[3] .false,1,.nilFunc,8⟩),
 (166,⟨.func #[195] #[] .false,1,.nilFunc,8⟩),
 (167,⟨.func #[195] #[] .false,1,.nilFunc,8⟩),
 (170,⟨.struct #[⟨ "Place",119,0,.false, "", "",0⟩,⟨ "Error",33,5,.false, "", "",40⟩],6,.agg #[.int .i64 0,.int .i64 0,.int .i64 0,.int .i64 0,.int .i64 0,.int .i64 0],48⟩),
 (173,⟨.func #[150] #[] .false,1,.nilFunc,8⟩),
 (174,⟨.func #[150] #[] .false,1,.nilFunc,8⟩),
 (176,⟨.func #[133] #[4] .false,1,.nilFunc,8⟩),
 (177,⟨.func #[176] #[] .false,1,.nilFunc,8⟩),
 (178,⟨.func #[176] #[] .false,1,.nilFunc,8⟩),
 (181,⟨.func #[141] #[4] .false,1,.nilFunc,8⟩),
 (183,⟨.struct #[⟨ "Kind",5,0,.false, "", "",0⟩,⟨ "N",5,1,.false, "", "",1⟩,⟨ "M",5,2,.false, "", "",2⟩],3,.agg #[.int .u8 0,.int .u8 0,.int .u8 0],3⟩),
 (193,⟨.func #[143,143] #[4] .false,1,.nilFunc,8⟩),
 (194,⟨.func #[133,133] #[4] .false,1,.nilFunc,8⟩),
 (195,⟨.func #[170] #[4] .false,1,.nilFunc,8⟩),
 (196,⟨.slice 58,1,.slice none 0 0,24⟩),
 (198,⟨.slice 119,1,.slice none 0 0,24⟩),
 (204,⟨.struct #[⟨ "Kind",5,0,.false, "", "",0⟩,⟨ "N",5,1,.false, "", "",1⟩,⟨ "Bits",47,2,.false, "", "",8⟩],3,.agg #[.int .u8 0,.int .u8 0,.int .u64 0],16⟩),
 (205,⟨.int .i8,1,.int .i8 0,1⟩),
 (220,⟨.func #[9] #[4] .false,1,.nilFunc,8⟩),
 (223,⟨.func #[91] #[4] .false,1,.nilFunc,8⟩),
 (225,⟨.struct #[⟨ "e",33,0,.false, "", "repartee/check",0⟩,⟨ "wrong",26,1,.false, "", "repartee/check",8⟩],2,.agg #[.int .i64 0,.nilFunc],16⟩),
 (228,⟨.func #[42] #[4] .false,1,.nilFunc,8⟩),
 (234,⟨.func #[143] #[4] .false,1,.nilFunc,8⟩),
 (235,⟨.slice 225,1,.slice none 0 0,24⟩),
 (246,⟨.array 256 4,256,.agg (List.replicate 256 (.bool .false)).toArray,256⟩),
 (250,⟨.pointer 246,1,.pointer none,8⟩),
 (261,⟨.array 256 5,256,.agg (List.replicate 256 (.int .u8 0)).toArray,256⟩),
 (264,⟨.struct #[⟨ "lo",5,0,.false, "", "unicode/utf8",0⟩,⟨ "hi",5,1,.false, "", "unicode/utf8",1⟩],2,.agg #[.int .u8 0,.int .u8 0],2⟩),
 (265,⟨.array 16 264,32,.agg (List.replicate 32 (.int .u8 0)).toArray,32⟩)]
theorem Zv2:Zza Tryz.prog ZAs:=⟨⟨by kernel_rfl,by kernel_rfl,by kernel_rfl⟩,⟨⟨by kernel_rfl,by kernel_rfl,by kernel_rfl⟩,⟨⟨by kernel_rfl,by kernel_rfl,by kernel_rfl⟩,⟨⟨by kernel_rfl,by kernel_rfl,by kernel_rfl⟩,⟨⟨by kernel_rfl,by kernel_rfl,by kernel_rfl⟩,⟨⟨by kernel_rfl,by kernel_rfl,by kernel_rfl⟩,⟨⟨by kernel_rfl,by kernel_rfl,by kernel_rfl⟩,⟨⟨by kernel_rfl,by kernel_rfl,by kernel_rfl⟩,⟨⟨by kernel_rfl,by kernel_rfl,by kernel_rfl⟩,⟨⟨by kernel_rfl,by kernel_rfl,by kernel_rfl⟩,⟨⟨by kernel_rfl,by kernel_rfl,by kernel_rfl⟩,⟨⟨by kernel_rfl,by kernel_rfl,by kernel_rfl⟩,⟨⟨by kernel_rfl,by kernel_rfl,by kernel_rfl⟩,⟨⟨by kernel_rfl,by kernel_rfl,by kernel_rfl⟩,⟨⟨by kernel_rfl,by kernel_rfl,by kernel_rfl⟩,⟨⟨by kernel_rfl,by kernel_rfl,by kernel_rfl⟩,⟨⟨by kernel_rfl,by kernel_rfl,by kernel_rfl⟩,⟨⟨by kernel_rfl,by kernel_rfl,by kernel_rfl⟩,⟨⟨by kernel_rfl,by kernel_rfl,by kernel_rfl⟩,⟨⟨by kernel_rfl,by kernel_rfl,by kernel_rfl⟩,⟨⟨by kernel_rfl,by kernel_rfl,by kernel_rfl⟩,⟨⟨by kernel_rfl,by kernel_rfl,by kernel_rfl⟩,⟨⟨by kernel_rfl,by kernel_rfl,by kernel_rfl⟩,⟨⟨by kernel_rfl,by kernel_rfl,by kernel_rfl⟩,⟨⟨by kernel_rfl,by kernel_rfl,by kernel_rfl⟩,⟨⟨by kernel_rfl,by kernel_rfl,by kernel_rfl⟩,⟨⟨by kernel_rfl,by kernel_rfl,by kernel_rfl⟩,⟨⟨by kernel_rfl,by kernel_rfl,by kernel_rfl⟩,⟨⟨by kernel_rfl,by kernel_rfl,by kernel_rfl⟩,⟨⟨by kernel_rfl,by kernel_rfl,by kernel_rfl⟩,⟨⟨by kernel_rfl,by kernel_rfl,by kernel_rfl⟩,⟨⟨by kernel_rfl,by kernel_rfl,by kernel_rfl⟩,⟨⟨by kernel_rfl,by kernel_rfl,by kernel_rfl⟩,⟨⟨by kernel_rfl,by kernel_rfl,by kernel_rfl⟩,⟨⟨by kernel_rfl,by kernel_rfl,by kernel_rfl⟩,⟨⟨by kernel_rfl,by kernel_rfl,by kernel_rfl⟩,⟨⟨by kernel_rfl,by kernel_rfl,by kernel_rfl⟩,⟨⟨by kernel_rfl,by kernel_rfl,by kernel_rfl⟩,⟨⟨by kernel_rfl,by kernel_rfl,by kernel_rfl⟩,⟨⟨by kernel_rfl,by kernel_rfl,by kernel_rfl⟩,⟨⟨by kernel_rfl,by kernel_rfl,by kernel_rfl⟩,⟨⟨by kernel_rfl,by kernel_rfl,by kernel_rfl⟩,⟨⟨by kernel_rfl,by kernel_rfl,by kernel_rfl⟩,⟨⟨by kernel_rfl,by kernel_rfl,by kernel_rfl⟩,⟨⟨by kernel_rfl,by kernel_rfl,by kernel_rfl⟩,⟨⟨by kernel_rfl,by kernel_rfl,by kernel_rfl⟩,⟨⟨by kernel_rfl,by kernel_rfl,by kernel_rfl⟩,⟨⟨by kernel_rfl,by kernel_rfl,by kernel_rfl⟩,⟨⟨by kernel_rfl,by kernel_rfl,by kernel_rfl⟩,⟨⟨by kernel_rfl,by kernel_rfl,by kernel_rfl⟩,⟨⟨by kernel_rfl,by kernel_rfl,by kernel_rfl⟩,⟨⟨by kernel_rfl,by kernel_rfl,by kernel_rfl⟩,⟨⟨by kernel_rfl,by kernel_rfl,by kernel_rfl⟩,⟨⟨by kernel_rfl,by kernel_rfl,by kernel_rfl⟩,⟨⟨by kernel_rfl,by kernel_rfl,by kernel_rfl⟩,⟨⟨by kernel_rfl,by kernel_rfl,by kernel_rfl⟩,⟨⟨by kernel_rfl,by kernel_rfl,by kernel_rfl⟩,⟨⟨by kernel_rfl,by kernel_rfl,by kernel_rfl⟩,⟨⟨by kernel_rfl,by kernel_rfl,by kernel_rfl⟩,⟨⟨by kernel_rfl,by kernel_rfl,by kernel_rfl⟩,⟨⟨by kernel_rfl,by kernel_rfl,by kernel_rfl⟩,⟨⟨by kernel_rfl,by kernel_rfl,by kernel_rfl⟩,⟨⟨by kernel_rfl,by kernel_rfl,by kernel_rfl⟩,⟨⟨by kernel_rfl,by kernel_rfl,by kernel_rfl⟩,⟨⟨by kernel_rfl,by kernel_rfl,by kernel_rfl⟩,⟨⟨by kernel_rfl,by kernel_rfl,by kernel_rfl⟩,⟨⟨by kernel_rfl,by kernel_rfl,by kernel_rfl⟩,⟨⟨by kernel_rfl,by kernel_rfl,by kernel_rfl⟩,⟨⟨by kernel_rfl,by kernel_rfl,by kernel_rfl⟩,⟨⟨by kernel_rfl,by kernel_rfl,by kernel_rfl⟩,⟨⟨by kernel_rfl,by kernel_rfl,by kernel_rfl⟩,⟨⟨by kernel_rfl,by kernel_rfl,by kernel_rfl⟩,⟨⟨by kernel_rfl,by kernel_rfl,by kernel_rfl⟩,⟨⟨by kernel_rfl,by kernel_rfl,by kernel_rfl⟩,⟨⟨by kernel_rfl,by kernel_rfl,by kernel_rfl⟩,⟨⟨by kernel_rfl,by kernel_rfl,by kernel_rfl⟩,⟨⟨by kernel_rfl,by kernel_rfl,by kernel_rfl⟩,⟨⟨by kernel_rfl,by kernel_rfl,by kernel_rfl⟩,⟨⟨by kernel_rfl,by kernel_rfl,by kernel_rfl⟩,⟨⟨by kernel_rfl,by kernel_rfl,by kernel_rfl⟩,⟨⟨by kernel_rfl,by kernel_rfl,by kernel_rfl⟩,⟨⟨by kernel_rfl,by kernel_rfl,by kernel_rfl⟩,⟨⟨by kernel_rfl,by kernel_rfl,by kernel_rfl⟩,⟨⟨by kernel_rfl,by kernel_rfl,by kernel_rfl⟩,⟨⟨by kernel_rfl,by kernel_rfl,by kernel_rfl⟩,⟨⟨by kernel_rfl,by kernel_rfl,by kernel_rfl⟩,⟨⟨by kernel_rfl,by kernel_rfl,by kernel_rfl⟩,⟨⟨by kernel_rfl,by kernel_rfl,by kernel_rfl⟩,⟨⟨by kernel_rfl,by kernel_rfl,by kernel_rfl⟩,⟨⟨by kernel_rfl,by kernel_rfl,by kernel_rfl⟩,⟨⟨by kernel_rfl,by kernel_rfl,by kernel_rfl⟩,⟨⟨by kernel_rfl,by kernel_rfl,by kernel_rfl⟩,⟨⟨by kernel_rfl,by kernel_rfl,by kernel_rfl⟩,⟨⟨by kernel_rfl,by kernel_rfl,by kernel_rfl⟩,⟨⟨by kernel_rfl,by kernel_rfl,by kernel_rfl⟩,⟨⟨by kernel_rfl,by kernel_rfl,by kernel_rfl⟩,⟨⟨by kernel_rfl,by kernel_rfl,by kernel_rfl⟩,trivial⟩⟩⟩⟩⟩⟩⟩⟩⟩⟩⟩⟩⟩⟩⟩⟩⟩⟩⟩⟩⟩⟩⟩⟩⟩⟩⟩⟩⟩⟩⟩⟩⟩⟩⟩⟩⟩⟩⟩⟩⟩⟩⟩⟩⟩⟩⟩⟩⟩⟩⟩⟩⟩⟩⟩⟩⟩⟩⟩⟩⟩⟩⟩⟩⟩⟩⟩⟩⟩⟩⟩⟩⟩⟩⟩⟩⟩⟩⟩⟩⟩⟩⟩⟩⟩⟩⟩⟩⟩⟩⟩⟩⟩⟩⟩⟩⟩
noncomputable def ZA9:Nat->Shape:=λi=>bif Nat.beq i 0 then .tup []else bif Nat.beq i 3 then .int .i64 else bif Nat.beq i 4 then .bool else bif Nat.beq i 5 then .int .u8 else bif Nat.beq i 9 then .str else bif Nat.beq i 21 then .int .i32 else bif Nat.beq i 22 then .slice else bif Nat.beq i 23 then .slice else bif Nat.beq i 25 then .agg [.int .u8,.slice,.slice]else bif Nat.beq i 26 then .fn else bif Nat.beq i 27 then .slice else bif Nat.beq i 28 then .slice else bif Nat.beq i 30 then .agg [.int .i64,.slice,.slice]else bif Nat.beq i 32 then .slice else bif Nat.beq i 33 then .int .i64 else bif Nat.beq i 34 then .tup [.slice,.int .i64]else bif Nat.beq i 37 then .agg [.int .i64,.int .i64]else bif Nat.beq i 38 then .tup [.bool,.int .i64]else bif Nat.beq i 40 then .slice else bif Nat.beq i 42 then .agg [.str,.slice]else bif Nat.beq i 47 then .int .u64 else bif Nat.beq i 49 then .agg [.int .u64,.int .u64,.int .u64,.int .u64]else bif Nat.beq i 50 then .slice else bif Nat.beq i 52 then .agg [.int .u8,.int .u64,.int .u64,.int .u64,.int .u64,.int .i64,.int .i64,.slice]else bif Nat.beq i 54 then .agg [.bool,.bool,.int .u8,.int .u64,.int .u64,.int .u64,.int .u64,.int .i64,.int .i64,.slice]else bif Nat.beq i 55 then .slice else bif Nat.beq i 57 then .agg [.int .u8,.bool,.bool,.int .u8,.int .u64,.int .u64,.int .u64,.int .u64,.int .i64,.int .i64,.slice,.str,.int .i64,.slice,.str,.int .i64]else bif Nat.beq i 58 then .slice else bif Nat.beq i 59 then .tup [.agg [.int .i64,.slice,.slice],.int .i64]else bif Nat.beq i 62 then .tup [.agg [.int .i64,.slice,.slice],.slice,.int .i64]else bif Nat.beq i 65 then .fn else bif Nat.beq i 66 then .tup [.int .i64,.bool,.int .i64]else bif Nat.beq i 70 then .tup [.int .i64,.int .i64]else bif Nat.beq i 77 then .agg [.int .i64,.int .i64,.int .i64,.int .i64,.int .i64,.int .i64]else bif Nat.beq i 84 then .fn else bif Nat.beq i 85 then .slice else bif Nat.beq i 89 then .agg [.bool,.str,.any]else bif Nat.beq i 91 then .agg [.str,.bool,.str,.any]else bif Nat.beq i 92 then .slice else bif Nat.beq i 93 then .slice else bif Nat.beq i 94 then .slice else bif Nat.beq i 96 then .agg [.int .u8,.int .u8,.int .u8,.int .u8,.slice,.slice]else bif Nat.beq i 98 then .fn else bif Nat.beq i 99 then .fn else bif Nat.beq i 105 then .fn else bif Nat.beq i 106 then .fn else bif Nat.beq i 108 then .agg []else bif Nat.beq i 109 then .tup [.agg [],.bool]else bif Nat.beq i 110 then .fn else bif Nat.beq i 111 then .fn else bif Nat.beq i 116 then .tup [.int .i64,.bool]else bif Nat.beq i 119 then .agg [.int .i64,.int .i64,.int .i64,.int .i64,.int .i64]else bif Nat.beq i 120 then .tup [.agg [.int .i64,.int .i64,.int .i64,.int .i64,.int .i64],.int .i64]else bif Nat.beq i 124 then .fn else bif Nat.beq i 127 then .fn else bif Nat.beq i 131 then .slice else bif Nat.beq i 133 then .agg [.int .u8,.any,.str,.int .i64,.slice]else bif Nat.beq i 135 then .fn else bif Nat.beq i 136 then .fn else bif Nat.beq i 137 then .fn else bif Nat.beq i 139 then .slice else bif Nat.beq i 141 then .agg [.int .u8,.str,.slice,.int .u8,.any,.str,.int .i64,.slice]else bif Nat.beq i 143 then .agg [.int .u8,.str,.int .i64,.int .u8,.any,.str,.int .i64,.slice]else bif Nat.beq i 145 then .slice else bif Nat.beq i 147 then .agg [.int .u8,.int .u8,.slice,.slice]else bif Nat.beq i 149 then .fn else bif Nat.beq i 150 then .fn else bif Nat.beq i 153 then .fn else bif Nat.beq i 155 then .fn else bif Nat.beq i 156 then .fn else bif Nat.beq i 157 then .fn else bif Nat.beq i 160 then .fn else bif Nat.beq i 162 then .fn else bif Nat.beq i 164 then .fn else bif Nat.beq i 165 then .fn else bif Nat.beq i 166 then .fn else bif Nat.beq i 167 then .fn else bif Nat.beq i 170 then .agg [.int .i64,.int .i64,.int .i64,.int .i64,.int .i64,.int .i64]else bif Nat.beq i 173 then .fn else bif Nat.beq i 174 then .fn else bif Nat.beq i 176 then .fn else bif Nat.beq i 177 then .fn else bif Nat.beq i 178 then .fn else bif Nat.beq i 181 then .fn else bif Nat.beq i 183 then .agg [.int .u8,.int .u8,.int .u8]else bif Nat.beq i 193 then .fn else bif Nat.beq i 194 then .fn else bif Nat.beq i 195 then .fn else bif Nat.beq i 196 then .slice else bif Nat.beq i 198 then .slice else bif Nat.beq i 204 then .agg [.int .u8,.int .u8,.int .u64]else bif Nat.beq i 205 then .int .i8 else bif Nat.beq i 220 then .fn else bif Nat.beq i 223 then .fn else bif Nat.beq i 225 then .agg [.int .i64,.fn]else bif Nat.beq i 228 then .fn else bif Nat.beq i 231 then .tup [.bool,.bool]else bif Nat.beq i 234 then .fn else bif Nat.beq i 235 then .slice else bif Nat.beq i 246 then .cells else bif Nat.beq i 247 then .tup [.cells,.bool]else bif Nat.beq i 250 then .ptr else bif Nat.beq i 254 then .tup [.int .i32,.int .i64]else bif Nat.beq i 261 then .cells else bif Nat.beq i 264 then .agg [.int .u8,.int .u8]else bif Nat.beq i 265 then .cells else .any
noncomputable def EB:Env where
 P:=Tryz.prog
 loops:=λ_=>⟨[],[],[],false⟩
 cuts:=λ_=>none
 joins:=λ_=>none
 dr:=λ_=>[]
 tt:=ZwY ZAs
 sh:=ZA9
 hint:=λ_=>none
 borrow:=λ_=>[]
 tokOf:=λ_=>0
 frz:=[]
 fix:=none
 yl:=none
 frzNew:=[]
 frzAt:=λ_=>[]
 thaw:=false
 stAt:=λ_=>none
theorem Zal:EB.ok:=Zrq Zv2
theorem mix:Tryz.prog.follows .mixedOrders=true:=by kernel_rfl
abbrev bE0:ByteArray:=ByteArray.mk (Array.mk [])
end Go.Proofs.YtojlhhphofhaoaaGreatDoor