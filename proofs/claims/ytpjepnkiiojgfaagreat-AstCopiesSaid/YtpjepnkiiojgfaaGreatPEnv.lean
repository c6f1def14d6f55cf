/- Part of the proof: functions of the program. No condition. -/
import Derived.Test.YtpjepnkiiojgfaaGreatProg
import Derived.Test.YtpjepnkiiojgfaaGreatMc
import Derived.KernelRfl
set_option linter.unusedVariables false
set_option linter.unusedSimpArgs false
set_option linter.unusedSectionVars false
noncomputable section
namespace Go.Proofs.YtpjepnkiiojgfaaGreat
open Go Go.Eng Go.Proofs
set_option maxRecDepth 100000
abbrev Zbp(s:Shape)(R:Value->Mem->List (List Value)->Prop):Prop:=∀(v:Value)(m':Mem) (css:List (List Value)),R v m' css->Shape.fits s v=true
abbrev shT:Shape:=.agg [.int .u8,.int .u64,.int .u64,.int .u64,.int .u64,.int .i64,.int .i64,.slice]
def ZAH:List (Nat×TI):=[
 (3,⟨.int .i64,1,.int .i64 0,8⟩),
 (4,⟨.bool,1,.bool .false,1⟩),
 (5,⟨.int .u8,1,.int .u8 0,1⟩),
 (9,⟨.string,1,.string .empty,16⟩),
 (22,⟨.slice 5,1,.slice none 0 0,24⟩),
 (23,⟨.slice 104,1,.slice none 0 0,24⟩),
 (25,⟨.struct #[⟨ "Buffer",5,0,.false, "", "",0⟩,⟨ "Values",22,1,.false, "", "",8⟩,⟨ "States",23,2,.false, "", "",32⟩],3,.agg #[.int .u8 0,.slice none 0 0,.slice none 0 0],56⟩),
 (27,⟨.struct #[⟨ "Var",3,0,.false, "", "",0⟩,⟨ "State",3,1,.false, "", "",8⟩,⟨ "Rule",3,2,.false, "", "",16⟩,⟨ "Action",3,3,.false, "", "",24⟩,⟨ "Part",3,4,.false, "", "",32⟩],5,.agg #[.int .i64 0,.int .i64 0,.int .i64 0,.int .i64 0,.int .i64 0],40⟩),
 (29,⟨.slice 103,1,.slice none 0 0,24⟩),
 (30,⟨.slice 36,1,.slice none 0 0,24⟩),
 (32,⟨.struct #[⟨ "Buffer",3,0,.false, "", "",0⟩,⟨ "Vars",29,1,.false, "", "",8⟩,⟨ "States",30,2,.false, "", "",32⟩],3,.agg #[.int .i64 0,.slice none 0 0,.slice none 0 0],56⟩),
 (34,⟨.slice 47,1,.slice none 0 0,24⟩),
 (36,⟨.struct #[⟨ "Name",9,0,.false, "", "",0⟩,⟨ "Rules",34,1,.false, "", "",16⟩],2,.agg #[.string .empty,.slice none 0 0],40⟩),
 (37,⟨.int .u64,1,.int .u64 0,8⟩),
 (39,⟨.array 4 37,4,.agg #[.int .u64 0,.int .u64 0,.int .u64 0,.int .u64 0],32⟩),
 (40,⟨.slice 42,1,.slice none 0 0,24⟩),
 (42,⟨.struct #[⟨ "Kind",5,0,.false, "", "",0⟩,⟨ "Set",39,1,.false, "", "",8⟩,⟨ "Min",3,5,.false, "", "",40⟩,⟨ "Max",3,6,.false, "", "",48⟩,⟨ "Subs",40,7,.false, "", "",56⟩],8,.agg #[.int .u8 0,.int .u64 0,.int .u64 0,.int .u64 0,.int .u64 0,.int .i64 0,.int .i64 0,.slice none 0 0],80⟩),
 (44,⟨.struct #[⟨ "Begin",4,0,.false, "", "",0⟩,⟨ "End",4,1,.false, "", "",1⟩,⟨ "Root",42,2,.false, "", "",8⟩],10,.agg #[.bool .false,.bool .false,.int .u8 0,.int .u64 0,.int .u64 0,.int .u64 0,.int .u64 0,.int .i64 0,.int .i64 0,.slice none 0 0],88⟩),
 (45,⟨.slice 54,1,.slice none 0 0,24⟩),
 (47,⟨.struct #[⟨ "Kind",5,0,.false, "", "",0⟩,⟨ "Regex",44,1,.false, "", "",8⟩,⟨ "Text",9,11,.false, "", "",96⟩,⟨ "Ticks",3,12,.false, "", "",112⟩,⟨ "Actions",45,13,.false, "", "",120⟩,⟨ "Goto",9,14,.false, "", "",144⟩,⟨ "Code",3,15,.false, "", "",160⟩],16,.agg #[.int .u8 0,.bool .false,.bool .false,.int .u8 0,.int .u64 0,.int .u64 0,.int .u64 0,.int .u64 0,.int .i64 0,.int .i64 0,.slice none 0 0,.string .empty,.int .i64 0,.slice none 0 0,.string .empty,.int .i64 0],168⟩),
 (48,⟨.slice 130,1,.slice none 0 0,24⟩),
 (49,⟨.float .f64,1,.float .f64 0,8⟩),
 (50,⟨.slice 52,1,.slice none 0 0,24⟩),
 (52,⟨.struct #[⟨ "Kind",5,0,.false, "", "",0⟩,⟨ "Number",49,1,.false, "", "",8⟩,⟨ "Name",9,2,.false, "", "",16⟩,⟨ "Capture",3,3,.false, "", "",32⟩,⟨ "Subs",50,4,.false, "", "",40⟩],5,.agg #[.int .u8 0,.float .f64 0,.string .empty,.int .i64 0,.slice none 0 0],64⟩),
 (54,⟨.struct #[⟨ "Kind",5,0,.false, "", "",0⟩,⟨ "Name",9,1,.false, "", "",8⟩,⟨ "Parts",48,2,.false, "", "",24⟩,⟨ "Expr",52,3,.false, "", "",48⟩],8,.agg #[.int .u8 0,.string .empty,.slice none 0 0,.int .u8 0,.float .f64 0,.string .empty,.int .i64 0,.slice none 0 0],112⟩),
 (55,⟨.slice 27,1,.slice none 0 0,24⟩),
 (59,⟨.array 2 3,2,.agg #[.int .i64 0,.int .i64 0],16⟩),
 (60,⟨.slice 59,1,.slice none 0 0,24⟩),
 (61,⟨.int .i64,1,.int .i64 0,8⟩),
 (65,⟨.slice 3,1,.slice none 0 0,24⟩),
 (66,⟨.slice 65,1,.slice none 0 0,24⟩),
 (75,⟨.struct #[⟨ "States",3,0,.false, "", "",0⟩,⟨ "Rules",3,1,.false, "", "",8⟩,⟨ "Regex",3,2,.false, "", "",16⟩,⟨ "Parts",3,3,.false, "", "",24⟩,⟨ "Operators",3,4,.false, "", "",32⟩,⟨ "Vars",3,5,.false, "", "",40⟩],6,.agg #[.int .i64 0,.int .i64 0,.int .i64 0,.int .i64 0,.int .i64 0,.int .i64 0],48⟩),
 (80,⟨.slice 9,1,.slice none 0 0,24⟩),
 (83,⟨.func #[47] #[80] .false,1,.nilFunc,8⟩),
 (84,⟨.slice 83,1,.slice none 0 0,24⟩),
 (87,⟨.func #[47,47] #[4] .false,1,.nilFunc,8⟩),
 (99,⟨.func #[3] #[3] .false,1,.nilFunc,8⟩),
 (101,⟨.struct #[⟨ "Number",4,0,.false, "", "",0⟩,⟨ "Text",9,1,.false, "", "",8⟩,⟨ "Float",49,2,.false, "", "",24⟩],3,.agg #[.bool .false,.string .empty,.float .f64 0],32⟩),
 (103,⟨.struct #[⟨ "Name",9,0,.false, "", "",0⟩,⟨ "Value",101,1,.false, "", "",16⟩],4,.agg #[.string .empty,.bool .false,.string .empty,.float .f64 0],48⟩),
 (104,⟨.slice 108,1,.slice none 0 0,24⟩),
 (105,⟨.slice 195,1,.slice none 0 0,24⟩),
 (106,⟨.slice 158,1,.slice none 0 0,24⟩),
 (108,⟨.struct #[⟨ "Kind",5,0,.false, "", "",0⟩,⟨ "N",5,1,.false, "", "",1⟩,⟨ "Ticks",5,2,.false, "", "",2⟩,⟨ "Goto",5,3,.false, "", "",3⟩,⟨ "Regex",105,4,.false, "", "",8⟩,⟨ "Acts",106,5,.false, "", "",32⟩],6,.agg #[.int .u8 0,.int .u8 0,.int .u8 0,.int .u8 0,.slice none 0 0,.slice none 0 0],56⟩),
 (114,⟨.func #[47] #[47] .false,1,.nilFunc,8⟩),
 (115,⟨.map 3 116,1,.map none,8⟩),
 (116,⟨.struct #[],0,.agg #[],0⟩),
 (119,⟨.func #[36] #[4] .false,1,.nilFunc,8⟩),
 (121,⟨.func #[103] #[4] .false,1,.nilFunc,8⟩),
 (125,⟨.func #[36] #[36] .false,1,.nilFunc,8⟩),
 (127,⟨.func #[42] #[4] .false,1,.nilFunc,8⟩),
 (130,⟨.struct #[⟨ "Kind",5,0,.false, "", "",0⟩,⟨ "Text",9,1,.false, "", "",8⟩,⟨ "Group",3,2,.false, "", "",24⟩,⟨ "Expr",52,3,.false, "", "",32⟩],8,.agg #[.int .u8 0,.string .empty,.int .i64 0,.int .u8 0,.float .f64 0,.string .empty,.int .i64 0,.slice none 0 0],96⟩),
 (133,⟨.func #[103,103] #[4] .false,1,.nilFunc,8⟩),
 (136,⟨.func #[36,36] #[4] .false,1,.nilFunc,8⟩),
 (137,⟨.func #[52] #[] .false,1,.nilFunc,8⟩),
 (138,⟨.func #[178] #[] .false,1,.nilFunc,8⟩),
 (139,⟨.func #[178] #[] .false,1,.nilFunc,8⟩),
 (142,⟨.slice 45,1,.slice none 0 0,24⟩),
 (146,⟨.map 9 3,1,.map none,8⟩),
 (148,⟨.func #[36] #[65] .false,1,.nilFunc,8⟩),
 (151,⟨.int .u64,1,.int .u64 0,8⟩),
 (156,⟨.slice 217,1,.slice none 0 0,24⟩),
 (158,⟨.struct #[⟨ "Kind",5,0,.false, "", "",0⟩,⟨ "N",5,1,.false, "", "",1⟩,⟨ "Parts",22,2,.false, "", "",8⟩,⟨ "Expr",156,3,.false, "", "",32⟩],4,.agg #[.int .u8 0,.int .u8 0,.slice none 0 0,.slice none 0 0],56⟩),
 (162,⟨.func #[52] #[52] .false,1,.nilFunc,8⟩),
 (164,⟨.func #[130] #[130] .false,1,.nilFunc,8⟩),
 (165,⟨.func #[54] #[54] .false,1,.nilFunc,8⟩),
 (166,⟨.func #[127] #[] .false,1,.nilFunc,8⟩),
 (167,⟨.func #[127] #[] .false,1,.nilFunc,8⟩),
 (169,⟨.func #[52] #[4] .false,1,.nilFunc,8⟩),
 (171,⟨.func #[42,42] #[4] .false,1,.nilFunc,8⟩),
 (173,⟨.func #[54,54] #[4] .false,1,.nilFunc,8⟩),
 (174,⟨.func #[169] #[] .false,1,.nilFunc,8⟩),
 (175,⟨.func #[169] #[] .false,1,.nilFunc,8⟩),
 (178,⟨.func #[54] #[4] .false,1,.nilFunc,8⟩),
 (180,⟨.func #[80] #[] .true,1,.nilFunc,8⟩),
 (183,⟨.int .i64,1,.int .i64 0,8⟩),
 (191,⟨.int .u32,1,.int .u32 0,4⟩),
 (195,⟨.struct #[⟨ "Kind",5,0,.false, "", "",0⟩,⟨ "N",5,1,.false, "", "",1⟩,⟨ "M",5,2,.false, "", "",2⟩],3,.agg #[.int .u8 0,.int .u8 0,.int .u8 0],3⟩),
 (207,⟨.func #[130,130] #[4] .false,1,.nilFunc,8⟩),
 (208,⟨.func #[52,52] #[4] .false,1,.nilFunc,8⟩),
 (210,⟨.int .u64,1,.int .u64 0,8⟩),
 (214,⟨.pointer 3,1,.pointer none,8⟩),
 (217,⟨.struct #[⟨ "Kind",5,0,.false, "", "",0⟩,⟨ "N",5,1,.false, "", "",1⟩,⟨ "Bits",37,2,.false, "", "",8⟩],3,.agg #[.int .u8 0,.int .u8 0,.int .u64 0],16⟩),
 (218,⟨.int .i8,1,.int .i8 0,1⟩),
 (227,⟨.pointer 210,1,.pointer none,8⟩)]
theorem ZvI:Zy8 Tryz.prog ZAH:=⟨⟨by kernel_rfl,by kernel_rfl,by kernel_rfl⟩,⟨⟨by kernel_rfl,by kernel_rfl,by kernel_rfl⟩,⟨⟨by kernel_rfl,by kernel_rfl,by kernel_rfl⟩,⟨⟨by kernel_rfl,by kernel_rfl,by kernel_rfl⟩,⟨⟨by kernel_rfl,by kernel_rfl,by kernel_rfl⟩,⟨⟨by kernel_rfl,by kernel_rfl,by kernel_rfl⟩,⟨⟨by kernel_rfl,by kernel_rfl,by kernel_rfl⟩,⟨⟨by kernel_rfl,by kernel_rfl,by kernel_rfl⟩,⟨⟨by kernel_rfl,by kernel_rfl,by kernel_rfl⟩,⟨⟨by kernel_rfl,by kernel_rfl,by kernel_rfl⟩,⟨⟨by kernel_rfl,by kernel_rfl,by kernel_rfl⟩,⟨⟨by kernel_rfl,by kernel_rfl,by kernel_rfl⟩,⟨⟨by kernel_rfl,by kernel_rfl,by kernel_rfl⟩,⟨⟨by kernel_rfl,by kernel_rfl,by kernel_rfl⟩,⟨⟨by kernel_rfl,by kernel_rfl,by kernel_rfl⟩,⟨⟨by kernel_rfl,by kernel_rfl,by kernel_rfl⟩,⟨⟨by kernel_rfl,by kernel_rfl,by kernel_rfl⟩,⟨⟨by kernel_rfl,by kernel_rfl,by kernel_rfl⟩,⟨⟨by kernel_rfl,by kernel_rfl,by kernel_rfl⟩,⟨⟨by kernel_rfl,by kernel_rfl,by kernel_rfl⟩,⟨⟨by kernel_rfl,by kernel_rfl,by kernel_rfl⟩,⟨⟨by kernel_rfl,by kernel_rfl,by kernel_rfl⟩,⟨⟨by kernel_rfl,by kernel_rfl,by kernel_rfl⟩,⟨⟨by kernel_rfl,by kernel_rfl,by kernel_rfl⟩,⟨⟨by kernel_rfl,by kernel_rfl,by kernel_rfl⟩,⟨⟨by kernel_rfl,by kernel_rfl,by kernel_rfl⟩,⟨⟨by kernel_rfl,by kernel_rfl,by kernel_rfl⟩,⟨⟨by kernel_rfl,by kernel_rfl,by kernel_rfl⟩,⟨⟨by kernel_rfl,by kernel_rfl,by kernel_rfl⟩,⟨⟨by kernel_rfl,by kernel_rfl,by kernel_rfl⟩,⟨⟨by kernel_rfl,by kernel_rfl,by kernel_rfl⟩,⟨⟨by kernel_rfl,by kernel_rfl,by kernel_rfl⟩,⟨⟨by kernel_rfl,by kernel_rfl,by kernel_rfl⟩,⟨⟨by kernel_rfl,by kernel_rfl,by kernel_rfl⟩,⟨⟨by kernel_rfl,by kernel_rfl,by kernel_rfl⟩,⟨⟨by kernel_rfl,by kernel_rfl,by kernel_rfl⟩,⟨⟨by kernel_rfl,by kernel_rfl,by kernel_rfl⟩,⟨⟨by kernel_rfl,by kernel_rfl,by kernel_rfl⟩,⟨⟨by kernel_rfl,by kernel_rfl,by kernel_rfl⟩,⟨⟨by kernel_rfl,by kernel_rfl,by kernel_rfl⟩,⟨⟨by kernel_rfl,by kernel_rfl,by kernel_rfl⟩,⟨⟨by kernel_rfl,by kernel_rfl,by kernel_rfl⟩,⟨⟨by kernel_rfl,by kernel_rfl,by kernel_rfl⟩,⟨⟨by kernel_rfl,by kernel_rfl,by kernel_rfl⟩,⟨⟨by kernel_rfl,by kernel_rfl,by kernel_rfl⟩,⟨⟨by kernel_rfl,by kernel_rfl,by kernel_rfl⟩,⟨⟨by kernel_rfl,by kernel_rfl,by kernel_rfl⟩,⟨⟨by kernel_rfl,by kernel_rfl,by kernel_rfl⟩,⟨⟨by kernel_rfl,by kernel_rfl,by kernel_rfl⟩,⟨⟨by kernel_rfl,by kernel_rfl,by kernel_rfl⟩,⟨⟨by kernel_rfl,by kernel_rfl,by kernel_rfl⟩,⟨⟨by kernel_rfl,by kernel_rfl,by kernel_rfl⟩,⟨⟨by kernel_rfl,by kernel_rfl,by kernel_rfl⟩,⟨⟨by kernel_rfl,by kernel_rfl,by kernel_rfl⟩,⟨⟨by kernel_rfl,by kernel_rfl,by kernel_rfl⟩,⟨⟨by kernel_rfl,by kernel_rfl,by kernel_rfl⟩,⟨⟨by kernel_rfl,by kernel_rfl,by kernel_rfl⟩,⟨⟨by kernel_rfl,by kernel_rfl,by kernel_rfl⟩,⟨⟨by kernel_rfl,by kernel_rfl,by kernel_rfl⟩,⟨⟨by kernel_rfl,by kernel_rfl,by kernel_rfl⟩,⟨⟨by kernel_rfl,by kernel_rfl,by kernel_rfl⟩,⟨⟨by kernel_rfl,by kernel_rfl,by kernel_rfl⟩,⟨⟨by kernel_rfl,by kernel_rfl,by kernel_rfl⟩,⟨⟨by kernel_rfl,by kernel_rfl,by kernel_rfl⟩,⟨⟨by kernel_rfl,by kernel_rfl,by kernel_rfl⟩,⟨⟨by kernel_rfl,by kernel_rfl,by kernel_rfl⟩,⟨⟨by kernel_rfl,by kernel_rfl,by kernel_rfl⟩,⟨⟨by kernel_rfl,by kernel_rfl,by kernel_rfl⟩,⟨⟨by kernel_rfl,by kernel_rfl,by kernel_rfl⟩,⟨⟨by kernel_rfl,by kernel_rfl,by kernel_rfl⟩,⟨⟨by kernel_rfl,by kernel_rfl,by kernel_rfl⟩,⟨⟨by kernel_rfl,by kernel_rfl,by kernel_rfl⟩,⟨⟨by kernel_rfl,by kernel_rfl,by kernel_rfl⟩,⟨⟨by kernel_rfl,by kernel_rfl,by kernel_rfl⟩,⟨⟨by kernel_rfl,by kernel_rfl,by kernel_rfl⟩,⟨⟨by kernel_rfl,by kernel_rfl,by kernel_rfl⟩,⟨⟨by kernel_rfl,by kernel_rfl,by kernel_rfl⟩,⟨⟨by kernel_rfl,by kernel_rfl,by kernel_rfl⟩,⟨⟨by kernel_rfl,by kernel_rfl,by kernel_rfl⟩,⟨⟨by kernel_rfl,by kernel_rfl,by kernel_rfl⟩,⟨⟨by kernel_rfl,by kernel_rfl,by kernel_rfl⟩,⟨⟨by kernel_rfl,by kernel_rfl,by kernel_rfl⟩,⟨⟨by kernel_rfl,by kernel_rfl,by kernel_rfl⟩,⟨⟨by kernel_rfl,by kernel_rfl,by kernel_rfl⟩,trivial⟩⟩⟩⟩⟩⟩⟩⟩⟩⟩⟩⟩⟩⟩⟩⟩⟩⟩⟩⟩⟩⟩⟩⟩⟩⟩⟩⟩⟩⟩⟩⟩⟩⟩⟩⟩⟩⟩⟩⟩⟩⟩⟩⟩⟩⟩⟩⟩⟩⟩⟩⟩⟩⟩⟩⟩⟩⟩⟩⟩⟩⟩⟩⟩⟩⟩⟩⟩⟩⟩⟩⟩⟩⟩⟩⟩⟩⟩⟩⟩⟩⟩⟩⟩
def ZBk:Nat->Shape:=λi=>bif Nat.beq i 0 then .tup []else bif Nat.beq i 3 then .int .i64 else bif Nat.beq i 4 then .bool else bif Nat.beq i 5 then .int .u8 else bif Nat.beq i 9 then .str else bif Nat.beq i 22 then .slice else bif Nat.beq i 23 then .slice else bif Nat.beq i 25 then .agg [.int .u8,.slice,.slice]else bif Nat.beq i 27 then .agg [.int .i64,.int .i64,.int .i64,.int .i64,.int .i64]else bif Nat.beq i 29 then .slice else bif Nat.beq i 30 then .slice else bif Nat.beq i 32 then .agg [.int .i64,.slice,.slice]else bif Nat.beq i 34 then .slice else bif Nat.beq i 36 then .agg [.str,.slice]else bif Nat.beq i 37 then .int .u64 else bif Nat.beq i 39 then .agg [.int .u64,.int .u64,.int .u64,.int .u64]else bif Nat.beq i 40 then .slice else bif Nat.beq i 42 then .agg [.int .u8,.int .u64,.int .u64,.int .u64,.int .u64,.int .i64,.int .i64,.slice]else bif Nat.beq i 44 then .agg [.bool,.bool,.int .u8,.int .u64,.int .u64,.int .u64,.int .u64,.int .i64,.int .i64,.slice]else bif Nat.beq i 45 then .slice else bif Nat.beq i 47 then .agg [.int .u8,.bool,.bool,.int .u8,.int .u64,.int .u64,.int .u64,.int .u64,.int .i64,.int .i64,.slice,.str,.int .i64,.slice,.str,.int .i64]else bif Nat.beq i 48 then .slice else bif Nat.beq i 50 then .slice else bif Nat.beq i 52 then .agg [.int .u8,.any,.str,.int .i64,.slice]else bif Nat.beq i 54 then .agg [.int .u8,.str,.slice,.int .u8,.any,.str,.int .i64,.slice]else bif Nat.beq i 55 then .slice else bif Nat.beq i 59 then .agg [.int .i64,.int .i64]else bif Nat.beq i 60 then .slice else bif Nat.beq i 61 then .int .i64 else bif Nat.beq i 62 then .tup [.agg [.int .i64,.slice,.slice],.int .i64]else bif Nat.beq i 65 then .slice else bif Nat.beq i 66 then .slice else bif Nat.beq i 68 then .tup [.int .i64,.bool]else bif Nat.beq i 75 then .agg [.int .i64,.int .i64,.int .i64,.int .i64,.int .i64,.int .i64]else bif Nat.beq i 80 then .slice else bif Nat.beq i 83 then .fn else bif Nat.beq i 84 then .slice else bif Nat.beq i 87 then .fn else bif Nat.beq i 99 then .fn else bif Nat.beq i 101 then .agg [.bool,.str,.any]else bif Nat.beq i 103 then .agg [.str,.bool,.str,.any]else bif Nat.beq i 104 then .slice else bif Nat.beq i 105 then .slice else bif Nat.beq i 106 then .slice else bif Nat.beq i 108 then .agg [.int .u8,.int .u8,.int .u8,.int .u8,.slice,.slice]else bif Nat.beq i 114 then .fn else bif Nat.beq i 116 then .agg []else bif Nat.beq i 117 then .tup [.agg [],.bool]else bif Nat.beq i 119 then .fn else bif Nat.beq i 121 then .fn else bif Nat.beq i 125 then .fn else bif Nat.beq i 127 then .fn else bif Nat.beq i 130 then .agg [.int .u8,.str,.int .i64,.int .u8,.any,.str,.int .i64,.slice]else bif Nat.beq i 133 then .fn else bif Nat.beq i 136 then .fn else bif Nat.beq i 137 then .fn else bif Nat.beq i 138 then .fn else bif Nat.beq i 139 then .fn else bif Nat.beq i 142 then .slice else bif Nat.beq i 148 then .fn else bif Nat.beq i 151 then .int .u64 else bif Nat.beq i 156 then .slice else bif Nat.beq i 158 then .agg [.int .u8,.int .u8,.slice,.slice]else bif Nat.beq i 162 then .fn else bif Nat.beq i 164 then .fn else bif Nat.beq i 165 then .fn else bif Nat.beq i 166 then .fn else bif Nat.beq i 167 then .fn else bif Nat.beq i 169 then .fn else bif Nat.beq i 171 then .fn else bif Nat.beq i 173 then .fn else bif Nat.beq i 174 then .fn else bif Nat.beq i 175 then .fn else bif Nat.beq i 178 then .fn else bif Nat.beq i 180 then .fn else bif Nat.beq i 183 then .int .i64 else bif Nat.beq i 184 then .tup [.int .i64,.int .i64]else bif Nat.beq i 191 then .int .u32 else bif Nat.beq i 195 then .agg [.int .u8,.int .u8,.int .u8]else bif Nat.beq i 207 then .fn else bif Nat.beq i 208 then .fn else bif Nat.beq i 210 then .int .u64 else bif Nat.beq i 214 then .ptr else bif Nat.beq i 217 then .agg [.int .u8,.int .u8,.int .u64]else bif Nat.beq i 218 then .int .i8 else bif Nat.beq i 227 then .ptr else bif Nat.beq i 228 then .tup [.int .i64,.int .i64]else .any
def EB:Env where
 P:=Tryz.prog
 loops:=λ_=>⟨[],[],[],false⟩
 cuts:=λ_=>none
 joins:=λ_=>none
 dr:=λ_=>[]
 tt:=Zwv ZAH
 sh:=ZBk
 hint:=λ_=>none
 borrow:=λ_=>[]
 tokOf:=λ_=>0
 frz:=[]
 fix:=none
 yl:=none
 frzNew:=[]
 frzAt:=λ_=>[]
 thaw:=false
 stAt:=λ_=>none
theorem Zap:EB.ok:=ZqA ZvI
theorem mix:Tryz.prog.follows .mixedOrders=true:=by kernel_rfl
abbrev bE0:ByteArray:=ByteArray.mk (Array.mk [])
abbrev pG:Program:=Tryz.prog
def swI{α:Type}(z:α)(l:List (Nat×α))(i:Nat):α:=l.foldr (λp r=>bif Nat.beq i p.1 then p.2 else r) z
def nLa:LoopAnn:=⟨[],[],[],false⟩
def dO(i:Nat)(a:List Nat):DOp:=⟨i,[],[],none,a,[]⟩
end Go.Proofs.YtpjepnkiiojgfaaGreat
end
