/- Part of the proof: conditions and contracts of functions of this program. No condition of its own. -/
import Derived.Test.YtfgfahnakepegaaGreatProg
import Derived.Test.YtfgfahnakepegaaGreatMc
import Derived.KernelRfl
set_option linter.unusedVariables false
set_option linter.unusedSimpArgs false
set_option linter.unusedSectionVars false
noncomputable section
namespace Go.Proofs.YtfgfahnakepegaaGreat
open Go Go.Eng Go.Proofs
set_option maxRecDepth 100000
abbrev ZbT(s:Shape)(R:Value->Mem->List (List Value)->Prop):Prop:=∀(v:Value)(m':Mem) (css:List (List Value)),R v m' css->Shape.fits s v=true
abbrev shT:Shape:=.agg [.int .u8,.int .u64,.int .u64,.int .u64,.int .u64,.int .i64,.int .i64,.slice]
def Zz5:List (Nat×TI):=[
 (3,⟨.int .i64,1,.int .i64 0,8⟩),
 (4,⟨.bool,1,.bool .false,1⟩),
 (5,⟨.int .u8,1,.int .u8 0,1⟩),
 (9,⟨.string,1,.string .empty,16⟩),
 (22,⟨.int .u64,1,.int .u64 0,8⟩),
 (23,⟨.array 4 22,4,.agg #[.int .u64 0,.int .u64 0,.int .u64 0,.int .u64 0],32⟩),
 (24,⟨.array 4 22,4,.agg #[.int .u64 0,.int .u64 0,.int .u64 0,.int .u64 0],32⟩),
 (25,⟨.slice 27,1,.slice none 0 0,24⟩),
 (27,⟨.struct #[⟨ "Kind",5,0,.false, "", "",0⟩,⟨ "Set",24,1,.false, "", "",8⟩,⟨ "Min",3,5,.false, "", "",40⟩,⟨ "Max",3,6,.false, "", "",48⟩,⟨ "Subs",25,7,.false, "", "",56⟩],8,.agg #[.int .u8 0,.int .u64 0,.int .u64 0,.int .u64 0,.int .u64 0,.int .i64 0,.int .i64 0,.slice none 0 0],80⟩),
 (31,⟨.func #[27] #[27] .false,1,.nilFunc,8⟩),
 (34,⟨.func #[27] #[4] .false,1,.nilFunc,8⟩),
 (37,⟨.struct #[⟨ "Alt",3,0,.false, "", "",0⟩,⟨ "From",3,1,.false, "", "",8⟩,⟨ "To",3,2,.false, "", "",16⟩,⟨ "Length",3,3,.false, "", "",24⟩],4,.agg #[.int .i64 0,.int .i64 0,.int .i64 0,.int .i64 0],32⟩),
 (42,⟨.slice 5,1,.slice none 0 0,24⟩),
 (43,⟨.slice 42,1,.slice none 0 0,24⟩),
 (45,⟨.int .i64,1,.int .i64 0,8⟩),
 (48,⟨.slice 37,1,.slice none 0 0,24⟩),
 (54,⟨.struct #[⟨ "Begin",4,0,.false, "", "",0⟩,⟨ "End",4,1,.false, "", "",1⟩,⟨ "Root",27,2,.false, "", "",8⟩],10,.agg #[.bool .false,.bool .false,.int .u8 0,.int .u64 0,.int .u64 0,.int .u64 0,.int .u64 0,.int .i64 0,.int .i64 0,.slice none 0 0],88⟩),
 (62,⟨.int .u64,1,.int .u64 0,8⟩),
 (64,⟨.array 256 3,256,.agg (List.replicate 256 (.int .i64 0)).toArray,2048⟩),
 (65,⟨.slice 67,1,.slice none 0 0,24⟩),
 (67,⟨.struct #[⟨ "Kind",3,0,.false, "", "",0⟩,⟨ "Set",64,1,.false, "", "",8⟩,⟨ "Min",3,257,.false, "", "",2056⟩,⟨ "Max",3,258,.false, "", "",2064⟩,⟨ "Subs",65,259,.false, "", "",2072⟩],260,.agg #[.int .i64 0,.int .i64 0,.int .i64 0,.int .i64 0,.int .i64 0,.int .i64 0,.int .i64 0,.int .i64 0,.int .i64 0,.int .i64 0,.int .i64 0,.int .i64 0,.int .i64 0,.int .i64 0,.int .i64 0,.int .i64 0,.int .i64 0,.int .i64 0,.int .i64 0,.int .i64 0,.int .i64 0,.int .i64 0,.int .i64 0,.int .i64 0,.int .i64 0,.int .i64 0,.int .i64 0,.int .i64 0,.int .i64 0,.int .i64 0,.int .i64 0,.int .i64 0,.int .i64 0,.int .i64 0,.int .i64 0,.int .i64 0,.int .i64 0,.int .i64 0,.int .i64 0,.int .i64 0,.int .i64 0,.int .i64 0,.int .i64 0,.int .i64 0,.int .i64 0,.int .i64 0,.int .i64 0,.int .i64 0,.int .i64 0,.int .i64 0,.int .i64 0,.int .i64 0,.int .i64 0,.int .i64 0,.int .i64 0,.int .i64 0,.int .i64 0,.int .i64 0,.int .i64 0,.int .i64 0,.int .i64 0,.int .i64 0,.int .i64 0,.int .i64 0,.int .i64 0,.int .i64 0,.int .i64 0,.int .i64 0,.int .i64 0,.int .i64 0,.int .i64 0,.int .i64 0,.int .i64 0,.int .i64 0,.int .i64 0,.int .i64 0,.int .i64 0,.int .i64 0,.int .i64 0,.int .i64 0,.int .i64 0,.int .i64 0,.int .i64 0,.int .i64 0,.int .i64 0,.int .i64 0,.int .i64 0,.int .i64 0,.int .i64 0,.int .i64 0,.int .i64 0,.int .i64 0,.int .i64 0,.int .i64 0,.int .i64 0,.int .i64 0,.int .i64 0,.int .i64 0,.int .i64 0,.int .i64 0,.int .i64 0,.int .i64 0,.int .i64 0,.int .i64 0,.int .i64 0,.int .i64 0,.int .i64 0,.int .i64 0,.int .i64 0,.int .i64 0,.int .i64 0,.int .i64 0,.int .i64 0,.int .i64 0,.int .i64 0,.int .i64 0,.int .i64 0,.int .i64 0,.int .i64 0,.int .i64 0,.int .i64 0,.int .i64 0,.int .i64 0,.int .i64 0,.int .i64 0,.int .i64 0,.int .i64 0,.int .i64 0,.int .i64 0,.int .i64 0,.int .i64 0,.int .i64 0,.int .i64 0,.int .i64 0,.int .i64 0,.int .i64 0,.int .i64 0,.int .i64 0,.int .i64 0,.int .i64 0,.int .i64 0,.int .i64 0,.int .i64 0,.int .i64 0,.int .i64 0,.int .i64 0,.int .i64 0,.int .i64 0,.int .i64 0,.int .i64 0,.int .i64 0,.int .i64 0,.int .i64 0,.int .i64 0,.int .i64 0,.int .i64 0,.int .i64 0,.int .i64 0,.int .i64 0,.int .i64 0,.int .i64 0,.int .i64 0,.int .i64 0,.int .i64 0,.int .i64 0,.int .i64 0,.int .i64 0,.int .i64 0,.int .i64 0,.int .i64 0,.int .i64 0,.int .i64 0,.int .i64 0,.int .i64 0,.int .i64 0,.int .i64 0,.int .i64 0,.int .i64 0,.int .i64 0,.int .i64 0,.int .i64 0,.int .i64 0,.int .i64 0,.int .i64 0,.int .i64 0,.int .i64 0,.int .i64 0,.int .i64 0,.int .i64 0,.int .i64 0,.int .i64 0,.int .i64 0,.int .i64 0,.int .i64 0,.int .i64 0,.int .i64 0,.int .i64 0,.int .i64 0,.int .i64 0,.int .i64 0,.int .i64 0,.int .i64 0,.int .i64 0,.int .i64 0,.int .i64 0,.int .i64 0,.int .i64 0,.int .i64 0,.int .i64 0,.int .i64 0,.int .i64 0,.int .i64 0,.int .i64 0,.int .i64 0,.int .i64 0,.int .i64 0,.int .i64 0,.int .i64 0,.int .i64 0,.int .i64 0,.int .i64 0,.int .i64 0,.int .i64 0,.int .i64 0,.int .i64 0,.int .i64 0,.int .i64 0,.int .i64 0,.int .i64 0,.int .i64 0,.int .i64 0,.int .i64 0,.int .i64 0,.int .i64 0,.int .i64 0,.int .i64 0,.int .i64 0,.int .i64 0,.int .i64 0,.int .i64 0,.int .i64 0,.int .i64 0,.int .i64 0,.int .i64 0,.int .i64 0,.int .i64 0,.int .i64 0,.int .i64 0,.int .i64 0,.int .i64 0,.int .i64 0,.int .i64 0,.int .i64 0,.int .i64 0,.int .i64 0,.int .i64 0,.int .i64 0,.int .i64 0,.int .i64 0,.slice none 0 0],2096⟩),
 (71,⟨.slice 24,1,.slice none 0 0,24⟩),
 (74,⟨.slice 45,1,.slice none 0 0,24⟩),
 (76,⟨.slice 79,1,.slice none 0 0,24⟩),
 (79,⟨.struct #[⟨ "Alt",3,0,.false, "", "",0⟩,⟨ "From",3,1,.false, "", "",8⟩,⟨ "To",3,2,.false, "", "",16⟩,⟨ "Length",3,3,.false, "", "",24⟩],4,.agg #[.int .i64 0,.int .i64 0,.int .i64 0,.int .i64 0],32⟩),
 (86,⟨.slice 64,1,.slice none 0 0,24⟩),
 (89,⟨.func #[24,64] #[4] .false,1,.nilFunc,8⟩),
 (99,⟨.struct #[⟨ "n",27,0,.false, "", "repartee/reparteelaw15",0⟩,⟨ "want",27,8,.false, "", "repartee/reparteelaw15",80⟩,⟨ "cuts",3,16,.false, "", "repartee/reparteelaw15",160⟩],17,.agg #[.int .u8 0,.int .u64 0,.int .u64 0,.int .u64 0,.int .u64 0,.int .i64 0,.int .i64 0,.slice none 0 0,.int .u8 0,.int .u64 0,.int .u64 0,.int .u64 0,.int .u64 0,.int .i64 0,.int .i64 0,.slice none 0 0,.int .i64 0],168⟩),
 (100,⟨.slice 99,1,.slice none 0 0,24⟩),
 (101,⟨.func #[27,27] #[4] .false,1,.nilFunc,8⟩),
 (103,⟨.array 2 3,2,.agg #[.int .i64 0,.int .i64 0],16⟩),
 (104,⟨.slice 103,1,.slice none 0 0,24⟩),
 (108,⟨.func #[139] #[] .false,1,.nilFunc,8⟩),
 (109,⟨.func #[139] #[] .false,1,.nilFunc,8⟩),
 (115,⟨.slice 9,1,.slice none 0 0,24⟩),
 (119,⟨.func #[34] #[] .false,1,.nilFunc,8⟩),
 (120,⟨.func #[34] #[] .false,1,.nilFunc,8⟩),
 (128,⟨.func #[37,79] #[4] .false,1,.nilFunc,8⟩),
 (132,⟨.int .u32,1,.int .u32 0,4⟩),
 (137,⟨.func #[37,3] #[4] .false,1,.nilFunc,8⟩),
 (139,⟨.func #[37] #[4] .false,1,.nilFunc,8⟩),
 (144,⟨.array 9 22,9,.agg (List.replicate 9 (.int .u64 0)).toArray,72⟩),
 (146,⟨.struct #[⟨ "s",42,0,.false, "", "repartee/denote",0⟩,⟨ "back",4,1,.false, "", "repartee/denote",24⟩],2,.agg #[.slice none 0 0,.bool .false],32⟩),
 (147,⟨.func #[27,144] #[144] .false,1,.nilFunc,8⟩),
 (149,⟨.func #[3] #[4] .false,1,.nilFunc,8⟩),
 (150,⟨.slice 154,1,.slice none 0 0,24⟩),
 (154,⟨.struct #[⟨ "From",3,0,.false, "", "",0⟩,⟨ "To",3,1,.false, "", "",8⟩],2,.agg #[.int .i64 0,.int .i64 0],16⟩),
 (163,⟨.array 7 147,7,.agg #[.nilFunc,.nilFunc,.nilFunc,.nilFunc,.nilFunc,.nilFunc,.nilFunc],56⟩),
 (165,⟨.pointer 144,1,.pointer none,8⟩),
 (166,⟨.pointer 176,1,.pointer none,8⟩),
 (167,⟨.pointer 187,1,.pointer none,8⟩),
 (171,⟨.slice 3,1,.slice none 0 0,24⟩),
 (181,⟨.slice 25,1,.slice none 0 0,24⟩),
 (185,⟨.slice 167,1,.slice none 0 0,24⟩),
 (187,⟨.struct #[⟨ "Node",27,0,.true, "", "",0⟩,⟨ "id",3,8,.false, "", "repartee/span",80⟩,⟨ "group",3,9,.false, "", "repartee/span",88⟩,⟨ "subs",185,10,.false, "", "repartee/span",96⟩],11,.agg #[.int .u8 0,.int .u64 0,.int .u64 0,.int .u64 0,.int .u64 0,.int .i64 0,.int .i64 0,.slice none 0 0,.int .i64 0,.int .i64 0,.slice none 0 0],120⟩),
 (189,⟨.struct #[⟨ "id",3,0,.false, "", "repartee/span",0⟩,⟨ "done",3,1,.false, "", "repartee/span",8⟩,⟨ "at",3,2,.false, "", "repartee/span",16⟩],3,.agg #[.int .i64 0,.int .i64 0,.int .i64 0],24⟩),
 (192,⟨.func #[149] #[] .false,1,.nilFunc,8⟩),
 (193,⟨.func #[149] #[] .false,1,.nilFunc,8⟩),
 (195,⟨.func #[204] #[] .false,1,.nilFunc,8⟩),
 (196,⟨.func #[204] #[] .false,1,.nilFunc,8⟩),
 (204,⟨.func #[171] #[4] .false,1,.nilFunc,8⟩)]
theorem Zwo:Zy0 Tryz.prog Zz5:=⟨⟨by kernel_rfl,by kernel_rfl,by kernel_rfl⟩,⟨⟨by kernel_rfl,by kernel_rfl,by kernel_rfl⟩,⟨⟨by kernel_rfl,by kernel_rfl,by kernel_rfl⟩,⟨⟨by kernel_rfl,by kernel_rfl,by kernel_rfl⟩,⟨⟨by kernel_rfl,by kernel_rfl,by kernel_rfl⟩,⟨⟨by kernel_rfl,by kernel_rfl,by kernel_rfl⟩,⟨⟨by kernel_rfl,by kernel_rfl,by kernel_rfl⟩,⟨⟨by kernel_rfl,by kernel_rfl,by kernel_rfl⟩,⟨⟨by kernel_rfl,by kernel_rfl,by kernel_rfl⟩,⟨⟨by kernel_rfl,by kernel_rfl,by kernel_rfl⟩,⟨⟨by kernel_rfl,by kernel_rfl,by kernel_rfl⟩,⟨⟨by kernel_rfl,by kernel_rfl,by kernel_rfl⟩,⟨⟨by kernel_rfl,by kernel_rfl,by kernel_rfl⟩,⟨⟨by kernel_rfl,by kernel_rfl,by kernel_rfl⟩,⟨⟨by kernel_rfl,by kernel_rfl,by kernel_rfl⟩,⟨⟨by kernel_rfl,by kernel_rfl,by kernel_rfl⟩,⟨⟨by kernel_rfl,by kernel_rfl,by kernel_rfl⟩,⟨⟨by kernel_rfl,by kernel_rfl,by kernel_rfl⟩,⟨⟨by kernel_rfl,by kernel_rfl,by kernel_rfl⟩,⟨⟨by kernel_rfl,by kernel_rfl,by kernel_rfl⟩,⟨⟨by kernel_rfl,by kernel_rfl,by kernel_rfl⟩,⟨⟨by kernel_rfl,by kernel_rfl,by kernel_rfl⟩,⟨⟨by kernel_rfl,by kernel_rfl,by kernel_rfl⟩,⟨⟨by kernel_rfl,by kernel_rfl,by kernel_rfl⟩,⟨⟨by kernel_rfl,by kernel_rfl,by kernel_rfl⟩,⟨⟨by kernel_rfl,by kernel_rfl,by kernel_rfl⟩,⟨⟨by kernel_rfl,by kernel_rfl,by kernel_rfl⟩,⟨⟨by kernel_rfl,by kernel_rfl,by kernel_rfl⟩,⟨⟨by kernel_rfl,by kernel_rfl,by kernel_rfl⟩,⟨⟨by kernel_rfl,by kernel_rfl,by kernel_rfl⟩,⟨⟨by kernel_rfl,by kernel_rfl,by kernel_rfl⟩,⟨⟨by kernel_rfl,by kernel_rfl,by kernel_rfl⟩,⟨⟨by kernel_rfl,by kernel_rfl,by kernel_rfl⟩,⟨⟨by kernel_rfl,by kernel_rfl,by kernel_rfl⟩,⟨⟨by kernel_rfl,by kernel_rfl,by kernel_rfl⟩,⟨⟨by kernel_rfl,by kernel_rfl,by kernel_rfl⟩,⟨⟨by kernel_rfl,by kernel_rfl,by kernel_rfl⟩,⟨⟨by kernel_rfl,by kernel_rfl,by kernel_rfl⟩,⟨⟨by kernel_rfl,by kernel_rfl,by kernel_rfl⟩,⟨⟨by kernel_rfl,by kernel_rfl,by kernel_rfl⟩,⟨⟨by kernel_rfl,by kernel_rfl,by kernel_rfl⟩,⟨⟨by kernel_rfl,by kernel_rfl,by kernel_rfl⟩,⟨⟨by kernel_rfl,by kernel_rfl,by kernel_rfl⟩,⟨⟨by kernel_rfl,by kernel_rfl,by kernel_rfl⟩,⟨⟨by kernel_rfl,by kernel_rfl,by kernel_rfl⟩,⟨⟨by kernel_rfl,by kernel_rfl,by kernel_rfl⟩,⟨⟨by kernel_rfl,by kernel_rfl,by kernel_rfl⟩,⟨⟨by kernel_rfl,by kernel_rfl,by kernel_rfl⟩,⟨⟨by kernel_rfl,by kernel_rfl,by kernel_rfl⟩,⟨⟨by kernel_rfl,by kernel_rfl,by kernel_rfl⟩,⟨⟨by kernel_rfl,by kernel_rfl,by kernel_rfl⟩,⟨⟨by kernel_rfl,by kernel_rfl,by kernel_rfl⟩,⟨⟨by kernel_rfl,by kernel_rfl,by kernel_rfl⟩,⟨⟨by kernel_rfl,by kernel_rfl,by kernel_rfl⟩,⟨⟨by kernel_rfl,by kernel_rfl,by kernel_rfl⟩,⟨⟨by kernel_rfl,by kernel_rfl,by kernel_rfl⟩,⟨⟨by kernel_rfl,by kernel_rfl,by kernel_rfl⟩,⟨⟨by kernel_rfl,by kernel_rfl,by kernel_rfl⟩,⟨⟨by kernel_rfl,by kernel_rfl,by kernel_rfl⟩,⟨⟨by kernel_rfl,by kernel_rfl,by kernel_rfl⟩,⟨⟨by kernel_rfl,by kernel_rfl,by kernel_rfl⟩,trivial⟩⟩⟩⟩⟩⟩⟩⟩⟩⟩⟩⟩⟩⟩⟩⟩⟩⟩⟩⟩⟩⟩⟩⟩⟩⟩⟩⟩⟩⟩⟩⟩⟩⟩⟩⟩⟩⟩⟩⟩⟩⟩⟩⟩⟩⟩⟩⟩⟩⟩⟩⟩⟩⟩⟩⟩⟩⟩⟩⟩⟩
def ZAK:Nat->Shape:=λi=>bif Nat.beq i 0 then .tup []else bif Nat.beq i 3 then .int .i64 else bif Nat.beq i 4 then .bool else bif Nat.beq i 5 then .int .u8 else bif Nat.beq i 9 then .str else bif Nat.beq i 22 then .int .u64 else bif Nat.beq i 23 then .agg [.int .u64,.int .u64,.int .u64,.int .u64]else bif Nat.beq i 24 then .agg [.int .u64,.int .u64,.int .u64,.int .u64]else bif Nat.beq i 25 then .slice else bif Nat.beq i 27 then .agg [.int .u8,.int .u64,.int .u64,.int .u64,.int .u64,.int .i64,.int .i64,.slice]else bif Nat.beq i 31 then .fn else bif Nat.beq i 34 then .fn else bif Nat.beq i 37 then .agg [.int .i64,.int .i64,.int .i64,.int .i64]else bif Nat.beq i 42 then .slice else bif Nat.beq i 43 then .slice else bif Nat.beq i 45 then .int .i64 else bif Nat.beq i 46 then .tup [.agg [.int .u8,.int .u64,.int .u64,.int .u64,.int .u64,.int .i64,.int .i64,.slice],.int .i64]else bif Nat.beq i 48 then .slice else bif Nat.beq i 49 then .tup [.slice,.int .i64]else bif Nat.beq i 54 then .agg [.bool,.bool,.int .u8,.int .u64,.int .u64,.int .u64,.int .u64,.int .i64,.int .i64,.slice]else bif Nat.beq i 62 then .int .u64 else bif Nat.beq i 64 then .cells else bif Nat.beq i 65 then .slice else bif Nat.beq i 67 then .cells else bif Nat.beq i 69 then .tup [.agg [.int .i64,.int .i64,.int .i64,.int .i64],.int .i64,.bool,.int .i64]else bif Nat.beq i 71 then .slice else bif Nat.beq i 72 then .tup [.slice,.int .i64]else bif Nat.beq i 74 then .slice else bif Nat.beq i 76 then .slice else bif Nat.beq i 77 then .tup [.slice,.cells]else bif Nat.beq i 79 then .agg [.int .i64,.int .i64,.int .i64,.int .i64]else bif Nat.beq i 80 then .tup [.agg [.int .i64,.int .i64,.int .i64,.int .i64],.int .i64]else bif Nat.beq i 86 then .slice else bif Nat.beq i 89 then .fn else bif Nat.beq i 91 then .tup [.int .i64,.int .i64]else bif Nat.beq i 93 then .tup [.cells,.int .i64]else bif Nat.beq i 96 then .tup [.int .u64,.int .u64]else bif Nat.beq i 99 then .cells else bif Nat.beq i 100 then .slice else bif Nat.beq i 101 then .fn else bif Nat.beq i 103 then .agg [.int .i64,.int .i64]else bif Nat.beq i 104 then .slice else bif Nat.beq i 105 then .tup [.agg [.int .i64,.int .i64,.int .i64,.int .i64],.int .i64,.agg [.int .u8,.int .u64,.int .u64,.int .u64,.int .u64,.int .i64,.int .i64,.slice]]else bif Nat.beq i 108 then .fn else bif Nat.beq i 109 then .fn else bif Nat.beq i 113 then .tup [.bool,.int .i64]else bif Nat.beq i 115 then .slice else bif Nat.beq i 116 then .tup [.slice,.int .i64]else bif Nat.beq i 119 then .fn else bif Nat.beq i 120 then .fn else bif Nat.beq i 128 then .fn else bif Nat.beq i 132 then .int .u32 else bif Nat.beq i 133 then .tup [.int .u32,.int .u32]else bif Nat.beq i 135 then .tup [.int .u64,.int .u64]else bif Nat.beq i 137 then .fn else bif Nat.beq i 139 then .fn else bif Nat.beq i 144 then .agg [.int .u64,.int .u64,.int .u64,.int .u64,.int .u64,.int .u64,.int .u64,.int .u64,.int .u64]else bif Nat.beq i 146 then .agg [.slice,.bool]else bif Nat.beq i 147 then .fn else bif Nat.beq i 149 then .fn else bif Nat.beq i 150 then .slice else bif Nat.beq i 151 then .tup [.slice,.int .i64]else bif Nat.beq i 154 then .agg [.int .i64,.int .i64]else bif Nat.beq i 163 then .agg [.fn,.fn,.fn,.fn,.fn,.fn,.fn]else bif Nat.beq i 165 then .ptr else bif Nat.beq i 166 then .ptr else bif Nat.beq i 167 then .ptr else bif Nat.beq i 168 then .tup [.ptr,.ptr,.int .i64]else bif Nat.beq i 171 then .slice else bif Nat.beq i 176 then .agg [.slice,.int .i64,.slice,.any]else bif Nat.beq i 181 then .slice else bif Nat.beq i 185 then .slice else bif Nat.beq i 187 then .agg [.int .u8,.int .u64,.int .u64,.int .u64,.int .u64,.int .i64,.int .i64,.slice,.int .i64,.int .i64,.slice]else bif Nat.beq i 189 then .agg [.int .i64,.int .i64,.int .i64]else bif Nat.beq i 190 then .tup [.slice,.bool]else bif Nat.beq i 192 then .fn else bif Nat.beq i 193 then .fn else bif Nat.beq i 195 then .fn else bif Nat.beq i 196 then .fn else bif Nat.beq i 199 then .tup [.int .i64,.bool]else bif Nat.beq i 204 then .fn else .any
def EB:Env where
 P:=Tryz.prog
 loops:=λ_=>⟨[],[],[],false⟩
 cuts:=λ_=>none
 joins:=λ_=>none
 dr:=λ_=>[]
 tt:=Zw0 Zz5
 sh:=ZAK
 hint:=λ_=>none
 borrow:=λ_=>[]
 tokOf:=λ_=>0
 frz:=[]
 fix:=none
 yl:=none
 frzNew:=[]
 frzAt:=λ_=>[]
 thaw:=false
 stAt:=λ_=>none
theorem Zay:EB.ok:=Zsn Zwo
theorem mix:Tryz.prog.follows .mixedOrders=true:=by kernel_rfl
abbrev pG:Program:=Tryz.prog
def swI{α:Type}(z:α)(l:List (Nat×α))(i:Nat):α:=l.foldr (λp r=>bif Nat.beq i p.1 then p.2 else r) z
def nLa:LoopAnn:=⟨[],[],[],false⟩
def dO(i:Nat)(a:List Nat):DOp:=⟨i,[],[],none,a,[]⟩
end Go.Proofs.YtfgfahnakepegaaGreat
end
