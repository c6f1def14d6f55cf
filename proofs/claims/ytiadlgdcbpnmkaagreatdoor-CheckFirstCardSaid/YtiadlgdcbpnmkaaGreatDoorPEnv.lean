/- Part of the proof: conditions and contracts of functions of this program. No condition of its own. -/
import Derived.Test.YtiadlgdcbpnmkaaGreatDoorProg
import Derived.Test.YtiadlgdcbpnmkaaGreatDoorMc
import Derived.KernelRfl
set_option linter.unusedVariables false
set_option linter.unusedSimpArgs false
set_option linter.unusedSectionVars false
namespace Go.Proofs.YtiadlgdcbpnmkaaGreatDoor
open Go Go.Eng Go.Proofs
set_option maxRecDepth 100000
abbrev Zal(s:Shape)(R:Value->Mem->List (List Value)->Prop):Prop:=∀(v:Value)(m':Mem) (css:List (List Value)),R v m' css->Shape.fits s v=true
abbrev shT:Shape:=.agg [.int .u8,.int .u64,.int .u64,.int .u64,.int .u64,.int .i64,.int .i64,.slice]
noncomputable def Zxd:List (Nat×TI):=[
 (3,⟨.int .i64,1,.int .i64 0,8⟩),
 (4,⟨.bool,1,.bool .false,1⟩),
 (5,⟨.int .u8,1,.int .u8 0,1⟩),
 (9,⟨.string,1,.string .empty,16⟩),
 (21,⟨.int .i32,1,.int .i32 0,4⟩),
 (23,⟨.func #[] #[4] .false,1,.nilFunc,8⟩),
 (24,⟨.slice 78,1,.slice none 0 0,24⟩),
 (25,⟨.slice 70,1,.slice none 0 0,24⟩),
 (27,⟨.struct #[⟨ "Buffer",3,0,.false, "", "",0⟩,⟨ "Vars",24,1,.false, "", "",8⟩,⟨ "States",25,2,.false, "", "",32⟩],3,.agg #[.int .i64 0,.slice none 0 0,.slice none 0 0],56⟩),
 (29,⟨.slice 37,1,.slice none 0 0,24⟩),
 (31,⟨.slice 34,1,.slice none 0 0,24⟩),
 (34,⟨.struct #[⟨ "Var",3,0,.false, "", "",0⟩,⟨ "State",3,1,.false, "", "",8⟩,⟨ "Rule",3,2,.false, "", "",16⟩,⟨ "Action",3,3,.false, "", "",24⟩,⟨ "Part",3,4,.false, "", "",32⟩],5,.agg #[.int .i64 0,.int .i64 0,.int .i64 0,.int .i64 0,.int .i64 0],40⟩),
 (35,⟨.int .i64,1,.int .i64 0,8⟩),
 (37,⟨.struct #[⟨ "Place",34,0,.false, "", "",0⟩,⟨ "Error",35,5,.false, "", "",40⟩],6,.agg #[.int .i64 0,.int .i64 0,.int .i64 0,.int .i64 0,.int .i64 0,.int .i64 0],48⟩),
 (46,⟨.func #[3,3,3,3] #[34] .false,1,.nilFunc,8⟩),
 (47,⟨.float .f64,1,.float .f64 0,8⟩),
 (48,⟨.slice 50,1,.slice none 0 0,24⟩),
 (50,⟨.struct #[⟨ "Kind",5,0,.false, "", "",0⟩,⟨ "Number",47,1,.false, "", "",8⟩,⟨ "Name",9,2,.false, "", "",16⟩,⟨ "Capture",3,3,.false, "", "",32⟩,⟨ "Subs",48,4,.false, "", "",40⟩],5,.agg #[.int .u8 0,.float .f64 0,.string .empty,.int .i64 0,.slice none 0 0],64⟩),
 (51,⟨.slice 56,1,.slice none 0 0,24⟩),
 (53,⟨.struct #[⟨ "Kind",5,0,.false, "", "",0⟩,⟨ "Name",9,1,.false, "", "",8⟩,⟨ "Parts",51,2,.false, "", "",24⟩,⟨ "Expr",50,3,.false, "", "",48⟩],8,.agg #[.int .u8 0,.string .empty,.slice none 0 0,.int .u8 0,.float .f64 0,.string .empty,.int .i64 0,.slice none 0 0],112⟩),
 (54,⟨.slice 53,1,.slice none 0 0,24⟩),
 (56,⟨.struct #[⟨ "Kind",5,0,.false, "", "",0⟩,⟨ "Text",9,1,.false, "", "",8⟩,⟨ "Group",3,2,.false, "", "",24⟩,⟨ "Expr",50,3,.false, "", "",32⟩],8,.agg #[.int .u8 0,.string .empty,.int .i64 0,.int .u8 0,.float .f64 0,.string .empty,.int .i64 0,.slice none 0 0],96⟩),
 (58,⟨.int .u64,1,.int .u64 0,8⟩),
 (60,⟨.array 4 58,4,.agg #[.int .u64 0,.int .u64 0,.int .u64 0,.int .u64 0],32⟩),
 (61,⟨.slice 63,1,.slice none 0 0,24⟩),
 (63,⟨.struct #[⟨ "Kind",5,0,.false, "", "",0⟩,⟨ "Set",60,1,.false, "", "",8⟩,⟨ "Min",3,5,.false, "", "",40⟩,⟨ "Max",3,6,.false, "", "",48⟩,⟨ "Subs",61,7,.false, "", "",56⟩],8,.agg #[.int .u8 0,.int .u64 0,.int .u64 0,.int .u64 0,.int .u64 0,.int .i64 0,.int .i64 0,.slice none 0 0],80⟩),
 (65,⟨.struct #[⟨ "Begin",4,0,.false, "", "",0⟩,⟨ "End",4,1,.false, "", "",1⟩,⟨ "Root",63,2,.false, "", "",8⟩],10,.agg #[.bool .false,.bool .false,.int .u8 0,.int .u64 0,.int .u64 0,.int .u64 0,.int .u64 0,.int .i64 0,.int .i64 0,.slice none 0 0],88⟩),
 (67,⟨.struct #[⟨ "Kind",5,0,.false, "", "",0⟩,⟨ "Regex",65,1,.false, "", "",8⟩,⟨ "Text",9,11,.false, "", "",96⟩,⟨ "Ticks",3,12,.false, "", "",112⟩,⟨ "Actions",54,13,.false, "", "",120⟩,⟨ "Goto",9,14,.false, "", "",144⟩,⟨ "Code",3,15,.false, "", "",160⟩],16,.agg #[.int .u8 0,.bool .false,.bool .false,.int .u8 0,.int .u64 0,.int .u64 0,.int .u64 0,.int .u64 0,.int .i64 0,.int .i64 0,.slice none 0 0,.string .empty,.int .i64 0,.slice none 0 0,.string .empty,.int .i64 0],168⟩),
 (68,⟨.slice 67,1,.slice none 0 0,24⟩),
 (70,⟨.struct #[⟨ "Name",9,0,.false, "", "",0⟩,⟨ "Rules",68,1,.false, "", "",16⟩],2,.agg #[.string .empty,.slice none 0 0],40⟩),
 (73,⟨.struct #[⟨ "s",27,0,.false, "", "repartee/reparteelaw30",0⟩,⟨ "p",34,3,.false, "", "repartee/reparteelaw30",56⟩,⟨ "e",35,8,.false, "", "repartee/reparteelaw30",96⟩],9,.agg #[.int .i64 0,.slice none 0 0,.slice none 0 0,.int .i64 0,.int .i64 0,.int .i64 0,.int .i64 0,.int .i64 0,.int .i64 0],104⟩),
 (74,⟨.slice 73,1,.slice none 0 0,24⟩),
 (76,⟨.struct #[⟨ "Number",4,0,.false, "", "",0⟩,⟨ "Text",9,1,.false, "", "",8⟩,⟨ "Float",47,2,.false, "", "",24⟩],3,.agg #[.bool .false,.string .empty,.float .f64 0],32⟩),
 (78,⟨.struct #[⟨ "Name",9,0,.false, "", "",0⟩,⟨ "Value",76,1,.false, "", "",16⟩],4,.agg #[.string .empty,.bool .false,.string .empty,.float .f64 0],48⟩),
 (81,⟨.func #[99] #[] .false,1,.nilFunc,8⟩),
 (82,⟨.func #[99] #[] .false,1,.nilFunc,8⟩),
 (86,⟨.slice 3,1,.slice none 0 0,24⟩),
 (89,⟨.slice 86,1,.slice none 0 0,24⟩),
 (91,⟨.slice 9,1,.slice none 0 0,24⟩),
 (96,⟨.func #[63] #[4] .false,1,.nilFunc,8⟩),
 (99,⟨.func #[37] #[4] .false,1,.nilFunc,8⟩),
 (106,⟨.func #[96] #[] .false,1,.nilFunc,8⟩),
 (107,⟨.func #[96] #[] .false,1,.nilFunc,8⟩),
 (109,⟨.func #[50] #[4] .false,1,.nilFunc,8⟩),
 (111,⟨.func #[9] #[4] .false,1,.nilFunc,8⟩),
 (114,⟨.func #[78] #[4] .false,1,.nilFunc,8⟩),
 (116,⟨.struct #[⟨ "e",35,0,.false, "", "repartee/check",0⟩,⟨ "wrong",23,1,.false, "", "repartee/check",8⟩],2,.agg #[.int .i64 0,.nilFunc],16⟩),
 (119,⟨.func #[70] #[4] .false,1,.nilFunc,8⟩),
 (128,⟨.func #[56] #[4] .false,1,.nilFunc,8⟩),
 (129,⟨.func #[109] #[] .false,1,.nilFunc,8⟩),
 (130,⟨.func #[109] #[] .false,1,.nilFunc,8⟩),
 (132,⟨.slice 116,1,.slice none 0 0,24⟩),
 (139,⟨.func #[63,63] #[4] .false,1,.nilFunc,8⟩),
 (140,⟨.func #[50,50] #[4] .false,1,.nilFunc,8⟩),
 (146,⟨.array 256 4,256,.agg (List.replicate 256 (.bool .false)).toArray,256⟩),
 (150,⟨.pointer 146,1,.pointer none,8⟩),
 (167,⟨.array 256 5,256,.agg (List.replicate 256 (.int .u8 0)).toArray,256⟩),
 (170,⟨.struct #[⟨ "lo",5,0,.false, "", "unicode/utf8",0⟩,⟨ "hi",5,1,.false, "", "unicode/utf8",1⟩],2,.agg #[.int .u8 0,.int .u8 0],2⟩),
 (171,⟨.array 16 170,32,.agg (List.replicate 32 (.int .u8 0)).toArray,32⟩)]
theorem Zt3:Zwq Tryz.prog Zxd:=⟨⟨by kernel_rfl,by kernel_rfl,by kernel_rfl⟩,⟨⟨by kernel_rfl,by kernel_rfl,by kernel_rfl⟩,⟨⟨by kernel_rfl,by kernel_rfl,by kernel_rfl⟩,⟨⟨by kernel_rfl,by kernel_rfl,by kernel_rfl⟩,⟨⟨by kernel_rfl,by kernel_rfl,by kernel_rfl⟩,⟨⟨by kernel_rfl,by kernel_rfl,by kernel_rfl⟩,⟨⟨by kernel_rfl,by kernel_rfl,by kernel_rfl⟩,⟨⟨by kernel_rfl,by kernel_rfl,by kernel_rfl⟩,⟨⟨by kernel_rfl,by kernel_rfl,by kernel_rfl⟩,⟨⟨by kernel_rfl,by kernel_rfl,by kernel_rfl⟩,⟨⟨by kernel_rfl,by kernel_rfl,by kernel_rfl⟩,⟨⟨by kernel_rfl,by kernel_rfl,by kernel_rfl⟩,⟨⟨by kernel_rfl,by kernel_rfl,by kernel_rfl⟩,⟨⟨by kernel_rfl,by kernel_rfl,by kernel_rfl⟩,⟨⟨by kernel_rfl,by kernel_rfl,by kernel_rfl⟩,⟨⟨by kernel_rfl,by kernel_rfl,by kernel_rfl⟩,⟨⟨by kernel_rfl,by kernel_rfl,by kernel_rfl⟩,⟨⟨by kernel_rfl,by kernel_rfl,by kernel_rfl⟩,⟨⟨by kernel_rfl,by kernel_rfl,by kernel_rfl⟩,⟨⟨by kernel_rfl,by kernel_rfl,by kernel_rfl⟩,⟨⟨by kernel_rfl,by kernel_rfl,by kernel_rfl⟩,⟨⟨by kernel_rfl,by kernel_rfl,by kernel_rfl⟩,⟨⟨by kernel_rfl,by kernel_rfl,by kernel_rfl⟩,⟨⟨by kernel_rfl,by kernel_rfl,by kernel_rfl⟩,⟨⟨by kernel_rfl,by kernel_rfl,by kernel_rfl⟩,⟨⟨by kernel_rfl,by kernel_rfl,by kernel_rfl⟩,⟨⟨by kernel_rfl,by kernel_rfl,by kernel_rfl⟩,⟨⟨by kernel_rfl,by kernel_rfl,by kernel_rfl⟩,⟨⟨by kernel_rfl,by kernel_rfl,by kernel_rfl⟩,⟨⟨by kernel_rfl,by kernel_rfl,by kernel_rfl⟩,⟨⟨by kernel_rfl,by kernel_rfl,by kernel_rfl⟩,⟨⟨by kernel_rfl,by kernel_rfl,by kernel_rfl⟩,⟨⟨by kernel_rfl,by kernel_rfl,by kernel_rfl⟩,⟨⟨by kernel_rfl,by kernel_rfl,by kernel_rfl⟩,⟨⟨by kernel_rfl,by kernel_rfl,by kernel_rfl⟩,⟨⟨by kernel_rfl,by kernel_rfl,by kernel_rfl⟩,⟨⟨by kernel_rfl,by kernel_rfl,by kernel_rfl⟩,⟨⟨by kernel_rfl,by kernel_rfl,by kernel_rfl⟩,⟨⟨by kernel_rfl,by kernel_rfl,by kernel_rfl⟩,⟨⟨by kernel_rfl,by kernel_rfl,by kernel_rfl⟩,⟨⟨by kernel_rfl,by kernel_rfl,by kernel_rfl⟩,⟨⟨by kernel_rfl,by kernel_rfl,by kernel_rfl⟩,⟨⟨by kernel_rfl,by kernel_rfl,by kernel_rfl⟩,⟨⟨by kernel_rfl,by kernel_rfl,by kernel_rfl⟩,⟨⟨by kernel_rfl,by kernel_rfl,by kernel_rfl⟩,⟨⟨by kernel_rfl,by kernel_rfl,by kernel_rfl⟩,⟨⟨by kernel_rfl,by kernel_rfl,by kernel_rfl⟩,⟨⟨by kernel_rfl,by kernel_rfl,by kernel_rfl⟩,⟨⟨by kernel_rfl,by kernel_rfl,by kernel_rfl⟩,⟨⟨by kernel_rfl,by kernel_rfl,by kernel_rfl⟩,⟨⟨by kernel_rfl,by kernel_rfl,by kernel_rfl⟩,⟨⟨by kernel_rfl,by kernel_rfl,by kernel_rfl⟩,⟨⟨by kernel_rfl,by kernel_rfl,by kernel_rfl⟩,⟨⟨by kernel_rfl,by kernel_rfl,by kernel_rfl⟩,⟨⟨by kernel_rfl,by kernel_rfl,by kernel_rfl⟩,⟨⟨by kernel_rfl,by kernel_rfl,by kernel_rfl⟩,⟨⟨by kernel_rfl,by kernel_rfl,by kernel_rfl⟩,⟨⟨by kernel_rfl,by kernel_rfl,by kernel_rfl⟩,⟨⟨by kernel_rfl,by kernel_rfl,by kernel_rfl⟩,trivial⟩⟩⟩⟩⟩⟩⟩⟩⟩⟩⟩⟩⟩⟩⟩⟩⟩⟩⟩⟩⟩⟩⟩⟩⟩⟩⟩⟩⟩⟩⟩⟩⟩⟩⟩⟩⟩⟩⟩⟩⟩⟩⟩⟩⟩⟩⟩⟩⟩⟩⟩⟩⟩⟩⟩⟩⟩⟩⟩
noncomputable def ZxK:Nat->Shape:=λi=>bif Nat.beq i 0 then .tup []else bif Nat.beq i 3 then .int .i64 else bif Nat.beq i 4 then .bool else bif Nat.beq i 5 then .int .u8 else bif Nat.beq i 9 then .str else bif Nat.beq i 21 then .int .i32 else bif Nat.beq i 23 then .fn else bif Nat.beq i 24 then .slice else bif Nat.beq i 25 then .slice else bif Nat.beq i 27 then .agg [.int .i64,.slice,.slice]else bif Nat.beq i 29 then .slice else bif Nat.beq i 31 then .slice else bif Nat.beq i 34 then .agg [.int .i64,.int .i64,.int .i64,.int .i64,.int .i64]else bif Nat.beq i 35 then .int .i64 else bif Nat.beq i 37 then .agg [.int .i64,.int .i64,.int .i64,.int .i64,.int .i64,.int .i64]else bif Nat.beq i 40 then .tup [.int .i64,.bool]else bif Nat.beq i 42 then .tup [.agg [.int .i64,.int .i64,.int .i64,.int .i64,.int .i64],.int .i64]else bif Nat.beq i 46 then .fn else bif Nat.beq i 48 then .slice else bif Nat.beq i 50 then .agg [.int .u8,.any,.str,.int .i64,.slice]else bif Nat.beq i 51 then .slice else bif Nat.beq i 53 then .agg [.int .u8,.str,.slice,.int .u8,.any,.str,.int .i64,.slice]else bif Nat.beq i 54 then .slice else bif Nat.beq i 56 then .agg [.int .u8,.str,.int .i64,.int .u8,.any,.str,.int .i64,.slice]else bif Nat.beq i 58 then .int .u64 else bif Nat.beq i 60 then .agg [.int .u64,.int .u64,.int .u64,.int .u64]else bif Nat.beq i 61 then .slice else bif Nat.beq i 63 then .agg [.int .u8,.int .u64,.int .u64,.int .u64,.int .u64,.int .i64,.int .i64,.slice]else bif Nat.beq i 65 then .agg [.bool,.bool,.int .u8,.int .u64,.int .u64,.int .u64,.int .u64,.int .i64,.int .i64,.slice]else bif Nat.beq i 67 then .agg [.int .u8,.bool,.bool,.int .u8,.int .u64,.int .u64,.int .u64,.int .u64,.int .i64,.int .i64,.slice,.str,.int .i64,.slice,.str,.int .i64]else bif Nat.beq i 68 then .slice else bif Nat.beq i 70 then .agg [.str,.slice]else bif Nat.beq i 73 then .agg [.int .i64,.slice,.slice,.int .i64,.int .i64,.int .i64,.int .i64,.int .i64,.int .i64]else bif Nat.beq i 74 then .slice else bif Nat.beq i 76 then .agg [.bool,.str,.any]else bif Nat.beq i 78 then .agg [.str,.bool,.str,.any]else bif Nat.beq i 81 then .fn else bif Nat.beq i 82 then .fn else bif Nat.beq i 86 then .slice else bif Nat.beq i 89 then .slice else bif Nat.beq i 91 then .slice else bif Nat.beq i 96 then .fn else bif Nat.beq i 99 then .fn else bif Nat.beq i 106 then .fn else bif Nat.beq i 107 then .fn else bif Nat.beq i 109 then .fn else bif Nat.beq i 111 then .fn else bif Nat.beq i 114 then .fn else bif Nat.beq i 116 then .agg [.int .i64,.fn]else bif Nat.beq i 119 then .fn else bif Nat.beq i 122 then .tup [.int .i64,.bool]else bif Nat.beq i 124 then .tup [.bool,.bool]else bif Nat.beq i 128 then .fn else bif Nat.beq i 129 then .fn else bif Nat.beq i 130 then .fn else bif Nat.beq i 132 then .slice else bif Nat.beq i 139 then .fn else bif Nat.beq i 140 then .fn else bif Nat.beq i 146 then .cells else bif Nat.beq i 147 then .tup [.cells,.bool]else bif Nat.beq i 150 then .ptr else bif Nat.beq i 156 then .tup [.int .i32,.int .i64]else bif Nat.beq i 167 then .cells else bif Nat.beq i 170 then .agg [.int .u8,.int .u8]else bif Nat.beq i 171 then .cells else .any
noncomputable def EB:Env where
 P:=Tryz.prog
 loops:=λ_=>⟨[],[],[],false⟩
 cuts:=λ_=>none
 joins:=λ_=>none
 dr:=λ_=>[]
 tt:=ZuN Zxd
 sh:=ZxK
 hint:=λ_=>none
 borrow:=λ_=>[]
 tokOf:=λ_=>0
 frz:=[]
 fix:=none
 yl:=none
 frzNew:=[]
 frzAt:=λ_=>[]
 thaw:=false
 stAt:=λ_=>none
theorem Zaj:EB.ok:=Zq2 Zt3
theorem mix:Tryz.prog.follows .mixedOrders=true:=by kernel_rfl
end Go.Proofs.YtiadlgdcbpnmkaaGreatDoor