/- Part of the proof: conditions and contracts of functions of this program. No condition of its own. -/
import Derived.Test.YtgclajkldphoaaaProg
import Derived.Test.YtgclajkldphoaaaMc
import Derived.KernelRfl
set_option linter.unusedVariables false
set_option linter.unusedSimpArgs false
set_option linter.unusedSectionVars false
namespace Go.Proofs.Ytgclajkldphoaaa
open Go Go.Eng Go.Proofs
set_option maxRecDepth 100000
abbrev Zar(s:Shape)(R:Value->Mem->List (List Value)->Prop):Prop:=∀(v:Value)(m':Mem) (css:List (List Value)),R v m' css->Shape.fits s v=true
abbrev shT:Shape:=.agg [.int .u8,.int .u64,.int .u64,.int .u64,.int .u64,.int .i64,.int .i64,.slice]
noncomputable def ZzP:List (Nat×TI):=[
 (3,⟨.int .i64,1,.int .i64 0,8⟩),
 (4,⟨.bool,1,.bool .false,1⟩),
 (5,⟨.int .u8,1,.int .u8 0,1⟩),
 (9,⟨.string,1,.string .empty,16⟩),
 (22,⟨.slice 78,1,.slice none 0 0,24⟩),
 (24,⟨.int .u64,1,.int .u64 0,8⟩),
 (25,⟨.array 4 24,4,.agg #[.int .u64 0,.int .u64 0,.int .u64 0,.int .u64 0],32⟩),
 (26,⟨.array 4 24,4,.agg #[.int .u64 0,.int .u64 0,.int .u64 0,.int .u64 0],32⟩),
 (27,⟨.slice 29,1,.slice none 0 0,24⟩),
 (29,⟨.struct #[⟨ "Kind",5,0,.false, "", "",0⟩,⟨ "Set",26,1,.false, "", "",8⟩,⟨ "Min",3,5,.false, "", "",40⟩,⟨ "Max",3,6,.false, "", "",48⟩,⟨ "Subs",27,7,.false, "", "",56⟩],8,.agg #[.int .u8 0,.int .u64 0,.int .u64 0,.int .u64 0,.int .u64 0,.int .i64 0,.int .i64 0,.slice none 0 0],80⟩),
 (35,⟨.slice 5,1,.slice none 0 0,24⟩),
 (36,⟨.int .i64,1,.int .i64 0,8⟩),
 (37,⟨.struct #[⟨ "n",29,0,.false, "", "repartee/reparteelaw14",0⟩,⟨ "want",36,8,.false, "", "repartee/reparteelaw14",80⟩],9,.agg #[.int .u8 0,.int .u64 0,.int .u64 0,.int .u64 0,.int .u64 0,.int .i64 0,.int .i64 0,.slice none 0 0,.int .i64 0],88⟩),
 (38,⟨.slice 37,1,.slice none 0 0,24⟩),
 (39,⟨.slice 3,1,.slice none 0 0,24⟩),
 (42,⟨.slice 56,1,.slice none 0 0,24⟩),
 (45,⟨.slice 9,1,.slice none 0 0,24⟩),
 (52,⟨.struct #[⟨ "Begin",4,0,.false, "", "",0⟩,⟨ "End",4,1,.false, "", "",1⟩,⟨ "Root",29,2,.false, "", "",8⟩],10,.agg #[.bool .false,.bool .false,.int .u8 0,.int .u64 0,.int .u64 0,.int .u64 0,.int .u64 0,.int .i64 0,.int .i64 0,.slice none 0 0],88⟩),
 (56,⟨.struct #[⟨ "From",3,0,.false, "", "",0⟩,⟨ "To",3,1,.false, "", "",8⟩],2,.agg #[.int .i64 0,.int .i64 0],16⟩),
 (62,⟨.array 2 3,2,.agg #[.int .i64 0,.int .i64 0],16⟩),
 (63,⟨.slice 62,1,.slice none 0 0,24⟩),
 (70,⟨.func #[29] #[42] .false,1,.nilFunc,8⟩),
 (73,⟨.struct #[⟨ "n",29,0,.false, "", "repartee/reparteelaw14",0⟩,⟨ "s",9,8,.false, "", "repartee/reparteelaw14",80⟩,⟨ "want",42,9,.false, "", "repartee/reparteelaw14",96⟩],10,.agg #[.int .u8 0,.int .u64 0,.int .u64 0,.int .u64 0,.int .u64 0,.int .i64 0,.int .i64 0,.slice none 0 0,.string .empty,.slice none 0 0],120⟩),
 (74,⟨.slice 73,1,.slice none 0 0,24⟩),
 (78,⟨.struct #[⟨ "Kind",5,0,.false, "", "",0⟩,⟨ "N",5,1,.false, "", "",1⟩,⟨ "M",5,2,.false, "", "",2⟩],3,.agg #[.int .u8 0,.int .u8 0,.int .u8 0],3⟩),
 (82,⟨.pointer 92,1,.pointer none,8⟩),
 (83,⟨.pointer 130,1,.pointer none,8⟩),
 (90,⟨.map 132 39,1,.map none,8⟩),
 (92,⟨.struct #[⟨ "s",35,0,.false, "", "repartee/span",0⟩,⟨ "nodes",3,1,.false, "", "repartee/span",24⟩,⟨ "parts",42,2,.false, "", "repartee/span",32⟩,⟨ "memo",90,3,.false, "", "repartee/span",56⟩],4,.agg #[.slice none 0 0,.int .i64 0,.slice none 0 0,.map none],64⟩),
 (93,⟨.func #[29] #[4] .false,1,.nilFunc,8⟩),
 (94,⟨.func #[93] #[] .false,1,.nilFunc,8⟩),
 (95,⟨.func #[93] #[] .false,1,.nilFunc,8⟩),
 (98,⟨.array 256 3,256,.agg (List.replicate 256 (.int .i64 0)).toArray,2048⟩),
 (99,⟨.slice 101,1,.slice none 0 0,24⟩),
 (101,⟨.struct #[⟨ "Kind",3,0,.false, "", "",0⟩,⟨ "Set",98,1,.false, "", "",8⟩,⟨ "Min",3,257,.false, "", "",2056⟩,⟨ "Max",3,258,.false, "", "",2064⟩,⟨ "Subs",99,259,.false, "", "",2072⟩],260,.agg #[.int .i64 0,.int .i64 0,.int .i64 0,.int .i64 0,.int .i64 0,.int .i64 0,.int .i64 0,.int .i64 0,.int .i64 0,.int .i64 0,.int .i64 0,.int .i64 0,.int .i64 0,.int .i64 0,.int .i64 0,.int .i64 0,.int .i64 0,.int .i64 0,.int .i64 0,.int .i64 0,.int .i64 0,.int .i64 0,.int .i64 0,.int .i64 0,.int .i64 0,.int .i64 0,.int .i64 0,.int .i64 0,.int .i64 0,.int .i64 0,.int .i64 0,.int .i64 0,.int .i64 0,.int .i64 0,.int .i64 0,.int .i64 0,.int .i64 0,.int .i64 0,.int .i64 0,.int .i64 0,.int .i64 0,.int .i64 0,.int .i64 0,.int .i64 0,.int .i64 0,.int .i64 0,.int .i64 0,.int .i64 0,.int .i64 0,.int .i64 0,.int .i64 0,.int .i64 0,.int .i64 0,.int .i64 0,.int .i64 0,.int .i64 0,.int .i64 0,.int .i64 0,.int .i64 0,.int .i64 0,.int .i64 0,.int .i64 0,.int .i64 0,.int .i64 0,.int .i64 0,.int .i64 0,.int .i64 0,.int .i64 0,.int .i64 0,.int .i64 0,.int .i64 0,.int .i64 0,.int .i64 0,.int .i64 0,.int .i64 0,.int .i64 0,.int .i64 0,.int .i64 0,.int .i64 0,.int .i64 0,.int .i64 0,.int .i64 0,.int .i64 0,.int .i64 0,.int .i64 0,.int .i64 0,.int .i64 0,.int .i64 0,.int .i64 0,.int .i64 0,.int .i64 0,.int .i64 0,.int .i64 0,.int .i64 0,.int .i64 0,.int .i64 0,.int .i64 0,.int .i64 0,.int .i64 0,.int .i64 0,.int .i64 0,.int .i64 0,.int .i64 0,.int .i64 0,.int .i64 0,.int .i64 0,.int .i64 0,.int .i64 0,.int .i64 0,.int .i64 0,.int .i64 0,.int .i64 0,.int .i64 0,.int .i64 0,.int .i64 0,.int .i64 0,.int .i64 0,.int .i64 0,.int .i64 0,.int .i64 0,.int .i64 0,.int .i64 0,.int .i64 0,.int .i64 0,.int .i64 0,.int .i64 0,.int .i64 0,.int .i64 0,.int .i64 0,.int .i64 0,.int .i64 0,.int .i64 0,.int .i64 0,.int .i64 0,.int .i64 0,.int .i64 0,.int .i64 0,.int .i64 0,.int .i64 0,.int .i64 0,.int .i64 0,.int .i64 0,.int .i64 0,.int .i64 0,.int .i64 0,.int .i64 0,.int .i64 0,.int .i64 0,.int .i64 0,.int .i64 0,.int .i64 0,.int .i64 0,.int .i64 0,.int .i64 0,.int .i64 0,.int .i64 0,.int .i64 0,.int .i64 0,.int .i64 0,.int .i64 0,.int .i64 0,.int .i64 0,.int .i64 0,.int .i64 0,.int .i64 0,.int .i64 0,.int .i64 0,.int .i64 0,.int .i64 0,.int .i64 0,.int .i64 0,.int .i64 0,.int .i64 0,.int .i64 0,.int .i64 0,.int .i64 0,.int .i64 0,.int .i64 0,.int .i64 0,.int .i64 0,.int .i64 0,.int .i64 0,.int .i64 0,.int .i64 0,.int .i64 0,.int .i64 0,.int .i64 0,.int .i64 0,.int .i64 0,.int .i64 0,.int .i64 0,.int .i64 0,.int .i64 0,.int .i64 0,.int .i64 0,.int .i64 0,.int .i64 0,.int .i64 0,.int .i64 0,.int .i64 0,.int .i64 0,.int .i64 0,.int .i64 0,.int .i64 0,.int .i64 0,.int .i64 0,.int .i64 0,.int .i64 0,.int .i64 0,.int .i64 0,.int .i64 0,.int .i64 0,.int .i64 0,.int .i64 0,.int .i64 0,.int .i64 0,.int .i64 0,.int .i64 0,.int .i64 0,.int .i64 0,.int .i64 0,.int .i64 0,.int .i64 0,.int .i64 0,.int .i64 0,.int .i64 0,.int .i64 0,.int .i64 0,.int .i64 0,.int .i64 0,.int .i64 0,.int .i64 0,.int .i64 0,.int .i64 0,.int .i64 0,.int .i64 0,.int .i64 0,.int .i64 0,.int .i64 0,.int .i64 0,.int .i64 0,.int .i64 0,.int .i64 0,.int .i64 0,.int .i64 0,.int .i64 0,.int .i64 0,.int .i64 0,.int .i64 0,.int .i64 0,.int .i64 0,.int .i64 0,.int .i64 0,.int .i64 0,.int .i64 0,.int .i64 0,.int .i64 0,.int .i64 0,.int .i64 0,.slice none 0 0],2096⟩),
 (107,⟨.struct #[⟨ "End",3,0,.false, "", "",0⟩,⟨ "Rounds",3,1,.false, "", "",8⟩,⟨ "Parts",39,2,.false, "", "",16⟩],3,.agg #[.int .i64 0,.int .i64 0,.slice none 0 0],40⟩),
 (112,⟨.int .u64,1,.int .u64 0,8⟩),
 (119,⟨.array 9 24,9,.agg (List.replicate 9 (.int .u64 0)).toArray,72⟩),
 (121,⟨.struct #[⟨ "s",35,0,.false, "", "repartee/denote",0⟩,⟨ "back",4,1,.false, "", "repartee/denote",24⟩],2,.agg #[.slice none 0 0,.bool .false],32⟩),
 (122,⟨.func #[29,119] #[119] .false,1,.nilFunc,8⟩),
 (124,⟨.func #[3] #[4] .false,1,.nilFunc,8⟩),
 (128,⟨.slice 83,1,.slice none 0 0,24⟩),
 (130,⟨.struct #[⟨ "Node",29,0,.true, "", "",0⟩,⟨ "id",3,8,.false, "", "repartee/span",80⟩,⟨ "group",3,9,.false, "", "repartee/span",88⟩,⟨ "subs",128,10,.false, "", "repartee/span",96⟩],11,.agg #[.int .u8 0,.int .u64 0,.int .u64 0,.int .u64 0,.int .u64 0,.int .i64 0,.int .i64 0,.slice none 0 0,.int .i64 0,.int .i64 0,.slice none 0 0],120⟩),
 (132,⟨.struct #[⟨ "id",3,0,.false, "", "repartee/span",0⟩,⟨ "done",3,1,.false, "", "repartee/span",8⟩,⟨ "at",3,2,.false, "", "repartee/span",16⟩],3,.agg #[.int .i64 0,.int .i64 0,.int .i64 0],24⟩),
 (135,⟨.func #[124] #[] .false,1,.nilFunc,8⟩),
 (136,⟨.func #[124] #[] .false,1,.nilFunc,8⟩),
 (138,⟨.func #[160] #[] .false,1,.nilFunc,8⟩),
 (139,⟨.func #[160] #[] .false,1,.nilFunc,8⟩),
 (147,⟨.slice 107,1,.slice none 0 0,24⟩),
 (150,⟨.int .u32,1,.int .u32 0,4⟩),
 (155,⟨.func #[29,29] #[4] .false,1,.nilFunc,8⟩),
 (156,⟨.array 7 122,7,.agg #[.nilFunc,.nilFunc,.nilFunc,.nilFunc,.nilFunc,.nilFunc,.nilFunc],56⟩),
 (158,⟨.pointer 119,1,.pointer none,8⟩),
 (160,⟨.func #[39] #[4] .false,1,.nilFunc,8⟩),
 (164,⟨.slice 147,1,.slice none 0 0,24⟩),
 (175,⟨.slice 164,1,.slice none 0 0,24⟩)]
theorem ZvW:ZyN Try.prog ZzP:=⟨⟨by kernel_rfl,by kernel_rfl,by kernel_rfl⟩,⟨⟨by kernel_rfl,by kernel_rfl,by kernel_rfl⟩,⟨⟨by kernel_rfl,by kernel_rfl,by kernel_rfl⟩,⟨⟨by kernel_rfl,by kernel_rfl,by kernel_rfl⟩,⟨⟨by kernel_rfl,by kernel_rfl,by kernel_rfl⟩,⟨⟨by kernel_rfl,by kernel_rfl,by kernel_rfl⟩,⟨⟨by kernel_rfl,by kernel_rfl,by kernel_rfl⟩,⟨⟨by kernel_rfl,by kernel_rfl,by kernel_rfl⟩,⟨⟨by kernel_rfl,by kernel_rfl,by kernel_rfl⟩,⟨⟨by kernel_rfl,by kernel_rfl,by kernel_rfl⟩,⟨⟨by kernel_rfl,by kernel_rfl,by kernel_rfl⟩,⟨⟨by kernel_rfl,by kernel_rfl,by kernel_rfl⟩,⟨⟨by kernel_rfl,by kernel_rfl,by kernel_rfl⟩,⟨⟨by kernel_rfl,by kernel_rfl,by kernel_rfl⟩,⟨⟨by kernel_rfl,by kernel_rfl,by kernel_rfl⟩,⟨⟨by kernel_rfl,by kernel_rfl,by kernel_rfl⟩,⟨⟨by kernel_rfl,by kernel_rfl,by kernel_rfl⟩,⟨⟨by kernel_rfl,by kernel_rfl,by kernel_rfl⟩,⟨⟨by kernel_rfl,by kernel_rfl,by kernel_rfl⟩,⟨⟨by kernel_rfl,by kernel_rfl,by kernel_rfl⟩,⟨⟨by kernel_rfl,by kernel_rfl,by kernel_rfl⟩,⟨⟨by kernel_rfl,by kernel_rfl,by kernel_rfl⟩,⟨⟨by kernel_rfl,by kernel_rfl,by kernel_rfl⟩,⟨⟨by kernel_rfl,by kernel_rfl,by kernel_rfl⟩,⟨⟨by kernel_rfl,by kernel_rfl,by kernel_rfl⟩,⟨⟨by kernel_rfl,by kernel_rfl,by kernel_rfl⟩,⟨⟨by kernel_rfl,by kernel_rfl,by kernel_rfl⟩,⟨⟨by kernel_rfl,by kernel_rfl,by kernel_rfl⟩,⟨⟨by kernel_rfl,by kernel_rfl,by kernel_rfl⟩,⟨⟨by kernel_rfl,by kernel_rfl,by kernel_rfl⟩,⟨⟨by kernel_rfl,by kernel_rfl,by kernel_rfl⟩,⟨⟨by kernel_rfl,by kernel_rfl,by kernel_rfl⟩,⟨⟨by kernel_rfl,by kernel_rfl,by kernel_rfl⟩,⟨⟨by kernel_rfl,by kernel_rfl,by kernel_rfl⟩,⟨⟨by kernel_rfl,by kernel_rfl,by kernel_rfl⟩,⟨⟨by kernel_rfl,by kernel_rfl,by kernel_rfl⟩,⟨⟨by kernel_rfl,by kernel_rfl,by kernel_rfl⟩,⟨⟨by kernel_rfl,by kernel_rfl,by kernel_rfl⟩,⟨⟨by kernel_rfl,by kernel_rfl,by kernel_rfl⟩,⟨⟨by kernel_rfl,by kernel_rfl,by kernel_rfl⟩,⟨⟨by kernel_rfl,by kernel_rfl,by kernel_rfl⟩,⟨⟨by kernel_rfl,by kernel_rfl,by kernel_rfl⟩,⟨⟨by kernel_rfl,by kernel_rfl,by kernel_rfl⟩,⟨⟨by kernel_rfl,by kernel_rfl,by kernel_rfl⟩,⟨⟨by kernel_rfl,by kernel_rfl,by kernel_rfl⟩,⟨⟨by kernel_rfl,by kernel_rfl,by kernel_rfl⟩,⟨⟨by kernel_rfl,by kernel_rfl,by kernel_rfl⟩,⟨⟨by kernel_rfl,by kernel_rfl,by kernel_rfl⟩,⟨⟨by kernel_rfl,by kernel_rfl,by kernel_rfl⟩,⟨⟨by kernel_rfl,by kernel_rfl,by kernel_rfl⟩,⟨⟨by kernel_rfl,by kernel_rfl,by kernel_rfl⟩,⟨⟨by kernel_rfl,by kernel_rfl,by kernel_rfl⟩,⟨⟨by kernel_rfl,by kernel_rfl,by kernel_rfl⟩,⟨⟨by kernel_rfl,by kernel_rfl,by kernel_rfl⟩,⟨⟨by kernel_rfl,by kernel_rfl,by kernel_rfl⟩,⟨⟨by kernel_rfl,by kernel_rfl,by kernel_rfl⟩,trivial⟩⟩⟩⟩⟩⟩⟩⟩⟩⟩⟩⟩⟩⟩⟩⟩⟩⟩⟩⟩⟩⟩⟩⟩⟩⟩⟩⟩⟩⟩⟩⟩⟩⟩⟩⟩⟩⟩⟩⟩⟩⟩⟩⟩⟩⟩⟩⟩⟩⟩⟩⟩⟩⟩⟩⟩
noncomputable def ZAn:Nat->Shape:=λi=>bif Nat.beq i 0 then .tup []else bif Nat.beq i 3 then .int .i64 else bif Nat.beq i 4 then .bool else bif Nat.beq i 5 then .int .u8 else bif Nat.beq i 9 then .str else bif Nat.beq i 22 then .slice else bif Nat.beq i 24 then .int .u64 else bif Nat.beq i 25 then .agg [.int .u64,.int .u64,.int .u64,.int .u64]else bif Nat.beq i 26 then .agg [.int .u64,.int .u64,.int .u64,.int .u64]else bif Nat.beq i 27 then .slice else bif Nat.beq i 29 then .agg [.int .u8,.int .u64,.int .u64,.int .u64,.int .u64,.int .i64,.int .i64,.slice]else bif Nat.beq i 35 then .slice else bif Nat.beq i 36 then .int .i64 else bif Nat.beq i 37 then .agg [.int .u8,.int .u64,.int .u64,.int .u64,.int .u64,.int .i64,.int .i64,.slice,.int .i64]else bif Nat.beq i 38 then .slice else bif Nat.beq i 39 then .slice else bif Nat.beq i 40 then .tup [.slice,.int .i64]else bif Nat.beq i 42 then .slice else bif Nat.beq i 43 then .tup [.slice,.int .i64]else bif Nat.beq i 45 then .slice else bif Nat.beq i 46 then .tup [.slice,.int .i64]else bif Nat.beq i 48 then .tup [.int .i64,.int .i64]else bif Nat.beq i 52 then .agg [.bool,.bool,.int .u8,.int .u64,.int .u64,.int .u64,.int .u64,.int .i64,.int .i64,.slice]else bif Nat.beq i 56 then .agg [.int .i64,.int .i64]else bif Nat.beq i 62 then .agg [.int .i64,.int .i64]else bif Nat.beq i 63 then .slice else bif Nat.beq i 66 then .tup [.bool,.int .i64]else bif Nat.beq i 70 then .fn else bif Nat.beq i 73 then .agg [.int .u8,.int .u64,.int .u64,.int .u64,.int .u64,.int .i64,.int .i64,.slice,.str,.slice]else bif Nat.beq i 74 then .slice else bif Nat.beq i 78 then .agg [.int .u8,.int .u8,.int .u8]else bif Nat.beq i 82 then .ptr else bif Nat.beq i 83 then .ptr else bif Nat.beq i 84 then .tup [.any,.any,.int .i64]else bif Nat.beq i 92 then .agg [.slice,.int .i64,.slice,.any]else bif Nat.beq i 93 then .fn else bif Nat.beq i 94 then .fn else bif Nat.beq i 95 then .fn else bif Nat.beq i 98 then .cells else bif Nat.beq i 99 then .slice else bif Nat.beq i 101 then .cells else bif Nat.beq i 104 then .tup [.slice,.int .i64]else bif Nat.beq i 107 then .agg [.int .i64,.int .i64,.slice]else bif Nat.beq i 108 then .tup [.agg [.int .i64,.int .i64,.slice],.int .i64]else bif Nat.beq i 110 then .tup [.int .i64,.int .i64]else bif Nat.beq i 112 then .int .u64 else bif Nat.beq i 113 then .tup [.int .u64,.int .u64]else bif Nat.beq i 119 then .agg [.int .u64,.int .u64,.int .u64,.int .u64,.int .u64,.int .u64,.int .u64,.int .u64,.int .u64]else bif Nat.beq i 121 then .agg [.slice,.bool]else bif Nat.beq i 122 then .fn else bif Nat.beq i 124 then .fn else bif Nat.beq i 128 then .slice else bif Nat.beq i 130 then .agg [.int .u8,.int .u64,.int .u64,.int .u64,.int .u64,.int .i64,.int .i64,.slice,.int .i64,.int .i64,.slice]else bif Nat.beq i 132 then .agg [.int .i64,.int .i64,.int .i64]else bif Nat.beq i 133 then .tup [.slice,.bool]else bif Nat.beq i 135 then .fn else bif Nat.beq i 136 then .fn else bif Nat.beq i 138 then .fn else bif Nat.beq i 139 then .fn else bif Nat.beq i 143 then .tup [.int .i64,.bool]else bif Nat.beq i 147 then .slice else bif Nat.beq i 150 then .int .u32 else bif Nat.beq i 151 then .tup [.int .u32,.int .u32]else bif Nat.beq i 153 then .tup [.int .u64,.int .u64]else bif Nat.beq i 155 then .fn else bif Nat.beq i 156 then .agg [.fn,.fn,.fn,.fn,.fn,.fn,.fn]else bif Nat.beq i 158 then .ptr else bif Nat.beq i 160 then .fn else bif Nat.beq i 164 then .slice else bif Nat.beq i 175 then .slice else .any
noncomputable def EB:Env where
 P:=Try.prog
 loops:=λ_=>⟨[],[],[],false⟩
 cuts:=λ_=>none
 joins:=λ_=>none
 dr:=λ_=>[]
 tt:=ZwA ZzP
 sh:=ZAn
 hint:=λ_=>none
 borrow:=λ_=>[]
 tokOf:=λ_=>0
 frz:=[]
 fix:=none
 yl:=none
 frzNew:=[]
 frzAt:=λ_=>[]
 thaw:=false
 stAt:=λ_=>none
theorem Zay:EB.ok:=ZrK ZvW
theorem mix:Try.prog.follows .mixedOrders=true:=by kernel_rfl
end Go.Proofs.Ytgclajkldphoaaa