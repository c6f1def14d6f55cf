/- Part of the proof: conditions and contracts of functions of this program. No condition of its own. -/
import Derived.Test.YtgclajkldphoaaaGreatProg
import Derived.Test.YtgclajkldphoaaaGreatMc
import Derived.KernelRfl
set_option linter.unusedVariables false
set_option linter.unusedSimpArgs false
set_option linter.unusedSectionVars false
namespace Go.Proofs.YtgclajkldphoaaaGreat
open Go Go.Eng Go.Proofs
set_option maxRecDepth 100000
abbrev Zaz(s:Shape)(R:Value->Mem->List (List Value)->Prop):Prop:=∀(v:Value)(m':Mem) (css:List (List Value)),R v m' css->Shape.fits s v=true
abbrev shT:Shape:=.agg [.int .u8,.int .u64,.int .u64,.int .u64,.int .u64,.int .i64,.int .i64,.slice]
noncomputable def Zz2:List (Nat×TI):=[
 (3,⟨.int .i64,1,.int .i64 0,8⟩),
 (4,⟨.bool,1,.bool .false,1⟩),
 (5,⟨.int .u8,1,.int .u8 0,1⟩),
 (9,⟨.string,1,.string .empty,16⟩),
 (22,⟨.slice 66,1,.slice none 0 0,24⟩),
 (23,⟨.slice 5,1,.slice none 0 0,24⟩),
 (25,⟨.int .u64,1,.int .u64 0,8⟩),
 (27,⟨.array 4 25,4,.agg #[.int .u64 0,.int .u64 0,.int .u64 0,.int .u64 0],32⟩),
 (28,⟨.slice 30,1,.slice none 0 0,24⟩),
 (30,⟨.struct #[⟨ "Kind",5,0,.false, "", "",0⟩,⟨ "Set",27,1,.false, "", "",8⟩,⟨ "Min",3,5,.false, "", "",40⟩,⟨ "Max",3,6,.false, "", "",48⟩,⟨ "Subs",28,7,.false, "", "",56⟩],8,.agg #[.int .u8 0,.int .u64 0,.int .u64 0,.int .u64 0,.int .u64 0,.int .i64 0,.int .i64 0,.slice none 0 0],80⟩),
 (34,⟨.int .i64,1,.int .i64 0,8⟩),
 (37,⟨.struct #[⟨ "Begin",4,0,.false, "", "",0⟩,⟨ "End",4,1,.false, "", "",1⟩,⟨ "Root",30,2,.false, "", "",8⟩],10,.agg #[.bool .false,.bool .false,.int .u8 0,.int .u64 0,.int .u64 0,.int .u64 0,.int .u64 0,.int .i64 0,.int .i64 0,.slice none 0 0],88⟩),
 (40,⟨.slice 51,1,.slice none 0 0,24⟩),
 (44,⟨.slice 3,1,.slice none 0 0,24⟩),
 (51,⟨.struct #[⟨ "From",3,0,.false, "", "",0⟩,⟨ "To",3,1,.false, "", "",8⟩],2,.agg #[.int .i64 0,.int .i64 0],16⟩),
 (56,⟨.struct #[⟨ "n",30,0,.false, "", "repartee/reparteelaw14",0⟩,⟨ "s",9,8,.false, "", "repartee/reparteelaw14",80⟩,⟨ "want",40,9,.false, "", "repartee/reparteelaw14",96⟩],10,.agg #[.int .u8 0,.int .u64 0,.int .u64 0,.int .u64 0,.int .u64 0,.int .i64 0,.int .i64 0,.slice none 0 0,.string .empty,.slice none 0 0],120⟩),
 (57,⟨.slice 56,1,.slice none 0 0,24⟩),
 (61,⟨.slice 9,1,.slice none 0 0,24⟩),
 (66,⟨.struct #[⟨ "Kind",5,0,.false, "", "",0⟩,⟨ "N",5,1,.false, "", "",1⟩,⟨ "M",5,2,.false, "", "",2⟩],3,.agg #[.int .u8 0,.int .u8 0,.int .u8 0],3⟩),
 (70,⟨.func #[30] #[4] .false,1,.nilFunc,8⟩),
 (75,⟨.array 9 25,9,.agg (List.replicate 9 (.int .u64 0)).toArray,72⟩),
 (77,⟨.struct #[⟨ "s",23,0,.false, "", "repartee/denote",0⟩,⟨ "back",4,1,.false, "", "repartee/denote",24⟩],2,.agg #[.slice none 0 0,.bool .false],32⟩),
 (78,⟨.func #[30,75] #[75] .false,1,.nilFunc,8⟩),
 (80,⟨.func #[3] #[4] .false,1,.nilFunc,8⟩),
 (81,⟨.pointer 90,1,.pointer none,8⟩),
 (82,⟨.pointer 106,1,.pointer none,8⟩),
 (88,⟨.map 108 44,1,.map none,8⟩),
 (90,⟨.struct #[⟨ "s",23,0,.false, "", "repartee/span",0⟩,⟨ "nodes",3,1,.false, "", "repartee/span",24⟩,⟨ "parts",40,2,.false, "", "repartee/span",32⟩,⟨ "memo",88,3,.false, "", "repartee/span",56⟩],4,.agg #[.slice none 0 0,.int .i64 0,.slice none 0 0,.map none],64⟩),
 (91,⟨.func #[70] #[] .false,1,.nilFunc,8⟩),
 (92,⟨.func #[70] #[] .false,1,.nilFunc,8⟩),
 (97,⟨.int .u64,1,.int .u64 0,8⟩),
 (98,⟨.func #[30,30] #[4] .false,1,.nilFunc,8⟩),
 (99,⟨.array 7 78,7,.agg #[.nilFunc,.nilFunc,.nilFunc,.nilFunc,.nilFunc,.nilFunc,.nilFunc],56⟩),
 (101,⟨.pointer 75,1,.pointer none,8⟩),
 (104,⟨.slice 82,1,.slice none 0 0,24⟩),
 (106,⟨.struct #[⟨ "Node",30,0,.true, "", "",0⟩,⟨ "id",3,8,.false, "", "repartee/span",80⟩,⟨ "group",3,9,.false, "", "repartee/span",88⟩,⟨ "subs",104,10,.false, "", "repartee/span",96⟩],11,.agg #[.int .u8 0,.int .u64 0,.int .u64 0,.int .u64 0,.int .u64 0,.int .i64 0,.int .i64 0,.slice none 0 0,.int .i64 0,.int .i64 0,.slice none 0 0],120⟩),
 (108,⟨.struct #[⟨ "id",3,0,.false, "", "repartee/span",0⟩,⟨ "done",3,1,.false, "", "repartee/span",8⟩,⟨ "at",3,2,.false, "", "repartee/span",16⟩],3,.agg #[.int .i64 0,.int .i64 0,.int .i64 0],24⟩),
 (111,⟨.func #[80] #[] .false,1,.nilFunc,8⟩),
 (112,⟨.func #[80] #[] .false,1,.nilFunc,8⟩),
 (114,⟨.func #[136] #[] .false,1,.nilFunc,8⟩),
 (115,⟨.func #[136] #[] .false,1,.nilFunc,8⟩),
 (122,⟨.int .i64,1,.int .i64 0,8⟩),
 (130,⟨.int .u32,1,.int .u32 0,4⟩),
 (136,⟨.func #[44] #[4] .false,1,.nilFunc,8⟩),
 (139,⟨.int .u64,1,.int .u64 0,8⟩),
 (143,⟨.pointer 3,1,.pointer none,8⟩),
 (147,⟨.pointer 139,1,.pointer none,8⟩)]
theorem Zv6:ZyZ Tryz.prog Zz2:=⟨⟨by kernel_rfl,by kernel_rfl,by kernel_rfl⟩,⟨⟨by kernel_rfl,by kernel_rfl,by kernel_rfl⟩,⟨⟨by kernel_rfl,by kernel_rfl,by kernel_rfl⟩,⟨⟨by kernel_rfl,by kernel_rfl,by kernel_rfl⟩,⟨⟨by kernel_rfl,by kernel_rfl,by kernel_rfl⟩,⟨⟨by kernel_rfl,by kernel_rfl,by kernel_rfl⟩,⟨⟨by kernel_rfl,by kernel_rfl,by kernel_rfl⟩,⟨⟨by kernel_rfl,by kernel_rfl,by kernel_rfl⟩,⟨⟨by kernel_rfl,by kernel_rfl,by kernel_rfl⟩,⟨⟨by kernel_rfl,by kernel_rfl,by kernel_rfl⟩,⟨⟨by kernel_rfl,by kernel_rfl,by kernel_rfl⟩,⟨⟨by kernel_rfl,by kernel_rfl,by kernel_rfl⟩,⟨⟨by kernel_rfl,by kernel_rfl,by kernel_rfl⟩,⟨⟨by kernel_rfl,by kernel_rfl,by kernel_rfl⟩,⟨⟨by kernel_rfl,by kernel_rfl,by kernel_rfl⟩,⟨⟨by kernel_rfl,by kernel_rfl,by kernel_rfl⟩,⟨⟨by kernel_rfl,by kernel_rfl,by kernel_rfl⟩,⟨⟨by kernel_rfl,by kernel_rfl,by kernel_rfl⟩,⟨⟨by kernel_rfl,by kernel_rfl,by kernel_rfl⟩,⟨⟨by kernel_rfl,by kernel_rfl,by kernel_rfl⟩,⟨⟨by kernel_rfl,by kernel_rfl,by kernel_rfl⟩,⟨⟨by kernel_rfl,by kernel_rfl,by kernel_rfl⟩,⟨⟨by kernel_rfl,by kernel_rfl,by kernel_rfl⟩,⟨⟨by kernel_rfl,by kernel_rfl,by kernel_rfl⟩,⟨⟨by kernel_rfl,by kernel_rfl,by kernel_rfl⟩,⟨⟨by kernel_rfl,by kernel_rfl,by kernel_rfl⟩,⟨⟨by kernel_rfl,by kernel_rfl,by kernel_rfl⟩,⟨⟨by kernel_rfl,by kernel_rfl,by kernel_rfl⟩,⟨⟨by kernel_rfl,by kernel_rfl,by kernel_rfl⟩,⟨⟨by kernel_rfl,by kernel_rfl,by kernel_rfl⟩,⟨⟨by kernel_rfl,by kernel_rfl,by kernel_rfl⟩,⟨⟨by kernel_rfl,by kernel_rfl,by kernel_rfl⟩,⟨⟨by kernel_rfl,by kernel_rfl,by kernel_rfl⟩,⟨⟨by kernel_rfl,by kernel_rfl,by kernel_rfl⟩,⟨⟨by kernel_rfl,by kernel_rfl,by kernel_rfl⟩,⟨⟨by kernel_rfl,by kernel_rfl,by kernel_rfl⟩,⟨⟨by kernel_rfl,by kernel_rfl,by kernel_rfl⟩,⟨⟨by kernel_rfl,by kernel_rfl,by kernel_rfl⟩,⟨⟨by kernel_rfl,by kernel_rfl,by kernel_rfl⟩,⟨⟨by kernel_rfl,by kernel_rfl,by kernel_rfl⟩,⟨⟨by kernel_rfl,by kernel_rfl,by kernel_rfl⟩,⟨⟨by kernel_rfl,by kernel_rfl,by kernel_rfl⟩,⟨⟨by kernel_rfl,by kernel_rfl,by kernel_rfl⟩,⟨⟨by kernel_rfl,by kernel_rfl,by kernel_rfl⟩,⟨⟨by kernel_rfl,by kernel_rfl,by kernel_rfl⟩,⟨⟨by kernel_rfl,by kernel_rfl,by kernel_rfl⟩,⟨⟨by kernel_rfl,by kernel_rfl,by kernel_rfl⟩,trivial⟩⟩⟩⟩⟩⟩⟩⟩⟩⟩⟩⟩⟩⟩⟩⟩⟩⟩⟩⟩⟩⟩⟩⟩⟩⟩⟩⟩⟩⟩⟩⟩⟩⟩⟩⟩⟩⟩⟩⟩⟩⟩⟩⟩⟩⟩⟩
noncomputable def ZAA:Nat->Shape:=λi=>bif Nat.beq i 0 then .tup []else bif Nat.beq i 3 then .int .i64 else bif Nat.beq i 4 then .bool else bif Nat.beq i 5 then .int .u8 else bif Nat.beq i 9 then .str else bif Nat.beq i 22 then .slice else bif Nat.beq i 23 then .slice else bif Nat.beq i 25 then .int .u64 else bif Nat.beq i 27 then .agg [.int .u64,.int .u64,.int .u64,.int .u64]else bif Nat.beq i 28 then .slice else bif Nat.beq i 30 then .agg [.int .u8,.int .u64,.int .u64,.int .u64,.int .u64,.int .i64,.int .i64,.slice]else bif Nat.beq i 34 then .int .i64 else bif Nat.beq i 37 then .agg [.bool,.bool,.int .u8,.int .u64,.int .u64,.int .u64,.int .u64,.int .i64,.int .i64,.slice]else bif Nat.beq i 38 then .tup [.bool,.int .i64]else bif Nat.beq i 40 then .slice else bif Nat.beq i 41 then .tup [.slice,.int .i64]else bif Nat.beq i 44 then .slice else bif Nat.beq i 45 then .tup [.slice,.int .i64]else bif Nat.beq i 51 then .agg [.int .i64,.int .i64]else bif Nat.beq i 56 then .agg [.int .u8,.int .u64,.int .u64,.int .u64,.int .u64,.int .i64,.int .i64,.slice,.str,.slice]else bif Nat.beq i 57 then .slice else bif Nat.beq i 59 then .tup [.int .i64,.int .i64]else bif Nat.beq i 61 then .slice else bif Nat.beq i 62 then .tup [.slice,.int .i64]else bif Nat.beq i 66 then .agg [.int .u8,.int .u8,.int .u8]else bif Nat.beq i 70 then .fn else bif Nat.beq i 75 then .agg [.int .u64,.int .u64,.int .u64,.int .u64,.int .u64,.int .u64,.int .u64,.int .u64,.int .u64]else bif Nat.beq i 77 then .agg [.slice,.bool]else bif Nat.beq i 78 then .fn else bif Nat.beq i 80 then .fn else bif Nat.beq i 81 then .ptr else bif Nat.beq i 82 then .ptr else bif Nat.beq i 83 then .tup [.any,.any,.int .i64]else bif Nat.beq i 90 then .agg [.slice,.int .i64,.slice,.any]else bif Nat.beq i 91 then .fn else bif Nat.beq i 92 then .fn else bif Nat.beq i 97 then .int .u64 else bif Nat.beq i 98 then .fn else bif Nat.beq i 99 then .agg [.fn,.fn,.fn,.fn,.fn,.fn,.fn]else bif Nat.beq i 101 then .ptr else bif Nat.beq i 104 then .slice else bif Nat.beq i 106 then .agg [.int .u8,.int .u64,.int .u64,.int .u64,.int .u64,.int .i64,.int .i64,.slice,.int .i64,.int .i64,.slice]else bif Nat.beq i 108 then .agg [.int .i64,.int .i64,.int .i64]else bif Nat.beq i 109 then .tup [.slice,.bool]else bif Nat.beq i 111 then .fn else bif Nat.beq i 112 then .fn else bif Nat.beq i 114 then .fn else bif Nat.beq i 115 then .fn else bif Nat.beq i 118 then .tup [.int .i64,.bool]else bif Nat.beq i 122 then .int .i64 else bif Nat.beq i 123 then .tup [.int .i64,.int .i64]else bif Nat.beq i 130 then .int .u32 else bif Nat.beq i 136 then .fn else bif Nat.beq i 139 then .int .u64 else bif Nat.beq i 143 then .ptr else bif Nat.beq i 147 then .ptr else bif Nat.beq i 148 then .tup [.int .i64,.int .i64]else .any
noncomputable def EB:Env where
 P:=Tryz.prog
 loops:=λ_=>⟨[],[],[],false⟩
 cuts:=λ_=>none
 joins:=λ_=>none
 dr:=λ_=>[]
 tt:=ZwK Zz2
 sh:=ZAA
 hint:=λ_=>none
 borrow:=λ_=>[]
 tokOf:=λ_=>0
 frz:=[]
 fix:=none
 yl:=none
 frzNew:=[]
 frzAt:=λ_=>[]
 thaw:=false
 stAt:=λ_=>none
theorem Zay:EB.ok:=ZrE Zv6
theorem mix:Tryz.prog.follows .mixedOrders=true:=by kernel_rfl
end Go.Proofs.YtgclajkldphoaaaGreat