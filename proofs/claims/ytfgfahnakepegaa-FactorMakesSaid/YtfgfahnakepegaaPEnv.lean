/- Part of the proof: conditions and contracts of functions of this program. No condition of its own. -/
import Derived.Test.YtfgfahnakepegaaProg
import Derived.Test.YtfgfahnakepegaaMc
import Derived.KernelRfl
set_option linter.unusedVariables false
namespace Go.Proofs.Ytfgfahnakepegaa
open Go Go.Eng Go.Proofs
set_option maxRecDepth 100000
abbrev Zau(s:Shape)(R:Value->Mem->List (List Value)->Prop):Prop:=∀(v:Value)(m':Mem) (css:List (List Value)),R v m' css->Shape.fits s v=true
abbrev shT:Shape:=.agg [.int .u8,.int .u64,.int .u64,.int .u64,.int .u64,.int .i64,.int .i64,.slice]
noncomputable def ZAr:List (Nat×TI):=[
 (3,⟨.int .i64,1,.int .i64 0,8⟩),
 (4,⟨.bool,1,.bool .false,1⟩),
 (5,⟨.int .u8,1,.int .u8 0,1⟩),
 (9,⟨.string,1,.string .empty,16⟩),
 (22,⟨.int .u64,1,.int .u64 0,8⟩),
 (23,⟨.array 4 22,4,.agg #[.int .u64 0,.int .u64 0,.int .u64 0,.int .u64 0],32⟩),
 (24,⟨.array 4 22,4,.agg #[.int .u64 0,.int .u64 0,.int .u64 0,.int .u64 0],32⟩),
 (25,⟨.slice 27,1,.slice none 0 0,24⟩),
 (27,⟨.struct #[⟨ "Kind",5,0,.false, "", "",0⟩,⟨ "Set",24,1,.false, "", "",8⟩,⟨ "Min",3,5,.false, "", "",40⟩,⟨ "Max",3,6,.false, "", "",48⟩,⟨ "Subs",25,7,.false, "", "",56⟩],8,.agg #[.int .u8 0,.int .u64 0,.int .u64 0,.int .u64 0,.int .u64 0,.int .i64 0,.int .i64 0,.slice none 0 0],80⟩),
 (29,⟨.struct #[⟨ "Alt",3,0,.false, "", "",0⟩,⟨ "From",3,1,.false, "", "",8⟩,⟨ "To",3,2,.false, "", "",16⟩,⟨ "Length",3,3,.false, "", "",24⟩],4,.agg #[.int .i64 0,.int .i64 0,.int .i64 0,.int .i64 0],32⟩),
 (30,⟨.func #[27] #[4] .false,1,.nilFunc,8⟩),
 (33,⟨.slice 5,1,.slice none 0 0,24⟩),
 (37,⟨.int .i64,1,.int .i64 0,8⟩),
 (40,⟨.slice 24,1,.slice none 0 0,24⟩),
 (43,⟨.func #[27,27] #[4] .false,1,.nilFunc,8⟩),
 (45,⟨.func #[27] #[27] .false,1,.nilFunc,8⟩),
 (50,⟨.slice 29,1,.slice none 0 0,24⟩),
 (60,⟨.slice 3,1,.slice none 0 0,24⟩),
 (63,⟨.slice 37,1,.slice none 0 0,24⟩),
 (67,⟨.array 256 3,256,.agg (List.replicate 256 (.int .i64 0)).toArray,2048⟩),
 (68,⟨.slice 70,1,.slice none 0 0,24⟩),
 (70,⟨.struct #[⟨ "Kind",3,0,.false, "", "",0⟩,⟨ "Set",67,1,.false, "", "",8⟩,⟨ "Min",3,257,.false, "", "",2056⟩,⟨ "Max",3,258,.false, "", "",2064⟩,⟨ "Subs",68,259,.false, "", "",2072⟩],260,.agg #[.int .i64 0,.int .i64 0,.int .i64 0,.int .i64 0,.int .i64 0,.int .i64 0,.int .i64 0,.int .i64 0,.int .i64 0,.int .i64 0,.int .i64 0,.int .i64 0,.int .i64 0,.int .i64 0,.int .i64 0,.int .i64 0,.int .i64 0,.int .i64 0,.int .i64 0,.int .i64 0,.int .i64 0,.int .i64 0,.int .i64 0,.int .i64 0,.int .i64 0,.int .i64 0,.int .i64 0,.int .i64 0,.int .i64 0,.int .i64 0,.int .i64 0,.int .i64 0,.int .i64 0,.int .i64 0,.int .i64 0,.int .i64 0,.int .i64 0,.int .i64 0,.int .i64 0,.int .i64 0,.int .i64 0,.int .i64 0,.int .i64 0,.int .i64 0,.int .i64 0,.int .i64 0,.int .i64 0,.int .i64 0,.int .i64 0,.int .i64 0,.int .i64 0,.int .i64 0,.int .i64 0,.int .i64 0,.int .i64 0,.int .i64 0,.int .i64 0,.int .i64 0,.int .i64 0,.int .i64 0,.int .i64 0,.int .i64 0,.int .i64 0,.int .i64 0,.int .i64 0,.int .i64 0,.int .i64 0,.int .i64 0,.int .i64 0,.int .i64 0,.int .i64 0,.int .i64 0,.int .i64 0,.int .i64 0,.int .i64 0,.int .i64 0,.int .i64 0,.int .i64 0,.int .i64 0,.int .i64 0,.int .i64 0,.int .i64 0,.int .i64 0,.int .i64 0,.int .i64 0,.int .i64 0,.int .i64 0,.int .i64 0,.int .i64 0,.int .i64 0,.int .i64 0,.int .i64 0,.int .i64 0,.int .i64 0,.int .i64 0,.int .i64 0,.int .i64 0,.int .i64 0,.int .i64 0,.int .i64 0,.int .i64 0,.int .i64 0,.int .i64 0,.int .i64 0,.int .i64 0,.int .i64 0,.int .i64 0,.int .i64 0,.int .i64 0,.int .i64 0,.int .i64 0,.int .i64 0,.int .i64 0,.int .i64 0,.int .i64 0,.int .i64 0,.int .i64 0,.int .i64 0,.int .i64 0,.int .i64 0,.int .i64 0,.int .i64 0,.int .i64 0,.int .i64 0,.int .i64 0,.int .i64 0,.int .i64 0,.int .i64 0,.int .i64 0,.int .i64 0,.int .i64 0,.int .i64 0,.int .i64 0,.int .i64 0,.int .i64 0,.int .i64 0,.int .i64 0,.int .i64 0,.int .i64 0,.int .i64 0,.int .i64 0,.int .i64 0,.int .i64 0,.int .i64 0,.int .i64 0,.int .i64 0,.int .i64 0,.int .i64 0,.int .i64 0,.int .i64 0,.int .i64 0,.int .i64 0,.int .i64 0,.int .i64 0,.int .i64 0,.int .i64 0,.int .i64 0,.int .i64 0,.int .i64 0,.int .i64 0,.int .i64 0,.int .i64 0,.int .i64 0,.int .i64 0,.int .i64 0,.int .i64 0,.int .i64 0,.int .i64 0,.int .i64 0,.int .i64 0,.int .i64 0,.int .i64 0,.int .i64 0,.int .i64 0,.int .i64 0,.int .i64 0,.int .i64 0,.int .i64 0,.int .i64 0,.int .i64 0,.int .i64 0,.int .i64 0,.int .i64 0,.int .i64 0,.int .i64 0,.int .i64 0,.int .i64 0,.int .i64 0,.int .i64 0,.int .i64 0,.int .i64 0,.int .i64 0,.int .i64 0,.int .i64 0,.int .i64 0,.int .i64 0,.int .i64 0,.int .i64 0,.int .i64 0,.int .i64 0,.int .i64 0,.int .i64 0,.int .i64 0,.int .i64 0,.int .i64 0,.int .i64 0,.int .i64 0,.int .i64 0,.int .i64 0,.int .i64 0,.int .i64 0,.int .i64 0,.int .i64 0,.int .i64 0,.int .i64 0,.int .i64 0,.int .i64 0,.int .i64 0,.int .i64 0,.int .i64 0,.int .i64 0,.int .i64 0,.int .i64 0,.int .i64 0,.int .i64 0,.int .i64 0,.int .i64 0,.int .i64 0,.int .i64 0,.int .i64 0,.int .i64 0,.int .i64 0,.int .i64 0,.int .i64 0,.int .i64 0,.int .i64 0,.int .i64 0,.int .i64 0,.int .i64 0,.int .i64 0,.int .i64 0,.int .i64 0,.int .i64 0,.int .i64 0,.int .i64 0,.int .i64 0,.int .i64 0,.int .i64 0,.int .i64 0,.int .i64 0,.int .i64 0,.int .i64 0,.int .i64 0,.int .i64 0,.int .i64 0,.int .i64 0,.int .i64 0,.int .i64 0,.int .i64 0,.slice none 0 0],2096⟩),
 (72,⟨.struct #[⟨ "Alt",3,0,.false, "", "",0⟩,⟨ "From",3,1,.false, "", "",8⟩,⟨ "To",3,2,.false, "", "",16⟩,⟨ "Length",3,3,.false, "", "",24⟩],4,.agg #[.int .i64 0,.int .i64 0,.int .i64 0,.int .i64 0],32⟩),
 (73,⟨.slice 72,1,.slice none 0 0,24⟩),
 (82,⟨.struct #[⟨ "n",27,0,.false, "", "repartee/reparteelaw15",0⟩,⟨ "want",27,8,.false, "", "repartee/reparteelaw15",80⟩,⟨ "cuts",3,16,.false, "", "repartee/reparteelaw15",160⟩],17,.agg #[.int .u8 0,.int .u64 0,.int .u64 0,.int .u64 0,.int .u64 0,.int .i64 0,.int .i64 0,.slice none 0 0,.int .u8 0,.int .u64 0,.int .u64 0,.int .u64 0,.int .u64 0,.int .i64 0,.int .i64 0,.slice none 0 0,.int .i64 0],168⟩),
 (83,⟨.slice 82,1,.slice none 0 0,24⟩),
 (89,⟨.func #[30] #[] .false,1,.nilFunc,8⟩),
 (90,⟨.func #[30] #[] .false,1,.nilFunc,8⟩),
 (92,⟨.int .u64,1,.int .u64 0,8⟩),
 (99,⟨.slice 67,1,.slice none 0 0,24⟩),
 (102,⟨.func #[24,67] #[4] .false,1,.nilFunc,8⟩),
 (106,⟨.array 2 3,2,.agg #[.int .i64 0,.int .i64 0],16⟩),
 (107,⟨.slice 106,1,.slice none 0 0,24⟩),
 (109,⟨.func #[135] #[] .false,1,.nilFunc,8⟩),
 (110,⟨.func #[135] #[] .false,1,.nilFunc,8⟩),
 (124,⟨.slice 9,1,.slice none 0 0,24⟩),
 (125,⟨.func #[29,3] #[4] .false,1,.nilFunc,8⟩),
 (131,⟨.func #[29,72] #[4] .false,1,.nilFunc,8⟩),
 (134,⟨.struct #[⟨ "Begin",4,0,.false, "", "",0⟩,⟨ "End",4,1,.false, "", "",1⟩,⟨ "Root",27,2,.false, "", "",8⟩],10,.agg #[.bool .false,.bool .false,.int .u8 0,.int .u64 0,.int .u64 0,.int .u64 0,.int .u64 0,.int .i64 0,.int .i64 0,.slice none 0 0],88⟩),
 (135,⟨.func #[29] #[4] .false,1,.nilFunc,8⟩),
 (140,⟨.int .u32,1,.int .u32 0,4⟩),
 (155,⟨.slice 25,1,.slice none 0 0,24⟩)]
theorem ZwI:Zzr Try.prog ZAr:=⟨⟨by kernel_rfl,by kernel_rfl,by kernel_rfl⟩,⟨⟨by kernel_rfl,by kernel_rfl,by kernel_rfl⟩,⟨⟨by kernel_rfl,by kernel_rfl,by kernel_rfl⟩,⟨⟨by kernel_rfl,by kernel_rfl,by kernel_rfl⟩,⟨⟨by kernel_rfl,by kernel_rfl,by kernel_rfl⟩,⟨⟨by kernel_rfl,by kernel_rfl,by kernel_rfl⟩,⟨⟨by kernel_rfl,by kernel_rfl,by kernel_rfl⟩,⟨⟨by kernel_rfl,by kernel_rfl,by kernel_rfl⟩,⟨⟨by kernel_rfl,by kernel_rfl,by kernel_rfl⟩,⟨⟨by kernel_rfl,by kernel_rfl,by kernel_rfl⟩,⟨⟨by kernel_rfl,by kernel_rfl,by kernel_rfl⟩,⟨⟨by kernel_rfl,by kernel_rfl,by kernel_rfl⟩,⟨⟨by kernel_rfl,by kernel_rfl,by kernel_rfl⟩,⟨⟨by kernel_rfl,by kernel_rfl,by kernel_rfl⟩,⟨⟨by kernel_rfl,by kernel_rfl,by kernel_rfl⟩,⟨⟨by kernel_rfl,by kernel_rfl,by kernel_rfl⟩,⟨⟨by kernel_rfl,by kernel_rfl,by kernel_rfl⟩,⟨⟨by kernel_rfl,by kernel_rfl,by kernel_rfl⟩,⟨⟨by kernel_rfl,by kernel_rfl,by kernel_rfl⟩,⟨⟨by kernel_rfl,by kernel_rfl,by kernel_rfl⟩,⟨⟨by kernel_rfl,by kernel_rfl,by kernel_rfl⟩,⟨⟨by kernel_rfl,by kernel_rfl,by kernel_rfl⟩,⟨⟨by kernel_rfl,by kernel_rfl,by kernel_rfl⟩,⟨⟨by kernel_rfl,by kernel_rfl,by kernel_rfl⟩,⟨⟨by kernel_rfl,by kernel_rfl,by kernel_rfl⟩,⟨⟨by kernel_rfl,by kernel_rfl,by kernel_rfl⟩,⟨⟨by kernel_rfl,by kernel_rfl,by kernel_rfl⟩,⟨⟨by kernel_rfl,by kernel_rfl,by kernel_rfl⟩,⟨⟨by kernel_rfl,by kernel_rfl,by kernel_rfl⟩,⟨⟨by kernel_rfl,by kernel_rfl,by kernel_rfl⟩,⟨⟨by kernel_rfl,by kernel_rfl,by kernel_rfl⟩,⟨⟨by kernel_rfl,by kernel_rfl,by kernel_rfl⟩,⟨⟨by kernel_rfl,by kernel_rfl,by kernel_rfl⟩,⟨⟨by kernel_rfl,by kernel_rfl,by kernel_rfl⟩,⟨⟨by kernel_rfl,by kernel_rfl,by kernel_rfl⟩,⟨⟨by kernel_rfl,by kernel_rfl,by kernel_rfl⟩,⟨⟨by kernel_rfl,by kernel_rfl,by kernel_rfl⟩,⟨⟨by kernel_rfl,by kernel_rfl,by kernel_rfl⟩,⟨⟨by kernel_rfl,by kernel_rfl,by kernel_rfl⟩,⟨⟨by kernel_rfl,by kernel_rfl,by kernel_rfl⟩,⟨⟨by kernel_rfl,by kernel_rfl,by kernel_rfl⟩,⟨⟨by kernel_rfl,by kernel_rfl,by kernel_rfl⟩,trivial⟩⟩⟩⟩⟩⟩⟩⟩⟩⟩⟩⟩⟩⟩⟩⟩⟩⟩⟩⟩⟩⟩⟩⟩⟩⟩⟩⟩⟩⟩⟩⟩⟩⟩⟩⟩⟩⟩⟩⟩⟩⟩
noncomputable def ZA3:Nat->Shape:=λi=>bif Nat.beq i 0 then .tup []else bif Nat.beq i 3 then .int .i64 else bif Nat.beq i 4 then .bool else bif Nat.beq i 5 then .int .u8 else bif Nat.beq i 9 then .str else bif Nat.beq i 22 then .int .u64 else bif Nat.beq i 23 then .agg [.int .u64,.int .u64,.int .u64,.int .u64]else bif Nat.beq i 24 then .agg [.int .u64,.int .u64,.int .u64,.int .u64]else bif Nat.beq i 25 then .slice else bif Nat.beq i 27 then .agg [.int .u8,.int .u64,.int .u64,.int .u64,.int .u64,.int .i64,.int .i64,.slice]else bif Nat.beq i 29 then .agg [.int .i64,.int .i64,.int .i64,.int .i64]else bif Nat.beq i 30 then .fn else bif Nat.beq i 33 then .slice else bif Nat.beq i 37 then .int .i64 else bif Nat.beq i 38 then .tup [.agg [.int .u8,.int .u64,.int .u64,.int .u64,.int .u64,.int .i64,.int .i64,.slice],.int .i64]else bif Nat.beq i 40 then .slice else bif Nat.beq i 41 then .tup [.slice,.int .i64]else bif Nat.beq i 43 then .fn else bif Nat.beq i 45 then .fn else bif Nat.beq i 50 then .slice else bif Nat.beq i 51 then .tup [.slice,.int .i64]else bif Nat.beq i 53 then .tup [.agg [.int .i64,.int .i64,.int .i64,.int .i64],.int .i64,.bool,.int .i64]else bif Nat.beq i 55 then .tup [.int .i64,.int .i64]else bif Nat.beq i 60 then .slice else bif Nat.beq i 63 then .slice else bif Nat.beq i 67 then .cells else bif Nat.beq i 68 then .slice else bif Nat.beq i 70 then .cells else bif Nat.beq i 72 then .agg [.int .i64,.int .i64,.int .i64,.int .i64]else bif Nat.beq i 73 then .slice else bif Nat.beq i 76 then .tup [.cells,.int .i64]else bif Nat.beq i 82 then .cells else bif Nat.beq i 83 then .slice else bif Nat.beq i 86 then .tup [.agg [.int .i64,.int .i64,.int .i64,.int .i64],.int .i64,.agg [.int .u8,.int .u64,.int .u64,.int .u64,.int .u64,.int .i64,.int .i64,.slice]]else bif Nat.beq i 89 then .fn else bif Nat.beq i 90 then .fn else bif Nat.beq i 92 then .int .u64 else bif Nat.beq i 93 then .tup [.slice,.cells]else bif Nat.beq i 95 then .tup [.agg [.int .i64,.int .i64,.int .i64,.int .i64],.int .i64]else bif Nat.beq i 99 then .slice else bif Nat.beq i 102 then .fn else bif Nat.beq i 106 then .agg [.int .i64,.int .i64]else bif Nat.beq i 107 then .slice else bif Nat.beq i 109 then .fn else bif Nat.beq i 110 then .fn else bif Nat.beq i 116 then .tup [.int .u64,.int .u64]else bif Nat.beq i 124 then .slice else bif Nat.beq i 125 then .fn else bif Nat.beq i 131 then .fn else bif Nat.beq i 134 then .agg [.bool,.bool,.int .u8,.int .u64,.int .u64,.int .u64,.int .u64,.int .i64,.int .i64,.slice]else bif Nat.beq i 135 then .fn else bif Nat.beq i 140 then .int .u32 else bif Nat.beq i 141 then .tup [.int .u32,.int .u32]else bif Nat.beq i 143 then .tup [.int .u64,.int .u64]else bif Nat.beq i 155 then .slice else .any
noncomputable def EB:Env where
 P:=Try.prog
 loops:=λ_=>⟨[],[],[],false⟩
 cuts:=λ_=>none
 joins:=λ_=>none
 dr:=λ_=>[]
 tt:=Zxk ZAr
 sh:=ZA3
 hint:=λ_=>none
 borrow:=λ_=>[]
 tokOf:=λ_=>0
 frz:=[]
 fix:=none
 yl:=none
 frzNew:=[]
 frzAt:=λ_=>[]
 thaw:=false
 stAt:=λ_=>none
theorem ZaH:EB.ok:=ZsU ZwI
theorem mix:Try.prog.follows .mixedOrders=true:=by kernel_rfl
end Go.Proofs.Ytfgfahnakepegaa
