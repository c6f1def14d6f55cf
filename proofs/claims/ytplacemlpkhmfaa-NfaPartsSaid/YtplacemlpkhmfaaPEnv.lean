/- Part of the proof: conditions and contracts of functions of this program. No condition of its own. -/
import Derived.Test.YtplacemlpkhmfaaProg
import Derived.Test.YtplacemlpkhmfaaMc
import Derived.KernelRfl
set_option linter.unusedVariables false
set_option linter.unusedSimpArgs false
set_option linter.unusedSectionVars false
noncomputable section
namespace Go.Proofs.Ytplacemlpkhmfaa
open Go Go.Eng Go.Proofs
set_option maxRecDepth 100000
abbrev Zdv(s:Shape)(R:Value->Mem->List (List Value)->Prop):Prop:=∀(v:Value)(m':Mem) (css:List (List Value)),R v m' css->Shape.fits s v=true
abbrev shT:Shape:=.agg [.int .u8,.int .u64,.int .u64,.int .u64,.int .u64,.int .i64,.int .i64,.slice]
def Zt2:List (Nat×TI):=[
 (3,⟨.int .i64,1,.int .i64 0,8⟩),
 (4,⟨.bool,1,.bool .false,1⟩),
 (5,⟨.int .u8,1,.int .u8 0,1⟩),
 (9,⟨.string,1,.string .empty,16⟩),
 (22,⟨.slice 38,1,.slice none 0 0,24⟩),
 (23,⟨.slice 24,1,.slice none 0 0,24⟩),
 (24,⟨.slice 3,1,.slice none 0 0,24⟩),
 (26,⟨.struct #[⟨ "Sets",22,0,.false, "", "",0⟩,⟨ "Follow",23,1,.false, "", "",24⟩,⟨ "First",24,2,.false, "", "",48⟩,⟨ "Last",24,3,.false, "", "",72⟩,⟨ "Empty",4,4,.false, "", "",96⟩],5,.agg #[.slice none 0 0,.slice none 0 0,.slice none 0 0,.slice none 0 0,.bool .false],104⟩),
 (27,⟨.func #[26,3,3] #[4] .false,1,.nilFunc,8⟩),
 (30,⟨.slice 5,1,.slice none 0 0,24⟩),
 (32,⟨.slice 106,1,.slice none 0 0,24⟩),
 (33,⟨.int .i64,1,.int .i64 0,8⟩),
 (36,⟨.int .u64,1,.int .u64 0,8⟩),
 (37,⟨.array 4 36,4,.agg #[.int .u64 0,.int .u64 0,.int .u64 0,.int .u64 0],32⟩),
 (38,⟨.array 4 36,4,.agg #[.int .u64 0,.int .u64 0,.int .u64 0,.int .u64 0],32⟩),
 (39,⟨.slice 41,1,.slice none 0 0,24⟩),
 (41,⟨.struct #[⟨ "Kind",5,0,.false, "", "",0⟩,⟨ "Set",38,1,.false, "", "",8⟩,⟨ "Min",3,5,.false, "", "",40⟩,⟨ "Max",3,6,.false, "", "",48⟩,⟨ "Subs",39,7,.false, "", "",56⟩],8,.agg #[.int .u8 0,.int .u64 0,.int .u64 0,.int .u64 0,.int .u64 0,.int .i64 0,.int .i64 0,.slice none 0 0],80⟩),
 (52,⟨.func #[24,24] #[4] .false,1,.nilFunc,8⟩),
 (60,⟨.slice 33,1,.slice none 0 0,24⟩),
 (66,⟨.struct #[⟨ "Begin",4,0,.false, "", "",0⟩,⟨ "End",4,1,.false, "", "",1⟩,⟨ "Root",41,2,.false, "", "",8⟩],10,.agg #[.bool .false,.bool .false,.int .u8 0,.int .u64 0,.int .u64 0,.int .u64 0,.int .u64 0,.int .i64 0,.int .i64 0,.slice none 0 0],88⟩),
 (67,⟨.slice 4,1,.slice none 0 0,24⟩),
 (77,⟨.slice 141,1,.slice none 0 0,24⟩),
 (79,⟨.struct #[⟨ "Sets",77,0,.false, "", "",0⟩,⟨ "Follow",23,1,.false, "", "",24⟩,⟨ "First",24,2,.false, "", "",48⟩,⟨ "Last",24,3,.false, "", "",72⟩,⟨ "Empty",4,4,.false, "", "",96⟩],5,.agg #[.slice none 0 0,.slice none 0 0,.slice none 0 0,.slice none 0 0,.bool .false],104⟩),
 (93,⟨.func #[41,41] #[4] .false,1,.nilFunc,8⟩),
 (94,⟨.func #[41] #[4] .false,1,.nilFunc,8⟩),
 (95,⟨.pointer 98,1,.pointer none,8⟩),
 (96,⟨.slice 100,1,.slice none 0 0,24⟩),
 (98,⟨.struct #[⟨ "sets",22,0,.false, "", "repartee/nfa",0⟩,⟨ "follow",96,1,.false, "", "repartee/nfa",24⟩],2,.agg #[.slice none 0 0,.slice none 0 0],48⟩),
 (100,⟨.array 7 36,7,.agg #[.int .u64 0,.int .u64 0,.int .u64 0,.int .u64 0,.int .u64 0,.int .u64 0,.int .u64 0],56⟩),
 (102,⟨.struct #[⟨ "first",100,0,.false, "", "repartee/nfa",0⟩,⟨ "last",100,7,.false, "", "repartee/nfa",56⟩,⟨ "empty",4,14,.false, "", "repartee/nfa",112⟩],15,.agg #[.int .u64 0,.int .u64 0,.int .u64 0,.int .u64 0,.int .u64 0,.int .u64 0,.int .u64 0,.int .u64 0,.int .u64 0,.int .u64 0,.int .u64 0,.int .u64 0,.int .u64 0,.int .u64 0,.bool .false],120⟩),
 (103,⟨.func #[41] #[102] .false,1,.nilFunc,8⟩),
 (106,⟨.struct #[⟨ "Kind",5,0,.false, "", "",0⟩,⟨ "N",5,1,.false, "", "",1⟩,⟨ "M",5,2,.false, "", "",2⟩],3,.agg #[.int .u8 0,.int .u8 0,.int .u8 0],3⟩),
 (123,⟨.func #[3,24] #[] .false,1,.nilFunc,8⟩),
 (127,⟨.array 9 36,9,.agg (List.replicate 9 (.int .u64 0)).toArray,72⟩),
 (129,⟨.struct #[⟨ "s",30,0,.false, "", "repartee/denote",0⟩,⟨ "back",4,1,.false, "", "repartee/denote",24⟩],2,.agg #[.slice none 0 0,.bool .false],32⟩),
 (130,⟨.func #[41,127] #[127] .false,1,.nilFunc,8⟩),
 (132,⟨.func #[3] #[4] .false,1,.nilFunc,8⟩),
 (134,⟨.slice 30,1,.slice none 0 0,24⟩),
 (138,⟨.int .u64,1,.int .u64 0,8⟩),
 (141,⟨.array 256 3,256,.agg (List.replicate 256 (.int .i64 0)).toArray,2048⟩),
 (145,⟨.func #[94] #[] .false,1,.nilFunc,8⟩),
 (146,⟨.func #[94] #[] .false,1,.nilFunc,8⟩),
 (148,⟨.array 7 103,7,.agg #[.nilFunc,.nilFunc,.nilFunc,.nilFunc,.nilFunc,.nilFunc,.nilFunc],56⟩),
 (150,⟨.pointer 100,1,.pointer none,8⟩),
 (152,⟨.func #[132] #[] .false,1,.nilFunc,8⟩),
 (153,⟨.func #[132] #[] .false,1,.nilFunc,8⟩),
 (155,⟨.slice 9,1,.slice none 0 0,24⟩),
 (161,⟨.array 7 130,7,.agg #[.nilFunc,.nilFunc,.nilFunc,.nilFunc,.nilFunc,.nilFunc,.nilFunc],56⟩),
 (163,⟨.pointer 127,1,.pointer none,8⟩),
 (165,⟨.int .i64,1,.int .i64 0,8⟩),
 (172,⟨.int .u32,1,.int .u32 0,4⟩),
 (181,⟨.int .u64,1,.int .u64 0,8⟩),
 (185,⟨.pointer 3,1,.pointer none,8⟩),
 (189,⟨.pointer 181,1,.pointer none,8⟩)]
theorem Zrr:Ztn Try.prog Zt2:=⟨⟨by kernel_rfl,by kernel_rfl,by kernel_rfl⟩,⟨⟨by kernel_rfl,by kernel_rfl,by kernel_rfl⟩,⟨⟨by kernel_rfl,by kernel_rfl,by kernel_rfl⟩,⟨⟨by kernel_rfl,by kernel_rfl,by kernel_rfl⟩,⟨⟨by kernel_rfl,by kernel_rfl,by kernel_rfl⟩,⟨⟨by kernel_rfl,by kernel_rfl,by kernel_rfl⟩,⟨⟨by kernel_rfl,by kernel_rfl,by kernel_rfl⟩,⟨⟨by kernel_rfl,by kernel_rfl,by kernel_rfl⟩,⟨⟨by kernel_rfl,by kernel_rfl,by kernel_rfl⟩,⟨⟨by kernel_rfl,by kernel_rfl,by kernel_rfl⟩,⟨⟨by kernel_rfl,by kernel_rfl,by kernel_rfl⟩,⟨⟨by kernel_rfl,by kernel_rfl,by kernel_rfl⟩,⟨⟨by kernel_rfl,by kernel_rfl,by kernel_rfl⟩,⟨⟨by kernel_rfl,by kernel_rfl,by kernel_rfl⟩,⟨⟨by kernel_rfl,by kernel_rfl,by kernel_rfl⟩,⟨⟨by kernel_rfl,by kernel_rfl,by kernel_rfl⟩,⟨⟨by kernel_rfl,by kernel_rfl,by kernel_rfl⟩,⟨⟨by kernel_rfl,by kernel_rfl,by kernel_rfl⟩,⟨⟨by kernel_rfl,by kernel_rfl,by kernel_rfl⟩,⟨⟨by kernel_rfl,by kernel_rfl,by kernel_rfl⟩,⟨⟨by kernel_rfl,by kernel_rfl,by kernel_rfl⟩,⟨⟨by kernel_rfl,by kernel_rfl,by kernel_rfl⟩,⟨⟨by kernel_rfl,by kernel_rfl,by kernel_rfl⟩,⟨⟨by kernel_rfl,by kernel_rfl,by kernel_rfl⟩,⟨⟨by kernel_rfl,by kernel_rfl,by kernel_rfl⟩,⟨⟨by kernel_rfl,by kernel_rfl,by kernel_rfl⟩,⟨⟨by kernel_rfl,by kernel_rfl,by kernel_rfl⟩,⟨⟨by kernel_rfl,by kernel_rfl,by kernel_rfl⟩,⟨⟨by kernel_rfl,by kernel_rfl,by kernel_rfl⟩,⟨⟨by kernel_rfl,by kernel_rfl,by kernel_rfl⟩,⟨⟨by kernel_rfl,by kernel_rfl,by kernel_rfl⟩,⟨⟨by kernel_rfl,by kernel_rfl,by kernel_rfl⟩,⟨⟨by kernel_rfl,by kernel_rfl,by kernel_rfl⟩,⟨⟨by kernel_rfl,by kernel_rfl,by kernel_rfl⟩,⟨⟨by kernel_rfl,by kernel_rfl,by kernel_rfl⟩,⟨⟨by kernel_rfl,by kernel_rfl,by kernel_rfl⟩,⟨⟨by kernel_rfl,by kernel_rfl,by kernel_rfl⟩,⟨⟨by kernel_rfl,by kernel_rfl,by kernel_rfl⟩,⟨⟨by kernel_rfl,by kernel_rfl,by kernel_rfl⟩,⟨⟨by kernel_rfl,by kernel_rfl,by kernel_rfl⟩,⟨⟨by kernel_rfl,by kernel_rfl,by kernel_rfl⟩,⟨⟨by kernel_rfl,by kernel_rfl,by kernel_rfl⟩,⟨⟨by kernel_rfl,by kernel_rfl,by kernel_rfl⟩,⟨⟨by kernel_rfl,by kernel_rfl,by kernel_rfl⟩,⟨⟨by kernel_rfl,by kernel_rfl,by kernel_rfl⟩,⟨⟨by kernel_rfl,by kernel_rfl,by kernel_rfl⟩,⟨⟨by kernel_rfl,by kernel_rfl,by kernel_rfl⟩,⟨⟨by kernel_rfl,by kernel_rfl,by kernel_rfl⟩,⟨⟨by kernel_rfl,by kernel_rfl,by kernel_rfl⟩,⟨⟨by kernel_rfl,by kernel_rfl,by kernel_rfl⟩,⟨⟨by kernel_rfl,by kernel_rfl,by kernel_rfl⟩,⟨⟨by kernel_rfl,by kernel_rfl,by kernel_rfl⟩,⟨⟨by kernel_rfl,by kernel_rfl,by kernel_rfl⟩,⟨⟨by kernel_rfl,by kernel_rfl,by kernel_rfl⟩,trivial⟩⟩⟩⟩⟩⟩⟩⟩⟩⟩⟩⟩⟩⟩⟩⟩⟩⟩⟩⟩⟩⟩⟩⟩⟩⟩⟩⟩⟩⟩⟩⟩⟩⟩⟩⟩⟩⟩⟩⟩⟩⟩⟩⟩⟩⟩⟩⟩⟩⟩⟩⟩⟩⟩
def Zut:Nat->Shape:=λi=>bif Nat.beq i 0 then .tup []else bif Nat.beq i 3 then .int .i64 else bif Nat.beq i 4 then .bool else bif Nat.beq i 5 then .int .u8 else bif Nat.beq i 9 then .str else bif Nat.beq i 22 then .slice else bif Nat.beq i 23 then .slice else bif Nat.beq i 24 then .slice else bif Nat.beq i 26 then .agg [.slice,.slice,.slice,.slice,.bool]else bif Nat.beq i 27 then .fn else bif Nat.beq i 30 then .slice else bif Nat.beq i 32 then .slice else bif Nat.beq i 33 then .int .i64 else bif Nat.beq i 34 then .tup [.agg [.slice,.slice,.slice,.slice,.bool],.int .i64]else bif Nat.beq i 36 then .int .u64 else bif Nat.beq i 37 then .agg [.int .u64,.int .u64,.int .u64,.int .u64]else bif Nat.beq i 38 then .agg [.int .u64,.int .u64,.int .u64,.int .u64]else bif Nat.beq i 39 then .slice else bif Nat.beq i 41 then .agg [.int .u8,.int .u64,.int .u64,.int .u64,.int .u64,.int .i64,.int .i64,.slice]else bif Nat.beq i 45 then .tup [.bool,.int .i64]else bif Nat.beq i 48 then .tup [.slice,.int .i64]else bif Nat.beq i 52 then .fn else bif Nat.beq i 60 then .slice else bif Nat.beq i 66 then .agg [.bool,.bool,.int .u8,.int .u64,.int .u64,.int .u64,.int .u64,.int .i64,.int .i64,.slice]else bif Nat.beq i 67 then .slice else bif Nat.beq i 77 then .slice else bif Nat.beq i 79 then .agg [.slice,.slice,.slice,.slice,.bool]else bif Nat.beq i 88 then .tup [.slice,.int .i64]else bif Nat.beq i 93 then .fn else bif Nat.beq i 94 then .fn else bif Nat.beq i 95 then .ptr else bif Nat.beq i 96 then .slice else bif Nat.beq i 98 then .agg [.slice,.slice]else bif Nat.beq i 100 then .agg [.int .u64,.int .u64,.int .u64,.int .u64,.int .u64,.int .u64,.int .u64]else bif Nat.beq i 102 then .agg [.int .u64,.int .u64,.int .u64,.int .u64,.int .u64,.int .u64,.int .u64,.int .u64,.int .u64,.int .u64,.int .u64,.int .u64,.int .u64,.int .u64,.bool]else bif Nat.beq i 103 then .fn else bif Nat.beq i 106 then .agg [.int .u8,.int .u8,.int .u8]else bif Nat.beq i 123 then .fn else bif Nat.beq i 127 then .agg [.int .u64,.int .u64,.int .u64,.int .u64,.int .u64,.int .u64,.int .u64,.int .u64,.int .u64]else bif Nat.beq i 129 then .agg [.slice,.bool]else bif Nat.beq i 130 then .fn else bif Nat.beq i 132 then .fn else bif Nat.beq i 134 then .slice else bif Nat.beq i 138 then .int .u64 else bif Nat.beq i 141 then .cells else bif Nat.beq i 145 then .fn else bif Nat.beq i 146 then .fn else bif Nat.beq i 148 then .agg [.fn,.fn,.fn,.fn,.fn,.fn,.fn]else bif Nat.beq i 150 then .ptr else bif Nat.beq i 152 then .fn else bif Nat.beq i 153 then .fn else bif Nat.beq i 155 then .slice else bif Nat.beq i 161 then .agg [.fn,.fn,.fn,.fn,.fn,.fn,.fn]else bif Nat.beq i 163 then .ptr else bif Nat.beq i 165 then .int .i64 else bif Nat.beq i 166 then .tup [.int .i64,.int .i64]else bif Nat.beq i 169 then .tup [.int .i64,.bool]else bif Nat.beq i 172 then .int .u32 else bif Nat.beq i 181 then .int .u64 else bif Nat.beq i 185 then .ptr else bif Nat.beq i 189 then .ptr else bif Nat.beq i 190 then .tup [.int .i64,.int .i64]else .any
def EB:Env where
 P:=Try.prog
 loops:=λ_=>⟨[],[],[],false⟩
 cuts:=λ_=>none
 joins:=λ_=>none
 dr:=λ_=>[]
 tt:=ZrQ Zt2
 sh:=Zut
 hint:=λ_=>none
 borrow:=λ_=>[]
 tokOf:=λ_=>0
 frz:=[]
 fix:=none
 yl:=none
 frzNew:=[]
 frzAt:=λ_=>[]
 thaw:=false
 stAt:=λ_=>none
theorem ZaB:EB.ok:=Zn7 Zrr
theorem mix:Try.prog.follows .mixedOrders=true:=by kernel_rfl
abbrev pG:Program:=Try.prog
def swI{α:Type}(z:α)(l:List (Nat×α))(i:Nat):α:=l.foldr (λp r=>bif Nat.beq i p.1 then p.2 else r) z
def nLa:LoopAnn:=⟨[],[],[],false⟩
def dO(i:Nat)(a:List Nat):DOp:=⟨i,[],[],none,a,[]⟩
end Go.Proofs.Ytplacemlpkhmfaa
end
