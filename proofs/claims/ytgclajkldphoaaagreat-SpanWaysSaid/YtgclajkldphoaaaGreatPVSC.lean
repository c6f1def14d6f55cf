/- Part of the proof: conditions and contracts of functions of this program. No condition of its own. -/
import Derived.Test.YtgclajkldphoaaaGreatMc
import Derived.Test.YtgclajkldphoaaaGreatRows
import Derived.Test.YtgclajkldphoaaaGreatPC13J
import Derived.Test.YtgclajkldphoaaaGreatPEnv
set_option linter.unusedVariables false
set_option linter.unusedSimpArgs false
set_option linter.unusedSectionVars false
namespace Go.Proofs.YtgclajkldphoaaaGreat
open Go Go.Eng Go.Rx Go.Proofs Go.RowKit Go.ChangeShapes Go.WideShapes Go.ChangeAt
set_option maxRecDepth 100000
theorem Zzy:ownKnob Tryz.prog.godebug=none:=by kernel_rfl
theorem Zyo:laidOutB Tryz.prog=true:=by kernel_rfl
theorem Zyp{n:Int}(h:(Lit.int .u8 n).wf=true):0<=n/\n < 256:=by
 have:0<=n/\n<=255:=by simpa[Lit.wf,IntKind.min,IntKind.max,IntKind.signed,IntKind.bits]using h
 omega
theorem ZpF{w:World}{a:Addr}{v:Value}(h:w.cell? ((a.add (0*3)).add 0)=some v):∃b o,a=⟨b,o,none⟩:=by
 obtain⟨b,o,sp⟩:=a
 cases sp with
 | none=>exact⟨b,o,rfl⟩
 | some s=>
  exfalso
  have e:(Addr.add (Addr.add ⟨b,o,some s⟩ (0*3)) 0)=⟨b,o,some s⟩:=rfl
  rw[e]at h
  unfold World.cell? at h
  split at h
  ·simp at h
  ·cases h
theorem Zvi:Tryz.prog.cellsOf 22=1/\Tryz.prog.cellsOf 66=3:=⟨by kernel_rfl,by kernel_rfl⟩
theorem ZtZ{H:Type}{enc:TypeId×Value->H}{w:World}{base:Nat}{sp:Nat->Bool}{fO:Bool}{n:Nat}{cs:List Value}{x:DataW H×List MemPlace}(h:DataW.trod enc Tryz.prog w base sp fO n 66 cs=some x):
  ∃s:Nat×Nat×Nat,cs=[.int .u8 s.1,.int .u8 s.2.1,.int .u8 s.2.2]/\s.1 < 256/\s.2.1 < 256/\s.2.2 < 256:=by
 obtain⟨xs,k,rfl,rfl,bO,cJ,hx⟩:=DataW.trod_struct (fs:=(Tryz.prog.fieldsOf 66)) (by kernel_rfl) h
 rw[Zvi.2]at bO
 have hf:(Tryz.prog.fieldsOf 66)=#[⟨ "Kind",5,0,false, "", "",0⟩,⟨ "N",5,1,false, "", "",1⟩,⟨ "M",5,2,false, "", "",2⟩]:=by kernel_rfl
 rw[hf]at hx cJ
 have hc:Tryz.prog.cellsOf 5=1:=by kernel_rfl
 obtain⟨c0,c1,c2,rfl⟩:∃a b c,cs=[a,b,c]:=by
  match cs,bO with
  | [a,b,c],_=>exact⟨a,b,c,rfl⟩
 have get:∀i,i < 3->∃z,xs[i]?=some z:=λi hi=>⟨xs[i]'(by rw[cJ];exact hi),List.getElem?_eq_getElem _⟩
 have h0:DataW.trod enc Tryz.prog w base sp fO k 5 (List.take (Tryz.prog.cellsOf 5) (List.drop 0 [c0,c1,c2]))=xs[0]?:=hx 0 _ rfl
 have h1:DataW.trod enc Tryz.prog w base sp fO k 5 (List.take (Tryz.prog.cellsOf 5) (List.drop 1 [c0,c1,c2]))=xs[1]?:=hx 1 _ rfl
 have h2:DataW.trod enc Tryz.prog w base sp fO k 5 (List.take (Tryz.prog.cellsOf 5) (List.drop 2 [c0,c1,c2]))=xs[2]?:=hx 2 _ rfl
 obtain⟨z0,e0⟩:=get 0 (by omega)
 obtain⟨z1,e1⟩:=get 1 (by omega)
 obtain⟨z2,e2⟩:=get 2 (by omega)
 rw[e0,hc]at h0
 rw[e1,hc]at h1
 rw[e2,hc]at h2
 have g0:DataW.trod enc Tryz.prog w base sp fO k 5 [c0]=some z0:=h0
 have g1:DataW.trod enc Tryz.prog w base sp fO k 5 [c1]=some z1:=h1
 have g2:DataW.trod enc Tryz.prog w base sp fO k 5 [c2]=some z2:=h2
 obtain⟨n0,k0,_,w0⟩:=DataW.trod_int Tryz.underlying5 g0
 obtain⟨n1,k1,_,w1⟩:=DataW.trod_int Tryz.underlying5 g1
 obtain⟨n2,k2,_,w2⟩:=DataW.trod_int Tryz.underlying5 g2
 simp at k0 k1 k2
 have:=Zyp w0
 have:=Zyp w1
 have:=Zyp w2
 obtain⟨m0,rfl⟩:∃k:Nat,n0=k:=⟨n0.toNat,by omega⟩
 obtain⟨m1,rfl⟩:∃k:Nat,n1=k:=⟨n1.toNat,by omega⟩
 obtain⟨m2,rfl⟩:∃k:Nat,n2=k:=⟨n2.toNat,by omega⟩
 exact⟨(m0,m1,m2),by rw[k0,k1,k2],by simp;omega,by simp;omega,by simp;omega⟩
theorem ZpG{H:Type}{enc:TypeId×Value->H}{W:World}{fO:Bool}{n:Nat}{cs:List Value}{x:DataW H×List MemPlace}(h:DataW.trod enc Tryz.prog W 0 (λ_=>true) fO n 22 cs=some x):
  ∃l a c,cs=[.slice a l.length c]/\Sm (ZwL W) a l/\l.length<=c:=by
 rcases Go.Deep.open_slice Tryz.underlying22 h with⟨cQ,_⟩|⟨a,len,m,m',n',D,Pl,cQ,hb,hl,hm,eR,_,hx⟩
 ·exact⟨[],none,0,cQ,⟨by simp,by simp,λi s hi=>by simp at hi⟩,Nat.le_refl _⟩
 ·simp only[if_true]at eR
  subst eR
  rw[Zvi.2]at hx
  obtain⟨F,hF⟩:=Go.Deep.choose_lt (α:=Nat×Nat×Nat) (n:=m') (p:=λi s=>(∀j v,[Value.int .u8 (s.1:Nat),.int .u8 (s.2.1:Nat),.int .u8 (s.2.2:Nat)][j]?=some v->W.cell? ((a.add (i*3)).add j)=some v)/\s.1 < 256/\s.2.1 < 256/\s.2.2 < 256) (λi hi=>by
   obtain⟨cs,h1,h2⟩:=hx i hi
   obtain⟨s,rfl,hs⟩:=ZtZ h2
   obtain⟨_,_,hc⟩:=World.cells?_some h1
   refine⟨s,λj v hj=>?_,hs⟩
   have bF:=(List.getElem?_eq_some_iff.1 hj).1
   rw[hc j (by simpa using bF)];exact hj)
  refine⟨(List.range len).map F,some a,m',by rw[cQ];simp,⟨by simp[maxLen]at hm ⊢;omega,?_,?_⟩,by simpa using hl⟩
  ·intro s hs
   obtain⟨i,hi,rfl⟩:=List.mem_map.1 hs
   exact(hF i (by have:=List.mem_range.1 hi;omega)).2
  ·intro i s hi
   rw[List.getElem?_map]at hi
   obtain⟨i',hi',rfl⟩:=Option.map_eq_some_iff.1 hi
   have bF:i < len:=by have:=(List.getElem?_eq_some_iff.1 hi').1;simpa using this
   have e:i'=i:=by rw[List.getElem?_range bF]at hi';exact(Option.some.inj hi').symm
   subst e
   obtain⟨h1,_⟩:=hF i' (by omega)
   obtain⟨b,o,rfl⟩:=ZpF ((hF 0 (by omega)).1 0 _ rfl)
   refine⟨b,o,rfl,λj v hj=>?_⟩
   have:=h1 j v hj
   rw[ZbT,ZbT]at this
   exact this
theorem Zkl(a:Option Addr)(n c:Nat):(Value.slice a n c).cells.toList=[.slice a n c]:=rfl
theorem Zkm{H:Type}{enc:TypeId×Value->H}{W:World}{fO:Bool}{v:Value}{d:DataW H}{ps:List MemPlace}{r:Reach}{b0:Nat}(gB:Value.okWide Tryz.prog W r b0 22 v)(h:DataW.Trod enc Tryz.prog W 0 (λ_=>true) fO 22 v d ps):
  ∃l a c,v=.slice a l.length c/\Sm (ZwL W) a l/\l.length<=c:=by
 obtain⟨n,h⟩:=h
 obtain⟨a0,len0,cap0,rfl⟩:=okWide_slice Tryz.underlying22 gB
 rw[Zkl]at h
 obtain⟨l,a,c,cQ,h1,h2⟩:=ZpG h
 exact⟨l,a,c,by simpa using cQ,h1,h2⟩
theorem Zzz:Tryz.prog.cellsOf 5=1:=by kernel_rfl
theorem Zyq{H:Type}{enc:TypeId×Value->H}{W:World}{fO:Bool}{v:Value}{d:DataW H}{ps:List MemPlace}{r:Reach}{b0:Nat}(gB:Value.okWide Tryz.prog W r b0 23 v)(h:DataW.Trod enc Tryz.prog W 0 (λ_=>true) fO 23 v d ps):
  ∃s a c,v=.slice a s.length c/\Byt (ZwL W) a s/\s.length<=c/\s.length<=9223372036854775807:=by
 obtain⟨n,h⟩:=h
 obtain⟨a0,len0,cap0,rfl⟩:=okWide_slice Tryz.underlying23 gB
 rw[Zkl]at h
 rcases Go.Deep.open_slice1 Tryz.underlying23 Zzz h with⟨cQ,_⟩|⟨a,len,m,m',n',V,D,Pl,cQ,hb,hl,hm,eR,_,hx⟩
 ·exact⟨[],none,0,by simpa using cQ,⟨.inl rfl,by simp⟩,Nat.le_refl _,by simp⟩
 ·simp only[if_true]at eR
  subst eR
  have hm':m'<=9223372036854775807:=by simp[maxLen]at hm;omega
  obtain⟨F,hF⟩:=Go.Deep.choose_lt (α:=Nat) (n:=m') (p:=λi s=>W.cell? (a.add i)=some (.int .u8 (s:Nat))/\s < 256) (λi hi=>by
   obtain⟨h1,h2⟩:=hx i hi
   obtain⟨k,hk,_,hw⟩:=DataW.trod_int Tryz.underlying5 h2
   have:=Zyp hw
   obtain⟨k',rfl⟩:∃k':Nat,k=k':=⟨k.toNat,by omega⟩
   simp at hk
   exact⟨k',by rw[h1,hk],by omega⟩)
  refine⟨(List.range len).map F,some a,m',by have:=cQ;simp at this ⊢;exact this,⟨?_,?_⟩,by simpa using hl,by simp;omega⟩
  ·by_cases h0:len=0
   ·left;subst h0;rfl
   ·right
    obtain⟨b,o,rfl⟩:=ZpF (a:=a) (v:=.int .u8 (F 0:Nat)) (by
     have:=(hF 0 (by omega)).1
     exact this)
    refine⟨b,o,rfl,λj v hj=>?_⟩
    rw[List.map_map,List.getElem?_map]at hj
    obtain⟨i',hi',rfl⟩:=Option.map_eq_some_iff.1 hj
    have bF:j < len:=by have:=(List.getElem?_eq_some_iff.1 hi').1;simpa using this
    have e:i'=j:=by rw[List.getElem?_range bF]at hi';exact(Option.some.inj hi').symm
    subst e
    have:=(hF i' (by omega)).1
    rw[ZbT]at this
    exact this
  ·intro c hc
   obtain⟨i,hi,rfl⟩:=List.mem_map.1 hc
   exact(hF i (by have:=List.mem_range.1 hi;omega)).2
end Go.Proofs.YtgclajkldphoaaaGreat
namespace Go.Proofs.YtgclajkldphoaaaGreat
open Go Go.Eng Go.Proofs Go.RowKit
open Go.Value (int slice agg bool string tuple func)
open Go.IntKind (u8 u64 i64)
set_option maxRecDepth 100000
noncomputable def ZhR:Env:={ EB with
 loops:=(λi=>bif Nat.beq i 7 then⟨[(47,.int .i64)],[],[],false⟩ else bif Nat.beq i 15 then⟨[(102,.int .i64)],[],[],false⟩ else bif Nat.beq i 25 then⟨[(136,.int .i64)],[],[],false⟩ else⟨[],[],[],false⟩)
 joins:=(λi=>bif Nat.beq i 12 then some [(98,.bool)]else bif Nat.beq i 21 then some [(132,.bool)]else bif Nat.beq i 30 then some [(168,.bool)]else bif Nat.beq i 36 then some [(238,.bool)]else none)
 dr:=(λi=>bif Nat.beq i 5 then[⟨0,[7],[],none,[],[]⟩,⟨1,[],[],none,[0],[]⟩,⟨2,[8],[],none,[],[]⟩,⟨3,[],[],none,[0,1,2],[1]⟩,⟨4,[41],[41],none,[0,1,2,3],[3]⟩,⟨5,[41],[41],none,[0,1,2,3,4],[4]⟩,⟨6,[9],[9],none,[],[]⟩,⟨7,[9],[9],none,[0,1,2,3,4,5,6],[]⟩]else bif Nat.beq i 27 then[⟨0,[22],[],none,[],[]⟩,⟨1,[],[],none,[],[]⟩,⟨2,[],[],none,[0,1],[]⟩,⟨3,[],[],none,[0,1,2],[]⟩,⟨4,[22],[],none,[0,1,2,3],[]⟩,⟨5,[22],[],none,[0,1,2,3,4],[1]⟩,⟨6,[],[],none,[0,1,2,3,4,5],[]⟩,⟨7,[],[],none,[0,1,2,3,4,5,6],[]⟩,⟨8,[22],[],none,[0,1,2,3,4,5,6,7],[]⟩,⟨9,[22],[],none,[0,1,2,3,4,5,6,7,8],[1]⟩,⟨10,[22],[],none,[0,1,2,3,4,5,6,7],[]⟩,⟨11,[22],[],none,[0,1,2,3,4,5,6,7,10],[1]⟩,⟨12,[],[],none,rg 0 12,[]⟩,⟨13,[],[],none,rg 0 13,[]⟩,⟨14,[],[],none,rg 0 14,[]⟩,⟨15,[22],[],none,rg 0 15,[]⟩,⟨16,[22],[],none,rg 0 16,[1]⟩,⟨17,[],[],none,rg 0 15,[]⟩,⟨18,[],[],none,rg 0 15++[17],[]⟩,⟨19,[],[],none,rg 0 19,[]⟩,⟨20,[],[],none,rg 0 20,[]⟩,⟨21,[],[],none,rg 0 21,[]⟩]else bif Nat.beq i 32 then[⟨0,[],[],none,[],[]⟩,⟨1,[],[],none,[],[]⟩,⟨2,[],[],none,[1],[]⟩,⟨3,[],[],none,[0,1,2],[]⟩,⟨4,[],[],none,[0,1,2,3],[]⟩,⟨5,[],[],none,[0,1,2,3,4],[]⟩,⟨6,[],[],none,[0,1,2,3,4,5],[]⟩,⟨7,[],[],none,[0,1,2,3,4,5,6],[]⟩,⟨8,[],[],none,[0,1,2,3,4,5,6,7],[]⟩,⟨9,[],[],none,[0,1,2,3,4,5,6,7,8],[]⟩,⟨10,[],[],none,[0,1,2,3,4,5,6,7,8,9],[]⟩,⟨11,[],[],none,[0,1,2,3,4,5,6,7,8,9,10],[]⟩,⟨12,[],[],none,rg 0 12,[]⟩,⟨13,[],[],none,rg 0 13,[]⟩,⟨14,[],[],none,rg 0 14,[]⟩,⟨15,[],[],none,rg 0 15,[]⟩,⟨16,[],[],none,rg 0 12,[]⟩,⟨17,[],[],none,rg 0 12,[]⟩,⟨18,[],[],none,rg 0 12++[16,17],[]⟩,⟨19,[],[],none,rg 0 12++[16,17,18],[]⟩,⟨20,[],[],none,rg 0 12++rg 16 4,[]⟩,⟨21,[],[],none,rg 0 21,[]⟩,⟨22,[],[],none,rg 0 22,[]⟩,⟨23,[],[],none,rg 0 23,[]⟩,⟨24,[],[],none,rg 0 24,[]⟩,⟨25,[],[],none,rg 0 24,[]⟩,⟨26,[],[],none,rg 0 26,[]⟩,⟨27,[],[],none,rg 0 27,[]⟩,⟨28,[],[],none,rg 0 28,[]⟩,⟨29,[],[],none,rg 0 24,[]⟩,⟨30,[],[],none,rg 0 24++[29],[]⟩,⟨31,[],[],none,rg 0 31,[]⟩,⟨32,[],[],none,rg 0 32,[]⟩]else bif Nat.beq i 34 then[⟨0,[7],[],none,[],[]⟩,⟨1,[],[],none,[],[]⟩,⟨2,[],[],none,[],[]⟩,⟨3,[],[],none,[2],[]⟩,⟨4,[],[],none,[2,3],[]⟩,⟨5,[],[],none,[2,3,4],[]⟩,⟨6,[],[],none,[1,2,3,4,5],[]⟩,⟨7,[],[],none,[0,1,2,3,4,5,6],[]⟩,⟨8,[],[],none,[0,1,2,3,4,5,6,7],[]⟩,⟨9,[],[],none,[0,1,2,3,4,5,6,7,8],[]⟩,⟨10,[],[],none,[0,1,2,3,4,5,6,7,8],[]⟩,⟨11,[],[],none,[0,1,2,3,4,5,6,7,8,9],[]⟩,⟨12,[],[],none,rg 0 12,[]⟩]else bif Nat.beq i 35 then[⟨0,[8],[],none,[],[]⟩,⟨1,[],[],none,[],[]⟩,⟨2,[],[],none,[],[]⟩,⟨3,[],[],none,[2],[]⟩,⟨4,[],[],none,[2,3],[]⟩,⟨5,[],[],none,[2,3,4],[]⟩,⟨6,[],[],none,[1,2,3,4,5],[]⟩,⟨7,[],[],none,[0,1,2,3,4,5,6],[]⟩,⟨8,[],[],none,[0,1,2,3,4,5,6,7],[]⟩,⟨9,[],[],none,[0,1,2,3,4,5,6,7,8],[]⟩,⟨10,[],[],none,[0,1,2,3,4,5,6,7,8],[]⟩,⟨11,[],[],none,[0,1,2,3,4,5,6,7,8,9],[]⟩,⟨12,[],[],none,rg 0 12,[]⟩]else[])
 tokC:=(λi=>bif Nat.beq i 120 then some (120,1)else none)
 gb:=true
 thaw:=true
 cuts:=λi=>bif Nat.beq i 14 then some ⟨[],[],[],false⟩ else bif Nat.beq i 34 then some ⟨[],[],[],false⟩ else none
 lentC:=(λi=>bif Nat.beq i 122 then some [(120,1)]else none) }
abbrev Zak:Int->Int->Int->Int->Int->Int->Int->Option Addr->Nat->Nat->Int->Int->Int->Int->Int->Int->Int->Option Addr->Nat->Nat->List Value:=λ(n aa ab ac ad ae af:Int) (a:
 Option Addr) (ag c:Nat) (ar au av aw ax ay az:Int) (ch:Option Addr) (a0 a1:Nat)=>[int u8 n,int u64 aa,int u64 ab,int u64 ac,int u64 ad,int i64 ae,int i64 af,slice a ag c,int u8 ar,int u64 au,int u64
 av,int u64 aw,int u64 ax,int i64 ay,int i64 az,slice ch a0 a1]
abbrev Zbc:Int->Int->Int->Int->Int->Int->Int->Option Addr->Nat->Nat->Int->Int->Int->Int->Int->Int->Int->Option Addr->Nat->Nat->Nat->Option Box:=λ(n aa ab ac ad ae af:Int) (a:
 Option Addr) (ag c:Nat) (ar au av aw ax ay az:Int) (ch:Option Addr) (a0 a1 b:Nat)=>some (Box.mk b (Zak n aa ab ac ad ae af a ag c ar au av aw ax ay az ch a0 a1) 30 16 true true)
abbrev ZaV:Int->Int->Int->Int->Int->Int->Int->Option Addr->Nat->Nat->Nat->Option Box:=λ(n aa ab ac ad ae af:Int)(a:Option Addr)(ag c b:Nat)=>some (Box.mk b [int u8 n,int u64
 aa,int u64 ab,int u64 ac,int u64 ad,int i64 ae,int i64 af,slice a ag c] 30 8 false true)
abbrev ZcS:Int->Int->Int->Int->Int->Int->Int->Option Addr->Nat->Nat->Int->Int->Int->Int->Int->Int->Int->Option Addr->Nat->Nat->Nat->Nat->Int->Int->Int->Int->Int->Int->Int->
 Option Addr->Nat->Nat->Int->Int->Int->Int->Int->Int->Int->Option Addr->Nat->Nat->Nat->Int->Int->Int->Int->Int->Int->Int->Option Addr->Nat->Nat->Nat->Nat->List (Option Box):=λ(n aa ab ac ad
 ae af:Int) (a:Option Addr) (ag c:Nat) (ar au av aw ax ay az:Int) (ch:Option Addr) (a0 a1 b bs:Nat) (a3 a6 a7 a8 a9 ba bb:Int) (cw:Option Addr) (bc bd:Nat) (be bf bg bh bi bj bk:Int) (a5:Option
 Addr) (bl bm a2:Nat) (ah ai aj ak al am an:Int) (cn:Option Addr) (ao ap bo bn:Nat)=>[Zbc n aa ab ac ad ae af a ag c ah ai aj ak al am an cn ao ap bn,Zbc a3 a6 a7 a8 a9 ba bb cw bc
 bd be bf bg bh bi bj bk a5 bl bm a2,Zbc a3 a6 a7 a8 a9 ba bb cw bc bd be bf bg bh bi bj bk a5 bl bm a2,ZaV ah ai aj ak al am an cn ao ap bo,ZaV ah ai aj ak al am an cn ao ap
 bo,ZaV ar au av aw ax ay az ch a0 a1 bs,ZaV n aa ab ac ad ae af a ag c b]
abbrev ZgY:Int->Int->Int->Int->Int->Int->Int->Option Addr->Nat->Nat->Int->Int->Int->Int->Int->Int->Int->Option Addr->Nat->Nat->Int->Nat->Option Box:=λ(n aa ab ac ad ae af:
 Int) (a:Option Addr) (ag c:Nat) (ar au av aw ax ay az:Int) (ch:Option Addr) (a0 a1:Nat) (a3:Int) (b:Nat)=>some (Box.mk b (List.take 8 (List.drop (Int.toNat a3*8) (Zak n aa ab ac ad ae af
 a ag c ar au av aw ax ay az ch a0 a1))) 30 8 false true)
abbrev Zaj:Int->Int->Int->Int->Int->Int->Int->Option Addr->Nat->Nat->Int->Int->Int->Int->Int->Int->Int->Option Addr->Nat->Nat->Nat->Nat->Int->Int->Int->Int->Int->Int->Int->
 Option Addr->Nat->Nat->Int->Int->Int->Int->Int->Int->Int->Option Addr->Nat->Nat->Nat->Int->Int->Int->Int->Int->Int->Int->Option Addr->Nat->Nat->Nat->Nat->Int->Nat->List (Option Box):=λ(n
 aa ab ac ad ae af:Int) (a:Option Addr) (ag c:Nat) (ar au av aw ax ay az:Int) (ch:Option Addr) (a0 a1 b bs:Nat) (a3 a6 a7 a8 a9 ba bb:Int) (cw:Option Addr) (bc bd:Nat) (be bf bg bh bi bj bk:Int) (a5:
 Option Addr) (bl bm a2:Nat) (ah ai aj ak al am an:Int) (cn:Option Addr) (ao ap bo bn:Nat) (aq:Int) (bu:Nat)=>[ZgY n aa ab ac ad ae af a ag c ah ai aj ak al am an cn ao ap aq bu,
 Zbc n aa ab ac ad ae af a ag c ah ai aj ak al am an cn ao ap bn,Zbc a3 a6 a7 a8 a9 ba bb cw bc bd be bf bg bh bi bj bk a5 bl bm a2,Zbc a3 a6 a7 a8 a9 ba bb cw bc bd be bf bg
 bh bi bj bk a5 bl bm a2,ZaV ah ai aj ak al am an cn ao ap bo,ZaV ah ai aj ak al am an cn ao ap bo,ZaV ar au av aw ax ay az ch a0 a1 bs,ZaV n aa ab ac ad ae af
 a ag c b]
def Zed(p0a:Option Addr)(p0n p0c:Nat)(p1a:Option Addr)(p1n p1c:Nat)(p2a:Option Addr)(p2n p2c:Nat)(m:Mem)(R:RT):Prop:=
 ∃(R_1:RT),True/\CX Tryz.prog 4 (Array.mk []) m [] R_1/\Zaz Shape.bool R_1/\∀(b:Bool)(m':Mem),Mem.le m m'->R_1 (bool b) m' []->br (!b) (∃(m'':Mem),Mem.le m m''/\Mem.le m'' m'/\R (bool false) m''
 []) (∃(R_2:RT),True/\CX Tryz.prog 5 (Array.mk [slice p0a p0n p0c]) m' [] R_2/\Zaz (shT) R_2/\∀(n aa ab ac ad ae af:Int)(a:Option Addr)(ag c:Nat)(cx:Mem),Mem.le m' cx->R_2 (agg (Array.mk [int u8 n,
 int u64 aa,int u64 ab,int u64 ac,int u64 ad,int i64 ae,int i64 af,slice a ag c])) cx []->∃(R_3:RT),True/\CX Tryz.prog 5 (Array.mk [slice p1a p1n p1c]) cx [] R_3/\Zaz (shT) R_3/\∀(ar au av aw ax ay az:
 Int) (a5:Option Addr) (a0 a1:Nat) (m':Mem),Mem.le cx m'->R_3 (agg (Array.mk [int u8 ar,int u64 au,int u64 av,int u64 aw,int u64 ax,int i64 ay,int i64 az,slice a5 a0 a1])) m' []->∀(b bs:Nat),(((0:
 Int)<=if(14:Int) < (↑p2n:Int)then(14:Int)else(↑p2n:Int))/\(if(14:Int) < (↑p2n:Int)then(14:Int)else(↑p2n:Int))<=(↑p2c:Int))/\∃(f:Fx),∃(R_4:RT),R_4=f 1 [agg (Array.mk [int u8 n,
 int u64 aa,int u64 ab,int u64 ac,int u64 ad,int i64 ae,int i64 af,slice a ag c])] m'/\CX Tryz.prog 7 (Array.mk [agg (Array.mk [int u8 n,int u64 aa,int u64 ab,int u64 ac,int u64 ad,int i64 ae,int i64 af,
 slice a ag c])]) m' [] R_4/\Zaz (shT) R_4/\∀(a3 a6 a7 a8 a9 ba bb:Int)(bp:Option Addr)(bc bd:Nat)(co:Mem),Mem.le m' co->R_4 (agg (Array.mk [int u8 a3,int u64 a6,int u64 a7,int u64 a8,int u64 a9,int
 i64 ba,int i64 bb,slice bp bc bd])) co []->∃(R_5:RT),R_5=f 3 [agg (Array.mk [int u8 ar,int u64 au,int u64 av,int u64 aw,int u64 ax,int i64 ay,int i64 az,slice a5 a0 a1])] co/\CX Tryz.prog 7 (Array.mk
 [agg (Array.mk [int u8 ar,int u64 au,int u64 av,int u64 aw,int u64 ax,int i64 ay,int i64 az,slice a5 a0 a1])]) co [] R_5/\Zaz (shT) R_5/\∀(be bf bg bh bi bj bk:Int)(bq:Option Addr)(bl bm:Nat) (ci:
 Mem),Mem.le co ci->R_5 (agg (Array.mk [int u8 be,int u64 bf,int u64 bg,int u64 bh,int u64 bi,int i64 bj,int i64 bk,slice bq bl bm])) ci []->∀(a2:Nat),Mem.free ci a2->∃(R_6:RT),R_6=f 5 [slice (some
 (Addr.mk a2 0 none)) 2 2] (Mem.add ci a2 (Zak a3 a6 a7 a8 a9 ba bb bp bc bd be bf bg bh bi bj bk bq bl bm))/\CX Tryz.prog 6 (Array.mk [slice (some (Addr.mk a2 0 none)) 2 2]) (Mem.add ci a2
 (Zak a3 a6 a7 a8 a9 ba bb bp bc bd be bf bg bh bi bj bk bq bl bm)) [] R_6/\Zaz (shT) R_6/\∀(ah ai aj ak al am an:Int)(a4:Option Addr)(ao ap:Nat)(dc:Mem),Mem.le (Mem.add ci a2
 (Zak a3 a6 a7 a8 a9 ba bb bp bc bd be bf bg bh bi bj bk bq bl bm)) dc->R_6 (agg (Array.mk [int u8 ah,int u64 ai,int u64 aj,int u64 ak,int u64 al,int i64 am,int i64 an,slice a4 ao ap])) dc []->∀
 (bo:Nat) (M:Mem),Mem.le m' M->Mem.le co M->Mem.le ci M->Mem.le (Mem.add ci a2 (Zak a3 a6 a7 a8 a9 ba bb bp bc bd be bf bg bh bi bj bk bq bl bm)) M->Mem.le dc M->∀(bn:Nat),Mem.free M bn->∃(I
 : IT),(∃(aq:Nat),I [int i64 0] [] [] (Mem.add M bn (Zak n aa ab ac ad ae af a ag c ah ai aj ak al am an a4 ao ap)) aq)/\∀(aq:Int)(m':Mem)(cy:Nat),True->I [int i64 aq] [] [] m' cy->br
 (decide (aq < (↑(2:Nat):Int))) (Zag aq 2/\chk (Nat.ble (Int.toNat aq*8) (1+1+1+1+1+1+1+1)) (∀(bu:Nat),chk (Nat.beq (List.length (List.take 8 (List.drop (Int.toNat aq*8) (Zak
 n aa ab ac ad ae af a ag c ah ai aj ak al am an a4 ao ap)))) 8&&ZeL (List.take 8 (List.drop (Int.toNat aq*8) (Zak n aa ab ac ad ae af a ag c ah ai aj ak al am an a4 ao ap)))) (chk (Nat.beq
 (List.length (List.take 8 (List.drop (Int.toNat aq*8) (Zak n aa ab ac ad ae af a ag c ah ai aj ak al am an a4 ao ap)))) 8&&true) (∃(R_7:RT),True/\CX Tryz.prog 8 (Array.mk [agg (Array.mk (ZaH
 [bool false,bool false,int u8 0,int u64 0,int u64 0,int u64 0,int u64 0,int i64 0,int i64 0,slice none 0 0] 2 (List.take 8 (List.drop (Int.toNat aq*8) (Zak n aa ab ac ad ae af a ag c ah ai aj ak
 al am an a4 ao ap)))))]) m' [] R_7/\Zaz (Shape.int i64) R_7/\∀(df:Int)(ct:Mem),Mem.le m' ct->R_7 (int i64 df) ct []->br (!df == (0:Int)) (ZaG (ZcS n aa ab ac ad ae af a ag c ar au av aw ax
 ay az a5 a0 a1 b bs a3 a6 a7 a8 a9 ba bb bp bc bd be bf bg bh bi bj bk bq bl bm a2 ah ai aj ak al am an a4 ao ap bo bn)/\∃(n':Nat),n' < cy/\I [int i64 (IntKind.wrap i64 (aq+(1:Int)))] [] [] ct n') (∃(R_8:
 RT),True/\CX Tryz.prog 9 (Array.mk [agg (Array.mk (List.take 8 (List.drop (Int.toNat aq*8) (Zak n aa ab ac ad ae af a ag c ah ai aj ak al am an a4 ao ap)))),slice (Za0 p2a 0 p2c 1) (Int.toNat (if
 (14:Int) < (↑p2n:Int)then(14:Int)else(↑p2n:Int)) - 0) (p2c - 0)]) ct [] R_8/\Zaz (Shape.tup [Shape.bool,Shape.int i64]) R_8/\∀(cp:Bool)(dg:Int)(m':Mem),Mem.le ct m'->R_8 (tuple (Array.mk [bool
 cp,int i64 dg])) m' []->∃(R_9:RT),True/\CX Tryz.prog 10 (Array.mk [agg (Array.mk (List.take 8 (List.drop (Int.toNat aq*8) (Zak n aa ab ac ad ae af a ag c ah ai aj ak al am an a4 ao ap)))),slice
 (Za0 p2a 0 p2c 1) (Int.toNat (if(14:Int) < (↑p2n:Int)then(14:Int)else(↑p2n:Int)) - 0) (p2c - 0)]) m' [] R_9/\Zaz (Shape.tup [Shape.slice,Shape.int i64]) R_9/\∀(cj:Option Addr)(bw dn:Nat) (dd:
 Int) (ck:Mem),Mem.le m' ck->R_9 (tuple (Array.mk [slice cj bw dn,int i64 dd])) ck []->∃(J:JT),(∃(bv:Bool),br (!dg == (0:Int)) (ZaG (Zaj n aa ab ac ad ae af a ag c ar au av aw ax ay az a5
 a0 a1 b bs a3 a6 a7 a8 a9 ba bb bp bc bd be bf bg bh bi bj bk bq bl bm a2 ah ai aj ak al am an a4 ao ap bo bn aq bu)/\[bool true]=[bool bv]) (br (!cp == (dd == (0:Int))) (ZaG (Zaj n aa ab ac ad ae
 af a ag c ar au av aw ax ay az a5 a0 a1 b bs a3 a6 a7 a8 a9 ba bb bp bc bd be bf bg bh bi bj bk bq bl bm a2 ah ai aj ak al am an a4 ao ap bo bn aq bu)/\[bool true]=[bool bv]) (br (!cp) (br (!dd == (141:Int))
 (ZaG (Zaj n aa ab ac ad ae af a ag c ar au av aw ax ay az a5 a0 a1 b bs a3 a6 a7 a8 a9 ba bb bp bc bd be bf bg bh bi bj bk bq bl bm a2 ah ai aj ak al am an a4 ao ap bo bn aq bu)/\[bool true]=[bool
 bv]) (br (!(↑bw:Int) == (0:Int)) (ZaG (Zaj n aa ab ac ad ae af a ag c ar au av aw ax ay az a5 a0 a1 b bs a3 a6 a7 a8 a9 ba bb bp bc bd be bf bg bh bi bj bk bq bl bm a2 ah ai aj ak al am an a4 ao ap
 bo bn aq bu)/\[bool true]=[bool bv]) (br cp (∃(R:RT),True/\CX Tryz.prog 11 (Array.mk [agg (Array.mk (List.take 8 (List.drop (Int.toNat aq*8) (Zak n aa ab ac ad ae af a ag c ah ai aj ak al am an
 a4 ao ap))))]) ck [] R/\Zaz (Shape.int i64) R/\∀(ca:Int)(m':Mem),Mem.le ck m'->R (int i64 ca) m' []->ZaG (Zaj n aa ab ac ad ae af a ag c ar au av aw ax ay az a5 a0 a1 b bs a3 a6 a7 a8 a9 ba
 bb bp bc bd be bf bg bh bi bj bk bq bl bm a2 ah ai aj ak al am an a4 ao ap bo bn aq bu)/\[bool !(↑bw:Int) == ca]=[bool bv]) (ZaG (Zaj n aa ab ac ad ae af a ag c ar au av aw ax ay az a5 a0 a1 b bs
 a3 a6 a7 a8 a9 ba bb bp bc bd be bf bg bh bi bj bk bq bl bm a2 ah ai aj ak al am an a4 ao ap bo bn aq bu)/\[bool false]=[bool bv])))) (br cp (∃(R:RT),True/\CX Tryz.prog 11 (Array.mk [agg (Array.mk (List.take 8
 (List.drop (Int.toNat aq*8) (Zak n aa ab ac ad ae af a ag c ah ai aj ak al am an a4 ao ap))))]) ck [] R/\Zaz (Shape.int i64) R/\∀(ca:Int)(m':Mem),Mem.le ck m'->R (int i64 ca) m' []->ZaG
 (Zaj n aa ab ac ad ae af a ag c ar au av aw ax ay az a5 a0 a1 b bs a3 a6 a7 a8 a9 ba bb bp bc bd be bf bg bh bi bj bk bq bl bm a2 ah ai aj ak al am an a4 ao ap bo bn aq bu)/\[bool !(↑bw:Int) == ca] =
 [bool bv]) (ZaG (Zaj n aa ab ac ad ae af a ag c ar au av aw ax ay az a5 a0 a1 b bs a3 a6 a7 a8 a9 ba bb bp bc bd be bf bg bh bi bj bk bq bl bm a2 ah ai aj ak al am an a4 ao ap bo bn aq bu)/\[bool
 false]=[bool bv]))))/\br bv (∃(m'':Mem),Mem.le m m''/\Mem.le m'' ck/\R (bool false) m'' []) (ZaG (Zaj n aa ab ac ad ae af a ag c ar au av aw ax ay az a5 a0 a1 b bs a3 a6 a7 a8 a9 ba bb bp bc bd
 be bf bg bh bi bj bk bq bl bm a2 ah ai aj ak al am an a4 ao ap bo bn aq bu)/\J [] [] [] ck))/\∀(m':Mem),True->J [] [] [] m'->∃(de:IT),(∃(n:Nat),de [int i64 0] [] [] m' n)/\∀(ca:Int)(m':Mem) (dh:
 Nat),True->de [int i64 ca] [] [] m' dh->br (decide (ca < IntKind.wrap i64 ((↑(Int.toNat (if(14:Int) < (↑p2n:Int)then(14:Int)else(↑p2n:Int)) - 0):Int)+(1:Int)))) (∃(R_10:RT),True/\CX Tryz.prog
 12 (Array.mk [agg (Array.mk (List.take 8 (List.drop (Int.toNat aq*8) (Zak n aa ab ac ad ae af a ag c ah ai aj ak al am an a4 ao ap)))),slice (Za0 p2a 0 p2c 1) (Int.toNat (if(14:Int) < (↑p2n:Int)
 then(14:Int)else(↑p2n:Int)) - 0) (p2c - 0),int i64 ca]) m' [] R_10/\Zaz (Shape.tup [Shape.slice,Shape.int i64]) R_10/\∀(di:Option Addr)(cc dj:Nat)(cq:Int)(bt:Mem),Mem.le m' bt->R_10 (tuple
 (Array.mk [slice di cc dj,int i64 cq])) bt []->∃(R_11:RT),True/\CX Tryz.prog 13 (Array.mk [agg (Array.mk (List.take 8 (List.drop (Int.toNat aq*8) (Zak n aa ab ac ad ae af a ag c ah ai aj ak al am
 an a4 ao ap)))),slice (Za0 p2a 0 p2c 1) (Int.toNat (if(14:Int) < (↑p2n:Int)then(14:Int)else(↑p2n:Int)) - 0) (p2c - 0),int i64 ca]) bt [] R_11/\Zaz (Shape.tup [Shape.slice,Shape.int i64]) R_11/\∀
 (dk:Option Addr) (bx dl:Nat) (cl:Int) (m':Mem),Mem.le bt m'->R_11 (tuple (Array.mk [slice dk bx dl,int i64 cl])) m' []->∃(R_12:RT),CXT Tryz.prog 14 (Array.mk [slice di cc dj]) m' 1 R_12/\Zaz
 Shape.slice R_12/\∀(cr:Option Addr)(cd cs:Nat)(bz:Mem),Mem.le m' bz->R_12 (slice cr cd cs) bz []->∃(Y:Nat->Prop),∃(R_13:Value->Mem->List (List Value)->List Value->Prop),CXY Tryz.prog 15
 (Array.mk [slice cr cd cs]) bz Y [] [Tok.mk (slice cr cd cs) 1] R_13/\(∀(t:Tok),t∈[Tok.mk (slice cr cd cs) 1]->∀(b:Nat),Tok.blk t=some b->Y b)/\(∀(b:Nat),Y b->(∃(t:Tok),t∈[Tok.mk (slice cr cd
 cs) 1]/\Tok.blk t=some b)\/(Mem.free m b/\Mem.k m b=none)/\((∃(o:Nat),∃(v:Value),bz b o=some v)\/∃(e:List (Value×Value)),Mem.k bz b=some e)/\bn≠b/\a2≠b/\a2≠b/\True)/\(∀(v:Value)
 (m':Mem) (css:List (List Value)) (tvs:List Value),R_13 v m' css tvs->Shape.fits (Shape.tup []) v=true)/\∀(m':Mem),Mem.le (Mem.off bz Y) m'->(NewM bz m' λ(b:Nat)=>Y b\/Mem.free bz b)->∀(ce:
 Option Addr) (cf d:Nat),R_13 (tuple (Array.mk [])) m' [] [slice ce cf d]->∃(bv:Bool),br (!IntKind.wrap i64 (cq+cl) == (0:Int)) (ZaG (Zaj n aa ab ac ad ae af a ag c ar au av aw ax ay az a5 a0
 a1 b bs a3 a6 a7 a8 a9 ba bb bp bc bd be bf bg bh bi bj bk bq bl bm a2 ah ai aj ak al am an a4 ao ap bo bn aq bu)/\[some (Tok.mk (slice ce cf d) 1),some (Tok.mk (slice ce cf d) 1)]=[some (Tok.mk (slice ce cf d) 1),
 some (Tok.mk (slice ce cf d) 1)]/\[bool true]=[bool bv]) (∃(R:RT),True/\CX Tryz.prog 16 (Array.mk [slice cr cd cs,slice dk bx dl]) m' [] R/\Zaz Shape.bool R/\∀(cg:Bool)(dm:Mem),Mem.le m' dm->R (bool
 cg) dm []->ZaG (Zaj n aa ab ac ad ae af a ag c ar au av aw ax ay az a5 a0 a1 b bs a3 a6 a7 a8 a9 ba bb bp bc bd be bf bg bh bi bj bk bq bl bm a2 ah ai aj ak al am an a4 ao ap bo bn aq bu)/\[some
 (Tok.mk (slice ce cf d) 1),some (Tok.mk (slice ce cf d) 1)]=[some (Tok.mk (slice ce cf d) 1),some (Tok.mk (slice ce cf d) 1)]/\[bool !cg]=[bool bv])/\br bv (∃(m'':Mem),Mem.le m m''/\Mem.le m'' m'/\R (bool
 false) m'' []) (ZaG (Zaj n aa ab ac ad ae af a ag c ar au av aw ax ay az a5 a0 a1 b bs a3 a6 a7 a8 a9 ba bb bp bc bd be bf bg bh bi bj bk bq bl bm a2 ah ai aj ak al am an a4 ao ap bo bn aq bu)/\∃(n':
 Nat),n' < dh/\de [int i64 (IntKind.wrap i64 (ca+(1:Int)))] [] [] m' n')) (∃(cz:IT),(∃(n:Nat),cz [int i64 0] [] [] m' n)/\∀(cc:Int)(m':Mem)(cq:Nat),True->cz [int i64 cc] [] [] m' cq->br (decide
 (cc < (↑bw:Int))) (∃(bv:Nat),∃(o:Nat),cj=some (Addr.mk bv o none)/\Zag cc bw/\∃(v:Value),∃(cb:Value),Mem.reads m' bv (o+Int.toNat cc*2) [v,cb]/\∀(cg:Nat),chk (Value.oneCell' v &&
 (Value.oneCell' cb&&true)) (∃(f:Fx),∃(R_10:RT),R_10=f 1 [] m'/\CX Tryz.prog 17 (Array.mk []) m' [] R_10/\Zaz (Shape.agg [Shape.int i64,Shape.int i64]) R_10/\∀(bx cl:Int)(bt:Mem),Mem.le m' bt->
 R_10 (agg (Array.mk [int i64 bx,int i64 cl])) bt []->∃(cm:Bool),EqIs Tryz.prog 51 (agg (Array.mk [v,cb])) (agg (Array.mk [int i64 bx,int i64 cl])) cm/\br (!cm) (chk (ZaS i64 v&&decide (i64=i64)) (br
 (decide (RowKit.intOf v < (0:Int))) (∀(M:Mem),Mem.le m' M->Mem.le bt M->∃(m'':Mem),Mem.le m m''/\Mem.le m'' M/\R (bool false) m'' []) (chk (ZaS i64 v&&ZaS i64 cb) (br (decide (RowKit.intOf v >
 RowKit.intOf cb)) (∀(M:Mem),Mem.le m' M->Mem.le bt M->∃(m'':Mem),Mem.le m m''/\Mem.le m'' M/\R (bool false) m'' []) (chk (ZaS i64 cb&&decide (i64=i64)) (∀(M:Mem),Mem.le m' M->Mem.le bt M->br
 (decide (RowKit.intOf cb > (↑(Int.toNat (if(14:Int) < (↑p2n:Int)then(14:Int)else(↑p2n:Int)) - 0):Int))) (∃(m'':Mem),Mem.le m m''/\Mem.le m'' M/\R (bool false) m'' []) (ZaG (Zaj n aa
 ab ac ad ae af a ag c ar au av aw ax ay az a5 a0 a1 b bs a3 a6 a7 a8 a9 ba bb bp bc bd be bf bg bh bi bj bk bq bl bm a2 ah ai aj ak al am an a4 ao ap bo bn aq bu)/\∃(n':Nat),n' < cq/\cz [int i64 (IntKind.wrap i64
 (cc+(1:Int)))] [] [] M n'))))))) (∀(M:Mem),Mem.le m' M->Mem.le bt M->ZaG (Zaj n aa ab ac ad ae af a ag c ar au av aw ax ay az a5 a0 a1 b bs a3 a6 a7 a8 a9 ba bb bp bc bd be bf bg bh bi bj bk
 bq bl bm a2 ah ai aj ak al am an a4 ao ap bo bn aq bu)/\∃(n':Nat),n' < cq/\cz [int i64 (IntKind.wrap i64 (cc+(1:Int)))] [] [] M n'))) (∃(bv:Bool),br (aq == (0:Int)) (ZaG (Zaj n aa ab ac
 ad ae af a ag c ar au av aw ax ay az a5 a0 a1 b bs a3 a6 a7 a8 a9 ba bb bp bc bd be bf bg bh bi bj bk bq bl bm a2 ah ai aj ak al am an a4 ao ap bo bn aq bu)/\[bool true]=[bool bv]) (ZaG (Zaj n aa ab
 ac ad ae af a ag c ar au av aw ax ay az a5 a0 a1 b bs a3 a6 a7 a8 a9 ba bb bp bc bd be bf bg bh bi bj bk bq bl bm a2 ah ai aj ak al am an a4 ao ap bo bn aq bu)/\[bool !cp]=[bool bv])/\br bv (ZaG
 (ZcS n aa ab ac ad ae af a ag c ar au av aw ax ay az a5 a0 a1 b bs a3 a6 a7 a8 a9 ba bb bp bc bd be bf bg bh bi bj bk bq bl bm a2 ah ai aj ak al am an a4 ao ap bo bn)/\∃(n':Nat),n' < cy/\I [int i64
 (IntKind.wrap i64 (aq+(1:Int)))] [] [] m' n') (∃(R_10:RT),True/\CX Tryz.prog 11 (Array.mk [agg (Array.mk [int u8 n,int u64 aa,int u64 ab,int u64 ac,int u64 ad,int i64 ae,int i64 af,slice a ag c])]) m' []
 R_10/\Zaz (Shape.int i64) R_10/\∀(bx:Int)(bt:Mem),Mem.le m' bt->R_10 (int i64 bx) bt []->∃(J:JT),br (decide (IntKind.wrap i64 ((1:Int)+bx) ≥ (↑bw:Int))) (∃(m'':Mem),Mem.le m m''/\Mem.le m'' bt
 /\ R (bool false) m'' []) (∃(cg:Nat),∃(o:Nat),cj=some (Addr.mk cg o none)/\Zag (0:Int) bw/\∃(v:Value),bt cg (o+0+0)=some v/\chk (ZaS i64 v&&decide (i64=i64)) (br (!RowKit.intOf v == (0
 : Int)) (∃(m'':Mem),Mem.le m m''/\Mem.le m'' bt/\R (bool false) m'' []) (∃(cm:Nat),∃(o:Nat),cj=some (Addr.mk cm o none)/\Zag (0:Int) bw/\∃(v:Value),bt cm (o+0+1)=some v/\∃(cu:Nat),
 ∃(o:Nat),cj=some (Addr.mk cu o none)/\Zag (IntKind.wrap i64 ((1:Int)+bx)) bw/\∃(cb:Value),bt cu (o+Int.toNat (IntKind.wrap i64 ((1:Int)+bx))*2+0)=some cb/\chk (ZaS i64 v&&ZaS i64
 cb) (br (!RowKit.intOf v == RowKit.intOf cb) (∃(m'':Mem),Mem.le m m''/\Mem.le m'' bt/\R (bool false) m'' []) (∃(cv:Nat),∃(o:Nat),cj=some (Addr.mk cv o none)/\Zag (IntKind.wrap i64 ((1:Int)+bx))
 bw/\∃(v:Value),bt cv (o+Int.toNat (IntKind.wrap i64 ((1:Int)+bx))*2+1)=some v/\chk (ZaS i64 v&&decide (i64=i64)) (br (!RowKit.intOf v == (↑(Int.toNat (if(14:Int) < (↑p2n:Int)then(14:Int)
 else(↑p2n:Int)) - 0):Int)) (∃(m'':Mem),Mem.le m m''/\Mem.le m'' bt/\R (bool false) m'' []) (ZaG (Zaj n aa ab ac ad ae af a ag c ar au av aw ax ay az a5 a0 a1 b bs a3 a6 a7 a8 a9 ba bb bp bc
 bd be bf bg bh bi bj bk bq bl bm a2 ah ai aj ak al am an a4 ao ap bo bn aq bu)/\J [] [] [] bt)))))))/\∀(m':Mem),True->J [] [] [] m'->∃(f:Fx),∃(cg:Nat),∃(o:Nat),cj=some (Addr.mk cg o none)/\Zag
 (0:Int) bw/\∃(v:Value),m' cg (o+0+1)=some v/\chk (Zbr v) (((0:Int)<=RowKit.intOf v/\RowKit.intOf v<=(↑(p2c - 0):Int))/\∃(R_11:RT),R_11=f 7 [agg (Array.mk [int u8 n,int u64 aa,int u64
 ab,int u64 ac,int u64 ad,int i64 ae,int i64 af,slice a ag c]),slice (Za0 (Za0 p2a 0 p2c 1) 0 (p2c - 0) 1) (Int.toNat (RowKit.intOf v) - 0) (p2c - 0 - 0)] m'/\CX Tryz.prog 9 (Array.mk [agg (Array.mk [int u8
 n,int u64 aa,int u64 ab,int u64 ac,int u64 ad,int i64 ae,int i64 af,slice a ag c]),slice (Za0 (Za0 p2a 0 p2c 1) 0 (p2c - 0) 1) (Int.toNat (RowKit.intOf v) - 0) (p2c - 0 - 0)]) m' [] R_11/\Zaz (Shape.tup
 [Shape.bool,Shape.int i64]) R_11/\∀(cm:Bool)(cl:Int)(bz:Mem),Mem.le m' bz->R_11 (tuple (Array.mk [bool cm,int i64 cl])) bz []->∀(M:Mem),Mem.le m' M->Mem.le bz M->∃(f:Fx),∃(cu:Nat),∃(o:
 Nat),cj=some (Addr.mk cu o none)/\Zag (0:Int) bw/\∃(v:Value),M cu (o+0+1)=some v/\chk (Zbr v) (((0:Int)<=RowKit.intOf v/\RowKit.intOf v<=(↑(Int.toNat (if(14:Int) < (↑p2n:Int)then
 (14:Int)else(↑p2n:Int)) - 0):Int))/\∃(R_12:RT),R_12=f 7 [agg (Array.mk [int u8 ar,int u64 au,int u64 av,int u64 aw,int u64 ax,int i64 ay,int i64 az,slice a5 a0 a1]),slice (Za0 (Za0 p2a 0 p2c
 1) (Int.toNat (RowKit.intOf v)) (p2c - 0) 1) (Int.toNat (if(14:Int) < (↑p2n:Int)then(14:Int)else(↑p2n:Int)) - 0 - Int.toNat (RowKit.intOf v)) (p2c - 0 - Int.toNat (RowKit.intOf v))] M/\CX Tryz.prog 9
 (Array.mk [agg (Array.mk [int u8 ar,int u64 au,int u64 av,int u64 aw,int u64 ax,int i64 ay,int i64 az,slice a5 a0 a1]),slice (Za0 (Za0 p2a 0 p2c 1) (Int.toNat (RowKit.intOf v)) (p2c - 0) 1) (Int.toNat (if
 (14:Int) < (↑p2n:Int)then(14:Int)else(↑p2n:Int)) - 0 - Int.toNat (RowKit.intOf v)) (p2c - 0 - Int.toNat (RowKit.intOf v))]) M [] R_12/\Zaz (Shape.tup [Shape.bool,Shape.int i64]) R_12/\∀(cv:Bool) (cd:
 Int) (m':Mem),Mem.le M m'->R_12 (tuple (Array.mk [bool cv,int i64 cd])) m' []->∀(da:Mem),Mem.le M da->Mem.le m' da->∃(db:Bool),br (!cm) (ZaG (Zaj n aa ab ac ad ae af a ag c ar au av aw
 ax ay az a5 a0 a1 b bs a3 a6 a7 a8 a9 ba bb bp bc bd be bf bg bh bi bj bk bq bl bm a2 ah ai aj ak al am an a4 ao ap bo bn aq bu)/\[bool true]=[bool db]) (br (!cv) (ZaG (Zaj n aa ab ac ad ae af a ag c
 ar au av aw ax ay az a5 a0 a1 b bs a3 a6 a7 a8 a9 ba bb bp bc bd be bf bg bh bi bj bk bq bl bm a2 ah ai aj ak al am an a4 ao ap bo bn aq bu)/\[bool true]=[bool db]) (ZaG (Zaj n aa ab ac ad ae af a ag
 c ar au av aw ax ay az a5 a0 a1 b bs a3 a6 a7 a8 a9 ba bb bp bc bd be bf bg bh bi bj bk bq bl bm a2 ah ai aj ak al am an a4 ao ap bo bn aq bu)/\[bool !IntKind.wrap i64 (cl+cd) == (0:Int)]=[bool db]))/\br db (∃
 (m'':Mem),Mem.le m m''/\Mem.le m'' da/\R (bool false) m'' []) (ZaG (ZcS n aa ab ac ad ae af a ag c ar au av aw ax ay az a5 a0 a1 b bs a3 a6 a7 a8 a9 ba bb bp bc bd be bf bg bh bi bj bk bq bl bm a2
 ah ai aj ak al am an a4 ao ap bo bn)/\∃(n':Nat),n' < cy/\I [int i64 (IntKind.wrap i64 (aq+(1:Int)))] [] [] da n'))))))))))) (∃(m'':Mem),Mem.le m m''/\Mem.le m'' m'/\R (bool true) m'' []))
theorem ZgZ(p0a:Option Addr)(p0n p0c:Nat)(p1a:Option Addr)(p1n p1c:Nat)(p2a:Option Addr)(p2n p2c:Nat)(m:Mem)(R:RT)(h:Zed p0a p0n p0c p1a p1n p1c p2a p2n p2c m R):CX Tryz.prog 3 #[.slice p0a p0n p0c,.slice p1a p1n p1c,.slice p2a p2n p2c] m [] R:=
 Zah (E:=ZhR) Zay mix Tryz.func3 [.v (.slice p0a p0n p0c),.v (.slice p1a p1n p1c),.v (.slice p2a p2n p2c)] [] (by kernel_rfl) (Eq.mp (by kernel_rfl) h)
noncomputable def Zfa:Env:={ EB with
 loops:=(λi=>bif Nat.beq i 7 then⟨[(46,.int .i64)],[14,100000],[(59,1),(900,2)],false⟩ else⟨[],[],[],false⟩)
 dr:=(λi=>bif Nat.beq i 1 then[⟨0,[3],[],none,[],[]⟩,⟨1,[],[],none,[],[]⟩,⟨2,[],[],none,[1],[]⟩,⟨3,[],[],none,[1,2],[]⟩,⟨4,[100000],[],none,[1,2,3],[]⟩,⟨5,[],[],none,[0,1,2,3,4],[]⟩,⟨6,[14],[14],none,[0,1,2,3,4,5],[]⟩,⟨7,[14],[],none,[0,1,2,3,4,5,6],[]⟩]else bif Nat.beq i 5 then[⟨0,[],[],none,[],[]⟩,⟨1,[],[],none,[],[]⟩,⟨2,[],[],none,[1],[]⟩,⟨3,[],[],none,[1,2],[]⟩,⟨4,[100000],[],none,[1,2,3],[]⟩,⟨5,[],[],none,[],[]⟩,⟨6,[39],[39],none,[5],[5]⟩,⟨7,[39],[],some 900,[1,2,3,4,5,6],[6]⟩,⟨8,[],[],none,[0,1,2,3,4,5,6,7],[]⟩,⟨9,[],[],none,[0,1,2,3,4,5,6,7,8],[]⟩,⟨10,[100000],[100000],none,[0,1,2,3,4,5,6,7,8,9],[]⟩]else[])
 tokOf:=(λi=>bif Nat.beq i 40 then 900 else bif Nat.beq i 59 then 59 else 0)
 borrow:=(λi=>bif Nat.beq i 57 then[100000]else[])
 hint:=(λi=>bif Nat.beq i 11 then some 100000 else bif Nat.beq i 17 then some 100000 else bif Nat.beq i 21 then some 100000 else bif Nat.beq i 28 then some 100000 else bif Nat.beq i 36 then some 100000 else bif Nat.beq i 42 then some 100000 else none)
 frzNew:=[3]
 last:=(λi=>bif Nat.beq i 9 then true else false)
 mix:=(λi=>bif Nat.beq i 9 then some ([0,1,2,3,4,5,6],[7,8,9,10,11,12])else none)
 frz:=[14]
 thaw:=true
 kF:=true
 cuts:=λi=>bif Nat.beq i 6 then some ⟨[],[14,100000],[(900,2)],false⟩ else none
 lentC:=(λi=>bif Nat.beq i 57 then some [(900,2)]else none) }
def ZcK(aU aO aP aQ aR aS aT:Int)(aM:Option Addr)(aL aN:Nat)(f0 f3:Value)(f1:Int)(fb:Nat)(t0a:Option Addr)(t0n t0c:Nat)(m:Mem)(Y:Nat->Prop)(R:RTY):Prop:=
 ∀(b:Nat)(m':Mem),Mem.le m m'->Mem.reads m' b 0 [int u8 aU,int u64 aO,int u64 aP,int u64 aQ,int u64 aR,int i64 aS,int i64 aT,slice aM aL aN]->Mem.free m b->(∀(b' o:Nat) (u:
 Value),m' b' o=some u->m b' o=some u\/b'=b)->Mem.k m b=none->fb=fb/\∀(ae:Nat),fb=fb/\fb=fb/\1+1<=1+1+1+1/\∃(J:JT),br (aU == (6:Int)) (fb=fb/\∃(f:Fx),fb=fb/\∃(R:
 RT),R=f 5 [] m'/\CX Tryz.prog 17 (Array.mk []) m' [] R/\Zaz (Shape.agg [Shape.int i64,Shape.int i64]) R/\∀(n ad:Int)(aa:Mem),Mem.le m' aa->R (agg (Array.mk [int i64 n,int i64 ad])) aa []->∀(af:Nat),
 Mem.free aa af->(Tok.mk (slice t0a t0n t0c) 2=Tok.mk (slice t0a t0n t0c) 2\/slice t0a t0n t0c=slice none 0 0\/t0c < t0n+1)/\∃(xs:List Value),∃(ys:List Value),List.length xs=t0n*2/\List.length ys =
 1*2/\rowRd (Mem.add aa af [int i64 n,int i64 ad]) t0a xs/\rowRd (Mem.add aa af [int i64 n,int i64 ad]) (some (Addr.mk af 0 none)) ys/\(∀(u:Value),u∈ys->Value.oneCell' u=true)/\(t0n+1)*16 <=
 140737488355328/\t0n+1<=9223372036854775807/\∀(a':Option Addr)(c':Nat)(al:Mem),Mem.le (Mem.add aa af [int i64 n,int i64 ad]) al->rowRd al a' (List.append xs ys)->TokFact (Mem.add aa af [int i64 n,int
 i64 ad]) t0a a' (t0n+1) c'->fb=fb/\2+1<=1+1+1+1/\∀(M:Mem),Mem.le m' M->Mem.le aa M->Mem.le (Mem.add aa af [int i64 n,int i64 ad]) M->Mem.le al M->[some (Box.mk ae [] 106 11 false true),some
 (Box.mk b [int u8 aU,int u64 aO,int u64 aP,int u64 aQ,int u64 aR,int i64 aS,int i64 aT,slice aM aL aN] 30 8 true true),some (Box.mk fb [] 90 4 false true)]=[some (Box.mk ae [] 106 11
 false true),some (Box.mk b [int u8 aU,int u64 aO,int u64 aP,int u64 aQ,int u64 aR,int i64 aS,int i64 aT,slice aM aL aN] 30 8 true true),some (Box.mk fb [] 90 4 false true)]/\([none]:
 List (Option Tok))=[none]/\J [] [[int u8 aU,int u64 aO,int u64 aP,int u64 aQ,int u64 aR,int i64 aS,int i64 aT,slice aM aL aN,int i64 f1,int i64 (↑t0n:Int),slice none 0 0],[f0,int
 i64 (IntKind.wrap i64 (f1+(1:Int))),slice a' (t0n+1) c',f3]] [slice a' (t0n+1) c'] M) ([some (Box.mk ae [] 106 11 false true),some (Box.mk b [int u8 aU,int u64 aO,int u64 aP,int u64 aQ,int u64
 aR,int i64 aS,int i64 aT,slice aM aL aN] 30 8 true true),some (Box.mk fb [] 90 4 false true)]=[some (Box.mk ae [] 106 11 false true),some (Box.mk b [int u8 aU,int u64 aO,int u64 aP,int u64
 aQ,int u64 aR,int i64 aS,int i64 aT,slice aM aL aN] 30 8 true true),some (Box.mk fb [] 90 4 false true)]/\([none]:List (Option Tok))=[none]/\J [] [[int u8 aU,int u64 aO,int u64 aP,
 int u64 aQ,int u64 aR,int i64 aS,int i64 aT,slice aM aL aN,int i64 f1,int i64 0,slice none 0 0],[f0,int i64 (IntKind.wrap i64 (f1+(1:Int))),slice t0a t0n t0c,f3]] [slice t0a t0n t0c] m')
 /\ ∀(cs aw:List Value)(a:Option Addr)(n c:Nat)(m':Mem),True->J [] [cs,aw] [slice a n c] m'->∃(I:IT),(∃(ad:Nat),I [int i64 0] [cs,aw] [slice none 0 0,slice a n c] m' ad)/\∀(n:Int) (cs am:
 List Value) (a:Option Addr) (ad c:Nat) (ah:Option Addr) (ai aj:Nat) (m':Mem) (ax:Nat),True->I [int i64 n] [cs,am] [slice a ad c,slice ah ai aj] m' ax->br (decide (n < (↑aL:Int))) (∃(af:Nat),∃
 (o:Nat),aM=some (Addr.mk af o none)/\Zag n aL/\∃(v:Value),∃(an:Value),∃(ao:Value),∃(ap:Value),∃(aq:Value),∃(ar:Value),∃(au:Value),∃(av:Value),Mem.reads m' af (o +
 Int.toNat n*8) [v,an,ao,ap,aq,ar,au,av]/\∀(a1:Nat),chk (Value.oneCell' v&&(Value.oneCell' an&&(Value.oneCell' ao&&(Value.oneCell' ap&&(Value.oneCell' aq&&(Value.oneCell' ar&&(Value.oneCell' au
 && (Value.oneCell' av&&true)))))))) (Eng.Zum cs 10 λ(ac:Value)=>∃(ak:Nat->Prop),∃(R:Value->Mem->List (List Value)->List Value->Prop),CXY Tryz.prog 56 (Array.mk [Value.pointer (some (Addr.mk fb 0
 none)),agg (Array.mk [v,an,ao,ap,aq,ar,au,av])]) m' ak [Box.mk fb am 90 4 false true] [Tok.mk (slice ah ai aj) 2] R/\(∀(t:Tok),t∈[Tok.mk (slice ah ai aj) 2]->∀(b:Nat),Tok.blk t=some b->ak b)/\(∀
 (ab:Nat),ak ab->(∃(t:Tok),t∈[Tok.mk (slice ah ai aj) 2]/\Tok.blk t=some ab)\/(Mem.free (Mem.off m Y) ab/\Mem.k (Mem.off m Y) ab=none)/\((∃(o:Nat),∃(v:Value),m' ab o=some v)\/∃(e:List
 (Value×Value)),Mem.k m' ab=some e)/\b≠ab/\Tok.blk (Tok.mk (slice a ad c) 1)≠some ab/\True)/\(∀(v:Value)(m':Mem) (css:List (List Value)) (tvs:List Value),R v m' css tvs->Shape.fits Shape.ptr v =
 true)/\∀(ab o:Nat)(aa:Mem),Mem.le (Mem.off m' ak) aa->(NewM m' aa λ(b:Nat)=>ak b\/Mem.free m' b)->∀(ay:List Value)(az:Option Addr)(a0 d:Nat),R (Value.pointer (some (Addr.mk ab o none))) aa
 [ay] [slice az a0 d]->∀(ag:Nat),Mem.free aa ag->chk (Zel ac&&true) ((Tok.mk (slice a ad c) 1=Tok.mk ac 1\/ac=slice none 0 0\/slC ac < slN ac+1)/\∃(xs:List Value),∃(ys:List Value),List.length xs
 = slN ac*1/\List.length ys=1*1/\rowRd (Mem.add aa ag [Value.pointer (some (Addr.mk ab o none))]) (slA ac) xs/\rowRd (Mem.add aa ag [Value.pointer (some (Addr.mk ab o none))]) (some (Addr.mk ag 0 none)) ys/\(∀
 (u:Value),u∈ys->Value.oneCell' u=true)/\(slN ac+1)*8<=140737488355328/\slN ac+1<=9223372036854775807/\∀(a':Option Addr)(c':Nat)(m':Mem),Mem.le (Mem.add aa ag [Value.pointer (some (Addr.mk ab
 o none))]) m'->rowRd m' a' (List.append xs ys)->TokFact (Mem.add aa ag [Value.pointer (some (Addr.mk ab o none))]) (slA ac) a' (slN ac+1) c'->chk (Nat.ble 11 (List.length cs)) ([some (Box.mk ae [] 106 11 false
 true),some (Box.mk b [int u8 aU,int u64 aO,int u64 aP,int u64 aQ,int u64 aR,int i64 aS,int i64 aT,slice aM aL aN] 30 8 true true),some (Box.mk fb [] 90 4 false true)]=[some (Box.mk ae
 [] 106 11 false true),some (Box.mk b [int u8 aU,int u64 aO,int u64 aP,int u64 aQ,int u64 aR,int i64 aS,int i64 aT,slice aM aL aN] 30 8 true true),some (Box.mk fb [] 90 4 false true)]/\
 ([none,none]:List (Option Tok))=[none,none]/\∃(n':Nat),n' < ax/\I [int i64 (IntKind.wrap i64 (n+(1:Int)))] [ZaH cs 10 [slice a' (slN ac+1) c'],ay] [slice a' (slN ac+1) c',slice az a0 d] m'
 n')))) (Box.mk fb [f0,int i64 f1,slice t0a t0n t0c,f3] 90 4 false true=Box.mk fb [f0,int i64 f1,slice t0a t0n t0c,f3] 90 4 false true/\(Mem.free m' ae->Mem.k m' ae=none->R (Value.pointer (some (Addr.mk ae 0
 none))) (Mem.add m' ae cs) [am] [slice ah ai aj]))
theorem ZdS(aU aO aP aQ aR aS aT:Int)(aM:Option Addr)(aL aN:Nat)(f0 f3:Value)(f1:Int)(fb:Nat)(t0a:Option Addr)(t0n t0c:Nat)(m:Mem)(Y:Nat->Prop)(R:RTY)(h:ZcK aU aO aP aQ aR aS aT aM aL aN f0 f3 f1 fb t0a t0n t0c m Y R):CXY Tryz.prog 56 #[.pointer (some ⟨fb,0,none⟩),.agg #[.int .u8 aU,.int .u64 aO,.int .u64 aP,.int .u64 aQ,.int .u64 aR,.int .i64 aS,.int .i64 aT,.slice aM aL aN]] m Y [⟨fb,[f0,.int .i64 f1,.slice t0a t0n t0c,f3],90,4,false,true⟩] [⟨.slice t0a t0n t0c,2⟩] R:=
 Zcj (E:=Zfa) Zay mix Tryz.func56 [.v (.pointer (some ⟨fb,0,none⟩)),.v (.agg #[.int .u8 aU,.int .u64 aO,.int .u64 aP,.int .u64 aQ,.int .u64 aR,.int .i64 aS,.int .i64 aT,.slice aM aL aN])] [⟨fb,[f0,.int .i64 f1,.slice t0a t0n t0c,f3],90,4,false,true⟩] [900] [⟨.slice t0a t0n t0c,2⟩] (by decide) (by kernel_rfl) (Eq.mp (by kernel_rfl) h)
noncomputable def ZpH:Env:={ EB with
 frzNew:=[2]
 frz:=[20]
 thaw:=true
 kF:=true
 lentC:=(λi=>bif Nat.beq i 24 then some [(900,2)]else none) }
def Ziz(aG aD aI aJ aK aE aH:Int)(aB:Option Addr)(aA aC:Nat)(p1a:Option Addr)(p1n p1c:Nat)(m:Mem)(R:RT):Prop:=
 ∀(b:Nat)(m':Mem),Mem.le m m'->Mem.reads m' b 0 [int u8 aG,int u64 aD,int u64 aI,int u64 aJ,int u64 aK,int i64 aE,int i64 aH,slice aB aA aC]->Mem.free m b->(∀(b' o:Nat) (u:
 Value),m' b' o=some u->m b' o=some u\/b'=b)->Mem.k m b=none->∃(R_1:RT),True/\CX Tryz.prog 8 (Array.mk [agg (Array.mk [bool false,bool false,int u8 aG,int u64 aD,int u64 aI,int u64 aJ,int
 u64 aK,int i64 aE,int i64 aH,slice aB aA aC])]) m' [] R_1/\Zaz (Shape.int i64) R_1/\∀(n:Int)(m'_1:Mem),Mem.le m' m'_1->R_1 (int i64 n) m'_1 []->br (!n == (0:Int)) (∃(m'':Mem),Mem.le m
 m''/\Mem.le m'' m'_1/\R (tuple (Array.mk [Value.pointer none,Value.pointer none,int i64 140])) m'' []) (br (decide ((↑p1n:Int) > (512:Int))) (∃(m'':Mem),Mem.le m m''/\Mem.le m'' m'_1/\R (tuple (Array.mk
 [Value.pointer none,Value.pointer none,int i64 3])) m'' []) (∀(b_1:Nat),Mem.free m'_1 b_1->Mem.k m'_1 b_1=none->∀(b_2:Nat),∃(Y:Nat->Prop),∃(R_2:Value->Mem->List (List Value)->List Value->Prop),
 CXY Tryz.prog 56 (Array.mk [Value.pointer (some (Addr.mk b_2 0 none)),agg (Array.mk [int u8 aG,int u64 aD,int u64 aI,int u64 aJ,int u64 aK,int i64 aE,int i64 aH,slice aB aA aC])])
 (Mem.updK m'_1 b_1 []) Y [Box.mk b_2 [slice p1a p1n p1c,int i64 0,slice none 0 0,Value.map (some b_1)] 90 4 false true] [Tok.mk (slice none 0 0) 2] R_2/\(∀(t:Tok),t∈[Tok.mk (slice none 0 0) 2]->∀(b:Nat),
 Tok.blk t=some b->Y b)/\(∀(b_3:Nat),Y b_3->(∃(t:Tok),t∈[Tok.mk (slice none 0 0) 2]/\Tok.blk t=some b_3)\/(Mem.free m b_3/\Mem.k m b_3=none)/\((∃(o:Nat),∃(v:Value),(Mem.updK m'_1 b_1 [])
 b_3 o=some v)\/∃(e:List (Value×Value)),Mem.k (Mem.updK m'_1 b_1 []) b_3=some e)/\b≠b_3/\True)/\(∀(v:Value)(m':Mem) (css:List (List Value)) (tvs:List Value),R_2 v m' css tvs->Shape.fits
 Shape.ptr v=true)/\∀(b o:Nat)(m':Mem),Mem.le (Mem.off (Mem.updK m'_1 b_1 []) Y) m'->(NewM (Mem.updK m'_1 b_1 []) m' λ(b:Nat)=>Y b\/Mem.free (Mem.updK m'_1 b_1 []) b)->∀(cs:List Value) (a:Option
 Addr) (c d:Nat),R_2 (Value.pointer (some (Addr.mk b o none))) m' [cs] [slice a c d]->Mem.free m' b_2->Mem.k m' b_2=none->∃(m'':Mem),Mem.le m m''/\Mem.le m'' (Mem.add m' b_2 cs)/\R (tuple (Array.mk
 [Value.pointer (some (Addr.mk b_2 0 none)),Value.pointer (some (Addr.mk b o none)),int i64 0])) m'' []))
theorem Znn(aG aD aI aJ aK aE aH:Int)(aB:Option Addr)(aA aC:Nat)(p1a:Option Addr)(p1n p1c:Nat)(m:Mem)(R:RT)(h:Ziz aG aD aI aJ aK aE aH aB aA aC p1a p1n p1c m R):CX Tryz.prog 42 #[.agg #[.int .u8 aG,.int .u64 aD,.int .u64 aI,.int .u64 aJ,.int .u64 aK,.int .i64 aE,.int .i64 aH,.slice aB aA aC],.slice p1a p1n p1c] m [] R:=
 Zah (E:=ZpH) Zay mix Tryz.func42 [.v (.agg #[.int .u8 aG,.int .u64 aD,.int .u64 aI,.int .u64 aJ,.int .u64 aK,.int .i64 aE,.int .i64 aH,.slice aB aA aC]),.v (.slice p1a p1n p1c)] [] (by kernel_rfl) (Eq.mp (by kernel_rfl) h)
noncomputable def Zno:Env:={ EB with
 joins:=(λi=>bif Nat.beq i 4 then some [(22,.bool)]else none)
 frzNew:=[3]
 thaw:=true
 lentC:=(λi=>bif Nat.beq i 34 then some []else none) }
def ZhC(aG aD aI aJ aK aE aH:Int)(aB:Option Addr)(aA aC:Nat)(p1a:Option Addr)(p1n p1c:Nat)(p2:Int)(m:Mem)(R:RT):Prop:=
 ∀(b:Nat)(m':Mem),Mem.le m m'->Mem.reads m' b 0 [int u8 aG,int u64 aD,int u64 aI,int u64 aJ,int u64 aK,int i64 aE,int i64 aH,slice aB aA aC]->Mem.free m b->(∀(b' o:Nat) (u:
 Value),m' b' o=some u->m b' o=some u\/b'=b)->∃(R_1:RT),True/\CX Tryz.prog 42 (Array.mk [agg (Array.mk [int u8 aG,int u64 aD,int u64 aI,int u64 aJ,int u64 aK,int i64 aE,int i64 aH,
 slice aB aA aC]),slice p1a p1n p1c]) m' [] R_1/\Zaz (Shape.tup [Shape.any,Shape.any,Shape.int i64]) R_1/\∀(v v_1:Value)(n:Int)(m'_1:Mem),Mem.le m' m'_1->R_1 (tuple (Array.mk [v,v_1,int i64
 n])) m'_1 []->br (!n == (0:Int)) (∃(m'':Mem),Mem.le m m''/\Mem.le m'' m'_1/\R (tuple (Array.mk [slice none 0 0,int i64 n])) m'' []) (∃(b_1:Bool),br (decide (p2 < (0:Int))) ([some (Box.mk b [int u8 aG,
 int u64 aD,int u64 aI,int u64 aJ,int u64 aK,int i64 aE,int i64 aH,slice aB aA aC] 30 8 true true)]=[some (Box.mk b [int u8 aG,int u64 aD,int u64 aI,int u64 aJ,int u64 aK,int
 i64 aE,int i64 aH,slice aB aA aC] 30 8 true true)]/\[bool true]=[bool b_1]) ([some (Box.mk b [int u8 aG,int u64 aD,int u64 aI,int u64 aJ,int u64 aK,int i64 aE,int i64 aH,slice
 aB aA aC] 30 8 true true)]=[some (Box.mk b [int u8 aG,int u64 aD,int u64 aI,int u64 aJ,int u64 aK,int i64 aE,int i64 aH,slice aB aA aC] 30 8 true true)]/\[bool (decide (p2 >
 (↑p1n:Int)))]=[bool b_1])/\br b_1 (∃(m'':Mem),Mem.le m m''/\Mem.le m'' m'_1/\R (tuple (Array.mk [slice none 0 0,int i64 2])) m'' []) (∃(Y:Nat->Prop),∃(R_2:Value->Mem->List (List Value)->List Value
 -> Prop),CXY Tryz.prog 44 (Array.mk [v,v_1,int i64 0,int i64 p2]) m'_1 Y [] [] R_2/\(∀(t:Tok),t∈[]->∀(b:Nat),Tok.blk t=some b->Y b)/\(∀(b_2:Nat),Y b_2->(∃(t:Tok),t∈[]/\Tok.blk t=some
 b_2)\/(Mem.free m b_2/\Mem.k m b_2=none)/\((∃(o:Nat),∃(v:Value),m'_1 b_2 o=some v)\/∃(e:List (Value×Value)),Mem.k m'_1 b_2=some e)/\b≠b_2/\True)/\(∀(v:Value)(m':Mem) (css:List (List
 Value)) (tvs:List Value),R_2 v m' css tvs->Shape.fits Shape.slice v=true)/\∀(a:Option Addr)(n c:Nat)(m':Mem),Mem.le (Mem.off m'_1 Y) m'->(NewM m'_1 m' λ(b:Nat)=>Y b\/Mem.free m'_1 b)->R_2
 (slice a n c) m' [] []->∃(R_3:RT),True/\CX Tryz.prog 14 (Array.mk [slice a n c]) m' [] R_3/\Zaz Shape.slice R_3/\∀(a:Option Addr)(n c:Nat)(m'_2:Mem),Mem.le m' m'_2->R_3 (slice a n c) m'_2 []->∃(m''
 : Mem),Mem.le m m''/\Mem.le m'' m'_2/\R (tuple (Array.mk [slice a n c,int i64 0])) m'' []))
theorem Zls(aG aD aI aJ aK aE aH:Int)(aB:Option Addr)(aA aC:Nat)(p1a:Option Addr)(p1n p1c:Nat)(p2:Int)(m:Mem)(R:RT)(h:ZhC aG aD aI aJ aK aE aH aB aA aC p1a p1n p1c p2 m R):CX Tryz.prog 12 #[.agg #[.int .u8 aG,.int .u64 aD,.int .u64 aI,.int .u64 aJ,.int .u64 aK,.int .i64 aE,.int .i64 aH,.slice aB aA aC],.slice p1a p1n p1c,.int .i64 p2] m [] R:=
 Zah (E:=Zno) Zay mix Tryz.func12 [.v (.agg #[.int .u8 aG,.int .u64 aD,.int .u64 aI,.int .u64 aJ,.int .u64 aK,.int .i64 aE,.int .i64 aH,.slice aB aA aC]),.v (.slice p1a p1n p1c),.v (.int .i64 p2)] [] (by kernel_rfl) (Eq.mp (by kernel_rfl) h)
noncomputable def Znp:Env:={ EB with
 frzNew:=[2]
 thaw:=true
 lentC:=(λi=>bif Nat.beq i 21 then some []else bif Nat.beq i 30 then some []else none) }
def ZhD(aG aD aI aJ aK aE aH:Int)(aB:Option Addr)(aA aC:Nat)(p1a:Option Addr)(p1n p1c:Nat)(m:Mem)(R:RT):Prop:=
 ∀(b:Nat)(m':Mem),Mem.le m m'->Mem.reads m' b 0 [int u8 aG,int u64 aD,int u64 aI,int u64 aJ,int u64 aK,int i64 aE,int i64 aH,slice aB aA aC]->Mem.free m b->(∀(b' o:Nat) (u:
 Value),m' b' o=some u->m b' o=some u\/b'=b)->∃(R_1:RT),True/\CX Tryz.prog 42 (Array.mk [agg (Array.mk [int u8 aG,int u64 aD,int u64 aI,int u64 aJ,int u64 aK,int i64 aE,int i64 aH,
 slice aB aA aC]),slice p1a p1n p1c]) m' [] R_1/\Zaz (Shape.tup [Shape.any,Shape.any,Shape.int i64]) R_1/\∀(v v_1:Value)(n:Int)(m'_1:Mem),Mem.le m' m'_1->R_1 (tuple (Array.mk [v,v_1,int i64
 n])) m'_1 []->br (!n == (0:Int)) (∃(m'':Mem),Mem.le m m''/\Mem.le m'' m'_1/\R (tuple (Array.mk [slice none 0 0,int i64 n])) m'' []) (∃(Y:Nat->Prop),∃(R_2:Value->Mem->List (List Value)->List Value->
 Prop),CXY Tryz.prog 44 (Array.mk [v,v_1,int i64 0,int i64 0]) m'_1 Y [] [] R_2/\(∀(t:Tok),t∈[]->∀(b:Nat),Tok.blk t=some b->Y b)/\(∀(b_1:Nat),Y b_1->(∃(t:Tok),t∈[]/\Tok.blk t=some b_1)\/
 (Mem.free m b_1/\Mem.k m b_1=none)/\((∃(o:Nat),∃(v:Value),m'_1 b_1 o=some v)\/∃(e:List (Value×Value)),Mem.k m'_1 b_1=some e)/\b≠b_1/\True)/\(∀(v:Value)(m':Mem) (css:List (List Value))
 (tvs:List Value),R_2 v m' css tvs->Shape.fits Shape.slice v=true)/\∀(a:Option Addr)(n c:Nat)(m':Mem),Mem.le (Mem.off m'_1 Y) m'->(NewM m'_1 m' λ(b:Nat)=>Y b\/Mem.free m'_1 b)->R_2 (slice a n
 c) m' [] []->∃(R_3:RT),True/\CX Tryz.prog 43 (Array.mk [slice a n c,int i64 (↑p1n:Int)]) m' [] R_3/\Zaz Shape.bool R_3/\∀(b_1:Bool)(m'_2:Mem),Mem.le m' m'_2->R_3 (bool b_1) m'_2 []->br (!b_1) (∃
 (m'':Mem),Mem.le m m''/\Mem.le m'' m'_2/\R (tuple (Array.mk [slice none 0 0,int i64 141])) m'' []) (∃(Y:Nat->Prop),∃(R_4:Value->Mem->List (List Value)->List Value->Prop),CXY Tryz.prog 45 (Array.mk [v,
 v_1,int i64 0,int i64 (↑p1n:Int)]) m'_2 Y [] [] R_4/\(∀(t:Tok),t∈[]->∀(b:Nat),Tok.blk t=some b->Y b)/\(∀(b_2:Nat),Y b_2->(∃(t:Tok),t∈[]/\Tok.blk t=some b_2)\/(Mem.free m b_2/\Mem.k m
 b_2=none)/\((∃(o:Nat),∃(v:Value),m'_2 b_2 o=some v)\/∃(e:List (Value×Value)),Mem.k m'_2 b_2=some e)/\b≠b_2/\True)/\(∀(v:Value)(m':Mem) (css:List (List Value)) (tvs:List Value),R_4 v
 m' css tvs->Shape.fits (Shape.int i64) v=true)/\∀(n:Int)(m':Mem),Mem.le (Mem.off m'_2 Y) m'->(NewM m'_2 m' λ(b:Nat)=>Y b\/Mem.free m'_2 b)->R_4 (int i64 n) m' [] []->chk (ZcA v) (chk (ZcA v) (∃
 (v_2:Value),m' (Zkq v) (Zkr v+2)=some v_2/\∃(m'':Mem),Mem.le m m''/\Mem.le m'' m'/\R (tuple (Array.mk [v_2,int i64 0])) m'' []))))
theorem Zlt(aG aD aI aJ aK aE aH:Int)(aB:Option Addr)(aA aC:Nat)(p1a:Option Addr)(p1n p1c:Nat)(m:Mem)(R:RT)(h:ZhD aG aD aI aJ aK aE aH aB aA aC p1a p1n p1c m R):CX Tryz.prog 10 #[.agg #[.int .u8 aG,.int .u64 aD,.int .u64 aI,.int .u64 aJ,.int .u64 aK,.int .i64 aE,.int .i64 aH,.slice aB aA aC],.slice p1a p1n p1c] m [] R:=
 Zah (E:=Znp) Zay mix Tryz.func10 [.v (.agg #[.int .u8 aG,.int .u64 aD,.int .u64 aI,.int .u64 aJ,.int .u64 aK,.int .i64 aE,.int .i64 aH,.slice aB aA aC]),.v (.slice p1a p1n p1c)] [] (by kernel_rfl) (Eq.mp (by kernel_rfl) h)
noncomputable def Zlu:Env:={ EB with
 frzNew:=[2]
 thaw:=true
 lentC:=(λi=>bif Nat.beq i 27 then some []else bif Nat.beq i 36 then some []else none) }
def Zgz(aG aD aI aJ aK aE aH:Int)(aB:Option Addr)(aA aC:Nat)(p1a:Option Addr)(p1n p1c:Nat)(m:Mem)(R:RT):Prop:=
 ∀(b:Nat)(m':Mem),Mem.le m m'->Mem.reads m' b 0 [int u8 aG,int u64 aD,int u64 aI,int u64 aJ,int u64 aK,int i64 aE,int i64 aH,slice aB aA aC]->Mem.free m b->(∀(b' o:Nat) (u:
 Value),m' b' o=some u->m b' o=some u\/b'=b)->∃(R_1:RT),True/\CX Tryz.prog 42 (Array.mk [agg (Array.mk [int u8 aG,int u64 aD,int u64 aI,int u64 aJ,int u64 aK,int i64 aE,int i64 aH,
 slice aB aA aC]),slice p1a p1n p1c]) m' [] R_1/\Zaz (Shape.tup [Shape.any,Shape.any,Shape.int i64]) R_1/\∀(v v_1:Value)(n:Int)(m'_1:Mem),Mem.le m' m'_1->R_1 (tuple (Array.mk [v,v_1,int i64
 n])) m'_1 []->br (!n == (0:Int)) (∃(m'':Mem),Mem.le m m''/\Mem.le m'' m'_1/\R (tuple (Array.mk [int i64 0,int i64 n])) m'' []) (br (!aG == (5:Int)) (∃(m'':Mem),Mem.le m m''/\Mem.le m'' m'_1/\R (tuple
 (Array.mk [int i64 0,int i64 2])) m'' []) (∃(Y:Nat->Prop),∃(R_2:Value->Mem->List (List Value)->List Value->Prop),CXY Tryz.prog 44 (Array.mk [v,v_1,int i64 0,int i64 0]) m'_1 Y [] [] R_2/\(∀(t:Tok),
 t∈[]->∀(b:Nat),Tok.blk t=some b->Y b)/\(∀(b_1:Nat),Y b_1->(∃(t:Tok),t∈[]/\Tok.blk t=some b_1)\/(Mem.free m b_1/\Mem.k m b_1=none)/\((∃(o:Nat),∃(v:Value),m'_1 b_1 o=some v)\/∃(e
 : List (Value×Value)),Mem.k m'_1 b_1=some e)/\b≠b_1/\True)/\(∀(v:Value)(m':Mem) (css:List (List Value)) (tvs:List Value),R_2 v m' css tvs->Shape.fits Shape.slice v=true)/\∀(a:Option Addr) (n
 c:Nat) (m':Mem),Mem.le (Mem.off m'_1 Y) m'->(NewM m'_1 m' λ(b:Nat)=>Y b\/Mem.free m'_1 b)->R_2 (slice a n c) m' [] []->∃(R_3:RT),True/\CX Tryz.prog 43 (Array.mk [slice a n c,int i64 (↑p1n:Int)])
 m' [] R_3/\Zaz Shape.bool R_3/\∀(b_1:Bool)(m'_2:Mem),Mem.le m' m'_2->R_3 (bool b_1) m'_2 []->br (!b_1) (∃(m'':Mem),Mem.le m m''/\Mem.le m'' m'_2/\R (tuple (Array.mk [int i64 0,int i64 141])) m'' [])
 (∃(Y:Nat->Prop),∃(R_4:Value->Mem->List (List Value)->List Value->Prop),CXY Tryz.prog 45 (Array.mk [v,v_1,int i64 0,int i64 (↑p1n:Int)]) m'_2 Y [] [] R_4/\(∀(t:Tok),t∈[]->∀(b:Nat),Tok.blk t
 = some b->Y b)/\(∀(b_2:Nat),Y b_2->(∃(t:Tok),t∈[]/\Tok.blk t=some b_2)\/(Mem.free m b_2/\Mem.k m b_2=none)/\((∃(o:Nat),∃(v:Value),m'_2 b_2 o=some v)\/∃(e:List (Value×Value)),Mem.k
 m'_2 b_2=some e)/\b≠b_2/\True)/\(∀(v:Value)(m':Mem) (css:List (List Value)) (tvs:List Value),R_4 v m' css tvs->Shape.fits (Shape.int i64) v=true)/\∀(n:Int)(m':Mem),Mem.le (Mem.off m'_2 Y) m'
 -> (NewM m'_2 m' λ(b:Nat)=>Y b\/Mem.free m'_2 b)->R_4 (int i64 n) m' [] []->∃(m'':Mem),Mem.le m m''/\Mem.le m'' m'/\R (tuple (Array.mk [int i64 n,int i64 0])) m'' [])))
theorem ZjE(aG aD aI aJ aK aE aH:Int)(aB:Option Addr)(aA aC:Nat)(p1a:Option Addr)(p1n p1c:Nat)(m:Mem)(R:RT)(h:Zgz aG aD aI aJ aK aE aH aB aA aC p1a p1n p1c m R):CX Tryz.prog 24 #[.agg #[.int .u8 aG,.int .u64 aD,.int .u64 aI,.int .u64 aJ,.int .u64 aK,.int .i64 aE,.int .i64 aH,.slice aB aA aC],.slice p1a p1n p1c] m [] R:=
 Zah (E:=Zlu) Zay mix Tryz.func24 [.v (.agg #[.int .u8 aG,.int .u64 aD,.int .u64 aI,.int .u64 aJ,.int .u64 aK,.int .i64 aE,.int .i64 aH,.slice aB aA aC]),.v (.slice p1a p1n p1c)] [] (by kernel_rfl) (Eq.mp (by kernel_rfl) h)
noncomputable def ZiA:Env:={ EB with
 loops:=(λi=>bif Nat.beq i 6 then⟨[(8,.slice),(25,.int .i64)],[],[(40,1)],false⟩ else⟨[],[],[],false⟩)
 tokOf:=(λi=>bif Nat.beq i 40 then 40 else 0)
 frzNew:=[2] }
def ZeU(aG aD aI aJ aK aE aH:Int)(aB:Option Addr)(aA aC:Nat)(p1a:Option Addr)(p1n p1c:Nat)(m:Mem)(R:RT):Prop:=
 ∀(b:Nat)(m':Mem),Mem.le m m'->Mem.reads m' b 0 [int u8 aG,int u64 aD,int u64 aI,int u64 aJ,int u64 aK,int i64 aE,int i64 aH,slice aB aA aC]->∃(R_1:RT),True/\CX Tryz.prog 10
 (Array.mk [agg (Array.mk [int u8 aG,int u64 aD,int u64 aI,int u64 aJ,int u64 aK,int i64 aE,int i64 aH,slice aB aA aC]),slice p1a p1n p1c]) m' [] R_1/\Zaz (Shape.tup [Shape.slice,
 Shape.int i64]) R_1/\∀(a:Option Addr)(n c:Nat)(ai:Int)(ac:Mem),Mem.le m' ac->R_1 (tuple (Array.mk [slice a n c,int i64 ai])) ac []->br (!ai == (0:Int)) (∃(m'':Mem),Mem.le m m''/\Mem.le m'' ac/\R
 (tuple (Array.mk [slice none 0 0,int i64 ai])) m'' []) (∃(bs:ByteArray),ByteArray.size bs=p1n/\rowRd ac p1a (ZaI bs)/\∀(ad:Nat),Mem.free ac ad->∃(I:IT),(∃(n:Nat),I [slice (some (Addr.mk ad 0
 none)) 1 1,int i64 0] [] [slice none 0 0] (Mem.add ac ad [string bs]) n)/\∀(ae:Option Addr)(ab c:Nat)(af:Int)(ak:Option Addr)(al am:Nat)(m':Mem)(an:Nat),Mem.le (Mem.add ac ad [string bs]) m'->I
 [slice ae ab c,int i64 af] [] [slice ak al am] m' an->br (decide (af < (↑n:Int))) (∃(ao:Nat),∃(o:Nat),a=some (Addr.mk ao o none)/\Zag af n/\∃(v:Value),∃(aa:Value),Mem.reads m' ao (o +
 Int.toNat af*2) [v,aa]/\∀(ap:Nat),chk (Value.oneCell' v&&(Value.oneCell' aa&&true)) (chk (ZaS i64 v&&decide (i64=i64)) (chk (ZaS i64 aa&&decide (i64=i64)) ((((0:Int)<=if(0:Int) >
 RowKit.intOf aa then(0:Int)else RowKit.intOf aa)/\(if(0:Int) > RowKit.intOf aa then(0:Int)else RowKit.intOf aa)<=(↑p1c:Int))/\(((0:Int)<=if(0:Int) > RowKit.intOf v then(0:Int)else RowKit.intOf
 v)/\(if(0:Int) > RowKit.intOf v then(0:Int)else RowKit.intOf v)<=(↑(Int.toNat (if(0:Int) > RowKit.intOf aa then(0:Int)else RowKit.intOf aa)):Int))/\∃(ag:ByteArray),ByteArray.size ag=Int.toNat
 (if(0:Int) > RowKit.intOf aa then(0:Int)else RowKit.intOf aa) - Int.toNat (if(0:Int) > RowKit.intOf v then(0:Int)else RowKit.intOf v)/\rowRd m' (Za0 p1a (Int.toNat (if(0:Int) > RowKit.intOf v then
 (0:Int)else RowKit.intOf v)) p1c 1) (ZaI ag)/\∀(ah:Nat),Mem.free m' ah->(Tok.mk (slice ak al am) 1=Tok.mk (slice ae ab c) 1\/slice ae ab c=slice none 0 0\/c < ab+1)/\∃(xs:List Value),∃(ys:
 List Value),List.length xs=ab*1/\List.length ys=1*1/\rowRd (Mem.add m' ah [string ag]) ae xs/\rowRd (Mem.add m' ah [string ag]) (some (Addr.mk ah 0 none)) ys/\(∀(u:Value),u∈ys->Value.oneCell' u =
 true)/\(ab+1)*16<=140737488355328/\ab+1<=9223372036854775807/\∀(a':Option Addr)(c':Nat)(aj:Mem),Mem.le (Mem.add m' ah [string ag]) aj->rowRd aj a' (List.append xs ys)->[some (Box.mk ad [string bs]
 9 1 true true),some (Box.mk b [int u8 aG,int u64 aD,int u64 aI,int u64 aJ,int u64 aK,int i64 aE,int i64 aH,slice aB aA aC] 30 8 true true)]=[some (Box.mk ad [string bs] 9 1 true true),
 some (Box.mk b [int u8 aG,int u64 aD,int u64 aI,int u64 aJ,int u64 aK,int i64 aE,int i64 aH,slice aB aA aC] 30 8 true true)]/\∃(n':Nat),n' < an/\I [slice a' (ab+1) c',int i64
 (IntKind.wrap i64 (af+(1:Int)))] [] [slice a' (ab+1) c'] aj n')))) (∃(m'':Mem),Mem.le m m''/\Mem.le m'' m'/\R (tuple (Array.mk [slice ae ab c,int i64 0])) m'' []))
theorem ZhS(aG aD aI aJ aK aE aH:Int)(aB:Option Addr)(aA aC:Nat)(p1a:Option Addr)(p1n p1c:Nat)(m:Mem)(R:RT)(h:ZeU aG aD aI aJ aK aE aH aB aA aC p1a p1n p1c m R):CX Tryz.prog 25 #[.agg #[.int .u8 aG,.int .u64 aD,.int .u64 aI,.int .u64 aJ,.int .u64 aK,.int .i64 aE,.int .i64 aH,.slice aB aA aC],.slice p1a p1n p1c] m [] R:=
 Zah (E:=ZiA) Zay mix Tryz.func25 [.v (.agg #[.int .u8 aG,.int .u64 aD,.int .u64 aI,.int .u64 aJ,.int .u64 aK,.int .i64 aE,.int .i64 aH,.slice aB aA aC]),.v (.slice p1a p1n p1c)] [] (by kernel_rfl) (Eq.mp (by kernel_rfl) h)
end Go.Proofs.YtgclajkldphoaaaGreat