/- Part of the proof: conditions and contracts of functions of this program. No condition of its own. -/
import Derived.Test.YtfgfahnakepegaaPC15TE
import Derived.Test.YtfgfahnakepegaaPEnv
import Derived.Test.YtfgfahnakepegaaMc
import Derived.Test.YtfgfahnakepegaaMr
import Derived.Test.YtfgfahnakepegaaPC15ZN
set_option linter.unusedVariables false
set_option linter.unusedSimpArgs false
namespace Go.Proofs.Ytfgfahnakepegaa
open Go Go.Eng Go.Rx Go.Proofs Go.RowKit
set_option maxRecDepth 100000
theorem ZyR(a b c d a' b' c' d':Int):EqIs Try.prog 72 (.agg #[.int .i64 a,.int .i64 b,.int .i64 c,.int .i64 d]) (.agg #[.int .i64 a',.int .i64 b',.int .i64 c',.int .i64 d']) (a == a'&&b == b'&&c == c'&&d == d'):=by
 refine⟨λw=>?_,λop ox oy w=>Zei (by kernel_rfl) op ox oy _ _ w⟩
 have u3:=Try.underlying3
 have a3:=Try.isAgg3
 have z3:=Try.sizeOf3
 rw[Op.equal,Op.maxDepth,show(10000:Nat)=9999+1 from rfl]
 rw[run_equalIn_agg _ _ _ _ _ (by kernel_rfl) (by kernel_rfl)]
 have hf:(Try.prog.fieldsOf 72).toList=[⟨ "Alt",3,0,false, "", "",0⟩,⟨ "From",3,1,false, "", "",8⟩,⟨ "To",3,2,false, "", "",16⟩,⟨ "Length",3,3,false, "", "",24⟩]:=by kernel_rfl
 rw[hf]
 go_simp
 by_cases h1:a=a' <;> by_cases h2:b=b' <;> by_cases h3:c=c' <;> by_cases h4:d=d' <;> simp[h1,h2,h3,h4]
def IsC(k:C4)(a b c d:Int):Prop:=((k.a:Nat):Int)=a/\((k.f:Nat):Int)=b/\((k.t:Nat):Int)=c/\((k.n:Nat):Int)=d
def ZBU(e:Int)(E:T):Value->Mem->List (List Value)->Prop:=λv m' _=>∃cs,v=.tuple #[.agg cs.toArray,.int .i64 e]/\RefT m' E cs
def ZBq(t:T)(a b c d:Int):Value->Mem->List (List Value)->Prop:=λv m' css=>(∃k∈t.cuts,IsC k a b c d/\ZBU 0 (t.cutAt k 0).1 v m' css)\/((∀k∈t.cuts,¬IsC k a b c d)/\ZBU 150 T0 v m' css)
theorem Zvh{t:T}{a b c d:Int}:∀(v:Value)(m':Mem) (css:List (List Value)),ZBq t a b c d v m' css->Shape.fits (.tup [.cells,.int .i64]) v=true:=by
 rintro v m' css (⟨_,_,_,_,h,_⟩|⟨_,_,h,_⟩)
 ·rw[h];rfl
 ·rw[h];rfl
theorem ZtH{m:Mem}{a:Option Addr}{L:List C4}(h:rowRd m a (Za9 L)){i:Nat}{k:C4}(hk:L[i]?=some k):∃b o,a=some ⟨b,o,none⟩/\m.reads b (o+i*4) (ZcJ k):=by
 have key:∀{L:List C4} {i:Nat},L[i]?=some k->∀j v,(ZcJ k)[j]?=some v->(Za9 L)[i*4+j]?=some v:=by
  intro L
  induction L with
  | nil=>intro i h;simp at h
  | cons x L ih=>
   intro i h j v hv
   have hj:j < 4:=(List.getElem?_eq_some_iff.1 hv).1
   have e:Za9 (x::L)=ZcJ x++Za9 L:=rfl
   cases i with
   | zero=>
    simp at h;subst h
    rw[e,Nat.zero_mul,Nat.zero_add,List.getElem?_append_left hj];exact hv
   | succ i=>
    rw[e,List.getElem?_append_right (by show 4<=_;omega),show(i+1)*4+j - (ZcJ x).length=i*4+j from by show(i+1)*4+j - 4=_;omega]
    exact ih (by simpa using h) j v hv
 rcases h with h|⟨b,o,e,h⟩
 ·have h1:=ZeH L
  have h2:=(List.getElem?_eq_some_iff.1 hk).1
  rw[h]at h1;simp at h1;omega
 ·exact⟨b,o,e,λj v hv=>by have:=h _ v (key hk j v hv);rwa [<-Nat.add_assoc]at this⟩
theorem ZyS(t:T)(cs:List Value)(a b c d:Int)(m:Mem)(hr:RefT m t cs)(hg:t.good=true)(hz:t.nodes.length<=120):CX Try.prog 42 #[.agg cs.toArray,.agg #[.int .i64 a,.int .i64 b,.int .i64 c,.int .i64 d]] m [] (ZBq t a b c d):=by
 apply ZoH
 unfold Zi0
 have bN:=Zpa (t:=t) (by omega)
 refine hr.chk λb0 m1 aO _ b1 m2 aP _ b2=>?_
 have bY:=mLt aO aP
 refine Zag (ZnM t cs m2 (hr.mono bY) (by omega)) ZnL ?_
 rintro a3 n3 c3 m3 aX ⟨aa,ac,hv,aR⟩
 simp only[Value.slice.injEq]at hv
 obtain⟨rfl,rfl,rfl⟩:=hv
 have bT:=mLt bY aX
 refine⟨λxs _ _ m' q=>∃i:Nat,i<=t.cuts.length/\xs=[.int .i64 i]/\(∀k∈t.cuts.take i,¬IsC k a b c d)/\q=t.cuts.length - i,⟨_,0,Nat.zero_le _,rfl,by simp,rfl⟩,?_⟩
 rintro z cs' m4 q bK ⟨i,hi,bB,dR,hq⟩
 obtain rfl:z=i:=by simpa using bB
 subst hq
 have gA:=mLt bT bK
 refine ZbF (λaS=>?_) (λbR=>?_)
 ·have aQ:i < t.cuts.length:=by omega
  obtain⟨k,hk⟩:=ZaY aQ
  have mJ:=List.mem_of_getElem? hk
  obtain⟨bb,o,rfl,bC⟩:=ZtH (aR.mono bK) hk
  have hw:IntKind.i64.wrap ((i:Int)+1)=((i+1:Nat):Int):=by rw[ZaA (by omega) (by omega)];rfl
  simp only[hw,Int.toNat_natCast]
  refine⟨bb,o,rfl,⟨by omega,by omega⟩,_,_,_,_,bC,_,ZyR _ _ _ _ _ _ _ _,Zab (λhy=>?_) (λhy=>?_)⟩
  ·simp only[Bool.and_eq_true,beq_iff_eq]at hy
   obtain⟨⟨⟨rfl,rfl⟩,rfl⟩,rfl⟩:=hy
   refine Zag (Zsr k t cs 0 m4 (hr.mono gA) hg (by omega) (by omega) (Zd4 mJ)) Zbf (Zhn λcs5 m5 cU h5=>h5.chk1 ⟨m5,mLt gA cU,Mem.le_refl _,.inl ⟨k,mJ,⟨rfl,rfl,rfl,rfl⟩,cs5,rfl,h5⟩⟩)
  ·refine⟨by trivial,t.cuts.length - (i+1),by omega,i+1,aQ,rfl,?_,rfl⟩
   rw[List.take_add_one,hk]
   intro k' hk'
   rcases List.mem_append.1 hk' with hk'|hk'
   ·exact dR k' hk'
   ·simp at hk';subst hk'
    rintro⟨h1,h2,h3,h4⟩
    rw[h1,h2,h3,h4]at hy
    simp at hy
 ·have:i=t.cuts.length:=by omega
  subst this
  rw[List.take_length]at dR
  have e:Zfx=rcs 0 (0,0,0,0) 0 0 none 0 0:=ZiY 0 0 0 none 0 0
  rw[e]
  exact⟨m4,gA,Mem.le_refl _,.inr ⟨dR,_,rfl,Zvd _⟩⟩
end Go.Proofs.Ytfgfahnakepegaa
set_option linter.unusedVariables false
namespace Go.Proofs.Ytfgfahnakepegaa
open Go Go.Eng Go.Proofs Go.RowKit
open Go.Value (int slice agg bool string tuple func)
open Go.IntKind (u8 u64 i64)
set_option maxRecDepth 100000
noncomputable def ZoI:Env:={ EB with
 loops:=(λi=>bif Nat.beq i 3 then⟨[(18,.int .i64)],[3],[],false⟩ else bif Nat.beq i 8 then⟨[(39,.int .i64)],[3],[(48,8)],false⟩ else⟨[],[],[],false⟩)
 dr:=(λi=>bif Nat.beq i 5 then[⟨0,[],[],none,[],[]⟩,⟨1,[],[],none,[0],[]⟩,⟨2,[3],[],none,[],[]⟩,⟨3,[3],[],none,[0,1,2],[]⟩,⟨4,[3],[],none,[0,1,2,3],[]⟩,⟨5,[],[],none,[],[]⟩,⟨6,[],[],none,[5],[]⟩,⟨7,[],[],none,[],[]⟩,⟨8,[],[],none,[7],[]⟩,⟨9,[],[],none,[5,6,7,8],[]⟩,⟨10,[],[],none,[0,1,2,3,4,5,6,7,8,9],[]⟩,⟨11,[3],[],none,[],[]⟩,⟨12,[3],[],none,rg 0 12,[]⟩,⟨13,[3],[3],none,rg 0 13,[]⟩]else bif Nat.beq i 10 then[⟨0,[3],[],none,[],[]⟩,⟨1,[3],[],none,[0],[]⟩,⟨2,[7],[],none,[],[]⟩,⟨3,[],[],none,[2],[]⟩,⟨4,[47],[47],none,[2,3],[3]⟩,⟨5,[47],[],some 48,[0,1,2,3,4],[4]⟩,⟨6,[3],[],none,[0,1,2,3,4,5],[]⟩,⟨7,[3],[3],none,[0,1,2,3,4,5,6],[]⟩]else[])
 tokOf:=(λi=>bif Nat.beq i 48 then 48 else 0)
 frzNew:=[1]
 capF:=true }
abbrev ZmI:Nat->Option Box:=λ(b:Nat)=>some (Box.mk b [int u8 0,int u64 0,int u64 0,int u64 0,int u64 0,int i64 0,int i64 0,slice none 0 0] 27 8 false true)
abbrev ZmJ:List Value->Nat->Option Box:=λ(p0:List Value)(b:Nat)=>some (Box.mk b p0 70 260 true true)
abbrev Zhz:List Value->Nat->Nat->Nat->List (Option Box):=λ(p0:List Value)(b ap aq:Nat)=>[some (Box.mk aq [] 27 8 false true),ZmI ap,ZmJ p0 b]
def ZhA(p0:List Value)(m:Mem)(R:RT):Prop:=
 chk (Nat.beq (List.length p0) 260) (∀(b:Nat)(m':Mem),Mem.le m m'->Mem.reads m' b 0 p0->∀(ap:Nat),Eng.Zvl p0 0 λ(v:Value)=>chk (ZaG i64 v) (Eng.Zvl p0 257 λ(aa:Value)=>Eng.Zvl p0 258 fun
 (ac:Value)=>chk (Nat.beq (List.length (Array.toList (Value.cells aa))) 1&&true) (chk (Nat.beq (List.length (Array.toList (Value.cells ac))) 1&&Nat.ble (nat_lit 2) (List.length (List.append (Array.toList
 (Value.cells aa)) (List.drop (5+List.length (Array.toList (Value.cells aa))) [int u8 (IntKind.wrap u8 (RowKit.intOf v)),int u64 0,int u64 0,int u64 0,int u64 0,int i64 0,int i64 0,slice none 0 0])))) (∀(aq:
 Nat),chk (Nat.beq (List.length (List.append (List.append (List.take (nat_lit 1) (List.append (Array.toList (Value.cells aa)) (List.drop (5+List.length (Array.toList (Value.cells aa))) [int u8 (IntKind.wrap u8
 (RowKit.intOf v)),int u64 0,int u64 0,int u64 0,int u64 0,int i64 0,int i64 0,slice none 0 0]))) (Array.toList (Value.cells ac))) (List.drop (6+List.length (Array.toList (Value.cells ac))) (Zav [int u8
 (IntKind.wrap u8 (RowKit.intOf v)),int u64 0,int u64 0,int u64 0,int u64 0,int i64 0,int i64 0,slice none 0 0] 5 (Array.toList (Value.cells aa)))))) (nat_lit 3)&&ZbA (List.append (List.append (List.take
 (nat_lit 1) (List.append (Array.toList (Value.cells aa)) (List.drop (5+List.length (Array.toList (Value.cells aa))) [int u8 (IntKind.wrap u8 (RowKit.intOf v)),int u64 0,int u64 0,int u64 0,int u64 0,int i64 0,
 int i64 0,slice none 0 0]))) (Array.toList (Value.cells ac))) (List.drop (6+List.length (Array.toList (Value.cells ac))) (Zav [int u8 (IntKind.wrap u8 (RowKit.intOf v)),int u64 0,int u64 0,int u64 0,int u64 0,
 int i64 0,int i64 0,slice none 0 0] 5 (Array.toList (Value.cells aa)))))) (chk (Nat.ble 257 (List.length p0)) (∃(I:IT),(∃(n:Nat),I [int i64 0] [Zav (Zav [int u8 (IntKind.wrap u8 (RowKit.intOf v)),int
 u64 0,int u64 0,int u64 0,int u64 0,int i64 0,int i64 0,slice none 0 0] 5 (Array.toList (Value.cells aa))) 6 (Array.toList (Value.cells ac))] [] m' n)/\∀(n:Int)(cs:List Value)(ae:Mem)(au:Nat),Mem.le
 m' ae->I [int i64 n] [cs] [] ae au->br (decide (n < (256:Int))) (Zad n 256/\Eng.Zvl (List.take 256 (List.drop 1 p0)) (Int.toNat n) λ(u:Value)=>(64:Int)≠(0:Int)/\Zad (IntKind.wrap i64
 (Int.tdiv n (64:Int))) 4/\Eng.Zvl cs (1+Int.toNat (IntKind.wrap i64 (Int.tdiv n (64:Int)))*1) λ(v:Value)=>chk (ZaG i64 u) ((64:Int)≠(0:Int)/\(0:Int)<=Int.tmod n (64:Int)/\chk (ZaG u64 v
 && decide (u64=u64)) (Zad (IntKind.wrap i64 (Int.tdiv n (64:Int))) 4/\chk (Nat.ble (1+Int.toNat (IntKind.wrap i64 (Int.tdiv n (64:Int)))*1+1) (List.length cs)) (Zaz (Zhz p0 b ap aq)/\∃(n'
 : Nat),n' < au/\I [int i64 (IntKind.wrap i64 (n+(1:Int)))] [Zav cs (1+Int.toNat (IntKind.wrap i64 (Int.tdiv n (64:Int)))*1) [int u64 (IntKind.wrap u64 (↑(BitVec.toNat (BitVec.ofInt 64 (RowKit.intOf v) |||
 BitVec.ofInt 64 (IntKind.wrap u64 (IntKind.wrap u64 (RowKit.intOf u)*(2:Int) ^ min (Int.toNat (Int.tmod n (64:Int))) 64)))):Int))]] [] ae n')))) (Eng.Zvl p0 259 λ(v:Value)=>chk (Zcn v) (∃(I:IT),(∃
 (n:Nat),I [int i64 0] [cs] [slice none 0 0] ae n)/\∀(n:Int)(cs:List Value)(a:Option Addr)(av c:Nat)(m':Mem)(aw:Nat),Mem.le ae m'->I [int i64 n] [cs] [slice a av c] m' aw->br (decide (n < (↑(slN
 v):Int))) (chk (Zcn v) (∃(ax:Nat),∃(o:Nat),slA v=some (Addr.mk ax o none)/\Zad n (slN v)/\∃(vs:List Value),List.length vs=260/\Mem.reads m' ax (o+Int.toNat n*260) vs/\∀(ay:Nat),chk
 (Nat.beq (List.length vs) 260&&ZbA vs) (∃(f:Fx),Eng.Zvl cs 7 λ(v:Value)=>∃(R:RT),R=f 3 [agg (Array.mk vs)] m'/\CX Try.prog 78 (Array.mk [agg (Array.mk vs)]) m' [] R/\Zau (shT) R/\∀(af ag ah ai
 aj ak al:Int) (am:Option Addr) (an ao:Nat) (ab:Mem),Mem.le m' ab->R (agg (Array.mk [int u8 af,int u64 ag,int u64 ah,int u64 ai,int u64 aj,int i64 ak,int i64 al,slice am an ao])) ab []->∀(ad:Nat),
 Mem.free ab ad->chk (Zcn v&&true) ((Tok.mk (slice a av c) 8=Tok.mk v 8\/v=slice none 0 0\/slC v < slN v+1)/\∃(xs:List Value),∃(ys:List Value),List.length xs=slN v*8/\List.length ys=1*8/\
 rowRd (Mem.add ab ad [int u8 af,int u64 ag,int u64 ah,int u64 ai,int u64 aj,int i64 ak,int i64 al,slice am an ao]) (slA v) xs/\rowRd (Mem.add ab ad [int u8 af,int u64 ag,int u64 ah,int u64 ai,int u64 aj,int
 i64 ak,int i64 al,slice am an ao]) (some (Addr.mk ad 0 none)) ys/\(∀(u:Value),u∈ys->Value.oneCell' u=true)/\(slN v+1)*80<=140737488355328/\slN v+1<=9223372036854775807/\∀(a':Option Addr) (c':
 Nat) (ar:Mem),Mem.le (Mem.add ab ad [int u8 af,int u64 ag,int u64 ah,int u64 ai,int u64 aj,int i64 ak,int i64 al,slice am an ao]) ar->rowRd ar a' (List.append xs ys)->slN v+1<=c'->chk (Nat.ble 8
 (List.length cs)) (∀(M:Mem),Mem.le m' M->Mem.le ab M->Mem.le (Mem.add ab ad [int u8 af,int u64 ag,int u64 ah,int u64 ai,int u64 aj,int i64 ak,int i64 al,slice am an ao]) M->Mem.le ar M->Zaz
 (Zhz p0 b ap aq)/\∃(n':Nat),n' < aw/\I [int i64 (IntKind.wrap i64 (n+(1:Int)))] [Zav cs 7 [slice a' (slN v+1) c']] [slice a' (slN v+1) c'] M n'))))) (chk (Nat.beq (List.length cs) 8&&ZbA
 cs) (∃(m'':Mem),Mem.le m m''/\Mem.le m'' m'/\R (agg (Array.mk cs)) m'' []))))))))))
theorem ZmK(p0:List Value)(m:Mem)(R:RT)(h:ZhA p0 m R):CX Try.prog 78 #[.agg p0.toArray] m [] R:=
 Zaf (E:=ZoI) ZaH mix Try.func78 [.v (.agg p0.toArray)] [] (by kernel_rfl) (Eq.mp (by kernel_rfl) h)
noncomputable def ZmL:Env:={ EB with
 frzNew:=[1] }
def Zf0(aD aE aF aG aJ aH aI:Int)(aB:Option Addr)(aA aC:Nat)(m:Mem)(R:RT):Prop:=
 ∀(b:Nat)(m':Mem),Mem.le m m'->Mem.reads m' b 0 [int u8 aD,int u64 aE,int u64 aF,int u64 aG,int u64 aJ,int i64 aH,int i64 aI,slice aB aA aC]->∃(R_1:RT),True/\CX Try.prog 37
 (Array.mk [agg (Array.mk [int u8 aD,int u64 aE,int u64 aF,int u64 aG,int u64 aJ,int i64 aH,int i64 aI,slice aB aA aC]),int i64 60]) m' [] R_1/\Zau (Shape.int i64) R_1/\∀(n:Int) (m'_1
 : Mem),Mem.le m' m'_1->R_1 (int i64 n) m'_1 []->∃(m'':Mem),Mem.le m m''/\Mem.le m'' m'_1/\R (bool (decide (n<=(60:Int)))) m'' []
theorem Zkf(aD aE aF aG aJ aH aI:Int)(aB:Option Addr)(aA aC:Nat)(m:Mem)(R:RT)(h:Zf0 aD aE aF aG aJ aH aI aB aA aC m R):CX Try.prog 10 #[.agg #[.int .u8 aD,.int .u64 aE,.int .u64 aF,.int .u64 aG,.int .u64 aJ,.int .i64 aH,.int .i64 aI,.slice aB aA aC]] m [] R:=
 Zaf (E:=ZmL) ZaH mix Try.func10 [.v (.agg #[.int .u8 aD,.int .u64 aE,.int .u64 aF,.int .u64 aG,.int .u64 aJ,.int .i64 aH,.int .i64 aI,.slice aB aA aC])] [] (by kernel_rfl) (Eq.mp (by kernel_rfl) h)
noncomputable def Zkg:Env:={ EB with
 frzNew:=[1] }
def Zfg(aD aE aF aG aJ aH aI:Int)(aB:Option Addr)(aA aC:Nat)(m:Mem)(R:RT):Prop:=
 ∀(b:Nat)(m':Mem),Mem.le m m'->Mem.reads m' b 0 [int u8 aD,int u64 aE,int u64 aF,int u64 aG,int u64 aJ,int i64 aH,int i64 aI,slice aB aA aC]->∀(b:Nat),∃(R_1:RT),True/\CX
 Try.prog 39 (Array.mk [agg (Array.mk [int u8 aD,int u64 aE,int u64 aF,int u64 aG,int u64 aJ,int i64 aH,int i64 aI,slice aB aA aC])]) m' [] R_1/\Zau Shape.cells R_1/\∀(cs:List Value)
 (m'_1:Mem),Mem.le m' m'_1->R_1 (agg (Array.mk cs)) m'_1 []->∃(R_2:RT),True/\CX Try.prog 78 (Array.mk [agg (Array.mk cs)]) m'_1 [] R_2/\Zau (shT) R_2/\∀(n n_1 n_2 n_3 n_4 n_5 n_6:Int)(a:Option Addr)
 (n_7 c:Nat) (m':Mem),Mem.le m'_1 m'->R_2 (agg (Array.mk [int u8 n,int u64 n_1,int u64 n_2,int u64 n_3,int u64 n_4,int i64 n_5,int i64 n_6,slice a n_7 c])) m' []->∃(m'':Mem),Mem.le m m''/\Mem.le m'' m'
 /\ R (agg (Array.mk [int u8 n,int u64 n_1,int u64 n_2,int u64 n_3,int u64 n_4,int i64 n_5,int i64 n_6,slice a n_7 c])) m'' []
theorem Zi2(aD aE aF aG aJ aH aI:Int)(aB:Option Addr)(aA aC:Nat)(m:Mem)(R:RT)(h:Zfg aD aE aF aG aJ aH aI aB aA aC m R):CX Try.prog 38 #[.agg #[.int .u8 aD,.int .u64 aE,.int .u64 aF,.int .u64 aG,.int .u64 aJ,.int .i64 aH,.int .i64 aI,.slice aB aA aC]] m [] R:=
 Zaf (E:=Zkg) ZaH mix Try.func38 [.v (.agg #[.int .u8 aD,.int .u64 aE,.int .u64 aF,.int .u64 aG,.int .u64 aJ,.int .i64 aH,.int .i64 aI,.slice aB aA aC])] [] (by kernel_rfl) (Eq.mp (by kernel_rfl) h)
noncomputable def ZoJ:Env:={ EB with
 dr:=(λi=>bif Nat.beq i 1 then[⟨0,[2],[],none,[],[]⟩,⟨1,[],[],none,[0],[]⟩,⟨2,[],[],none,[0,1],[]⟩,⟨3,[],[],none,[0,1,2],[]⟩,⟨4,[2],[],none,[0,1,2,3],[1]⟩,⟨5,[],[],none,[0,1,2,3,4],[1]⟩,⟨6,[3],[],none,[0,1,2,3],[1]⟩,⟨7,[],[],none,[0,1,2,3,4,5,6],[5]⟩,⟨8,[],[],none,[0,1,2,3,4,5,6,7],[]⟩,⟨9,[],[],none,[0,1,2,3,4,5,6,7,8],[]⟩]else[])
 frzNew:=[2,3]
 gb:=true }
def ZhB(aD aE aF aG aJ aH aI:Int)(aB:Option Addr)(aA aC:Nat)(p1:List Value)(m:Mem)(R:RT):Prop:=
 ∀(b:Nat)(m':Mem),Mem.le m m'->Mem.reads m' b 0 [int u8 aD,int u64 aE,int u64 aF,int u64 aG,int u64 aJ,int i64 aH,int i64 aI,slice aB aA aC]->chk (Nat.beq (List.length p1) 260) (∀
 (b:Nat) (m'_1:Mem),Mem.le m' m'_1->Mem.reads m'_1 b 0 p1->∃(f:Fx),∃(R_1:RT),R_1=f 1 [agg (Array.mk [int u8 aD,int u64 aE,int u64 aF,int u64 aG,int u64 aJ,int i64 aH,int i64 aI,slice
 aB aA aC]),int i64 1000] m'_1/\CX Try.prog 37 (Array.mk [agg (Array.mk [int u8 aD,int u64 aE,int u64 aF,int u64 aG,int u64 aJ,int i64 aH,int i64 aI,slice aB aA aC]),int i64
 1000]) m'_1 [] R_1/\Zau (Shape.int i64) R_1/\∀(n:Int)(m':Mem),Mem.le m'_1 m'->R_1 (int i64 n) m' []->br (decide (n<=(1000:Int))) (∃(R_2:RT),R_2=f 5 [agg (Array.mk [int u8 aD,int u64 aE,int u64
 aF,int u64 aG,int u64 aJ,int i64 aH,int i64 aI,slice aB aA aC])] m'/\CX Try.prog 39 (Array.mk [agg (Array.mk [int u8 aD,int u64 aE,int u64 aF,int u64 aG,int u64 aJ,int i64 aH,
 int i64 aI,slice aB aA aC])]) m' [] R_2/\Zau Shape.cells R_2/\∀(cs:List Value)(m'_2:Mem),Mem.le m' m'_2->R_2 (agg (Array.mk cs)) m'_2 []->∃(R_3:RT),R_3=f 7 [agg (Array.mk cs),agg (Array.mk
 p1)] m'_2/\CX Try.prog 83 (Array.mk [agg (Array.mk cs),agg (Array.mk p1)]) m'_2 [] R_3/\Zau Shape.bool R_3/\∀(b:Bool)(m'_3:Mem),Mem.le m'_2 m'_3->R_3 (bool b) m'_3 []->∀(M:Mem),Mem.le m'_1 M->Mem.le
 m' M->Mem.le m'_2 M->Mem.le m'_3 M->∃(m'':Mem),Mem.le m m''/\Mem.le m'' M/\R (bool b) m'' []) (∀(M:Mem),Mem.le m'_1 M->Mem.le m' M->Mem.le m' M->Mem.le m' M->∃(m'':Mem),Mem.le m m''/\Mem.le m'' M/\
 R (bool false) m'' []))
theorem ZmM(aD aE aF aG aJ aH aI:Int)(aB:Option Addr)(aA aC:Nat)(p1:List Value)(m:Mem)(R:RT)(h:ZhB aD aE aF aG aJ aH aI aB aA aC p1 m R):CX Try.prog 43 #[.agg #[.int .u8 aD,.int .u64 aE,.int .u64 aF,.int .u64 aG,.int .u64 aJ,.int .i64 aH,.int .i64 aI,.slice aB aA aC],.agg p1.toArray] m [] R:=
 Zaf (E:=ZoJ) ZaH mix Try.func43 [.v (.agg #[.int .u8 aD,.int .u64 aE,.int .u64 aF,.int .u64 aG,.int .u64 aJ,.int .i64 aH,.int .i64 aI,.slice aB aA aC]),.v (.agg p1.toArray)] [] (by kernel_rfl) (Eq.mp (by kernel_rfl) h)
noncomputable def ZmN:Env:={ EB with
 loops:=(λi=>bif Nat.beq i 2 then⟨[(6,.int .i64)],[],[],false⟩ else⟨[],[],[],false⟩)
 frzNew:=[1]
 thaw:=true
 stAt:=(λi=>bif Nat.beq i 19 then some 999 else none)
 tails:=true
 lentC:=(λi=>bif Nat.beq i 14 then some []else none) }
def Zf1(aD aE aF aG aJ aH aI:Int)(aB:Option Addr)(aA aC:Nat)(m:Mem)(Y:Nat->Prop)(R:RTY):Prop:=
 ∀(b:Nat)(m':Mem),Mem.le m m'->Mem.reads m' b 0 [int u8 aD,int u64 aE,int u64 aF,int u64 aG,int u64 aJ,int i64 aH,int i64 aI,slice aB aA aC]->Mem.free m b->(∀(b' o:Nat) (u:
 Value),m' b' o=some u->m b' o=some u\/b'=b)->∃(I:IT),(∃(n:Nat),I [int i64 0] [] [] m' n)/\∀(n:Int)(m':Mem)(n_1:Nat),True->I [int i64 n] [] [] m' n_1->br (decide (n < (↑aA:Int))) (∃
 (b_1:Nat),∃(o:Nat),aB=some (Addr.mk b_1 o none)/\Zad n aA/\∃(v:Value),∃(v_1:Value),∃(v_2:Value),∃(v_3:Value),∃(v_4:Value),∃(v_5:Value),∃(v_6:Value),∃(v_7:Value),
 Mem.reads m' b_1 (o+Int.toNat n*8) [v,v_1,v_2,v_3,v_4,v_5,v_6,v_7]/\∃(Y_1:Nat->Prop),∃(R:Value->Mem->List (List Value)->List Value->Prop),CXY Try.prog 45 (Array.mk [agg (Array.mk [v,v_1,v_2,
 v_3,v_4,v_5,v_6,v_7])]) m' Y_1 [] [] R/\(∀(t:Tok),t∈[]->∀(b:Nat),Tok.blk t=some b->Y_1 b)/\(∀(b_2:Nat),Y_1 b_2->(∃(t:Tok),t∈[]/\Tok.blk t=some b_2)\/Mem.free (Mem.off m Y) b_2/\(∃(o
 : Nat),∃(v:Value),m' b_2 o=some v)/\b≠b_2/\True)/\(∀(v:Value)(m':Mem) (css:List (List Value)) (tvs:List Value),R v m' css tvs->Shape.fits (Shape.tup []) v=true)/\∀(m'_1:Mem),Mem.le
 (Mem.off m' Y_1) m'_1->(∀(b o:Nat)(u:Value),m'_1 b o=some u->m' b o=some u\/Y_1 b\/Mem.free m' b)->R (tuple (Array.mk [])) m'_1 [] []->∃(b_2:Nat),∃(o:Nat),aB=some (Addr.mk b_2 o none)/\
 Zad n aA/\(∃(vs:List Value),List.length vs=1/\Mem.reads m'_1 b_2 (o+Int.toNat n*8+0) vs)/\Mem.free (Mem.off m Y) b_2/\true=true/\b≠b_2/\[some (Box.mk b [int u8 aD,int u64 aE,int u64
 aF,int u64 aG,int u64 aJ,int i64 aH,int i64 aI,slice aB aA aC] 27 8 true true)]=[some (Box.mk b [int u8 aD,int u64 aE,int u64 aF,int u64 aG,int u64 aJ,int i64 aH,int i64 aI,
 slice aB aA aC] 27 8 true true)]/\∃(n':Nat),n' < n_1/\I [int i64 (IntKind.wrap i64 (n+(1:Int)))] [] [] (Mem.upd m'_1 b_2 (o+Int.toNat n*8+0) [int u8 77]) n') (R (tuple (Array.mk [])) m' [] [])
theorem Zi3(aD aE aF aG aJ aH aI:Int)(aB:Option Addr)(aA aC:Nat)(m:Mem)(Y:Nat->Prop)(R:RTY)(h:Zf1 aD aE aF aG aJ aH aI aB aA aC m Y R):CXY Try.prog 45 #[.agg #[.int .u8 aD,.int .u64 aE,.int .u64 aF,.int .u64 aG,.int .u64 aJ,.int .i64 aH,.int .i64 aI,.slice aB aA aC]] m Y [] [] R:=
 Zry (E:=ZmN) ZaH mix Try.func45 [.v (.agg #[.int .u8 aD,.int .u64 aE,.int .u64 aF,.int .u64 aG,.int .u64 aJ,.int .i64 aH,.int .i64 aI,.slice aB aA aC])] [] [] [] (by decide) (by kernel_rfl) (Eq.mp (by kernel_rfl) h)
end Go.Proofs.Ytfgfahnakepegaa
set_option linter.unusedVariables false
set_option linter.unusedSimpArgs false
set_option linter.unusedSectionVars false
namespace Go.Proofs.Ytfgfahnakepegaa
open Go Go.Eng Go.Rx Go.Proofs Go.RowKit
set_option maxRecDepth 100000
theorem Zi4{cs:List Value}{n:Nat}{v:Value}{K:Value->Prop}(hv:cs[n]?=some v)(h:K v):Eng.Zvl cs n K:=Zas hv h
set_option maxHeartbeats 4000000 in
theorem ZyT:∀(t:T)(cs:List Value)(m:Mem),RefT m t cs->t.nodes.length<=100000->CX Try.prog 78 #[.agg cs.toArray] m [] (Zdx λt'=>t'.er=t.er/\t'.caps):=by
 intro t
 induction hN:SizeOf.sizeOf t using Nat.strongRecOn generalizing t with
 | ind N ih=>
 intro cs m hr hz
 obtain⟨aZ,aU,a,cc,css,ecs,aR,bP,bM⟩:=ZaX.1 hr
 have bA:=Zcr t
 have sC:=ZbN t.subs
 have dX:cs[259]?=some (.slice a t.subs.length cc):=by rw[ecs];exact Zqg _ _ _ _ _ _ _
 have qG:cs[257]?=some (.int .i64 t.mn):=by rw[ecs];exact Zwy _ _ _ _ _ _ _
 have lS:cs[258]?=some (.int .i64 t.mx):=by rw[ecs];exact Zwz _ _ _ _ _ _ _
 have zJ:IntKind.u8.wrap t.k=t.k:=by
  have:=aZ.k
  unfold IntKind.wrap
  simp[IntKind.signed,IntKind.bits]
  omega
 have vT:List.take 256 (List.drop 1 cs)=ZaI t.q:=by rw[ecs];exact ZkU _ _ _ _ _ _ _
 apply ZmK
 unfold ZhA
 refine hr.chk λb m1 aO _ b1=>Zi4 hr.at0 (Zaa rfl (Zi4 qG (Zi4 lS (Zaa rfl (Zaa rfl λb2=>Zaa rfl (Zaa (by rw[hr.len];rfl) ?_))))))
 have e0:Zav (Zav [Value.int .u8 (IntKind.u8.wrap (intOf (.int .i64 t.k))),.int .u64 0,.int .u64 0,.int .u64 0,.int .u64 0,.int .i64 0,.int .i64 0,.slice none 0 0] 5 (Value.int .i64 t.mn).cells.toList) 6 (Value.int .i64 t.mx).cells.toList=wcs t.k t.q 0 t.mn t.mx:=by
  show[Value.int .u8 (IntKind.u8.wrap t.k),.int .u64 0,.int .u64 0,.int .u64 0,.int .u64 0,.int .i64 t.mn,.int .i64 t.mx,.slice none 0 0]=_
  unfold wcs
  rw[zJ,Zqn,Zqn,Zqn,Zqn];rfl
 rw[e0]
 refine⟨λxs css' _ m' q=>∃i:Nat,i<=256/\xs=[.int .i64 i]/\css'=[wcs t.k t.q i t.mn t.mx]/\q=256 - i,⟨_,0,by omega,rfl,rfl,rfl⟩,?_⟩
 rintro z cs1 m2 q aP ⟨i,hi,bB,vU,hq⟩
 obtain rfl:z=i:=by simpa using bB
 obtain rfl:cs1=wcs t.k t.q i t.mn t.mx:=by simpa using vU
 subst hq
 have bY:=mLt aO aP
 refine ZbF (λaS=>?_) (λbR=>?_)
 ·have hi':i < 256:=by omega
  have kD:=Zyn ⟨i,hi'⟩
  simp only at kD
  have pP:(ZaI t.q)[i]?=some (.int .i64 (Zq7 t.q i)):=ZlP _ hi'
  have hw:IntKind.i64.wrap ((i:Int)+1)=((i+1:Nat):Int):=by rw[ZaA (by omega) (by omega)];rfl
  rw[vT,kD.1,kD.2,hw]
  simp only[Int.toNat_natCast]
  refine⟨⟨by omega,by omega⟩,Zi4 pP ⟨by decide,⟨by omega,by omega⟩,Zi4 (ZzP _ _ _ _ _ (by omega)) (Zaa rfl ⟨by decide,by omega,Zaa rfl ⟨⟨by omega,by omega⟩,Zaa ?_ ⟨by trivial,256 - (i+1),by omega,i+1,by omega,rfl,?_,rfl⟩⟩⟩)⟩⟩
  ·have:i / 64 < 4:=by omega
   rw[Nat.ble_eq];show _<=8;omega
  ·show[Zav _ _ [Value.int .u64 (IntKind.u64.wrap ((BitVec.ofInt 64 ((wP t.q i (i / 64):Nat):Int)|||BitVec.ofInt 64 (IntKind.u64.wrap (IntKind.u64.wrap (Zq7 t.q i)*2 ^ min (i % 64) 64))).toNat:Int))]]=_
   have hp:=Zyo t.q (j:=i / 64) hi'
   simp only[Int.toNat_natCast]at hp
   rw[hp,ZwH _ _ _ _ _ hi']
 ·have:i=256:=by omega
  subst this
  have zK:wcs t.k t.q 256 t.mn t.mx=[.int .u8 t.k,.int .u64 t.s0,.int .u64 t.s1,.int .u64 t.s2,.int .u64 t.s3,.int .i64 t.mn,.int .i64 t.mx,.slice none 0 0]:=by
   have hq:=Zti aZ
   unfold wcs
   rw[ZuK (by decide) (Zfr hq 0),ZuK (by decide) (Zfr hq 1),ZuK (by decide) (Zfr hq 2),ZuK (by decide) (Zfr hq 3)];rfl
  rw[zK]
  refine Zi4 dX (Zaa rfl ⟨λxs css' tvs m' q=>∃(k:Nat)(O:List T)(a:Option Addr)(c:Nat),k<=t.subs.length/\O.length=k/\xs=[.int .i64 k]/\css'=[[.int .u8 t.k,.int .u64 t.s0,.int .u64 t.s1,.int .u64 t.s2,.int .u64 t.s3,.int .i64 t.mn,.int .i64 t.mx,.slice a k c]]/\tvs=[.slice a k c]/\rowRd m' a (Rx.ZcA O)/\(∀x∈O,Rep m' x/\x.caps)/\O.map T.er=(t.subs.take k).map T.er/\k<=c/\q=t.subs.length - k,⟨_,0,[],none,0,Nat.zero_le _,rfl,rfl,rfl,rfl,.inl rfl,by simp,rfl,Nat.le_refl _,rfl⟩,?_⟩)
  rintro z cs2 a2 n2 c2 m3 q aX ⟨k,O,a3,c3,hk,iG,bB,cK,cF,dP,hO,iX,me,hq⟩
  obtain rfl:z=k:=by simpa using bB
  simp only[List.cons.injEq,Value.slice.injEq,and_true]at cF
  obtain⟨rfl,rfl,rfl⟩:=cF
  obtain rfl:cs2=[.int .u8 t.k,.int .u64 t.s0,.int .u64 t.s1,.int .u64 t.s2,.int .u64 t.s3,.int .i64 t.mn,.int .i64 t.mx,.slice a2 n2 c2]:=by simpa using cK
  subst hq
  have bT:=mLt bY aX
  refine ZbF (λaS=>Zaa rfl ?_) (λbR=>Zaa rfl ?_)
  ·have aQ:n2 < t.subs.length:=by simp only[slN]at aS;omega
   obtain⟨x,hx⟩:=ZaY aQ
   have cN:=List.mem_of_getElem? hx
   obtain⟨b0,o0,csx,rfl,bC,bW⟩:=Zb1 aR bP hx
   have bB:=Zbz cN
   have gY:=Zdk cN
   have hw:IntKind.i64.wrap ((n2:Int)+1)=((n2+1:Nat):Int):=by rw[ZaA (by omega) (by omega)];rfl
   rw[hw]
   simp only[Int.toNat_natCast]
   refine⟨b0,o0,rfl,⟨by omega,by simp only[slN];omega⟩,csx,bW.len,bC.mono bT,λb4=>bW.chk1 ⟨λ_ _ _=>Zdx λt'=>t'.er=x.er/\t'.caps,Zi4 (v:=.slice a2 n2 c2) rfl ⟨_,rfl,ih _ (by omega) x rfl csx m3 (bW.mono bT) (by omega),ZaB,ZbH λt' m4 bK hr' ht' b5 qM=>Zaa rfl ⟨.inl rfl,Rx.ZcA O,t'.cs,by rw[ZaJ,iG];rfl,rfl,(dP.mono bK).mono (Mem.le_add qM _),ZmG,by have:=Zyu [t'];simpa[Rx.ZcA]using this,by simp only[slN];omega,by simp only[slN];omega,λa7 c7 m7 dA eW lM=>Zaa rfl λM dS eC fQ jG=>⟨by trivial,t.subs.length - (n2+1),by omega,n2+1,O++[t'],a7,c7,by omega,by rw[List.length_append,iG];rfl,rfl,rfl,rfl,by rw[ZdT];exact eW.mono jG,?_,?_,by simpa[slN]using lM,rfl⟩⟩⟩⟩⟩
   ·intro y hy
    rcases List.mem_append.1 hy with hy|hy
    ·exact⟨(hO y hy).1.mono dS,(hO y hy).2⟩
    ·rw[List.mem_singleton]at hy;subst hy
     exact⟨hr'.mono eC,ht'.2⟩
   ·rw[List.map_append,iX,Zcd hx,List.map_append]
    simp[ht'.1]
  ·have:n2=t.subs.length:=by simp only[slN]at bR;omega
   subst this
   rw[List.take_length]at iX
   have xo:=ZdU dP (λx hx=>(hO x hx).1) (by omega)
   refine⟨m3,bT,Mem.le_refl _,.node t.k t.s0 t.s1 t.s2 t.s3 t.mn t.mx a2 c2 O,?_,Zx0 xo.1 xo.2 aZ,?_,Zgm (by omega) λx hx=>(hO x hx).2⟩
   ·simp only[T.v,T.k,T.s0,T.s1,T.s2,T.s3,T.mn,T.mx,T.a,T.c,T.subs,iG]
   ·have:=Zs2 (k:=t.k) (s0:=t.s0) (s1:=t.s1) (s2:=t.s2) (s3:=t.s3) (mn:=t.mn) (mx:=t.mx) (a:=a2) (a':=t.a) (c:=c2) (c':=t.c) iX
    exact this.trans (by cases t;rfl)
theorem ZqT(t:T)(m:Mem)(hr:Rep m t)(hz:t.nodes.length<=100000):CX Try.prog 38 #[t.v] m [] (Zdx λt'=>t'.er=t.er/\t'.caps):=by
 apply Zi2
 unfold Zfg
 intro b m1 aO _ b1
 refine Zag (Zmj t m1 (hr.mono aO) (by omega)) (λv _ _ ⟨_,h,_⟩=>by rw[h];rfl) ?_
 rintro cs m2 aP ⟨cs',e,cI⟩
 simp only[Value.agg.injEq,Array.mk.injEq]at e
 subst e
 exact Zag (ZyT t _ m2 cI hz) ZaB (ZbH λt' m3 aX hr' ht'=>⟨m3,mLt aO (mLt aP aX),Mem.le_refl _,t',rfl,hr',ht'⟩)
theorem ZqU(t u:T)(cs:List Value)(m:Mem)(hr:Rep m t)(hu:RefT m u cs)(hz:t.nodes.length<=1000):CX Try.prog 43 #[t.v,.agg cs.toArray] m [] (Ret (.bool (t.same u))):=by
 apply ZmM
 unfold ZhB
 intro b m1 aO _
 refine hu.chk λb2 m2 aP _=>?_
 have bY:=mLt aO aP
 have kL:∀t:T,t.nodes.length<=1000000->∀m:Mem,Rep m t->RepW m t:=by
  intro t
  induction hN:SizeOf.sizeOf t using Nat.strongRecOn generalizing t with
  | ind N ih=>
  intro hz m hr
  obtain⟨h1,h2⟩:=ZgZ hr
  have bA:=Zcr t
  refine ZlQ.2 ⟨by omega,h2.imp id λ⟨b,o,e,k⟩=>⟨b,o,e,ZlR λi x hi=>?_⟩,Zwl hr⟩
  have cN:=List.mem_of_getElem? hi
  have bB:=Zbz cN
  exact⟨(k.get hi).1,ih _ (by have:=Zdk cN;omega) x rfl (by omega) m (k.get hi).2⟩
 have vV:Ztk t 1000=t.nodes.length:=by unfold Ztk;rw[if_pos (by omega)]
 have sG:=ZyK t 1000 m2 (kL t (by omega) m2 (hr.mono bY)) (by omega) (by omega)
 rw[vV]at sG
 refine⟨λi _ _=>bif Nat.beq i 1 then Ret (.int .i64 (t.nodes.length:Nat))else bif Nat.beq i 5 then ZtQ t else Ret (.bool (t.same u)),_,rfl,sG,(λv _ _ e=>by rw[e];rfl),?_⟩
 intro n m3 aX hn
 obtain rfl:n=(t.nodes.length:Nat):=by have hn:Value.int .i64 n=.int .i64 (t.nodes.length:Nat):=hn;simpa using hn
 have bT:=mLt bY aX
 refine Zko (by simp;omega) ⟨_,rfl,Zmj t m3 (hr.mono bT) (by omega),Zbf,Zhn λcs4 m4 bK h4=>⟨_,rfl,ZtD t u cs4 cs m4 h4 (hu.mono (mLt bT bK)),(λv _ _ e=>by rw[e];rfl),?_⟩⟩
 intro bb m5 cU dM M dS eC fQ jG
 exact Zaj (mLt bY dS) dM
theorem Zss(t:T)(m:Mem)(hr:RepW m t):CX Try.prog 10 #[t.v] m [] (Ret (.bool (decide (t.nodes.length<=60)))):=by
 apply Zkf
 unfold Zf0
 intro b m1 aO _
 refine Zc4 (ZyK t 60 m1 (hr.mono aO) (by omega) (by omega)) λm2 aP=>Zaj (mLt aO aP) ?_
 show Value.bool _=Value.bool _
 congr 1
 rw[decide_eq_decide]
 unfold Ztk
 split <;> omega
def csK(k:Int)(y:T):List Value:=[.int .u8 k,.int .u64 y.s0,.int .u64 y.s1,.int .u64 y.s2,.int .u64 y.s3,.int .i64 y.mn,.int .i64 y.mx,.slice y.a y.subs.length y.c]
def KRep(m:Mem)(t:T):Prop:=∀x∈t.nodes,x.subs=[]\/∃b,x.a=some ⟨b,0,none⟩/\∀i y,x.subs[i]?=some y->∃k:Int,m.reads b (i*8) (csK k y)
def YT(t:T)(b:Nat):Prop:=∃x∈t.nodes,x.subs≠[]/\x.a=some ⟨b,0,none⟩
theorem KRep.upd{m:Mem}{t:T}(h:KRep m t)(b2 j:Nat):KRep (m.upd b2 (0+j*8+0) [.int .u8 77]) t:=by
 intro x hx
 refine(h x hx).imp id λ⟨b,e,hr⟩=>⟨b,e,λi y hi=>?_⟩
 obtain⟨k,hk⟩:=hr i y hi
 by_cases hb:b=b2/\i=j
 ·obtain⟨rfl,rfl⟩:=hb
  refine⟨77,λp v hp=>?_⟩
  unfold Mem.upd
  simp only[List.length_cons,List.length_nil,true_and]
  cases p with
  | zero=>
   rw[if_pos (by omega),show i*8+0 - (0+i*8+0)=0 by omega]
   exact hp
  | succ p=>
   rw[if_neg (by omega)]
   exact hk (p+1) v hp
 ·refine⟨k,λp v hp=>?_⟩
  have AU:p < 8:=(List.getElem?_eq_some_iff.1 hp).1
  unfold Mem.upd
  simp only[List.length_cons,List.length_nil]
  rw[if_neg (by rintro⟨rfl,h1,h2⟩;exact hb ⟨rfl,by omega⟩)]
  exact hk p v hp
theorem KRep.known{m:Mem}{t:T}(h:KRep m t){b:Nat}(hb:YT t b):∃o v,m b o=some v:=by
 obtain⟨x,hx,bS,e⟩:=hb
 rcases h x hx with h|⟨b',e',h⟩
 ·exact absurd h bS
 ·rw[e]at e'
  cases e'
  obtain⟨y,hy⟩:=ZaY (l:=x.subs) (k:=0) (by cases hs:x.subs with|nil=>exact absurd hs bS|cons _ _=>simp)
  obtain⟨k,hk⟩:=h 0 y hy
  exact⟨_,_,hk 0 _ rfl⟩
theorem ZyU{m m0:Mem}{t:T}(hr:Rep m t)(hn:NewT m0 t):KRep m t:=by
 intro x hx
 rcases hn x hx with h|⟨b,e,_⟩
 ·exact .inl h
 rcases(ZgZ (Zlz hr hx)).2 with h|⟨b',o',e',bP⟩
 ·exact .inl h
 rw[e]at e'
 cases e'
 refine .inr ⟨b,e,λi y hi=>⟨y.k,?_⟩⟩
 have:=(bP.get hi).1
 rwa [Nat.zero_add]at this
theorem ZqV:∀{t x y:T},x∈t.nodes->y∈x.subs->y∈t.nodes:=by
 intro t
 induction hN:SizeOf.sizeOf t using Nat.strongRecOn generalizing t with
 | ind N ih=>
 intro x y hx hy
 rw[Zbv]at hx ⊢
 rcases List.mem_cons.1 hx with rfl|hx
 ·refine List.mem_cons_of_mem _ ?_
  obtain⟨i,hi⟩:=List.getElem?_of_mem hy
  rw[Zdj hi]
  exact List.mem_append_right _ (List.mem_append_left _ (by rw[Zbv];exact List.mem_cons_self ..))
 ·refine List.mem_cons_of_mem _ ?_
  have key:∀l:List T,(∀z∈l,z∈t.subs)->x∈Zar l->y∈Zar l:=by
   intro l
   induction l with
   | nil=>intro _ h;simp[Zar]at h
   | cons z l ihl=>
    intro hm h
    simp only[Zar,List.mem_append]at h ⊢
    rcases h with h|h
    ·exact .inl (ih _ (by have:=Zdk (hm z (by simp));omega) rfl h hy)
    ·exact .inr (ihl (λw hw=>hm w (by simp[hw])) h)
  exact key t.subs (λ_ h=>h) hx
theorem ZqW(t0:T):∀(x:T),x∈t0.nodes->x.subs.length<=1000000->(∀y∈t0.nodes,y.subs.length<=1000000)->∀(k:Int)(m:Mem),KRep m t0->CXY Try.prog 45 #[.agg (csK k x).toArray] m (YT t0) [] [] (λv m' _ _=>v=.tuple #[]/\KRep m' t0):=by
 intro x
 induction hN:SizeOf.sizeOf x using Nat.strongRecOn generalizing x with
 | ind N ih=>
 intro hx hl aV k m hK
 apply Zi3
 unfold Zf1
 intro b m1 aO _ xp w7
 have iP:∀b2,YT t0 b2->b≠b2:=λb2 h e=>by
  subst e
  obtain⟨o,v,hv⟩:=hK.known h
  rw[xp o]at hv;cases hv
 have tn:KRep m1 t0:=λy hy=>(hK y hy).imp id λ⟨b,e,h⟩=>⟨b,e,λi z hi=>by
  obtain⟨k,hk⟩:=h i z hi
  exact⟨k,hk.mono aO⟩⟩
 refine⟨λxs _ _ m' q=>∃i:Nat,i<=x.subs.length/\xs=[.int .i64 i]/\KRep m' t0/\q=x.subs.length - i,⟨_,0,Nat.zero_le _,rfl,tn,rfl⟩,?_⟩
 rintro z m2 q _ ⟨i,hi,bB,qK,hq⟩
 obtain rfl:z=i:=by simpa using bB
 subst hq
 refine ZbF (λaS=>?_) (λbR=>⟨rfl,qK⟩)
 have aQ:i < x.subs.length:=by omega
 obtain⟨y,hy⟩:=ZaY aQ
 have tp:=List.mem_of_getElem? hy
 have xq:=ZqV hx tp
 have bS:x.subs≠[]:=λe=>by rw[e]at aQ;simp at aQ
 obtain⟨bx,ex,bW⟩:=(qK x hx).resolve_left bS
 obtain⟨ky,xr⟩:=bW i y hy
 have xt:YT t0 bx:=⟨x,hx,bS,ex⟩
 have hw:IntKind.i64.wrap ((i:Int)+1)=((i+1:Nat):Int):=by rw[ZaA (by omega) (by omega)];rfl
 rw[hw]
 simp only[Int.toNat_natCast]
 refine⟨bx,0,ex,⟨by omega,by omega⟩,_,_,_,_,_,_,_,_,(by rw[Nat.zero_add];exact xr),YT t0,_,ih _ (by have:=Zdk tp;omega) y rfl xq (aV y xq) aV ky m2 qK,λt ht=>(by cases ht),λb2 h2=>.inr ⟨λo=>Mem.off_free h2 o,qK.known h2,iP b2 h2,trivial⟩,λv _ _ _ e=>by rw[e.1];rfl,?_⟩
 rintro m3 aX zL ⟨_,vv⟩
 obtain⟨bx',ex',vW⟩:=(vv x hx).resolve_left bS
 rw[ex]at ex'
 cases ex'
 obtain⟨ky',vX⟩:=vW i y hy
 exact⟨bx,0,ex,⟨by omega,by omega⟩,⟨[.int .u8 ky'],rfl,λp v hp=>by
  cases p with
  | zero=>have:=vX 0 _ rfl;rw[Nat.zero_add];simp at hp;rw[<-hp];exact this
  | succ p=>simp at hp⟩,λo=>Mem.off_free xt o,by trivial,iP bx xt,by trivial,x.subs.length - (i+1),by omega,i+1,aQ,rfl,vv.upd bx i,rfl⟩
end Go.Proofs.Ytfgfahnakepegaa
set_option linter.unusedVariables false
namespace Go.Proofs.Ytfgfahnakepegaa
open Go Go.Eng Go.Proofs Go.RowKit
open Go.Value (int slice agg bool string tuple func)
open Go.IntKind (u8 u64 i64)
set_option maxRecDepth 100000
noncomputable def Zvi:Env:={ EB with
 loops:=(λi=>bif Nat.beq i 3 then⟨[(3,.slice),(8,.int .i64)],[],[(17,8)],false⟩ else⟨[],[],[],false⟩)
 tokOf:=(λi=>bif Nat.beq i 17 then 17 else 0) }
def ZnO(p0:ByteArray)(m:Mem)(R:RT):Prop:=
 ∀(b:Nat),∃(I:IT),(∃(n:Nat),I [slice none 0 0,int i64 0] [] [slice none 0 0] m n)/\∀(a:Option Addr)(n c:Nat)(ai:Int)(an:Option Addr)(ao ap:Nat)(m':Mem)(aq:Nat),Mem.le m m'->I [slice a
 n c,int i64 ai] [] [slice an ao ap] m' aq->br (decide (ai < if(10000:Int) < (↑(ByteArray.size p0):Int)then(10000:Int)else(↑(ByteArray.size p0):Int))) (Zad ai (ByteArray.size p0)/\∃(R:RT),True/\
 CX Try.prog 36 (Array.mk [int u8 (Zvq p0 (Int.toNat ai))]) m' [] R/\Zau (shT) R/\∀(ab ac ad ae af ag ah:Int)(ak:Option Addr)(al am:Nat)(aa:Mem),Mem.le m' aa->R (agg (Array.mk [int u8 ab,int u64 ac,
 int u64 ad,int u64 ae,int u64 af,int i64 ag,int i64 ah,slice ak al am])) aa []->∀(aj:Nat),Mem.free aa aj->(Tok.mk (slice an ao ap) 8=Tok.mk (slice a n c) 8\/slice a n c=slice none 0 0\/c < n+1)/\∃
 (xs:List Value),∃(ys:List Value),List.length xs=n*8/\List.length ys=1*8/\rowRd (Mem.add aa aj [int u8 ab,int u64 ac,int u64 ad,int u64 ae,int u64 af,int i64 ag,int i64 ah,slice ak al am]) a xs/\
 rowRd (Mem.add aa aj [int u8 ab,int u64 ac,int u64 ad,int u64 ae,int u64 af,int i64 ag,int i64 ah,slice ak al am]) (some (Addr.mk aj 0 none)) ys/\(∀(u:Value),u∈ys->Value.oneCell' u=true)/\(n+1)*80
 <= 140737488355328/\n+1<=9223372036854775807/\∀(a':Option Addr)(c':Nat)(m':Mem),Mem.le (Mem.add aa aj [int u8 ab,int u64 ac,int u64 ad,int u64 ae,int u64 af,int i64 ag,int i64 ah,slice ak al am]) m'
 -> rowRd m' a' (List.append xs ys)->[some (Box.mk b [int u8 0,int u64 0,int u64 0,int u64 0,int u64 0,int i64 0,int i64 0,slice none 0 0] 27 8 false true)]=[some (Box.mk b [int u8 0,int u64 0,int u64 0,int
 u64 0,int u64 0,int i64 0,int i64 0,slice none 0 0] 27 8 false true)]/\∃(n':Nat),n' < aq/\I [slice a' (n+1) c',int i64 (IntKind.wrap i64 (ai+(1:Int)))] [] [slice a' (n+1) c'] m' n') (∃(R_1:RT),
 True/\CX Try.prog 47 (Array.mk [int u8 3,slice a n c,agg (Array.mk [int u8 1,int u64 0,int u64 0,int u64 0,int u64 0,int i64 0,int i64 0,slice none 0 0])]) m' [] R_1/\Zau (shT) R_1/\∀(n ab ac ad ae af ag:
 Int) (a:Option Addr) (ah c:Nat) (aa:Mem),Mem.le m' aa->R_1 (agg (Array.mk [int u8 n,int u64 ab,int u64 ac,int u64 ad,int u64 ae,int i64 af,int i64 ag,slice a ah c])) aa []->∃(m'':Mem),Mem.le m m''/\
 Mem.le m'' aa/\R (agg (Array.mk [int u8 n,int u64 ab,int u64 ac,int u64 ad,int u64 ae,int i64 af,int i64 ag,slice a ah c])) m'' [])
theorem Zst(p0:ByteArray)(m:Mem)(R:RT)(h:ZnO p0 m R):CX Try.prog 14 #[.string p0] m [] R:=
 Zaf (E:=Zvi) ZaH mix Try.func14 [.v (.string p0)] [] (by kernel_rfl) (Eq.mp (by kernel_rfl) h)
noncomputable def ZoK:Env:={ EB with
 loops:=(λi=>bif Nat.beq i 3 then⟨[(3,.slice),(8,.int .i64)],[],[(16,8)],false⟩ else⟨[],[],[],false⟩)
 tokOf:=(λi=>bif Nat.beq i 16 then 16 else 0) }
def ZhC(p0a:Option Addr)(p0n p0c:Nat)(m:Mem)(R:RT):Prop:=
 ∀(b:Nat),∃(I:IT),(∃(n:Nat),I [slice none 0 0,int i64 0] [] [slice none 0 0] m n)/\∀(a:Option Addr)(n c:Nat)(ai:Int)(an:Option Addr)(ao ap:Nat)(m':Mem)(aq:Nat),Mem.le m m'->I [slice a
 n c,int i64 ai] [] [slice an ao ap] m' aq->br (decide (ai < (↑p0n:Int))) (∃(ar:Nat),∃(o:Nat),p0a=some (Addr.mk ar o none)/\Zad ai p0n/\∃(v:Value),m' ar (o+Int.toNat ai*1)=some v/\∃(R:
 RT),True/\CX Try.prog 14 (Array.mk [v]) m' [] R/\Zau (shT) R/\∀(ab ac ad ae af ag ah:Int)(ak:Option Addr)(al am:Nat)(aa:Mem),Mem.le m' aa->R (agg (Array.mk [int u8 ab,int u64 ac,int u64 ad,int u64
 ae,int u64 af,int i64 ag,int i64 ah,slice ak al am])) aa []->∀(aj:Nat),Mem.free aa aj->(Tok.mk (slice an ao ap) 8=Tok.mk (slice a n c) 8\/slice a n c=slice none 0 0\/c < n+1)/\∃(xs:List Value),∃
 (ys:List Value),List.length xs=n*8/\List.length ys=1*8/\rowRd (Mem.add aa aj [int u8 ab,int u64 ac,int u64 ad,int u64 ae,int u64 af,int i64 ag,int i64 ah,slice ak al am]) a xs/\rowRd (Mem.add aa aj
 [int u8 ab,int u64 ac,int u64 ad,int u64 ae,int u64 af,int i64 ag,int i64 ah,slice ak al am]) (some (Addr.mk aj 0 none)) ys/\(∀(u:Value),u∈ys->Value.oneCell' u=true)/\(n+1)*80<=140737488355328/\n
 + 1<=9223372036854775807/\∀(a':Option Addr)(c':Nat)(m':Mem),Mem.le (Mem.add aa aj [int u8 ab,int u64 ac,int u64 ad,int u64 ae,int u64 af,int i64 ag,int i64 ah,slice ak al am]) m'->rowRd m' a'
 (List.append xs ys)->[some (Box.mk b [int u8 0,int u64 0,int u64 0,int u64 0,int u64 0,int i64 0,int i64 0,slice none 0 0] 27 8 false true)]=[some (Box.mk b [int u8 0,int u64 0,int u64 0,int u64 0,int u64
 0,int i64 0,int i64 0,slice none 0 0] 27 8 false true)]/\∃(n':Nat),n' < aq/\I [slice a' (n+1) c',int i64 (IntKind.wrap i64 (ai+(1:Int)))] [] [slice a' (n+1) c'] m' n') (∃(R_1:RT),True/\CX Try.prog
 16 (Array.mk [slice a n c]) m' [] R_1/\Zau (shT) R_1/\∀(n ab ac ad ae af ag:Int)(a:Option Addr)(ah c:Nat)(aa:Mem),Mem.le m' aa->R_1 (agg (Array.mk [int u8 n,int u64 ab,int u64 ac,int u64 ad,int u64
 ae,int i64 af,int i64 ag,slice a ah c])) aa []->∃(m'':Mem),Mem.le m m''/\Mem.le m'' aa/\R (agg (Array.mk [int u8 n,int u64 ab,int u64 ac,int u64 ad,int u64 ae,int i64 af,int i64 ag,slice a ah c])) m''
 [])
theorem ZmO(p0a:Option Addr)(p0n p0c:Nat)(m:Mem)(R:RT)(h:ZhC p0a p0n p0c m R):CX Try.prog 46 #[.slice p0a p0n p0c] m [] R:=
 Zaf (E:=ZoK) ZaH mix Try.func46 [.v (.slice p0a p0n p0c)] [] (by kernel_rfl) (Eq.mp (by kernel_rfl) h)
end Go.Proofs.Ytfgfahnakepegaa
set_option linter.unusedVariables false
set_option linter.unusedSimpArgs false
set_option linter.unusedSectionVars false
namespace Go.Proofs.Ytfgfahnakepegaa
open Go Go.Eng Go.Rx Go.Proofs Go.RowKit
set_option maxRecDepth 100000
def ZcW(s:ByteArray):List Nat:=s.data.toList.map λb=>b.toNat
theorem Zsu(s:ByteArray):(ZcW s).length=s.size:=by unfold ZcW;rw[List.length_map,Array.length_toList];rfl
theorem ZmP(s:ByteArray):∀c∈ZcW s,c < 256:=by
 intro c hc
 unfold ZcW at hc
 obtain⟨b,_,rfl⟩:=List.mem_map.1 hc
 exact b.toBitVec.isLt
theorem Zw6{s:ByteArray}{k c:Nat}(h:(ZcW s)[k]?=some c):Zvq s k=(c:Int):=by
 unfold ZcW at h
 rw[List.getElem?_map]at h
 obtain⟨b,hb,rfl⟩:=Option.map_eq_some_iff.1 h
 unfold Zvq
 rw[List.getD_eq_getElem?_getD,hb];rfl
theorem ZoL:∀c:Fin 256,(Zan c.val).good=true:=by decide +kernel
theorem ZqX{c:Nat}(h:c < 256):(Zan c).good=true:=ZoL ⟨c,h⟩
def ZdZ(l:List Nat):T:=(ZcF 3 none 0 (l.map Zan)).er
theorem ZhD:∀l:List Nat,szL (l.map Zan)=l.length
 | []=>rfl
 | c::l=>by
  rw[List.map_cons,Zbe,ZhD l,List.length_cons]
  have:(Zan c).nodes.length=1:=rfl
  omega
theorem Zk7{l:List Nat}(h:∀c∈l,c < 256):∀x∈l.map Zan,Okk 3 x:=by
 intro x hx
 obtain⟨c,hc,rfl⟩:=List.mem_map.1 hx
 exact⟨ZqX (h c hc),by show(2:Int)≠3;omega,λ_=>by show(2:Int)≠1;omega⟩
theorem ZyV(s:ByteArray)(hs:(ZcW s).length<=9000)(m:Mem):CX Try.prog 14 #[.string s] m [] (Zdx (λt=>t.er=ZdZ (ZcW s)/\t.caps)):=by
 apply Zst
 unfold ZnO
 intro b
 have aU:=Zsu s
 have bA:(if(10000:Int) < (s.size:Int)then(10000:Int)else(s.size:Int))=(s.size:Nat):=by rw[if_neg (by omega)]
 simp only[bA]
 refine⟨λxs css tvs m' q=>∃(k:Nat)(a:Option Addr)(c:Nat),k<=s.size/\xs=[.slice a k c,.int .i64 k]/\tvs=[.slice a k c]/\RepL m' a (((ZcW s).take k).map Zan)/\q=s.size - k,⟨_,0,none,0,by omega,rfl,rfl,⟨by simp,.inl rfl⟩,rfl⟩,?_⟩
 rintro a0 n0 c0 i0 a n c m1 q aO ⟨k,a',c',hk,bB,cF,hL,hq⟩
 simp only[List.cons.injEq,Value.slice.injEq,Value.int.injEq,true_and,and_true]at bB cF
 obtain⟨⟨rfl,rfl,rfl⟩,rfl⟩:=bB
 obtain⟨rfl,rfl,rfl⟩:=cF
 refine Zab (λaS=>?_) (λbR=>?_)
 ·have aQ:n < s.size:=by have:=of_decide_eq_true aS;omega
  obtain⟨ch,vY⟩:=Zb2 (l:=ZcW s) (k:=n) (by omega)
  have sH:=ZmP s ch (List.mem_of_getElem? vY)
  have bP:Zvq s ((n:Int).toNat)=(ch:Int):=Zw6 vY
  refine⟨⟨by omega,by omega⟩,?_⟩
  rw[bP]
  refine Zag (ZvT ch sH m1) ZaB (ZbH λt m2 aP hr ht=>?_)
  subst ht
  intro b3 sy
  have uP:(((ZcW s).take n).map Zan).length=n:=by rw[List.length_map,List.length_take];omega
  have hw:IntKind.i64.wrap ((n:Int)+1)=((n+1:Nat):Int):=by rw[ZaA (by omega) (by omega)];rfl
  rw[hw]
  have bE:=Mem.le_add sy (Zan ch).cs
  refine⟨.inl rfl,Rx.ZcA (((ZcW s).take n).map Zan),(Zan ch).cs,by rw[ZaJ,uP],rfl,(ZaL hL).mono (mLt aP bE),.inr ⟨b3,0,rfl,λj v hj=>by rw[Nat.zero_add,Mem.add_same];exact hj⟩,ZyH _,by omega,by omega,λa2 c2 m3 aX fK=>⟨by trivial,s.size - (n+1),by omega,n+1,a2,c2,by omega,rfl,rfl,?_,rfl⟩⟩
  have aV:((ZcW s).take (n+1)).map Zan=((ZcW s).take n).map Zan++[Zan ch]:=by rw[Zcd vY,List.map_append];rfl
  rw[aV]
  refine ZdU ?_ ?_ (by rw[List.length_append,uP];simp;omega)
  ·rw[Zcl,Zqx];exact fK
  ·intro x hx
   rcases List.mem_append.1 hx with hx|hx
   ·exact(ZbC hL x hx).mono (mLt aP (mLt bE aX))
   ·rw[List.mem_singleton]at hx;subst hx;exact Znj _ _
 ·have hn:n=s.size:=by have:=of_decide_eq_false bR;omega
  subst hn
  rw[<-aU,List.take_length]at hL
  have xu:=ZuU 3 (.inl rfl) a c ((ZcW s).map Zan) T1 m1 hL (Zut _) (by rw[List.length_map];omega) rfl
  rw[List.length_map,aU]at xu
  refine Zag xu ZaB (ZbH λt m2 aP hr ht=>?_)
  exact⟨m2,mLt aO aP,Mem.le_refl _,t,rfl,hr,Zs5 (.inl rfl) (Zk7 (ZmP s)) (by rw[ZhD];omega) (λ_=>rfl) ht,ZcZ ZkP ht⟩
theorem Zsv{l:List Nat}(h:∀c∈l,c < 256):(ZdZ l).good=true/\(ZdZ l).nodes.length<=1+l.length:=by
 have hm:=Zgl (.inl rfl) none 0 (Zk7 h)
 unfold ZdZ
 rw[Zcv,ZfE]
 refine⟨hm.1,?_⟩
 have:=hm.2.1
 rw[ZhD]at this
 omega
theorem Zw7(ws:List ByteArray)(a:Option Addr)(c:Nat)(m:Mem)(hw:rowRd m a (ws.map Value.string))(hn:ws.length<=20)(hs:∀s∈ws,(ZcW s).length<=100)(bS:ws≠[]):CX Try.prog 46 #[.slice a ws.length c] m [] (Zdx (λt=>t.er=Zee (ws.map λs=>ZdZ (ZcW s))/\t.caps)):=by
 apply ZmO
 unfold ZhC
 intro b
 refine⟨λxs css tvs m' q=>∃(L:List T)(a:Option Addr)(c:Nat),L.length<=ws.length/\xs=[.slice a L.length c,.int .i64 (L.length:Nat)]/\tvs=[.slice a L.length c]/\RepL m' a L/\L.map T.er=(ws.take L.length).map (λs=>ZdZ (ZcW s))/\q=ws.length - L.length,⟨_,[],none,0,by simp,rfl,rfl,⟨by simp,.inl rfl⟩,rfl,rfl⟩,?_⟩
 rintro a0 n0 c0 i0 aa n cc m1 q aO ⟨L,a',c',hk,bB,cF,hL,eV,hq⟩
 simp only[List.cons.injEq,Value.slice.injEq,Value.int.injEq,true_and,and_true]at bB cF
 obtain⟨⟨rfl,rfl,rfl⟩,rfl⟩:=bB
 obtain⟨rfl,rfl,rfl⟩:=cF
 have oT:∀s:ByteArray,∀c∈ZcW s,c < 256:=λs=>ZmP s
 refine Zab (λaS=>?_) (λbR=>?_)
 ·have aQ:L.length < ws.length:=by have:=of_decide_eq_true aS;omega
  obtain⟨s,vZ⟩:=Zb2 aQ
  have gU:=List.mem_of_getElem? vZ
  rcases hw.mono aO with zM|⟨bw,ow,zN,kL⟩
  ·have:=congrArg List.length zM
   rw[List.length_map]at this
   simp only[List.length_nil]at this
   omega
  have hv:m1 bw (ow+L.length)=some (.string s):=kL _ _ (by rw[List.getElem?_map,vZ];rfl)
  refine⟨bw,ow,zN,⟨by omega,by omega⟩,.string s,by rw[Int.toNat_natCast,Nat.mul_one];exact hv,?_⟩
  refine Zag (ZyV s (by have:=hs s gU;omega) m1) ZaB (ZbH λt m2 aP hr ⟨ht,fO⟩=>?_)
  intro b3 sy
  have mC:IntKind.i64.wrap ((L.length:Int)+1)=((L.length+1:Nat):Int):=by rw[ZaA (by omega) (by omega)];rfl
  rw[mC]
  have bE:=Mem.le_add sy t.cs
  refine⟨.inl rfl,Rx.ZcA L,t.cs,ZaJ L,rfl,(ZaL hL).mono (mLt aP bE),.inr ⟨b3,0,rfl,λj v hj=>by rw[Nat.zero_add,Mem.add_same];exact hj⟩,ZyH _,by omega,by omega,λa2 c2 m3 aX fK=>⟨by trivial,ws.length - (L.length+1),by omega,L++[t],a2,c2,by simp;omega,by simp,by simp,?_,?_,by simp⟩⟩
  ·refine ZdU ?_ ?_ (by simp;omega)
   ·rw[Zcl,Zqx];exact fK
   ·intro x hx
    rcases List.mem_append.1 hx with hx|hx
    ·exact(ZbC hL x hx).mono (mLt aP (mLt bE aX))
    ·rw[List.mem_singleton]at hx;subst hx;exact hr.mono (mLt bE aX)
  ·rw[show(L++[t]).length=L.length+1 by simp,Zcd vZ,List.map_append,List.map_append,eV,List.map_cons,List.map_nil,ht];rfl
 ·have hn':L.length=ws.length:=by have:=of_decide_eq_false bR;omega
  rw[hn',List.take_length]at eV
  have iI:∀x∈L,x.good=true/\x.nodes.length<=101:=by
   intro x hx
   have:x.er∈L.map T.er:=List.mem_map_of_mem hx
   rw[eV]at this
   obtain⟨s,zO,jA⟩:=List.mem_map.1 this
   have hg:=Zsv (oT s)
   rw[jA,Zcv,ZfE]at hg
   have:=hs s zO
   exact⟨hg.1,by omega⟩
  have zP:szL L<=101*L.length:=by
   clear hL eV hn' bR hq hk
   induction L with
   | nil=>simp[szL,Zar]
   | cons x L ih=>
    have h1:=(iI x (by simp)).2
    have h2:=ih λy hy=>iI y (by simp[hy])
    rw[Zbe,List.length_cons];omega
  refine Zag (Zzt L aa cc m1 hL (by omega) (λx hx=>Za6 (iI x hx).1 (by have:=(iI x hx).2;omega))) ZaB (ZbH λt m2 aP hr ⟨ja,jc,hj⟩=>?_)
  have vm:L≠[]:=λe=>by
   subst e
   simp at hn'
   exact bS (List.length_eq_zero_iff.1 hn'.symm)
  refine⟨m2,mLt aO aP,Mem.le_refl _,t,rfl,hr,?_,ZcZ Zik hj⟩
  rw[Zp4 (λx hx=>(iI x hx).1) vm (by omega) hj,ZkQ,eV]
end Go.Proofs.Ytfgfahnakepegaa
set_option linter.unusedVariables false
set_option linter.unusedSimpArgs false
set_option linter.unusedSectionVars false
namespace Go.Proofs.Ytfgfahnakepegaa
open Go Go.Eng Go.Rx Go.Proofs Go.RowKit
set_option maxRecDepth 100000
mutual
theorem ZtI:∀t u:T,t.er.same u.er=t.same u
 | .node k s0 s1 s2 s3 mn mx a c l,.node k' s0' s1' s2' s3' mn' mx' a' c' l'=>by
  simp only[T.er,T.same,ZtJ l l']
theorem ZtJ:∀l r:List T,ZdR (erL l) (erL r)=ZdR l r
 | [],[]=>rfl
 | [],_::_=>rfl
 | _::_,[]=>rfl
 | t::l,u::r=>by simp only[erL,ZdR,ZtI t u,ZtJ l r]
end
theorem Zjq(t:T):t.er.light=t.light:=by unfold T.light;rw[ZfE]
theorem Zs1(t:T):t.er.clean=t.clean:=by
 show(t.er.light&&t.er.good)=(t.light&&t.good)
 rw[Zjq,Zcv]
theorem Zw8(t:T):T.rgt t.er=T.rgt t:=by
 rw[Bool.eq_iff_iff,Zex,Zex,Zcv,ZfE]
theorem Zw9{t:T}{c:C4}(h:c∈t.cuts):Zfi t.er c=Zfi t c:=by
 unfold Zfi
 rw[Zo6 t 0 (Zd4 h),ZfE]
theorem ZqY(t:T):ZbP t.er=ZbP t:=Znq (Zef t)
def IsE(E:T):Value->Mem->List (List Value)->Prop:=Zdx λt=>t.er=E/\t.caps
theorem Zf2(c:Nat)(hc:c < 256)(m:Mem):CX Try.prog 36 #[.int .u8 (c:Nat)] m [] (IsE (Zan c)):=
 (ZvT c hc m).mono λv m' css _ ⟨t,h1,h2,h3⟩=>⟨t,h1,h2,by subst h3;exact⟨rfl,Zgm (by simp) (by simp)⟩⟩
theorem ZtK{L E:List T}(hE:L.map T.er=E)(hg:E.all T.good=true):∀x∈L,x.good=true:=by
 intro x hx
 have:x.er∈E:=by rw[<-hE];exact List.mem_map_of_mem hx
 have:=List.all_eq_true.1 hg _ this
 rwa [Zcv]at this
theorem ZtL:∀L:List T,szL (L.map T.er)=szL L
 | []=>rfl
 | x::L=>by rw[List.map_cons,Zbe,Zbe,ZfE,ZtL L]
theorem Zkh(L E:List T)(a:Option Addr)(c:Nat)(m:Mem)(hL:RepL m a L)(hE:L.map T.er=E)(hg:E.all T.good=true)(hs:szL E<=900):CX Try.prog 15 #[.slice a L.length c] m [] (IsE (ZjK E)):=by
 have jF:=ZtK hE hg
 have bA:szL L<=900:=by rw[<-ZtL,hE];exact hs
 have aU:=ZbN L
 refine(ZuV L a c m hL (by omega) λx hx=>Za6 (jF x hx) (by have:=Zbz hx;omega)).mono ?_
 rintro v m' css _ ⟨t,h1,h2,ja,jc,hj⟩
 refine⟨t,h1,h2,?_,ZcZ ZkP hj⟩
 rw[ZlF jF (by omega) hj,Zp7,hE]
theorem ZvZ(L E:List T)(a:Option Addr)(c:Nat)(m:Mem)(hL:RepL m a L)(hE:L.map T.er=E)(hg:E.all T.good=true)(hs:szL E<=900)(bS:L≠[]):CX Try.prog 16 #[.slice a L.length c] m [] (IsE (Zee E)):=by
 have jF:=ZtK hE hg
 have bA:szL L<=900:=by rw[<-ZtL,hE];exact hs
 have aU:=ZbN L
 refine(Zzt L a c m hL (by omega) λx hx=>Za6 (jF x hx) (by have:=Zbz hx;omega)).mono ?_
 rintro v m' css _ ⟨t,h1,h2,ja,jc,hj⟩
 refine⟨t,h1,h2,?_,ZcZ Zik hj⟩
 rw[Zp4 jF bS (by omega) hj,ZkQ,hE]
def ZAD(E:T):T:=ZbV 6 0 0 none 0 [E]
theorem Zvj(t E:T)(m:Mem)(hr:Rep m t)(hE:t.er=E)(hg:E.good=true)(hs:E.nodes.length<=900):CX Try.prog 22 #[t.v] m [] (IsE (ZAD E)):=by
 refine(Zr5 t m hr).mono ?_
 rintro v m' css _ ⟨t',h1,h2,ja,jc,hj⟩
 refine⟨t',h1,h2,?_,hj.2⟩
 have iN:t.good=true:=by rw[<-Zcv,hE];exact hg
 have cM:t.nodes.length<=900:=by rw[<-ZfE,hE];exact hs
 have hc:(ZbV 6 0 0 ja jc [t]).clean=true:=Za6 (Zo4 iN) (by rw[Zcr];show 1+szL [t]<=10000;rw[Zdy];omega)
 rw[ZeS hj hc]
 show ZbV 6 0 0 none 0 [t.er]=_
 rw[hE];rfl
theorem Zd0(ws:List ByteArray)(E:List T)(a:Option Addr)(c:Nat)(m:Mem)(hw:rowRd m a (ws.map Value.string))(hn:ws.length<=20)(hs:(ws.all λs=>Nat.ble (ZcW s).length 100)=true)(bS:ws≠[])(hE:(ws.map λs=>ZdZ (ZcW s))=E):CX Try.prog 46 #[.slice a ws.length c] m [] (IsE (Zee E)):=by
 subst hE
 exact Zw7 ws a c m hw hn (λs hs'=>Nat.le_of_ble_eq_true (List.all_eq_true.1 hs s hs')) bS
theorem Zd1{m:Mem}{b:Nat}{cs:List Value}:rowRd (m.add b cs) (some ⟨b,0,none⟩) cs:=.inr ⟨b,0,rfl,λj v hj=>by rw[Nat.zero_add,Mem.add_same];exact hj⟩
theorem ZgD{E:T}{m:Mem}{K:TRK}(k:∀(t:T)(m':Mem),m.le m'->Rep m' t->t.er=E->t.caps->K t.k t.s0 t.s1 t.s2 t.s3 t.mn t.mx t.a t.subs.length t.c m'):
  ∀(n0 n1 n2 n3 n4 n5 n6:Int)(a:Option Addr)(n c:Nat)(m':Mem),m.le m'->IsE E (.agg #[.int .u8 n0,.int .u64 n1,.int .u64 n2,.int .u64 n3,.int .u64 n4,.int .i64 n5,.int .i64 n6,.slice a n c]) m' []->K n0 n1 n2 n3 n4 n5 n6 a n c m':=
 ZbH λt m' hm hr ⟨h1,h2⟩=>k t m' hm hr h1 h2
theorem ZaP{E:T}:∀(v:Value)(m':Mem) (css:List (List Value)),IsE E v m' css->Shape.fits (.agg [.int .u8,.int .u64,.int .u64,.int .u64,.int .u64,.int .i64,.int .i64,.slice]) v=true:=ZaB
end Go.Proofs.Ytfgfahnakepegaa
