/- Part of the proof: conditions and contracts of functions of this program. No condition of its own. -/
import Derived.Test.YtgclajkldphoaaaPEnv
import Derived.Test.YtgclajkldphoaaaMc
import Derived.Test.YtgclajkldphoaaaPC14G
import Derived.Test.YtgclajkldphoaaaMr
import Derived.Test.YtgclajkldphoaaaPVSE
set_option linter.unusedVariables false
namespace Go.Proofs.Ytgclajkldphoaaa
open Go Go.Eng Go.Proofs Go.RowKit
open Go.Value (int slice agg bool string tuple func)
open Go.IntKind (u8 u64 i64)
set_option maxRecDepth 100000
noncomputable def Zc8:Env:={ EB with
 tokOf:=(λi=>bif Nat.beq i 2 then 7 else bif Nat.beq i 7 then 7 else 0)
 tokC:=(λi=>bif Nat.beq i 5 then some (7,1)else none)
 thaw:=true }
def ZbP(p0a:Option Addr)(p0n p0c:Nat)(m:Mem)(R:RT):Prop:=
 br (Option.isNone p0a) (slice none 0 0=slice none 0 0/\R (slice none 0 0) m []) (((0:Int)=(0:Int)/\(0:Int)<=(0:Int)/\(0:Int)*(↑(8:Nat):Int)<=(281474976710656:Int)/\(0:Int) <=
 (9223372036854775807:Int))/\∀(b:Nat),Mem.free m b->(Tok.mk (slice (some (Addr.mk b 0 none)) 0 (Int.toNat (0:Int))) 1=Tok.mk (slice (some (Addr.mk b 0 none)) 0 (Int.toNat (0:Int))) 1\/slice (some (Addr.mk
 b 0 none)) 0 (Int.toNat (0:Int))=slice none 0 0\/Int.toNat (0:Int) < 0+p0n)/\∃(xs:List Value),∃(ys:List Value),List.length xs=0*1/\List.length ys=p0n*1/\rowRd m (some (Addr.mk b 0 none)) xs/\
 rowRd m p0a ys/\(∀(u:Value),u∈ys->Value.oneCell' u=true)/\(0+p0n)*8<=140737488355328/\0+p0n<=9223372036854775807/\∀(a':Option Addr)(c':Nat)(m':Mem),Mem.le m m'->rowRd m' a' (List.append
 xs ys)->TokFact m (some (Addr.mk b 0 none)) a' (0+p0n) c'->some (Tok.mk (slice a' (0+p0n) c') 1)=some (Tok.mk (slice a' (0+p0n) c') 1)/\R (slice a' (0+p0n) c') m' [])
theorem ZcP(p0a:Option Addr)(p0n p0c:Nat)(m:Mem)(R:RT)(h:ZbP p0a p0n p0c m R):CXT Try.prog 43 #[.slice p0a p0n p0c] m 1 R:=
 Zj8 (E:=Zc8) ZaP mix Try.func43 [.v (.slice p0a p0n p0c)] (by kernel_rfl) (Eq.mp (by kernel_rfl) h)
noncomputable def Zbm:Env:={ EB with
 loops:=(λi=>bif Nat.beq i 4 then⟨[(13,.int .i64)],[],[],false⟩ else⟨[],[],[],false⟩)
 dr:=(λi=>bif Nat.beq i 6 then[⟨0,[],[],none,[],[]⟩,⟨1,[],[],none,[],[]⟩,⟨2,[],[],none,[0,1],[]⟩,⟨3,[],[],none,[0,1,2],[]⟩,⟨4,[],[],none,[],[]⟩,⟨5,[],[],none,[],[]⟩,⟨6,[],[],none,[4,5],[]⟩,⟨7,[],[],none,[4,5,6],[]⟩,⟨8,[],[],none,[0,1,2,3,4,5,6,7],[]⟩]else[]) }
def ZaM(p0a:Option Addr)(p0n p0c:Nat)(p1a:Option Addr)(p1n p1c:Nat)(m:Mem)(R:RT):Prop:=
 br (!(↑p0n:Int) == (↑p1n:Int)) (∃(m'':Mem),Mem.le m m''/\Mem.le m'' m/\R (bool false) m'' []) (∃(I:IT),(∃(n:Nat),I [int i64 0] [] [] m n)/\∀(n:Int)(m':Mem)(n_1:Nat),Mem.le m m'->I [int i64
 n] [] [] m' n_1->br (decide (n < (↑p0n:Int))) (∃(b:Nat),∃(o:Nat),p0a=some (Addr.mk b o none)/\Zag n p0n/\∃(v:Value),∃(v_1:Value),Mem.reads m' b (o+Int.toNat n*2) [v,v_1]/\∃(b:Nat),∃
 (o:Nat),p1a=some (Addr.mk b o none)/\Zag n p1n/\∃(v_2:Value),∃(v_3:Value),Mem.reads m' b (o+Int.toNat n*2) [v_2,v_3]/\∃(b:Bool),EqIs Try.prog 56 (agg (Array.mk [v,v_1])) (agg (Array.mk
 [v_2,v_3])) b/\br (!b) (∃(m'':Mem),Mem.le m m''/\Mem.le m'' m'/\R (bool false) m'' []) (∃(n':Nat),n' < n_1/\I [int i64 (IntKind.wrap i64 (n+(1:Int)))] [] [] m' n')) (∃(m'':Mem),Mem.le m m''/\Mem.le
 m'' m'/\R (bool true) m'' []))
theorem Zbk(p0a:Option Addr)(p0n p0c:Nat)(p1a:Option Addr)(p1n p1c:Nat)(m:Mem)(R:RT)(h:ZaM p0a p0n p0c p1a p1n p1c m R):CX Try.prog 22 #[.slice p0a p0n p0c,.slice p1a p1n p1c] m [] R:=
 Zaj (E:=Zbm) ZaP mix Try.func22 [.v (.slice p0a p0n p0c),.v (.slice p1a p1n p1c)] [] (by kernel_rfl) (Eq.mp (by kernel_rfl) h)
noncomputable def Zjv:Env:=EB
def Ze3(p0a:Option Addr)(p0n p0c:Nat)(p1a:Option Addr)(p1n p1c:Nat)(m:Mem)(R:RT):Prop:=
 ∃(bs:ByteArray),ByteArray.size bs=p0n/\rowRd m p0a (Zak bs)/\∃(bs_1:ByteArray),ByteArray.size bs_1=p1n/\rowRd m p1a (Zak bs_1)/\∃(m'':Mem),Mem.le m m''/\Mem.le m'' m/\R (bool
 (ByteArray.toList bs == ByteArray.toList bs_1)) m'' []
theorem ZhO(p0a:Option Addr)(p0n p0c:Nat)(p1a:Option Addr)(p1n p1c:Nat)(m:Mem)(R:RT)(h:Ze3 p0a p0n p0c p1a p1n p1c m R):CX Try.prog 23 #[.slice p0a p0n p0c,.slice p1a p1n p1c] m [] R:=
 Zaj (E:=Zjv) ZaP mix Try.func23 [.v (.slice p0a p0n p0c),.v (.slice p1a p1n p1c)] [] (by kernel_rfl) (Eq.mp (by kernel_rfl) h)
noncomputable def ZhP:Env:=EB
def Zep(p0:Int)(m:Mem)(R:RT):Prop:=
 ∀(b b:Nat),(64:Int)≠(0:Int)/\(64:Int)≠(0:Int)/\(0:Int)<=Int.tmod p0 (64:Int)/\Zag (IntKind.wrap u8 (Int.tdiv p0 (64:Int))) 4/\chk (Nat.ble (0+Int.toNat (IntKind.wrap u8 (Int.tdiv p0 (64
 : Int)))*1) (nat_lit 3)) (chk (Nat.beq (List.length (ZaH [int u64 0,int u64 0,int u64 0,int u64 0] (0+Int.toNat (IntKind.wrap u8 (Int.tdiv p0 (64:Int)))*1) [int u64 (IntKind.wrap u64 ((1:Int)*(2:Int)
 ^ min (Int.toNat (Int.tmod p0 (64:Int))) 64))])) 4&&true) (chk (Nat.beq (List.length (List.append (ZaH [int u64 0,int u64 0,int u64 0,int u64 0] (0+Int.toNat (IntKind.wrap u8 (Int.tdiv p0 (64:Int)))*1)
 [int u64 (IntKind.wrap u64 ((1:Int)*(2:Int) ^ min (Int.toNat (Int.tmod p0 (64:Int))) 64))]) (List.drop (1+List.length (ZaH [int u64 0,int u64 0,int u64 0,int u64 0] (0+Int.toNat (IntKind.wrap u8
 (Int.tdiv p0 (64:Int)))*1) [int u64 (IntKind.wrap u64 ((1:Int)*(2:Int) ^ min (Int.toNat (Int.tmod p0 (64:Int))) 64))])) [int u8 2,int u64 0,int u64 0,int u64 0,int u64 0,int i64 0,int i64 0,slice none
 0 0]))) (nat_lit 7)&&ZhU (List.append (ZaH [int u64 0,int u64 0,int u64 0,int u64 0] (0+Int.toNat (IntKind.wrap u8 (Int.tdiv p0 (64:Int)))*1) [int u64 (IntKind.wrap u64 ((1:Int)*(2:Int) ^ min
 (Int.toNat (Int.tmod p0 (64:Int))) 64))]) (List.drop (1+List.length (ZaH [int u64 0,int u64 0,int u64 0,int u64 0] (0+Int.toNat (IntKind.wrap u8 (Int.tdiv p0 (64:Int)))*1) [int u64 (IntKind.wrap u64 ((1
 : Int)*(2:Int) ^ min (Int.toNat (Int.tmod p0 (64:Int))) 64))])) [int u8 2,int u64 0,int u64 0,int u64 0,int u64 0,int i64 0,int i64 0,slice none 0 0]))) (∃(m'':Mem),Mem.le m m''/\Mem.le m'' m/\R (agg
 (Array.mk (ZaH [int u8 2,int u64 0,int u64 0,int u64 0,int u64 0,int i64 0,int i64 0,slice none 0 0] 1 (ZaH [int u64 0,int u64 0,int u64 0,int u64 0] (0+Int.toNat (IntKind.wrap u8 (Int.tdiv p0 (64:
 Int)))*1) [int u64 (IntKind.wrap u64 ((1:Int)*(2:Int) ^ min (Int.toNat (Int.tmod p0 (64:Int))) 64))])))) m'' [])))
theorem ZgY(p0:Int)(m:Mem)(R:RT)(h:Zep p0 m R):CX Try.prog 11 #[.int .u8 p0] m [] R:=
 Zaj (E:=ZhP) ZaP mix Try.func11 [.v (.int .u8 p0)] [] (by kernel_rfl) (Eq.mp (by kernel_rfl) h)
noncomputable def Zjw:Env:={ EB with
 frzNew:=[1] }
def Ze4(aE aJ aH aI aK aD aG:Int)(aB:Option Addr)(aA aC:Nat)(m:Mem)(R:RT):Prop:=
 ∀(b:Nat)(m':Mem),Mem.le m m'->Mem.reads m' b 0 [int u8 aE,int u64 aJ,int u64 aH,int u64 aI,int u64 aK,int i64 aD,int i64 aG,slice aB aA aC]->∀(b b:Nat),Mem.free m' b->∃(m'':
 Mem),Mem.le m m''/\Mem.le m'' (Mem.add m' b [int u8 aE,int u64 aJ,int u64 aH,int u64 aI,int u64 aK,int i64 aD,int i64 aG,slice aB aA aC])/\R (agg (Array.mk [int u8 6,int u64 0,int u64
 0,int u64 0,int u64 0,int i64 0,int i64 0,slice (some (Addr.mk b 0 none)) 1 1])) m'' []
theorem ZhQ(aE aJ aH aI aK aD aG:Int)(aB:Option Addr)(aA aC:Nat)(m:Mem)(R:RT)(h:Ze4 aE aJ aH aI aK aD aG aB aA aC m R):CX Try.prog 10 #[.agg #[.int .u8 aE,.int .u64 aJ,.int .u64 aH,.int .u64 aI,.int .u64 aK,.int .i64 aD,.int .i64 aG,.slice aB aA aC]] m [] R:=
 Zaj (E:=Zjw) ZaP mix Try.func10 [.v (.agg #[.int .u8 aE,.int .u64 aJ,.int .u64 aH,.int .u64 aI,.int .u64 aK,.int .i64 aD,.int .i64 aG,.slice aB aA aC])] [] (by kernel_rfl) (Eq.mp (by kernel_rfl) h)
noncomputable def Zm0:Env:=EB
def ZgZ(p0a:Option Addr)(p0n p0c:Nat)(m:Mem)(R:RT):Prop:=
 ∀(b:Nat),∃(m'':Mem),Mem.le m m''/\Mem.le m'' m/\R (agg (Array.mk [int u8 3,int u64 0,int u64 0,int u64 0,int u64 0,int i64 0,int i64 0,slice p0a p0n p0c])) m'' []
theorem Zk4(p0a:Option Addr)(p0n p0c:Nat)(m:Mem)(R:RT)(h:ZgZ p0a p0n p0c m R):CX Try.prog 12 #[.slice p0a p0n p0c] m [] R:=
 Zaj (E:=Zm0) ZaP mix Try.func12 [.v (.slice p0a p0n p0c)] [] (by kernel_rfl) (Eq.mp (by kernel_rfl) h)
noncomputable def Zm1:Env:={ EB with
 frzNew:=[3] }
def Zg0(aE aJ aH aI aK aD aG:Int)(aB:Option Addr)(aA aC:Nat)(p1 p2:Int)(m:Mem)(R:RT):Prop:=
 ∀(b:Nat)(m':Mem),Mem.le m m'->Mem.reads m' b 0 [int u8 aE,int u64 aJ,int u64 aH,int u64 aI,int u64 aK,int i64 aD,int i64 aG,slice aB aA aC]->∀(b b:Nat),Mem.free m' b->∃(m'':
 Mem),Mem.le m m''/\Mem.le m'' (Mem.add m' b [int u8 aE,int u64 aJ,int u64 aH,int u64 aI,int u64 aK,int i64 aD,int i64 aG,slice aB aA aC])/\R (agg (Array.mk [int u8 5,int u64 0,int u64
 0,int u64 0,int u64 0,int i64 p1,int i64 p2,slice (some (Addr.mk b 0 none)) 1 1])) m'' []
theorem Zk5(aE aJ aH aI aK aD aG:Int)(aB:Option Addr)(aA aC:Nat)(p1 p2:Int)(m:Mem)(R:RT)(h:Zg0 aE aJ aH aI aK aD aG aB aA aC p1 p2 m R):CX Try.prog 13 #[.agg #[.int .u8 aE,.int .u64 aJ,.int .u64 aH,.int .u64 aI,.int .u64 aK,.int .i64 aD,.int .i64 aG,.slice aB aA aC],.int .i64 p1,.int .i64 p2] m [] R:=
 Zaj (E:=Zm1) ZaP mix Try.func13 [.v (.agg #[.int .u8 aE,.int .u64 aJ,.int .u64 aH,.int .u64 aI,.int .u64 aK,.int .i64 aD,.int .i64 aG,.slice aB aA aC]),.v (.int .i64 p1),.v (.int .i64 p2)] [] (by kernel_rfl) (Eq.mp (by kernel_rfl) h)
noncomputable def Zm2:Env:=EB
def Zg1(p0a:Option Addr)(p0n p0c:Nat)(m:Mem)(R:RT):Prop:=
 ∀(b:Nat),∃(m'':Mem),Mem.le m m''/\Mem.le m'' m/\R (agg (Array.mk [int u8 4,int u64 0,int u64 0,int u64 0,int u64 0,int i64 0,int i64 0,slice p0a p0n p0c])) m'' []
theorem Zk6(p0a:Option Addr)(p0n p0c:Nat)(m:Mem)(R:RT)(h:Zg1 p0a p0n p0c m R):CX Try.prog 24 #[.slice p0a p0n p0c] m [] R:=
 Zaj (E:=Zm2) ZaP mix Try.func24 [.v (.slice p0a p0n p0c)] [] (by kernel_rfl) (Eq.mp (by kernel_rfl) h)
end Go.Proofs.Ytgclajkldphoaaa
set_option linter.unusedVariables false
set_option linter.unusedSimpArgs false
namespace Go.Proofs.Ytgclajkldphoaaa
open Go Go.Eng Go.Rx Go.Proofs Go.RowKit
set_option maxRecDepth 100000
theorem ZuT{m M:Mem}{kb:Nat}{pa:Option Addr}(hm:m.le M)(h1:m.free kb/\m.k kb=none)(h2:∀b,pa=some ⟨b,0,none⟩->m.free b/\m.k b=none):m.le (M.off (Zp kb pa)):=by
 have key:∀b,Zp kb pa b->m.free b/\m.k b=none:=λb hb=>by
  rcases hb with rfl|hb
  ·exact h1
  ·exact h2 b hb
 refine⟨λb o v hv=>?_,λb e he=>?_⟩
 ·rw[Mem.off_at (λhb=>by have:=(key b hb).1 o;rw[hv]at this;cases this)]
  exact hm.c _ _ _ hv
 ·rw[Mem.off_k (λhb=>by have:=(key b hb).2;rw[he]at this;cases this)]
  exact hm.k _ _ he
theorem Zt0{m M:Mem}{b:Nat}(hm:m.le M)(h:M.k b=none):m.k b=none:=by
 cases he:m.k b with
 | none=>rfl
 | some e=>rw[hm.k _ _ he]at h;cases h
structure Made14 (m m':Mem)(fb kb:Nat)(n:Nd)(t:T)(sa:Option Addr)(s:List Nat)(sc:Nat)(pa:Option Addr)(pc:Nat):Prop where
 tr:n.t=t
 num:n.num 0
 st:Byt m sa s->St fb kb n sa s sc pa pc t.ngr m' (List.replicate t.ngr noP)
 kf:m.free kb/\m.k kb=none
 pf:∀b,pa=some ⟨b,0,none⟩->m.free b/\m.k b=none
def Zsh(m:Mem)(t:T)(sa:Option Addr)(s:List Nat)(sc:Nat):RT:=λv m' _=>
 (Zcm t s.length≠0/\v=.tuple #[.pointer none,.pointer none,.int .i64 (Zcm t s.length)])\/
 (Zcm t s.length=0/\∃(fb kb:Nat)(n:Nd)(pa:Option Addr)(pc:Nat),v=.tuple #[.pointer (some ⟨fb,0,none⟩),.pointer (some ⟨n.b,0,none⟩),.int .i64 0]/\Made14 m m' fb kb n t sa s sc pa pc)
theorem Zhv{m:Mem}{t:T}{sa:Option Addr}{s:List Nat}{sc:Nat}:∀(v:Value)(m':Mem) (css:List (List Value)),Zsh m t sa s sc v m' css->Shape.fits (Shape.tup [Shape.any,Shape.any,Shape.int .i64]) v=true:=λv m' css h=>by
 rcases h with⟨_,h⟩|⟨_,fb,kb,n,pa,pc,h,_⟩ <;> (rw[h];rfl)
theorem Zo9(t:T)(sa:Option Addr)(s:List Nat)(sc:Nat)(m:Mem)(hr:Rep m t):CX Try.prog 42 #[t.v,.slice sa s.length sc] m [] (Zsh m t sa s sc):=by
 unfold T.v
 apply ZkY
 unfold ZgQ
 intro b m1 aT cN jV _ gG
 refine⟨_,trivial,Zo3 false false t m1 (hr.mono aT),λv m' css h=>by unfold Ret at h;rw[h];rfl,?_⟩
 rintro e m2 bB he
 obtain rfl:e=t.check:=by simpa[Ret]using he
 have eT:=mLt aT bB
 refine Zab (λhq=>⟨m2,eT,Mem.le_refl _,.inl ?_⟩) (λhq=>Zab (λjE=>⟨m2,eT,Mem.le_refl _,.inl ?_⟩) (λjE=>?_))
 ·have:t.check≠0:=by simpa using hq
  have:Zcm t s.length=140:=by unfold Zcm;rw[if_pos this]
  rw[this];exact⟨by decide,rfl⟩
 ·have h1:t.check=0:=by simpa using hq
  have h2:512 < s.length:=by have:=of_decide_eq_true jE;omega
  have:Zcm t s.length=3:=by unfold Zcm;rw[if_neg (by simp[h1]),if_pos h2]
  rw[this];exact⟨by decide,rfl⟩
 have hc:t.check=0:=by simpa using hq
 have hl:s.length<=512:=by have:=of_decide_eq_false jE;omega
 have hw:Zcm t s.length=0:=by unfold Zcm;rw[if_neg (by simp[hc]),if_neg (by omega)]
 obtain⟨jX,lX⟩:=Zhq hc
 intro kb yw dD fb
 have tG:=Mem.le_updK (Mem.le_refl m2) dD []
 have nU:t.ngr<=t.nodes.length:=by rw[Zfn];exact List.countP_le_length
 have lG:m.free kb/\m.k kb=none:=⟨ZmT eT yw,Zt0 eT dD⟩
 have sQ:Rep ((m2.updK kb []).off (Zp kb none)) t:=hr.mono (ZuT (mLt eT tG) lG (λb hb=>by cases hb))
 have nT:=Zob fb kb [] _ t (Nat.lt_succ_self _) 0 none 0 [] (.slice sa s.length sc) (.map (some kb)) (m2.updK kb []) sQ (Mem.updK_same _ _ _) (λb hb=>by cases hb) (.inl ⟨rfl,rfl⟩) (by omega) (by simp;omega)
 refine⟨_,_,nT,?_,?_,?_,?_⟩
 ·intro tk dA b' hb'
  obtain rfl:tk=_:=by simpa using dA
  cases hb'
 ·intro b' hb'
  cases hb'
 ·rintro v m' css tvs ⟨n,_,_,h,_⟩;rw[h];rfl
 rintro nb no m3 cE _ cs a d c ⟨n,pa,pc,hv,nA,pS,tE,rI,cO,fW,fN,bL,dM⟩ wI wJ
 obtain⟨rfl,rfl⟩:nb=n.b/\no=0:=by simpa using hv
 have cO:=List.singleton_inj.1 cO
 subst cO
 clear fW hv
 have rl:(m2.updK kb []).le m3:=by
  refine mLt ⟨λb o v hv=>?_,λb e he=>?_⟩ cE
  ·rw[Mem.off_at (λh=>by cases h)];exact hv
  ·rw[Mem.off_k (λh=>by cases h)];exact he
 have mP:=mLt eT (mLt tG rl)
 have nY:=Mem.le_add wI [.slice sa s.length sc,.int .i64 ((0+t.nodes.length:Nat):Int),.slice pa (([]:PL).length+t.ngr) pc,.map (some kb)]
 have qP:∀b,pa=some ⟨b,0,none⟩->(m2.updK kb []).free b/\(m2.updK kb []).k b=none:=λb hb=>by
  rcases bL b hb with h|h
  ·rw[hb]at h;cases h
  ·exact h
 have wK:∀b,pa=some ⟨b,0,none⟩->m.free b/\m.k b=none:=λb hb=>⟨ZmT (mLt eT tG) (qP b hb).1,Zt0 (mLt eT tG) (qP b hb).2⟩
 have hU:¬Zp kb pa fb:=λhz=>by
  rcases hz with rfl|hz
  ·rw[dM]at wJ;cases wJ
  ·rcases fN with⟨_,h⟩|⟨b2,h,wL,cK⟩
   ·rw[h]at hz;cases hz
   ·rw[h]at hz;cases hz
    generalize (([]:PL)++List.replicate t.ngr noP)=PP at wL cK
    cases PP with
    | nil=>exact cK rfl
    | cons p l=>
     have:=(wL 0 p rfl).1
     rw[wI _]at this;cases this
 have sO:=ZeH nY (Z:=Zp kb pa)
 rw[List.nil_append]at fN
 have sR:=fN.mono nY
 refine⟨_,mLt mP nY,Mem.le_refl _,.inr ⟨hw,fb,kb,n,pa,pc,rfl,nA,tE,λhb=>⟨⟨⟨?_,?_,?_,hl,NRep.mono sO _ pS,ZqN n 0 (Zs3 pS) rI,λx hx=>?_⟩,⟨[],nY.k _ _ dM,λe he=>by cases he⟩,ZrT sR⟩,sR,by simp,?_,λb hb e=>?_⟩,lG,wK⟩⟩
 ·rw[Mem.off_at hU,Mem.add_same];rfl
 ·rw[Mem.off_at hU,Mem.add_same];rfl
 ·exact hb.mono (ZuT (mLt mP nY) lG wK)
 ·have:=Zms n (Zs3 pS) x hx
  rw[nA]at this
  unfold T.good at jX
  exact List.all_eq_true.1 jX _ this
 ·rw[Mem.off_at hU,Mem.add_same]
  simp
 ·subst e
  have:=(qP b hb).2
  rw[Mem.updK_same]at this;cases this
end Go.Proofs.Ytgclajkldphoaaa
set_option linter.unusedVariables false
set_option linter.unusedSimpArgs false
namespace Go.Proofs.Ytgclajkldphoaaa
open Go Go.Eng Go.Rx Go.Proofs Go.RowKit
set_option maxRecDepth 100000
theorem Zsi{P:Program}{g:FuncId}{args:Array Value}{m m0:Mem}{Y:Nat->Prop}{R0:RTY}{sh:Shape}{E:Nat->Prop}{Kf:(Nat->Prop)->RTY->Prop}(h:CXY P g args m Y [] [] R0)(hY:∀b,Y b->(m0.free b/\m0.k b=none)/\((∃(o:Nat),∃(v:Value),m b o=some v)\/∃(e:List (Value×Value)),Mem.k m b=some e)/\E b)(hf:∀(v:Value)(m':Mem) (css:List (List Value)) (tvs:List Value),R0 v m' css tvs->Shape.fits sh v=true)(k:Kf Y R0):
  ∃(Y:Nat->Prop),∃(R:Value->Mem->List (List Value)->List Value->Prop),CXY P g args m Y [] [] R/\(∀(t:Tok),t∈[]->∀(b:Nat),t.blk=some b->Y b)/\
   (∀(b:Nat),Y b->(∃(t:Tok),t∈[]/\t.blk=some b)\/(Mem.free m0 b/\Mem.k m0 b=none)/\((∃(o:Nat),∃(v:Value),m b o=some v)\/∃(e:List (Value×Value)),Mem.k m b=some e)/\E b)/\
   (∀(v:Value)(m':Mem) (css:List (List Value)) (tvs:List Value),R v m' css tvs->Shape.fits sh v=true)/\Kf Y R:=
 ⟨Y,R0,h,by simp,λb hb=>.inr (hY b hb),hf,k⟩
theorem Zm3{m:Mem}{vs:List Value}(h:rowRd m none vs):vs=[]:=by
 rcases h with h|⟨b,o,h,_⟩
 ·exact h
 ·cases h
theorem Zoc(l:List Nat)(a:Option Addr)(c:Nat)(m:Mem)(h:rowRd m a (nsL l))(hl:l.length<=1000000):CX Try.prog 43 #[.slice a l.length c] m [] (λv m' _=>∃a c,v=.slice a l.length c/\rowRd m' a (nsL l)):=by
 have key:CXT Try.prog 43 #[.slice a l.length c] m 1 (λv m' _=>∃a c,v=.slice a l.length c/\rowRd m' a (nsL l)):=by
  apply ZcP
  unfold ZbP
  refine Zab (λhn=>?_) (λhn=>⟨⟨rfl,Int.le_refl _,by decide,by decide⟩,λb hb=>⟨.inl rfl,[],nsL l,rfl,by simp[nsL],.inl rfl,h,λu hu=>Zts u hu,by omega,by omega,λa' c' m' hm' hr wl=>⟨rfl,a',c',by rw[Nat.zero_add],hr⟩⟩⟩)
  have:a=none:=by simpa using hn
  subst this
  have:=Zm3 h
  obtain rfl:l=[]:=by simpa[nsL]using this
  exact⟨rfl,none,0,rfl,.inl rfl⟩
 exact key.toCX
theorem Made14.here{m m':Mem}{fb kb:Nat}{n:Nd}{t:T}{sa:Option Addr}{s:List Nat}{sc:Nat}{pa:Option Addr}{pc:Nat}(h:Made14 m m' fb kb n t sa s sc pa pc)(eX:Byt m sa s):∀b,Zp kb pa b->(m.free b/\m.k b=none)/\((∃(o:Nat),∃(v:Value),m' b o=some v)\/∃(e:List (Value×Value)),Mem.k m' b=some e):=λb hb=>
 ⟨by rcases hb with rfl|hb;exact h.kf;exact h.pf b hb,((h.st eX).zin b hb).2.1⟩
theorem Zeq{m m1 m2:Mem}{fb kb:Nat}{n:Nd}{t:T}{sa:Option Addr}{s:List Nat}{sc:Nat}{pa:Option Addr}{pc:Nat}{b:Nat}{v:Value}(h:Made14 m1 m2 fb kb n t sa s sc pa pc)(eX:Byt m1 sa s)(hm:m.le m1)(hb:m1 b 0=some v):∀x,Zp kb pa x->(m.free x/\m.k x=none)/\((∃(o:Nat),∃(v:Value),m2 x o=some v)\/∃(e:List (Value×Value)),Mem.k m2 x=some e)/\(b≠x/\True):=λx hx=>by
 obtain⟨⟨h1,h2⟩,h3⟩:=h.here eX x hx
 refine⟨⟨ZmT hm h1,Zt0 hm h2⟩,h3,λe=>?_,trivial⟩
 subst e
 rw[h1 0]at hb;cases hb
theorem Zkm{m m' M:Mem}{Y:Nat->Prop}(hm:m.le m')(hn:∀b,Y b->m.free b/\m.k b=none)(hM:(m'.off Y).le M):m.le M:=⟨λb o v hv=>by
 refine hM.c _ _ _ ?_
 rw[Mem.off_at (λhb=>by have:=(hn b hb).1 o;rw[hv]at this;cases this)]
 exact hm.c _ _ _ hv,λb e he=>by
 refine hM.k _ _ ?_
 rw[Mem.off_k (λhb=>by have:=(hn b hb).2;rw[he]at this;cases this)]
 exact hm.k _ _ he⟩
def ZvY(t:T)(s:List Nat)(i:Int):RT:=λv m' _=>∃a c,v=.tuple #[.slice a (Zsf t s i).1.length c,.int .i64 (Zsf t s i).2]/\rowRd m' a (nsL (Zsf t s i).1)
theorem ZrV(t:T)(sa:Option Addr)(s:List Nat)(sc:Nat)(i:Int)(m:Mem)(hr:Rep m t)(hb:Zcm t s.length=0->0<=i/\i<=s.length->Byt m sa s):CX Try.prog 14 #[t.v,.slice sa s.length sc,.int .i64 i] m [] (ZvY t s i):=by
 unfold T.v
 apply Zjm
 unfold Zf3
 intro b m1 aT cN jV _
 refine⟨_,trivial,Zo9 t sa s sc m1 (hr.mono aT),Zhv,?_⟩
 rintro v v1 e m2 bB hR
 have eT:=mLt aT bB
 unfold Zsh at hR
 rcases hR with⟨hw,hv⟩|⟨hw,fb,kb,n,pa,pc,hv,hM⟩
 ·simp only[Value.tuple.injEq,Array.mk.injEq,List.cons.injEq,Value.int.injEq,true_and,and_true]at hv
  obtain⟨rfl,rfl,rfl⟩:=hv
  refine ZhT (by simpa using hw) ⟨m2,eT,Mem.le_refl _,none,0,?_,?_⟩ <;> (unfold Zsf;rw[if_pos hw])
  ·rfl
  ·exact .inl rfl
 simp only[Value.tuple.injEq,Array.mk.injEq,List.cons.injEq,Value.int.injEq,true_and,and_true]at hv
 obtain⟨rfl,rfl,rfl⟩:=hv
 refine Zg5 (by simp) ⟨decide (i < 0)||decide (i > (s.length:Int)),Zab (λh=>⟨rfl,by rw[h];rfl⟩) (λh=>⟨rfl,by rw[h];rfl⟩),Zab (λhq=>⟨m2,eT,Mem.le_refl _,none,0,?_,?_⟩) (λhq=>?_)⟩
 ·have hq:i < 0\/i > (s.length:Int):=by simpa using hq
  unfold Zsf;rw[if_neg (by simp[hw]),if_pos hq];rfl
 ·have hq:i < 0\/i > (s.length:Int):=by simpa using hq
  unfold Zsf;rw[if_neg (by simp[hw]),if_pos hq];exact .inl rfl
 have hq:¬(i < 0\/i > (s.length:Int)):=by simpa using hq
 obtain⟨j,rfl⟩:∃j:Nat,i=j:=⟨i.toNat,by omega⟩
 have hj:j<=s.length:=by omega
 have eX:=(hb hw ⟨by omega,by omega⟩).mono aT
 have cP:=hM.st eX
 have hX:Zsf t s j=(t.e0 s j,0):=by unfold Zsf;rw[if_neg (by simp[hw]),if_neg hq];simp
 have gU:=ZbO (d:=0) (cP.wk.fin.good n (Zcw n)) cP.wk.fin.len hj
 rw[ZaY,hM.tr]at gU
 refine Zsi (Zhu fb kb (Zp kb pa) n sa s sc n (Zcw n) 0 j (by omega) hj (λ_=>Nat.zero_le _) m2 cP.wk) (λx hx=>Zeq hM eX aT (cN 0 _ rfl) x (.inl hx)) ZaZ ?_
 rintro a nn c m3 cE _ ⟨a',c',hv,aL,cX⟩
 rw[ZaY,hM.tr]at hv aL
 obtain⟨rfl,rfl,rfl⟩:a=a'/\nn=(t.e0 s j).length/\c=c':=by simpa using hv
 have mP:m.le m3:=Zkm eT (λx hx=>(Zeq hM eX aT (cN 0 _ rfl) x (.inl hx)).1) cE
 refine⟨_,trivial,Zoc _ a c m3 (aL.mono (Mem.off_le _ _)) (by omega),λv m' css ⟨_,_,h,_⟩=>by rw[h];rfl,?_⟩
 rintro a2 n2 c2 m4 cF ⟨a3,c3,hv,bY⟩
 obtain⟨rfl,rfl,rfl⟩:a2=a3/\n2=(t.e0 s j).length/\c2=c3:=by simpa using hv
 refine⟨m4,mLt mP cF,Mem.le_refl _,a2,c2,?_,?_⟩ <;> rw[hX]
 exact bY
def ZvZ(t:T)(s:List Nat):RT:=λv m' _=>∃a c,v=.tuple #[.slice a (ZdX t s).1.length c,.int .i64 (ZdX t s).2]/\PtAt m' a (ZdX t s).1
theorem Zjx(t:T)(sa:Option Addr)(s:List Nat)(sc:Nat)(m:Mem)(hr:Rep m t)(hb:Zcm t s.length=0->Byt m sa s):CX Try.prog 15 #[t.v,.slice sa s.length sc] m [] (ZvZ t s):=by
 unfold T.v
 apply Zjn
 unfold Zf4
 intro b m1 aT cN jV _
 refine⟨_,trivial,Zo9 t sa s sc m1 (hr.mono aT),Zhv,?_⟩
 rintro v v1 e m2 bB hR
 have eT:=mLt aT bB
 unfold Zsh at hR
 rcases hR with⟨hw,hv⟩|⟨hw,fb,kb,n,pa,pc,hv,hM⟩
 ·simp only[Value.tuple.injEq,Array.mk.injEq,List.cons.injEq,Value.int.injEq,true_and,and_true]at hv
  obtain⟨rfl,rfl,rfl⟩:=hv
  refine ZhT (by simpa using hw) ⟨m2,eT,Mem.le_refl _,none,0,?_,?_⟩ <;> (unfold ZdX;rw[if_pos hw])
  ·rfl
  ·exact .inl ⟨rfl,rfl⟩
 simp only[Value.tuple.injEq,Array.mk.injEq,List.cons.injEq,Value.int.injEq,true_and,and_true]at hv
 obtain⟨rfl,rfl,rfl⟩:=hv
 have eX:=(hb hw).mono aT
 have cP:=hM.st eX
 have gU:=ZbO (d:=0) (i:=0) (cP.wk.fin.good n (Zcw n)) cP.wk.fin.len (by omega)
 rw[ZaY,hM.tr]at gU
 refine Zg5 (by simp) (Zsi (Zhu fb kb (Zp kb pa) n sa s sc n (Zcw n) 0 0 (by omega) (by omega) (λ_=>Nat.zero_le _) m2 cP.wk) (λx hx=>Zeq hM eX aT (cN 0 _ rfl) x (.inl hx)) ZaZ ?_)
 rintro a nn c m3 cE _ ⟨a',c',hv,aL,cX⟩
 rw[ZaY,hM.tr]at hv aL
 obtain⟨rfl,rfl,rfl⟩:a=a'/\nn=(t.e0 s 0).length/\c=c':=by simpa using hv
 have mP:m.le m3:=Zkm eT (λx hx=>(Zeq hM eX aT (cN 0 _ rfl) x (.inl hx)).1) cE
 have dF:=cP.step cE cX
 refine⟨_,trivial,Zdm _ a c s.length m3 (aL.mono (Mem.off_le _ _)) (by omega),λv m' css h=>by unfold Ret at h;rw[h];rfl,?_⟩
 rintro bb m4 cF hR
 obtain rfl:bb=decide (s.length∈t.e0 s 0):=by simpa[Ret]using hR
 have dQ:=dF.le cF
 have pA:=mLt mP cF
 refine Zab (λhq=>⟨m4,pA,Mem.le_refl _,none,0,?_,?_⟩) (λhq=>?_)
 ·have hq:s.length ∉ t.e0 s 0:=by simpa using hq
  unfold ZdX;rw[if_neg (by simp[hw]),if_neg hq];rfl
 ·have hq:s.length ∉ t.e0 s 0:=by simpa using hq
  unfold ZdX;rw[if_neg (by simp[hw]),if_neg hq];exact .inl ⟨rfl,rfl⟩
 have hq:s.length∈t.e0 s 0:=by simpa using hq
 have hX:ZdX t s=((ZoX t s).1,0):=by unfold ZdX;rw[if_neg (by simp[hw]),if_pos hq]
 have sS:=Zo7 fb kb n sa s sc pa pc t.ngr _ n (Nat.lt_succ_self _) (Zcw n) 0 hM.num (by rw[hM.tr];omega) 0 s.length (by omega) (by rw[hM.tr];exact hq) m4 _ dQ
 rw[hM.tr]at sS
 refine Zsi sS (λx hx=>?_) Zdo ?_
 ·obtain⟨q1,_,q3⟩:=Zeq hM eX aT (cN 0 _ rfl) x hx
  exact⟨q1,(dQ.zin x hx).2.1,q3⟩
 rintro z m5 eO _ ⟨_,hh,fN⟩
 have vf:m.le m5:=Zkm pA (λx hx=>(Zeq hM eX aT (cN 0 _ rfl) x hx).1) eO
 refine Zaa rfl (Zaa rfl ⟨_,eO.c _ _ _ dQ.parts,m5,vf,Mem.le_refl _,pa,pc,?_,?_⟩) <;> rw[hX]
 ·rw[Zjc]
 ·exact fN
theorem Zqi(t:T)(sa:Option Addr)(s:List Nat)(sc:Nat)(m:Mem)(hr:Rep m t)(hb:Zcm t s.length=0->t.k=5->Byt m sa s):CX Try.prog 17 #[t.v,.slice sa s.length sc] m [] (Ret (.tuple #[.int .i64 ((Zp2 t s).1:Nat),.int .i64 (Zp2 t s).2])):=by
 unfold T.v
 apply ZhN
 unfold Ze1
 intro b m1 aT cN jV _
 refine⟨_,trivial,Zo9 t sa s sc m1 (hr.mono aT),Zhv,?_⟩
 rintro v v1 e m2 bB hR
 have eT:=mLt aT bB
 unfold Zsh at hR
 rcases hR with⟨hw,hv⟩|⟨hw,fb,kb,n,pa,pc,hv,hM⟩
 ·simp only[Value.tuple.injEq,Array.mk.injEq,List.cons.injEq,Value.int.injEq,true_and,and_true]at hv
  obtain⟨rfl,rfl,rfl⟩:=hv
  refine ZhT (by simpa using hw) ⟨m2,eT,Mem.le_refl _,?_⟩
  unfold Ret Zp2;rw[if_pos hw];rfl
 simp only[Value.tuple.injEq,Array.mk.injEq,List.cons.injEq,Value.int.injEq,true_and,and_true]at hv
 obtain⟨rfl,rfl,rfl⟩:=hv
 refine Zg5 (by simp) (Zab (λhk=>⟨m2,eT,Mem.le_refl _,?_⟩) (λhk=>?_))
 ·have hk:t.k≠5:=by simpa using hk
  unfold Ret Zp2;rw[if_neg (by simp[hw]),if_pos hk];rfl
 have hk:t.k=5:=by simpa using hk
 have eX:=(hb hw hk).mono aT
 have cP:=hM.st eX
 have gU:=ZbO (d:=0) (i:=0) (cP.wk.fin.good n (Zcw n)) cP.wk.fin.len (by omega)
 rw[ZaY,hM.tr]at gU
 refine Zsi (Zhu fb kb (Zp kb pa) n sa s sc n (Zcw n) 0 0 (by omega) (by omega) (λ_=>Nat.zero_le _) m2 cP.wk) (λx hx=>Zeq hM eX aT (cN 0 _ rfl) x (.inl hx)) ZaZ ?_
 rintro a nn c m3 cE _ ⟨a',c',hv,aL,cX⟩
 rw[ZaY,hM.tr]at hv aL
 obtain⟨rfl,rfl,rfl⟩:a=a'/\nn=(t.e0 s 0).length/\c=c':=by simpa using hv
 have mP:m.le m3:=Zkm eT (λx hx=>(Zeq hM eX aT (cN 0 _ rfl) x (.inl hx)).1) cE
 have dF:=cP.step cE cX
 refine⟨_,trivial,Zdm _ a c s.length m3 (aL.mono (Mem.off_le _ _)) (by omega),λv m' css h=>by unfold Ret at h;rw[h];rfl,?_⟩
 rintro bb m4 cF hR
 obtain rfl:bb=decide (s.length∈t.e0 s 0):=by simpa[Ret]using hR
 have dQ:=dF.le cF
 have pA:=mLt mP cF
 refine Zab (λhq=>⟨m4,pA,Mem.le_refl _,?_⟩) (λhq=>?_)
 ·have hq:s.length ∉ t.e0 s 0:=by simpa using hq
  unfold Ret Zp2;rw[if_neg (by simp[hw]),if_neg (by simp[hk]),if_neg hq];rfl
 have hq:s.length∈t.e0 s 0:=by simpa using hq
 have sS:=Zo7 fb kb n sa s sc pa pc t.ngr _ n (Nat.lt_succ_self _) (Zcw n) 0 hM.num (by rw[hM.tr];omega) 0 s.length (by omega) (by rw[hM.tr];exact hq) m4 _ dQ
 rw[hM.tr]at sS
 refine Zsi sS (λx hx=>?_) Zdo ?_
 ·obtain⟨q1,_,q3⟩:=Zeq hM eX aT (cN 0 _ rfl) x hx
  exact⟨q1,(dQ.zin x hx).2.1,q3⟩
 rintro z m5 eO _ ⟨hz,hh,fN⟩
 have vf:m.le m5:=Zkm pA (λx hx=>(Zeq hM eX aT (cN 0 _ rfl) x hx).1) eO
 obtain rfl:z=((ZoX t s).2:Nat):=by simpa[ZoX,noP]using hz
 refine⟨m5,vf,Mem.le_refl _,?_⟩
 unfold Ret Zp2;rw[if_neg (by simp[hw]),if_neg (by simp[hk]),if_pos hq]
end Go.Proofs.Ytgclajkldphoaaa
set_option linter.unusedVariables false
set_option linter.unusedSimpArgs false
namespace Go.Proofs.Ytgclajkldphoaaa
open Go Go.Eng Go.Rx Go.Proofs Go.RowKit
set_option maxRecDepth 100000
def mkS(l:List Nat):ByteArray:=⟨(l.map UInt8.ofNat).toArray⟩
theorem Zkn{l:List Nat}(h:∀c∈l,c < 256):ZbE (mkS l)=l:=by
 unfold ZbE mkS
 simp only[List.map_map]
 conv=>rhs;rw[<-List.map_id l]
 refine List.map_congr_left λc hc=>?_
 simp only[Function.comp,id]
 rw[UInt8.toNat_ofNat']
 exact Nat.mod_eq_of_lt (h c hc)
theorem ZeN(l:List Nat):(mkS l).size=l.length:=by
 unfold mkS ByteArray.size
 simp
theorem Zf7{m:Mem}{a:Option Addr}{l:List Nat}(h:Byt m a l):rowRd m a (Zak (mkS l)):=by
 rw[Zf2,Zkn h.2]
 rcases h.1 with h|⟨b,o,h1,h2⟩
 ·subst h;exact .inl rfl
 ·exact .inr ⟨b,o,h1,h2⟩
theorem Zq5{m:Mem}{a:Option Addr}{s:List Nat}(h:Byt m a s)(i n c:Nat)(hc:s.length<=c)(hn:n<=s.length)(hi:i<=n):Byt m (ZaW a i c 1) ((s.take n).drop i):=by
 refine⟨?_,λx hx=>h.2 x (List.mem_of_mem_take (List.mem_of_mem_drop hx))⟩
 by_cases e:i=n
 ·left
  rw[List.drop_eq_nil_of_le (by rw[List.length_take];omega)]
 rcases h.1 with hs|⟨b,o,rfl,hr⟩
 ·subst hs;left;simp
 ·refine .inr ⟨b,o+i,?_,λj v hj=>?_⟩
  ·unfold ZaW
   cases i with
   | zero=>rfl
   | succ i=>
    have e1:Nat.beq (i+1) 0=false:=rfl
    have e2:Nat.beq c (i+1)=false:=by
     cases hb:Nat.beq c (i+1)with
     | false=>rfl
     | true=>have:=Nat.eq_of_beq_eq_true hb;omega
    rw[e1,e2]
    show some (Addr.add _ ((i+1)*1))=_
    rw[Zbx,Nat.mul_one]
  ·have aM:=(List.getElem?_eq_some_iff.1 hj).1
   simp only[List.length_map,List.length_drop,List.length_take]at aM
   rw[List.getElem?_map,List.getElem?_drop,List.getElem?_take_of_lt (by omega),<-List.getElem?_map]at hj
   rw[Nat.add_assoc];exact hr _ _ hj
theorem Zv8(x:Int):(if(0:Int) > x then 0 else x)=((x.toNat:Nat):Int):=by split <;> omega
def Zod(l:List Nat):Value:=.string (mkS l)
def Zvj(t:T)(s:List Nat):RT:=λv m' _=>∃a c,v=.tuple #[.slice a (Zqp t s).1.length c,.int .i64 (Zqp t s).2]/\rowRd m' a ((Zqp t s).1.map Zod)
theorem Zir(t:T)(sa:Option Addr)(s:List Nat)(sc:Nat)(m:Mem)(hr:Rep m t)(hb:Zcm t s.length=0->Byt m sa s)(rm:s.length<=sc):CX Try.prog 16 #[t.v,.slice sa s.length sc] m [] (Zvj t s):=by
 unfold T.v
 apply Zgh
 unfold ZdK
 intro b m1 aT cN
 refine⟨_,trivial,Zjx t sa s sc m1 (hr.mono aT) (λh=>(hb h).mono aT),λv m' css ⟨_,_,h,_⟩=>by rw[h];rfl,?_⟩
 rintro a n c e m2 bB ⟨a',c',hv,fN⟩
 simp only[Value.tuple.injEq,Array.mk.injEq,List.cons.injEq,Value.int.injEq,Value.slice.injEq,true_and,and_true]at hv
 obtain⟨⟨rfl,rfl,rfl⟩,rfl⟩:=hv
 have eT:=mLt aT bB
 refine Zab (λhq=>⟨m2,eT,Mem.le_refl _,none,0,?_,?_⟩) (λhq=>?_)
 ·have hq:(ZdX t s).2≠0:=by simpa using hq
  unfold Zqp;rw[if_pos hq];rfl
 ·have hq:(ZdX t s).2≠0:=by simpa using hq
  unfold Zqp;rw[if_pos hq];exact .inl rfl
 have hq:(ZdX t s).2=0:=by simpa using hq
 have hX:Zqp t s=(s::(ZdX t s).1.map (Zna s),0):=by unfold Zqp;rw[if_neg (by simp[hq])]
 obtain⟨P,vg⟩:∃P,P=(ZdX t s).1:=⟨_,rfl⟩
 have qQ:∀p∈P,Zdv s.length p:=vg ▸ ZqT
 have yx:P.length<=1000:=by
  rw[vg];unfold ZdX
  split
  ·simp
  ·rename_i hw
   split
   ·simp only;rw[Zjc]
    have hc:=(ZoW (Classical.not_not.1 hw)).1
    have:=(Zhq hc).2
    have:t.ngr<=t.nodes.length:=by rw[Zfn];exact List.countP_le_length
    omega
   ·simp
 rw[<-vg]at fN hX ⊢
 have yy:Zcm t s.length=0:=by
  unfold ZdX at hq
  by_cases hw:Zcm t s.length=0
  ·exact hw
  ·rw[if_pos hw]at hq;exact hq
 have dV:=(hb yy).mono eT
 refine⟨mkS s,ZeN s,Zf7 dV,λb1 mX=>⟨λxs css tvs m' q=>∃(j:Nat)(a4:Option Addr)(c4:Nat)(a5:Option Addr)(n5 c5:Nat),j<=P.length/\xs=[.slice a4 (j+1) c4,.int .i64 (j:Nat)]/\tvs=[.slice a5 n5 c5]/\((a5=a4/\n5=j+1/\c5=c4)\/c4 < j+2)/\rowRd m' a4 ((s::(P.take j).map (Zna s)).map Zod)/\q=P.length - j,⟨_,0,_,1,none,0,0,by omega,rfl,rfl,.inr (by omega),.inr ⟨b1,0,rfl,λj v hj=>by rw[Nat.zero_add,Mem.add_same];exact hj⟩,rfl⟩,?_⟩⟩
 rintro a4' n4' c4' y a5' n5' c5' m3 q cE ⟨j,a4,c4,a5,n5,c5,hj,cI,fW,cS,aL,rfl⟩
 simp only[List.cons.injEq,Value.int.injEq,Value.slice.injEq,true_and,and_true]at cI fW
 obtain⟨⟨rfl,rfl,rfl⟩,rfl⟩:=cI
 obtain⟨rfl,rfl,rfl⟩:=fW
 have rl:m2.le m3:=mLt (Mem.le_add mX _) cE
 have jA:=dV.mono rl
 have jK:=fN.mono rl
 refine Zab (λaM=>?_) (λcQ=>?_)
 ·have aQ:j < P.length:=by have:=of_decide_eq_true aM;omega
  obtain⟨p,hp⟩:∃p,P[j]?=some p:=⟨_,List.getElem?_eq_getElem aQ⟩
  have nZ:=qQ p (List.mem_of_getElem? hp)
  rcases jK with⟨h,_⟩|⟨pb,h1,h2,_⟩
  ·rw[h]at aQ;simp at aQ
  obtain⟨h3,h4⟩:=h2 j p hp
  have lT:p.2.toNat<=s.length:=by rcases nZ with h|h;rw[h];exact Nat.zero_le _;omega
  have yz:p.1.toNat<=p.2.toNat:=by rcases nZ with h|h;rw[h];exact Nat.le_refl _;omega
  refine⟨pb,0,h1,⟨by omega,by omega⟩,.int .i64 p.1,.int .i64 p.2,?_,λb3=>Zaa rfl (Zaa rfl (Zaa rfl ?_))⟩
  ·intro i v hi
   have aM:i < 2:=(List.getElem?_eq_some_iff.1 hi).1
   rw[Nat.zero_add,Int.toNat_natCast]
   have:i=0\/i=1:=by omega
   rcases this with rfl|rfl <;> (cases hi;assumption)
  ·have e1:(if(0:Int) > RowKit.intOf (.int .i64 p.1)then 0 else RowKit.intOf (.int .i64 p.1))=((p.1.toNat:Nat):Int):=Zv8 p.1
   have e2:(if(0:Int) > RowKit.intOf (.int .i64 p.2)then 0 else RowKit.intOf (.int .i64 p.2))=((p.2.toNat:Nat):Int):=Zv8 p.2
   rw[e1,e2]
   refine⟨⟨by omega,by omega⟩,⟨by omega,by rw[Int.toNat_natCast];omega⟩,mkS (Zna s p),?_,by rw[Int.toNat_natCast];exact Zf7 (Zq5 jA _ _ sc rm lT yz),λb4 yA=>⟨?_,(s::(P.take j).map (Zna s)).map Zod,[Zod (Zna s p)],?_,rfl,aL.mono (Mem.le_add yA _),.inr ⟨b4,0,rfl,λj v hj=>by rw[Nat.zero_add,Mem.add_same];exact hj⟩,?_,by omega,by omega,λa6 c6 m6 qL sT=>⟨rfl,_,?_,j+1,a6,c6,a6,j+1+1,c6,by omega,by rw[wr1 (show j<=1000000000000000 by omega)],rfl,.inl ⟨rfl,rfl,rfl⟩,?_,rfl⟩⟩⟩
   ·rw[ZeN,Int.toNat_natCast,Int.toNat_natCast];unfold Zna;rw[List.length_drop,List.length_take];omega
   ·rcases cS with⟨rfl,rfl,rfl⟩|h
    ·exact .inl rfl
    ·exact .inr (.inr (by omega))
   ·simp;omega
   ·intro u hu
    obtain rfl:u=Zod (Zna s p):=by simpa using hu
    rfl
   ·omega
   ·have e:(s::(P.take (j+1)).map (Zna s)).map Zod=(s::(P.take j).map (Zna s)).map Zod++[Zod (Zna s p)]:=by
     rw[Zcb hp];simp
    rw[e];exact sT
 ·have:j=P.length:=by have:=of_decide_eq_false cQ;omega
  subst this
  rw[List.take_length]at aL
  refine⟨m3,mLt eT rl,Mem.le_refl _,a4',c4',?_,?_⟩ <;> rw[hX]
  ·simp
  ·exact aL
end Go.Proofs.Ytgclajkldphoaaa
set_option linter.unusedVariables false
set_option linter.unusedSimpArgs false
set_option linter.unusedSectionVars false
namespace Go.Proofs.Ytgclajkldphoaaa
open Go Go.Eng Go.Rx Go.Proofs Go.RowKit
set_option maxRecDepth 100000
def IsE(E:T):Value->Mem->List (List Value)->Prop:=Zi3 λt=>t.er=E
theorem Zau{E:T}:∀(v:Value)(m':Mem) (css:List (List Value)),IsE E v m' css->Shape.fits (.agg [.int .u8,.int .u64,.int .u64,.int .u64,.int .u64,.int .i64,.int .i64,.slice]) v=true:=ZcW
theorem Zfa{E:T}{m:Mem}{K:TRK}(k:∀(t:T)(m':Mem),m.le m'->Rep m' t->t.er=E->K t.k t.s0 t.s1 t.s2 t.s3 t.mn t.mx t.a t.subs.length t.c m'):
  ∀(n0 n1 n2 n3 n4 n5 n6:Int)(a:Option Addr)(n c:Nat)(m':Mem),m.le m'->IsE E (.agg #[.int .u8 n0,.int .u64 n1,.int .u64 n2,.int .u64 n3,.int .u64 n4,.int .i64 n5,.int .i64 n6,.slice a n c]) m' []->K n0 n1 n2 n3 n4 n5 n6 a n c m':=
 Zi4 λt m' hm hr h=>k t m' hm hr h
theorem Zf8(c:Nat)(hc:c < 256)(m:Mem):CX Try.prog 11 #[.int .u8 c] m [] (IsE (Zdj c)):=by
 apply ZgY
 unfold Zep
 intro b b1
 have hq:IntKind.u8.wrap (Int.tdiv (c:Int) 64)=((c / 64:Nat):Int):=by rw[ZuO];exact ZuP (by omega) (by omega)
 have hr:IntKind.u64.wrap (1*2 ^ min (Int.toNat (Int.tmod (c:Int) 64)) 64)=((2 ^ (c % 64):Nat):Int):=by
  rw[Ztk,Int.toNat_natCast,Nat.min_eq_left (by omega),Int.one_mul]
  have:=ZsS (2 ^ (c % 64)) (by
   have:2 ^ (c % 64) < 2 ^ 64:=Nat.pow_lt_pow_right (by omega) (by omega)
   exact this)
  rw[<-this];push_cast;rfl
 simp only[hq,hr,Int.toNat_natCast,Nat.zero_add,Nat.mul_one]
 have hL:(Value.agg #[.int .u8 2,.int .u64 (Zka c 0),.int .u64 (Zka c 1),.int .u64 (Zka c 2),.int .u64 (Zka c 3),.int .i64 0,.int .i64 0,.slice none 0 0])=(Zdj c).v:=rfl
 refine⟨by omega,by omega,by rw[Ztk];omega,⟨by omega,by omega⟩,Zaa (by rw[Nat.ble_eq];omega) ?_⟩
 have:c / 64=0\/c / 64=1\/c / 64=2\/c / 64=3:=by omega
 rcases this with e|e|e|e <;>
 ·rw[e]
  refine Zaa rfl (Zaa rfl (Zah (Mem.le_refl _) ⟨Zdj c,?_,ZnV c m,rfl⟩))
  rw[<-hL]
  unfold Zka
  rw[e]
  rfl
theorem Zjy{k mn mx:Int}{a:Option Addr}{c:Nat}{l:List T}{E:List T}(h:l.map T.er=E):(ZaN k mn mx a c l).er=ZaN k mn mx none 0 E:=by
 unfold ZaN;simp only[T.er];rw[Zmt,h]
theorem ZeO(a:Option Addr)(c:Nat)(l E:List T)(m:Mem)(hl:RepL m a l)(hE:l.map T.er=E):CX Try.prog 12 #[.slice a l.length c] m [] (IsE (ZaN 3 0 0 none 0 E)):=by
 apply Zk4
 unfold ZgZ
 intro b
 exact Zah (Mem.le_refl _) ⟨ZaN 3 0 0 a c l,rfl,Zbh hl (by omega) (by omega) (by omega),Zjy hE⟩
theorem Zc2(a:Option Addr)(c:Nat)(l E:List T)(m:Mem)(hl:RepL m a l)(hE:l.map T.er=E):CX Try.prog 24 #[.slice a l.length c] m [] (IsE (ZaN 4 0 0 none 0 E)):=by
 apply Zk6
 unfold Zg1
 intro b
 exact Zah (Mem.le_refl _) ⟨ZaN 4 0 0 a c l,rfl,Zbh hl (by omega) (by omega) (by omega),Zjy hE⟩
theorem Za0(t E:T)(m:Mem)(hr:Rep m t)(hE:t.er=E):CX Try.prog 10 #[t.v] m [] (IsE (ZaN 6 0 0 none 0 [E])):=by
 apply ZhQ
 unfold Ze4
 intro b m1 aT _ b1 b2 hf
 have bN:=Mem.le_add hf t.cs
 refine ZfQ (mLt aT bN) ⟨ZaN 6 0 0 (some ⟨b2,0,none⟩) 1 [t],rfl,Zbh (Zhp ?_ (hr.mono (mLt aT bN))) (by omega) (by omega) (by omega),Zjy (by rw[<-hE];rfl)⟩
 intro j v hj
 rw[Nat.zero_add,Mem.add_same];exact hj
theorem ZeP(t E:T)(mn mx:Int)(h1 : -9223372036854775808<=mn/\mn<=9223372036854775807)(h2 : -9223372036854775808<=mx/\mx<=9223372036854775807)(m:Mem)(hr:Rep m t)(hE:t.er=E):CX Try.prog 13 #[t.v,.int .i64 mn,.int .i64 mx] m [] (IsE (ZaN 5 mn mx none 0 [E])):=by
 apply Zk5
 unfold Zg0
 intro b m1 aT _ b1 b2 hf
 have bN:=Mem.le_add hf t.cs
 refine ZfQ (mLt aT bN) ⟨ZaN 5 mn mx (some ⟨b2,0,none⟩) 1 [t],rfl,Zbh (Zhp ?_ (hr.mono (mLt aT bN))) (by omega) h1 h2,Zjy (by rw[<-hE];rfl)⟩
 intro j v hj
 rw[Nat.zero_add,Mem.add_same];exact hj
def plV(P:PL):List Value:=P.flatMap λp=>[.int .i64 p.1,.int .i64 p.2]
theorem Zpa(a b a' b':Int):EqIs Try.prog 56 (.agg #[.int .i64 a,.int .i64 b]) (.agg #[.int .i64 a',.int .i64 b']) (a == a'&&b == b'):=by
 refine⟨λw=>?_,λop ox oy w=>ZeI (by kernel_rfl) op ox oy _ _ w⟩
 have u3:=Try.underlying3
 have a3:=Try.isAgg3
 have z3:=Try.sizeOf3
 rw[Op.equal,Op.maxDepth,show(10000:Nat)=9999+1 from rfl]
 rw[run_equalIn_agg _ _ _ _ _ (by kernel_rfl) (by kernel_rfl)]
 have hf:(Try.prog.fieldsOf 56).toList=[⟨ "From",3,0,false, "", "",0⟩,⟨ "To",3,1,false, "", "",8⟩]:=by kernel_rfl
 rw[hf]
 go_simp
 by_cases h1:a=a' <;> by_cases h2:b=b' <;> simp[h1,h2]
theorem Zup:∀(P:PL)(q:Nat)(p:Int×Int),P[q]?=some p->(plV P)[q*2]?=some (.int .i64 p.1)/\(plV P)[q*2+1]?=some (.int .i64 p.2):=λP=>by
 induction P with
 | nil=>intro q p hq;simp at hq
 | cons p0 P ih=>
  intro q p hq
  cases q with
  | zero=>simp at hq;subst hq;exact⟨rfl,rfl⟩
  | succ q=>
   have:=ih q p (by simpa using hq)
   rw[show(q+1)*2=q*2+2 by omega]
   exact this
theorem Zd0(P Q:PL)(a b:Option Addr)(c d:Nat)(m:Mem)(hp:rowRd m a (plV P))(hq:rowRd m b (plV Q))(hl:P.length<=1000000):CX Try.prog 22 #[.slice a P.length c,.slice b Q.length d] m [] (Ret (.bool (P == Q))):=by
 apply Zbk
 unfold ZaM
 refine Zab (λcK=>Zah (Mem.le_refl _) ?_) (λheq=>?_)
 ·have:P≠Q:=λe=>by subst e;simp at cK
  unfold Ret;rw[beq_eq_false_iff_ne.2 this]
 have aW:P.length=Q.length:=by
  have:(P.length:Int)=(Q.length:Int):=by simpa using heq
  omega
 refine⟨λxs css tvs m' q=>∃j:Nat,j<=P.length/\xs=[.int .i64 (j:Nat)]/\P.take j=Q.take j/\q=P.length - j,⟨_,0,by omega,rfl,rfl,rfl⟩,?_⟩
 rintro y m1 q aT ⟨j,hj,cI,iL,rfl⟩
 obtain rfl:y=j:=by simpa using cI
 have two:∀(P:PL)(a:Option Addr)(p:Int×Int),rowRd m a (plV P)->P[j]?=some p->∃b o,a=some ⟨b,o,none⟩/\m1.reads b (o+j*2) [.int .i64 p.1,.int .i64 p.2]:=λP a p h hj=>by
  obtain⟨g1,g2⟩:=Zup P j p hj
  rcases h with h|⟨b,o,h1,h2⟩
  ·rw[h]at g1;simp at g1
  ·refine⟨b,o,h1,λi v hi=>?_⟩
   have h3:=h2 _ _ g1
   have h4:=h2 _ _ g2
   have aM:i < 2:=(List.getElem?_eq_some_iff.1 hi).1
   have:i=0\/i=1:=by omega
   rcases this with rfl|rfl
   ·cases hi;exact aT.c _ _ _ h3
   ·cases hi;rw[Nat.add_assoc];exact aT.c _ _ _ h4
 refine Zab (λaM=>?_) (λcQ=>Zah aT ?_)
 ·have aQ:j < P.length:=by have:=of_decide_eq_true aM;omega
  obtain⟨p,re⟩:∃p,P[j]?=some p:=⟨_,List.getElem?_eq_getElem aQ⟩
  obtain⟨r,gC⟩:∃p,Q[j]?=some p:=⟨_,List.getElem?_eq_getElem (by omega)⟩
  obtain⟨b1,o1,e1,r1⟩:=two P a p hp re
  obtain⟨b2,o2,e2,r2⟩:=two Q b r hq gC
  rw[wr1 (by omega)]
  refine⟨b1,o1,e1,⟨by omega,by omega⟩,.int .i64 p.1,.int .i64 p.2,by rw[Int.toNat_natCast];exact r1,b2,o2,e2,⟨by omega,by omega⟩,.int .i64 r.1,.int .i64 r.2,by rw[Int.toNat_natCast];exact r2,_,Zpa _ _ _ _,Zab (λhc=>Zah aT ?_) (λhc=>⟨P.length - (j+1),by omega,j+1,by omega,rfl,?_,rfl⟩)⟩
  ·unfold Ret
   rw[beq_eq_false_iff_ne.2 λe=>?_]
   subst e
   rw[re]at gC;cases gC
   simp at hc
  ·rw[Zcb re,Zcb gC,iL]
   have:p=r:=by
    have h2:p.1=r.1/\p.2=r.2:=by simpa using hc
    exact Prod.ext h2.1 h2.2
   rw[this]
 ·have:j=P.length:=by have:=of_decide_eq_false cQ;omega
  subst this
  rw[List.take_length,aW,List.take_length]at iL
  unfold Ret
  rw[iL];simp
def eN(k mn mx:Int)(l:List T):T:=ZaN k mn mx none 0 l
end Go.Proofs.Ytgclajkldphoaaa
