/- Part of the proof: conditions and contracts of functions of this program. No condition of its own. -/
import Derived.Test.YtgclajkldphoaaaPEnv
import Derived.Test.YtgclajkldphoaaaMc
import Derived.Test.YtgclajkldphoaaaPC14G
import Derived.Test.YtgclajkldphoaaaMr
import Derived.Test.YtgclajkldphoaaaPC13S
set_option linter.unusedVariables false
namespace Go.Proofs.Ytgclajkldphoaaa
open Go Go.Eng Go.Proofs Go.RowKit
open Go.Value (int slice agg bool string tuple func)
open Go.IntKind (u8 u64 i64)
set_option maxRecDepth 100000
noncomputable def ZdJ:Env:={ EB with
 tokOf:=(λi=>bif Nat.beq i 2 then 7 else bif Nat.beq i 7 then 7 else 0)
 tokC:=(λi=>bif Nat.beq i 5 then some (7,1)else none)
 thaw:=true }
def Zb7(p0a:Option Addr)(p0n p0c:Nat)(m:Mem)(R:RT):Prop:=
 br (Option.isNone p0a) (slice none 0 0=slice none 0 0/\R (slice none 0 0) m []) (((0:Int)=(0:Int)/\(0:Int)<=(0:Int)/\(0:Int)*(↑(8:Nat):Int)<=(281474976710656:Int)/\(0:Int) <=
 (9223372036854775807:Int))/\∀(b:Nat),Mem.free m b->(Tok.mk (slice (some (Addr.mk b 0 none)) 0 (Int.toNat (0:Int))) 1=Tok.mk (slice (some (Addr.mk b 0 none)) 0 (Int.toNat (0:Int))) 1\/slice (some (Addr.mk
 b 0 none)) 0 (Int.toNat (0:Int))=slice none 0 0\/Int.toNat (0:Int) < 0+p0n)/\∃(xs:List Value),∃(ys:List Value),List.length xs=0*1/\List.length ys=p0n*1/\rowRd m (some (Addr.mk b 0 none)) xs/\
 rowRd m p0a ys/\(∀(u:Value),u∈ys->Value.oneCell' u=true)/\(0+p0n)*8<=140737488355328/\0+p0n<=9223372036854775807/\∀(a':Option Addr)(c':Nat)(m':Mem),Mem.le m m'->rowRd m' a' (List.append
 xs ys)->TokFact m (some (Addr.mk b 0 none)) a' (0+p0n) c'->some (Tok.mk (slice a' (0+p0n) c') 1)=some (Tok.mk (slice a' (0+p0n) c') 1)/\R (slice a' (0+p0n) c') m' [])
theorem Zdl(p0a:Option Addr)(p0n p0c:Nat)(m:Mem)(R:RT)(h:Zb7 p0a p0n p0c m R):CXT Try.prog 43 #[.slice p0a p0n p0c] m 1 R:=
 ZlF (E:=ZdJ) ZaA mix Try.func43 [.v (.slice p0a p0n p0c)] (by kernel_rfl) (Eq.mp (by kernel_rfl) h)
noncomputable def Zbw:Env:={ EB with
 loops:=(λi=>bif Nat.beq i 4 then⟨[(13,.int .i64)],[],[],false⟩ else⟨[],[],[],false⟩)
 dr:=(λi=>bif Nat.beq i 6 then[⟨0,[],[],none,[],[]⟩,⟨1,[],[],none,[],[]⟩,⟨2,[],[],none,[0,1],[]⟩,⟨3,[],[],none,[0,1,2],[]⟩,⟨4,[],[],none,[],[]⟩,⟨5,[],[],none,[],[]⟩,⟨6,[],[],none,[4,5],[]⟩,⟨7,[],[],none,[4,5,6],[]⟩,⟨8,[],[],none,[0,1,2,3,4,5,6,7],[]⟩]else[]) }
def ZaY(p0a:Option Addr)(p0n p0c:Nat)(p1a:Option Addr)(p1n p1c:Nat)(m:Mem)(R:RT):Prop:=
 br (!(↑p0n:Int) == (↑p1n:Int)) (∃(m'':Mem),Mem.le m m''/\Mem.le m'' m/\R (bool false) m'' []) (∃(I:IT),(∃(n:Nat),I [int i64 0] [] [] m n)/\∀(n:Int)(m':Mem)(n_1:Nat),Mem.le m m'->I [int i64
 n] [] [] m' n_1->br (decide (n < (↑p0n:Int))) (∃(b:Nat),∃(o:Nat),p0a=some (Addr.mk b o none)/\Zag n p0n/\∃(v:Value),∃(v_1:Value),Mem.reads m' b (o+Int.toNat n*2) [v,v_1]/\∃(b:Nat),∃
 (o:Nat),p1a=some (Addr.mk b o none)/\Zag n p1n/\∃(v_2:Value),∃(v_3:Value),Mem.reads m' b (o+Int.toNat n*2) [v_2,v_3]/\∃(b:Bool),EqIs Try.prog 56 (agg (Array.mk [v,v_1])) (agg (Array.mk
 [v_2,v_3])) b/\br (!b) (∃(m'':Mem),Mem.le m m''/\Mem.le m'' m'/\R (bool false) m'' []) (∃(n':Nat),n' < n_1/\I [int i64 (IntKind.wrap i64 (n+(1:Int)))] [] [] m' n')) (∃(m'':Mem),Mem.le m m''/\Mem.le
 m'' m'/\R (bool true) m'' []))
theorem Zbu(p0a:Option Addr)(p0n p0c:Nat)(p1a:Option Addr)(p1n p1c:Nat)(m:Mem)(R:RT)(h:ZaY p0a p0n p0c p1a p1n p1c m R):CX Try.prog 22 #[.slice p0a p0n p0c,.slice p1a p1n p1c] m [] R:=
 Zaj (E:=Zbw) ZaA mix Try.func22 [.v (.slice p0a p0n p0c),.v (.slice p1a p1n p1c)] [] (by kernel_rfl) (Eq.mp (by kernel_rfl) h)
noncomputable def Zja:Env:=EB
def Zfw(p0:Int)(m:Mem)(R:RT):Prop:=
 ∀(b b:Nat),(64:Int)≠(0:Int)/\(64:Int)≠(0:Int)/\(0:Int)<=Int.tmod p0 (64:Int)/\Zag (IntKind.wrap u8 (Int.tdiv p0 (64:Int))) 4/\chk (Nat.ble (0+Int.toNat (IntKind.wrap u8 (Int.tdiv p0 (64
 : Int)))*1) (nat_lit 3)) (chk (Nat.beq (List.length (ZaI [int u64 0,int u64 0,int u64 0,int u64 0] (0+Int.toNat (IntKind.wrap u8 (Int.tdiv p0 (64:Int)))*1) [int u64 (IntKind.wrap u64 ((1:Int)*(2:Int)
 ^ min (Int.toNat (Int.tmod p0 (64:Int))) 64))])) 4&&true) (chk (Nat.beq (List.length (List.append (ZaI [int u64 0,int u64 0,int u64 0,int u64 0] (0+Int.toNat (IntKind.wrap u8 (Int.tdiv p0 (64:Int)))*1)
 [int u64 (IntKind.wrap u64 ((1:Int)*(2:Int) ^ min (Int.toNat (Int.tmod p0 (64:Int))) 64))]) (List.drop (1+List.length (ZaI [int u64 0,int u64 0,int u64 0,int u64 0] (0+Int.toNat (IntKind.wrap u8
 (Int.tdiv p0 (64:Int)))*1) [int u64 (IntKind.wrap u64 ((1:Int)*(2:Int) ^ min (Int.toNat (Int.tmod p0 (64:Int))) 64))])) [int u8 2,int u64 0,int u64 0,int u64 0,int u64 0,int i64 0,int i64 0,slice none
 0 0]))) (nat_lit 7)&&ZeR (List.append (ZaI [int u64 0,int u64 0,int u64 0,int u64 0] (0+Int.toNat (IntKind.wrap u8 (Int.tdiv p0 (64:Int)))*1) [int u64 (IntKind.wrap u64 ((1:Int)*(2:Int) ^ min
 (Int.toNat (Int.tmod p0 (64:Int))) 64))]) (List.drop (1+List.length (ZaI [int u64 0,int u64 0,int u64 0,int u64 0] (0+Int.toNat (IntKind.wrap u8 (Int.tdiv p0 (64:Int)))*1) [int u64 (IntKind.wrap u64 ((1
 : Int)*(2:Int) ^ min (Int.toNat (Int.tmod p0 (64:Int))) 64))])) [int u8 2,int u64 0,int u64 0,int u64 0,int u64 0,int i64 0,int i64 0,slice none 0 0]))) (∃(m'':Mem),Mem.le m m''/\Mem.le m'' m/\R (agg
 (Array.mk (ZaI [int u8 2,int u64 0,int u64 0,int u64 0,int u64 0,int i64 0,int i64 0,slice none 0 0] 1 (ZaI [int u64 0,int u64 0,int u64 0,int u64 0] (0+Int.toNat (IntKind.wrap u8 (Int.tdiv p0 (64:
 Int)))*1) [int u64 (IntKind.wrap u64 ((1:Int)*(2:Int) ^ min (Int.toNat (Int.tmod p0 (64:Int))) 64))])))) m'' [])))
theorem Zij(p0:Int)(m:Mem)(R:RT)(h:Zfw p0 m R):CX Try.prog 11 #[.int .u8 p0] m [] R:=
 Zaj (E:=Zja) ZaA mix Try.func11 [.v (.int .u8 p0)] [] (by kernel_rfl) (Eq.mp (by kernel_rfl) h)
noncomputable def Zk0:Env:={ EB with
 frzNew:=[1] }
def Zgd(aG aD aI aJ aK aE aH:Int)(aB:Option Addr)(aA aC:Nat)(m:Mem)(R:RT):Prop:=
 ∀(b:Nat)(m':Mem),Mem.le m m'->Mem.reads m' b 0 [int u8 aG,int u64 aD,int u64 aI,int u64 aJ,int u64 aK,int i64 aE,int i64 aH,slice aB aA aC]->∀(b b:Nat),Mem.free m' b->∃(m'':
 Mem),Mem.le m m''/\Mem.le m'' (Mem.add m' b [int u8 aG,int u64 aD,int u64 aI,int u64 aJ,int u64 aK,int i64 aE,int i64 aH,slice aB aA aC])/\R (agg (Array.mk [int u8 6,int u64 0,int u64
 0,int u64 0,int u64 0,int i64 0,int i64 0,slice (some (Addr.mk b 0 none)) 1 1])) m'' []
theorem Zjb(aG aD aI aJ aK aE aH:Int)(aB:Option Addr)(aA aC:Nat)(m:Mem)(R:RT)(h:Zgd aG aD aI aJ aK aE aH aB aA aC m R):CX Try.prog 10 #[.agg #[.int .u8 aG,.int .u64 aD,.int .u64 aI,.int .u64 aJ,.int .u64 aK,.int .i64 aE,.int .i64 aH,.slice aB aA aC]] m [] R:=
 Zaj (E:=Zk0) ZaA mix Try.func10 [.v (.agg #[.int .u8 aG,.int .u64 aD,.int .u64 aI,.int .u64 aJ,.int .u64 aK,.int .i64 aE,.int .i64 aH,.slice aB aA aC])] [] (by kernel_rfl) (Eq.mp (by kernel_rfl) h)
noncomputable def Zo8:Env:=EB
def Zik(p0a:Option Addr)(p0n p0c:Nat)(m:Mem)(R:RT):Prop:=
 ∀(b:Nat),∃(m'':Mem),Mem.le m m''/\Mem.le m'' m/\R (agg (Array.mk [int u8 3,int u64 0,int u64 0,int u64 0,int u64 0,int i64 0,int i64 0,slice p0a p0n p0c])) m'' []
theorem ZmK(p0a:Option Addr)(p0n p0c:Nat)(m:Mem)(R:RT)(h:Zik p0a p0n p0c m R):CX Try.prog 12 #[.slice p0a p0n p0c] m [] R:=
 Zaj (E:=Zo8) ZaA mix Try.func12 [.v (.slice p0a p0n p0c)] [] (by kernel_rfl) (Eq.mp (by kernel_rfl) h)
noncomputable def Zo9:Env:={ EB with
 frzNew:=[3] }
def Zil(aG aD aI aJ aK aE aH:Int)(aB:Option Addr)(aA aC:Nat)(p1 p2:Int)(m:Mem)(R:RT):Prop:=
 ∀(b:Nat)(m':Mem),Mem.le m m'->Mem.reads m' b 0 [int u8 aG,int u64 aD,int u64 aI,int u64 aJ,int u64 aK,int i64 aE,int i64 aH,slice aB aA aC]->∀(b b:Nat),Mem.free m' b->∃(m'':
 Mem),Mem.le m m''/\Mem.le m'' (Mem.add m' b [int u8 aG,int u64 aD,int u64 aI,int u64 aJ,int u64 aK,int i64 aE,int i64 aH,slice aB aA aC])/\R (agg (Array.mk [int u8 5,int u64 0,int u64
 0,int u64 0,int u64 0,int i64 p1,int i64 p2,slice (some (Addr.mk b 0 none)) 1 1])) m'' []
theorem ZmL(aG aD aI aJ aK aE aH:Int)(aB:Option Addr)(aA aC:Nat)(p1 p2:Int)(m:Mem)(R:RT)(h:Zil aG aD aI aJ aK aE aH aB aA aC p1 p2 m R):CX Try.prog 13 #[.agg #[.int .u8 aG,.int .u64 aD,.int .u64 aI,.int .u64 aJ,.int .u64 aK,.int .i64 aE,.int .i64 aH,.slice aB aA aC],.int .i64 p1,.int .i64 p2] m [] R:=
 Zaj (E:=Zo9) ZaA mix Try.func13 [.v (.agg #[.int .u8 aG,.int .u64 aD,.int .u64 aI,.int .u64 aJ,.int .u64 aK,.int .i64 aE,.int .i64 aH,.slice aB aA aC]),.v (.int .i64 p1),.v (.int .i64 p2)] [] (by kernel_rfl) (Eq.mp (by kernel_rfl) h)
noncomputable def Zpa:Env:=EB
def Zim(p0a:Option Addr)(p0n p0c:Nat)(m:Mem)(R:RT):Prop:=
 ∀(b:Nat),∃(m'':Mem),Mem.le m m''/\Mem.le m'' m/\R (agg (Array.mk [int u8 4,int u64 0,int u64 0,int u64 0,int u64 0,int i64 0,int i64 0,slice p0a p0n p0c])) m'' []
theorem ZmM(p0a:Option Addr)(p0n p0c:Nat)(m:Mem)(R:RT)(h:Zim p0a p0n p0c m R):CX Try.prog 24 #[.slice p0a p0n p0c] m [] R:=
 Zaj (E:=Zpa) ZaA mix Try.func24 [.v (.slice p0a p0n p0c)] [] (by kernel_rfl) (Eq.mp (by kernel_rfl) h)
end Go.Proofs.Ytgclajkldphoaaa
set_option linter.unusedVariables false
set_option linter.unusedSimpArgs false
namespace Go.Proofs.Ytgclajkldphoaaa
open Go Go.Eng Go.Rx Go.Proofs Go.RowKit
set_option maxRecDepth 100000
theorem Zyv{m M:Mem}{kb:Nat}{pa:Option Addr}(hm:m.le M)(h1:m.free kb/\m.k kb=none)(h2:∀b,pa=some ⟨b,0,none⟩->m.free b/\m.k b=none):m.le (M.off (Zp kb pa)):=by
 have key:∀b,Zp kb pa b->m.free b/\m.k b=none:=λb hb=>by
  rcases hb with rfl|hb
  ·exact h1
  ·exact h2 b hb
 refine⟨λb o v hv=>?_,λb e he=>?_⟩
 ·rw[Mem.off_at (λhb=>by have:=(key b hb).1 o;rw[hv]at this;cases this)]
  exact hm.c _ _ _ hv
 ·rw[Mem.off_k (λhb=>by have:=(key b hb).2;rw[he]at this;cases this)]
  exact hm.k _ _ he
theorem Zxy{m M:Mem}{b:Nat}(hm:m.le M)(h:M.k b=none):m.k b=none:=by
 cases he:m.k b with
 | none=>rfl
 | some e=>rw[hm.k _ _ he]at h;cases h
structure Made14 (m m':Mem)(fb kb:Nat)(n:Nd)(t:T)(sa:Option Addr)(s:List Nat)(sc:Nat)(pa:Option Addr)(pc:Nat):Prop where
 tr:n.t=t
 num:n.num 0
 st:Byt m sa s->St fb kb n sa s sc pa pc t.ngr m' (List.replicate t.ngr noP)
 kf:m.free kb/\m.k kb=none
 pf:∀b,pa=some ⟨b,0,none⟩->m.free b/\m.k b=none
def Zvp(m:Mem)(t:T)(sa:Option Addr)(s:List Nat)(sc:Nat):RT:=λv m' _=>
 (ZcW t s.length≠0/\v=.tuple #[.pointer none,.pointer none,.int .i64 (ZcW t s.length)])\/
 (ZcW t s.length=0/\∃(fb kb:Nat)(n:Nd)(pa:Option Addr)(pc:Nat),v=.tuple #[.pointer (some ⟨fb,0,none⟩),.pointer (some ⟨n.b,0,none⟩),.int .i64 0]/\Made14 m m' fb kb n t sa s sc pa pc)
theorem ZiQ{m:Mem}{t:T}{sa:Option Addr}{s:List Nat}{sc:Nat}:∀(v:Value)(m':Mem) (css:List (List Value)),Zvp m t sa s sc v m' css->Shape.fits (Shape.tup [Shape.any,Shape.any,Shape.int .i64]) v=true:=λv m' css h=>by
 rcases h with⟨_,h⟩|⟨_,fb,kb,n,pa,pc,h,_⟩ <;> (rw[h];rfl)
theorem ZrF(t:T)(sa:Option Addr)(s:List Nat)(sc:Nat)(m:Mem)(hr:Rep m t):CX Try.prog 42 #[t.v,.slice sa s.length sc] m [] (Zvp m t sa s sc):=by
 unfold T.v
 apply ZmE
 unfold Zib
 intro b m1 bH cS kP _ hC
 refine⟨_,trivial,Zng false false t m1 (hr.mono bH),λv m' css h=>by unfold Ret at h;rw[h];rfl,?_⟩
 rintro e m2 bO he
 obtain rfl:e=t.check:=by simpa[Ret]using he
 have fP:=mLt bH bO
 refine Zab (λhq=>⟨m2,fP,Mem.le_refl _,.inl ?_⟩) (λhq=>Zab (λjW=>⟨m2,fP,Mem.le_refl _,.inl ?_⟩) (λjW=>?_))
 ·have:t.check≠0:=by simpa using hq
  have:ZcW t s.length=140:=by unfold ZcW;rw[if_pos this]
  rw[this];exact⟨by decide,rfl⟩
 ·have h1:t.check=0:=by simpa using hq
  have h2:512 < s.length:=by have:=of_decide_eq_true jW;omega
  have:ZcW t s.length=3:=by unfold ZcW;rw[if_neg (by simp[h1]),if_pos h2]
  rw[this];exact⟨by decide,rfl⟩
 have hc:t.check=0:=by simpa using hq
 have hl:s.length<=512:=by have:=of_decide_eq_false jW;omega
 have hw:ZcW t s.length=0:=by unfold ZcW;rw[if_neg (by simp[hc]),if_neg (by omega)]
 obtain⟨gY,mX⟩:=Zdj hc
 intro kb zO dP fb
 have ui:=Mem.le_updK (Mem.le_refl m2) dP []
 have oR:t.ngr<=t.nodes.length:=by rw[Zgy];exact List.countP_le_length
 have my:m.free kb/\m.k kb=none:=⟨Zo0 fP zO,Zxy fP dP⟩
 have tq:Rep ((m2.updK kb []).off (Zp kb none)) t:=hr.mono (Zyv (mLt fP ui) my (λb hb=>by cases hb))
 have oQ:=Zqu fb kb [] _ t (Nat.lt_succ_self _) 0 none 0 [] (.slice sa s.length sc) (.map (some kb)) (m2.updK kb []) tq (Mem.updK_same _ _ _) (λb hb=>by cases hb) (.inl ⟨rfl,rfl⟩) (by omega) (by simp;omega)
 refine⟨_,_,oQ,?_,?_,?_,?_⟩
 ·intro tk dK b' hb'
  obtain rfl:tk=_:=by simpa using dK
  cases hb'
 ·intro b' hb'
  cases hb'
 ·rintro v m' css tvs ⟨n,_,_,h,_⟩;rw[h];rfl
 rintro nb no m3 bX _ cs a d c ⟨n,pa,pc,hv,oA,qA,ug,r8,cP,gQ,gM,bZ,eC⟩ xO xP
 obtain⟨rfl,rfl⟩:nb=n.b/\no=0:=by simpa using hv
 have cP:=List.singleton_inj.1 cP
 subst cP
 clear gQ hv
 have rL:(m2.updK kb []).le m3:=by
  refine mLt ⟨λb o v hv=>?_,λb e he=>?_⟩ bX
  ·rw[Mem.off_at (λh=>by cases h)];exact hv
  ·rw[Mem.off_k (λh=>by cases h)];exact he
 have nR:=mLt fP (mLt ui rL)
 have oV:=Mem.le_add xO [.slice sa s.length sc,.int .i64 ((0+t.nodes.length:Nat):Int),.slice pa (([]:PL).length+t.ngr) pc,.map (some kb)]
 have rj:∀b,pa=some ⟨b,0,none⟩->(m2.updK kb []).free b/\(m2.updK kb []).k b=none:=λb hb=>by
  rcases bZ b hb with h|h
  ·rw[hb]at h;cases h
  ·exact h
 have xQ:∀b,pa=some ⟨b,0,none⟩->m.free b/\m.k b=none:=λb hb=>⟨Zo0 (mLt fP ui) (rj b hb).1,Zxy (mLt fP ui) (rj b hb).2⟩
 have iR:¬Zp kb pa fb:=λhz=>by
  rcases hz with rfl|hz
  ·rw[eC]at xP;cases xP
  ·rcases gM with⟨_,h⟩|⟨b2,h,xR,cN⟩
   ·rw[h]at hz;cases hz
   ·rw[h]at hz;cases hz
    generalize (([]:PL)++List.replicate t.ngr noP)=PP at xR cN
    cases PP with
    | nil=>exact cN rfl
    | cons p l=>
     have:=(xR 0 p rfl).1
     rw[xO _]at this;cases this
 have tj:=ZfP oV (Z:=Zp kb pa)
 rw[List.nil_append]at gM
 have tu:=gM.mono oV
 refine⟨_,mLt nR oV,Mem.le_refl _,.inr ⟨hw,fb,kb,n,pa,pc,rfl,oA,ug,λhb=>⟨⟨⟨?_,?_,?_,hl,NRep.mono tj _ qA,Ztv n 0 (Zwm qA) r8,λx hx=>?_⟩,⟨[],oV.k _ _ eC,λe he=>by cases he⟩,Zu0 tu⟩,tu,by simp,?_,λb hb e=>?_⟩,my,xQ⟩⟩
 ·rw[Mem.off_at iR,Mem.add_same];rfl
 ·rw[Mem.off_at iR,Mem.add_same];rfl
 ·exact hb.mono (Zyv (mLt nR oV) my xQ)
 ·have:=Zor n (Zwm qA) x hx
  rw[oA]at this
  unfold T.good at gY
  exact List.all_eq_true.1 gY _ this
 ·rw[Mem.off_at iR,Mem.add_same]
  simp
 ·subst e
  have:=(rj b hb).2
  rw[Mem.updK_same]at this;cases this
end Go.Proofs.Ytgclajkldphoaaa
set_option linter.unusedVariables false
set_option linter.unusedSimpArgs false
namespace Go.Proofs.Ytgclajkldphoaaa
open Go Go.Eng Go.Rx Go.Proofs Go.RowKit
set_option maxRecDepth 100000
theorem Zvq{P:Program}{g:FuncId}{args:Array Value}{m m0:Mem}{Y:Nat->Prop}{R0:RTY}{sh:Shape}{E:Nat->Prop}{Kf:(Nat->Prop)->RTY->Prop}(h:CXY P g args m Y [] [] R0)(hY:∀b,Y b->(m0.free b/\m0.k b=none)/\((∃(o:Nat),∃(v:Value),m b o=some v)\/∃(e:List (Value×Value)),Mem.k m b=some e)/\E b)(hf:∀(v:Value)(m':Mem) (css:List (List Value)) (tvs:List Value),R0 v m' css tvs->Shape.fits sh v=true)(k:Kf Y R0):
  ∃(Y:Nat->Prop),∃(R:Value->Mem->List (List Value)->List Value->Prop),CXY P g args m Y [] [] R/\(∀(t:Tok),t∈[]->∀(b:Nat),t.blk=some b->Y b)/\
   (∀(b:Nat),Y b->(∃(t:Tok),t∈[]/\t.blk=some b)\/(Mem.free m0 b/\Mem.k m0 b=none)/\((∃(o:Nat),∃(v:Value),m b o=some v)\/∃(e:List (Value×Value)),Mem.k m b=some e)/\E b)/\
   (∀(v:Value)(m':Mem) (css:List (List Value)) (tvs:List Value),R v m' css tvs->Shape.fits sh v=true)/\Kf Y R:=
 ⟨Y,R0,h,by simp,λb hb=>.inr (hY b hb),hf,k⟩
theorem Zpb{m:Mem}{vs:List Value}(h:rowRd m none vs):vs=[]:=by
 rcases h with h|⟨b,o,h,_⟩
 ·exact h
 ·cases h
theorem Zqv(l:List Nat)(a:Option Addr)(c:Nat)(m:Mem)(h:rowRd m a (nsL l))(hl:l.length<=1000000):CX Try.prog 43 #[.slice a l.length c] m [] (λv m' _=>∃a c,v=.slice a l.length c/\rowRd m' a (nsL l)):=by
 have key:CXT Try.prog 43 #[.slice a l.length c] m 1 (λv m' _=>∃a c,v=.slice a l.length c/\rowRd m' a (nsL l)):=by
  apply Zdl
  unfold Zb7
  refine Zab (λhn=>?_) (λhn=>⟨⟨rfl,Int.le_refl _,by decide,by decide⟩,λb hb=>⟨.inl rfl,[],nsL l,rfl,by simp[nsL],.inl rfl,h,λu hu=>ZwU u hu,by omega,by omega,λa' c' m' hm' hr xp=>⟨rfl,a',c',by rw[Nat.zero_add],hr⟩⟩⟩)
  have:a=none:=by simpa using hn
  subst this
  have:=Zpb h
  obtain rfl:l=[]:=by simpa[nsL]using this
  exact⟨rfl,none,0,rfl,.inl rfl⟩
 exact key.toCX
theorem Made14.here{m m':Mem}{fb kb:Nat}{n:Nd}{t:T}{sa:Option Addr}{s:List Nat}{sc:Nat}{pa:Option Addr}{pc:Nat}(h:Made14 m m' fb kb n t sa s sc pa pc)(gH:Byt m sa s):∀b,Zp kb pa b->(m.free b/\m.k b=none)/\((∃(o:Nat),∃(v:Value),m' b o=some v)\/∃(e:List (Value×Value)),Mem.k m' b=some e):=λb hb=>
 ⟨by rcases hb with rfl|hb;exact h.kf;exact h.pf b hb,((h.st gH).zin b hb).2.1⟩
theorem Zfx{m m1 m2:Mem}{fb kb:Nat}{n:Nd}{t:T}{sa:Option Addr}{s:List Nat}{sc:Nat}{pa:Option Addr}{pc:Nat}{b:Nat}{v:Value}(h:Made14 m1 m2 fb kb n t sa s sc pa pc)(gH:Byt m1 sa s)(hm:m.le m1)(hb:m1 b 0=some v):∀x,Zp kb pa x->(m.free x/\m.k x=none)/\((∃(o:Nat),∃(v:Value),m2 x o=some v)\/∃(e:List (Value×Value)),Mem.k m2 x=some e)/\(b≠x/\True):=λx hx=>by
 obtain⟨⟨h1,h2⟩,h3⟩:=h.here gH x hx
 refine⟨⟨Zo0 hm h1,Zxy hm h2⟩,h3,λe=>?_,trivial⟩
 subst e
 rw[h1 0]at hb;cases hb
theorem Zl0{m m' M:Mem}{Y:Nat->Prop}(hm:m.le m')(hn:∀b,Y b->m.free b/\m.k b=none)(hM:(m'.off Y).le M):m.le M:=⟨λb o v hv=>by
 refine hM.c _ _ _ ?_
 rw[Mem.off_at (λhb=>by have:=(hn b hb).1 o;rw[hv]at this;cases this)]
 exact hm.c _ _ _ hv,λb e he=>by
 refine hM.k _ _ ?_
 rw[Mem.off_k (λhb=>by have:=(hn b hb).2;rw[he]at this;cases this)]
 exact hm.k _ _ he⟩
def ZzC(t:T)(s:List Nat)(i:Int):RT:=λv m' _=>∃a c,v=.tuple #[.slice a (Zvn t s i).1.length c,.int .i64 (Zvn t s i).2]/\rowRd m' a (nsL (Zvn t s i).1)
theorem Zu2(t:T)(sa:Option Addr)(s:List Nat)(sc:Nat)(i:Int)(m:Mem)(hr:Rep m t)(hb:ZcW t s.length=0->0<=i/\i<=s.length->Byt m sa s):CX Try.prog 14 #[t.v,.slice sa s.length sc,.int .i64 i] m [] (ZzC t s i):=by
 unfold T.v
 apply ZkR
 unfold Zhh
 intro b m1 bH cS kP _
 refine⟨_,trivial,ZrF t sa s sc m1 (hr.mono bH),ZiQ,?_⟩
 rintro v v1 e m2 bO hR
 have fP:=mLt bH bO
 unfold Zvp at hR
 rcases hR with⟨hw,hv⟩|⟨hw,fb,kb,n,pa,pc,hv,hM⟩
 ·simp only[Value.tuple.injEq,Array.mk.injEq,List.cons.injEq,Value.int.injEq,true_and,and_true]at hv
  obtain⟨rfl,rfl,rfl⟩:=hv
  refine Zje (by simpa using hw) ⟨m2,fP,Mem.le_refl _,none,0,?_,?_⟩ <;> (unfold Zvn;rw[if_pos hw])
  ·rfl
  ·exact .inl rfl
 simp only[Value.tuple.injEq,Array.mk.injEq,List.cons.injEq,Value.int.injEq,true_and,and_true]at hv
 obtain⟨rfl,rfl,rfl⟩:=hv
 refine Zis (by simp) ⟨decide (i < 0)||decide (i > (s.length:Int)),Zab (λh=>⟨rfl,by rw[h];rfl⟩) (λh=>⟨rfl,by rw[h];rfl⟩),Zab (λhq=>⟨m2,fP,Mem.le_refl _,none,0,?_,?_⟩) (λhq=>?_)⟩
 ·have hq:i < 0\/i > (s.length:Int):=by simpa using hq
  unfold Zvn;rw[if_neg (by simp[hw]),if_pos hq];rfl
 ·have hq:i < 0\/i > (s.length:Int):=by simpa using hq
  unfold Zvn;rw[if_neg (by simp[hw]),if_pos hq];exact .inl rfl
 have hq:¬(i < 0\/i > (s.length:Int)):=by simpa using hq
 obtain⟨j,rfl⟩:∃j:Nat,i=j:=⟨i.toNat,by omega⟩
 have hj:j<=s.length:=by omega
 have gH:=(hb hw ⟨by omega,by omega⟩).mono bH
 have cV:=hM.st gH
 have hX:Zvn t s j=(t.e0 s j,0):=by unfold Zvn;rw[if_neg (by simp[hw]),if_neg hq];simp
 have gR:=Zb6 (d:=0) (cV.wk.fin.good n (ZcY n)) cV.wk.fin.len hj
 rw[Za5,hM.tr]at gR
 refine Zvq (ZiP fb kb (Zp kb pa) n sa s sc n (ZcY n) 0 j (by omega) hj (λ_=>Nat.zero_le _) m2 cV.wk) (λx hx=>Zfx hM gH bH (cS 0 _ rfl) x (.inl hx)) Za7 ?_
 rintro a nn c m3 bX _ ⟨a',c',hv,bG,dF⟩
 rw[Za5,hM.tr]at hv bG
 obtain⟨rfl,rfl,rfl⟩:a=a'/\nn=(t.e0 s j).length/\c=c':=by simpa using hv
 have nR:m.le m3:=Zl0 fP (λx hx=>(Zfx hM gH bH (cS 0 _ rfl) x (.inl hx)).1) bX
 refine⟨_,trivial,Zqv _ a c m3 (bG.mono (Mem.off_le _ _)) (by omega),λv m' css ⟨_,_,h,_⟩=>by rw[h];rfl,?_⟩
 rintro a2 n2 c2 m4 cB ⟨a3,c3,hv,cI⟩
 obtain⟨rfl,rfl,rfl⟩:a2=a3/\n2=(t.e0 s j).length/\c2=c3:=by simpa using hv
 refine⟨m4,mLt nR cB,Mem.le_refl _,a2,c2,?_,?_⟩ <;> rw[hX]
 exact cI
def ZyY(t:T)(s:List Nat):RT:=λv m' _=>∃a c,v=.tuple #[.slice a (ZfD t s).1.length c,.int .i64 (ZfD t s).2]/\PtAt m' a (ZfD t s).1
theorem Zk1(t:T)(sa:Option Addr)(s:List Nat)(sc:Nat)(m:Mem)(hr:Rep m t)(hb:ZcW t s.length=0->Byt m sa s):CX Try.prog 15 #[t.v,.slice sa s.length sc] m [] (ZyY t s):=by
 unfold T.v
 apply ZkS
 unfold Zhi
 intro b m1 bH cS kP _
 refine⟨_,trivial,ZrF t sa s sc m1 (hr.mono bH),ZiQ,?_⟩
 rintro v v1 e m2 bO hR
 have fP:=mLt bH bO
 unfold Zvp at hR
 rcases hR with⟨hw,hv⟩|⟨hw,fb,kb,n,pa,pc,hv,hM⟩
 ·simp only[Value.tuple.injEq,Array.mk.injEq,List.cons.injEq,Value.int.injEq,true_and,and_true]at hv
  obtain⟨rfl,rfl,rfl⟩:=hv
  refine Zje (by simpa using hw) ⟨m2,fP,Mem.le_refl _,none,0,?_,?_⟩ <;> (unfold ZfD;rw[if_pos hw])
  ·rfl
  ·exact .inl ⟨rfl,rfl⟩
 simp only[Value.tuple.injEq,Array.mk.injEq,List.cons.injEq,Value.int.injEq,true_and,and_true]at hv
 obtain⟨rfl,rfl,rfl⟩:=hv
 have gH:=(hb hw).mono bH
 have cV:=hM.st gH
 have gR:=Zb6 (d:=0) (i:=0) (cV.wk.fin.good n (ZcY n)) cV.wk.fin.len (by omega)
 rw[Za5,hM.tr]at gR
 refine Zis (by simp) (Zvq (ZiP fb kb (Zp kb pa) n sa s sc n (ZcY n) 0 0 (by omega) (by omega) (λ_=>Nat.zero_le _) m2 cV.wk) (λx hx=>Zfx hM gH bH (cS 0 _ rfl) x (.inl hx)) Za7 ?_)
 rintro a nn c m3 bX _ ⟨a',c',hv,bG,dF⟩
 rw[Za5,hM.tr]at hv bG
 obtain⟨rfl,rfl,rfl⟩:a=a'/\nn=(t.e0 s 0).length/\c=c':=by simpa using hv
 have nR:m.le m3:=Zl0 fP (λx hx=>(Zfx hM gH bH (cS 0 _ rfl) x (.inl hx)).1) bX
 have dS:=cV.step bX dF
 refine⟨_,trivial,ZdY _ a c s.length m3 (bG.mono (Mem.off_le _ _)) (by omega),λv m' css h=>by unfold Ret at h;rw[h];rfl,?_⟩
 rintro bb m4 cB hR
 obtain rfl:bb=decide (s.length∈t.e0 s 0):=by simpa[Ret]using hR
 have eI:=dS.le cB
 have tw:=mLt nR cB
 refine Zab (λhq=>⟨m4,tw,Mem.le_refl _,none,0,?_,?_⟩) (λhq=>?_)
 ·have hq:s.length ∉ t.e0 s 0:=by simpa using hq
  unfold ZfD;rw[if_neg (by simp[hw]),if_neg hq];rfl
 ·have hq:s.length ∉ t.e0 s 0:=by simpa using hq
  unfold ZfD;rw[if_neg (by simp[hw]),if_neg hq];exact .inl ⟨rfl,rfl⟩
 have hq:s.length∈t.e0 s 0:=by simpa using hq
 have hX:ZfD t s=((ZhZ t s).1,0):=by unfold ZfD;rw[if_neg (by simp[hw]),if_pos hq]
 have tx:=ZrE fb kb n sa s sc pa pc t.ngr _ n (Nat.lt_succ_self _) (ZcY n) 0 hM.num (by rw[hM.tr];omega) 0 s.length (by omega) (by rw[hM.tr];exact hq) m4 _ eI
 rw[hM.tr]at tx
 refine Zvq tx (λx hx=>?_) ZdZ ?_
 ·obtain⟨q1,_,q3⟩:=Zfx hM gH bH (cS 0 _ rfl) x hx
  exact⟨q1,(eI.zin x hx).2.1,q3⟩
 rintro z m5 c7 _ ⟨_,hh,gM⟩
 have rk:m.le m5:=Zl0 tw (λx hx=>(Zfx hM gH bH (cS 0 _ rfl) x hx).1) c7
 refine Zaa rfl (Zaa rfl ⟨_,c7.c _ _ _ eI.parts,m5,rk,Mem.le_refl _,pa,pc,?_,?_⟩) <;> rw[hX]
 ·rw[ZkD]
 ·exact gM
theorem Zpc(t:T)(sa:Option Addr)(s:List Nat)(sc:Nat)(m:Mem)(hr:Rep m t)(hb:ZcW t s.length=0->t.k=5->Byt m sa s):CX Try.prog 17 #[t.v,.slice sa s.length sc] m [] (Ret (.tuple #[.int .i64 ((Zna t s).1:Nat),.int .i64 (Zna t s).2])):=by
 unfold T.v
 apply Zi9
 unfold Zgb
 intro b m1 bH cS kP _
 refine⟨_,trivial,ZrF t sa s sc m1 (hr.mono bH),ZiQ,?_⟩
 rintro v v1 e m2 bO hR
 have fP:=mLt bH bO
 unfold Zvp at hR
 rcases hR with⟨hw,hv⟩|⟨hw,fb,kb,n,pa,pc,hv,hM⟩
 ·simp only[Value.tuple.injEq,Array.mk.injEq,List.cons.injEq,Value.int.injEq,true_and,and_true]at hv
  obtain⟨rfl,rfl,rfl⟩:=hv
  refine Zje (by simpa using hw) ⟨m2,fP,Mem.le_refl _,?_⟩
  unfold Ret Zna;rw[if_pos hw];rfl
 simp only[Value.tuple.injEq,Array.mk.injEq,List.cons.injEq,Value.int.injEq,true_and,and_true]at hv
 obtain⟨rfl,rfl,rfl⟩:=hv
 refine Zis (by simp) (Zab (λhk=>⟨m2,fP,Mem.le_refl _,?_⟩) (λhk=>?_))
 ·have hk:t.k≠5:=by simpa using hk
  unfold Ret Zna;rw[if_neg (by simp[hw]),if_pos hk];rfl
 have hk:t.k=5:=by simpa using hk
 have gH:=(hb hw hk).mono bH
 have cV:=hM.st gH
 have gR:=Zb6 (d:=0) (i:=0) (cV.wk.fin.good n (ZcY n)) cV.wk.fin.len (by omega)
 rw[Za5,hM.tr]at gR
 refine Zvq (ZiP fb kb (Zp kb pa) n sa s sc n (ZcY n) 0 0 (by omega) (by omega) (λ_=>Nat.zero_le _) m2 cV.wk) (λx hx=>Zfx hM gH bH (cS 0 _ rfl) x (.inl hx)) Za7 ?_
 rintro a nn c m3 bX _ ⟨a',c',hv,bG,dF⟩
 rw[Za5,hM.tr]at hv bG
 obtain⟨rfl,rfl,rfl⟩:a=a'/\nn=(t.e0 s 0).length/\c=c':=by simpa using hv
 have nR:m.le m3:=Zl0 fP (λx hx=>(Zfx hM gH bH (cS 0 _ rfl) x (.inl hx)).1) bX
 have dS:=cV.step bX dF
 refine⟨_,trivial,ZdY _ a c s.length m3 (bG.mono (Mem.off_le _ _)) (by omega),λv m' css h=>by unfold Ret at h;rw[h];rfl,?_⟩
 rintro bb m4 cB hR
 obtain rfl:bb=decide (s.length∈t.e0 s 0):=by simpa[Ret]using hR
 have eI:=dS.le cB
 have tw:=mLt nR cB
 refine Zab (λhq=>⟨m4,tw,Mem.le_refl _,?_⟩) (λhq=>?_)
 ·have hq:s.length ∉ t.e0 s 0:=by simpa using hq
  unfold Ret Zna;rw[if_neg (by simp[hw]),if_neg (by simp[hk]),if_neg hq];rfl
 have hq:s.length∈t.e0 s 0:=by simpa using hq
 have tx:=ZrE fb kb n sa s sc pa pc t.ngr _ n (Nat.lt_succ_self _) (ZcY n) 0 hM.num (by rw[hM.tr];omega) 0 s.length (by omega) (by rw[hM.tr];exact hq) m4 _ eI
 rw[hM.tr]at tx
 refine Zvq tx (λx hx=>?_) ZdZ ?_
 ·obtain⟨q1,_,q3⟩:=Zfx hM gH bH (cS 0 _ rfl) x hx
  exact⟨q1,(eI.zin x hx).2.1,q3⟩
 rintro z m5 c7 _ ⟨hz,hh,gM⟩
 have rk:m.le m5:=Zl0 tw (λx hx=>(Zfx hM gH bH (cS 0 _ rfl) x hx).1) c7
 obtain rfl:z=((ZhZ t s).2:Nat):=by simpa[ZhZ,noP]using hz
 refine⟨m5,rk,Mem.le_refl _,?_⟩
 unfold Ret Zna;rw[if_neg (by simp[hw]),if_neg (by simp[hk]),if_pos hq]
end Go.Proofs.Ytgclajkldphoaaa
set_option linter.unusedVariables false
set_option linter.unusedSimpArgs false
namespace Go.Proofs.Ytgclajkldphoaaa
open Go Go.Eng Go.Rx Go.Proofs Go.RowKit
set_option maxRecDepth 100000
def mkS(l:List Nat):ByteArray:=⟨(l.map UInt8.ofNat).toArray⟩
theorem Zqw{l:List Nat}(h:∀c∈l,c < 256):ZbV (mkS l)=l:=by
 unfold ZbV mkS
 simp only[List.map_map]
 conv=>rhs;rw[<-List.map_id l]
 refine List.map_congr_left λc hc=>?_
 simp only[Function.comp,id]
 rw[UInt8.toNat_ofNat']
 exact Nat.mod_eq_of_lt (h c hc)
theorem ZrG(l:List Nat):(mkS l).size=l.length:=by
 unfold mkS ByteArray.size
 simp
theorem ZrH{m:Mem}{a:Option Addr}{l:List Nat}(h:Byt m a l):rowRd m a (ZaG (mkS l)):=by
 rw[ZjP,Zqw h.2]
 rcases h.1 with h|⟨b,o,h1,h2⟩
 ·subst h;exact .inl rfl
 ·exact .inr ⟨b,o,h1,h2⟩
theorem ZtZ{m:Mem}{a:Option Addr}{s:List Nat}(h:Byt m a s)(i n c:Nat)(hc:s.length<=c)(hn:n<=s.length)(hi:i<=n):Byt m (ZaW a i c 1) ((s.take n).drop i):=by
 refine⟨?_,λx hx=>h.2 x (List.mem_of_mem_take (List.mem_of_mem_drop hx))⟩
 by_cases e:i=n
 ·left
  rw[List.drop_eq_nil_of_le (by rw[List.length_take];omega)]
 rcases h.1 with hs|⟨b,o,rfl,hr⟩
 ·subst hs;left;simp
 ·refine .inr ⟨b,o+i,?_,λj v hj=>?_⟩
  ·unfold ZaW
   cases i with
   | zero=>rfl
   | succ i=>
    have e1:Nat.beq (i+1) 0=false:=rfl
    have e2:Nat.beq c (i+1)=false:=by
     cases hb:Nat.beq c (i+1)with
     | false=>rfl
     | true=>have:=Nat.eq_of_beq_eq_true hb;omega
    rw[e1,e2]
    show some (Addr.add _ ((i+1)*1))=_
    rw[ZbO,Nat.mul_one]
  ·have bF:=(List.getElem?_eq_some_iff.1 hj).1
   simp only[List.length_map,List.length_drop,List.length_take]at bF
   rw[List.getElem?_map,List.getElem?_drop,List.getElem?_take_of_lt (by omega),<-List.getElem?_map]at hj
   rw[Nat.add_assoc];exact hr _ _ hj
theorem ZzI(x:Int):(if(0:Int) > x then 0 else x)=((x.toNat:Nat):Int):=by split <;> omega
def Zvr(l:List Nat):Value:=.string (mkS l)
def ZyZ(t:T)(s:List Nat):RT:=λv m' _=>∃a c,v=.tuple #[.slice a (Zvx t s).1.length c,.int .i64 (Zvx t s).2]/\rowRd m' a ((Zvx t s).1.map Zvr)
theorem Zpd(t:T)(sa:Option Addr)(s:List Nat)(sc:Nat)(m:Mem)(hr:Rep m t)(hb:ZcW t s.length=0->Byt m sa s)(rM:s.length<=sc):CX Try.prog 16 #[t.v,.slice sa s.length sc] m [] (ZyZ t s):=by
 unfold T.v
 apply Zhv
 unfold Zey
 intro b m1 bH cS
 refine⟨_,trivial,Zk1 t sa s sc m1 (hr.mono bH) (λh=>(hb h).mono bH),λv m' css ⟨_,_,h,_⟩=>by rw[h];rfl,?_⟩
 rintro a n c e m2 bO ⟨a',c',hv,gM⟩
 simp only[Value.tuple.injEq,Array.mk.injEq,List.cons.injEq,Value.int.injEq,Value.slice.injEq,true_and,and_true]at hv
 obtain⟨⟨rfl,rfl,rfl⟩,rfl⟩:=hv
 have fP:=mLt bH bO
 refine Zab (λhq=>⟨m2,fP,Mem.le_refl _,none,0,?_,?_⟩) (λhq=>?_)
 ·have hq:(ZfD t s).2≠0:=by simpa using hq
  unfold Zvx;rw[if_pos hq];rfl
 ·have hq:(ZfD t s).2≠0:=by simpa using hq
  unfold Zvx;rw[if_pos hq];exact .inl rfl
 have hq:(ZfD t s).2=0:=by simpa using hq
 have hX:Zvx t s=(s::(ZfD t s).1.map (Zvw s),0):=by unfold Zvx;rw[if_neg (by simp[hq])]
 obtain⟨P,v8⟩:∃P,P=(ZfD t s).1:=⟨_,rfl⟩
 have rl:∀p∈P,Zdz s.length p:=v8 ▸ Zwp
 have zP:P.length<=1000:=by
  rw[v8];unfold ZfD
  split
  ·simp
  ·rename_i hw
   split
   ·simp only;rw[ZkD]
    have hc:=(Zuv (Classical.not_not.1 hw)).1
    have:=(Zdj hc).2
    have:t.ngr<=t.nodes.length:=by rw[Zgy];exact List.countP_le_length
    omega
   ·simp
 rw[<-v8]at gM hX ⊢
 have zQ:ZcW t s.length=0:=by
  unfold ZfD at hq
  by_cases hw:ZcW t s.length=0
  ·exact hw
  ·rw[if_pos hw]at hq;exact hq
 have eB:=(hb zQ).mono fP
 refine⟨mkS s,ZrG s,ZrH eB,λb1 nY=>⟨λxs css tvs m' q=>∃(j:Nat)(a4:Option Addr)(c4:Nat)(a5:Option Addr)(n5 c5:Nat),j<=P.length/\xs=[.slice a4 (j+1) c4,.int .i64 (j:Nat)]/\tvs=[.slice a5 n5 c5]/\((a5=a4/\n5=j+1/\c5=c4)\/c4 < j+2)/\rowRd m' a4 ((s::(P.take j).map (Zvw s)).map Zvr)/\q=P.length - j,⟨_,0,_,1,none,0,0,by omega,rfl,rfl,.inr (by omega),.inr ⟨b1,0,rfl,λj v hj=>by rw[Nat.zero_add,Mem.add_same];exact hj⟩,rfl⟩,?_⟩⟩
 rintro a4' n4' c4' y a5' n5' c5' m3 q bX ⟨j,a4,c4,a5,n5,c5,hj,cU,gQ,c9,bG,rfl⟩
 simp only[List.cons.injEq,Value.int.injEq,Value.slice.injEq,true_and,and_true]at cU gQ
 obtain⟨⟨rfl,rfl,rfl⟩,rfl⟩:=cU
 obtain⟨rfl,rfl,rfl⟩:=gQ
 have rL:m2.le m3:=mLt (Mem.le_add nY _) bX
 have jS:=eB.mono rL
 have kD:=gM.mono rL
 refine Zab (λbF=>?_) (λcR=>?_)
 ·have bI:j < P.length:=by have:=of_decide_eq_true bF;omega
  obtain⟨p,hp⟩:∃p,P[j]?=some p:=⟨_,List.getElem?_eq_getElem bI⟩
  have tz:=rl p (List.mem_of_getElem? hp)
  rcases kD with⟨h,_⟩|⟨pb,h1,h2,_⟩
  ·rw[h]at bI;simp at bI
  obtain⟨h3,h4⟩:=h2 j p hp
  have mT:p.2.toNat<=s.length:=by rcases tz with h|h;rw[h];exact Nat.zero_le _;omega
  have zR:p.1.toNat<=p.2.toNat:=by rcases tz with h|h;rw[h];exact Nat.le_refl _;omega
  refine⟨pb,0,h1,⟨by omega,by omega⟩,.int .i64 p.1,.int .i64 p.2,?_,λb3=>Zaa rfl (Zaa rfl (Zaa rfl ?_))⟩
  ·intro i v hi
   have bF:i < 2:=(List.getElem?_eq_some_iff.1 hi).1
   rw[Nat.zero_add,Int.toNat_natCast]
   have:i=0\/i=1:=by omega
   rcases this with rfl|rfl <;> (cases hi;assumption)
  ·have e1:(if(0:Int) > RowKit.intOf (.int .i64 p.1)then 0 else RowKit.intOf (.int .i64 p.1))=((p.1.toNat:Nat):Int):=ZzI p.1
   have e2:(if(0:Int) > RowKit.intOf (.int .i64 p.2)then 0 else RowKit.intOf (.int .i64 p.2))=((p.2.toNat:Nat):Int):=ZzI p.2
   rw[e1,e2]
   refine⟨⟨by omega,by omega⟩,⟨by omega,by rw[Int.toNat_natCast];omega⟩,mkS (Zvw s p),?_,by rw[Int.toNat_natCast];exact ZrH (ZtZ jS _ _ sc rM mT zR),λb4 v9=>⟨?_,(s::(P.take j).map (Zvw s)).map Zvr,[Zvr (Zvw s p)],?_,rfl,bG.mono (Mem.le_add v9 _),.inr ⟨b4,0,rfl,λj v hj=>by rw[Nat.zero_add,Mem.add_same];exact hj⟩,?_,by omega,by omega,λa6 c6 m6 eP tA=>⟨rfl,_,?_,j+1,a6,c6,a6,j+1+1,c6,by omega,by rw[wr1 (show j<=1000000000000000 by omega)],rfl,.inl ⟨rfl,rfl,rfl⟩,?_,rfl⟩⟩⟩
   ·rw[ZrG,Int.toNat_natCast,Int.toNat_natCast];unfold Zvw;rw[List.length_drop,List.length_take];omega
   ·rcases c9 with⟨rfl,rfl,rfl⟩|h
    ·exact .inl rfl
    ·exact .inr (.inr (by omega))
   ·simp;omega
   ·intro u hu
    obtain rfl:u=Zvr (Zvw s p):=by simpa using hu
    rfl
   ·omega
   ·have e:(s::(P.take (j+1)).map (Zvw s)).map Zvr=(s::(P.take j).map (Zvw s)).map Zvr++[Zvr (Zvw s p)]:=by
     rw[Zce hp];simp
    rw[e];exact tA
 ·have:j=P.length:=by have:=of_decide_eq_false cR;omega
  subst this
  rw[List.take_length]at bG
  refine⟨m3,mLt fP rL,Mem.le_refl _,a4',c4',?_,?_⟩ <;> rw[hX]
  ·simp
  ·exact bG
end Go.Proofs.Ytgclajkldphoaaa
set_option linter.unusedVariables false
set_option linter.unusedSimpArgs false
set_option linter.unusedSectionVars false
namespace Go.Proofs.Ytgclajkldphoaaa
open Go Go.Eng Go.Rx Go.Proofs Go.RowKit
set_option maxRecDepth 100000
def IsE(E:T):Value->Mem->List (List Value)->Prop:=Zhx λt=>t.er=E
theorem ZaB{E:T}:∀(v:Value)(m':Mem) (css:List (List Value)),IsE E v m' css->Shape.fits (.agg [.int .u8,.int .u64,.int .u64,.int .u64,.int .u64,.int .i64,.int .i64,.slice]) v=true:=ZbT
theorem Zgk{E:T}{m:Mem}{K:TRK}(k:∀(t:T)(m':Mem),m.le m'->Rep m' t->t.er=E->K t.k t.s0 t.s1 t.s2 t.s3 t.mn t.mx t.a t.subs.length t.c m'):
  ∀(n0 n1 n2 n3 n4 n5 n6:Int)(a:Option Addr)(n c:Nat)(m':Mem),m.le m'->IsE E (.agg #[.int .u8 n0,.int .u64 n1,.int .u64 n2,.int .u64 n3,.int .u64 n4,.int .i64 n5,.int .i64 n6,.slice a n c]) m' []->K n0 n1 n2 n3 n4 n5 n6 a n c m':=
 Zgx λt m' hm hr h=>k t m' hm hr h
theorem Zhl(c:Nat)(hc:c < 256)(m:Mem):CX Try.prog 11 #[.int .u8 c] m [] (IsE (ZdU c)):=by
 apply Zij
 unfold Zfw
 intro b b1
 have hq:IntKind.u8.wrap (Int.tdiv (c:Int) 64)=((c / 64:Nat):Int):=by rw[ZwL];exact Zyr (by omega) (by omega)
 have hr:IntKind.u64.wrap (1*2 ^ min (Int.toNat (Int.tmod (c:Int) 64)) 64)=((2 ^ (c % 64):Nat):Int):=by
  rw[ZrA,Int.toNat_natCast,Nat.min_eq_left (by omega),Int.one_mul]
  have:=Zvl (2 ^ (c % 64)) (by
   have:2 ^ (c % 64) < 2 ^ 64:=Nat.pow_lt_pow_right (by omega) (by omega)
   exact this)
  rw[<-this];push_cast;rfl
 simp only[hq,hr,Int.toNat_natCast,Nat.zero_add,Nat.mul_one]
 have hL:(Value.agg #[.int .u8 2,.int .u64 (ZlJ c 0),.int .u64 (ZlJ c 1),.int .u64 (ZlJ c 2),.int .u64 (ZlJ c 3),.int .i64 0,.int .i64 0,.slice none 0 0])=(ZdU c).v:=rfl
 refine⟨by omega,by omega,by rw[ZrA];omega,⟨by omega,by omega⟩,Zaa (by rw[Nat.ble_eq];omega) ?_⟩
 have:c / 64=0\/c / 64=1\/c / 64=2\/c / 64=3:=by omega
 rcases this with e|e|e|e <;>
 ·rw[e]
  refine Zaa rfl (Zaa rfl (Zah (Mem.le_refl _) ⟨ZdU c,?_,Zqb c m,rfl⟩))
  rw[<-hL]
  unfold ZlJ
  rw[e]
  rfl
theorem Zk2{k mn mx:Int}{a:Option Addr}{c:Nat}{l:List T}{E:List T}(h:l.map T.er=E):(Zap k mn mx a c l).er=Zap k mn mx none 0 E:=by
 unfold Zap;simp only[T.er];rw[Zos,h]
theorem ZfW(a:Option Addr)(c:Nat)(l E:List T)(m:Mem)(hl:RepL m a l)(hE:l.map T.er=E):CX Try.prog 12 #[.slice a l.length c] m [] (IsE (Zap 3 0 0 none 0 E)):=by
 apply ZmK
 unfold Zik
 intro b
 exact Zah (Mem.le_refl _) ⟨Zap 3 0 0 a c l,rfl,Zbg hl (by omega) (by omega) (by omega),Zk2 hE⟩
theorem Zdy(a:Option Addr)(c:Nat)(l E:List T)(m:Mem)(hl:RepL m a l)(hE:l.map T.er=E):CX Try.prog 24 #[.slice a l.length c] m [] (IsE (Zap 4 0 0 none 0 E)):=by
 apply ZmM
 unfold Zim
 intro b
 exact Zah (Mem.le_refl _) ⟨Zap 4 0 0 a c l,rfl,Zbg hl (by omega) (by omega) (by omega),Zk2 hE⟩
theorem Za8(t E:T)(m:Mem)(hr:Rep m t)(hE:t.er=E):CX Try.prog 10 #[t.v] m [] (IsE (Zap 6 0 0 none 0 [E])):=by
 apply Zjb
 unfold Zgd
 intro b m1 bH _ b1 b2 hf
 have cE:=Mem.le_add hf t.cs
 refine Zg1 (mLt bH cE) ⟨Zap 6 0 0 (some ⟨b2,0,none⟩) 1 [t],rfl,Zbg (Zg4 ?_ (hr.mono (mLt bH cE))) (by omega) (by omega) (by omega),Zk2 (by rw[<-hE];rfl)⟩
 intro j v hj
 rw[Nat.zero_add,Mem.add_same];exact hj
theorem ZfX(t E:T)(mn mx:Int)(h1 : -9223372036854775808<=mn/\mn<=9223372036854775807)(h2 : -9223372036854775808<=mx/\mx<=9223372036854775807)(m:Mem)(hr:Rep m t)(hE:t.er=E):CX Try.prog 13 #[t.v,.int .i64 mn,.int .i64 mx] m [] (IsE (Zap 5 mn mx none 0 [E])):=by
 apply ZmL
 unfold Zil
 intro b m1 bH _ b1 b2 hf
 have cE:=Mem.le_add hf t.cs
 refine Zg1 (mLt bH cE) ⟨Zap 5 mn mx (some ⟨b2,0,none⟩) 1 [t],rfl,Zbg (Zg4 ?_ (hr.mono (mLt bH cE))) (by omega) h1 h2,Zk2 (by rw[<-hE];rfl)⟩
 intro j v hj
 rw[Nat.zero_add,Mem.add_same];exact hj
def plV(P:PL):List Value:=P.flatMap λp=>[.int .i64 p.1,.int .i64 p.2]
theorem Zpe(a b a' b':Int):EqIs Try.prog 56 (.agg #[.int .i64 a,.int .i64 b]) (.agg #[.int .i64 a',.int .i64 b']) (a == a'&&b == b'):=by
 refine⟨λw=>?_,λop ox oy w=>Zd7 (by kernel_rfl) op ox oy _ _ w⟩
 have u3:=Try.underlying3
 have a3:=Try.isAgg3
 have z3:=Try.sizeOf3
 rw[Op.equal,Op.maxDepth,show(10000:Nat)=9999+1 from rfl]
 rw[run_equalIn_agg _ _ _ _ _ (by kernel_rfl) (by kernel_rfl)]
 have hf:(Try.prog.fieldsOf 56).toList=[⟨ "From",3,0,false, "", "",0⟩,⟨ "To",3,1,false, "", "",8⟩]:=by kernel_rfl
 rw[hf]
 go_simp
 by_cases h1:a=a' <;> by_cases h2:b=b' <;> simp[h1,h2]
theorem Zx6:∀(P:PL)(q:Nat)(p:Int×Int),P[q]?=some p->(plV P)[q*2]?=some (.int .i64 p.1)/\(plV P)[q*2+1]?=some (.int .i64 p.2):=λP=>by
 induction P with
 | nil=>intro q p hq;simp at hq
 | cons p0 P ih=>
  intro q p hq
  cases q with
  | zero=>simp at hq;subst hq;exact⟨rfl,rfl⟩
  | succ q=>
   have:=ih q p (by simpa using hq)
   rw[show(q+1)*2=q*2+2 by omega]
   exact this
theorem Zk3(P Q:PL)(a b:Option Addr)(c d:Nat)(m:Mem)(hp:rowRd m a (plV P))(hq:rowRd m b (plV Q))(hl:P.length<=1000000):CX Try.prog 22 #[.slice a P.length c,.slice b Q.length d] m [] (Ret (.bool (P == Q))):=by
 apply Zbu
 unfold ZaY
 refine Zab (λcN=>Zah (Mem.le_refl _) ?_) (λheq=>?_)
 ·have:P≠Q:=λe=>by subst e;simp at cN
  unfold Ret;rw[beq_eq_false_iff_ne.2 this]
 have bL:P.length=Q.length:=by
  have:(P.length:Int)=(Q.length:Int):=by simpa using heq
  omega
 refine⟨λxs css tvs m' q=>∃j:Nat,j<=P.length/\xs=[.int .i64 (j:Nat)]/\P.take j=Q.take j/\q=P.length - j,⟨_,0,by omega,rfl,rfl,rfl⟩,?_⟩
 rintro y m1 q bH ⟨j,hj,cU,jC,rfl⟩
 obtain rfl:y=j:=by simpa using cU
 have two:∀(P:PL)(a:Option Addr)(p:Int×Int),rowRd m a (plV P)->P[j]?=some p->∃b o,a=some ⟨b,o,none⟩/\m1.reads b (o+j*2) [.int .i64 p.1,.int .i64 p.2]:=λP a p h hj=>by
  obtain⟨g1,g2⟩:=Zx6 P j p hj
  rcases h with h|⟨b,o,h1,h2⟩
  ·rw[h]at g1;simp at g1
  ·refine⟨b,o,h1,λi v hi=>?_⟩
   have h3:=h2 _ _ g1
   have h4:=h2 _ _ g2
   have bF:i < 2:=(List.getElem?_eq_some_iff.1 hi).1
   have:i=0\/i=1:=by omega
   rcases this with rfl|rfl
   ·cases hi;exact bH.c _ _ _ h3
   ·cases hi;rw[Nat.add_assoc];exact bH.c _ _ _ h4
 refine Zab (λbF=>?_) (λcR=>Zah bH ?_)
 ·have bI:j < P.length:=by have:=of_decide_eq_true bF;omega
  obtain⟨p,t4⟩:∃p,P[j]?=some p:=⟨_,List.getElem?_eq_getElem bI⟩
  obtain⟨r,gW⟩:∃p,Q[j]?=some p:=⟨_,List.getElem?_eq_getElem (by omega)⟩
  obtain⟨b1,o1,e1,r1⟩:=two P a p hp t4
  obtain⟨b2,o2,e2,r2⟩:=two Q b r hq gW
  rw[wr1 (by omega)]
  refine⟨b1,o1,e1,⟨by omega,by omega⟩,.int .i64 p.1,.int .i64 p.2,by rw[Int.toNat_natCast];exact r1,b2,o2,e2,⟨by omega,by omega⟩,.int .i64 r.1,.int .i64 r.2,by rw[Int.toNat_natCast];exact r2,_,Zpe _ _ _ _,Zab (λhc=>Zah bH ?_) (λhc=>⟨P.length - (j+1),by omega,j+1,by omega,rfl,?_,rfl⟩)⟩
  ·unfold Ret
   rw[beq_eq_false_iff_ne.2 λe=>?_]
   subst e
   rw[t4]at gW;cases gW
   simp at hc
  ·rw[Zce t4,Zce gW,jC]
   have:p=r:=by
    have h2:p.1=r.1/\p.2=r.2:=by simpa using hc
    exact Prod.ext h2.1 h2.2
   rw[this]
 ·have:j=P.length:=by have:=of_decide_eq_false cR;omega
  subst this
  rw[List.take_length,bL,List.take_length]at jC
  unfold Ret
  rw[jC];simp
def eN(k mn mx:Int)(l:List T):T:=Zap k mn mx none 0 l
end Go.Proofs.Ytgclajkldphoaaa
