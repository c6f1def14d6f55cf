/- Part of the proof: functions of the program. No condition. -/
import Derived.Test.YtdopppmkbkkmiaaGreatDoorPEnv
import Derived.Test.YtdopppmkbkkmiaaGreatDoorMc
import Derived.Test.YtdopppmkbkkmiaaGreatDoorPC25MA
import Derived.Test.YtdopppmkbkkmiaaGreatDoorPVEB
set_option linter.unusedVariables false
set_option linter.unusedSimpArgs false
set_option linter.unusedSectionVars false
noncomputable section
namespace Go.Proofs.YtdopppmkbkkmiaaGreatDoor
open Go Go.Eng Go.Proofs Go.RowKit
open Go.Value (int slice agg bool string tuple func)
open Go.IntKind (u8 u64 i64)
set_option maxRecDepth 100000
def Zjm:Env:={ EB with
 loops:=swI nLa [(6,⟨[(0,.slice),(23,.int .i64)],[],[(900,1)],false⟩)]
 tokOf:=swI 0 [(19,900)]
 frzNew:=[3]
 thaw:=true
 lentC:=swI none [(29,some [(900,1)])] }
theorem ZgQ(bN:Int)(bR:Value)(bO:ByteArray)(bW:Int)(dA:Option Addr)(cZ dE:Nat)(t0a:Option Addr)(t0n t0c:Nat)(m:Mem)(Y:Nat->Prop)(R:RTY)(h:
 lV [string bO] λxL=>lE (t0n+1) λyL=>lV [int u8 bN,bR,string bO,int i64 bW,slice dA cZ dE] λxL_1=>lX (slice t0a t0n t0c) λyL_1=>fzM m xL_1 λb m'=>m.free b->(∀(b' o:Nat) (u:
 Value),m' b' o=some u->m b' o=some u\/b'=b)->br (bN == 9) (kB pG 15 (yL_1::xL) m' λb m'=>br b (R yL_1 m' [] [yL_1]) (∀b,lM (m'.add b xL) λmL=>m'.free b->(Tok.mk yL_1 1=Tok.mk yL_1 1\/yL_1=slice none
 0 0\/t0c < yL)/\∃(xs:List Value),∃(ys:List Value),xs.length=t0n*1/\ys.length=1*1/\rowRd mL t0a xs/\rowRd mL (some (Addr.mk b 0 none)) ys/\(∀(u:Value),u∈ys->u.oneCell'=true)/\yL*16 <=
 140737488355328/\yL<=9223372036854775807/\∀(a':Option Addr)(c':Nat) m',mL.le m'->rowRd m' a' (List.append xs ys)->TokFact mL t0a a' yL c'->R (slice a' yL c') m' [] [slice a' yL c'])) (∃I,inI I [yL_1,int i64 0] []
 [yL_1] m'/\∀a n c n_1 a_1 n_2 c_1 (m':Mem) (n_3:Nat),lX (slice a_1 n_2 c_1) λyL=>lE [Tok.mk yL 1] λxL=>lX (slice a n c) λyL_2=>True->I [yL_2,int i64 n_1] [] [yL] m' n_3->br (decide (n_1 < (↑cZ:Int)))
 (atA dA λb_1 o=>Zag n_1 cZ/\∃v v_1 v_2 v_3 v_4:Value,m'.reads b_1 (o+Int.toNat n_1*5) [v,v_1,v_2,v_3,v_4]/\∀(b_2:Nat),chk (v.oneCell'&&(v_1.oneCell'&&(v_2.oneCell'&&(v_3.oneCell' &&
 (v_4.oneCell'&&true))))) (∃(Y_1:Nat->Prop),∃(R:Value->Mem->List (List Value)->List Value->Prop),CXY pG 104 (.mk [yL_2,agg (.mk [v,v_1,v_2,v_3,v_4])]) m' Y_1 [] xL R/\(∀(t:Tok),t∈xL->∀(b:Nat),Tok.blk
 t=some b->Y_1 b)/\(∀(b_3:Nat),Y_1 b_3->(∃(t:Tok),t∈xL/\Tok.blk t=some b_3)\/(Mem.free (Mem.off m Y) b_3/\Mem.k (Mem.off m Y) b_3=none)/\((∃(o:Nat),∃(v:Value),m' b_3 o=some v)\/∃(e:List (Value ×
 Value)),Mem.k m' b_3=some e)/\b≠b_3/\True)/\(∀(v:Value)(m':Mem) (css:List (List Value)) (tvs:List Value),R v m' css tvs->Shape.fits .slice v=true)/\∀a n c (m'_1:Mem),Mem.le (Mem.off m' Y_1) m'_1->(NewM
 m' m'_1 λb=>Y_1 b\/m'.free b)->∀a_4 c_2 d,R (slice a n c) m'_1 [] [slice a_4 c_2 d]->Zae [some (Box.mk b xL_1 52 5 true true)]/\([none]:List (Option Tok))=[none]/\nxI n_3 I [slice a n c,int i64 (i64.wrap (n_1 +
 1))] [] [slice a_4 c_2 d] m'_1)) (R yL_2 m' [] [yL]))):CXY Tryz.prog 104 #[.slice t0a t0n t0c,.agg #[.int .u8 bN,bR,.string bO,.int .i64 bW,.slice dA cZ dE]] m Y [] [⟨.slice t0a t0n t0c,1⟩] R:=
 Zl1 (E:=Zjm) Zam mix Tryz.func104 [.v (.slice t0a t0n t0c),.v (.agg #[.int .u8 bN,bR,.string bO,.int .i64 bW,.slice dA cZ dE])] [] [900] [⟨.slice t0a t0n t0c,1⟩] (by decide) (by kernel_rfl) (Eq.mp (by kernel_rfl) h)
def ZbG:Env:={ EB with
 loops:=swI nLa [(2,⟨[(8,.int .i64)],[],[],false⟩)]
 dr:=swI [] [(4,[⟨0,[3],[],none,[],[]⟩,dO 1 [],dO 2 [],dO 3 [1,2],dO 4 [1,2,3],dO 5 [0,1,2,3,4]])]
 frzNew:=[3] }
theorem ZbB(p0a:Option Addr)(p0n p0c:Nat)(bN bR bO bW dC:Int)(m:Mem)(R:RT)(h:
 lV [int i64 bN,int i64 bR,int i64 bO,int i64 bW,int i64 dC] λxL=>fzM m xL λb m'=>∃I,inI I [int i64 0] [] [] m'/\∀n m'_1 (n_1:Nat),m'.le m'_1->I [int i64 n] [] [] m'_1 n_1->br (decide (n < (↑p0n:
 Int))) (atA p0a λb_1 o=>Zag n p0n/\∃v v_1 v_2 v_3 v_4:Value,m'_1.reads b_1 (o+Int.toNat n*5) [v,v_1,v_2,v_3,v_4]/\∃(b_2:Bool),EqIs pG 64 (agg (.mk xL)) (agg (.mk [v,v_1,v_2,v_3,v_4])) b_2/\br b_2
 (rtM m m'_1 R (int i64 n)) (Zae [some (Box.mk b xL 64 5 true true)]/\nxI n_1 I [int i64 (i64.wrap (n+1))] [] [] m'_1)) (rtM m m'_1 R (int i64 (-1)))):CX Tryz.prog 51 #[.slice p0a p0n p0c,.agg #[.int .i64 bN,.int .i64 bR,.int .i64 bO,.int .i64 bW,.int .i64 dC]] m [] R:=
 Zad (E:=ZbG) Zam mix Tryz.func51 (by kernel_rfl) (Eq.mp (by kernel_rfl) h)
def Zbo:Env:={ EB with
 frzNew:=[3] }
theorem Zbi(p0a:Option Addr)(p0n p0c:Nat)(bN bR bO bW dC:Int)(m:Mem)(R:RT)(h:
 lV [int i64 bN,int i64 bR,int i64 bO,int i64 bW,int i64 dC] λxL=>fzM m xL λb m'=>kI pG 51 [slice p0a p0n p0c,agg (.mk xL)] m' λn m'=>rtM m m' R (bool (decide (n ≥ 0)))):CX Tryz.prog 18 #[.slice p0a p0n p0c,.agg #[.int .i64 bN,.int .i64 bR,.int .i64 bO,.int .i64 bW,.int .i64 dC]] m [] R:=
 Zad (E:=Zbo) Zam mix Tryz.func18 (by kernel_rfl) (Eq.mp (by kernel_rfl) h)
def ZaS:Env:={ EB with
 loops:=swI nLa [(3,⟨[(7,.agg [.int .i64,.int .i64,.int .i64,.int .i64,.int .i64,.int .i64])],[2],[(11,6)],false⟩)]
 tokOf:=swI 0 [(11,11)] }
theorem ZaQ(p0a:Option Addr)(p0n p0c p1g:Nat)(p1fi p1ca:List Value)(m:Mem)(R:RT)(h:
 ∀b,∃(xs:List (List Value)),IX pG p1g p1fi p1ca m xs/\(∀(x:List Value),x∈xs->Shape.fitsL [.agg [.int i64,.int i64,.int i64,.int i64,.int i64,.int i64]] x=true)/\∃(I:IT),I [] [[slice p0a p0n p0c]] [slice
 none 0 0] m 0/\(∀n n_1 n_2 n_3 n_4 n_5 (cs:List Value) a n_6 c m' (n_7:Nat),lV [int i64 n,int i64 n_1,int i64 n_2,int i64 n_3,int i64 n_4,int i64 n_5] λxL=>m.le m'->List.get?Internal xs n_7=some [agg (.mk xL)]
 -> I [] [cs] [slice a n_6 c] m' n_7->∀(b_1:Nat),Eng.ZvD cs 0 λv=>∀b_2,lM (m'.add b_2 xL) λmL=>lE (slN v+1) λyL=>m'.free b_2->chk (Za8 v&&true) ((Tok.mk (slice a n_6 c) 6=Tok.mk v 6\/v=slice none 0
 0\/slC v < yL)/\∃(xs:List Value),∃(ys:List Value),xs.length=slN v*6/\ys.length=1*6/\rowRd mL (slA v) xs/\rowRd mL (some (Addr.mk b_2 0 none)) ys/\(∀(u:Value),u∈ys->u.oneCell'=true)/\yL*48 <=
 140737488355328/\yL<=9223372036854775807/\∀(a':Option Addr) c' m',mL.le m'->rowRd m' a' (List.append xs ys)->Zae [some (Box.mk b [] 61 1 false true)]/\I [] [[slice a' yL c']] [slice a' yL c'] m' (n_7+1)))/\∀(cs:
 List Value) a n c m',m.le m'->I [] [cs] [slice a n c] m' (xs.length)->Eng.ZvD cs 0 λv=>rtM m m' R v):CX Tryz.prog 70 #[.slice p0a p0n p0c,.func (.func p1g) p1fi.toArray p1ca.toArray] m [] R:=
 Zad (E:=ZaS) Zam mix Tryz.func70 (by kernel_rfl) (Eq.mp (by kernel_rfl) h)
def Zca:Env:=EB
theorem Zb4(p0g:Nat)(p0fi p0ca:List Value)(m:Mem)(R:RT)(h:
 kS pG 70 [slice none 0 0,func (Fn.func p0g) (Array.mk p0fi) (Array.mk p0ca)] m λa n c m'=>rtM m m' R (slice a n c)):CX Tryz.prog 43 #[.func (.func p0g) p0fi.toArray p0ca.toArray] m [] R:=
 Zad (E:=Zca) Zam mix Tryz.func43 (by kernel_rfl) (Eq.mp (by kernel_rfl) h)
def ZgR:Env:={ EB with
 frzNew:=[1] }
theorem ZfV(aA:Int)(aM:Option Addr)(aK aN:Nat)(aJ:Option Addr)(aI aO:Nat)(m:Mem)(R:RT)(h:
 lV [int i64 aA,slice aM aK aN,slice aJ aI aO] λxL=>fzM m xL λb m'=>kB pG 39 [agg (.mk xL)] m' λb m'=>br (!b) (rtM m m' R (slice none 0 0)) (kF pG 44 [agg (.mk xL)] m' λg fi ca m'=>kS pG 43
 [func (Fn.func g) (Array.mk fi) (Array.mk ca)] m' λa n c m'=>rtM m m' R (slice a n c))):CX Tryz.prog 12 #[.agg #[.int .i64 aA,.slice aM aK aN,.slice aJ aI aO]] m [] R:=
 Zad (E:=ZgR) Zam mix Tryz.func12 (by kernel_rfl) (Eq.mp (by kernel_rfl) h)
end Go.Proofs.YtdopppmkbkkmiaaGreatDoor
namespace Go.Proofs.YtdopppmkbkkmiaaGreatDoor
open Go Go.Eng Go.Rx Go.Proofs Go.RowKit
set_option maxRecDepth 100000
def ZuZ(l:List UInt8):List Value:=(List.range 256).map λi=>.bool (l.any λc=>c.toNat == i)
theorem Ziw(l:List UInt8):(ZuZ l).length=256:=by rw[ZuZ,List.length_map,List.length_range]
theorem Zgq(l:List UInt8){i:Nat}(h:i < 256):(ZuZ l)[i]?=some (.bool (l.any λc=>c.toNat == i)):=by
 rw[ZuZ,List.getElem?_map,List.getElem?_range h];rfl
theorem Zqp(l:List UInt8):Zds (ZuZ l)=true:=by
 have:∀L:List Nat,Zds (L.map λi=>Value.bool (l.any λc=>c.toNat == i))=true:=λL=>by
  induction L with
  | nil=>rfl
  | cons x L ih=>rw[List.map_cons];simp only[Zds,ih];rfl
 exact this _
theorem Zu0(l:List UInt8)(c:UInt8):ZaB (ZuZ l) (0+c.toNat*1) [.bool true]=ZuZ (l++[c]):=by
 have hc:c.toNat < 256:=c.toNat_lt
 apply List.ext_getElem?
 intro i
 have hl:=Ziw l
 unfold ZaB
 rw[Nat.zero_add,Nat.mul_one,List.append_assoc]
 rcases Nat.lt_trichotomy i c.toNat with h|h|h
 ·rw[zA5 (by rw[List.length_take];omega),List.getElem?_take_of_lt h,Zgq l (by omega),Zgq _ (by omega),List.any_append]
  have:(c.toNat == i)=false:=by simp;omega
  simp[this]
 ·subst h
  have e:(List.take c.toNat (ZuZ l)).length=c.toNat:=by rw[List.length_take];omega
  rw[zA4 (by omega),e,Nat.sub_self,Zgq _ hc,List.any_append]
  simp
 ·have e:(List.take c.toNat (ZuZ l)).length=c.toNat:=by rw[List.length_take];omega
  rw[zA4 (by omega),e,zA4 (by simp;omega),List.getElem?_drop]
  rw[show c.toNat + [Value.bool true].length+(i - c.toNat - [Value.bool true].length)=i by simp;omega]
  rcases Nat.lt_or_ge i 256 with h2|h2
  ·rw[Zgq l h2,Zgq _ h2,List.any_append]
   have:(c.toNat == i)=false:=by simp;omega
   simp[this]
  ·rw[List.getElem?_eq_none (by omega),List.getElem?_eq_none (by rw[Ziw];exact h2)]
theorem Zh2{s:ByteArray}{n:Nat}{c:UInt8}(h:s.data.toList[n]?=some c):ZgX s n=(c.toNat:Int):=by
 unfold ZgX
 rw[List.getD_eq_getElem?_getD,h];rfl
theorem ZcC{α:Type}{l:List α}{n:Nat}(h:n < l.length):∃c,l[n]?=some c:=⟨_,zA3 h⟩
theorem ZxK(s:ByteArray)(hs:s.size<=1000000000000000)(h:∀c∈s.data.toList,c.toNat < 128)(m:Mem):CX Tryz.prog 182 #[.string s] m [] (Ret (.tuple #[.agg (ZuZ s.data.toList).toArray,.bool true])):=by
 apply Zdk
 intro b
 have hl:=ZdO s
 refine⟨λxs css _ m' q=>∃k:Nat,k<=s.size/\xs=[.int .i64 k]/\css=[ZuZ (s.data.toList.take k)]/\q=s.size - k,⟨_,0,by omega,rfl,by rw[List.take_zero];rfl,rfl⟩,?_⟩
 rintro n cs m1 q aB ⟨k,hk,hx,cA,hq⟩
 obtain rfl:n=k:=by simpa using hx
 obtain rfl:cs=ZuZ (s.data.toList.take k):=by simpa using cA
 subst hq
 refine Zab (λaG=>?_) (λbK=>?_)
 ·have aT:k < s.size:=by have:=zA6 aG;omega
  obtain⟨c,hc⟩:=ZcC (l:=s.data.toList) (n:=k) (by omega)
  have x4:=h c (zA2 hc)
  have hw:IntKind.i64.wrap ((k:Int)+1)=((k+1:Nat):Int):=by rw[Zal (by omega) (by omega)];rfl
  simp only[hw,zA8,Zh2 hc]
  refine⟨⟨by omega,by omega⟩,Zab (λh=>absurd (zA6 h) (by omega)) (λ_=>⟨⟨by omega,by omega⟩,Zaa (by rw[Nat.ble_eq,Ziw];omega) ⟨by trivial,s.size - (k+1),by omega,k+1,by omega,rfl,?_,rfl⟩⟩)⟩
  rw[Zu0,List.take_add_one,hc];rfl
 ·have hk':k=s.size:=by have:=of_decide_eq_false bK;omega
  subst hk'
  rw[<-hl,List.take_length]
  exact Zaa (by rw[Ziw,Zqp];rfl) (Zac aB rfl)
def ZB8(p:UInt8->Bool)(s:ByteArray):Value->Mem->List (List Value)->Prop:=λv _ _=>∃z:ByteArray,v=.string z/\z.size<=s.size/\s.data.toList.all p=z.data.toList.all p/\(z.size=0\/z.data.toList.all p=false)
theorem ZjR(l:List UInt8)(c:UInt8)(b:Nat)(m:Mem)(hb:m.reads b 0 (ZuZ l)):CX Tryz.prog 195 #[.pointer (some ⟨b,0,none⟩),.int .u8 c.toNat] m [] (Ret (.bool (l.any λx=>x.toNat == c.toNat))):=by
 apply Zcw
 have hc:c.toNat < 256:=c.toNat_lt
 refine⟨⟨by omega,by omega⟩,_,?_,Zac (Mem.le_refl m) rfl⟩
 rw[zA8,Nat.mul_one,Nat.add_comm]
 have:=hb c.toNat _ (Zgq l hc)
 rw[Nat.zero_add]at this;exact this
theorem ZzT(z:ByteArray){c:UInt8}{r:List UInt8}(h:z.data.toList=c::r):(z.extract 1 z.size).data.toList=r:=by
 rw[ByteArray.data_extract,Array.toList_extract,h]
 have:z.size=r.length+1:=by rw[<-ZdO,h];rfl
 simp[this]
theorem ZxL(z:ByteArray){c:UInt8}{r:List UInt8}(h:z.data.toList=r++[c]):(z.extract 0 (z.size - 1)).data.toList=r:=by
 rw[ByteArray.data_extract,Array.toList_extract,h]
 have:z.size=r.length+1:=by rw[<-ZdO,h];simp
 simp[this]
theorem ZxM(l:List UInt8)(s:ByteArray)(hs:s.size<=1000000000000000)(b:Nat)(m:Mem)(hb:m.reads b 0 (ZuZ l)):CX Tryz.prog 183 #[.string s,.pointer (some ⟨b,0,none⟩)] m [] (ZB8 (λc=>l.any λx=>x.toNat == c.toNat) s):=by
 apply Zc7
 refine⟨λxs _ _ m' q=>∃z:ByteArray,xs=[.string z]/\z.size<=s.size/\s.data.toList.all (λc=>l.any λx=>x.toNat == c.toNat)=z.data.toList.all (λc=>l.any λx=>x.toNat == c.toNat)/\q=z.size,⟨_,s,rfl,Nat.le_refl _,rfl,rfl⟩,?_⟩
 rintro z m1 q aB ⟨z',hx,bI,cB,hq⟩
 obtain rfl:z=z':=by simpa using hx
 subst hq
 have hl:=ZdO z
 refine Zab (λaG=>?_) (λbK=>?_)
 ·have h0:0 < z.size:=by have:=zA6 aG;omega
  cases hz:z.data.toList with
  | nil=>rw[hz]at hl;simp at hl;omega
  | cons c r=>
   have he:=ZzT z hz
   have hr:(z.extract 1 z.size).size=z.size - 1:=by rw[<-ZdO,he,<-hl,hz];simp
   have hc:ZgX z (Int.toNat 0)=(c.toNat:Int):=Zh2 (by rw[hz];rfl)
   rw[hc]
   refine⟨⟨by omega,by omega⟩,Zah (ZjR l c b m1 (hb.mono aB)) λm2 aH=>Zab (λh=>?_) (λh=>?_)⟩
   ·refine Zac (mLt aB aH) ⟨z,rfl,bI,cB,.inr ?_⟩
    have h':(l.any λx=>x.toNat == c.toNat)=false:=by simpa using h
    rw[hz,List.all_cons,h'];rfl
   ·have h':(l.any λx=>x.toNat == c.toNat)=true:=by simpa using h
    refine⟨⟨by omega,by omega⟩,z.size - 1,by omega,_,rfl,?_,?_,?_⟩
    ·show(z.extract 1 z.size).size<=_
     omega
    ·rw[cB,hz,List.all_cons,h',Bool.true_and]
     show _=(z.extract 1 z.size).data.toList.all _
     rw[he]
    ·show _=(z.extract 1 z.size).size
     omega
 ·have h0:z.size=0:=by have:=of_decide_eq_false bK;omega
  exact Zac aB ⟨z,rfl,bI,cB,.inl h0⟩
theorem ZxN(l:List UInt8)(s:ByteArray)(hs:s.size<=1000000000000000)(b:Nat)(m:Mem)(hb:m.reads b 0 (ZuZ l)):CX Tryz.prog 184 #[.string s,.pointer (some ⟨b,0,none⟩)] m [] (ZB8 (λc=>l.any λx=>x.toNat == c.toNat) s):=by
 apply ZcT
 refine⟨λxs _ _ m' q=>∃z:ByteArray,xs=[.string z]/\z.size<=s.size/\s.data.toList.all (λc=>l.any λx=>x.toNat == c.toNat)=z.data.toList.all (λc=>l.any λx=>x.toNat == c.toNat)/\q=z.size,⟨_,s,rfl,Nat.le_refl _,rfl,rfl⟩,?_⟩
 rintro z m1 q aB ⟨z',hx,bI,cB,hq⟩
 obtain rfl:z=z':=by simpa using hx
 subst hq
 have hl:=ZdO z
 refine Zab (λaG=>?_) (λbK=>?_)
 ·have h0:0 < z.size:=by have:=zA6 aG;omega
  have hw:IntKind.i64.wrap ((z.size:Int) - 1)=((z.size - 1:Nat):Int):=by rw[Zal (by omega) (by omega)];omega
  obtain⟨r,c,hz⟩:∃r c,z.data.toList=r++[c]:=by
   rcases List.eq_nil_or_concat z.data.toList with h|⟨r,c,h⟩
   ·rw[h]at hl;simp at hl;omega
   ·exact⟨r,c,by simpa using h⟩
  have he:=ZxL z hz
  have hr:(z.extract 0 (z.size - 1)).size=z.size - 1:=by rw[<-ZdO,he,<-hl,hz];simp
  have hc:ZgX z (z.size - 1)=(c.toNat:Int):=Zh2 (by rw[hz,zA4 (by rw[<-hl,hz];simp),<-hl,hz];simp)
  simp only[hw,zA8,hc]
  refine⟨⟨by omega,by omega⟩,Zah (ZjR l c b m1 (hb.mono aB)) λm2 aH=>Zab (λh=>?_) (λh=>?_)⟩
  ·refine Zac (mLt aB aH) ⟨z,rfl,bI,cB,.inr ?_⟩
   have h':(l.any λx=>x.toNat == c.toNat)=false:=by simpa using h
   rw[hz,List.all_append,List.all_cons,h'];simp
  ·have h':(l.any λx=>x.toNat == c.toNat)=true:=by simpa using h
   refine⟨⟨by omega,by omega⟩,z.size - 1,by omega,_,rfl,by omega,?_,by omega⟩
   rw[cB,hz,List.all_append,List.all_cons,h',he];simp
 ·have h0:z.size=0:=by have:=of_decide_eq_false bK;omega
  exact Zac aB ⟨z,rfl,bI,cB,.inl h0⟩
def ZcU:ByteArray:=⟨#[97,98,99,100,101,102,103,104,105,106,107,108,109,110,111,112,113,114,115,116,117,118,119,120,121,122,48,49,50,51,52,53,54,55,56,57,95]⟩
theorem Zu1(c:UInt8):(ZcU.data.toList.any λx=>x.toNat == c.toNat)=Zyw c:=by
 have:∀n:Nat,n < 256->(ZcU.data.toList.any λx=>x.toNat == n)=((decide (97<=n)&&decide (n<=122))||(decide (48<=n)&&decide (n<=57))||n == 95):=by decide +kernel
 exact this c.toNat c.toNat_lt
def ZCX(s:ByteArray):Value->Mem->List (List Value)->Prop:=λv _ _=>∃z:ByteArray,v=.string z/\(z.size == 0)=s.data.toList.all Zyw
theorem ZzU(s:ByteArray)(hs:s.size<=1000000000000000)(m:Mem):CX Tryz.prog 159 #[.string s,.string ZcU] m [] (ZCX s):=by
 apply ZhK
 have e0:(ZcU.toList == ByteArray.toList ⟨#[]⟩)=false:=by rw[Zcs];rfl
 refine⟨s.size == 0,Zab (λh=>by rw[Zcs]at h;rw[h]) (λh=>by rw[Zcs]at h;rw[h,e0]),?_⟩
 refine Zab (λh=>?_) (λh=>?_)
 ·refine Zac (Mem.le_refl m) ⟨s,rfl,?_⟩
  rw[h]
  have:s.data.toList=[]:=List.eq_nil_of_length_eq_zero (by rw[ZdO];simpa using h)
  rw[this];rfl
 refine⟨false,Zfj (by decide) rfl,Zfj rfl ?_⟩
 refine Zaj (ZxK ZcU (by decide) (by decide) m) (λv _ _ e=>by rw[show v=_ from e];rfl) ?_
 intro cs b m1 aB hv
 have hv:Value.tuple (Array.mk [Value.agg (Array.mk cs),Value.bool b])=Value.tuple #[.agg (ZuZ ZcU.data.toList).toArray,.bool true]:=hv
 simp only[Value.tuple.injEq,Value.agg.injEq,Array.mk.injEq,List.cons.injEq,Value.bool.injEq,and_true]at hv
 obtain⟨rfl,rfl⟩:=hv
 intro b1
 refine Zaa (by rw[Ziw,Zqp];rfl) (Ztv rfl λm2 aH cQ=>?_)
 refine Zaj (ZxN ZcU.data.toList s hs b1 m2 cQ) (λv _ _ ⟨_,e,_⟩=>by rw[e];rfl) ?_
 rintro z m3 aS ⟨z1,hz,rJ,rS,zr⟩
 obtain rfl:z=z1:=by simpa using hz
 refine Zaj (ZxM ZcU.data.toList z (by omega) b1 m3 (cQ.mono aS)) (λv _ _ ⟨_,e,_⟩=>by rw[e];rfl) ?_
 rintro y m4 bM ⟨y1,hy,zt,vN,vO⟩
 obtain rfl:y=y1:=by simpa using hy
 refine Zac (mLt aB (mLt aH (mLt aS bM))) ⟨y,rfl,?_⟩
 have hp:(λc:UInt8=>ZcU.data.toList.any λx=>x.toNat == c.toNat)=Zyw:=funext Zu1
 rw[hp]at rS vN vO
 rw[rS,vN]
 rcases vO with h0|h0
 ·have:y.data.toList=[]:=List.eq_nil_of_length_eq_zero (by rw[ZdO];exact h0)
  rw[this,h0];rfl
 ·rw[h0]
  have:¬y.size=0:=λe=>by
   have:y.data.toList=[]:=List.eq_nil_of_length_eq_zero (by rw[ZdO];exact e)
   rw[this]at h0;simp at h0
  simpa using this
theorem Zh3(s:ByteArray)(hs:s.size<=1000000000000000)(m:Mem):CX Tryz.prog 119 #[.string s] m [] (Ret (.bool (ZbQ s))):=by
 apply Zi5
 refine Zab (λh=>Zac (Mem.le_refl m) ?_) (λh=>?_)
 ·rw[Zcs]at h;simp[Ret,ZbQ,h]
 rw[Zcs]at h
 have x5:¬s.size=0:=by simpa using h
 have gN:0 < s.size:=by omega
 obtain⟨c,hc⟩:=ZcC (l:=s.data.toList) (n:=0) (by rw[ZdO];exact gN)
 have hD:s.data.toList.getD 0 0=c:=by rw[List.getD_eq_getElem?_getD,hc];rfl
 rw[show Int.toNat 0=0 from rfl,Zh2 hc]
 refine Zab (λh1=>Zac (Mem.le_refl m) ?_) (λh1=>⟨⟨by omega,by omega⟩,Zab (λh2=>Zac (Mem.le_refl m) ?_) (λh2=>⟨⟨by omega,by omega⟩,Zab (λh3=>Zac (Mem.le_refl m) ?_) (λh3 b hf=>?_)⟩)⟩)
 ·have:s.size > 16:=by have:=zA6 h1;omega
  show Value.bool false=_
  unfold ZbQ;rw[h,decide_eq_true this];rfl
 ·have:c.toNat < 97:=by have:=zA6 h2;omega
  show Value.bool false=_
  unfold ZbQ;rw[hD,decide_eq_true this];simp
 ·have:c.toNat > 122:=by have:=zA6 h3;omega
  show Value.bool false=_
  unfold ZbQ;rw[hD,decide_eq_true this];simp
 have g1:¬s.size > 16:=by have:=of_decide_eq_false h1;omega
 have g2:¬c.toNat < 97:=by have:=of_decide_eq_false h2;omega
 have g3:¬c.toNat > 122:=by have:=of_decide_eq_false h3;omega
 have hN:ZbQ s=(!(ZmY.any λw=>eqS w s)&&s.data.toList.all Zyw):=by
  unfold ZbQ;rw[h,decide_eq_false g1,hD,decide_eq_false g2,decide_eq_false g3];rfl
 have hE:(ZmY.any λy=>eqS s y)=ZmY.any λw=>eqS w s:=by
  congr 1;funext w;unfold eqS;exact Bool.beq_comm
 have bH:=Mem.le_add hf (ZcQ ZmY)
 refine Zah (Zb9 ZmY (some ⟨b,0,none⟩) 3 s (m.add b (ZcQ ZmY)) (by decide) (.inr ⟨b,0,rfl,λj v hj=>by rw[Nat.zero_add,Mem.add_same];exact hj⟩)) λm1 aB=>Zab (λh4=>Zac (mLt bH aB) ?_) (λh4=>?_)
 ·rw[hE]at h4
  show Value.bool false=_
  rw[hN,h4];rfl
 rw[hE]at h4
 refine Zaj (ZzU s hs m1) (λv _ _ ⟨_,e,_⟩=>by rw[e];rfl) ?_
 rintro z m2 aH ⟨z',hz,rS⟩
 obtain rfl:z=z':=by simpa using hz
 refine Zac (mLt bH (mLt aB aH)) ?_
 show Value.bool _=_
 rw[Zcs,hN,h4,rS];rfl
theorem ZzV(k:Int)(m:Mem):CX Tryz.prog 191 #[.int .u8 k] m [] (Ret (.int .i64 (Zmb k))):=by
 apply Zno
 refine Zab (λh=>Zac (Mem.le_refl m) ?_) (λh=>⟨decide (k ≥ 2)&&decide (k<=7),Zab (λh2=>by rw[h2];rfl) (λh2=>by rw[h2];rfl),Zab (λh2=>Zac (Mem.le_refl m) ?_) (λh2=>Zac (Mem.le_refl m) ?_)⟩)
 all_goals
  show Value.int _ _=Value.int _ _
  congr 1
  unfold Zmb
 ·have:k=1:=by simpa using h
  rw[if_pos this]
 ·have h1:¬k=1:=by simpa using h
  simp only[zA7,decide_eq_true_eq]at h2
  rw[if_neg h1,if_pos (by omega)]
 ·have h1:¬k=1:=by simpa using h
  simp only[Bool.and_eq_false_iff,decide_eq_false_iff_not]at h2
  rw[if_neg h1,if_neg (by omega)]
theorem Zu2(t:E)(m:Mem)(hr:RepE m t):CX Tryz.prog 168 #[t.v] m [] (Ret (.bool t.right)):=by
 have cH:=ZsC hr
 have oS:=ZeX hr
 apply ZkY
 intro b m1 aB _
 have tail:∀(M0:Mem)(name number capture neg:Bool),t.right=(decide (t.k<=10)&&(name&&(number&&(capture&&((t.subs.length:Int) == Zmb t.k&&!neg)))))->m.le M0->
   ∃f:Fx,br (decide (t.k<=10)) (br name (br number (br capture (∃R_3:RT,R_3=f 18 [.int .u8 t.k] M0/\CX Tryz.prog 191 #[.int .u8 t.k] M0 [] R_3/\Za7 (.int .i64) R_3/\∀(n:Int)(m':Mem),M0.le m'->R_3 (.int .i64 n) m' []->br ((t.subs.length:Int) == n) (∀M:Mem,M0.le M->m'.le M->∃m'':Mem,m.le m''/\m''.le M/\Ret (.bool t.right) (.bool !neg) m'' []) (∀M:Mem,M0.le M->m'.le M->∃m'':Mem,m.le m''/\m''.le M/\Ret (.bool t.right) (.bool false) m'' []))
    (∀M:Mem,M0.le M->M0.le M->∃m'':Mem,m.le m''/\m''.le M/\Ret (.bool t.right) (.bool false) m'' [])) (∀M:Mem,M0.le M->M0.le M->∃m'':Mem,m.le m''/\m''.le M/\Ret (.bool t.right) (.bool false) m'' [])) (∀M:Mem,M0.le M->M0.le M->∃m'':Mem,m.le m''/\m''.le M/\Ret (.bool t.right) (.bool false) m'' []))
    (∀M:Mem,M0.le M->M0.le M->∃m'':Mem,m.le m''/\m''.le M/\Ret (.bool t.right) (.bool false) m'' []):=λM0 name number capture neg he x6=>by
  have fin:∀{x:Bool} {M:Mem},t.right=x->M0.le M->∃m'':Mem,m.le m''/\m''.le M/\Ret (.bool t.right) (.bool x) m'' []:=λ{x M} h hM=>Zac (mLt x6 hM) (by show Value.bool x=Value.bool t.right;rw[h])
  refine⟨λ_ _ _=>Ret (.int .i64 (Zmb t.k)),Zab (λh1=>Zab (λh2=>Zab (λh3=>Zab (λh4=>⟨_,rfl,ZzV t.k M0,λv _ _ e=>by rw[show v=_ from e];rfl,λn m' hm' hn=>?_⟩) (λh4 M hM _=>fin ?_ hM)) (λh3 M hM _=>fin ?_ hM)) (λh2 M hM _=>fin ?_ hM)) (λh1 M hM _=>fin ?_ hM)⟩
  ·obtain rfl:n=Zmb t.k:=by cases hn;rfl
   refine Zab (λh5 M hM _=>fin ?_ hM) (λh5 M hM _=>fin ?_ hM)
   ·rw[he,h1,h2,h3,h4,h5];rfl
   ·rw[he,h5];simp
  ·simp[he,h4]
  ·simp[he,h3]
  ·simp[he,h2]
  ·rw[he,h1];simp
 refine⟨λ_ _ _=>Ret (.bool (Zuh t.x 0)),_,rfl,Zs8 t.x 0 m1,λv _ _ e=>by rw[show v=_ from e];rfl,λb1 m2 aH cM M jM ic=>?_⟩
 obtain rfl:b1=Zuh t.x 0:=by cases cM;rfl
 have hM:=mLt aB jM
 refine Zab (λh8=>?_) (λh8=>Zab (λh9=>?_) (λh9=>Zab (λim=>?_) (λim=>Zab (λh0=>?_) (λh0=>?_))))
 ·have hk:t.k=8:=by simpa using h8
  refine Zah (Zqe t.x M) λm3 aS=>⟨false,Zfj (by rw[hk];rfl) ⟨by trivial,rfl⟩,tail m3 _ _ _ _ ?_ (mLt hM aS)⟩
  unfold E.right;rw[Zcs];simp[hk]
 ·have hk:t.k=9:=by simpa using h9
  refine Zah (Zh3 t.s cH.s M) λm3 aS=>⟨false,Zfj (by rw[hk];rfl) ⟨by trivial,rfl⟩,tail m3 _ _ _ _ ?_ (mLt hM aS)⟩
  unfold E.right;simp[hk]
 ·have hk:t.k=10:=by simpa using im
  refine⟨decide (t.g ≥ 0)&&decide (t.g<=9),Zab (λh=>⟨by trivial,by rw[h];rfl⟩) (λh=>⟨by trivial,by rw[h];rfl⟩),false,Zfj (by rw[hk];rfl) ⟨by trivial,rfl⟩,tail M _ _ _ _ ?_ hM⟩
  unfold E.right;rw[Zcs];simp[hk]
 ·refine Zac hM ?_
  show Value.bool false=Value.bool t.right
  unfold E.right;rw[h0];rfl
 ·have e8:¬t.k=8:=by simpa using h8
  have e9:¬t.k=9:=by simpa using h9
  have e10:¬t.k=10:=by simpa using im
  refine⟨t.k == 1&&(t.subs.length == 1&&Zkq t.subs),?_,tail M _ _ _ _ ?_ hM⟩
  ·refine Zab (λh1=>Zab (λh2=>?_) (λh2=>⟨by trivial,?_⟩)) (λh1=>⟨by trivial,by rw[h1];rfl⟩)
   ·have aQ:t.subs.length=1:=by
     have:=zA6 (show decide ((t.subs.length:Int)=1)=true from h2)
     omega
    cases hs:t.subs with
    | nil=>rw[hs]at aQ;simp at aQ
    | cons u r=>
     rcases oS.2 with h|⟨bb,o,ha,fI⟩
     ·rw[h]at aQ;simp at aQ
     ·rw[hs]at fI
      have h3:=((fI.mono' hM).get (i:=0) (t:=u) rfl).1 0 _ rfl
      rw[Nat.zero_mul]at h3
      refine⟨bb,o,ha,⟨by omega,by simp⟩,_,h3,Zaa rfl ⟨by trivial,?_⟩⟩
      rw[h1]
      have:(u::r).length=1:=by rw[<-hs];exact aQ
      rw[this];rfl
   ·have:(t.subs.length == 1)=false:=by
     have h:=of_decide_eq_false (show decide ((t.subs.length:Int)=1)=false from h2)
     exact decide_eq_false (by omega)
    rw[this];simp
  ·unfold E.right;rw[Zcs,h0];simp[e8,e9,e10]
theorem Zqq(t:E)(m:Mem)(hr:RepE m t):CX Tryz.prog 136 #[t.v] m [] (Ret (.bool t.clean)):=by
 apply ZkZ
 intro b m1 aB _ b2
 refine Zah (Zdm t m1 (RepE.mono' hr aB)) λm2 aH=>Zab (λh=>Zac (mLt aB aH) ?_) (λh=>?_)
 ·have:t.light=false:=by simpa using h
  simp[Ret,E.clean,this]
 have hl:t.light=true:=by simpa using h
 refine Zaj (ZfM t m2) (λv m' css h=>by obtain⟨_,rfl,_⟩:=h;rfl) ?_
 rintro g fi ca m3 aS ⟨b3,hv,eS⟩
 obtain⟨rfl,rfl,rfl⟩:=Zcr hv
 have bH:=mLt aB (mLt aH aS)
 refine⟨_,Zej t m3 b3 eS (RepE.mono' hr bH),λy hy=>?_,λ_ css _ m' q=>m3.le m'/\∀x∈t.nodes.take q,x.right=true,⟨Mem.le_refl _,by simp⟩,?_,?_⟩
 ·obtain⟨z,_,rfl⟩:=List.mem_map.1 hy;exact Zl5 z
 ·rintro n0 v0 s0 n3 a n7 c cs m4 q bM hq ⟨_,ib⟩ b4
  have hq':(List.map (λz:E=>[z.v]) t.nodes)[(q:Nat)]?=some [Value.agg #[.int .u8 n0,v0,.string s0,.int .i64 n3,.slice a n7 c]]:=hq
  rw[List.getElem?_map]at hq'
  obtain⟨z,hz,iV⟩:=Option.map_eq_some_iff.1 hq'
  have lB:z.v=Value.agg #[.int .u8 n0,v0,.string s0,.int .i64 n3,.slice a n7 c]:=by simpa using iV
  have tz:RepE m4 z:=RepE.mono' (Zl7 (RepE.mono' hr bH) (zA2 hz)) bM
  have gJ:=Zu2 z m4 tz
  rw[lB]at gJ
  have my:v0=.float .f64 z.x:=by
   simp only[E.v,Value.agg.injEq,Array.mk.injEq,List.cons.injEq]at lB
   exact lB.2.1.symm
  refine Zaa (by rw[my];rfl) ?_
  refine Zah gJ λm5 cV=>Zab (λh=>⟨by trivial,Zac (mLt bH (mLt bM cV)) ?_⟩) (λh=>⟨by trivial,mLt bM cV,λx hx=>?_⟩)
  ·have pX:z.right=false:=by simpa using h
   have:t.nodes.all E.right=false:=by
    rw[List.all_eq_false];exact⟨z,zA2 hz,by simp[pX]⟩
   simp[Ret,E.clean,this]
  ·rw[List.take_add_one,hz]at hx
   rcases List.mem_append.1 hx with hx|hx
   ·exact ib x hx
   ·simp at hx;rw[hx];simpa using h
 ·rintro cs m4 bM ⟨_,ib⟩
  refine Zac (mLt bH bM) ?_
  rw[List.length_map,List.take_length]at ib
  have:t.nodes.all E.right=true:=List.all_eq_true.2 ib
  simp[Ret,E.clean,this,hl]
theorem Zli(l l':List E)(a a':Option Addr)(c c':Nat)(m:Mem)(hl:l.length<=1000000000000000)(hr:l=[]\/∃b o,a=some ⟨b,o,none⟩/\RepEAt m b o l)(hr':l'=[]\/∃b o,a'=some ⟨b,o,none⟩/\RepEAt m b o l')
  (hp:∀x∈l,∀y∈l',∀m',m.le m'->RepE m' x->RepE m' y->CX Tryz.prog 192 #[x.v,y.v] m' [] (Ret (.bool (x.same y)))):
  CX Tryz.prog 203 #[.slice a l.length c,.slice a' l'.length c',.func (.func 192) #[] #[]] m [] (Ret (.bool (ZcM l l'))):=by
 apply ZaA a l.length c a' l'.length c' _ [] []
 refine Zab (λh=>Zac (Mem.le_refl _) ?_) (λh=>?_)
 ·have:¬l.length=l'.length:=by
   intro e;rw[e]at h;simp at h
  show Value.bool false=_
  rw[Zl8 this]
 have iD:l.length=l'.length:=by
  have h2:((l.length:Int) == (l'.length:Int))=true:=by simpa using h
  have:=zA6 h2;omega
 refine⟨λxs _ _ m'' q=>∃i:Nat,i<=l.length/\xs=[.int .i64 i]/\ZcM (l.take i) (l'.take i)=true/\m.le m''/\q=l.length - i,⟨l.length,0,by omega,rfl,by simp[ZcM],Mem.le_refl _,by omega⟩,?_⟩
 rintro n m' q hm ⟨i,hi,hn,dQ,bH,hq⟩
 obtain rfl:n=i:=by simpa using hn
 refine Zab (λaG=>?_) (λbK=>?_)
 ·have aT:i < l.length:=by simpa using aG
  obtain⟨x,hx⟩:∃x,l[i]?=some x:=⟨_,zA3 aT⟩
  obtain⟨y,hy⟩:∃y,l'[i]?=some y:=⟨_,zA3 (by omega)⟩
  have mQ:x∈l:=zA2 hx
  have qo:y∈l':=zA2 hy
  rcases hr with h0|⟨b1,o1,ha,fI⟩
  ·rw[h0]at aT;simp at aT
  rcases hr' with h0|⟨b2,o2,ha',oO⟩
  ·rw[h0]at iD;simp at iD;rw[iD]at aT;simp at aT
  obtain⟨dH,dY⟩:=(fI.mono' hm).get hx
  obtain⟨jP,lC⟩:=(oO.mono' hm).get hy
  refine⟨b1,o1,ha,⟨by omega,by omega⟩,_,_,_,_,_,dH,λb3=>Zaa rfl ⟨b2,o2,ha',⟨by omega,by omega⟩,_,_,_,_,_,jP,λb4=>Zaa rfl ?_⟩⟩
  refine Zah (hp x mQ y qo m' hm dY lC) λm1 aB=>Zab (λeK=>?_) (λeK=>?_)
  ·have hf:x.same y=false:=by simpa using eK
   refine Zac (mLt hm aB) ?_
   show Value.bool false=_
   rw[Zpo hx hy hf]
  ·have hf:x.same y=true:=by simpa using eK
   refine⟨l.length - (i+1),by omega,i+1,by omega,by rw[Zal (by omega) (by omega)];rfl,ZjJ hx hy dQ hf,mLt hm aB,rfl⟩
 ·have hi':i=l.length:=by
   have:¬((i:Int) < (l.length:Int)):=by simpa using bK
   omega
  subst hi'
  refine Zac hm ?_
  rw[List.take_length,iD,List.take_length]at dQ
  show Value.bool true=_
  rw[dQ]
theorem Ztd(t u:E)(m:Mem)(hr:RepE m t)(hu:RepE m u):CX Tryz.prog 192 #[t.v,u.v] m [] (Ret (.bool (t.same u))):=by
 apply Znr
 intro b m1 aB _ b' m2 aH _
 have hm:=mLt aB aH
 refine⟨t.same u,?_,Zac hm rfl⟩
 rw[Zw0]
 refine Zab (λh1=>?_) (λh1=>⟨by trivial,Zaf (by rw[h1];rfl)⟩)
 refine Zah (Zs8 t.x u.x m2) λm3 aS=>Zab (λh2=>Zab (λh3=>Zab (λh4=>?_) (λh4=>⟨by trivial,Zaf (by rw[h1,h2,h3,h4];rfl)⟩)) (λh3=>⟨by trivial,Zaf (by rw[h1,h2,h3];rfl)⟩)) (λh2=>⟨by trivial,Zaf (by rw[h1,h2];rfl)⟩)
 have hM:=mLt hm aS
 have hr':=ZeX (RepE.mono' hr hM)
 have hu':=ZeX (RepE.mono' hu hM)
 refine Zah (Zli t.subs u.subs t.a u.a t.c u.c m3 hr'.1 hr'.2 hu'.2 λx hx y hy m' _ dH jP=>?_) λm4 bM=>⟨by trivial,Zaf (by rw[h1,h2,h3,h4];rfl)⟩
 have bI:=Zl4 hx
 exact Ztd x y m' dH jP
termination_by SizeOf.sizeOf t
decreasing_by exact bI
theorem Zte(t u:E)(m:Mem)(hr:RepE m t)(hu:RepE m u):CX Tryz.prog 169 #[t.v,u.v] m [] (Ret (.bool (t.light&&(u.light&&t.same u)))):=by
 apply Zns
 intro b m1 aB _ b' m2 aH _
 have hm:=mLt aB aH
 refine⟨t.light&&(u.light&&t.same u),?_,Zac hm rfl⟩
 refine Zah (Zdm t m2 (RepE.mono' hr hm)) λm3 aS=>Zab (λh1=>?_) (λh1=>⟨by trivial,Zaf (by rw[h1];rfl)⟩)
 refine Zah (Zdm u m3 (RepE.mono' hu (mLt hm aS))) λm4 bM=>Zab (λh2=>?_) (λh2=>⟨by trivial,Zaf (by rw[h1,h2];rfl)⟩)
 have cV:=mLt (mLt hm aS) bM
 exact Zah (Ztd t u m4 (RepE.mono' hr cV) (RepE.mono' hu cV)) λm6 iI=>⟨by trivial,Zaf (by rw[h1,h2];rfl)⟩
def Zqr(l:List E):Int:=l.foldl (λn x=>if x.k=10 then(if x.g > n then x.g else n)else n) (-1)
theorem Ztf(t:E)(m:Mem)(hr:RepE m t):CX Tryz.prog 142 #[t.v] m [] (Ret (.int .i64 t.most)):=by
 apply Znu
 intro b m1 aB _ b2
 refine Zah (Zdm t m1 (RepE.mono' hr aB)) λm2 aH=>Zab (λhl=>?_) (λh=>Zac (mLt aB aH) (by simp[Ret,E.most,h]))
 refine Zaj (ZfM t m2) (λv m' css h=>by obtain⟨_,rfl,_⟩:=h;rfl) ?_
 rintro g fi ca m3 aS ⟨b3,hv,eS⟩
 obtain⟨rfl,rfl,rfl⟩:=Zcr hv
 have bH:=mLt aB (mLt aH aS)
 refine⟨_,Zej t m3 b3 eS (RepE.mono' hr bH),λy hy=>?_,λ_ css _ m' q=>css=[[.int .i64 (Zqr (t.nodes.take q))]],rfl,?_,?_⟩
 ·obtain⟨z,_,rfl⟩:=List.mem_map.1 hy;exact Zl5 z
 ·rintro n0 v0 s0 n3 a n7 c cs m4 q bM hq cA b4
  obtain rfl:cs=[.int .i64 (Zqr (t.nodes.take q))]:=by simpa using cA
  have hq':(List.map (λz:E=>[z.v]) t.nodes)[(q:Nat)]?=some [Value.agg #[.int .u8 n0,v0,.string s0,.int .i64 n3,.slice a n7 c]]:=hq
  rw[List.getElem?_map]at hq'
  obtain⟨z,hz,iV⟩:=Option.map_eq_some_iff.1 hq'
  simp only[E.v,List.cons.injEq,Value.agg.injEq,Array.mk.injEq,Value.int.injEq,Value.string.injEq,Value.slice.injEq,true_and,and_true]at iV
  obtain⟨rfl,rfl,rfl,rfl,rfl,rfl,rfl⟩:=iV
  have hs:Zqr (t.nodes.take (q+1))=if z.k=10 then(if z.g > Zqr (t.nodes.take q)then z.g else Zqr (t.nodes.take q))else Zqr (t.nodes.take q):=by
   rw[List.take_add_one,hz]
   unfold Zqr
   rw[List.foldl_append];rfl
  refine Zaa rfl (Zab (λh=>Zan rfl (Zaa rfl ⟨by trivial,?_⟩)) (λh=>⟨by trivial,?_⟩))
  ·have hk:z.k=10:=by simpa using h
   show[[_]]=[[Value.int .i64 (Zqr (t.nodes.take (q+1)))]]
   rw[hs,if_pos hk];rfl
  ·have hk:¬z.k=10:=by simpa using h
   show[[_]]=[[Value.int .i64 (Zqr (t.nodes.take (q+1)))]]
   rw[hs,if_neg hk]
 ·rintro cs m4 bM cA
  obtain rfl:cs=[.int .i64 (Zqr (t.nodes.take t.nodes.length))]:=by simpa using cA
  refine Zan rfl (Zac (mLt bH bM) ?_)
  rw[List.take_length]
  show Value.int _ _=Value.int _ t.most
  unfold E.most;rw[hl];rfl
theorem Zaq(m:Mem)(b:Nat)(cs:List Value):(m.add b cs).reads b 0 cs:=λj u hu=>by rw[Mem.add_same,Nat.zero_add];exact hu
abbrev Yn(v:Value):Nat->Prop:=λb=>(Tok.mk v 1).blk=some b
theorem ZzW{m m':Mem}{Y Y1:Nat->Prop}(h:(m.off Y).le m')(hn:∀b,Y1 b->Y b\/(m.free b/\m.k b=none)):(m.off Y).le (m'.off Y1):=by
 have no:∀b,Y1 b->(∀o,m.off Y b o=none)/\(m.off Y).k b=none:=λb hb=>by
  by_cases hY:Y b
  ·exact⟨Mem.off_free hY,Mem.off_kn hY⟩
  ·rcases hn b hb with h1|⟨h1,h2⟩
   ·exact absurd h1 hY
   ·exact⟨λo=>by rw[Mem.off_at hY];exact h1 o,by rw[Mem.off_k hY];exact h2⟩
 refine⟨λb o v hv=>?_,λb e he=>?_⟩
 ·by_cases hb:Y1 b
  ·rw[(no b hb).1 o]at hv;cases hv
  ·rw[Mem.off_at hb];exact h.c b o v hv
 ·by_cases hb:Y1 b
  ·rw[(no b hb).2]at he;cases he
  ·rw[Mem.off_k hb];exact h.k b e he
theorem Zwq{m m':Mem}(h:m.le m'){b:Nat}(hf:m'.free b/\m'.k b=none):m.free b/\m.k b=none:=by
 refine⟨λo=>?_,?_⟩
 ·cases e:m b o with
  | none=>rfl
  | some v=>have:=h.c b o v e;rw[hf.1 o]at this;cases this
 ·cases e:m.k b with
  | none=>rfl
  | some v=>have:=h.k b v e;rw[hf.2]at this;cases this
structure NmSt (m:Mem)(v0:Value)(m':Mem)(a:Option Addr)(c:Nat)(l:List ByteArray):Prop where
 row:rowRd m' a (ZcQ l)
 base:(m.off (Yn v0)).le (m'.off (Yn (.slice a l.length c)))
 new:∀b,Yn (.slice a l.length c) b->Yn v0 b\/(m.free b/\m.k b=none)
def NmR(v0:Value)(m:Mem)(l:List ByteArray):RTY:=λv m' css tvs=>∃a c,v=.slice a l.length c/\tvs=[.slice a l.length c]/\rowRd m' a (ZcQ l)/\∀b,Yn (.slice a l.length c) b->Yn v0 b\/(m.free b/\m.k b=none)
theorem ZxO{v0 m l}:∀(v:Value)(m':Mem) (css:List (List Value)) (tvs:List Value),NmR v0 m l v m' css tvs->Shape.fits .slice v=true:=λv _ _ _ ⟨_,_,e,_⟩=>by rw[e];rfl
theorem NmSt.step{m m' m'':Mem}{v0:Value}{a a':Option Addr}{c c':Nat}{l l':List ByteArray}(h:NmSt m v0 m' a c l)(bH:(m'.off (Yn (.slice a l.length c))).le m'')(hr:rowRd m'' a' (ZcQ l'))(hn:∀b,Yn (.slice a' l'.length c') b->Yn (.slice a l.length c) b\/(m'.free b/\m'.k b=none)):NmSt m v0 m'' a' c' l':=by
 refine⟨hr,mLt h.base (ZzW bH hn),λb hb=>?_⟩
 rcases hn b hb with h1|h1
 ·exact h.new b h1
 ·by_cases hY:Yn v0 b
  ·exact .inl hY
  ·have h2:=Zwq h.base (b:=b) ⟨λo=>by
    by_cases cM:Yn (.slice a l.length c) b
    ·exact Mem.off_free cM o
    ·rw[Mem.off_at cM];exact h1.1 o,by
    by_cases cM:Yn (.slice a l.length c) b
    ·exact Mem.off_kn cM
    ·rw[Mem.off_k cM];exact h1.2⟩
   refine .inr ⟨λo=>?_,?_⟩
   ·have:=h2.1 o;rwa [Mem.off_at hY]at this
   ·have:=h2.2;rwa [Mem.off_k hY]at this
theorem ZeI(l:List ByteArray):(ZcQ l).length=l.length:=by unfold ZcQ;exact List.length_map _
theorem Zqs(t:E):∀(out:List ByteArray)(a:Option Addr)(c:Nat)(m:Mem),rowRd m a (ZcQ out)->RepE (m.off (Yn (.slice a out.length c))) t->(t.names out).length<=1000000->
  CXY Tryz.prog 104 #[.slice a out.length c,t.v] m (Yn (.slice a out.length c)) [] [⟨.slice a out.length c,1⟩] (NmR (.slice a out.length c) m (t.names out)):=by
 intro out a c m ho hr h1
 have fY:=ZsD t out
 have mK:RepE m t:=RepE.mono (Mem.off_le m _) t hr
 apply ZgQ
 intro b m1 aB _ iY _
 refine Zab (λhk=>?_) (λhk=>?_)
 ·have tT:t.k=9:=by simpa using hk
  have hN:=Zpp t out
  rw[if_pos tT]at hN
  have hE:(out.any λy=>eqS t.s y)=out.any λy=>y.toList == t.s.toList:=by
   congr 1;funext w;unfold eqS;exact Bool.beq_comm
  refine Zah (Zb9 out a c t.s m1 (by omega) (ho.mono aB)) λm2 aH=>Zab (λh=>?_) (λh b2 hf=>?_)
  ·rw[hE]at h
   rw[hN,h,if_pos rfl]
   exact⟨a,c,rfl,rfl,ho.mono (mLt aB aH),λb hb=>.inl hb⟩
  ·rw[hE]at h
   rw[h,if_neg (by decide)]at hN
   have bH:m2.le (m2.add b2 [.string t.s]):=Mem.le_add hf _
   have eZ:=mLt aB (mLt aH bH)
   rw[hN,zA1,List.length_singleton]at h1
   refine⟨.inl rfl,ZcQ out,[.string t.s],by rw[ZeI];omega,rfl,ho.mono eZ,.inr ⟨b2,0,rfl,Zaq m2 b2 _⟩,λu hu=>?_,by omega,by omega,λa' c' m3 aS aD hT=>?_⟩
   ·obtain rfl:u=.string t.s:=by simpa using hu
    rfl
   ·rw[hN]
    have e:(out++[t.s]).length=out.length+1:=by rw[zA1];rfl
    refine⟨a',c',by rw[e],by rw[e],by unfold ZcQ at aD ⊢;rw[List.map_append];exact aD,λb' hb'=>?_⟩
    rcases hT.2 with h|⟨bb,oo,ha',h⟩
    ·rw[h]at hb';simp[Yn,Tok.blk]at hb'
    ·subst ha'
     obtain rfl:bb=b':=by simpa[Yn,Tok.blk]using hb'
     rcases h with h|⟨_,h2,h3⟩
     ·left;rw[h];simp[Yn,Tok.blk]
     ·exact .inr (Zwq eZ ⟨h2,h3⟩)
 ·have tT:¬t.k=9:=by simpa using hk
  have hN:=Zpp t out
  rw[if_neg tT]at hN
  rw[hN]at h1 ⊢
  have oS:=ZeX hr
  refine⟨λxs _ tks m' q=>∃(i:Nat)(a':Option Addr)(c':Nat),i<=t.subs.length/\xs=[.slice a' (ZbM (t.subs.take i) out).length c',.int .i64 i]/\tks=[.slice a' (ZbM (t.subs.take i) out).length c']/\NmSt m (.slice a out.length c) m' a' c' (ZbM (t.subs.take i) out)/\q=t.subs.length - i,
   ⟨_,0,a,c,by omega,by rw[List.take_zero];rfl,by rw[List.take_zero];rfl,by
    rw[List.take_zero]
    exact⟨ho.mono aB,ZzW (mLt (Mem.off_le m _) aB) λb hb=>.inl hb,λb hb=>.inl hb⟩,rfl⟩,?_⟩
  rintro a1 n1 c1 n a2 n2 c2 m2 q aH ⟨i,a',c',hi,hx,ht,hS,hq⟩
  simp only[List.cons.injEq,Value.slice.injEq,Value.int.injEq,and_true,true_and]at hx ht
  obtain⟨⟨ea,en,ec⟩,rfl⟩:=hx
  obtain⟨ea',en',ec'⟩:=ht
  subst a1 n1 c1 a2 n2 c2 q
  refine Zab (λaG=>?_) (λbK=>?_)
  ·have aT:i < t.subs.length:=by have:=zA6 aG;omega
   obtain⟨x,hx⟩:=ZcC aT
   have bL:=zA2 hx
   have bI:=Zl4 bL
   rcases oS.2 with h|⟨b1,o1,ha,fI⟩
   ·rw[h]at aT;simp at aT
   obtain⟨dH,dY⟩:=(fI.mono' hS.base).get hx
   have dH:=dH.mono (Mem.off_le m2 _)
   have hw:IntKind.i64.wrap ((i:Int)+1)=((i+1:Nat):Int):=by rw[Zal (by omega) (by omega)];rfl
   have eX:=Zrw hx out
   have qn:=Zui (l:=t.subs) (i:=i+1) out
   refine⟨b1,o1,ha,⟨by omega,by omega⟩,_,_,_,_,_,dH,λb2=>Zaa rfl ?_⟩
   refine⟨_,_,Zqs x (ZbM (t.subs.take i) out) a' c' m2 hS.row dY (by rw[<-eX];omega),λt' ht' bb fV=>?_,λbb fV=>.inl ⟨_,by simp,fV⟩,ZxO,?_⟩
   ·obtain rfl:t'=_:=by simpa using ht'
    exact fV
   ·rintro a3 n3 c3 m3 aS _ a4 c4 d4 ⟨a5,c5,hv,cS,cG,nT⟩
    simp only[Value.slice.injEq]at hv
    obtain⟨e1,e2,e3⟩:=hv
    subst a3 n3 c3
    simp only[List.cons.injEq,Value.slice.injEq,and_true]at cS
    obtain⟨e1,e2,e3⟩:=cS
    subst a4 c4 d4
    rw[<-eX]at cG nT ⊢
    refine⟨rfl,rfl,t.subs.length - (i+1),by omega,i+1,a5,c5,by omega,by rw[hw],rfl,hS.step aS cG nT,rfl⟩
  ·have hi':i=t.subs.length:=by have:=of_decide_eq_false bK;omega
   subst hi'
   rw[List.take_length]at hS ⊢
   exact⟨a',c',rfl,rfl,hS.row,hS.new⟩
termination_by SizeOf.sizeOf t
decreasing_by exact bI
theorem ZzX{P:Program}{g:FuncId}{args:Array Value}{m:Mem}{esz:Nat}{R:RTY}(h:CXY P g args m (Yn (.slice none 0 0)) [] [⟨.slice none 0 0,esz⟩] R):CX P g args m [] (λv m' css=>∃tvs,R v m' css tvs):=by
 have hY:∀b,¬Yn (.slice none 0 0) b:=λb hb=>by simp[Yn,Tok.blk]at hb
 have iu:m.le (m.off (Yn (.slice none 0 0))):=⟨λb o v hv=>by rw[Mem.off_at (hY b)];exact hv,λb e he=>by rw[Mem.off_k (hY b)];exact he⟩
 refine⟨h.1,λw h1 h2 h3=>(h.2 w h1 (by simp) (by simp) (λt ht=>?_) (λi j t t' b hi hj hb=>?_) (λb hb=>absurd hb (hY b))).mono ?_⟩
 ·obtain rfl:t=_:=by simpa using ht
  exact⟨.inl rfl,λb hb=>by simp[Tok.blk]at hb⟩
 ·intro _
  have hi:=zA2 hi
  obtain rfl:t=_:=by simpa using hi
  simp[Tok.blk]at hb
 ·rintro e w' ⟨v,m',css,tvs,a1,a2,a3,a4,a5,a6,a7,a8,a9,a10,a11⟩
  exact⟨v,m',css,a1,mLt iu a2,a3,a4.mono λb hb=>hb.resolve_left (hY b),⟨a5.os,a5.tape,a5.output,a5.size,λk hk _=>a5.block k hk (λhm=>hm.elim (by simp) (hY k)),a5.wr⟩,a6,a7,tvs,a11⟩
def ZB9(l:List ByteArray):Value->Mem->List (List Value)->Prop:=λv m' _=>∃a c,v=.slice a l.length c/\rowRd m' a (ZcQ l)
theorem Zu3{l}:∀(v:Value)(m':Mem) (css:List (List Value)),ZB9 l v m' css->Shape.fits .slice v=true:=λv _ _ ⟨_,_,e,_⟩=>by rw[e];rfl
theorem Ztg(t:E)(m:Mem)(hr:RepE m t):CX Tryz.prog 77 #[t.v] m [] (ZB9 t.vars):=by
 apply Znt
 intro b m1 aB _
 refine Zah (Zdm t m1 (RepE.mono' hr aB)) λm2 aH=>Zab (λh=>Zac (mLt aB aH) ?_) (λh=>?_)
 ·have hl:t.light=false:=by simpa using h
  have:t.vars=[]:=by unfold E.vars;rw[hl];rfl
  rw[this]
  exact⟨none,0,rfl,.inl rfl⟩
 ·have hl:t.light=true:=by simpa using h
  have hv:t.vars=t.names []:=by unfold E.vars;rw[hl];rfl
  have h1:(t.names []).length<=1000000:=by
   have h2:=ZdE t []
   have h3:=zA6 (show decide (t.nodes.length<=10000)=true from hl)
   simp only[List.length_nil]at h2
   omega
  rw[hv]
  have iu:m2.le (m2.off (Yn (.slice none 0 0))):=⟨λb o v hv=>by rw[Mem.off_at (λhb=>by simp[Yn,Tok.blk]at hb)];exact hv,λb e he=>by rw[Mem.off_k (λhb=>by simp[Yn,Tok.blk]at hb)];exact he⟩
  have key:=ZzX (Zqs t [] none 0 m2 (.inl rfl) (RepE.mono' hr (mLt aB (mLt aH iu))) h1)
  refine Zaj key (λv m' css ⟨_,_,_,e,_⟩=>by rw[e];rfl) ?_
  rintro a n c m3 aS ⟨tvs,a',c',hv',_,aD,_⟩
  simp only[Value.slice.injEq]at hv'
  obtain⟨rfl,rfl,rfl⟩:=hv'
  exact ZaH (mLt aB (mLt aH aS)) ⟨_,_,rfl,aD⟩
theorem Zms(l:List Sta)(a:Option Addr)(c:Nat)(g:Nat)(ca:List Value)(p:Sta->Bool)(m:Mem)(hl:l.length<=1000000000000000)(hr:rowRd m a (l.map Sta.cs).flatten)
  (hp:∀x∈l,∀m',m.le m'->CX Tryz.prog g (.agg x.cs.toArray::ca).toArray m' [] (Ret (.bool (p x)))):
  CX Tryz.prog 163 #[.slice a l.length c,.func (.func g) #[] ca.toArray] m [] (Ret (.int .i64 (if l.any p then(l.findIdx p:Nat)else(-1:Int)))):=by
 apply Zbc a l.length c g [] ca
 refine⟨λxs _ _ m'' q=>∃i:Nat,i<=l.length/\xs=[.int .i64 i]/\(∀x∈l.take i,p x=false)/\q=l.length - i,⟨l.length,0,by omega,rfl,by simp,by omega⟩,?_⟩
 rintro n m' q hm ⟨i,hi,hn,eT,hq⟩
 obtain rfl:n=i:=by simpa using hn
 refine Zab (λaG=>?_) (λbK=>?_)
 ·have aT:i < l.length:=by simpa using aG
  obtain⟨x,hx⟩:=ZcC aT
  have bL:x∈l:=zA2 hx
  obtain⟨b1,o1,ha,dP⟩:=Zao Sta.len (hr.mono hm) hx (by omega)
  refine⟨b1,o1,ha,⟨by omega,by omega⟩,_,_,dP,Zah (hp x bL m' hm) λm1 aB=>Zab (λeK=>?_) (λeK=>?_)⟩
  ·refine Zac (mLt hm aB) ?_
   have dR:l.any p=true:=List.any_eq_true.2 ⟨x,bL,eK⟩
   have eW:l.findIdx p=i:=by
    rw[List.findIdx_eq aT]
    refine⟨by rw[(zA0 hx).2];exact eK,λj hj=>?_⟩
    exact eT _ (List.mem_of_getElem? (i:=j) (by rw[List.getElem?_take_of_lt hj];exact zA3 (by omega)))
   simp[Ret,dR,eW]
  ·refine⟨l.length - (i+1),by omega,i+1,by omega,by rw[Zal (by omega) (by omega)];rfl,?_,rfl⟩
   intro y hy
   rw[List.take_add_one,hx]at hy
   rcases List.mem_append.1 hy with hy|hy
   ·exact eT y hy
   ·simp at hy;rw[hy];exact eK
 ·have hi':i=l.length:=by
   have:¬((i:Int) < (l.length:Int)):=by simpa using bK
   omega
  subst hi'
  refine Zac hm ?_
  have dR:l.any p=false:=by
   rw[List.any_eq_false]
   rw[List.take_length]at eT
   exact λx hx=>by simp[eT x hx]
  simp[Ret,dR]
theorem Zu4(l:List Sta)(a:Option Addr)(c:Nat)(g:Nat)(ca:List Value)(p:Sta->Bool)(m:Mem)(hl:l.length<=1000000000000000)(hr:rowRd m a (l.map Sta.cs).flatten)
  (hp:∀x∈l,∀m',m.le m'->CX Tryz.prog g (.agg x.cs.toArray::ca).toArray m' [] (Ret (.bool (p x)))):
  CX Tryz.prog 127 #[.slice a l.length c,.func (.func g) #[] ca.toArray] m [] (Ret (.bool (l.any p))):=by
 apply Za2 a l.length c g [] ca
 refine ZaC (Zms l a c g ca p m hl hr hp) λm' hm=>Zac hm ?_
 cases h:l.any p <;> simp[Ret]
theorem Zmt(l:List Va)(a:Option Addr)(c:Nat)(g:Nat)(ca:List Value)(p:Va->Bool)(m:Mem)(hl:l.length<=1000000000000000)(hr:rowRd m a (l.map Va.cs).flatten)
  (hp:∀x∈l,∀m',m.le m'->CX Tryz.prog g (.agg x.cs.toArray::ca).toArray m' [] (Ret (.bool (p x)))):
  CX Tryz.prog 162 #[.slice a l.length c,.func (.func g) #[] ca.toArray] m [] (Ret (.int .i64 (if l.any p then(l.findIdx p:Nat)else(-1:Int)))):=by
 apply ZbA a l.length c g [] ca
 refine⟨λxs _ _ m'' q=>∃i:Nat,i<=l.length/\xs=[.int .i64 i]/\(∀x∈l.take i,p x=false)/\q=l.length - i,⟨l.length,0,by omega,rfl,by simp,by omega⟩,?_⟩
 rintro n m' q hm ⟨i,hi,hn,eT,hq⟩
 obtain rfl:n=i:=by simpa using hn
 refine Zab (λaG=>?_) (λbK=>?_)
 ·have aT:i < l.length:=by simpa using aG
  obtain⟨x,hx⟩:=ZcC aT
  have bL:x∈l:=zA2 hx
  obtain⟨b1,o1,ha,dP⟩:=Zao Va.len (hr.mono hm) hx (by omega)
  refine⟨b1,o1,ha,⟨by omega,by omega⟩,_,_,_,_,dP,Zah (hp x bL m' hm) λm1 aB=>Zab (λeK=>?_) (λeK=>?_)⟩
  ·refine Zac (mLt hm aB) ?_
   have dR:l.any p=true:=List.any_eq_true.2 ⟨x,bL,eK⟩
   have eW:l.findIdx p=i:=by
    rw[List.findIdx_eq aT]
    refine⟨by rw[(zA0 hx).2];exact eK,λj hj=>?_⟩
    exact eT _ (List.mem_of_getElem? (i:=j) (by rw[List.getElem?_take_of_lt hj];exact zA3 (by omega)))
   simp[Ret,dR,eW]
  ·refine⟨l.length - (i+1),by omega,i+1,by omega,by rw[Zal (by omega) (by omega)];rfl,?_,rfl⟩
   intro y hy
   rw[List.take_add_one,hx]at hy
   rcases List.mem_append.1 hy with hy|hy
   ·exact eT y hy
   ·simp at hy;rw[hy];exact eK
 ·have hi':i=l.length:=by
   have:¬((i:Int) < (l.length:Int)):=by simpa using bK
   omega
  subst hi'
  refine Zac hm ?_
  have dR:l.any p=false:=by
   rw[List.any_eq_false]
   rw[List.take_length]at eT
   exact λx hx=>by simp[eT x hx]
  simp[Ret,dR]
theorem Zu5(l:List Va)(a:Option Addr)(c:Nat)(g:Nat)(ca:List Value)(p:Va->Bool)(m:Mem)(hl:l.length<=1000000000000000)(hr:rowRd m a (l.map Va.cs).flatten)
  (hp:∀x∈l,∀m',m.le m'->CX Tryz.prog g (.agg x.cs.toArray::ca).toArray m' [] (Ret (.bool (p x)))):
  CX Tryz.prog 121 #[.slice a l.length c,.func (.func g) #[] ca.toArray] m [] (Ret (.bool (l.any p))):=by
 apply Zbh a l.length c g [] ca
 refine ZaC (Zmt l a c g ca p m hl hr hp) λm' hm=>Zac hm ?_
 cases h:l.any p <;> simp[Ret]
theorem ZeJ(n a b:Int)(m:Mem):CX Tryz.prog 124 #[.int .i64 n,.int .i64 a,.int .i64 b] m [] (Ret (.bool (ZaX n a b))):=by
 apply ZhN
 exact⟨ZaX n a b,Zab (λh=>by unfold ZaX;rw[h];rfl) (λh=>by unfold ZaX;rw[h];rfl),Zac (Mem.le_refl m) rfl⟩
theorem ZxP(v:Va)(name:ByteArray)(b:Nat)(m:Mem)(hb:m.reads b 0 [.string name]):CX Tryz.prog 170 #[.agg v.cs.toArray,.pointer (some ⟨b,0,none⟩)] m [] (Ret (.bool (eqS v.s name))):=by
 apply ZhO (c0b:=b) (c0o:=0)
 intro b1 m1 aB _
 exact⟨_,aB.c _ _ _ (hb 0 _ rfl),Zaa rfl (Zac aB rfl)⟩
theorem ZxQ{l:List Va}{p:Va->Bool}(h:l.any p=true):∃v,l[l.findIdx p]?=some v/\l.find? p=some v:=by
 induction l with
 | nil=>simp at h
 | cons x l ih=>
  cases hx:p x with
  | true=>exact⟨x,by simp[List.findIdx_cons,hx],by simp[hx]⟩
  | false=>
   obtain⟨v,h1,h2⟩:=ih (by simpa[hx]using h)
   exact⟨v,by simp[List.findIdx_cons,hx,h1],by simp[hx,h2]⟩
theorem Zu6{l:List Va}{p:Va->Bool}(h:l.any p=false):l.find? p=none:=by
 rw[List.find?_eq_none];rw[List.any_eq_false]at h;exact h
theorem Zth(s:Sc)(name:ByteArray)(m:Mem)(hr:RepC m s):CX Tryz.prog 139 #[s.v,.string name] m [] (Ret (.tuple #[.bool (Zba s name).1,.bool (Zba s name).2])):=by
 apply Zk9
 intro b m1 aB _ b1 m2 aH cM
 have fZ:=hr.vlen
 unfold few at fZ
 have aD:=hr.vrow.mono (mLt aB aH)
 refine ZaC (Zmt s.vars s.va s.vc _ [.pointer (some ⟨b1,0,none⟩)] (λv=>eqS v.s name) m2 (by omega) aD λx _ m' hm'=>ZxP x name b1 m' (cM.mono hm')) λm3 aS=>?_
 have bH:=mLt aB (mLt aH aS)
 cases h:s.vars.any (λv=>eqS v.s name)with
 | true=>
  obtain⟨v,vP,oN⟩:=ZxQ h
  have hk:Zba s name=(v.b,true):=by unfold Zba;rw[oN]
  obtain⟨b4,o4,ha,mM⟩:=Zao Va.len (aD.mono aS) vP (by omega)
  have aG:=(zA0 vP).1
  simp only[if_true]
  refine⟨v.b,true,Ztv (decide_eq_true (by omega)) ⟨b4,o4,ha,⟨by omega,by omega⟩,.bool v.b,?_,by trivial,Zaa rfl ?_⟩,Zac bH (by rw[hk])⟩
  ·have:=mM 1 _ rfl
   rw[zA8];exact this
  ·rw[decide_eq_true (by omega:((List.findIdx (λv=>eqS v.s name) s.vars:Nat):Int) ≥ 0)]
 | false=>
  have hk:Zba s name=(false,false):=by unfold Zba;rw[Zu6 h]
  refine⟨false,false,Zfj rfl ⟨by trivial,rfl⟩,Zac bH (by rw[hk])⟩
theorem Zqt(s:Sc)(name:ByteArray)(b:Nat)(m:Mem)(hr:RepC m s)(hb:m.reads b 0 s.cs):CX Tryz.prog 172 #[.string name,.pointer (some ⟨b,0,none⟩)] m [] (Ret (.bool (!(Zba s name).1))):=by
 apply Ze4 (c0b:=b) (c0o:=0)
 refine⟨_,_,_,hb,?_⟩
 refine Zaj (Zth s name m hr) (λv _ _ e=>by rw[show v=_ from e];rfl) ?_
 intro x y m1 aB hv
 have hv:Value.tuple (Array.mk [Value.bool x,Value.bool y])=Value.tuple #[.bool (Zba s name).1,.bool (Zba s name).2]:=hv
 simp only[Value.tuple.injEq,Array.mk.injEq,List.cons.injEq,Value.bool.injEq,and_true]at hv
 obtain⟨rfl,rfl⟩:=hv
 exact Zac aB rfl
theorem ZxR(e:E):e.vars.length<=1000000000000000:=by
 unfold E.vars
 split
 ·rename_i hl
  have h2:=ZdE e []
  have h3:=zA6 (show decide (e.nodes.length<=10000)=true from hl)
  simp only[List.length_nil]at h2
  omega
 ·simp
theorem Zix(s:Sc)(e:E)(m:Mem)(hr:RepC m s)(he:RepE m e):CX Tryz.prog 140 #[s.v,e.v] m [] (Ret (.bool (Za0 s e))):=by
 apply ZgG
 intro b m1 aB hb b1 m2 aH _
 refine Zaj (Ztg e m2 (RepE.mono' he (mLt aB aH))) Zu3 ?_
 rintro a n c m3 aS ⟨a',c',hv,aD⟩
 simp only[Value.slice.injEq]at hv
 obtain⟨rfl,rfl,rfl⟩:=hv
 refine Zah (ZgF e.vars a c _ [.pointer (some ⟨b,0,none⟩)] (λn=>!(Zba s n).1) m3 (ZxR e) aD λx _ m' hm'=>Zqt s x b m' (hr.mono (mLt aB (mLt aH (mLt aS hm')))) (hb.mono (mLt aH (mLt aS hm')))) λm4 bM=>Zac (mLt aB (mLt aH (mLt aS bM))) rfl
theorem Zwr(e:E)(m:Mem)(he:RepE m e):CX Tryz.prog 137 #[e.v] m [] (Ret (.bool (Zma e))):=by
 apply Zla
 intro b m1 aB _
 exact Zah (Zte e E0 m1 (RepE.mono' he aB) (Zpm m1)) λm2 aH=>Zac (mLt aB aH) rfl
theorem Zgr(r:Ru)(m:Mem)(hr:Rep m r.t):CX Tryz.prog 8 #[.agg r.cs.toArray] m [] (Ret (.int .i64 (Zbv r))):=by
 apply ZfO
 intro b m1 aB _
 refine Zab (λh=>?_) (λh=>Zab (λh2=>Zac aB ?_) (λh2=>Zac aB ?_))
 ·have hk:r.k=1:=by simpa using h
  exact ZaC (ZpZ r.t m1 (hr.mono aB)) λm2 aH=>Zac (mLt aB aH) (by unfold Zbv;rw[if_pos hk])
 ·have hk:¬r.k=1:=by simpa using h
  have jE:r.k=2:=by simpa using h2
  unfold Zbv;rw[if_neg hk,if_pos jE]
 ·have hk:¬r.k=1:=by simpa using h
  have jE:¬r.k=2:=by simpa using h2
  unfold Zbv;rw[if_neg hk,if_neg jE]
theorem Zqu(e:E)(m:Mem)(he:RepE m e):CX Tryz.prog 63 #[e.v] m [] (Ret (.int .i64 (nE e))):=by
 apply Znw
 intro b m1 aB _
 refine Zah (Zdm e m1 (RepE.mono' he aB)) λm2 aH=>Zab (λh=>Zac (mLt aB aH) ?_) (λh=>?_)
 ·have hl:e.light=false:=by simpa using h
  unfold nE;rw[hl];rfl
 ·have hl:e.light=true:=by simpa using h
  exact ZaC (Zxx e m2 (RepE.mono' he (mLt aB aH))) λm3 aS=>Zac (mLt aB (mLt aH aS)) (by unfold nE;rw[hl];rfl)
set_option maxHeartbeats 4000000 in
def CntW(b n p:Int):Prop:=0<=n/\n<=b/\(n=p\/(20000 < n/\20000 < p))
theorem CntW.out{b n p t:Int}(h:CntW b n p)(hn:n > 20000)(ht:p<=t):t > 20000:=by
 rcases h.2.2 with e|⟨_,e⟩ <;> omega
theorem CntW.eq{b n p:Int}(h:CntW b n p)(hn:¬n > 20000):n=p:=by
 rcases h.2.2 with e|⟨e,_⟩ <;> omega
theorem ZdT(s:Sc)(m:Mem)(hr:RepC m s):CX Tryz.prog 39 #[s.v] m [] (Ret (.bool s.light)):=by
 apply Znx
 intro b m1 aB _
 have fZ:=hr.vlen
 have fO:=hr.len
 unfold few at fZ fO
 have dark:∀{M:Mem},m1.le M->s.weight > 20000->∀{n:Int},n > 20000->∃m'':Mem,m.le m''/\m''.le M/\Ret (.bool s.light) (.bool (decide (n<=20000))) m'' []:=λ{M} hM hw {n} hn=>Zac (mLt aB hM) (by
  show Value.bool _=Value.bool s.light
  unfold Sc.light
  rw[decide_eq_false (by omega),decide_eq_false (by omega)])
 generalize hV:((s.vars.length:Int)+s.states.length)=V0
 have zu:0<=V0/\V0<=200000:=by omega
 rw[Zal (by omega) (by omega)]
 have vQ:s.weight=V0+ZbC (s.states.map wS):=by unfold Sc.weight;omega
 refine⟨λxs _ _ m' q=>∃(i:Nat)(n:Int),i<=s.states.length/\xs=[.int .i64 n,.int .i64 i]/\CntW 300000 n (V0+ZbC ((s.states.take i).map wS))/\q=s.states.length - i,⟨_,0,V0,by omega,rfl,⟨by omega,by omega,.inl (by simp[ZbC])⟩,rfl⟩,?_⟩
 rintro n k0 m2 q aH ⟨i,n',hi,hx,hC,hq⟩
 simp only[List.cons.injEq,Value.int.injEq,and_true,true_and]at hx
 obtain⟨rfl,rfl⟩:=hx
 subst hq
 have iQ:IntKind.i64.wrap ((i:Int)+1)=((i+1:Nat):Int):=by rw[Zal (by omega) (by omega)];rfl
 simp only[iQ,zA8]
 refine Zav (λaG=>?_) (λbK=>?_)
 ·have aT:i < s.states.length:=by omega
  obtain⟨x,hx⟩:=ZcC aT
  have md:=zA2 hx
  obtain⟨b1,o1,ha,dP⟩:=Zao Sta.len ((hr.mono (mLt aB aH)).row) hx (by omega)
  have dH:=hr.all x md
  have kY:=dH.len
  unfold few at kY
  refine⟨b1,o1,ha,⟨by omega,by omega⟩,_,_,dP,λb2=>Zaa rfl (Zaa rfl ?_)⟩
  generalize rr:V0+ZbC ((s.states.take i).map wS)=P0 at hC
  have vR:V0+ZbC ((s.states.take (i+1)).map wS)=P0+wS x:=by rw[Zd6 wS hx];omega
  have x7:P0+wS x<=s.weight:=by rw[<-vR,vQ];have:=Zgh wS ZBV s.states (i+1);omega
  refine⟨λxs _ _ m' q=>∃(k:Nat)(n:Int),k<=x.rules.length/\xs=[.int .i64 n,.int .i64 k]/\CntW 300000 n (P0+ZbC ((x.rules.take k).map wR))/\q=x.rules.length - k,⟨_,0,n,by omega,rfl,by simpa[ZbC]using hC,rfl⟩,?_⟩
  rintro n1 k1 m3 q aS ⟨k,n1',hk,iw,nI,hq⟩
  simp only[List.cons.injEq,Value.int.injEq,and_true,true_and]at iw
  obtain⟨rfl,rfl⟩:=iw
  subst hq
  have iB:IntKind.i64.wrap ((k:Int)+1)=((k+1:Nat):Int):=by rw[Zal (by omega) (by omega)];rfl
  simp only[iB,zA8]
  have dI:m.le m3:=mLt aB (mLt aH aS)
  refine Zav (λdU=>?_) (λeI=>?_)
  ·have lK:k < x.rules.length:=by have:(k:Int) < (x.rules.length:Int):=dU;omega
   obtain⟨r,fP⟩:=ZcC lK
   have mK:=zA2 fP
   have ia:=dH.all r mK
   obtain⟨b3,o3,hO,kx⟩:=Zao Ru.len ((dH.row).mono dI) fP (by omega)
   have oT:=ia.len
   unfold few at oT
   generalize zv:P0+ZbC ((x.rules.take k).map wR)=P1 at nI
   have qE:P0+ZbC ((x.rules.take (k+1)).map wR)=P1+wR r:=by rw[Zd6 wR fP];omega
   have x8:P1+wR r<=s.weight:=by
    rw[<-qE]
    have:=Zgh wR ZAM x.rules (k+1)
    unfold wS at x7
    omega
   refine Zaa rfl ⟨b3,o3,hO,⟨by omega,by show(k:Int) < (x.rules.length:Int);omega⟩,_,_,_,_,_,_,_,_,_,_,_,_,_,_,_,_,kx,λb4=>Zaa rfl ?_⟩
   have bI:=Zhp r.t
   refine ZaC (Zs3 r.t m3 (ia.t.mono dI)) λm4 bM=>?_
   have kH:(if(20000:Int) < r.t.size then(20000:Int)else r.t.size)=Zfl r.t.size 20000:=rfl
   have fJ:0<=Zfl r.t.size 20000/\Zfl r.t.size 20000<=20000:=by unfold Zfl;split <;> omega
   rw[kH]
   have zw:=nI.1
   have zx:=nI.2.1
   refine⟨λxs _ _ m'=>∃n:Int,xs=[.int .i64 n]/\CntW 330000 n (P1+1+Zfl r.t.size 20000+(if r.t.light then 0 else 20001)),?_,?_⟩
   ·refine Zah (Zd7 r.t m4 (ia.t.mono (mLt dI bM))) λm5 cV=>Zab (λh=>⟨by trivial,20001,rfl,?_⟩) (λh=>⟨by trivial,_,rfl,?_⟩)
    ·have hl:r.t.light=false:=by simpa using h
     rw[hl,if_neg (by decide)]
     have hp:0<=P1:=by rcases nI.2.2 with e|⟨_,e⟩ <;> omega
     exact⟨by omega,by omega,.inr ⟨by omega,by omega⟩⟩
    ·have hl:r.t.light=true:=by simpa using h
     rw[hl,if_pos rfl,Zal (n:=1+Zfl r.t.size 20000) (by omega) (by omega),Zal (by omega) (by omega)]
     refine⟨by omega,by omega,?_⟩
     rcases nI.2.2 with e|⟨e1,e2⟩
     ·left;omega
     ·right;omega
   ·rintro n2 m5 cV ⟨n2',om,mf⟩
    obtain rfl:n2=n2':=by simpa using om
    generalize x9:P1+1+Zfl r.t.size 20000+(if r.t.light then 0 else 20001)=P2 at mf
    have iC:wR r=(P2 - P1)+ZbC (r.acts.map wA):=by unfold wR;rw[<-x9];omega
    have qF:m.le m5:=mLt dI (mLt bM cV)
    refine Zaa rfl ⟨λxs _ _ m' q=>∃(j:Nat)(n:Int),j<=r.acts.length/\xs=[.int .i64 n,.int .i64 j]/\CntW (330000+j*200000) n (P2+ZbC ((r.acts.take j).map wA))/\q=r.acts.length - j,⟨_,0,n2,by omega,rfl,by simpa[ZbC]using mf,rfl⟩,?_⟩
    rintro n3 k3 m6 q iI ⟨j,n3',hj,mM,nU,hq⟩
    simp only[List.cons.injEq,Value.int.injEq,and_true,true_and]at mM
    obtain⟨rfl,rfl⟩:=mM
    subst hq
    have ya:IntKind.i64.wrap ((j:Int)+1)=((j+1:Nat):Int):=by rw[Zal (by omega) (by omega)];rfl
    simp only[ya,zA8]
    have lb:=mLt qF iI
    have eS:=nU.1
    have vF:=nU.2.1
    refine Zav (λgP=>?_) (λjA=>?_)
    ·have qG:j < r.acts.length:=by have:(j:Int) < (r.acts.length:Int):=gP;omega
     obtain⟨a,kP⟩:=ZcC qG
     have kQ:=ia.all a (zA2 kP)
     obtain⟨b5,o5,mh,rT⟩:=Zao Ac.len ((ia.row).mono lb) kP (by omega)
     have mE:=kQ.n
     unfold few at mE
     have zy:=ZiD a.e
     generalize zA:P2+ZbC ((r.acts.take j).map wA)=P3 at nU
     have tU:P2+ZbC ((r.acts.take (j+1)).map wA)=P3+wA a:=by rw[Zd6 wA kP];omega
     have yb:P3+wA a<=s.weight:=by
      have:=Zgh wA Zuj r.acts (j+1)
      omega
     refine Zaa rfl ⟨b5,o5,mh,⟨by omega,by show(j:Int) < (r.acts.length:Int);omega⟩,_,_,_,_,_,_,_,_,rT,λb6=>Zaa rfl ?_⟩
     refine⟨λ_ _ _=>Ret (.int .i64 (nE a.e)),_,rfl,Zqu a.e m6 (RepE.mono' kQ.e lb),λv _ _ e=>by rw[show v=_ from e];rfl,λn8 m7 ju kZ=>Zaa rfl λM jM ic=>Zaa rfl ?_⟩
     obtain rfl:n8=nE a.e:=by cases kZ;rfl
     have tV:slN (Value.slice a.pa a.parts.length a.pc)=a.parts.length:=rfl
     rw[tV,Zal (n:=1+nE a.e) (by omega) (by omega),Zal (n:=1+nE a.e+(a.parts.length:Int)) (by omega) (by omega),Zal (by omega) (by omega)]
     have yc:wA a=(1+nE a.e+a.parts.length)+ZbC (a.parts.map λp=>nE p.e):=by unfold wA;omega
     have pC:=mLt lb jM
     refine⟨λxs _ _ m' q=>∃(w:Nat)(n:Int),w<=a.parts.length/\xs=[.int .i64 n,.int .i64 w]/\CntW (330000+(j+1)*200000) n (P3+(1+nE a.e+a.parts.length)+ZbC ((a.parts.take w).map λp=>nE p.e))/\q=a.parts.length - w,⟨_,0,_,by omega,rfl,⟨by omega,by omega,?_⟩,rfl⟩,?_⟩
     ·simp only[List.take_zero,List.map_nil,ZbC]
      rcases nU.2.2 with e|⟨e1,e2⟩
      ·left;omega
      ·right;omega
     rintro n4 k4 m8 q iO ⟨w,n4',hw,oR,oU,hq⟩
     simp only[List.cons.injEq,Value.int.injEq,and_true,true_and]at oR
     obtain⟨rfl,rfl⟩:=oR
     subst hq
     have tR:IntKind.i64.wrap ((w:Int)+1)=((w+1:Nat):Int):=by rw[Zal (by omega) (by omega)];rfl
     simp only[tR,zA8]
     have rU:=mLt pC iO
     have yd:m1.le m8:=mLt aH (mLt aS (mLt bM (mLt cV (mLt iI (mLt jM iO)))))
     have nu:=oU.1
     have vS:=oU.2.1
     refine Zav (λjB=>?_) (λj6=>?_)
     ·have qH:w < a.parts.length:=by have:(w:Int) < (a.parts.length:Int):=jB;omega
      obtain⟨p,kV⟩:=ZcC qH
      have kX:=kQ.all p (zA2 kV)
      obtain⟨b7,o7,ye,yf⟩:=Zao Pt.len ((kQ.row).mono rU) kV (by omega)
      have zB:=ZiD p.e
      have cR:=Zd6 (λp:Pt=>nE p.e) kV
      have qI:=Zgh (λp:Pt=>nE p.e) (λp=>(ZiD p.e).1) a.parts w
      refine Zaa rfl ⟨b7,o7,ye,⟨by omega,by show(w:Int) < (a.parts.length:Int);omega⟩,_,_,_,_,_,_,_,_,yf,λb8=>Zaa rfl (Zav (λhd=>dark yd (oU.out hd (by omega)) hd) (λhd=>?_))⟩
      refine ZaC (Zqu p.e m8 (RepE.mono' kX.e rU)) λm9 ky=>⟨by trivial,a.parts.length - (w+1),by omega,w+1,_,by omega,rfl,?_,rfl⟩
      have he:=oU.eq hd
      rw[Zal (by omega) (by omega),cR]
      exact⟨by omega,by omega,.inl (by omega)⟩
     ·have hw':w=a.parts.length:=by have:¬(w:Int) < (a.parts.length:Int):=j6;omega
      subst hw'
      rw[List.take_length]at oU
      refine⟨by trivial,r.acts.length - (j+1),by omega,j+1,n4,by omega,rfl,?_,rfl⟩
      rw[tU,yc]
      exact⟨oU.1,by push_cast;omega,by rcases oU.2.2 with e|e;left;omega;right;omega⟩
    ·have hj':j=r.acts.length:=by have:¬(j:Int) < (r.acts.length:Int):=jA;omega
     subst hj'
     rw[List.take_length]at nU
     have pB:m1.le m6:=mLt aH (mLt aS (mLt bM (mLt cV iI)))
     refine Zav (λhd=>dark pB (nU.out hd (by omega)) hd) (λhd=>⟨by trivial,x.rules.length - (k+1),by omega,k+1,n3,by omega,rfl,?_,rfl⟩)
     rw[qE,iC]
     exact⟨nU.1,by omega,.inl (by have:=nU.eq hd;omega)⟩
  ·have hk':k=x.rules.length:=by have:¬(k:Int) < (x.rules.length:Int):=eI;omega
   subst hk'
   rw[List.take_length]at nI
   refine⟨by trivial,s.states.length - (i+1),by omega,i+1,n1,by omega,rfl,?_,rfl⟩
   rw[vR];exact nI
 ·have hi':i=s.states.length:=by omega
  subst hi'
  rw[List.take_length,<-vQ]at hC
  refine Zac (mLt aB aH) ?_
  show Value.bool _=Value.bool s.light
  unfold Sc.light
  congr 1
  rw[decide_eq_decide]
  rcases hC.2.2 with e|⟨e1,e2⟩ <;> omega
end Go.Proofs.YtdopppmkbkkmiaaGreatDoor
end
