/- Part of the proof: functions of the program. No condition. -/
import Derived.Test.YtpjepnkiiojgfaaGreatPEnv
import Derived.Test.YtpjepnkiiojgfaaGreatPVGA
import Derived.Test.YtpjepnkiiojgfaaGreatPC25AU
import Derived.Test.YtpjepnkiiojgfaaGreatPC25E
import Derived.Test.YtpjepnkiiojgfaaGreatMc
import Derived.Test.YtpjepnkiiojgfaaGreatRows
import Derived.Deep.Slices
import Derived.Laws.IdiomArrays
import Derived.SizedLaws
import Derived.LaidMore
import Derived.Lay
import Derived.SevenTiedAt
import Derived.OpenShut
import Derived.ProofKit
import Derived.Carry
set_option linter.unusedVariables false
set_option linter.unusedSimpArgs false
set_option linter.unusedSectionVars false
namespace Go.Proofs.YtpjepnkiiojgfaaGreat
open Go Go.Eng Go.Proofs Go.RowKit
open Go.Value (int slice agg bool string tuple func)
open Go.IntKind (u8 u64 i64)
set_option maxRecDepth 100000
noncomputable def ZiG:Env:={ EB with
 joins:=(λi=>bif Nat.beq i 2 then some [(17,.bool)]else none)
 frzNew:=[2,3] }
theorem Zg1(aA:Int)(aQ:Option Addr)(aM aT:Nat)(aK:Option Addr)(aH aS:Nat)(p1:ByteArray)(m:Mem)(R:RT)(h:
 lV [int i64 aA,slice aQ aM aT,slice aK aH aS] λxL=>fzM m xL λb m'=>lE [some (Box.mk b xL 32 3 true true)] λxL_1=>fzM m' [string p1] λb m'=>lE (some (Box.mk b [string p1] 9 1
 true true)::xL_1) λxL_2=>kI Tryz.prog 52 [slice aQ aM aT,func (Fn.func 53) (Array.mk []) (Array.mk [Value.pointer (some (Addr.mk b 0 none))])] m' λn m'=>∃(b:Bool),br (decide (n < (0:Int)))
 (Zac xL_2/\[bool true]=[bool b]) (kB Tryz.prog 19 [agg (Array.mk xL)] m' λb_1 m'=>Zac xL_2/\[bool !b_1]=[bool b])/\br b (rtM m m' R (tuple (Array.mk [int i64 0,bool false]))) (rtM m m' R (tuple
 (Array.mk [int i64 n,bool true])))):CX Tryz.prog 17 #[.agg #[.int .i64 aA,.slice aQ aM aT,.slice aK aH aS],.string p1] m [] R:=
 Zad (E:=ZiG) Zas mix Tryz.func17 (by kernel_rfl) (Eq.mp (by kernel_rfl) h)
noncomputable def Zga:Env:={ EB with
 frzNew:=[2] }
theorem Zfl(aA:ByteArray)(aE:Bool)(aI:ByteArray)(aG:Value)(c0b c0o:Nat)(m:Mem)(R:RT)(h:
 fzM m [string aA,bool aE,string aI,aG] λb m'=>∃(v:Value),m' c0b c0o=some v/\chk (Zgv v) (rtM m m' R (bool (ByteArray.toList aA == ByteArray.toList (ZbT v))))):CX Tryz.prog 53 #[.agg #[.string aA,.bool aE,.string aI,aG],.pointer (some ⟨c0b,c0o,none⟩)] m [] R:=
 Zad (E:=Zga) Zas mix Tryz.func53 (by kernel_rfl) (Eq.mp (by kernel_rfl) h)
noncomputable def Zfm:Env:={ EB with
 loops:=(λi=>bif Nat.beq i 5 then⟨[(49,.int .i64)],[],[],false⟩ else bif Nat.beq i 13 then⟨[(101,.int .i64)],[],[],false⟩ else⟨[],[],[],false⟩)
 joins:=(λi=>bif Nat.beq i 9 then some [(87,.bool)]else bif Nat.beq i 16 then some [(118,.bool)]else bif Nat.beq i 22 then some [(4,.bool)]else none)
 dr:=(λi=>bif Nat.beq i 4 then[⟨0,[],[],none,[],[]⟩,⟨1,[],[],none,[0],[]⟩,⟨2,[],[],none,[0,1],[]⟩,⟨3,[],[],none,[],[]⟩,⟨4,[5],[],none,[],[]⟩,⟨5,[5],[],none,[4],[]⟩,⟨6,[],[],none,[4,5],[]⟩,⟨7,[],[],none,[3,4,5,6],[]⟩,⟨8,[],[],none,[3,4,5,6,7],[]⟩,⟨9,[],[],none,[],[]⟩,⟨10,[],[],none,[9],[]⟩,⟨11,[],[],none,[9,10],[]⟩,⟨12,[],[],none,[],[]⟩,⟨13,[5],[],none,[],[]⟩,⟨14,[5],[],none,[13],[]⟩,⟨15,[],[],none,[13,14],[]⟩,⟨16,[],[],none,[13,14,15],[]⟩,⟨17,[],[],none,[13,14,15,16],[]⟩,⟨18,[],[],none,[13,14,15,16,17],[]⟩,⟨19,[],[],none,[12,13,14,15,16,17,18],[]⟩,⟨20,[],[],none,[12,13,14,15,16,17,18,19],[]⟩,⟨21,[47],[47],none,rg 0 21,[]⟩,⟨22,[47],[],none,rg 0 22,[]⟩,⟨23,[],[],none,[],[]⟩]else[])
 frzNew:=[2]
 gb:=true }
theorem ZeB(aA:Int)(aQ:Option Addr)(aM aT:Nat)(aK:Option Addr)(aH aS:Nat)(p1:Int)(m:Mem)(R:RT)(h:
 lX (int i64 (if(-1:Int) < p1 then(-1:Int)else p1)) λyL=>lV [yL] λxL=>lV [int u8 aA,slice aQ aM aT,slice aK aH aS] λar=>fzM m ar λb m'=>lE [some (Box.mk b ar 25 3 true
 true)] λa8=>kB Tryz.prog 9 [] m' λb m'=>br (!b) (rtM m m' R (bool false)) (∃(R_1:RT),True/\CX Tryz.prog 10 (Array.mk [agg (Array.mk ar)]) m' [] R_1/\Zbo (Shape.agg [Shape.int i64,Shape.slice,
 Shape.slice]) R_1/\∀(n:Int)(a:Option Addr)(ax c:Nat)(ay:Option Addr)(ao a9:Nat)(ai:Mem),lX (int i64 (if(↑ao:Int) > p1 then(↑ao:Int)else p1)) λaz=>lV [az] λa0=>lV [int i64 n,slice a
 ax c,slice ay ao a9] λa1=>lX (agg (Array.mk a1)) λaj=>lV [aj,string (ByteArray.mk (Array.mk [110,111,110,101]))] λa2=>m'.le ai->R_1 aj ai []->∀(b:
 Nat),lE (some (Box.mk b a1 32 3 false true)::a8) λba=>atA ay λb o=>Zae (0:Int) ao/\∃(v:Value),lV [yL,int i64 0,az,int i64 0,int i64 0,yL,int i64 0,int i64 (if(↑(slN v):Int) > p1 then
 (↑(slN v):Int)else p1)] λau=>ai b (o+0+1)=some v/\chk (ZbK v) (∀(b:Nat),lE (some (Box.mk b au 59 8 true true)::ba) λav=>ai.free b->∀(M:Mem),ai.le M->Mem.le (ai.add b au) M->
 ∃(I:IT),inI I [int i64 0] [] [] M/\∀(n:Int)(m':Mem)(a3:Nat),lV (List.take 2 (List.drop (Int.toNat n*2) au)) λaf=>M.le m'->I [int i64 n] [] [] m' a3->br (decide (n < (↑(4:Nat):Int)))
 (Zae n 4/\chk (Nat.ble (Int.toNat n*2) (1+1+1+1+1+1)) (∀(b:Nat),lE (some (Box.mk b af 59 2 false true)::av) λxL=>chk (Nat.beq (af.length) 2&&Zc2 af) (Zae (0:Int) 2/\Eng.ZrL
 af 0 λv=>Zae (1:Int) 2/\Eng.ZrL af 1 λbb=>∃(R_2:RT),True/\CX Tryz.prog 13 (Array.mk [aj,v,bb]) m' [] R_2/\Zbo (Shape.tup [Shape.agg [Shape.int i64,Shape.slice,Shape.slice],Shape.int i64])
 R_2/\∀(ap:Int)(a:Option Addr)(ak c:Nat)(am:Option Addr)(al an:Nat)(ad:Int)(aa:Mem),lV [int i64 ap,slice a ak c,slice am al an] λag=>m'.le aa->R_2 (tuple (Array.mk [agg (Array.mk ag),
 int i64 ad])) aa []->∀(b:Nat),lE (some (Box.mk b ag 32 3 false true)::xL) λxL=>Zae (0:Int) 2/\Eng.ZrL af 0 λv=>Zae (1:Int) 2/\Eng.ZrL af 1 λbc=>∃(R_3:RT),True/\CX Tryz.prog 14
 (Array.mk [aj,v,bc,agg (Array.mk [int u8 3,bool false,bool false,int u8 0,int u64 0,int u64 0,int u64 0,int u64 0,int i64 0,int i64 0,slice none 0 0,string bE0,int i64 0,slice
 none 0 0,string bE0,int i64 0])]) aa [] R_3/\Zbo (Shape.tup [Shape.agg [Shape.int i64,Shape.slice,Shape.slice],Shape.int i64]) R_3/\∀(ah:Int)(a:Option Addr)(aq c:Nat) (bd:
 Option Addr) (a4 be:Nat) (a5:Int) (m':Mem),lV [int i64 ah,slice a aq c,slice bd a4 be] λae=>aa.le m'->R_3 (tuple (Array.mk [agg (Array.mk ae),int i64 a5])) m' []->∀(b:Nat),∃(ab:Bool),lE
 (some (Box.mk b ae 32 3 false true)::xL) λxL=>br (!ad == (250:Int)) (Zac xL/\[bool true]=[bool ab]) (br (!a5 == (250:Int)) (Zac xL/\[bool true]=[bool ab]) (Zac xL/\[bool !i64.wrap
 ((↑al:Int)+(↑a4:Int)) == (0:Int)]=[bool ab]))/\br ab (rtM m m' R (bool false)) (Zac av/\nxI a3 I [int i64 (i64.wrap (n+(1:Int)))] [] [] m')))) (∀(b:Nat),lM (m'.add b xL) λmL=>lE
 (some (Box.mk b xL 3 1 true true)::av) λxL=>lX (slice (some (Addr.mk b 0 none)) 1 1) λyL=>m'.free b->∀(b:Nat),lM (mL.add b a0) λa6=>lE (some (Box.mk b a0 3 1 true true)::xL) λxL=>lX
 (slice (some (Addr.mk b 0 none)) 1 1) λbf=>mL.free b->∀(b:Nat),lM (a6.add b [int i64 0,int i64 0]) λmL=>lV [yL,bf,slice (some (Addr.mk b 0 none)) 2 2] λag=>lE (some (Box.mk b [int i64 0,
 int i64 0] 3 2 true true)::xL) λxL=>a6.free b->∀(b:Nat),lE (some (Box.mk b ag 65 3 true true)::xL) λxL=>mL.free b->∃(I:IT),inI I [int i64 0] [] [] (mL.add b ag)/\∀(n:Int) (m':
 Mem) (ap:Nat),Mem.le (mL.add b ag) m'->I [int i64 n] [] [] m' ap->br (decide (n < (↑(3:Nat):Int))) (Zae n 3/\Eng.ZrL ag (Int.toNat n*1) λv=>∃(R_2:RT),True/\CX Tryz.prog 15 (Array.mk [aj,
 v]) m' [] R_2/\Zbo (Shape.tup [Shape.agg [Shape.int i64,Shape.slice,Shape.slice],Shape.int i64]) R_2/\∀(ak:Int)(a:Option Addr)(al c:Nat)(am:Option Addr)(ad an:Nat)(ah:Int)(aa:Mem),lV [int i64
 ak,slice a al c,slice am ad an] λae=>m'.le aa->R_2 (tuple (Array.mk [agg (Array.mk ae),int i64 ah])) aa []->∀(b:Nat),∃(ab:Bool),lE (some (Box.mk b ae 32 3 false true)::xL) λac=>br (!ah ==
 (250:Int)) (Zac ac/\[bool true]=[bool ab]) (Zac ac/\[bool !(↑ad:Int) == (0:Int)]=[bool ab])/\br ab (rtM m aa R (bool false)) (Zac xL/\nxI ap I [int i64 (i64.wrap (n+(1:Int)))] [] []
 aa)) (∃(R_2:RT),True/\CX Tryz.prog 16 (Array.mk a2) m' [] R_2/\Zbo (Shape.tup [Shape.int i64,Shape.bool]) R_2/\∀(n:Int)(b:Bool)(aa:Mem),m'.le aa->R_2 (tuple (Array.mk [int i64 n,bool b])) aa []
 -> ∃(R_3:RT),True/\CX Tryz.prog 17 (Array.mk a2) aa [] R_3/\Zbo (Shape.tup [Shape.int i64,Shape.bool]) R_3/\∀(ak:Int)(ab:Bool)(m':Mem),aa.le m'->R_3 (tuple (Array.mk [int i64 ak,bool ab])) m' []
 -> ∃(R_4:RT),True/\CX Tryz.prog 15 (Array.mk [aj,slice none 0 0]) m' [] R_4/\Zbo (Shape.tup [Shape.agg [Shape.int i64,Shape.slice,Shape.slice],Shape.int i64]) R_4/\∀(al:Int)(a:Option Addr)(ad c:Nat)
 (am:Option Addr) (ah an:Nat) (aq:Int) (aw:Mem),lV [int i64 al,slice a ad c,slice am ah an] λae=>m'.le aw->R_4 (tuple (Array.mk [agg (Array.mk ae),int i64 aq])) aw []->∀(bg:Nat),∃(a7:Bool),
 lV [bool a7] λac=>lE (some (Box.mk bg ae 32 3 false true)::xL) λxL=>br (i64.wrap (n+ak) == (0:Int)) (br (!b) (br (!ab) (br (aq == (0:Int)) (br ((↑ah:Int) == (0:Int)) (Zac xL/\[bool
 ((↑ad:Int) == (↑ax:Int))]=ac) (Zac xL/\[bool false]=ac)) (Zac xL/\[bool false]=ac)) (Zac xL/\[bool false]=ac)) (Zac xL/\[bool false]=ac)) (Zac xL/\[bool false]=ac)/\rtM m aw R (bool
 a7)))))):CX Tryz.prog 4 #[.agg #[.int .u8 aA,.slice aQ aM aT,.slice aK aH aS],.int .i64 p1] m [] R:=
 Zad (E:=Zfm) Zas mix Tryz.func4 (by kernel_rfl) (Eq.mp (by kernel_rfl) h)
end Go.Proofs.YtpjepnkiiojgfaaGreat
namespace Go.Proofs.YtpjepnkiiojgfaaGreat
open Go Go.Eng Go.Rx Go.Proofs Go.RowKit
set_option maxRecDepth 100000
def noV(e:Int):Value:=.tuple #[.agg #[.int .i64 0,.slice none 0 0,.slice none 0 0],.int .i64 e]
theorem Zc0{e:Int}:∀(v:Value)(m':Mem) (css:List (List Value)),Ret (noV e) v m' css->Shape.fits (.tup [.agg [.int .i64,.slice,.slice],.int .i64]) v=true:=λv _ _ h=>by rw[show v=_ from h];rfl
theorem Zfn{n e e':Int}{a a1:Option Addr}{p c p1 c1:Nat}{m':Mem}(h:Ret (noV e) (.tuple #[.agg #[.int .i64 n,.slice a p c,.slice a1 p1 c1],.int .i64 e']) m' []):n=0/\a=none/\p=0/\c=0/\a1=none/\p1=0/\c1=0/\e'=e:=by
 have h:Value.tuple _=noV e:=h
 simpa[noV,and_assoc]using h
theorem Zgb(s:Sc)(i k:Int)(m:Mem)(hr:RepC m s)(h:Zcj s i k=false):CX Tryz.prog 13 #[s.v,.int .i64 i,.int .i64 k] m [] (Ret (noV 250)):=by
 apply Zht
 intro b m1 aF _ _ _ _ b1
 have hc:=ZkZ s i k m1 (hr.mono aF)
 rw[h]at hc
 exact Zan hc λm2 aO=>ZiK rfl (Zai (mLt aF aO) rfl)
theorem ZiH(s:Sc)(i k:Int)(r:Ru)(m:Mem)(hr:RepC m s)(h:Zcj s i k=false):CX Tryz.prog 14 #[s.v,.int .i64 i,.int .i64 k,.agg r.cs.toArray] m [] (Ret (noV 250)):=by
 apply Zn0
 intro b m1 aF _ _ _ _ b1 m2 aO _ _ _ _ b2
 have cT:=mLt aF aO
 have hc:=ZkZ s i k m2 (hr.mono cT)
 rw[h]at hc
 exact Zan hc λm3 aV=>ZiK rfl (Zai (mLt cT aV) rfl)
set_option maxHeartbeats 1000000 in
theorem ZiI(s:Sc)(L:List Int)(ns:List Nat)(w:Int)(la:Option Addr)(lc:Nat)(m:Mem)(hr:RepC m s)(hl:s.light=true)(aB:rowRd m la (ZcI L))(jP:L.take ns.length=ns.map λn:Nat=>(n:Int))(hw:L[ns.length]?=some w)(hL:∀n∈ns,n < s.states.length)(hn:ns.Nodup)(aD:L.length<=1000)(oQ:w < 0\/(s.states.length:Int)<=w\/∃n∈ns,w=(n:Nat)):CX Tryz.prog 15 #[s.v,.slice la L.length lc] m [] (Ret (noV 250)):=by
 have dq:s.states.length<=100000:=hr.len
 have ko:ns.length < L.length:=(zA0 hw).1
 apply Zhu
 intro b m1 aF _ _ _ _ b1
 have kY:=ZbI s m1 (hr.mono aF)
 rw[hl]at kY
 refine Zan kY λm2 aO=>ZdJ rfl ?_
 have cT:=mLt aF aO
 refine Zam (Zo1 s m2 (hr.mono cT) hl) ZkX ?_
 rintro n a p c a1 p1 c1 m3 aV ⟨s',hv,j4,jh,_⟩ b2 b3 bm wi cI
 obtain⟨rfl,rfl,rfl,rfl,rfl,rfl,rfl⟩:=ZqA hv
 have cM:=jh.mono (Zh5 m2 m3)
 have cK:=mLt cT aV
 have fC:m.k bm=none:=Zes cK cI
 have ji:=Zt6 j4
 have heq:∀a b:Nat,EqIs Tryz.prog 3 (.int .i64 (a:Int)) (.int .i64 (b:Int)) (decide (a=b)):=λa b=>by
  have:=ZsU a b
  rwa [show decide ((a:Int)=(b:Int))=decide (a=b) by congr 1;exact propext (by omega)]at this
 refine⟨λxs css tvs mm q=>∃(i:Nat)(K:List Sta)(ka:Option Addr)(kc:Nat)(cs1:List Value),i<=ns.length/\K.length=i/\xs=[.int .i64 i]/\css=[cs1,[.int .i64 s'.n,.slice s'.va s'.vars.length s'.vc,.slice ka K.length kc]]/\tvs=[.slice ka K.length kc]/\m3.le mm/\mm.k bm=some (Ztd (λz:Nat=>Value.int .i64 z) (λ_:Unit=>Value.agg (Array.mk [])) ((ns.take i).map λz=>(z,())))/\K.length<=kc/\rowRd mm ka (K.map Sta.cs).flatten/\q=L.length - i,⟨L.length,0,[],none,0,_,by omega,rfl,rfl,rfl,rfl,Mem.le_updK (Mem.le_refl _) cI _,Mem.updK_same _ _ _,Nat.le_refl _,.inl rfl,rfl⟩,?_⟩
 rintro z cs0 cs1 ka kn kc mm q _ ⟨i,K,ka',kc',cs1',hi,si,hz,bC,bQ,hM,hk,tR,pM,rfl⟩
 obtain rfl:z=i:=by simpa using hz
 obtain⟨rfl,rfl⟩:cs0=_/\cs1=_:=by simpa using bC
 simp only[List.cons.injEq,Value.slice.injEq,and_true]at bQ
 obtain⟨rfl,rfl,rfl⟩:=bQ
 have e8:IntKind.i64.wrap ((i:Int)+1)=((i+1:Nat):Int):=by rw[Zak (by omega) (by omega)];rfl
 have fL:=mLt cK hM
 refine ZiK (decide_eq_true (by show(i:Int) < (L.length:Nat);omega)) ?_
 by_cases dH:i=ns.length
 ·subst dH
  rw[List.take_length]at hk
  obtain⟨b4,o4,gu,jC⟩:=Zvs (aB.mono fL) (show(ZcI L)[ns.length]?=some (.int .i64 w) by unfold ZcI;rw[List.getElem?_map,hw];rfl)
  by_cases hc:∃n∈ns,w=(n:Nat)
  ·obtain⟨k,gy,rfl⟩:=hc
   have jy:=ZoJ (f:=λz:Nat=>Value.int .i64 z) (g:=λ_:Unit=>Value.agg (Array.mk [])) heq k () (ns.map λz=>(z,())) (List.mem_map.2 ⟨k,gy,rfl⟩) (by rw[List.map_map];exact(List.map_id ns).symm ▸ hn)
   exact⟨b4,o4,gu,⟨by omega,by omega⟩,_,jC,bm,_,_,true,rfl,hk,Zdr Tryz.underlying3 _,⟨_,jy,rfl,rfl⟩,λb5=>Zaa rfl ⟨true,ZiK rfl ⟨rfl,rfl,rfl⟩,ZiK rfl (Zai fL rfl)⟩⟩
  ·have oQ:w < 0\/(s.states.length:Int)<=w:=by
    rcases oQ with h|h|h
    ·exact .inl h
    ·exact .inr h
    ·exact absurd h hc
   have ga:MapFind Tryz.prog 3 (.int .i64 w) (Ztd (λz:Nat=>Value.int .i64 z) (λ_:Unit=>Value.agg (Array.mk [])) (ns.map λz=>(z,()))) none:=by
    have:∀l:List Nat,(∀n∈l,n < s.states.length)->MapFind Tryz.prog 3 (.int .i64 w) (Ztd (λz:Nat=>Value.int .i64 z) (λ_:Unit=>Value.agg (Array.mk [])) (l.map λz=>(z,()))) none:=λl=>by
     induction l with
     | nil=>exact λ_=>rfl
     | cons x l ih=>
      intro hl
      have hx:=hl x (by simp)
      have h:=ZsU w (x:Int)
      rw[decide_eq_false (by omega)]at h
      exact .inr ⟨h,ih λn hn=>hl n (by simp[hn])⟩
    exact this ns hL
   refine⟨b4,o4,gu,⟨by omega,by omega⟩,_,jC,bm,_,_,false,rfl,hk,Zdr Tryz.underlying3 _,⟨none,ga,rfl,rfl⟩,λb5=>Zaa rfl ⟨true,ZdJ rfl (Zaa rfl (Zaz (λh=>⟨rfl,rfl,rfl⟩) (λh=>Zaa rfl ⟨rfl,rfl,?_⟩))),ZiK rfl (Zai fL rfl)⟩⟩
   have h:¬w < 0:=h
   show[Value.bool (decide (w ≥ (s'.states.length:Nat)))]=_
   rw[decide_eq_true (by omega)]
 ·obtain⟨l,eV⟩:=ZcZ (show i < ns.length by omega)
  have sk:=zA2 eV
  have iO:=hL l sk
  have eH:L[i]?=some (l:Int):=by
   have:=congrArg (λx=>x[i]?) jP
   simp only[List.getElem?_map,eV,Option.map_some]at this
   rwa [List.getElem?_take_of_lt (by omega)]at this
  obtain⟨b4,o4,gu,jC⟩:=Zvs (aB.mono fL) (show(ZcI L)[i]?=some (.int .i64 l) by unfold ZcI;rw[List.getElem?_map,eH];rfl)
  have gp:l ∉ ((ns.take i).map λz=>(z,())).map (·.1):=by
   rw[List.map_map]
   intro dH
   obtain⟨z,hz,rfl⟩:=List.mem_map.1 dH
   obtain⟨j,hj⟩:=List.getElem?_of_mem hz
   have ic:j < i:=by have:=(zA0 hj).1;rw[List.length_take]at this;omega
   rw[List.getElem?_take_of_lt ic]at hj
   have hj:ns[j]?=some z:=hj
   obtain⟨g1,g2⟩:=zA0 hj
   obtain⟨g3,g4⟩:=zA0 eV
   have:=(List.getElem_inj (h₀:=g1) (h₁:=g3) hn).1 (g2.trans g4.symm)
   omega
  have ga:=Zib (f:=λz:Nat=>Value.int .i64 z) (g:=λ_:Unit=>Value.agg (Array.mk [])) heq l _ gp
  have sm:=Zl7 (f:=λz:Nat=>Value.int .i64 z) (g:=λ_:Unit=>Value.agg (Array.mk [])) heq l () _ gp
  obtain⟨x,hx⟩:∃x,s'.states[l]?=some x:=⟨s'.states[l]'(by omega),zA3 (by omega)⟩
  refine⟨b4,o4,gu,⟨by omega,by omega⟩,_,jC,bm,_,_,false,rfl,hk,Zdr Tryz.underlying3 _,⟨none,ga,rfl,rfl⟩,λb5=>Zaa rfl ⟨false,ZdJ rfl (Zaa rfl (ZdJ (decide_eq_false (by show ¬(l:Int) < 0;omega)) (Zaa rfl ⟨rfl,rfl,by show[Value.bool (decide ((l:Int) ≥ (s'.states.length:Nat)))]=_;rw[decide_eq_false (by omega)]⟩))),ZdJ rfl ⟨bm,_,_,rfl,hk,Zdr Tryz.underlying3 _,sm,fC,Zaf rfl (Zaa rfl ?_)⟩⟩⟩
  have oF:m3.le (mm.updK bm (Ztd (λz:Nat=>Value.int .i64 z) (λ_:Unit=>Value.agg (Array.mk [])) (((ns.take i).map λz=>(z,()))++[(l,())]))):=Mem.le_updK hM cI _
  obtain⟨b6,o6,fI,cL⟩:=Zal Sta.len (cM.mono oF).row hx (by omega)
  have dS:ns.take (i+1)=ns.take i++[l]:=by rw[List.take_add_one,eV];rfl
  refine⟨b6,o6,fI,⟨by show(0:Int)<=l;omega,by show(l:Int) < (s'.states.length:Nat);omega⟩,_,_,cL,λb7 iq=>Zaa rfl (Zb0 Sta.len Sta.one iq x (show rowRd (mm.updK bm _) ka (K.map Sta.cs).flatten from pM) 40 (by omega) (by omega) (.inl rfl) λa8 c8 m8 dX df gl=>Zaa rfl λM eR dO eu=>⟨rfl,L.length - (i+1),by omega,i+1,K++[x],a8,c8,_,by omega,by simp[si],by rw[e8],by rw[zA1];rfl,by rw[zA1];rfl,mLt oF eR,?_,by rw[zA1];exact gl.1,df.mono eu,rfl⟩)⟩
  rw[dS,List.map_append]
  exact eR.k _ _ (Mem.updK_same _ _ _)
def ZwM(b:Bool)(n:Nat):Value:=.tuple #[.int .i64 (if b then(n:Int)else 0),.bool b]
theorem Zo7{b:Bool}{n:Nat}:∀(v:Value)(m':Mem) (css:List (List Value)),Ret (ZwM b n) v m' css->Shape.fits (.tup [.int .i64,.bool]) v=true:=λv _ _ h=>by rw[show v=_ from h];rfl
theorem ZrD{b b':Bool}{n:Nat}{z:Int}{m':Mem}(h:Ret (ZwM b n) (.tuple #[.int .i64 z,.bool b']) m' []):z=(if b then(n:Int)else 0)/\b'=b:=by
 have h:Value.tuple _=ZwM b n:=h
 simpa[ZwM]using h
theorem ZsV(s:Sc)(name:ByteArray)(m:Mem)(hr:RepC m s)(hl:s.light=true):CX Tryz.prog 16 #[s.v,.string name] m [] (Ret (ZwM (s.states.any λx=>eqS x.s name) (s.states.findIdx λx=>eqS x.s name))):=by
 apply Zmx
 intro b m1 aF _ b1 m2 aO dd
 have dq:=hr.len
 unfold few at dq
 have bH:=mLt aF aO
 refine ZbW (ZnO s.states s.sa s.sc _ [.pointer (some ⟨b1,0,none⟩)] (λx=>eqS x.s name) m2 (by omega) (hr.row.mono bH) λx _ m' hm'=>ZsM x name b1 m' (dd.mono hm')) λm3 aV=>?_
 have cK:=mLt bH aV
 have hL:=ZbI s m3 (hr.mono cK)
 rw[hl]at hL
 cases h:s.states.any (λx=>eqS x.s name)with
 | true=>exact⟨false,ZdJ (decide_eq_false (by simp)) (Zan hL λm4 bU=>⟨rfl,rfl⟩),ZdJ rfl (Zai cK rfl)⟩
 | false=>exact⟨true,ZiK rfl ⟨rfl,rfl⟩,ZiK rfl (Zai cK rfl)⟩
theorem ZmN(x:Va)(name:ByteArray)(b:Nat)(m:Mem)(hb:m.reads b 0 [.string name]):CX Tryz.prog 53 #[.agg x.cs.toArray,.pointer (some ⟨b,0,none⟩)] m [] (Ret (.bool (eqS x.s name))):=by
 apply Zfl (c0b:=b) (c0o:=0)
 intro b1 m1 aF _
 exact⟨_,(hb.mono aF) 0 _ rfl,Zaa rfl (Zai aF rfl)⟩
theorem ZmO(s:Sc)(name:ByteArray)(m:Mem)(hr:RepC m s)(hl:s.light=true):CX Tryz.prog 17 #[s.v,.string name] m [] (Ret (ZwM (s.vars.any λx=>eqS x.s name) (s.vars.findIdx λx=>eqS x.s name))):=by
 apply Zg1
 intro b m1 aF _ b1 m2 aO dd
 have dq:=hr.vlen
 unfold few at dq
 have bH:=mLt aF aO
 refine ZbW (ZnP s.vars s.va s.vc _ [.pointer (some ⟨b1,0,none⟩)] (λx=>eqS x.s name) m2 (by omega) (hr.vrow.mono bH) λx _ m' hm'=>ZmN x name b1 m' (dd.mono hm')) λm3 aV=>?_
 have cK:=mLt bH aV
 have hL:=ZbI s m3 (hr.mono cK)
 rw[hl]at hL
 cases h:s.vars.any (λx=>eqS x.s name)with
 | true=>exact⟨false,ZdJ (decide_eq_false (by simp)) (Zan hL λm4 bU=>⟨rfl,rfl⟩),ZdJ rfl (Zai cK rfl)⟩
 | false=>exact⟨true,ZiK rfl ⟨rfl,rfl⟩,ZiK rfl (Zai cK rfl)⟩
theorem ZrE{s:Sc}{i k:Int}(h:i < 0\/(s.states.length:Int)<=i):Zcj s i k=false:=by
 unfold Zcj
 rcases h with h|h
 ·rw[decide_eq_false (show ¬i ≥ 0 by omega)];simp
 ·rw[decide_eq_false (show ¬i < (s.states.length:Nat) by omega)];simp
theorem ZrF{s:Sc}{k:Int}{x:Sta}(hx:s.states[0]?=some x)(h:k < 0\/(x.rules.length:Int)<=k):Zcj s 0 k=false:=by
 unfold Zcj
 rw[show(0:Int).toNat=0 from rfl,hx]
 rcases h with h|h
 ·rw[decide_eq_false (show ¬k ≥ 0 by omega)];simp
 ·simp only[decide_eq_false (show ¬k < (x.rules.length:Nat) by omega)];simp
def ZmP:ByteArray:=⟨#[110,111,110,101]⟩
theorem Zn1{s:Sc}(h:MkC s):(s.states.any λx=>eqS x.s ZmP)=false:=by
 rw[List.any_eq_false]
 intro x hx
 obtain⟨i,hi⟩:=List.getElem?_of_mem hx
 have:=zA2 (h.all i x hi).name
 have bY:∀n∈Zta,eqS n ZmP=false:=by decide +kernel
 rw[bY _ this];decide
theorem ZsW{s:Sc}(h:MkC s):(s.vars.any λx=>eqS x.s ZmP)=false:=by
 rw[List.any_eq_false]
 intro x hx
 obtain⟨i,hi⟩:=List.getElem?_of_mem hx
 have:=zA2 (h.vall i x hi).name
 have bY:∀n∈Zhn++ZdK,eqS n ZmP=false:=by decide +kernel
 rw[bY _ this];decide
def ZuO:Ru:=⟨3,false,false,.node 0 0 0 0 0 0 0 none 0 [],⟨#[]⟩,0,none,0,[],⟨#[]⟩,0⟩
set_option maxHeartbeats 2000000 in
theorem ZmQ(x:SScr)(n:Int)(m:Mem)(hx:RepSC m x)(sD:I64 n):CX Tryz.prog 4 #[.agg x.cs.toArray,.int .i64 n] m [] (Ret (.bool true)):=by
 apply ZeB
 intro b1 m1 aF _
 refine Zan (ZnY m1) λm2 aO=>ZdJ rfl ?_
 have cT:=mLt aF aO
 refine Zam (Zuy x m2 (hx.mono cT)) Zuw ?_
 rintro n0 a n1 c a1 n2 c1 m3 aV ⟨s,hv,hr,hk⟩
 simp only[Sc.v,Value.agg.injEq,Array.mk.injEq,List.cons.injEq,Value.int.injEq,Value.slice.injEq,true_and,and_true]at hv
 obtain⟨rfl,⟨rfl,rfl,rfl⟩,rfl,rfl,rfl⟩:=hv
 have cK:=mLt cT aV
 have hl:=hk.light
 have dq:=hk.len
 obtain⟨y,hy⟩:=ZcZ (show 0 < s.states.length by omega)
 have eN:=(hk.all 0 y hy).len
 intro b4
 obtain⟨b5,o5,jY,so⟩:=Zal Sta.len hr.row hy (by omega)
 refine⟨b5,o5,jY,⟨by omega,by omega⟩,_,so 1 _ rfl,Zaa rfl λb6 fB M hM _=>?_⟩
 obtain⟨u1,iv⟩:∃u1,u1=(if(-1:Int) < n then(-1:Int)else n):=⟨_,rfl⟩
 obtain⟨u2,tT⟩:∃u2,u2=(if((s.states.length:Nat):Int) > n then((s.states.length:Nat):Int)else n):=⟨_,rfl⟩
 obtain⟨u3,tU⟩:∃u3,u3=(if((y.rules.length:Nat):Int) > n then((y.rules.length:Nat):Int)else n):=⟨_,rfl⟩
 have k1:u1 < 0:=by rw[iv];split <;> omega
 have k2:(s.states.length:Int)<=u2:=by rw[tT];split <;> omega
 have k3:(y.rules.length:Int)<=u3:=by rw[tU];split <;> omega
 rw[show slN (.slice y.ra y.rules.length y.rc)=y.rules.length from rfl,<-iv,<-tT,<-tU]
 have t1:Zcj s u1 0=false:=ZrE (.inl k1)
 have t2:Zcj s u2 0=false:=ZrE (.inr k2)
 have t3:Zcj s 0 u1=false:=ZrF hy (.inl k1)
 have t4:Zcj s 0 u3=false:=ZrF hy (.inr k3)
 refine⟨λxs _ _ mm q=>∃i:Nat,i<=4/\xs=[.int .i64 i]/\q=4 - i,⟨4,0,by omega,rfl,rfl⟩,?_⟩
 rintro z m4 q bU ⟨i,hi,hz,rfl⟩
 obtain rfl:z=i:=by simpa using hz
 have i4:=hr.mono (mLt hM bU)
 have fL:=mLt cK (mLt hM bU)
 have e8:IntKind.i64.wrap ((i:Int)+1)=((i+1:Nat):Int):=by rw[Zak (by omega) (by omega)];rfl
 refine Zaz (λaC=>?_) (λbE=>?_)
 ·have aC:(i:Int) < ((4:Nat):Int):=aC
  have qX:i=0\/i=1\/i=2\/i=3:=by omega
  refine⟨⟨by omega,aC⟩,?_⟩
  rcases qX with rfl|rfl|rfl|rfl
  ·refine Zaa rfl λb7=>Zaa rfl ⟨⟨by decide,by decide⟩,Zaf (v:=.int .i64 u1) rfl ⟨⟨by decide,by decide⟩,Zaf (v:=.int .i64 0) rfl ⟨_,trivial,Zgb s _ _ m4 i4 t1,Zc0,?_⟩⟩⟩
   rintro d1 da dn dc da2 dn2 dc2 d7 m5 bW hd
   obtain⟨rfl,rfl,rfl,rfl,rfl,rfl,rfl,rfl⟩:=Zfn hd
   intro b8
   refine⟨⟨by decide,by decide⟩,Zaf (v:=.int .i64 u1) rfl ⟨⟨by decide,by decide⟩,Zaf (v:=.int .i64 0) rfl ⟨_,trivial,ZiH s _ _ ZuO m5 (i4.mono bW) t1,Zc0,?_⟩⟩⟩
   rintro d1 da dn dc da2 dn2 dc2 d7 m6 dt hd
   obtain⟨rfl,rfl,rfl,rfl,rfl,rfl,rfl,rfl⟩:=Zfn hd
   intro b9
   exact⟨false,ZdJ rfl (ZdJ rfl ⟨rfl,rfl⟩),ZdJ rfl ⟨rfl,_,by omega,_,by omega,congrArg (λz=>[Value.int .i64 z]) e8,rfl⟩⟩
  ·refine Zaa rfl λb7=>Zaa rfl ⟨⟨by decide,by decide⟩,Zaf (v:=.int .i64 u2) rfl ⟨⟨by decide,by decide⟩,Zaf (v:=.int .i64 0) rfl ⟨_,trivial,Zgb s _ _ m4 i4 t2,Zc0,?_⟩⟩⟩
   rintro d1 da dn dc da2 dn2 dc2 d7 m5 bW hd
   obtain⟨rfl,rfl,rfl,rfl,rfl,rfl,rfl,rfl⟩:=Zfn hd
   intro b8
   refine⟨⟨by decide,by decide⟩,Zaf (v:=.int .i64 u2) rfl ⟨⟨by decide,by decide⟩,Zaf (v:=.int .i64 0) rfl ⟨_,trivial,ZiH s _ _ ZuO m5 (i4.mono bW) t2,Zc0,?_⟩⟩⟩
   rintro d1 da dn dc da2 dn2 dc2 d7 m6 dt hd
   obtain⟨rfl,rfl,rfl,rfl,rfl,rfl,rfl,rfl⟩:=Zfn hd
   intro b9
   exact⟨false,ZdJ rfl (ZdJ rfl ⟨rfl,rfl⟩),ZdJ rfl ⟨rfl,_,by omega,_,by omega,congrArg (λz=>[Value.int .i64 z]) e8,rfl⟩⟩
  ·refine Zaa rfl λb7=>Zaa rfl ⟨⟨by decide,by decide⟩,Zaf (v:=.int .i64 0) rfl ⟨⟨by decide,by decide⟩,Zaf (v:=.int .i64 u1) rfl ⟨_,trivial,Zgb s _ _ m4 i4 t3,Zc0,?_⟩⟩⟩
   rintro d1 da dn dc da2 dn2 dc2 d7 m5 bW hd
   obtain⟨rfl,rfl,rfl,rfl,rfl,rfl,rfl,rfl⟩:=Zfn hd
   intro b8
   refine⟨⟨by decide,by decide⟩,Zaf (v:=.int .i64 0) rfl ⟨⟨by decide,by decide⟩,Zaf (v:=.int .i64 u1) rfl ⟨_,trivial,ZiH s _ _ ZuO m5 (i4.mono bW) t3,Zc0,?_⟩⟩⟩
   rintro d1 da dn dc da2 dn2 dc2 d7 m6 dt hd
   obtain⟨rfl,rfl,rfl,rfl,rfl,rfl,rfl,rfl⟩:=Zfn hd
   intro b9
   exact⟨false,ZdJ rfl (ZdJ rfl ⟨rfl,rfl⟩),ZdJ rfl ⟨rfl,_,by omega,_,by omega,congrArg (λz=>[Value.int .i64 z]) e8,rfl⟩⟩
  ·refine Zaa rfl λb7=>Zaa rfl ⟨⟨by decide,by decide⟩,Zaf (v:=.int .i64 0) rfl ⟨⟨by decide,by decide⟩,Zaf (v:=.int .i64 u3) rfl ⟨_,trivial,Zgb s _ _ m4 i4 t4,Zc0,?_⟩⟩⟩
   rintro d1 da dn dc da2 dn2 dc2 d7 m5 bW hd
   obtain⟨rfl,rfl,rfl,rfl,rfl,rfl,rfl,rfl⟩:=Zfn hd
   intro b8
   refine⟨⟨by decide,by decide⟩,Zaf (v:=.int .i64 0) rfl ⟨⟨by decide,by decide⟩,Zaf (v:=.int .i64 u3) rfl ⟨_,trivial,ZiH s _ _ ZuO m5 (i4.mono bW) t4,Zc0,?_⟩⟩⟩
   rintro d1 da dn dc da2 dn2 dc2 d7 m6 dt hd
   obtain⟨rfl,rfl,rfl,rfl,rfl,rfl,rfl,rfl⟩:=Zfn hd
   intro b9
   exact⟨false,ZdJ rfl (ZdJ rfl ⟨rfl,rfl⟩),ZdJ rfl ⟨rfl,_,by omega,_,by omega,congrArg (λz=>[Value.int .i64 z]) e8,rfl⟩⟩
 have bE:¬(i:Int) < ((4:Nat):Int):=bE
 intro b10 eZ b11 j3 b12 jf b13 j5
 obtain⟨M1,eR⟩:∃M,M=m4.add b10 [.int .i64 u1]:=⟨_,rfl⟩
 rw[<-eR]at j3 jf j5 ⊢
 have l1:m4.le M1:=by rw[eR];exact Mem.le_add eZ _
 have r1:rowRd M1 (some ⟨b10,0,none⟩) (ZcI [u1]):=by rw[eR];exact ZaN
 obtain⟨M2,dO⟩:∃M,M=M1.add b11 [.int .i64 u2]:=⟨_,rfl⟩
 rw[<-dO]at jf j5 ⊢
 have l2:M1.le M2:=by rw[dO];exact Mem.le_add j3 _
 have r2:rowRd M2 (some ⟨b11,0,none⟩) (ZcI [u2]):=by rw[dO];exact ZaN
 obtain⟨M3,eu⟩:∃M,M=M2.add b12 [.int .i64 0,.int .i64 0]:=⟨_,rfl⟩
 rw[<-eu]at j5 ⊢
 have l3:M2.le M3:=by rw[eu];exact Mem.le_add jf _
 have r3:rowRd M3 (some ⟨b12,0,none⟩) (ZcI [0,0]):=by rw[eu];exact ZaN
 have l4:=Mem.le_add j5 [Value.slice (some ⟨b10,0,none⟩) 1 1,.slice (some ⟨b11,0,none⟩) 1 1,.slice (some ⟨b12,0,none⟩) 2 2]
 have l34:=mLt l3 l4
 have l24:=mLt l2 l34
 have l14:=mLt l1 l24
 refine⟨λxs _ _ mm q=>∃i:Nat,i<=3/\xs=[.int .i64 i]/\q=3 - i,⟨3,0,by omega,rfl,rfl⟩,?_⟩
 rintro z m5 q bW ⟨i,hi,hz,rfl⟩
 obtain rfl:z=i:=by simpa using hz
 have tV:=mLt l14 bW
 have mI:=i4.mono tV
 have ij:=mLt fL tV
 have e8:IntKind.i64.wrap ((i:Int)+1)=((i+1:Nat):Int):=by rw[Zak (by omega) (by omega)];rfl
 refine Zaz (λaC=>?_) (λbE=>?_)
 ·have aC:(i:Int) < ((3:Nat):Int):=aC
  refine⟨⟨by omega,aC⟩,?_⟩
  have iA:i=0\/i=1\/i=2:=by omega
  have c1:=ZiI s [u1] [] u1 (some ⟨b10,0,none⟩) 1 m5 mI hl (r1.mono (mLt l24 bW)) rfl rfl (by simp) (by simp) (by simp) (.inl k1)
  have c2:=ZiI s [u2] [] u2 (some ⟨b11,0,none⟩) 1 m5 mI hl (r2.mono (mLt l34 bW)) rfl rfl (by simp) (by simp) (by simp) (.inr (.inl k2))
  have c3:=ZiI s [0,0] [0] 0 (some ⟨b12,0,none⟩) 2 m5 mI hl (r3.mono (mLt l4 bW)) rfl rfl (by simp;omega) (by simp) (by simp) (.inr (.inr ⟨0,by simp,rfl⟩))
  rcases iA with rfl|rfl|rfl
  ·refine Zaf (v:=.slice (some ⟨b10,0,none⟩) 1 1) rfl ⟨_,trivial,c1,Zc0,?_⟩
   rintro d1 da dn dc da2 dn2 dc2 d7 m6 dt hd
   obtain⟨rfl,rfl,rfl,rfl,rfl,rfl,rfl,rfl⟩:=Zfn hd
   intro b14
   exact⟨false,ZdJ rfl ⟨rfl,rfl⟩,ZdJ rfl ⟨rfl,_,by omega,_,by omega,congrArg (λz=>[Value.int .i64 z]) e8,rfl⟩⟩
  ·refine Zaf (v:=.slice (some ⟨b11,0,none⟩) 1 1) rfl ⟨_,trivial,c2,Zc0,?_⟩
   rintro d1 da dn dc da2 dn2 dc2 d7 m6 dt hd
   obtain⟨rfl,rfl,rfl,rfl,rfl,rfl,rfl,rfl⟩:=Zfn hd
   intro b14
   exact⟨false,ZdJ rfl ⟨rfl,rfl⟩,ZdJ rfl ⟨rfl,_,by omega,_,by omega,congrArg (λz=>[Value.int .i64 z]) e8,rfl⟩⟩
  ·refine Zaf (v:=.slice (some ⟨b12,0,none⟩) 2 2) rfl ⟨_,trivial,c3,Zc0,?_⟩
   rintro d1 da dn dc da2 dn2 dc2 d7 m6 dt hd
   obtain⟨rfl,rfl,rfl,rfl,rfl,rfl,rfl,rfl⟩:=Zfn hd
   intro b14
   exact⟨false,ZdJ rfl ⟨rfl,rfl⟩,ZdJ rfl ⟨rfl,_,by omega,_,by omega,congrArg (λz=>[Value.int .i64 z]) e8,rfl⟩⟩
 have hF:=ZsV s ZmP m5 mI hl
 rw[Zn1 hk]at hF
 refine⟨_,trivial,hF,Zo7,?_⟩
 rintro f1 f2 m6 dt hf
 obtain⟨rfl,rfl⟩:=ZrD hf
 have hG:=ZmO s ZmP m6 (mI.mono dt) hl
 rw[ZsW hk]at hG
 refine⟨_,trivial,hG,Zo7,?_⟩
 rintro g1 g2 m7 eF hg
 obtain⟨rfl,rfl⟩:=ZrD hg
 have tW:=mLt dt eF
 refine⟨_,trivial,ZuN s [] none 0 m7 (mI.mono tW) hl (.inl rfl) (by simp) (by simp) (by simp),ZqE,?_⟩
 rintro e1 ea en ec ea2 en2 ec2 e7 m8 dX ⟨kk,sq,jv,sr,jI,_⟩
 have sq:(e1=kk.n/\ea=kk.va/\en=kk.vars.length/\ec=kk.vc/\ea2=kk.sa/\en2=kk.states.length/\ec2=kk.sc)/\e7=0:=by
  simpa[Sc.v,and_assoc]using sq
 obtain⟨⟨rfl,rfl,rfl,rfl,rfl,rfl,rfl⟩,rfl⟩:=sq
 have ly:kk.states.length=0:=by
  have:=congrArg List.length jI
  simpa using this
 intro b15
 refine⟨true,ZiK rfl (ZiK rfl (ZiK rfl (ZiK rfl (ZiK (by rw[ly];rfl) ⟨rfl,?_⟩)))),Zai (mLt ij (mLt tW dX)) rfl⟩
 rw[sr];simp
end Go.Proofs.YtpjepnkiiojgfaaGreat
namespace Go.Proofs.YtpjepnkiiojgfaaGreat
open Go Go.Eng Go.Rx Go.Proofs Go.RowKit Go.ChangeShapes Go.WideShapes Go.ChangeAt
set_option maxRecDepth 100000
theorem ZrG{α:Type}{ZgF:α->List Value}{k:Nat}(hk:∀z,(ZgF z).length=k){m:Mem}{b:Nat}:∀{L:List α} {o:Nat},(∀i z,L[i]?=some z->m.reads b (o+i*k) (ZgF z))->m.reads b o (L.map ZgF).flatten
 | [],o,h=>λj v hj=>by simp at hj
 | x::L,o,h=>λj v hj=>by
  rw[List.map_cons,List.flatten_cons]at hj
  by_cases aC:j < k
  ·rw[zA5 (by rw[hk];exact aC)]at hj
   have:=h 0 x rfl j v hj
   rwa [Nat.zero_mul,Nat.add_zero]at this
  ·rw[zA4 (by rw[hk];omega),hk]at hj
   have:=ZrG hk (L:=L) (o:=o+k) (λi z hz=>by
    have:=h (i+1) z (by simpa using hz)
    rwa [show o+(i+1)*k=o+k+i*k by rw[Nat.succ_mul];omega]at this) (j - k) v hj
   rwa [show o+k+(j - k)=o+j by omega]at this
theorem ZrH{α:Type}{p:Nat->α->Prop}:∀n,(∀i,i < n->∃z,p i z)->∃L:List α,L.length=n/\∀i z,L[i]?=some z->p i z
 | 0,_=>⟨[],rfl,λi z h=>by simp at h⟩
 | n+1,h=>by
  obtain⟨L,hL,hp⟩:=ZrH n λi hi=>h i (by omega)
  obtain⟨z,hz⟩:=h n (by omega)
  refine⟨L++[z],by rw[zA1,hL];rfl,λi y hy=>?_⟩
  by_cases hi:i < n
  ·rw[zA5 (by omega)]at hy;exact hp i y hy
  ·have aC:=(zA0 hy).1
   rw[zA1,hL]at aC
   have aC:i < n+1:=aC
   obtain rfl:i=n:=by omega
   rw[zA4 (by omega),hL,Nat.sub_self]at hy
   obtain rfl:z=y:=by simpa using hy
   exact hz
theorem Zxn{w:World}{a:Addr}{v:Value}(h:w.cell? (a.add 0)=some v):∃b o,a=⟨b,o,none⟩:=by
 obtain⟨b,o,sp⟩:=a
 cases sp with
 | none=>exact⟨b,o,rfl⟩
 | some s=>
  exfalso
  have e:(Addr.add ⟨b,o,some s⟩ 0)=⟨b,o,some s⟩:=rfl
  rw[e]at h
  unfold World.cell? at h
  split at h
  ·simp at h
  ·cases h
section
variable {H:Type} {enc:TypeId×Value->H} {W:World} {cH:Bool}
theorem Zo8{P:Program}{e:TypeId}:∀{l:List (DataW H)} {d:DataW H},d∈l->∀n∈d.weights P e,n∈DataW.weightsAll P e l
 | x::l,d,hd,n,hn=>by
  simp only[DataW.weightsAll,List.mem_append]
  rcases List.mem_cons.1 hd with rfl|hd
  ·exact .inl hn
  ·exact .inr (Zo8 hd n hn)
theorem ZcR{α:Type}{ZgF:α->List Value}{Q:α->Prop}{t e:TypeId}{k:Nat}(ht:Tryz.prog.underlying t=some (.slice e))(hc:Tryz.prog.cellsOf e=k)(hk:∀z,(ZgF z).length=k)(h0:0 < k)(hb:1<=Tryz.prog.bytesOf e){n:Nat}{cs:List Value}{x:DataW H×List MemPlace}
  (h:DataW.trod enc Tryz.prog W 0 (λ_=>true) cH n t cs=some x) (hw:∀w∈x.1.weights Tryz.prog t,w<=reachBytes)
  (ih:∀n',n' < n->∀(cs':List Value)(y:DataW H×List MemPlace),DataW.trod enc Tryz.prog W 0 (λ_=>true) cH n' e cs'=some y->(∀w∈y.1.weights Tryz.prog e,w<=reachBytes)->∃z,cs'=ZgF z/\Q z):
  ∃(L:List α)(a:Option Addr)(cap:Nat),cs=[.slice a L.length cap]/\L.length<=cap/\L.length<=1000000000000000/\rowRd (ZlM W) a (L.map ZgF).flatten/\∀z∈L,Q z:=by
 rcases DataW.trod_slice ht h with⟨q4,_⟩|⟨a,len,cap,elems,rest,n',hn',q4,hx,_,hl,hm,sW,oh,_⟩
 ·exact⟨[],none,0,q4,by simp,by simp,.inl rfl,by simp⟩
 rw[hx]at hw
 simp only[DataW.weights,ht,List.length_map]at hw
 have bB:=hw _ (List.mem_cons_self)
 have aD:len<=1000000000000000:=by
  have h2:=reachBytes_lt
  have h3:(elems.length+rest.length)*1<=(elems.length+rest.length)*Tryz.prog.bytesOf e:=Nat.mul_le_mul_left _ hb
  omega
 rw[hc]at oh
 obtain⟨L,hL,hp⟩:=ZrH (p:=λi z=>(∀j v,(ZgF z)[j]?=some v->W.cell? ((a.add (i*k)).add j)=some v)/\Q z) len (λi hi=>by
  have h1:=oh i hi
  rw[zA3 (by omega)]at h1
  obtain⟨cs',h2,h3⟩:=Option.bind_eq_some_iff.1 h1
  obtain⟨_,ji,wj⟩:=World.cells?_some h2
  obtain⟨z,rfl,hz⟩:=ih n' (by omega) _ _ h3 (λw gJ=>hw w (List.mem_cons_of_mem _ (List.mem_append_left _ (Zo8 (List.mem_map.2 ⟨_,List.getElem_mem _,rfl⟩) w gJ))))
  refine⟨z,λj v hj=>?_,hz⟩
  have aC:=(zA0 hj).1
  rw[wj j (by rw[ji]at aC;exact aC)];exact hj)
 refine⟨L,some a,cap,by rw[q4,hL],by omega,by omega,?_,λz hz=>?_⟩
 ·by_cases wQ:len=0
  ·left
   obtain rfl:L=[]:=List.eq_nil_of_length_eq_zero (by omega)
   rfl
  ·right
   obtain⟨z,hz⟩:=Zav (show 0 < L.length by omega)
   have h1:=(hp 0 z hz).1
   obtain⟨u,hu⟩:=Zav (show 0 < (ZgF z).length by rw[hk];exact h0)
   have h2:=h1 0 u hu
   rw[Nat.zero_mul]at h2
   have e0:∀b:Addr,(b.add 0).add 0=b.add 0:=λb=>by
    obtain⟨x1,x2,x3⟩:=b
    cases x3 <;> rfl
   rw[e0]at h2
   obtain⟨b,o,rfl⟩:=Zxn h2
   refine⟨b,o,rfl,ZrG hk λi z hz j v hj=>?_⟩
   have:=(hp i z hz).1 j v hj
   rw[Zbu,Zbu]at this
   exact this
 ·obtain⟨i,hi⟩:=List.getElem?_of_mem hz
  exact(hp i z hi).2
end
theorem wu8{n:Int}(h:(Lit.int .u8 n).wf=true):0<=n/\n < 256:=by
 have:0<=n/\n<=255:=by simpa[Lit.wf,IntKind.min,IntKind.max,IntKind.signed,IntKind.bits]using h
 omega
theorem Zx6{n:Int}(h:(Lit.int .u64 n).wf=true):0<=n/\n < 18446744073709551616:=by
 have:0<=n/\n<=18446744073709551615:=by simpa[Lit.wf,IntKind.min,IntKind.max,IntKind.signed,IntKind.bits]using h
 omega
theorem Zxo{n:Int}(h:(Lit.int .i64 n).wf=true) : -9223372036854775808<=n/\n<=9223372036854775807:=by
 simpa[Lit.wf,IntKind.min,IntKind.max,IntKind.signed,IntKind.bits]using h
def s5C(s:Nat×Nat×Nat):List Value:=[.int .u8 s.1,.int .u8 s.2.1,.int .u64 s.2.2]
def s8C(s:Nat×Nat×Nat):List Value:=[.int .u8 s.1,.int .u8 s.2.1,.int .u8 s.2.2]
theorem Zwe{m:Mem}{a:Option Addr}{l:List (Nat×Nat×Nat)}(hl:l.length<=1000000000000000)(h:rowRd m a (l.map s5C).flatten)(hb:∀s∈l,s.1 < 256/\s.2.1 < 256/\s.2.2 < 18446744073709551616):SmE m a l:=⟨by omega,hb,λi s hi=>Zal (cs:=s5C) (n:=3) (λ_=>rfl) h hi (by omega)⟩
theorem Zxp{m:Mem}{a:Option Addr}{l:List (Nat×Nat×Nat)}(hl:l.length<=1000000000000000)(h:rowRd m a (l.map s8C).flatten)(hb:∀s∈l,s.1 < 256/\s.2.1 < 256/\s.2.2 < 256):Sm m a l:=⟨by omega,hb,λi s hi=>Zal (cs:=s8C) (n:=3) (λ_=>rfl) h hi (by omega)⟩
section
variable {H:Type} {enc:TypeId×Value->H} {W:World} {cH:Bool}
theorem ZrI(n:Nat)(cs:List Value)(x:DataW H×List MemPlace)(h:DataW.trod enc Tryz.prog W 0 (λ_=>true) cH n 5 cs=some x):∃z:Nat,cs=[.int .u8 z]/\z < 256:=by
 obtain⟨k,q,_,w⟩:=DataW.trod_int Tryz.underlying5 h
 have b:=wu8 w
 obtain⟨z,rfl⟩:∃z:Nat,k=z:=⟨k.toNat,by omega⟩
 exact⟨z,q,by omega⟩
theorem ZwN:Tryz.prog.underlying 217=some (.struct #[⟨ "Kind",5,0,false, "", "",0⟩,⟨ "N",5,1,false, "", "",1⟩,⟨ "Bits",37,2,false, "", "",8⟩]):=by kernel_rfl
theorem ZuP(n:Nat)(cs:List Value)(x:DataW H×List MemPlace)(h:DataW.trod enc Tryz.prog W 0 (λ_=>true) cH n 217 cs=some x)(hw:∀w∈x.1.weights Tryz.prog 217,w<=reachBytes):∃s:Nat×Nat×Nat,cs=s5C s/\s.1 < 256/\s.2.1 < 256/\s.2.2 < 18446744073709551616:=by
 obtain⟨xs,k,hk,di,aD,cD,hx⟩:=DataW.trod_struct ZwN h
 have hc:Tryz.prog.cellsOf 217=3:=by kernel_rfl
 rw[hc]at aD
 obtain⟨c0,c1,c2,rfl⟩:∃c0 c1 c2,cs=[c0,c1,c2]:=by
  match cs,aD with
  | [c0,c1,c2],_=>exact⟨c0,c1,c2,rfl⟩
 obtain⟨z0,z1,z2,rfl⟩:∃z0 z1 z2,xs=[z0,z1,z2]:=by
  match xs,cD with
  | [z0,z1,z2],_=>exact⟨z0,z1,z2,rfl⟩
 rw[di]at hw
 simp only[DataW.weights,ZwN]at hw
 have g0:DataW.trod enc Tryz.prog W 0 (λ_=>true) cH k 5 (List.take (Tryz.prog.cellsOf 5) (List.drop 0 [c0,c1,c2]))=some z0:=hx 0 _ rfl
 rw[show Tryz.prog.cellsOf 5=1 by kernel_rfl]at g0
 obtain⟨kk0,q0,_,w0⟩:=DataW.trod_int Tryz.underlying5 g0
 have b0:=wu8 w0
 obtain⟨kk,rfl⟩:∃z:Nat,kk0=z:=⟨kk0.toNat,by omega⟩
 have g1:DataW.trod enc Tryz.prog W 0 (λ_=>true) cH k 5 (List.take (Tryz.prog.cellsOf 5) (List.drop 1 [c0,c1,c2]))=some z1:=hx 1 _ rfl
 rw[show Tryz.prog.cellsOf 5=1 by kernel_rfl]at g1
 obtain⟨nn0,q1,_,w1⟩:=DataW.trod_int Tryz.underlying5 g1
 have b1:=wu8 w1
 obtain⟨nn,rfl⟩:∃z:Nat,nn0=z:=⟨nn0.toNat,by omega⟩
 have g2:DataW.trod enc Tryz.prog W 0 (λ_=>true) cH k 37 (List.take (Tryz.prog.cellsOf 37) (List.drop 2 [c0,c1,c2]))=some z2:=hx 2 _ rfl
 rw[show Tryz.prog.cellsOf 37=1 by kernel_rfl]at g2
 obtain⟨bb0,q2,_,w2⟩:=DataW.trod_int Tryz.underlying37 g2
 have b2:=Zx6 w2
 obtain⟨bb,rfl⟩:∃z:Nat,bb0=z:=⟨bb0.toNat,by omega⟩
 simp only[List.drop,List.take,List.cons.injEq,and_true]at q0 q1 q2
 subst q0
 subst q1
 subst q2
 exact⟨(kk,nn,bb),rfl,by show kk < 256;omega,by show nn < 256;omega,by show bb < 18446744073709551616;omega⟩
theorem ZwO:Tryz.prog.underlying 195=some (.struct #[⟨ "Kind",5,0,false, "", "",0⟩,⟨ "N",5,1,false, "", "",1⟩,⟨ "M",5,2,false, "", "",2⟩]):=by kernel_rfl
theorem ZuQ(n:Nat)(cs:List Value)(x:DataW H×List MemPlace)(h:DataW.trod enc Tryz.prog W 0 (λ_=>true) cH n 195 cs=some x)(hw:∀w∈x.1.weights Tryz.prog 195,w<=reachBytes):∃s:Nat×Nat×Nat,cs=s8C s/\s.1 < 256/\s.2.1 < 256/\s.2.2 < 256:=by
 obtain⟨xs,k,hk,di,aD,cD,hx⟩:=DataW.trod_struct ZwO h
 have hc:Tryz.prog.cellsOf 195=3:=by kernel_rfl
 rw[hc]at aD
 obtain⟨c0,c1,c2,rfl⟩:∃c0 c1 c2,cs=[c0,c1,c2]:=by
  match cs,aD with
  | [c0,c1,c2],_=>exact⟨c0,c1,c2,rfl⟩
 obtain⟨z0,z1,z2,rfl⟩:∃z0 z1 z2,xs=[z0,z1,z2]:=by
  match xs,cD with
  | [z0,z1,z2],_=>exact⟨z0,z1,z2,rfl⟩
 rw[di]at hw
 simp only[DataW.weights,ZwO]at hw
 have g0:DataW.trod enc Tryz.prog W 0 (λ_=>true) cH k 5 (List.take (Tryz.prog.cellsOf 5) (List.drop 0 [c0,c1,c2]))=some z0:=hx 0 _ rfl
 rw[show Tryz.prog.cellsOf 5=1 by kernel_rfl]at g0
 obtain⟨kk0,q0,_,w0⟩:=DataW.trod_int Tryz.underlying5 g0
 have b0:=wu8 w0
 obtain⟨kk,rfl⟩:∃z:Nat,kk0=z:=⟨kk0.toNat,by omega⟩
 have g1:DataW.trod enc Tryz.prog W 0 (λ_=>true) cH k 5 (List.take (Tryz.prog.cellsOf 5) (List.drop 1 [c0,c1,c2]))=some z1:=hx 1 _ rfl
 rw[show Tryz.prog.cellsOf 5=1 by kernel_rfl]at g1
 obtain⟨nn0,q1,_,w1⟩:=DataW.trod_int Tryz.underlying5 g1
 have b1:=wu8 w1
 obtain⟨nn,rfl⟩:∃z:Nat,nn0=z:=⟨nn0.toNat,by omega⟩
 have g2:DataW.trod enc Tryz.prog W 0 (λ_=>true) cH k 5 (List.take (Tryz.prog.cellsOf 5) (List.drop 2 [c0,c1,c2]))=some z2:=hx 2 _ rfl
 rw[show Tryz.prog.cellsOf 5=1 by kernel_rfl]at g2
 obtain⟨bb0,q2,_,w2⟩:=DataW.trod_int Tryz.underlying5 g2
 have b2:=wu8 w2
 obtain⟨bb,rfl⟩:∃z:Nat,bb0=z:=⟨bb0.toNat,by omega⟩
 simp only[List.drop,List.take,List.cons.injEq,and_true]at q0 q1 q2
 subst q0
 subst q1
 subst q2
 exact⟨(kk,nn,bb),rfl,by show kk < 256;omega,by show nn < 256;omega,by show bb < 256;omega⟩
theorem ZrJ:Tryz.prog.underlying 158=some (.struct #[⟨ "Kind",5,0,false, "", "",0⟩,⟨ "N",5,1,false, "", "",1⟩,⟨ "Parts",22,2,false, "", "",8⟩,⟨ "Expr",156,3,false, "", "",32⟩]):=by kernel_rfl
theorem ZqG(n:Nat)(cs:List Value)(x:DataW H×List MemPlace)(h:DataW.trod enc Tryz.prog W 0 (λ_=>true) cH n 158 cs=some x)(hw:∀w∈x.1.weights Tryz.prog 158,w<=reachBytes):∃s:SAct,cs=s.cs/\RepSA (ZlM W) s:=by
 obtain⟨xs,k,hk,di,aD,cD,hx⟩:=DataW.trod_struct ZrJ h
 have hc:Tryz.prog.cellsOf 158=4:=by kernel_rfl
 rw[hc]at aD
 obtain⟨c0,c1,c2,c3,rfl⟩:∃c0 c1 c2 c3,cs=[c0,c1,c2,c3]:=by
  match cs,aD with
  | [c0,c1,c2,c3],_=>exact⟨c0,c1,c2,c3,rfl⟩
 obtain⟨z0,z1,z2,z3,rfl⟩:∃z0 z1 z2 z3,xs=[z0,z1,z2,z3]:=by
  match xs,cD with
  | [z0,z1,z2,z3],_=>exact⟨z0,z1,z2,z3,rfl⟩
 rw[di]at hw
 simp only[DataW.weights,ZrJ]at hw
 have g0:DataW.trod enc Tryz.prog W 0 (λ_=>true) cH k 5 (List.take (Tryz.prog.cellsOf 5) (List.drop 0 [c0,c1,c2,c3]))=some z0:=hx 0 _ rfl
 rw[show Tryz.prog.cellsOf 5=1 by kernel_rfl]at g0
 obtain⟨kk0,q0,_,w0⟩:=DataW.trod_int Tryz.underlying5 g0
 have b0:=wu8 w0
 obtain⟨kk,rfl⟩:∃z:Nat,kk0=z:=⟨kk0.toNat,by omega⟩
 have g1:DataW.trod enc Tryz.prog W 0 (λ_=>true) cH k 5 (List.take (Tryz.prog.cellsOf 5) (List.drop 1 [c0,c1,c2,c3]))=some z1:=hx 1 _ rfl
 rw[show Tryz.prog.cellsOf 5=1 by kernel_rfl]at g1
 obtain⟨nn0,q1,_,w1⟩:=DataW.trod_int Tryz.underlying5 g1
 have b1:=wu8 w1
 obtain⟨nn,rfl⟩:∃z:Nat,nn0=z:=⟨nn0.toNat,by omega⟩
 have g2:DataW.trod enc Tryz.prog W 0 (λ_=>true) cH k 22 (List.take (Tryz.prog.cellsOf 22) (List.drop 2 [c0,c1,c2,c3]))=some z2:=hx 2 _ rfl
 rw[show Tryz.prog.cellsOf 22=1 by kernel_rfl]at g2
 obtain⟨L2,a2,cap2,q2,mt,mu,cR,jq⟩:=ZcR (ZgF:=(λn:Nat=>[Value.int .u8 n])) (Q:=(λn:Nat=>n < 256)) (k:=1) (by kernel_rfl) (by kernel_rfl) (λ_=>rfl) (by decide) (zA6 (by kernel_rfl)) g2 (λw gJ=>hw w (DataW.weights_mem_each (j:=2) (t:=22) rfl rfl w gJ)) λn' _ cs' y hy jr=>ZrI n' cs' y hy
 have g3:DataW.trod enc Tryz.prog W 0 (λ_=>true) cH k 156 (List.take (Tryz.prog.cellsOf 156) (List.drop 3 [c0,c1,c2,c3]))=some z3:=hx 3 _ rfl
 rw[show Tryz.prog.cellsOf 156=1 by kernel_rfl]at g3
 obtain⟨L3,a3,cap3,q3,ss,su,jb,oR⟩:=ZcR (ZgF:=s5C) (Q:=(λs:Nat×Nat×Nat=>s.1 < 256/\s.2.1 < 256/\s.2.2 < 18446744073709551616)) (k:=3) (by kernel_rfl) (by kernel_rfl) (λ_=>rfl) (by decide) (zA6 (by kernel_rfl)) g3 (λw gJ=>hw w (DataW.weights_mem_each (j:=3) (t:=156) rfl rfl w gJ)) λn' _ cs' y hy jr=>ZuP n' cs' y hy jr
 simp only[List.drop,List.take,List.cons.injEq,and_true]at q0 q1 q2 q3
 subst q0
 subst q1
 subst q2
 subst q3
 exact⟨⟨kk,nn,a2,L2,cap2,a3,L3,cap3⟩,rfl,⟨by show kk < 256;omega,by show nn < 256;omega,⟨jq,cR⟩,mu,mt,Zwe su jb oR,ss⟩⟩
theorem ZrK:Tryz.prog.underlying 108=some (.struct #[⟨ "Kind",5,0,false, "", "",0⟩,⟨ "N",5,1,false, "", "",1⟩,⟨ "Ticks",5,2,false, "", "",2⟩,⟨ "Goto",5,3,false, "", "",3⟩,⟨ "Regex",105,4,false, "", "",8⟩,⟨ "Acts",106,5,false, "", "",32⟩]):=by kernel_rfl
theorem ZqH(n:Nat)(cs:List Value)(x:DataW H×List MemPlace)(h:DataW.trod enc Tryz.prog W 0 (λ_=>true) cH n 108 cs=some x)(hw:∀w∈x.1.weights Tryz.prog 108,w<=reachBytes):∃s:SRul,cs=s.cs/\RepSR (ZlM W) s:=by
 obtain⟨xs,k,hk,di,aD,cD,hx⟩:=DataW.trod_struct ZrK h
 have hc:Tryz.prog.cellsOf 108=6:=by kernel_rfl
 rw[hc]at aD
 obtain⟨c0,c1,c2,c3,c4,c5,rfl⟩:∃c0 c1 c2 c3 c4 c5,cs=[c0,c1,c2,c3,c4,c5]:=by
  match cs,aD with
  | [c0,c1,c2,c3,c4,c5],_=>exact⟨c0,c1,c2,c3,c4,c5,rfl⟩
 obtain⟨z0,z1,z2,z3,z4,z5,rfl⟩:∃z0 z1 z2 z3 z4 z5,xs=[z0,z1,z2,z3,z4,z5]:=by
  match xs,cD with
  | [z0,z1,z2,z3,z4,z5],_=>exact⟨z0,z1,z2,z3,z4,z5,rfl⟩
 rw[di]at hw
 simp only[DataW.weights,ZrK]at hw
 have g0:DataW.trod enc Tryz.prog W 0 (λ_=>true) cH k 5 (List.take (Tryz.prog.cellsOf 5) (List.drop 0 [c0,c1,c2,c3,c4,c5]))=some z0:=hx 0 _ rfl
 rw[show Tryz.prog.cellsOf 5=1 by kernel_rfl]at g0
 obtain⟨kk0,q0,_,w0⟩:=DataW.trod_int Tryz.underlying5 g0
 have b0:=wu8 w0
 obtain⟨kk,rfl⟩:∃z:Nat,kk0=z:=⟨kk0.toNat,by omega⟩
 have g1:DataW.trod enc Tryz.prog W 0 (λ_=>true) cH k 5 (List.take (Tryz.prog.cellsOf 5) (List.drop 1 [c0,c1,c2,c3,c4,c5]))=some z1:=hx 1 _ rfl
 rw[show Tryz.prog.cellsOf 5=1 by kernel_rfl]at g1
 obtain⟨nn0,q1,_,w1⟩:=DataW.trod_int Tryz.underlying5 g1
 have b1:=wu8 w1
 obtain⟨nn,rfl⟩:∃z:Nat,nn0=z:=⟨nn0.toNat,by omega⟩
 have g2:DataW.trod enc Tryz.prog W 0 (λ_=>true) cH k 5 (List.take (Tryz.prog.cellsOf 5) (List.drop 2 [c0,c1,c2,c3,c4,c5]))=some z2:=hx 2 _ rfl
 rw[show Tryz.prog.cellsOf 5=1 by kernel_rfl]at g2
 obtain⟨tt0,q2,_,w2⟩:=DataW.trod_int Tryz.underlying5 g2
 have b2:=wu8 w2
 obtain⟨tt,rfl⟩:∃z:Nat,tt0=z:=⟨tt0.toNat,by omega⟩
 have g3:DataW.trod enc Tryz.prog W 0 (λ_=>true) cH k 5 (List.take (Tryz.prog.cellsOf 5) (List.drop 3 [c0,c1,c2,c3,c4,c5]))=some z3:=hx 3 _ rfl
 rw[show Tryz.prog.cellsOf 5=1 by kernel_rfl]at g3
 obtain⟨gg0,q3,_,w3⟩:=DataW.trod_int Tryz.underlying5 g3
 have b3:=wu8 w3
 obtain⟨gg,rfl⟩:∃z:Nat,gg0=z:=⟨gg0.toNat,by omega⟩
 have g4:DataW.trod enc Tryz.prog W 0 (λ_=>true) cH k 105 (List.take (Tryz.prog.cellsOf 105) (List.drop 4 [c0,c1,c2,c3,c4,c5]))=some z4:=hx 4 _ rfl
 rw[show Tryz.prog.cellsOf 105=1 by kernel_rfl]at g4
 obtain⟨L4,a4,cap4,q4,sw,sx,cG,oS⟩:=ZcR (ZgF:=s8C) (Q:=(λs:Nat×Nat×Nat=>s.1 < 256/\s.2.1 < 256/\s.2.2 < 256)) (k:=3) (by kernel_rfl) (by kernel_rfl) (λ_=>rfl) (by decide) (zA6 (by kernel_rfl)) g4 (λw gJ=>hw w (DataW.weights_mem_each (j:=4) (t:=105) rfl rfl w gJ)) λn' _ cs' y hy jr=>ZuQ n' cs' y hy jr
 have g5:DataW.trod enc Tryz.prog W 0 (λ_=>true) cH k 106 (List.take (Tryz.prog.cellsOf 106) (List.drop 5 [c0,c1,c2,c3,c4,c5]))=some z5:=hx 5 _ rfl
 rw[show Tryz.prog.cellsOf 106=1 by kernel_rfl]at g5
 obtain⟨L5,a5,cap5,q5,sy,sA,bG,oT⟩:=ZcR (ZgF:=SAct.cs) (Q:=RepSA (ZlM W)) (k:=4) (by kernel_rfl) (by kernel_rfl) (λ_=>rfl) (by decide) (zA6 (by kernel_rfl)) g5 (λw gJ=>hw w (DataW.weights_mem_each (j:=5) (t:=106) rfl rfl w gJ)) λn' _ cs' y hy jr=>ZqG n' cs' y hy jr
 simp only[List.drop,List.take,List.cons.injEq,and_true]at q0 q1 q2 q3 q4 q5
 subst q0
 subst q1
 subst q2
 subst q3
 subst q4
 subst q5
 exact⟨⟨kk,nn,tt,gg,a4,L4,cap4,a5,L5,cap5⟩,rfl,⟨by show kk < 256;omega,by show nn < 256;omega,by show tt < 256;omega,by show gg < 256;omega,Zxp sx cG oS,sw,sA,sy,bG,oT⟩⟩
theorem ZqI(n:Nat)(cs:List Value)(x:DataW H×List MemPlace)(h:DataW.trod enc Tryz.prog W 0 (λ_=>true) cH n 104 cs=some x)(hw:∀w∈x.1.weights Tryz.prog 104,w<=reachBytes):∃s:SSta,cs=s.cs/\RepSS (ZlM W) s:=by
 obtain⟨L,a,cap,q,wk,pi,aB,bY⟩:=ZcR (ZgF:=SRul.cs) (Q:=RepSR (ZlM W)) (k:=6) (by kernel_rfl) (by kernel_rfl) (λ_=>rfl) (by decide) (zA6 (by kernel_rfl)) h hw λn' _ cs' y hy jr=>ZqH n' cs' y hy jr
 exact⟨⟨a,L,cap⟩,q,⟨pi,wk,aB,bY⟩⟩
theorem Zo9:Tryz.prog.underlying 25=some (.struct #[⟨ "Buffer",5,0,false, "", "",0⟩,⟨ "Values",22,1,false, "", "",8⟩,⟨ "States",23,2,false, "", "",32⟩]):=by kernel_rfl
theorem ZqJ(n:Nat)(cs:List Value)(x:DataW H×List MemPlace)(h:DataW.trod enc Tryz.prog W 0 (λ_=>true) cH n 25 cs=some x)(hw:∀w∈x.1.weights Tryz.prog 25,w<=reachBytes):∃s:SScr,cs=s.cs/\RepSC (ZlM W) s:=by
 obtain⟨xs,k,hk,di,aD,cD,hx⟩:=DataW.trod_struct Zo9 h
 have hc:Tryz.prog.cellsOf 25=3:=by kernel_rfl
 rw[hc]at aD
 obtain⟨c0,c1,c2,rfl⟩:∃c0 c1 c2,cs=[c0,c1,c2]:=by
  match cs,aD with
  | [c0,c1,c2],_=>exact⟨c0,c1,c2,rfl⟩
 obtain⟨z0,z1,z2,rfl⟩:∃z0 z1 z2,xs=[z0,z1,z2]:=by
  match xs,cD with
  | [z0,z1,z2],_=>exact⟨z0,z1,z2,rfl⟩
 rw[di]at hw
 simp only[DataW.weights,Zo9]at hw
 have g0:DataW.trod enc Tryz.prog W 0 (λ_=>true) cH k 5 (List.take (Tryz.prog.cellsOf 5) (List.drop 0 [c0,c1,c2]))=some z0:=hx 0 _ rfl
 rw[show Tryz.prog.cellsOf 5=1 by kernel_rfl]at g0
 obtain⟨kk0,q0,_,w0⟩:=DataW.trod_int Tryz.underlying5 g0
 have b0:=wu8 w0
 obtain⟨kk,rfl⟩:∃z:Nat,kk0=z:=⟨kk0.toNat,by omega⟩
 have g1:DataW.trod enc Tryz.prog W 0 (λ_=>true) cH k 22 (List.take (Tryz.prog.cellsOf 22) (List.drop 1 [c0,c1,c2]))=some z1:=hx 1 _ rfl
 rw[show Tryz.prog.cellsOf 22=1 by kernel_rfl]at g1
 obtain⟨L1,a1,cap1,q1,wl,sB,oU,oV⟩:=ZcR (ZgF:=(λn:Nat=>[Value.int .u8 n])) (Q:=(λn:Nat=>n < 256)) (k:=1) (by kernel_rfl) (by kernel_rfl) (λ_=>rfl) (by decide) (zA6 (by kernel_rfl)) g1 (λw gJ=>hw w (DataW.weights_mem_each (j:=1) (t:=22) rfl rfl w gJ)) λn' _ cs' y hy jr=>ZrI n' cs' y hy
 have g2:DataW.trod enc Tryz.prog W 0 (λ_=>true) cH k 23 (List.take (Tryz.prog.cellsOf 23) (List.drop 2 [c0,c1,c2]))=some z2:=hx 2 _ rfl
 rw[show Tryz.prog.cellsOf 23=1 by kernel_rfl]at g2
 obtain⟨L2,a2,cap2,q2,mt,mu,cR,jq⟩:=ZcR (ZgF:=SSta.cs) (Q:=RepSS (ZlM W)) (k:=1) (by kernel_rfl) (by kernel_rfl) (λ_=>rfl) (by decide) (zA6 (by kernel_rfl)) g2 (λw gJ=>hw w (DataW.weights_mem_each (j:=2) (t:=23) rfl rfl w gJ)) λn' _ cs' y hy jr=>ZqI n' cs' y hy jr
 simp only[List.drop,List.take,List.cons.injEq,and_true]at q0 q1 q2
 subst q0
 subst q1
 subst q2
 exact⟨⟨kk,a1,L1,cap1,a2,L2,cap2⟩,rfl,⟨by show kk < 256;omega,⟨oV,oU⟩,sB,mu,mt,cR,jq⟩⟩
end
theorem Zwf:ownKnob Tryz.prog.godebug=none:=by kernel_rfl
theorem ZuR:laidOutB Tryz.prog=true:=by kernel_rfl
set_option maxHeartbeats 4000000 in
theorem Zg2(H:Type)(enc:TypeId×Value->H)(W:World)(base:Nat)(args:Array Value)(ds gs:List (DataW H))(before:List MemPlace)
  (js:∀(j:Nat) t v,Tryz.f4.params[j]?=some t->args[j]?=some v->Value.okWide Tryz.prog W .any base t v)
  (hW:DataW.Whole enc Tryz.prog Tryz.f4.params.toList Rows.astWrongSpec.vars false W args.toList ds gs before) (bB:(DataW.weightsEach Tryz.prog (Tryz.f4.params.toList++Rows.astWrongSpec.plain.varTypes Tryz.prog) (ds++gs)).all (λn=>decide (n<=reachBytes))=true):
  Calls Tryz.prog 4 args W λe W'=>∃v,e=.returned v/\Rows.astWrongSpec.post enc Tryz.prog Tryz.f4 false true false false W args v W':=by
 have hW':=hW
 obtain⟨p,q,wm,hV,rfl,jt,dW⟩:=hW
 have hA:DataW.TrodAll enc Tryz.prog W 0 (λ_=>true) true Tryz.f4.params.toList args.toList ds p:=wm
 rw[Tryz.params4]at hA js
 obtain⟨v0,vs0,d0,ds0,p0,q0,a0,rfl,rfl,h0,r0⟩:=trodAll_cons hA
 obtain⟨v1,vs1,d1,ds1,p1,q1,rfl,rfl,rfl,h1,r1⟩:=trodAll_cons r0
 obtain⟨rfl,rfl,rfl⟩:=trodAll_nil r1
 obtain rfl:args=#[v0,v1]:=by cases args;simp_all
 obtain⟨rfl,rfl⟩:=trodVars_none hV
 obtain⟨f0,g0⟩:=h0
 obtain⟨cs0,rfl,-⟩:=okWide_struct Zo9 (js 0 _ v0 rfl rfl)
 obtain⟨Lc0,rfl⟩:∃L:List Value,cs0=L.toArray:=⟨cs0.toList,by simp⟩
 obtain⟨x,ii,oW⟩:=ZqJ f0 _ _ g0 (λw gJ=>by
  have:=List.all_eq_true.1 bB w (DataW.weights_mem_each (j:=0) (t:=25) (d:=d0) (by rw[Tryz.params4];rfl) rfl w gJ)
  simpa using this)
 replace ii:Lc0=x.cs:=ii
 subst ii
 obtain⟨n0,rfl,rfl,rfl,w1⟩:=open_int Tryz.underlying3 (js 1 _ v1 rfl rfl) h1
 have b1:=Zxo w1
 obtain⟨n,rfl⟩:∃z:Int,n0=z:=⟨_,rfl⟩
 exact ZpO (tb:=4) ZuR (by rw[Tryz.params4];intro t ht;simp at ht;rcases ht with rfl|rfl <;> exact⟨by kernel_rfl,zA6 (by kernel_rfl)⟩) hW' rfl rfl rfl rfl rfl Tryz.underlying4 (ZmQ x n0 (ZlM W) oW b1)
theorem Zku(os:Os)(started:os.Started)(H:Type)(enc:TypeId×Value->H):
  ReturnsInHanded {} Tryz.checked os 4 .any (Rows.astWrongSpec.pre6 enc Tryz.prog Tryz.f4 Rows.astWrongRow.domain false) (Rows.astWrongSpec.post enc Tryz.prog Tryz.f4 false true false false):=by
 refine returnsInHanded_of_change_sized (C:=Tryz.checked) Zwf started (by kernel_rfl) Tryz.func4
  (ChangeSpec.witness6 (enc:=enc) (C:=Tryz.checked) false ⟨#[],#[.agg #[.int .u8 0,.slice none 0 0,.slice none 0 0],.int .i64 0],[]⟩ 8 (by kernel_rfl) (by kernel_rfl) (by kernel_rfl) (by kernel_rfl)) ?_
 intro W base args ds gs before js hW _ bB _
 exact Zg2 H enc W base args ds gs before js hW bB
theorem wrong_holds:Rows.AstWrongSaid:=
 OpenClaim.holds_of_wide 4 Tryz.f4 rfl rfl rfl rfl rfl rfl rfl ⟨rfl,rfl,rfl,rfl,rfl⟩ rfl rfl rfl rfl rfl (by kernel_rfl) Tryz.func4 (by kernel_rfl)
  (zA6 (by kernel_rfl)) (by unfold Func.isWrapper;first|(rw[if_pos (by decide +kernel)];kernel_rfl)|(rw[if_neg (by decide +kernel)];exact⟨rfl,rfl⟩))
  (λos started H enc _=>Zku os started H enc)
#print axioms wrong_holds
end Go.Proofs.YtpjepnkiiojgfaaGreat