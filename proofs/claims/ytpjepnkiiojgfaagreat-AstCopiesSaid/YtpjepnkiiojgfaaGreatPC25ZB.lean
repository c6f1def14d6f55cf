/- Part of the proof: functions of the program. No condition. -/
import Derived.Test.YtpjepnkiiojgfaaGreatPEnv
import Derived.Test.YtpjepnkiiojgfaaGreatMc
import Derived.Test.YtpjepnkiiojgfaaGreatPC25AT
import Derived.Test.YtpjepnkiiojgfaaGreatPC25D
import Derived.Test.YtpjepnkiiojgfaaGreatPVGW
import Derived.Test.YtpjepnkiiojgfaaGreatPC40F
import Derived.Test.YtpjepnkiiojgfaaGreatMr
import Derived.Test.YtpjepnkiiojgfaaGreatRows
import Derived.Deep.Slices
import Derived.Laws.IdiomArrays
import Derived.SizedLaws
import Derived.LaidMore
import Derived.Lay
import Derived.SevenTiedAt
import Derived.OpenShut
import Derived.ProofKit
import Derived.Carry
set_option linter.unusedVariables false
set_option linter.unusedSimpArgs false
set_option linter.unusedSectionVars false
namespace Go.Proofs.YtpjepnkiiojgfaaGreat
open Go Go.Eng Go.Proofs Go.RowKit
open Go.Value (int slice agg bool string tuple func)
open Go.IntKind (u8 u64 i64)
set_option maxRecDepth 100000
noncomputable def Zfm:Env:={ EB with
 joins:=swI none [(5,some [(41,.bool)]),(7,some [(59,.bool)]),(12,some [(4,.bool)])]
 dr:=swI [] [(3,[⟨0,[2],[],none,[],[]⟩,dO 1 [0],⟨2,[3],[],none,[],[]⟩,⟨3,[],[],none,[0,1,2],[1]⟩,⟨4,[5],[5],none,[],[]⟩,⟨5,[6],[6],none,[],[]⟩,⟨6,[5],[5],none,[0,1,2,3,4,5],[]⟩,⟨7,[6],[6],none,[0,1,2,3,4,5,6],[]⟩]),(5,[⟨0,[5],[],none,[],[]⟩,dO 1 [0],dO 2 [0,1],dO 3 [0,1,2],⟨4,[5],[],none,[0,1,2,3],[1]⟩,⟨5,[7],[],none,[0,1,2,3],[1]⟩,⟨6,[],[],none,[0,1,2,3,4,5],[1]⟩,dO 7 [0,1,2,3,4,5,6],dO 8 [0,1,2,3,4,5,6,7],dO 9 [0,1,2,3,4,5,6,7,8],⟨10,[5],[],none,[0,1,2,3,4,5,6,7,8,9],[6]⟩,⟨11,[2],[],none,[0,1,2,3,4,5,6,7,8,9],[6]⟩,⟨12,[],[],none,[0,1,2,3,4,5,6,7,8,9,11],[6]⟩,⟨13,[],[],none,rg 0 13,[12]⟩,dO 14 (rg 0 14),dO 15 (rg 0 15),dO 16 (rg 0 16),⟨17,[5],[],none,rg 0 17,[13]⟩,⟨18,[6],[],none,rg 0 17,[13]⟩,⟨19,[],[],none,rg 0 19,[13]⟩,⟨20,[6],[],none,rg 0 17,[13]⟩,⟨21,[5],[],none,rg 0 17,[13]⟩,⟨22,[],[],none,rg 0 22,[19]⟩,dO 23 (rg 0 23),dO 24 (rg 0 24)]),(7,[⟨0,[5],[],none,[],[]⟩,⟨1,[6],[],none,[],[]⟩,dO 2 [0,1],dO 3 [0,1,2],⟨4,[5],[],none,[0,1,2,3],[2]⟩,⟨5,[],[],none,[0,1,2,3,4],[2]⟩,⟨6,[6],[],none,[0,1,2,3],[2]⟩,⟨7,[],[],none,[0,1,2,3,4,5,6],[5]⟩,dO 8 [0,1,2,3,4,5,6,7],dO 9 [0,1,2,3,4,5,6,7,8],⟨10,[5],[],none,[0,1,2,3,4,5,6,7,8,9],[7]⟩,⟨11,[],[],none,[0,1,2,3,4,5,6,7,8,9,10],[7]⟩,⟨12,[6],[],none,[0,1,2,3,4,5,6,7,8,9],[7]⟩,⟨13,[],[],none,rg 0 13,[11]⟩,⟨14,[],[],none,rg 0 14,[13]⟩,dO 15 (rg 0 15),dO 16 (rg 0 16),dO 17 (rg 0 17)]),(12,[⟨0,[5],[],none,[],[]⟩,⟨1,[2],[],none,[],[]⟩,dO 2 [1],⟨3,[],[],none,[0,1,2],[2]⟩,dO 4 [0,1,2,3],⟨5,[5],[],none,[0,1,2,3,4],[3]⟩,⟨6,[8],[],none,[0,1,2,3,4],[3]⟩,⟨7,[],[],none,[0,1,2,3,4,5,6],[3]⟩,dO 8 [0,1,2,3,4,5,6,7],dO 9 [0,1,2,3,4,5,6,7,8],dO 10 [0,1,2,3,4,5,6,7,8,9],⟨11,[8],[],none,[0,1,2,3,4,5,6,7,8,9,10],[7]⟩,⟨12,[],[],none,rg 0 12,[7]⟩,⟨13,[8],[],none,[0,1,2,3,4,5,6,7,8,9,10],[7]⟩,⟨14,[],[],none,rg 0 14,[12]⟩,dO 15 (rg 0 15),dO 16 (rg 0 16)])]
 frzNew:=[2,3]
 gb:=true
 thaw:=true
 lentC:=swI none [(61,some [])] }
theorem ZeG(aA:Int)(aY:Option Addr)(aT bF:Nat)(aO:Option Addr)(aI aW:Nat)(bM:Int)(eI:Option Addr)(eJ eK:Nat)(eE:Option Addr)(eG eH:Nat)(m:Mem)(R:RT)(h:
 lV [int u8 aA,slice aY aT bF,slice aO aI aW] λxL=>lV [agg (.mk xL)] λak=>lV [int u8 bM,slice eI eJ eK,slice eE eG eH] λap=>fzM m xL λb m'=>lE [some (Box.mk b xL 25 3
 true true)] λxL=>m.free b->(∀(b' o:Nat)(u:Value),m' b' o=some u->m b' o=some u\/b'=b)->fzM m' ap λaq a3=>lE (some (Box.mk aq ap 25 3 true true)::xL) λxL=>m'.free aq->(∀(b' o:Nat)(u:Value),
 a3 b' o=some u->m' b' o=some u\/b'=aq)->kB pG 9 [] a3 λbd m'=>br (!bd) (rtM m m' R (Value.bool false)) (∃(f:Fx),∃R_1,R_1=f 1 ak m'/\CX pG 10 (.mk ak) m' [] R_1/\Zbp (.agg [.int i64,.slice,.slice]) R_1/\∀n a
 be c bf bg bh al,lV [int i64 n,slice a be c,slice bf bg bh] λa4=>lX (agg (.mk a4)) λyL=>m'.le al->R_1 yL al []->∃R_2,R_2=f 3 [agg (.mk ap)] al/\CX pG 10 (.mk [agg (.mk ap)]) al [] R_2/\Zbp (.agg [.int i64,
 .slice,.slice]) R_2/\∀n a bi c bj bk bl av,lV [int i64 n,slice a bi c,slice bj bk bl] λa5=>lX (agg (.mk a5)) λag=>al.le av->R_2 ag av []->∀bm bn M,lE (some (Box.mk bn a5 32 3 false true)) λa6=>lE (some
 (Box.mk bm a4 32 3 false true)) λa7=>lE (a7::a6::a7::a6::xL) λxL=>m'.le M->al.le M->av.le M->∃R_3,True/\CX pG 18 (.mk [yL]) M [] R_3/\Zbp (.agg [.int i64,.slice,.slice]) R_3/\∀n a bo c bp bq bs m',lV
 [int i64 n,slice a bo c,slice bp bq bs] λa8=>lX (agg (.mk a8)) λar=>M.le m'->R_3 ar m' []->∀bt,∃(a9:Bool),lV [Value.bool a9] λau=>lE (some (Box.mk bt a8 32 3 false true)::xL) λxL=>(∃(f:Fx),∃R,R=f
 1 [yL] m'/\CX pG 19 (.mk [yL]) m' [] R/\Zbp .bool R/\∀(b:Bool) aa,m'.le aa->R (Value.bool b) aa []->br (!b) (∀M,m'.le M->aa.le M->aa.le M->aa.le M->aa.le M->aa.le M->aa.le M->Zac xL/\[Value.bool true]=au) (∃R,R=f
 6 [yL,ar] aa/\CX pG 20 (.mk [yL,ar]) aa [] R/\Zbp .bool R/\∀(b:Bool) ac,aa.le ac->R (Value.bool b) ac []->br (!b) (∀M,m'.le M->aa.le M->ac.le M->ac.le M->ac.le M->ac.le M->ac.le M->Zac xL/\[Value.bool true]=au) (∃
 R,R=f 12 ak ac/\CX pG 10 (.mk ak) ac [] R/\Zbp (.agg [.int i64,.slice,.slice]) R/\∀n a an c aw ao ax ab,lX (agg (.mk [int i64 n,slice a an c,slice aw ao ax])) λai=>ac.le ab->R ai ab []->∃R,R=f 13 [yL,ai]
 ab/\CX pG 20 (.mk [yL,ai]) ab [] R/\Zbp .bool R/\∀(b:Bool) ad,ab.le ad->R (Value.bool b) ad []->br (!b) (∀M,m'.le M->aa.le M->ac.le M->ab.le M->ad.le M->ad.le M->ad.le M->Zac xL/\[Value.bool true]=au) (∃R,R=f 19
 [yL,ag] ad/\CX pG 20 (.mk [yL,ag]) ad [] R/\Zbp .bool R/\∀(b:Bool) ae,ad.le ae->R (Value.bool b) ae []->∃R,R=f 22 [ag,yL] ae/\CX pG 20 (.mk [ag,yL]) ae [] R/\Zbp .bool R/\∀(aj:Bool) ah,ae.le ah->R (Value.bool aj) ah
 []->∀M,m'.le M->aa.le M->ac.le M->ab.le M->ad.le M->ae.le M->ah.le M->Zac xL/\[Value.bool !b == aj]=au))))/\br a9 (rtM m m' R (Value.bool false)) (∃(aj:Bool),(∃(f:Fx),∃R,R=f 2 [yL,ag] m'/\CX pG 20 (.mk [yL,ag])
 m' [] R/\Zbp .bool R/\∀(b:Bool) aa,m'.le aa->R (Value.bool b) aa []->br b (∃R,R=f 5 [yL] aa/\CX pG 21 (.mk [yL]) aa [] R/\Zbp (.agg [.int i64,.int i64,.int i64,.int i64,.int i64,.int i64]) R/\∀n an ao ay az a0 ac,
 lX (agg (.mk [int i64 n,int i64 an,int i64 ao,int i64 ay,int i64 az,int i64 a0])) λai=>aa.le ac->R ai ac []->∃R,R=f 7 [ag] ac/\CX pG 21 (.mk [ag]) ac [] R/\Zbp (.agg [.int i64,.int i64,.int i64,.int i64,.int
 i64,.int i64]) R/\∀n a1 bu bv bw bx ab,lX (agg (.mk [int i64 n,int i64 a1,int i64 bu,int i64 bv,int i64 bw,int i64 bx])) λba=>ac.le ab->R ba ab []->∃(b:Bool),EqIs pG 75 ai ba b/\br (!b) (∀M,m'.le M->aa.le M
 -> ac.le M->ab.le M->ab.le M->ab.le M->ab.le M->Zac xL/\[Value.bool true]=[Value.bool aj]) (∃R,R=f 11 [yL] ab/\CX pG 11 (.mk [yL]) ab [] R/\Zbp .slice R/\∀a n c ad,lX (slice a n c) λyL=>ab.le ad->R yL ad []->∃R,R
 = f 13 [ag] ad/\CX pG 11 (.mk [ag]) ad [] R/\Zbp .slice R/\∀a n c ae,lX (slice a n c) λa2=>ad.le ae->R a2 ae []->∃R,R=f 14 [yL,a2] ae/\CX pG 22 (.mk [yL,a2]) ae [] R/\Zbp .bool R/\∀(b:Bool) ah,ae.le ah->
 R (Value.bool b) ah []->∀M,m'.le M->aa.le M->ac.le M->ab.le M->ad.le M->ae.le M->ah.le M->Zac xL/\[Value.bool !b]=[Value.bool aj])) (∀M,m'.le M->aa.le M->aa.le M->aa.le M->aa.le M->aa.le M->aa.le M->Zac xL/\[Value.bool false]
 = [Value.bool aj]))/\br aj (rtM m m' R (Value.bool false)) (∃(Y:Nat->Prop),∃(R_4:Value->Mem->List (List Value)->List Value->Prop),CXY pG 23 (.mk [ar]) m' Y [] [] R_4/\(∀(t:Eng.Tok),t∈[]->∀(b:Nat),Eng.Tok.blk t=some b->Y
 b)/\(∀(af:Nat),Y af->(∃(t:Eng.Tok),t∈[]/\Eng.Tok.blk t=some af)\/(m.free af/\Mem.k m af=none)/\((∃(o:Nat),∃(v:Value),m' af o=some v)\/∃(e:List (Value×Value)),Mem.k m' af=some e)/\aq≠af/\b≠af/\
 True)/\(∀(v:Value)(m':Mem) (css:List (List Value)) (tvs:List Value),R_4 v m' css tvs->Shape.fits (.tup []) v=true)/\∀(aa:Mem),Mem.le (Mem.off m' Y) aa->(NewM m' aa λb=>Y b\/m'.free b)->R_4 (tuple (.mk
 [])) aa [] []->∃R_5,True/\CX pG 18 (.mk [yL]) aa [] R_5/\Zbp (.agg [.int i64,.slice,.slice]) R_5/\∀(n:Int) a an c aw ao ax m',lV [slice a an c,slice aw ao ax] λbb=>lV (int i64 (i64.wrap (n+1))::bb) λbc=>
 lV [agg (.mk bc)] λam=>aa.le m'->R_5 (agg (.mk (int i64 n::bb))) m' []->∀b,∃(af:Bool),lE (some (Box.mk b bc 32 3 false true)::xL) λxL=>(∃(f:Fx),∃R,R=f 2 ak m'/\CX pG 10 (.mk ak) m' [] R/\Zbp (.agg
 [.int i64,.slice,.slice]) R/\∀n a ay c bz az ca ac,lX (agg (.mk [int i64 n,slice a ay c,slice bz az ca])) λai=>m'.le ac->R ai ac []->∃R,R=f 3 [yL,ai] ac/\CX pG 20 (.mk [yL,ai]) ac [] R/\Zbp .bool R/\∀(b:
 Bool) ab,ac.le ab->R (Value.bool b) ab []->br b (∃R,R=f 7 (yL::am) ab/\CX pG 20 (.mk (yL::am)) ab [] R/\Zbp .bool R/\∀(b:Bool) ad,ab.le ad->R (Value.bool b) ad []->br (!b) (∃R,R=f 12 am ad/\CX pG 18 (.mk am) ad [] R
 /\ Zbp (.agg [.int i64,.slice,.slice]) R/\∀n a a0 c cb a1 cc ae,lX (agg (.mk [int i64 n,slice a a0 c,slice cb a1 cc])) λyL=>ad.le ae->R yL ae []->∃R,R=f 14 (yL::am) ae/\CX pG 20 (.mk (yL::am)) ae [] R/\Zbp
 .bool R/\∀(b:Bool) ah,ae.le ah->R (Value.bool b) ah []->∀M,m'.le M->ac.le M->ab.le M->ad.le M->ae.le M->ah.le M->Zac xL/\[Value.bool b]=[Value.bool af]) (∀M,m'.le M->ac.le M->ab.le M->ad.le M->ad.le M->ad.le M->Zac
 xL/\[Value.bool false]=[Value.bool af])) (∀M,m'.le M->ac.le M->ab.le M->ab.le M->ab.le M->ab.le M->Zac xL/\[Value.bool false]=[Value.bool af]))/\rtM m m' R (Value.bool af))))):CX Tryz.prog 5 #[.agg #[.int .u8 aA,.slice aY aT bF,.slice aO aI aW],.agg #[.int .u8 bM,.slice eI eJ eK,.slice eE eG eH]] m [] R:=
 Zad (E:=Zfm) Zap mix Tryz.func5 (by kernel_rfl) (Eq.mp (by kernel_rfl) h)
end Go.Proofs.YtpjepnkiiojgfaaGreat
namespace Go.Proofs.YtpjepnkiiojgfaaGreat
open Go Go.Eng Go.Rx Go.Proofs Go.RowKit
set_option maxRecDepth 100000
def mV(s:Sc):Value:=.agg (msV s.states.length (ms1 s) (ms2 s) (ms3 s) (ms4 s) (ms5 s)).toArray
theorem ZrI(s:Sc)(m:Mem)(hr:RepC m s)(hl:s.light=true):CX Tryz.prog 21 #[s.v] m [] (Ret (mV s)):=by
 have:=ZmI s m hr
 rwa [Zrn hl]at this
theorem ZuA{s:Sc}:∀(v:Value)(m':Mem) (css:List (List Value)),Ret (mV s) v m' css->Shape.fits (.agg [.int .i64,.int .i64,.int .i64,.int .i64,.int .i64,.int .i64]) v=true:=λv _ _ h=>by rw[show v=_ from h];rfl
theorem ZyG{s:Sc}{a b c d e f:Int}(h:(.agg #[.int .i64 a,.int .i64 b,.int .i64 c,.int .i64 d,.int .i64 e,.int .i64 f]:Value)=mV s):a=s.states.length/\b=ms1 s/\c=ms2 s/\d=ms3 s/\e=ms4 s/\f=ms5 s:=by
 simpa[mV,msV,and_assoc]using h
theorem Zcd{z:Bool}:∀(v:Value)(m':Mem) (css:List (List Value)),Ret (.bool z) v m' css->Shape.fits .bool v=true:=λv _ _ h=>by rw[show v=_ from h];rfl
theorem Zhi{s:Sc}{n:Int}{a a1:Option Addr}{p c p1 c1:Nat}(h:Value.agg #[.int .i64 n,.slice a p c,.slice a1 p1 c1]=s.v):n=s.n/\a=s.va/\p=s.vars.length/\c=s.vc/\a1=s.sa/\p1=s.states.length/\c1=s.sc:=Zwf h
theorem Zqe(l:List Pl)(a a':Option Addr)(c c':Nat)(m:Mem)(hl:l.length<=1000000000000000)(h1:rowRd m a (l.map Pl.cs).flatten)(h2:rowRd m a' (l.map Pl.cs).flatten):
  CX Tryz.prog 22 #[.slice a l.length c,.slice a' l.length c'] m [] (Ret (.bool true)):=by
 apply Zbj
 refine Zor (by simp) ⟨λxs _ _ m' q=>∃i:Nat,i<=l.length/\xs=[.int .i64 i]/\q=l.length - i,⟨l.length,0,by omega,rfl,rfl⟩,?_⟩
 rintro n m1 q aG ⟨i,hi,hx,rfl⟩
 obtain rfl:n=i:=by simpa using hx
 refine ZaB (λaB=>?_) (λbO=>Zaf aG rfl)
 have aB:(i:Int) < (l.length:Nat):=aB
 obtain⟨p,hp⟩:=Zao (show i < l.length by omega)
 obtain⟨b1,o1,fb,io⟩:=Zaj (cs:=Pl.cs) (n:=5) (λ_=>rfl) (h1.mono aG) hp (by omega)
 obtain⟨b2,o2,eX,fe⟩:=Zaj (cs:=Pl.cs) (n:=5) (λ_=>rfl) (h2.mono aG) hp (by omega)
 exact⟨b1,o1,fb,⟨by omega,aB⟩,_,_,_,_,_,io,b2,o2,eX,⟨by omega,aB⟩,_,_,_,_,_,fe,decide (p=p),Zyv p p,Zor (by simp) ⟨l.length - (i+1),by omega,i+1,by omega,by rw[Zal (by omega) (by omega)];rfl,rfl⟩⟩
theorem isB{b x:Bool}(h:Value.bool b=.bool x):b=x:=by simpa using h
set_option maxHeartbeats 4000000 in
theorem Zma(x y:SScr)(m:Mem)(hx:RepSC m x)(hy:RepSC m y)(lw:∀b,m.k b=none):CX Tryz.prog 5 #[.agg x.cs.toArray,.agg y.cs.toArray] m [] (Ret (.bool true)):=by
 apply ZeG
 intro b1 m1 aG io yx xE b2 m2 aK fe nP xF
 refine Zah (Zqc m2) λm3 aR=>Zor rfl ?_
 have dA:=mLt aG (mLt aK aR)
 refine⟨λn _ _=>if n=1 then ScX x else ScX y,_,rfl,ZjS x m3 (hx.mono dA),ZjR,?_⟩
 rintro n a n1 c a1 n2 c1 m4 cE ⟨s,hv,hr,hk,hs⟩
 obtain⟨rfl,rfl,rfl,rfl,rfl,rfl,rfl⟩:=Zhi hv
 refine⟨_,rfl,ZjS y m4 (hy.mono (mLt dA cE)),ZjR,?_⟩
 rintro n a n1 c a1 n2 c1 m5 cP ⟨t,hv,e7,gc,ht⟩
 obtain⟨rfl,rfl,rfl,rfl,rfl,rfl,rfl⟩:=Zhi hv
 intro b3 b4 M fA gt xG
 have i5:=mLt dA fA
 have pm:=hr.mono gt
 have tN:=e7.mono xG
 have hl:=hk.light
 have aB:=gc.light
 refine Zan (ZoJ s M pm hl) ZjV ?_
 rintro n a n1 c a1 n2 c1 m6 ef ⟨s',hv',nX,dp,dq⟩
 obtain⟨rfl,rfl,rfl,rfl,rfl,rfl,rfl⟩:=Zhi hv'
 have fC:=mLt i5 ef
 have jj:=pm.mono ef
 have jW:=tN.mono ef
 have tO:=dp.mono (ZgM M m6)
 have same1:ZbH s s'=true:=ZgS nX.symm hl
 have sameX:∀u:Sc,u.er=scF x->ZbH s u=true:=λu hu=>ZgS (hs.trans hu.symm) hl
 intro b5
 refine⟨false,⟨λn _ _=>if n=12 then ScX x else if n=19 then Ret (.bool (ZbH s t))else if n=22 then Ret (.bool (ZbH s t))else Ret (.bool true),_,rfl,by have:=Zcc s m6 jj;rwa [hl]at this,Zcd,?_⟩,Zor rfl ?_⟩
 ·intro bL m7 eo xH
  obtain rfl:=isB (x:=true) xH
  refine Zor rfl ⟨_,rfl,by have:=Zc1 s s' m7 (jj.mono eo) (tO.mono eo);rwa [same1]at this,Zcd,?_⟩
  intro bS m8 eA qF
  obtain rfl:=isB (x:=true) qF
  have km:=mLt eo eA
  refine Zor rfl ⟨_,rfl,ZjS x m8 (hx.mono (mLt fC km)),ZjR,?_⟩
  rintro n a n1 c a1 n2 c1 m9 ga ⟨u,tP,jz,xI,hu⟩
  obtain⟨rfl,rfl,rfl,rfl,rfl,rfl,rfl⟩:=Zhi tP
  have pO:=mLt km ga
  refine⟨_,rfl,by have:=Zc1 s u m9 (jj.mono pO) jz;rwa [sameX u hu]at this,Zcd,?_⟩
  intro bU m10 fu tQ
  obtain rfl:=isB (x:=true) tQ
  have jX:=mLt pO fu
  refine Zor rfl ⟨_,rfl,Zc1 s t m10 (jj.mono jX) (jW.mono jX),Zcd,?_⟩
  intro bV m11 fL xJ
  obtain rfl:=isB (x:=ZbH s t) xJ
  have pP:=mLt jX fL
  refine⟨_,rfl,by have:=Zc1 t s m11 (jW.mono pP) (jj.mono pP);rwa [Zs0 hk gc]at this,Zcd,?_⟩
  intro bW m12 jV xK
  obtain rfl:=isB (x:=ZbH s t) xK
  intro _ _ _ _ _ _ _ _
  exact⟨rfl,by simp⟩
 refine⟨false,⟨λn _ _=>if n=2 then Ret (.bool (ZbH s t))else if n=5 then Ret (mV s)else if n=7 then Ret (mV s)else if n=11 then ZoK s else if n=13 then ZoK t else Ret (.bool true),_,rfl,Zc1 s t m6 jj jW,Zcd,?_⟩,Zor rfl ?_⟩
 ·intro bT m7 eo tR
  have tR:bT=ZbH s t:=isB tR
  refine Zab (λh=>?_) (λh=>λ_ _ _ _ _ _ _ _=>⟨rfl,rfl⟩)
  have cB:s.er=t.er:=(ZmC hk gc).1 (by rw[<-tR];exact h)
  have xM:mV t=mV s:=by
   unfold mV
   rw[<-Zrn aB,<-Zrn hl,Zrg cB.symm]
  have ia:t.places=s.places:=by rw[<-Zn2 t,<-cB,Zn2]
  refine⟨_,rfl,ZrI s m7 (jj.mono eo) hl,ZuA,?_⟩
  intro z1 z2 z3 z4 z5 z6 m8 eA hz
  obtain⟨rfl,rfl,rfl,rfl,rfl,rfl⟩:=ZyG hz
  have km:=mLt eo eA
  refine⟨_,rfl,by have:=ZrI t m8 (jW.mono km) aB;rwa [xM]at this,ZuA,?_⟩
  intro z1 z2 z3 z4 z5 z6 m9 ga qG
  obtain⟨rfl,rfl,rfl,rfl,rfl,rfl⟩:=ZyG qG
  have pO:=mLt km ga
  refine⟨_,Zzm _ _ _ _ _ _ _ _ _ _ _ _,Zor (by simp) ⟨_,rfl,ZjW s m9 (jj.mono pO),ZfT,?_⟩⟩
  rintro a n c m10 fu ⟨a',c',nY,aC⟩
  simp only[Value.slice.injEq]at nY
  obtain⟨rfl,rfl,rfl⟩:=nY
  have jX:=mLt pO fu
  refine⟨_,rfl,ZjW t m10 (jW.mono jX),ZfT,?_⟩
  rintro a2 n2 c2 m11 fL ⟨a',c',nY,cX⟩
  rw[ia]at nY cX
  simp only[Value.slice.injEq]at nY
  obtain⟨rfl,rfl,rfl⟩:=nY
  refine⟨_,rfl,Zqe s.places a a2 c c2 m11 (by have:=ZkH s;omega) (aC.mono fL) cX,Zcd,?_⟩
  intro bE m12 jV xN
  obtain rfl:=isB (x:=true) xN
  intro _ _ _ _ _ _ _ _
  exact⟨rfl,rfl⟩
 have d5:=hk.len
 have lb:=ZzH nX
 obtain⟨bS,μ,dq⟩:=dq.resolve_left λe=>by rw[e]at lb;simp at lb;omega
 have offS:∀{ν:Mem},ν.le (nw M m6)->ν.free bS->ν.le ((nw M m6).off λq=>q=bS):=λh1 h2=>ZhO (Y:=λq=>q=bS) h1 λb e=>⟨by rw[show b=bS from e];exact h2,Zfa h1 rfl⟩
 have cC:∀z∈s'.states,RepS ((nw M m6).off λq=>q=bS) z:=λz hz=>by
  obtain⟨j,hj⟩:=List.getElem?_of_mem hz
  obtain⟨g1,_,g3,g4⟩:=dq.all j z hj
  exact g1.mono (offS g3 g4)
 obtain⟨μv,v1,v2,v3,_⟩:=dq.va
 have bN:∀b,Old (nw M m6) b->M.free b:=λb hb=>Classical.byContradiction λhn=>hb (ZpG hn)
 have vp:∀{bb:Nat} {v:Value},M bb 0=some v->∀b,Old (nw M m6) b->bb≠b:=λh b hb e=>by
  have:=bN b hb 0
  rw[<-e,h]at this;cases this
 have k1:M b1 0=some _:=(mLt aK (mLt aR fA)) _ _ _ (io 0 _ rfl)
 have k2:M b2 0=some _:=(mLt aR fA) _ _ _ (fe 0 _ rfl)
 refine⟨Old (nw M m6),_,Zv6 (nw M m6) s' bS m6 dp dq.sa cC (v1.mono (offS v2 v3)) (ZgM M m6),(λt h=>by cases h),(λb8 qM=>.inr ⟨⟨Zbo i5 (bN b8 qM),lw b8⟩,.inl ((Ov.of_le (ZgM M m6)).known qM),vp k2 b8 qM,vp k1 b8 qM,trivial⟩),(λv _ _ _ h=>by rw[h];rfl),?_⟩
 rintro m7 eo _ _
 have tf:m.le m7:=mLt (ZhO fC λb hb=>⟨Zbo i5 (bN b hb),lw b⟩) eo
 have vq:RepC m7 s:=pm.nk.mono (mLt (ZhO (mLt (ZBj M) ef) λb hb=>⟨bN b hb,rfl⟩) eo)
 refine Zan (ZoJ s m7 vq hl) ZjV ?_
 rintro n a n1 c a1 n2 c1 m8 eA ⟨d,oB,pQ,pR,_⟩
 obtain⟨rfl,rfl,rfl,rfl,rfl,rfl,rfl⟩:=Zhi oB
 have nb:=mLt tf eA
 have vr:=vq.mono eA
 have j9:=pR.mono (ZgM m7 m8)
 obtain⟨nN,tH⟩:=Zq0 pQ
 have hn:=hk.n
 have hw:IntKind.i64.wrap (d.n+1)=d.n+1:=by rw[Zal (by omega) (by omega)]
 rw[hw]
 obtain⟨e,he⟩:∃e:Sc,e=⟨d.n+1,d.va,d.vc,d.vars,d.sa,d.sc,d.states⟩:=⟨_,rfl⟩
 have tS:RepC m8 e:=by rw[he];exact⟨by show I64 (d.n+1);unfold I64;omega,j9.vlen,j9.vrow,j9.vall,j9.len,j9.row,j9.all,j9.vcap,j9.scap⟩
 have cy:e.light=true:=by
  have:e.light=d.light:=by rw[he];rfl
  rw[this,Zjm pQ];exact hl
 have i9:Value.agg #[.int .i64 (d.n+1),.slice d.va d.vars.length d.vc,.slice d.sa d.states.length d.sc]=e.v:=by rw[he];rfl
 have cI:ZbH s e=false:=ZxT (by rw[he];show ¬s.n=d.n+1;omega)
 intro b9
 refine⟨true,⟨λn _ μ=>if n=2 then ScX x else if n=7 then Ret (.bool false)else if n=12 then CpC μ e else Ret (.bool true),_,rfl,ZjS x m8 (hx.mono nb),ZjR,?_⟩,Zaf nb rfl⟩
 rintro n a n1 c a1 n2 c1 m9 ga ⟨u,tP,jz,xI,hu⟩
 obtain⟨rfl,rfl,rfl,rfl,rfl,rfl,rfl⟩:=Zhi tP
 refine⟨_,rfl,by have:=Zc1 s u m9 (vr.mono ga) jz;rwa [sameX u hu]at this,Zcd,?_⟩
 intro bU m10 fu tQ
 obtain rfl:=isB (x:=true) tQ
 have nB:=mLt ga fu
 refine Zab (λ_=>?_) (λh=>by cases h)
 refine⟨_,rfl,by have:=Zc1 s e m10 (vr.mono nB) (tS.mono nB);rw[cI,<-i9]at this;exact this,Zcd,?_⟩
 intro bD m11 fL xO
 obtain rfl:=isB (x:=false) xO
 have pS:=mLt nB fL
 refine Zab (λ_=>?_) (λh=>by cases h)
 refine⟨_,rfl,by have:=ZoJ e m11 (tS.mono pS) cy;rw[<-i9]at this;exact this,ZjV,?_⟩
 rintro n a n1 c a1 n2 c1 m12 jV ⟨g,xP,pT,pU,_⟩
 obtain⟨rfl,rfl,rfl,rfl,rfl,rfl,rfl⟩:=Zhi xP
 have xQ:g.light=true:=by rw[Zjm pT];exact cy
 have xR:ZbH g e=true:=ZgS pT xQ
 refine⟨_,rfl,by have:=Zc1 g e m12 (pU.mono (ZgM m11 m12)) (tS.mono (mLt pS jV));rw[xR,<-i9]at this;exact this,Zcd,?_⟩
 intro bG m13 xS xU
 obtain rfl:=isB (x:=true) xU
 intro _ _ _ _ _ _ _
 exact⟨rfl,rfl⟩
end Go.Proofs.YtpjepnkiiojgfaaGreat
namespace Go.Proofs.YtpjepnkiiojgfaaGreat
open Go Go.Eng Go.Rx Go.Proofs Go.RowKit Go.ChangeShapes Go.WideShapes Go.ChangeAt
set_option maxRecDepth 100000
theorem ZuB{α:Type}{ZhM:α->List Value}{k:Nat}(hk:∀z,(ZhM z).length=k){m:Mem}{b:Nat}:∀{L:List α} {o:Nat},(∀i z,L[i]?=some z->m.reads b (o+i*k) (ZhM z))->m.reads b o (L.map ZhM).flatten
 | [],o,h=>λj v hj=>by simp at hj
 | x::L,o,h=>λj v hj=>by
  rw[List.map_cons,List.flatten_cons]at hj
  by_cases aB:j < k
  ·rw[zA5 (by rw[hk];exact aB)]at hj
   have:=h 0 x rfl j v hj
   rwa [Nat.zero_mul,Nat.add_zero]at this
  ·rw[zA4 (by rw[hk];omega),hk]at hj
   have:=ZuB hk (L:=L) (o:=o+k) (λi z hz=>by
    have:=h (i+1) z (by simpa using hz)
    rwa [show o+(i+1)*k=o+k+i*k by rw[Nat.succ_mul];omega]at this) (j - k) v hj
   rwa [show o+k+(j - k)=o+j by omega]at this
theorem ZuC{α:Type}{p:Nat->α->Prop}:∀n,(∀i,i < n->∃z,p i z)->∃L:List α,L.length=n/\∀i z,L[i]?=some z->p i z
 | 0,_=>⟨[],rfl,λi z h=>by simp at h⟩
 | n+1,h=>by
  obtain⟨L,hL,hp⟩:=ZuC n λi hi=>h i (by omega)
  obtain⟨z,hz⟩:=h n (by omega)
  refine⟨L++[z],by rw[zA1,hL];rfl,λi y hy=>?_⟩
  by_cases hi:i < n
  ·rw[zA5 (by omega)]at hy;exact hp i y hy
  ·have aB:=(zA0 hy).1
   rw[zA1,hL]at aB
   have aB:i < n+1:=aB
   obtain rfl:i=n:=by omega
   rw[zA4 (by omega),hL,Nat.sub_self]at hy
   obtain rfl:z=y:=by simpa using hy
   exact hz
theorem ZBA{w:World}{a:Addr}{v:Value}(h:w.cell? (a.add 0)=some v):∃b o,a=⟨b,o,none⟩:=by
 obtain⟨b,o,sp⟩:=a
 cases sp with
 | none=>exact⟨b,o,rfl⟩
 | some s=>
  exfalso
  have e:(Addr.add ⟨b,o,some s⟩ 0)=⟨b,o,some s⟩:=rfl
  rw[e]at h
  unfold World.cell? at h
  split at h
  ·simp at h
  ·cases h
section
variable {H:Type} {enc:TypeId×Value->H} {W:World} {db:Bool}
theorem ZrJ{P:Program}{e:TypeId}:∀{l:List (DataW H)} {d:DataW H},d∈l->∀n∈d.weights P e,n∈DataW.weightsAll P e l
 | x::l,d,hd,n,hn=>by
  simp only[DataW.weightsAll,List.mem_append]
  rcases List.mem_cons.1 hd with rfl|hd
  ·exact .inl hn
  ·exact .inr (ZrJ hd n hn)
theorem Zdp{α:Type}{ZhM:α->List Value}{Q:α->Prop}{t e:TypeId}{k:Nat}(ht:Tryz.prog.underlying t=some (.slice e))(hc:Tryz.prog.cellsOf e=k)(hk:∀z,(ZhM z).length=k)(h0:0 < k)(hb:1<=Tryz.prog.bytesOf e){n:Nat}{cs:List Value}{x:DataW H×List MemPlace}
  (h:DataW.trod enc Tryz.prog W 0 (λ_=>true) db n t cs=some x) (hw:∀w∈x.1.weights Tryz.prog t,w<=reachBytes)
  (ih:∀n',n' < n->∀(cs':List Value)(y:DataW H×List MemPlace),DataW.trod enc Tryz.prog W 0 (λ_=>true) db n' e cs'=some y->(∀w∈y.1.weights Tryz.prog e,w<=reachBytes)->∃z,cs'=ZhM z/\Q z):
  ∃(L:List α)(a:Option Addr)(cap:Nat),cs=[.slice a L.length cap]/\L.length<=cap/\L.length<=1000000000000000/\rowRd (ZnB W) a (L.map ZhM).flatten/\∀z∈L,Q z:=by
 rcases DataW.trod_slice ht h with⟨q4,_⟩|⟨a,len,cap,elems,rest,n',hn',q4,hx,_,hl,hm,ur,pu,_⟩
 ·exact⟨[],none,0,q4,by simp,by simp,.inl rfl,by simp⟩
 rw[hx]at hw
 simp only[DataW.weights,ht,List.length_map]at hw
 have bJ:=hw _ (List.mem_cons_self)
 have aH:len<=1000000000000000:=by
  have h2:=reachBytes_lt
  have h3:(elems.length+rest.length)*1<=(elems.length+rest.length)*Tryz.prog.bytesOf e:=Nat.mul_le_mul_left _ hb
  omega
 rw[hc]at pu
 obtain⟨L,hL,hp⟩:=ZuC (p:=λi z=>(∀j v,(ZhM z)[j]?=some v->W.cell? ((a.add (i*k)).add j)=some v)/\Q z) len (λi hi=>by
  have h1:=pu i hi
  rw[zA3 (by omega)]at h1
  obtain⟨cs',h2,h3⟩:=Option.bind_eq_some_iff.1 h1
  obtain⟨_,pV,xV⟩:=World.cells?_some h2
  obtain⟨z,rfl,hz⟩:=ih n' (by omega) _ _ h3 (λw gP=>hw w (List.mem_cons_of_mem _ (List.mem_append_left _ (ZrJ (List.mem_map.2 ⟨_,List.getElem_mem _,rfl⟩) w gP))))
  refine⟨z,λj v hj=>?_,hz⟩
  have aB:=(zA0 hj).1
  rw[xV j (by rw[pV]at aB;exact aB)];exact hj)
 refine⟨L,some a,cap,by rw[q4,hL],by omega,by omega,?_,λz hz=>?_⟩
 ·by_cases yy:len=0
  ·left
   obtain rfl:L=[]:=List.eq_nil_of_length_eq_zero (by omega)
   rfl
  ·right
   obtain⟨z,hz⟩:=Zao (show 0 < L.length by omega)
   have h1:=(hp 0 z hz).1
   obtain⟨u,hu⟩:=Zao (show 0 < (ZhM z).length by rw[hk];exact h0)
   have h2:=h1 0 u hu
   rw[Nat.zero_mul]at h2
   have e0:∀b:Addr,(b.add 0).add 0=b.add 0:=λb=>by
    obtain⟨x1,x2,x3⟩:=b
    cases x3 <;> rfl
   rw[e0]at h2
   obtain⟨b,o,rfl⟩:=ZBA h2
   refine⟨b,o,rfl,ZuB hk λi z hz j v hj=>?_⟩
   have:=(hp i z hz).1 j v hj
   rw[ZbN,ZbN]at this
   exact this
 ·obtain⟨i,hi⟩:=List.getElem?_of_mem hz
  exact(hp i z hi).2
end
theorem wu8{n:Int}(h:(Lit.int .u8 n).wf=true):0<=n/\n < 256:=by
 have:0<=n/\n<=255:=by simpa[Lit.wf,IntKind.min,IntKind.max,IntKind.signed,IntKind.bits]using h
 omega
theorem ZCv{n:Int}(h:(Lit.int .u64 n).wf=true):0<=n/\n < 18446744073709551616:=by
 have:0<=n/\n<=18446744073709551615:=by simpa[Lit.wf,IntKind.min,IntKind.max,IntKind.signed,IntKind.bits]using h
 omega
def s5C(s:Nat×Nat×Nat):List Value:=[.int .u8 s.1,.int .u8 s.2.1,.int .u64 s.2.2]
def s8C(s:Nat×Nat×Nat):List Value:=[.int .u8 s.1,.int .u8 s.2.1,.int .u8 s.2.2]
theorem ZAl{m:Mem}{a:Option Addr}{l:List (Nat×Nat×Nat)}(hl:l.length<=1000000000000000)(h:rowRd m a (l.map s5C).flatten)(hb:∀s∈l,s.1 < 256/\s.2.1 < 256/\s.2.2 < 18446744073709551616):SmE m a l:=⟨by omega,hb,λi s hi=>Zaj (cs:=s5C) (n:=3) (λ_=>rfl) h hi (by omega)⟩
theorem ZBB{m:Mem}{a:Option Addr}{l:List (Nat×Nat×Nat)}(hl:l.length<=1000000000000000)(h:rowRd m a (l.map s8C).flatten)(hb:∀s∈l,s.1 < 256/\s.2.1 < 256/\s.2.2 < 256):Sm m a l:=⟨by omega,hb,λi s hi=>Zaj (cs:=s8C) (n:=3) (λ_=>rfl) h hi (by omega)⟩
section
variable {H:Type} {enc:TypeId×Value->H} {W:World} {db:Bool}
theorem ZuD(n:Nat)(cs:List Value)(x:DataW H×List MemPlace)(h:DataW.trod enc Tryz.prog W 0 (λ_=>true) db n 5 cs=some x):∃z:Nat,cs=[.int .u8 z]/\z < 256:=by
 obtain⟨k,q,_,w⟩:=DataW.trod_int Tryz.underlying5 h
 have b:=wu8 w
 obtain⟨z,rfl⟩:∃z:Nat,k=z:=⟨k.toNat,by omega⟩
 exact⟨z,q,by omega⟩
theorem ZAQ:Tryz.prog.underlying 217=some (.struct #[⟨ "Kind",5,0,false, "", "",0⟩,⟨ "N",5,1,false, "", "",1⟩,⟨ "Bits",37,2,false, "", "",8⟩]):=by kernel_rfl
theorem ZyH(n:Nat)(cs:List Value)(x:DataW H×List MemPlace)(h:DataW.trod enc Tryz.prog W 0 (λ_=>true) db n 217 cs=some x)(hw:∀w∈x.1.weights Tryz.prog 217,w<=reachBytes):∃s:Nat×Nat×Nat,cs=s5C s/\s.1 < 256/\s.2.1 < 256/\s.2.2 < 18446744073709551616:=by
 obtain⟨xs,k,hk,dZ,aH,cC,hx⟩:=DataW.trod_struct ZAQ h
 have hc:Tryz.prog.cellsOf 217=3:=by kernel_rfl
 rw[hc]at aH
 obtain⟨c0,c1,c2,rfl⟩:∃c0 c1 c2,cs=[c0,c1,c2]:=by
  match cs,aH with
  | [c0,c1,c2],_=>exact⟨c0,c1,c2,rfl⟩
 obtain⟨z0,z1,z2,rfl⟩:∃z0 z1 z2,xs=[z0,z1,z2]:=by
  match xs,cC with
  | [z0,z1,z2],_=>exact⟨z0,z1,z2,rfl⟩
 rw[dZ]at hw
 simp only[DataW.weights,ZAQ]at hw
 have g0:DataW.trod enc Tryz.prog W 0 (λ_=>true) db k 5 (List.take (Tryz.prog.cellsOf 5) (List.drop 0 [c0,c1,c2]))=some z0:=hx 0 _ rfl
 rw[show Tryz.prog.cellsOf 5=1 by kernel_rfl]at g0
 obtain⟨kk0,q0,_,w0⟩:=DataW.trod_int Tryz.underlying5 g0
 have b0:=wu8 w0
 obtain⟨kk,rfl⟩:∃z:Nat,kk0=z:=⟨kk0.toNat,by omega⟩
 have g1:DataW.trod enc Tryz.prog W 0 (λ_=>true) db k 5 (List.take (Tryz.prog.cellsOf 5) (List.drop 1 [c0,c1,c2]))=some z1:=hx 1 _ rfl
 rw[show Tryz.prog.cellsOf 5=1 by kernel_rfl]at g1
 obtain⟨nn0,q1,_,w1⟩:=DataW.trod_int Tryz.underlying5 g1
 have b1:=wu8 w1
 obtain⟨nn,rfl⟩:∃z:Nat,nn0=z:=⟨nn0.toNat,by omega⟩
 have g2:DataW.trod enc Tryz.prog W 0 (λ_=>true) db k 37 (List.take (Tryz.prog.cellsOf 37) (List.drop 2 [c0,c1,c2]))=some z2:=hx 2 _ rfl
 rw[show Tryz.prog.cellsOf 37=1 by kernel_rfl]at g2
 obtain⟨bb0,q2,_,w2⟩:=DataW.trod_int Tryz.underlying37 g2
 have b2:=ZCv w2
 obtain⟨bb,rfl⟩:∃z:Nat,bb0=z:=⟨bb0.toNat,by omega⟩
 simp only[List.drop,List.take,List.cons.injEq,and_true]at q0 q1 q2
 subst q0
 subst q1
 subst q2
 exact⟨(kk,nn,bb),rfl,by show kk < 256;omega,by show nn < 256;omega,by show bb < 18446744073709551616;omega⟩
theorem ZAR:Tryz.prog.underlying 195=some (.struct #[⟨ "Kind",5,0,false, "", "",0⟩,⟨ "N",5,1,false, "", "",1⟩,⟨ "M",5,2,false, "", "",2⟩]):=by kernel_rfl
theorem ZyI(n:Nat)(cs:List Value)(x:DataW H×List MemPlace)(h:DataW.trod enc Tryz.prog W 0 (λ_=>true) db n 195 cs=some x)(hw:∀w∈x.1.weights Tryz.prog 195,w<=reachBytes):∃s:Nat×Nat×Nat,cs=s8C s/\s.1 < 256/\s.2.1 < 256/\s.2.2 < 256:=by
 obtain⟨xs,k,hk,dZ,aH,cC,hx⟩:=DataW.trod_struct ZAR h
 have hc:Tryz.prog.cellsOf 195=3:=by kernel_rfl
 rw[hc]at aH
 obtain⟨c0,c1,c2,rfl⟩:∃c0 c1 c2,cs=[c0,c1,c2]:=by
  match cs,aH with
  | [c0,c1,c2],_=>exact⟨c0,c1,c2,rfl⟩
 obtain⟨z0,z1,z2,rfl⟩:∃z0 z1 z2,xs=[z0,z1,z2]:=by
  match xs,cC with
  | [z0,z1,z2],_=>exact⟨z0,z1,z2,rfl⟩
 rw[dZ]at hw
 simp only[DataW.weights,ZAR]at hw
 have g0:DataW.trod enc Tryz.prog W 0 (λ_=>true) db k 5 (List.take (Tryz.prog.cellsOf 5) (List.drop 0 [c0,c1,c2]))=some z0:=hx 0 _ rfl
 rw[show Tryz.prog.cellsOf 5=1 by kernel_rfl]at g0
 obtain⟨kk0,q0,_,w0⟩:=DataW.trod_int Tryz.underlying5 g0
 have b0:=wu8 w0
 obtain⟨kk,rfl⟩:∃z:Nat,kk0=z:=⟨kk0.toNat,by omega⟩
 have g1:DataW.trod enc Tryz.prog W 0 (λ_=>true) db k 5 (List.take (Tryz.prog.cellsOf 5) (List.drop 1 [c0,c1,c2]))=some z1:=hx 1 _ rfl
 rw[show Tryz.prog.cellsOf 5=1 by kernel_rfl]at g1
 obtain⟨nn0,q1,_,w1⟩:=DataW.trod_int Tryz.underlying5 g1
 have b1:=wu8 w1
 obtain⟨nn,rfl⟩:∃z:Nat,nn0=z:=⟨nn0.toNat,by omega⟩
 have g2:DataW.trod enc Tryz.prog W 0 (λ_=>true) db k 5 (List.take (Tryz.prog.cellsOf 5) (List.drop 2 [c0,c1,c2]))=some z2:=hx 2 _ rfl
 rw[show Tryz.prog.cellsOf 5=1 by kernel_rfl]at g2
 obtain⟨bb0,q2,_,w2⟩:=DataW.trod_int Tryz.underlying5 g2
 have b2:=wu8 w2
 obtain⟨bb,rfl⟩:∃z:Nat,bb0=z:=⟨bb0.toNat,by omega⟩
 simp only[List.drop,List.take,List.cons.injEq,and_true]at q0 q1 q2
 subst q0
 subst q1
 subst q2
 exact⟨(kk,nn,bb),rfl,by show kk < 256;omega,by show nn < 256;omega,by show bb < 256;omega⟩
theorem ZuE:Tryz.prog.underlying 158=some (.struct #[⟨ "Kind",5,0,false, "", "",0⟩,⟨ "N",5,1,false, "", "",1⟩,⟨ "Parts",22,2,false, "", "",8⟩,⟨ "Expr",156,3,false, "", "",32⟩]):=by kernel_rfl
theorem Ztq(n:Nat)(cs:List Value)(x:DataW H×List MemPlace)(h:DataW.trod enc Tryz.prog W 0 (λ_=>true) db n 158 cs=some x)(hw:∀w∈x.1.weights Tryz.prog 158,w<=reachBytes):∃s:SAct,cs=s.cs/\RepSA (ZnB W) s:=by
 obtain⟨xs,k,hk,dZ,aH,cC,hx⟩:=DataW.trod_struct ZuE h
 have hc:Tryz.prog.cellsOf 158=4:=by kernel_rfl
 rw[hc]at aH
 obtain⟨c0,c1,c2,c3,rfl⟩:∃c0 c1 c2 c3,cs=[c0,c1,c2,c3]:=by
  match cs,aH with
  | [c0,c1,c2,c3],_=>exact⟨c0,c1,c2,c3,rfl⟩
 obtain⟨z0,z1,z2,z3,rfl⟩:∃z0 z1 z2 z3,xs=[z0,z1,z2,z3]:=by
  match xs,cC with
  | [z0,z1,z2,z3],_=>exact⟨z0,z1,z2,z3,rfl⟩
 rw[dZ]at hw
 simp only[DataW.weights,ZuE]at hw
 have g0:DataW.trod enc Tryz.prog W 0 (λ_=>true) db k 5 (List.take (Tryz.prog.cellsOf 5) (List.drop 0 [c0,c1,c2,c3]))=some z0:=hx 0 _ rfl
 rw[show Tryz.prog.cellsOf 5=1 by kernel_rfl]at g0
 obtain⟨kk0,q0,_,w0⟩:=DataW.trod_int Tryz.underlying5 g0
 have b0:=wu8 w0
 obtain⟨kk,rfl⟩:∃z:Nat,kk0=z:=⟨kk0.toNat,by omega⟩
 have g1:DataW.trod enc Tryz.prog W 0 (λ_=>true) db k 5 (List.take (Tryz.prog.cellsOf 5) (List.drop 1 [c0,c1,c2,c3]))=some z1:=hx 1 _ rfl
 rw[show Tryz.prog.cellsOf 5=1 by kernel_rfl]at g1
 obtain⟨nn0,q1,_,w1⟩:=DataW.trod_int Tryz.underlying5 g1
 have b1:=wu8 w1
 obtain⟨nn,rfl⟩:∃z:Nat,nn0=z:=⟨nn0.toNat,by omega⟩
 have g2:DataW.trod enc Tryz.prog W 0 (λ_=>true) db k 22 (List.take (Tryz.prog.cellsOf 22) (List.drop 2 [c0,c1,c2,c3]))=some z2:=hx 2 _ rfl
 rw[show Tryz.prog.cellsOf 22=1 by kernel_rfl]at g2
 obtain⟨L2,a2,cap2,q2,nC,nD,cX,jY⟩:=Zdp (ZhM:=(λn:Nat=>[Value.int .u8 n])) (Q:=(λn:Nat=>n < 256)) (k:=1) (by kernel_rfl) (by kernel_rfl) (λ_=>rfl) (by decide) (zA6 (by kernel_rfl)) g2 (λw gP=>hw w (DataW.weights_mem_each (j:=2) (t:=22) rfl rfl w gP)) λn' _ cs' y hy jZ=>ZuD n' cs' y hy
 have g3:DataW.trod enc Tryz.prog W 0 (λ_=>true) db k 156 (List.take (Tryz.prog.cellsOf 156) (List.drop 3 [c0,c1,c2,c3]))=some z3:=hx 3 _ rfl
 rw[show Tryz.prog.cellsOf 156=1 by kernel_rfl]at g3
 obtain⟨L3,a3,cap3,q3,tT,tU,jO,pW⟩:=Zdp (ZhM:=s5C) (Q:=(λs:Nat×Nat×Nat=>s.1 < 256/\s.2.1 < 256/\s.2.2 < 18446744073709551616)) (k:=3) (by kernel_rfl) (by kernel_rfl) (λ_=>rfl) (by decide) (zA6 (by kernel_rfl)) g3 (λw gP=>hw w (DataW.weights_mem_each (j:=3) (t:=156) rfl rfl w gP)) λn' _ cs' y hy jZ=>ZyH n' cs' y hy jZ
 simp only[List.drop,List.take,List.cons.injEq,and_true]at q0 q1 q2 q3
 subst q0
 subst q1
 subst q2
 subst q3
 exact⟨⟨kk,nn,a2,L2,cap2,a3,L3,cap3⟩,rfl,⟨by show kk < 256;omega,by show nn < 256;omega,⟨jY,cX⟩,nD,nC,ZAl tU jO pW,tT⟩⟩
theorem ZuF:Tryz.prog.underlying 108=some (.struct #[⟨ "Kind",5,0,false, "", "",0⟩,⟨ "N",5,1,false, "", "",1⟩,⟨ "Ticks",5,2,false, "", "",2⟩,⟨ "Goto",5,3,false, "", "",3⟩,⟨ "Regex",105,4,false, "", "",8⟩,⟨ "Acts",106,5,false, "", "",32⟩]):=by kernel_rfl
theorem Ztr(n:Nat)(cs:List Value)(x:DataW H×List MemPlace)(h:DataW.trod enc Tryz.prog W 0 (λ_=>true) db n 108 cs=some x)(hw:∀w∈x.1.weights Tryz.prog 108,w<=reachBytes):∃s:SRul,cs=s.cs/\RepSR (ZnB W) s:=by
 obtain⟨xs,k,hk,dZ,aH,cC,hx⟩:=DataW.trod_struct ZuF h
 have hc:Tryz.prog.cellsOf 108=6:=by kernel_rfl
 rw[hc]at aH
 obtain⟨c0,c1,c2,c3,c4,c5,rfl⟩:∃c0 c1 c2 c3 c4 c5,cs=[c0,c1,c2,c3,c4,c5]:=by
  match cs,aH with
  | [c0,c1,c2,c3,c4,c5],_=>exact⟨c0,c1,c2,c3,c4,c5,rfl⟩
 obtain⟨z0,z1,z2,z3,z4,z5,rfl⟩:∃z0 z1 z2 z3 z4 z5,xs=[z0,z1,z2,z3,z4,z5]:=by
  match xs,cC with
  | [z0,z1,z2,z3,z4,z5],_=>exact⟨z0,z1,z2,z3,z4,z5,rfl⟩
 rw[dZ]at hw
 simp only[DataW.weights,ZuF]at hw
 have g0:DataW.trod enc Tryz.prog W 0 (λ_=>true) db k 5 (List.take (Tryz.prog.cellsOf 5) (List.drop 0 [c0,c1,c2,c3,c4,c5]))=some z0:=hx 0 _ rfl
 rw[show Tryz.prog.cellsOf 5=1 by kernel_rfl]at g0
 obtain⟨kk0,q0,_,w0⟩:=DataW.trod_int Tryz.underlying5 g0
 have b0:=wu8 w0
 obtain⟨kk,rfl⟩:∃z:Nat,kk0=z:=⟨kk0.toNat,by omega⟩
 have g1:DataW.trod enc Tryz.prog W 0 (λ_=>true) db k 5 (List.take (Tryz.prog.cellsOf 5) (List.drop 1 [c0,c1,c2,c3,c4,c5]))=some z1:=hx 1 _ rfl
 rw[show Tryz.prog.cellsOf 5=1 by kernel_rfl]at g1
 obtain⟨nn0,q1,_,w1⟩:=DataW.trod_int Tryz.underlying5 g1
 have b1:=wu8 w1
 obtain⟨nn,rfl⟩:∃z:Nat,nn0=z:=⟨nn0.toNat,by omega⟩
 have g2:DataW.trod enc Tryz.prog W 0 (λ_=>true) db k 5 (List.take (Tryz.prog.cellsOf 5) (List.drop 2 [c0,c1,c2,c3,c4,c5]))=some z2:=hx 2 _ rfl
 rw[show Tryz.prog.cellsOf 5=1 by kernel_rfl]at g2
 obtain⟨tt0,q2,_,w2⟩:=DataW.trod_int Tryz.underlying5 g2
 have b2:=wu8 w2
 obtain⟨tt,rfl⟩:∃z:Nat,tt0=z:=⟨tt0.toNat,by omega⟩
 have g3:DataW.trod enc Tryz.prog W 0 (λ_=>true) db k 5 (List.take (Tryz.prog.cellsOf 5) (List.drop 3 [c0,c1,c2,c3,c4,c5]))=some z3:=hx 3 _ rfl
 rw[show Tryz.prog.cellsOf 5=1 by kernel_rfl]at g3
 obtain⟨gg0,q3,_,w3⟩:=DataW.trod_int Tryz.underlying5 g3
 have b3:=wu8 w3
 obtain⟨gg,rfl⟩:∃z:Nat,gg0=z:=⟨gg0.toNat,by omega⟩
 have g4:DataW.trod enc Tryz.prog W 0 (λ_=>true) db k 105 (List.take (Tryz.prog.cellsOf 105) (List.drop 4 [c0,c1,c2,c3,c4,c5]))=some z4:=hx 4 _ rfl
 rw[show Tryz.prog.cellsOf 105=1 by kernel_rfl]at g4
 obtain⟨L4,a4,cap4,q4,tV,tW,da,pX⟩:=Zdp (ZhM:=s8C) (Q:=(λs:Nat×Nat×Nat=>s.1 < 256/\s.2.1 < 256/\s.2.2 < 256)) (k:=3) (by kernel_rfl) (by kernel_rfl) (λ_=>rfl) (by decide) (zA6 (by kernel_rfl)) g4 (λw gP=>hw w (DataW.weights_mem_each (j:=4) (t:=105) rfl rfl w gP)) λn' _ cs' y hy jZ=>ZyI n' cs' y hy jZ
 have g5:DataW.trod enc Tryz.prog W 0 (λ_=>true) db k 106 (List.take (Tryz.prog.cellsOf 106) (List.drop 5 [c0,c1,c2,c3,c4,c5]))=some z5:=hx 5 _ rfl
 rw[show Tryz.prog.cellsOf 106=1 by kernel_rfl]at g5
 obtain⟨L5,a5,cap5,q5,tX,tY,cw,pY⟩:=Zdp (ZhM:=SAct.cs) (Q:=RepSA (ZnB W)) (k:=4) (by kernel_rfl) (by kernel_rfl) (λ_=>rfl) (by decide) (zA6 (by kernel_rfl)) g5 (λw gP=>hw w (DataW.weights_mem_each (j:=5) (t:=106) rfl rfl w gP)) λn' _ cs' y hy jZ=>Ztq n' cs' y hy jZ
 simp only[List.drop,List.take,List.cons.injEq,and_true]at q0 q1 q2 q3 q4 q5
 subst q0
 subst q1
 subst q2
 subst q3
 subst q4
 subst q5
 exact⟨⟨kk,nn,tt,gg,a4,L4,cap4,a5,L5,cap5⟩,rfl,⟨by show kk < 256;omega,by show nn < 256;omega,by show tt < 256;omega,by show gg < 256;omega,ZBB tW da pX,tV,tY,tX,cw,pY⟩⟩
theorem Zts(n:Nat)(cs:List Value)(x:DataW H×List MemPlace)(h:DataW.trod enc Tryz.prog W 0 (λ_=>true) db n 104 cs=some x)(hw:∀w∈x.1.weights Tryz.prog 104,w<=reachBytes):∃s:SSta,cs=s.cs/\RepSS (ZnB W) s:=by
 obtain⟨L,a,cap,q,xW,qi,aC,cR⟩:=Zdp (ZhM:=SRul.cs) (Q:=RepSR (ZnB W)) (k:=6) (by kernel_rfl) (by kernel_rfl) (λ_=>rfl) (by decide) (zA6 (by kernel_rfl)) h hw λn' _ cs' y hy jZ=>Ztr n' cs' y hy jZ
 exact⟨⟨a,L,cap⟩,q,⟨qi,xW,aC,cR⟩⟩
theorem ZoY:Tryz.prog.underlying 25=some (.struct #[⟨ "Buffer",5,0,false, "", "",0⟩,⟨ "Values",22,1,false, "", "",8⟩,⟨ "States",23,2,false, "", "",32⟩]):=by kernel_rfl
theorem ZoZ(n:Nat)(cs:List Value)(x:DataW H×List MemPlace)(h:DataW.trod enc Tryz.prog W 0 (λ_=>true) db n 25 cs=some x)(hw:∀w∈x.1.weights Tryz.prog 25,w<=reachBytes):∃s:SScr,cs=s.cs/\RepSC (ZnB W) s:=by
 obtain⟨xs,k,hk,dZ,aH,cC,hx⟩:=DataW.trod_struct ZoY h
 have hc:Tryz.prog.cellsOf 25=3:=by kernel_rfl
 rw[hc]at aH
 obtain⟨c0,c1,c2,rfl⟩:∃c0 c1 c2,cs=[c0,c1,c2]:=by
  match cs,aH with
  | [c0,c1,c2],_=>exact⟨c0,c1,c2,rfl⟩
 obtain⟨z0,z1,z2,rfl⟩:∃z0 z1 z2,xs=[z0,z1,z2]:=by
  match xs,cC with
  | [z0,z1,z2],_=>exact⟨z0,z1,z2,rfl⟩
 rw[dZ]at hw
 simp only[DataW.weights,ZoY]at hw
 have g0:DataW.trod enc Tryz.prog W 0 (λ_=>true) db k 5 (List.take (Tryz.prog.cellsOf 5) (List.drop 0 [c0,c1,c2]))=some z0:=hx 0 _ rfl
 rw[show Tryz.prog.cellsOf 5=1 by kernel_rfl]at g0
 obtain⟨kk0,q0,_,w0⟩:=DataW.trod_int Tryz.underlying5 g0
 have b0:=wu8 w0
 obtain⟨kk,rfl⟩:∃z:Nat,kk0=z:=⟨kk0.toNat,by omega⟩
 have g1:DataW.trod enc Tryz.prog W 0 (λ_=>true) db k 22 (List.take (Tryz.prog.cellsOf 22) (List.drop 1 [c0,c1,c2]))=some z1:=hx 1 _ rfl
 rw[show Tryz.prog.cellsOf 22=1 by kernel_rfl]at g1
 obtain⟨L1,a1,cap1,q1,xX,tZ,pZ,p7⟩:=Zdp (ZhM:=(λn:Nat=>[Value.int .u8 n])) (Q:=(λn:Nat=>n < 256)) (k:=1) (by kernel_rfl) (by kernel_rfl) (λ_=>rfl) (by decide) (zA6 (by kernel_rfl)) g1 (λw gP=>hw w (DataW.weights_mem_each (j:=1) (t:=22) rfl rfl w gP)) λn' _ cs' y hy jZ=>ZuD n' cs' y hy
 have g2:DataW.trod enc Tryz.prog W 0 (λ_=>true) db k 23 (List.take (Tryz.prog.cellsOf 23) (List.drop 2 [c0,c1,c2]))=some z2:=hx 2 _ rfl
 rw[show Tryz.prog.cellsOf 23=1 by kernel_rfl]at g2
 obtain⟨L2,a2,cap2,q2,nC,nD,cX,jY⟩:=Zdp (ZhM:=SSta.cs) (Q:=RepSS (ZnB W)) (k:=1) (by kernel_rfl) (by kernel_rfl) (λ_=>rfl) (by decide) (zA6 (by kernel_rfl)) g2 (λw gP=>hw w (DataW.weights_mem_each (j:=2) (t:=23) rfl rfl w gP)) λn' _ cs' y hy jZ=>Zts n' cs' y hy jZ
 simp only[List.drop,List.take,List.cons.injEq,and_true]at q0 q1 q2
 subst q0
 subst q1
 subst q2
 exact⟨⟨kk,a1,L1,cap1,a2,L2,cap2⟩,rfl,⟨by show kk < 256;omega,⟨p7,pZ⟩,tZ,nD,nC,cX,jY⟩⟩
end
theorem ZAm:ownKnob Tryz.prog.godebug=none:=by kernel_rfl
theorem ZyJ:laidOutB Tryz.prog=true:=by kernel_rfl
set_option maxHeartbeats 4000000 in
theorem Zhj(H:Type)(enc:TypeId×Value->H)(W:World)(base:Nat)(args:Array Value)(ds gs:List (DataW H))(before:List MemPlace)
  (j0:∀(j:Nat) t v,Tryz.f5.params[j]?=some t->args[j]?=some v->Value.okWide Tryz.prog W .any base t v)
  (hW:DataW.Whole enc Tryz.prog Tryz.f5.params.toList Rows.astCopiesSpec.vars false W args.toList ds gs before) (bJ:(DataW.weightsEach Tryz.prog (Tryz.f5.params.toList++Rows.astCopiesSpec.plain.varTypes Tryz.prog) (ds++gs)).all (λn=>decide (n<=reachBytes))=true):
  Calls Tryz.prog 5 args W λe W'=>∃v,e=.returned v/\Rows.astCopiesSpec.post enc Tryz.prog Tryz.f5 false true false false W args v W':=by
 have hW':=hW
 obtain⟨p,q,xY,hV,rfl,iQ,eN⟩:=hW
 have hA:DataW.TrodAll enc Tryz.prog W 0 (λ_=>true) true Tryz.f5.params.toList args.toList ds p:=xY
 rw[Tryz.params5]at hA j0
 obtain⟨v0,vs0,d0,ds0,p0,q0,a0,rfl,rfl,h0,r0⟩:=trodAll_cons hA
 obtain⟨v1,vs1,d1,ds1,p1,q1,rfl,rfl,rfl,h1,r1⟩:=trodAll_cons r0
 obtain⟨rfl,rfl,rfl⟩:=trodAll_nil r1
 obtain rfl:args=#[v0,v1]:=by cases args;simp_all
 obtain⟨rfl,rfl⟩:=trodVars_none hV
 obtain⟨f0,g0⟩:=h0
 obtain⟨cs0,rfl,-⟩:=okWide_struct ZoY (j0 0 _ v0 rfl rfl)
 obtain⟨Lc0,rfl⟩:∃L:List Value,cs0=L.toArray:=⟨cs0.toList,by simp⟩
 obtain⟨x,iZ,p8⟩:=ZoZ f0 _ _ g0 (λw gP=>by
  have:=List.all_eq_true.1 bJ w (DataW.weights_mem_each (j:=0) (t:=25) (d:=d0) (by rw[Tryz.params5];rfl) rfl w gP)
  simpa using this)
 replace iZ:Lc0=x.cs:=iZ
 subst iZ
 obtain⟨f1,g1⟩:=h1
 obtain⟨cs1,rfl,-⟩:=okWide_struct ZoY (j0 1 _ v1 rfl rfl)
 obtain⟨Lc1,rfl⟩:∃L:List Value,cs1=L.toArray:=⟨cs1.toList,by simp⟩
 obtain⟨w,nF,p9⟩:=ZoZ f1 _ _ g1 (λw gP=>by
  have:=List.all_eq_true.1 bJ w (DataW.weights_mem_each (j:=1) (t:=25) (d:=d1) (by rw[Tryz.params5];rfl) rfl w gP)
  simpa using this)
 replace nF:Lc1=w.cs:=nF
 subst nF
 exact Zsn (tb:=4) ZyJ (by rw[Tryz.params5];intro t ht;simp at ht;rcases ht with rfl <;> exact⟨by kernel_rfl,zA6 (by kernel_rfl)⟩) hW' rfl rfl rfl rfl rfl Tryz.underlying4 (Zma x w (ZnB W) p8 p9 (λ_=>rfl))
theorem Zj7(os:Os)(started:os.Started)(H:Type)(enc:TypeId×Value->H):
  ReturnsInHanded {} Tryz.checked os 5 .any (Rows.astCopiesSpec.pre6 enc Tryz.prog Tryz.f5 Rows.astCopiesRow.domain false) (Rows.astCopiesSpec.post enc Tryz.prog Tryz.f5 false true false false):=by
 refine returnsInHanded_of_change_sized (C:=Tryz.checked) ZAm started (by kernel_rfl) Tryz.func5
  (ChangeSpec.witness6 (enc:=enc) (C:=Tryz.checked) false ⟨#[],#[.agg #[.int .u8 0,.slice none 0 0,.slice none 0 0],.agg #[.int .u8 0,.slice none 0 0,.slice none 0 0]],[]⟩ 8 (by kernel_rfl) (by kernel_rfl) (by kernel_rfl) (by kernel_rfl)) ?_
 intro W base args ds gs before j0 hW _ bJ _
 exact Zhj H enc W base args ds gs before j0 hW bJ
theorem copies_holds:Rows.AstCopiesSaid:=
 OpenClaim.holds_of_wide 5 Tryz.f5 rfl rfl rfl rfl rfl rfl rfl ⟨rfl,rfl,rfl,rfl,rfl⟩ rfl rfl rfl rfl rfl (by kernel_rfl) Tryz.func5 (by kernel_rfl)
  (zA6 (by kernel_rfl)) (by unfold Func.isWrapper;first|(rw[if_pos (by decide +kernel)];kernel_rfl)|(rw[if_neg (by decide +kernel)];exact⟨rfl,rfl⟩))
  (λos started H enc _=>Zj7 os started H enc)
#print axioms copies_holds
end Go.Proofs.YtpjepnkiiojgfaaGreat