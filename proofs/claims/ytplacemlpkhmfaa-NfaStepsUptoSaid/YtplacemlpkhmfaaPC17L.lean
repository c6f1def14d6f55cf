/- Part of the proof: conditions and contracts of functions of this program. No condition of its own. -/
import Derived.Test.YtplacemlpkhmfaaPC17K
set_option linter.unusedVariables false
set_option linter.unusedSimpArgs false
namespace Go.Proofs.Ytplacemlpkhmfaa
open Go Go.Eng Go.Rx Go.Proofs Go.RowKit
set_option maxRecDepth 100000
theorem Zp6{st:Bool}(A:Nf)(hq:∀q∈A.sets,QOk q)(v:Value)(l:List Int)(a:Option Addr)(c ch:Nat)(ip:ch < 256)(m:Mem)(h:NfR st A v m)(hl:rowRd m a (Zaq l))(dM:l.length≤1000000):
  CX Try.prog 27 #[v,.slice a l.length c,.int .u8 ch] m [] (fun v m' _=>∃w,v=.tuple #[w,.int .i64 (A.err l)]∧SlI true (if A.err l=0 then A.step l ch else[]) w m'∧NewS m w):=by
 have h':=h
 obtain⟨s,f,x,y,rfl,⟨sa,sc,rfl,hs',dL,iw⟩,⟨fa,fc,vs,rfl,hf,f8,gN,fT⟩,⟨xa,xc,rfl,hx,dY,gq⟩,⟨ya,yc,rfl,hy,dD,gC⟩⟩:=h
 apply ZnT
 unfold Zjs
 intro b m1 bD hb
 refine Zdo (Zp4 A _ l a c m1 (h'.mono bD) (hl.mono bD) dM) fun m2 bZ=>Zab (fun h1=>?_) (fun h1=>?_)
 ·have he:A.err l≠0:=by simpa using h1
  refine⟨_,Mem.le_trans bD bZ,Mem.le_refl _,_,rfl,?_⟩
  rw[if_neg he]
  exact⟨⟨none,0,rfl,.inl rfl,by simp,fun _ _=>rfl⟩,fun b o e=>by simp[slA]at e⟩
 ·have he:A.err l=0:=by simpa using h1
  have hr:A.right=true:=by
   unfold Nf.err at he
   cases hr:A.right with
   | true=>rfl
   | false=>rw[hr]at he;simp at he
  have hs:A.states l=true:=by
   unfold Nf.err at he
   cases hs:A.states l with
   | true=>rfl
   | false=>rw[hr,hs]at he;simp at he
  have hU:=Mem.le_trans bD bZ
  refine Zat (Zp5 A (ZeX.1 hr) hq _ l a c ch ip m2 (h'.mono hU) (hl.mono hU) dM hs) (fun v m' css h=>ZbB v m' css h.1) ?_
  intro a3 n3 c3 m3 cD hR
  refine⟨_,Mem.le_trans hU cD,Mem.le_refl _,_,by rw[he],?_⟩
  rw[if_pos he];exact⟨hR.1,hR.2.less hU⟩
theorem Zr8{st:Bool}(A:Nf)(hq:∀q∈A.sets,QOk q)(v:Value)(l:List Int)(a:Option Addr)(c ch:Nat)(ip:ch < 256)(m:Mem)(h:NfR st A v m)(hl:rowRd m a (Zaq l))(dM:l.length≤1000000):
  CX Try.prog 27 #[v,.slice a l.length c,.int .u8 ch] m [] (fun v m' _=>∃w,v=.tuple #[w,.int .i64 (A.err l)]∧SlI true (if A.err l=0 then A.step l ch else[]) w m'):=(Zp6 A hq v l a c ch ip m h hl dM).mono fun _ _ _ _ ⟨w,h1,h2,_⟩=>⟨w,h1,h2⟩
theorem ZnY{P:Program}{g:FuncId}{args:Array Value}{m:Mem}{v0:Value}{xs:List Box}{R0:Value→Mem→List (List Value)→List Value→Prop}{Q:Nat→Prop}{F:Shape}{K:(Nat→Prop)→(Value→Mem→List (List Value)→List Value→Prop)→Prop}(h:CXY P g args m (fun k=>(Tok.mk v0 1).blk=some k) xs [⟨v0,1⟩] R0)(hf:∀v m' css tvs,R0 v m' css tvs→Shape.fits F v=true)(k:K (fun k=>(Tok.mk v0 1).blk=some k) R0):
  ∃(Y1:Nat→Prop) (R:Value→Mem→List (List Value)→List Value→Prop),CXY P g args m Y1 xs [⟨v0,1⟩] R∧(∀t:Tok,t∈[Tok.mk v0 1]→∀b,t.blk=some b→Y1 b)∧(∀b,Y1 b→(∃t:Tok,t∈[Tok.mk v0 1]∧t.blk=some b)∨Q b)∧(∀v m' css tvs,R v m' css tvs→Shape.fits F v=true)∧K Y1 R:=
 ⟨_,_,h,fun t ht b hb=>by rw[List.mem_singleton]at ht;subst ht;exact hb,fun b hb=>.inl ⟨_,List.mem_singleton.2 rfl,hb⟩,hf,k⟩
def CbR{S:Type}(j:Nat)(Inv:Nat→S→Value→Value→Mem→Prop)(m:Mem)(s:S):Value→Mem→List (List Value)→List Value→Prop:=fun v m' css tvs=>
 v=.tuple #[]∧m.le m'∧∃a n c a1 n1 c1,css=[[.slice a n c]]∧tvs=[.slice a1 n1 c1]∧Inv j s (.slice a n c) (.slice a1 n1 c1) m'
def Zv7{S:Type}(A:Nf)(g:FuncId)(fi cap:List Value)(cb:Nat)(st:S→Nat→List Int→S)(Inv:Nat→S→Value→Value→Mem→Prop)(base:Mem):Prop:=
 ∀(s:S)(n:Nat)(l:List Int)(la:Option Addr)(lc:Nat)(ca:Option Addr)(cn cc:Nat)(ta:Option Addr)(tn tc:Nat)(m:Mem),base.le m→Inv n s (.slice ca cn cc) (.slice ta tn tc) m→rowRd m la (Zaq l)→l.length≤1000000→A.states l=true→n≤4096→
  CXY Try.prog g ((fi++([Value.int .i64 (n:Nat),Value.slice la l.length lc]:List Value))++cap).toArray m (fun k=>(Tok.mk (.slice ta tn tc) 1).blk=some k) [⟨cb,[.slice ca cn cc],24,1,false,true⟩] [⟨.slice ta tn tc,1⟩] (CbR (n+1) Inv m (st s n l))
theorem ZnZ{S:Type}{j:Nat}{Inv:Nat→S→Value→Value→Mem→Prop}{m:Mem}{s:S}:∀v m' css tvs,CbR j Inv m s v m' css tvs→Shape.fits (.tup []) v=true:=by
 rintro v m' css tvs ⟨rfl,_⟩;rfl
theorem Zr9{S:Type}{stt:Bool}(A:Nf)(hq:∀q∈A.sets,QOk q)(v:Value)(bs:List Nat)(ba:Option Addr)(bc:Nat)(again:Bool)(g:FuncId)(fi cap:List Value)(cb:Nat)(st:S→Nat→List Int→S)(Inv:Nat→S→Value→Value→Mem→Prop)(iq:∀j s a b m m',Inv j s a b m→m.le m'→Inv j s a b m')
  (s0:S) (ca:Option Addr) (cn cc:Nat) (ta:Option Addr) (tn tc:Nat) (m:Mem) (ng:Zv7 A g fi cap cb st Inv m) (h:NfR stt A v m) (hb:Byt m ba bs) (dA:Inv 0 s0 (.slice ca cn cc) (.slice ta tn tc) m):
  CXY Try.prog 80 #[v,.slice ba bs.length bc,.bool again,.func (.func g) fi.toArray cap.toArray] m (fun k=>(Tok.mk (.slice ta tn tc) 1).blk=some k) [⟨cb,[.slice ca cn cc],24,1,false,true⟩] [⟨.slice ta tn tc,1⟩]
   (fun v m' css tvs=>v=.int .i64 (A.runE bs.length)∧m.le m'∧∃j a n c a1 n1 c1,css=[[.slice a n c]]∧tvs=[.slice a1 n1 c1]∧Inv j (if A.runE bs.length=0 then A.runL again st bs 0 [-1] (st s0 0 [-1])else s0) (.slice a n c) (.slice a1 n1 c1) m'):=by
 have h':=h
 obtain⟨s,f,x,y,rfl,⟨sa,sc,rfl,hs',dL,iw⟩,⟨fa,fc,vs,rfl,hf,f8,gN,fT⟩,⟨xa,xc,rfl,hx,dY,gq⟩,⟨ya,yc,rfl,hy,dD,gC⟩⟩:=h
 apply ZnU
 unfold Zlk
 intro b m1 bD _ _ _
 refine Zah (Zkf A _ m1 (h'.mono bD)) fun m2 bZ=>Zab (fun h1=>?_) (fun h1=>?_)
 ·have he:A.runE bs.length=171:=by unfold Nf.runE;rw[if_pos (by simpa using h1)]
  rw[he]
  exact⟨by trivial,rfl,Mem.le_trans bD bZ,_,_,_,_,_,_,_,rfl,rfl,iq _ _ _ _ _ _ dA (Mem.le_trans bD bZ)⟩
 have hr:A.right=true:=by simpa using h1
 have hA:=ZeX.1 hr
 have hU:=Mem.le_trans bD bZ
 refine Zab (fun h2=>?_) (fun h2=>?_)
 ·have h2':4096 < bs.length:=by have:=of_decide_eq_true h2;omega
  have he:A.runE bs.length=3:=by unfold Nf.runE;rw[hr,if_pos h2'];rfl
  rw[he]
  exact⟨by trivial,rfl,hU,_,_,_,_,_,_,_,rfl,rfl,iq _ _ _ _ _ _ dA hU⟩
 have h2':bs.length≤4096:=by have:=of_decide_eq_false h2;omega
 have he:A.runE bs.length=0:=by unfold Nf.runE;rw[if_neg (by rw[hr];simp),if_neg (by omega)]
 rw[he]
 simp only[if_true]
 intro b2 ir
 have dN:m.le (m2.add b2 [.int .i64 (-1)]):=Mem.le_trans hU (Mem.le_add ir _)
 have eC:rowRd (m2.add b2 [.int .i64 (-1)]) (some ⟨b2,0,none⟩) (Zaq [-1]):=Zfk
 have mH:A.states [-1]=true:=by
  unfold Nf.states
  rw[Zcm]
  exact⟨by simp,fun x hx=>by rw[List.mem_singleton]at hx;subst hx;unfold Nf.top;omega⟩
 refine ZnY (ng s0 0 [-1] (some ⟨b2,0,none⟩) 1 ca cn cc ta tn tc _ dN (iq _ _ _ _ _ _ dA dN) eC (by simp) mH (by omega)) ZnZ ?_
 rintro m3 vK _ cs a3 n3 c3 ⟨_,cD,a4,n4,c4,a5,n5,c5,cF,dB,oX⟩
 simp only[List.cons.injEq,Value.slice.injEq,and_true]at dB
 obtain⟨rfl,rfl,rfl⟩:=dB
 obtain rfl:cs=[.slice a4 n4 c4]:=by simpa using cF
 have iE:=Mem.le_trans dN cD
 refine⟨fun xs css tvs m' q=>∃(k:Nat)(l:List Int)(la:Option Addr)(lc:Nat)(z:S)(a n:_)(c:Nat)(a1:Option Addr)(n1 c1:Nat)(w:Value),k≤bs.length∧xs=[.slice la l.length lc,.int .i64 k]∧css=[[.slice a n c]]∧tvs=[w,.slice a1 n1 c1]∧m.le m'∧Inv (k+1) z (.slice a n c) (.slice a1 n1 c1) m'∧rowRd m' la (Zaq l)∧l.length≤1000000∧A.states l=true∧A.runL again st (bs.drop k) k l z=A.runL again st bs 0 [-1] (st s0 0 [-1])∧q=bs.length - k,
  ⟨_,0,[-1],some ⟨b2,0,none⟩,1,st s0 0 [-1],a4,n4,c4,a3,n3,c3,.slice none 0 0,Nat.zero_le _,rfl,rfl,rfl,iE,oX,eC.mono cD,by simp,mH,rfl,rfl⟩,?_⟩
 rintro la ln lc z cs a6 n6 c6 a7 n7 c7 m4 q _ ⟨k,l,la',lc',zz,a,n,c,a1,n1,c1,w,hk,hx,cF,dB,iF,jo,ko,dM,jv,eJ,hq⟩
 simp only[List.cons.injEq,Value.slice.injEq,Value.int.injEq,true_and,and_true]at hx
 obtain⟨⟨rfl,rfl,rfl⟩,rfl⟩:=hx
 simp only[List.cons.injEq,and_true]at cF dB
 subst cF
 obtain⟨rfl,dB⟩:=dB
 simp only[Value.slice.injEq]at dB
 obtain⟨rfl,rfl,rfl⟩:=dB
 subst hq
 refine Zab (fun bV=>?_) (fun cK=>?_)
 ·have bF:k < bs.length:=by have:=of_decide_eq_true bV;omega
  obtain⟨ch,ip⟩:=Zam bF
  have oY:=hb.2 ch (List.mem_of_getElem? ip)
  rcases(hb.mono iF).1 with h0|⟨bb,bo,vL,r8⟩
  ·rw[h0]at bF;simp at bF
  have r9:m4 bb (bo+k*1)=some (.int .u8 ch):=by
   have:=r8 k (.int .u8 ch) (by simp[ip])
   rwa [Nat.mul_one]
  have dT:IntKind.i64.wrap ((k:Int)+1)=((k+1:Nat):Int):=by rw[Zau (by omega) (by omega)];rfl
  rw[Zce ip,Nf.runL]at eJ
  refine⟨bb,bo,vL,⟨by omega,by omega⟩,_,(by rw[Int.toNat_natCast];exact r9),?_⟩
  refine Zat (Zug A hA hq _ l la lc ch oY m4 (h'.mono iF) ko dM jv) ZbB ?_
  rintro a8 n8 c8 m5 cX ⟨a8',c8',nm,kp,tP,_⟩
  simp only[Value.slice.injEq]at nm
  obtain⟨rfl,rfl,rfl⟩:=nm
  have iG:=Mem.le_trans iF cX
  have tQ:(A.step l ch).length≤448:=Znp _
  have se:=Zns hA again l ch
  have fin:∀(l2:List Int)(la2:Option Addr)(lc2:Nat)(m6:Mem)(w:Value),l2=A.next again l ch→m.le m6→rowRd m6 la2 (Zaq l2)→l2.length≤1000000→∀(m7:Mem)(cs:List Value)(a9:Option Addr)(n9 c9:Nat),CbR (k+1+1) Inv m6 (st zz (k+1) l2) (.tuple #[]) m7 [cs] [.slice a9 n9 c9]→
    ∃n',n' < bs.length - k∧(fun(xs:List Value) (css:List (List Value)) (tvs:List Value) (m':Mem) (q:Nat)=>∃(k:Nat)(l:List Int)(la:Option Addr)(lc:Nat)(z:S)(a:Option Addr)(n c:Nat)(a1:Option Addr)(n1 c1:Nat)(w:Value),k≤bs.length∧xs=[.slice la l.length lc,.int .i64 k]∧css=[[.slice a n c]]∧tvs=[w,.slice a1 n1 c1]∧m.le m'∧Inv (k+1) z (.slice a n c) (.slice a1 n1 c1) m'∧rowRd m' la (Zaq l)∧l.length≤1000000∧A.states l=true∧A.runL again st (bs.drop k) k l z=A.runL again st bs 0 [-1] (st s0 0 [-1])∧q=bs.length - k) [.slice la2 l2.length lc2,.int .i64 (IntKind.i64.wrap ((k:Int)+1))] [cs] [w,.slice a9 n9 c9] m7 n':=by
   rintro l2 la2 lc2 m6 w rfl mI iS oZ m7 cs a9 n9 c9 ⟨_,jy,e1,e2,e3,e4,e5,e6,cF,dB,o6⟩
   simp only[List.cons.injEq,Value.slice.injEq,and_true]at dB
   obtain⟨rfl,rfl,rfl⟩:=dB
   obtain rfl:cs=[.slice e1 e2 e3]:=by simpa using cF
   exact⟨_,by omega,k+1,_,la2,lc2,st zz (k+1) (A.next again l ch),e1,e2,e3,a9,n9,c9,w,bF,by rw[dT],rfl,rfl,Mem.le_trans mI jy,o6,iS.mono jy,oZ,se,eJ,rfl⟩
  refine Zab (fun lN=>?_) (fun lN=>?_)
  ·have jB:A.next again l ch=-1::A.step l ch:=by unfold Nf.next;rw[lN];rfl
   intro b4 mw
   have iT:rowRd (m5.add b4 [.int .i64 (-1)]) (some ⟨b4,0,none⟩) (Zaq [-1]):=Zfk
   have nn:=Mem.le_add mw [Value.int .i64 (-1)]
   refine Zab (fun hz=>?_) (fun hz=>?_)
   ·have jT:A.step l ch=[]:=List.eq_nil_of_length_eq_zero (Nat.eq_of_beq_eq_true hz)
    have ls:([-1]:List Int)=A.next again l ch:=by rw[jB,jT]
    rw[dT]
    refine ZnY (ng zz (k+1) [-1] (some ⟨b4,0,none⟩) 1 _ _ _ _ _ _ _ (Mem.le_trans iG nn) (iq _ _ _ _ _ _ jo (Mem.le_trans cX nn)) iT (by simp) mH (by omega)) ZnZ ?_
    rintro m7 o7 _ cs a9 n9 c9 o8
    refine⟨by trivial,by trivial,?_⟩
    have:=fin [-1] (some ⟨b4,0,none⟩) 1 _ (Value.slice a6 n6 c6) ls (Mem.le_trans iG nn) iT (by simp) m7 cs a9 n9 c9 o8
    rw[dT]at this
    exact this
   ·have jT:(A.step l ch).length≠0:=fun e=>by rw[e]at hz;cases hz
    refine⟨.inr (.inr (by show 1 < 1+(A.step l ch).length;omega)),Zaq [-1],Zaq (A.step l ch),rfl,by rw[ZcZ,Nat.mul_one],iT,kp.mono nn,fun u hu=>?_,by show(1+(A.step l ch).length)*8≤_;omega,by show 1+(A.step l ch).length≤_;omega,fun a' c' m6 fQ vM p6=>?_⟩
    ·obtain⟨i,_,rfl⟩:=List.mem_map.1 hu
     rfl
    have ls:(-1::A.step l ch:List Int)=A.next again l ch:=by rw[jB]
    have p7:(-1::A.step l ch:List Int).length=1+(A.step l ch).length:=by rw[List.length_cons];omega
    have o9:rowRd m6 a' (Zaq (-1::A.step l ch)):=vM
    have tR:m.le m6:=Mem.le_trans iG (Mem.le_trans nn fQ)
    have dK:=ng zz (k+1) (-1::A.step l ch) a' c' _ _ _ _ _ _ m6 tR (iq _ _ _ _ _ _ jo (Mem.le_trans cX (Mem.le_trans nn fQ))) o9 (by rw[p7];omega) (by rw[ls];exact se) (by omega)
    rw[p7]at dK
    rw[dT]
    refine ZnY dK ZnZ ?_
    rintro m7 o7 _ cs a9 n9 c9 o8
    refine⟨by trivial,by trivial,?_⟩
    have:=fin (-1::A.step l ch) a' c' m6 (.slice a' (1+(A.step l ch).length) c') ls tR o9 (by rw[p7];omega) m7 cs a9 n9 c9 o8
    rw[dT,p7]at this
    exact this
  ·have jB:A.step l ch=A.next again l ch:=by unfold Nf.next;rw[lN];rfl
   rw[dT]
   refine ZnY (ng zz (k+1) (A.step l ch) a8 c8 _ _ _ _ _ _ m5 iG (iq _ _ _ _ _ _ jo cX) kp (by omega) (by rw[jB];exact se) (by omega)) ZnZ ?_
   rintro m7 o7 _ cs a9 n9 c9 o8
   refine⟨by trivial,by trivial,?_⟩
   have:=fin (A.step l ch) a8 c8 m5 (Value.slice a6 n6 c6) jB iG kp (by omega) m7 cs a9 n9 c9 o8
   rw[dT]at this
   exact this
 ·have:k=bs.length:=by have:=of_decide_eq_false cK;omega
  subst this
  rw[List.drop_length,Nf.runL]at eJ
  subst eJ
  exact⟨by trivial,by trivial,iF,_,_,_,_,_,_,_,rfl,rfl,jo⟩
end Go.Proofs.Ytplacemlpkhmfaa

