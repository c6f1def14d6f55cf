/- Part of the proof: conditions and contracts of functions of this program. No condition of its own. -/
import Derived.Test.YtplacemlpkhmfaaPC17K
set_option linter.unusedVariables false
set_option linter.unusedSimpArgs false
namespace Go.Proofs.Ytplacemlpkhmfaa
open Go Go.Eng Go.Rx Go.Proofs Go.RowKit
set_option maxRecDepth 100000
theorem Zto{st:Bool}(A:Nf)(hq:∀q∈A.sets,QOk q)(v:Value)(l:List Int)(a:Option Addr)(c ch:Nat)(lG:ch < 256)(m:Mem)(h:NfR st A v m)(hl:rowRd m a (ZaM l))(fH:l.length≤1000000):
  CX Try.prog 27 #[v,.slice a l.length c,.int .u8 ch] m [] (fun v m' _=>∃w,v=.tuple #[w,.int .i64 (A.err l)]∧SlI true (if A.err l=0 then A.step l ch else[]) w m'):=by
 have h':=h
 obtain⟨s,f,x,y,rfl,⟨sa,sc,rfl,hs',fD,jv⟩,⟨fa,fc,vs,rfl,hf,iE,iY,jc⟩,⟨xa,xc,rfl,hx,gz,iG⟩,⟨ya,yc,rfl,hy,eR,jx⟩⟩:=h
 apply ZoN
 unfold Zj2
 intro b m1 bJ hb
 refine Zdv (Zuj A _ l a c m1 (h'.mono bJ) (hl.mono bJ) fH) fun m2 bP=>Zaa (fun h1=>?_) (fun h1=>?_)
 ·have he:A.err l≠0:=by simpa using h1
  refine⟨_,Mem.le_trans bJ bP,Mem.le_refl _,_,rfl,?_⟩
  rw[if_neg he]
  exact⟨none,0,rfl,.inl rfl,by simp,fun _ _=>rfl⟩
 ·have he:A.err l=0:=by simpa using h1
  have hr:A.right=true:=by
   unfold Nf.err at he
   cases hr:A.right with
   | true=>rfl
   | false=>rw[hr]at he;simp at he
  have hs:A.states l=true:=by
   unfold Nf.err at he
   cases hs:A.states l with
   | true=>rfl
   | false=>rw[hr,hs]at he;simp at he
  have kt:=Mem.le_trans bJ bP
  refine Zam (Ztn A (Zg3.1 hr) hq _ l a c ch lG m2 (h'.mono kt) (hl.mono kt) fH hs) Zd4 ?_
  intro a3 n3 c3 m3 cJ hR
  refine⟨_,Mem.le_trans kt cJ,Mem.le_refl _,_,by rw[he],?_⟩
  rw[if_pos he];exact hR
theorem Zo0{P:Program}{g:FuncId}{args:Array Value}{m:Mem}{v0:Value}{xs:List Box}{R0:Value→Mem→List (List Value)→List Value→Prop}{Q:Nat→Prop}{F:Shape}{K:(Nat→Prop)→(Value→Mem→List (List Value)→List Value→Prop)→Prop}(h:CXY P g args m (fun k=>(Tok.mk v0 1).blk=some k) xs [⟨v0,1⟩] R0)(hf:∀v m' css tvs,R0 v m' css tvs→Shape.fits F v=true)(k:K (fun k=>(Tok.mk v0 1).blk=some k) R0):
  ∃(Y1:Nat→Prop) (R:Value→Mem→List (List Value)→List Value→Prop),CXY P g args m Y1 xs [⟨v0,1⟩] R∧(∀t:Tok,t∈[Tok.mk v0 1]→∀b,t.blk=some b→Y1 b)∧(∀b,Y1 b→(∃t:Tok,t∈[Tok.mk v0 1]∧t.blk=some b)∨Q b)∧(∀v m' css tvs,R v m' css tvs→Shape.fits F v=true)∧K Y1 R:=
 ⟨_,_,h,fun t ht b hb=>by rw[List.mem_singleton]at ht;subst ht;exact hb,fun b hb=>.inl ⟨_,List.mem_singleton.2 rfl,hb⟩,hf,k⟩
def CbR{S:Type}(j:Nat)(Inv:Nat→S→Value→Value→Mem→Prop)(m:Mem)(s:S):Value→Mem→List (List Value)→List Value→Prop:=fun v m' css tvs=>
 v=.tuple #[]∧m.le m'∧∃a n c a1 n1 c1,css=[[.slice a n c]]∧tvs=[.slice a1 n1 c1]∧Inv j s (.slice a n c) (.slice a1 n1 c1) m'
def ZxF{S:Type}(A:Nf)(g:FuncId)(fi cap:List Value)(cb:Nat)(st:S→Nat→List Int→S)(Inv:Nat→S→Value→Value→Mem→Prop)(base:Mem):Prop:=
 ∀(s:S)(n:Nat)(l:List Int)(la:Option Addr)(lc:Nat)(ca:Option Addr)(cn cc:Nat)(ta:Option Addr)(tn tc:Nat)(m:Mem),base.le m→Inv n s (.slice ca cn cc) (.slice ta tn tc) m→rowRd m la (ZaM l)→l.length≤1000000→A.states l=true→n≤4096→
  CXY Try.prog g ((fi++([Value.int .i64 (n:Nat),Value.slice la l.length lc]:List Value))++cap).toArray m (fun k=>(Tok.mk (.slice ta tn tc) 1).blk=some k) [⟨cb,[.slice ca cn cc],24,1,false,true⟩] [⟨.slice ta tn tc,1⟩] (CbR (n+1) Inv m (st s n l))
theorem Zo1{S:Type}{j:Nat}{Inv:Nat→S→Value→Value→Mem→Prop}{m:Mem}{s:S}:∀v m' css tvs,CbR j Inv m s v m' css tvs→Shape.fits (.tup []) v=true:=by
 rintro v m' css tvs ⟨rfl,_⟩;rfl
theorem Ztp{S:Type}{stt:Bool}(A:Nf)(hq:∀q∈A.sets,QOk q)(v:Value)(bs:List Nat)(ba:Option Addr)(bc:Nat)(again:Bool)(g:FuncId)(fi cap:List Value)(cb:Nat)(st:S→Nat→List Int→S)(Inv:Nat→S→Value→Value→Mem→Prop)(ij:∀j s a b m m',Inv j s a b m→m.le m'→Inv j s a b m')
  (s0:S) (ca:Option Addr) (cn cc:Nat) (ta:Option Addr) (tn tc:Nat) (m:Mem) (nr:ZxF A g fi cap cb st Inv m) (h:NfR stt A v m) (hb:Byt m ba bs) (dA:Inv 0 s0 (.slice ca cn cc) (.slice ta tn tc) m):
  CXY Try.prog 80 #[v,.slice ba bs.length bc,.bool again,.func (.func g) fi.toArray cap.toArray] m (fun k=>(Tok.mk (.slice ta tn tc) 1).blk=some k) [⟨cb,[.slice ca cn cc],24,1,false,true⟩] [⟨.slice ta tn tc,1⟩]
   (fun v m' css tvs=>v=.int .i64 (A.runE bs.length)∧m.le m'∧∃j a n c a1 n1 c1,css=[[.slice a n c]]∧tvs=[.slice a1 n1 c1]∧Inv j (if A.runE bs.length=0 then A.runL again st bs 0 [-1] (st s0 0 [-1])else s0) (.slice a n c) (.slice a1 n1 c1) m'):=by
 have h':=h
 obtain⟨s,f,x,y,rfl,⟨sa,sc,rfl,hs',fD,jv⟩,⟨fa,fc,vs,rfl,hf,iE,iY,jc⟩,⟨xa,xc,rfl,hx,gz,iG⟩,⟨ya,yc,rfl,hy,eR,jx⟩⟩:=h
 apply ZoO
 unfold ZlY
 intro b m1 bJ _ _ _
 refine Zai (Zm5 A _ m1 (h'.mono bJ)) fun m2 bP=>Zaa (fun h1=>?_) (fun h1=>?_)
 ·have he:A.runE bs.length=171:=by unfold Nf.runE;rw[if_pos (by simpa using h1)]
  rw[he]
  exact⟨by trivial,rfl,Mem.le_trans bJ bP,_,_,_,_,_,_,_,rfl,rfl,ij _ _ _ _ _ _ dA (Mem.le_trans bJ bP)⟩
 have hr:A.right=true:=by simpa using h1
 have hA:=Zg3.1 hr
 have kt:=Mem.le_trans bJ bP
 refine Zaa (fun h2=>?_) (fun h2=>?_)
 ·have h2':4096 < bs.length:=by have:=of_decide_eq_true h2;omega
  have he:A.runE bs.length=3:=by unfold Nf.runE;rw[hr,if_pos h2'];rfl
  rw[he]
  exact⟨by trivial,rfl,kt,_,_,_,_,_,_,_,rfl,rfl,ij _ _ _ _ _ _ dA kt⟩
 have h2':bs.length≤4096:=by have:=of_decide_eq_false h2;omega
 have he:A.runE bs.length=0:=by unfold Nf.runE;rw[if_neg (by rw[hr];simp),if_neg (by omega)]
 rw[he]
 simp only[if_true]
 intro b2 il
 have iy:m.le (m2.add b2 [.int .i64 (-1)]):=Mem.le_trans kt (Mem.le_add il _)
 have fG:rowRd (m2.add b2 [.int .i64 (-1)]) (some ⟨b2,0,none⟩) (ZaM [-1]):=Zj7
 have mQ:A.states [-1]=true:=by
  unfold Nf.states
  rw[Zdz]
  exact⟨by simp,fun x hx=>by rw[List.mem_singleton]at hx;subst hx;unfold Nf.top;omega⟩
 refine Zo0 (nr s0 0 [-1] (some ⟨b2,0,none⟩) 1 ca cn cc ta tn tc _ iy (ij _ _ _ _ _ _ dA iy) fG (by simp) mQ (by omega)) Zo1 ?_
 rintro m3 gZ _ cs a3 n3 c3 ⟨_,cJ,a4,n4,c4,a5,n5,c5,cG,dF,pd⟩
 simp only[List.cons.injEq,Value.slice.injEq,and_true]at dF
 obtain⟨rfl,rfl,rfl⟩:=dF
 obtain rfl:cs=[.slice a4 n4 c4]:=by simpa using cG
 have kE:=Mem.le_trans iy cJ
 refine⟨fun xs css tvs m' q=>∃(k:Nat)(l:List Int)(la:Option Addr)(lc:Nat)(z:S)(a n:_)(c:Nat)(a1:Option Addr)(n1 c1:Nat)(w:Value),k≤bs.length∧xs=[.slice la l.length lc,.int .i64 k]∧css=[[.slice a n c]]∧tvs=[w,.slice a1 n1 c1]∧m.le m'∧Inv (k+1) z (.slice a n c) (.slice a1 n1 c1) m'∧rowRd m' la (ZaM l)∧l.length≤1000000∧A.states l=true∧A.runL again st (bs.drop k) k l z=A.runL again st bs 0 [-1] (st s0 0 [-1])∧q=bs.length - k,
  ⟨_,0,[-1],some ⟨b2,0,none⟩,1,st s0 0 [-1],a4,n4,c4,a3,n3,c3,.slice none 0 0,Nat.zero_le _,rfl,rfl,rfl,kE,pd,fG.mono cJ,by simp,mQ,rfl,rfl⟩,?_⟩
 rintro la ln lc z cs a6 n6 c6 a7 n7 c7 m4 q _ ⟨k,l,la',lc',zz,a,n,c,a1,n1,c1,w,hk,hx,cG,dF,lD,jn,kq,fH,jt,eV,hq⟩
 simp only[List.cons.injEq,Value.slice.injEq,Value.int.injEq,true_and,and_true]at hx
 obtain⟨⟨rfl,rfl,rfl⟩,rfl⟩:=hx
 simp only[List.cons.injEq,and_true]at cG dF
 subst cG
 obtain⟨rfl,dF⟩:=dF
 simp only[Value.slice.injEq]at dF
 obtain⟨rfl,rfl,rfl⟩:=dF
 subst hq
 refine Zaa (fun bM=>?_) (fun cR=>?_)
 ·have bL:k < bs.length:=by have:=of_decide_eq_true bM;omega
  obtain⟨ch,lG⟩:=ZaN bL
  have lx:=hb.2 ch (List.mem_of_getElem? lG)
  rcases(hb.mono lD).1 with h0|⟨bb,bo,wl,sF⟩
  ·rw[h0]at bL;simp at bL
  have sG:m4 bb (bo+k*1)=some (.int .u8 ch):=by
   have:=sF k (.int .u8 ch) (by simp[lG])
   rwa [Nat.mul_one]
  have eJ:IntKind.i64.wrap ((k:Int)+1)=((k+1:Nat):Int):=by rw[ZaA (by omega) (by omega)];rfl
  rw[Zc0 lG,Nf.runL]at eV
  refine⟨bb,bo,wl,⟨by omega,by omega⟩,_,(by rw[Int.toNat_natCast];exact sG),?_⟩
  refine Zam (Ztn A hA hq _ l la lc ch lx m4 (h'.mono lD) kq fH jt) Zd4 ?_
  rintro a8 n8 c8 m5 eA ⟨a8',c8',ua,ku,ub,_⟩
  simp only[Value.slice.injEq]at ua
  obtain⟨rfl,rfl,rfl⟩:=ua
  have lE:=Mem.le_trans lD eA
  have uc:(A.step l ch).length≤448:=Zod _
  have sH:=Zog hA again l ch
  have fin:∀(l2:List Int)(la2:Option Addr)(lc2:Nat)(m6:Mem)(w:Value),l2=A.next again l ch→m.le m6→rowRd m6 la2 (ZaM l2)→l2.length≤1000000→∀(m7:Mem)(cs:List Value)(a9:Option Addr)(n9 c9:Nat),CbR (k+1+1) Inv m6 (st zz (k+1) l2) (.tuple #[]) m7 [cs] [.slice a9 n9 c9]→
    ∃n',n' < bs.length - k∧(fun(xs:List Value) (css:List (List Value)) (tvs:List Value) (m':Mem) (q:Nat)=>∃(k:Nat)(l:List Int)(la:Option Addr)(lc:Nat)(z:S)(a:Option Addr)(n c:Nat)(a1:Option Addr)(n1 c1:Nat)(w:Value),k≤bs.length∧xs=[.slice la l.length lc,.int .i64 k]∧css=[[.slice a n c]]∧tvs=[w,.slice a1 n1 c1]∧m.le m'∧Inv (k+1) z (.slice a n c) (.slice a1 n1 c1) m'∧rowRd m' la (ZaM l)∧l.length≤1000000∧A.states l=true∧A.runL again st (bs.drop k) k l z=A.runL again st bs 0 [-1] (st s0 0 [-1])∧q=bs.length - k) [.slice la2 l2.length lc2,.int .i64 (IntKind.i64.wrap ((k:Int)+1))] [cs] [w,.slice a9 n9 c9] m7 n':=by
   rintro l2 la2 lc2 m6 w rfl wm fC pg m7 cs a9 n9 c9 ⟨_,kX,e1,e2,e3,e4,e5,e6,cG,dF,ph⟩
   simp only[List.cons.injEq,Value.slice.injEq,and_true]at dF
   obtain⟨rfl,rfl,rfl⟩:=dF
   obtain rfl:cs=[.slice e1 e2 e3]:=by simpa using cG
   exact⟨_,by omega,k+1,_,la2,lc2,st zz (k+1) (A.next again l ch),e1,e2,e3,a9,n9,c9,w,bL,by rw[eJ],rfl,rfl,Mem.le_trans wm kX,ph,fC.mono kX,pg,sH,eV,rfl⟩
  refine Zaa (fun lR=>?_) (fun lR=>?_)
  ·have pi:A.next again l ch=-1::A.step l ch:=by unfold Nf.next;rw[lR];rfl
   intro b4 sm
   have cW:rowRd (m5.add b4 [.int .i64 (-1)]) (some ⟨b4,0,none⟩) (ZaM [-1]):=Zj7
   have nD:=Mem.le_add sm [Value.int .i64 (-1)]
   refine Zaa (fun hz=>?_) (fun hz=>?_)
   ·have jR:A.step l ch=[]:=List.eq_nil_of_length_eq_zero (Nat.eq_of_beq_eq_true hz)
    have kB:([-1]:List Int)=A.next again l ch:=by rw[pi,jR]
    rw[eJ]
    refine Zo0 (nr zz (k+1) [-1] (some ⟨b4,0,none⟩) 1 _ _ _ _ _ _ _ (Mem.le_trans lE nD) (ij _ _ _ _ _ _ jn (Mem.le_trans eA nD)) cW (by simp) mQ (by omega)) Zo1 ?_
    rintro m7 pj _ cs a9 n9 c9 pk
    refine⟨by trivial,by trivial,?_⟩
    have:=fin [-1] (some ⟨b4,0,none⟩) 1 _ (Value.slice a6 n6 c6) kB (Mem.le_trans lE nD) cW (by simp) m7 cs a9 n9 c9 pk
    rw[eJ]at this
    exact this
   ·have jR:(A.step l ch).length≠0:=fun e=>by rw[e]at hz;cases hz
    refine⟨.inr (.inr (by show 1 < 1+(A.step l ch).length;omega)),ZaM [-1],ZaM (A.step l ch),rfl,by rw[Zec,Nat.mul_one],cW,ku.mono nD,fun u hu=>?_,by show(1+(A.step l ch).length)*8≤_;omega,by show 1+(A.step l ch).length≤_;omega,fun a' c' m6 i8 wn nC=>?_⟩
    ·obtain⟨i,_,rfl⟩:=List.mem_map.1 hu
     rfl
    have kB:(-1::A.step l ch:List Int)=A.next again l ch:=by rw[pi]
    have qd:(-1::A.step l ch:List Int).length=1+(A.step l ch).length:=by rw[List.length_cons];omega
    have pm:rowRd m6 a' (ZaM (-1::A.step l ch)):=wn
    have ud:m.le m6:=Mem.le_trans lE (Mem.le_trans nD i8)
    have dZ:=nr zz (k+1) (-1::A.step l ch) a' c' _ _ _ _ _ _ m6 ud (ij _ _ _ _ _ _ jn (Mem.le_trans eA (Mem.le_trans nD i8))) pm (by rw[qd];omega) (by rw[kB];exact sH) (by omega)
    rw[qd]at dZ
    rw[eJ]
    refine Zo0 dZ Zo1 ?_
    rintro m7 pj _ cs a9 n9 c9 pk
    refine⟨by trivial,by trivial,?_⟩
    have:=fin (-1::A.step l ch) a' c' m6 (.slice a' (1+(A.step l ch).length) c') kB ud pm (by rw[qd];omega) m7 cs a9 n9 c9 pk
    rw[eJ,qd]at this
    exact this
  ·have pi:A.step l ch=A.next again l ch:=by unfold Nf.next;rw[lR];rfl
   rw[eJ]
   refine Zo0 (nr zz (k+1) (A.step l ch) a8 c8 _ _ _ _ _ _ m5 lE (ij _ _ _ _ _ _ jn eA) ku (by omega) (by rw[pi];exact sH) (by omega)) Zo1 ?_
   rintro m7 pj _ cs a9 n9 c9 pk
   refine⟨by trivial,by trivial,?_⟩
   have:=fin (A.step l ch) a8 c8 m5 (Value.slice a6 n6 c6) pi lE ku (by omega) m7 cs a9 n9 c9 pk
   rw[eJ]at this
   exact this
 ·have:k=bs.length:=by have:=of_decide_eq_false cR;omega
  subst this
  rw[List.drop_length,Nf.runL]at eV
  subst eV
  exact⟨by trivial,by trivial,lD,_,_,_,_,_,_,_,rfl,rfl,jn⟩
end Go.Proofs.Ytplacemlpkhmfaa

