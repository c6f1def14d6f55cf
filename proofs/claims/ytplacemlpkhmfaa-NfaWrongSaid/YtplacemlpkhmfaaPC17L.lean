/- Part of the proof: conditions and contracts of functions of this program. No condition of its own. -/
import Derived.Test.YtplacemlpkhmfaaPC17K
set_option linter.unusedVariables false
set_option linter.unusedSimpArgs false
namespace Go.Proofs.Ytplacemlpkhmfaa
open Go Go.Eng Go.Rx Go.Proofs Go.RowKit
set_option maxRecDepth 100000
theorem ZqD{st:Bool}(A:Nf)(hq:∀q∈A.sets,QOk q)(v:Value)(l:List Int)(a:Option Addr)(c ch:Nat)(lp:ch < 256)(m:Mem)(h:NfR st A v m)(hl:rowRd m a (ZaA l))(eL:l.length≤1000000):
  CX Try.prog 27 #[v,.slice a l.length c,.int .u8 ch] m [] (fun v m' _=>∃w,v=.tuple #[w,.int .i64 (A.err l)]∧SlI true (if A.err l=0 then A.step l ch else[]) w m'):=by
 have h':=h
 obtain⟨s,f,x,y,rfl,⟨sa,sc,rfl,hs',eP,jd⟩,⟨fa,fc,vs,rfl,hf,ie,iE,iM⟩,⟨xa,xc,rfl,hx,gd,hU⟩,⟨ya,yc,rfl,hy,eI,iN⟩⟩:=h
 apply ZjB
 unfold ZgP
 intro b m1 bH hb
 refine ZdM (ZqC A _ l a c m1 (h'.mono bH) (hl.mono bH) eL) fun m2 bN=>Zab (fun h1=>?_) (fun h1=>?_)
 ·have he:A.err l≠0:=by simpa using h1
  refine⟨_,Mem.le_trans bH bN,Mem.le_refl _,_,rfl,?_⟩
  rw[if_neg he]
  exact⟨none,0,rfl,.inl rfl,by simp,fun _ _=>rfl⟩
 ·have he:A.err l=0:=by simpa using h1
  have hr:A.right=true:=by
   unfold Nf.err at he
   cases hr:A.right with
   | true=>rfl
   | false=>rw[hr]at he;simp at he
  have hs:A.states l=true:=by
   unfold Nf.err at he
   cases hs:A.states l with
   | true=>rfl
   | false=>rw[hr,hs]at he;simp at he
  have je:=Mem.le_trans bH bN
  refine Zam (ZsE A (Zfy.1 hr) hq _ l a c ch lp m2 (h'.mono je) (hl.mono je) eL hs) ZfM ?_
  intro a3 n3 c3 m3 cG hR
  refine⟨_,Mem.le_trans je cG,Mem.le_refl _,_,by rw[he],?_⟩
  rw[if_pos he];exact hR
theorem ZkH{P:Program}{g:FuncId}{args:Array Value}{m:Mem}{v0:Value}{xs:List Box}{R0:Value→Mem→List (List Value)→List Value→Prop}{Q:Nat→Prop}{F:Shape}{K:(Nat→Prop)→(Value→Mem→List (List Value)→List Value→Prop)→Prop}(h:CXY P g args m (fun k=>(Tok.mk v0 1).blk=some k) xs [⟨v0,1⟩] R0)(hf:∀v m' css tvs,R0 v m' css tvs→Shape.fits F v=true)(k:K (fun k=>(Tok.mk v0 1).blk=some k) R0):
  ∃(Y1:Nat→Prop) (R:Value→Mem→List (List Value)→List Value→Prop),CXY P g args m Y1 xs [⟨v0,1⟩] R∧(∀t:Tok,t∈[Tok.mk v0 1]→∀b,t.blk=some b→Y1 b)∧(∀b,Y1 b→(∃t:Tok,t∈[Tok.mk v0 1]∧t.blk=some b)∨Q b)∧(∀v m' css tvs,R v m' css tvs→Shape.fits F v=true)∧K Y1 R:=
 ⟨_,_,h,fun t ht b hb=>by rw[List.mem_singleton]at ht;subst ht;exact hb,fun b hb=>.inl ⟨_,List.mem_singleton.2 rfl,hb⟩,hf,k⟩
def CbR{S:Type}(j:Nat)(Inv:Nat→S→Value→Value→Mem→Prop)(m:Mem)(s:S):Value→Mem→List (List Value)→List Value→Prop:=fun v m' css tvs=>
 v=.tuple #[]∧m.le m'∧∃a n c a1 n1 c1,css=[[.slice a n c]]∧tvs=[.slice a1 n1 c1]∧Inv j s (.slice a n c) (.slice a1 n1 c1) m'
def Zw9{S:Type}(A:Nf)(g:FuncId)(fi cap:List Value)(cb:Nat)(st:S→Nat→List Int→S)(Inv:Nat→S→Value→Value→Mem→Prop)(base:Mem):Prop:=
 ∀(s:S)(n:Nat)(l:List Int)(la:Option Addr)(lc:Nat)(ca:Option Addr)(cn cc:Nat)(ta:Option Addr)(tn tc:Nat)(m:Mem),base.le m→Inv n s (.slice ca cn cc) (.slice ta tn tc) m→rowRd m la (ZaA l)→l.length≤1000000→A.states l=true→n≤4096→
  CXY Try.prog g ((fi++([Value.int .i64 (n:Nat),Value.slice la l.length lc]:List Value))++cap).toArray m (fun k=>(Tok.mk (.slice ta tn tc) 1).blk=some k) [⟨cb,[.slice ca cn cc],24,1,false,true⟩] [⟨.slice ta tn tc,1⟩] (CbR (n+1) Inv m (st s n l))
theorem Zol{S:Type}{j:Nat}{Inv:Nat→S→Value→Value→Mem→Prop}{m:Mem}{s:S}:∀v m' css tvs,CbR j Inv m s v m' css tvs→Shape.fits (.tup []) v=true:=by
 rintro v m' css tvs ⟨rfl,_⟩;rfl
theorem ZsF{S:Type}{stt:Bool}(A:Nf)(hq:∀q∈A.sets,QOk q)(v:Value)(bs:List Nat)(ba:Option Addr)(bc:Nat)(again:Bool)(g:FuncId)(fi cap:List Value)(cb:Nat)(st:S→Nat→List Int→S)(Inv:Nat→S→Value→Value→Mem→Prop)(ia:∀j s a b m m',Inv j s a b m→m.le m'→Inv j s a b m')
  (s0:S) (ca:Option Addr) (cn cc:Nat) (ta:Option Addr) (tn tc:Nat) (m:Mem) (mS:Zw9 A g fi cap cb st Inv m) (h:NfR stt A v m) (hb:Byt m ba bs) (cX:Inv 0 s0 (.slice ca cn cc) (.slice ta tn tc) m):
  CXY Try.prog 80 #[v,.slice ba bs.length bc,.bool again,.func (.func g) fi.toArray cap.toArray] m (fun k=>(Tok.mk (.slice ta tn tc) 1).blk=some k) [⟨cb,[.slice ca cn cc],24,1,false,true⟩] [⟨.slice ta tn tc,1⟩]
   (fun v m' css tvs=>v=.int .i64 (A.runE bs.length)∧m.le m'∧∃j a n c a1 n1 c1,css=[[.slice a n c]]∧tvs=[.slice a1 n1 c1]∧Inv j (if A.runE bs.length=0 then A.runL again st bs 0 [-1] (st s0 0 [-1])else s0) (.slice a n c) (.slice a1 n1 c1) m'):=by
 have h':=h
 obtain⟨s,f,x,y,rfl,⟨sa,sc,rfl,hs',eP,jd⟩,⟨fa,fc,vs,rfl,hf,ie,iE,iM⟩,⟨xa,xc,rfl,hx,gd,hU⟩,⟨ya,yc,rfl,hy,eI,iN⟩⟩:=h
 apply ZjC
 unfold Zin
 intro b m1 bH _ _ _
 refine Zaj (Zip A _ m1 (h'.mono bH)) fun m2 bN=>Zab (fun h1=>?_) (fun h1=>?_)
 ·have he:A.runE bs.length=171:=by unfold Nf.runE;rw[if_pos (by simpa using h1)]
  rw[he]
  exact⟨by trivial,rfl,Mem.le_trans bH bN,_,_,_,_,_,_,_,rfl,rfl,ia _ _ _ _ _ _ cX (Mem.le_trans bH bN)⟩
 have hr:A.right=true:=by simpa using h1
 have hA:=Zfy.1 hr
 have je:=Mem.le_trans bH bN
 refine Zab (fun h2=>?_) (fun h2=>?_)
 ·have h2':4096 < bs.length:=by have:=of_decide_eq_true h2;omega
  have he:A.runE bs.length=3:=by unfold Nf.runE;rw[hr,if_pos h2'];rfl
  rw[he]
  exact⟨by trivial,rfl,je,_,_,_,_,_,_,_,rfl,rfl,ia _ _ _ _ _ _ cX je⟩
 have h2':bs.length≤4096:=by have:=of_decide_eq_false h2;omega
 have he:A.runE bs.length=0:=by unfold Nf.runE;rw[if_neg (by rw[hr];simp),if_neg (by omega)]
 rw[he]
 simp only[if_true]
 intro b2 ic
 have il:m.le (m2.add b2 [.int .i64 (-1)]):=Mem.le_trans je (Mem.le_add ic _)
 have eZ:rowRd (m2.add b2 [.int .i64 (-1)]) (some ⟨b2,0,none⟩) (ZaA [-1]):=Zfo
 have jq:A.states [-1]=true:=by
  unfold Nf.states
  rw[Zb9]
  exact⟨by simp,fun x hx=>by rw[List.mem_singleton]at hx;subst hx;unfold Nf.top;omega⟩
 refine ZkH (mS s0 0 [-1] (some ⟨b2,0,none⟩) 1 ca cn cc ta tn tc _ il (ia _ _ _ _ _ _ cX il) eZ (by simp) jq (by omega)) Zol ?_
 rintro m3 fS _ cs a3 n3 c3 ⟨_,cG,a4,n4,c4,a5,n5,c5,cH,dA,oJ⟩
 simp only[List.cons.injEq,Value.slice.injEq,and_true]at dA
 obtain⟨rfl,rfl,rfl⟩:=dA
 obtain rfl:cs=[.slice a4 n4 c4]:=by simpa using cH
 have me:=Mem.le_trans il cG
 refine⟨fun xs css tvs m' q=>∃(k:Nat)(l:List Int)(la:Option Addr)(lc:Nat)(z:S)(a n:_)(c:Nat)(a1:Option Addr)(n1 c1:Nat)(w:Value),k≤bs.length∧xs=[.slice la l.length lc,.int .i64 k]∧css=[[.slice a n c]]∧tvs=[w,.slice a1 n1 c1]∧m.le m'∧Inv (k+1) z (.slice a n c) (.slice a1 n1 c1) m'∧rowRd m' la (ZaA l)∧l.length≤1000000∧A.states l=true∧A.runL again st (bs.drop k) k l z=A.runL again st bs 0 [-1] (st s0 0 [-1])∧q=bs.length - k,
  ⟨_,0,[-1],some ⟨b2,0,none⟩,1,st s0 0 [-1],a4,n4,c4,a3,n3,c3,.slice none 0 0,Nat.zero_le _,rfl,rfl,rfl,me,oJ,eZ.mono cG,by simp,jq,rfl,rfl⟩,?_⟩
 rintro la ln lc z cs a6 n6 c6 a7 n7 c7 m4 q _ ⟨k,l,la',lc',zz,a,n,c,a1,n1,c1,w,hk,hx,cH,dA,ko,jg,kd,eL,jk,eQ,hq⟩
 simp only[List.cons.injEq,Value.slice.injEq,Value.int.injEq,true_and,and_true]at hx
 obtain⟨⟨rfl,rfl,rfl⟩,rfl⟩:=hx
 simp only[List.cons.injEq,and_true]at cH dA
 subst cH
 obtain⟨rfl,dA⟩:=dA
 simp only[Value.slice.injEq]at dA
 obtain⟨rfl,rfl,rfl⟩:=dA
 subst hq
 refine Zab (fun bK=>?_) (fun cS=>?_)
 ·have bJ:k < bs.length:=by have:=of_decide_eq_true bK;omega
  obtain⟨ch,lp⟩:=ZaE bJ
  have lf:=hb.2 ch (List.mem_of_getElem? lp)
  rcases(hb.mono ko).1 with h0|⟨bb,bo,vT,r7⟩
  ·rw[h0]at bJ;simp at bJ
  have r8:m4 bb (bo+k*1)=some (.int .u8 ch):=by
   have:=r7 k (.int .u8 ch) (by simp[lp])
   rwa [Nat.mul_one]
  have eD:IntKind.i64.wrap ((k:Int)+1)=((k+1:Nat):Int):=by rw[Zax (by omega) (by omega)];rfl
  rw[ZcO lp,Nf.runL]at eQ
  refine⟨bb,bo,vT,⟨by omega,by omega⟩,_,(by rw[Int.toNat_natCast];exact r8),?_⟩
  refine Zam (ZsE A hA hq _ l la lc ch lf m4 (h'.mono ko) kd eL jk) ZfM ?_
  rintro a8 n8 c8 m5 dX ⟨a8',c8',tJ,kg,tK,_⟩
  simp only[Value.slice.injEq]at tJ
  obtain⟨rfl,rfl,rfl⟩:=tJ
  have iZ:=Mem.le_trans ko dX
  have tL:(A.step l ch).length≤448:=ZnG _
  have r9:=ZnI hA again l ch
  have fin:∀(l2:List Int)(la2:Option Addr)(lc2:Nat)(m6:Mem)(w:Value),l2=A.next again l ch→m.le m6→rowRd m6 la2 (ZaA l2)→l2.length≤1000000→∀(m7:Mem)(cs:List Value)(a9:Option Addr)(n9 c9:Nat),CbR (k+1+1) Inv m6 (st zz (k+1) l2) (.tuple #[]) m7 [cs] [.slice a9 n9 c9]→
    ∃n',n' < bs.length - k∧(fun(xs:List Value) (css:List (List Value)) (tvs:List Value) (m':Mem) (q:Nat)=>∃(k:Nat)(l:List Int)(la:Option Addr)(lc:Nat)(z:S)(a:Option Addr)(n c:Nat)(a1:Option Addr)(n1 c1:Nat)(w:Value),k≤bs.length∧xs=[.slice la l.length lc,.int .i64 k]∧css=[[.slice a n c]]∧tvs=[w,.slice a1 n1 c1]∧m.le m'∧Inv (k+1) z (.slice a n c) (.slice a1 n1 c1) m'∧rowRd m' la (ZaA l)∧l.length≤1000000∧A.states l=true∧A.runL again st (bs.drop k) k l z=A.runL again st bs 0 [-1] (st s0 0 [-1])∧q=bs.length - k) [.slice la2 l2.length lc2,.int .i64 (IntKind.i64.wrap ((k:Int)+1))] [cs] [w,.slice a9 n9 c9] m7 n':=by
   rintro l2 la2 lc2 m6 w rfl vU eS oK m7 cs a9 n9 c9 ⟨_,lm,e1,e2,e3,e4,e5,e6,cH,dA,oL⟩
   simp only[List.cons.injEq,Value.slice.injEq,and_true]at dA
   obtain⟨rfl,rfl,rfl⟩:=dA
   obtain rfl:cs=[.slice e1 e2 e3]:=by simpa using cH
   exact⟨_,by omega,k+1,_,la2,lc2,st zz (k+1) (A.next again l ch),e1,e2,e3,a9,n9,c9,w,bJ,by rw[eD],rfl,rfl,Mem.le_trans vU lm,oL,eS.mono lm,oK,r9,eQ,rfl⟩
  refine Zab (fun lB=>?_) (fun lB=>?_)
  ·have oM:A.next again l ch=-1::A.step l ch:=by unfold Nf.next;rw[lB];rfl
   intro b4 rN
   have cW:rowRd (m5.add b4 [.int .i64 (-1)]) (some ⟨b4,0,none⟩) (ZaA [-1]):=Zfo
   have na:=Mem.le_add rN [Value.int .i64 (-1)]
   refine Zab (fun hz=>?_) (fun hz=>?_)
   ·have jJ:A.step l ch=[]:=List.eq_nil_of_length_eq_zero (Nat.eq_of_beq_eq_true hz)
    have kZ:([-1]:List Int)=A.next again l ch:=by rw[oM,jJ]
    rw[eD]
    refine ZkH (mS zz (k+1) [-1] (some ⟨b4,0,none⟩) 1 _ _ _ _ _ _ _ (Mem.le_trans iZ na) (ia _ _ _ _ _ _ jg (Mem.le_trans dX na)) cW (by simp) jq (by omega)) Zol ?_
    rintro m7 oN _ cs a9 n9 c9 oO
    refine⟨by trivial,by trivial,?_⟩
    have:=fin [-1] (some ⟨b4,0,none⟩) 1 _ (Value.slice a6 n6 c6) kZ (Mem.le_trans iZ na) cW (by simp) m7 cs a9 n9 c9 oO
    rw[eD]at this
    exact this
   ·have jJ:(A.step l ch).length≠0:=fun e=>by rw[e]at hz;cases hz
    refine⟨.inr (.inr (by show 1 < 1+(A.step l ch).length;omega)),ZaA [-1],ZaA (A.step l ch),rfl,by rw[Zch,Nat.mul_one],cW,kg.mono na,fun u hu=>?_,by show(1+(A.step l ch).length)*8≤_;omega,by show 1+(A.step l ch).length≤_;omega,fun a' c' m6 gu vV mU=>?_⟩
    ·obtain⟨i,_,rfl⟩:=List.mem_map.1 hu
     rfl
    have kZ:(-1::A.step l ch:List Int)=A.next again l ch:=by rw[oM]
    have pO:(-1::A.step l ch:List Int).length=1+(A.step l ch).length:=by rw[List.length_cons];omega
    have oP:rowRd m6 a' (ZaA (-1::A.step l ch)):=vV
    have tM:m.le m6:=Mem.le_trans iZ (Mem.le_trans na gu)
    have dW:=mS zz (k+1) (-1::A.step l ch) a' c' _ _ _ _ _ _ m6 tM (ia _ _ _ _ _ _ jg (Mem.le_trans dX (Mem.le_trans na gu))) oP (by rw[pO];omega) (by rw[kZ];exact r9) (by omega)
    rw[pO]at dW
    rw[eD]
    refine ZkH dW Zol ?_
    rintro m7 oN _ cs a9 n9 c9 oO
    refine⟨by trivial,by trivial,?_⟩
    have:=fin (-1::A.step l ch) a' c' m6 (.slice a' (1+(A.step l ch).length) c') kZ tM oP (by rw[pO];omega) m7 cs a9 n9 c9 oO
    rw[eD,pO]at this
    exact this
  ·have oM:A.step l ch=A.next again l ch:=by unfold Nf.next;rw[lB];rfl
   rw[eD]
   refine ZkH (mS zz (k+1) (A.step l ch) a8 c8 _ _ _ _ _ _ m5 iZ (ia _ _ _ _ _ _ jg dX) kg (by omega) (by rw[oM];exact r9) (by omega)) Zol ?_
   rintro m7 oN _ cs a9 n9 c9 oO
   refine⟨by trivial,by trivial,?_⟩
   have:=fin (A.step l ch) a8 c8 m5 (Value.slice a6 n6 c6) oM iZ kg (by omega) m7 cs a9 n9 c9 oO
   rw[eD]at this
   exact this
 ·have:k=bs.length:=by have:=of_decide_eq_false cS;omega
  subst this
  rw[List.drop_length,Nf.runL]at eQ
  subst eQ
  exact⟨by trivial,by trivial,ko,_,_,_,_,_,_,_,rfl,rfl,jg⟩
end Go.Proofs.Ytplacemlpkhmfaa

