/- Part of the proof: conditions and contracts of functions of this program. No condition of its own. -/
import Derived.Test.YtplacemlpkhmfaaPVF
import Derived.Test.YtplacemlpkhmfaaPC13I
set_option linter.unusedVariables false
set_option linter.unusedSimpArgs false
set_option linter.unusedSectionVars false
namespace Go.Proofs.Ytplacemlpkhmfaa
open Go Go.Eng Go.Rx Go.Proofs Go.RowKit
set_option maxRecDepth 100000
structure Sm (m:Mem)(a:Option Addr)(l:List (Nat×Nat×Nat)):Prop where
 len:l.length≤9223372036854775807
 byte:∀s∈l,s.1 < 256∧s.2.1 < 256∧s.2.2 < 256
 at':∀i s,l[i]?=some s→∃b o,a=some ⟨b,o,none⟩∧m.reads b (o+i*3) [.int .u8 s.1,.int .u8 s.2.1,.int .u8 s.2.2]
theorem Sm.mono{m m':Mem}{a l}(h:Sm m a l)(hm:m.le m'):Sm m' a l:=
 ⟨h.len,h.byte,fun i s hi=>by obtain⟨b,o,h1,h2⟩:=h.at' i s hi;exact⟨b,o,h1,h2.mono hm⟩⟩
theorem ZoH(n:Nat):(([[97],[98],[97,98],[97],[98],[99],[97,98,99],[98,99],[10],[0,255],[97],[98]][n % 12]?).getD []:List Nat).length≤100000:=by
 have h:n % 12=0∨n % 12=1∨n % 12=2∨n % 12=3∨n % 12=4∨n % 12=5∨n % 12=6∨n % 12=7∨n % 12=8∨n % 12=9∨n % 12=10∨n % 12=11:=by omega
 rcases h with e|e|e|e|e|e|e|e|e|e|e|e <;> rw[e] <;> decide
theorem Zvp:∀L < 3,∀Mo < 4,((Mo < L∨Mo=0∨(L=1∧Mo=1))→Zcm (L:Nat) (-1)=true∧ZtS (L:Nat) (-1)≤((max 1 L:Nat):Int))∧(¬(Mo < L∨Mo=0∨(L=1∧Mo=1))→Zcm (L:Nat) (Mo:Nat)=true∧ZtS (L:Nat) (Mo:Nat)≤((max 1 (max L Mo):Nat):Int)):=by
 intro L hL Mo hM
 have h1:L=0∨L=1∨L=2:=by omega
 have h2:Mo=0∨Mo=1∨Mo=2∨Mo=3:=by omega
 rcases h1 with rfl|rfl|rfl <;> rcases h2 with rfl|rfl|rfl|rfl <;> exact⟨fun _=>by first|exact⟨by decide,by decide⟩|omega,fun _=>by first|exact⟨by decide,by decide⟩|omega⟩
theorem Ztg(l:List (Nat×Nat×Nat))(a:Option Addr)(c:Nat)(m:Mem)(hl:Sm m a l)(hc:l.length≤c):CX Try.prog 15 #[.slice a l.length c] m [] (Zgo (fun t=>t.check=0)):=by
 apply ZkV
 unfold Zg7
 have bO:=hl.len
 intro b
 have hN:(if(25:Int) < (l.length:Int)then(25:Int)else(l.length:Int))=((min 25 l.length:Nat):Int):=by split <;> omega
 simp only[hN,Int.toNat_natCast,Nat.sub_zero]
 generalize pZ:min 25 l.length=N
 refine⟨⟨by omega,by omega⟩,fun xs css tvs m' q=>∃(i:Nat)(ts:List T)(a:Option Addr)(c:Nat)(u g:Nat)(mb:Mem),i≤N∧xs=[.slice a ts.length c,.int .i64 u,.int .i64 g,.int .i64 i]∧tvs=[.slice a ts.length c]∧ts.length≤c∧m.le mb∧mb.le m'∧Apart mb a∧rowRd m' a (Rx.Zco ts)∧(∀t∈ts,Rep mb t)∧J i ts u g∧q=N - i,⟨N,0,[],none,0,1,0,m,by omega,rfl,rfl,by simp,Mem.le_refl _,Mem.le_refl _,.inl rfl,.inl rfl,by simp,J.zero,by omega⟩,?_⟩
 rintro a1 n1 c1 z1 z2 z3 a2 n2 c2 m1 q _ ⟨i,ts,a',c',u,g,mb,hi,eG,dF,cX,iR,eX,fF,bQ,cK,hJ,hq⟩
 simp only[List.cons.injEq,Value.slice.injEq,Value.int.injEq,true_and,and_true]at eG dF
 obtain⟨⟨rfl,rfl,rfl⟩,rfl,rfl,rfl⟩:=eG
 obtain⟨rfl,rfl,rfl⟩:=dF
 have gf:ts.length≤25:=by have:=hJ.sz;have:=Zn5 ts;omega
 refine Zaa (fun bM=>?_) (fun cR=>?_)
 ·have vD:i < N:=by have:=of_decide_eq_true bM;omega
  have hi':i < l.length:=by omega
  obtain⟨s,hs⟩:=Zie hi'
  obtain⟨bs,os,ha,cQ⟩:=(hl.mono (Mem.le_trans iR eX)).at' i s hs
  obtain⟨s1,s2,s3⟩:=s
  obtain⟨rU,gj,pR⟩:=hl.byte _ (List.mem_of_getElem? hs)
  have hw:IntKind.i64.wrap ((i:Int)+1)=((i+1:Nat):Int):=by rw[ZaA (by omega) (by omega)];rfl
  have rV:Int.tmod (intOf (Value.int .u8 (s1:Nat))) 12=((s1 % 12:Nat):Int):=rfl
  simp only[hw,Int.toNat_natCast]
  refine⟨bs,os,ha,⟨by omega,by omega⟩,_,_,_,cQ,fun b2=>Zab rfl (Zab rfl ⟨by omega,?_⟩)⟩
  simp only[rV]
  refine Zaa (fun h1=>?_) (fun h1=>Zaa (fun h2=>?_) (fun h2=>?_))
  ·refine Zam (Zp5 s2 gj m1) (fun v _ _ ⟨s,e,_⟩=>by rw[e];rfl) ?_
   rintro str m2 bP ⟨s',hv,hb⟩
   cases hv
   refine Zam (ZoG str (by rw[hb];unfold Zd0;exact ZoH _) m2) Zba (ZdF fun t m3 cJ hr ht b3 nu=>?_)
   rw[hb]at ht
   have gZ:=Mem.le_trans bP (Mem.le_trans cJ (Mem.le_add nu t.cs))
   obtain⟨k1,k2,k3,k4⟩:=ZqS s2
   refine⟨.inl trivial,Rx.Zco ts,t.cs,Zau _,rfl,bQ.mono (gZ),.inr ⟨b3,0,rfl,fun j v hj=>by rw[Nat.zero_add,Mem.add_same];exact hj⟩,by rw[←Zby];exact ZeQ _,by omega,by omega,fun a4 c4 m4 cY cW cE=>⟨by trivial,N - (i+1),by omega,i+1,ts++[t],a4,c4,u,g,mb,by omega,?_,?_,by have:=cE.1;rw[List.length_append];exact this,iR,Mem.le_trans eX (Mem.le_trans (gZ) cY),fF.tok (Mem.le_trans eX (gZ)) cE,?_,?_,?_,by omega⟩⟩
   ·rw[List.length_append];rfl
   ·rw[List.length_append];rfl
   ·rw[ZaQ,Zby];exact cW
   ·intro x hx
    rcases List.mem_append.1 hx with hx|hx
    ·exact cK x hx
    ·simp at hx;subst hx;exact(by rw[ht];exact Zn4 _ _)
   ·rw[ht];exact hJ.push k1 k2 k3 k4
  ·intro b3 nu
   have gZ:=Mem.le_add nu T1.cs
   refine⟨.inl trivial,Rx.Zco ts,T1.cs,Zau _,rfl,bQ.mono (gZ),.inr ⟨b3,0,rfl,fun j v hj=>by rw[Nat.zero_add,Mem.add_same];exact hj⟩,by rw[←Zby];exact ZeQ _,by omega,by omega,fun a4 c4 m4 cY cW cE=>⟨by trivial,N - (i+1),by omega,i+1,ts++[T1],a4,c4,u,g,mb,by omega,?_,?_,by have:=cE.1;rw[List.length_append];exact this,iR,Mem.le_trans eX (Mem.le_trans (gZ) cY),fF.tok (Mem.le_trans eX (gZ)) cE,?_,?_,?_,by omega⟩⟩
   ·rw[List.length_append];rfl
   ·rw[List.length_append];rfl
   ·rw[ZaQ,Zby];exact cW
   ·intro x hx
    rcases List.mem_append.1 hx with hx|hx
    ·exact cK x hx
    ·simp at hx;subst hx;exact ZpH _
   ·exact hJ.push Zu7.1 Zu7.2.1 Zu7.2.2.1 Zu7.2.2.2
  ·refine⟨decide (s1 % 12 < 7)&&decide (1 < ts.length),Zaa (fun h3=>⟨by trivial,by trivial,?_⟩) (fun h3=>⟨by trivial,by trivial,?_⟩),Zaa (fun h3=>?_) (fun h3=>?_)⟩
   ·refine Zay ?_
    rw[Bool.eq_iff_iff];simp;have:=of_decide_eq_true h3;omega
   ·refine Zay ?_
    rw[eq_comm,Bool.and_eq_false_iff];left;have:=of_decide_eq_false h3;exact decide_eq_false (by omega)
   ·skip
    obtain⟨r,x,y,rfl⟩:=ZwX (ts:=ts) (by simp at h3;omega)
    have hO:(r++[x,y]).length=r.length+2:=by simp
    have eH:IntKind.i64.wrap (((r++[x,y]).length:Int) - 2)=(r.length:Int):=by rw[hO,ZaA (by omega) (by omega)];omega
    have eJ:IntKind.i64.wrap (((r++[x,y]).length:Int) - 1)=((r.length+1:Nat):Int):=by rw[hO,ZaA (by omega) (by omega)];omega
    simp only[eH,eJ,Int.toNat_natCast,Nat.sub_zero]
    obtain⟨bb,ig,j9,o',u',hu'⟩:=fF.base bQ (by simp)
    obtain⟨bx,ox,kU,ka⟩:=Zc2 bQ (i:=r.length) (t:=x) (by simp)
    obtain⟨by',oy,rW,jH⟩:=Zc2 bQ (i:=r.length+1) (t:=y) (by simp)
    have rX:(ZbU 3 x).length≤10000:=by
     have:=hJ.sz
     rw[ZaU,show szL [x,y]=szL ([x]++[y]) from rfl,ZaU,ZbT,ZbT]at this
     have:=Zff (k:=3) (t:=x)
     omega
    have rY:(ZbU 3 y).length≤10000:=by
     have:=hJ.sz
     rw[ZaU,show szL [x,y]=szL ([x]++[y]) from rfl,ZaU,ZbT,ZbT]at this
     have:=Zff (k:=3) (t:=y)
     omega
    refine⟨fun _ _ _=>Zpe mb m1 (fun r=>∃a c,r=Zhi 3 a c (ZbU 3 x++ZbU 3 y)),⟨by omega,by omega⟩,⟨by omega,by omega⟩,bx,ox,kU,⟨by omega,by omega⟩,_,_,_,_,_,_,_,_,ka,by',oy,rW,⟨by omega,by omega⟩,_,_,_,_,_,_,_,_,jH,Zpe mb m1 (fun r=>∃a c,r=Zhi 3 a c (ZbU 3 x++ZbU 3 y)),rfl,(Zm4 3 x y (by omega) mb (cK x (by simp)) (cK y (by simp)) rX rY).frame2 eX,ZdT,ZjX fun t m0 m3 cJ h0 kb cZ ii ht b6 ly=>?_⟩
    obtain⟨at',ct,ht⟩:=ht
    have iw:=Mem.le_add ly t.cs
    have gv:Apart m0 _:=.inr ⟨bb,ig,fun o=>by rw[cZ bb o' u' hu' o];exact j9 o⟩
    refine⟨.inr (.inr (by omega)),Rx.Zco r,t.cs,Zau _,rfl,((Zrd bQ).mono cJ).mono iw,.inr ⟨b6,0,rfl,fun j v hj=>by rw[Nat.zero_add,Mem.add_same];exact hj⟩,by rw[←Zby];exact ZeQ _,by omega,by omega,fun a4 c4 m4 cY cW cE M gC fJ ju jI=>⟨by trivial,N - (i+1),by omega,i+1,r++[t],a4,c4,u,g,m0,by omega,?_,?_,by have:=cE.1;rw[List.length_append];exact this,Mem.le_trans iR h0,Mem.le_trans kb fJ,gv.tok (Mem.le_trans kb iw) cE,?_,?_,?_,by omega⟩⟩
    ·rw[List.length_append];rfl
    ·rw[List.length_append];rfl
    ·rw[ZaQ,Zby];exact cW.mono jI
    ·intro z hz
     rcases List.mem_append.1 hz with hz|hz
     ·exact(cK z (by simp[hz])).mono h0
     ·simp at hz;subst hz;exact ii
    ·rw[ht];exact hJ.join (by omega) (by omega) _ _
   ·refine⟨decide (s1 % 12 < 9)&&decide (1 < ts.length),Zaa (fun h4=>⟨by trivial,by trivial,?_⟩) (fun h4=>⟨by trivial,by trivial,?_⟩),Zaa (fun h4=>?_) (fun h4=>?_)⟩
    ·refine Zay ?_
     rw[Bool.eq_iff_iff];simp;have:=of_decide_eq_true h4;omega
    ·refine Zay ?_
     rw[eq_comm,Bool.and_eq_false_iff];left;have:=of_decide_eq_false h4;exact decide_eq_false (by omega)
    ·skip
     obtain⟨r,x,y,rfl⟩:=ZwX (ts:=ts) (by simp at h4;omega)
     have hO:(r++[x,y]).length=r.length+2:=by simp
     have eH:IntKind.i64.wrap (((r++[x,y]).length:Int) - 2)=(r.length:Int):=by rw[hO,ZaA (by omega) (by omega)];omega
     have eJ:IntKind.i64.wrap (((r++[x,y]).length:Int) - 1)=((r.length+1:Nat):Int):=by rw[hO,ZaA (by omega) (by omega)];omega
     simp only[eH,eJ,Int.toNat_natCast,Nat.sub_zero]
     obtain⟨bb,ig,j9,o',u',hu'⟩:=fF.base bQ (by simp)
     obtain⟨bx,ox,kU,ka⟩:=Zc2 bQ (i:=r.length) (t:=x) (by simp)
     obtain⟨by',oy,rW,jH⟩:=Zc2 bQ (i:=r.length+1) (t:=y) (by simp)
     have rX:(ZbU 4 x).length≤10000:=by
      have:=hJ.sz
      rw[ZaU,show szL [x,y]=szL ([x]++[y]) from rfl,ZaU,ZbT,ZbT]at this
      have:=Zff (k:=4) (t:=x)
      omega
     have rY:(ZbU 4 y).length≤10000:=by
      have:=hJ.sz
      rw[ZaU,show szL [x,y]=szL ([x]++[y]) from rfl,ZaU,ZbT,ZbT]at this
      have:=Zff (k:=4) (t:=y)
      omega
     refine⟨fun _ _ _=>Zpe mb m1 (fun r=>∃a c,r=Zhi 4 a c (ZbU 4 x++ZbU 4 y)),⟨by omega,by omega⟩,⟨by omega,by omega⟩,bx,ox,kU,⟨by omega,by omega⟩,_,_,_,_,_,_,_,_,ka,by',oy,rW,⟨by omega,by omega⟩,_,_,_,_,_,_,_,_,jH,Zpe mb m1 (fun r=>∃a c,r=Zhi 4 a c (ZbU 4 x++ZbU 4 y)),rfl,(Zm4 4 x y (by omega) mb (cK x (by simp)) (cK y (by simp)) rX rY).frame2 eX,ZdT,ZjX fun t m0 m3 cJ h0 kb cZ ii ht b6 ly=>?_⟩
     obtain⟨at',ct,ht⟩:=ht
     have iw:=Mem.le_add ly t.cs
     have gv:Apart m0 _:=.inr ⟨bb,ig,fun o=>by rw[cZ bb o' u' hu' o];exact j9 o⟩
     refine⟨.inr (.inr (by omega)),Rx.Zco r,t.cs,Zau _,rfl,((Zrd bQ).mono cJ).mono iw,.inr ⟨b6,0,rfl,fun j v hj=>by rw[Nat.zero_add,Mem.add_same];exact hj⟩,by rw[←Zby];exact ZeQ _,by omega,by omega,fun a4 c4 m4 cY cW cE M gC fJ ju jI=>⟨by trivial,N - (i+1),by omega,i+1,r++[t],a4,c4,u,g,m0,by omega,?_,?_,by have:=cE.1;rw[List.length_append];exact this,Mem.le_trans iR h0,Mem.le_trans kb fJ,gv.tok (Mem.le_trans kb iw) cE,?_,?_,?_,by omega⟩⟩
     ·rw[List.length_append];rfl
     ·rw[List.length_append];rfl
     ·rw[ZaQ,Zby];exact cW.mono jI
     ·intro z hz
      rcases List.mem_append.1 hz with hz|hz
      ·exact(cK z (by simp[hz])).mono h0
      ·simp at hz;subst hz;exact ii
     ·rw[ht];exact hJ.join (by omega) (by omega) _ _
    ·refine⟨decide (s1 % 12=9)&&(decide (0 < ts.length)&&decide (g < 9)),Zaa (fun h5=>Zaa (fun h6=>⟨by trivial,by trivial,?_⟩) (fun h6=>⟨by trivial,by trivial,?_⟩)) (fun h5=>⟨by trivial,by trivial,?_⟩),Zaa (fun h5=>?_) (fun h5=>?_)⟩
     ·refine Zay ?_
      have e1:=of_decide_eq_true h6
      have e2:s1 % 12=9:=by have:=h5;simp at this;omega
      rw[decide_eq_true e2,decide_eq_true (show 0 < ts.length by omega),Bool.true_and,Bool.true_and,Bool.eq_iff_iff];simp;omega
     ·refine Zay ?_
      have e1:=of_decide_eq_false h6
      rw[decide_eq_false (show ¬0 < ts.length by omega)];simp
     ·refine Zay ?_
      have e2:¬s1 % 12=9:=by have:=h5;simp at this;omega
      rw[decide_eq_false e2];rfl
     ·
      have vE:g < 9:=by simp at h5;omega
      skip
      obtain⟨r,x,rfl⟩:=ZwY (ts:=ts) (by simp at h5;omega)
      have hO:(r++[x]).length=r.length+1:=by simp
      have eJ:IntKind.i64.wrap (((r++[x]).length:Int) - 1)=(r.length:Int):=by rw[hO,ZaA (by omega) (by omega)];omega
      obtain⟨bb,ig,j9,o',u',hu'⟩:=fF.base bQ (by simp)
      subst ig
      obtain⟨bx,ox,kU,ka⟩:=Zc2 bQ (i:=r.length) (t:=x) (by simp)
      cases kU
      have vF:IntKind.i64.wrap ((g:Int)+1)=((g+1:Nat):Int):=by rw[ZaA (by omega) (by omega)];rfl
      simp only[eJ,vF,Int.toNat_natCast]
      refine⟨_,_,rfl,⟨by omega,by omega⟩,_,_,_,_,_,_,_,_,ka,Zam ((Zua x mb (cK x (by simp))).frame2 eX) (ZdT (mb:=mb) (M0:=m1)) (ZjX fun t m0 m3 cJ h0 kb cZ ii ht=>?_)⟩
      obtain⟨at',ct,ht⟩:=ht
      have gv:m0.free bb:=fun o=>by rw[cZ bb o' u' hu' o];exact j9 o
      refine⟨bb,0,rfl,⟨by omega,by omega⟩,rfl,by omega,by trivial,N - (i+1),by omega,i+1,r++[t],_,_,u,g+1,m0,by omega,?_,?_,by rw[List.length_append];rw[hO]at cX;exact cX,Mem.le_trans iR h0,Mem.le_upd kb gv _ _,.inr ⟨bb,rfl,gv⟩,Zre (bQ.mono cJ),?_,?_,by omega⟩
      ·rw[hO,List.length_append];rfl
      ·rw[hO,List.length_append];rfl
      ·intro z hz
       rcases List.mem_append.1 hz with hz|hz
       ·exact(cK z (by simp[hz])).mono h0
       ·simp at hz;subst hz;exact ii
      ·rw[ht];exact hJ.group vE _ _
     ·by_cases h0:0 < ts.length
      ·skip
       obtain⟨r,x,rfl⟩:=ZwY (ts:=ts) (by exact h0)
       have hO:(r++[x]).length=r.length+1:=by simp
       have eJ:IntKind.i64.wrap (((r++[x]).length:Int) - 1)=(r.length:Int):=by rw[hO,ZaA (by omega) (by omega)];omega
       obtain⟨bb,ig,j9,o',u',hu'⟩:=fF.base bQ (by simp)
       subst ig
       obtain⟨bx,ox,kU,ka⟩:=Zc2 bQ (i:=r.length) (t:=x) (by simp)
       cases kU
       have vG:IntKind.i64.wrap (Int.tmod (intOf (Value.int .u8 (s2:Nat))) 3)=((s2 % 3:Nat):Int):=by
        rw[show Int.tmod (intOf (Value.int .u8 (s2:Nat))) 3=((s2 % 3:Nat):Int) from rfl,ZaA (by omega) (by omega)]
       have vH:IntKind.i64.wrap (Int.tmod (intOf (Value.int .u8 (s3:Nat))) 4)=((s3 % 4:Nat):Int):=by
        rw[show Int.tmod (intOf (Value.int .u8 (s3:Nat))) 4=((s3 % 4:Nat):Int) from rfl,ZaA (by omega) (by omega)]
       simp only[eJ,vG,vH,Int.toNat_natCast]
       have vI:s2 % 3 < 3:=by omega
       have jI:s3 % 4 < 4:=by omega
       generalize s2 % 3=L at *
       generalize s3 % 4=Mo at *
       refine⟨decide (9 < s1 % 12)&&!(x.k == 1),Zaa (fun h6=>Zaa (fun h7=>⟨_,_,rfl,⟨by omega,by omega⟩,.int .u8 x.k,ka 0 _ rfl,Zab rfl ⟨by trivial,by trivial,?_⟩⟩) (fun h7=>absurd h7 (by simp))) (fun h6=>⟨by trivial,by trivial,?_⟩),Zaa (fun h6=>Zab rfl ⟨by omega,Zab rfl ⟨by omega,?_⟩⟩) (fun h6=>⟨by trivial,N - (i+1),by omega,i+1,r++[x],_,_,u,g,mb,by omega,rfl,rfl,cX,iR,eX,fF,bQ,cK,hJ.skip,by omega⟩)⟩
       ·refine Zay ?_
        have:=of_decide_eq_true h6
        rw[decide_eq_true (show 9 < s1 % 12 by omega),Bool.true_and];rfl
       ·refine Zay ?_
        have:=of_decide_eq_false h6
        rw[decide_eq_false (show ¬9 < s1 % 12 by omega)];rfl
       ·have jq:x.k≠1:=by
         rw[Bool.and_eq_true]at h6
         simpa using h6.2
        obtain⟨tab1,tab2⟩:=Zvp L vI Mo jI
        refine⟨decide (Mo < L∨Mo=0∨(L=1∧Mo=1)),Zaa (fun g1=>⟨by trivial,by trivial,Zay ?_⟩) (fun g1=>Zaa (fun g2=>⟨by trivial,by trivial,Zay ?_⟩) (fun g2=>Zaa (fun g3=>⟨by trivial,by trivial,Zay ?_⟩) (fun g3=>⟨by trivial,by trivial,Zay ?_⟩))),Zaa (fun g4=>?_) (fun g4=>?_)⟩
        ·have:=of_decide_eq_true g1
         exact(decide_eq_true (by omega)).symm
        ·have:Mo=0:=by simp at g2;omega
         exact(decide_eq_true (by omega)).symm
        ·have e1:=of_decide_eq_false g1
         have e2:¬Mo=0:=by simp at g2;omega
         have e3:L=1:=by simp at g3;omega
         rw[Bool.eq_iff_iff];simp;omega
        ·have e1:=of_decide_eq_false g1
         have e2:¬Mo=0:=by simp at g2;omega
         have e3:¬L=1:=by simp at g3;omega
         exact(decide_eq_false (by omega)).symm
        ·
         have hA:(if(1:Int) > (if(-1:Int) > (L:Int)then(-1:Int)else(L:Int))then(1:Int)else(if(-1:Int) > (L:Int)then(-1:Int)else(L:Int)))=((max 1 L:Nat):Int):=by
          split <;> split <;> omega
         obtain⟨tb,tp⟩:=tab1 (of_decide_eq_true g4)
         have oM:u*max 1 L≤48:=by have:=Nat.mul_le_mul hJ.u16 (show max 1 L≤3 by omega);omega
         have rZ:IntKind.i64.wrap ((u:Int)*((max 1 L:Nat):Int))=((u*max 1 L:Nat):Int):=by rw[←Int.natCast_mul];exact ZaA (by omega) (by omega)
         simp only[hA,rZ]
         refine Zaa (fun g5=>?_) (fun g5=>⟨by trivial,N - (i+1),by omega,i+1,r++[x],_,_,u,g,mb,by omega,rfl,rfl,cX,iR,eX,fF,bQ,cK,hJ.skip,by omega⟩)
         have mF:u*max 1 L≤16:=by have:=of_decide_eq_true g5;omega
         refine⟨_,_,rfl,⟨by omega,by omega⟩,_,_,_,_,_,_,_,_,ka,Zam ((Zvo x (L:Nat) (-1:Int) ⟨by omega,by omega⟩ ⟨by omega,by omega⟩ mb (cK x (by simp))).frame2 eX) (ZdT (mb:=mb) (M0:=m1)) (ZjX fun t m0 m3 cJ h0 kb cZ ii ht=>?_)⟩
         obtain⟨at',ct,ht⟩:=ht
         have gv:m0.free bb:=fun o=>by rw[cZ bb o' u' hu' o];exact j9 o
         refine⟨bb,0,rfl,⟨by omega,by omega⟩,rfl,by omega,by trivial,N - (i+1),by omega,i+1,r++[t],_,_,u*max 1 L,g,m0,by omega,?_,?_,by rw[List.length_append];rw[hO]at cX;exact cX,Mem.le_trans iR h0,Mem.le_upd kb gv _ _,.inr ⟨bb,rfl,gv⟩,Zre (bQ.mono cJ),?_,?_,by omega⟩
         ·rw[hO,List.length_append];rfl
         ·rw[hO,List.length_append];rfl
         ·intro z hz
          rcases List.mem_append.1 hz with hz|hz
          ·exact(cK z (by simp[hz])).mono h0
          ·simp at hz;subst hz;exact ii
         ·rw[ht];exact hJ.rep jq tb tp (by omega) mF _ _
        ·
         have hA:(if(1:Int) > (if((Mo:Int)) > (L:Int)then((Mo:Int))else(L:Int))then(1:Int)else(if((Mo:Int)) > (L:Int)then((Mo:Int))else(L:Int)))=((max 1 (max L Mo):Nat):Int):=by
          split <;> split <;> omega
         obtain⟨tb,tp⟩:=tab2 (of_decide_eq_false g4)
         have oM:u*max 1 (max L Mo)≤48:=by have:=Nat.mul_le_mul hJ.u16 (show max 1 (max L Mo)≤3 by omega);omega
         have rZ:IntKind.i64.wrap ((u:Int)*((max 1 (max L Mo):Nat):Int))=((u*max 1 (max L Mo):Nat):Int):=by rw[←Int.natCast_mul];exact ZaA (by omega) (by omega)
         simp only[hA,rZ]
         refine Zaa (fun g5=>?_) (fun g5=>⟨by trivial,N - (i+1),by omega,i+1,r++[x],_,_,u,g,mb,by omega,rfl,rfl,cX,iR,eX,fF,bQ,cK,hJ.skip,by omega⟩)
         have mF:u*max 1 (max L Mo)≤16:=by have:=of_decide_eq_true g5;omega
         refine⟨_,_,rfl,⟨by omega,by omega⟩,_,_,_,_,_,_,_,_,ka,Zam ((Zvo x (L:Nat) ((Mo:Int)) ⟨by omega,by omega⟩ ⟨by omega,by omega⟩ mb (cK x (by simp))).frame2 eX) (ZdT (mb:=mb) (M0:=m1)) (ZjX fun t m0 m3 cJ h0 kb cZ ii ht=>?_)⟩
         obtain⟨at',ct,ht⟩:=ht
         have gv:m0.free bb:=fun o=>by rw[cZ bb o' u' hu' o];exact j9 o
         refine⟨bb,0,rfl,⟨by omega,by omega⟩,rfl,by omega,by trivial,N - (i+1),by omega,i+1,r++[t],_,_,u*max 1 (max L Mo),g,m0,by omega,?_,?_,by rw[List.length_append];rw[hO]at cX;exact cX,Mem.le_trans iR h0,Mem.le_upd kb gv _ _,.inr ⟨bb,rfl,gv⟩,Zre (bQ.mono cJ),?_,?_,by omega⟩
         ·rw[hO,List.length_append];rfl
         ·rw[hO,List.length_append];rfl
         ·intro z hz
          rcases List.mem_append.1 hz with hz|hz
          ·exact(cK z (by simp[hz])).mono h0
          ·simp at hz;subst hz;exact ii
         ·rw[ht];exact hJ.rep jq tb tp (by omega) mF _ _
      ·refine⟨false,Zaa (fun h6=>Zaa (fun h7=>absurd (of_decide_eq_true h7) (by omega)) (fun h7=>⟨by trivial,by trivial,rfl⟩)) (fun h6=>⟨by trivial,by trivial,rfl⟩),Zrq rfl ⟨by trivial,N - (i+1),by omega,i+1,ts,_,_,u,g,mb,by omega,rfl,rfl,cX,iR,eX,fF,bQ,cK,hJ.skip,by omega⟩⟩
 ·have vD:i=N:=by have:=of_decide_eq_false cR;omega
  have bJ:=Mem.le_trans iR eX
  refine Zaa (fun h0=>?_) (fun h0=>?_)
  ·have r5:(Zfq ⟨#[97]⟩)=Zd0 0:=by rfl
   refine Zam (ZoG ⟨#[97]⟩ (by decide) m1) Zba (ZdF fun t m2 bP hr ht=>ZjJ (Mem.le_trans bJ bP) ⟨t,rfl,hr,?_⟩)
   rw[r5]at ht
   obtain⟨k1,k2,k3,k4⟩:=ZqS 0
   rw[←ht]at k1 k2 k3 k4
   exact F.done (l:=[]) ⟨k1,by simp,by simp[szL,Zax,k2],by simp[Zdx];omega,by simp[grL,Zax,k4]⟩
  ·obtain⟨t0,rest,rfl⟩:∃t r,ts=t::r:=by cases ts with
    | nil=>simp at h0
    | cons t r=>exact⟨t,r,rfl⟩
   have hF:=F.start hJ (by omega)
   obtain⟨bb,ig,j9,o',u',hu'⟩:=fF.base bQ (by simp)
   subst ig
   obtain⟨bx,ox,kU,ka⟩:=Zc2 bQ (i:=0) (t:=t0) rfl
   cases kU
   rw[List.length_cons]at gf cX
   refine⟨_,_,rfl,⟨by omega,by simp⟩,_,_,_,_,_,_,_,_,ka,fun b2=>Zab rfl ⟨⟨by omega,by rw[List.length_cons];omega⟩,?_⟩⟩
   refine⟨fun xs css tvs m' q=>∃(k:Nat)(t:T),k≤rest.length∧xs=[.int .i64 k]∧css=[t.cs]∧m1.le m'∧Rep m' t∧F t (rest.drop k)∧q=rest.length - k,⟨rest.length,0,t0,by omega,rfl,rfl,Mem.le_refl _,(cK t0 (by simp)).mono eX,hF,by omega⟩,?_⟩
   rintro z cs m2 q2 _ ⟨k,t,hk,hz,cG,bP,ii,p6,iD⟩
   obtain rfl:z=k:=by simpa using hz
   obtain rfl:cs=t.cs:=by simpa using cG
   have tR:((t0::rest).length - Int.toNat 1)=rest.length:=by simp
   simp only[tR]
   refine Zaa (fun bM=>?_) (fun ja=>Zab rfl (ZjJ (Mem.le_trans bJ bP) ⟨t,rfl,ii,p6.done⟩))
   have bL:k < rest.length:=by have:=of_decide_eq_true bM;omega
   obtain⟨x,hx⟩:=Zie bL
   obtain⟨b3,o3,vJ,rc⟩:=Zc2 (bQ.mono bP) (i:=k+1) (t:=x) (by simpa using hx)
   cases vJ
   have iC:IntKind.i64.wrap ((k:Int)+1)=((k+1:Nat):Int):=by rw[ZaA (by omega) (by omega)];rfl
   simp only[iC,Int.toNat_natCast]
   rw[Zc0 hx]at p6
   have cM:=p6.sz
   rw[ZkH]at cM
   have nn:=Zff (k:=4) (t:=t)
   have nq:=Zff (k:=4) (t:=x)
   have iI:Za3 (some (⟨bb,0,none⟩:Addr)) (Int.toNat 1) c2 8=some ⟨bb,0+8,none⟩:=by
    unfold Za3
    have:Nat.beq c2 1=false:=by
     cases hb:Nat.beq c2 1 with
     | false=>rfl
     | true=>have:=Nat.eq_of_beq_eq_true hb;omega
    show(bif Nat.beq c2 1 then _ else some (Addr.add _ (1*8)))=_
    rw[this,Zb9];rfl
   refine⟨_,_,iI,⟨by omega,by omega⟩,_,_,_,_,_,_,_,_,by rw[show 0+8+k*8=0+(k+1)*8 by omega];exact rc,fun b4=>Zab rfl (Zam (Zm4 4 t x (.inr rfl) m2 ii ((cK x (by simp[List.mem_of_getElem? hx])).mono (Mem.le_trans eX bP)) (by omega) (by omega)) Zba (ZdF fun t' m3 cJ hr' ht'=>⟨by trivial,by trivial,rest.length - (k+1),by omega,k+1,t',by omega,rfl,rfl,Mem.le_trans bP cJ,hr',?_,by omega⟩))⟩
   obtain⟨a3,c3,ht'⟩:=ht'
   rw[ht'];exact p6.step _ _
end Go.Proofs.Ytplacemlpkhmfaa

