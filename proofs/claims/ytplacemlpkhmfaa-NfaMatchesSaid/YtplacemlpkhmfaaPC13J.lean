/- Part of the proof: conditions and contracts of functions of this program. No condition of its own. -/
import Derived.Test.YtplacemlpkhmfaaPVF
import Derived.Test.YtplacemlpkhmfaaPC13I
set_option linter.unusedVariables false
set_option linter.unusedSimpArgs false
set_option linter.unusedSectionVars false
namespace Go.Proofs.Ytplacemlpkhmfaa
open Go Go.Eng Go.Rx Go.Proofs Go.RowKit
set_option maxRecDepth 100000
structure Sm (m:Mem)(a:Option Addr)(l:List (Nat×Nat×Nat)):Prop where
 len:l.length≤9223372036854775807
 byte:∀s∈l,s.1 < 256∧s.2.1 < 256∧s.2.2 < 256
 at':∀i s,l[i]?=some s→∃b o,a=some ⟨b,o,none⟩∧m.reads b (o+i*3) [.int .u8 s.1,.int .u8 s.2.1,.int .u8 s.2.2]
theorem Sm.mono{m m':Mem}{a l}(h:Sm m a l)(hm:m.le m'):Sm m' a l:=
 ⟨h.len,h.byte,fun i s hi=>by obtain⟨b,o,h1,h2⟩:=h.at' i s hi;exact⟨b,o,h1,h2.mono hm⟩⟩
theorem ZpG(n:Nat):(([[97],[98],[97,98],[97],[98],[99],[97,98,99],[98,99],[10],[0,255],[97],[98]][n % 12]?).getD []:List Nat).length≤100000:=by
 have h:n % 12=0∨n % 12=1∨n % 12=2∨n % 12=3∨n % 12=4∨n % 12=5∨n % 12=6∨n % 12=7∨n % 12=8∨n % 12=9∨n % 12=10∨n % 12=11:=by omega
 rcases h with e|e|e|e|e|e|e|e|e|e|e|e <;> rw[e] <;> decide
theorem Zw1:∀L < 3,∀Mo < 4,((Mo < L∨Mo=0∨(L=1∧Mo=1))→Zdx (L:Nat) (-1)=true∧Zvb (L:Nat) (-1)≤((max 1 L:Nat):Int))∧(¬(Mo < L∨Mo=0∨(L=1∧Mo=1))→Zdx (L:Nat) (Mo:Nat)=true∧Zvb (L:Nat) (Mo:Nat)≤((max 1 (max L Mo):Nat):Int)):=by
 intro L hL Mo hM
 have h1:L=0∨L=1∨L=2:=by omega
 have h2:Mo=0∨Mo=1∨Mo=2∨Mo=3:=by omega
 rcases h1 with rfl|rfl|rfl <;> rcases h2 with rfl|rfl|rfl|rfl <;> exact⟨fun _=>by first|exact⟨by decide,by decide⟩|omega,fun _=>by first|exact⟨by decide,by decide⟩|omega⟩
theorem Zw2(l:List (Nat×Nat×Nat))(a:Option Addr)(c:Nat)(m:Mem)(hl:Sm m a l)(hc:l.length≤c):CX Try.prog 15 #[.slice a l.length c] m [] (ZrT (fun t=>t.check=0)):=by
 apply ZlV
 unfold ZhJ
 have bX:=hl.len
 intro b
 have hN:(if(25:Int) < (l.length:Int)then(25:Int)else(l.length:Int))=((min 25 l.length:Nat):Int):=by split <;> omega
 simp only[hN,Int.toNat_natCast,Nat.sub_zero]
 generalize p8:min 25 l.length=N
 refine⟨⟨by omega,by omega⟩,fun xs css tvs m' q=>∃(i:Nat)(ts:List T)(a:Option Addr)(c:Nat)(u g:Nat)(mb:Mem),i≤N∧xs=[.slice a ts.length c,.int .i64 u,.int .i64 g,.int .i64 i]∧tvs=[.slice a ts.length c]∧ts.length≤c∧m.le mb∧mb.le m'∧Apart mb a∧rowRd m' a (Rx.Zdg ts)∧(∀t∈ts,Rep mb t)∧J i ts u g∧q=N - i,⟨N,0,[],none,0,1,0,m,by omega,rfl,rfl,by simp,Mem.le_refl _,Mem.le_refl _,.inl rfl,.inl rfl,by simp,J.zero,by omega⟩,?_⟩
 rintro a1 n1 c1 z1 z2 z3 a2 n2 c2 m1 q _ ⟨i,ts,a',c',u,g,mb,hi,gn,dE,dP,jH,fE,fK,bZ,dB,hJ,hq⟩
 simp only[List.cons.injEq,Value.slice.injEq,Value.int.injEq,true_and,and_true]at gn dE
 obtain⟨⟨rfl,rfl,rfl⟩,rfl,rfl,rfl⟩:=gn
 obtain⟨rfl,rfl,rfl⟩:=dE
 have gp:ts.length≤25:=by have:=hJ.sz;have:=Zuo ts;omega
 refine Zab (fun bS=>?_) (fun cX=>?_)
 ·have vt:i < N:=by have:=of_decide_eq_true bS;omega
  have hi':i < l.length:=by omega
  obtain⟨s,hs⟩:=ZiW hi'
  obtain⟨bs,os,ha,cU⟩:=(hl.mono (Mem.le_trans jH fE)).at' i s hs
  obtain⟨s1,s2,s3⟩:=s
  obtain⟨kI,fZ,pW⟩:=hl.byte _ (List.mem_of_getElem? hs)
  have hw:IntKind.i64.wrap ((i:Int)+1)=((i+1:Nat):Int):=by rw[Zat (by omega) (by omega)];rfl
  have rQ:Int.tmod (intOf (Value.int .u8 (s1:Nat))) 12=((s1 % 12:Nat):Int):=rfl
  simp only[hw,Int.toNat_natCast]
  refine⟨bs,os,ha,⟨by omega,by omega⟩,_,_,_,cU,fun b2=>Zaa rfl (Zaa rfl ⟨by omega,?_⟩)⟩
  simp only[rQ]
  refine Zab (fun h1=>?_) (fun h1=>Zab (fun h2=>?_) (fun h2=>?_))
  ·refine Zap (Zq9 s2 fZ m1) (fun v _ _ ⟨s,e,_⟩=>by rw[e];rfl) ?_
   rintro str m2 bT ⟨s',hv,hb⟩
   cases hv
   refine Zap (ZpF str (by rw[hb];unfold Zd7;exact ZpG _) m2) Ziz (Zs6 fun t m3 cH hr ht b3 nA=>?_)
   rw[hb]at ht
   have ii:=Mem.le_trans bT (Mem.le_trans cH (Mem.le_add nA t.cs))
   obtain⟨k1,k2,k3,k4⟩:=ZrX s2
   refine⟨.inl trivial,Rx.Zdg ts,t.cs,ZaO _,rfl,bZ.mono (ii),.inr ⟨b3,0,rfl,fun j v hj=>by rw[Nat.zero_add,Mem.add_same];exact hj⟩,by rw[←Zbs];exact Zfh _,by omega,by omega,fun a4 c4 m4 cQ cV cC=>⟨by trivial,N - (i+1),by omega,i+1,ts++[t],a4,c4,u,g,mb,by omega,?_,?_,by have:=cC.1;rw[List.length_append];exact this,jH,Mem.le_trans fE (Mem.le_trans (ii) cQ),fK.tok (Mem.le_trans fE (ii)) cC,?_,?_,?_,by omega⟩⟩
   ·rw[List.length_append];rfl
   ·rw[List.length_append];rfl
   ·rw[ZaP,Zbs];exact cV
   ·intro x hx
    rcases List.mem_append.1 hx with hx|hx
    ·exact dB x hx
    ·simp at hx;subst hx;exact(by rw[ht];exact ZoY _ _)
   ·rw[ht];exact hJ.push k1 k2 k3 k4
  ·intro b3 nA
   have ii:=Mem.le_add nA T1.cs
   refine⟨.inl trivial,Rx.Zdg ts,T1.cs,ZaO _,rfl,bZ.mono (ii),.inr ⟨b3,0,rfl,fun j v hj=>by rw[Nat.zero_add,Mem.add_same];exact hj⟩,by rw[←Zbs];exact Zfh _,by omega,by omega,fun a4 c4 m4 cQ cV cC=>⟨by trivial,N - (i+1),by omega,i+1,ts++[T1],a4,c4,u,g,mb,by omega,?_,?_,by have:=cC.1;rw[List.length_append];exact this,jH,Mem.le_trans fE (Mem.le_trans (ii) cQ),fK.tok (Mem.le_trans fE (ii)) cC,?_,?_,?_,by omega⟩⟩
   ·rw[List.length_append];rfl
   ·rw[List.length_append];rfl
   ·rw[ZaP,Zbs];exact cV
   ·intro x hx
    rcases List.mem_append.1 hx with hx|hx
    ·exact dB x hx
    ·simp at hx;subst hx;exact ZwF _
   ·exact hJ.push ZwI.1 ZwI.2.1 ZwI.2.2.1 ZwI.2.2.2
  ·refine⟨decide (s1 % 12 < 7)&&decide (1 < ts.length),Zab (fun h3=>⟨by trivial,by trivial,?_⟩) (fun h3=>⟨by trivial,by trivial,?_⟩),Zab (fun h3=>?_) (fun h3=>?_)⟩
   ·refine Zav ?_
    rw[Bool.eq_iff_iff];simp;have:=of_decide_eq_true h3;omega
   ·refine Zav ?_
    rw[eq_comm,Bool.and_eq_false_iff];left;have:=of_decide_eq_false h3;exact decide_eq_false (by omega)
   ·skip
    obtain⟨r,x,y,rfl⟩:=Zys (ts:=ts) (by simp at h3;omega)
    have gX:(r++[x,y]).length=r.length+2:=by simp
    have eZ:IntKind.i64.wrap (((r++[x,y]).length:Int) - 2)=(r.length:Int):=by rw[gX,Zat (by omega) (by omega)];omega
    have eR:IntKind.i64.wrap (((r++[x,y]).length:Int) - 1)=((r.length+1:Nat):Int):=by rw[gX,Zat (by omega) (by omega)];omega
    simp only[eZ,eR,Int.toNat_natCast,Nat.sub_zero]
    obtain⟨bb,ip,km,o',u',hu'⟩:=fK.base bZ (by simp)
    obtain⟨bx,ox,k9,kn⟩:=ZgN bZ (i:=r.length) (t:=x) (by simp)
    obtain⟨by',oy,rR,jQ⟩:=ZgN bZ (i:=r.length+1) (t:=y) (by simp)
    have rS:(ZbQ 3 x).length≤10000:=by
     have:=hJ.sz
     rw[ZaQ,show szL [x,y]=szL ([x]++[y]) from rfl,ZaQ,ZbP,ZbP]at this
     have:=ZfG (k:=3) (t:=x)
     omega
    have rT:(ZbQ 3 y).length≤10000:=by
     have:=hJ.sz
     rw[ZaQ,show szL [x,y]=szL ([x]++[y]) from rfl,ZaQ,ZbP,ZbP]at this
     have:=ZfG (k:=3) (t:=y)
     omega
    refine⟨fun _ _ _=>Zux mb m1 (fun r=>∃a c,r=ZhS 3 a c (ZbQ 3 x++ZbQ 3 y)),⟨by omega,by omega⟩,⟨by omega,by omega⟩,bx,ox,k9,⟨by omega,by omega⟩,_,_,_,_,_,_,_,_,kn,by',oy,rR,⟨by omega,by omega⟩,_,_,_,_,_,_,_,_,jQ,Zux mb m1 (fun r=>∃a c,r=ZhS 3 a c (ZbQ 3 x++ZbQ 3 y)),rfl,(Zn0 3 x y (by omega) mb (dB x (by simp)) (dB y (by simp)) rS rT).frame2 fE,Zfs,ZmZ fun t m0 m3 cH h0 ko dF ir ht b6 mK=>?_⟩
    obtain⟨at',ct,ht⟩:=ht
    have iB:=Mem.le_add mK t.cs
    have gG:Apart m0 _:=.inr ⟨bb,ip,fun o=>by rw[dF bb o' u' hu' o];exact km o⟩
    refine⟨.inr (.inr (by omega)),Rx.Zdg r,t.cs,ZaO _,rfl,((Zsf bZ).mono cH).mono iB,.inr ⟨b6,0,rfl,fun j v hj=>by rw[Nat.zero_add,Mem.add_same];exact hj⟩,by rw[←Zbs];exact Zfh _,by omega,by omega,fun a4 c4 m4 cQ cV cC M dR dG gW eJ=>⟨by trivial,N - (i+1),by omega,i+1,r++[t],a4,c4,u,g,m0,by omega,?_,?_,by have:=cC.1;rw[List.length_append];exact this,Mem.le_trans jH h0,Mem.le_trans ko dG,gG.tok (Mem.le_trans ko iB) cC,?_,?_,?_,by omega⟩⟩
    ·rw[List.length_append];rfl
    ·rw[List.length_append];rfl
    ·rw[ZaP,Zbs];exact cV.mono eJ
    ·intro z hz
     rcases List.mem_append.1 hz with hz|hz
     ·exact(dB z (by simp[hz])).mono h0
     ·simp at hz;subst hz;exact ir
    ·rw[ht];exact hJ.join (by omega) (by omega) _ _
   ·refine⟨decide (s1 % 12 < 9)&&decide (1 < ts.length),Zab (fun h4=>⟨by trivial,by trivial,?_⟩) (fun h4=>⟨by trivial,by trivial,?_⟩),Zab (fun h4=>?_) (fun h4=>?_)⟩
    ·refine Zav ?_
     rw[Bool.eq_iff_iff];simp;have:=of_decide_eq_true h4;omega
    ·refine Zav ?_
     rw[eq_comm,Bool.and_eq_false_iff];left;have:=of_decide_eq_false h4;exact decide_eq_false (by omega)
    ·skip
     obtain⟨r,x,y,rfl⟩:=Zys (ts:=ts) (by simp at h4;omega)
     have gX:(r++[x,y]).length=r.length+2:=by simp
     have eZ:IntKind.i64.wrap (((r++[x,y]).length:Int) - 2)=(r.length:Int):=by rw[gX,Zat (by omega) (by omega)];omega
     have eR:IntKind.i64.wrap (((r++[x,y]).length:Int) - 1)=((r.length+1:Nat):Int):=by rw[gX,Zat (by omega) (by omega)];omega
     simp only[eZ,eR,Int.toNat_natCast,Nat.sub_zero]
     obtain⟨bb,ip,km,o',u',hu'⟩:=fK.base bZ (by simp)
     obtain⟨bx,ox,k9,kn⟩:=ZgN bZ (i:=r.length) (t:=x) (by simp)
     obtain⟨by',oy,rR,jQ⟩:=ZgN bZ (i:=r.length+1) (t:=y) (by simp)
     have rS:(ZbQ 4 x).length≤10000:=by
      have:=hJ.sz
      rw[ZaQ,show szL [x,y]=szL ([x]++[y]) from rfl,ZaQ,ZbP,ZbP]at this
      have:=ZfG (k:=4) (t:=x)
      omega
     have rT:(ZbQ 4 y).length≤10000:=by
      have:=hJ.sz
      rw[ZaQ,show szL [x,y]=szL ([x]++[y]) from rfl,ZaQ,ZbP,ZbP]at this
      have:=ZfG (k:=4) (t:=y)
      omega
     refine⟨fun _ _ _=>Zux mb m1 (fun r=>∃a c,r=ZhS 4 a c (ZbQ 4 x++ZbQ 4 y)),⟨by omega,by omega⟩,⟨by omega,by omega⟩,bx,ox,k9,⟨by omega,by omega⟩,_,_,_,_,_,_,_,_,kn,by',oy,rR,⟨by omega,by omega⟩,_,_,_,_,_,_,_,_,jQ,Zux mb m1 (fun r=>∃a c,r=ZhS 4 a c (ZbQ 4 x++ZbQ 4 y)),rfl,(Zn0 4 x y (by omega) mb (dB x (by simp)) (dB y (by simp)) rS rT).frame2 fE,Zfs,ZmZ fun t m0 m3 cH h0 ko dF ir ht b6 mK=>?_⟩
     obtain⟨at',ct,ht⟩:=ht
     have iB:=Mem.le_add mK t.cs
     have gG:Apart m0 _:=.inr ⟨bb,ip,fun o=>by rw[dF bb o' u' hu' o];exact km o⟩
     refine⟨.inr (.inr (by omega)),Rx.Zdg r,t.cs,ZaO _,rfl,((Zsf bZ).mono cH).mono iB,.inr ⟨b6,0,rfl,fun j v hj=>by rw[Nat.zero_add,Mem.add_same];exact hj⟩,by rw[←Zbs];exact Zfh _,by omega,by omega,fun a4 c4 m4 cQ cV cC M dR dG gW eJ=>⟨by trivial,N - (i+1),by omega,i+1,r++[t],a4,c4,u,g,m0,by omega,?_,?_,by have:=cC.1;rw[List.length_append];exact this,Mem.le_trans jH h0,Mem.le_trans ko dG,gG.tok (Mem.le_trans ko iB) cC,?_,?_,?_,by omega⟩⟩
     ·rw[List.length_append];rfl
     ·rw[List.length_append];rfl
     ·rw[ZaP,Zbs];exact cV.mono eJ
     ·intro z hz
      rcases List.mem_append.1 hz with hz|hz
      ·exact(dB z (by simp[hz])).mono h0
      ·simp at hz;subst hz;exact ir
     ·rw[ht];exact hJ.join (by omega) (by omega) _ _
    ·refine⟨decide (s1 % 12=9)&&(decide (0 < ts.length)&&decide (g < 9)),Zab (fun h5=>Zab (fun h6=>⟨by trivial,by trivial,?_⟩) (fun h6=>⟨by trivial,by trivial,?_⟩)) (fun h5=>⟨by trivial,by trivial,?_⟩),Zab (fun h5=>?_) (fun h5=>?_)⟩
     ·refine Zav ?_
      have e1:=of_decide_eq_true h6
      have e2:s1 % 12=9:=by have:=h5;simp at this;omega
      rw[decide_eq_true e2,decide_eq_true (show 0 < ts.length by omega),Bool.true_and,Bool.true_and,Bool.eq_iff_iff];simp;omega
     ·refine Zav ?_
      have e1:=of_decide_eq_false h6
      rw[decide_eq_false (show ¬0 < ts.length by omega)];simp
     ·refine Zav ?_
      have e2:¬s1 % 12=9:=by have:=h5;simp at this;omega
      rw[decide_eq_false e2];rfl
     ·
      have vu:g < 9:=by simp at h5;omega
      skip
      obtain⟨r,x,rfl⟩:=Zyt (ts:=ts) (by simp at h5;omega)
      have gX:(r++[x]).length=r.length+1:=by simp
      have eR:IntKind.i64.wrap (((r++[x]).length:Int) - 1)=(r.length:Int):=by rw[gX,Zat (by omega) (by omega)];omega
      obtain⟨bb,ip,km,o',u',hu'⟩:=fK.base bZ (by simp)
      subst ip
      obtain⟨bx,ox,k9,kn⟩:=ZgN bZ (i:=r.length) (t:=x) (by simp)
      cases k9
      have vv:IntKind.i64.wrap ((g:Int)+1)=((g+1:Nat):Int):=by rw[Zat (by omega) (by omega)];rfl
      simp only[eR,vv,Int.toNat_natCast]
      refine⟨_,_,rfl,⟨by omega,by omega⟩,_,_,_,_,_,_,_,_,kn,Zap ((ZvE x mb (dB x (by simp))).frame2 fE) (Zfs (mb:=mb) (M0:=m1)) (ZmZ fun t m0 m3 cH h0 ko dF ir ht=>?_)⟩
      obtain⟨at',ct,ht⟩:=ht
      have gG:m0.free bb:=fun o=>by rw[dF bb o' u' hu' o];exact km o
      refine⟨bb,0,rfl,⟨by omega,by omega⟩,rfl,by omega,by trivial,N - (i+1),by omega,i+1,r++[t],_,_,u,g+1,m0,by omega,?_,?_,by rw[List.length_append];rw[gX]at dP;exact dP,Mem.le_trans jH h0,Mem.le_upd ko gG _ _,.inr ⟨bb,rfl,gG⟩,Zsg (bZ.mono cH),?_,?_,by omega⟩
      ·rw[gX,List.length_append];rfl
      ·rw[gX,List.length_append];rfl
      ·intro z hz
       rcases List.mem_append.1 hz with hz|hz
       ·exact(dB z (by simp[hz])).mono h0
       ·simp at hz;subst hz;exact ir
      ·rw[ht];exact hJ.group vu _ _
     ·by_cases h0:0 < ts.length
      ·skip
       obtain⟨r,x,rfl⟩:=Zyt (ts:=ts) (by exact h0)
       have gX:(r++[x]).length=r.length+1:=by simp
       have eR:IntKind.i64.wrap (((r++[x]).length:Int) - 1)=(r.length:Int):=by rw[gX,Zat (by omega) (by omega)];omega
       obtain⟨bb,ip,km,o',u',hu'⟩:=fK.base bZ (by simp)
       subst ip
       obtain⟨bx,ox,k9,kn⟩:=ZgN bZ (i:=r.length) (t:=x) (by simp)
       cases k9
       have vA:IntKind.i64.wrap (Int.tmod (intOf (Value.int .u8 (s2:Nat))) 3)=((s2 % 3:Nat):Int):=by
        rw[show Int.tmod (intOf (Value.int .u8 (s2:Nat))) 3=((s2 % 3:Nat):Int) from rfl,Zat (by omega) (by omega)]
       have vB:IntKind.i64.wrap (Int.tmod (intOf (Value.int .u8 (s3:Nat))) 4)=((s3 % 4:Nat):Int):=by
        rw[show Int.tmod (intOf (Value.int .u8 (s3:Nat))) 4=((s3 % 4:Nat):Int) from rfl,Zat (by omega) (by omega)]
       simp only[eR,vA,vB,Int.toNat_natCast]
       have vC:s2 % 3 < 3:=by omega
       have eJ:s3 % 4 < 4:=by omega
       generalize s2 % 3=L at *
       generalize s3 % 4=Mo at *
       refine⟨decide (9 < s1 % 12)&&!(x.k == 1),Zab (fun h6=>Zab (fun h7=>⟨_,_,rfl,⟨by omega,by omega⟩,.int .u8 x.k,kn 0 _ rfl,Zaa rfl ⟨by trivial,by trivial,?_⟩⟩) (fun h7=>absurd h7 (by simp))) (fun h6=>⟨by trivial,by trivial,?_⟩),Zab (fun h6=>Zaa rfl ⟨by omega,Zaa rfl ⟨by omega,?_⟩⟩) (fun h6=>⟨by trivial,N - (i+1),by omega,i+1,r++[x],_,_,u,g,mb,by omega,rfl,rfl,dP,jH,fE,fK,bZ,dB,hJ.skip,by omega⟩)⟩
       ·refine Zav ?_
        have:=of_decide_eq_true h6
        rw[decide_eq_true (show 9 < s1 % 12 by omega),Bool.true_and];rfl
       ·refine Zav ?_
        have:=of_decide_eq_false h6
        rw[decide_eq_false (show ¬9 < s1 % 12 by omega)];rfl
       ·have jB:x.k≠1:=by
         rw[Bool.and_eq_true]at h6
         simpa using h6.2
        obtain⟨tab1,tab2⟩:=Zw1 L vC Mo eJ
        refine⟨decide (Mo < L∨Mo=0∨(L=1∧Mo=1)),Zab (fun g1=>⟨by trivial,by trivial,Zav ?_⟩) (fun g1=>Zab (fun g2=>⟨by trivial,by trivial,Zav ?_⟩) (fun g2=>Zab (fun g3=>⟨by trivial,by trivial,Zav ?_⟩) (fun g3=>⟨by trivial,by trivial,Zav ?_⟩))),Zab (fun g4=>?_) (fun g4=>?_)⟩
        ·have:=of_decide_eq_true g1
         exact(decide_eq_true (by omega)).symm
        ·have:Mo=0:=by simp at g2;omega
         exact(decide_eq_true (by omega)).symm
        ·have e1:=of_decide_eq_false g1
         have e2:¬Mo=0:=by simp at g2;omega
         have e3:L=1:=by simp at g3;omega
         rw[Bool.eq_iff_iff];simp;omega
        ·have e1:=of_decide_eq_false g1
         have e2:¬Mo=0:=by simp at g2;omega
         have e3:¬L=1:=by simp at g3;omega
         exact(decide_eq_false (by omega)).symm
        ·
         have hA:(if(1:Int) > (if(-1:Int) > (L:Int)then(-1:Int)else(L:Int))then(1:Int)else(if(-1:Int) > (L:Int)then(-1:Int)else(L:Int)))=((max 1 L:Nat):Int):=by
          split <;> split <;> omega
         obtain⟨tb,tp⟩:=tab1 (of_decide_eq_true g4)
         have oK:u*max 1 L≤48:=by have:=Nat.mul_le_mul hJ.u16 (show max 1 L≤3 by omega);omega
         have rU:IntKind.i64.wrap ((u:Int)*((max 1 L:Nat):Int))=((u*max 1 L:Nat):Int):=by rw[←Int.natCast_mul];exact Zat (by omega) (by omega)
         simp only[hA,rU]
         refine Zab (fun g5=>?_) (fun g5=>⟨by trivial,N - (i+1),by omega,i+1,r++[x],_,_,u,g,mb,by omega,rfl,rfl,dP,jH,fE,fK,bZ,dB,hJ.skip,by omega⟩)
         have mL:u*max 1 L≤16:=by have:=of_decide_eq_true g5;omega
         refine⟨_,_,rfl,⟨by omega,by omega⟩,_,_,_,_,_,_,_,_,kn,Zap ((Zw0 x (L:Nat) (-1:Int) ⟨by omega,by omega⟩ ⟨by omega,by omega⟩ mb (dB x (by simp))).frame2 fE) (Zfs (mb:=mb) (M0:=m1)) (ZmZ fun t m0 m3 cH h0 ko dF ir ht=>?_)⟩
         obtain⟨at',ct,ht⟩:=ht
         have gG:m0.free bb:=fun o=>by rw[dF bb o' u' hu' o];exact km o
         refine⟨bb,0,rfl,⟨by omega,by omega⟩,rfl,by omega,by trivial,N - (i+1),by omega,i+1,r++[t],_,_,u*max 1 L,g,m0,by omega,?_,?_,by rw[List.length_append];rw[gX]at dP;exact dP,Mem.le_trans jH h0,Mem.le_upd ko gG _ _,.inr ⟨bb,rfl,gG⟩,Zsg (bZ.mono cH),?_,?_,by omega⟩
         ·rw[gX,List.length_append];rfl
         ·rw[gX,List.length_append];rfl
         ·intro z hz
          rcases List.mem_append.1 hz with hz|hz
          ·exact(dB z (by simp[hz])).mono h0
          ·simp at hz;subst hz;exact ir
         ·rw[ht];exact hJ.rep jB tb tp (by omega) mL _ _
        ·
         have hA:(if(1:Int) > (if((Mo:Int)) > (L:Int)then((Mo:Int))else(L:Int))then(1:Int)else(if((Mo:Int)) > (L:Int)then((Mo:Int))else(L:Int)))=((max 1 (max L Mo):Nat):Int):=by
          split <;> split <;> omega
         obtain⟨tb,tp⟩:=tab2 (of_decide_eq_false g4)
         have oK:u*max 1 (max L Mo)≤48:=by have:=Nat.mul_le_mul hJ.u16 (show max 1 (max L Mo)≤3 by omega);omega
         have rU:IntKind.i64.wrap ((u:Int)*((max 1 (max L Mo):Nat):Int))=((u*max 1 (max L Mo):Nat):Int):=by rw[←Int.natCast_mul];exact Zat (by omega) (by omega)
         simp only[hA,rU]
         refine Zab (fun g5=>?_) (fun g5=>⟨by trivial,N - (i+1),by omega,i+1,r++[x],_,_,u,g,mb,by omega,rfl,rfl,dP,jH,fE,fK,bZ,dB,hJ.skip,by omega⟩)
         have mL:u*max 1 (max L Mo)≤16:=by have:=of_decide_eq_true g5;omega
         refine⟨_,_,rfl,⟨by omega,by omega⟩,_,_,_,_,_,_,_,_,kn,Zap ((Zw0 x (L:Nat) ((Mo:Int)) ⟨by omega,by omega⟩ ⟨by omega,by omega⟩ mb (dB x (by simp))).frame2 fE) (Zfs (mb:=mb) (M0:=m1)) (ZmZ fun t m0 m3 cH h0 ko dF ir ht=>?_)⟩
         obtain⟨at',ct,ht⟩:=ht
         have gG:m0.free bb:=fun o=>by rw[dF bb o' u' hu' o];exact km o
         refine⟨bb,0,rfl,⟨by omega,by omega⟩,rfl,by omega,by trivial,N - (i+1),by omega,i+1,r++[t],_,_,u*max 1 (max L Mo),g,m0,by omega,?_,?_,by rw[List.length_append];rw[gX]at dP;exact dP,Mem.le_trans jH h0,Mem.le_upd ko gG _ _,.inr ⟨bb,rfl,gG⟩,Zsg (bZ.mono cH),?_,?_,by omega⟩
         ·rw[gX,List.length_append];rfl
         ·rw[gX,List.length_append];rfl
         ·intro z hz
          rcases List.mem_append.1 hz with hz|hz
          ·exact(dB z (by simp[hz])).mono h0
          ·simp at hz;subst hz;exact ir
         ·rw[ht];exact hJ.rep jB tb tp (by omega) mL _ _
      ·refine⟨false,Zab (fun h6=>Zab (fun h7=>absurd (of_decide_eq_true h7) (by omega)) (fun h7=>⟨by trivial,by trivial,rfl⟩)) (fun h6=>⟨by trivial,by trivial,rfl⟩),ZxY rfl ⟨by trivial,N - (i+1),by omega,i+1,ts,_,_,u,g,mb,by omega,rfl,rfl,dP,jH,fE,fK,bZ,dB,hJ.skip,by omega⟩⟩
 ·have vt:i=N:=by have:=of_decide_eq_false cX;omega
  have bJ:=Mem.le_trans jH fE
  refine Zab (fun h0=>?_) (fun h0=>?_)
  ·have rV:(ZfT ⟨#[97]⟩)=Zd7 0:=by rfl
   refine Zap (ZpF ⟨#[97]⟩ (by decide) m1) Ziz (Zs6 fun t m2 bT hr ht=>ZkB (Mem.le_trans bJ bT) ⟨t,rfl,hr,?_⟩)
   rw[rV]at ht
   obtain⟨k1,k2,k3,k4⟩:=ZrX 0
   rw[←ht]at k1 k2 k3 k4
   exact F.done (l:=[]) ⟨k1,by simp,by simp[szL,Zau,k2],by simp[Zdy];omega,by simp[grL,Zau,k4]⟩
  ·obtain⟨t0,rest,rfl⟩:∃t r,ts=t::r:=by cases ts with
    | nil=>simp at h0
    | cons t r=>exact⟨t,r,rfl⟩
   have hF:=F.start hJ (by omega)
   obtain⟨bb,ip,km,o',u',hu'⟩:=fK.base bZ (by simp)
   subst ip
   obtain⟨bx,ox,k9,kn⟩:=ZgN bZ (i:=0) (t:=t0) rfl
   cases k9
   rw[List.length_cons]at gp dP
   refine⟨_,_,rfl,⟨by omega,by simp⟩,_,_,_,_,_,_,_,_,kn,fun b2=>Zaa rfl ⟨⟨by omega,by rw[List.length_cons];omega⟩,?_⟩⟩
   refine⟨fun xs css tvs m' q=>∃(k:Nat)(t:T),k≤rest.length∧xs=[.int .i64 k]∧css=[t.cs]∧m1.le m'∧Rep m' t∧F t (rest.drop k)∧q=rest.length - k,⟨rest.length,0,t0,by omega,rfl,rfl,Mem.le_refl _,(dB t0 (by simp)).mono fE,hF,by omega⟩,?_⟩
   rintro z cs m2 q2 _ ⟨k,t,hk,hz,cK,bT,ir,p9,ib⟩
   obtain rfl:z=k:=by simpa using hz
   obtain rfl:cs=t.cs:=by simpa using cK
   have kd:((t0::rest).length - Int.toNat 1)=rest.length:=by simp
   simp only[kd]
   refine Zab (fun bS=>?_) (fun jI=>Zaa rfl (ZkB (Mem.le_trans bJ bT) ⟨t,rfl,ir,p9.done⟩))
   have bR:k < rest.length:=by have:=of_decide_eq_true bS;omega
   obtain⟨x,hx⟩:=ZiW bR
   obtain⟨b3,o3,vD,qZ⟩:=ZgN (bZ.mono bT) (i:=k+1) (t:=x) (by simpa using hx)
   cases vD
   have i9:IntKind.i64.wrap ((k:Int)+1)=((k+1:Nat):Int):=by rw[Zat (by omega) (by omega)];rfl
   simp only[i9,Int.toNat_natCast]
   rw[Zcd hx]at p9
   have cP:=p9.sz
   rw[ZlH]at cP
   have tG:=ZfG (k:=4) (t:=t)
   have tJ:=ZfG (k:=4) (t:=x)
   have iM:ZaJ (some (⟨bb,0,none⟩:Addr)) (Int.toNat 1) c2 8=some ⟨bb,0+8,none⟩:=by
    unfold ZaJ
    have:Nat.beq c2 1=false:=by
     cases hb:Nat.beq c2 1 with
     | false=>rfl
     | true=>have:=Nat.eq_of_beq_eq_true hb;omega
    show(bif Nat.beq c2 1 then _ else some (Addr.add _ (1*8)))=_
    rw[this,Za9];rfl
   refine⟨_,_,iM,⟨by omega,by omega⟩,_,_,_,_,_,_,_,_,by rw[show 0+8+k*8=0+(k+1)*8 by omega];exact qZ,fun b4=>Zaa rfl (Zap (Zn0 4 t x (.inr rfl) m2 ir ((dB x (by simp[List.mem_of_getElem? hx])).mono (Mem.le_trans fE bT)) (by omega) (by omega)) Ziz (Zs6 fun t' m3 cH hr' ht'=>⟨by trivial,by trivial,rest.length - (k+1),by omega,k+1,t',by omega,rfl,rfl,Mem.le_trans bT cH,hr',?_,by omega⟩))⟩
   obtain⟨a3,c3,ht'⟩:=ht'
   rw[ht'];exact p9.step _ _
end Go.Proofs.Ytplacemlpkhmfaa

