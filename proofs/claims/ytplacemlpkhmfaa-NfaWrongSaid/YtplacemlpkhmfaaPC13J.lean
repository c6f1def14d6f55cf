/- Part of the proof: conditions and contracts of functions of this program. No condition of its own. -/
import Derived.Test.YtplacemlpkhmfaaPVF
import Derived.Test.YtplacemlpkhmfaaPC13I
set_option linter.unusedVariables false
set_option linter.unusedSimpArgs false
set_option linter.unusedSectionVars false
namespace Go.Proofs.Ytplacemlpkhmfaa
open Go Go.Eng Go.Rx Go.Proofs Go.RowKit
set_option maxRecDepth 100000
structure Sm (m:Mem)(a:Option Addr)(l:List (Nat×Nat×Nat)):Prop where
 len:l.length≤9223372036854775807
 byte:∀s∈l,s.1 < 256∧s.2.1 < 256∧s.2.2 < 256
 at':∀i s,l[i]?=some s→∃b o,a=some ⟨b,o,none⟩∧m.reads b (o+i*3) [.int .u8 s.1,.int .u8 s.2.1,.int .u8 s.2.2]
theorem Sm.mono{m m':Mem}{a l}(h:Sm m a l)(hm:m.le m'):Sm m' a l:=
 ⟨h.len,h.byte,fun i s hi=>by obtain⟨b,o,h1,h2⟩:=h.at' i s hi;exact⟨b,o,h1,h2.mono hm⟩⟩
theorem Zn0(n:Nat):(([[97],[98],[97,98],[97],[98],[99],[97,98,99],[98,99],[10],[0,255],[97],[98]][n % 12]?).getD []:List Nat).length≤100000:=by
 have h:n % 12=0∨n % 12=1∨n % 12=2∨n % 12=3∨n % 12=4∨n % 12=5∨n % 12=6∨n % 12=7∨n % 12=8∨n % 12=9∨n % 12=10∨n % 12=11:=by omega
 rcases h with e|e|e|e|e|e|e|e|e|e|e|e <;> rw[e] <;> decide
theorem ZuC:∀L < 3,∀Mo < 4,((Mo < L∨Mo=0∨(L=1∧Mo=1))→Zd0 (L:Nat) (-1)=true∧Zs7 (L:Nat) (-1)≤((max 1 L:Nat):Int))∧(¬(Mo < L∨Mo=0∨(L=1∧Mo=1))→Zd0 (L:Nat) (Mo:Nat)=true∧Zs7 (L:Nat) (Mo:Nat)≤((max 1 (max L Mo):Nat):Int)):=by
 intro L hL Mo hM
 have h1:L=0∨L=1∨L=2:=by omega
 have h2:Mo=0∨Mo=1∨Mo=2∨Mo=3:=by omega
 rcases h1 with rfl|rfl|rfl <;> rcases h2 with rfl|rfl|rfl|rfl <;> exact⟨fun _=>by first|exact⟨by decide,by decide⟩|omega,fun _=>by first|exact⟨by decide,by decide⟩|omega⟩
theorem ZuD(l:List (Nat×Nat×Nat))(a:Option Addr)(c:Nat)(m:Mem)(hl:Sm m a l)(hc:l.length≤c):CX Try.prog 15 #[.slice a l.length c] m [] (Zjj (fun t=>t.check=0)):=by
 apply Zkq
 unfold ZgM
 have bO:=hl.len
 intro b
 have hN:(if(25:Int) < (l.length:Int)then(25:Int)else(l.length:Int))=((min 25 l.length:Nat):Int):=by split <;> omega
 simp only[hN,Int.toNat_natCast,Nat.sub_zero]
 generalize pH:min 25 l.length=N
 refine⟨⟨by omega,by omega⟩,fun xs css tvs m' q=>∃(i:Nat)(ts:List T)(a:Option Addr)(c:Nat)(u g:Nat)(mb:Mem),i≤N∧xs=[.slice a ts.length c,.int .i64 u,.int .i64 g,.int .i64 i]∧tvs=[.slice a ts.length c]∧ts.length≤c∧m.le mb∧mb.le m'∧Apart mb a∧rowRd m' a (Rx.Zcc ts)∧(∀t∈ts,Rep mb t)∧J i ts u g∧q=N - i,⟨N,0,[],none,0,1,0,m,by omega,rfl,rfl,by simp,Mem.le_refl _,Mem.le_refl _,.inl rfl,.inl rfl,by simp,J.zero,by omega⟩,?_⟩
 rintro a1 n1 c1 z1 z2 z3 a2 n2 c2 m1 q _ ⟨i,ts,a',c',u,g,mb,hi,eM,dA,dD,iC,eR,eY,bM,cK,hJ,hq⟩
 simp only[List.cons.injEq,Value.slice.injEq,Value.int.injEq,true_and,and_true]at eM dA
 obtain⟨⟨rfl,rfl,rfl⟩,rfl,rfl,rfl⟩:=eM
 obtain⟨rfl,rfl,rfl⟩:=dA
 have f9:ts.length≤25:=by have:=hJ.sz;have:=Znt ts;omega
 refine Zab (fun bK=>?_) (fun cS=>?_)
 ·have u5:i < N:=by have:=of_decide_eq_true bK;omega
  have hi':i < l.length:=by omega
  obtain⟨s,hs⟩:=Zjx hi'
  obtain⟨bs,os,ha,cM⟩:=(hl.mono (Mem.le_trans iC eR)).at' i s hs
  obtain⟨s1,s2,s3⟩:=s
  obtain⟨ru,gk,tj⟩:=hl.byte _ (List.mem_of_getElem? hs)
  have hw:IntKind.i64.wrap ((i:Int)+1)=((i+1:Nat):Int):=by rw[Zax (by omega) (by omega)];rfl
  have rv:Int.tmod (intOf (Value.int .u8 (s1:Nat))) 12=((s1 % 12:Nat):Int):=rfl
  simp only[hw,Int.toNat_natCast]
  refine⟨bs,os,ha,⟨by omega,by omega⟩,_,_,_,cM,fun b2=>Zaa rfl (Zaa rfl ⟨by omega,?_⟩)⟩
  simp only[rv]
  refine Zab (fun h1=>?_) (fun h1=>Zab (fun h2=>?_) (fun h2=>?_))
  ·refine Zam (Zpl s2 gk m1) (fun v _ _ ⟨s,e,_⟩=>by rw[e];rfl) ?_
   rintro str m2 bN ⟨s',hv,hb⟩
   cases hv
   refine Zam (ZnZ str (by rw[hb];unfold ZdN;exact Zn0 _) m2) Zb8 (ZgY fun t m3 cG hr ht b3 mT=>?_)
   rw[hb]at ht
   have fS:=Mem.le_trans bN (Mem.le_trans cG (Mem.le_add mT t.cs))
   obtain⟨k1,k2,k3,k4⟩:=Zqf s2
   refine⟨.inl trivial,Rx.Zcc ts,t.cs,Zau _,rfl,bM.mono (fS),.inr ⟨b3,0,rfl,fun j v hj=>by rw[Nat.zero_add,Mem.add_same];exact hj⟩,by rw[←Zbu];exact ZeC _,by omega,by omega,fun a4 c4 m4 cY cW cB=>⟨by trivial,N - (i+1),by omega,i+1,ts++[t],a4,c4,u,g,mb,by omega,?_,?_,by have:=cB.1;rw[List.length_append];exact this,iC,Mem.le_trans eR (Mem.le_trans (fS) cY),eY.tok (Mem.le_trans eR (fS)) cB,?_,?_,?_,by omega⟩⟩
   ·rw[List.length_append];rfl
   ·rw[List.length_append];rfl
   ·rw[ZaM,Zbu];exact cW
   ·intro x hx
    rcases List.mem_append.1 hx with hx|hx
    ·exact cK x hx
    ·simp at hx;subst hx;exact(by rw[ht];exact Zns _ _)
   ·rw[ht];exact hJ.push k1 k2 k3 k4
  ·intro b3 mT
   have fS:=Mem.le_add mT T1.cs
   refine⟨.inl trivial,Rx.Zcc ts,T1.cs,Zau _,rfl,bM.mono (fS),.inr ⟨b3,0,rfl,fun j v hj=>by rw[Nat.zero_add,Mem.add_same];exact hj⟩,by rw[←Zbu];exact ZeC _,by omega,by omega,fun a4 c4 m4 cY cW cB=>⟨by trivial,N - (i+1),by omega,i+1,ts++[T1],a4,c4,u,g,mb,by omega,?_,?_,by have:=cB.1;rw[List.length_append];exact this,iC,Mem.le_trans eR (Mem.le_trans (fS) cY),eY.tok (Mem.le_trans eR (fS)) cB,?_,?_,?_,by omega⟩⟩
   ·rw[List.length_append];rfl
   ·rw[List.length_append];rfl
   ·rw[ZaM,Zbu];exact cW
   ·intro x hx
    rcases List.mem_append.1 hx with hx|hx
    ·exact cK x hx
    ·simp at hx;subst hx;exact Zrk _
   ·exact hJ.push Zun.1 Zun.2.1 Zun.2.2.1 Zun.2.2.2
  ·refine⟨decide (s1 % 12 < 7)&&decide (1 < ts.length),Zab (fun h3=>⟨by trivial,by trivial,?_⟩) (fun h3=>⟨by trivial,by trivial,?_⟩),Zab (fun h3=>?_) (fun h3=>?_)⟩
   ·refine ZaD ?_
    rw[Bool.eq_iff_iff];simp;have:=of_decide_eq_true h3;omega
   ·refine ZaD ?_
    rw[eq_comm,Bool.and_eq_false_iff];left;have:=of_decide_eq_false h3;exact decide_eq_false (by omega)
   ·skip
    obtain⟨r,x,y,rfl⟩:=Zwh (ts:=ts) (by simp at h3;omega)
    have gX:(r++[x,y]).length=r.length+2:=by simp
    have eC:IntKind.i64.wrap (((r++[x,y]).length:Int) - 2)=(r.length:Int):=by rw[gX,Zax (by omega) (by omega)];omega
    have eD:IntKind.i64.wrap (((r++[x,y]).length:Int) - 1)=((r.length+1:Nat):Int):=by rw[gX,Zax (by omega) (by omega)];omega
    simp only[eC,eD,Int.toNat_natCast,Nat.sub_zero]
    obtain⟨bb,hQ,jZ,o',u',hu'⟩:=eY.base bM (by simp)
    obtain⟨bx,ox,kI,j0⟩:=Zdn bM (i:=r.length) (t:=x) (by simp)
    obtain⟨by',oy,rx,jz⟩:=Zdn bM (i:=r.length+1) (t:=y) (by simp)
    have ry:(ZbL 3 x).length≤10000:=by
     have:=hJ.sz
     rw[ZaQ,show szL [x,y]=szL ([x]++[y]) from rfl,ZaQ,ZbK,ZbK]at this
     have:=Ze1 (k:=3) (t:=x)
     omega
    have rz:(ZbL 3 y).length≤10000:=by
     have:=hJ.sz
     rw[ZaQ,show szL [x,y]=szL ([x]++[y]) from rfl,ZaQ,ZbK,ZbK]at this
     have:=Ze1 (k:=3) (t:=y)
     omega
    refine⟨fun _ _ _=>Zow mb m1 (fun r=>∃a c,r=Zfx 3 a c (ZbL 3 x++ZbL 3 y)),⟨by omega,by omega⟩,⟨by omega,by omega⟩,bx,ox,kI,⟨by omega,by omega⟩,_,_,_,_,_,_,_,_,j0,by',oy,rx,⟨by omega,by omega⟩,_,_,_,_,_,_,_,_,jz,Zow mb m1 (fun r=>∃a c,r=Zfx 3 a c (ZbL 3 x++ZbL 3 y)),rfl,(Zmw 3 x y (by omega) mb (cK x (by simp)) (cK y (by simp)) ry rz).frame2 eR,ZdC,Zjy fun t m0 m3 cG h0 j1 cU hZ ht b6 l9=>?_⟩
    obtain⟨at',ct,ht⟩:=ht
    have ij:=Mem.le_add l9 t.cs
    have gn:Apart m0 _:=.inr ⟨bb,hQ,fun o=>by rw[cU bb o' u' hu' o];exact jZ o⟩
    refine⟨.inr (.inr (by omega)),Rx.Zcc r,t.cs,Zau _,rfl,((Zqq bM).mono cG).mono ij,.inr ⟨b6,0,rfl,fun j v hj=>by rw[Nat.zero_add,Mem.add_same];exact hj⟩,by rw[←Zbu];exact ZeC _,by omega,by omega,fun a4 c4 m4 cY cW cB M gR fN jA jB=>⟨by trivial,N - (i+1),by omega,i+1,r++[t],a4,c4,u,g,m0,by omega,?_,?_,by have:=cB.1;rw[List.length_append];exact this,Mem.le_trans iC h0,Mem.le_trans j1 fN,gn.tok (Mem.le_trans j1 ij) cB,?_,?_,?_,by omega⟩⟩
    ·rw[List.length_append];rfl
    ·rw[List.length_append];rfl
    ·rw[ZaM,Zbu];exact cW.mono jB
    ·intro z hz
     rcases List.mem_append.1 hz with hz|hz
     ·exact(cK z (by simp[hz])).mono h0
     ·simp at hz;subst hz;exact hZ
    ·rw[ht];exact hJ.join (by omega) (by omega) _ _
   ·refine⟨decide (s1 % 12 < 9)&&decide (1 < ts.length),Zab (fun h4=>⟨by trivial,by trivial,?_⟩) (fun h4=>⟨by trivial,by trivial,?_⟩),Zab (fun h4=>?_) (fun h4=>?_)⟩
    ·refine ZaD ?_
     rw[Bool.eq_iff_iff];simp;have:=of_decide_eq_true h4;omega
    ·refine ZaD ?_
     rw[eq_comm,Bool.and_eq_false_iff];left;have:=of_decide_eq_false h4;exact decide_eq_false (by omega)
    ·skip
     obtain⟨r,x,y,rfl⟩:=Zwh (ts:=ts) (by simp at h4;omega)
     have gX:(r++[x,y]).length=r.length+2:=by simp
     have eC:IntKind.i64.wrap (((r++[x,y]).length:Int) - 2)=(r.length:Int):=by rw[gX,Zax (by omega) (by omega)];omega
     have eD:IntKind.i64.wrap (((r++[x,y]).length:Int) - 1)=((r.length+1:Nat):Int):=by rw[gX,Zax (by omega) (by omega)];omega
     simp only[eC,eD,Int.toNat_natCast,Nat.sub_zero]
     obtain⟨bb,hQ,jZ,o',u',hu'⟩:=eY.base bM (by simp)
     obtain⟨bx,ox,kI,j0⟩:=Zdn bM (i:=r.length) (t:=x) (by simp)
     obtain⟨by',oy,rx,jz⟩:=Zdn bM (i:=r.length+1) (t:=y) (by simp)
     have ry:(ZbL 4 x).length≤10000:=by
      have:=hJ.sz
      rw[ZaQ,show szL [x,y]=szL ([x]++[y]) from rfl,ZaQ,ZbK,ZbK]at this
      have:=Ze1 (k:=4) (t:=x)
      omega
     have rz:(ZbL 4 y).length≤10000:=by
      have:=hJ.sz
      rw[ZaQ,show szL [x,y]=szL ([x]++[y]) from rfl,ZaQ,ZbK,ZbK]at this
      have:=Ze1 (k:=4) (t:=y)
      omega
     refine⟨fun _ _ _=>Zow mb m1 (fun r=>∃a c,r=Zfx 4 a c (ZbL 4 x++ZbL 4 y)),⟨by omega,by omega⟩,⟨by omega,by omega⟩,bx,ox,kI,⟨by omega,by omega⟩,_,_,_,_,_,_,_,_,j0,by',oy,rx,⟨by omega,by omega⟩,_,_,_,_,_,_,_,_,jz,Zow mb m1 (fun r=>∃a c,r=Zfx 4 a c (ZbL 4 x++ZbL 4 y)),rfl,(Zmw 4 x y (by omega) mb (cK x (by simp)) (cK y (by simp)) ry rz).frame2 eR,ZdC,Zjy fun t m0 m3 cG h0 j1 cU hZ ht b6 l9=>?_⟩
     obtain⟨at',ct,ht⟩:=ht
     have ij:=Mem.le_add l9 t.cs
     have gn:Apart m0 _:=.inr ⟨bb,hQ,fun o=>by rw[cU bb o' u' hu' o];exact jZ o⟩
     refine⟨.inr (.inr (by omega)),Rx.Zcc r,t.cs,Zau _,rfl,((Zqq bM).mono cG).mono ij,.inr ⟨b6,0,rfl,fun j v hj=>by rw[Nat.zero_add,Mem.add_same];exact hj⟩,by rw[←Zbu];exact ZeC _,by omega,by omega,fun a4 c4 m4 cY cW cB M gR fN jA jB=>⟨by trivial,N - (i+1),by omega,i+1,r++[t],a4,c4,u,g,m0,by omega,?_,?_,by have:=cB.1;rw[List.length_append];exact this,Mem.le_trans iC h0,Mem.le_trans j1 fN,gn.tok (Mem.le_trans j1 ij) cB,?_,?_,?_,by omega⟩⟩
     ·rw[List.length_append];rfl
     ·rw[List.length_append];rfl
     ·rw[ZaM,Zbu];exact cW.mono jB
     ·intro z hz
      rcases List.mem_append.1 hz with hz|hz
      ·exact(cK z (by simp[hz])).mono h0
      ·simp at hz;subst hz;exact hZ
     ·rw[ht];exact hJ.join (by omega) (by omega) _ _
    ·refine⟨decide (s1 % 12=9)&&(decide (0 < ts.length)&&decide (g < 9)),Zab (fun h5=>Zab (fun h6=>⟨by trivial,by trivial,?_⟩) (fun h6=>⟨by trivial,by trivial,?_⟩)) (fun h5=>⟨by trivial,by trivial,?_⟩),Zab (fun h5=>?_) (fun h5=>?_)⟩
     ·refine ZaD ?_
      have e1:=of_decide_eq_true h6
      have e2:s1 % 12=9:=by have:=h5;simp at this;omega
      rw[decide_eq_true e2,decide_eq_true (show 0 < ts.length by omega),Bool.true_and,Bool.true_and,Bool.eq_iff_iff];simp;omega
     ·refine ZaD ?_
      have e1:=of_decide_eq_false h6
      rw[decide_eq_false (show ¬0 < ts.length by omega)];simp
     ·refine ZaD ?_
      have e2:¬s1 % 12=9:=by have:=h5;simp at this;omega
      rw[decide_eq_false e2];rfl
     ·
      have u6:g < 9:=by simp at h5;omega
      skip
      obtain⟨r,x,rfl⟩:=Zwi (ts:=ts) (by simp at h5;omega)
      have gX:(r++[x]).length=r.length+1:=by simp
      have eD:IntKind.i64.wrap (((r++[x]).length:Int) - 1)=(r.length:Int):=by rw[gX,Zax (by omega) (by omega)];omega
      obtain⟨bb,hQ,jZ,o',u',hu'⟩:=eY.base bM (by simp)
      subst hQ
      obtain⟨bx,ox,kI,j0⟩:=Zdn bM (i:=r.length) (t:=x) (by simp)
      cases kI
      have u9:IntKind.i64.wrap ((g:Int)+1)=((g+1:Nat):Int):=by rw[Zax (by omega) (by omega)];rfl
      simp only[eD,u9,Int.toNat_natCast]
      refine⟨_,_,rfl,⟨by omega,by omega⟩,_,_,_,_,_,_,_,_,j0,Zam ((Ztl x mb (cK x (by simp))).frame2 eR) (ZdC (mb:=mb) (M0:=m1)) (Zjy fun t m0 m3 cG h0 j1 cU hZ ht=>?_)⟩
      obtain⟨at',ct,ht⟩:=ht
      have gn:m0.free bb:=fun o=>by rw[cU bb o' u' hu' o];exact jZ o
      refine⟨bb,0,rfl,⟨by omega,by omega⟩,rfl,by omega,by trivial,N - (i+1),by omega,i+1,r++[t],_,_,u,g+1,m0,by omega,?_,?_,by rw[List.length_append];rw[gX]at dD;exact dD,Mem.le_trans iC h0,Mem.le_upd j1 gn _ _,.inr ⟨bb,rfl,gn⟩,Zqr (bM.mono cG),?_,?_,by omega⟩
      ·rw[gX,List.length_append];rfl
      ·rw[gX,List.length_append];rfl
      ·intro z hz
       rcases List.mem_append.1 hz with hz|hz
       ·exact(cK z (by simp[hz])).mono h0
       ·simp at hz;subst hz;exact hZ
      ·rw[ht];exact hJ.group u6 _ _
     ·by_cases h0:0 < ts.length
      ·skip
       obtain⟨r,x,rfl⟩:=Zwi (ts:=ts) (by exact h0)
       have gX:(r++[x]).length=r.length+1:=by simp
       have eD:IntKind.i64.wrap (((r++[x]).length:Int) - 1)=(r.length:Int):=by rw[gX,Zax (by omega) (by omega)];omega
       obtain⟨bb,hQ,jZ,o',u',hu'⟩:=eY.base bM (by simp)
       subst hQ
       obtain⟨bx,ox,kI,j0⟩:=Zdn bM (i:=r.length) (t:=x) (by simp)
       cases kI
       have vb:IntKind.i64.wrap (Int.tmod (intOf (Value.int .u8 (s2:Nat))) 3)=((s2 % 3:Nat):Int):=by
        rw[show Int.tmod (intOf (Value.int .u8 (s2:Nat))) 3=((s2 % 3:Nat):Int) from rfl,Zax (by omega) (by omega)]
       have ve:IntKind.i64.wrap (Int.tmod (intOf (Value.int .u8 (s3:Nat))) 4)=((s3 % 4:Nat):Int):=by
        rw[show Int.tmod (intOf (Value.int .u8 (s3:Nat))) 4=((s3 % 4:Nat):Int) from rfl,Zax (by omega) (by omega)]
       simp only[eD,vb,ve,Int.toNat_natCast]
       have vf:s2 % 3 < 3:=by omega
       have jB:s3 % 4 < 4:=by omega
       generalize s2 % 3=L at *
       generalize s3 % 4=Mo at *
       refine⟨decide (9 < s1 % 12)&&!(x.k == 1),Zab (fun h6=>Zab (fun h7=>⟨_,_,rfl,⟨by omega,by omega⟩,.int .u8 x.k,j0 0 _ rfl,Zaa rfl ⟨by trivial,by trivial,?_⟩⟩) (fun h7=>absurd h7 (by simp))) (fun h6=>⟨by trivial,by trivial,?_⟩),Zab (fun h6=>Zaa rfl ⟨by omega,Zaa rfl ⟨by omega,?_⟩⟩) (fun h6=>⟨by trivial,N - (i+1),by omega,i+1,r++[x],_,_,u,g,mb,by omega,rfl,rfl,dD,iC,eR,eY,bM,cK,hJ.skip,by omega⟩)⟩
       ·refine ZaD ?_
        have:=of_decide_eq_true h6
        rw[decide_eq_true (show 9 < s1 % 12 by omega),Bool.true_and];rfl
       ·refine ZaD ?_
        have:=of_decide_eq_false h6
        rw[decide_eq_false (show ¬9 < s1 % 12 by omega)];rfl
       ·have i6:x.k≠1:=by
         rw[Bool.and_eq_true]at h6
         simpa using h6.2
        obtain⟨tab1,tab2⟩:=ZuC L vf Mo jB
        refine⟨decide (Mo < L∨Mo=0∨(L=1∧Mo=1)),Zab (fun g1=>⟨by trivial,by trivial,ZaD ?_⟩) (fun g1=>Zab (fun g2=>⟨by trivial,by trivial,ZaD ?_⟩) (fun g2=>Zab (fun g3=>⟨by trivial,by trivial,ZaD ?_⟩) (fun g3=>⟨by trivial,by trivial,ZaD ?_⟩))),Zab (fun g4=>?_) (fun g4=>?_)⟩
        ·have:=of_decide_eq_true g1
         exact(decide_eq_true (by omega)).symm
        ·have:Mo=0:=by simp at g2;omega
         exact(decide_eq_true (by omega)).symm
        ·have e1:=of_decide_eq_false g1
         have e2:¬Mo=0:=by simp at g2;omega
         have e3:L=1:=by simp at g3;omega
         rw[Bool.eq_iff_iff];simp;omega
        ·have e1:=of_decide_eq_false g1
         have e2:¬Mo=0:=by simp at g2;omega
         have e3:¬L=1:=by simp at g3;omega
         exact(decide_eq_false (by omega)).symm
        ·
         have hA:(if(1:Int) > (if(-1:Int) > (L:Int)then(-1:Int)else(L:Int))then(1:Int)else(if(-1:Int) > (L:Int)then(-1:Int)else(L:Int)))=((max 1 L:Nat):Int):=by
          split <;> split <;> omega
         obtain⟨tb,tp⟩:=tab1 (of_decide_eq_true g4)
         have oh:u*max 1 L≤48:=by have:=Nat.mul_le_mul hJ.u16 (show max 1 L≤3 by omega);omega
         have rA:IntKind.i64.wrap ((u:Int)*((max 1 L:Nat):Int))=((u*max 1 L:Nat):Int):=by rw[←Int.natCast_mul];exact Zax (by omega) (by omega)
         simp only[hA,rA]
         refine Zab (fun g5=>?_) (fun g5=>⟨by trivial,N - (i+1),by omega,i+1,r++[x],_,_,u,g,mb,by omega,rfl,rfl,dD,iC,eR,eY,bM,cK,hJ.skip,by omega⟩)
         have ma:u*max 1 L≤16:=by have:=of_decide_eq_true g5;omega
         refine⟨_,_,rfl,⟨by omega,by omega⟩,_,_,_,_,_,_,_,_,j0,Zam ((ZuB x (L:Nat) (-1:Int) ⟨by omega,by omega⟩ ⟨by omega,by omega⟩ mb (cK x (by simp))).frame2 eR) (ZdC (mb:=mb) (M0:=m1)) (Zjy fun t m0 m3 cG h0 j1 cU hZ ht=>?_)⟩
         obtain⟨at',ct,ht⟩:=ht
         have gn:m0.free bb:=fun o=>by rw[cU bb o' u' hu' o];exact jZ o
         refine⟨bb,0,rfl,⟨by omega,by omega⟩,rfl,by omega,by trivial,N - (i+1),by omega,i+1,r++[t],_,_,u*max 1 L,g,m0,by omega,?_,?_,by rw[List.length_append];rw[gX]at dD;exact dD,Mem.le_trans iC h0,Mem.le_upd j1 gn _ _,.inr ⟨bb,rfl,gn⟩,Zqr (bM.mono cG),?_,?_,by omega⟩
         ·rw[gX,List.length_append];rfl
         ·rw[gX,List.length_append];rfl
         ·intro z hz
          rcases List.mem_append.1 hz with hz|hz
          ·exact(cK z (by simp[hz])).mono h0
          ·simp at hz;subst hz;exact hZ
         ·rw[ht];exact hJ.rep i6 tb tp (by omega) ma _ _
        ·
         have hA:(if(1:Int) > (if((Mo:Int)) > (L:Int)then((Mo:Int))else(L:Int))then(1:Int)else(if((Mo:Int)) > (L:Int)then((Mo:Int))else(L:Int)))=((max 1 (max L Mo):Nat):Int):=by
          split <;> split <;> omega
         obtain⟨tb,tp⟩:=tab2 (of_decide_eq_false g4)
         have oh:u*max 1 (max L Mo)≤48:=by have:=Nat.mul_le_mul hJ.u16 (show max 1 (max L Mo)≤3 by omega);omega
         have rA:IntKind.i64.wrap ((u:Int)*((max 1 (max L Mo):Nat):Int))=((u*max 1 (max L Mo):Nat):Int):=by rw[←Int.natCast_mul];exact Zax (by omega) (by omega)
         simp only[hA,rA]
         refine Zab (fun g5=>?_) (fun g5=>⟨by trivial,N - (i+1),by omega,i+1,r++[x],_,_,u,g,mb,by omega,rfl,rfl,dD,iC,eR,eY,bM,cK,hJ.skip,by omega⟩)
         have ma:u*max 1 (max L Mo)≤16:=by have:=of_decide_eq_true g5;omega
         refine⟨_,_,rfl,⟨by omega,by omega⟩,_,_,_,_,_,_,_,_,j0,Zam ((ZuB x (L:Nat) ((Mo:Int)) ⟨by omega,by omega⟩ ⟨by omega,by omega⟩ mb (cK x (by simp))).frame2 eR) (ZdC (mb:=mb) (M0:=m1)) (Zjy fun t m0 m3 cG h0 j1 cU hZ ht=>?_)⟩
         obtain⟨at',ct,ht⟩:=ht
         have gn:m0.free bb:=fun o=>by rw[cU bb o' u' hu' o];exact jZ o
         refine⟨bb,0,rfl,⟨by omega,by omega⟩,rfl,by omega,by trivial,N - (i+1),by omega,i+1,r++[t],_,_,u*max 1 (max L Mo),g,m0,by omega,?_,?_,by rw[List.length_append];rw[gX]at dD;exact dD,Mem.le_trans iC h0,Mem.le_upd j1 gn _ _,.inr ⟨bb,rfl,gn⟩,Zqr (bM.mono cG),?_,?_,by omega⟩
         ·rw[gX,List.length_append];rfl
         ·rw[gX,List.length_append];rfl
         ·intro z hz
          rcases List.mem_append.1 hz with hz|hz
          ·exact(cK z (by simp[hz])).mono h0
          ·simp at hz;subst hz;exact hZ
         ·rw[ht];exact hJ.rep i6 tb tp (by omega) ma _ _
      ·refine⟨false,Zab (fun h6=>Zab (fun h7=>absurd (of_decide_eq_true h7) (by omega)) (fun h7=>⟨by trivial,by trivial,rfl⟩)) (fun h6=>⟨by trivial,by trivial,rfl⟩),Zlr rfl ⟨by trivial,N - (i+1),by omega,i+1,ts,_,_,u,g,mb,by omega,rfl,rfl,dD,iC,eR,eY,bM,cK,hJ.skip,by omega⟩⟩
 ·have u5:i=N:=by have:=of_decide_eq_false cS;omega
  have bH:=Mem.le_trans iC eR
  refine Zab (fun h0=>?_) (fun h0=>?_)
  ·have rB:(Ze8 ⟨#[97]⟩)=ZdN 0:=by rfl
   refine Zam (ZnZ ⟨#[97]⟩ (by decide) m1) Zb8 (ZgY fun t m2 bN hr ht=>Zji (Mem.le_trans bH bN) ⟨t,rfl,hr,?_⟩)
   rw[rB]at ht
   obtain⟨k1,k2,k3,k4⟩:=Zqf 0
   rw[←ht]at k1 k2 k3 k4
   exact F.done (l:=[]) ⟨k1,by simp,by simp[szL,Zar,k2],by simp[ZcF];omega,by simp[grL,Zar,k4]⟩
  ·obtain⟨t0,rest,rfl⟩:∃t r,ts=t::r:=by cases ts with
    | nil=>simp at h0
    | cons t r=>exact⟨t,r,rfl⟩
   have hF:=F.start hJ (by omega)
   obtain⟨bb,hQ,jZ,o',u',hu'⟩:=eY.base bM (by simp)
   subst hQ
   obtain⟨bx,ox,kI,j0⟩:=Zdn bM (i:=0) (t:=t0) rfl
   cases kI
   rw[List.length_cons]at f9 dD
   refine⟨_,_,rfl,⟨by omega,by simp⟩,_,_,_,_,_,_,_,_,j0,fun b2=>Zaa rfl ⟨⟨by omega,by rw[List.length_cons];omega⟩,?_⟩⟩
   refine⟨fun xs css tvs m' q=>∃(k:Nat)(t:T),k≤rest.length∧xs=[.int .i64 k]∧css=[t.cs]∧m1.le m'∧Rep m' t∧F t (rest.drop k)∧q=rest.length - k,⟨rest.length,0,t0,by omega,rfl,rfl,Mem.le_refl _,(cK t0 (by simp)).mono eR,hF,by omega⟩,?_⟩
   rintro z cs m2 q2 _ ⟨k,t,hk,hz,cH,bN,hZ,pI,nv⟩
   obtain rfl:z=k:=by simpa using hz
   obtain rfl:cs=t.cs:=by simpa using cH
   have tr:((t0::rest).length - Int.toNat 1)=rest.length:=by simp
   simp only[tr]
   refine Zab (fun bK=>?_) (fun iX=>Zaa rfl (Zji (Mem.le_trans bH bN) ⟨t,rfl,hZ,pI.done⟩))
   have bJ:k < rest.length:=by have:=of_decide_eq_true bK;omega
   obtain⟨x,hx⟩:=Zjx bJ
   obtain⟨b3,o3,vg,qI⟩:=Zdn (bM.mono bN) (i:=k+1) (t:=x) (by simpa using hx)
   cases vg
   have gx:IntKind.i64.wrap ((k:Int)+1)=((k+1:Nat):Int):=by rw[Zax (by omega) (by omega)];rfl
   simp only[gx,Int.toNat_natCast]
   rw[ZcO hx]at pI
   have cI:=pI.sz
   rw[Zke]at cI
   have tq:=Ze1 (k:=4) (t:=t)
   have rb:=Ze1 (k:=4) (t:=x)
   have iq:ZbS (some (⟨bb,0,none⟩:Addr)) (Int.toNat 1) c2 8=some ⟨bb,0+8,none⟩:=by
    unfold ZbS
    have:Nat.beq c2 1=false:=by
     cases hb:Nat.beq c2 1 with
     | false=>rfl
     | true=>have:=Nat.eq_of_beq_eq_true hb;omega
    show(bif Nat.beq c2 1 then _ else some (Addr.add _ (1*8)))=_
    rw[this,Zcb];rfl
   refine⟨_,_,iq,⟨by omega,by omega⟩,_,_,_,_,_,_,_,_,by rw[show 0+8+k*8=0+(k+1)*8 by omega];exact qI,fun b4=>Zaa rfl (Zam (Zmw 4 t x (.inr rfl) m2 hZ ((cK x (by simp[List.mem_of_getElem? hx])).mono (Mem.le_trans eR bN)) (by omega) (by omega)) Zb8 (ZgY fun t' m3 cG hr' ht'=>⟨by trivial,by trivial,rest.length - (k+1),by omega,k+1,t',by omega,rfl,rfl,Mem.le_trans bN cG,hr',?_,by omega⟩))⟩
   obtain⟨a3,c3,ht'⟩:=ht'
   rw[ht'];exact pI.step _ _
end Go.Proofs.Ytplacemlpkhmfaa

