/- Part of the proof: conditions and contracts of functions of this program. No condition of its own. -/
import Derived.Test.YtplacemlpkhmfaaPC17G
import Derived.Test.YtplacemlpkhmfaaPC17H
import Derived.Test.YtplacemlpkhmfaaPC13B
import Derived.Test.YtplacemlpkhmfaaMr
set_option linter.unusedVariables false
set_option linter.unusedSimpArgs false
namespace Go.Proofs.Ytplacemlpkhmfaa
open Go Go.Eng Go.Rx Go.Proofs Go.RowKit
set_option maxRecDepth 100000
theorem ZuQ{f:Nat}{v:Value}{m:Mem}(h:SlN (ZcG f) v m):SlI true (ZbX f) v m:=by
 obtain⟨a,c,rfl,h2,h3⟩:=h
 refine⟨a,c,by simp[ZbX],?_,by have:=ZnG f;omega,fun _ e=>h3 (by simpa[ZbX]using e)⟩
 have e:ZaA (ZbX f)=Zod (ZcG f):=by simp[ZaA,ZbX,Zod]
 rw[e];exact h2
theorem ZkG(f:Nat)(b o:Nat)(m:Mem)(hb:m.reads b o (bwL f)):CX Try.prog 62 #[.pointer (some ⟨b,o,none⟩)] m [] (fun v m' _=>SlI true (ZbX f) v m'):=
 (Ztr f b o m hb).mono fun _ _ _ _ h=>ZuQ h
theorem ZuR(m:Mem):NfR true nf0 (.agg #[.slice none 0 0,.slice none 0 0,.slice none 0 0,.slice none 0 0,.bool false]) m:=
 ⟨_,_,_,_,rfl,⟨none,0,rfl,.inl rfl,by simp[nf0],fun _ _=>rfl⟩,⟨none,0,[],rfl,.inl rfl,rfl,by simp[nf0],fun i v l hv=>by simp at hv⟩,⟨none,0,rfl,.inl rfl,by simp[nf0],fun _ _=>rfl⟩,⟨none,0,rfl,.inl rfl,by simp[nf0],fun _ _=>rfl⟩⟩
def NfE(A:Nf)(e:Int):Value→Mem→List (List Value)→Prop:=fun v m' _=>∃w,v=.tuple #[w,.int .i64 e]∧NfR true A w m'
theorem Ziu{m:Mem}{b o:Nat}{l r:List Value}(h:m.reads b o (l++r)):m.reads b o l:=fun j v hv=>h j v (by rw[List.getElem?_append_left (List.getElem?_eq_some_iff.1 hv).1];exact hv)
theorem ZjJ{m:Mem}{b o:Nat}{l r:List Value}(h:m.reads b o (l++r)):m.reads b (o+l.length) r:=fun j v hv=>by
 have:=h (l.length+j) v (by rw[List.getElem?_append_right (by omega),Nat.add_sub_cancel_left];exact hv)
 rwa [←Nat.add_assoc]at this
theorem ZtM(t:T)(m:Mem)(hr:Rep m t):CX Try.prog 14 #[t.v] m [] (NfE t.ofN t.ofE):=by
 apply ZrT
 unfold Zog
 intro b m1 bH _ kn iP b1
 have eB:=Rep.mono bH t hr
 refine⟨t.isNone,Zab (fun h=>?_) (fun h=>⟨rfl,?_⟩),?_⟩
 ·refine Zaj (Zuz t T0 m1 eB (Zs8 m1)) fun m2 bN=>⟨rfl,?_⟩
  unfold T.isNone;rw[h,Bool.true_and]
 ·unfold T.isNone;rw[h,Bool.false_and]
 refine Zab (fun h=>?_) (fun h=>?_)
 ·refine⟨_,bH,Mem.le_refl _,_,by unfold T.ofE;rw[if_pos h],?_⟩
  unfold T.ofN;rw[if_pos h];exact ZuR _
 have eN:t.ofN=if t.nfit then t.auto else nf0:=by unfold T.ofN;rw[h];rfl
 have eE:t.ofE=if t.nfit then 0 else 170:=by unfold T.ofE;rw[h];rfl
 refine⟨!t.nfit,?_,?_⟩
 ·refine Zaj (Zmv t m1 eB) fun m2 bN=>Zab (fun hc=>⟨rfl,?_⟩) (fun hc=>?_)
  ·have:t.clean=false:=by simpa using hc
   unfold T.nfit;rw[this];rfl
  have hc':t.clean=true:=by simpa using hc
  refine ZdM (Zuy t m2 (Rep.mono bN t eB)) fun m3 cG=>Zab (fun hz=>⟨rfl,?_⟩) (fun hz=>?_)
  ·have:¬t.size≤120:=by have:=of_decide_eq_true hz;omega
   unfold T.nfit;simp[this]
  have hz':t.size≤120:=by have:=of_decide_eq_false hz;omega
  refine ZdM (Zl6 t m3 (Rep.mono cG t (Rep.mono bN t eB))) fun m4 cY=>⟨rfl,?_⟩
  refine congrArg (fun z=>[Value.bool z]) ?_
  unfold T.nfit;rw[hc',Bool.eq_iff_iff];simp[hz']
 refine Zab (fun hb=>?_) (fun hb b4=>?_)
 ·have:t.nfit=false:=by simpa using hb
  refine⟨_,bH,Mem.le_refl _,_,by rw[eE,this];rfl,?_⟩
  rw[eN,this];exact ZuR _
 have dE:t.nfit=true:=by simpa using hb
 rw[eN,eE,dE]
 simp only[if_true]
 have ka:=dE
 unfold T.nfit at ka
 simp only[Bool.and_eq_true,decide_eq_true_eq]at ka
 obtain⟨hc,_,hp⟩:=ka
 have fM:=hc
 unfold T.clean at fM
 simp only[Bool.and_eq_true,List.all_eq_true]at fM
 have gy:t.pos≤400:=by unfold T.positions at hp;rw[fM.1]at hp;simpa using hp
 have mj:=Zik t fM.2 (by omega) ⟨[],[]⟩
 have hN:(mk t ⟨[],[]⟩).2.sets.length≤448:=by rw[mj];simp;omega
 have hY:∀k,¬Yof (.slice none 0 0) (.slice none 0 0) k:=by
  rintro k (h|h) <;> simp[Tok.blk]at h
 have bM:MkRow m1 (.slice none 0 0) (.slice none 0 0) ⟨[],[]⟩:=⟨.inl ⟨rfl,rfl⟩,.inl ⟨rfl,rfl⟩,fun b hb=>by simp[Tok.blk]at hb⟩
 have cD:MsOk ⟨[],[]⟩:=⟨rfl,fun j x hj=>by simp at hj⟩
 have oD:Rep (m1.off (Yof (.slice none 0 0) (.slice none 0 0))) t:=Rep.mono (fun b o v hv=>by rw[Mem.off_at (hY b)];exact hv) t eB
 have cF:=MkSt.refl bM cD (Mem.le_refl m1)
 have hg:=ZdO t ⟨[],[]⟩ cD
 refine lentC (ZsB t fM.2 ⟨[],[]⟩ b4 none none 0 0 0 0 m1 bM cD oD hN) Zcu (Zgm cF hg.ok fun m3 a3 n3 c3 a4 n4 c4 cT=>?_)
 generalize kW:mk t ⟨[],[]⟩=r at *
 obtain⟨p,s'⟩:=r
 have oE:t.auto=Zut (p,s'):=by unfold T.auto;rw[kW]
 have iq:m.le m3:=Mem.le_trans bH (Mem.le_trans (fun b o v hv=>by rw[Mem.off_at (hY b)];exact hv) (Mem.le_trans cT.base (Mem.off_le m3 _)))
 intro b6 m4 cY vH
 have ml:m4.reads b6 0 (bwL p.first++(bwL p.last++[Value.bool p.null])):=vH
 have hF:=Ziu ml
 have hL:m4.reads b6 7 (bwL p.last):=by have:=Ziu (ZjJ ml);rwa [Znz,Nat.zero_add]at this
 obtain⟨rfl,rd,_⟩:=ZkC cT.row.row0 (fun e=>by rw[List.eq_nil_of_length_eq_zero e];rfl)
 obtain⟨rfl,i7,_⟩:=ZkC cT.row.row1 (fun e=>by rw[List.eq_nil_of_length_eq_zero e];rfl)
 have oF:s'.sets=[]→a3=none:=fun e=>by
  rcases cT.row.row0 with⟨_,h2⟩|⟨_,_,_,_,h3⟩
  ·simp only[Value.slice.injEq]at h2;exact h2.1
  ·rw[e]at h3;simp at h3
 refine⟨fun i _ _=>if i=5 then(fun v m' _=>SlI true (ZbX p.first) v m')else(fun v m' _=>SlI true (ZbX p.last) v m'),Zap (v:=.slice a3 s'.sets.length c3) rfl ?_⟩
 refine⟨_,rfl,ZkG p.first b6 0 m4 hF,ZfM,fun a5 n5 c5 m5 dX vI=>?_⟩
 refine⟨_,rfl,ZkG p.last b6 7 m5 (hL.mono dX),ZfM,fun a6 n6 c6 m6 gu ll=>?_⟩
 refine⟨.bool p.null,by simpa using ml 14 _ rfl,Zaa rfl (Zaa rfl (Zaa rfl (Zaa rfl fun b7=>Zaa rfl fun M jB vJ mV=>⟨by trivial,Zap (v:=.slice a4 s'.fol.length c4) rfl (Zaa rfl ?_)⟩)))⟩
 have rT:m3.le M:=Mem.le_trans cY jB
 have vK:SlI true (ZbX p.first) (.slice a5 n5 c5) M:=(show SlI true (ZbX p.first) _ m5 from vI).mono vJ
 have vL:SlI true (ZbX p.last) (.slice a6 n6 c6) M:=(show SlI true (ZbX p.last) _ m6 from ll).mono mV
 have bO:s'.fol.length≤448:=by rw[hg.ok.len];exact hN
 have tH:s'.sets.length≤448:=hN
 refine⟨fun xs css tvs m' q=>∃(k:Nat)(a:Option Addr)(c:Nat),k≤s'.fol.length∧xs=[.int .i64 k]∧css=[[.slice a3 s'.sets.length c3,.slice a k c,.slice a5 n5 c5,.slice a6 n6 c6,.bool p.null]]∧tvs=[.slice a k c]∧M.le m'∧FolG m' a ((s'.fol.map ZbX).take k)∧q=s'.fol.length - k,⟨_,0,none,0,Nat.zero_le _,rfl,rfl,rfl,Mem.le_refl _,⟨[],.inl rfl,rfl,fun i v l hv=>by simp at hv⟩,rfl⟩,?_⟩
 rintro z cs a n c m7 q _ ⟨k,a',c',hk,hz,cH,dA,mX,hG,hq⟩
 obtain rfl:z=k:=by simpa using hz
 obtain rfl:cs=_:=by simpa using cH
 simp only[List.cons.injEq,Value.slice.injEq,and_true]at dA
 obtain⟨rfl,rfl,rfl⟩:=dA
 subst hq
 refine Zab (fun bK=>?_) (fun cS=>?_)
 ·have bJ:n < s'.fol.length:=by have:=of_decide_eq_true bK;simp only[slN]at this;omega
  obtain⟨x,hx⟩:=ZaE bJ
  have oG:=i7.mono (Mem.le_trans rT mX)
  rcases oG with h0|⟨fb,fo,fX,fL⟩
  ·have:=congrArg List.length h0
   rw[ZhC]at this;simp at this;omega
  rw[Zqj hx,List.append_assoc]at fL
  have vM:m7.reads fb (fo+n*7) (bwL x):=by
   have:=Ziu (ZjJ fL)
   rwa [ZhC,List.length_take,Nat.min_eq_left (by omega)]at this
  refine Zaa rfl ⟨fb,fo,fX,⟨by omega,by show(n:Int) < (s'.fol.length:Nat);omega⟩,_,_,_,_,_,_,_,(by rw[Int.toNat_natCast];exact vM),fun b9=>Zaa rfl fun m8 kp oH=>⟨fun _ _ _=>(fun v m' _=>SlI true (ZbX x) v m'),Zap (v:=.slice a n c) rfl ⟨_,rfl,ZkG x b9 0 m8 oH,ZfM,fun a10 n10 c10 m9 mY vN b10 rU=>Zaa rfl ?_⟩⟩⟩
  obtain⟨ws,eD,eC,jl⟩:=hG
  have f9:((s'.fol.map ZbX).take n).length=n:=by rw[List.length_take,List.length_map];omega
  have iF:=Mem.le_add rU [Value.slice a10 n10 c10]
  refine⟨.inl rfl,ws,[.slice a10 n10 c10],by rw[eC,f9];simp[slN],rfl,((eD.mono kp).mono mY).mono iF,Zfo,by simp[Value.oneCell'],by show(n+1)*24≤_;omega,by show n+1≤_;omega,fun a11 c11 m10 jp rV _=>Zaa rfl fun M2 oC rR vF rS=>⟨by trivial,by trivial,by trivial,_,by omega,n+1,a11,c11,bJ,by rw[Zax (by omega) (by omega)];rfl,rfl,rfl,Mem.le_trans mX (Mem.le_trans kp oC),?_,rfl⟩⟩
  have e:(s'.fol.map ZbX).take (n+1)=(s'.fol.map ZbX).take n++[ZbX x]:=by rw[List.take_add_one,List.getElem?_map,hx];rfl
  rw[e]
  exact ZrV eC jl (Mem.le_trans kp oC) rV rS ((show SlI true (ZbX x) _ m9 from vN).mono rR)
 ·have:n=s'.fol.length:=by have:=of_decide_eq_false cS;simp only[slN]at this;omega
  subst this
  have jM:(s'.fol.map ZbX).take s'.fol.length=s'.fol.map ZbX:=List.take_of_length_le (by simp)
  rw[jM]at hG
  obtain⟨ws,eD,eC,jl⟩:=hG
  have cC:m.le m7:=Mem.le_trans iq (Mem.le_trans rT mX)
  refine Zaa rfl ⟨_,cC,Mem.le_refl _,_,rfl,?_⟩
  rw[oE]
  exact⟨_,_,_,_,rfl,⟨a3,c3,rfl,(rd.mono rT).mono mX,by show s'.sets.length≤_;omega,fun _ e=>oF e⟩,⟨a,c,ws,by show _=Value.slice a (s'.fol.map ZbX).length c;rw[List.length_map],eD,eC,by show(s'.fol.map ZbX).length≤_;rw[List.length_map];omega,jl⟩,vK.mono mX,vL.mono mX⟩
end Go.Proofs.Ytplacemlpkhmfaa

