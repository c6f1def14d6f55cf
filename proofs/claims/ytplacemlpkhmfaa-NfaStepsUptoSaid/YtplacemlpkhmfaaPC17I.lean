/- Part of the proof: conditions and contracts of functions of this program. No condition of its own. -/
import Derived.Test.YtplacemlpkhmfaaPC17G
import Derived.Test.YtplacemlpkhmfaaPC17H
import Derived.Test.YtplacemlpkhmfaaPC13B
import Derived.Test.YtplacemlpkhmfaaMr
set_option linter.unusedVariables false
set_option linter.unusedSimpArgs false
namespace Go.Proofs.Ytplacemlpkhmfaa
open Go Go.Eng Go.Rx Go.Proofs Go.RowKit
set_option maxRecDepth 100000
theorem Zr6{f:Nat}{v:Value}{m:Mem}(h:SlN (Zcf f) v m):SlI true (ZbZ f) v m:=by
 obtain⟨a,c,rfl,h2,h3⟩:=h
 refine⟨a,c,by simp[ZbZ],?_,by have:=Znp f;omega,fun _ e=>h3 (by simpa[ZbZ]using e)⟩
 have e:Zaq (ZbZ f)=ZbX (Zcf f):=by simp[Zaq,ZbZ,ZbX]
 rw[e];exact h2
theorem ZsU(f:Nat)(b o:Nat)(m:Mem)(hb:m.reads b o (bwL f)):CX Try.prog 62 #[.pointer (some ⟨b,o,none⟩)] m [] (fun v m' _=>SlI true (ZbZ f) v m'∧NewS m v):=
 (ZnN f b o m hb).mono fun _ _ _ _ h=>⟨Zr6 h.1,h.2⟩
theorem Zmk(f:Nat)(b o:Nat)(m:Mem)(hb:m.reads b o (bwL f)):CX Try.prog 62 #[.pointer (some ⟨b,o,none⟩)] m [] (fun v m' _=>SlI true (ZbZ f) v m'):=
 (ZsO f b o m hb).mono fun _ _ _ _ h=>Zr6 h
theorem Zvz(m:Mem):NfR true nf0 (.agg #[.slice none 0 0,.slice none 0 0,.slice none 0 0,.slice none 0 0,.bool false]) m:=
 ⟨_,_,_,_,rfl,⟨none,0,rfl,.inl rfl,by simp[nf0],fun _ _=>rfl⟩,⟨none,0,[],rfl,.inl rfl,rfl,by simp[nf0],fun i v l hv=>by simp at hv⟩,⟨none,0,rfl,.inl rfl,by simp[nf0],fun _ _=>rfl⟩,⟨none,0,rfl,.inl rfl,by simp[nf0],fun _ _=>rfl⟩⟩
def NfE(A:Nf)(e:Int):Value→Mem→List (List Value)→Prop:=fun v m' _=>∃w,v=.tuple #[w,.int .i64 e]∧NfR true A w m'
theorem Zh9{m:Mem}{b o:Nat}{l r:List Value}(h:m.reads b o (l++r)):m.reads b o l:=fun j v hv=>h j v (by rw[List.getElem?_append_left (List.getElem?_eq_some_iff.1 hv).1];exact hv)
theorem Zju{m:Mem}{b o:Nat}{l r:List Value}(h:m.reads b o (l++r)):m.reads b (o+l.length) r:=fun j v hv=>by
 have:=h (l.length+j) v (by rw[List.getElem?_append_right (by omega),Nat.add_sub_cancel_left];exact hv)
 rwa [←Nat.add_assoc]at this
theorem Zud(t:T)(m:Mem)(hr:Rep m t):CX Try.prog 14 #[t.v] m [] (NfE t.ofN t.ofE):=by
 apply Zrd
 unfold ZnH
 intro b m1 bD _ kS jp b1
 have dS:=Rep.mono bD t hr
 refine⟨t.isNone,Zab (fun h=>?_) (fun h=>⟨rfl,?_⟩),?_⟩
 ·refine Zah (Zt1 t T0 m1 dS (Zu0 m1)) fun m2 bZ=>⟨rfl,?_⟩
  unfold T.isNone;rw[h,Bool.true_and]
 ·unfold T.isNone;rw[h,Bool.false_and]
 refine Zab (fun h=>?_) (fun h=>?_)
 ·refine⟨_,bD,Mem.le_refl _,_,by unfold T.ofE;rw[if_pos h],?_⟩
  unfold T.ofN;rw[if_pos h];exact Zvz _
 have eN:t.ofN=if t.nfit then t.auto else nf0:=by unfold T.ofN;rw[h];rfl
 have eE:t.ofE=if t.nfit then 0 else 170:=by unfold T.ofE;rw[h];rfl
 refine⟨!t.nfit,?_,?_⟩
 ·refine Zah (ZsK t m1 dS) fun m2 bZ=>Zab (fun hc=>⟨rfl,?_⟩) (fun hc=>?_)
  ·have:t.clean=false:=by simpa using hc
   unfold T.nfit;rw[this];rfl
  have hc':t.clean=true:=by simpa using hc
  refine Zdo (Zt0 t m2 (Rep.mono bZ t dS)) fun m3 cD=>Zab (fun hz=>⟨rfl,?_⟩) (fun hz=>?_)
  ·have:¬t.size≤120:=by have:=of_decide_eq_true hz;omega
   unfold T.nfit;simp[this]
  have hz':t.size≤120:=by have:=of_decide_eq_false hz;omega
  refine Zdo (ZlO t m3 (Rep.mono cD t (Rep.mono bZ t dS))) fun m4 dC=>⟨rfl,?_⟩
  refine congrArg (fun z=>[Value.bool z]) ?_
  unfold T.nfit;rw[hc',Bool.eq_iff_iff];simp[hz']
 refine Zab (fun hb=>?_) (fun hb b4=>?_)
 ·have:t.nfit=false:=by simpa using hb
  refine⟨_,bD,Mem.le_refl _,_,by rw[eE,this];rfl,?_⟩
  rw[eN,this];exact Zvz _
 have eG:t.nfit=true:=by simpa using hb
 rw[eN,eE,eG]
 simp only[if_true]
 have kh:=eG
 unfold T.nfit at kh
 simp only[Bool.and_eq_true,decide_eq_true_eq]at kh
 obtain⟨hc,_,hp⟩:=kh
 have ge:=hc
 unfold T.clean at ge
 simp only[Bool.and_eq_true,List.all_eq_true]at ge
 have ib:t.pos≤400:=by unfold T.positions at hp;rw[ge.1]at hp;simpa using hp
 have mC:=Zj2 t ge.2 (by omega) ⟨[],[]⟩
 have hN:(mk t ⟨[],[]⟩).2.sets.length≤448:=by rw[mC];simp;omega
 have hY:∀k,¬Yof (.slice none 0 0) (.slice none 0 0) k:=by
  rintro k (h|h) <;> simp[Tok.blk]at h
 have cV:MkRow m1 (.slice none 0 0) (.slice none 0 0) ⟨[],[]⟩:=⟨.inl ⟨rfl,rfl⟩,.inl ⟨rfl,rfl⟩,fun b hb=>by simp[Tok.blk]at hb⟩
 have cI:MsOk ⟨[],[]⟩:=⟨rfl,fun j x hj=>by simp at hj⟩
 have oQ:Rep (m1.off (Yof (.slice none 0 0) (.slice none 0 0))) t:=Rep.mono (fun b o v hv=>by rw[Mem.off_at (hY b)];exact hv) t dS
 have cH:=MkSt.refl cV cI (Mem.le_refl m1)
 have hg:=Zd4 t ⟨[],[]⟩ cI
 refine lentC (Zr5 t ge.2 ⟨[],[]⟩ b4 none none 0 0 0 0 m1 cV cI oQ hN) Zb9 (ZfU cH hg.ok fun m3 a3 n3 c3 a4 n4 c4 cW=>?_)
 generalize lp:mk t ⟨[],[]⟩=r at *
 obtain⟨p,s'⟩:=r
 have oR:t.auto=ZtU (p,s'):=by unfold T.auto;rw[lp]
 have jM:m.le m3:=Mem.le_trans bD (Mem.le_trans (fun b o v hv=>by rw[Mem.off_at (hY b)];exact hv) (Mem.le_trans cW.base (Mem.off_le m3 _)))
 intro b6 m4 dC vA
 have mD:m4.reads b6 0 (bwL p.first++(bwL p.last++[Value.bool p.null])):=vA
 have hF:=Zh9 mD
 have hL:m4.reads b6 7 (bwL p.last):=by have:=Zh9 (Zju mD);rwa [Znh,Nat.zero_add]at this
 obtain⟨rfl,oz,_⟩:=Zkm cW.row.row0 (fun e=>by rw[List.eq_nil_of_length_eq_zero e];rfl)
 obtain⟨rfl,jh,_⟩:=Zkm cW.row.row1 (fun e=>by rw[List.eq_nil_of_length_eq_zero e];rfl)
 have oS:s'.sets=[]→a3=none:=fun e=>by
  rcases cW.row.row0 with⟨_,h2⟩|⟨_,_,_,_,h3⟩
  ·simp only[Value.slice.injEq]at h2;exact h2.1
  ·rw[e]at h3;simp at h3
 refine⟨fun i _ _=>if i=5 then(fun v m' _=>SlI true (ZbZ p.first) v m')else(fun v m' _=>SlI true (ZbZ p.last) v m'),Zas (v:=.slice a3 s'.sets.length c3) rfl ?_⟩
 refine⟨_,rfl,Zmk p.first b6 0 m4 hF,ZbB,fun a5 n5 c5 m5 cX vB=>?_⟩
 refine⟨_,rfl,Zmk p.last b6 7 m5 (hL.mono cX),ZbB,fun a6 n6 c6 m6 fQ i9=>?_⟩
 refine⟨.bool p.null,by simpa using mD 14 _ rfl,Zaa rfl (Zaa rfl (Zaa rfl (Zaa rfl fun b7=>Zaa rfl fun M j8 nh kW=>⟨by trivial,Zas (v:=.slice a4 s'.fol.length c4) rfl (Zaa rfl ?_)⟩)))⟩
 have kB:m3.le M:=Mem.le_trans dC j8
 have vC:SlI true (ZbZ p.first) (.slice a5 n5 c5) M:=(show SlI true (ZbZ p.first) _ m5 from vB).mono nh
 have vD:SlI true (ZbZ p.last) (.slice a6 n6 c6) M:=(show SlI true (ZbZ p.last) _ m6 from i9).mono kW
 have bY:s'.fol.length≤448:=by rw[hg.ok.len];exact hN
 have tN:s'.sets.length≤448:=hN
 refine⟨fun xs css tvs m' q=>∃(k:Nat)(a:Option Addr)(c:Nat),k≤s'.fol.length∧xs=[.int .i64 k]∧css=[[.slice a3 s'.sets.length c3,.slice a k c,.slice a5 n5 c5,.slice a6 n6 c6,.bool p.null]]∧tvs=[.slice a k c]∧M.le m'∧FolG m' a ((s'.fol.map ZbZ).take k)∧q=s'.fol.length - k,⟨_,0,none,0,Nat.zero_le _,rfl,rfl,rfl,Mem.le_refl _,⟨[],.inl rfl,rfl,fun i v l hv=>by simp at hv⟩,rfl⟩,?_⟩
 rintro z cs a n c m7 q _ ⟨k,a',c',hk,hz,cF,dB,ni,hG,hq⟩
 obtain rfl:z=k:=by simpa using hz
 obtain rfl:cs=_:=by simpa using cF
 simp only[List.cons.injEq,Value.slice.injEq,and_true]at dB
 obtain⟨rfl,rfl,rfl⟩:=dB
 subst hq
 refine Zab (fun bV=>?_) (fun cK=>?_)
 ·have bF:n < s'.fol.length:=by have:=of_decide_eq_true bV;simp only[slN]at this;omega
  obtain⟨x,hx⟩:=Zam bF
  have oT:=jh.mono (Mem.le_trans kB ni)
  rcases oT with h0|⟨fb,fo,gz,dU⟩
  ·have:=congrArg List.length h0
   rw[Zhg]at this;simp at this;omega
  rw[ZpO hx,List.append_assoc]at dU
  have vE:m7.reads fb (fo+n*7) (bwL x):=by
   have:=Zh9 (Zju dU)
   rwa [Zhg,List.length_take,Nat.min_eq_left (by omega)]at this
  refine Zaa rfl ⟨fb,fo,gz,⟨by omega,by show(n:Int) < (s'.fol.length:Nat);omega⟩,_,_,_,_,_,_,_,(by rw[Int.toNat_natCast];exact vE),fun b9=>Zaa rfl fun m8 kj oU=>⟨fun _ _ _=>(fun v m' _=>SlI true (ZbZ x) v m'),Zas (v:=.slice a n c) rfl ⟨_,rfl,Zmk x b9 0 m8 oU,ZbB,fun a10 n10 c10 m9 oV vF b10 rV=>Zaa rfl ?_⟩⟩⟩
  obtain⟨ws,dT,dE,iv⟩:=hG
  have gD:((s'.fol.map ZbZ).take n).length=n:=by rw[List.length_take,List.length_map];omega
  have fR:=Mem.le_add rV [Value.slice a10 n10 c10]
  refine⟨.inl rfl,ws,[.slice a10 n10 c10],by rw[dE,gD];simp[slN],rfl,((dT.mono kj).mono oV).mono fR,Zfk,by simp[Value.oneCell'],by show(n+1)*24≤_;omega,by show n+1≤_;omega,fun a11 c11 m10 km rW _=>Zaa rfl fun M2 jz lz pX kV=>⟨by trivial,by trivial,by trivial,_,by omega,n+1,a11,c11,bF,by rw[Zau (by omega) (by omega)];rfl,rfl,rfl,Mem.le_trans ni (Mem.le_trans kj jz),?_,rfl⟩⟩
  have e:(s'.fol.map ZbZ).take (n+1)=(s'.fol.map ZbZ).take n++[ZbZ x]:=by rw[List.take_add_one,List.getElem?_map,hx];rfl
  rw[e]
  exact Zrg dE iv (Mem.le_trans kj jz) rW kV ((show SlI true (ZbZ x) _ m9 from vF).mono lz)
 ·have:n=s'.fol.length:=by have:=of_decide_eq_false cK;simp only[slN]at this;omega
  subst this
  have jW:(s'.fol.map ZbZ).take s'.fol.length=s'.fol.map ZbZ:=List.take_of_length_le (by simp)
  rw[jW]at hG
  obtain⟨ws,dT,dE,iv⟩:=hG
  have cC:m.le m7:=Mem.le_trans jM (Mem.le_trans kB ni)
  refine Zaa rfl ⟨_,cC,Mem.le_refl _,_,rfl,?_⟩
  rw[oR]
  exact⟨_,_,_,_,rfl,⟨a3,c3,rfl,(oz.mono kB).mono ni,by show s'.sets.length≤_;omega,fun _ e=>oS e⟩,⟨a,c,ws,by show _=Value.slice a (s'.fol.map ZbZ).length c;rw[List.length_map],dT,dE,by show(s'.fol.map ZbZ).length≤_;rw[List.length_map];omega,iv⟩,vC.mono ni,vD.mono ni⟩
end Go.Proofs.Ytplacemlpkhmfaa

