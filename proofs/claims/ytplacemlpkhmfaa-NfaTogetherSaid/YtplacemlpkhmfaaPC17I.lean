/- Part of the proof: conditions and contracts of functions of this program. No condition of its own. -/
import Derived.Test.YtplacemlpkhmfaaPC17G
import Derived.Test.YtplacemlpkhmfaaPC17H
import Derived.Test.YtplacemlpkhmfaaPC13B
import Derived.Test.YtplacemlpkhmfaaMr
set_option linter.unusedVariables false
set_option linter.unusedSimpArgs false
namespace Go.Proofs.Ytplacemlpkhmfaa
open Go Go.Eng Go.Rx Go.Proofs Go.RowKit
set_option maxRecDepth 100000
theorem Zvz{f:Nat}{v:Value}{m:Mem}(h:SlN (ZcS f) v m):SlI true (ZbJ f) v m:=by
 obtain⟨a,c,rfl,h2,h3⟩:=h
 refine⟨a,c,by simp[ZbJ],?_,by have:=Zod f;omega,fun _ e=>h3 (by simpa[ZbJ]using e)⟩
 have e:ZaM (ZbJ f)=ZoR (ZcS f):=by simp[ZaM,ZbJ,ZoR]
 rw[e];exact h2
theorem Zk9(f:Nat)(b o:Nat)(m:Mem)(hb:m.reads b o (bwL f)):CX Try.prog 62 #[.pointer (some ⟨b,o,none⟩)] m [] (fun v m' _=>SlI true (ZbJ f) v m'):=
 (Zud f b o m hb).mono fun _ _ _ _ h=>Zvz h
theorem Zw1(m:Mem):NfR true nf0 (.agg #[.slice none 0 0,.slice none 0 0,.slice none 0 0,.slice none 0 0,.bool false]) m:=
 ⟨_,_,_,_,rfl,⟨none,0,rfl,.inl rfl,by simp[nf0],fun _ _=>rfl⟩,⟨none,0,[],rfl,.inl rfl,rfl,by simp[nf0],fun i v l hv=>by simp at hv⟩,⟨none,0,rfl,.inl rfl,by simp[nf0],fun _ _=>rfl⟩,⟨none,0,rfl,.inl rfl,by simp[nf0],fun _ _=>rfl⟩⟩
def NfE(A:Nf)(e:Int):Value→Mem→List (List Value)→Prop:=fun v m' _=>∃w,v=.tuple #[w,.int .i64 e]∧NfR true A w m'
theorem ZiU{m:Mem}{b o:Nat}{l r:List Value}(h:m.reads b o (l++r)):m.reads b o l:=fun j v hv=>h j v (by rw[List.getElem?_append_left (List.getElem?_eq_some_iff.1 hv).1];exact hv)
theorem Zj8{m:Mem}{b o:Nat}{l r:List Value}(h:m.reads b o (l++r)):m.reads b (o+l.length) r:=fun j v hv=>by
 have:=h (l.length+j) v (by rw[List.getElem?_append_right (by omega),Nat.add_sub_cancel_left];exact hv)
 rwa [←Nat.add_assoc]at this
theorem ZsE(t:T)(m:Mem)(hr:Rep m t):CX Try.prog 14 #[t.v] m [] (NfE t.ofN t.ofE):=by
 apply ZsC
 unfold ZoU
 intro b m1 bJ _ kV jp b1
 have eF:=Rep.mono bJ t hr
 refine⟨t.isNone,Zaa (fun h=>?_) (fun h=>⟨rfl,?_⟩),?_⟩
 ·refine Zai (Zvm t T0 m1 eF (Zn2 m1)) fun m2 bP=>⟨rfl,?_⟩
  unfold T.isNone;rw[h,Bool.true_and]
 ·unfold T.isNone;rw[h,Bool.false_and]
 refine Zaa (fun h=>?_) (fun h=>?_)
 ·refine⟨_,bJ,Mem.le_refl _,_,by unfold T.ofE;rw[if_pos h],?_⟩
  unfold T.ofN;rw[if_pos h];exact Zw1 _
 have eN:t.ofN=if t.nfit then t.auto else nf0:=by unfold T.ofN;rw[h];rfl
 have eE:t.ofE=if t.nfit then 0 else 170:=by unfold T.ofE;rw[h];rfl
 refine⟨!t.nfit,?_,?_⟩
 ·refine Zai (ZiT t m1 eF) fun m2 bP=>Zaa (fun hc=>⟨rfl,?_⟩) (fun hc=>?_)
  ·have:t.clean=false:=by simpa using hc
   unfold T.nfit;rw[this];rfl
  have hc':t.clean=true:=by simpa using hc
  refine Zdv (Zte t m2 (Rep.mono bP t eF)) fun m3 cJ=>Zaa (fun hz=>⟨rfl,?_⟩) (fun hz=>?_)
  ·have:¬t.size≤120:=by have:=of_decide_eq_true hz;omega
   unfold T.nfit;simp[this]
  have hz':t.size≤120:=by have:=of_decide_eq_false hz;omega
  refine Zdv (Zid t m3 (Rep.mono cJ t (Rep.mono bP t eF))) fun m4 cY=>⟨rfl,?_⟩
  refine congrArg (fun z=>[Value.bool z]) ?_
  unfold T.nfit;rw[hc',Bool.eq_iff_iff];simp[hz']
 refine Zaa (fun hb=>?_) (fun hb b4=>?_)
 ·have:t.nfit=false:=by simpa using hb
  refine⟨_,bJ,Mem.le_refl _,_,by rw[eE,this];rfl,?_⟩
  rw[eN,this];exact Zw1 _
 have eI:t.nfit=true:=by simpa using hb
 rw[eN,eE,eI]
 simp only[if_true]
 have ko:=eI
 unfold T.nfit at ko
 simp only[Bool.and_eq_true,decide_eq_true_eq]at ko
 obtain⟨hc,_,hp⟩:=ko
 have eT:=hc
 unfold T.clean at eT
 simp only[Bool.and_eq_true,List.all_eq_true]at eT
 have gU:t.pos≤400:=by unfold T.positions at hp;rw[eT.1]at hp;simpa using hp
 have mK:=ZiM t eT.2 (by omega) ⟨[],[]⟩
 have hN:(mk t ⟨[],[]⟩).2.sets.length≤448:=by rw[mK];simp;omega
 have hY:∀k,¬Yof (.slice none 0 0) (.slice none 0 0) k:=by
  rintro k (h|h) <;> simp[Tok.blk]at h
 have bQ:MkRow m1 (.slice none 0 0) (.slice none 0 0) ⟨[],[]⟩:=⟨.inl ⟨rfl,rfl⟩,.inl ⟨rfl,rfl⟩,fun b hb=>by simp[Tok.blk]at hb⟩
 have cH:MsOk ⟨[],[]⟩:=⟨rfl,fun j x hj=>by simp at hj⟩
 have o6:Rep (m1.off (Yof (.slice none 0 0) (.slice none 0 0))) t:=Rep.mono (fun b o v hv=>by rw[Mem.off_at (hY b)];exact hv) t eF
 have cL:=MkSt.refl bQ cH (Mem.le_refl m1)
 have hg:=Zd1 t ⟨[],[]⟩ cH
 refine lentC (Ztl t eT.2 ⟨[],[]⟩ b4 none none 0 0 0 0 m1 bQ cH o6 hN) ZcE (ZgB cL hg.ok fun m3 a3 n3 c3 a4 n4 c4 cV=>?_)
 generalize lk:mk t ⟨[],[]⟩=r at *
 obtain⟨p,s'⟩:=r
 have o7:t.auto=Zu8 (p,s'):=by unfold T.auto;rw[lk]
 have iI:m.le m3:=Mem.le_trans bJ (Mem.le_trans (fun b o v hv=>by rw[Mem.off_at (hY b)];exact hv) (Mem.le_trans cV.base (Mem.off_le m3 _)))
 intro b6 m4 cY v8
 have mL:m4.reads b6 0 (bwL p.first++(bwL p.last++[Value.bool p.null])):=v8
 have hF:=ZiU mL
 have hL:m4.reads b6 7 (bwL p.last):=by have:=ZiU (Zj8 mL);rwa [Zn8,Nat.zero_add]at this
 obtain⟨rfl,rF,_⟩:=Zk6 cV.row.row0 (fun e=>by rw[List.eq_nil_of_length_eq_zero e];rfl)
 obtain⟨rfl,gB,_⟩:=Zk6 cV.row.row1 (fun e=>by rw[List.eq_nil_of_length_eq_zero e];rfl)
 have o8:s'.sets=[]→a3=none:=fun e=>by
  rcases cV.row.row0 with⟨_,h2⟩|⟨_,_,_,_,h3⟩
  ·simp only[Value.slice.injEq]at h2;exact h2.1
  ·rw[e]at h3;simp at h3
 refine⟨fun i _ _=>if i=5 then(fun v m' _=>SlI true (ZbJ p.first) v m')else(fun v m' _=>SlI true (ZbJ p.last) v m'),Zan (v:=.slice a3 s'.sets.length c3) rfl ?_⟩
 refine⟨_,rfl,Zk9 p.first b6 0 m4 hF,Zd4,fun a5 n5 c5 m5 eA v9=>?_⟩
 refine⟨_,rfl,Zk9 p.last b6 7 m5 (hL.mono eA),Zd4,fun a6 n6 c6 m6 i8 sk=>?_⟩
 refine⟨.bool p.null,by simpa using mL 14 _ rfl,Zab rfl (Zab rfl (Zab rfl (Zab rfl fun b7=>Zab rfl fun M jI sr nw=>⟨by trivial,Zan (v:=.slice a4 s'.fol.length c4) rfl (Zab rfl ?_)⟩)))⟩
 have ss:m3.le M:=Mem.le_trans cY jI
 have wb:SlI true (ZbJ p.first) (.slice a5 n5 c5) M:=(show SlI true (ZbJ p.first) _ m5 from v9).mono sr
 have wd:SlI true (ZbJ p.last) (.slice a6 n6 c6) M:=(show SlI true (ZbJ p.last) _ m6 from sk).mono nw
 have bO:s'.fol.length≤448:=by rw[hg.ok.len];exact hN
 have t7:s'.sets.length≤448:=hN
 refine⟨fun xs css tvs m' q=>∃(k:Nat)(a:Option Addr)(c:Nat),k≤s'.fol.length∧xs=[.int .i64 k]∧css=[[.slice a3 s'.sets.length c3,.slice a k c,.slice a5 n5 c5,.slice a6 n6 c6,.bool p.null]]∧tvs=[.slice a k c]∧M.le m'∧FolG m' a ((s'.fol.map ZbJ).take k)∧q=s'.fol.length - k,⟨_,0,none,0,Nat.zero_le _,rfl,rfl,rfl,Mem.le_refl _,⟨[],.inl rfl,rfl,fun i v l hv=>by simp at hv⟩,rfl⟩,?_⟩
 rintro z cs a n c m7 q _ ⟨k,a',c',hk,hz,cG,dF,lF,hG,hq⟩
 obtain rfl:z=k:=by simpa using hz
 obtain rfl:cs=_:=by simpa using cG
 simp only[List.cons.injEq,Value.slice.injEq,and_true]at dF
 obtain⟨rfl,rfl,rfl⟩:=dF
 subst hq
 refine Zaa (fun bM=>?_) (fun cR=>?_)
 ·have bL:n < s'.fol.length:=by have:=of_decide_eq_true bM;simp only[slN]at this;omega
  obtain⟨x,hx⟩:=ZaN bL
  have o9:=gB.mono (Mem.le_trans ss lF)
  rcases o9 with h0|⟨fb,fo,j4,ib⟩
  ·have:=congrArg List.length h0
   rw[ZhW]at this;simp at this;omega
  rw[ZqU hx,List.append_assoc]at ib
  have we:m7.reads fb (fo+n*7) (bwL x):=by
   have:=ZiU (Zj8 ib)
   rwa [ZhW,List.length_take,Nat.min_eq_left (by omega)]at this
  refine Zab rfl ⟨fb,fo,j4,⟨by omega,by show(n:Int) < (s'.fol.length:Nat);omega⟩,_,_,_,_,_,_,_,(by rw[Int.toNat_natCast];exact we),fun b9=>Zab rfl fun m8 kp pb=>⟨fun _ _ _=>(fun v m' _=>SlI true (ZbJ x) v m'),Zan (v:=.slice a n c) rfl ⟨_,rfl,Zk9 x b9 0 m8 pb,Zd4,fun a10 n10 c10 m9 nA wg b10 su=>Zab rfl ?_⟩⟩⟩
  obtain⟨ws,eJ,eH,jG⟩:=hG
  have gf:((s'.fol.map ZbJ).take n).length=n:=by rw[List.length_take,List.length_map];omega
  have kn:=Mem.le_add su [Value.slice a10 n10 c10]
  refine⟨.inl rfl,ws,[.slice a10 n10 c10],by rw[eH,gf];simp[slN],rfl,((eJ.mono kp).mono nA).mono kn,Zj7,by simp[Value.oneCell'],by show(n+1)*24≤_;omega,by show n+1≤_;omega,fun a11 c11 m10 jz sw _=>Zab rfl fun M2 oZ sn v7 sq=>⟨by trivial,by trivial,by trivial,_,by omega,n+1,a11,c11,bL,by rw[ZaA (by omega) (by omega)];rfl,rfl,rfl,Mem.le_trans lF (Mem.le_trans kp oZ),?_,rfl⟩⟩
  have e:(s'.fol.map ZbJ).take (n+1)=(s'.fol.map ZbJ).take n++[ZbJ x]:=by rw[List.take_add_one,List.getElem?_map,hx];rfl
  rw[e]
  exact ZoZ eH jG (Mem.le_trans kp oZ) sw sq ((show SlI true (ZbJ x) _ m9 from wg).mono sn)
 ·have:n=s'.fol.length:=by have:=of_decide_eq_false cR;simp only[slN]at this;omega
  subst this
  have jU:(s'.fol.map ZbJ).take s'.fol.length=s'.fol.map ZbJ:=List.take_of_length_le (by simp)
  rw[jU]at hG
  obtain⟨ws,eJ,eH,jG⟩:=hG
  have bV:m.le m7:=Mem.le_trans iI (Mem.le_trans ss lF)
  refine Zab rfl ⟨_,bV,Mem.le_refl _,_,rfl,?_⟩
  rw[o7]
  exact⟨_,_,_,_,rfl,⟨a3,c3,rfl,(rF.mono ss).mono lF,by show s'.sets.length≤_;omega,fun _ e=>o8 e⟩,⟨a,c,ws,by show _=Value.slice a (s'.fol.map ZbJ).length c;rw[List.length_map],eJ,eH,by show(s'.fol.map ZbJ).length≤_;rw[List.length_map];omega,jG⟩,wb.mono lF,wd.mono lF⟩
end Go.Proofs.Ytplacemlpkhmfaa

