/- Part of the proof: conditions and contracts of functions of this program. No condition of its own. -/
import Derived.Test.YtplacemlpkhmfaaPC17G
import Derived.Test.YtplacemlpkhmfaaPC17H
import Derived.Test.YtplacemlpkhmfaaPC13B
import Derived.Test.YtplacemlpkhmfaaMr
set_option linter.unusedVariables false
set_option linter.unusedSimpArgs false
namespace Go.Proofs.Ytplacemlpkhmfaa
open Go Go.Eng Go.Rx Go.Proofs Go.RowKit
set_option maxRecDepth 100000
theorem Zxc{f:Nat}{v:Value}{m:Mem}(h:SlN (ZcI f) v m):SlI true (Zbn f) v m:=by
 obtain⟨a,c,rfl,h2,h3⟩:=h
 refine⟨a,c,by simp[Zbn],?_,by have:=Zo6 f;omega,fun _ e=>h3 (by simpa[Zbn]using e)⟩
 have e:ZaA (Zbn f)=ZpS (ZcI f):=by simp[ZaA,Zbn,ZpS]
 rw[e];exact h2
theorem ZjF(f:Nat)(b o:Nat)(m:Mem)(hb:m.reads b o (bwL f)):CX Try.prog 62 #[.pointer (some ⟨b,o,none⟩)] m [] (fun v m' _=>SlI true (Zbn f) v m'):=
 (ZvH f b o m hb).mono fun _ _ _ _ h=>Zxc h
theorem Zyw(m:Mem):NfR true nf0 (.agg #[.slice none 0 0,.slice none 0 0,.slice none 0 0,.slice none 0 0,.bool false]) m:=
 ⟨_,_,_,_,rfl,⟨none,0,rfl,.inl rfl,by simp[nf0],fun _ _=>rfl⟩,⟨none,0,[],rfl,.inl rfl,rfl,by simp[nf0],fun i v l hv=>by simp at hv⟩,⟨none,0,rfl,.inl rfl,by simp[nf0],fun _ _=>rfl⟩,⟨none,0,rfl,.inl rfl,by simp[nf0],fun _ _=>rfl⟩⟩
def NfE(A:Nf)(e:Int):Value→Mem→List (List Value)→Prop:=fun v m' _=>∃w,v=.tuple #[w,.int .i64 e]∧NfR true A w m'
theorem ZjG{m:Mem}{b o:Nat}{l r:List Value}(h:m.reads b o (l++r)):m.reads b o l:=fun j v hv=>h j v (by rw[List.getElem?_append_left (List.getElem?_eq_some_iff.1 hv).1];exact hv)
theorem Zk8{m:Mem}{b o:Nat}{l r:List Value}(h:m.reads b o (l++r)):m.reads b (o+l.length) r:=fun j v hv=>by
 have:=h (l.length+j) v (by rw[List.getElem?_append_right (by omega),Nat.add_sub_cancel_left];exact hv)
 rwa [←Nat.add_assoc]at this
theorem Zv2(t:T)(m:Mem)(hr:Rep m t):CX Try.prog 14 #[t.v] m [] (NfE t.ofN t.ofE):=by
 apply ZtK
 unfold ZpV
 intro b m1 bJ _ kF jA b1
 have eO:=Rep.mono bJ t hr
 refine⟨t.isNone,Zab (fun h=>?_) (fun h=>⟨rfl,?_⟩),?_⟩
 ·refine Zak (Zuw t T0 m1 eO (ZwE m1)) fun m2 bT=>⟨rfl,?_⟩
  unfold T.isNone;rw[h,Bool.true_and]
 ·unfold T.isNone;rw[h,Bool.false_and]
 refine Zab (fun h=>?_) (fun h=>?_)
 ·refine⟨_,bJ,Mem.le_refl _,_,by unfold T.ofE;rw[if_pos h],?_⟩
  unfold T.ofN;rw[if_pos h];exact Zyw _
 have eN:t.ofN=if t.nfit then t.auto else nf0:=by unfold T.ofN;rw[h];rfl
 have eE:t.ofE=if t.nfit then 0 else 170:=by unfold T.ofE;rw[h];rfl
 refine⟨!t.nfit,?_,?_⟩
 ·refine Zak (Zse t m1 eO) fun m2 bT=>Zab (fun hc=>⟨rfl,?_⟩) (fun hc=>?_)
  ·have:t.clean=false:=by simpa using hc
   unfold T.nfit;rw[this];rfl
  have hc':t.clean=true:=by simpa using hc
  refine ZcB (Zuu t m2 (Rep.mono bT t eO)) fun m3 cH=>Zab (fun hz=>⟨rfl,?_⟩) (fun hz=>?_)
  ·have:¬t.size≤120:=by have:=of_decide_eq_true hz;omega
   unfold T.nfit;simp[this]
  have hz':t.size≤120:=by have:=of_decide_eq_false hz;omega
  refine ZcB (Zgk t m3 (Rep.mono cH t (Rep.mono bT t eO))) fun m4 cQ=>⟨rfl,?_⟩
  refine congrArg (fun z=>[Value.bool z]) ?_
  unfold T.nfit;rw[hc',Bool.eq_iff_iff];simp[hz']
 refine Zab (fun hb=>?_) (fun hb b4=>?_)
 ·have:t.nfit=false:=by simpa using hb
  refine⟨_,bJ,Mem.le_refl _,_,by rw[eE,this];rfl,?_⟩
  rw[eN,this];exact Zyw _
 have dQ:t.nfit=true:=by simpa using hb
 rw[eN,eE,dQ]
 simp only[if_true]
 have kv:=dQ
 unfold T.nfit at kv
 simp only[Bool.and_eq_true,decide_eq_true_eq]at kv
 obtain⟨hc,_,hp⟩:=kv
 have fT:=hc
 unfold T.clean at fT
 simp only[Bool.and_eq_true,List.all_eq_true]at fT
 have fV:t.pos≤400:=by unfold T.positions at hp;rw[fT.1]at hp;simpa using hp
 have mP:=Zjy t fT.2 (by omega) ⟨[],[]⟩
 have hN:(mk t ⟨[],[]⟩).2.sets.length≤448:=by rw[mP];simp;omega
 have hY:∀k,¬Yof (.slice none 0 0) (.slice none 0 0) k:=by
  rintro k (h|h) <;> simp[Tok.blk]at h
 have bZ:MkRow m1 (.slice none 0 0) (.slice none 0 0) ⟨[],[]⟩:=⟨.inl ⟨rfl,rfl⟩,.inl ⟨rfl,rfl⟩,fun b hb=>by simp[Tok.blk]at hb⟩
 have cO:MsOk ⟨[],[]⟩:=⟨rfl,fun j x hj=>by simp at hj⟩
 have oV:Rep (m1.off (Yof (.slice none 0 0) (.slice none 0 0))) t:=Rep.mono (fun b o v hv=>by rw[Mem.off_at (hY b)];exact hv) t eO
 have cM:=MkSt.refl bZ cO (Mem.le_refl m1)
 have hg:=Zd8 t ⟨[],[]⟩ cO
 refine lentC (ZuE t fT.2 ⟨[],[]⟩ b4 none none 0 0 0 0 m1 bZ cO oV hN) ZcD (Zhj cM hg.ok fun m3 a3 n3 c3 a4 n4 c4 dC=>?_)
 generalize lw:mk t ⟨[],[]⟩=r at *
 obtain⟨p,s'⟩:=r
 have oW:t.auto=ZwJ (p,s'):=by unfold T.auto;rw[lw]
 have iM:m.le m3:=Mem.le_trans bJ (Mem.le_trans (fun b o v hv=>by rw[Mem.off_at (hY b)];exact hv) (Mem.le_trans dC.base (Mem.off_le m3 _)))
 intro b6 m4 cQ sm
 have mQ:m4.reads b6 0 (bwL p.first++(bwL p.last++[Value.bool p.null])):=sm
 have hF:=ZjG mQ
 have hL:m4.reads b6 7 (bwL p.last):=by have:=ZjG (Zk8 mQ);rwa [Zo1,Nat.zero_add]at this
 obtain⟨rfl,rA,_⟩:=Zl8 dC.row.row0 (fun e=>by rw[List.eq_nil_of_length_eq_zero e];rfl)
 obtain⟨rfl,gK,_⟩:=Zl8 dC.row.row1 (fun e=>by rw[List.eq_nil_of_length_eq_zero e];rfl)
 have oX:s'.sets=[]→a3=none:=fun e=>by
  rcases dC.row.row0 with⟨_,h2⟩|⟨_,_,_,_,h3⟩
  ·simp only[Value.slice.injEq]at h2;exact h2.1
  ·rw[e]at h3;simp at h3
 refine⟨fun i _ _=>if i=5 then(fun v m' _=>SlI true (Zbn p.first) v m')else(fun v m' _=>SlI true (Zbn p.last) v m'),Zam (v:=.slice a3 s'.sets.length c3) rfl ?_⟩
 refine⟨_,rfl,ZjF p.first b6 0 m4 hF,ZdG,fun a5 n5 c5 m5 cW vY=>?_⟩
 refine⟨_,rfl,ZjF p.last b6 7 m5 (hL.mono cW),ZdG,fun a6 n6 c6 m6 eV sg=>?_⟩
 refine⟨.bool p.null,by simpa using mQ 14 _ rfl,Zaa rfl (Zaa rfl (Zaa rfl (Zaa rfl fun b7=>Zaa rfl fun M eJ mI nw=>⟨by trivial,Zam (v:=.slice a4 s'.fol.length c4) rfl (Zaa rfl ?_)⟩)))⟩
 have mR:m3.le M:=Mem.le_trans cQ eJ
 have vZ:SlI true (Zbn p.first) (.slice a5 n5 c5) M:=(show SlI true (Zbn p.first) _ m5 from vY).mono mI
 have v4:SlI true (Zbn p.last) (.slice a6 n6 c6) M:=(show SlI true (Zbn p.last) _ m6 from sg).mono nw
 have bX:s'.fol.length≤448:=by rw[hg.ok.len];exact hN
 have tV:s'.sets.length≤448:=hN
 refine⟨fun xs css tvs m' q=>∃(k:Nat)(a:Option Addr)(c:Nat),k≤s'.fol.length∧xs=[.int .i64 k]∧css=[[.slice a3 s'.sets.length c3,.slice a k c,.slice a5 n5 c5,.slice a6 n6 c6,.bool p.null]]∧tvs=[.slice a k c]∧M.le m'∧FolG m' a ((s'.fol.map Zbn).take k)∧q=s'.fol.length - k,⟨_,0,none,0,Nat.zero_le _,rfl,rfl,rfl,Mem.le_refl _,⟨[],.inl rfl,rfl,fun i v l hv=>by simp at hv⟩,rfl⟩,?_⟩
 rintro z cs a n c m7 q _ ⟨k,a',c',hk,hz,cK,dE,nC,hG,hq⟩
 obtain rfl:z=k:=by simpa using hz
 obtain rfl:cs=_:=by simpa using cK
 simp only[List.cons.injEq,Value.slice.injEq,and_true]at dE
 obtain⟨rfl,rfl,rfl⟩:=dE
 subst hq
 refine Zab (fun bS=>?_) (fun cX=>?_)
 ·have bR:n < s'.fol.length:=by have:=of_decide_eq_true bS;simp only[slN]at this;omega
  obtain⟨x,hx⟩:=ZaF bR
  have lP:=gK.mono (Mem.le_trans mR nC)
  rcases lP with h0|⟨fb,fo,jE,gI⟩
  ·have:=congrArg List.length h0
   rw[ZiD]at this;simp at this;omega
  rw[ZrZ hx,List.append_assoc]at gI
  have v5:m7.reads fb (fo+n*7) (bwL x):=by
   have:=ZjG (Zk8 gI)
   rwa [ZiD,List.length_take,Nat.min_eq_left (by omega)]at this
  refine Zaa rfl ⟨fb,fo,jE,⟨by omega,by show(n:Int) < (s'.fol.length:Nat);omega⟩,_,_,_,_,_,_,_,(by rw[Int.toNat_natCast];exact v5),fun b9=>Zaa rfl fun m8 kH oY=>⟨fun _ _ _=>(fun v m' _=>SlI true (Zbn x) v m'),Zam (v:=.slice a n c) rfl ⟨_,rfl,ZjF x b9 0 m8 oY,ZdG,fun a10 n10 c10 m9 qb v6 b10 sn=>Zaa rfl ?_⟩⟩⟩
  obtain⟨ws,eR,eZ,lH⟩:=hG
  have gp:((s'.fol.map Zbn).take n).length=n:=by rw[List.length_take,List.length_map];omega
  have ku:=Mem.le_add sn [Value.slice a10 n10 c10]
  refine⟨.inl rfl,ws,[.slice a10 n10 c10],by rw[eZ,gp];simp[slN],rfl,((eR.mono kH).mono qb).mono ku,Zk7,by simp[Value.oneCell'],by show(n+1)*24≤_;omega,by show n+1≤_;omega,fun a11 c11 m10 jL sq _=>Zaa rfl fun M2 oU sj vX sk=>⟨by trivial,by trivial,by trivial,_,by omega,n+1,a11,c11,bR,by rw[Zat (by omega) (by omega)];rfl,rfl,rfl,Mem.le_trans nC (Mem.le_trans kH oU),?_,rfl⟩⟩
  have e:(s'.fol.map Zbn).take (n+1)=(s'.fol.map Zbn).take n++[Zbn x]:=by rw[List.take_add_one,List.getElem?_map,hx];rfl
  rw[e]
  exact Zp1 eZ lH (Mem.le_trans kH oU) sq sk ((show SlI true (Zbn x) _ m9 from v6).mono sj)
 ·have:n=s'.fol.length:=by have:=of_decide_eq_false cX;simp only[slN]at this;omega
  subst this
  have j3:(s'.fol.map Zbn).take s'.fol.length=s'.fol.map Zbn:=List.take_of_length_le (by simp)
  rw[j3]at hG
  obtain⟨ws,eR,eZ,lH⟩:=hG
  have cB:m.le m7:=Mem.le_trans iM (Mem.le_trans mR nC)
  refine Zaa rfl ⟨_,cB,Mem.le_refl _,_,rfl,?_⟩
  rw[oW]
  exact⟨_,_,_,_,rfl,⟨a3,c3,rfl,(rA.mono mR).mono nC,by show s'.sets.length≤_;omega,fun _ e=>oX e⟩,⟨a,c,ws,by show _=Value.slice a (s'.fol.map Zbn).length c;rw[List.length_map],eR,eZ,by show(s'.fol.map Zbn).length≤_;rw[List.length_map];omega,lH⟩,vZ.mono nC,v4.mono nC⟩
end Go.Proofs.Ytplacemlpkhmfaa

