/- Part of the proof: conditions and contracts of functions of this program. No condition of its own. -/
import Derived.Test.YtplacemlpkhmfaaPC17E
import Derived.Test.YtplacemlpkhmfaaMr
set_option linter.unusedVariables false
set_option linter.unusedSimpArgs false
namespace Go.Proofs.Ytplacemlpkhmfaa
open Go Go.Eng Go.Rx Go.Proofs Go.RowKit
set_option maxRecDepth 100000
theorem Zp2{m m':Mem}(Y:Nat→Prop)(h:m.le m'):(m.off Y).le (m'.off Y):=fun b o v hv=>by
 unfold Mem.off at hv ⊢
 split at hv
 ·cases hv
 ·rename_i hY;rw[if_neg hY];exact h _ _ _ hv
theorem Zt9{m:Mem}{Y:Nat→Prop}{b:Nat}(h:m.free b):(m.off Y).free b:=fun o=>by
 unfold Mem.off;split
 ·rfl
 ·exact h o
structure MkSt (m:Mem)(v0 v1:Value)(m':Mem)(v0' v1':Value)(s':Ms):Prop where
 row:MkRow m' v0' v1' s'
 base:(m.off (Yof v0 v1)).le (m'.off (Yof v0' v1'))
 new:∀b,Yof v0' v1' b→Yof v0 v1 b∨m.free b
 ok:MsOk s'
theorem MkSt.step{m m' m'':Mem}{v0 v1 v0' v1' v0'' v1'':Value}{s' s'':Ms}(h:MkSt m v0 v1 m' v0' v1' s')(cQ:(m'.off (Yof v0' v1')).le m'')(hr:MkRow m'' v0'' v1'' s'')(hn:∀b,Yof v0'' v1'' b→Yof v0' v1' b∨m'.free b)(hs:MsOk s''):MkSt m v0 v1 m'' v0'' v1'' s'':=by
 refine⟨hr,Mem.le_trans h.base (Znl cQ hn),fun b hb=>?_,hs⟩
 rcases hn b hb with h1|h1
 ·exact h.new b h1
 ·by_cases hY:Yof v0 v1 b
  ·exact .inl hY
  ·refine .inr fun o=>?_
   have h2:=Zp1 h.base (b:=b) (Zt9 h1) o
   rwa [Mem.off_at hY]at h2
theorem MkSt.mono{m m' m'':Mem}{v0 v1 v0' v1':Value}{s':Ms}(h:MkSt m v0 v1 m' v0' v1' s')(hm:m'.le m''):MkSt m v0 v1 m'' v0' v1' s':=
 ⟨h.row.mono hm,Mem.le_trans h.base (Zp2 _ hm),h.new,h.ok⟩
theorem MkSt.refl{m m':Mem}{v0 v1:Value}{s:Ms}(h:MkRow m v0 v1 s)(hs:MsOk s)(hm:m.le m'):MkSt m v0 v1 m' v0 v1 s:=
 ⟨h.mono hm,Zp2 _ hm,fun b hb=>.inl hb,hs⟩
theorem lentC{P:Program}{g:FuncId}{args:Array Value}{m:Mem}{v0 v1:Value}{xs:List Box}{R0:Value→Mem→List (List Value)→List Value→Prop}{Q:Nat→Prop}{F:Shape}{K:(Nat→Prop)→(Value→Mem→List (List Value)→List Value→Prop)→Prop}(h:CXY P g args m (Yof v0 v1) xs [⟨v0,4⟩,⟨v1,7⟩] R0)(hf:∀v m' css tvs,R0 v m' css tvs→Shape.fits F v=true)(k:K (Yof v0 v1) R0):
  ∃(Y1:Nat→Prop) (R:Value→Mem→List (List Value)→List Value→Prop),CXY P g args m Y1 xs [⟨v0,4⟩,⟨v1,7⟩] R∧(∀t:Tok,t∈[Tok.mk v0 4,Tok.mk v1 7]→∀b,t.blk=some b→Y1 b)∧(∀b,Y1 b→(∃t:Tok,t∈[Tok.mk v0 4,Tok.mk v1 7]∧t.blk=some b)∨Q b)∧(∀v m' css tvs,R v m' css tvs→Shape.fits F v=true)∧K Y1 R:=by
 refine⟨_,_,h,fun t ht b hb=>?_,fun b hb=>.inl ?_,hf,k⟩
 ·simp only[List.mem_cons,List.not_mem_nil,or_false]at ht
  rcases ht with rfl|rfl
  ·exact .inl hb
  ·exact .inr hb
 ·rcases hb with hb|hb
  ·exact⟨_,by simp,hb⟩
  ·exact⟨_,by simp,hb⟩
abbrev Zvy:=Int→Int→Int→Int→Int→Int→Int→Int→Int→Int→Int→Int→Int→Int→Bool→Mem→List Value→Option Addr→Nat→Nat→Option Addr→Nat→Nat→Prop
theorem Zb9{t0 t1:Value}{m:Mem}{r:Pt×Ms}:∀v m' css tvs,MkR t0 t1 m r v m' css tvs→Shape.fits (.agg [.int .u64,.int .u64,.int .u64,.int .u64,.int .u64,.int .u64,.int .u64,.int .u64,.int .u64,.int .u64,.int .u64,.int .u64,.int .u64,.int .u64,.bool]) v=true:=by
 rintro v m' css tvs ⟨a,n,c,a1,n1,c1,rfl,_⟩;rfl
theorem ZdE{t0 t1:Value}{s:Ms}{p:Pt}:∀v m' css tvs,Zrm t0 t1 s p.v v m' css tvs→Shape.fits (.agg [.int .u64,.int .u64,.int .u64,.int .u64,.int .u64,.int .u64,.int .u64,.int .u64,.int .u64,.int .u64,.int .u64,.int .u64,.int .u64,.int .u64,.bool]) v=true:=by
 rintro v m' css tvs ⟨rfl,_⟩;rfl
theorem ZfU{m0 mm:Mem}{w0 w1 v0 v1:Value}{s:Ms}{r:Pt×Ms}{K:Zvy}(cH:MkSt m0 w0 w1 mm v0 v1 s)(gB:MsOk r.2)
  (k:∀(m':Mem)(a:Option Addr)(n c:Nat)(a1:Option Addr)(n1 c1:Nat),MkSt m0 w0 w1 m' (.slice a n c) (.slice a1 n1 c1) r.2→K (wdN r.1.first 0:Nat) (wdN r.1.first 1:Nat) (wdN r.1.first 2:Nat) (wdN r.1.first 3:Nat) (wdN r.1.first 4:Nat) (wdN r.1.first 5:Nat) (wdN r.1.first 6:Nat) (wdN r.1.last 0:Nat) (wdN r.1.last 1:Nat) (wdN r.1.last 2:Nat) (wdN r.1.last 3:Nat) (wdN r.1.last 4:Nat) (wdN r.1.last 5:Nat) (wdN r.1.last 6:Nat) r.1.null m' [.slice a n c,.slice a1 n1 c1] a n c a1 n1 c1):
  ∀(n0 n1 n2 n3 n4 n5 n6 n7 n8 n9 n10 n11 n12 n13:Int)(b:Bool)(m':Mem),(mm.off (Yof v0 v1)).le m'→(∀(b o:Nat)(u:Value),m' b o=some u→mm b o=some u∨Yof v0 v1 b∨mm.free b)→∀(cs:List Value)(a:Option Addr)(c d:Nat)(a1:Option Addr)(c1 d1:Nat),
   MkR v0 v1 mm r (.agg #[.int .u64 n0,.int .u64 n1,.int .u64 n2,.int .u64 n3,.int .u64 n4,.int .u64 n5,.int .u64 n6,.int .u64 n7,.int .u64 n8,.int .u64 n9,.int .u64 n10,.int .u64 n11,.int .u64 n12,.int .u64 n13,.bool b]) m' [cs] [.slice a c d,.slice a1 c1 d1]→K n0 n1 n2 n3 n4 n5 n6 n7 n8 n9 n10 n11 n12 n13 b m' cs a c d a1 c1 d1:=by
 rintro n0 n1 n2 n3 n4 n5 n6 n7 n8 n9 n10 n11 n12 n13 b m' cQ _ cs a c d a1 c1 d1 ⟨a',n',c',a1',n1',c1',hv,cF,dB,cV,cZ⟩
 obtain rfl:cs=[.slice a' n' c',.slice a1' n1' c1']:=by simpa using cF
 simp only[List.cons.injEq,Value.slice.injEq,and_true]at dB
 obtain⟨⟨rfl,rfl,rfl⟩,rfl,rfl,rfl⟩:=dB
 simp only[Pt.v,Value.agg.injEq,Array.mk.injEq,List.cons.injEq,Value.int.injEq,Value.bool.injEq,true_and,and_true]at hv
 obtain⟨rfl,rfl,rfl,rfl,rfl,rfl,rfl,rfl,rfl,rfl,rfl,rfl,rfl,rfl,rfl⟩:=hv
 exact k _ _ _ _ _ _ _ (cH.step cQ cV cZ gB)
theorem ZlY{m0 mm:Mem}{w0 w1 v0 v1:Value}{s s2:Ms}{p:Pt}{K:Zvy}(cH:MkSt m0 w0 w1 mm v0 v1 s)(gB:MsOk s2)
  (k:∀(m':Mem)(a:Option Addr)(n c:Nat)(a1:Option Addr)(n1 c1:Nat),MkSt m0 w0 w1 m' (.slice a n c) (.slice a1 n1 c1) s2→K (wdN p.first 0:Nat) (wdN p.first 1:Nat) (wdN p.first 2:Nat) (wdN p.first 3:Nat) (wdN p.first 4:Nat) (wdN p.first 5:Nat) (wdN p.first 6:Nat) (wdN p.last 0:Nat) (wdN p.last 1:Nat) (wdN p.last 2:Nat) (wdN p.last 3:Nat) (wdN p.last 4:Nat) (wdN p.last 5:Nat) (wdN p.last 6:Nat) p.null m' [.slice a n c,.slice a1 n1 c1] a n c a1 n1 c1):
  ∀(n0 n1 n2 n3 n4 n5 n6 n7 n8 n9 n10 n11 n12 n13:Int)(b:Bool)(m':Mem),(mm.off (Yof v0 v1)).le m'→(∀(b o:Nat)(u:Value),m' b o=some u→mm b o=some u∨Yof v0 v1 b∨mm.free b)→∀(cs:List Value)(a:Option Addr)(c d:Nat)(a1:Option Addr)(c1 d1:Nat),
   Zrm v0 v1 s2 p.v (.agg #[.int .u64 n0,.int .u64 n1,.int .u64 n2,.int .u64 n3,.int .u64 n4,.int .u64 n5,.int .u64 n6,.int .u64 n7,.int .u64 n8,.int .u64 n9,.int .u64 n10,.int .u64 n11,.int .u64 n12,.int .u64 n13,.bool b]) m' [cs] [.slice a c d,.slice a1 c1 d1]→K n0 n1 n2 n3 n4 n5 n6 n7 n8 n9 n10 n11 n12 n13 b m' cs a c d a1 c1 d1:=by
 rintro n0 n1 n2 n3 n4 n5 n6 n7 n8 n9 n10 n11 n12 n13 b m' cQ _ cs a c d a1 c1 d1 ⟨hv,cF,dB,cV⟩
 simp only[List.cons.injEq,and_true]at dB
 obtain⟨rfl,rfl⟩:=dB
 obtain rfl:cs=[.slice a c d,.slice a1 c1 d1]:=by simpa using cF
 simp only[Pt.v,Value.agg.injEq,Array.mk.injEq,List.cons.injEq,Value.int.injEq,Value.bool.injEq,true_and,and_true]at hv
 obtain⟨rfl,rfl,rfl,rfl,rfl,rfl,rfl,rfl,rfl,rfl,rfl,rfl,rfl,rfl,rfl⟩:=hv
 exact k _ _ _ _ _ _ _ (cH.step cQ cV (fun b hb=>.inl hb) gB)
def MkC(t:T):Prop:=∀(s:Ms)(mkb:Nat)(t0a t1a:Option Addr)(t0n t0c t1n t1c:Nat)(m:Mem),MkRow m (.slice t0a t0n t0c) (.slice t1a t1n t1c) s→MsOk s→Rep (m.off (Yof (.slice t0a t0n t0c) (.slice t1a t1n t1c))) t→(mk t s).2.sets.length≤448→
 CXY Try.prog 61 #[.pointer (some ⟨mkb,0,none⟩),t.v] m (Yof (.slice t0a t0n t0c) (.slice t1a t1n t1c)) [⟨mkb,[.slice t0a t0n t0c,.slice t1a t1n t1c],98,2,false,true⟩] [⟨.slice t0a t0n t0c,4⟩,⟨.slice t1a t1n t1c,7⟩] (MkR (.slice t0a t0n t0c) (.slice t1a t1n t1c) m (mk t s))
theorem MkSt.out{m m':Mem}{v0 v1:Value}{s':Ms}{a:Option Addr}{n c:Nat}{a1:Option Addr}{n1 c1:Nat}{r:Pt×Ms}{w:Value}(h:MkSt m v0 v1 m' (.slice a n c) (.slice a1 n1 c1) s')(hw:w=r.1.v)(hs:s'=r.2):MkR v0 v1 m r w m' [[.slice a n c,.slice a1 n1 c1]] [.slice a n c,.slice a1 n1 c1]:=
 ⟨a,n,c,a1,n1,c1,hw,rfl,rfl,hs ▸ h.row,h.new⟩
theorem Zua(t:T)(ih:∀x∈t.subs,MkC x)(s:Ms)(c0b mkb:Nat)(t0a t1a:Option Addr)(t0n t0c t1n t1c:Nat)(m:Mem)(h:MkRow m (.slice t0a t0n t0c) (.slice t1a t1n t1c) s)(hs:MsOk s)(hr:Rep (m.off (Yof (.slice t0a t0n t0c) (.slice t1a t1n t1c))) t)(lA:(m.off (Yof (.slice t0a t0n t0c) (.slice t1a t1n t1c))) c0b 0=some (.pointer (some ⟨mkb,0,none⟩)))(hN:(ZgL t.subs ⟨0,0,true⟩ s).2.sets.length≤448):
  CXY Try.prog 138 #[t.v,.pointer (some ⟨c0b,0,none⟩)] m (Yof (.slice t0a t0n t0c) (.slice t1a t1n t1c)) [⟨mkb,[.slice t0a t0n t0c,.slice t1a t1n t1c],98,2,false,true⟩] [⟨.slice t0a t0n t0c,4⟩,⟨.slice t1a t1n t1c,7⟩]
   (MkR (.slice t0a t0n t0c) (.slice t1a t1n t1c) m (ZgL t.subs ⟨0,0,true⟩ s)):=by
 apply ZdB
 unfold Zci
 intro b0 m1 bD _ kS jp b1 b2
 have bY:=(Zdd hr).1
 refine⟨fun xs css tvs m' q=>∃(k:Nat)(out:Pt)(s':Ms)(a:Option Addr)(n c:Nat)(a1:Option Addr)(n1 c1:Nat),k≤t.subs.length∧xs=[.int .i64 k]∧css=[out.cs,[.slice a n c,.slice a1 n1 c1]]∧tvs=[.slice a n c,.slice a1 n1 c1]∧q=t.subs.length - k∧MkSt m (.slice t0a t0n t0c) (.slice t1a t1n t1c) m' (.slice a n c) (.slice a1 n1 c1) s'∧PtIn s'.sets.length out∧ZgL (t.subs.drop k) out s'=ZgL t.subs ⟨0,0,true⟩ s,
  ⟨_,0,⟨0,0,true⟩,s,t0a,t0n,t0c,t1a,t1n,t1c,Nat.zero_le _,rfl,rfl,rfl,rfl,MkSt.refl h hs bD,ZbK _ _,rfl⟩,?_⟩
 rintro x cs cs1 a n c a1 n1 c1 m2 q _ ⟨k,out,s',a',n',c',a1',n1',c1',hk,hx,cF,dB,hq,cH,lD,heq⟩
 obtain rfl:x=k:=by simpa using hx
 simp only[List.cons.injEq,and_true]at cF
 obtain⟨rfl,rfl⟩:=cF
 simp only[List.cons.injEq,Value.slice.injEq,and_true]at dB
 obtain⟨⟨rfl,rfl,rfl⟩,rfl,rfl,rfl⟩:=dB
 subst hq
 refine Zab (fun bV=>?_) (fun cK=>?_)
 ·have bF:k < t.subs.length:=by have:=of_decide_eq_true bV;omega
  obtain⟨y,hy⟩:∃y,t.subs[k]?=some y:=⟨t.subs[k],by simp[bF]⟩
  rcases(Zdd hr).2 with he|⟨bt,ot,gm,mB⟩
  ·rw[he]at bF;simp at bF
  obtain⟨cO,lE⟩:=mB.get hy
  have eF:=(cO.mono cH.base).mono (Mem.off_le m2 _)
  have eL:=ZoL hy out s'
  have fE:=Zd4 y s' cH.ok
  have oM:=Zeq fE.ok (lD.mono fE.le) fE.pt
  have hZ:=Zer (t.subs.drop (k+1)) _ _ oM.ok oM.pt
  rw[←eL,heq]at hZ
  have jJ:(mk y s').2.sets.length≤448:=Nat.le_trans oM.le (Nat.le_trans hZ.le hN)
  refine⟨bt,ot,gm,⟨by omega,by omega⟩,_,_,_,_,_,_,_,_,(by rw[Int.toNat_natCast];exact eF),fun b3=>Zaa rfl ⟨_,lA,_,lA,?_⟩⟩
  refine lentC (ih y (List.mem_of_getElem? hy) s' mkb _ _ _ _ _ _ m2 cH.row cH.ok (Rep.mono cH.base y lE) jJ) Zb9 (ZfU cH fE.ok fun m3 a3 n3 c3 a4 n4 c4 cW=>?_)
  refine lentC (Ze9 (mk y s').2 out (mk y s').1 mkb _ _ _ _ _ _ m3 cW.row (by rw[fE.ok.len];exact jJ) (fun i hi=>by rw[fE.ok.len];exact(lD.mono fE.le).2 i hi)) ZdE (ZlY cW oM.ok fun m5 a5 n5 c5 a6 n6 c6 fS=>?_)
  refine⟨rfl,rfl,_,?_,k+1,(Zil out (mk y s').1 (mk y s').2).1,_,_,_,_,_,_,_,bF,?_,rfl,rfl,rfl,fS,oM.pt,?_⟩
  ·omega
  ·rw[Zau (by omega) (by omega)];rfl
  ·exact eL.symm.trans heq
 ·have hk':k=t.subs.length:=by have:=of_decide_eq_false cK;omega
  subst hk'
  rw[List.drop_length,ZgL]at heq
  refine Zaa rfl ⟨rfl,cH.out ?_ ?_⟩
  ·rw[←heq];rfl
  ·rw[←heq]
theorem Zub(t:T)(ih:∀x∈t.subs,MkC x)(s:Ms)(c0b mkb:Nat)(t0a t1a:Option Addr)(t0n t0c t1n t1c:Nat)(m:Mem)(h:MkRow m (.slice t0a t0n t0c) (.slice t1a t1n t1c) s)(hs:MsOk s)(hr:Rep (m.off (Yof (.slice t0a t0n t0c) (.slice t1a t1n t1c))) t)(lA:(m.off (Yof (.slice t0a t0n t0c) (.slice t1a t1n t1c))) c0b 0=some (.pointer (some ⟨mkb,0,none⟩)))(hN:(ZfG t.subs ⟨0,0,false⟩ s).2.sets.length≤448):
  CXY Try.prog 140 #[t.v,.pointer (some ⟨c0b,0,none⟩)] m (Yof (.slice t0a t0n t0c) (.slice t1a t1n t1c)) [⟨mkb,[.slice t0a t0n t0c,.slice t1a t1n t1c],98,2,false,true⟩] [⟨.slice t0a t0n t0c,4⟩,⟨.slice t1a t1n t1c,7⟩]
   (MkR (.slice t0a t0n t0c) (.slice t1a t1n t1c) m (ZfG t.subs ⟨0,0,false⟩ s)):=by
 apply ZdC
 unfold Zck
 intro b0 m1 bD _ kS jp b1 b2
 have bY:=(Zdd hr).1
 refine⟨fun xs css tvs m' q=>∃(k:Nat)(out:Pt)(s':Ms)(a:Option Addr)(n c:Nat)(a1:Option Addr)(n1 c1:Nat),k≤t.subs.length∧xs=[.int .i64 k]∧css=[out.cs,[.slice a n c,.slice a1 n1 c1]]∧tvs=[.slice a n c,.slice a1 n1 c1]∧q=t.subs.length - k∧MkSt m (.slice t0a t0n t0c) (.slice t1a t1n t1c) m' (.slice a n c) (.slice a1 n1 c1) s'∧PtIn s'.sets.length out∧ZfG (t.subs.drop k) out s'=ZfG t.subs ⟨0,0,false⟩ s,
  ⟨_,0,⟨0,0,false⟩,s,t0a,t0n,t0c,t1a,t1n,t1c,Nat.zero_le _,rfl,rfl,rfl,rfl,MkSt.refl h hs bD,ZbK _ _,rfl⟩,?_⟩
 rintro x cs cs1 a n c a1 n1 c1 m2 q _ ⟨k,out,s',a',n',c',a1',n1',c1',hk,hx,cF,dB,hq,cH,lD,heq⟩
 obtain rfl:x=k:=by simpa using hx
 simp only[List.cons.injEq,and_true]at cF
 obtain⟨rfl,rfl⟩:=cF
 simp only[List.cons.injEq,Value.slice.injEq,and_true]at dB
 obtain⟨⟨rfl,rfl,rfl⟩,rfl,rfl,rfl⟩:=dB
 subst hq
 refine Zab (fun bV=>?_) (fun cK=>?_)
 ·have bF:k < t.subs.length:=by have:=of_decide_eq_true bV;omega
  obtain⟨y,hy⟩:∃y,t.subs[k]?=some y:=⟨t.subs[k],by simp[bF]⟩
  rcases(Zdd hr).2 with he|⟨bt,ot,gm,mB⟩
  ·rw[he]at bF;simp at bF
  obtain⟨cO,lE⟩:=mB.get hy
  have eF:=(cO.mono cH.base).mono (Mem.off_le m2 _)
  have eL:=ZoM hy out s'
  have fE:=Zd4 y s' cH.ok
  have oN:=ZrW (lD.mono fE.le) fE.pt
  have hZ:=Zes (t.subs.drop (k+1)) _ _ fE.ok oN
  rw[←eL,heq]at hZ
  have jJ:(mk y s').2.sets.length≤448:=Nat.le_trans hZ.le hN
  refine⟨bt,ot,gm,⟨by omega,by omega⟩,_,_,_,_,_,_,_,_,(by rw[Int.toNat_natCast];exact eF),fun b3=>Zaa rfl ⟨_,Mem.off_le _ _ _ _ _ (cH.base _ _ _ lA),?_⟩⟩
  refine lentC (ih y (List.mem_of_getElem? hy) s' mkb _ _ _ _ _ _ m2 cH.row cH.ok (Rep.mono cH.base y lE) jJ) Zb9 (ZfU cH fE.ok fun m3 a3 n3 c3 a4 n4 c4 cW b6=>?_)
  refine⟨_,trivial,ZnL out.first (mk y s').1.first b2 102 15 [] (bwL out.last++[Value.bool out.null]) m3 (by omega),fun v _ _ h=>by rw[h.1];rfl,fun m4 dC cs1 ja=>?_⟩
  obtain rfl:cs1=_:=by simpa using ja.2
  refine⟨_,trivial,ZnL out.last (mk y s').1.last b2 102 15 (bwL (out.first|||(mk y s').1.first)) [Value.bool out.null] m4 (by omega),fun v _ _ h=>by rw[h.1];rfl,fun m5 cX cs2 ka=>?_⟩
  obtain rfl:cs2=_:=by simpa using ka.2
  have fS:=cW.mono (Mem.le_trans dC cX)
  have fin:∀cs:List Value,cs=(ZvF out (mk y s').1).cs→∃n',n' < t.subs.length - k∧(fun(xs:List Value) (css:List (List Value)) (tvs:List Value) (m':Mem) (q:Nat)=>∃(k:Nat)(out:Pt)(s':Ms)(a:Option Addr)(n c:Nat)(a1:Option Addr)(n1 c1:Nat),k≤t.subs.length∧xs=[.int .i64 k]∧css=[out.cs,[.slice a n c,.slice a1 n1 c1]]∧tvs=[.slice a n c,.slice a1 n1 c1]∧q=t.subs.length - k∧MkSt m (.slice t0a t0n t0c) (.slice t1a t1n t1c) m' (.slice a n c) (.slice a1 n1 c1) s'∧PtIn s'.sets.length out∧ZfG (t.subs.drop k) out s'=ZfG t.subs ⟨0,0,false⟩ s) [.int .i64 (IntKind.i64.wrap ((k:Int)+1))] [cs,[.slice a3 n3 c3,.slice a4 n4 c4]] [.slice a3 n3 c3,.slice a4 n4 c4] m5 n':=fun cs cF=>
   ⟨_,by omega,k+1,ZvF out (mk y s').1,_,_,_,_,_,_,_,bF,by rw[Zau (by omega) (by omega)];rfl,by rw[cF],rfl,rfl,fS,oN,eL.symm.trans heq⟩
  obtain⟨of,ol,on⟩:=out
  refine Zas (v:=.bool on) rfl ?_
  generalize wp:(mk y s').1=r1 at fin ⊢
  obtain⟨rf,rl,rn⟩:=r1
  cases on <;> cases rn
  ·exact Zaa rfl (Zbo rfl (Zaa rfl ⟨rfl,rfl,fin _ rfl⟩))
  ·exact Zaa rfl (Zbo rfl (Zaa rfl ⟨rfl,rfl,fin _ rfl⟩))
  ·exact Zaa rfl (Zcc rfl (Zaa rfl ⟨rfl,rfl,fin _ rfl⟩))
  ·exact Zaa rfl (Zcc rfl (Zaa rfl ⟨rfl,rfl,fin _ rfl⟩))
 ·have hk':k=t.subs.length:=by have:=of_decide_eq_false cK;omega
  subst hk'
  rw[List.drop_length,ZfG]at heq
  refine Zaa rfl ⟨rfl,cH.out ?_ ?_⟩
  ·rw[←heq];rfl
  ·rw[←heq]
theorem Zrn(t:T)(ht:t.subs.length=1)(ih:∀x∈t.subs,MkC x)(s:Ms)(c0b mkb:Nat)(t0a t1a:Option Addr)(t0n t0c t1n t1c:Nat)(m:Mem)(h:MkRow m (.slice t0a t0n t0c) (.slice t1a t1n t1c) s)(hs:MsOk s)(hr:Rep (m.off (Yof (.slice t0a t0n t0c) (.slice t1a t1n t1c))) t)(lA:(m.off (Yof (.slice t0a t0n t0c) (.slice t1a t1n t1c))) c0b 0=some (.pointer (some ⟨mkb,0,none⟩)))(hN:(ZlH t.subs s).2.sets.length≤448):
  CXY Try.prog 143 #[t.v,.pointer (some ⟨c0b,0,none⟩)] m (Yof (.slice t0a t0n t0c) (.slice t1a t1n t1c)) [⟨mkb,[.slice t0a t0n t0c,.slice t1a t1n t1c],98,2,false,true⟩] [⟨.slice t0a t0n t0c,4⟩,⟨.slice t1a t1n t1c,7⟩]
   (MkR (.slice t0a t0n t0c) (.slice t1a t1n t1c) m (ZlH t.subs s)):=by
 apply ZdD
 unfold Zcl
 intro b0 m1 bD _ kS jp b1
 have cH:=MkSt.refl h hs bD
 obtain⟨y,hy⟩:∃y,t.subs[0]?=some y:=⟨t.subs[0],by simp[ht]⟩
 have vu:ZlH t.subs s=mk y s:=by
  cases hl:t.subs with
  | nil=>rw[hl]at hy;simp at hy
  | cons z l=>rw[hl]at hy;simp at hy;subst hy;rw[ZlH]
 rw[vu]at hN ⊢
 rcases(Zdd hr).2 with he|⟨bt,ot,gm,mB⟩
 ·rw[he]at ht;simp at ht
 obtain⟨cO,lE⟩:=mB.get hy
 have eF:=(cO.mono cH.base).mono (Mem.off_le m1 _)
 have fE:=Zd4 y s hs
 refine⟨fun _ _ _ _ _ _=>True,_,bD _ _ _ (Mem.off_le _ _ _ _ _ lA),bt,ot,gm,⟨by omega,by omega⟩,_,_,_,_,_,_,_,_,(by rw[Nat.zero_mul]at eF;exact eF),?_⟩
 refine lentC (ih y (List.mem_of_getElem? hy) s mkb _ _ _ _ _ _ m1 cH.row cH.ok (Rep.mono cH.base y lE) hN) Zb9 (ZfU cH fE.ok fun m3 a3 n3 c3 a4 n4 c4 cW=>?_)
 exact⟨rfl,cW.out rfl rfl⟩
end Go.Proofs.Ytplacemlpkhmfaa

