/- Part of the proof: conditions and contracts of functions of this program. No condition of its own. -/
import Derived.Test.YtplacemlpkhmfaaPC17E
import Derived.Test.YtplacemlpkhmfaaMr
set_option linter.unusedVariables false
set_option linter.unusedSimpArgs false
namespace Go.Proofs.Ytplacemlpkhmfaa
open Go Go.Eng Go.Rx Go.Proofs Go.RowKit
set_option maxRecDepth 100000
theorem Zri{m m':Mem}(Y:Nat→Prop)(h:m.le m'):(m.off Y).le (m'.off Y):=fun b o v hv=>by
 unfold Mem.off at hv ⊢
 split at hv
 ·cases hv
 ·rename_i hY;rw[if_neg hY];exact h _ _ _ hv
theorem Zvv{m:Mem}{Y:Nat→Prop}{b:Nat}(h:m.free b):(m.off Y).free b:=fun o=>by
 unfold Mem.off;split
 ·rfl
 ·exact h o
structure MkSt (m:Mem)(v0 v1:Value)(m':Mem)(v0' v1':Value)(s':Ms):Prop where
 row:MkRow m' v0' v1' s'
 base:(m.off (Yof v0 v1)).le (m'.off (Yof v0' v1'))
 new:∀b,Yof v0' v1' b→Yof v0 v1 b∨m.free b
 ok:MsOk s'
theorem MkSt.step{m m' m'':Mem}{v0 v1 v0' v1' v0'' v1'':Value}{s' s'':Ms}(h:MkSt m v0 v1 m' v0' v1' s')(cN:(m'.off (Yof v0' v1')).le m'')(hr:MkRow m'' v0'' v1'' s'')(hn:∀b,Yof v0'' v1'' b→Yof v0' v1' b∨m'.free b)(hs:MsOk s''):MkSt m v0 v1 m'' v0'' v1'' s'':=by
 refine⟨hr,Mem.le_trans h.base (Zob cN hn),fun b hb=>?_,hs⟩
 rcases hn b hb with h1|h1
 ·exact h.new b h1
 ·by_cases hY:Yof v0 v1 b
  ·exact .inl hY
  ·refine .inr fun o=>?_
   have h2:=Zrh h.base (b:=b) (Zvv h1) o
   rwa [Mem.off_at hY]at h2
theorem MkSt.mono{m m' m'':Mem}{v0 v1 v0' v1':Value}{s':Ms}(h:MkSt m v0 v1 m' v0' v1' s')(hm:m'.le m''):MkSt m v0 v1 m'' v0' v1' s':=
 ⟨h.row.mono hm,Mem.le_trans h.base (Zri _ hm),h.new,h.ok⟩
theorem MkSt.refl{m m':Mem}{v0 v1:Value}{s:Ms}(h:MkRow m v0 v1 s)(hs:MsOk s)(hm:m.le m'):MkSt m v0 v1 m' v0 v1 s:=
 ⟨h.mono hm,Zri _ hm,fun b hb=>.inl hb,hs⟩
theorem lentC{P:Program}{g:FuncId}{args:Array Value}{m:Mem}{v0 v1:Value}{xs:List Box}{R0:Value→Mem→List (List Value)→List Value→Prop}{Q:Nat→Prop}{F:Shape}{K:(Nat→Prop)→(Value→Mem→List (List Value)→List Value→Prop)→Prop}(h:CXY P g args m (Yof v0 v1) xs [⟨v0,4⟩,⟨v1,7⟩] R0)(hf:∀v m' css tvs,R0 v m' css tvs→Shape.fits F v=true)(k:K (Yof v0 v1) R0):
  ∃(Y1:Nat→Prop) (R:Value→Mem→List (List Value)→List Value→Prop),CXY P g args m Y1 xs [⟨v0,4⟩,⟨v1,7⟩] R∧(∀t:Tok,t∈[Tok.mk v0 4,Tok.mk v1 7]→∀b,t.blk=some b→Y1 b)∧(∀b,Y1 b→(∃t:Tok,t∈[Tok.mk v0 4,Tok.mk v1 7]∧t.blk=some b)∨Q b)∧(∀v m' css tvs,R v m' css tvs→Shape.fits F v=true)∧K Y1 R:=by
 refine⟨_,_,h,fun t ht b hb=>?_,fun b hb=>.inl ?_,hf,k⟩
 ·simp only[List.mem_cons,List.not_mem_nil,or_false]at ht
  rcases ht with rfl|rfl
  ·exact .inl hb
  ·exact .inr hb
 ·rcases hb with hb|hb
  ·exact⟨_,by simp,hb⟩
  ·exact⟨_,by simp,hb⟩
abbrev Zw0:=Int→Int→Int→Int→Int→Int→Int→Int→Int→Int→Int→Int→Int→Int→Bool→Mem→List Value→Option Addr→Nat→Nat→Option Addr→Nat→Nat→Prop
theorem ZcE{t0 t1:Value}{m:Mem}{r:Pt×Ms}:∀v m' css tvs,MkR t0 t1 m r v m' css tvs→Shape.fits (.agg [.int .u64,.int .u64,.int .u64,.int .u64,.int .u64,.int .u64,.int .u64,.int .u64,.int .u64,.int .u64,.int .u64,.int .u64,.int .u64,.int .u64,.bool]) v=true:=by
 rintro v m' css tvs ⟨a,n,c,a1,n1,c1,rfl,_⟩;rfl
theorem Zen{t0 t1:Value}{s:Ms}{p:Pt}:∀v m' css tvs,Zsy t0 t1 s p.v v m' css tvs→Shape.fits (.agg [.int .u64,.int .u64,.int .u64,.int .u64,.int .u64,.int .u64,.int .u64,.int .u64,.int .u64,.int .u64,.int .u64,.int .u64,.int .u64,.int .u64,.bool]) v=true:=by
 rintro v m' css tvs ⟨rfl,_⟩;rfl
theorem ZgB{m0 mm:Mem}{w0 w1 v0 v1:Value}{s:Ms}{r:Pt×Ms}{K:Zw0}(cL:MkSt m0 w0 w1 mm v0 v1 s)(fZ:MsOk r.2)
  (k:∀(m':Mem)(a:Option Addr)(n c:Nat)(a1:Option Addr)(n1 c1:Nat),MkSt m0 w0 w1 m' (.slice a n c) (.slice a1 n1 c1) r.2→K (wdN r.1.first 0:Nat) (wdN r.1.first 1:Nat) (wdN r.1.first 2:Nat) (wdN r.1.first 3:Nat) (wdN r.1.first 4:Nat) (wdN r.1.first 5:Nat) (wdN r.1.first 6:Nat) (wdN r.1.last 0:Nat) (wdN r.1.last 1:Nat) (wdN r.1.last 2:Nat) (wdN r.1.last 3:Nat) (wdN r.1.last 4:Nat) (wdN r.1.last 5:Nat) (wdN r.1.last 6:Nat) r.1.null m' [.slice a n c,.slice a1 n1 c1] a n c a1 n1 c1):
  ∀(n0 n1 n2 n3 n4 n5 n6 n7 n8 n9 n10 n11 n12 n13:Int)(b:Bool)(m':Mem),(mm.off (Yof v0 v1)).le m'→(∀(b o:Nat)(u:Value),m' b o=some u→mm b o=some u∨Yof v0 v1 b∨mm.free b)→∀(cs:List Value)(a:Option Addr)(c d:Nat)(a1:Option Addr)(c1 d1:Nat),
   MkR v0 v1 mm r (.agg #[.int .u64 n0,.int .u64 n1,.int .u64 n2,.int .u64 n3,.int .u64 n4,.int .u64 n5,.int .u64 n6,.int .u64 n7,.int .u64 n8,.int .u64 n9,.int .u64 n10,.int .u64 n11,.int .u64 n12,.int .u64 n13,.bool b]) m' [cs] [.slice a c d,.slice a1 c1 d1]→K n0 n1 n2 n3 n4 n5 n6 n7 n8 n9 n10 n11 n12 n13 b m' cs a c d a1 c1 d1:=by
 rintro n0 n1 n2 n3 n4 n5 n6 n7 n8 n9 n10 n11 n12 n13 b m' cN _ cs a c d a1 c1 d1 ⟨a',n',c',a1',n1',c1',hv,cG,dF,bQ,cZ⟩
 obtain rfl:cs=[.slice a' n' c',.slice a1' n1' c1']:=by simpa using cG
 simp only[List.cons.injEq,Value.slice.injEq,and_true]at dF
 obtain⟨⟨rfl,rfl,rfl⟩,rfl,rfl,rfl⟩:=dF
 simp only[Pt.v,Value.agg.injEq,Array.mk.injEq,List.cons.injEq,Value.int.injEq,Value.bool.injEq,true_and,and_true]at hv
 obtain⟨rfl,rfl,rfl,rfl,rfl,rfl,rfl,rfl,rfl,rfl,rfl,rfl,rfl,rfl,rfl⟩:=hv
 exact k _ _ _ _ _ _ _ (cL.step cN bQ cZ fZ)
theorem ZmG{m0 mm:Mem}{w0 w1 v0 v1:Value}{s s2:Ms}{p:Pt}{K:Zw0}(cL:MkSt m0 w0 w1 mm v0 v1 s)(fZ:MsOk s2)
  (k:∀(m':Mem)(a:Option Addr)(n c:Nat)(a1:Option Addr)(n1 c1:Nat),MkSt m0 w0 w1 m' (.slice a n c) (.slice a1 n1 c1) s2→K (wdN p.first 0:Nat) (wdN p.first 1:Nat) (wdN p.first 2:Nat) (wdN p.first 3:Nat) (wdN p.first 4:Nat) (wdN p.first 5:Nat) (wdN p.first 6:Nat) (wdN p.last 0:Nat) (wdN p.last 1:Nat) (wdN p.last 2:Nat) (wdN p.last 3:Nat) (wdN p.last 4:Nat) (wdN p.last 5:Nat) (wdN p.last 6:Nat) p.null m' [.slice a n c,.slice a1 n1 c1] a n c a1 n1 c1):
  ∀(n0 n1 n2 n3 n4 n5 n6 n7 n8 n9 n10 n11 n12 n13:Int)(b:Bool)(m':Mem),(mm.off (Yof v0 v1)).le m'→(∀(b o:Nat)(u:Value),m' b o=some u→mm b o=some u∨Yof v0 v1 b∨mm.free b)→∀(cs:List Value)(a:Option Addr)(c d:Nat)(a1:Option Addr)(c1 d1:Nat),
   Zsy v0 v1 s2 p.v (.agg #[.int .u64 n0,.int .u64 n1,.int .u64 n2,.int .u64 n3,.int .u64 n4,.int .u64 n5,.int .u64 n6,.int .u64 n7,.int .u64 n8,.int .u64 n9,.int .u64 n10,.int .u64 n11,.int .u64 n12,.int .u64 n13,.bool b]) m' [cs] [.slice a c d,.slice a1 c1 d1]→K n0 n1 n2 n3 n4 n5 n6 n7 n8 n9 n10 n11 n12 n13 b m' cs a c d a1 c1 d1:=by
 rintro n0 n1 n2 n3 n4 n5 n6 n7 n8 n9 n10 n11 n12 n13 b m' cN _ cs a c d a1 c1 d1 ⟨hv,cG,dF,bQ⟩
 simp only[List.cons.injEq,and_true]at dF
 obtain⟨rfl,rfl⟩:=dF
 obtain rfl:cs=[.slice a c d,.slice a1 c1 d1]:=by simpa using cG
 simp only[Pt.v,Value.agg.injEq,Array.mk.injEq,List.cons.injEq,Value.int.injEq,Value.bool.injEq,true_and,and_true]at hv
 obtain⟨rfl,rfl,rfl,rfl,rfl,rfl,rfl,rfl,rfl,rfl,rfl,rfl,rfl,rfl,rfl⟩:=hv
 exact k _ _ _ _ _ _ _ (cL.step cN bQ (fun b hb=>.inl hb) fZ)
def MkC(t:T):Prop:=∀(s:Ms)(mkb:Nat)(t0a t1a:Option Addr)(t0n t0c t1n t1c:Nat)(m:Mem),MkRow m (.slice t0a t0n t0c) (.slice t1a t1n t1c) s→MsOk s→Rep (m.off (Yof (.slice t0a t0n t0c) (.slice t1a t1n t1c))) t→(mk t s).2.sets.length≤448→
 CXY Try.prog 61 #[.pointer (some ⟨mkb,0,none⟩),t.v] m (Yof (.slice t0a t0n t0c) (.slice t1a t1n t1c)) [⟨mkb,[.slice t0a t0n t0c,.slice t1a t1n t1c],98,2,false,true⟩] [⟨.slice t0a t0n t0c,4⟩,⟨.slice t1a t1n t1c,7⟩] (MkR (.slice t0a t0n t0c) (.slice t1a t1n t1c) m (mk t s))
theorem MkSt.out{m m':Mem}{v0 v1:Value}{s':Ms}{a:Option Addr}{n c:Nat}{a1:Option Addr}{n1 c1:Nat}{r:Pt×Ms}{w:Value}(h:MkSt m v0 v1 m' (.slice a n c) (.slice a1 n1 c1) s')(hw:w=r.1.v)(hs:s'=r.2):MkR v0 v1 m r w m' [[.slice a n c,.slice a1 n1 c1]] [.slice a n c,.slice a1 n1 c1]:=
 ⟨a,n,c,a1,n1,c1,hw,rfl,rfl,hs ▸ h.row,h.new⟩
theorem Zvw(t:T)(ih:∀x∈t.subs,MkC x)(s:Ms)(c0b mkb:Nat)(t0a t1a:Option Addr)(t0n t0c t1n t1c:Nat)(m:Mem)(h:MkRow m (.slice t0a t0n t0c) (.slice t1a t1n t1c) s)(hs:MsOk s)(hr:Rep (m.off (Yof (.slice t0a t0n t0c) (.slice t1a t1n t1c))) t)(lz:(m.off (Yof (.slice t0a t0n t0c) (.slice t1a t1n t1c))) c0b 0=some (.pointer (some ⟨mkb,0,none⟩)))(hN:(Zc1 t.subs ⟨0,0,true⟩ s).2.sets.length≤448):
  CXY Try.prog 138 #[t.v,.pointer (some ⟨c0b,0,none⟩)] m (Yof (.slice t0a t0n t0c) (.slice t1a t1n t1c)) [⟨mkb,[.slice t0a t0n t0c,.slice t1a t1n t1c],98,2,false,true⟩] [⟨.slice t0a t0n t0c,4⟩,⟨.slice t1a t1n t1c,7⟩]
   (MkR (.slice t0a t0n t0c) (.slice t1a t1n t1c) m (Zc1 t.subs ⟨0,0,true⟩ s)):=by
 apply Zej
 unfold ZcO
 intro b0 m1 bJ _ kV jp b1 b2
 have bO:=(ZdO hr).1
 refine⟨fun xs css tvs m' q=>∃(k:Nat)(out:Pt)(s':Ms)(a:Option Addr)(n c:Nat)(a1:Option Addr)(n1 c1:Nat),k≤t.subs.length∧xs=[.int .i64 k]∧css=[out.cs,[.slice a n c,.slice a1 n1 c1]]∧tvs=[.slice a n c,.slice a1 n1 c1]∧q=t.subs.length - k∧MkSt m (.slice t0a t0n t0c) (.slice t1a t1n t1c) m' (.slice a n c) (.slice a1 n1 c1) s'∧PtIn s'.sets.length out∧Zc1 (t.subs.drop k) out s'=Zc1 t.subs ⟨0,0,true⟩ s,
  ⟨_,0,⟨0,0,true⟩,s,t0a,t0n,t0c,t1a,t1n,t1c,Nat.zero_le _,rfl,rfl,rfl,rfl,MkSt.refl h hs bJ,ZbN _ _,rfl⟩,?_⟩
 rintro x cs cs1 a n c a1 n1 c1 m2 q _ ⟨k,out,s',a',n',c',a1',n1',c1',hk,hx,cG,dF,hq,cL,lC,heq⟩
 obtain rfl:x=k:=by simpa using hx
 simp only[List.cons.injEq,and_true]at cG
 obtain⟨rfl,rfl⟩:=cG
 simp only[List.cons.injEq,Value.slice.injEq,and_true]at dF
 obtain⟨⟨rfl,rfl,rfl⟩,rfl,rfl,rfl⟩:=dF
 subst hq
 refine Zaa (fun bM=>?_) (fun cR=>?_)
 ·have bL:k < t.subs.length:=by have:=of_decide_eq_true bM;omega
  obtain⟨y,hy⟩:∃y,t.subs[k]?=some y:=⟨t.subs[k],by simp[bL]⟩
  rcases(ZdO hr).2 with he|⟨bt,ot,f9,ii⟩
  ·rw[he]at bL;simp at bL
  obtain⟨cQ,jH⟩:=ii.get hy
  have gw:=(cQ.mono cL.base).mono (Mem.off_le m2 _)
  have cO:=ZpL hy out s'
  have fE:=Zd1 y s' cL.ok
  have oV:=Zfg fE.ok (lC.mono fE.le) fE.pt
  have gT:=Zfh (t.subs.drop (k+1)) _ _ oV.ok oV.pt
  rw[←cO,heq]at gT
  have iW:(mk y s').2.sets.length≤448:=Nat.le_trans oV.le (Nat.le_trans gT.le hN)
  refine⟨bt,ot,f9,⟨by omega,by omega⟩,_,_,_,_,_,_,_,_,(by rw[Int.toNat_natCast];exact gw),fun b3=>Zab rfl ⟨_,lz,_,lz,?_⟩⟩
  refine lentC (ih y (List.mem_of_getElem? hy) s' mkb _ _ _ _ _ _ m2 cL.row cL.ok (Rep.mono cL.base y jH) iW) ZcE (ZgB cL fE.ok fun m3 a3 n3 c3 a4 n4 c4 cV=>?_)
  refine lentC (Zf0 (mk y s').2 out (mk y s').1 mkb _ _ _ _ _ _ m3 cV.row (by rw[fE.ok.len];exact iW) (fun i hi=>by rw[fE.ok.len];exact(lC.mono fE.le).2 i hi)) Zen (ZmG cV oV.ok fun m5 a5 n5 c5 a6 n6 c6 fQ=>?_)
  refine⟨rfl,rfl,_,?_,k+1,(Zcc out (mk y s').1 (mk y s').2).1,_,_,_,_,_,_,_,bL,?_,rfl,rfl,rfl,fQ,oV.pt,?_⟩
  ·omega
  ·rw[ZaA (by omega) (by omega)];rfl
  ·exact cO.symm.trans heq
 ·have hk':k=t.subs.length:=by have:=of_decide_eq_false cR;omega
  subst hk'
  rw[List.drop_length,Zc1]at heq
  refine Zab rfl ⟨rfl,cL.out ?_ ?_⟩
  ·rw[←heq];rfl
  ·rw[←heq]
theorem Zvx(t:T)(ih:∀x∈t.subs,MkC x)(s:Ms)(c0b mkb:Nat)(t0a t1a:Option Addr)(t0n t0c t1n t1c:Nat)(m:Mem)(h:MkRow m (.slice t0a t0n t0c) (.slice t1a t1n t1c) s)(hs:MsOk s)(hr:Rep (m.off (Yof (.slice t0a t0n t0c) (.slice t1a t1n t1c))) t)(lz:(m.off (Yof (.slice t0a t0n t0c) (.slice t1a t1n t1c))) c0b 0=some (.pointer (some ⟨mkb,0,none⟩)))(hN:(ZcJ t.subs ⟨0,0,false⟩ s).2.sets.length≤448):
  CXY Try.prog 140 #[t.v,.pointer (some ⟨c0b,0,none⟩)] m (Yof (.slice t0a t0n t0c) (.slice t1a t1n t1c)) [⟨mkb,[.slice t0a t0n t0c,.slice t1a t1n t1c],98,2,false,true⟩] [⟨.slice t0a t0n t0c,4⟩,⟨.slice t1a t1n t1c,7⟩]
   (MkR (.slice t0a t0n t0c) (.slice t1a t1n t1c) m (ZcJ t.subs ⟨0,0,false⟩ s)):=by
 apply Zek
 unfold ZcQ
 intro b0 m1 bJ _ kV jp b1 b2
 have bO:=(ZdO hr).1
 refine⟨fun xs css tvs m' q=>∃(k:Nat)(out:Pt)(s':Ms)(a:Option Addr)(n c:Nat)(a1:Option Addr)(n1 c1:Nat),k≤t.subs.length∧xs=[.int .i64 k]∧css=[out.cs,[.slice a n c,.slice a1 n1 c1]]∧tvs=[.slice a n c,.slice a1 n1 c1]∧q=t.subs.length - k∧MkSt m (.slice t0a t0n t0c) (.slice t1a t1n t1c) m' (.slice a n c) (.slice a1 n1 c1) s'∧PtIn s'.sets.length out∧ZcJ (t.subs.drop k) out s'=ZcJ t.subs ⟨0,0,false⟩ s,
  ⟨_,0,⟨0,0,false⟩,s,t0a,t0n,t0c,t1a,t1n,t1c,Nat.zero_le _,rfl,rfl,rfl,rfl,MkSt.refl h hs bJ,ZbN _ _,rfl⟩,?_⟩
 rintro x cs cs1 a n c a1 n1 c1 m2 q _ ⟨k,out,s',a',n',c',a1',n1',c1',hk,hx,cG,dF,hq,cL,lC,heq⟩
 obtain rfl:x=k:=by simpa using hx
 simp only[List.cons.injEq,and_true]at cG
 obtain⟨rfl,rfl⟩:=cG
 simp only[List.cons.injEq,Value.slice.injEq,and_true]at dF
 obtain⟨⟨rfl,rfl,rfl⟩,rfl,rfl,rfl⟩:=dF
 subst hq
 refine Zaa (fun bM=>?_) (fun cR=>?_)
 ·have bL:k < t.subs.length:=by have:=of_decide_eq_true bM;omega
  obtain⟨y,hy⟩:∃y,t.subs[k]?=some y:=⟨t.subs[k],by simp[bL]⟩
  rcases(ZdO hr).2 with he|⟨bt,ot,f9,ii⟩
  ·rw[he]at bL;simp at bL
  obtain⟨cQ,jH⟩:=ii.get hy
  have gw:=(cQ.mono cL.base).mono (Mem.off_le m2 _)
  have cO:=ZpM hy out s'
  have fE:=Zd1 y s' cL.ok
  have oW:=ZqW (lC.mono fE.le) fE.pt
  have gT:=Zfi (t.subs.drop (k+1)) _ _ fE.ok oW
  rw[←cO,heq]at gT
  have iW:(mk y s').2.sets.length≤448:=Nat.le_trans gT.le hN
  refine⟨bt,ot,f9,⟨by omega,by omega⟩,_,_,_,_,_,_,_,_,(by rw[Int.toNat_natCast];exact gw),fun b3=>Zab rfl ⟨_,Mem.off_le _ _ _ _ _ (cL.base _ _ _ lz),?_⟩⟩
  refine lentC (ih y (List.mem_of_getElem? hy) s' mkb _ _ _ _ _ _ m2 cL.row cL.ok (Rep.mono cL.base y jH) iW) ZcE (ZgB cL fE.ok fun m3 a3 n3 c3 a4 n4 c4 cV b6=>?_)
  refine⟨_,trivial,ZoQ out.first (mk y s').1.first b2 102 15 [] (bwL out.last++[Value.bool out.null]) m3 (by omega),fun v _ _ h=>by rw[h.1];rfl,fun m4 cY cs1 jb=>?_⟩
  obtain rfl:cs1=_:=by simpa using jb.2
  refine⟨_,trivial,ZoQ out.last (mk y s').1.last b2 102 15 (bwL (out.first|||(mk y s').1.first)) [Value.bool out.null] m4 (by omega),fun v _ _ h=>by rw[h.1];rfl,fun m5 eA cs2 kd=>?_⟩
  obtain rfl:cs2=_:=by simpa using kd.2
  have fQ:=cV.mono (Mem.le_trans cY eA)
  have fin:∀cs:List Value,cs=(ZsQ out (mk y s').1).cs→∃n',n' < t.subs.length - k∧(fun(xs:List Value) (css:List (List Value)) (tvs:List Value) (m':Mem) (q:Nat)=>∃(k:Nat)(out:Pt)(s':Ms)(a:Option Addr)(n c:Nat)(a1:Option Addr)(n1 c1:Nat),k≤t.subs.length∧xs=[.int .i64 k]∧css=[out.cs,[.slice a n c,.slice a1 n1 c1]]∧tvs=[.slice a n c,.slice a1 n1 c1]∧q=t.subs.length - k∧MkSt m (.slice t0a t0n t0c) (.slice t1a t1n t1c) m' (.slice a n c) (.slice a1 n1 c1) s'∧PtIn s'.sets.length out∧ZcJ (t.subs.drop k) out s'=ZcJ t.subs ⟨0,0,false⟩ s) [.int .i64 (IntKind.i64.wrap ((k:Int)+1))] [cs,[.slice a3 n3 c3,.slice a4 n4 c4]] [.slice a3 n3 c3,.slice a4 n4 c4] m5 n':=fun cs cG=>
   ⟨_,by omega,k+1,ZsQ out (mk y s').1,_,_,_,_,_,_,_,bL,by rw[ZaA (by omega) (by omega)];rfl,by rw[cG],rfl,rfl,fQ,oW,cO.symm.trans heq⟩
  obtain⟨of,ol,on⟩:=out
  refine Zan (v:=.bool on) rfl ?_
  generalize wY:(mk y s').1=r1 at fin ⊢
  obtain⟨rf,rl,rn⟩:=r1
  cases on <;> cases rn
  ·exact Zab rfl (ZbD rfl (Zab rfl ⟨rfl,rfl,fin _ rfl⟩))
  ·exact Zab rfl (ZbD rfl (Zab rfl ⟨rfl,rfl,fin _ rfl⟩))
  ·exact Zab rfl (ZcH rfl (Zab rfl ⟨rfl,rfl,fin _ rfl⟩))
  ·exact Zab rfl (ZcH rfl (Zab rfl ⟨rfl,rfl,fin _ rfl⟩))
 ·have hk':k=t.subs.length:=by have:=of_decide_eq_false cR;omega
  subst hk'
  rw[List.drop_length,ZcJ]at heq
  refine Zab rfl ⟨rfl,cL.out ?_ ?_⟩
  ·rw[←heq];rfl
  ·rw[←heq]
theorem Zsz(t:T)(ht:t.subs.length=1)(ih:∀x∈t.subs,MkC x)(s:Ms)(c0b mkb:Nat)(t0a t1a:Option Addr)(t0n t0c t1n t1c:Nat)(m:Mem)(h:MkRow m (.slice t0a t0n t0c) (.slice t1a t1n t1c) s)(hs:MsOk s)(hr:Rep (m.off (Yof (.slice t0a t0n t0c) (.slice t1a t1n t1c))) t)(lz:(m.off (Yof (.slice t0a t0n t0c) (.slice t1a t1n t1c))) c0b 0=some (.pointer (some ⟨mkb,0,none⟩)))(hN:(Zhj t.subs s).2.sets.length≤448):
  CXY Try.prog 143 #[t.v,.pointer (some ⟨c0b,0,none⟩)] m (Yof (.slice t0a t0n t0c) (.slice t1a t1n t1c)) [⟨mkb,[.slice t0a t0n t0c,.slice t1a t1n t1c],98,2,false,true⟩] [⟨.slice t0a t0n t0c,4⟩,⟨.slice t1a t1n t1c,7⟩]
   (MkR (.slice t0a t0n t0c) (.slice t1a t1n t1c) m (Zhj t.subs s)):=by
 apply Zel
 unfold ZcR
 intro b0 m1 bJ _ kV jp b1
 have cL:=MkSt.refl h hs bJ
 obtain⟨y,hy⟩:∃y,t.subs[0]?=some y:=⟨t.subs[0],by simp[ht]⟩
 have mA:Zhj t.subs s=mk y s:=by
  cases hl:t.subs with
  | nil=>rw[hl]at hy;simp at hy
  | cons z l=>rw[hl]at hy;simp at hy;subst hy;rw[Zhj]
 rw[mA]at hN ⊢
 rcases(ZdO hr).2 with he|⟨bt,ot,f9,ii⟩
 ·rw[he]at ht;simp at ht
 obtain⟨cQ,jH⟩:=ii.get hy
 have gw:=(cQ.mono cL.base).mono (Mem.off_le m1 _)
 have fE:=Zd1 y s hs
 refine⟨fun _ _ _ _ _ _=>True,_,bJ _ _ _ (Mem.off_le _ _ _ _ _ lz),bt,ot,f9,⟨by omega,by omega⟩,_,_,_,_,_,_,_,_,(by rw[Nat.zero_mul]at gw;exact gw),?_⟩
 refine lentC (ih y (List.mem_of_getElem? hy) s mkb _ _ _ _ _ _ m1 cL.row cL.ok (Rep.mono cL.base y jH) hN) ZcE (ZgB cL fE.ok fun m3 a3 n3 c3 a4 n4 c4 cV=>?_)
 exact⟨rfl,cV.out rfl rfl⟩
end Go.Proofs.Ytplacemlpkhmfaa

