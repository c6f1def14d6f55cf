/- Part of the proof: conditions and contracts of functions of this program. No condition of its own. -/
import Derived.Test.YtplacemlpkhmfaaPC17E
import Derived.Test.YtplacemlpkhmfaaMr
set_option linter.unusedVariables false
set_option linter.unusedSimpArgs false
namespace Go.Proofs.Ytplacemlpkhmfaa
open Go Go.Eng Go.Rx Go.Proofs Go.RowKit
set_option maxRecDepth 100000
theorem Zqw{m m':Mem}(Y:Nat→Prop)(h:m.le m'):(m.off Y).le (m'.off Y):=fun b o v hv=>by
 unfold Mem.off at hv ⊢
 split at hv
 ·cases hv
 ·rename_i hY;rw[if_neg hY];exact h _ _ _ hv
theorem ZuK{m:Mem}{Y:Nat→Prop}{b:Nat}(h:m.free b):(m.off Y).free b:=fun o=>by
 unfold Mem.off;split
 ·rfl
 ·exact h o
structure MkSt (m:Mem)(v0 v1:Value)(m':Mem)(v0' v1':Value)(s':Ms):Prop where
 row:MkRow m' v0' v1' s'
 base:(m.off (Yof v0 v1)).le (m'.off (Yof v0' v1'))
 new:∀b,Yof v0' v1' b→Yof v0 v1 b∨m.free b
 ok:MsOk s'
theorem MkSt.step{m m' m'':Mem}{v0 v1 v0' v1' v0'' v1'':Value}{s' s'':Ms}(h:MkSt m v0 v1 m' v0' v1' s')(cN:(m'.off (Yof v0' v1')).le m'')(hr:MkRow m'' v0'' v1'' s'')(hn:∀b,Yof v0'' v1'' b→Yof v0' v1' b∨m'.free b)(hs:MsOk s''):MkSt m v0 v1 m'' v0'' v1'' s'':=by
 refine⟨hr,Mem.le_trans h.base (ZnC cN hn),fun b hb=>?_,hs⟩
 rcases hn b hb with h1|h1
 ·exact h.new b h1
 ·by_cases hY:Yof v0 v1 b
  ·exact .inl hY
  ·refine .inr fun o=>?_
   have h2:=Zqv h.base (b:=b) (ZuK h1) o
   rwa [Mem.off_at hY]at h2
theorem MkSt.mono{m m' m'':Mem}{v0 v1 v0' v1':Value}{s':Ms}(h:MkSt m v0 v1 m' v0' v1' s')(hm:m'.le m''):MkSt m v0 v1 m'' v0' v1' s':=
 ⟨h.row.mono hm,Mem.le_trans h.base (Zqw _ hm),h.new,h.ok⟩
theorem MkSt.refl{m m':Mem}{v0 v1:Value}{s:Ms}(h:MkRow m v0 v1 s)(hs:MsOk s)(hm:m.le m'):MkSt m v0 v1 m' v0 v1 s:=
 ⟨h.mono hm,Zqw _ hm,fun b hb=>.inl hb,hs⟩
theorem lentC{P:Program}{g:FuncId}{args:Array Value}{m:Mem}{v0 v1:Value}{xs:List Box}{R0:Value→Mem→List (List Value)→List Value→Prop}{Q:Nat→Prop}{F:Shape}{K:(Nat→Prop)→(Value→Mem→List (List Value)→List Value→Prop)→Prop}(h:CXY P g args m (Yof v0 v1) xs [⟨v0,4⟩,⟨v1,7⟩] R0)(hf:∀v m' css tvs,R0 v m' css tvs→Shape.fits F v=true)(k:K (Yof v0 v1) R0):
  ∃(Y1:Nat→Prop) (R:Value→Mem→List (List Value)→List Value→Prop),CXY P g args m Y1 xs [⟨v0,4⟩,⟨v1,7⟩] R∧(∀t:Tok,t∈[Tok.mk v0 4,Tok.mk v1 7]→∀b,t.blk=some b→Y1 b)∧(∀b,Y1 b→(∃t:Tok,t∈[Tok.mk v0 4,Tok.mk v1 7]∧t.blk=some b)∨Q b)∧(∀v m' css tvs,R v m' css tvs→Shape.fits F v=true)∧K Y1 R:=by
 refine⟨_,_,h,fun t ht b hb=>?_,fun b hb=>.inl ?_,hf,k⟩
 ·simp only[List.mem_cons,List.not_mem_nil,or_false]at ht
  rcases ht with rfl|rfl
  ·exact .inl hb
  ·exact .inr hb
 ·rcases hb with hb|hb
  ·exact⟨_,by simp,hb⟩
  ·exact⟨_,by simp,hb⟩
abbrev Zwk:=Int→Int→Int→Int→Int→Int→Int→Int→Int→Int→Int→Int→Int→Int→Bool→Mem→List Value→Option Addr→Nat→Nat→Option Addr→Nat→Nat→Prop
theorem Zcu{t0 t1:Value}{m:Mem}{r:Pt×Ms}:∀v m' css tvs,MkR t0 t1 m r v m' css tvs→Shape.fits (.agg [.int .u64,.int .u64,.int .u64,.int .u64,.int .u64,.int .u64,.int .u64,.int .u64,.int .u64,.int .u64,.int .u64,.int .u64,.int .u64,.int .u64,.bool]) v=true:=by
 rintro v m' css tvs ⟨a,n,c,a1,n1,c1,rfl,_⟩;rfl
theorem Zd6{t0 t1:Value}{s:Ms}{p:Pt}:∀v m' css tvs,ZrP t0 t1 s p.v v m' css tvs→Shape.fits (.agg [.int .u64,.int .u64,.int .u64,.int .u64,.int .u64,.int .u64,.int .u64,.int .u64,.int .u64,.int .u64,.int .u64,.int .u64,.int .u64,.int .u64,.bool]) v=true:=by
 rintro v m' css tvs ⟨rfl,_⟩;rfl
theorem Zgm{m0 mm:Mem}{w0 w1 v0 v1:Value}{s:Ms}{r:Pt×Ms}{K:Zwk}(cF:MkSt m0 w0 w1 mm v0 v1 s)(gQ:MsOk r.2)
  (k:∀(m':Mem)(a:Option Addr)(n c:Nat)(a1:Option Addr)(n1 c1:Nat),MkSt m0 w0 w1 m' (.slice a n c) (.slice a1 n1 c1) r.2→K (wdN r.1.first 0:Nat) (wdN r.1.first 1:Nat) (wdN r.1.first 2:Nat) (wdN r.1.first 3:Nat) (wdN r.1.first 4:Nat) (wdN r.1.first 5:Nat) (wdN r.1.first 6:Nat) (wdN r.1.last 0:Nat) (wdN r.1.last 1:Nat) (wdN r.1.last 2:Nat) (wdN r.1.last 3:Nat) (wdN r.1.last 4:Nat) (wdN r.1.last 5:Nat) (wdN r.1.last 6:Nat) r.1.null m' [.slice a n c,.slice a1 n1 c1] a n c a1 n1 c1):
  ∀(n0 n1 n2 n3 n4 n5 n6 n7 n8 n9 n10 n11 n12 n13:Int)(b:Bool)(m':Mem),(mm.off (Yof v0 v1)).le m'→(∀(b o:Nat)(u:Value),m' b o=some u→mm b o=some u∨Yof v0 v1 b∨mm.free b)→∀(cs:List Value)(a:Option Addr)(c d:Nat)(a1:Option Addr)(c1 d1:Nat),
   MkR v0 v1 mm r (.agg #[.int .u64 n0,.int .u64 n1,.int .u64 n2,.int .u64 n3,.int .u64 n4,.int .u64 n5,.int .u64 n6,.int .u64 n7,.int .u64 n8,.int .u64 n9,.int .u64 n10,.int .u64 n11,.int .u64 n12,.int .u64 n13,.bool b]) m' [cs] [.slice a c d,.slice a1 c1 d1]→K n0 n1 n2 n3 n4 n5 n6 n7 n8 n9 n10 n11 n12 n13 b m' cs a c d a1 c1 d1:=by
 rintro n0 n1 n2 n3 n4 n5 n6 n7 n8 n9 n10 n11 n12 n13 b m' cN _ cs a c d a1 c1 d1 ⟨a',n',c',a1',n1',c1',hv,cH,dA,bM,cU⟩
 obtain rfl:cs=[.slice a' n' c',.slice a1' n1' c1']:=by simpa using cH
 simp only[List.cons.injEq,Value.slice.injEq,and_true]at dA
 obtain⟨⟨rfl,rfl,rfl⟩,rfl,rfl,rfl⟩:=dA
 simp only[Pt.v,Value.agg.injEq,Array.mk.injEq,List.cons.injEq,Value.int.injEq,Value.bool.injEq,true_and,and_true]at hv
 obtain⟨rfl,rfl,rfl,rfl,rfl,rfl,rfl,rfl,rfl,rfl,rfl,rfl,rfl,rfl,rfl⟩:=hv
 exact k _ _ _ _ _ _ _ (cF.step cN bM cU gQ)
theorem Zmd{m0 mm:Mem}{w0 w1 v0 v1:Value}{s s2:Ms}{p:Pt}{K:Zwk}(cF:MkSt m0 w0 w1 mm v0 v1 s)(gQ:MsOk s2)
  (k:∀(m':Mem)(a:Option Addr)(n c:Nat)(a1:Option Addr)(n1 c1:Nat),MkSt m0 w0 w1 m' (.slice a n c) (.slice a1 n1 c1) s2→K (wdN p.first 0:Nat) (wdN p.first 1:Nat) (wdN p.first 2:Nat) (wdN p.first 3:Nat) (wdN p.first 4:Nat) (wdN p.first 5:Nat) (wdN p.first 6:Nat) (wdN p.last 0:Nat) (wdN p.last 1:Nat) (wdN p.last 2:Nat) (wdN p.last 3:Nat) (wdN p.last 4:Nat) (wdN p.last 5:Nat) (wdN p.last 6:Nat) p.null m' [.slice a n c,.slice a1 n1 c1] a n c a1 n1 c1):
  ∀(n0 n1 n2 n3 n4 n5 n6 n7 n8 n9 n10 n11 n12 n13:Int)(b:Bool)(m':Mem),(mm.off (Yof v0 v1)).le m'→(∀(b o:Nat)(u:Value),m' b o=some u→mm b o=some u∨Yof v0 v1 b∨mm.free b)→∀(cs:List Value)(a:Option Addr)(c d:Nat)(a1:Option Addr)(c1 d1:Nat),
   ZrP v0 v1 s2 p.v (.agg #[.int .u64 n0,.int .u64 n1,.int .u64 n2,.int .u64 n3,.int .u64 n4,.int .u64 n5,.int .u64 n6,.int .u64 n7,.int .u64 n8,.int .u64 n9,.int .u64 n10,.int .u64 n11,.int .u64 n12,.int .u64 n13,.bool b]) m' [cs] [.slice a c d,.slice a1 c1 d1]→K n0 n1 n2 n3 n4 n5 n6 n7 n8 n9 n10 n11 n12 n13 b m' cs a c d a1 c1 d1:=by
 rintro n0 n1 n2 n3 n4 n5 n6 n7 n8 n9 n10 n11 n12 n13 b m' cN _ cs a c d a1 c1 d1 ⟨hv,cH,dA,bM⟩
 simp only[List.cons.injEq,and_true]at dA
 obtain⟨rfl,rfl⟩:=dA
 obtain rfl:cs=[.slice a c d,.slice a1 c1 d1]:=by simpa using cH
 simp only[Pt.v,Value.agg.injEq,Array.mk.injEq,List.cons.injEq,Value.int.injEq,Value.bool.injEq,true_and,and_true]at hv
 obtain⟨rfl,rfl,rfl,rfl,rfl,rfl,rfl,rfl,rfl,rfl,rfl,rfl,rfl,rfl,rfl⟩:=hv
 exact k _ _ _ _ _ _ _ (cF.step cN bM (fun b hb=>.inl hb) gQ)
def MkC(t:T):Prop:=∀(s:Ms)(mkb:Nat)(t0a t1a:Option Addr)(t0n t0c t1n t1c:Nat)(m:Mem),MkRow m (.slice t0a t0n t0c) (.slice t1a t1n t1c) s→MsOk s→Rep (m.off (Yof (.slice t0a t0n t0c) (.slice t1a t1n t1c))) t→(mk t s).2.sets.length≤448→
 CXY Try.prog 61 #[.pointer (some ⟨mkb,0,none⟩),t.v] m (Yof (.slice t0a t0n t0c) (.slice t1a t1n t1c)) [⟨mkb,[.slice t0a t0n t0c,.slice t1a t1n t1c],98,2,false,true⟩] [⟨.slice t0a t0n t0c,4⟩,⟨.slice t1a t1n t1c,7⟩] (MkR (.slice t0a t0n t0c) (.slice t1a t1n t1c) m (mk t s))
theorem MkSt.out{m m':Mem}{v0 v1:Value}{s':Ms}{a:Option Addr}{n c:Nat}{a1:Option Addr}{n1 c1:Nat}{r:Pt×Ms}{w:Value}(h:MkSt m v0 v1 m' (.slice a n c) (.slice a1 n1 c1) s')(hw:w=r.1.v)(hs:s'=r.2):MkR v0 v1 m r w m' [[.slice a n c,.slice a1 n1 c1]] [.slice a n c,.slice a1 n1 c1]:=
 ⟨a,n,c,a1,n1,c1,hw,rfl,rfl,hs ▸ h.row,h.new⟩
theorem ZuL(t:T)(ih:∀x∈t.subs,MkC x)(s:Ms)(c0b mkb:Nat)(t0a t1a:Option Addr)(t0n t0c t1n t1c:Nat)(m:Mem)(h:MkRow m (.slice t0a t0n t0c) (.slice t1a t1n t1c) s)(hs:MsOk s)(hr:Rep (m.off (Yof (.slice t0a t0n t0c) (.slice t1a t1n t1c))) t)(lh:(m.off (Yof (.slice t0a t0n t0c) (.slice t1a t1n t1c))) c0b 0=some (.pointer (some ⟨mkb,0,none⟩)))(hN:(ZfS t.subs ⟨0,0,true⟩ s).2.sets.length≤448):
  CXY Try.prog 138 #[t.v,.pointer (some ⟨c0b,0,none⟩)] m (Yof (.slice t0a t0n t0c) (.slice t1a t1n t1c)) [⟨mkb,[.slice t0a t0n t0c,.slice t1a t1n t1c],98,2,false,true⟩] [⟨.slice t0a t0n t0c,4⟩,⟨.slice t1a t1n t1c,7⟩]
   (MkR (.slice t0a t0n t0c) (.slice t1a t1n t1c) m (ZfS t.subs ⟨0,0,true⟩ s)):=by
 apply Zd2
 unfold ZcB
 intro b0 m1 bH _ kn iP b1 b2
 have bO:=(ZdA hr).1
 refine⟨fun xs css tvs m' q=>∃(k:Nat)(out:Pt)(s':Ms)(a:Option Addr)(n c:Nat)(a1:Option Addr)(n1 c1:Nat),k≤t.subs.length∧xs=[.int .i64 k]∧css=[out.cs,[.slice a n c,.slice a1 n1 c1]]∧tvs=[.slice a n c,.slice a1 n1 c1]∧q=t.subs.length - k∧MkSt m (.slice t0a t0n t0c) (.slice t1a t1n t1c) m' (.slice a n c) (.slice a1 n1 c1) s'∧PtIn s'.sets.length out∧ZfS (t.subs.drop k) out s'=ZfS t.subs ⟨0,0,true⟩ s,
  ⟨_,0,⟨0,0,true⟩,s,t0a,t0n,t0c,t1a,t1n,t1c,Nat.zero_le _,rfl,rfl,rfl,rfl,MkSt.refl h hs bH,ZbW _ _,rfl⟩,?_⟩
 rintro x cs cs1 a n c a1 n1 c1 m2 q _ ⟨k,out,s',a',n',c',a1',n1',c1',hk,hx,cH,dA,hq,cF,lk,heq⟩
 obtain rfl:x=k:=by simpa using hx
 simp only[List.cons.injEq,and_true]at cH
 obtain⟨rfl,rfl⟩:=cH
 simp only[List.cons.injEq,Value.slice.injEq,and_true]at dA
 obtain⟨⟨rfl,rfl,rfl⟩,rfl,rfl,rfl⟩:=dA
 subst hq
 refine Zab (fun bK=>?_) (fun cS=>?_)
 ·have bJ:k < t.subs.length:=by have:=of_decide_eq_true bK;omega
  obtain⟨y,hy⟩:∃y,t.subs[k]?=some y:=⟨t.subs[k],by simp[bJ]⟩
  rcases(ZdA hr).2 with he|⟨bt,ot,gt,hZ⟩
  ·rw[he]at bJ;simp at bJ
  obtain⟨cM,jz⟩:=hZ.get hy
  have gp:=(cM.mono cF.base).mono (Mem.off_le m2 _)
  have cO:=Zo4 hy out s'
  have eX:=ZdO y s' cF.ok
  have ov:=Ze3 eX.ok (lk.mono eX.le) eX.pt
  have gS:=Ze4 (t.subs.drop (k+1)) _ _ ov.ok ov.pt
  rw[←cO,heq]at gS
  have jD:(mk y s').2.sets.length≤448:=Nat.le_trans ov.le (Nat.le_trans gS.le hN)
  refine⟨bt,ot,gt,⟨by omega,by omega⟩,_,_,_,_,_,_,_,_,(by rw[Int.toNat_natCast];exact gp),fun b3=>Zaa rfl ⟨_,lh,_,lh,?_⟩⟩
  refine lentC (ih y (List.mem_of_getElem? hy) s' mkb _ _ _ _ _ _ m2 cF.row cF.ok (Rep.mono cF.base y jz) jD) Zcu (Zgm cF eX.ok fun m3 a3 n3 c3 a4 n4 c4 cT=>?_)
  refine lentC (ZfL (mk y s').2 out (mk y s').1 mkb _ _ _ _ _ _ m3 cT.row (by rw[eX.ok.len];exact jD) (fun i hi=>by rw[eX.ok.len];exact(lk.mono eX.le).2 i hi)) Zd6 (Zmd cT ov.ok fun m5 a5 n5 c5 a6 n6 c6 fK=>?_)
  refine⟨rfl,rfl,_,?_,k+1,(ZhB out (mk y s').1 (mk y s').2).1,_,_,_,_,_,_,_,bJ,?_,rfl,rfl,rfl,fK,ov.pt,?_⟩
  ·omega
  ·rw[Zax (by omega) (by omega)];rfl
  ·exact cO.symm.trans heq
 ·have hk':k=t.subs.length:=by have:=of_decide_eq_false cS;omega
  subst hk'
  rw[List.drop_length,ZfS]at heq
  refine Zaa rfl ⟨rfl,cF.out ?_ ?_⟩
  ·rw[←heq];rfl
  ·rw[←heq]
theorem ZuM(t:T)(ih:∀x∈t.subs,MkC x)(s:Ms)(c0b mkb:Nat)(t0a t1a:Option Addr)(t0n t0c t1n t1c:Nat)(m:Mem)(h:MkRow m (.slice t0a t0n t0c) (.slice t1a t1n t1c) s)(hs:MsOk s)(hr:Rep (m.off (Yof (.slice t0a t0n t0c) (.slice t1a t1n t1c))) t)(lh:(m.off (Yof (.slice t0a t0n t0c) (.slice t1a t1n t1c))) c0b 0=some (.pointer (some ⟨mkb,0,none⟩)))(hN:(Ze2 t.subs ⟨0,0,false⟩ s).2.sets.length≤448):
  CXY Try.prog 140 #[t.v,.pointer (some ⟨c0b,0,none⟩)] m (Yof (.slice t0a t0n t0c) (.slice t1a t1n t1c)) [⟨mkb,[.slice t0a t0n t0c,.slice t1a t1n t1c],98,2,false,true⟩] [⟨.slice t0a t0n t0c,4⟩,⟨.slice t1a t1n t1c,7⟩]
   (MkR (.slice t0a t0n t0c) (.slice t1a t1n t1c) m (Ze2 t.subs ⟨0,0,false⟩ s)):=by
 apply Zd3
 unfold ZcD
 intro b0 m1 bH _ kn iP b1 b2
 have bO:=(ZdA hr).1
 refine⟨fun xs css tvs m' q=>∃(k:Nat)(out:Pt)(s':Ms)(a:Option Addr)(n c:Nat)(a1:Option Addr)(n1 c1:Nat),k≤t.subs.length∧xs=[.int .i64 k]∧css=[out.cs,[.slice a n c,.slice a1 n1 c1]]∧tvs=[.slice a n c,.slice a1 n1 c1]∧q=t.subs.length - k∧MkSt m (.slice t0a t0n t0c) (.slice t1a t1n t1c) m' (.slice a n c) (.slice a1 n1 c1) s'∧PtIn s'.sets.length out∧Ze2 (t.subs.drop k) out s'=Ze2 t.subs ⟨0,0,false⟩ s,
  ⟨_,0,⟨0,0,false⟩,s,t0a,t0n,t0c,t1a,t1n,t1c,Nat.zero_le _,rfl,rfl,rfl,rfl,MkSt.refl h hs bH,ZbW _ _,rfl⟩,?_⟩
 rintro x cs cs1 a n c a1 n1 c1 m2 q _ ⟨k,out,s',a',n',c',a1',n1',c1',hk,hx,cH,dA,hq,cF,lk,heq⟩
 obtain rfl:x=k:=by simpa using hx
 simp only[List.cons.injEq,and_true]at cH
 obtain⟨rfl,rfl⟩:=cH
 simp only[List.cons.injEq,Value.slice.injEq,and_true]at dA
 obtain⟨⟨rfl,rfl,rfl⟩,rfl,rfl,rfl⟩:=dA
 subst hq
 refine Zab (fun bK=>?_) (fun cS=>?_)
 ·have bJ:k < t.subs.length:=by have:=of_decide_eq_true bK;omega
  obtain⟨y,hy⟩:∃y,t.subs[k]?=some y:=⟨t.subs[k],by simp[bJ]⟩
  rcases(ZdA hr).2 with he|⟨bt,ot,gt,hZ⟩
  ·rw[he]at bJ;simp at bJ
  obtain⟨cM,jz⟩:=hZ.get hy
  have gp:=(cM.mono cF.base).mono (Mem.off_le m2 _)
  have cO:=Zo5 hy out s'
  have eX:=ZdO y s' cF.ok
  have ow:=Zss (lk.mono eX.le) eX.pt
  have gS:=Ze5 (t.subs.drop (k+1)) _ _ eX.ok ow
  rw[←cO,heq]at gS
  have jD:(mk y s').2.sets.length≤448:=Nat.le_trans gS.le hN
  refine⟨bt,ot,gt,⟨by omega,by omega⟩,_,_,_,_,_,_,_,_,(by rw[Int.toNat_natCast];exact gp),fun b3=>Zaa rfl ⟨_,Mem.off_le _ _ _ _ _ (cF.base _ _ _ lh),?_⟩⟩
  refine lentC (ih y (List.mem_of_getElem? hy) s' mkb _ _ _ _ _ _ m2 cF.row cF.ok (Rep.mono cF.base y jz) jD) Zcu (Zgm cF eX.ok fun m3 a3 n3 c3 a4 n4 c4 cT b6=>?_)
  refine⟨_,trivial,Zoc out.first (mk y s').1.first b2 102 15 [] (bwL out.last++[Value.bool out.null]) m3 (by omega),fun v _ _ h=>by rw[h.1];rfl,fun m4 cY cs1 iY=>?_⟩
  obtain rfl:cs1=_:=by simpa using iY.2
  refine⟨_,trivial,Zoc out.last (mk y s').1.last b2 102 15 (bwL (out.first|||(mk y s').1.first)) [Value.bool out.null] m4 (by omega),fun v _ _ h=>by rw[h.1];rfl,fun m5 dX cs2 j4=>?_⟩
  obtain rfl:cs2=_:=by simpa using j4.2
  have fK:=cT.mono (Mem.le_trans cY dX)
  have fin:∀cs:List Value,cs=(Zwt out (mk y s').1).cs→∃n',n' < t.subs.length - k∧(fun(xs:List Value) (css:List (List Value)) (tvs:List Value) (m':Mem) (q:Nat)=>∃(k:Nat)(out:Pt)(s':Ms)(a:Option Addr)(n c:Nat)(a1:Option Addr)(n1 c1:Nat),k≤t.subs.length∧xs=[.int .i64 k]∧css=[out.cs,[.slice a n c,.slice a1 n1 c1]]∧tvs=[.slice a n c,.slice a1 n1 c1]∧q=t.subs.length - k∧MkSt m (.slice t0a t0n t0c) (.slice t1a t1n t1c) m' (.slice a n c) (.slice a1 n1 c1) s'∧PtIn s'.sets.length out∧Ze2 (t.subs.drop k) out s'=Ze2 t.subs ⟨0,0,false⟩ s) [.int .i64 (IntKind.i64.wrap ((k:Int)+1))] [cs,[.slice a3 n3 c3,.slice a4 n4 c4]] [.slice a3 n3 c3,.slice a4 n4 c4] m5 n':=fun cs cH=>
   ⟨_,by omega,k+1,Zwt out (mk y s').1,_,_,_,_,_,_,_,bJ,by rw[Zax (by omega) (by omega)];rfl,by rw[cH],rfl,rfl,fK,ow,cO.symm.trans heq⟩
  obtain⟨of,ol,on⟩:=out
  refine Zap (v:=.bool on) rfl ?_
  generalize wk:(mk y s').1=r1 at fin ⊢
  obtain⟨rf,rl,rn⟩:=r1
  cases on <;> cases rn
  ·exact Zaa rfl (Zbz rfl (Zaa rfl ⟨rfl,rfl,fin _ rfl⟩))
  ·exact Zaa rfl (Zbz rfl (Zaa rfl ⟨rfl,rfl,fin _ rfl⟩))
  ·exact Zaa rfl (Zcx rfl (Zaa rfl ⟨rfl,rfl,fin _ rfl⟩))
  ·exact Zaa rfl (Zcx rfl (Zaa rfl ⟨rfl,rfl,fin _ rfl⟩))
 ·have hk':k=t.subs.length:=by have:=of_decide_eq_false cS;omega
  subst hk'
  rw[List.drop_length,Ze2]at heq
  refine Zaa rfl ⟨rfl,cF.out ?_ ?_⟩
  ·rw[←heq];rfl
  ·rw[←heq]
theorem ZrQ(t:T)(ht:t.subs.length=1)(ih:∀x∈t.subs,MkC x)(s:Ms)(c0b mkb:Nat)(t0a t1a:Option Addr)(t0n t0c t1n t1c:Nat)(m:Mem)(h:MkRow m (.slice t0a t0n t0c) (.slice t1a t1n t1c) s)(hs:MsOk s)(hr:Rep (m.off (Yof (.slice t0a t0n t0c) (.slice t1a t1n t1c))) t)(lh:(m.off (Yof (.slice t0a t0n t0c) (.slice t1a t1n t1c))) c0b 0=some (.pointer (some ⟨mkb,0,none⟩)))(hN:(Zkl t.subs s).2.sets.length≤448):
  CXY Try.prog 143 #[t.v,.pointer (some ⟨c0b,0,none⟩)] m (Yof (.slice t0a t0n t0c) (.slice t1a t1n t1c)) [⟨mkb,[.slice t0a t0n t0c,.slice t1a t1n t1c],98,2,false,true⟩] [⟨.slice t0a t0n t0c,4⟩,⟨.slice t1a t1n t1c,7⟩]
   (MkR (.slice t0a t0n t0c) (.slice t1a t1n t1c) m (Zkl t.subs s)):=by
 apply Zd4
 unfold ZcE
 intro b0 m1 bH _ kn iP b1
 have cF:=MkSt.refl h hs bH
 obtain⟨y,hy⟩:∃y,t.subs[0]?=some y:=⟨t.subs[0],by simp[ht]⟩
 have vn:Zkl t.subs s=mk y s:=by
  cases hl:t.subs with
  | nil=>rw[hl]at hy;simp at hy
  | cons z l=>rw[hl]at hy;simp at hy;subst hy;rw[Zkl]
 rw[vn]at hN ⊢
 rcases(ZdA hr).2 with he|⟨bt,ot,gt,hZ⟩
 ·rw[he]at ht;simp at ht
 obtain⟨cM,jz⟩:=hZ.get hy
 have gp:=(cM.mono cF.base).mono (Mem.off_le m1 _)
 have eX:=ZdO y s hs
 refine⟨fun _ _ _ _ _ _=>True,_,bH _ _ _ (Mem.off_le _ _ _ _ _ lh),bt,ot,gt,⟨by omega,by omega⟩,_,_,_,_,_,_,_,_,(by rw[Nat.zero_mul]at gp;exact gp),?_⟩
 refine lentC (ih y (List.mem_of_getElem? hy) s mkb _ _ _ _ _ _ m1 cF.row cF.ok (Rep.mono cF.base y jz) hN) Zcu (Zgm cF eX.ok fun m3 a3 n3 c3 a4 n4 c4 cT=>?_)
 exact⟨rfl,cT.out rfl rfl⟩
end Go.Proofs.Ytplacemlpkhmfaa

