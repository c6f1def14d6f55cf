/- Part of the proof: conditions and contracts of functions of this program. No condition of its own. -/
import Derived.Test.YtplacemlpkhmfaaPC17C
set_option linter.unusedVariables false
set_option linter.unusedSimpArgs false
namespace Go.Proofs.Ytplacemlpkhmfaa
open Go Go.Eng Go.Rx Go.Proofs Go.RowKit
set_option maxRecDepth 100000
def Zrm(t0 t1:Value)(s:Ms)(v:Value)(w:Value)(m':Mem)(css:List (List Value))(tvs:List Value):Prop:=w=v∧css=[[t0,t1]]∧tvs=[t0,t1]∧MkRow m' t0 t1 s
theorem Ze9(s:Ms)(p q:Pt)(mkb:Nat)(t0a t1a:Option Addr)(t0n t0c t1n t1c:Nat)(m:Mem)(h:MkRow m (.slice t0a t0n t0c) (.slice t1a t1n t1c) s)(bY:s.fol.length≤448)(ha:∀i,p.last.testBit i=true→i < s.fol.length):
  CXY Try.prog 139 #[.pointer (some ⟨mkb,0,none⟩),p.v,q.v] m (Yof (.slice t0a t0n t0c) (.slice t1a t1n t1c)) [⟨mkb,[.slice t0a t0n t0c,.slice t1a t1n t1c],98,2,false,true⟩] [⟨.slice t0a t0n t0c,4⟩,⟨.slice t1a t1n t1c,7⟩]
   (Zrm (.slice t0a t0n t0c) (.slice t1a t1n t1c) ⟨s.sets,Zdf s.fol p.last q.first⟩ (Ztb p q).v):=by
 apply Ze1
 unfold Zdi
 intro b0 m1 bD _ kS _ b1 m2 bZ _ lj _ b2
 have h2:=h.mono (Mem.le_trans bD bZ)
 refine⟨_,_,Zp0 s p.last q.first mkb t0a t1a t0n t0c t1n t1c m2 h2 bY ha,fun t ht k hk=>?_,fun k hk=>.inl ?_,?_,?_⟩
 ·simp only[List.mem_cons,List.not_mem_nil,or_false]at ht
  rcases ht with rfl|rfl
  ·exact .inl hk
  ·exact .inr hk
 ·rcases hk with hk|hk
  ·exact⟨_,by simp,hk⟩
  ·exact⟨_,by simp,hk⟩
 ·rintro v _ _ _ ⟨rfl,_⟩;rfl
 ·rintro m3 _ _ cs a c d a1 c1 d1 ⟨_,cF,dB,cV⟩
  obtain rfl:cs=[.slice t0a t0n t0c,.slice t1a t1n t1c]:=by simpa using cF
  simp only[List.cons.injEq,Value.slice.injEq,and_true]at dB
  obtain⟨⟨rfl,rfl,rfl⟩,rfl,rfl,rfl⟩:=dB
  obtain⟨pf,pl,pn⟩:=p
  obtain⟨qf,ql,qn⟩:=q
  have fin:∀{r:Pt} {cs:List Value} {m4:Mem},m3.le m4→cs=r.cs→r=Ztb ⟨pf,pl,pn⟩ ⟨qf,ql,qn⟩→Zrm (.slice a c d) (.slice a1 c1 d1) ⟨s.sets,Zdf s.fol pl qf⟩ (Ztb ⟨pf,pl,pn⟩ ⟨qf,ql,qn⟩).v (.agg cs.toArray) m4 [[.slice a c d,.slice a1 c1 d1]] [.slice a c d,.slice a1 c1 d1]:=fun hm hc hr=>⟨by rw[hc,←hr,Pt.v_cs],rfl,rfl,cV.mono hm⟩
  cases pn <;> cases qn
  ·intro b
   exact⟨rfl,fin (r:=⟨pf,ql,false⟩) (Mem.le_refl _) rfl rfl⟩
  ·intro b
   refine⟨_,trivial,ZnL ql pl b 102 15 (bwL pf) [Value.bool false] m3 (by omega),fun v _ _ h=>by rw[h.1];rfl,fun m4 dC cs1 ja=>?_⟩
   obtain rfl:cs1=_:=by simpa using ja.2
   exact Zaa rfl ⟨rfl,fin (r:=⟨pf,ql|||pl,false⟩) dC rfl rfl⟩
  ·intro b
   refine⟨_,trivial,ZnL pf qf b 102 15 [] (bwL ql++[Value.bool false]) m3 (by omega),fun v _ _ h=>by rw[h.1];rfl,fun m4 dC cs1 ja=>?_⟩
   obtain rfl:cs1=_:=by simpa using ja.2
   exact Zaa rfl ⟨rfl,fin (r:=⟨pf|||qf,ql,false⟩) dC rfl rfl⟩
  ·intro b
   refine⟨_,trivial,ZnL pf qf b 102 15 [] (bwL ql++[Value.bool true]) m3 (by omega),fun v _ _ h=>by rw[h.1];rfl,fun m4 dC cs1 ja=>?_⟩
   obtain rfl:cs1=_:=by simpa using ja.2
   refine⟨_,trivial,ZnL ql pl b 102 15 (bwL (pf|||qf)) [Value.bool true] m4 (by omega),fun v _ _ h=>by rw[h.1];rfl,fun m5 cX cs2 ka=>?_⟩
   obtain rfl:cs2=_:=by simpa using ka.2
   exact Zaa rfl ⟨rfl,fin (r:=⟨pf|||qf,ql|||pl,true⟩) (Mem.le_trans dC cX) rfl rfl⟩
end Go.Proofs.Ytplacemlpkhmfaa

