/- Part of the proof: conditions and contracts of functions of this program. No condition of its own. -/
import Derived.Test.YtplacemlpkhmfaaPC17D
set_option linter.unusedVariables false
set_option linter.unusedSimpArgs false
namespace Go.Proofs.Ytplacemlpkhmfaa
open Go Go.Eng Go.Rx Go.Proofs Go.RowKit
set_option maxRecDepth 100000
def MkR(t0 t1:Value)(m:Mem)(r:Pt×Ms)(w:Value)(m':Mem)(css:List (List Value))(tvs:List Value):Prop:=
 ∃a n c a1 n1 c1,w=r.1.v∧css=[[.slice a n c,.slice a1 n1 c1]]∧tvs=[.slice a n c,.slice a1 n1 c1]∧MkRow m' (.slice a n c) (.slice a1 n1 c1) r.2∧∀b,Yof (.slice a n c) (.slice a1 n1 c1) b→Yof t0 t1 b∨m.free b
theorem Zkm{m:Mem}{a:Option Addr}{n c k:Nat}{cs:List Value}(h:RowOk m (.slice a n c) k cs)(hc:k=0→cs=[]):n=k∧rowRd m a cs∧(a=none∨∃b,a=some ⟨b,0,none⟩):=by
 rcases h with⟨h1,h2⟩|⟨b,c',h1,h2,h3⟩
 ·simp only[Value.slice.injEq]at h2
  exact⟨by omega,.inl (hc h1),.inl h2.1⟩
 ·simp only[Value.slice.injEq]at h1
  exact⟨h1.2.1,.inr ⟨b,0,h1.1,h2⟩,.inr ⟨b,h1.1⟩⟩
theorem Zp1{m m':Mem}(h:m.le m'){b:Nat}(hf:m'.free b):m.free b:=fun o=>by
 cases he:m b o with
 | none=>rfl
 | some v=>have:=h _ _ _ he;rw[hf o]at this;cases this
theorem Zr4{m m2:Mem}{a a':Option Addr}{k c':Nat}{cs ds:List Value}(hd:ds≠[])(ha:a=none∨∃b,a=some ⟨b,0,none⟩)(hr:rowRd m2 a' (cs++ds))(hf:TokFact m a a' (k+1) c'):RowOk m2 (.slice a' (k+1) c') (k+1) (cs++ds)∧∀b esz,(Tok.mk (.slice a' (k+1) c') esz).blk=some b→(∀n0 c0 e0,(Tok.mk (.slice a n0 c0) e0).blk=some b)∨m.free b:=by
 have cM:cs++ds≠[]:=by simp[hd]
 replace hf:=hf.old (fun b o e=>by
  rcases ha with h|⟨b',h⟩
  ·rw[h]at e;cases e
  ·rw[h]at e;cases e;rfl)
 rcases hr with h|⟨b,o,h1,h2⟩
 ·exact absurd h cM
 ·rcases hf.2 with h|⟨b',h3,h4⟩
  ·rw[h]at h1;cases h1
  ·rw[h3]at h1
   simp only[Option.some.injEq,Addr.mk.injEq,and_true]at h1
   obtain⟨rfl,rfl⟩:=h1
   refine⟨.inr ⟨b',c',by rw[h3],h2,by omega⟩,fun b esz hb=>?_⟩
   subst h3
   simp[Tok.blk]at hb
   subst hb
   rcases h4 with h4|h4
   ·exact .inl fun _ _ _=>by rw[h4];rfl
   ·exact .inr h4
theorem Zt8(t:T)(s:Ms)(c0b mkb:Nat)(t0a t1a:Option Addr)(t0n t0c t1n t1c:Nat)(m:Mem)(h:MkRow m (.slice t0a t0n t0c) (.slice t1a t1n t1c) s)(pY:s.sets.length < 448)(pN:s.fol.length=s.sets.length)(lA:m c0b 0=some (.pointer (some ⟨mkb,0,none⟩))):
  CXY Try.prog 137 #[t.v,.pointer (some ⟨c0b,0,none⟩)] m (Yof (.slice t0a t0n t0c) (.slice t1a t1n t1c)) [⟨mkb,[.slice t0a t0n t0c,.slice t1a t1n t1c],98,2,false,true⟩] [⟨.slice t0a t0n t0c,4⟩,⟨.slice t1a t1n t1c,7⟩]
   (MkR (.slice t0a t0n t0c) (.slice t1a t1n t1c) m (⟨2 ^ s.sets.length,2 ^ s.sets.length,false⟩,⟨s.sets++[(t.s0,t.s1,t.s2,t.s3)],s.fol++[0]⟩)):=by
 apply ZdA
 unfold Zch
 obtain⟨rfl,kA,lQ⟩:=Zkm h.row0 (fun e=>by rw[List.eq_nil_of_length_eq_zero e];rfl)
 obtain⟨rfl,dS,jp⟩:=Zkm h.row1 (fun e=>by rw[List.eq_nil_of_length_eq_zero e];rfl)
 intro b0 m1 bD _ kS _ bA bB
 have hp:=bD _ _ _ lA
 refine⟨_,hp,Zaa rfl (Zaa rfl ⟨rfl,Zas (v:=.slice t0a s.sets.length t0c) rfl (Zaa rfl ⟨_,hp,_,hp,_,hp,Zaa rfl (Zaa rfl ⟨rfl,Zas (v:=.slice t0a s.sets.length t0c) rfl ?_⟩)⟩)⟩)⟩
 intro b1 lj
 have jZ:=Mem.le_add lj [Value.int .u64 t.s0,.int .u64 t.s1,.int .u64 t.s2,.int .u64 t.s3]
 refine Zaa rfl ⟨.inl rfl,Zby s.sets,[.int .u64 t.s0,.int .u64 t.s1,.int .u64 t.s2,.int .u64 t.s3],by rw[Zdy];rfl,rfl,(kA.mono bD).mono jZ,.inr ⟨b1,0,rfl,fun j v hv=>by rw[Mem.add_same];simpa using hv⟩,fun u hu=>?_,by show(s.sets.length+1)*32≤_;omega,by show s.sets.length+1≤_;omega,?_⟩
 ·simp only[List.mem_cons,List.not_mem_nil,or_false]at hu
  rcases hu with rfl|rfl|rfl|rfl <;> rfl
 intro a2 c2 m2 bZ eF tK
 obtain⟨iS,lB⟩:=Zr4 (by simp) lQ eF tK
 refine⟨_,hp,Zaa rfl (Zaa rfl ⟨rfl,Zas (v:=.slice t1a s.fol.length t1c) rfl ?_⟩)⟩
 intro b2 wo V tL vq vr
 refine Zaa rfl ⟨.inl rfl,ZcY s.fol,bwL 0,by rw[Zhg];rfl,rfl,(dS.mono bD).mono tL,.inr ⟨b2,0,rfl,fun j v hv=>vr _ _ _ (by rw[Mem.add_same];rw[Zk5]at hv;simpa using hv)⟩,fun u hu=>?_,by show(s.fol.length+1)*56≤_;omega,by show s.fol.length+1≤_;omega,?_⟩
 ·rw[Zk5]at hu
  simp only[List.mem_cons,List.not_mem_nil,or_false]at hu
  rcases hu with rfl|rfl|rfl|rfl|rfl|rfl|rfl <;> rfl
 intro a3 c3 m3 cD gT vt
 obtain⟨kb,lC⟩:=Zr4 (by rw[Zk5];simp) jp gT vt
 refine Zaa rfl (Zaa rfl ⟨rfl,by show(0+0+1≤1+1);omega,Zaa rfl (Zaa rfl ⟨rfl,by show(0+1+1≤2);omega,?_⟩)⟩)
 intro M gj _ fZ _ jx
 refine⟨_,trivial,Zlg 0 s.sets.length pY bB 102 15 [] (bwL 0++[Value.bool false]) M (by omega),fun v _ _ h=>by rw[h.1];rfl,fun m5 cX cs5 kd=>?_⟩
 obtain rfl:cs5=_:=by simpa using kd.2
 refine⟨_,trivial,Zlg 0 s.sets.length pY bB 102 15 (bwL (2 ^ s.sets.length)) [Value.bool false] m5 (by omega),fun v _ _ h=>by rw[h.1];rfl,fun m6 fQ cs6 rS=>?_⟩
 obtain rfl:cs6=_:=by simpa using rS.2
 have kW:M.le m6:=Mem.le_trans cX fQ
 refine Zaa rfl ⟨rfl,_,_,_,_,_,_,?_,rfl,rfl,⟨?_,?_,?_⟩,?_⟩
 ·rfl
 ·show RowOk m6 _ (s.sets++_).length (Zby (s.sets++_))
  rw[ZqT,List.length_append]
  exact iS.mono (Mem.le_trans fZ kW)
 ·show RowOk m6 _ (s.fol++_).length (ZcY (s.fol++_))
  rw[ZqU,List.length_append]
  exact kb.mono (Mem.le_trans jx kW)
 ·intro b hb hb'
  rcases lC b 7 hb' with h1|h1
  ·rcases lB b 4 hb with h2|h2
   ·exact h.ne b (h2 _ _ _) (h1 _ _ _)
   ·obtain⟨_,_,q1,q2⟩:=ZeL h.row1 (h1 _ _ 7)
    obtain⟨n,hn⟩:=Zgw q2
    have:=bD _ _ _ (q1 0 _ hn)
    have:=jZ _ _ _ this
    rw[h2]at this;cases this
  ·obtain⟨_,_,q1,q2⟩:=ZeL iS hb
   have:=vq _ _ _ (q1 0 _ (List.getElem?_eq_getElem (by simp)))
   rw[h1]at this;cases this
 ·intro b hb
  rcases hb with hb|hb
  ·rcases lB b 4 hb with h2|h2
   ·exact .inl (.inl (h2 _ _ _))
   ·exact .inr (Zp1 (Mem.le_trans bD jZ) h2)
  ·rcases lC b 7 hb with h2|h2
   ·exact .inl (.inr (h2 _ _ _))
   ·exact .inr (Zp1 (Mem.le_trans bD tL) h2)
end Go.Proofs.Ytplacemlpkhmfaa

