/- Part of the proof: conditions and contracts of functions of this program. No condition of its own. -/
import Derived.Test.YtplacemlpkhmfaaPC17RC
import Derived.Test.YtplacemlpkhmfaaPC17RE
import Derived.Test.YtplacemlpkhmfaaPC17R
set_option linter.unusedVariables false
set_option linter.unusedSimpArgs false
namespace Go.Proofs.Ytplacemlpkhmfaa
open Go Go.Eng Go.Rx Go.Proofs Go.RowKit
set_option maxRecDepth 100000
theorem Zp9{A:Nf}{l:List Int}(he:A.err l=0):A.right=true∧A.states l=true:=by
 unfold Nf.err at he
 cases hr:A.right with
 | false=>rw[hr]at he;simp at he
 | true=>
  cases hs:A.states l with
  | false=>rw[hr,hs]at he;simp at he
  | true=>exact⟨rfl,rfl⟩
theorem Zn8{st:Bool}(A:Nf)(v:Value)(l:List Int)(a:Option Addr)(c:Nat)(m:Mem)(h:NfR st A v m)(hl:rowRd m a (Zaq l))(dM:l.length≤1000000):
  CX Try.prog 28 #[v,.slice a l.length c] m [] (Ret (.tuple #[.bool (if A.err l=0 then A.accepts l else false),.int .i64 (A.err l)])):=by
 have h':=h
 obtain⟨s,f,x,y,rfl,⟨sa,sc,rfl,hs',dL,iw⟩,⟨fa,fc,vs,rfl,hf,f8,gN,fT⟩,⟨xa,xc,rfl,hx,dY,gq⟩,⟨ya,yc,rfl,hy,dD,gC⟩⟩:=h
 apply ZiL
 unfold Zfs
 intro b m1 bD _
 refine Zdo (Zp4 A _ l a c m1 (h'.mono bD) (hl.mono bD) dM) fun m2 bZ=>Zab (fun h1=>?_) (fun h1=>?_)
 ·have he:A.err l≠0:=by simpa using h1
  refine Zad (Mem.le_trans bD bZ) ?_
  rw[if_neg he]
 ·have he:A.err l=0:=by simpa using h1
  obtain⟨hr,hs⟩:=Zp9 he
  have hU:=Mem.le_trans bD bZ
  refine Zah (Zia A (ZeX.1 hr) _ l a c m2 (h'.mono hU) (hl.mono hU) dM hs) fun m3 cD=>Zad (Mem.le_trans hU cD) ?_
  rw[he,if_pos rfl]
theorem Zuo{m M:Mem}{Y:Nat→Prop}(h:m.le M)(hf:∀b,Y b→m.free b):m.le (M.off Y):=fun k o v hv=>by
 have hk:¬Y k:=fun e=>by rw[hf k e o]at hv;cases hv
 rw[Mem.off_at hk];exact h k o v hv
theorem Zup{m M:Mem}{b p:Nat}{ys:List Value}(h:m.le M)(hf:m.free b):m.le (M.upd b p ys):=fun k o v hv=>by
 have hk:k≠b:=fun e=>by subst e;rw[hf o]at hv;cases hv
 rw[Mem.upd_other _ hk];exact h k o v hv
theorem Zkw{m M:Mem}{b b' o:Nat}{v:Value}(hk:m b o=some v)(h:m.le M)(hf:M.free b'):b≠b':=fun e=>by
 subst e
 have:=h _ _ _ hk
 rw[hf o]at this;cases this
set_option maxHeartbeats 3200000 in
theorem ZsZ(A B:Nf)(hA:∀q∈A.sets,QOk q)(hB:∀q∈B.sets,QOk q)(v w:Value)(m:Mem)(h:NfR false A v m)(k:NfR false B w m)(vZ:A.fol.length≤1000)(l:List Int)(la:Option Addr)(lc:Nat)(hl:rowRd m la (Zaq l))(dM:l.length≤70)(ch:Nat)(ip:ch < 256):
  CX Try.prog 11 #[v,w,.slice la l.length lc,.int .u8 ch] m [] (Ret (.bool true)):=by
 have h':=h
 have k':=k
 obtain⟨s,f,x,y,rfl,⟨sa,sc,rfl,hs,dL,iw⟩,⟨fa,fc,vs,rfl,hf,f8,gN,fT⟩,⟨xa,xc,rfl,hx,dY,gq⟩,⟨ya,yc,rfl,hy,dD,gC⟩⟩:=h
 obtain⟨s',f',x',y',rfl,⟨sa',sc',rfl,hs',oE,rK⟩,⟨fa',fc',vs',rfl,hf',v4,v5,v6⟩,⟨xa',xc',rfl,hx',oF,oG⟩,⟨ya',yc',rfl,hy',oH,oI⟩⟩:=k
 apply ZiK
 unfold Zfr
 intro b0 m1 bD nb _ _ b1 m2 bZ eI _ _
 have dN:=Mem.le_trans bD bZ
 refine Zat (Zkr A hA _ m2 (h'.mono dN)) Zml ?_
 intro a n c a1 n1 c1 a2 n2 c2 a3 n3 c3 e m3 cD hX b3
 have iE:=Mem.le_trans dN cD
 refine Zat (ZsY A _ m3 (h'.mono iE) vZ) Zpf ?_
 intro o0 p0 q0 o1 p1 q1 o2 p2 q2 o3 p3 q3 oe m4 dC hC b5
 have iF:=Mem.le_trans iE dC
 refine Zat (ZhC (st:=false) l _ m4 ⟨la,lc,rfl,hl.mono iF,by omega,fun e=>by cases e⟩) ZbB ?_
 rintro a12 n8 c8 m5 cX ⟨_,_,tZ,hL,_,_⟩
 simp only[Value.slice.injEq,true_and]at tZ
 obtain⟨rfl,rfl,rfl⟩:=tZ
 have iG:=Mem.le_trans iF cX
 have np:=Mem.le_trans dC cX
 refine⟨fun i _ _=>if i=1 then Ret (.bool A.right)else if i=3 then Ret (.bool A.right)else if i=8 then Ret (.bool (decide (A=B)))else if i=11 then(fun v m' _=>RefR B v m')else if i=12 then Ret (.bool (decide (A=B)))else Ret (.bool true),?_⟩
 refine⟨_,rfl,Zkf A _ m5 (h'.mono iG),fun v _ _ h=>by rw[h];rfl,fun b6 m6 fQ sV=>?_⟩
 replace sV:Value.bool b6=.bool A.right:=sV
 obtain rfl:b6=A.right:=by simpa using sV
 refine⟨_,rfl,Zn0 A hA _ m6 (hX.mono (Mem.le_trans np fQ)),fun v _ _ h=>by rw[h];rfl,fun b7 m7 jy sW=>?_⟩
 replace sW:Value.bool b7=.bool A.right:=sW
 obtain rfl:b7=A.right:=by simpa using sW
 have sX:=Mem.le_trans fQ jy
 refine ZsL (by simp) ?_
 refine⟨_,rfl,Zkg A B _ _ m7 (h'.mono (Mem.le_trans iG sX)) (k'.mono (Mem.le_trans iG sX)),fun v _ _ h=>by rw[h];rfl,fun b8 m8 kj nm=>?_⟩
 replace nm:Value.bool b8=.bool (decide (A=B)):=nm
 obtain rfl:b8=decide (A=B):=by simpa using nm
 have t5:=Mem.le_trans sX kj
 refine⟨_,rfl,Zkr B hB _ m8 (k'.mono (Mem.le_trans iG t5)),Zml,fun t0 u0 w0 t1 u1 w1 t2 u2 w2 t3 u3 w3 te m9 oV sY=>?_⟩
 replace sY:RefR B _ m9:=sY
 have t6:=Mem.le_trans t5 oV
 refine⟨_,rfl,Zks A B hA hB _ _ m9 (h'.mono (Mem.le_trans iG t6)) sY,fun v _ _ h=>by rw[h];rfl,fun b10 m10 km mR=>?_⟩
 replace mR:Value.bool b10=.bool (decide (A=B)):=mR
 obtain rfl:b10=decide (A=B):=by simpa using mR
 have pA:=Mem.le_trans t6 km
 refine ZsL (by simp) ?_
 have cY:=Zks A A hA hA _ _ m10 ((hC.mono (Mem.le_trans cX pA)).nf) (hX.mono (Mem.le_trans np pA))
 rw[show decide (A=A)=true by simp]at cY
 refine⟨_,rfl,cY,fun v _ _ h=>by rw[h];rfl,fun b11 m11 mN mS M nh _ _ _ _ _ _=>?_⟩
 replace mS:Value.bool b11=.bool true:=mS
 obtain rfl:b11=true:=by simpa using mS
 refine ZsL rfl ?_
 have lF:=Mem.le_trans iG nh
 have kB:=Mem.le_trans np nh
 have sZ:=Mem.le_trans cX nh
 have lH:NfR false A _ M:=(hC.mono sZ).nf
 have s4:=hL.mono nh
 refine Zat (Zp6 A hA _ l a12 c8 ch ip M lH s4 (by omega)) (by rintro v m' css ⟨w,rfl,⟨_,_,rfl,_⟩,_⟩;rfl) ?_
 rintro a38 n13 c13 n14 m12 jc ⟨w12,pB,dF,cZ⟩
 simp only[Value.tuple.injEq,Array.mk.injEq,List.cons.injEq,Value.int.injEq,true_and,and_true]at pB
 obtain⟨rfl,rfl⟩:=pB
 refine Zat (Zn8 A _ l a12 c8 m12 (lH.mono jc) (s4.mono jc) (by omega)) (by rintro v m' css rfl;rfl) ?_
 rintro b12 n15 m13 jd pC
 simp only[Ret,Value.tuple.injEq,Array.mk.injEq,List.cons.injEq,Value.bool.injEq,Value.int.injEq,true_and,and_true]at pC
 obtain⟨rfl,rfl⟩:=pC
 have mT:=Mem.le_trans jc jd
 refine Zdo (Zrr A hA _ l la lc m13 (hX.mono (Mem.le_trans kB mT)) (hl.mono (Mem.le_trans lF mT)) (by omega)) fun m14 jC=>?_
 have je:=Mem.le_trans mT jC
 have t7:∀M',m14.le M'→CX Try.prog 23 #[.slice a12 l.length c8,.slice la l.length lc] M' [] (Ret (.bool true)):=fun M' hM'=>by
  have:=ZiB l l a12 la c8 lc M' (s4.mono (Mem.le_trans je hM')) (hl.mono (Mem.le_trans lF (Mem.le_trans je hM'))) (by omega)
  rw[show decide (l=l)=true by simp]at this;exact this
 refine⟨false,ZsL (by simp) (ZsL (by simp) ?_),ZsL rfl ?_⟩
 ·by_cases he:A.err l=0
  ·obtain⟨hr,cH⟩:=Zp9 he
   have cI:=ZeX.1 hr
   simp only[he,if_true]
   refine Zv4 rfl ?_
   refine Zat (ZsX A cI _ l la lc ch ip m14 (hX.mono (Mem.le_trans kB je)) (hl.mono (Mem.le_trans lF je)) (by omega) cH) ZbB ?_
   intro a45 n17 c14 m15 jD v7
   rw[if_pos he]at dF
   obtain⟨_,_,e1,r1,g1,_⟩:=dF
   obtain⟨_,_,e2,r2,g2,_⟩:=v7
   simp only[Value.slice.injEq,true_and]at e1 e2
   obtain⟨rfl,rfl,rfl⟩:=e1
   obtain⟨rfl,rfl,rfl⟩:=e2
   have pD:=ZiB (A.step l ch) (A.step l ch) a38 a45 c13 c14 m15 (r1.mono (Mem.le_trans jd (Mem.le_trans jC jD))) r2 g1
   rw[show decide (A.step l ch=A.step l ch)=true by simp]at pD
   refine Zah pD fun m16 iA=>ZsL rfl ?_
   refine Zah (Zn1 A cI _ l la lc m16 (hX.mono (Mem.le_trans kB (Mem.le_trans je (Mem.le_trans jD iA)))) (hl.mono (Mem.le_trans lF (Mem.le_trans je (Mem.le_trans jD iA)))) (by omega) cH) fun m17 k6=>ZsL (by simp) (ZsL rfl ?_)
   exact Zah (t7 m17 (Mem.le_trans jD (Mem.le_trans iA k6))) fun m18 jE=>⟨by trivial,rfl⟩
  ·rw[if_neg he]at dF ⊢
   obtain⟨_,_,e1,r1,g1,_⟩:=dF
   simp only[Value.slice.injEq,true_and]at e1
   obtain⟨rfl,rfl,rfl⟩:=e1
   refine ZsL (by simpa using he) (Zv4 (by simpa using he) (ZsL rfl (ZsL rfl ?_)))
   exact Zah (t7 m14 (Mem.le_refl _)) fun m18 jE=>⟨by trivial,rfl⟩
 obtain⟨L,v8⟩:∃L:List Int,SlI true L (.slice a38 n13 c13) m12:=⟨_,dF⟩
 obtain⟨_,_,e1,r1,g1,_⟩:=v8
 simp only[Value.slice.injEq,true_and]at e1
 obtain⟨rfl,rfl,rfl⟩:=e1
 have t8:=Mem.le_trans cD kB
 refine⟨fun xs _ _ m' q=>∃j:Nat,j≤L.length∧xs=[.int .i64 j]∧M.le m'∧DomK m12 m'∧q=L.length - j,⟨_,0,by omega,rfl,je,DomK.le (Mem.le_trans jd jC),rfl⟩,?_⟩
 rintro z m15 q _ ⟨j,hj,hz,kr,pE,hq⟩
 obtain rfl:z=j:=by simpa using hz
 subst hq
 refine Zab (fun bV=>?_) (fun cK=>?_)
 ·have bF:j < L.length:=by have:=of_decide_eq_true bV;omega
  obtain⟨xx,nQ⟩:=Zam bF
  obtain⟨b14,o14,ha,cO⟩:=Zba r1 nQ
  have fY:M.free b14:=cZ b14 o14 ha
  rw[Int.toNat_natCast]
  exact⟨b14,o14,ha,⟨by omega,by omega⟩,pE.one cO,Zfl lF fY,by trivial,Zkw (eI 0 _ rfl) t8 fY,Zkw (nb 0 _ rfl) (Mem.le_trans bZ t8) fY,by trivial,_,by omega,j+1,bF,by rw[Zau (by omega) (by omega)];rfl,Zup kr fY,pE.upd _ _ _,rfl⟩
 have kt:=Zks A A hA hA _ _ m15 ((hC.mono (Mem.le_trans sZ kr)).nf) (hX.mono (Mem.le_trans kB kr))
 rw[show decide (A=A)=true by simp]at kt
 refine Zah kt fun m16 iA=>ZsL rfl ?_
 have h4_16:=Mem.le_trans sZ (Mem.le_trans kr iA)
 have h3_16:=Mem.le_trans kB (Mem.le_trans kr iA)
 obtain⟨_,_,_,_,hv,⟨gS,nS⟩,⟨gX,nX⟩,⟨gY,nY⟩,ga,gc,gs,rfl,gr,gl,gb,d1,d2,d3,gF⟩:=hC.mono h4_16
 simp only[Value.agg.injEq,Array.mk.injEq,List.cons.injEq,Value.bool.injEq,true_and,and_true,Value.slice.injEq]at hv
 obtain⟨rfl,⟨rfl,rfl,rfl⟩,rfl,rfl,rfl⟩:=hv
 obtain⟨_,_,eS,_⟩:=id gS
 obtain⟨_,_,eX,_⟩:=id gX
 obtain⟨_,_,eY,_⟩:=id gY
 simp only[Value.slice.injEq]at eS eX eY
 obtain⟨rfl,rfl,rfl⟩:=eS
 obtain⟨rfl,rfl,rfl⟩:=eX
 obtain⟨rfl,rfl,rfl⟩:=eY
 have kn:∀b,¬m16.free b→∃o v,m16 b o=some v:=fun b hb=>by
  refine Classical.byContradiction fun hh=>hb fun o=>?_
  cases he:m16 b o with
  | none=>rfl
  | some u=>exact absurd ⟨o,u,he⟩ hh
 refine⟨fun b=>m3.free b∧(∃o v,m16 b o=some v)∧∀o',o1≠some ⟨b,o',none⟩,_,Zrv A o0 q0 o1 q1 o2 q2 o3 q3 gs m16 _ gS gX gY gr gl gb (fun i v l hv hl=>(gF i v l hv hl).1) (fun b o e cM=>⟨nS b o e,kn b (Zwk gS cM e),fun o' e'=>d1 cM b o o' e e'⟩) (fun b o e cM=>⟨nX b o e,kn b (Zu9 gX cM e),fun o' e'=>d2 cM b o o' e e'⟩) (fun b o e cM=>⟨nY b o e,kn b (Zu9 gY cM e),fun o' e'=>d3 cM b o o' e e'⟩) (fun b o e hY=>hY.2.2 o e) (fun i v l hv hl b o e cM=>⟨(gF i v l hv hl).2.1 b o e,kn b (Zu9 (gF i v l hv hl).1 cM e),fun o' e'=>(gF i v l hv hl).2.2 cM b o o' e e'⟩),(fun t ht=>by cases ht),fun b15 hY=>.inr ⟨Zfl iE hY.1,hY.2.1,Zkw (eI 0 _ rfl) cD hY.1,Zkw (nb 0 _ rfl) (Mem.le_trans bZ cD) hY.1,by trivial⟩,fun v _ _ _ h=>by rw[h];rfl,fun m17 pF _ _=>?_⟩
 have h3_17:m3.le m17:=Mem.le_trans (Zuo h3_16 fun b hY=>hY.1) pF
 have ku:=Zks A A hA hA _ _ m17 (h'.mono (Mem.le_trans iE h3_17)) (hX.mono h3_17)
 rw[show decide (A=A)=true by simp]at ku
 exact Zah ku fun m18 jE=>⟨m18,Mem.le_trans iE (Mem.le_trans h3_17 jE),Mem.le_refl _,rfl⟩
end Go.Proofs.Ytplacemlpkhmfaa

