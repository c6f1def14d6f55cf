/- Part of the proof: conditions and contracts of functions of this program. No condition of its own. -/
import Derived.Test.YtplacemlpkhmfaaPVNW
import Derived.Test.YtplacemlpkhmfaaPC17HS
import Derived.Test.YtplacemlpkhmfaaPEnv
import Derived.Test.YtplacemlpkhmfaaPC17RC
import Derived.Test.YtplacemlpkhmfaaMr
import Derived.Test.YtplacemlpkhmfaaMc
import Derived.Test.YtplacemlpkhmfaaPVNR
set_option linter.unusedVariables false
set_option linter.unusedSimpArgs false
namespace Go.Proofs.Ytplacemlpkhmfaa
open Go Go.Eng Go.Rx Go.Proofs Go.RowKit
set_option maxRecDepth 100000
def DomK(m m':Mem):Prop:=∀b o v,m b o=some v→∃u,m' b o=some u
theorem DomK.le{m m':Mem}(h:m.le m'):DomK m m':=fun b o v hv=>⟨v,h b o v hv⟩
theorem DomK.trans{m m' M:Mem}(h:DomK m m')(k:DomK m' M):DomK m M:=fun b o v hv=>by
 obtain⟨u,hu⟩:=h b o v hv
 exact k b o u hu
theorem DomK.upd{m m':Mem}(h:DomK m m')(b p:Nat)(ys:List Value):DomK m (m'.upd b p ys):=fun k o v hv=>by
 obtain⟨u,hu⟩:=h k o v hv
 show ∃u,(if k=b∧p≤o∧o < p+ys.length then ys[o - p]? else m' k o)=some u
 by_cases hc:k=b∧p≤o∧o < p+ys.length
 ·rw[if_pos hc]
  exact⟨_,List.getElem?_eq_getElem (by omega)⟩
 ·rw[if_neg hc];exact⟨u,hu⟩
theorem DomK.one{m m':Mem}(h:DomK m m'){b o:Nat}{v:Value}(hv:m b o=some v):∃vs:List Value,vs.length=1∧m'.reads b o vs:=by
 obtain⟨u,hu⟩:=h b o v hv
 refine⟨[u],rfl,fun j w hj=>?_⟩
 cases j with
 | zero=>cases hj;exact hu
 | succ j=>simp at hj
theorem DomK.many{m m':Mem}(h:DomK m m'){b o:Nat}{vs:List Value}(hv:m.reads b o vs):∃ws:List Value,ws.length=vs.length∧m'.reads b o ws:=by
 have:∀n,n≤vs.length→∃ws:List Value,ws.length=n∧m'.reads b o ws:=by
  intro n
  induction n with
  | zero=>intro _;exact⟨[],rfl,fun j w hj=>by simp at hj⟩
  | succ n ih=>
   intro hn
   obtain⟨ws,h1,h2⟩:=ih (by omega)
   obtain⟨u,hu⟩:=h b (o+n) _ (hv n _ (List.getElem?_eq_getElem (by omega)))
   refine⟨ws++[u],by simp[h1],fun j w hj=>?_⟩
   rw[List.getElem?_append]at hj
   split at hj
   ·exact h2 j w hj
   ·have hl:=(List.getElem?_eq_some_iff.1 hj).1
    have:j=n:=by simp at hl;omega
    subst this
    rw[h1,Nat.sub_self]at hj
    cases hj;exact hu
 exact this _ (Nat.le_refl _)
theorem Zua{m:Mem}{a:Option Addr}{xs:List Value}{b p:Nat}{ys:List Value}(h:rowRd m a xs)(hn:∀b' o,a=some ⟨b',o,none⟩→b'≠b):rowRd (m.upd b p ys) a xs:=by
 rcases h with h|⟨b',o,e,h⟩
 ·exact .inl h
 ·refine .inr ⟨b',o,e,fun j v hv=>?_⟩
  rw[Mem.upd_other _ (hn b' o e)];exact h j v hv
theorem off_free{m:Mem}{Y:Nat→Prop}{b:Nat}(h:Y b):(m.off Y).free b:=fun o=>Mem.off_free h o
theorem Zrp(A:Nf)(sa:Option Addr)(sc:Nat)(fa:Option Addr)(fc:Nat)(xa:Option Addr)(xc:Nat)(ya:Option Addr)(yc:Nat)(vs:List Value)(m:Mem)(Y:Nat→Prop)(hS:SlQ false A.sets (.slice sa A.sets.length sc) m)(hX:SlI false A.first (.slice xa A.first.length xc) m)(vQ:SlI false A.last (.slice ya A.last.length yc) m)
  (hf:rowRd m fa vs) (f9:vs.length=A.fol.length) (gZ:A.fol.length≤1000000) (fW:∀(i:Nat)(v:Value)(l:List Int),vs[i]?=some v→A.fol[i]?=some l→SlI false l v m)
  (yS:∀b o,sa=some ⟨b,o,none⟩→A.sets≠[]→Y b) (yX:∀b o,xa=some ⟨b,o,none⟩→A.first≠[]→Y b) (yY:∀b o,ya=some ⟨b,o,none⟩→A.last≠[]→Y b) (yN:∀b o,fa=some ⟨b,o,none⟩→¬Y b)
  (yF:∀(i:Nat)(w:Value)(l:List Int),vs[i]?=some w→A.fol[i]?=some l→∀b o,slA w=some ⟨b,o,none⟩→l≠[]→Y b):
  CXY Try.prog 50 #[VN A sa sc fa fc xa xc ya yc] m Y [] [] (fun v _ _ _=>v=.tuple #[]):=by
 obtain⟨_,_,e0,hs,dP,_⟩:=id hS
 simp only[Value.slice.injEq,true_and]at e0
 obtain⟨rfl,rfl⟩:=e0
 apply ZhD
 unfold Zfm
 intro b m1 bE eI pZ _
 refine⟨fun xs _ _ m' q=>∃k:Nat,k≤A.sets.length∧xs=[.int .i64 k]∧DomK m1 m'∧(∀u o,¬Y u→m' u o=m1 u o)∧q=A.sets.length - k,⟨_,0,by omega,rfl,DomK.le (Mem.le_refl _),fun _ _ _=>rfl,rfl⟩,?_⟩
 rintro z m2 q _ ⟨k,hk,hz,hd,fI,hq⟩
 obtain rfl:z=k:=by simpa using hz
 subst hq
 refine Zab (fun bV=>?_) (fun cM=>?_)
 ·have bF:k < A.sets.length:=by have:=of_decide_eq_true bV;omega
  obtain⟨qq,jq⟩:=Zam bF
  obtain⟨sb,so,iA,eB⟩:=Zgi hs jq
  have cJ:A.sets≠[]:=fun e=>by rw[e]at bF;simp at bF
  have jP:=yS sb so iA cJ
  have nm:b≠sb:=fun e=>by
   subst e
   have:=eB 0 _ rfl
   rw[pZ]at this;cases this
  obtain⟨ws,eF,dQ⟩:=hd.many (eB.mono bE)
  rw[Int.toNat_natCast]
  refine⟨sb,so,iA,⟨by omega,by omega⟩,⟨ws,eF,dQ⟩,off_free jP,by trivial,nm,by trivial,_,by omega,k+1,bF,by rw[Zau (by omega) (by omega)];rfl,hd.upd _ _ _,fun u o hu=>?_,rfl⟩
  rw[Mem.upd_other _ (fun e=>hu (by rw[e];exact jP))];exact fI u o hu
 ·intro b1 pa
  have jl:∀u o w,m1 u o=some w→u≠b1:=fun u o w hw e=>by
   subst e
   obtain⟨u',hu'⟩:=hd _ _ _ hw
   rw[pa]at hu';cases hu'
  have row:∀(w:Value)(l:List Int),SlI false l w m→(∀b o,slA w=some ⟨b,o,none⟩→l≠[]→Y b)→∀(m3:Mem),DomK m1 m3→∀j:Nat,j < l.length→∃b3 o3,slA w=some ⟨b3,o3,none⟩∧slN w=l.length∧(∃ws:List Value,ws.length=1∧m3.reads b3 (o3+j*1) ws)∧Y b3∧b1≠b3∧b≠b3∧∃o u,m b3 o=some u:=by
   rintro w l ⟨la,lc,rfl,hr,dL,_⟩ pb m3 pc j hj
   obtain⟨x,hx⟩:=Zam hj
   obtain⟨b3,o3,e3,cN⟩:=Zba hr hx
   have cJ:l≠[]:=fun e=>by rw[e]at hj;simp at hj
   refine⟨b3,o3,e3,rfl,pc.one (bE _ _ _ cN),pb b3 o3 e3 cJ,fun e=>jl _ _ _ (bE _ _ _ cN) e.symm,fun e=>?_,_,_,cN⟩
   subst e
   rw[pZ]at cN;cases cN
  have bY:∀(w:Value)(l:List Int),SlI false l w m→∃a c,w=.slice a l.length c∧l.length≤1000000:=fun w l ⟨a,c,e,_,h2,_⟩=>⟨a,c,e,h2⟩
  have jK:=Mem.le_add pa [Value.slice xa A.first.length xc,Value.slice ya A.last.length yc]
  have kp:rowRd (m2.add b1 [Value.slice xa A.first.length xc,Value.slice ya A.last.length yc]) (some ⟨b1,0,none⟩) [Value.slice xa A.first.length xc,Value.slice ya A.last.length yc]:=.inr ⟨b1,0,rfl,fun j u hj=>by rw[Nat.zero_add,Mem.add_same];exact hj⟩
  have all:∀(n:Nat)(w:Value),([Value.slice xa A.first.length xc,Value.slice ya A.last.length yc]++vs)[n]?=some w→∃l:List Int,SlI false l w m∧∀b o,slA w=some ⟨b,o,none⟩→l≠[]→Y b:=fun n w hw=>by
   match n with
   | 0=>cases hw;exact⟨A.first,hX,yX⟩
   | 1=>cases hw;exact⟨A.last,vQ,yY⟩
   | n+2=>
    have hw':vs[n]?=some w:=by simpa using hw
    obtain⟨l,hl⟩:=Zam (l:=A.fol) (k:=n) (by have:=(List.getElem?_eq_some_iff.1 hw').1;omega)
    exact⟨l,fW n w l hw' hl,yF n w l hw' hl⟩
  refine Zab (fun hz=>?_) (fun hz=>?_)
  ·refine⟨fun xs _ _ m' q=>∃k:Nat,k≤2∧xs=[.int .i64 k]∧DomK m1 m'∧rowRd m' (some ⟨b1,0,none⟩) [Value.slice xa A.first.length xc,Value.slice ya A.last.length yc]∧q=2 - k,⟨_,0,by omega,rfl,hd.trans (DomK.le jK),kp,rfl⟩,?_⟩
   rintro z m3 q _ ⟨k2,f8,iY,pc,lZ,hq⟩
   obtain rfl:z=k2:=by simpa using iY
   subst hq
   refine Zab (fun bV=>?_) (fun cM=>rfl)
   have bF:k2 < 2:=by have:=of_decide_eq_true bV;omega
   obtain⟨w,hw⟩:=Zam (l:=[Value.slice xa A.first.length xc,Value.slice ya A.last.length yc]) (k:=k2) (by simpa using bF)
   obtain⟨l,hl,pb⟩:=all k2 w (by rw[List.getElem?_append_left (by simpa using bF)];exact hw)
   obtain⟨a0,c0,mI,dL⟩:=bY w l hl
   obtain⟨b2,o2,e2,eC⟩:=ZbX lZ hw
   refine⟨b2,o2,e2,⟨by omega,by omega⟩,w,(by rw[Int.toNat_natCast];exact eC),Zaa (by rw[mI];rfl) ?_⟩
   refine⟨fun xs _ _ m' q=>∃j:Nat,j≤l.length∧xs=[.int .i64 j]∧DomK m1 m'∧rowRd m' (some ⟨b1,0,none⟩) [Value.slice xa A.first.length xc,Value.slice ya A.last.length yc]∧q=l.length - j,⟨_,0,by omega,rfl,pc,lZ,rfl⟩,?_⟩
   rintro z m4 q _ ⟨j,hj,sj,mJ,kj,hq⟩
   obtain rfl:z=j:=by simpa using sj
   subst hq
   refine Zab (fun eK=>?_) (fun gP=>?_)
   ·have cR:j < l.length:=by have:=of_decide_eq_true eK;rw[mI]at this;simp only[slN]at this;omega
    obtain⟨b3,o3,e3,e4,kx,jP,ka,fP,_⟩:=row w l hl pb m4 mJ j cR
    rw[Int.toNat_natCast]
    refine Zaa (by rw[mI];rfl) ⟨b3,o3,e3,⟨by omega,by rw[e4];omega⟩,kx,off_free jP,by trivial,ka,fP,by trivial,by trivial,_,by omega,j+1,cR,by rw[Zau (by omega) (by omega)];rfl,mJ.upd _ _ _,Zua kj fun b' o e=>by cases e;exact ka,rfl⟩
   ·exact⟨by trivial,by trivial,_,by omega,k2+1,bF,by rw[Zau (by omega) (by omega)];rfl,mJ,kj,rfl⟩
  ·have fV:rowRd (m2.add b1 [Value.slice xa A.first.length xc,Value.slice ya A.last.length yc]) fa vs:=by
    have h2:rowRd m2 fa vs:=by
     rcases hf with hf|⟨b',o,e,hf⟩
     ·exact .inl hf
     ·refine .inr ⟨b',o,e,fun j v hv=>?_⟩
      rw[fI b' _ (yN b' o e)]
      exact bE _ _ _ (hf j v hv)
    exact h2.mono jK
   have hz':A.fol.length≠0:=fun e=>by rw[e]at hz;cases hz
   refine⟨.inr (by omega),[Value.slice xa A.first.length xc,Value.slice ya A.last.length yc],vs,rfl,by omega,kp,fV,fun u hu=>?_,by omega,by omega,fun a7 c7 m7 jC mz pX=>?_⟩
   ·obtain⟨i,hi⟩:=List.getElem?_of_mem hu
    obtain⟨l,hl⟩:=Zam (l:=A.fol) (k:=i) (by have:=(List.getElem?_eq_some_iff.1 hi).1;omega)
    obtain⟨_,_,rfl,_⟩:=fW i u l hi hl
    rfl
   have vR:DomK m1 m7:=(hd.trans (DomK.le jK)).trans (DomK.le jC)
   have vS:∀b' o,a7=some ⟨b',o,none⟩→∀b3,b1≠b3→(∃o u,m b3 o=some u)→b'≠b3:=fun b' o e b3 my ⟨o3,u,hu⟩ e3=>by
    subst e3
    rcases pX.2 with h|⟨b'',o'',h1,h2⟩
    ·rw[h]at e;cases e
    ·rw[h1]at e;cases e
     rcases h2 with h2|h2
     ·rw[h1]at h2;cases h2
      exact my rfl
     ·obtain⟨u',hu'⟩:=(hd.trans (DomK.le jK)) _ _ _ (bE _ _ _ hu)
      rw[h2.2 o3]at hu';cases hu'
   refine⟨fun xs _ _ m' q=>∃k:Nat,k≤2+A.fol.length∧xs=[.int .i64 k]∧DomK m1 m'∧rowRd m' a7 ([Value.slice xa A.first.length xc,Value.slice ya A.last.length yc]++vs)∧q=2+A.fol.length - k,⟨_,0,by omega,rfl,vR,mz,rfl⟩,?_⟩
   rintro z m3 q _ ⟨k2,f8,iY,pc,lZ,hq⟩
   obtain rfl:z=k2:=by simpa using iY
   subst hq
   refine Zab (fun bV=>?_) (fun cM=>rfl)
   have bF:k2 < 2+A.fol.length:=by have:=of_decide_eq_true bV;omega
   obtain⟨w,hw⟩:=Zam (l:=[Value.slice xa A.first.length xc,Value.slice ya A.last.length yc]++vs) (k:=k2) (by rw[List.length_append,f9];exact bF)
   obtain⟨l,hl,pb⟩:=all k2 w hw
   obtain⟨a0,c0,mI,dL⟩:=bY w l hl
   obtain⟨b2,o2,e2,eC⟩:=ZbX lZ hw
   refine⟨b2,o2,e2,⟨by omega,by omega⟩,w,(by rw[Int.toNat_natCast];exact eC),Zaa (by rw[mI];rfl) ?_⟩
   refine⟨fun xs _ _ m' q=>∃j:Nat,j≤l.length∧xs=[.int .i64 j]∧DomK m1 m'∧rowRd m' a7 ([Value.slice xa A.first.length xc,Value.slice ya A.last.length yc]++vs)∧q=l.length - j,⟨_,0,by omega,rfl,pc,lZ,rfl⟩,?_⟩
   rintro z m4 q _ ⟨j,hj,sj,mJ,kj,hq⟩
   obtain rfl:z=j:=by simpa using sj
   subst hq
   refine Zab (fun eK=>?_) (fun gP=>?_)
   ·have cR:j < l.length:=by have:=of_decide_eq_true eK;rw[mI]at this;simp only[slN]at this;omega
    obtain⟨b3,o3,e3,e4,kx,jP,ka,fP,kX⟩:=row w l hl pb m4 mJ j cR
    rw[Int.toNat_natCast]
    refine Zaa (by rw[mI];rfl) ⟨b3,o3,e3,⟨by omega,by rw[e4];omega⟩,kx,off_free jP,by trivial,ka,fP,by trivial,by trivial,_,by omega,j+1,cR,by rw[Zau (by omega) (by omega)];rfl,mJ.upd _ _ _,Zua kj fun b' o e=>vS b' o e b3 ka kX,rfl⟩
   ·exact⟨by trivial,by trivial,_,by omega,k2+1,bF,by rw[Zau (by omega) (by omega)];rfl,mJ,kj,rfl⟩
end Go.Proofs.Ytplacemlpkhmfaa
set_option linter.unusedVariables false
namespace Go.Proofs.Ytplacemlpkhmfaa
open Go Go.Eng Go.Proofs Go.RowKit
open Go.Value (int slice agg)
open Go.IntKind (u8 u64 i64)
set_option maxRecDepth 100000
noncomputable def Zn0:Env:=EB
def ZhE(p0:Int)(m:Mem)(R:RT):Prop:=
 ∀(b b:Nat),(64:Int)≠(0:Int)∧(64:Int)≠(0:Int)∧(0:Int)≤Int.tmod p0 (64:Int)∧Zag (IntKind.wrap u8 (Int.tdiv p0 (64:Int))) 4∧chk (Nat.ble (0+Int.toNat (IntKind.wrap u8 (Int.tdiv p0 (64
 : Int)))*1) (nat_lit 3)) (chk (Nat.beq (List.length (Zan [int u64 0,int u64 0,int u64 0,int u64 0] (0+Int.toNat (IntKind.wrap u8 (Int.tdiv p0 (64:Int)))*1) [int u64 (IntKind.wrap u64 ((1:Int)*(2:Int)
 ^ min (Int.toNat (Int.tmod p0 (64:Int))) 64))])) 4&&Zcq (Zan [int u64 0,int u64 0,int u64 0,int u64 0] (0+Int.toNat (IntKind.wrap u8 (Int.tdiv p0 (64:Int)))*1) [int u64 (IntKind.wrap u64 ((1:Int) *
 (2:Int) ^ min (Int.toNat (Int.tmod p0 (64:Int))) 64))])) (∃(m'':Mem),Mem.le m m''∧Mem.le m'' m∧R (agg (Array.mk (Zan [int u64 0,int u64 0,int u64 0,int u64 0] (0+Int.toNat (IntKind.wrap u8 (Int.tdiv
 p0 (64:Int)))*1) [int u64 (IntKind.wrap u64 ((1:Int)*(2:Int) ^ min (Int.toNat (Int.tmod p0 (64:Int))) 64))]))) m'' []))
theorem ZlU(p0:Int)(m:Mem)(R:RT)(h:ZhE p0 m R):CX Try.prog 52 #[.int .u8 p0] m [] R:=
 Zal (E:=Zn0) Zaz mix Try.func52 [.v (.int .u8 p0)] [] (by kernel_rfl) (Eq.mp (by kernel_rfl) h)
noncomputable def ZiF:Env:=EB
def ZeN(p0:Int)(m:Mem)(R:RT):Prop:=
 ∀(b:Nat),∃(R_1:RT),True∧CX Try.prog 52 (Array.mk [int u8 p0]) m [] R_1∧ZaF (Shape.agg [Shape.int u64,Shape.int u64,Shape.int u64,Shape.int u64]) R_1∧∀(n n_1 n_2 n_3:Int)(m':Mem),Mem.le m m'→
 R_1 (agg (Array.mk [int u64 n,int u64 n_1,int u64 n_2,int u64 n_3])) m' []→∃(m'':Mem),Mem.le m m''∧Mem.le m'' m'∧R (agg (Array.mk [int u8 2,int u64 n,int u64 n_1,int u64 n_2,int u64 n_3,int i64 0,int
 i64 0,slice none 0 0])) m'' []
theorem ZhF(p0:Int)(m:Mem)(R:RT)(h:ZeN p0 m R):CX Try.prog 51 #[.int .u8 p0] m [] R:=
 Zal (E:=ZiF) Zaz mix Try.func51 [.v (.int .u8 p0)] [] (by kernel_rfl) (Eq.mp (by kernel_rfl) h)
noncomputable def Zkn:Env:={ EB with
 dr:=(fun i=>bif Nat.beq i 2 then[⟨0,[1],[],none,[],[]⟩,⟨1,[],[],none,[],[]⟩,⟨2,[26],[26],none,[0,1],[1]⟩,⟨3,[26],[],none,[0,1,2],[]⟩,⟨4,[28],[28],none,[0,1,2,3],[2]⟩,⟨5,[28],[],none,[0,1,2,3,4],[]⟩,⟨6,[2],[2],none,[],[]⟩,⟨7,[2],[2],none,[0,1,2,3,4,5,6],[]⟩]else[]) }
abbrev Zcn:Int→Int→Int→Int→Int→Int→Int→Option Addr→Nat→Nat→Int→Int→Int→Int→Int→Int→Int→Option Addr→Nat→Nat→List Value:=fun(n ae af ag ah ai aj:Int) (a:Option
 Addr) (ak c:Nat) (ao ap aq ar bd be bf:Int) (fy:Option Addr) (bg bh:Nat)=>[int u8 n,int u64 ae,int u64 af,int u64 ag,int u64 ah,int i64 ai,int i64 aj,slice a ak c,int u8 ao,int u64 ap,int u64 aq,int
 u64 ar,int u64 bd,int i64 be,int i64 bf,slice fy bg bh]
abbrev Zdr:Nat→Int→Int→Int→Int→Int→Int→Int→Option Addr→Nat→Nat→List Value:=fun(b:Nat)(n ae af ag ah ai aj:Int)(a:Option Addr)(ak c:Nat)=>[int u8 3,int u64 0,int u64
 0,int u64 0,int u64 0,int i64 0,int i64 0,slice (some (Addr.mk b 0 none)) 2 2,int u8 n,int u64 ae,int u64 af,int u64 ag,int u64 ah,int i64 ai,int i64 aj,slice a ak c]
abbrev Za0:Int→Int→Int→Int→Int→Int→Int→Int→Int→Int→Int→Int→List Value:=fun(n ae af ag ah ai aj ak ao ap aq ar:Int)=>[int u64 n,int u64 ae,int u64 af,int u64 ag,int u64 ah,
 int u64 ai,int u64 aj,int u64 ak,int u64 ao,int u64 ap,int u64 aq,int u64 ar]
abbrev Zbb:Int→Int→Int→Int→List Value:=fun(n ae af ag:Int)=>[int u64 n,int u64 ae,int u64 af,int u64 ag,int u64 n,int u64 ae,int u64 af,int u64 ag,int u64 n,int u64 ae,int u64 af,
 int u64 ag]
def Zfq  (m:Mem)(R:RT):Prop:=
 ∃(R_1:RT),True∧CX Try.prog 51 (Array.mk [int u8 97]) m [] R_1∧ZaF (shT) R_1∧∀(n ae af ag ah ai aj:Int)(a:Option Addr)(ak c:Nat)(m':Mem),Mem.le m m'→R_1 (agg (Array.mk [int u8 n,int u64 ae,int
 u64 af,int u64 ag,int u64 ah,int i64 ai,int i64 aj,slice a ak c])) m' []→∃(R_2:RT),True∧CX Try.prog 51 (Array.mk [int u8 98]) m' [] R_2∧ZaF (shT) R_2∧∀(ao ap aq ar bd be bf:Int)(bu:Option Addr)
 (bg bh:Nat) (bi:Mem),Mem.le m' bi→R_2 (agg (Array.mk [int u8 ao,int u64 ap,int u64 aq,int u64 ar,int u64 bd,int i64 be,int i64 bf,slice bu bg bh])) bi []→∀(b:Nat),Mem.free bi b→∀(fz:Nat),∃(f:
 Fx),∃(R_3:RT),R_3=f 1 [int u8 99] (Mem.add bi b (Zcn n ae af ag ah ai aj a ak c ao ap aq ar bd be bf bu bg bh))∧CX Try.prog 51 (Array.mk [int u8 99]) (Mem.add bi b (Zcn n ae af ag ah ai aj
 a ak c ao ap aq ar bd be bf bu bg bh)) [] R_3∧ZaF (shT) R_3∧∀(bw bx bz ca cb cc cd:Int)(ce:Option Addr)(cf cg:Nat)(m':Mem),Mem.le (Mem.add bi b (Zcn n ae af ag ah ai aj a ak c ao ap aq ar bd
 be bf bu bg bh)) m'→R_3 (agg (Array.mk [int u8 bw,int u64 bx,int u64 bz,int u64 ca,int u64 cb,int i64 cc,int i64 cd,slice ce cf cg])) m' []→∀(bv:Nat),Mem.free m' bv→∀(di:Nat),Mem.free (Mem.add m' bv
 (Zdr b bw bx bz ca cb cc cd ce cf cg)) di→∀(f0:Nat)(M:Mem),Mem.le (Mem.add bi b (Zcn n ae af ag ah ai aj a ak c ao ap aq ar bd be bf bu bg bh)) M→Mem.le m' M→Mem.le (Mem.add m' bv
 (Zdr b bw bx bz ca cb cc cd ce cf cg)) M→Mem.le (Mem.add (Mem.add m' bv (Zdr b bw bx bz ca cb cc cd ce cf cg)) di [int u8 4,int u64 0,int u64 0,int u64 0,int u64 0,int i64 0,int i64 0,
 slice (some (Addr.mk bv 0 none)) 2 2]) M→∃(R_4:RT),True∧CX Try.prog 14 (Array.mk [agg (Array.mk [int u8 5,int u64 0,int u64 0,int u64 0,int u64 0,int i64 0,int i64 (-1:Int),slice (some (Addr.mk di 0
 none)) 1 1])]) M [] R_4∧ZaF (Shape.tup [Shape.agg [Shape.slice,Shape.slice,Shape.slice,Shape.slice,Shape.bool],Shape.int i64]) R_4∧∀(a:Option Addr)(n c:Nat)(ch:Option Addr)(ci cj:Nat) (ck:Option
 Addr) (cl cm:Nat) (cn:Option Addr) (co cp:Nat) (cq:Bool) (ee:Int) (m':Mem),Mem.le M m'→R_4 (Value.tuple (Array.mk [agg (Array.mk [slice a n c,slice ch ci cj,slice ck cl cm,slice cn co cp,Value.bool
 cq]),int i64 ee])) m' []→∀(f1:Nat),∃(R_5:RT),True∧CX Try.prog 52 (Array.mk [int u8 97]) m' [] R_5∧ZaF (Shape.agg [Shape.int u64,Shape.int u64,Shape.int u64,Shape.int u64]) R_5∧∀(au av aw ax:Int)
 (cr:Mem),Mem.le m' cr→R_5 (agg (Array.mk [int u64 au,int u64 av,int u64 aw,int u64 ax])) cr []→∃(R_6:RT),True∧CX Try.prog 52 (Array.mk [int u8 98]) cr [] R_6∧ZaF (Shape.agg [Shape.int u64,Shape.int
 u64,Shape.int u64,Shape.int u64]) R_6∧∀(ay az a0 a1:Int)(m':Mem),Mem.le cr m'→R_6 (agg (Array.mk [int u64 ay,int u64 az,int u64 a0,int u64 a1])) m' []→∃(R_7:RT),True∧CX Try.prog 52 (Array.mk [int
 u8 99]) m' [] R_7∧ZaF (Shape.agg [Shape.int u64,Shape.int u64,Shape.int u64,Shape.int u64]) R_7∧∀(a2 a3 a4 a5:Int)(al:Mem),Mem.le m' al→R_7 (agg (Array.mk [int u64 a2,int u64 a3,int u64 a4,int u64
 a5])) al []→∀(an:Nat),Mem.free al an→∀(a6:Nat),Mem.free (Mem.add al an (Za0 au av aw ax ay az a0 a1 a2 a3 a4 a5)) a6→∀(a9:Nat),Mem.free (Mem.add (Mem.add al an (Za0 au av aw ax ay
 az a0 a1 a2 a3 a4 a5)) a6 [int i64 0,int i64 2]) a9→∀(ba:Nat),Mem.free (Mem.add (Mem.add (Mem.add al an (Za0 au av aw ax ay az a0 a1 a2 a3 a4 a5)) a6 [int i64 0,int i64 2]) a9 [int i64 1,int i64 2])
 ba→∀(bj:Nat),Mem.free (Mem.add (Mem.add (Mem.add (Mem.add al an (Za0 au av aw ax ay az a0 a1 a2 a3 a4 a5)) a6 [int i64 0,int i64 2]) a9 [int i64 1,int i64 2]) ba [int i64 1]) bj→∀(bo:Nat),
 Mem.free (Mem.add (Mem.add (Mem.add (Mem.add (Mem.add al an (Za0 au av aw ax ay az a0 a1 a2 a3 a4 a5)) a6 [int i64 0,int i64 2]) a9 [int i64 1,int i64 2]) ba [int i64 1]) bj [int i64 0,int i64 2]) bo→∀
 (cs:Nat),Mem.free (Mem.add (Mem.add (Mem.add (Mem.add (Mem.add (Mem.add al an (Za0 au av aw ax ay az a0 a1 a2 a3 a4 a5)) a6 [int i64 0,int i64 2]) a9 [int i64 1,int i64 2]) ba [int i64 1]) bj [int i64 0,
 int i64 2]) bo [int i64 0,int i64 2]) cs→∀(f2:Nat),∃(R_8:RT),True∧CX Try.prog 51 (Array.mk [int u8 97]) (Mem.add (Mem.add (Mem.add (Mem.add (Mem.add (Mem.add (Mem.add al an (Za0 au av aw ax ay az
 a0 a1 a2 a3 a4 a5)) a6 [int i64 0,int i64 2]) a9 [int i64 1,int i64 2]) ba [int i64 1]) bj [int i64 0,int i64 2]) bo [int i64 0,int i64 2]) cs [slice (some (Addr.mk ba 0 none)) 1 1,slice (some (Addr.mk bj 0 none))
 2 2,slice (some (Addr.mk bo 0 none)) 2 2]) [] R_8∧ZaF (shT) R_8∧∀(dj dk dl dm dn dp dq:Int)(dr:Option Addr)(ds dt:Nat)(m':Mem),Mem.le (Mem.add (Mem.add (Mem.add (Mem.add (Mem.add (Mem.add (Mem.add al
 an (Za0 au av aw ax ay az a0 a1 a2 a3 a4 a5)) a6 [int i64 0,int i64 2]) a9 [int i64 1,int i64 2]) ba [int i64 1]) bj [int i64 0,int i64 2]) bo [int i64 0,int i64 2]) cs [slice (some (Addr.mk ba 0 none)) 1
 1,slice (some (Addr.mk bj 0 none)) 2 2,slice (some (Addr.mk bo 0 none)) 2 2]) m'→R_8 (agg (Array.mk [int u8 dj,int u64 dk,int u64 dl,int u64 dm,int u64 dn,int i64 dp,int i64 dq,slice dr ds dt])) m' []→∀(ct
 : Nat),Mem.free m' ct→∃(R_9:RT),True∧CX Try.prog 14 (Array.mk [agg (Array.mk [int u8 5,int u64 0,int u64 0,int u64 0,int u64 0,int i64 2,int i64 3,slice (some (Addr.mk ct 0 none)) 1 1])]) (Mem.add m' ct
 [int u8 dj,int u64 dk,int u64 dl,int u64 dm,int u64 dn,int i64 dp,int i64 dq,slice dr ds dt]) [] R_9∧ZaF (Shape.tup [Shape.agg [Shape.slice,Shape.slice,Shape.slice,Shape.slice,Shape.bool],Shape.int i64])
 R_9∧∀(ef:Option Addr)(eg eh:Nat)(ei:Option Addr)(ej ek:Nat)(el:Option Addr)(em en:Nat)(eo:Option Addr)(ep eq:Nat)(er:Bool)(es:Int)(cu:Mem),Mem.le (Mem.add m' ct [int u8 dj,int u64
 dk,int u64 dl,int u64 dm,int u64 dn,int i64 dp,int i64 dq,slice dr ds dt]) cu→R_9 (Value.tuple (Array.mk [agg (Array.mk [slice ef eg eh,slice ei ej ek,slice el em en,slice eo ep eq,Value.bool er]),int i64
 es])) cu []→∀(f3:Nat),∃(R_10:RT),True∧CX Try.prog 51 (Array.mk [int u8 97]) cu [] R_10∧ZaF (shT) R_10∧∀(du dv dw dx dy dz d0:Int)(d1:Option Addr)(d2 d3:Nat)(m':Mem),Mem.le cu m'→R_10 (agg
 (Array.mk [int u8 du,int u64 dv,int u64 dw,int u64 dx,int u64 dy,int i64 dz,int i64 d0,slice d1 d2 d3])) m' []→∀(cv:Nat),Mem.free m' cv→∃(R_11:RT),True∧CX Try.prog 14 (Array.mk [agg (Array.mk [int
 u8 5,int u64 0,int u64 0,int u64 0,int u64 0,int i64 2,int i64 (-1:Int),slice (some (Addr.mk cv 0 none)) 1 1])]) (Mem.add m' cv [int u8 du,int u64 dv,int u64 dw,int u64 dx,int u64 dy,int i64 dz,int i64
 d0,slice d1 d2 d3]) [] R_11∧ZaF (Shape.tup [Shape.agg [Shape.slice,Shape.slice,Shape.slice,Shape.slice,Shape.bool],Shape.int i64]) R_11∧∀(et:Option Addr)(eu ev:Nat)(ew:Option Addr)(ex ey:Nat) (ez
 : Option Addr) (e0 e1:Nat) (e2:Option Addr) (e3 e4:Nat) (e5:Bool) (e6:Int) (cw:Mem),Mem.le (Mem.add m' cv [int u8 du,int u64 dv,int u64 dw,int u64 dx,int u64 dy,int i64 dz,int i64 d0,slice d1 d2 d3])
 cw→R_11 (Value.tuple (Array.mk [agg (Array.mk [slice et eu ev,slice ew ex ey,slice ez e0 e1,slice e2 e3 e4,Value.bool e5]),int i64 e6])) cw []→∀(f4:Nat),∃(R_12:RT),True∧CX Try.prog 52 (Array.mk [int
 u8 97]) cw [] R_12∧ZaF (Shape.agg [Shape.int u64,Shape.int u64,Shape.int u64,Shape.int u64]) R_12∧∀(aa ab ac ad:Int)(m':Mem),Mem.le cw m'→R_12 (agg (Array.mk [int u64 aa,int u64 ab,int u64 ac,int u64
 ad])) m' []→∀(f5:Nat),br (!IntKind.wrap i64 (IntKind.wrap i64 (ee+es)+e6) == (0:Int)) (∃(m'':Mem),Mem.le m m''∧Mem.le m'' m'∧R (Value.bool false) m'' []) (∃(R_13:RT),True∧CX Try.prog 22
 (Array.mk [agg (Array.mk [slice a n c,slice ch ci cj,slice ck cl cm,slice cn co cp,Value.bool cq]),agg (Array.mk [slice (some (Addr.mk an 0 none)) 3 3,slice (some (Addr.mk cs 0 none)) 3 3,slice (some (Addr.mk a6
 0 none)) 2 2,slice (some (Addr.mk a9 0 none)) 2 2,Value.bool true])]) m' [] R_13∧ZaF Shape.bool R_13∧∀(e7:Bool)(am:Mem),Mem.le m' am→R_13 (Value.bool e7) am []→br (!e7) (∃(m'':Mem),Mem.le m m''∧
 Mem.le m'' am∧R (Value.bool false) m'' []) (∀(a7:Nat),Mem.free am a7→∀(bb:Nat),Mem.free (Mem.add am a7 (Zbb aa ab ac ad)) bb→∀(bk:Nat),Mem.free (Mem.add (Mem.add am a7 (Zbb aa ab
 ac ad)) bb [int i64 0]) bk→∀(bl:Nat),Mem.free (Mem.add (Mem.add (Mem.add am a7 (Zbb aa ab ac ad)) bb [int i64 0]) bk [int i64 1,int i64 2]) bl→∀(bp:Nat),Mem.free (Mem.add (Mem.add (Mem.add
 (Mem.add am a7 (Zbb aa ab ac ad)) bb [int i64 0]) bk [int i64 1,int i64 2]) bl [int i64 1]) bp→∀(cx:Nat),Mem.free (Mem.add (Mem.add (Mem.add (Mem.add (Mem.add am a7 (Zbb aa ab ac ad)) bb
 [int i64 0]) bk [int i64 1,int i64 2]) bl [int i64 1]) bp [int i64 2]) cx→∃(R_14:RT),True∧CX Try.prog 22 (Array.mk [agg (Array.mk [slice ef eg eh,slice ei ej ek,slice el em en,slice eo ep eq,Value.bool
 er]),agg (Array.mk [slice (some (Addr.mk a7 0 none)) 3 3,slice (some (Addr.mk cx 0 none)) 3 3,slice (some (Addr.mk bb 0 none)) 1 1,slice (some (Addr.mk bk 0 none)) 2 2,Value.bool false])]) (Mem.add (Mem.add
 (Mem.add (Mem.add (Mem.add (Mem.add am a7 (Zbb aa ab ac ad)) bb [int i64 0]) bk [int i64 1,int i64 2]) bl [int i64 1]) bp [int i64 2]) cx [slice (some (Addr.mk bl 0 none)) 1 1,slice (some (Addr.mk bp 0
 none)) 1 1,slice none 0 0]) [] R_14∧ZaF Shape.bool R_14∧∀(e8:Bool)(m':Mem),Mem.le (Mem.add (Mem.add (Mem.add (Mem.add (Mem.add (Mem.add am a7 (Zbb aa ab ac ad)) bb [int i64 0]) bk [int i64 1,int
 i64 2]) bl [int i64 1]) bp [int i64 2]) cx [slice (some (Addr.mk bl 0 none)) 1 1,slice (some (Addr.mk bp 0 none)) 1 1,slice none 0 0]) m'→R_14 (Value.bool e8) m' []→br (!e8) (∃(m'':Mem),Mem.le m m''∧Mem.le
 m'' m'∧R (Value.bool false) m'' []) (∀(a8:Nat),Mem.free m' a8→∀(bc:Nat),Mem.free (Mem.add m' a8 [int u64 aa,int u64 ab,int u64 ac,int u64 ad,int u64 aa,int u64 ab,int u64 ac,int u64 ad]) bc→∀(bm:
 Nat),Mem.free (Mem.add (Mem.add m' a8 [int u64 aa,int u64 ab,int u64 ac,int u64 ad,int u64 aa,int u64 ab,int u64 ac,int u64 ad]) bc [int i64 0]) bm→∀(bn:Nat),Mem.free (Mem.add (Mem.add (Mem.add m' a8 [int
 u64 aa,int u64 ab,int u64 ac,int u64 ad,int u64 aa,int u64 ab,int u64 ac,int u64 ad]) bc [int i64 0]) bm [int i64 1]) bn→∀(bq:Nat),Mem.free (Mem.add (Mem.add (Mem.add (Mem.add m' a8 [int u64 aa,int u64 ab,
 int u64 ac,int u64 ad,int u64 aa,int u64 ab,int u64 ac,int u64 ad]) bc [int i64 0]) bm [int i64 1]) bn [int i64 1]) bq→∀(cy:Nat),Mem.free (Mem.add (Mem.add (Mem.add (Mem.add (Mem.add m' a8 [int u64 aa,int
 u64 ab,int u64 ac,int u64 ad,int u64 aa,int u64 ab,int u64 ac,int u64 ad]) bc [int i64 0]) bm [int i64 1]) bn [int i64 1]) bq [int i64 1]) cy→∃(R_15:RT),True∧CX Try.prog 22 (Array.mk [agg (Array.mk [slice
 et eu ev,slice ew ex ey,slice ez e0 e1,slice e2 e3 e4,Value.bool e5]),agg (Array.mk [slice (some (Addr.mk a8 0 none)) 2 2,slice (some (Addr.mk cy 0 none)) 2 2,slice (some (Addr.mk bc 0 none)) 1 1,slice (some
 (Addr.mk bm 0 none)) 1 1,Value.bool false])]) (Mem.add (Mem.add (Mem.add (Mem.add (Mem.add (Mem.add m' a8 [int u64 aa,int u64 ab,int u64 ac,int u64 ad,int u64 aa,int u64 ab,int u64 ac,int u64 ad]) bc [int i64
 0]) bm [int i64 1]) bn [int i64 1]) bq [int i64 1]) cy [slice (some (Addr.mk bn 0 none)) 1 1,slice (some (Addr.mk bq 0 none)) 1 1]) [] R_15∧ZaF Shape.bool R_15∧∀(e9:Bool)(bs:Mem),Mem.le (Mem.add (Mem.add
 (Mem.add (Mem.add (Mem.add (Mem.add m' a8 [int u64 aa,int u64 ab,int u64 ac,int u64 ad,int u64 aa,int u64 ab,int u64 ac,int u64 ad]) bc [int i64 0]) bm [int i64 1]) bn [int i64 1]) bq [int i64 1]) cy [slice (some
 (Addr.mk bn 0 none)) 1 1,slice (some (Addr.mk bq 0 none)) 1 1]) bs→R_15 (Value.bool e9) bs []→br (!e9) (∃(m'':Mem),Mem.le m m''∧Mem.le m'' bs∧R (Value.bool false) m'' []) (∀(cz:Nat),Mem.free bs cz→∃
 (R_16:RT),True∧CX Try.prog 27 (Array.mk [agg (Array.mk [slice a n c,slice ch ci cj,slice ck cl cm,slice cn co cp,Value.bool cq]),slice (some (Addr.mk cz 0 none)) 1 1,int u8 97]) (Mem.add bs cz [int i64 (-1:
 Int)]) [] R_16∧ZaF (Shape.tup [Shape.slice,Shape.int i64]) R_16∧∀(fa:Option Addr)(fb fc:Nat)(fd:Int)(m':Mem),Mem.le (Mem.add bs cz [int i64 (-1:Int)]) m'→R_16 (Value.tuple (Array.mk [slice fa fb
 fc,int i64 fd])) m' []→∀(da:Nat),Mem.free m' da→∃(R_17:RT),True∧CX Try.prog 27 (Array.mk [agg (Array.mk [slice a n c,slice ch ci cj,slice ck cl cm,slice cn co cp,Value.bool cq]),slice (some (Addr.mk
 da 0 none)) 1 1,int u8 98]) (Mem.add m' da [int i64 (-1:Int)]) [] R_17∧ZaF (Shape.tup [Shape.slice,Shape.int i64]) R_17∧∀(a:Option Addr)(n c:Nat)(fe:Int)(db:Mem),Mem.le (Mem.add m' da [int i64 (-1
 : Int)]) db→R_17 (Value.tuple (Array.mk [slice a n c,int i64 fe])) db []→∃(R_18:RT),True∧CX Try.prog 14 (Array.mk [agg (Array.mk [int u8 3,int u64 0,int u64 0,int u64 0,int u64 0,int i64 0,int i64 0,
 slice (some (Addr.mk b 0 none)) 2 2])]) db [] R_18∧ZaF (Shape.tup [Shape.agg [Shape.slice,Shape.slice,Shape.slice,Shape.slice,Shape.bool],Shape.int i64]) R_18∧∀(a:Option Addr)(d4 c:Nat) (d5:Option
 Addr) (d6 d7:Nat) (d8:Option Addr) (d9 ea:Nat) (eb:Option Addr) (ec ed:Nat) (b:Bool) (ff:Int) (m':Mem),Mem.le db m'→R_18 (Value.tuple (Array.mk [agg (Array.mk [slice a d4 c,slice d5 d6 d7,slice d8
 d9 ea,slice eb ec ed,Value.bool b]),int i64 ff])) m' []→∀(f6 dc:Nat),Mem.free m' dc→∃(R_19:RT),True∧CX Try.prog 30 (Array.mk [agg (Array.mk [slice a d4 c,slice d5 d6 d7,slice d8 d9 ea,slice eb ec ed,
 Value.bool b]),slice (some (Addr.mk dc 0 none)) 4 4]) (Mem.add m' dc [int u8 97,int u8 98,int u8 97,int u8 98]) [] R_19∧ZaF (Shape.tup [Shape.slice,Shape.int i64]) R_19∧∀(fg:Option Addr)(fh fi:Nat) (fj:
 Int) (dd:Mem),Mem.le (Mem.add m' dc [int u8 97,int u8 98,int u8 97,int u8 98]) dd→R_19 (Value.tuple (Array.mk [slice fg fh fi,int i64 fj])) dd []→∃(R_20:RT),True∧CX Try.prog 16 (Array.mk [agg (Array.mk
 [slice a d4 c,slice d5 d6 d7,slice d8 d9 ea,slice eb ec ed,Value.bool b])]) dd [] R_20∧ZaF (Shape.tup [Shape.agg [Shape.slice,Shape.slice,Shape.slice,Shape.slice,Shape.bool],Shape.int i64]) R_20∧∀(a:
 Option Addr) (fk c:Nat) (fl:Option Addr) (fm fn:Nat) (fo:Option Addr) (fp fq:Nat) (fr:Option Addr) (fs ft:Nat) (b:Bool) (fu:Int) (m':Mem),Mem.le dd m'→R_20 (Value.tuple (Array.mk [agg (Array.mk
 [slice a fk c,slice fl fm fn,slice fo fp fq,slice fr fs ft,Value.bool b]),int i64 fu])) m' []→∀(f7 de:Nat),Mem.free m' de→∃(R_21:RT),True∧CX Try.prog 18 (Array.mk [agg (Array.mk [slice a fk c,slice
 fl fm fn,slice fo fp fq,slice fr fs ft,Value.bool b]),slice (some (Addr.mk de 0 none)) 2 2]) (Mem.add m' de [int u8 98,int u8 97]) [] R_21∧ZaF (Shape.tup [Shape.bool,Shape.int i64]) R_21∧∀(b:Bool) (fv:
 Int) (bt:Mem),Mem.le (Mem.add m' de [int u8 98,int u8 97]) bt→R_21 (Value.tuple (Array.mk [Value.bool b,int i64 fv])) bt []→br (IntKind.wrap i64 (IntKind.wrap i64 (IntKind.wrap i64 (IntKind.wrap i64
 (IntKind.wrap i64 (fd+fe)+ff)+fj)+fu)+fv) == (0:Int)) (∀(df:Nat),Mem.free bt df→∃(R_22:RT),True∧CX Try.prog 23 (Array.mk [slice fa fb fc,slice (some (Addr.mk df 0 none)) 1 1]) (Mem.add bt df
 [int i64 0]) [] R_22∧ZaF Shape.bool R_22∧∀(fw:Bool)(m':Mem),Mem.le (Mem.add bt df [int i64 0]) m'→R_22 (Value.bool fw) m' []→br fw (br ((↑n:Int) == (0:Int)) (∀(dg:Nat),Mem.free m' dg→∃(R_23:
 RT),True∧CX Try.prog 23 (Array.mk [slice fg fh fi,slice (some (Addr.mk dg 0 none)) 2 2]) (Mem.add m' dg [int i64 2,int i64 4]) [] R_23∧ZaF Shape.bool R_23∧∀(fx:Bool)(dh:Mem),Mem.le (Mem.add m' dg [int
 i64 2,int i64 4]) dh→R_23 (Value.bool fx) dh []→br fx (∃(m'':Mem),Mem.le m m''∧Mem.le m'' dh∧R (Value.bool b) m'' []) (∃(m'':Mem),Mem.le m m''∧Mem.le m'' dh∧R (Value.bool false) m'' [])) (∃(m'':
 Mem),Mem.le m m''∧Mem.le m'' m'∧R (Value.bool false) m'' [])) (∃(m'':Mem),Mem.le m m''∧Mem.le m'' m'∧R (Value.bool false) m'' [])) (∃(m'':Mem),Mem.le m m''∧Mem.le m'' bt∧R (Value.bool false) m''
 [])))))
theorem ZiG  (m:Mem)(R:RT)(h:Zfq  m R):CX Try.prog 12 #[] m [] R:=
 Zal (E:=Zkn) Zaz mix Try.func12 [] [] (by kernel_rfl) (Eq.mp (by kernel_rfl) h)
end Go.Proofs.Ytplacemlpkhmfaa
set_option linter.unusedVariables false
set_option linter.unusedSimpArgs false
namespace Go.Proofs.Ytplacemlpkhmfaa
open Go Go.Eng Go.Rx Go.Proofs Go.RowKit
set_option maxRecDepth 100000
def Zwd(_:Nat)(s:List Int)(cell tok:Value)(m:Mem):Prop:=SlI false s cell m∧tok=.slice none 0 0
theorem Zu0(A:Nf)(cb:Nat)(base:Mem):Zv1 A 81 [] [.pointer (some ⟨cb,0,none⟩)] cb (fun _ _ l=>l) Zwd base:=by
 rintro s n l la lc ca cn cc ta tn tc m hb ⟨_,ht⟩ hl dL _ hn
 simp only[Value.slice.injEq]at ht
 obtain⟨rfl,rfl,rfl⟩:=ht
 apply Zkc
 unfold ZhB
 exact⟨rfl,rfl,Mem.le_refl _,_,_,_,_,_,_,rfl,rfl,⟨la,lc,rfl,hl,dL,fun h=>by cases h⟩,rfl⟩
def ZvP(l:List Int)(e:Int):Value→Mem→List (List Value)→Prop:=fun v m' _=>∃w,v=.tuple #[w,.int .i64 e]∧SlI false l w m'
theorem Zn1{l:List Int}{e:Int}:∀(v:Value)(m':Mem) (css:List (List Value)),ZvP l e v m' css→Shape.fits (.tup [.slice,.int .i64]) v=true:=by
 rintro v m' css ⟨w,rfl,a,c,rfl,_⟩;rfl
theorem Zu1{stt:Bool}(A:Nf)(hq:∀q∈A.sets,QOk q)(v:Value)(bs:List Nat)(ba:Option Addr)(bc:Nat)(m:Mem)(h:NfR stt A v m)(hb:Byt m ba bs):
  CX Try.prog 29 #[v,.slice ba bs.length bc] m [] (ZvP (if A.runE bs.length=0 then A.run bs [-1]else[]) (A.runE bs.length)):=by
 have h':=h
 obtain⟨s,f,x,y,rfl,⟨sa,sc,rfl,hs',dP,iN⟩,⟨fa,fc,vs,rfl,hf,f9,gZ,fW⟩,⟨xa,xc,rfl,hx,eD,gz⟩,⟨ya,yc,rfl,hy,dD,hH⟩⟩:=h
 apply Zo6
 unfold Zle
 intro b m1 bE _ _ _ b1
 have fN:SlI false [] (.slice none 0 0) m1:=⟨none,0,rfl,.inl rfl,by simp,fun _ _=>rfl⟩
 refine ZnU (Zr3 A hq _ bs ba bc false 81 [] [.pointer (some ⟨b1,0,none⟩)] b1 (fun _ _ l=>l) Zwd (fun j s a b m m' h hm=>⟨h.1.mono hm,h.2⟩) [] none 0 0 none 0 0 m1 (Zu0 A b1 m1) (h'.mono bE) (hb.mono bE) ⟨fN,rfl⟩) (by rintro v m' css tvs ⟨rfl,_⟩;rfl) ?_
 rintro n m2 l4 _ cs a c d ⟨hn,bZ,j,a1,n1,c1,a2,n2,c2,cG,dA,cY,_⟩
 simp only[Value.int.injEq,true_and]at hn
 subst hn
 obtain rfl:cs=[.slice a1 n1 c1]:=by simpa using cG
 refine Zat (v:=.slice a1 n1 c1) rfl ⟨m2,Mem.le_trans bE bZ,Mem.le_refl _,_,rfl,?_⟩
 rw[ZpL]at cY
 exact cY
def Zwe(j:Nat)(s:List Int)(cell tok:Value)(m:Mem):Prop:=SlI false s cell m∧tok=cell∧s.length≤j∧j≤4097
theorem Zrq{stt:Bool}(A:Nf)(hA:A.Ok)(cb b:Nat)(v0 v1 v2 v3:Value)(base:Mem)(hb:base.reads b 0 [v0,v1,v2,v3,.bool A.empty])(h:NfR stt A (.agg #[v0,v1,v2,v3,.bool A.empty]) base):Zv1 A 82 [] [.pointer (some ⟨b,0,none⟩),.pointer (some ⟨cb,0,none⟩)] cb (fun s n l=>if A.accepts l then s++[(n:Int)]else s) Zwe base:=by
 rintro s n l la lc ca cn cc ta tn tc m tR ⟨⟨sa,sc,pM,cV,bY,_⟩,ht,iN,kW⟩ hl dL jp hn
 simp only[Value.slice.injEq]at ht pM
 obtain⟨rfl,rfl,rfl⟩:=ht
 obtain⟨rfl,rfl,rfl⟩:=pM
 apply ZgB
 unfold ZeA
 refine⟨v0,v1,v2,v3,.bool A.empty,hb.mono tR,?_⟩
 refine Zah (Zh4 A hA _ l la lc m (h.mono tR) hl dL jp) fun m1 bE=>Zab (fun ha=>?_) (fun ha=>?_)
 ·intro b3 fP
  have cP:=Mem.le_add fP [Value.int .i64 (n:Int)]
  refine⟨.inl rfl,Zaq s,[.int .i64 (n:Int)],by rw[ZcZ,Nat.mul_one],rfl,(cV.mono bE).mono cP,Zgq,by simp[Value.oneCell'],by omega,by omega,fun a' c' m2 bZ gw _=>⟨rfl,rfl,Mem.le_trans bE (Mem.le_trans cP bZ),_,_,_,_,_,_,rfl,rfl,?_⟩⟩
  simp only[ha,if_true]
  refine⟨⟨a',c',by simp,?_,by rw[List.length_append,List.length_singleton];omega,fun h=>by cases h⟩,rfl,by rw[List.length_append,List.length_singleton];omega,by omega⟩
  rw[Znm];exact gw
 ·refine⟨rfl,rfl,bE,_,_,_,_,_,_,rfl,rfl,?_⟩
  simp only[ha]
  exact⟨⟨_,_,rfl,cV.mono bE,bY,fun h=>by cases h⟩,rfl,by simp;omega,by omega⟩
theorem ZlV{stt:Bool}(A:Nf)(hA:A.right=true)(hq:∀q∈A.sets,QOk q)(v:Value)(bs:List Nat)(ba:Option Addr)(bc:Nat)(m:Mem)(h:NfR stt A v m)(hb:Byt m ba bs):
  CX Try.prog 30 #[v,.slice ba bs.length bc] m [] (ZvP (if A.runE bs.length=0 then A.search bs else[]) (A.runE bs.length)):=by
 have h':=h
 obtain⟨s,f,x,y,rfl,⟨sa,sc,rfl,hs',dP,iN⟩,⟨fa,fc,vs,rfl,hf,f9,gZ,fW⟩,⟨xa,xc,rfl,hx,eD,gz⟩,⟨ya,yc,rfl,hy,dD,hH⟩⟩:=h
 apply Zkd
 unfold Zgr
 intro b m1 bE vT _ _ b1
 have fN:SlI false [] (.slice none 0 0) m1:=⟨none,0,rfl,.inl rfl,by simp,fun _ _=>rfl⟩
 refine ZnU (Zr3 A hq _ bs ba bc true 82 [] [.pointer (some ⟨b,0,none⟩),.pointer (some ⟨b1,0,none⟩)] b1 (fun s n l=>if A.accepts l then s++[(n:Int)]else s) Zwe (fun j s a b m m' h hm=>⟨h.1.mono hm,h.2⟩) [] none 0 0 none 0 0 m1 (Zrq A (ZeW.1 hA) b1 b _ _ _ _ m1 vT (h'.mono bE)) (h'.mono bE) (hb.mono bE) ⟨fN,rfl,by simp,by omega⟩) (by rintro v m' css tvs ⟨rfl,_⟩;rfl) ?_
 rintro n m2 l4 _ cs a c d ⟨hn,bZ,j,a1,n1,c1,a2,n2,c2,cG,dA,cY,_⟩
 simp only[Value.int.injEq,true_and]at hn
 subst hn
 obtain rfl:cs=[.slice a1 n1 c1]:=by simpa using cG
 refine Zat (v:=.slice a1 n1 c1) rfl ⟨m2,Mem.le_trans bE bZ,Mem.le_refl _,_,rfl,?_⟩
 exact cY
theorem Zn2{stt:Bool}(A:Nf)(hq:∀q∈A.sets,QOk q)(v:Value)(bs:List Nat)(ba:Option Addr)(bc:Nat)(m:Mem)(h:NfR stt A v m)(hb:Byt m ba bs)(bY:bs.length≤4096):
  CX Try.prog 18 #[v,.slice ba bs.length bc] m [] (Ret (.tuple #[.bool (A.right&&A.matches bs),.int .i64 (if A.right then 0 else 171)])):=by
 have h':=h
 obtain⟨s,f,x,y,rfl,⟨sa,sc,rfl,hs',dP,iN⟩,⟨fa,fc,vs,rfl,hf,f9,gZ,fW⟩,⟨xa,xc,rfl,hx,eD,gz⟩,⟨ya,yc,rfl,hy,dD,hH⟩⟩:=h
 apply Zix
 unfold Zfk
 intro b m1 bE _
 refine Zas (Zu1 A hq _ bs ba bc m1 (h'.mono bE) (hb.mono bE)) Zn1 ?_
 rintro a n c e m2 bZ ⟨w,hv,a',c',rfl,cV,hl,_⟩
 simp only[Value.tuple.injEq,Array.mk.injEq,List.cons.injEq,Value.slice.injEq,Value.int.injEq,true_and,and_true]at hv
 obtain⟨⟨rfl,rfl,rfl⟩,rfl⟩:=hv
 have ir:=Mem.le_trans bE bZ
 by_cases hr:A.right=true
 ·have he:A.runE bs.length=0:=by unfold Nf.runE;rw[if_neg (by rw[hr];simp),if_neg (by omega)]
  simp only[he,if_true]at cV hl ⊢
  have hA:=ZeW.1 hr
  refine⟨A.matches bs,0,Zcc rfl ?_,Zad ir ?_⟩
  ·refine Zah (Zh4 A hA _ _ a c m2 (h'.mono ir) cV hl (Zk2 hA bs _ (ZlD A))) fun m3 cD=>?_
   first|exact⟨rfl,rfl⟩|exact⟨by trivial,rfl⟩
  ·rw[hr];rfl
 ·have hr':A.right=false:=by simpa using hr
  have he:A.runE bs.length=171:=by unfold Nf.runE;rw[if_pos hr']
  refine⟨false,171,Zbo (by rw[he];rfl) ?_,Zad ir ?_⟩
  ·rw[he];first|exact⟨rfl,rfl⟩|exact⟨by trivial,rfl⟩
  ·rw[hr'];rfl
end Go.Proofs.Ytplacemlpkhmfaa
set_option linter.unusedVariables false
set_option linter.unusedSimpArgs false
namespace Go.Proofs.Ytplacemlpkhmfaa
open Go Go.Eng Go.Rx Go.Proofs Go.RowKit
set_option maxRecDepth 100000
open Classical in
theorem Zh5{A:Nf}{e:Int}:∀(v:Value)(m':Mem) (css:List (List Value)),NfE A e v m' css→Shape.fits (.tup [.agg [.slice,.slice,.slice,.slice,.bool],.int .i64]) v=true:=by
 rintro v m' css ⟨w,rfl,s,f,x,y,rfl,⟨_,_,rfl,_⟩,⟨_,_,_,rfl,_⟩,⟨_,_,rfl,_⟩,⟨_,_,rfl,_⟩⟩;rfl
end Go.Proofs.Ytplacemlpkhmfaa
set_option linter.unusedVariables false
set_option linter.unusedSimpArgs false
namespace Go.Proofs.Ytplacemlpkhmfaa
open Go Go.Eng Go.Rx Go.Proofs Go.RowKit
set_option maxRecDepth 100000
def q1(c:Nat):QS:=(ZbV c 0,ZbV c 1,ZbV c 2,ZbV c 3)
theorem Zlg(c:Nat)(hc:c < 256)(m:Mem):CX Try.prog 52 #[.int .u8 c] m [] (Ret (.agg #[.int .u64 (ZbV c 0),.int .u64 (ZbV c 1),.int .u64 (ZbV c 2),.int .u64 (ZbV c 3)])):=by
 apply ZlU
 unfold ZhE
 intro b b1
 have hq:IntKind.u8.wrap (Int.tdiv (c:Int) 64)=((c / 64:Nat):Int):=by rw[ZvL];exact ZvM (by omega) (by omega)
 have hr:IntKind.u64.wrap (1*2 ^ min (Int.toNat (Int.tmod (c:Int) 64)) 64)=((2 ^ (c % 64):Nat):Int):=by
  rw[Zvo,Int.toNat_natCast,Nat.min_eq_left (by omega),Int.one_mul]
  have:=Zs1 (2 ^ (c % 64)) (by
   have:2 ^ (c % 64) < 2 ^ 64:=Nat.pow_lt_pow_right (by omega) (by omega)
   exact this)
  rw[←this];push_cast;rfl
 simp only[hq,hr,Int.toNat_natCast,Nat.zero_add,Nat.mul_one]
 refine⟨by omega,by omega,by rw[Zvo];omega,⟨by omega,by omega⟩,Zaa (by rw[Nat.ble_eq];omega) ?_⟩
 have:c / 64=0∨c / 64=1∨c / 64=2∨c / 64=3:=by omega
 rcases this with e|e|e|e <;>
 ·rw[e]
  refine Zaa rfl (Zad (Mem.le_refl _) ?_)
  unfold ZbV
  rw[e]
  rfl
theorem Zh6(c:Nat)(hc:c < 256)(m:Mem):CX Try.prog 51 #[.int .u8 c] m [] (Ret (Zbh c).v):=by
 apply ZhF
 unfold ZeN
 intro b
 refine Zas (Zlg c hc m) (by rintro v m' css rfl;rfl) ?_
 intro n n1 n2 n3 m1 bE hv
 simp only[Ret,Value.agg.injEq,Array.mk.injEq,List.cons.injEq,Value.int.injEq,true_and,and_true]at hv
 obtain⟨rfl,rfl,rfl,rfl⟩:=hv
 exact Zad bE rfl
theorem Zdk{c:Nat}:∀(v:Value)(m':Mem) (css:List (List Value)),Ret (Zbh c).v v m' css→Shape.fits (.agg [.int .u8,.int .u64,.int .u64,.int .u64,.int .u64,.int .i64,.int .i64,.slice]) v=true:=by
 rintro v m' css rfl;rfl
theorem Zh7{c:Nat}{m:Mem}{K:TRK}(k:∀m',m.le m'→K 2 (ZbV c 0) (ZbV c 1) (ZbV c 2) (ZbV c 3) 0 0 none 0 0 m'):
  ∀(n0 n1 n2 n3 n4 n5 n6:Int)(a:Option Addr)(n cc:Nat)(m':Mem),m.le m'→Ret (Zbh c).v (.agg #[.int .u8 n0,.int .u64 n1,.int .u64 n2,.int .u64 n3,.int .u64 n4,.int .i64 n5,.int .i64 n6,.slice a n cc]) m' []→K n0 n1 n2 n3 n4 n5 n6 a n cc m':=by
 intro n0 n1 n2 n3 n4 n5 n6 a n cc m' hm hv
 have hL:(Zbh c).v=(Value.agg #[.int .u8 2,.int .u64 (ZbV c 0),.int .u64 (ZbV c 1),.int .u64 (ZbV c 2),.int .u64 (ZbV c 3),.int .i64 0,.int .i64 0,.slice none 0 0]):=rfl
 rw[Ret,hL]at hv
 simp only[Value.agg.injEq,Array.mk.injEq,List.cons.injEq,Value.int.injEq,Value.slice.injEq,true_and,and_true]at hv
 obtain⟨rfl,rfl,rfl,rfl,rfl,rfl,rfl,rfl,rfl,rfl⟩:=hv
 exact k m' hm
theorem Zub{c:Nat}{m:Mem}{K:Int→Int→Int→Int→Mem→Prop}(k:∀m',m.le m'→K (ZbV c 0) (ZbV c 1) (ZbV c 2) (ZbV c 3) m'):
  ∀(n0 n1 n2 n3:Int)(m':Mem),m.le m'→Ret (.agg #[.int .u64 (ZbV c 0),.int .u64 (ZbV c 1),.int .u64 (ZbV c 2),.int .u64 (ZbV c 3)]) (.agg #[.int .u64 n0,.int .u64 n1,.int .u64 n2,.int .u64 n3]) m' []→K n0 n1 n2 n3 m':=by
 intro n0 n1 n2 n3 m' hm hv
 simp only[Ret,Value.agg.injEq,Array.mk.injEq,List.cons.injEq,Value.int.injEq,true_and,and_true]at hv
 obtain⟨rfl,rfl,rfl,rfl⟩:=hv
 exact k m' hm
theorem Zko{c:Nat}:∀(v:Value)(m':Mem) (css:List (List Value)),Ret (.agg #[.int .u64 (ZbV c 0),.int .u64 (ZbV c 1),.int .u64 (ZbV c 2),.int .u64 (ZbV c 3)]) v m' css→Shape.fits (.agg [.int .u64,.int .u64,.int .u64,.int .u64]) v=true:=by
 rintro v m' css rfl;rfl
theorem Zay{m M:Mem}{b:Nat}{cs:List Value}(h:(m.add b cs).le M):rowRd M (some ⟨b,0,none⟩) cs:=
 .inr ⟨b,0,rfl,fun j v hj=>h _ _ _ (by rw[Nat.zero_add,Mem.add_same];exact hj)⟩
theorem Zdl{m M:Mem}{b:Nat}{l:List T}(hM:(m.add b (Rx.Zee l)).le M)(hr:∀t∈l,Rep M t)(hl:l.length≤1000000000000000):RepL M (some ⟨b,0,none⟩) l:=
 ZtG (Zay hM) hr hl
abbrev NfK:=Option Addr→Nat→Nat→Option Addr→Nat→Nat→Option Addr→Nat→Nat→Option Addr→Nat→Nat→Bool→Int→Mem→Prop
theorem Zs3{A:Nf}{e:Int}{m:Mem}{K:NfK}(k:∀(sa fa xa ya:Option Addr)(sc fc xc yc:Nat)(m':Mem),m.le m'→NfR true A (.agg #[.slice sa A.sets.length sc,.slice fa A.fol.length fc,.slice xa A.first.length xc,.slice ya A.last.length yc,.bool A.empty]) m'→K sa A.sets.length sc fa A.fol.length fc xa A.first.length xc ya A.last.length yc A.empty e m'):
  ∀(a:Option Addr)(n c:Nat)(a1:Option Addr)(n1 c1:Nat)(a2:Option Addr)(n2 c2:Nat)(a3:Option Addr)(n3 c3:Nat)(b:Bool)(e':Int)(m':Mem),m.le m'→NfE A e (.tuple #[.agg #[.slice a n c,.slice a1 n1 c1,.slice a2 n2 c2,.slice a3 n3 c3,.bool b],.int .i64 e']) m' []→K a n c a1 n1 c1 a2 n2 c2 a3 n3 c3 b e' m':=by
 rintro a n c a1 n1 c1 a2 n2 c2 a3 n3 c3 b e' m' hm ⟨w,hv,hR⟩
 simp only[Value.tuple.injEq,Array.mk.injEq,List.cons.injEq,Value.int.injEq,true_and,and_true]at hv
 obtain⟨rfl,rfl⟩:=hv
 have hR':=hR
 obtain⟨s,f,x,y,hv,⟨sa,sc,rfl,_⟩,⟨fa,fc,vs,rfl,_⟩,⟨xa,xc,rfl,_⟩,⟨ya,yc,rfl,_⟩⟩:=hR
 simp only[Value.agg.injEq,Array.mk.injEq,List.cons.injEq,Value.slice.injEq,Value.bool.injEq,and_true]at hv
 obtain⟨⟨rfl,rfl,rfl⟩,⟨rfl,rfl,rfl⟩,⟨rfl,rfl,rfl⟩,⟨rfl,rfl,rfl⟩,rfl⟩:=hv
 exact k _ _ _ _ _ _ _ _ m' hm hR'
theorem Zu2{l:List Int}{e:Int}{m:Mem}{K:Option Addr→Nat→Nat→Int→Mem→Prop}(k:∀(a:Option Addr)(c:Nat)(m':Mem),m.le m'→rowRd m' a (Zaq l)→l.length≤1000000→K a l.length c e m'):
  ∀(a:Option Addr)(n c:Nat)(e':Int)(m':Mem),m.le m'→ZvP l e (.tuple #[.slice a n c,.int .i64 e']) m' []→K a n c e' m':=by
 rintro a n c e' m' hm ⟨w,hv,a',c',rfl,hr,hl,_⟩
 simp only[Value.tuple.injEq,Array.mk.injEq,List.cons.injEq,Value.slice.injEq,Value.int.injEq,true_and,and_true]at hv
 obtain⟨⟨rfl,rfl,rfl⟩,rfl⟩:=hv
 exact k a c m' hm hr hl
theorem Zmh{m:Mem}{a:Option Addr}{c:Nat}{fol:List (List Int)}{vs:List Value}(h:rowRd m a vs)(hl:vs.length=fol.length)(hn:fol.length≤1000000)(hv:∀(i:Nat)(v:Value)(l:List Int),vs[i]?=some v→fol[i]?=some l→SlI false l v m):FolR false fol (.slice a fol.length c) m:=⟨a,c,vs,rfl,h,hl,hn,hv⟩
theorem ZcG{m:Mem}{a:Option Addr}{c:Nat}{l:List Int}(h:rowRd m a (Zaq l))(hl:l.length≤1000000):SlI false l (.slice a l.length c) m:=⟨a,c,rfl,h,hl,fun h=>by cases h⟩
def nfS:Nf:=⟨[q1 97,q1 98,q1 99],[[1],[0,2],[0,2]],[0,2],[1,2],true⟩
def nfF:Nf:=⟨[q1 97,q1 97,q1 97],[[1],[2],[]],[0],[1,2],false⟩
def nfM:Nf:=⟨[q1 97,q1 97],[[1],[1]],[0],[1],false⟩
def nfC:Nf:=⟨[q1 97,q1 98],[[1],[]],[0],[1],false⟩
def Zu3(a:Option Addr)(c:Nat):T:=Zfe 3 0 0 a c [Zbh 97,Zbh 98]
def ZuG(a a1 a2:Option Addr)(c c1 c2:Nat):T:=Zfe 5 0 (-1) a c [Zfe 4 0 0 a1 c1 [Zu3 a2 c2,Zbh 99]]
def Zn3(mn mx:Int)(a:Option Addr)(c:Nat):T:=Zfe 5 mn mx a c [Zbh 97]
theorem Zr6(a a1 a2:Option Addr)(c c1 c2:Nat):(ZuG a a1 a2 c c1 c2).ofN=nfS∧(ZuG a a1 a2 c c1 c2).ofE=0:=⟨by kernel_rfl,by kernel_rfl⟩
theorem Zuc(a:Option Addr)(c:Nat):(Zn3 2 3 a c).ofN=nfF∧(Zn3 2 3 a c).ofE=0:=⟨by kernel_rfl,by kernel_rfl⟩
theorem Zr7(a:Option Addr)(c:Nat):(Zn3 2 (-1) a c).ofN=nfM∧(Zn3 2 (-1) a c).ofE=0:=⟨by kernel_rfl,by kernel_rfl⟩
theorem Zud(a:Option Addr)(c:Nat):(Zu3 a c).ofN=nfC∧(Zu3 a c).ofE=0:=⟨by kernel_rfl,by kernel_rfl⟩
theorem ZfT:nfS.err [-1]=0∧nfS.step [-1] 97=[0]∧nfS.step [-1] 98=[]:=⟨by kernel_rfl,by kernel_rfl,by kernel_rfl⟩
theorem Zh8:nfC.right=true∧nfC.search [97,98,97,98]=[2,4]∧nfC.turn.right=true∧nfC.turn.matches [98,97]=true:=⟨by kernel_rfl,by kernel_rfl,by kernel_rfl,by kernel_rfl⟩
theorem Zvs{c:Nat}(h:c < 256):QOk (q1 c):=⟨Zd2 c 0,Zd2 c 1,Zd2 c 2,Zd2 c 3⟩
end Go.Proofs.Ytplacemlpkhmfaa
set_option linter.unusedVariables false
set_option linter.unusedSimpArgs false
namespace Go.Proofs.Ytplacemlpkhmfaa
open Go Go.Eng Go.Rx Go.Proofs Go.RowKit
set_option maxRecDepth 100000
theorem ZfU(m:Mem):CX Try.prog 12 #[] m [] (Ret (.bool true)):=by
 apply ZiG
 unfold Zfq
 refine Zas (Zh6 97 (by omega) m) Zdk (Zh7 fun m1 bE=>?_)
 refine Zas (Zh6 98 (by omega) m1) Zdk (Zh7 fun m2 bZ=>?_)
 intro b pZ b1
 refine⟨fun _ _ _=>Ret (Zbh 99).v,_,rfl,Zh6 99 (by omega) _,Zdk,Zh7 fun m3 cD b2 mf b3 vU b4 M gt gq kq ly=>?_⟩
 have pd:∀M':Mem,M.le M'→Rep M' (Zu3 (some ⟨b,0,none⟩) 2):=fun M' h=>
  Zde (Zdl (l:=[Zbh 97,Zbh 98]) (Mem.le_trans gt h) (by intro x hx;simp at hx;rcases hx with rfl|rfl <;> exact ZfC _ _) (by simp)) (by omega) (by omega) (by omega)
 have halt:Rep M (Zfe 4 0 0 (some ⟨b2,0,none⟩) 2 [Zu3 (some ⟨b,0,none⟩) 2,Zbh 99]):=
  Zde (Zdl (l:=[Zu3 (some ⟨b,0,none⟩) 2,Zbh 99]) kq (by intro x hx;simp at hx;rcases hx with rfl|rfl;exact pd M (Mem.le_refl _);exact ZfC _ _) (by simp)) (by omega) (by omega) (by omega)
 have pg:Rep M (ZuG (some ⟨b3,0,none⟩) (some ⟨b2,0,none⟩) (some ⟨b,0,none⟩) 1 2 2):=
  Zde (Zdl (l:=[Zfe 4 0 0 (some ⟨b2,0,none⟩) 2 [Zu3 (some ⟨b,0,none⟩) 2,Zbh 99]]) ly (by intro x hx;simp at hx;subst hx;exact halt) (by simp)) (by omega) (by omega) (by omega)
 have tS:=Zt3 _ M pg
 rw[(Zr6 _ _ _ _ _ _).1,(Zr6 _ _ _ _ _ _).2]at tS
 refine Zas tS Zh5 (Zs3 fun sa fa xa ya sc fc xc yc m4 cZ hA b6=>?_)
 refine Zas (Zlg 97 (by omega) m4) Zko (Zub fun m5 dB=>?_)
 refine Zas (Zlg 98 (by omega) m5) Zko (Zub fun m6 gd=>?_)
 refine Zas (Zlg 99 (by omega) m6) Zko (Zub fun m7 jC=>?_)
 intro b7 vV b8 vW b9 vX b10 sk b11 sm b12 sn b13 sq b14
 have g7:=Mem.le_add vV (Zby [q1 97,q1 98,q1 99])
 have g8:=Mem.le_add vW (Zaq [0,2])
 have g9:=Mem.le_add vX (Zaq [1,2])
 have g10:=Mem.le_add sk (Zaq [1])
 have g11:=Mem.le_add sm (Zaq [0,2])
 have g12:=Mem.le_add sn (Zaq [0,2])
 have g13:=Mem.le_add sq [Value.slice (some ⟨b10,0,none⟩) 1 1,Value.slice (some ⟨b11,0,none⟩) 2 2,Value.slice (some ⟨b12,0,none⟩) 2 2]
 have hk:m7.le _:=Mem.le_trans g7 (Mem.le_trans g8 (Mem.le_trans g9 (Mem.le_trans g10 (Mem.le_trans g11 (Mem.le_trans g12 g13)))))
 have ph:NfR false nfS (.agg #[.slice (some ⟨b7,0,none⟩) 3 3,.slice (some ⟨b13,0,none⟩) 3 3,.slice (some ⟨b8,0,none⟩) 2 2,.slice (some ⟨b9,0,none⟩) 2 2,.bool true]) _:=
  ⟨_,_,_,_,rfl,⟨_,3,rfl,Zay (cs:=Zby [q1 97,q1 98,q1 99]) (Mem.le_trans g8 (Mem.le_trans g9 (Mem.le_trans g10 (Mem.le_trans g11 (Mem.le_trans g12 g13))))),by decide,fun h=>by cases h⟩,
   Zmh (fol:=[[1],[0,2],[0,2]]) (Zay (Mem.le_refl _)) rfl (by decide) (fun i v l hv hl=>by
    match i with
    | 0=>simp at hv hl;subst hv hl;exact ZcG (l:=[1]) (Zay (cs:=Zaq [1]) (Mem.le_trans g11 (Mem.le_trans g12 g13))) (by decide)
    | 1=>simp at hv hl;subst hv hl;exact ZcG (l:=[0,2]) (Zay (cs:=Zaq [0,2]) (Mem.le_trans g12 g13)) (by decide)
    | 2=>simp at hv hl;subst hv hl;exact ZcG (l:=[0,2]) (Zay (cs:=Zaq [0,2]) g13) (by decide)
    | i+3=>simp at hv),
   ZcG (l:=[0,2]) (Zay (cs:=Zaq [0,2]) (Mem.le_trans g9 (Mem.le_trans g10 (Mem.le_trans g11 (Mem.le_trans g12 g13))))) (by decide),
   ZcG (l:=[1,2]) (Zay (cs:=Zaq [1,2]) (Mem.le_trans g10 (Mem.le_trans g11 (Mem.le_trans g12 g13)))) (by decide)⟩
 refine Zas (Zh6 97 (by omega) _) Zdk (Zh7 fun m8 j6 b15 sr=>?_)
 have g15:=Mem.le_add sr (Rx.Zee [Zbh 97])
 have ss:Rep (m8.add b15 (Rx.Zee [Zbh 97])) (Zn3 2 3 (some ⟨b15,0,none⟩) 1):=Zde (Zdl (l:=[Zbh 97]) (Mem.le_refl _) (by intro x hx;simp at hx;subst hx;exact ZfC _ _) (by simp)) (by omega) (by omega) (by omega)
 have pi:=Zt3 _ _ ss
 rw[(Zuc _ _).1,(Zuc _ _).2]at pi
 refine Zas pi Zh5 (Zs3 fun sa2 fa2 xa2 ya2 sc2 fc2 xc2 yc2 m9 oQ hF b17=>?_)
 refine Zas (Zh6 97 (by omega) _) Zdk (Zh7 fun m10 j7 b18 su=>?_)
 have g18:=Mem.le_add su (Rx.Zee [Zbh 97])
 have pj:Rep (m10.add b18 (Rx.Zee [Zbh 97])) (Zn3 2 (-1) (some ⟨b18,0,none⟩) 1):=Zde (Zdl (l:=[Zbh 97]) (Mem.le_refl _) (by intro x hx;simp at hx;subst hx;exact ZfC _ _) (by simp)) (by omega) (by omega) (by omega)
 have pk:=Zt3 _ _ pj
 rw[(Zr7 _ _).1,(Zr7 _ _).2]at pk
 refine Zas pk Zh5 (Zs3 fun sa3 fa3 xa3 ya3 sc3 fc3 xc3 yc3 m11 mK vY b20=>?_)
 refine Zas (Zlg 97 (by omega) m11) Zko (Zub fun m12 i7 b21=>Zbo rfl ?_)
 have sw:m7.le m8:=Mem.le_trans hk j6
 have lA:m8.le m12:=Mem.le_trans g15 (Mem.le_trans oQ (Mem.le_trans j7 (Mem.le_trans g18 (Mem.le_trans mK i7))))
 have h4_12:m4.le m12:=Mem.le_trans dB (Mem.le_trans gd (Mem.le_trans jC (Mem.le_trans sw lA)))
 refine Zah (Zj9 nfS nfS _ _ m12 (hA.mono h4_12) (ph.mono (Mem.le_trans j6 lA))) fun m13 i8=>Zbo (by decide) ?_
 intro b23 sA b24 sB b25 sC b26 sD b27 sE b28 sF
 have k23:=Mem.le_add sA (Zby [q1 97,q1 97,q1 97])
 have k24:=Mem.le_add sB (Zaq [0])
 have k25:=Mem.le_add sC (Zaq [1,2])
 have k26:=Mem.le_add sD (Zaq [1])
 have k27:=Mem.le_add sE (Zaq [2])
 have k28:=Mem.le_add sF [Value.slice (some ⟨b26,0,none⟩) 1 1,Value.slice (some ⟨b27,0,none⟩) 1 1,Value.slice none 0 0]
 have fF:m13.le _:=Mem.le_trans k23 (Mem.le_trans k24 (Mem.le_trans k25 (Mem.le_trans k26 (Mem.le_trans k27 k28))))
 have mL:NfR false nfF (.agg #[.slice (some ⟨b23,0,none⟩) 3 3,.slice (some ⟨b28,0,none⟩) 3 3,.slice (some ⟨b24,0,none⟩) 1 1,.slice (some ⟨b25,0,none⟩) 2 2,.bool false]) _:=
  ⟨_,_,_,_,rfl,⟨_,3,rfl,Zay (cs:=Zby [q1 97,q1 97,q1 97]) (Mem.le_trans k24 (Mem.le_trans k25 (Mem.le_trans k26 (Mem.le_trans k27 k28)))),by decide,fun h=>by cases h⟩,
   Zmh (fol:=[[1],[2],[]]) (Zay (Mem.le_refl _)) rfl (by decide) (fun i v l hv hl=>by
    match i with
    | 0=>simp at hv hl;subst hv hl;exact ZcG (l:=[1]) (Zay (cs:=Zaq [1]) (Mem.le_trans k27 k28)) (by decide)
    | 1=>simp at hv hl;subst hv hl;exact ZcG (l:=[2]) (Zay (cs:=Zaq [2]) k28) (by decide)
    | 2=>simp at hv hl;subst hv hl;exact ZcG (l:=[]) (.inl rfl) (by decide)
    | i+3=>simp at hv),
   ZcG (l:=[0]) (Zay (cs:=Zaq [0]) (Mem.le_trans k25 (Mem.le_trans k26 (Mem.le_trans k27 k28)))) (by decide),
   ZcG (l:=[1,2]) (Zay (cs:=Zaq [1,2]) (Mem.le_trans k26 (Mem.le_trans k27 k28))) (by decide)⟩
 have h9_13:m9.le m13:=Mem.le_trans j7 (Mem.le_trans g18 (Mem.le_trans mK (Mem.le_trans i7 i8)))
 refine Zah (Zj9 nfF nfF _ _ _ ((hF.mono h9_13).mono fF) mL) fun m14 js=>Zbo (by decide) ?_
 intro b30 sG b31 sH b32 sI b33 sJ b34 sK b35 sL
 have l30:=Mem.le_add sG (Zby [q1 97,q1 97])
 have l31:=Mem.le_add sH (Zaq [0])
 have l32:=Mem.le_add sI (Zaq [1])
 have l33:=Mem.le_add sJ (Zaq [1])
 have l34:=Mem.le_add sK (Zaq [1])
 have l35:=Mem.le_add sL [Value.slice (some ⟨b33,0,none⟩) 1 1,Value.slice (some ⟨b34,0,none⟩) 1 1]
 have dL:m14.le _:=Mem.le_trans l30 (Mem.le_trans l31 (Mem.le_trans l32 (Mem.le_trans l33 (Mem.le_trans l34 l35))))
 have mM:NfR false nfM (.agg #[.slice (some ⟨b30,0,none⟩) 2 2,.slice (some ⟨b35,0,none⟩) 2 2,.slice (some ⟨b31,0,none⟩) 1 1,.slice (some ⟨b32,0,none⟩) 1 1,.bool false]) _:=
  ⟨_,_,_,_,rfl,⟨_,2,rfl,Zay (cs:=Zby [q1 97,q1 97]) (Mem.le_trans l31 (Mem.le_trans l32 (Mem.le_trans l33 (Mem.le_trans l34 l35)))),by decide,fun h=>by cases h⟩,
   Zmh (fol:=[[1],[1]]) (Zay (Mem.le_refl _)) rfl (by decide) (fun i v l hv hl=>by
    match i with
    | 0=>simp at hv hl;subst hv hl;exact ZcG (l:=[1]) (Zay (cs:=Zaq [1]) (Mem.le_trans l34 l35)) (by decide)
    | 1=>simp at hv hl;subst hv hl;exact ZcG (l:=[1]) (Zay (cs:=Zaq [1]) l35) (by decide)
    | i+2=>simp at hv),
   ZcG (l:=[0]) (Zay (cs:=Zaq [0]) (Mem.le_trans l32 (Mem.le_trans l33 (Mem.le_trans l34 l35)))) (by decide),
   ZcG (l:=[1]) (Zay (cs:=Zaq [1]) (Mem.le_trans l33 (Mem.le_trans l34 l35))) (by decide)⟩
 have h11_14:m11.le m14:=Mem.le_trans i7 (Mem.le_trans i8 (Mem.le_trans fF js))
 refine Zah (Zj9 nfM nfM _ _ _ ((vY.mono h11_14).mono dL) mM) fun m15 jt=>Zbo (by decide) ?_
 have h4_15:m4.le m15:=Mem.le_trans h4_12 (Mem.le_trans i8 (Mem.le_trans fF (Mem.le_trans js (Mem.le_trans dL jt))))
 have tT:∀q∈nfS.sets,QOk q:=by
  intro q hq
  simp only[nfS,List.mem_cons,List.not_mem_nil,or_false]at hq
  rcases hq with rfl|rfl|rfl <;> exact Zvs (by omega)
 have tU:∀q∈nfC.sets,QOk q:=by
  intro q hq
  simp only[nfC,List.mem_cons,List.not_mem_nil,or_false]at hq
  rcases hq with rfl|rfl <;> exact Zvs (by omega)
 intro b37 sM
 have j37:=Mem.le_add sM (Zaq [-1])
 have se:=Zr2 nfS tT _ [-1] (some ⟨b37,0,none⟩) 1 97 (by omega) _ ((hA.mono h4_15).mono j37) (Zay (cs:=Zaq [-1]) (Mem.le_refl _)) (by decide)
 rw[ZfT.1,if_pos rfl,ZfT.2.1]at se
 refine Zas se (by rintro v m' css ⟨w,rfl,a,c,rfl,_⟩;rfl) ?_
 rintro a71 n70 c16 n71 m16 iw ⟨w,hv,a,c,rfl,pm,_⟩
 simp only[Value.tuple.injEq,Array.mk.injEq,List.cons.injEq,Value.slice.injEq,Value.int.injEq,true_and,and_true]at hv
 obtain⟨⟨rfl,rfl,rfl⟩,rfl⟩:=hv
 intro b38 sN
 have j38:=Mem.le_add sN (Zaq [-1])
 have hU:=Zr2 nfS tT _ [-1] (some ⟨b38,0,none⟩) 1 98 (by omega) _ ((hA.mono (Mem.le_trans h4_15 (Mem.le_trans j37 iw))).mono j38) (Zay (cs:=Zaq [-1]) (Mem.le_refl _)) (by decide)
 rw[ZfT.1,if_pos rfl,ZfT.2.2]at hU
 refine Zas hU (by rintro v m' css ⟨w,rfl,a,c,rfl,_⟩;rfl) ?_
 rintro a72 n72 c17 n73 m17 kU ⟨w,hv,a,c,rfl,iO,_⟩
 simp only[Value.tuple.injEq,Array.mk.injEq,List.cons.injEq,Value.slice.injEq,Value.int.injEq,true_and,and_true]at hv
 obtain⟨⟨rfl,rfl,rfl⟩,rfl⟩:=hv
 have h15_17:m15.le m17:=Mem.le_trans j37 (Mem.le_trans iw (Mem.le_trans j38 kU))
 have po:M.le m17:=Mem.le_trans cZ (Mem.le_trans h4_15 h15_17)
 have pp:=Zt3 _ _ (pd m17 po)
 rw[(Zud _ _).1,(Zud _ _).2]at pp
 refine Zas pp Zh5 (Zs3 fun sa4 fa4 xa4 ya4 sc4 fc4 xc4 yc4 m18 ju hC b39 b40 sO=>?_)
 have j40:=Mem.le_add sO ([97,98,97,98].map fun c:Nat=>Value.int .u8 c)
 have pq:=ZlV nfC Zh8.1 tU _ [97,98,97,98] (some ⟨b40,0,none⟩) 4 _ (hC.mono j40) (ZrT _ (by decide))
 have pr:nfC.runE [97,98,97,98].length=0:=by kernel_rfl
 rw[pr,if_pos rfl,Zh8.2.1]at pq
 refine Zas pq Zn1 (Zu2 fun a82 c20 m19 mN j1 _=>?_)
 refine Zas (Zo9 nfC _ m19 (hC.mono (Mem.le_trans j40 mN)) Zh8.1) Zh5 (Zs3 fun sa5 fa5 xa5 ya5 sc5 fc5 xc5 yc5 m20 pu hT b41 b42 sP=>?_)
 have j42:=Mem.le_add sP ([98,97].map fun c:Nat=>Value.int .u8 c)
 have tV:=Zn2 nfC.turn tU _ [98,97] (some ⟨b42,0,none⟩) 2 _ (hT.mono j42) (ZrT _ (by decide)) (by decide)
 rw[Zh8.2.2.1,Zh8.2.2.2,if_pos rfl]at tV
 refine Zas tV (by rintro v m' css rfl;rfl) ?_
 rintro bb n85 m21 pv hv
 simp only[Ret,Value.tuple.injEq,Array.mk.injEq,List.cons.injEq,Value.bool.injEq,Value.int.injEq,true_and,and_true]at hv
 obtain⟨rfl,rfl⟩:=hv
 have h16_21:m16.le m21:=Mem.le_trans j38 (Mem.le_trans kU (Mem.le_trans ju (Mem.le_trans j40 (Mem.le_trans mN (Mem.le_trans pu (Mem.le_trans j42 pv))))))
 have h19_21:m19.le m21:=Mem.le_trans pu (Mem.le_trans j42 pv)
 have h0_1:m.le M:=Mem.le_trans bE (Mem.le_trans bZ (Mem.le_trans (Mem.le_add pZ _) gt))
 have h0_21:m.le m21:=Mem.le_trans h0_1 (Mem.le_trans po (Mem.le_trans ju (Mem.le_trans j40 (Mem.le_trans mN h19_21))))
 refine Zcc rfl fun b43 sQ=>?_
 have j43:=Mem.le_add sQ (Zaq [0])
 refine Zah (Ziu [0] [0] a71 (some ⟨b43,0,none⟩) c16 1 _ ((pm.mono h16_21).mono j43) (Zay (cs:=Zaq [0]) (Mem.le_refl _)) (by decide)) fun m22 pw=>Zcc (by decide) (Zcc rfl fun b45 sR=>?_)
 have j45:=Mem.le_add sR (Zaq [2,4])
 refine Zah (Ziu [2,4] [2,4] a82 (some ⟨b45,0,none⟩) c20 2 _ ((j1.mono (Mem.le_trans h19_21 (Mem.le_trans j43 pw))).mono j45) (Zay (cs:=Zaq [2,4]) (Mem.le_refl _)) (by decide)) fun m23 ml=>Zcc (by decide) ?_
 exact Zad (Mem.le_trans h0_21 (Mem.le_trans j43 (Mem.le_trans pw (Mem.le_trans j45 ml)))) rfl
end Go.Proofs.Ytplacemlpkhmfaa
set_option linter.unusedVariables false
set_option linter.unusedSimpArgs false
namespace Go.Proofs.Ytplacemlpkhmfaa
open Go Go.Eng Go.Rx Go.Proofs Go.RowKit
set_option maxRecDepth 100000
theorem Zp3{A:Nf}{l:List Int}(he:A.err l=0):A.right=true∧A.states l=true:=by
 unfold Nf.err at he
 cases hr:A.right with
 | false=>rw[hr]at he;simp at he
 | true=>
  cases hs:A.states l with
  | false=>rw[hr,hs]at he;simp at he
  | true=>exact⟨rfl,rfl⟩
theorem Zn4{st:Bool}(A:Nf)(v:Value)(l:List Int)(a:Option Addr)(c:Nat)(m:Mem)(h:NfR st A v m)(hl:rowRd m a (Zaq l))(dL:l.length≤1000000):
  CX Try.prog 28 #[v,.slice a l.length c] m [] (Ret (.tuple #[.bool (if A.err l=0 then A.accepts l else false),.int .i64 (A.err l)])):=by
 have h':=h
 obtain⟨s,f,x,y,rfl,⟨sa,sc,rfl,hs',dP,iN⟩,⟨fa,fc,vs,rfl,hf,f9,gZ,fW⟩,⟨xa,xc,rfl,hx,eD,gz⟩,⟨ya,yc,rfl,hy,dD,hH⟩⟩:=h
 apply ZiE
 unfold Zfp
 intro b m1 bE _
 refine Zdo (ZpY A _ l a c m1 (h'.mono bE) (hl.mono bE) dL) fun m2 bZ=>Zab (fun h1=>?_) (fun h1=>?_)
 ·have he:A.err l≠0:=by simpa using h1
  refine Zad (Mem.le_trans bE bZ) ?_
  rw[if_neg he]
 ·have he:A.err l=0:=by simpa using h1
  obtain⟨hr,hs⟩:=Zp3 he
  have ir:=Mem.le_trans bE bZ
  refine Zah (Zh4 A (ZeW.1 hr) _ l a c m2 (h'.mono ir) (hl.mono ir) dL hs) fun m3 cD=>Zad (Mem.le_trans ir cD) ?_
  rw[he,if_pos rfl]
theorem Zue{m M:Mem}{Y:Nat→Prop}(h:m.le M)(hf:∀b,Y b→m.free b):m.le (M.off Y):=fun k o v hv=>by
 have hk:¬Y k:=fun e=>by rw[hf k e o]at hv;cases hv
 rw[Mem.off_at hk];exact h k o v hv
theorem Zuf{m M:Mem}{b p:Nat}{ys:List Value}(h:m.le M)(hf:m.free b):m.le (M.upd b p ys):=fun k o v hv=>by
 have hk:k≠b:=fun e=>by subst e;rw[hf o]at hv;cases hv
 rw[Mem.upd_other _ hk];exact h k o v hv
theorem Zkp{m M:Mem}{b b' o:Nat}{v:Value}(hk:m b o=some v)(h:m.le M)(hf:M.free b'):b≠b':=fun e=>by
 subst e
 have:=h _ _ _ hk
 rw[hf o]at this;cases this
set_option maxHeartbeats 3200000 in
theorem ZsQ(A B:Nf)(hA:∀q∈A.sets,QOk q)(hB:∀q∈B.sets,QOk q)(v w:Value)(m:Mem)(h:NfR false A v m)(k:NfR false B w m)(vZ:A.fol.length≤1000)(l:List Int)(la:Option Addr)(lc:Nat)(hl:rowRd m la (Zaq l))(dL:l.length≤70)(ch:Nat)(il:ch < 256):
  CX Try.prog 11 #[v,w,.slice la l.length lc,.int .u8 ch] m [] (Ret (.bool true)):=by
 have h':=h
 have k':=k
 obtain⟨s,f,x,y,rfl,⟨sa,sc,rfl,hs,dP,iN⟩,⟨fa,fc,vs,rfl,hf,f9,gZ,fW⟩,⟨xa,xc,rfl,hx,eD,gz⟩,⟨ya,yc,rfl,hy,dD,hH⟩⟩:=h
 obtain⟨s',f',x',y',rfl,⟨sa',sc',rfl,hs',oA,rH⟩,⟨fa',fc',vs',rfl,hf',v4,v5,v6⟩,⟨xa',xc',rfl,hx',oB,oC⟩,⟨ya',yc',rfl,hy',oD,oE⟩⟩:=k
 apply ZiD
 unfold Zfo
 intro b0 m1 bE mY _ _ b1 m2 bZ eI _ _
 have dE:=Mem.le_trans bE bZ
 refine Zas (Zkk A hA _ m2 (h'.mono dE)) Zmg ?_
 intro a n c a1 n1 c1 a2 n2 c2 a3 n3 c3 e m3 cD hX b3
 have iB:=Mem.le_trans dE cD
 refine Zas (ZpX A _ m3 (h'.mono iB) vZ) Zlf ?_
 intro o0 p0 q0 o1 p1 q1 o2 p2 q2 o3 p3 q3 oe m4 cZ hC b5
 have iC:=Mem.le_trans iB cZ
 refine Zas (Zhy (st:=false) l _ m4 ⟨la,lc,rfl,hl.mono iC,by omega,fun e=>by cases e⟩) ZbH ?_
 rintro a12 n8 c8 m5 dB ⟨_,_,tW,hL,_,_⟩
 simp only[Value.slice.injEq,true_and]at tW
 obtain⟨rfl,rfl,rfl⟩:=tW
 have iD:=Mem.le_trans iC dB
 have nj:=Mem.le_trans cZ dB
 refine⟨fun i _ _=>if i=1 then Ret (.bool A.right)else if i=3 then Ret (.bool A.right)else if i=8 then Ret (.bool (decide (A=B)))else if i=11 then(fun v m' _=>RefR B v m')else if i=12 then Ret (.bool (decide (A=B)))else Ret (.bool true),?_⟩
 refine⟨_,rfl,Zj8 A _ m5 (h'.mono iD),fun v _ _ h=>by rw[h];rfl,fun b6 m6 gd sS=>?_⟩
 replace sS:Value.bool b6=.bool A.right:=sS
 obtain rfl:b6=A.right:=by simpa using sS
 refine⟨_,rfl,ZnW A hA _ m6 (hX.mono (Mem.le_trans nj gd)),fun v _ _ h=>by rw[h];rfl,fun b7 m7 jC sT=>?_⟩
 replace sT:Value.bool b7=.bool A.right:=sT
 obtain rfl:b7=A.right:=by simpa using sT
 have sU:=Mem.le_trans gd jC
 refine ZsF (by simp) ?_
 refine⟨_,rfl,Zj9 A B _ _ m7 (h'.mono (Mem.le_trans iD sU)) (k'.mono (Mem.le_trans iD sU)),fun v _ _ h=>by rw[h];rfl,fun b8 m8 j6 nh=>?_⟩
 replace nh:Value.bool b8=.bool (decide (A=B)):=nh
 obtain rfl:b8=decide (A=B):=by simpa using nh
 have tX:=Mem.le_trans sU j6
 refine⟨_,rfl,Zkk B hB _ m8 (k'.mono (Mem.le_trans iD tX)),Zmg,fun t0 u0 w0 t1 u1 w1 t2 u2 w2 t3 u3 w3 te m9 oQ sV=>?_⟩
 replace sV:RefR B _ m9:=sV
 have tY:=Mem.le_trans tX oQ
 refine⟨_,rfl,Zkl A B hA hB _ _ m9 (h'.mono (Mem.le_trans iD tY)) sV,fun v _ _ h=>by rw[h];rfl,fun b10 m10 j7 mO=>?_⟩
 replace mO:Value.bool b10=.bool (decide (A=B)):=mO
 obtain rfl:b10=decide (A=B):=by simpa using mO
 have px:=Mem.le_trans tY j7
 refine ZsF (by simp) ?_
 have cX:=Zkl A A hA hA _ _ m10 ((hC.mono (Mem.le_trans dB px)).nf) (hX.mono (Mem.le_trans nj px))
 rw[show decide (A=A)=true by simp]at cX
 refine⟨_,rfl,cX,fun v _ _ h=>by rw[h];rfl,fun b11 m11 mK mP M na _ _ _ _ _ _=>?_⟩
 replace mP:Value.bool b11=.bool true:=mP
 obtain rfl:b11=true:=by simpa using mP
 refine ZsF rfl ?_
 have lz:=Mem.le_trans iD na
 have kr:=Mem.le_trans nj na
 have sW:=Mem.le_trans dB na
 have lB:NfR false A _ M:=(hC.mono sW).nf
 have sX:=hL.mono na
 refine Zas (Zp0 A hA _ l a12 c8 ch il M lB sX (by omega)) (by rintro v m' css ⟨w,rfl,⟨_,_,rfl,_⟩,_⟩;rfl) ?_
 rintro a38 n13 c13 n14 m12 i7 ⟨w12,py,dF,dC⟩
 simp only[Value.tuple.injEq,Array.mk.injEq,List.cons.injEq,Value.int.injEq,true_and,and_true]at py
 obtain⟨rfl,rfl⟩:=py
 refine Zas (Zn4 A _ l a12 c8 m12 (lB.mono i7) (sX.mono i7) (by omega)) (by rintro v m' css rfl;rfl) ?_
 rintro b12 n15 m13 i8 pz
 simp only[Ret,Value.tuple.injEq,Array.mk.injEq,List.cons.injEq,Value.bool.injEq,Value.int.injEq,true_and,and_true]at pz
 obtain⟨rfl,rfl⟩:=pz
 have mQ:=Mem.le_trans i7 i8
 refine Zdo (Zrl A hA _ l la lc m13 (hX.mono (Mem.le_trans kr mQ)) (hl.mono (Mem.le_trans lz mQ)) (by omega)) fun m14 js=>?_
 have i9:=Mem.le_trans mQ js
 have tZ:∀M',m14.le M'→CX Try.prog 23 #[.slice a12 l.length c8,.slice la l.length lc] M' [] (Ret (.bool true)):=fun M' hM'=>by
  have:=Ziu l l a12 la c8 lc M' (sX.mono (Mem.le_trans i9 hM')) (hl.mono (Mem.le_trans lz (Mem.le_trans i9 hM'))) (by omega)
  rw[show decide (l=l)=true by simp]at this;exact this
 refine⟨false,ZsF (by simp) (ZsF (by simp) ?_),ZsF rfl ?_⟩
 ·by_cases he:A.err l=0
  ·obtain⟨hr,cH⟩:=Zp3 he
   have cI:=ZeW.1 hr
   simp only[he,if_true]
   refine ZvX rfl ?_
   refine Zas (ZsP A cI _ l la lc ch il m14 (hX.mono (Mem.le_trans kr i9)) (hl.mono (Mem.le_trans lz i9)) (by omega) cH) ZbH ?_
   intro a45 n17 c14 m15 jt v7
   rw[if_pos he]at dF
   obtain⟨_,_,e1,r1,g1,_⟩:=dF
   obtain⟨_,_,e2,r2,g2,_⟩:=v7
   simp only[Value.slice.injEq,true_and]at e1 e2
   obtain⟨rfl,rfl,rfl⟩:=e1
   obtain⟨rfl,rfl,rfl⟩:=e2
   have pA:=Ziu (A.step l ch) (A.step l ch) a38 a45 c13 c14 m15 (r1.mono (Mem.le_trans i8 (Mem.le_trans js jt))) r2 g1
   rw[show decide (A.step l ch=A.step l ch)=true by simp]at pA
   refine Zah pA fun m16 iw=>ZsF rfl ?_
   refine Zah (ZnX A cI _ l la lc m16 (hX.mono (Mem.le_trans kr (Mem.le_trans i9 (Mem.le_trans jt iw)))) (hl.mono (Mem.le_trans lz (Mem.le_trans i9 (Mem.le_trans jt iw)))) (by omega) cH) fun m17 kU=>ZsF (by simp) (ZsF rfl ?_)
   exact Zah (tZ m17 (Mem.le_trans jt (Mem.le_trans iw kU))) fun m18 ju=>⟨by trivial,rfl⟩
  ·rw[if_neg he]at dF ⊢
   obtain⟨_,_,e1,r1,g1,_⟩:=dF
   simp only[Value.slice.injEq,true_and]at e1
   obtain⟨rfl,rfl,rfl⟩:=e1
   refine ZsF (by simpa using he) (ZvX (by simpa using he) (ZsF rfl (ZsF rfl ?_)))
   exact Zah (tZ m14 (Mem.le_refl _)) fun m18 ju=>⟨by trivial,rfl⟩
 obtain⟨L,v8⟩:∃L:List Int,SlI true L (.slice a38 n13 c13) m12:=⟨_,dF⟩
 obtain⟨_,_,e1,r1,g1,_⟩:=v8
 simp only[Value.slice.injEq,true_and]at e1
 obtain⟨rfl,rfl,rfl⟩:=e1
 have t5:=Mem.le_trans cD kr
 refine⟨fun xs _ _ m' q=>∃j:Nat,j≤L.length∧xs=[.int .i64 j]∧M.le m'∧DomK m12 m'∧q=L.length - j,⟨_,0,by omega,rfl,i9,DomK.le (Mem.le_trans i8 js),rfl⟩,?_⟩
 rintro z m15 q _ ⟨j,hj,hz,kb,pB,hq⟩
 obtain rfl:z=j:=by simpa using hz
 subst hq
 refine Zab (fun bV=>?_) (fun cM=>?_)
 ·have bF:j < L.length:=by have:=of_decide_eq_true bV;omega
  obtain⟨xx,nM⟩:=Zam bF
  obtain⟨b14,o14,ha,cN⟩:=Zba r1 nM
  have fV:M.free b14:=dC b14 o14 ha
  rw[Int.toNat_natCast]
  exact⟨b14,o14,ha,⟨by omega,by omega⟩,pB.one cN,ZnL lz fV,by trivial,Zkp (eI 0 _ rfl) t5 fV,Zkp (mY 0 _ rfl) (Mem.le_trans bZ t5) fV,by trivial,_,by omega,j+1,bF,by rw[Zau (by omega) (by omega)];rfl,Zuf kb fV,pB.upd _ _ _,rfl⟩
 have kd:=Zkl A A hA hA _ _ m15 ((hC.mono (Mem.le_trans sW kb)).nf) (hX.mono (Mem.le_trans kr kb))
 rw[show decide (A=A)=true by simp]at kd
 refine Zah kd fun m16 iw=>ZsF rfl ?_
 have h4_16:=Mem.le_trans sW (Mem.le_trans kb iw)
 have h3_16:=Mem.le_trans kr (Mem.le_trans kb iw)
 obtain⟨_,_,_,_,hv,⟨gS,nS⟩,⟨gX,nX⟩,⟨gY,nY⟩,ga,gc,gs,rfl,gr,gl,gb,d1,d2,d3,gF⟩:=hC.mono h4_16
 simp only[Value.agg.injEq,Array.mk.injEq,List.cons.injEq,Value.bool.injEq,true_and,and_true,Value.slice.injEq]at hv
 obtain⟨rfl,⟨rfl,rfl,rfl⟩,rfl,rfl,rfl⟩:=hv
 obtain⟨_,_,eS,_⟩:=id gS
 obtain⟨_,_,eX,_⟩:=id gX
 obtain⟨_,_,eY,_⟩:=id gY
 simp only[Value.slice.injEq]at eS eX eY
 obtain⟨rfl,rfl,rfl⟩:=eS
 obtain⟨rfl,rfl,rfl⟩:=eX
 obtain⟨rfl,rfl,rfl⟩:=eY
 have kn:∀b,¬m16.free b→∃o v,m16 b o=some v:=fun b hb=>by
  refine Classical.byContradiction fun hh=>hb fun o=>?_
  cases he:m16 b o with
  | none=>rfl
  | some u=>exact absurd ⟨o,u,he⟩ hh
 refine⟨fun b=>m3.free b∧(∃o v,m16 b o=some v)∧∀o',o1≠some ⟨b,o',none⟩,_,Zrp A o0 q0 o1 q1 o2 q2 o3 q3 gs m16 _ gS gX gY gr gl gb (fun i v l hv hl=>(gF i v l hv hl).1) (fun b o e cJ=>⟨nS b o e,kn b (Zv0 gS cJ e),fun o' e'=>d1 cJ b o o' e e'⟩) (fun b o e cJ=>⟨nX b o e,kn b (Zuj gX cJ e),fun o' e'=>d2 cJ b o o' e e'⟩) (fun b o e cJ=>⟨nY b o e,kn b (Zuj gY cJ e),fun o' e'=>d3 cJ b o o' e e'⟩) (fun b o e hY=>hY.2.2 o e) (fun i v l hv hl b o e cJ=>⟨(gF i v l hv hl).2.1 b o e,kn b (Zuj (gF i v l hv hl).1 cJ e),fun o' e'=>(gF i v l hv hl).2.2 cJ b o o' e e'⟩),(fun t ht=>by cases ht),fun b15 hY=>.inr ⟨ZnL iB hY.1,hY.2.1,Zkp (eI 0 _ rfl) cD hY.1,Zkp (mY 0 _ rfl) (Mem.le_trans bZ cD) hY.1,by trivial⟩,fun v _ _ _ h=>by rw[h];rfl,fun m17 pC _ _=>?_⟩
 have h3_17:m3.le m17:=Mem.le_trans (Zue h3_16 fun b hY=>hY.1) pC
 have kf:=Zkl A A hA hA _ _ m17 (h'.mono (Mem.le_trans iB h3_17)) (hX.mono h3_17)
 rw[show decide (A=A)=true by simp]at kf
 exact Zah kf fun m18 ju=>⟨m18,Mem.le_trans iB (Mem.le_trans h3_17 ju),Mem.le_refl _,rfl⟩
end Go.Proofs.Ytplacemlpkhmfaa
