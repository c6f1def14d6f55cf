/- Part of the proof: conditions and contracts of functions of this program. No condition of its own. -/
import Derived.Test.YtfgfahnakepegaaPC15TE
import Derived.Test.YtfgfahnakepegaaPEnv
import Derived.Test.YtfgfahnakepegaaMc
import Derived.Test.YtfgfahnakepegaaMr
import Derived.Test.YtfgfahnakepegaaPC15ZN
set_option linter.unusedVariables false
set_option linter.unusedSimpArgs false
namespace Go.Proofs.Ytfgfahnakepegaa
open Go Go.Eng Go.Rx Go.Proofs Go.RowKit
set_option maxRecDepth 100000
theorem ZwB(a b c d a' b' c' d':Int):EqIs Try.prog 72 (.agg #[.int .i64 a,.int .i64 b,.int .i64 c,.int .i64 d]) (.agg #[.int .i64 a',.int .i64 b',.int .i64 c',.int .i64 d']) (a == a'&&b == b'&&c == c'&&d == d'):=by
 refine⟨λw=>?_,λop ox oy w=>Zet (by kernel_rfl) op ox oy _ _ w⟩
 have u3:=Try.underlying3
 have a3:=Try.isAgg3
 have z3:=Try.sizeOf3
 rw[Op.equal,Op.maxDepth,show(10000:Nat)=9999+1 from rfl]
 rw[run_equalIn_agg _ _ _ _ _ (by kernel_rfl) (by kernel_rfl)]
 have hf:(Try.prog.fieldsOf 72).toList=[⟨ "Alt",3,0,false, "", "",0⟩,⟨ "From",3,1,false, "", "",8⟩,⟨ "To",3,2,false, "", "",16⟩,⟨ "Length",3,3,false, "", "",24⟩]:=by kernel_rfl
 rw[hf]
 go_simp
 by_cases h1:a=a' <;> by_cases h2:b=b' <;> by_cases h3:c=c' <;> by_cases h4:d=d' <;> simp[h1,h2,h3,h4]
theorem ZpP{m:Mem}{a:Option Addr}{L:List C4}(h:rowRd m a (ZaP L)){i:Nat}{k:C4}(hk:L[i]?=some k):∃b o,a=some ⟨b,o,none⟩/\m.reads b (o+i*4) (ZcI k):=by
 have key:∀{L:List C4} {i:Nat},L[i]?=some k->∀j v,(ZcI k)[j]?=some v->(ZaP L)[i*4+j]?=some v:=by
  intro L
  induction L with
  | nil=>intro i h;simp at h
  | cons x L ih=>
   intro i h j v hv
   have hj:j < 4:=(List.getElem?_eq_some_iff.1 hv).1
   have e:ZaP (x::L)=ZcI x++ZaP L:=rfl
   cases i with
   | zero=>
    simp at h;subst h
    rw[e,Nat.zero_mul,Nat.zero_add,List.getElem?_append_left hj];exact hv
   | succ i=>
    rw[e,List.getElem?_append_right (by show 4<=_;omega),show(i+1)*4+j - (ZcI x).length=i*4+j from by show(i+1)*4+j - 4=_;omega]
    exact ih (by simpa using h) j v hv
 rcases h with h|⟨b,o,e,h⟩
 ·have h1:=Zc6 L
  have h2:=(List.getElem?_eq_some_iff.1 hk).1
  rw[h]at h1;simp at h1;omega
 ·exact⟨b,o,e,λj v hv=>by have:=h _ v (key hk j v hv);rwa [<-Nat.add_assoc]at this⟩
set_option maxHeartbeats 1600000 in
theorem Zot(t:T)(cs:List Value)(m:Mem)(hr:RefT m t cs)(hg:t.good=true)(hz:t.nodes.length<=120):CX Try.prog 60 #[.agg cs.toArray] m [] (Ret (.tuple #[(Zbb t).c.v,.int .i64 (Zbb t).g])):=by
 apply Zni
 unfold ZhY
 have bO:=ZpO (t:=t) (by omega)
 have bB:=ZcE (t:=t) (by omega)
 refine hr.chk λb0 m1 aM _ b1 b2=>Zag (Zoq t cs m1 (hr.mono aM) (by omega)) Zop ?_
 rintro a3 n3 c3 m3 aX ⟨aa,ac,hv,aR⟩
 simp only[Value.slice.injEq]at hv
 obtain⟨rfl,rfl,rfl⟩:=hv
 have bT:=mLt aM aX
 refine⟨λxs css _ m' q=>∃i:Nat,i<=t.cuts.length/\xs=[.int .i64 ((t.cuts.take i).foldl (Zbp t) ⟨C4.zero,0,t.er⟩).g,.int .i64 i]/\css=[ZcI ((t.cuts.take i).foldl (Zbp t) ⟨C4.zero,0,t.er⟩).c]/\q=t.cuts.length - i,⟨_,0,Nat.zero_le _,rfl,rfl,rfl⟩,?_⟩
 rintro z1 z2 cs' m4 q bG ⟨i,hi,aZ,cC,hq⟩
 simp only[List.cons.injEq,Value.int.injEq,true_and,and_true]at aZ cC
 obtain⟨rfl,rfl⟩:=aZ
 subst cC hq
 have gB:=mLt bT bG
 refine ZbD (λaS=>?_) (λbM=>?_)
 ·have aQ:i < t.cuts.length:=by omega
  obtain⟨k,hk⟩:=Za7 aQ
  have mR:=List.mem_of_getElem? hk
  obtain⟨bb,o,rfl,bA⟩:=ZpP (aR.mono bG) hk
  have hw:IntKind.i64.wrap ((i:Int)+1)=((i+1:Nat):Int):=by rw[ZaB (by omega) (by omega)];rfl
  have sw:=ZjX (c:=k) t 0 hg (ZdR mR)
  have pU:=ZcE (t:=(t.cutAt k 0).1) (by have:=sw.sz;omega)
  have bW:(t.cuts.take (i+1)).foldl (Zbp t) ⟨C4.zero,0,t.er⟩=Zbp t ((t.cuts.take i).foldl (Zbp t) ⟨C4.zero,0,t.er⟩) k:=by
   rw[Zb8 hk,List.foldl_append];rfl
  have lS:IntKind.i64.wrap (t.size - (t.cutAt k 0).1.size)=Zfl t k:=by
   rw[bB,pU]
   unfold Zfl
   have:=sw.sz
   rw[ZaB (by omega) (by omega)]
  simp only[hw,Int.toNat_natCast]
  refine⟨bb,o,rfl,⟨by omega,by omega⟩,_,_,_,_,bA,λb4=>Zaa rfl ⟨λj _ _=>bif Nat.beq j 1 then Ret (.int .i64 t.size)else bif Nat.beq j 4 then Zuk (t.cutAt k 0).1 else Ret (.int .i64 (t.cutAt k 0).1.size),_,rfl,ZpM t cs m4 (hr.mono gB),(λv _ _ e=>by rw[e];rfl),?_⟩⟩
  intro n5 m5 dA vX
  obtain rfl:n5=t.size:=by have vX:Value.int .i64 n5=.int .i64 t.size:=vX;simpa using vX
  refine⟨_,rfl,Zos k t cs 0 m5 (hr.mono (mLt gB dA)) hg (by omega) (by omega) (ZdR mR),Zbk,ZgW λcs6 m6 eA h6=>⟨_,rfl,ZpM _ cs6 m6 h6,(λv _ _ e=>by rw[e];rfl),?_⟩⟩
  intro n7 m7 cT vY
  obtain rfl:n7=(t.cutAt k 0).1.size:=by have vY:Value.int .i64 n7=.int .i64 (t.cutAt k 0).1.size:=vY;simpa using vY
  intro M _ _ _ _
  simp only[lS]
  generalize (t.cuts.take i).foldl (Zbp t) ⟨C4.zero,0,t.er⟩=B at *
  refine⟨Zhs B.c k B.g (Zfl t k),?_,Zab (λhy=>Zaa rfl ⟨by trivial,t.cuts.length - (i+1),by omega,i+1,aQ,?_,?_,rfl⟩) (λhy=>⟨by trivial,t.cuts.length - (i+1),by omega,i+1,aQ,?_,?_,rfl⟩)⟩
  ·have e1:(((k.a:Nat):Int) == ((B.c.a:Nat):Int))=(k.a == B.c.a):=by rw[Bool.eq_iff_iff];simp only[beq_iff_eq];omega
   have e2:(((k.f:Nat):Int) == ((B.c.f:Nat):Int))=(k.f == B.c.f):=by rw[Bool.eq_iff_iff];simp only[beq_iff_eq];omega
   have e3:decide (((k.t:Nat):Int) > ((B.c.t:Nat):Int))=decide (k.t > B.c.t):=decide_eq_decide.2 (by omega)
   unfold Zhs
   refine Zab (λx1=>⟨by trivial,by rw[x1];rfl⟩) (λx1=>Zab (λx3=>Zab (λx2=>Zar (v:=.int .i64 (B.c.a:Nat)) rfl (Zaa rfl ?_)) (λx2=>⟨by trivial,by rw[x1,x2];rfl⟩)) (λx3=>⟨by trivial,by rw[x1,x3];cases(Zfl t k == B.g) <;> rfl⟩))
   show br (((k.a:Nat):Int) == ((B.c.a:Nat):Int)) _ _
   rw[x1,x2,x3,e1]
   refine Zab (λx4=>Zar (v:=.int .i64 (B.c.f:Nat)) rfl (Zaa rfl ?_)) (λx4=>⟨by trivial,by rw[x4];rfl⟩)
   show br (((k.f:Nat):Int) == ((B.c.f:Nat):Int)) _ _
   rw[x4,e2]
   refine Zab (λx5=>Zar (v:=.int .i64 (B.c.t:Nat)) rfl (Zaa rfl ⟨by trivial,?_⟩)) (λx5=>⟨by trivial,by rw[x5];rfl⟩)
   show[Value.bool (decide (((k.t:Nat):Int) > ((B.c.t:Nat):Int)))]=_
   rw[x5,e3];rfl
  ·rw[bW];unfold Zbp;rw[hy,if_pos rfl]
  ·rw[bW];unfold Zbp;rw[hy,if_pos rfl];rfl
  ·rw[bW];unfold Zbp;rw[hy];rfl
  ·rw[bW];unfold Zbp;rw[hy];rfl
 ·have:i=t.cuts.length:=by omega
  subst this
  rw[List.take_length]
  exact Zaa rfl (Zah gB rfl)
def ZAv(L:List C4)(E:T):Value->Mem->List (List Value)->Prop:=λv m' _=>∃a c cs,v=.tuple #[.slice a L.length c,.agg cs.toArray]/\rowRd m' a (ZaP L)/\RefT m' E cs
theorem ZxL(t:T):0<=(Zbb t).g:=by
 rcases(Zmm t).or with h|h <;> omega
theorem Zrx(t:T)(cs:List Value)(m:Mem)(hr:RefT m t cs)(hg:t.good=true)(hz:t.nodes.length<=120):CX Try.prog 59 #[.agg cs.toArray] m [] (ZAv (ZaM t).2 (ZaM t).1):=by
 apply ZkM
 unfold Zgg
 have dS:=Zn7 hg
 refine hr.chk λb0 b1=>⟨λxs css tvs m' q=>∃(x:T)(P:List C4)(a1:Option Addr)(c1:Nat)(ds es:List Value),xs=[.slice a1 P.length c1]/\tvs=[.slice a1 P.length c1]/\css=[ds,es]/\RefT m' x ds/\x.good=true/\x.nodes.length<=120/\rowRd m' a1 (ZaP P)/\P++(ZaM x).2=(ZaM t).2/\(ZaM x).1=(ZaM t).1/\q=x.nodes.length,⟨_,t,[],none,0,cs,_,rfl,rfl,rfl,hr,hg,hz,.inl rfl,rfl,rfl,rfl⟩,?_⟩
 rintro a1 n1 c1 ds es a2 n2 c2 m1 q aM ⟨x,P,a3,c3,ds',es',aZ,cA,cC,hx,gY,iH,aR,hP,hf,hq⟩
 simp only[List.cons.injEq,Value.slice.injEq,true_and,and_true]at aZ cA cC
 obtain⟨rfl,rfl,rfl⟩:=aZ
 obtain⟨rfl,rfl,rfl⟩:=cA
 obtain⟨rfl,rfl⟩:=cC
 subst hq
 have xp:=congrArg List.length hP
 rw[List.length_append]at xp
 refine⟨_,trivial,Zot x ds m1 hx gY iH,(λv _ _ e=>by rw[e];rfl),?_⟩
 intro k1 k2 k3 k4 g m2 aP hv
 have hv:Value.tuple (Array.mk [.agg (Array.mk [.int .i64 k1,.int .i64 k2,.int .i64 k3,.int .i64 k4]),.int .i64 g])=.tuple #[(Zbb x).c.v,.int .i64 (Zbb x).g]:=hv
 simp only[C4.v,Value.tuple.injEq,Value.agg.injEq,Array.mk.injEq,List.cons.injEq,Value.int.injEq,true_and,and_true]at hv
 obtain⟨⟨rfl,rfl,rfl,rfl⟩,rfl⟩:=hv
 have bY:=mLt aM aP
 have mA:=ZxL x
 intro b3
 refine ZdA (λh0=>hx.chk1 ⟨m2,bY,Mem.le_refl _,a2,c2,ds,?_,?_,?_⟩) (λh0=>λb4 qK=>?_)
 ·rw[ZcU (by omega)]at hP
  rw[<-hP];simp
 ·rw[ZcU (by omega)]at hP
  rw[<-hP]
  simpa using aR.mono aP
 ·rw[<-hf,ZcU (by omega)]
  exact(ZfU x ds).2 (hx.mono aP)
 ·have hb:=Zeb gY (by omega)
  have lZ:=Zy1 (t:=x) (by omega)
  rw[ZgM gY (by omega)]at hP hf
  refine⟨.inl rfl,ZaP P,ZcI (Zbb x).c,Zc6 _,rfl,(aR.mono aP).mono (Mem.le_add qK _),ZpN,ZvG _,by omega,by omega,λa7 c7 m7 cT eW=>?_⟩
  have vZ:=mLt (Mem.le_add qK _) cT
  refine Zag (Zos (Zbb x).c x ds 0 m7 (hx.mono (mLt aP vZ)) gY (by omega) (by omega) (ZdR lZ.2)) Zbk (ZgW λcs8 m8 fA h8=>h8.chk1 ⟨by trivial,(Zbb x).t.nodes.length,by omega,(Zbb x).t,P++[(Zbb x).c],a7,c7,cs8,es,?_,?_,rfl,?_,hb.1,by omega,?_,?_,hf,rfl⟩)
  ·rw[List.length_append];rfl
  ·rw[List.length_append];rfl
  ·rw[lZ.1];exact h8
  ·rw[Zdd];exact eW.mono fA
  ·rw[List.append_assoc];exact hP
end Go.Proofs.Ytfgfahnakepegaa
set_option linter.unusedVariables false
namespace Go.Proofs.Ytfgfahnakepegaa
open Go Go.Eng Go.Proofs Go.RowKit
open Go.Value (int slice agg bool string tuple func)
open Go.IntKind (u8 u64 i64)
set_option maxRecDepth 100000
noncomputable def Zpl:Env:={ EB with
 loops:=(λi=>bif Nat.beq i 3 then⟨[(18,.int .i64)],[3],[],false⟩ else bif Nat.beq i 8 then⟨[(39,.int .i64)],[3],[(48,8)],false⟩ else⟨[],[],[],false⟩)
 dr:=(λi=>bif Nat.beq i 5 then[⟨0,[],[],none,[],[]⟩,⟨1,[],[],none,[0],[]⟩,⟨2,[3],[],none,[],[]⟩,⟨3,[3],[],none,[0,1,2],[]⟩,⟨4,[3],[],none,[0,1,2,3],[]⟩,⟨5,[],[],none,[],[]⟩,⟨6,[],[],none,[5],[]⟩,⟨7,[],[],none,[],[]⟩,⟨8,[],[],none,[7],[]⟩,⟨9,[],[],none,[5,6,7,8],[]⟩,⟨10,[],[],none,[0,1,2,3,4,5,6,7,8,9],[]⟩,⟨11,[3],[],none,[],[]⟩,⟨12,[3],[],none,rg 0 12,[]⟩,⟨13,[3],[3],none,rg 0 13,[]⟩]else bif Nat.beq i 10 then[⟨0,[3],[],none,[],[]⟩,⟨1,[3],[],none,[0],[]⟩,⟨2,[7],[],none,[],[]⟩,⟨3,[],[],none,[2],[]⟩,⟨4,[47],[47],none,[2,3],[3]⟩,⟨5,[47],[],some 48,[0,1,2,3,4],[4]⟩,⟨6,[3],[],none,[0,1,2,3,4,5],[]⟩,⟨7,[3],[3],none,[0,1,2,3,4,5,6],[]⟩]else[])
 tokOf:=(λi=>bif Nat.beq i 48 then 48 else 0)
 frzNew:=[1]
 capF:=true }
abbrev Znl:Nat->Option Box:=λ(b:Nat)=>some (Box.mk b [int u8 0,int u64 0,int u64 0,int u64 0,int u64 0,int i64 0,int i64 0,slice none 0 0] 27 8 false true)
abbrev Znm:List Value->Nat->Option Box:=λ(p0:List Value)(b:Nat)=>some (Box.mk b p0 70 260 true true)
abbrev Zh0:List Value->Nat->Nat->Nat->List (Option Box):=λ(p0:List Value)(b ap aq:Nat)=>[some (Box.mk aq [] 27 8 false true),Znl ap,Znm p0 b]
def Zh1(p0:List Value)(m:Mem)(R:RT):Prop:=
 chk (Nat.beq (List.length p0) 260) (∀(b:Nat)(m':Mem),Mem.le m m'->Mem.reads m' b 0 p0->∀(ap:Nat),Eng.Zv0 p0 0 λ(v:Value)=>chk (ZaD i64 v) (Eng.Zv0 p0 257 λ(aa:Value)=>Eng.Zv0 p0 258 fun
 (ac:Value)=>chk (Nat.beq (List.length (Array.toList (Value.cells aa))) 1&&true) (chk (Nat.beq (List.length (Array.toList (Value.cells ac))) 1&&Nat.ble (nat_lit 2) (List.length (List.append (Array.toList
 (Value.cells aa)) (List.drop (5+List.length (Array.toList (Value.cells aa))) [int u8 (IntKind.wrap u8 (RowKit.intOf v)),int u64 0,int u64 0,int u64 0,int u64 0,int i64 0,int i64 0,slice none 0 0])))) (∀(aq:
 Nat),chk (Nat.beq (List.length (List.append (List.append (List.take (nat_lit 1) (List.append (Array.toList (Value.cells aa)) (List.drop (5+List.length (Array.toList (Value.cells aa))) [int u8 (IntKind.wrap u8
 (RowKit.intOf v)),int u64 0,int u64 0,int u64 0,int u64 0,int i64 0,int i64 0,slice none 0 0]))) (Array.toList (Value.cells ac))) (List.drop (6+List.length (Array.toList (Value.cells ac))) (Zax [int u8
 (IntKind.wrap u8 (RowKit.intOf v)),int u64 0,int u64 0,int u64 0,int u64 0,int i64 0,int i64 0,slice none 0 0] 5 (Array.toList (Value.cells aa)))))) (nat_lit 3)&&ZbC (List.append (List.append (List.take
 (nat_lit 1) (List.append (Array.toList (Value.cells aa)) (List.drop (5+List.length (Array.toList (Value.cells aa))) [int u8 (IntKind.wrap u8 (RowKit.intOf v)),int u64 0,int u64 0,int u64 0,int u64 0,int i64 0,
 int i64 0,slice none 0 0]))) (Array.toList (Value.cells ac))) (List.drop (6+List.length (Array.toList (Value.cells ac))) (Zax [int u8 (IntKind.wrap u8 (RowKit.intOf v)),int u64 0,int u64 0,int u64 0,int u64 0,
 int i64 0,int i64 0,slice none 0 0] 5 (Array.toList (Value.cells aa)))))) (chk (Nat.ble 257 (List.length p0)) (∃(I:IT),(∃(n:Nat),I [int i64 0] [Zax (Zax [int u8 (IntKind.wrap u8 (RowKit.intOf v)),int
 u64 0,int u64 0,int u64 0,int u64 0,int i64 0,int i64 0,slice none 0 0] 5 (Array.toList (Value.cells aa))) 6 (Array.toList (Value.cells ac))] [] m' n)/\∀(n:Int)(cs:List Value)(ae:Mem)(au:Nat),Mem.le
 m' ae->I [int i64 n] [cs] [] ae au->br (decide (n < (256:Int))) (Zae n 256/\Eng.Zv0 (List.take 256 (List.drop 1 p0)) (Int.toNat n) λ(u:Value)=>(64:Int)≠(0:Int)/\Zae (IntKind.wrap i64
 (Int.tdiv n (64:Int))) 4/\Eng.Zv0 cs (1+Int.toNat (IntKind.wrap i64 (Int.tdiv n (64:Int)))*1) λ(v:Value)=>chk (ZaD i64 u) ((64:Int)≠(0:Int)/\(0:Int)<=Int.tmod n (64:Int)/\chk (ZaD u64 v
 && decide (u64=u64)) (Zae (IntKind.wrap i64 (Int.tdiv n (64:Int))) 4/\chk (Nat.ble (1+Int.toNat (IntKind.wrap i64 (Int.tdiv n (64:Int)))*1+1) (List.length cs)) (Zau (Zh0 p0 b ap aq)/\∃(n'
 : Nat),n' < au/\I [int i64 (IntKind.wrap i64 (n+(1:Int)))] [Zax cs (1+Int.toNat (IntKind.wrap i64 (Int.tdiv n (64:Int)))*1) [int u64 (IntKind.wrap u64 (↑(BitVec.toNat (BitVec.ofInt 64 (RowKit.intOf v) |||
 BitVec.ofInt 64 (IntKind.wrap u64 (IntKind.wrap u64 (RowKit.intOf u)*(2:Int) ^ min (Int.toNat (Int.tmod n (64:Int))) 64)))):Int))]] [] ae n')))) (Eng.Zv0 p0 259 λ(v:Value)=>chk (Zcy v) (∃(I:IT),(∃
 (n:Nat),I [int i64 0] [cs] [slice none 0 0] ae n)/\∀(n:Int)(cs:List Value)(a:Option Addr)(av c:Nat)(m':Mem)(aw:Nat),Mem.le ae m'->I [int i64 n] [cs] [slice a av c] m' aw->br (decide (n < (↑(slN
 v):Int))) (chk (Zcy v) (∃(ax:Nat),∃(o:Nat),slA v=some (Addr.mk ax o none)/\Zae n (slN v)/\∃(vs:List Value),List.length vs=260/\Mem.reads m' ax (o+Int.toNat n*260) vs/\∀(ay:Nat),chk
 (Nat.beq (List.length vs) 260&&ZbC vs) (∃(f:Fx),Eng.Zv0 cs 7 λ(v:Value)=>∃(R:RT),R=f 3 [agg (Array.mk vs)] m'/\CX Try.prog 78 (Array.mk [agg (Array.mk vs)]) m' [] R/\Zat (shT) R/\∀(af ag ah ai
 aj ak al:Int) (am:Option Addr) (an ao:Nat) (ab:Mem),Mem.le m' ab->R (agg (Array.mk [int u8 af,int u64 ag,int u64 ah,int u64 ai,int u64 aj,int i64 ak,int i64 al,slice am an ao])) ab []->∀(ad:Nat),
 Mem.free ab ad->chk (Zcy v&&true) ((Tok.mk (slice a av c) 8=Tok.mk v 8\/v=slice none 0 0\/slC v < slN v+1)/\∃(xs:List Value),∃(ys:List Value),List.length xs=slN v*8/\List.length ys=1*8/\
 rowRd (Mem.add ab ad [int u8 af,int u64 ag,int u64 ah,int u64 ai,int u64 aj,int i64 ak,int i64 al,slice am an ao]) (slA v) xs/\rowRd (Mem.add ab ad [int u8 af,int u64 ag,int u64 ah,int u64 ai,int u64 aj,int
 i64 ak,int i64 al,slice am an ao]) (some (Addr.mk ad 0 none)) ys/\(∀(u:Value),u∈ys->Value.oneCell' u=true)/\(slN v+1)*80<=140737488355328/\slN v+1<=9223372036854775807/\∀(a':Option Addr) (c':
 Nat) (ar:Mem),Mem.le (Mem.add ab ad [int u8 af,int u64 ag,int u64 ah,int u64 ai,int u64 aj,int i64 ak,int i64 al,slice am an ao]) ar->rowRd ar a' (List.append xs ys)->slN v+1<=c'->chk (Nat.ble 8
 (List.length cs)) (∀(M:Mem),Mem.le m' M->Mem.le ab M->Mem.le (Mem.add ab ad [int u8 af,int u64 ag,int u64 ah,int u64 ai,int u64 aj,int i64 ak,int i64 al,slice am an ao]) M->Mem.le ar M->Zau
 (Zh0 p0 b ap aq)/\∃(n':Nat),n' < aw/\I [int i64 (IntKind.wrap i64 (n+(1:Int)))] [Zax cs 7 [slice a' (slN v+1) c']] [slice a' (slN v+1) c'] M n'))))) (chk (Nat.beq (List.length cs) 8&&ZbC
 cs) (∃(m'':Mem),Mem.le m m''/\Mem.le m'' m'/\R (agg (Array.mk cs)) m'' []))))))))))
theorem Znn(p0:List Value)(m:Mem)(R:RT)(h:Zh1 p0 m R):CX Try.prog 78 #[.agg p0.toArray] m [] R:=
 Zad (E:=Zpl) ZaE mix Try.func78 [.v (.agg p0.toArray)] [] (by kernel_rfl) (Eq.mp (by kernel_rfl) h)
noncomputable def Zno:Env:={ EB with
 frzNew:=[1] }
def Zgh(aD aE aF aG aJ aH aI:Int)(aB:Option Addr)(aA aC:Nat)(m:Mem)(R:RT):Prop:=
 ∀(b:Nat)(m':Mem),Mem.le m m'->Mem.reads m' b 0 [int u8 aD,int u64 aE,int u64 aF,int u64 aG,int u64 aJ,int i64 aH,int i64 aI,slice aB aA aC]->∃(R_1:RT),True/\CX Try.prog 37
 (Array.mk [agg (Array.mk [int u8 aD,int u64 aE,int u64 aF,int u64 aG,int u64 aJ,int i64 aH,int i64 aI,slice aB aA aC]),int i64 60]) m' [] R_1/\Zat (Shape.int i64) R_1/\∀(n:Int) (m'_1
 : Mem),Mem.le m' m'_1->R_1 (int i64 n) m'_1 []->∃(m'':Mem),Mem.le m m''/\Mem.le m'' m'_1/\R (bool (decide (n<=(60:Int)))) m'' []
theorem ZkN(aD aE aF aG aJ aH aI:Int)(aB:Option Addr)(aA aC:Nat)(m:Mem)(R:RT)(h:Zgh aD aE aF aG aJ aH aI aB aA aC m R):CX Try.prog 10 #[.agg #[.int .u8 aD,.int .u64 aE,.int .u64 aF,.int .u64 aG,.int .u64 aJ,.int .i64 aH,.int .i64 aI,.slice aB aA aC]] m [] R:=
 Zad (E:=Zno) ZaE mix Try.func10 [.v (.agg #[.int .u8 aD,.int .u64 aE,.int .u64 aF,.int .u64 aG,.int .u64 aJ,.int .i64 aH,.int .i64 aI,.slice aB aA aC])] [] (by kernel_rfl) (Eq.mp (by kernel_rfl) h)
noncomputable def ZkO:Env:={ EB with
 frzNew:=[1] }
def Zfw(aD aE aF aG aJ aH aI:Int)(aB:Option Addr)(aA aC:Nat)(m:Mem)(R:RT):Prop:=
 ∀(b:Nat)(m':Mem),Mem.le m m'->Mem.reads m' b 0 [int u8 aD,int u64 aE,int u64 aF,int u64 aG,int u64 aJ,int i64 aH,int i64 aI,slice aB aA aC]->∀(b:Nat),∃(R_1:RT),True/\CX
 Try.prog 39 (Array.mk [agg (Array.mk [int u8 aD,int u64 aE,int u64 aF,int u64 aG,int u64 aJ,int i64 aH,int i64 aI,slice aB aA aC])]) m' [] R_1/\Zat Shape.cells R_1/\∀(cs:List Value)
 (m'_1:Mem),Mem.le m' m'_1->R_1 (agg (Array.mk cs)) m'_1 []->∃(R_2:RT),True/\CX Try.prog 78 (Array.mk [agg (Array.mk cs)]) m'_1 [] R_2/\Zat (shT) R_2/\∀(n n_1 n_2 n_3 n_4 n_5 n_6:Int)(a:Option Addr)
 (n_7 c:Nat) (m':Mem),Mem.le m'_1 m'->R_2 (agg (Array.mk [int u8 n,int u64 n_1,int u64 n_2,int u64 n_3,int u64 n_4,int i64 n_5,int i64 n_6,slice a n_7 c])) m' []->∃(m'':Mem),Mem.le m m''/\Mem.le m'' m'
 /\ R (agg (Array.mk [int u8 n,int u64 n_1,int u64 n_2,int u64 n_3,int u64 n_4,int i64 n_5,int i64 n_6,slice a n_7 c])) m'' []
theorem Zjt(aD aE aF aG aJ aH aI:Int)(aB:Option Addr)(aA aC:Nat)(m:Mem)(R:RT)(h:Zfw aD aE aF aG aJ aH aI aB aA aC m R):CX Try.prog 38 #[.agg #[.int .u8 aD,.int .u64 aE,.int .u64 aF,.int .u64 aG,.int .u64 aJ,.int .i64 aH,.int .i64 aI,.slice aB aA aC]] m [] R:=
 Zad (E:=ZkO) ZaE mix Try.func38 [.v (.agg #[.int .u8 aD,.int .u64 aE,.int .u64 aF,.int .u64 aG,.int .u64 aJ,.int .i64 aH,.int .i64 aI,.slice aB aA aC])] [] (by kernel_rfl) (Eq.mp (by kernel_rfl) h)
noncomputable def Zpm:Env:={ EB with
 dr:=(λi=>bif Nat.beq i 1 then[⟨0,[2],[],none,[],[]⟩,⟨1,[],[],none,[0],[]⟩,⟨2,[],[],none,[0,1],[]⟩,⟨3,[],[],none,[0,1,2],[]⟩,⟨4,[2],[],none,[0,1,2,3],[1]⟩,⟨5,[],[],none,[0,1,2,3,4],[1]⟩,⟨6,[3],[],none,[0,1,2,3],[1]⟩,⟨7,[],[],none,[0,1,2,3,4,5,6],[5]⟩,⟨8,[],[],none,[0,1,2,3,4,5,6,7],[]⟩,⟨9,[],[],none,[0,1,2,3,4,5,6,7,8],[]⟩]else[])
 frzNew:=[2,3]
 gb:=true }
def Zh2(aD aE aF aG aJ aH aI:Int)(aB:Option Addr)(aA aC:Nat)(p1:List Value)(m:Mem)(R:RT):Prop:=
 ∀(b:Nat)(m':Mem),Mem.le m m'->Mem.reads m' b 0 [int u8 aD,int u64 aE,int u64 aF,int u64 aG,int u64 aJ,int i64 aH,int i64 aI,slice aB aA aC]->chk (Nat.beq (List.length p1) 260) (∀
 (b:Nat) (m'_1:Mem),Mem.le m' m'_1->Mem.reads m'_1 b 0 p1->∃(f:Fx),∃(R_1:RT),R_1=f 1 [agg (Array.mk [int u8 aD,int u64 aE,int u64 aF,int u64 aG,int u64 aJ,int i64 aH,int i64 aI,slice
 aB aA aC]),int i64 1000] m'_1/\CX Try.prog 37 (Array.mk [agg (Array.mk [int u8 aD,int u64 aE,int u64 aF,int u64 aG,int u64 aJ,int i64 aH,int i64 aI,slice aB aA aC]),int i64
 1000]) m'_1 [] R_1/\Zat (Shape.int i64) R_1/\∀(n:Int)(m':Mem),Mem.le m'_1 m'->R_1 (int i64 n) m' []->br (decide (n<=(1000:Int))) (∃(R_2:RT),R_2=f 5 [agg (Array.mk [int u8 aD,int u64 aE,int u64
 aF,int u64 aG,int u64 aJ,int i64 aH,int i64 aI,slice aB aA aC])] m'/\CX Try.prog 39 (Array.mk [agg (Array.mk [int u8 aD,int u64 aE,int u64 aF,int u64 aG,int u64 aJ,int i64 aH,
 int i64 aI,slice aB aA aC])]) m' [] R_2/\Zat Shape.cells R_2/\∀(cs:List Value)(m'_2:Mem),Mem.le m' m'_2->R_2 (agg (Array.mk cs)) m'_2 []->∃(R_3:RT),R_3=f 7 [agg (Array.mk cs),agg (Array.mk
 p1)] m'_2/\CX Try.prog 83 (Array.mk [agg (Array.mk cs),agg (Array.mk p1)]) m'_2 [] R_3/\Zat Shape.bool R_3/\∀(b:Bool)(m'_3:Mem),Mem.le m'_2 m'_3->R_3 (bool b) m'_3 []->∀(M:Mem),Mem.le m'_1 M->Mem.le
 m' M->Mem.le m'_2 M->Mem.le m'_3 M->∃(m'':Mem),Mem.le m m''/\Mem.le m'' M/\R (bool b) m'' []) (∀(M:Mem),Mem.le m'_1 M->Mem.le m' M->Mem.le m' M->Mem.le m' M->∃(m'':Mem),Mem.le m m''/\Mem.le m'' M/\
 R (bool false) m'' []))
theorem Znp(aD aE aF aG aJ aH aI:Int)(aB:Option Addr)(aA aC:Nat)(p1:List Value)(m:Mem)(R:RT)(h:Zh2 aD aE aF aG aJ aH aI aB aA aC p1 m R):CX Try.prog 43 #[.agg #[.int .u8 aD,.int .u64 aE,.int .u64 aF,.int .u64 aG,.int .u64 aJ,.int .i64 aH,.int .i64 aI,.slice aB aA aC],.agg p1.toArray] m [] R:=
 Zad (E:=Zpm) ZaE mix Try.func43 [.v (.agg #[.int .u8 aD,.int .u64 aE,.int .u64 aF,.int .u64 aG,.int .u64 aJ,.int .i64 aH,.int .i64 aI,.slice aB aA aC]),.v (.agg p1.toArray)] [] (by kernel_rfl) (Eq.mp (by kernel_rfl) h)
noncomputable def Znq:Env:={ EB with
 loops:=(λi=>bif Nat.beq i 2 then⟨[(6,.int .i64)],[],[],false⟩ else⟨[],[],[],false⟩)
 frzNew:=[1]
 thaw:=true
 stAt:=(λi=>bif Nat.beq i 19 then some 999 else none)
 tails:=true
 lentC:=(λi=>bif Nat.beq i 14 then some []else none) }
def Zgi(aD aE aF aG aJ aH aI:Int)(aB:Option Addr)(aA aC:Nat)(m:Mem)(Y:Nat->Prop)(R:RTY):Prop:=
 ∀(b:Nat)(m':Mem),Mem.le m m'->Mem.reads m' b 0 [int u8 aD,int u64 aE,int u64 aF,int u64 aG,int u64 aJ,int i64 aH,int i64 aI,slice aB aA aC]->Mem.free m b->(∀(b' o:Nat) (u:
 Value),m' b' o=some u->m b' o=some u\/b'=b)->∃(I:IT),(∃(n:Nat),I [int i64 0] [] [] m' n)/\∀(n:Int)(m':Mem)(n_1:Nat),True->I [int i64 n] [] [] m' n_1->br (decide (n < (↑aA:Int))) (∃
 (b_1:Nat),∃(o:Nat),aB=some (Addr.mk b_1 o none)/\Zae n aA/\∃(v:Value),∃(v_1:Value),∃(v_2:Value),∃(v_3:Value),∃(v_4:Value),∃(v_5:Value),∃(v_6:Value),∃(v_7:Value),
 Mem.reads m' b_1 (o+Int.toNat n*8) [v,v_1,v_2,v_3,v_4,v_5,v_6,v_7]/\∃(Y_1:Nat->Prop),∃(R:Value->Mem->List (List Value)->List Value->Prop),CXY Try.prog 45 (Array.mk [agg (Array.mk [v,v_1,v_2,
 v_3,v_4,v_5,v_6,v_7])]) m' Y_1 [] [] R/\(∀(t:Tok),t∈[]->∀(b:Nat),Tok.blk t=some b->Y_1 b)/\(∀(b_2:Nat),Y_1 b_2->(∃(t:Tok),t∈[]/\Tok.blk t=some b_2)\/Mem.free (Mem.off m Y) b_2/\(∃(o
 : Nat),∃(v:Value),m' b_2 o=some v)/\b≠b_2/\True)/\(∀(v:Value)(m':Mem) (css:List (List Value)) (tvs:List Value),R v m' css tvs->Shape.fits (Shape.tup []) v=true)/\∀(m'_1:Mem),Mem.le
 (Mem.off m' Y_1) m'_1->(∀(b o:Nat)(u:Value),m'_1 b o=some u->m' b o=some u\/Y_1 b\/Mem.free m' b)->R (tuple (Array.mk [])) m'_1 [] []->∃(b_2:Nat),∃(o:Nat),aB=some (Addr.mk b_2 o none)/\
 Zae n aA/\(∃(vs:List Value),List.length vs=1/\Mem.reads m'_1 b_2 (o+Int.toNat n*8+0) vs)/\Mem.free (Mem.off m Y) b_2/\true=true/\b≠b_2/\[some (Box.mk b [int u8 aD,int u64 aE,int u64
 aF,int u64 aG,int u64 aJ,int i64 aH,int i64 aI,slice aB aA aC] 27 8 true true)]=[some (Box.mk b [int u8 aD,int u64 aE,int u64 aF,int u64 aG,int u64 aJ,int i64 aH,int i64 aI,
 slice aB aA aC] 27 8 true true)]/\∃(n':Nat),n' < n_1/\I [int i64 (IntKind.wrap i64 (n+(1:Int)))] [] [] (Mem.upd m'_1 b_2 (o+Int.toNat n*8+0) [int u8 77]) n') (R (tuple (Array.mk [])) m' [] [])
theorem Zju(aD aE aF aG aJ aH aI:Int)(aB:Option Addr)(aA aC:Nat)(m:Mem)(Y:Nat->Prop)(R:RTY)(h:Zgi aD aE aF aG aJ aH aI aB aA aC m Y R):CXY Try.prog 45 #[.agg #[.int .u8 aD,.int .u64 aE,.int .u64 aF,.int .u64 aG,.int .u64 aJ,.int .i64 aH,.int .i64 aI,.slice aB aA aC]] m Y [] [] R:=
 Zsf (E:=Znq) ZaE mix Try.func45 [.v (.agg #[.int .u8 aD,.int .u64 aE,.int .u64 aF,.int .u64 aG,.int .u64 aJ,.int .i64 aH,.int .i64 aI,.slice aB aA aC])] [] [] [] (by decide) (by kernel_rfl) (Eq.mp (by kernel_rfl) h)
end Go.Proofs.Ytfgfahnakepegaa
set_option linter.unusedVariables false
set_option linter.unusedSimpArgs false
set_option linter.unusedSectionVars false
namespace Go.Proofs.Ytfgfahnakepegaa
open Go Go.Eng Go.Rx Go.Proofs Go.RowKit
set_option maxRecDepth 100000
theorem Zgj{cs:List Value}{n:Nat}{v:Value}{K:Value->Prop}(hv:cs[n]?=some v)(h:K v):Eng.Zv0 cs n K:=Zar hv h
set_option maxHeartbeats 4000000 in
theorem Zzx:∀(t:T)(cs:List Value)(m:Mem),RefT m t cs->t.nodes.length<=100000->CX Try.prog 78 #[.agg cs.toArray] m [] (ZdM λt'=>t'.er=t.er/\t'.caps):=by
 intro t
 induction hN:SizeOf.sizeOf t using Nat.strongRecOn generalizing t with
 | ind N ih=>
 intro cs m hr hz
 obtain⟨bC,aU,a,cc,css,ecs,aR,bQ,bN⟩:=Za6.1 hr
 have bB:=Zcr t
 have sF:=ZbY t.subs
 have dS:cs[259]?=some (.slice a t.subs.length cc):=by rw[ecs];exact ZqU _ _ _ _ _ _ _
 have qJ:cs[257]?=some (.int .i64 t.mn):=by rw[ecs];exact Zxb _ _ _ _ _ _ _
 have lX:cs[258]?=some (.int .i64 t.mx):=by rw[ecs];exact Zxc _ _ _ _ _ _ _
 have zI:IntKind.u8.wrap t.k=t.k:=by
  have:=bC.k
  unfold IntKind.wrap
  simp[IntKind.signed,IntKind.bits]
  omega
 have v5:List.take 256 (List.drop 1 cs)=ZaH t.q:=by rw[ecs];exact Zlq _ _ _ _ _ _ _
 apply Znn
 unfold Zh1
 refine hr.chk λb m1 aM _ b1=>Zgj hr.at0 (Zaa rfl (Zgj qJ (Zgj lX (Zaa rfl (Zaa rfl λb2=>Zaa rfl (Zaa (by rw[hr.len];rfl) ?_))))))
 have e0:Zax (Zax [Value.int .u8 (IntKind.u8.wrap (intOf (.int .i64 t.k))),.int .u64 0,.int .u64 0,.int .u64 0,.int .u64 0,.int .i64 0,.int .i64 0,.slice none 0 0] 5 (Value.int .i64 t.mn).cells.toList) 6 (Value.int .i64 t.mx).cells.toList=wcs t.k t.q 0 t.mn t.mx:=by
  show[Value.int .u8 (IntKind.u8.wrap t.k),.int .u64 0,.int .u64 0,.int .u64 0,.int .u64 0,.int .i64 t.mn,.int .i64 t.mx,.slice none 0 0]=_
  unfold wcs
  rw[zI,Zq1,Zq1,Zq1,Zq1];rfl
 rw[e0]
 refine⟨λxs css' _ m' q=>∃i:Nat,i<=256/\xs=[.int .i64 i]/\css'=[wcs t.k t.q i t.mn t.mx]/\q=256 - i,⟨_,0,by omega,rfl,rfl,rfl⟩,?_⟩
 rintro z cs1 m2 q aP ⟨i,hi,aZ,v7,hq⟩
 obtain rfl:z=i:=by simpa using aZ
 obtain rfl:cs1=wcs t.k t.q i t.mn t.mx:=by simpa using v7
 subst hq
 have bY:=mLt aM aP
 refine ZbD (λaS=>?_) (λbM=>?_)
 ·have hi':i < 256:=by omega
  have kK:=Zy3 ⟨i,hi'⟩
  simp only at kK
  have pW:(ZaH t.q)[i]?=some (.int .i64 (ZrO t.q i)):=Zmn _ hi'
  have hw:IntKind.i64.wrap ((i:Int)+1)=((i+1:Nat):Int):=by rw[ZaB (by omega) (by omega)];rfl
  rw[v5,kK.1,kK.2,hw]
  simp only[Int.toNat_natCast]
  refine⟨⟨by omega,by omega⟩,Zgj pW ⟨by decide,⟨by omega,by omega⟩,Zgj (ZAl _ _ _ _ _ (by omega)) (Zaa rfl ⟨by decide,by omega,Zaa rfl ⟨⟨by omega,by omega⟩,Zaa ?_ ⟨by trivial,256 - (i+1),by omega,i+1,by omega,rfl,?_,rfl⟩⟩⟩)⟩⟩
  ·have:i / 64 < 4:=by omega
   rw[Nat.ble_eq];show _<=8;omega
  ·show[Zax _ _ [Value.int .u64 (IntKind.u64.wrap ((BitVec.ofInt 64 ((wP t.q i (i / 64):Nat):Int)|||BitVec.ofInt 64 (IntKind.u64.wrap (IntKind.u64.wrap (ZrO t.q i)*2 ^ min (i % 64) 64))).toNat:Int))]]=_
   have hp:=Zy4 t.q (j:=i / 64) hi'
   simp only[Int.toNat_natCast]at hp
   rw[hp,Zxl _ _ _ _ _ hi']
 ·have:i=256:=by omega
  subst this
  have zJ:wcs t.k t.q 256 t.mn t.mx=[.int .u8 t.k,.int .u64 t.s0,.int .u64 t.s1,.int .u64 t.s2,.int .u64 t.s3,.int .i64 t.mn,.int .i64 t.mx,.slice none 0 0]:=by
   have hq:=ZtV bC
   unfold wcs
   rw[Zvo (by decide) (ZfH hq 0),Zvo (by decide) (ZfH hq 1),Zvo (by decide) (ZfH hq 2),Zvo (by decide) (ZfH hq 3)];rfl
  rw[zJ]
  refine Zgj dS (Zaa rfl ⟨λxs css' tvs m' q=>∃(k:Nat)(O:List T)(a:Option Addr)(c:Nat),k<=t.subs.length/\O.length=k/\xs=[.int .i64 k]/\css'=[[.int .u8 t.k,.int .u64 t.s0,.int .u64 t.s1,.int .u64 t.s2,.int .u64 t.s3,.int .i64 t.mn,.int .i64 t.mx,.slice a k c]]/\tvs=[.slice a k c]/\rowRd m' a (Rx.ZcM O)/\(∀x∈O,Rep m' x/\x.caps)/\O.map T.er=(t.subs.take k).map T.er/\k<=c/\q=t.subs.length - k,⟨_,0,[],none,0,Nat.zero_le _,rfl,rfl,rfl,rfl,.inl rfl,by simp,rfl,Nat.le_refl _,rfl⟩,?_⟩)
  rintro z cs2 a2 n2 c2 m3 q aX ⟨k,O,a3,c3,hk,iN,aZ,cC,cA,dO,hO,jF,mG,hq⟩
  obtain rfl:z=k:=by simpa using aZ
  simp only[List.cons.injEq,Value.slice.injEq,and_true]at cA
  obtain⟨rfl,rfl,rfl⟩:=cA
  obtain rfl:cs2=[.int .u8 t.k,.int .u64 t.s0,.int .u64 t.s1,.int .u64 t.s2,.int .u64 t.s3,.int .i64 t.mn,.int .i64 t.mx,.slice a2 n2 c2]:=by simpa using cC
  subst hq
  have bT:=mLt bY aX
  refine ZbD (λaS=>Zaa rfl ?_) (λbM=>Zaa rfl ?_)
  ·have aQ:n2 < t.subs.length:=by simp only[slN]at aS;omega
   obtain⟨x,hx⟩:=Za7 aQ
   have cN:=List.mem_of_getElem? hx
   obtain⟨b0,o0,csx,rfl,bA,bX⟩:=Zcd aR bQ hx
   have aZ:=ZbL cN
   have iA:=Zdy cN
   have hw:IntKind.i64.wrap ((n2:Int)+1)=((n2+1:Nat):Int):=by rw[ZaB (by omega) (by omega)];rfl
   rw[hw]
   simp only[Int.toNat_natCast]
   refine⟨b0,o0,rfl,⟨by omega,by simp only[slN];omega⟩,csx,bX.len,bA.mono bT,λb4=>bX.chk1 ⟨λ_ _ _=>ZdM λt'=>t'.er=x.er/\t'.caps,Zgj (v:=.slice a2 n2 c2) rfl ⟨_,rfl,ih _ (by omega) x rfl csx m3 (bX.mono bT) (by omega),ZaF,ZbR λt' m4 bG hr' ht' b5 qR=>Zaa rfl ⟨.inl rfl,Rx.ZcM O,t'.cs,by rw[ZaN,iN];rfl,rfl,(dO.mono bG).mono (Mem.le_add qR _),ZpN,by have:=Zza [t'];simpa[Rx.ZcM]using this,by simp only[slN];omega,by simp only[slN];omega,λa7 c7 m7 cT eW lT=>Zaa rfl λM dP dY eZ jP=>⟨by trivial,t.subs.length - (n2+1),by omega,n2+1,O++[t'],a7,c7,by omega,by rw[List.length_append,iN];rfl,rfl,rfl,rfl,by rw[Zd6];exact eW.mono jP,?_,?_,by simpa[slN]using lT,rfl⟩⟩⟩⟩⟩
   ·intro y hy
    rcases List.mem_append.1 hy with hy|hy
    ·exact⟨(hO y hy).1.mono dP,(hO y hy).2⟩
    ·rw[List.mem_singleton]at hy;subst hy
     exact⟨hr'.mono dY,ht'.2⟩
   ·rw[List.map_append,jF,Zb8 hx,List.map_append]
    simp[ht'.1]
  ·have:n2=t.subs.length:=by simp only[slN]at bM;omega
   subst this
   rw[List.take_length]at jF
   have xx:=Zd7 dO (λx hx=>(hO x hx).1) (by omega)
   refine⟨m3,bT,Mem.le_refl _,.node t.k t.s0 t.s1 t.s2 t.s3 t.mn t.mx a2 c2 O,?_,ZyF xx.1 xx.2 bC,?_,ZgE (by omega) λx hx=>(hO x hx).2⟩
   ·simp only[T.v,T.k,T.s0,T.s1,T.s2,T.s3,T.mn,T.mx,T.a,T.c,T.subs,iN]
   ·have:=ZtF (k:=t.k) (s0:=t.s0) (s1:=t.s1) (s2:=t.s2) (s3:=t.s3) (mn:=t.mn) (mx:=t.mx) (a:=a2) (a':=t.a) (c:=c2) (c':=t.c) jF
    exact this.trans (by cases t;rfl)
theorem Zry(t:T)(m:Mem)(hr:Rep m t)(hz:t.nodes.length<=100000):CX Try.prog 38 #[t.v] m [] (ZdM λt'=>t'.er=t.er/\t'.caps):=by
 apply Zjt
 unfold Zfw
 intro b m1 aM _ b1
 refine Zag (ZmU t m1 (hr.mono aM) (by omega)) (λv _ _ ⟨_,h,_⟩=>by rw[h];rfl) ?_
 rintro cs m2 aP ⟨cs',e,cJ⟩
 simp only[Value.agg.injEq,Array.mk.injEq]at e
 subst e
 exact Zag (Zzx t _ m2 cJ hz) ZaF (ZbR λt' m3 aX hr' ht'=>⟨m3,mLt aM (mLt aP aX),Mem.le_refl _,t',rfl,hr',ht'⟩)
theorem Zrz(t u:T)(cs:List Value)(m:Mem)(hr:Rep m t)(hu:RefT m u cs)(hz:t.nodes.length<=1000):CX Try.prog 43 #[t.v,.agg cs.toArray] m [] (Ret (.bool (t.same u))):=by
 apply Znp
 unfold Zh2
 intro b m1 aM _
 refine hu.chk λb2 m2 aP _=>?_
 have bY:=mLt aM aP
 have iY:∀t:T,t.nodes.length<=1000000->∀m:Mem,Rep m t->RepW m t:=by
  intro t
  induction hN:SizeOf.sizeOf t using Nat.strongRecOn generalizing t with
  | ind N ih=>
  intro hz m hr
  obtain⟨h1,h2⟩:=Zhl hr
  have bB:=Zcr t
  refine Zmo.2 ⟨by omega,h2.imp id λ⟨b,o,e,k⟩=>⟨b,o,e,Zmp λi x hi=>?_⟩,ZwZ hr⟩
  have cN:=List.mem_of_getElem? hi
  have aZ:=ZbL cN
  exact⟨(k.get hi).1,ih _ (by have:=Zdy cN;omega) x rfl (by omega) m (k.get hi).2⟩
 have v8:ZtX t 1000=t.nodes.length:=by unfold ZtX;rw[if_pos (by omega)]
 have sI:=Zzp t 1000 m2 (iY t (by omega) m2 (hr.mono bY)) (by omega) (by omega)
 rw[v8]at sI
 refine⟨λi _ _=>bif Nat.beq i 1 then Ret (.int .i64 (t.nodes.length:Nat))else bif Nat.beq i 5 then Zuk t else Ret (.bool (t.same u)),_,rfl,sI,(λv _ _ e=>by rw[e];rfl),?_⟩
 intro n m3 aX hn
 obtain rfl:n=(t.nodes.length:Nat):=by have hn:Value.int .i64 n=.int .i64 (t.nodes.length:Nat):=hn;simpa using hn
 have bT:=mLt bY aX
 refine Zev (by simp;omega) ⟨_,rfl,ZmU t m3 (hr.mono bT) (by omega),Zbk,ZgW λcs4 m4 bG h4=>⟨_,rfl,Zuj t u cs4 cs m4 h4 (hu.mono (mLt bT bG)),(λv _ _ e=>by rw[e];rfl),?_⟩⟩
 intro bb m5 dA dI M dP dY eZ jP
 exact Zah (mLt bY dP) dI
theorem Zs5(t:T)(m:Mem)(hr:RepW m t):CX Try.prog 10 #[t.v] m [] (Ret (.bool (decide (t.nodes.length<=60)))):=by
 apply ZkN
 unfold Zgh
 intro b m1 aM _
 refine Zdh (Zzp t 60 m1 (hr.mono aM) (by omega) (by omega)) λm2 aP=>Zah (mLt aM aP) ?_
 show Value.bool _=Value.bool _
 congr 1
 rw[decide_eq_decide]
 unfold ZtX
 split <;> omega
def csK(k:Int)(y:T):List Value:=[.int .u8 k,.int .u64 y.s0,.int .u64 y.s1,.int .u64 y.s2,.int .u64 y.s3,.int .i64 y.mn,.int .i64 y.mx,.slice y.a y.subs.length y.c]
def KRep(m:Mem)(t:T):Prop:=∀x∈t.nodes,x.subs=[]\/∃b,x.a=some ⟨b,0,none⟩/\∀i y,x.subs[i]?=some y->∃k:Int,m.reads b (i*8) (csK k y)
def YT(t:T)(b:Nat):Prop:=∃x∈t.nodes,x.subs≠[]/\x.a=some ⟨b,0,none⟩
theorem KRep.upd{m:Mem}{t:T}(h:KRep m t)(b2 j:Nat):KRep (m.upd b2 (0+j*8+0) [.int .u8 77]) t:=by
 intro x hx
 refine(h x hx).imp id λ⟨b,e,hr⟩=>⟨b,e,λi y hi=>?_⟩
 obtain⟨k,hk⟩:=hr i y hi
 by_cases hb:b=b2/\i=j
 ·obtain⟨rfl,rfl⟩:=hb
  refine⟨77,λp v hp=>?_⟩
  unfold Mem.upd
  simp only[List.length_cons,List.length_nil,true_and]
  cases p with
  | zero=>
   rw[if_pos (by omega),show i*8+0 - (0+i*8+0)=0 by omega]
   exact hp
  | succ p=>
   rw[if_neg (by omega)]
   exact hk (p+1) v hp
 ·refine⟨k,λp v hp=>?_⟩
  have AO:p < 8:=(List.getElem?_eq_some_iff.1 hp).1
  unfold Mem.upd
  simp only[List.length_cons,List.length_nil]
  rw[if_neg (by rintro⟨rfl,h1,h2⟩;exact hb ⟨rfl,by omega⟩)]
  exact hk p v hp
theorem KRep.known{m:Mem}{t:T}(h:KRep m t){b:Nat}(hb:YT t b):∃o v,m b o=some v:=by
 obtain⟨x,hx,bS,e⟩:=hb
 rcases h x hx with h|⟨b',e',h⟩
 ·exact absurd h bS
 ·rw[e]at e'
  cases e'
  obtain⟨y,hy⟩:=Za7 (l:=x.subs) (k:=0) (by cases hs:x.subs with|nil=>exact absurd hs bS|cons _ _=>simp)
  obtain⟨k,hk⟩:=h 0 y hy
  exact⟨_,_,hk 0 _ rfl⟩
theorem ZwC{m m0:Mem}{t:T}(hr:Rep m t)(hn:NewT m0 t):KRep m t:=by
 intro x hx
 rcases hn x hx with h|⟨b,e,_⟩
 ·exact .inl h
 rcases(Zhl (Zl7 hr hx)).2 with h|⟨b',o',e',bQ⟩
 ·exact .inl h
 rw[e]at e'
 cases e'
 refine .inr ⟨b,e,λi y hi=>⟨y.k,?_⟩⟩
 have:=(bQ.get hi).1
 rwa [Nat.zero_add]at this
theorem ZrA:∀{t x y:T},x∈t.nodes->y∈x.subs->y∈t.nodes:=by
 intro t
 induction hN:SizeOf.sizeOf t using Nat.strongRecOn generalizing t with
 | ind N ih=>
 intro x y hx hy
 rw[ZbH]at hx ⊢
 rcases List.mem_cons.1 hx with rfl|hx
 ·refine List.mem_cons_of_mem _ ?_
  obtain⟨i,hi⟩:=List.getElem?_of_mem hy
  rw[Zdx hi]
  exact List.mem_append_right _ (List.mem_append_left _ (by rw[ZbH];exact List.mem_cons_self ..))
 ·refine List.mem_cons_of_mem _ ?_
  have key:∀l:List T,(∀z∈l,z∈t.subs)->x∈Zas l->y∈Zas l:=by
   intro l
   induction l with
   | nil=>intro _ h;simp[Zas]at h
   | cons z l ihl=>
    intro hm h
    simp only[Zas,List.mem_append]at h ⊢
    rcases h with h|h
    ·exact .inl (ih _ (by have:=Zdy (hm z (by simp));omega) rfl h hy)
    ·exact .inr (ihl (λw hw=>hm w (by simp[hw])) h)
  exact key t.subs (λ_ h=>h) hx
theorem ZrB(t0:T):∀(x:T),x∈t0.nodes->x.subs.length<=1000000->(∀y∈t0.nodes,y.subs.length<=1000000)->∀(k:Int)(m:Mem),KRep m t0->CXY Try.prog 45 #[.agg (csK k x).toArray] m (YT t0) [] [] (λv m' _ _=>v=.tuple #[]/\KRep m' t0):=by
 intro x
 induction hN:SizeOf.sizeOf x using Nat.strongRecOn generalizing x with
 | ind N ih=>
 intro hx hl aV k m hK
 apply Zju
 unfold Zgi
 intro b m1 aM _ xy xg
 have iW:∀b2,YT t0 b2->b≠b2:=λb2 h e=>by
  subst e
  obtain⟨o,v,hv⟩:=hK.known h
  rw[xy o]at hv;cases hv
 have ti:KRep m1 t0:=λy hy=>(hK y hy).imp id λ⟨b,e,h⟩=>⟨b,e,λi z hi=>by
  obtain⟨k,hk⟩:=h i z hi
  exact⟨k,hk.mono aM⟩⟩
 refine⟨λxs _ _ m' q=>∃i:Nat,i<=x.subs.length/\xs=[.int .i64 i]/\KRep m' t0/\q=x.subs.length - i,⟨_,0,Nat.zero_le _,rfl,ti,rfl⟩,?_⟩
 rintro z m2 q _ ⟨i,hi,aZ,qP,hq⟩
 obtain rfl:z=i:=by simpa using aZ
 subst hq
 refine ZbD (λaS=>?_) (λbM=>⟨rfl,qP⟩)
 have aQ:i < x.subs.length:=by omega
 obtain⟨y,hy⟩:=Za7 aQ
 have tj:=List.mem_of_getElem? hy
 have xz:=ZrA hx tj
 have bS:x.subs≠[]:=λe=>by rw[e]at aQ;simp at aQ
 obtain⟨bx,ex,bX⟩:=(qP x hx).resolve_left bS
 obtain⟨ky,xA⟩:=bX i y hy
 have xB:YT t0 bx:=⟨x,hx,bS,ex⟩
 have hw:IntKind.i64.wrap ((i:Int)+1)=((i+1:Nat):Int):=by rw[ZaB (by omega) (by omega)];rfl
 rw[hw]
 simp only[Int.toNat_natCast]
 refine⟨bx,0,ex,⟨by omega,by omega⟩,_,_,_,_,_,_,_,_,(by rw[Nat.zero_add];exact xA),YT t0,_,ih _ (by have:=Zdy tj;omega) y rfl xz (aV y xz) aV ky m2 qP,λt ht=>(by cases ht),λb2 h2=>.inr ⟨λo=>Mem.off_free h2 o,qP.known h2,iW b2 h2,trivial⟩,λv _ _ _ e=>by rw[e.1];rfl,?_⟩
 rintro m3 aX zK ⟨_,vB⟩
 obtain⟨bx',ex',wa⟩:=(vB x hx).resolve_left bS
 rw[ex]at ex'
 cases ex'
 obtain⟨ky',wc⟩:=wa i y hy
 exact⟨bx,0,ex,⟨by omega,by omega⟩,⟨[.int .u8 ky'],rfl,λp v hp=>by
  cases p with
  | zero=>have:=wc 0 _ rfl;rw[Nat.zero_add];simp at hp;rw[<-hp];exact this
  | succ p=>simp at hp⟩,λo=>Mem.off_free xB o,by trivial,iW bx xB,by trivial,x.subs.length - (i+1),by omega,i+1,aQ,rfl,vB.upd bx i,rfl⟩
end Go.Proofs.Ytfgfahnakepegaa
set_option linter.unusedVariables false
namespace Go.Proofs.Ytfgfahnakepegaa
open Go Go.Eng Go.Proofs Go.RowKit
open Go.Value (int slice agg bool string tuple func)
open Go.IntKind (u8 u64 i64)
set_option maxRecDepth 100000
noncomputable def ZvU:Env:={ EB with
 loops:=(λi=>bif Nat.beq i 3 then⟨[(3,.slice),(8,.int .i64)],[],[(17,8)],false⟩ else⟨[],[],[],false⟩)
 tokOf:=(λi=>bif Nat.beq i 17 then 17 else 0) }
def Zou(p0:ByteArray)(m:Mem)(R:RT):Prop:=
 ∀(b:Nat),∃(I:IT),(∃(n:Nat),I [slice none 0 0,int i64 0] [] [slice none 0 0] m n)/\∀(a:Option Addr)(n c:Nat)(ai:Int)(an:Option Addr)(ao ap:Nat)(m':Mem)(aq:Nat),Mem.le m m'->I [slice a
 n c,int i64 ai] [] [slice an ao ap] m' aq->br (decide (ai < if(10000:Int) < (↑(ByteArray.size p0):Int)then(10000:Int)else(↑(ByteArray.size p0):Int))) (Zae ai (ByteArray.size p0)/\∃(R:RT),True/\
 CX Try.prog 36 (Array.mk [int u8 (Zv5 p0 (Int.toNat ai))]) m' [] R/\Zat (shT) R/\∀(ab ac ad ae af ag ah:Int)(ak:Option Addr)(al am:Nat)(aa:Mem),Mem.le m' aa->R (agg (Array.mk [int u8 ab,int u64 ac,
 int u64 ad,int u64 ae,int u64 af,int i64 ag,int i64 ah,slice ak al am])) aa []->∀(aj:Nat),Mem.free aa aj->(Tok.mk (slice an ao ap) 8=Tok.mk (slice a n c) 8\/slice a n c=slice none 0 0\/c < n+1)/\∃
 (xs:List Value),∃(ys:List Value),List.length xs=n*8/\List.length ys=1*8/\rowRd (Mem.add aa aj [int u8 ab,int u64 ac,int u64 ad,int u64 ae,int u64 af,int i64 ag,int i64 ah,slice ak al am]) a xs/\
 rowRd (Mem.add aa aj [int u8 ab,int u64 ac,int u64 ad,int u64 ae,int u64 af,int i64 ag,int i64 ah,slice ak al am]) (some (Addr.mk aj 0 none)) ys/\(∀(u:Value),u∈ys->Value.oneCell' u=true)/\(n+1)*80
 <= 140737488355328/\n+1<=9223372036854775807/\∀(a':Option Addr)(c':Nat)(m':Mem),Mem.le (Mem.add aa aj [int u8 ab,int u64 ac,int u64 ad,int u64 ae,int u64 af,int i64 ag,int i64 ah,slice ak al am]) m'
 -> rowRd m' a' (List.append xs ys)->[some (Box.mk b [int u8 0,int u64 0,int u64 0,int u64 0,int u64 0,int i64 0,int i64 0,slice none 0 0] 27 8 false true)]=[some (Box.mk b [int u8 0,int u64 0,int u64 0,int
 u64 0,int u64 0,int i64 0,int i64 0,slice none 0 0] 27 8 false true)]/\∃(n':Nat),n' < aq/\I [slice a' (n+1) c',int i64 (IntKind.wrap i64 (ai+(1:Int)))] [] [slice a' (n+1) c'] m' n') (∃(R_1:RT),
 True/\CX Try.prog 47 (Array.mk [int u8 3,slice a n c,agg (Array.mk [int u8 1,int u64 0,int u64 0,int u64 0,int u64 0,int i64 0,int i64 0,slice none 0 0])]) m' [] R_1/\Zat (shT) R_1/\∀(n ab ac ad ae af ag:
 Int) (a:Option Addr) (ah c:Nat) (aa:Mem),Mem.le m' aa->R_1 (agg (Array.mk [int u8 n,int u64 ab,int u64 ac,int u64 ad,int u64 ae,int i64 af,int i64 ag,slice a ah c])) aa []->∃(m'':Mem),Mem.le m m''/\
 Mem.le m'' aa/\R (agg (Array.mk [int u8 n,int u64 ab,int u64 ac,int u64 ad,int u64 ae,int i64 af,int i64 ag,slice a ah c])) m'' [])
theorem Zs6(p0:ByteArray)(m:Mem)(R:RT)(h:Zou p0 m R):CX Try.prog 14 #[.string p0] m [] R:=
 Zad (E:=ZvU) ZaE mix Try.func14 [.v (.string p0)] [] (by kernel_rfl) (Eq.mp (by kernel_rfl) h)
noncomputable def Zpn:Env:={ EB with
 loops:=(λi=>bif Nat.beq i 3 then⟨[(3,.slice),(8,.int .i64)],[],[(16,8)],false⟩ else⟨[],[],[],false⟩)
 tokOf:=(λi=>bif Nat.beq i 16 then 16 else 0) }
def Zh3(p0a:Option Addr)(p0n p0c:Nat)(m:Mem)(R:RT):Prop:=
 ∀(b:Nat),∃(I:IT),(∃(n:Nat),I [slice none 0 0,int i64 0] [] [slice none 0 0] m n)/\∀(a:Option Addr)(n c:Nat)(ai:Int)(an:Option Addr)(ao ap:Nat)(m':Mem)(aq:Nat),Mem.le m m'->I [slice a
 n c,int i64 ai] [] [slice an ao ap] m' aq->br (decide (ai < (↑p0n:Int))) (∃(ar:Nat),∃(o:Nat),p0a=some (Addr.mk ar o none)/\Zae ai p0n/\∃(v:Value),m' ar (o+Int.toNat ai*1)=some v/\∃(R:
 RT),True/\CX Try.prog 14 (Array.mk [v]) m' [] R/\Zat (shT) R/\∀(ab ac ad ae af ag ah:Int)(ak:Option Addr)(al am:Nat)(aa:Mem),Mem.le m' aa->R (agg (Array.mk [int u8 ab,int u64 ac,int u64 ad,int u64
 ae,int u64 af,int i64 ag,int i64 ah,slice ak al am])) aa []->∀(aj:Nat),Mem.free aa aj->(Tok.mk (slice an ao ap) 8=Tok.mk (slice a n c) 8\/slice a n c=slice none 0 0\/c < n+1)/\∃(xs:List Value),∃
 (ys:List Value),List.length xs=n*8/\List.length ys=1*8/\rowRd (Mem.add aa aj [int u8 ab,int u64 ac,int u64 ad,int u64 ae,int u64 af,int i64 ag,int i64 ah,slice ak al am]) a xs/\rowRd (Mem.add aa aj
 [int u8 ab,int u64 ac,int u64 ad,int u64 ae,int u64 af,int i64 ag,int i64 ah,slice ak al am]) (some (Addr.mk aj 0 none)) ys/\(∀(u:Value),u∈ys->Value.oneCell' u=true)/\(n+1)*80<=140737488355328/\n
 + 1<=9223372036854775807/\∀(a':Option Addr)(c':Nat)(m':Mem),Mem.le (Mem.add aa aj [int u8 ab,int u64 ac,int u64 ad,int u64 ae,int u64 af,int i64 ag,int i64 ah,slice ak al am]) m'->rowRd m' a'
 (List.append xs ys)->[some (Box.mk b [int u8 0,int u64 0,int u64 0,int u64 0,int u64 0,int i64 0,int i64 0,slice none 0 0] 27 8 false true)]=[some (Box.mk b [int u8 0,int u64 0,int u64 0,int u64 0,int u64
 0,int i64 0,int i64 0,slice none 0 0] 27 8 false true)]/\∃(n':Nat),n' < aq/\I [slice a' (n+1) c',int i64 (IntKind.wrap i64 (ai+(1:Int)))] [] [slice a' (n+1) c'] m' n') (∃(R_1:RT),True/\CX Try.prog
 16 (Array.mk [slice a n c]) m' [] R_1/\Zat (shT) R_1/\∀(n ab ac ad ae af ag:Int)(a:Option Addr)(ah c:Nat)(aa:Mem),Mem.le m' aa->R_1 (agg (Array.mk [int u8 n,int u64 ab,int u64 ac,int u64 ad,int u64
 ae,int i64 af,int i64 ag,slice a ah c])) aa []->∃(m'':Mem),Mem.le m m''/\Mem.le m'' aa/\R (agg (Array.mk [int u8 n,int u64 ab,int u64 ac,int u64 ad,int u64 ae,int i64 af,int i64 ag,slice a ah c])) m''
 [])
theorem Znr(p0a:Option Addr)(p0n p0c:Nat)(m:Mem)(R:RT)(h:Zh3 p0a p0n p0c m R):CX Try.prog 46 #[.slice p0a p0n p0c] m [] R:=
 Zad (E:=Zpn) ZaE mix Try.func46 [.v (.slice p0a p0n p0c)] [] (by kernel_rfl) (Eq.mp (by kernel_rfl) h)
end Go.Proofs.Ytfgfahnakepegaa
set_option linter.unusedVariables false
set_option linter.unusedSimpArgs false
set_option linter.unusedSectionVars false
namespace Go.Proofs.Ytfgfahnakepegaa
open Go Go.Eng Go.Rx Go.Proofs Go.RowKit
set_option maxRecDepth 100000
def Zc8(s:ByteArray):List Nat:=s.data.toList.map λb=>b.toNat
theorem Zs7(s:ByteArray):(Zc8 s).length=s.size:=by unfold Zc8;rw[List.length_map,Array.length_toList];rfl
theorem Zns(s:ByteArray):∀c∈Zc8 s,c < 256:=by
 intro c hc
 unfold Zc8 at hc
 obtain⟨b,_,rfl⟩:=List.mem_map.1 hc
 exact b.toBitVec.isLt
theorem ZxM{s:ByteArray}{k c:Nat}(h:(Zc8 s)[k]?=some c):Zv5 s k=(c:Int):=by
 unfold Zc8 at h
 rw[List.getElem?_map]at h
 obtain⟨b,hb,rfl⟩:=Option.map_eq_some_iff.1 h
 unfold Zv5
 rw[List.getD_eq_getElem?_getD,hb];rfl
theorem Zpo:∀c:Fin 256,(Zao c.val).good=true:=by decide +kernel
theorem ZrC{c:Nat}(h:c < 256):(Zao c).good=true:=Zpo ⟨c,h⟩
def Zee(l:List Nat):T:=(ZcR 3 none 0 (l.map Zao)).er
theorem Zh4:∀l:List Nat,szL (l.map Zao)=l.length
 | []=>rfl
 | c::l=>by
  rw[List.map_cons,Zbo,Zh4 l,List.length_cons]
  have:(Zao c).nodes.length=1:=rfl
  omega
theorem ZlE{l:List Nat}(h:∀c∈l,c < 256):∀x∈l.map Zao,Okk 3 x:=by
 intro x hx
 obtain⟨c,hc,rfl⟩:=List.mem_map.1 hx
 exact⟨ZrC (h c hc),by show(2:Int)≠3;omega,λ_=>by show(2:Int)≠1;omega⟩
theorem Zzy(s:ByteArray)(hs:(Zc8 s).length<=9000)(m:Mem):CX Try.prog 14 #[.string s] m [] (ZdM (λt=>t.er=Zee (Zc8 s)/\t.caps)):=by
 apply Zs6
 unfold Zou
 intro b
 have aU:=Zs7 s
 have bB:(if(10000:Int) < (s.size:Int)then(10000:Int)else(s.size:Int))=(s.size:Nat):=by rw[if_neg (by omega)]
 simp only[bB]
 refine⟨λxs css tvs m' q=>∃(k:Nat)(a:Option Addr)(c:Nat),k<=s.size/\xs=[.slice a k c,.int .i64 k]/\tvs=[.slice a k c]/\RepL m' a (((Zc8 s).take k).map Zao)/\q=s.size - k,⟨_,0,none,0,by omega,rfl,rfl,⟨by simp,.inl rfl⟩,rfl⟩,?_⟩
 rintro a0 n0 c0 i0 a n c m1 q aM ⟨k,a',c',hk,aZ,cA,hL,hq⟩
 simp only[List.cons.injEq,Value.slice.injEq,Value.int.injEq,true_and,and_true]at aZ cA
 obtain⟨⟨rfl,rfl,rfl⟩,rfl⟩:=aZ
 obtain⟨rfl,rfl,rfl⟩:=cA
 refine Zab (λaS=>?_) (λbM=>?_)
 ·have aQ:n < s.size:=by have:=of_decide_eq_true aS;omega
  obtain⟨ch,wd⟩:=Zca (l:=Zc8 s) (k:=n) (by omega)
  have sJ:=Zns s ch (List.mem_of_getElem? wd)
  have bQ:Zv5 s ((n:Int).toNat)=(ch:Int):=ZxM wd
  refine⟨⟨by omega,by omega⟩,?_⟩
  rw[bQ]
  refine Zag (Zww ch sJ m1) ZaF (ZbR λt m2 aP hr ht=>?_)
  subst ht
  intro b3 sC
  have uO:(((Zc8 s).take n).map Zao).length=n:=by rw[List.length_map,List.length_take];omega
  have hw:IntKind.i64.wrap ((n:Int)+1)=((n+1:Nat):Int):=by rw[ZaB (by omega) (by omega)];rfl
  rw[hw]
  have bE:=Mem.le_add sC (Zao ch).cs
  refine⟨.inl rfl,Rx.ZcM (((Zc8 s).take n).map Zao),(Zao ch).cs,by rw[ZaN,uO],rfl,(ZaL hL).mono (mLt aP bE),.inr ⟨b3,0,rfl,λj v hj=>by rw[Nat.zero_add,Mem.add_same];exact hj⟩,Zzm _,by omega,by omega,λa2 c2 m3 aX fL=>⟨by trivial,s.size - (n+1),by omega,n+1,a2,c2,by omega,rfl,rfl,?_,rfl⟩⟩
  have aV:((Zc8 s).take (n+1)).map Zao=((Zc8 s).take n).map Zao++[Zao ch]:=by rw[Zb8 wd,List.map_append];rfl
  rw[aV]
  refine Zd7 ?_ ?_ (by rw[List.length_append,uO];simp;omega)
  ·rw[Zcv,Zrb];exact fL
  ·intro x hx
   rcases List.mem_append.1 hx with hx|hx
   ·exact(ZbN hL x hx).mono (mLt aP (mLt bE aX))
   ·rw[List.mem_singleton]at hx;subst hx;exact ZnX _ _
 ·have hn:n=s.size:=by have:=of_decide_eq_false bM;omega
  subst hn
  rw[<-aU,List.take_length]at hL
  have xC:=Zvy 3 (.inl rfl) a c ((Zc8 s).map Zao) T1 m1 hL (Zu8 _) (by rw[List.length_map];omega) rfl
  rw[List.length_map,aU]at xC
  refine Zag xC ZaF (ZbR λt m2 aP hr ht=>?_)
  exact⟨m2,mLt aM aP,Mem.le_refl _,t,rfl,hr,ZtI (.inl rfl) (ZlE (Zns s)) (by rw[Zh4];omega) (λ_=>rfl) ht,Zdc Zlm ht⟩
theorem Zs8{l:List Nat}(h:∀c∈l,c < 256):(Zee l).good=true/\(Zee l).nodes.length<=1+l.length:=by
 have hm:=ZgD (.inl rfl) none 0 (ZlE h)
 unfold Zee
 rw[Zcw,Zfh]
 refine⟨hm.1,?_⟩
 have:=hm.2.1
 rw[Zh4]at this
 omega
theorem ZxN(ws:List ByteArray)(a:Option Addr)(c:Nat)(m:Mem)(hw:rowRd m a (ws.map Value.string))(hn:ws.length<=20)(hs:∀s∈ws,(Zc8 s).length<=100)(bS:ws≠[]):CX Try.prog 46 #[.slice a ws.length c] m [] (ZdM (λt=>t.er=Zeq (ws.map λs=>Zee (Zc8 s))/\t.caps)):=by
 apply Znr
 unfold Zh3
 intro b
 refine⟨λxs css tvs m' q=>∃(L:List T)(a:Option Addr)(c:Nat),L.length<=ws.length/\xs=[.slice a L.length c,.int .i64 (L.length:Nat)]/\tvs=[.slice a L.length c]/\RepL m' a L/\L.map T.er=(ws.take L.length).map (λs=>Zee (Zc8 s))/\q=ws.length - L.length,⟨_,[],none,0,by simp,rfl,rfl,⟨by simp,.inl rfl⟩,rfl,rfl⟩,?_⟩
 rintro a0 n0 c0 i0 aa n cc m1 q aM ⟨L,a',c',hk,aZ,cA,hL,eV,hq⟩
 simp only[List.cons.injEq,Value.slice.injEq,Value.int.injEq,true_and,and_true]at aZ cA
 obtain⟨⟨rfl,rfl,rfl⟩,rfl⟩:=aZ
 obtain⟨rfl,rfl,rfl⟩:=cA
 have lZ:∀s:ByteArray,∀c∈Zc8 s,c < 256:=λs=>Zns s
 refine Zab (λaS=>?_) (λbM=>?_)
 ·have aQ:L.length < ws.length:=by have:=of_decide_eq_true aS;omega
  obtain⟨s,we⟩:=Zca aQ
  have gR:=List.mem_of_getElem? we
  rcases hw.mono aM with zL|⟨bw,ow,zM,iY⟩
  ·have:=congrArg List.length zL
   rw[List.length_map]at this
   simp only[List.length_nil]at this
   omega
  have hv:m1 bw (ow+L.length)=some (.string s):=iY _ _ (by rw[List.getElem?_map,we];rfl)
  refine⟨bw,ow,zM,⟨by omega,by omega⟩,.string s,by rw[Int.toNat_natCast,Nat.mul_one];exact hv,?_⟩
  refine Zag (Zzy s (by have:=hs s gR;omega) m1) ZaF (ZbR λt m2 aP hr ⟨ht,fR⟩=>?_)
  intro b3 sC
  have mK:IntKind.i64.wrap ((L.length:Int)+1)=((L.length+1:Nat):Int):=by rw[ZaB (by omega) (by omega)];rfl
  rw[mK]
  have bE:=Mem.le_add sC t.cs
  refine⟨.inl rfl,Rx.ZcM L,t.cs,ZaN L,rfl,(ZaL hL).mono (mLt aP bE),.inr ⟨b3,0,rfl,λj v hj=>by rw[Nat.zero_add,Mem.add_same];exact hj⟩,Zzm _,by omega,by omega,λa2 c2 m3 aX fL=>⟨by trivial,ws.length - (L.length+1),by omega,L++[t],a2,c2,by simp;omega,by simp,by simp,?_,?_,by simp⟩⟩
  ·refine Zd7 ?_ ?_ (by simp;omega)
   ·rw[Zcv,Zrb];exact fL
   ·intro x hx
    rcases List.mem_append.1 hx with hx|hx
    ·exact(ZbN hL x hx).mono (mLt aP (mLt bE aX))
    ·rw[List.mem_singleton]at hx;subst hx;exact hr.mono (mLt bE aX)
  ·rw[show(L++[t]).length=L.length+1 by simp,Zb8 we,List.map_append,List.map_append,eV,List.map_cons,List.map_nil,ht];rfl
 ·have hn':L.length=ws.length:=by have:=of_decide_eq_false bM;omega
  rw[hn',List.take_length]at eV
  have iQ:∀x∈L,x.good=true/\x.nodes.length<=101:=by
   intro x hx
   have:x.er∈L.map T.er:=List.mem_map_of_mem hx
   rw[eV]at this
   obtain⟨s,zN,jJ⟩:=List.mem_map.1 this
   have hg:=Zs8 (lZ s)
   rw[jJ,Zcw,Zfh]at hg
   have:=hs s zN
   exact⟨hg.1,by omega⟩
  have zO:szL L<=101*L.length:=by
   clear hL eV hn' bM hq hk
   induction L with
   | nil=>simp[szL,Zas]
   | cons x L ih=>
    have h1:=(iQ x (by simp)).2
    have h2:=ih λy hy=>iQ y (by simp[hy])
    rw[Zbo,List.length_cons];omega
  refine Zag (Zz0 L aa cc m1 hL (by omega) (λx hx=>Zbg (iQ x hx).1 (by have:=(iQ x hx).2;omega))) ZaF (ZbR λt m2 aP hr ⟨ja,jc,hj⟩=>?_)
  have vn:L≠[]:=λe=>by
   subst e
   simp at hn'
   exact bS (List.length_eq_zero_iff.1 hn'.symm)
  refine⟨m2,mLt aM aP,Mem.le_refl _,t,rfl,hr,?_,Zdc ZiM hj⟩
  rw[ZqI (λx hx=>(iQ x hx).1) vn (by omega) hj,Zln,eV]
end Go.Proofs.Ytfgfahnakepegaa
set_option linter.unusedVariables false
set_option linter.unusedSimpArgs false
set_option linter.unusedSectionVars false
namespace Go.Proofs.Ytfgfahnakepegaa
open Go Go.Eng Go.Rx Go.Proofs Go.RowKit
set_option maxRecDepth 100000
mutual
theorem Zup:∀t u:T,t.er.same u.er=t.same u
 | .node k s0 s1 s2 s3 mn mx a c l,.node k' s0' s1' s2' s3' mn' mx' a' c' l'=>by
  simp only[T.er,T.same,Zuq l l']
theorem Zuq:∀l r:List T,Zd4 (erL l) (erL r)=Zd4 l r
 | [],[]=>rfl
 | [],_::_=>rfl
 | _::_,[]=>rfl
 | t::l,u::r=>by simp only[erL,Zd4,Zup t u,Zuq l r]
end
theorem ZjR(t:T):t.er.light=t.light:=by unfold T.light;rw[Zfh]
theorem ZtE(t:T):t.er.clean=t.clean:=by
 show(t.er.light&&t.er.good)=(t.light&&t.good)
 rw[ZjR,Zcw]
theorem ZxO(t:T):T.rgt t.er=T.rgt t:=by
 rw[Bool.eq_iff_iff,ZeJ,ZeJ,Zcw,Zfh]
theorem ZxP{t:T}{c:C4}(h:c∈t.cuts):Zfl t.er c=Zfl t c:=by
 unfold Zfl
 rw[ZpJ t 0 (ZdR h),Zfh]
theorem ZrD(t:T):ZaM t.er=ZaM t:=ZjY (Zd8 t)
def IsE(E:T):Value->Mem->List (List Value)->Prop:=ZdM λt=>t.er=E/\t.caps
theorem Zgk(c:Nat)(hc:c < 256)(m:Mem):CX Try.prog 36 #[.int .u8 (c:Nat)] m [] (IsE (Zao c)):=
 (Zww c hc m).mono λv m' css _ ⟨t,h1,h2,h3⟩=>⟨t,h1,h2,by subst h3;exact⟨rfl,ZgE (by simp) (by simp)⟩⟩
theorem Zur{L E:List T}(hE:L.map T.er=E)(hg:E.all T.good=true):∀x∈L,x.good=true:=by
 intro x hx
 have:x.er∈E:=by rw[<-hE];exact List.mem_map_of_mem hx
 have:=List.all_eq_true.1 hg _ this
 rwa [Zcw]at this
theorem Zus:∀L:List T,szL (L.map T.er)=szL L
 | []=>rfl
 | x::L=>by rw[List.map_cons,Zbo,Zbo,Zfh,Zus L]
theorem ZkP(L E:List T)(a:Option Addr)(c:Nat)(m:Mem)(hL:RepL m a L)(hE:L.map T.er=E)(hg:E.all T.good=true)(hs:szL E<=900):CX Try.prog 15 #[.slice a L.length c] m [] (IsE (Zkc E)):=by
 have jO:=Zur hE hg
 have bB:szL L<=900:=by rw[<-Zus,hE];exact hs
 have aU:=ZbY L
 refine(Zvz L a c m hL (by omega) λx hx=>Zbg (jO x hx) (by have:=ZbL hx;omega)).mono ?_
 rintro v m' css _ ⟨t,h1,h2,ja,jc,hj⟩
 refine⟨t,h1,h2,?_,Zdc Zlm hj⟩
 rw[Zmd jO (by omega) hj,ZqL,hE]
theorem ZwD(L E:List T)(a:Option Addr)(c:Nat)(m:Mem)(hL:RepL m a L)(hE:L.map T.er=E)(hg:E.all T.good=true)(hs:szL E<=900)(bS:L≠[]):CX Try.prog 16 #[.slice a L.length c] m [] (IsE (Zeq E)):=by
 have jO:=Zur hE hg
 have bB:szL L<=900:=by rw[<-Zus,hE];exact hs
 have aU:=ZbY L
 refine(Zz0 L a c m hL (by omega) λx hx=>Zbg (jO x hx) (by have:=ZbL hx;omega)).mono ?_
 rintro v m' css _ ⟨t,h1,h2,ja,jc,hj⟩
 refine⟨t,h1,h2,?_,Zdc ZiM hj⟩
 rw[ZqI jO bS (by omega) hj,Zln,hE]
def ZA7(E:T):T:=Zb5 6 0 0 none 0 [E]
theorem ZvV(t E:T)(m:Mem)(hr:Rep m t)(hE:t.er=E)(hg:E.good=true)(hs:E.nodes.length<=900):CX Try.prog 22 #[t.v] m [] (IsE (ZA7 E)):=by
 refine(ZsL t m hr).mono ?_
 rintro v m' css _ ⟨t',h1,h2,ja,jc,hj⟩
 refine⟨t',h1,h2,?_,hj.2⟩
 have gH:t.good=true:=by rw[<-Zcw,hE];exact hg
 have cM:t.nodes.length<=900:=by rw[<-Zfh,hE];exact hs
 have hc:(Zb5 6 0 0 ja jc [t]).clean=true:=Zbg (ZpH gH) (by rw[Zcr];show 1+szL [t]<=10000;rw[ZdN];omega)
 rw[Ze4 hj hc]
 show Zb5 6 0 0 none 0 [t.er]=_
 rw[hE];rfl
theorem Zef(ws:List ByteArray)(E:List T)(a:Option Addr)(c:Nat)(m:Mem)(hw:rowRd m a (ws.map Value.string))(hn:ws.length<=20)(hs:(ws.all λs=>Nat.ble (Zc8 s).length 100)=true)(bS:ws≠[])(hE:(ws.map λs=>Zee (Zc8 s))=E):CX Try.prog 46 #[.slice a ws.length c] m [] (IsE (Zeq E)):=by
 subst hE
 exact ZxN ws a c m hw hn (λs hs'=>Nat.le_of_ble_eq_true (List.all_eq_true.1 hs s hs')) bS
theorem Zeg{m:Mem}{b:Nat}{cs:List Value}:rowRd (m.add b cs) (some ⟨b,0,none⟩) cs:=.inr ⟨b,0,rfl,λj v hj=>by rw[Nat.zero_add,Mem.add_same];exact hj⟩
theorem ZgY{E:T}{m:Mem}{K:TRK}(k:∀(t:T)(m':Mem),m.le m'->Rep m' t->t.er=E->t.caps->K t.k t.s0 t.s1 t.s2 t.s3 t.mn t.mx t.a t.subs.length t.c m'):
  ∀(n0 n1 n2 n3 n4 n5 n6:Int)(a:Option Addr)(n c:Nat)(m':Mem),m.le m'->IsE E (.agg #[.int .u8 n0,.int .u64 n1,.int .u64 n2,.int .u64 n3,.int .u64 n4,.int .i64 n5,.int .i64 n6,.slice a n c]) m' []->K n0 n1 n2 n3 n4 n5 n6 a n c m':=
 ZbR λt m' hm hr ⟨h1,h2⟩=>k t m' hm hr h1 h2
theorem ZaW{E:T}:∀(v:Value)(m':Mem) (css:List (List Value)),IsE E v m' css->Shape.fits (.agg [.int .u8,.int .u64,.int .u64,.int .u64,.int .u64,.int .i64,.int .i64,.slice]) v=true:=ZaF
end Go.Proofs.Ytfgfahnakepegaa
