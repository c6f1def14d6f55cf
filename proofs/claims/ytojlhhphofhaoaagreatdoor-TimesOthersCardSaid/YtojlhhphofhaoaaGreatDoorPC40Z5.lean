/- Part of the proof: functions of the program. No condition. -/
import Derived.Test.YtojlhhphofhaoaaGreatDoorPC40G
import Derived.Test.YtojlhhphofhaoaaGreatDoorPVEN
import Derived.Test.YtojlhhphofhaoaaGreatDoorPC25MA
import Derived.Test.YtojlhhphofhaoaaGreatDoorMr
import Derived.Test.YtojlhhphofhaoaaGreatDoorPEnv
import Derived.Test.YtojlhhphofhaoaaGreatDoorPC40C
import Derived.Test.YtojlhhphofhaoaaGreatDoorMc
import Derived.Test.YtojlhhphofhaoaaGreatDoorRows
import Derived.Deep.Slices
import Derived.Laws.IdiomArrays
import Derived.SizedLaws
import Derived.Test.YtojlhhphofhaoaaGreatDoorCards
import Derived.Test.YtojlhhphofhaoaaGreatDoorTie
import Derived.LaidMore
import Derived.Lay
import Derived.SevenTiedAt
import Derived.OpenShut
import Derived.ProofKit
import Derived.Carry
set_option linter.unusedVariables false
set_option linter.unusedSimpArgs false
set_option linter.unusedSectionVars false
namespace Go.Proofs.YtojlhhphofhaoaaGreatDoor
open Go Go.Eng Go.Rx Go.Proofs Go.RowKit
set_option maxRecDepth 100000
theorem Zz4(a b:Int):EqIs Tryz.prog 3 (.int .i64 a) (.int .i64 b) (decide (a=b)):=Zvx Tryz.underlying3 (by simp[Instr.sameNow];rfl) (λop ox oy w=>by cases op <;> simp[eqGuard])
def ZAB(s:Sc)(L:List Nat):Value->Mem->List (List Value)->Prop:=λv m' _=>∃k:Sc,v=.tuple #[k.v,.int .i64 0]/\k.n=s.n/\k.vars=s.vars/\k.states.map (λx=>some x.er)=L.map (λi=>(s.states[i]?).map Sta.er)/\RepC m' k
theorem Zuk{s:Sc}{L:List Nat}:∀(v:Value)(m':Mem) (css:List (List Value)),ZAB s L v m' css->Shape.fits (.tup [.agg [.int .i64,.slice,.slice],.int .i64]) v=true:=λv _ _ ⟨t,e,_⟩=>by rw[e];rfl
set_option maxHeartbeats 1000000 in
theorem ZyG(s:Sc)(L:List Nat)(la:Option Addr)(lc:Nat)(m:Mem)(hr:RepC m s)(hl:s.light=true)(aM:rowRd m la (L.map λi:Nat=>Value.int .i64 i))(hL:∀i∈L,i < s.states.length)(hn:L.Nodup)(aZ:L.length<=1000):CX Tryz.prog 14 #[s.v,.slice la L.length lc] m [] (ZAB s L):=by
 have fX:s.states.length<=100000:=hr.len
 apply ZpI
 intro b m1 aB _ _ _ _ b1
 have pn:=ZfB s m1 (hr.mono aB)
 rw[hl]at pn
 refine Zah pn λm2 aN=>ZdK rfl ?_
 have dH:=mLt aB aN
 refine Zai (Zvm s m2 (hr.mono dH) hl) Zsj ?_
 rintro n a p c a1 p1 c1 m3 aX ⟨s',hv,nF,kQ,_⟩ b2 b3 bm wO dI
 obtain⟨rfl,rfl,rfl,rfl,rfl,rfl,rfl⟩:=ZyF hv
 have eM:=kQ.mono (ZrJ m2 m3)
 have cV:=mLt dH aX
 have iA:m.k bm=none:=Zke cV dI
 have mw:=ZxZ nF
 obtain⟨sF,jK⟩:=Zu2 nF
 refine⟨λxs css tvs mm q=>∃(i:Nat)(K:List Sta)(ka:Option Addr)(kc:Nat),i<=L.length/\K.length=i/\xs=[.int .i64 i]/\css=[[.int .i64 0,.slice none 0 0,.slice none 0 0],[.int .i64 s'.n,.slice s'.va s'.vars.length s'.vc,.slice ka K.length kc]]/\tvs=[.slice ka K.length kc]/\m3.le mm/\mm.k bm=some (ZyR (λz:Nat=>Value.int .i64 z) (λ_:Unit=>Value.agg (Array.mk [])) ((L.take i).map λz=>(z,())))/\K.map (λx=>some x.er)=(L.take i).map (λi=>(s.states[i]?).map Sta.er)/\K.length<=kc/\rowRd mm ka (K.map Sta.cs).flatten/\(∀x∈K,RepS m3 x)/\q=L.length - i,⟨L.length,0,[],none,0,by omega,rfl,rfl,rfl,rfl,Mem.le_updK (Mem.le_refl _) dI _,Mem.updK_same _ _ _,rfl,Nat.le_refl _,.inl rfl,(λx hx=>by cases hx),rfl⟩,?_⟩
 rintro z cs0 cs1 ka kn kc mm q _ ⟨i,K,ka',kc',hi,wP,hz,cK,cY,hM,hk,sG,wQ,um,uo,rfl⟩
 obtain rfl:z=i:=by simpa using hz
 obtain⟨rfl,rfl⟩:cs0=_/\cs1=_:=by simpa using cK
 simp only[List.cons.injEq,Value.slice.injEq,and_true]at cY
 obtain⟨rfl,rfl,rfl⟩:=cY
 have li:IntKind.i64.wrap ((i:Int)+1)=((i+1:Nat):Int):=by rw[Zam (by omega) (by omega)];rfl
 have qt:=mLt cV hM
 refine Zau (λaO=>?_) (λbM=>Zaa rfl (ZaJ qt ?_))
 ·have aO:(i:Int) < (L.length:Nat):=aO
  obtain⟨l,j1⟩:=ZcG (show i < L.length by omega)
  have wT:=zA2 j1
  have j2:=hL l wT
  obtain⟨b4,o4,nq,tT⟩:=ZBc (aM.mono qt) (show(L.map λi:Nat=>Value.int .i64 i)[i]?=some (.int .i64 l) by rw[List.getElem?_map,j1];rfl)
  have ji:l ∉ ((L.take i).map λz=>(z,())).map (·.1):=by
   rw[List.map_map]
   intro gV
   obtain⟨z,hz,rfl⟩:=List.mem_map.1 gV
   obtain⟨j,hj⟩:=List.getElem?_of_mem hz
   have ld:j < i:=by have:=(zA0 hj).1;rw[List.length_take]at this;omega
   rw[List.getElem?_take_of_lt ld]at hj
   have hj:L[j]?=some z:=hj
   obtain⟨g1,g2⟩:=zA0 hj
   obtain⟨g3,g4⟩:=zA0 j1
   have:=(List.getElem_inj (h₀:=g1) (h₁:=g3) hn).1 (g2.trans g4.symm)
   omega
  have heq:∀a b:Nat,EqIs Tryz.prog 3 (.int .i64 (a:Int)) (.int .i64 (b:Int)) (decide (a=b)):=λa b=>by
   have:=Zz4 a b
   rwa [show decide ((a:Int)=(b:Int))=decide (a=b) by congr 1;exact propext (by omega)]at this
  have jM:=ZrS (f:=λz:Nat=>Value.int .i64 z) (g:=λ_:Unit=>Value.agg (Array.mk [])) heq l _ ji
  have wU:=ZrT (f:=λz:Nat=>Value.int .i64 z) (g:=λ_:Unit=>Value.agg (Array.mk [])) heq l () _ ji
  obtain⟨x,hx⟩:∃x,s'.states[l]?=some x:=⟨s'.states[l]'(by omega),zA3 (by omega)⟩
  refine⟨b4,o4,nq,⟨by omega,aO⟩,_,tT,bm,_,_,false,rfl,hk,ZnU Tryz.underlying3 _,⟨none,jM,rfl,rfl⟩,λb5=>Zaa rfl ⟨false,ZdK rfl (Zaa rfl (ZdK (decide_eq_false (by show ¬(l:Int) < 0;omega)) (Zaa rfl ⟨rfl,rfl,by show[Value.bool (decide ((l:Int) ≥ (s'.states.length:Nat)))]=_;rw[decide_eq_false (by omega)]⟩))),ZdK rfl ⟨bm,_,_,rfl,hk,ZnU Tryz.underlying3 _,wU,iA,Zap rfl (Zaa rfl ?_)⟩⟩⟩
  have uq:m3.le (mm.updK bm (ZyR (λz:Nat=>Value.int .i64 z) (λ_:Unit=>Value.agg (Array.mk [])) (((L.take i).map λz=>(z,()))++[(l,())]))):=Mem.le_updK hM dI _
  obtain⟨b6,o6,iS,cS⟩:=Zan Sta.len (eM.mono uq).row hx (by omega)
  have fY:L.take (i+1)=L.take i++[l]:=by rw[List.take_add_one,j1];rfl
  obtain⟨x0,mD,qA⟩:=ZAr nF.symm hx
  refine⟨b6,o6,iS,⟨by show(0:Int)<=l;omega,by show(l:Int) < (s'.states.length:Nat);omega⟩,_,_,cS,λb7 nA=>Zaa rfl (Zdb Sta.len Sta.one nA x (show rowRd (mm.updK bm _) ka (K.map Sta.cs).flatten from um) 40 (by omega) (by omega) (.inl rfl) λa8 c8 m8 gZ fG ja=>Zaa rfl λM i7 gD iq=>⟨rfl,L.length - (i+1),by omega,i+1,K++[x],a8,c8,by omega,by simp[wP],by rw[li],by rw[zA1];rfl,by rw[zA1];rfl,mLt uq i7,?_,?_,by rw[zA1];exact ja.1,fG.mono iq,λy hy=>?_,rfl⟩)⟩
  ·rw[fY,List.map_append]
   exact i7.k _ _ (Mem.updK_same _ _ _)
  ·rw[fY,List.map_append,List.map_append,sG]
   congr 1
   simp only[List.map_cons,List.map_nil,mD,Option.map_some,qA]
  ·rcases List.mem_append.1 hy with hy|hy
   ·exact uo y hy
   ·rw[List.mem_singleton]at hy;subst hy
    exact eM.all _ (zA2 hx)
 ·have bM:¬(i:Int) < (L.length:Nat):=bM
  have:i=L.length:=by omega
  subst this
  rw[List.take_length]at sG
  refine⟨⟨s'.n,s'.va,s'.vc,s'.vars,ka,kc,K⟩,rfl,sF,jK,sG,?_⟩
  have h:=eM.mono hM
  exact⟨h.n,h.vlen,h.vrow,h.vall,by show K.length<=few;unfold few;omega,um,λx hx=>(uo x hx).mono hM,h.vcap,wQ⟩
end Go.Proofs.YtojlhhphofhaoaaGreatDoor
namespace Go.Proofs.YtojlhhphofhaoaaGreatDoor
open Go Go.Eng Go.Proofs Go.RowKit
open Go.Value (int slice agg bool string tuple func)
open Go.IntKind (u8 u64 i64)
set_option maxRecDepth 100000
noncomputable def Zet:Env:={ EB with
 loops:=(λi=>bif Nat.beq i 12 then⟨[(48,.int .i64)],[],[],false⟩ else bif Nat.beq i 16 then⟨[(10,.slice),(56,.int .i64)],[],[(75,16)],false⟩ else bif Nat.beq i 28 then⟨[(100,.int .i64)],[],[],false⟩ else bif Nat.beq i 35 then⟨[(16,.slice),(117,.int .i64)],[],[(123,1)],false⟩ else bif Nat.beq i 44 then⟨[(149,.int .i64)],[],[],false⟩ else⟨[],[],[],false⟩)
 joins:=(λi=>bif Nat.beq i 25 then some [(97,.bool)]else bif Nat.beq i 41 then some [(146,.bool)]else none)
 dr:=(λi=>bif Nat.beq i 30 then[⟨0,[],[],none,[],[]⟩,⟨1,[15],[],none,[],[]⟩,⟨2,[],[],none,[0,1],[]⟩,⟨3,[],[],none,[],[]⟩,⟨4,[],[],none,[],[]⟩,⟨5,[],[],none,[3,4],[]⟩,⟨6,[],[],none,[3,4,5],[]⟩,⟨7,[],[],none,[0,1,2,3,4,5,6],[]⟩]else bif Nat.beq i 46 then[⟨0,[23],[],none,[],[]⟩,⟨1,[23],[],none,[0],[]⟩,⟨2,[],[],none,[0,1],[]⟩,⟨3,[],[],none,[0,1,2],[]⟩,⟨4,[23],[],none,[0,1,2,3],[]⟩,⟨5,[23],[],none,[0,1,2,3,4],[]⟩,⟨6,[],[],none,[0,1,2,3],[]⟩,⟨7,[],[],none,[0,1,2,3,6],[]⟩,⟨8,[],[],none,[0,1,2,3,4,5,6,7],[]⟩,⟨9,[],[],none,[0,1,2,3,4,5,6,7,8],[]⟩,⟨10,[],[],none,[0,1,2,3,4,5,6,7,8,9],[]⟩,⟨11,[],[],none,[0,1,2,3,4,5,6,7,8,9,10],[]⟩,⟨12,[],[],none,[0,1,2,3,4,5,6,7,8,9,10],[]⟩,⟨13,[23],[],none,[0,1,2,3,4,5,6,7,8,9,10],[]⟩,⟨14,[23],[],none,rg 0 11++[13],[]⟩,⟨15,[],[],none,rg 0 11++[12,13,14],[]⟩,⟨16,[],[],none,rg 0 11++rg 12 4,[]⟩,⟨17,[23],[],none,[0,1,2,3,4,5,6,7,8,9,10],[]⟩,⟨18,[23],[],none,rg 0 11++[17],[]⟩,⟨19,[],[],none,rg 0 11++rg 12 7,[]⟩,⟨20,[],[],none,rg 0 20,[]⟩,⟨21,[],[],none,rg 0 21,[]⟩,⟨22,[],[],none,rg 0 22,[]⟩]else[])
 tokOf:=(λi=>bif Nat.beq i 75 then 75 else bif Nat.beq i 123 then 123 else 0)
 frzNew:=[1]
 thaw:=true
 stAt:=(λi=>bif Nat.beq i 82 then some 999 else none)
 gb:=true
 app0:=λi=>Nat.beq i 123 }
theorem ZdL(aA:Int)(aH:Option Addr)(aF aI:Nat)(aJ:Option Addr)(aG aK:Nat)(m:Mem)(R:RT)(h:
 lV [int u8 aA,slice aH aF aI,slice aJ aG aK] λxL=>fzM m xL λb m'=>lE [some (Box.mk b xL 25 3 true true)] λcc=>m.free b->(∀(b' o:Nat)(u:Value),m' b' o=some u->m b' o =
 some u\/b'=b)->kB Tryz.prog 8 [] m' λcd m'=>br (!cd) (rtM m m' R (bool false)) (∃(R_1:RT),True/\CX Tryz.prog 9 (Array.mk [agg (Array.mk xL)]) m' [] R_1/\Za1 (Shape.agg [Shape.int i64,Shape.slice,
 Shape.slice]) R_1/\∀(n:Int)(a:Option Addr)(ce c:Nat)(ba:Option Addr)(am cf:Nat)(aq:Mem),lV [int i64 n,slice a ce c,slice ba am cf] λxL=>lX (agg (Array.mk xL)) λyL=>m'.le aq->R_1 yL
 aq []->∀(cg:Nat),∃(R_2:RT),lE (some (Box.mk cg xL 30 3 false true)::cc) λxL=>True/\CX Tryz.prog 10 (Array.mk [yL]) aq [] R_2/\Za1 (Shape.tup [Shape.slice,Shape.int i64]) R_2/\∀(a:Option Addr) (n
 c:Nat) (bb:Int) (m':Mem),lX (slice a n c) λbc=>aq.le m'->R_2 (tuple (Array.mk [bc,int i64 bb])) m' []->br (!bb == (0:Int)) (rtM m m' R (bool false)) (∃(R_3:RT),True/\CX Tryz.prog 13 (Array.mk
 [yL]) m' [] R_3/\Za1 (Shape.agg [Shape.int i64,Shape.slice,Shape.slice]) R_3/\∀(ch:Int)(ci:Option Addr)(cj c:Nat)(bd:Option Addr)(a1 ck:Nat)(ag:Mem),lV [int i64 ch,slice ci cj c,slice bd a1 ck]
 λa2=>m'.le ag->R_3 (agg (Array.mk a2)) ag []->∀(cl ah:Nat),lE (some (Box.mk cl a2 30 3 false true)::xL) λxL=>ag.free ah->Mem.k ag ah=none->br (!(↑a1:Int) == (↑am:Int)) (rtM m (Mem.updK
 ag ah []) R (bool false)) (∃(I:IT),inI I [int i64 0] [] [] (Mem.updK ag ah [])/\∀(ai:Int)(m':Mem)(be:Nat),lE (Int.toNat ai*2) λa3=>lX (int i64 ai) λa4=>True->I [a4] [] [] m' be->br (decide
 (ai < (↑am:Int))) (atA ba λcm o=>Zag ai am/\∃v aa:Value,m'.reads cm (o+a3) [v,aa]/\∀(cn:Nat),lE (some (Box.mk cn [v,aa] 42 2 false true)::xL) λan=>chk (v.oneCell'
 && (aa.oneCell'&&true)) (chk (Zbd aa) (∃(ar:IT),inI ar [slice none 0 0,int i64 0] [] [slice none 0 0] m'/\∀(a:Option Addr)(n c:Nat)(ac:Int)(au:Option Addr)(av a5:Nat)(m':Mem)(ad:Nat),
 lX (slice au av a5) λyL=>lX (agg (Array.mk [a4,int i64 (↑n:Int)])) λaj=>lV [int i64 (i64.wrap (ac+(1:Int)))] λao=>lX (slice a n c) λab=>lE (n+1) λak=>True->ar [ab,int i64 ac]
 [] [yL] m' ad->br (decide (ac < (↑(slN aa):Int))) (chk (Zbd aa) (atA (slA aa) λb o=>Zag ac (slN aa)/\∃v ae ap bf bg bh bi bj bk bl bm bn bo bp bq bs:Value,lV [v,ae,ap,bf,bg,bh,bi,bj,bk,bl,bm,bn,bo,bp,bq,bs]
 λxL=>m'.reads b (o+Int.toNat ac*16) xL/\∀(b:Nat),chk (v.oneCell'&&(ae.oneCell'&&(ap.oneCell'&&(bf.oneCell'&&(bg.oneCell'&&(bh.oneCell'&&(bi.oneCell'&&(bj.oneCell'&&(bk.oneCell'&&(bl.oneCell'&&(bm.oneCell'&&(bn.oneCell'&&(bo.oneCell'&&(bp.oneCell'&&(bq.oneCell'&&(bs.oneCell' &&
 true)))))))))))))))) (chk (ZaO u8 v&&decide (u8=u8)) (br (decide (intOf v ≥ (3:Int))) (∃(b:Nat),∃(es:List (Value×Value)),∃(es':List (Value×Value)),lM (Mem.updK m' b es') λmL=>
 Value.map (some ah)=Value.map (some b)/\Mem.k m' b=some es/\Zra Tryz.prog 37 aj/\Zil Tryz.prog 37 aj (agg (Array.mk [a4,int i64 ac])) es es'/\Mem.k m b=none/\∀(b:Nat),lM (mL.add b xL) λaw=>
 mL.free b->(Tok.mk yL 16=Tok.mk ab 16\/ab=slice none 0 0\/c < ak)/\∃(xs:List Value),∃(ys:List Value),xs.length=n*16/\ys.length=1*16/\rowRd aw a xs/\rowRd aw (some (Addr.mk b 0
 none)) ys/\(∀(u:Value),u∈ys->u.oneCell'=true)/\ak*168<=140737488355328/\ak<=9223372036854775807/\∀(a':Option Addr)(c':Nat)(m':Mem),aw.le m'->rowRd m' a' (List.append xs ys)->
 TokFact aw a a' ak c'->Zad an/\nxI ad ar (slice a' ak c'::ao) [] [slice a' ak c'] m') (Zad an/\nxI ad ar (ab::ao) [] [yL] m'))))) (atA bd λax o=>Zag ai a1/\(∃(vs:List Value),vs.length=1
 /\ m'.reads ax (o+a3+1) vs)/\m.free ax/\true=true/\b≠ax/\Zad xL/\nxI be I [int i64 (i64.wrap (ai+(1:Int)))] [] [] (Mem.upd m' ax (o+a3+1) [ab]))))) (∃(R_4:RT),True/\CX
 Tryz.prog 10 (Array.mk [agg (Array.mk a2)]) m' [] R_4/\Za1 (Shape.tup [Shape.slice,Shape.int i64]) R_4/\∀(au:Option Addr)(ac c:Nat)(av:Int)(ay:Mem),m'.le ay->R_4 (tuple (Array.mk [slice au ac c,
 int i64 av])) ay []->∃(b:Bool),br (!av == (0:Int)) (Zad xL/\[bool true]=[bool b]) (Zad xL/\[bool !(↑ac:Int) == (↑n:Int)]=[bool b])/\br b (rtM m ay R (bool false)) (∃(I:IT),inI I [int i64 0]
 [] [] ay/\∀(ad:Int)(m':Mem)(bt:Nat),True->I [int i64 ad] [] [] m' bt->br (decide (ad < (↑ac:Int))) (atA au λb o=>Zag ad ac/\∃v aa:Value,m'.reads b (o+Int.toNat ad*2)
 [v,aa]/\∀(b:Nat),chk (v.oneCell'&&(aa.oneCell'&&true)) (∃(b:Nat),∃(es:List (Value×Value)),∃(ae:Value),∃(o:Bool),Value.map (some ah)=Value.map (some b)/\Mem.k m' b=some es/\
 Zra Tryz.prog 37 (agg (Array.mk [v,aa]))/\LookIs Tryz.prog 37 (agg (Array.mk [v,aa])) es (agg (Array.mk [int i64 0,int i64 0])) ae o/\atA a λb o=>Zag ad n/\∃v ap:Value,m'.reads b
 (o+Int.toNat ad*2) [v,ap]/\chk (Eng.Zsp ae&&true) (∃(b:Bool),EqIs Tryz.prog 37 ae (agg (Array.mk [v,ap])) b/\br (!b) (rtM m m' R (bool false)) (Zad xL/\nxI bt I [int i64 (i64.wrap (ad+(1:
 Int)))] [] [] m')))) (∃(I:IT),inI I [slice none 0 0,int i64 0] [] [slice none 0 0] m'/\∀(a:Option Addr)(af c:Nat)(a6:Int)(co:Option Addr)(cp a5:Nat)(m':Mem)(a7:Nat),lX (slice co cp a5) λaj
 => lV [int i64 (i64.wrap (a6+(1:Int)))] λan=>lE (1+af) λab=>lV [int i64 a6] λao=>lE [some (Tok.mk aj 1)] λal=>True->I (slice a af c::ao) [] [aj] m' a7->br (decide (a6 < (↑am:
 Int))) (∀(b:Nat),lM (m'.add b ao) λmL=>lX (slice (some (Addr.mk b 0 none)) 1 1) λyL=>m'.free b->br (Nat.beq af 0) (Zad xL/\nxI a7 I (yL::an) [] [slice none 0 0] mL) ((Tok.mk aj 1=Tok.mk yL
 1\/yL=slice none 0 0\/1 < ab)/\∃(xs:List Value),∃(ys:List Value),xs.length=1*1/\ys.length=af*1/\rowRd mL (some (Addr.mk b 0 none)) xs/\rowRd mL a ys/\(∀(u:Value),u∈ys->
 u.oneCell'=true)/\ab*8<=140737488355328/\ab<=9223372036854775807/\∀(a':Option Addr)(c':Nat)(m':Mem),mL.le m'->rowRd m' a' (List.append xs ys)->TokFact mL (some (Addr.mk b 0 none)) a' ab c'
 -> Zad xL/\nxI a7 I (slice a' ab c'::an) [] [slice a' ab c'] m')) (∃(R_5:RT),True/\CX Tryz.prog 14 (Array.mk [yL,slice a af c]) m' [] R_5/\Za1 (Shape.tup [Shape.agg [Shape.int i64,Shape.slice,
 Shape.slice],Shape.int i64]) R_5/\∀(cq:Int)(cr:Option Addr)(cs c:Nat)(ct:Option Addr)(cu cv:Nat)(bu:Int)(az:Mem),lV [int i64 cq,slice cr cs c,slice ct cu cv] λa8=>m'.le az->R_5 (tuple
 (Array.mk [agg (Array.mk a8),int i64 bu])) az []->∀(b:Nat),∃(R_6:RT),lE (some (Box.mk b a8 30 3 false true)::xL) λxL=>True/\CX Tryz.prog 10 (Array.mk [agg (Array.mk a8)]) az [] R_6/\Za1 (Shape.tup
 [Shape.slice,Shape.int i64]) R_6/\∀(bv:Option Addr)(a0 c:Nat)(bw:Int)(m':Mem),az.le m'->R_6 (tuple (Array.mk [slice bv a0 c,int i64 bw])) m' []->∃(b:Bool),br (!i64.wrap (bu+bw) == (0
 : Int)) (Zad xL/\al=al/\[bool true]=[bool b]) (Zad xL/\al=al/\[bool !(↑a0:Int) == (↑n:Int)]=[bool b])/\br b (rtM m m' R (bool false)) (∃(I:IT),inI I [int i64 0] [] [] m'/\∀(n:Int) (m':
 Mem) (bx:Nat),True->I [int i64 n] [] [] m' bx->br (decide (n < (↑a0:Int))) (atA bv λb o=>Zag n a0/\∃v aa:Value,lV (Array.toList (Value.cells aa)) λbz=>lE (ZaO i64 v&&decide
 (i64=i64)) λyL=>m'.reads b (o+Int.toNat n*2) [v,aa]/\∀(b:Nat),chk (v.oneCell'&&(aa.oneCell'&&true)) (∃(f:Fx),chk yL (br (decide (intOf v < (0:Int))) (∀(M:Mem),m'.le M->m'.le M->rtM m M R (bool false)) (chk yL (br (decide (intOf v ≥ (↑af:Int))) (∀(M:Mem),m'.le M->m'.le M->rtM m M R (bool false)) (chk (ZbZ v) (atA a λb o=>Zag
 (intOf v) af/\∃(ae:Value),lV (ZaC [int i64 0,int i64 0] 0 (Array.toList (Value.cells ae))) λca=>lV [bc,agg (Array.mk (ZaC ca 1 bz))] λcb=>m' b (o+Int.toNat (intOf v)*1)=some ae
 /\ chk (Nat.beq (List.length (Array.toList (Value.cells ae))) 1&&true) (chk (Nat.beq (bz.length) 1&&Nat.ble 2 (ca.length)) (∃(R_7:RT),R_7=f 20 cb m'/\CX Tryz.prog 12 (Array.mk cb) m' [] R_7/\Za1
 Shape.bool R_7/\∀(b:Bool)(a9:Mem),m'.le a9->R_7 (bool b) a9 []->∀(M:Mem),m'.le M->a9.le M->br (!b) (rtM m M R (bool false)) (Zad xL/\al=al/\nxI bx I [int i64 (i64.wrap (n+(1
 : Int)))] [] [] M)))))))))) (rtM m m' R (bool true))))))))))):CX Tryz.prog 4 #[.agg #[.int .u8 aA,.slice aH aF aI,.slice aJ aG aK]] m [] R:=
 Zaq (E:=Zet) Zal mix Tryz.func4 (by kernel_rfl) (Eq.mp (by kernel_rfl) h)
end Go.Proofs.YtojlhhphofhaoaaGreatDoor
namespace Go.Proofs.YtojlhhphofhaoaaGreatDoor
open Go Go.Eng Go.Rx Go.Proofs Go.RowKit
set_option maxRecDepth 100000
theorem Zsk(a b:Int):Zra Tryz.prog 37 (.agg #[.int .i64 a,.int .i64 b]):=by
 intro em w
 have u3:=Tryz.underlying3
 have a3:=Tryz.isAgg3
 have z3:=Tryz.sizeOf3
 rw[show(10000:Nat)=9998+1+1 from rfl]
 generalize (9998:Nat)=n
 rw[Instr.checkKey]
 simp only[Sem.run_bind,run_underlying Tryz.underlying37,Result.andThen_ok]
 go_simp
 simp[ZuE u3,Result.andThen]
theorem ZAC(a b:Dd):EqIs Tryz.prog 37 (dV a) (dV b) (decide (a=b)):=ZpE a.1 a.2 b.1 b.2
theorem Zul{k:Sc}{n:Int}{a1:Option Addr}{k1 c1:Nat}{a2:Option Addr}{k2 c2:Nat}{e:Int}(h:Value.tuple #[.agg #[.int .i64 n,.slice a1 k1 c1,.slice a2 k2 c2],.int .i64 e]=.tuple #[k.v,.int .i64 0]):(n=k.n/\a1=k.va/\k1=k.vars.length/\c1=k.vc/\a2=k.sa/\k2=k.states.length/\c2=k.sc)/\e=0:=by
 simpa[Sc.v,and_assoc]using h
theorem Zum{s k:Sc}(h1:k.n=s.n)(h2:k.vars=s.vars)(h:k.states.map (λx=>some x.er)=(ZqG s.states.length).map (λi=>(s.states[i]?).map Sta.er)):k.er=(Zkg s).er:=by
 refine ZrL h1 h2 ?_
 show k.states.map Sta.er=s.states.reverse.map Sta.er
 have e:=Zv1 (s.states.map Sta.er)
 rw[List.length_map]at e
 have e2:(ZqG s.states.length).map (λi=>(s.states.map Sta.er)[i]?)=(ZqG s.states.length).map (λi=>(s.states[i]?).map Sta.er):=List.map_congr_left λi _=>List.getElem?_map
 rw[<-e2,e]at h
 have:=congrArg (List.map λo:Option Sta=>o.getD ⟨.empty,none,0,[]⟩) h
 rw[List.map_map,<-List.map_reverse,List.map_map]at this
 rw[List.map_reverse]
 have f1:∀l:List Sta,l.map ((λo:Option Sta=>o.getD ⟨.empty,none,0,[]⟩)∘some)=l:=λl=>by
  conv=>rhs;rw[<-List.map_id l]
  exact List.map_congr_left λ_ _=>rfl
 rw[f1]at this
 exact this
set_option maxHeartbeats 4000000 in
theorem Zi8(x:SScr)(m:Mem)(hx:RepSC m x):CX Tryz.prog 4 #[.agg x.cs.toArray] m [] (Ret (.bool true)):=by
 apply ZdL
 intro b m1 aB sH wO _
 refine Zah (Zq3 m1) λm2 aN=>ZdK rfl ?_
 have dH:=mLt aB aN
 refine Zai (Zyu x m2 (hx.mono dH)) Zys ?_
 rintro n a n1 c a1 n2 c1 m3 aX ⟨s,hv,hr,hk⟩
 simp only[Sc.v,Value.agg.injEq,Array.mk.injEq,List.cons.injEq,Value.int.injEq,Value.slice.injEq,true_and,and_true]at hv
 obtain⟨rfl,⟨rfl,rfl,rfl⟩,rfl,rfl,rfl⟩:=hv
 have cV:=mLt dH aX
 have bY:okS s=true:=by unfold okS;rw[hk.check];rfl
 have fX:=hk.len
 have vA:=hk.dead
 intro b2
 refine Zai (Zie s m3 hr) Zd2 λa4 n3 c2 n4 m4 bI hv=>?_
 have hv:=ZfE hv
 rw[if_pos bY]at hv
 obtain⟨rfl,rfl,_,jI⟩:=hv
 have jn:=mLt cV bI
 refine ZdK rfl (Zai (Zvm s m4 (hr.mono bI) hk.light) Zsj ?_)
 rintro n5 a5 p5 c5 a6 p6 c6 m5 cP ⟨s',hv,nF,kQ,iC⟩ b3 bm ur iA
 obtain⟨rfl,rfl,rfl,rfl,rfl,rfl,rfl⟩:=ZyF hv
 have aZ:=ZxZ nF
 obtain⟨sF,jK⟩:=Zu2 nF
 have eM:=kQ.mono (ZrJ m4 m5)
 rcases iC with h0|⟨bS,μ,iC⟩
 ·rw[h0]at aZ;simp at aZ;omega
 have pf:=mLt jn cP
 have jG:m5.reads bS 0 (s'.states.map Sta.cs).flatten:=by
  rcases eM.row with h|⟨b',o',ha,h⟩
  ·have:=congrArg List.length h
   rw[Za3 Sta.len]at this;simp at this;omega
  ·rw[iC.sa]at ha;cases ha;exact h
 have wV:∀{M:Mem} {L:List Sta},M.reads bS 0 (L.map Sta.cs).flatten->0 < L.length->¬M.free bS:=λ{M L} h hl hf=>by
  have nS:0 < (L.map Sta.cs).flatten.length:=by rw[Za3 Sta.len];omega
  have:=h 0 _ (zA3 nS)
  rw[hf]at this;cases this
 obtain⟨Y,hY⟩:∃Y:Nat->Prop,Y=λq=>q=bS\/q=bm:=⟨_,rfl⟩
 have wW:Y bS:=by rw[hY];exact .inl rfl
 have ut:Y bm:=by rw[hY];exact .inr rfl
 have sI:∀q,Y q->q=bS\/q=bm:=λq h=>by rw[hY]at h;exact h
 have wX:m4.le (m5.off Y):=ZxX cP λq hq=>by
  rcases sI q hq with rfl|rfl
  ·exact iC.free
  ·exact⟨Zc5 cP ur,Zke cP iA⟩
 have mW:m.k bm=none:=Zke pf iA
 have sJ:m.free bS:=Zc5 jn iC.free.1
 have wY:b≠bS:=λe=>by
  have:=(mLt aN (mLt aX bI)) _ _ _ (sH 0 _ rfl)
  rw[e,iC.free.1]at this;cases this
 refine ZdK (by rw[aZ];simp) ⟨λxs _ _ m' q=>∃(i:Nat)(X:List Sta) (Z:List (Dd×Dd)),i<=s.states.length/\xs=[.int .i64 i]/\X.length=i/\(m5.off Y).le (m'.off Y)/\m'.reads bS 0 ((X++s'.states.drop i).map Sta.cs).flatten/\(∀(j:Nat)(z:Sta),X[j]?=some z->∃y:Sta,s.states[j]?=some y/\z.er=(ZeZ y).er/\RepS (m'.off Y) z)/\m'.k bm=some (ZyR dV dV Z)/\Vis s Z i 0/\q=s.states.length - i,⟨s.states.length,0,[],[],by omega,rfl,rfl,ZrY ut,by rw[List.drop_zero,List.nil_append];exact jG,(by intro j z h;simp at h),Mem.updK_same _ _ _,Vis.nil s,rfl⟩,?_⟩
 rintro z m6 q _ ⟨i,X,Z,hi,hz,hX,bJ,cC,sK,hZ,hV,rfl⟩
 obtain rfl:z=i:=by simpa using hz
 have uu:m4.le (m6.off Y):=mLt wX bJ
 have pE:=mLt uu (Mem.off_le m6 Y)
 have uv:=mLt bI pE
 have j3:=mLt cV uv
 have li:IntKind.i64.wrap ((i:Int)+1)=((i+1:Nat):Int):=by rw[Zam (by omega) (by omega)];rfl
 refine Zau (λaO=>?_) (λbM=>?_)
 ·have aO:(i:Int) < (s.states.length:Nat):=aO
  obtain⟨y,hy⟩:=ZcG (show i < s.states.length by omega)
  have qC:=zA2 hy
  have gC:=(hk.all i y hy).len
  obtain⟨x',hx',qA⟩:=ZAr nF hy
  obtain⟨cZ,_,_⟩:=ZvV qA
  obtain⟨b5,o5,lf,gy⟩:=Zan Sta.len (hr.mono uv).row hy (by omega)
  refine⟨b5,o5,lf,⟨by omega,aO⟩,_,_,gy,λb6=>Zaa rfl (Zaa rfl ⟨λxs _ tvs mm q=>∃(j:Nat)(a:Option Addr)(c:Nat) (Z:List (Dd×Dd)),j<=y.rules.length/\xs=[.slice a (Ze0 y j) c,.int .i64 j]/\tvs=[.slice a (Ze0 y j) c]/\(m6.off Y).le (mm.off Y)/\mm.reads bS 0 ((X++s'.states.drop i).map Sta.cs).flatten/\mm.k bm=some (ZyR dV dV Z)/\Vis s Z i j/\rowRd (mm.off Y) a (((y.rules.take j).filter kp).map Ru.cs).flatten/\(∀b o,a=some ⟨b,o,none⟩->¬Y b)/\q=y.rules.length - j,⟨y.rules.length,0,none,0,Z,by omega,rfl,rfl,Mem.le_refl _,cC,hZ,hV,.inl rfl,(λb o e=>by cases e),rfl⟩,?_⟩)⟩
  rintro ta tn tc jj ua un uc mm q2 _ ⟨j,a',c',Z',hj,pN,cY,gL,kR,sL,sM,aM,uw,rfl⟩
  simp only[List.cons.injEq,Value.slice.injEq,Value.int.injEq,true_and,and_true]at pN cY
  obtain⟨⟨rfl,rfl,rfl⟩,rfl⟩:=pN
  obtain⟨rfl,rfl,rfl⟩:=cY
  have ux:m4.le (mm.off Y):=mLt uu gL
  have wZ:=mLt ux (Mem.off_le mm Y)
  have w4:=mLt bI wZ
  have qE:IntKind.i64.wrap ((j:Int)+1)=((j+1:Nat):Int):=by rw[Zam (by omega) (by omega)];rfl
  have lD:Ze0 y j<=j:=by
   have:=List.length_filter_le kp (y.rules.take j)
   rw[List.length_take]at this
   unfold Ze0;omega
  have w5:0 < (X++s'.states.drop i).length:=by rw[zA1,List.length_drop];omega
  refine Zau (λeG=>?_) (λeN=>?_)
  ·have eG:(j:Int) < (y.rules.length:Nat):=eG
   obtain⟨r,fM⟩:=ZcG (show j < y.rules.length by omega)
   have kZ:=Zhb fM
   have qF:(y.rules.take (j+1)).filter kp=(y.rules.take j).filter kp++(if kp r then[r]else[]):=by
    rw[List.take_add_one,fM,List.filter_append]
    congr 1
    show[r].filter kp=_
    rw[List.filter_cons];rfl
   obtain⟨b7,o7,rZ,sN⟩:=Zan Ru.len ((hr.mono w4).all y qC).row fM (by omega)
   refine Zaa rfl ⟨b7,o7,rZ,⟨by omega,eG⟩,_,_,_,_,_,_,_,_,_,_,_,_,_,_,_,_,sN,λb8=>Zaa rfl (Zaa rfl (Zab (λh3=>?_) (λh3=>⟨rfl,?_⟩)))⟩
   ·have lp:kp r=true:=h3
    rw[lp,if_pos rfl]at kZ qF
    obtain⟨ji,w6⟩:=sM.put hy fM lp
    refine⟨bm,_,_,rfl,sL,Zsk _ _,ZrT (g:=dV) ZAC (ent y i j).1 (ent y i j).2 Z' ji,mW,λb9 kP=>Zdb Ru.len Ru.one kP (ts:=(y.rules.take j).filter kp) r (show rowRd (mm.updK bm _) ua (((y.rules.take j).filter kp).map Ru.cs).flatten from(show rowRd mm ua (((y.rules.take j).filter kp).map Ru.cs).flatten from aM.mono (Mem.off_le mm Y))) 168 (by show(Ze0 y j+1)*168<=_;omega) (by show Ze0 y j<=_;omega) (.inl rfl) λa10 c10 m10 iT ju ja=>?_⟩
    have hu:(mm.updK bm (ZyR dV dV (Z'++[((ent y i j).1,(ent y i j).2)]))).le m10:=mLt (Mem.le_add kP _) iT
    refine⟨rfl,y.rules.length - (j+1),by omega,j+1,a10,c10,Z'++[ent y i j],by omega,by rw[qE,kZ],by rw[kZ],mLt gL (mLt (ZrY ut) (Zu1 hu)),(show(mm.updK bm _).reads bS 0 _ from kR).mono hu,hu.k _ _ (Mem.updK_same _ _ _),w6,?_,?_,rfl⟩
    all_goals
     have my:∀b o,a10=some ⟨b,o,none⟩->¬Y b:=by
      intro b o e lq
      rcases ja.2 with h|⟨b',o',h1,h2⟩
      ·rw[h]at e;cases e
      ·rw[h1]at e;cases e
       rcases h2 with h2|⟨_,h2,h4⟩
       ·exact uw b o (h2.trans h1) lq
       ·rcases sI b lq with rfl|rfl
        ·exact wV ((show(mm.updK bm _).reads b 0 _ from kR).mono (Mem.le_add kP _)) w5 h2
        ·have:=(Mem.le_add kP (Ru.cs r)).k _ _ (Mem.updK_same _ _ _)
         rw[h4]at this;cases this
    ·rw[qF]
     exact ZlT ju my
    ·exact my
   ·have lp:kp r=false:=h3
    rw[lp,if_neg (by decide)]at kZ qF
    exact⟨y.rules.length - (j+1),by omega,j+1,ua,uc,Z',by omega,by rw[qE,kZ];rfl,by rw[kZ];rfl,gL,kR,sL,sM.skip hy fM lp,by rw[qF,List.append_nil];exact aM,uw,rfl⟩
  ·have eN:¬(j:Int) < (y.rules.length:Nat):=eN
   have:j=y.rules.length:=by omega
   subst this
   rw[List.take_length]at aM
   have w7:=ZoS y
   have nU:s'.states.drop i=x'::s'.states.drop (i+1):=by rw[List.drop_eq_getElem_cons (by omega),(zA0 hx').2]
   have sO:=Zx2 X (s'.states.drop (i+1)) x' ⟨y.s,ua,uc,y.rules.filter kp⟩ cZ.symm
   have cM:mm bS (0+i*2+1)=some (.slice x'.ra x'.rules.length x'.rc):=by
    have w8:(X++s'.states.drop i)[i]?=some x':=by rw[zA4 (by omega),hX,Nat.sub_self,nU];rfl
    obtain⟨b9,o9,po,cU⟩:=Zan Sta.len (show rowRd mm (some ⟨bS,0,none⟩) ((X++s'.states.drop i).map Sta.cs).flatten from .inr ⟨bS,0,rfl,kR⟩) w8 (by omega)
    cases po
    exact cU 1 _ rfl
   have qG:(mm.off Y).le ((mm.upd bS (0+i*2+1) [.slice ua (Ze0 y y.rules.length) uc]).off Y):=ZvZ wW
   refine⟨bS,0,iC.sa,⟨by omega,by show(i:Int) < (s'.states.length:Nat);omega⟩,⟨[.slice x'.ra x'.rules.length x'.rc],rfl,λq v hv=>?_⟩,sJ,rfl,wY,rfl,s.states.length - (i+1),by omega,i+1,X++[⟨y.s,ua,uc,y.rules.filter kp⟩],Z',by omega,by rw[li],by rw[zA1,hX];rfl,mLt bJ (mLt gL qG),?_,?_,sL,sM.next hy,rfl⟩
   ·have hq:q=0:=by have:=(zA0 hv).1;simp at this;omega
    subst hq
    exact cM.trans hv
   ·have h1:=ZtA (k:=i*2+1) (v:=.slice ua (Ze0 y y.rules.length) uc) kR
    rw[nU]at h1
    have mz:=sO
    rw[hX]at mz
    rw[show Value.slice ua (Ze0 y y.rules.length) uc=.slice ua (y.rules.filter kp).length uc by rw[w7];rfl]at h1 ⊢
    rw[mz]at h1
    rw[List.append_assoc]
    exact h1
   ·intro j z hz
    by_cases ld:j < i
    ·rw[zA5 (by omega)]at hz
     obtain⟨y2,g1,g2,g3⟩:=sK j z hz
     exact⟨y2,g1,g2,g3.mono (mLt gL qG)⟩
    ·rw[zA4 (by omega)]at hz
     have pm:j - X.length=0:=by have:=(zA0 hz).1;simp at this;omega
     rw[pm]at hz
     have hz:(⟨y.s,ua,uc,y.rules.filter kp⟩:Sta)=z:=by simpa using hz
     subst hz
     have ld:j=i:=by omega
     subst ld
     have w9:m3.le ((mm.upd bS (0+j*2+1) [.slice ua (Ze0 y y.rules.length) uc]).off Y):=mLt bI (mLt ux qG)
     have gy:=(hr.mono w9).all y qC
     exact⟨y,hy,rfl,gy.s,Nat.le_trans (List.length_filter_le _ _) gy.len,aM.mono qG,λr hr=>gy.all r (List.mem_filter.1 hr).1⟩
 ·have bM:¬(i:Int) < (s.states.length:Nat):=bM
  have:i=s.states.length:=by omega
  subst this
  rw[<-aZ,List.drop_length,List.append_nil]at cC
  have xb:X.length=s'.states.length:=by omega
  obtain⟨B,hB⟩:∃B:Sc,B=⟨s'.n,s'.va,s'.vc,s'.vars,s'.sa,s'.sc,X⟩:=⟨_,rfl⟩
  have uy:B.er=(Zu7 s).er:=by
   subst hB
   refine ZrL sF jK (List.ext_getElem? λj=>?_)
   show(X.map Sta.er)[j]?=((s.states.map ZeZ).map Sta.er)[j]?
   rw[List.getElem?_map,List.getElem?_map,List.getElem?_map]
   by_cases hj:j < X.length
   ·obtain⟨z,hz⟩:=ZcG hj
    obtain⟨y,g1,g2,_⟩:=sK j z hz
    rw[hz,g1]
    simp only[Option.map_some,g2]
   ·rw[List.getElem?_eq_none (by omega),List.getElem?_eq_none (by omega)];rfl
  have xc:RepC m6 B:=by
   subst hB
   refine⟨eM.n,eM.vlen,?_,eM.vall,by show X.length<=few;unfold few;omega,.inr ⟨bS,0,iC.sa,cC⟩,λz hz=>?_,eM.vcap,by show X.length<=s'.sc;have:=eM.scap;omega⟩
   ·obtain⟨μv,g1,g2,g3,_⟩:=iC.va
    rcases g1 with h|⟨b',o',ha,h⟩
    ·exact .inl h
    ·have ly:0 < (s'.vars.map Va.cs).flatten.length:=by rw[Za3 Va.len,jK,hk.vlen];omega
     have h1:=h 0 _ (zA3 ly)
     have g4:=mLt g2 (ZrJ m4 m5)
     have:¬Y b':=λlq=>by
      rcases sI b' lq with rfl|rfl
      ·rw[g3]at h1;cases h1
      ·have:=g4 _ _ _ h1
       rw[ur]at this;cases this
     exact((ZlT ((show rowRd μv s'.va _ from .inr ⟨b',o',ha,h⟩).mono g4) (λb o e=>by rw[ha]at e;cases e;exact this)).mono bJ).mono (Mem.off_le m6 Y)
   ·obtain⟨j,hj⟩:=List.getElem?_of_mem hz
    obtain⟨_,_,_,g⟩:=sK j z hj
    exact g.mono (Mem.off_le m6 Y)
  have xd:B.v=.agg #[.int .i64 s'.n,.slice s'.va s'.vars.length s'.vc,.slice s'.sa s'.states.length s'.sc]:=by
   subst hB
   show Value.agg #[_,_,.slice s'.sa X.length s'.sc]=_
   rw[xb]
  have sP:okS B=true:=by unfold okS;rw[ZoP uy,hk.bare.check];rfl
  have uz:ZaK B=(ZaK s).map (phi s):=(Zu4 uy).trans (Ztz s)
  have e1:=Zie B m6 xc
  rw[xd]at e1
  refine Zai e1 Zd2 λa7 n7 c7 e7 m7 jm oe=>?_
  have oe:=ZfE oe
  rw[if_pos sP]at oe
  obtain⟨rfl,rfl,_,jH⟩:=oe
  have xe:(ZaK B).length=(ZaK s).length:=by rw[uz,List.length_map]
  have xf:=mLt pE jm
  refine⟨false,ZdK rfl ⟨rfl,by rw[xe];simp⟩,ZdK rfl ⟨λxs _ _ m' q=>∃i:Nat,i<=(ZaK s).length/\xs=[.int .i64 i]/\m7.le m'/\q=(ZaK s).length - i,⟨(ZaK s).length,0,by omega,rfl,Mem.le_refl _,rfl⟩,?_⟩⟩
  rintro z m8 q _ ⟨i,hi,hz,qH,rfl⟩
  obtain rfl:z=i:=by simpa using hz
  have sQ:=mLt xf qH
  have xg:=mLt bI sQ
  have ph:=mLt cV xg
  have li:IntKind.i64.wrap ((i:Int)+1)=((i+1:Nat):Int):=by rw[Zam (by omega) (by omega)];rfl
  refine Zau (λaO=>?_) (λbM=>?_)
  ·have aO:(i:Int) < ((ZaK B).length:Nat):=aO
   obtain⟨d,hd⟩:=ZcG (show i < (ZaK s).length by omega)
   have xh:(ZaK B)[i]?=some (phi s d):=by rw[uz,List.getElem?_map,hd];rfl
   obtain⟨b9,o9,po,xi⟩:=Zan Zi2 (jH.mono qH) xh (by omega)
   obtain⟨b10,o10,sR,sS⟩:=Zan Zi2 (jI.mono sQ) hd (by omega)
   have kY:=Zu5 (g:=dV) ZAC (phi s d) d Z (hV.get (zA2 hd)) hV.nodup
   refine⟨b9,o9,po,⟨by omega,aO⟩,_,_,xi,λb11=>Zaa rfl ⟨bm,_,dV d,true,rfl,(mLt jm qH).k _ _ hZ,Zsk _ _,⟨some (dV d),kY,rfl,rfl⟩,b10,o10,sR,⟨by omega,by omega⟩,_,_,sS,Zaa rfl ⟨_,ZpE d.1 d.2 d.1 d.2,ZdK (by simp) ⟨rfl,(ZaK s).length - (i+1),by omega,i+1,by omega,by rw[li],qH,rfl⟩⟩⟩⟩
  ·refine⟨λxs _ tvs m' q=>∃(i:Nat)(a:Option Addr)(c:Nat)(tv:Value),i<=s.states.length/\xs=[.slice a i c,.int .i64 i]/\tvs=[tv]/\m8.le m'/\rowRd m' a ((ZqG i).map λz:Nat=>Value.int .i64 z)/\q=s.states.length - i,⟨s.states.length,0,none,0,_,by omega,rfl,rfl,Mem.le_refl _,.inl rfl,rfl⟩,?_⟩
   rintro oa on oc ii ua un uc m9 q _ ⟨i,a',c',tv,hi,cZ,cY,sT,kU,rfl⟩
   simp only[List.cons.injEq,Value.slice.injEq,Value.int.injEq,true_and,and_true]at cZ
   obtain⟨⟨rfl,rfl,rfl⟩,rfl⟩:=cZ
   have li:IntKind.i64.wrap ((on:Int)+1)=((on+1:Nat):Int):=by rw[Zam (by omega) (by omega)];rfl
   have uA:=mLt sQ sT
   have xj:=mLt bI uA
   refine Zau (λaO=>?_) (λbM=>?_)
   ·have aO:(on:Int) < (s.states.length:Nat):=aO
    intro b9 kP
    refine Zab (λh0=>?_) (λh0=>?_)
    ·have h0:on=0:=Nat.eq_of_beq_eq_true h0
     subst h0
     exact⟨rfl,s.states.length - 1,by omega,1,some ⟨b9,0,none⟩,1,_,by omega,by rw[li],rfl,mLt sT (Mem.le_add kP _),.inr ⟨b9,0,rfl,ZbD m9 b9 _⟩,rfl⟩
    ·have h0:¬on=0:=λe=>by rw[e]at h0;cases h0
     refine⟨.inr (.inr (by omega)),[.int .i64 on],(ZqG on).map λz:Nat=>Value.int .i64 z,rfl,by rw[List.length_map,Zkk,Nat.mul_one],.inr ⟨b9,0,rfl,ZbD m9 b9 _⟩,kU.mono (Mem.le_add kP _),λu hu=>?_,by omega,by omega,λa10 c10 m10 iT ju ja=>⟨rfl,s.states.length - (on+1),by omega,on+1,a10,c10,_,by omega,by rw[li,Nat.add_comm 1 on],rfl,mLt sT (mLt (Mem.le_add kP _) iT),?_,rfl⟩⟩
     ·obtain⟨z,_,rfl⟩:=List.mem_map.1 hu;rfl
     ·rw[ZtB];exact ju
   ·have bM:¬(on:Int) < (s.states.length:Nat):=bM
    have:on=s.states.length:=by omega
    subst this
    have hK:=ZyG s (ZqG s.states.length) oa oc m9 (hr.mono xj) hk.light kU (λz hz=>Zx3 hz) (ZqH _) (by rw[Zkk];omega)
    rw[Zkk]at hK
    refine Zai hK Zuk ?_
    rintro q1 q2 q3 q4 q5 q6 q7 q8 m10 iT ⟨kS,sU,nK,xk,xl,xm⟩
    obtain⟨⟨rfl,rfl,rfl,rfl,rfl,rfl,rfl⟩,rfl⟩:=Zul sU
    have pO:=Zum nK xk xl
    have sV:okS kS=true:=by unfold okS;rw[ZoP pO,(Ztw hk).check hk];rfl
    have uB:ZaK kS=ZaK (Zkg s):=Zu4 pO
    intro b11
    refine Zai (Zie kS m10 xm) Zd2 λa12 n12 c12 e12 m11 lN lO=>?_
    have lO:=ZfE lO
    rw[if_pos sV]at lO
    obtain⟨rfl,rfl,_,pP⟩:=lO
    have xn:(ZaK kS).length=(ZaK s).length:=by rw[uB,Zki]
    have xo:=mLt iT lN
    refine⟨false,ZdK rfl ⟨rfl,rfl,by rw[xn];simp⟩,ZdK rfl ⟨λxs _ _ m' q=>∃i:Nat,i<=(ZaK s).length/\xs=[.int .i64 i]/\m11.le m'/\q=(ZaK s).length - i,⟨(ZaK s).length,0,by omega,rfl,Mem.le_refl _,rfl⟩,?_⟩⟩
    rintro z m12 q _ ⟨i,hi,hz,nG,rfl⟩
    obtain rfl:z=i:=by simpa using hz
    have uC:=mLt xo nG
    have uD:=mLt uA uC
    have xp:=mLt jn uD
    have li:IntKind.i64.wrap ((i:Int)+1)=((i+1:Nat):Int):=by rw[Zam (by omega) (by omega)];rfl
    refine Zau (λaO=>?_) (λbM=>Zac xp rfl)
    have aO:(i:Int) < ((ZaK kS).length:Nat):=aO
    obtain⟨d,hd⟩:=ZcG (show i < (ZaK kS).length by omega)
    have kt:d∈ZaK (Zkg s):=by rw[<-uB];exact zA2 hd
    obtain⟨i0,_,j0,_,_,_,_,rfl⟩:=Zkc.1 kt
    obtain⟨tM,sW⟩:=Ztx kt
    obtain⟨b13,o13,sX,sY⟩:=Zan Zi2 (pP.mono nG) hd (by omega)
    obtain⟨b14,o14,sZ,s4⟩:=ZBc (kU.mono uC) (show((ZqG s.states.length).map λz:Nat=>Value.int .i64 z)[i0]?=some (.int .i64 ((s.states.length - 1 - i0:Nat):Int)) by rw[List.getElem?_map,Zu8 tM];rfl)
    have hC:=ZwF (ZaK s) a4 c2 (((s.states.length - 1 - i0:Nat):Int),(j0:Int)) m12 (by omega) (jI.mono uD)
    rw[decide_eq_true sW]at hC
    refine⟨b13,o13,sX,⟨by omega,aO⟩,_,_,sY,λb15=>Zaa rfl ⟨λ_ _ _=>Ret (.bool true),Zaa rfl (ZdK (decide_eq_false (by show ¬(i0:Int) < 0;omega)) (Zaa rfl (ZdK (decide_eq_false (by show ¬(i0:Int) ≥ (s.states.length:Nat);omega)) (Zaa rfl ⟨b14,o14,sZ,⟨by show(0:Int)<=i0;omega,by show(i0:Int) < (s.states.length:Nat);omega⟩,_,s4,Zaa rfl (Zaa rfl ⟨_,rfl,hC,(λv _ _ h=>by rw[show v=_ from h];rfl),?_⟩)⟩))))⟩⟩
    intro bb m13 jQ s6 M hA xX
    obtain rfl:bb=true:=by simpa using(show Value.bool bb=Value.bool true from s6)
    exact ZdK rfl ⟨rfl,rfl,(ZaK s).length - (i+1),by omega,i+1,by omega,by rw[li],mLt nG hA,rfl⟩
end Go.Proofs.YtojlhhphofhaoaaGreatDoor
namespace Go.Proofs.YtojlhhphofhaoaaGreatDoor
open Go Go.Eng Go.Rx Go.Proofs Go.RowKit Go.ChangeShapes Go.WideShapes Go.ChangeAt
set_option maxRecDepth 100000
theorem Zvn{α:Type}{Zim:α->List Value}{k:Nat}(hk:∀z,(Zim z).length=k){m:Mem}{b:Nat}:∀{L:List α} {o:Nat},(∀i z,L[i]?=some z->m.reads b (o+i*k) (Zim z))->m.reads b o (L.map Zim).flatten
 | [],o,h=>λj v hj=>by simp at hj
 | x::L,o,h=>λj v hj=>by
  rw[List.map_cons,List.flatten_cons]at hj
  by_cases aO:j < k
  ·rw[zA5 (by rw[hk];exact aO)]at hj
   have:=h 0 x rfl j v hj
   rwa [Nat.zero_mul,Nat.add_zero]at this
  ·rw[zA4 (by rw[hk];omega),hk]at hj
   have:=Zvn hk (L:=L) (o:=o+k) (λi z hz=>by
    have:=h (i+1) z (by simpa using hz)
    rwa [show o+(i+1)*k=o+k+i*k by rw[Nat.succ_mul];omega]at this) (j - k) v hj
   rwa [show o+k+(j - k)=o+j by omega]at this
theorem Zvo{α:Type}{p:Nat->α->Prop}:∀n,(∀i,i < n->∃z,p i z)->∃L:List α,L.length=n/\∀i z,L[i]?=some z->p i z
 | 0,_=>⟨[],rfl,λi z h=>by simp at h⟩
 | n+1,h=>by
  obtain⟨L,hL,hp⟩:=Zvo n λi hi=>h i (by omega)
  obtain⟨z,hz⟩:=h n (by omega)
  refine⟨L++[z],by rw[zA1,hL];rfl,λi y hy=>?_⟩
  by_cases hi:i < n
  ·rw[zA5 (by omega)]at hy;exact hp i y hy
  ·have aO:=(zA0 hy).1
   rw[zA1,hL]at aO
   have aO:i < n+1:=aO
   obtain rfl:i=n:=by omega
   rw[zA4 (by omega),hL,Nat.sub_self]at hy
   obtain rfl:z=y:=by simpa using hy
   exact hz
theorem ZBl{w:World}{a:Addr}{v:Value}(h:w.cell? (a.add 0)=some v):∃b o,a=⟨b,o,none⟩:=by
 obtain⟨b,o,sp⟩:=a
 cases sp with
 | none=>exact⟨b,o,rfl⟩
 | some s=>
  exfalso
  have e:(Addr.add ⟨b,o,some s⟩ 0)=⟨b,o,some s⟩:=rfl
  rw[e]at h
  unfold World.cell? at h
  split at h
  ·simp at h
  ·cases h
section
variable {H:Type} {enc:TypeId×Value->H} {W:World} {cX:Bool}
theorem Zsl{P:Program}{e:TypeId}:∀{l:List (DataW H)} {d:DataW H},d∈l->∀n∈d.weights P e,n∈DataW.weightsAll P e l
 | x::l,d,hd,n,hn=>by
  simp only[DataW.weightsAll,List.mem_append]
  rcases List.mem_cons.1 hd with rfl|hd
  ·exact .inl hn
  ·exact .inr (Zsl hd n hn)
theorem ZdA{α:Type}{Zim:α->List Value}{Q:α->Prop}{t e:TypeId}{k:Nat}(ht:Tryz.prog.underlying t=some (.slice e))(hc:Tryz.prog.cellsOf e=k)(hk:∀z,(Zim z).length=k)(h0:0 < k)(hb:1<=Tryz.prog.bytesOf e){n:Nat}{cs:List Value}{x:DataW H×List MemPlace}
  (h:DataW.trod enc Tryz.prog W 0 (λ_=>true) cX n t cs=some x) (hw:∀w∈x.1.weights Tryz.prog t,w<=reachBytes)
  (ih:∀n',n' < n->∀(cs':List Value)(y:DataW H×List MemPlace),DataW.trod enc Tryz.prog W 0 (λ_=>true) cX n' e cs'=some y->(∀w∈y.1.weights Tryz.prog e,w<=reachBytes)->∃z,cs'=Zim z/\Q z):
  ∃(L:List α)(a:Option Addr)(cap:Nat),cs=[.slice a L.length cap]/\L.length<=cap/\L.length<=1000000000000000/\rowRd (Zoo W) a (L.map Zim).flatten/\∀z∈L,Q z:=by
 rcases DataW.trod_slice ht h with⟨q4,_⟩|⟨a,len,cap,elems,rest,n',hn',q4,hx,_,hl,hm,xY,lG,_⟩
 ·exact⟨[],none,0,q4,by simp,by simp,.inl rfl,by simp⟩
 rw[hx]at hw
 simp only[DataW.weights,ht,List.length_map]at hw
 have bH:=hw _ (List.mem_cons_self)
 have aZ:len<=1000000000000000:=by
  have h2:=reachBytes_lt
  have h3:(elems.length+rest.length)*1<=(elems.length+rest.length)*Tryz.prog.bytesOf e:=Nat.mul_le_mul_left _ hb
  omega
 rw[hc]at lG
 obtain⟨L,hL,hp⟩:=Zvo (p:=λi z=>(∀j v,(Zim z)[j]?=some v->W.cell? ((a.add (i*k)).add j)=some v)/\Q z) len (λi hi=>by
  have h1:=lG i hi
  rw[zA3 (by omega)]at h1
  obtain⟨cs',h2,h3⟩:=Option.bind_eq_some_iff.1 h1
  obtain⟨_,mw,xq⟩:=World.cells?_some h2
  obtain⟨z,rfl,hz⟩:=ih n' (by omega) _ _ h3 (λw jv=>hw w (List.mem_cons_of_mem _ (List.mem_append_left _ (Zsl (List.mem_map.2 ⟨_,List.getElem_mem _,rfl⟩) w jv))))
  refine⟨z,λj v hj=>?_,hz⟩
  have aO:=(zA0 hj).1
  rw[xq j (by rw[mw]at aO;exact aO)];exact hj)
 refine⟨L,some a,cap,by rw[q4,hL],by omega,by omega,?_,λz hz=>?_⟩
 ·by_cases tY:len=0
  ·left
   obtain rfl:L=[]:=List.eq_nil_of_length_eq_zero (by omega)
   rfl
  ·right
   obtain⟨z,hz⟩:=ZaP (show 0 < L.length by omega)
   have h1:=(hp 0 z hz).1
   obtain⟨u,hu⟩:=ZaP (show 0 < (Zim z).length by rw[hk];exact h0)
   have h2:=h1 0 u hu
   rw[Nat.zero_mul]at h2
   have e0:∀b:Addr,(b.add 0).add 0=b.add 0:=λb=>by
    obtain⟨x1,x2,x3⟩:=b
    cases x3 <;> rfl
   rw[e0]at h2
   obtain⟨b,o,rfl⟩:=ZBl h2
   refine⟨b,o,rfl,Zvn hk λi z hz j v hj=>?_⟩
   have:=(hp i z hz).1 j v hj
   rw[ZbM,ZbM]at this
   exact this
 ·obtain⟨i,hi⟩:=List.getElem?_of_mem hz
  exact(hp i z hi).2
end
theorem wu8{n:Int}(h:(Lit.int .u8 n).wf=true):0<=n/\n < 256:=by
 have:0<=n/\n<=255:=by simpa[Lit.wf,IntKind.min,IntKind.max,IntKind.signed,IntKind.bits]using h
 omega
theorem ZBR{n:Int}(h:(Lit.int .u64 n).wf=true):0<=n/\n < 18446744073709551616:=by
 have:0<=n/\n<=18446744073709551615:=by simpa[Lit.wf,IntKind.min,IntKind.max,IntKind.signed,IntKind.bits]using h
 omega
def s5C(s:Nat×Nat×Nat):List Value:=[.int .u8 s.1,.int .u8 s.2.1,.int .u64 s.2.2]
def s8C(s:Nat×Nat×Nat):List Value:=[.int .u8 s.1,.int .u8 s.2.1,.int .u8 s.2.2]
theorem Zz5{m:Mem}{a:Option Addr}{l:List (Nat×Nat×Nat)}(hl:l.length<=1000000000000000)(h:rowRd m a (l.map s5C).flatten)(hb:∀s∈l,s.1 < 256/\s.2.1 < 256/\s.2.2 < 18446744073709551616):SmE m a l:=⟨by omega,hb,λi s hi=>Zan (cs:=s5C) (n:=3) (λ_=>rfl) h hi (by omega)⟩
theorem ZBm{m:Mem}{a:Option Addr}{l:List (Nat×Nat×Nat)}(hl:l.length<=1000000000000000)(h:rowRd m a (l.map s8C).flatten)(hb:∀s∈l,s.1 < 256/\s.2.1 < 256/\s.2.2 < 256):Sm m a l:=⟨by omega,hb,λi s hi=>Zan (cs:=s8C) (n:=3) (λ_=>rfl) h hi (by omega)⟩
section
variable {H:Type} {enc:TypeId×Value->H} {W:World} {cX:Bool}
theorem Zvp(n:Nat)(cs:List Value)(x:DataW H×List MemPlace)(h:DataW.trod enc Tryz.prog W 0 (λ_=>true) cX n 5 cs=some x):∃z:Nat,cs=[.int .u8 z]/\z < 256:=by
 obtain⟨k,q,_,w⟩:=DataW.trod_int Tryz.underlying5 h
 have b:=wu8 w
 obtain⟨z,rfl⟩:∃z:Nat,k=z:=⟨k.toNat,by omega⟩
 exact⟨z,q,by omega⟩
theorem ZAD:Tryz.prog.underlying 204=some (.struct #[⟨ "Kind",5,0,false, "", "",0⟩,⟨ "N",5,1,false, "", "",1⟩,⟨ "Bits",47,2,false, "", "",8⟩]):=by kernel_rfl
theorem ZyH(n:Nat)(cs:List Value)(x:DataW H×List MemPlace)(h:DataW.trod enc Tryz.prog W 0 (λ_=>true) cX n 204 cs=some x)(hw:∀w∈x.1.weights Tryz.prog 204,w<=reachBytes):∃s:Nat×Nat×Nat,cs=s5C s/\s.1 < 256/\s.2.1 < 256/\s.2.2 < 18446744073709551616:=by
 obtain⟨xs,k,hk,eA,aZ,cZ,hx⟩:=DataW.trod_struct ZAD h
 have hc:Tryz.prog.cellsOf 204=3:=by kernel_rfl
 rw[hc]at aZ
 obtain⟨c0,c1,c2,rfl⟩:∃c0 c1 c2,cs=[c0,c1,c2]:=by
  match cs,aZ with
  | [c0,c1,c2],_=>exact⟨c0,c1,c2,rfl⟩
 obtain⟨z0,z1,z2,rfl⟩:∃z0 z1 z2,xs=[z0,z1,z2]:=by
  match xs,cZ with
  | [z0,z1,z2],_=>exact⟨z0,z1,z2,rfl⟩
 rw[eA]at hw
 simp only[DataW.weights,ZAD]at hw
 have g0:DataW.trod enc Tryz.prog W 0 (λ_=>true) cX k 5 (List.take (Tryz.prog.cellsOf 5) (List.drop 0 [c0,c1,c2]))=some z0:=hx 0 _ rfl
 rw[show Tryz.prog.cellsOf 5=1 by kernel_rfl]at g0
 obtain⟨kk0,q0,_,w0⟩:=DataW.trod_int Tryz.underlying5 g0
 have b0:=wu8 w0
 obtain⟨kk,rfl⟩:∃z:Nat,kk0=z:=⟨kk0.toNat,by omega⟩
 have g1:DataW.trod enc Tryz.prog W 0 (λ_=>true) cX k 5 (List.take (Tryz.prog.cellsOf 5) (List.drop 1 [c0,c1,c2]))=some z1:=hx 1 _ rfl
 rw[show Tryz.prog.cellsOf 5=1 by kernel_rfl]at g1
 obtain⟨nn0,q1,_,w1⟩:=DataW.trod_int Tryz.underlying5 g1
 have b1:=wu8 w1
 obtain⟨nn,rfl⟩:∃z:Nat,nn0=z:=⟨nn0.toNat,by omega⟩
 have g2:DataW.trod enc Tryz.prog W 0 (λ_=>true) cX k 47 (List.take (Tryz.prog.cellsOf 47) (List.drop 2 [c0,c1,c2]))=some z2:=hx 2 _ rfl
 rw[show Tryz.prog.cellsOf 47=1 by kernel_rfl]at g2
 obtain⟨bb0,q2,_,w2⟩:=DataW.trod_int Tryz.underlying47 g2
 have b2:=ZBR w2
 obtain⟨bb,rfl⟩:∃z:Nat,bb0=z:=⟨bb0.toNat,by omega⟩
 simp only[List.drop,List.take,List.cons.injEq,and_true]at q0 q1 q2
 subst q0
 subst q1
 subst q2
 exact⟨(kk,nn,bb),rfl,by show kk < 256;omega,by show nn < 256;omega,by show bb < 18446744073709551616;omega⟩
theorem ZAE:Tryz.prog.underlying 183=some (.struct #[⟨ "Kind",5,0,false, "", "",0⟩,⟨ "N",5,1,false, "", "",1⟩,⟨ "M",5,2,false, "", "",2⟩]):=by kernel_rfl
theorem ZyI(n:Nat)(cs:List Value)(x:DataW H×List MemPlace)(h:DataW.trod enc Tryz.prog W 0 (λ_=>true) cX n 183 cs=some x)(hw:∀w∈x.1.weights Tryz.prog 183,w<=reachBytes):∃s:Nat×Nat×Nat,cs=s8C s/\s.1 < 256/\s.2.1 < 256/\s.2.2 < 256:=by
 obtain⟨xs,k,hk,eA,aZ,cZ,hx⟩:=DataW.trod_struct ZAE h
 have hc:Tryz.prog.cellsOf 183=3:=by kernel_rfl
 rw[hc]at aZ
 obtain⟨c0,c1,c2,rfl⟩:∃c0 c1 c2,cs=[c0,c1,c2]:=by
  match cs,aZ with
  | [c0,c1,c2],_=>exact⟨c0,c1,c2,rfl⟩
 obtain⟨z0,z1,z2,rfl⟩:∃z0 z1 z2,xs=[z0,z1,z2]:=by
  match xs,cZ with
  | [z0,z1,z2],_=>exact⟨z0,z1,z2,rfl⟩
 rw[eA]at hw
 simp only[DataW.weights,ZAE]at hw
 have g0:DataW.trod enc Tryz.prog W 0 (λ_=>true) cX k 5 (List.take (Tryz.prog.cellsOf 5) (List.drop 0 [c0,c1,c2]))=some z0:=hx 0 _ rfl
 rw[show Tryz.prog.cellsOf 5=1 by kernel_rfl]at g0
 obtain⟨kk0,q0,_,w0⟩:=DataW.trod_int Tryz.underlying5 g0
 have b0:=wu8 w0
 obtain⟨kk,rfl⟩:∃z:Nat,kk0=z:=⟨kk0.toNat,by omega⟩
 have g1:DataW.trod enc Tryz.prog W 0 (λ_=>true) cX k 5 (List.take (Tryz.prog.cellsOf 5) (List.drop 1 [c0,c1,c2]))=some z1:=hx 1 _ rfl
 rw[show Tryz.prog.cellsOf 5=1 by kernel_rfl]at g1
 obtain⟨nn0,q1,_,w1⟩:=DataW.trod_int Tryz.underlying5 g1
 have b1:=wu8 w1
 obtain⟨nn,rfl⟩:∃z:Nat,nn0=z:=⟨nn0.toNat,by omega⟩
 have g2:DataW.trod enc Tryz.prog W 0 (λ_=>true) cX k 5 (List.take (Tryz.prog.cellsOf 5) (List.drop 2 [c0,c1,c2]))=some z2:=hx 2 _ rfl
 rw[show Tryz.prog.cellsOf 5=1 by kernel_rfl]at g2
 obtain⟨bb0,q2,_,w2⟩:=DataW.trod_int Tryz.underlying5 g2
 have b2:=wu8 w2
 obtain⟨bb,rfl⟩:∃z:Nat,bb0=z:=⟨bb0.toNat,by omega⟩
 simp only[List.drop,List.take,List.cons.injEq,and_true]at q0 q1 q2
 subst q0
 subst q1
 subst q2
 exact⟨(kk,nn,bb),rfl,by show kk < 256;omega,by show nn < 256;omega,by show bb < 256;omega⟩
theorem Zvq:Tryz.prog.underlying 147=some (.struct #[⟨ "Kind",5,0,false, "", "",0⟩,⟨ "N",5,1,false, "", "",1⟩,⟨ "Parts",22,2,false, "", "",8⟩,⟨ "Expr",145,3,false, "", "",32⟩]):=by kernel_rfl
theorem Zun(n:Nat)(cs:List Value)(x:DataW H×List MemPlace)(h:DataW.trod enc Tryz.prog W 0 (λ_=>true) cX n 147 cs=some x)(hw:∀w∈x.1.weights Tryz.prog 147,w<=reachBytes):∃s:SAct,cs=s.cs/\RepSA (Zoo W) s:=by
 obtain⟨xs,k,hk,eA,aZ,cZ,hx⟩:=DataW.trod_struct Zvq h
 have hc:Tryz.prog.cellsOf 147=4:=by kernel_rfl
 rw[hc]at aZ
 obtain⟨c0,c1,c2,c3,rfl⟩:∃c0 c1 c2 c3,cs=[c0,c1,c2,c3]:=by
  match cs,aZ with
  | [c0,c1,c2,c3],_=>exact⟨c0,c1,c2,c3,rfl⟩
 obtain⟨z0,z1,z2,z3,rfl⟩:∃z0 z1 z2 z3,xs=[z0,z1,z2,z3]:=by
  match xs,cZ with
  | [z0,z1,z2,z3],_=>exact⟨z0,z1,z2,z3,rfl⟩
 rw[eA]at hw
 simp only[DataW.weights,Zvq]at hw
 have g0:DataW.trod enc Tryz.prog W 0 (λ_=>true) cX k 5 (List.take (Tryz.prog.cellsOf 5) (List.drop 0 [c0,c1,c2,c3]))=some z0:=hx 0 _ rfl
 rw[show Tryz.prog.cellsOf 5=1 by kernel_rfl]at g0
 obtain⟨kk0,q0,_,w0⟩:=DataW.trod_int Tryz.underlying5 g0
 have b0:=wu8 w0
 obtain⟨kk,rfl⟩:∃z:Nat,kk0=z:=⟨kk0.toNat,by omega⟩
 have g1:DataW.trod enc Tryz.prog W 0 (λ_=>true) cX k 5 (List.take (Tryz.prog.cellsOf 5) (List.drop 1 [c0,c1,c2,c3]))=some z1:=hx 1 _ rfl
 rw[show Tryz.prog.cellsOf 5=1 by kernel_rfl]at g1
 obtain⟨nn0,q1,_,w1⟩:=DataW.trod_int Tryz.underlying5 g1
 have b1:=wu8 w1
 obtain⟨nn,rfl⟩:∃z:Nat,nn0=z:=⟨nn0.toNat,by omega⟩
 have g2:DataW.trod enc Tryz.prog W 0 (λ_=>true) cX k 22 (List.take (Tryz.prog.cellsOf 22) (List.drop 2 [c0,c1,c2,c3]))=some z2:=hx 2 _ rfl
 rw[show Tryz.prog.cellsOf 22=1 by kernel_rfl]at g2
 obtain⟨L2,a2,cap2,q2,nH,nI,dX,kV⟩:=ZdA (Zim:=(λn:Nat=>[Value.int .u8 n])) (Q:=(λn:Nat=>n < 256)) (k:=1) (by kernel_rfl) (by kernel_rfl) (λ_=>rfl) (by decide) (zA6 (by kernel_rfl)) g2 (λw jv=>hw w (DataW.weights_mem_each (j:=2) (t:=22) rfl rfl w jv)) λn' _ cs' y hy kW=>Zvp n' cs' y hy
 have g3:DataW.trod enc Tryz.prog W 0 (λ_=>true) cX k 145 (List.take (Tryz.prog.cellsOf 145) (List.drop 3 [c0,c1,c2,c3]))=some z3:=hx 3 _ rfl
 rw[show Tryz.prog.cellsOf 145=1 by kernel_rfl]at g3
 obtain⟨L3,a3,cap3,q3,s7,s8,pQ,pR⟩:=ZdA (Zim:=s5C) (Q:=(λs:Nat×Nat×Nat=>s.1 < 256/\s.2.1 < 256/\s.2.2 < 18446744073709551616)) (k:=3) (by kernel_rfl) (by kernel_rfl) (λ_=>rfl) (by decide) (zA6 (by kernel_rfl)) g3 (λw jv=>hw w (DataW.weights_mem_each (j:=3) (t:=145) rfl rfl w jv)) λn' _ cs' y hy kW=>ZyH n' cs' y hy kW
 simp only[List.drop,List.take,List.cons.injEq,and_true]at q0 q1 q2 q3
 subst q0
 subst q1
 subst q2
 subst q3
 exact⟨⟨kk,nn,a2,L2,cap2,a3,L3,cap3⟩,rfl,⟨by show kk < 256;omega,by show nn < 256;omega,⟨kV,dX⟩,nI,nH,Zz5 s8 pQ pR,s7⟩⟩
theorem Zvr:Tryz.prog.underlying 96=some (.struct #[⟨ "Kind",5,0,false, "", "",0⟩,⟨ "N",5,1,false, "", "",1⟩,⟨ "Ticks",5,2,false, "", "",2⟩,⟨ "Goto",5,3,false, "", "",3⟩,⟨ "Regex",93,4,false, "", "",8⟩,⟨ "Acts",94,5,false, "", "",32⟩]):=by kernel_rfl
theorem Zuo(n:Nat)(cs:List Value)(x:DataW H×List MemPlace)(h:DataW.trod enc Tryz.prog W 0 (λ_=>true) cX n 96 cs=some x)(hw:∀w∈x.1.weights Tryz.prog 96,w<=reachBytes):∃s:SRul,cs=s.cs/\RepSR (Zoo W) s:=by
 obtain⟨xs,k,hk,eA,aZ,cZ,hx⟩:=DataW.trod_struct Zvr h
 have hc:Tryz.prog.cellsOf 96=6:=by kernel_rfl
 rw[hc]at aZ
 obtain⟨c0,c1,c2,c3,c4,c5,rfl⟩:∃c0 c1 c2 c3 c4 c5,cs=[c0,c1,c2,c3,c4,c5]:=by
  match cs,aZ with
  | [c0,c1,c2,c3,c4,c5],_=>exact⟨c0,c1,c2,c3,c4,c5,rfl⟩
 obtain⟨z0,z1,z2,z3,z4,z5,rfl⟩:∃z0 z1 z2 z3 z4 z5,xs=[z0,z1,z2,z3,z4,z5]:=by
  match xs,cZ with
  | [z0,z1,z2,z3,z4,z5],_=>exact⟨z0,z1,z2,z3,z4,z5,rfl⟩
 rw[eA]at hw
 simp only[DataW.weights,Zvr]at hw
 have g0:DataW.trod enc Tryz.prog W 0 (λ_=>true) cX k 5 (List.take (Tryz.prog.cellsOf 5) (List.drop 0 [c0,c1,c2,c3,c4,c5]))=some z0:=hx 0 _ rfl
 rw[show Tryz.prog.cellsOf 5=1 by kernel_rfl]at g0
 obtain⟨kk0,q0,_,w0⟩:=DataW.trod_int Tryz.underlying5 g0
 have b0:=wu8 w0
 obtain⟨kk,rfl⟩:∃z:Nat,kk0=z:=⟨kk0.toNat,by omega⟩
 have g1:DataW.trod enc Tryz.prog W 0 (λ_=>true) cX k 5 (List.take (Tryz.prog.cellsOf 5) (List.drop 1 [c0,c1,c2,c3,c4,c5]))=some z1:=hx 1 _ rfl
 rw[show Tryz.prog.cellsOf 5=1 by kernel_rfl]at g1
 obtain⟨nn0,q1,_,w1⟩:=DataW.trod_int Tryz.underlying5 g1
 have b1:=wu8 w1
 obtain⟨nn,rfl⟩:∃z:Nat,nn0=z:=⟨nn0.toNat,by omega⟩
 have g2:DataW.trod enc Tryz.prog W 0 (λ_=>true) cX k 5 (List.take (Tryz.prog.cellsOf 5) (List.drop 2 [c0,c1,c2,c3,c4,c5]))=some z2:=hx 2 _ rfl
 rw[show Tryz.prog.cellsOf 5=1 by kernel_rfl]at g2
 obtain⟨tt0,q2,_,w2⟩:=DataW.trod_int Tryz.underlying5 g2
 have b2:=wu8 w2
 obtain⟨tt,rfl⟩:∃z:Nat,tt0=z:=⟨tt0.toNat,by omega⟩
 have g3:DataW.trod enc Tryz.prog W 0 (λ_=>true) cX k 5 (List.take (Tryz.prog.cellsOf 5) (List.drop 3 [c0,c1,c2,c3,c4,c5]))=some z3:=hx 3 _ rfl
 rw[show Tryz.prog.cellsOf 5=1 by kernel_rfl]at g3
 obtain⟨gg0,q3,_,w3⟩:=DataW.trod_int Tryz.underlying5 g3
 have b3:=wu8 w3
 obtain⟨gg,rfl⟩:∃z:Nat,gg0=z:=⟨gg0.toNat,by omega⟩
 have g4:DataW.trod enc Tryz.prog W 0 (λ_=>true) cX k 93 (List.take (Tryz.prog.cellsOf 93) (List.drop 4 [c0,c1,c2,c3,c4,c5]))=some z4:=hx 4 _ rfl
 rw[show Tryz.prog.cellsOf 93=1 by kernel_rfl]at g4
 obtain⟨L4,a4,cap4,q4,s9,td,cW,pS⟩:=ZdA (Zim:=s8C) (Q:=(λs:Nat×Nat×Nat=>s.1 < 256/\s.2.1 < 256/\s.2.2 < 256)) (k:=3) (by kernel_rfl) (by kernel_rfl) (λ_=>rfl) (by decide) (zA6 (by kernel_rfl)) g4 (λw jv=>hw w (DataW.weights_mem_each (j:=4) (t:=93) rfl rfl w jv)) λn' _ cs' y hy kW=>ZyI n' cs' y hy kW
 have g5:DataW.trod enc Tryz.prog W 0 (λ_=>true) cX k 94 (List.take (Tryz.prog.cellsOf 94) (List.drop 5 [c0,c1,c2,c3,c4,c5]))=some z5:=hx 5 _ rfl
 rw[show Tryz.prog.cellsOf 94=1 by kernel_rfl]at g5
 obtain⟨L5,a5,cap5,q5,te,tf,cE,pT⟩:=ZdA (Zim:=SAct.cs) (Q:=RepSA (Zoo W)) (k:=4) (by kernel_rfl) (by kernel_rfl) (λ_=>rfl) (by decide) (zA6 (by kernel_rfl)) g5 (λw jv=>hw w (DataW.weights_mem_each (j:=5) (t:=94) rfl rfl w jv)) λn' _ cs' y hy kW=>Zun n' cs' y hy kW
 simp only[List.drop,List.take,List.cons.injEq,and_true]at q0 q1 q2 q3 q4 q5
 subst q0
 subst q1
 subst q2
 subst q3
 subst q4
 subst q5
 exact⟨⟨kk,nn,tt,gg,a4,L4,cap4,a5,L5,cap5⟩,rfl,⟨by show kk < 256;omega,by show nn < 256;omega,by show tt < 256;omega,by show gg < 256;omega,ZBm td cW pS,s9,tf,te,cE,pT⟩⟩
theorem Zup(n:Nat)(cs:List Value)(x:DataW H×List MemPlace)(h:DataW.trod enc Tryz.prog W 0 (λ_=>true) cX n 92 cs=some x)(hw:∀w∈x.1.weights Tryz.prog 92,w<=reachBytes):∃s:SSta,cs=s.cs/\RepSS (Zoo W) s:=by
 obtain⟨L,a,cap,q,xr,qb,aM,bU⟩:=ZdA (Zim:=SRul.cs) (Q:=RepSR (Zoo W)) (k:=6) (by kernel_rfl) (by kernel_rfl) (λ_=>rfl) (by decide) (zA6 (by kernel_rfl)) h hw λn' _ cs' y hy kW=>Zuo n' cs' y hy kW
 exact⟨⟨a,L,cap⟩,q,⟨qb,xr,aM,bU⟩⟩
theorem Zsm:Tryz.prog.underlying 25=some (.struct #[⟨ "Buffer",5,0,false, "", "",0⟩,⟨ "Values",22,1,false, "", "",8⟩,⟨ "States",23,2,false, "", "",32⟩]):=by kernel_rfl
theorem Zuq(n:Nat)(cs:List Value)(x:DataW H×List MemPlace)(h:DataW.trod enc Tryz.prog W 0 (λ_=>true) cX n 25 cs=some x)(hw:∀w∈x.1.weights Tryz.prog 25,w<=reachBytes):∃s:SScr,cs=s.cs/\RepSC (Zoo W) s:=by
 obtain⟨xs,k,hk,eA,aZ,cZ,hx⟩:=DataW.trod_struct Zsm h
 have hc:Tryz.prog.cellsOf 25=3:=by kernel_rfl
 rw[hc]at aZ
 obtain⟨c0,c1,c2,rfl⟩:∃c0 c1 c2,cs=[c0,c1,c2]:=by
  match cs,aZ with
  | [c0,c1,c2],_=>exact⟨c0,c1,c2,rfl⟩
 obtain⟨z0,z1,z2,rfl⟩:∃z0 z1 z2,xs=[z0,z1,z2]:=by
  match xs,cZ with
  | [z0,z1,z2],_=>exact⟨z0,z1,z2,rfl⟩
 rw[eA]at hw
 simp only[DataW.weights,Zsm]at hw
 have g0:DataW.trod enc Tryz.prog W 0 (λ_=>true) cX k 5 (List.take (Tryz.prog.cellsOf 5) (List.drop 0 [c0,c1,c2]))=some z0:=hx 0 _ rfl
 rw[show Tryz.prog.cellsOf 5=1 by kernel_rfl]at g0
 obtain⟨kk0,q0,_,w0⟩:=DataW.trod_int Tryz.underlying5 g0
 have b0:=wu8 w0
 obtain⟨kk,rfl⟩:∃z:Nat,kk0=z:=⟨kk0.toNat,by omega⟩
 have g1:DataW.trod enc Tryz.prog W 0 (λ_=>true) cX k 22 (List.take (Tryz.prog.cellsOf 22) (List.drop 1 [c0,c1,c2]))=some z1:=hx 1 _ rfl
 rw[show Tryz.prog.cellsOf 22=1 by kernel_rfl]at g1
 obtain⟨L1,a1,cap1,q1,xt,tg,pU,pV⟩:=ZdA (Zim:=(λn:Nat=>[Value.int .u8 n])) (Q:=(λn:Nat=>n < 256)) (k:=1) (by kernel_rfl) (by kernel_rfl) (λ_=>rfl) (by decide) (zA6 (by kernel_rfl)) g1 (λw jv=>hw w (DataW.weights_mem_each (j:=1) (t:=22) rfl rfl w jv)) λn' _ cs' y hy kW=>Zvp n' cs' y hy
 have g2:DataW.trod enc Tryz.prog W 0 (λ_=>true) cX k 23 (List.take (Tryz.prog.cellsOf 23) (List.drop 2 [c0,c1,c2]))=some z2:=hx 2 _ rfl
 rw[show Tryz.prog.cellsOf 23=1 by kernel_rfl]at g2
 obtain⟨L2,a2,cap2,q2,nH,nI,dX,kV⟩:=ZdA (Zim:=SSta.cs) (Q:=RepSS (Zoo W)) (k:=1) (by kernel_rfl) (by kernel_rfl) (λ_=>rfl) (by decide) (zA6 (by kernel_rfl)) g2 (λw jv=>hw w (DataW.weights_mem_each (j:=2) (t:=23) rfl rfl w jv)) λn' _ cs' y hy kW=>Zup n' cs' y hy kW
 simp only[List.drop,List.take,List.cons.injEq,and_true]at q0 q1 q2
 subst q0
 subst q1
 subst q2
 exact⟨⟨kk,a1,L1,cap1,a2,L2,cap2⟩,rfl,⟨by show kk < 256;omega,⟨pV,pU⟩,tg,nI,nH,dX,kV⟩⟩
end
theorem Zz6:ownKnob Tryz.prog.godebug=none:=by kernel_rfl
theorem ZyJ:laidOutB Tryz.prog=true:=by kernel_rfl
set_option maxHeartbeats 4000000 in
theorem ZgB(H:Type)(enc:TypeId×Value->H)(W:World)(base:Nat)(args:Array Value)(ds gs:List (DataW H))(before:List MemPlace)
  (lP:∀(j:Nat) t v,Tryz.f4.params[j]?=some t->args[j]?=some v->Value.okWide Tryz.prog W .any base t v)
  (hW:DataW.Whole enc Tryz.prog Tryz.f4.params.toList Rows.timesOthersSpec.vars false W args.toList ds gs before) (bH:(DataW.weightsEach Tryz.prog (Tryz.f4.params.toList++Rows.timesOthersSpec.plain.varTypes Tryz.prog) (ds++gs)).all (λn=>decide (n<=reachBytes))=true):
  Calls Tryz.prog 4 args W λe W'=>∃v,e=.returned v/\Rows.timesOthersSpec.post enc Tryz.prog Tryz.f4 false true false false W args v W':=by
 have hW':=hW
 obtain⟨p,q,xu,hV,rfl,kX,fR⟩:=hW
 have hA:DataW.TrodAll enc Tryz.prog W 0 (λ_=>true) true Tryz.f4.params.toList args.toList ds p:=xu
 rw[Tryz.params4]at hA lP
 obtain⟨v0,vs0,d0,ds0,p0,q0,a0,rfl,rfl,h0,r0⟩:=trodAll_cons hA
 obtain⟨rfl,rfl,rfl⟩:=trodAll_nil r0
 obtain rfl:args=#[v0]:=by cases args;simp_all
 obtain⟨rfl,rfl⟩:=trodVars_none hV
 obtain⟨f0,g0⟩:=h0
 obtain⟨cs0,rfl,-⟩:=okWide_struct Zsm (lP 0 _ v0 rfl rfl)
 obtain⟨Lc0,rfl⟩:∃L:List Value,cs0=L.toArray:=⟨cs0.toList,by simp⟩
 obtain⟨x,jV,pW⟩:=Zuq f0 _ _ g0 (λw jv=>by
  have:=List.all_eq_true.1 bH w (DataW.weights_mem_each (j:=0) (t:=25) (d:=d0) (by rw[Tryz.params4];rfl) rfl w jv)
  simpa using this)
 replace jV:Lc0=x.cs:=jV
 subst jV
 exact Zs2 (tb:=4) ZyJ (by rw[Tryz.params4];intro t ht;simp at ht;rcases ht with rfl <;> exact⟨by kernel_rfl,zA6 (by kernel_rfl)⟩) hW' rfl rfl rfl rfl rfl Tryz.underlying4 ((Zi8 x (Zoo W) pW))
theorem Zi9(os:Os)(started:os.Started)(H:Type)(enc:TypeId×Value->H):
  ReturnsInHanded {} Tryz.checked os 4 .any (λw args=>(Rows.timesOthersSpec.pre enc Tryz.prog Tryz.f4 Rows.timesOthersRow.domain false w args/\laidMetH Tryz.prog Rows.timesOthersRow.laid w)/\sizedMet enc Tryz.prog Tryz.f4 (OpenSpec.ofChange Rows.timesOthersSpec) false w args)
   (Rows.timesOthersSpec.post enc Tryz.prog Tryz.f4 false true false false):=by
 refine returnsInHanded_of_change_and (C:=Tryz.checked) (X:=λw _=>laidMetH Tryz.prog Rows.timesOthersRow.laid w) (λ_ _ _ hh h=>h.of_heap hh) Zz6 started (by kernel_rfl) Tryz.func4
  (ChangeSpec.witness_shaped (enc:=enc) (C:=Tryz.checked) (os:=os) (X:=λw _=>laidMetH Tryz.prog Rows.timesOthersRow.laid w) false (World.laidAll Tryz.prog os Rows.timesOthersRow.laid) #[.agg #[.int .u8 0,.slice none 0 0,.slice none 0 0]] 8 (World.laidAll_os _ _ _)
   (World.shaped_of_ZipB (by kernel_rfl) (by kernel_rfl)) (by kernel_rfl) (by kernel_rfl) (by kernel_rfl)
   (by rw[MakeChecks.laidMetH_plain _ _ _ (by kernel_rfl)];exact laidMet_laidAll _ (by kernel_rfl) (by kernel_rfl))) ?_
 intro W base args ds gs before lP hW _ bH _ _
 exact ZgB H enc W base args ds gs before lP hW bH
theorem ZpP:Rows.TimesOthersSaid:=
 OpenClaim.holds_of_wide 4 Tryz.f4 rfl rfl rfl rfl rfl rfl rfl ⟨rfl,rfl,rfl,rfl,rfl⟩ rfl rfl rfl rfl rfl (by kernel_rfl) Tryz.func4 (by kernel_rfl)
  (zA6 (by kernel_rfl)) (by unfold Func.isWrapper;first|(rw[if_pos (by decide +kernel)];kernel_rfl)|(rw[if_neg (by decide +kernel)];exact⟨rfl,rfl⟩))
  (λos started H enc _=>Zi9 os started H enc)
theorem tothers_holds:Rows.TimesOthersCardSaid:=
 Claim7.holds_tied_plain_at .later [] [.data,.pinned] true (true, "05205a6e7e1b52455f10cd97634c44fee2cb8ace980db511814d9064acc160a4") false ZpP (λ_ h=>by cases h) (by kernel_rfl) (λ_ h=>by cases h) timesOthers_row_tie rfl ⟨rfl,rfl⟩ (by kernel_rfl) rfl
  (λf fn hf lu=>by
   obtain rfl:f=4:=Option.some.inj ((show Tryz.prog.funcNamed "repartee/reparteelaw40.TimesOthers" = some 4 by kernel_rfl).symm.trans hf) |>.symm
   obtain rfl:fn=Tryz.f4:=(Option.some.inj (Tryz.func4.symm.trans lu)).symm
   exact⟨by kernel_rfl,λj t ht=>by
    rw[Tryz.params4]at ht
    have hm:t∈[25]:=by simpa using Array.mem_of_getElem? ht
    have bU:([25].all λu=>!Tryz.prog.wantsStandIn u)=true:=by kernel_rfl
    exact(show Tryz.prog.wantsStandIn t=false by simpa using List.all_eq_true.1 bU t hm)⟩)
  (by kernel_rfl)
#print axioms tothers_holds
end Go.Proofs.YtojlhhphofhaoaaGreatDoor