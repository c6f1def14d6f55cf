/- Part of the proof: functions of the program. No condition. -/
import Derived.Test.YtpjepnkiiojgfaaGreatPEnv
import Derived.Test.YtpjepnkiiojgfaaGreatMc
import Derived.Test.YtpjepnkiiojgfaaGreatPC40L
import Derived.Test.YtpjepnkiiojgfaaGreatPC25E
import Derived.Test.YtpjepnkiiojgfaaGreatPC40M
import Derived.Test.YtpjepnkiiojgfaaGreatMr
set_option linter.unusedVariables false
set_option linter.unusedSimpArgs false
set_option linter.unusedSectionVars false
namespace Go.Proofs.YtpjepnkiiojgfaaGreat
open Go Go.Eng Go.Proofs Go.RowKit
open Go.Value (int slice agg bool string tuple func)
open Go.IntKind (u8 u64 i64)
set_option maxRecDepth 100000
noncomputable def Zew:Env:={ EB with
 loops:=(λi=>bif Nat.beq i 12 then⟨[(77,.int .i64)],[],[],false⟩ else bif Nat.beq i 16 then⟨[(16,.slice),(85,.int .i64)],[],[(98,1)],false⟩ else bif Nat.beq i 26 then⟨[(113,.int .i64)],[],[],false⟩ else⟨[],[],[],false⟩)
 dr:=(λi=>bif Nat.beq i 5 then[⟨0,[],[],none,[],[]⟩,⟨1,[],[],none,[0],[]⟩,⟨2,[],[],none,[],[]⟩,⟨3,[],[],none,[0,1,2],[]⟩,⟨4,[],[],none,[],[]⟩,⟨5,[],[],none,[4],[]⟩,⟨6,[],[],none,[],[]⟩,⟨7,[],[],none,[4,5,6],[]⟩,⟨8,[],[],none,[0,1,2,3],[]⟩,⟨9,[],[],none,[0,1,2,3,4,5,6,7,8],[]⟩]else bif Nat.beq i 7 then[⟨0,[7],[],none,[],[]⟩,⟨1,[7],[],none,[],[]⟩,⟨2,[7],[],none,[1],[]⟩,⟨3,[],[],none,[],[]⟩,⟨4,[],[],none,[1,2,3],[]⟩,⟨5,[],[],none,[1,2,3,4],[]⟩,⟨6,[],[],none,[1,2,3,4,5],[]⟩,⟨7,[7],[],none,[],[]⟩,⟨8,[7],[],none,[7],[]⟩,⟨9,[],[],none,[],[]⟩,⟨10,[],[],none,[7,8,9],[]⟩,⟨11,[],[],none,[7,8,9,10],[]⟩,⟨12,[],[],none,[7,8,9,10,11],[]⟩,⟨13,[],[],none,rg 0 13,[]⟩,⟨14,[12],[12],none,[],[]⟩,⟨15,[12],[12],none,rg 0 15,[]⟩]else bif Nat.beq i 9 then[⟨0,[],[],none,[],[]⟩,⟨1,[],[],none,[0],[]⟩,⟨2,[],[],none,[],[]⟩,⟨3,[],[],none,[0,1,2],[]⟩,⟨4,[],[],none,[0,1,2,3],[]⟩,⟨5,[],[],none,[0,1,2,3,4],[]⟩,⟨6,[],[],none,[0,1,2,3,4,5],[]⟩,⟨7,[],[],none,[0,1,2,3,4],[]⟩,⟨8,[],[],none,[0,1,2,3,4,5,6,7],[]⟩,⟨9,[],[],none,[0,1,2,3,4,5,6,7,8],[]⟩,⟨10,[],[],none,[0,1,2,3,4,5,6,7,8,9],[]⟩,⟨11,[12],[],none,[0,1,2,3,4,5,6,7,8,9,10],[]⟩,⟨12,[],[],none,rg 0 12,[]⟩,⟨13,[7],[],none,[0,1,2,3,4,5,6,7,8,9,10],[]⟩,⟨14,[],[],none,rg 0 14,[12]⟩,⟨15,[],[],none,rg 0 15,[]⟩,⟨16,[],[],none,rg 0 16,[]⟩]else bif Nat.beq i 19 then[⟨0,[],[],none,[],[]⟩,⟨1,[],[],none,[],[]⟩,⟨2,[18],[],none,[],[]⟩,⟨3,[18],[],none,[2],[]⟩,⟨4,[],[],none,[1,2,3],[1]⟩,⟨5,[97],[97],none,[1,2,3,4],[4]⟩,⟨6,[97],[],some 98,[0,1,2,3,4,5],[5]⟩,⟨7,[],[],none,[0,1,2,3,4,5,6],[]⟩]else bif Nat.beq i 32 then[⟨0,[],[],none,[],[]⟩,⟨1,[],[],none,[],[]⟩,⟨2,[],[],none,[0,1],[]⟩,⟨3,[],[],none,[0,1,2],[]⟩,⟨4,[],[],none,[],[]⟩]else bif Nat.beq i 35 then[⟨0,[7],[],none,[],[]⟩,⟨1,[7],[],none,[],[]⟩,⟨2,[7],[],none,[1],[]⟩,⟨3,[],[],none,[],[]⟩,⟨4,[],[],none,[1,2,3],[]⟩,⟨5,[],[],none,[1,2,3,4],[]⟩,⟨6,[],[],none,[1,2,3,4,5],[]⟩,⟨7,[7],[],none,[],[]⟩,⟨8,[7],[],none,[7],[]⟩,⟨9,[],[],none,[],[]⟩,⟨10,[],[],none,[7,8,9],[]⟩,⟨11,[],[],none,[7,8,9,10],[]⟩,⟨12,[],[],none,[7,8,9,10,11],[]⟩,⟨13,[],[],none,rg 0 13,[]⟩,⟨14,[21],[21],none,[],[]⟩,⟨15,[21],[21],none,rg 0 15,[]⟩]else bif Nat.beq i 36 then[⟨0,[7],[],none,[],[]⟩,⟨1,[7],[],none,[],[]⟩,⟨2,[7],[],none,[1],[]⟩,⟨3,[],[],none,[],[]⟩,⟨4,[],[],none,[1,2,3],[]⟩,⟨5,[],[],none,[1,2,3,4],[]⟩,⟨6,[],[],none,[1,2,3,4,5],[]⟩,⟨7,[],[],none,[0,1,2,3,4,5,6],[]⟩,⟨8,[],[],none,[0,1,2,3,4,5,6,7],[]⟩,⟨9,[],[],none,[0,1,2,3,4,5,6,7,8],[]⟩,⟨10,[],[],none,[0,1,2,3,4,5,6,7,8],[]⟩,⟨11,[],[],none,[0,1,2,3,4,5,6,7,8,9],[]⟩,⟨12,[],[],none,rg 0 12,[]⟩]else bif Nat.beq i 37 then[⟨0,[21],[],none,[],[]⟩,⟨1,[7],[],none,[],[]⟩,⟨2,[],[],none,[0,1],[]⟩,⟨3,[],[],none,[0,1,2],[]⟩,⟨4,[7],[],none,[0,1,2,3],[2]⟩,⟨5,[],[],none,[0,1,2,3,4],[2]⟩,⟨6,[7],[],none,[0,1,2,3],[2]⟩,⟨7,[],[],none,[0,1,2,3,4,5,6],[5]⟩,⟨8,[],[],none,[0,1,2,3,4,5,6,7],[]⟩,⟨9,[],[],none,[0,1,2,3,4,5,6,7,8],[]⟩,⟨10,[],[],none,[0,1,2,3,4,5,6,7,8,9],[]⟩,⟨11,[],[],none,[0,1,2,3,4,5,6,7,8,9],[]⟩,⟨12,[],[],none,rg 0 12,[]⟩,⟨13,[],[],none,rg 0 13,[]⟩,⟨14,[],[],none,rg 0 14,[]⟩,⟨15,[],[],none,rg 0 15,[]⟩,⟨16,[],[],none,rg 0 16,[]⟩,⟨17,[],[],none,rg 0 17,[]⟩,⟨18,[],[],none,rg 0 18,[]⟩,⟨19,[],[],none,rg 0 18,[]⟩,⟨20,[],[],none,rg 0 20,[]⟩,⟨21,[7],[],none,rg 0 18,[]⟩,⟨22,[7],[],none,rg 0 18++[21],[7]⟩,⟨23,[],[],none,rg 0 18,[]⟩,⟨24,[],[],none,rg 0 18++[21,22,23],[]⟩,⟨25,[],[],none,rg 0 18++rg 21 4,[]⟩,⟨26,[],[],none,rg 0 18++rg 21 5,[7]⟩,⟨27,[7],[],none,rg 0 18,[]⟩,⟨28,[7],[],none,rg 0 18++[27],[7]⟩,⟨29,[],[],none,rg 0 18,[]⟩,⟨30,[],[],none,rg 0 18++[27,28,29],[]⟩,⟨31,[],[],none,rg 0 18++rg 27 4,[]⟩,⟨32,[],[],none,rg 0 18++rg 27 5,[7]⟩,⟨33,[],[],none,rg 0 18++rg 21 12,[]⟩,⟨34,[],[],none,rg 0 34,[]⟩,⟨35,[],[],none,rg 0 35,[]⟩,⟨36,[],[],none,rg 0 36,[]⟩]else[])
 tokOf:=(λi=>bif Nat.beq i 98 then 98 else 0)
 frzNew:=[3]
 thaw:=true
 stAt:=(λi=>bif Nat.beq i 124 then some 98 else none)
 last:=(λi=>bif Nat.beq i 32 then true else false)
 lastK:=(λi=>bif Nat.beq i 32 then 3 else 1)
 gb:=true
 hot:=λi=>Nat.beq i 32
 cuts:=λi=>bif Nat.beq i 33 then some ⟨[(135,.bool)],[],[(98,1)],false⟩ else none
 lentC:=(λi=>bif Nat.beq i 101 then some [(98,1)]else bif Nat.beq i 103 then some [(98,1)]else bif Nat.beq i 127 then some [(98,1)]else bif Nat.beq i 133 then some [(98,1)]else none) }
theorem Zec(aA:Int)(aW:Option Addr)(aP aX:Nat)(aN:Option Addr)(aJ aV:Nat)(p1 p2:Int)(m:Mem)(R:RT)(h:
 lE (i64.wrap p2) λyL=>lE (i64.wrap p1) λcw=>lV [int u8 aA,slice aW aP aX,slice aN aJ aV] λxL=>fzM m xL λb m'=>lE [some (Box.mk b xL 25 3 true true)] λcx=>
 m.free b->(∀(b' o:Nat)(u:Value),m' b' o=some u->m b' o=some u\/b'=b)->kB Tryz.prog 9 [] m' λcy m'=>br (!cy) (rtM m m' R (bool false)) (∃(R_1:RT),True/\CX Tryz.prog 10 (Array.mk [agg
 (Array.mk xL)]) m' [] R_1/\ZbC (Shape.agg [Shape.int i64,Shape.slice,Shape.slice]) R_1/\∀(n:Int)(a:Option Addr)(cz c:Nat)(aw:Option Addr)(ar da:Nat)(bk:Mem),lE (↑ar:Int) λax=>lE (Int.tmod
 yL ax) λyL=>lE (Int.toNat yL*2) λbl=>lE (Int.tmod cw ax) λay=>lE (Int.toNat ay*2) λbb=>lV [int i64 n,slice a cz c,slice aw ar da] λxL=>lX (agg (Array.mk xL)) λao=>lV [ao,string
 (ByteArray.mk (Array.mk [110,111,119,104,101,114,101])),string (ByteArray.mk (Array.mk [97]))] λbx=>m'.le bk->R_1 ao bk []
 -> ∀(db:Nat),lE (some (Box.mk db xL 32 3 false true)::cx) λxL=>ax≠(0:Int)/\ax≠(0:Int)/\kS Tryz.prog 32 [ao] bk λa n c m'=>∃(f:Fx),atA aw λdc o=>Zad ay ar/\∃(v:Value),m' dc (o +
 bb+0)=some v/\atA aw λdd o=>Zad yL ar/\∃(bm:Value),m' dd (o+bl+0)=some bm/\∃(R_2:RT),R_2=f 13 [ao,v,bm] m'/\CX Tryz.prog 33 (Array.mk [ao,v,bm]) m' [] R_2/\ZbC (Shape.agg
 [Shape.int i64,Shape.slice,Shape.slice]) R_2/\∀(de:Int)(df:Option Addr)(dg c:Nat)(dh:Option Addr)(di dj:Nat)(bn:Mem),lV [int i64 de,slice df dg c,slice dh di dj] λbz=>lX (agg (Array.mk bz))
 λbc=>m'.le bn->R_2 bc bn []->∀(dk:Nat)(M:Mem),lE (some (Box.mk dk bz 32 3 false true)) λca=>lE (ca::ca::xL) λxL=>m'.le M->bn.le M->kS Tryz.prog 32 [bc] M λal ak c m'=>∃(f
 : Fx),br (!(↑n:Int) == ax) (∀(M:Mem),m'.le M->m'.le M->m'.le M->rtM m M R (bool false)) (br (!(↑ak:Int) == ax) (∀(M:Mem),m'.le M->m'.le M->m'.le M->rtM m M R (bool false)) (∃
 (R_3:RT),R_3=f 12 [bc] m'/\CX Tryz.prog 21 (Array.mk [bc]) m' [] R_3/\ZbC (Shape.agg [Shape.int i64,Shape.int i64,Shape.int i64,Shape.int i64,Shape.int i64,Shape.int i64]) R_3/\∀(dl dm dn dp dq dr:Int)
 (a3:Mem),lX (agg (Array.mk [int i64 dl,int i64 dm,int i64 dn,int i64 dp,int i64 dq,int i64 dr])) λcb=>m'.le a3->R_3 cb a3 []->∃(R_4:RT),R_4=f 14 [ao] a3/\CX Tryz.prog 21 (Array.mk [ao]) a3 []
 R_4/\ZbC (Shape.agg [Shape.int i64,Shape.int i64,Shape.int i64,Shape.int i64,Shape.int i64,Shape.int i64]) R_4/\∀(ds dt du dv dw dx:Int)(bo:Mem),lX (agg (Array.mk [int i64 ds,int i64 dt,int i64 du,int
 i64 dv,int i64 dw,int i64 dx])) λcc=>a3.le bo->R_4 cc bo []->∃(cd:Bool),EqIs Tryz.prog 75 cb cc cd/\∀(M:Mem),m'.le M->a3.le M->bo.le M->br (!cd) (rtM m M R (bool false)) (∃(I:IT),
 inI I [int i64 0] [] [] M/\∀(aj:Int)(m':Mem)(ce:Nat),lE (Int.toNat aj*1) λai=>True->I [int i64 aj] [] [] m' ce->br (decide (aj < ax)) (atA aw λbd o=>Zad aj ar/\∃v aq:Value,lV [v,aq] λcf=>m'.reads bd (o+Int.toNat aj*2) cf/\∀(be:Nat),lE (some (Box.mk be cf 36 2 false true)::xL) λag=>chk (v.oneCell'&&(aq.oneCell'&&true)) (chk (ZbM aq) (∃(bf
 : IT),inI bf [slice none 0 0,int i64 0] [] [slice none 0 0] m'/\∀(a8:Option Addr)(a9 c:Nat)(az:Int)(bp:Option Addr)(bq bs:Nat)(m':Mem)(ba:Nat),lX (slice bp bq bs) λa0=>lV [int i64
 (i64.wrap (az+(1:Int)))] λcg=>lE (a9+1) λau=>lX (slice a8 a9 c) λa4=>lE (Tok.mk a0 1) λbg=>True->bf [a4,int i64 az] [] [a0] m' ba->br (decide (az < (↑(slN aq):Int))) (chk (ZbM aq)
 (atA (slA aq) λb o=>Zad az (slN aq)/\∃v a5 ch ci cj ck cl cm cn co cp cq cr cs a6 ct:Value,m'.reads b (o+Int.toNat az*16) [v,a5,ch,ci,cj,ck,cl,cm,cn,co,cp,cq,cr,cs,a6,ct]/\∀(b:Nat),chk
 (v.oneCell'&&(a5.oneCell'&&(ch.oneCell'&&(ci.oneCell'&&(cj.oneCell'&&(ck.oneCell'&&(cl.oneCell'&&(cm.oneCell'&&(cn.oneCell'&&(co.oneCell' &&
 (cp.oneCell'&&(cq.oneCell'&&(cr.oneCell'&&(cs.oneCell'&&(a6.oneCell'&&(ct.oneCell'&&true)))))))))))))))) (chk (Zfh a6&&true) (br (!ByteArray.toList (ZbX a6) ==
 ByteArray.toList bE0) (∃(f:Fx),∃(R:RT),R=f 1 [] m'/\CX Tryz.prog 35 (Array.mk []) m' [] R/\ZbC Shape.slice R/\∀(a:Option Addr)(n a1:Nat)(am:Mem),lX (slice a n a1) λyL
 => m'.le am->R yL am []->∃(R:RT),R=f 4 [yL,a6] am/\CX Tryz.prog 34 (Array.mk [yL,a6]) am [] R/\ZbC (Shape.int i64) R/\∀(n:Int)(aa:Mem),lX (int i64 n) λyL=>am.le aa->R yL aa []->∀(b:
 Nat),lM (aa.add b [yL]) λmL=>aa.free b->(bg=Tok.mk a4 1\/a4=slice none 0 0\/c < au)/\∃(xs:List Value),∃(ys:List Value),xs.length=a9*1/\ys.length=1*1/\rowRd mL a8 xs/\
 rowRd mL (some (Addr.mk b 0 none)) ys/\(∀(u:Value),u∈ys->u.oneCell'=true)/\au*8<=140737488355328/\au<=9223372036854775807/\∀(a':Option Addr)(c':Nat)(ap:Mem),mL.le ap->rowRd ap a'
 (List.append xs ys)->TokFact mL a8 a' au c'->∀(M:Mem),m'.le M->am.le M->aa.le M->mL.le M->ap.le M->Zac ag/\nxI ba bf (slice a' au c'::cg) [] [slice a' au c'] M) (Zac ag/\nxI ba
 bf (a4::cg) [] [a0] m'))))) (∃(Y:Nat->Prop),∃(R_5:Value->Mem->List (List Value)->List Value->Prop),CXY Tryz.prog 36 (Array.mk [a4]) m' Y [] [bg] R_5/\(∀(t:Tok),t∈[bg]->∀(b:Nat),Tok.blk t =
 some b->Y b)/\(∀(an:Nat),Y an->(∃(t:Tok),t∈[bg]/\Tok.blk t=some an)\/(m.free an/\Mem.k m an=none)/\((∃(o:Nat),∃(v:Value),m' an o=some v)\/∃(e:List (Value×Value)),Mem.k m' an =
 some e)/\b≠an/\True)/\(∀(v:Value)(m':Mem) (css:List (List Value)) (tvs:List Value),R_5 v m' css tvs->Shape.fits (Shape.tup []) v=true)/\∀(am:Mem),Mem.le (Mem.off m' Y) am->(NewM m' am λb=>Y
 b\/m'.free b)->∀(cu:Option Addr)(c d:Nat),lE [Tok.mk (slice cu c d) 1] λbt=>R_5 (tuple (Array.mk [])) am [] [slice cu c d]->∃(Y:Nat->Prop),∃(R_6:Value->Mem->List (List Value)->List Value->
 Prop),CXY Tryz.prog 37 (Array.mk [a4]) am Y [] bt R_6/\(∀(t:Tok),t∈bt->∀(b:Nat),Tok.blk t=some b->Y b)/\(∀(an:Nat),Y an->(∃(t:Tok),t∈bt/\Tok.blk t=some an)\/(m.free an/\Mem.k m an =
 none)/\((∃(o:Nat),∃(v:Value),am an o=some v)\/∃(e:List (Value×Value)),Mem.k am an=some e)/\b≠an/\True)/\(∀(v:Value)(m':Mem) (css:List (List Value)) (tvs:List Value),R_6 v m' css tvs->
 Shape.fits Shape.slice v=true)/\∀(bh:Option Addr)(a2 c:Nat)(m':Mem),lV [slice bh a2 c] λah=>Mem.le (Mem.off am Y) m'->(NewM am m' λb=>Y b\/am.free b)->∀(dy:Option Addr)(a1 d:Nat),lX
 (slice dy a1 d) λbu=>lE (Tok.mk bu 1) λa7=>lE [some a7,some a7,some a7] λbi=>R_6 (slice bh a2 c) m' [] [bu]->atA a λan o=>Zad aj n/\∃(v:Value),m' an (o+ai)=some v/\kB Tryz.prog 38 (v
 :: ah) m' λdz m'=>br (!dz) (rtM m m' R (bool false)) (∃(bj:IT),inI bj [int i64 0] [] [] m'/\∀(n:Int)(m':Mem)(bv:Nat),lE (Int.toNat n*1) λbw=>lV [int i64 (i64.wrap (n+(1:Int)))] fun
 cv=>True->bj [int i64 n] [] [] m' bv->br (decide (n < (↑a2:Int))) (atA bh λb o=>Zad n a2/\∃(v:Value),m' b (o+bw)=some v/\chk (Za9 i64 v&&decide (i64=i64)) (br (RowKit.intOf v == ay) (atA
 bh λb o=>Zad n a2/\bu=slice (some (Addr.mk b 0 none)) a1 d/\o+bw+1<=a1*1/\Zac ag/\bi=bi/\nxI bv bj cv [] [] (Mem.upd m' b (o+bw) [int i64 yL])) (Zac ag/\bi=bi/\nxI bv bj cv [] []
 m'))) (∃(Y:Nat->Prop),∃(R_7:Value->Mem->List (List Value)->List Value->Prop),CXY Tryz.prog 36 (Array.mk ah) m' Y [] [a7] R_7/\(∀(t:Tok),t∈[a7]->∀(b:Nat),Tok.blk t=some b->Y b)/\(∀(ac:
 Nat),Y ac->(∃(t:Tok),t∈[a7]/\Tok.blk t=some ac)\/(m.free ac/\Mem.k m ac=none)/\((∃(o:Nat),∃(v:Value),m' ac o=some v)\/∃(e:List (Value×Value)),Mem.k m' ac=some e)/\b≠ac/\True)/\
 (∀(v:Value)(m':Mem) (css:List (List Value)) (tvs:List Value),R_7 v m' css tvs->Shape.fits (Shape.tup []) v=true)/\∀(aa:Mem),Mem.le (Mem.off m' Y) aa->(NewM m' aa λb=>Y b\/m'.free b)->∀(a
 : Option Addr) (c d:Nat),lE [Tok.mk (slice a c d) 1] λad=>R_7 (tuple (Array.mk [])) aa [] [slice a c d]->∃(J:JT),((((atA al λac o=>lE (aa ac (o+ai)) λyL=>Zad aj ak/\(∃(v:Value),yL =
 some v/\∃(Y:Nat->Prop),∃(R:Value->Mem->List (List Value)->List Value->Prop),CXY Tryz.prog 37 (Array.mk ah) aa Y [] ad R/\(∀(t:Tok),t∈ad->∀(b:Nat),Tok.blk t=some b->Y b)/\(∀(ab:Nat),Y ab
 -> (∃(t:Tok),t∈ad/\Tok.blk t=some ab)\/(m.free ab/\Mem.k m ab=none)/\((∃(o:Nat),∃(v:Value),aa ab o=some v)\/∃(e:List (Value×Value)),Mem.k aa ab=some e)/\b≠ab/\True)/\(∀(v:
 Value) (m':Mem) (css:List (List Value)) (tvs:List Value),R v m' css tvs->Shape.fits Shape.slice v=true)/\∀(a:Option Addr)(n c:Nat)(m':Mem),Mem.le (Mem.off aa Y) m'->(NewM aa m' λb=>Y b\/
 aa.free b)->∀(ae:Option Addr)(af d:Nat),R (slice a n c) m' [] [slice ae af d]->kB Tryz.prog 38 [v,slice a n c] m' λb m'=>Zac ag/\([none,none,none,none]:List (Option Tok))=[none,none,none,
 none]/\J [bool !b] [] [slice ae af d] m')/\(∃(v:Value),yL=some v/\∃(Y:Nat->Prop),∃(R:Value->Mem->List (List Value)->List Value->Prop),CXY Tryz.prog 37 (Array.mk ah) aa Y [] ad R/\(∀(t:Tok),t ∈
 ad->∀(b:Nat),Tok.blk t=some b->Y b)/\(∀(ab:Nat),Y ab->(∃(t:Tok),t∈ad/\Tok.blk t=some ab)\/(m.free ab/\Mem.k m ab=none)/\((∃(o:Nat),∃(v:Value),aa ab o=some v)\/∃(e:List
 (Value×Value)),Mem.k aa ab=some e)/\b≠ab/\True)/\(∀(v:Value)(m':Mem) (css:List (List Value)) (tvs:List Value),R v m' css tvs->Shape.fits Shape.slice v=true)/\∀(a:Option Addr)(n c:Nat) (m'
 : Mem),Mem.le (Mem.off aa Y) m'->(NewM aa m' λb=>Y b\/aa.free b)->∀(ae:Option Addr)(af d:Nat),R (slice a n c) m' [] [slice ae af d]->kB Tryz.prog 38 [v,slice a n c] m' λb m'=>Zac ag/\
 ([none,none,none,none]:List (Option Tok))=[none,none,none,none]/\J [bool !b] [] [slice ae af d] m')/\∃(Y:Nat->Prop),∃(R:Value->Mem->List (List Value)->List Value->Prop),CXY Tryz.prog 37
 (Array.mk ah) aa Y [] ad R/\(∀(t:Tok),t∈ad->∀(b:Nat),Tok.blk t=some b->Y b)/\(∀(ab:Nat),Y ab->(∃(t:Tok),t∈ad/\Tok.blk t=some ab)\/(m.free ab/\Mem.k m ab=none)/\((∃(o:Nat),∃(v
 : Value),aa ab o=some v)\/∃(e:List (Value×Value)),Mem.k aa ab=some e)/\b≠ab/\True)/\(∀(v:Value)(m':Mem) (css:List (List Value)) (tvs:List Value),R v m' css tvs->Shape.fits Shape.slice v =
 true)/\∀(a:Option Addr)(n c:Nat)(m':Mem),Mem.le (Mem.off aa Y) m'->(NewM aa m' λb=>Y b\/aa.free b)->∀(ae:Option Addr)(af d:Nat),R (slice a n c) m' [] [slice ae af d]->∃(v:Value),m' ac
 (o+ai)=some v/\kB Tryz.prog 38 [v,slice a n c] m' λb m'=>Zac ag/\([none,none,none,none]:List (Option Tok))=[none,none,none,none]/\J [bool !b] [] [slice ae af d] m')/\(atA al λac o=>
 Zad aj ak/\(∃(v:Value),aa ac (o+ai)=some v/\∃(Y:Nat->Prop),∃(R:Value->Mem->List (List Value)->List Value->Prop),CXY Tryz.prog 37 (Array.mk ah) aa Y [] ad R/\(∀(t:Tok),t∈ad->∀(b:
 Nat),Tok.blk t=some b->Y b)/\(∀(ab:Nat),Y ab->(∃(t:Tok),t∈ad/\Tok.blk t=some ab)\/(m.free ab/\Mem.k m ab=none)/\((∃(o:Nat),∃(v:Value),aa ab o=some v)\/∃(e:List (Value×Value)),
 Mem.k aa ab=some e)/\b≠ab/\True)/\(∀(v:Value)(m':Mem) (css:List (List Value)) (tvs:List Value),R v m' css tvs->Shape.fits Shape.slice v=true)/\∀(a:Option Addr)(n c:Nat)(m':Mem),Mem.le
 (Mem.off aa Y) m'->(NewM aa m' λb=>Y b\/aa.free b)->∀(ae:Option Addr)(af d:Nat),R (slice a n c) m' [] [slice ae af d]->kB Tryz.prog 38 [v,slice a n c] m' λb m'=>Zac ag/\([none,none,none,
 none]:List (Option Tok))=[none,none,none,none]/\J [bool !b] [] [slice ae af d] m')/\∃(Y:Nat->Prop),∃(R:Value->Mem->List (List Value)->List Value->Prop),CXY Tryz.prog 37 (Array.mk ah) aa Y [] ad R/\
 (∀(t:Tok),t∈ad->∀(b:Nat),Tok.blk t=some b->Y b)/\(∀(ab:Nat),Y ab->(∃(t:Tok),t∈ad/\Tok.blk t=some ab)\/(m.free ab/\Mem.k m ab=none)/\((∃(o:Nat),∃(v:Value),aa ab o=some v)\/
 ∃(e:List (Value×Value)),Mem.k aa ab=some e)/\b≠ab/\True)/\(∀(v:Value)(m':Mem) (css:List (List Value)) (tvs:List Value),R v m' css tvs->Shape.fits Shape.slice v=true)/\∀(a:Option Addr) (n c
 : Nat) (m':Mem),Mem.le (Mem.off aa Y) m'->(NewM aa m' λb=>Y b\/aa.free b)->∀(ae:Option Addr)(af d:Nat),R (slice a n c) m' [] [slice ae af d]->∃(v:Value),m' ac (o+ai)=some v/\kB Tryz.prog
 38 [v,slice a n c] m' λb m'=>Zac ag/\([none,none,none,none]:List (Option Tok))=[none,none,none,none]/\J [bool !b] [] [slice ae af d] m')/\∃(Y:Nat->Prop),∃(R:Value->Mem->List (List Value)
 -> List Value->Prop),CXY Tryz.prog 37 (Array.mk ah) aa Y [] ad R/\(∀(t:Tok),t∈ad->∀(b:Nat),Tok.blk t=some b->Y b)/\(∀(ac:Nat),Y ac->(∃(t:Tok),t∈ad/\Tok.blk t=some ac)\/(m.free ac/\
 Mem.k m ac=none)/\((∃(o:Nat),∃(v:Value),aa ac o=some v)\/∃(e:List (Value×Value)),Mem.k aa ac=some e)/\b≠ac/\True)/\(∀(v:Value)(m':Mem) (css:List (List Value)) (tvs:List Value),R v
 m' css tvs->Shape.fits Shape.slice v=true)/\∀(a:Option Addr)(n c:Nat)(m':Mem),Mem.le (Mem.off aa Y) m'->(NewM aa m' λb=>Y b\/aa.free b)->∀(ae:Option Addr)(af d:Nat),R (slice a n c) m' []
 [slice ae af d]->atA al λb o=>Zad aj ak/\∃(v:Value),m' b (o+ai)=some v/\kB Tryz.prog 38 [v,slice a n c] m' λb m'=>Zac ag/\([none,none,none,none]:List (Option Tok))=[none,none,none,
 none]/\J [bool !b] [] [slice ae af d] m')/\((atA al λac o=>Zad aj ak/\(∃(v:Value),aa ac (o+ai)=some v/\∃(Y:Nat->Prop),∃(R:Value->Mem->List (List Value)->List Value->Prop),CXY Tryz.prog
 37 (Array.mk ah) aa Y [] ad R/\(∀(t:Tok),t∈ad->∀(b:Nat),Tok.blk t=some b->Y b)/\(∀(ab:Nat),Y ab->(∃(t:Tok),t∈ad/\Tok.blk t=some ab)\/(m.free ab/\Mem.k m ab=none)/\((∃(o:Nat),∃
 (v:Value),aa ab o=some v)\/∃(e:List (Value×Value)),Mem.k aa ab=some e)/\b≠ab/\True)/\(∀(v:Value)(m':Mem) (css:List (List Value)) (tvs:List Value),R v m' css tvs->Shape.fits Shape.slice v =
 true)/\∀(a:Option Addr)(n c:Nat)(m':Mem),Mem.le (Mem.off aa Y) m'->(NewM aa m' λb=>Y b\/aa.free b)->∀(ae:Option Addr)(af d:Nat),R (slice a n c) m' [] [slice ae af d]->kB Tryz.prog 38 [v,
 slice a n c] m' λb m'=>Zac ag/\([none,none,none,none]:List (Option Tok))=[none,none,none,none]/\J [bool !b] [] [slice ae af d] m')/\∃(Y:Nat->Prop),∃(R:Value->Mem->List (List Value)->List
 Value->Prop),CXY Tryz.prog 37 (Array.mk ah) aa Y [] ad R/\(∀(t:Tok),t∈ad->∀(b:Nat),Tok.blk t=some b->Y b)/\(∀(ab:Nat),Y ab->(∃(t:Tok),t∈ad/\Tok.blk t=some ab)\/(m.free ab/\Mem.k m
 ab=none)/\((∃(o:Nat),∃(v:Value),aa ab o=some v)\/∃(e:List (Value×Value)),Mem.k aa ab=some e)/\b≠ab/\True)/\(∀(v:Value)(m':Mem) (css:List (List Value)) (tvs:List Value),R v m' css
 tvs->Shape.fits Shape.slice v=true)/\∀(a:Option Addr)(n c:Nat)(m':Mem),Mem.le (Mem.off aa Y) m'->(NewM aa m' λb=>Y b\/aa.free b)->∀(ae:Option Addr)(af d:Nat),R (slice a n c) m' [] [slice
 ae af d]->∃(v:Value),m' ac (o+ai)=some v/\kB Tryz.prog 38 [v,slice a n c] m' λb m'=>Zac ag/\([none,none,none,none]:List (Option Tok))=[none,none,none,none]/\J [bool !b] [] [slice ae af d]
 m')/\∃(Y:Nat->Prop),∃(R:Value->Mem->List (List Value)->List Value->Prop),CXY Tryz.prog 37 (Array.mk ah) aa Y [] ad R/\(∀(t:Tok),t∈ad->∀(b:Nat),Tok.blk t=some b->Y b)/\(∀(ac:Nat),Y ac->
 (∃(t:Tok),t∈ad/\Tok.blk t=some ac)\/(m.free ac/\Mem.k m ac=none)/\((∃(o:Nat),∃(v:Value),aa ac o=some v)\/∃(e:List (Value×Value)),Mem.k aa ac=some e)/\b≠ac/\True)/\(∀(v:Value)
 (m':Mem) (css:List (List Value)) (tvs:List Value),R v m' css tvs->Shape.fits Shape.slice v=true)/\∀(a:Option Addr)(n c:Nat)(m':Mem),Mem.le (Mem.off aa Y) m'->(NewM aa m' λb=>Y b\/aa.free  b)->∀(ae:Option Addr)(af d:Nat),R (slice a n c) m' [] [slice ae af d]->atA al λb o=>Zad aj ak/\∃(v:Value),m' b (o+ai)=some v/\kB Tryz.prog 38 [v,slice a n c] m' λb m'=>Zac ag/\
 ([none,none,none,none]:List (Option Tok))=[none,none,none,none]/\J [bool !b] [] [slice ae af d] m')/\∃(Y:Nat->Prop),∃(R:Value->Mem->List (List Value)->List Value->Prop),CXY Tryz.prog 37
 (Array.mk ah) aa Y [] ad R/\(∀(t:Tok),t∈ad->∀(b:Nat),Tok.blk t=some b->Y b)/\(∀(ac:Nat),Y ac->(∃(t:Tok),t∈ad/\Tok.blk t=some ac)\/(m.free ac/\Mem.k m ac=none)/\((∃(o:Nat),∃(v
 : Value),aa ac o=some v)\/∃(e:List (Value×Value)),Mem.k aa ac=some e)/\b≠ac/\True)/\(∀(v:Value)(m':Mem) (css:List (List Value)) (tvs:List Value),R v m' css tvs->Shape.fits Shape.slice v =
 true)/\∀(a:Option Addr)(n c:Nat)(m':Mem),Mem.le (Mem.off aa Y) m'->(NewM aa m' λb=>Y b\/aa.free b)->∀(ae:Option Addr)(af d:Nat),R (slice a n c) m' [] [slice ae af d]->atA al λb o=>
 Zad aj ak/\∃(v:Value),m' b (o+ai)=some v/\kB Tryz.prog 38 [v,slice a n c] m' λb m'=>Zac ag/\([none,none,none,none]:List (Option Tok))=[none,none,none,none]/\J [bool !b] [] [slice ae af
 d] m')/\(((atA al λac o=>lE (aa ac (o+ai)) λyL=>Zad aj ak/\(∃(v:Value),yL=some v/\∃(Y:Nat->Prop),∃(R:Value->Mem->List (List Value)->List Value->Prop),CXY Tryz.prog 37 (Array.mk ah)
 aa Y [] ad R/\(∀(t:Tok),t∈ad->∀(b:Nat),Tok.blk t=some b->Y b)/\(∀(ab:Nat),Y ab->(∃(t:Tok),t∈ad/\Tok.blk t=some ab)\/(m.free ab/\Mem.k m ab=none)/\((∃(o:Nat),∃(v:Value),aa
 ab o=some v)\/∃(e:List (Value×Value)),Mem.k aa ab=some e)/\b≠ab/\True)/\(∀(v:Value)(m':Mem) (css:List (List Value)) (tvs:List Value),R v m' css tvs->Shape.fits Shape.slice v=true)/\∀(a:
 Option Addr) (n c:Nat) (m':Mem),Mem.le (Mem.off aa Y) m'->(NewM aa m' λb=>Y b\/aa.free b)->∀(ae:Option Addr)(af d:Nat),R (slice a n c) m' [] [slice ae af d]->kB Tryz.prog 38 [v,slice a n c] m'
 λb m'=>Zac ag/\([none,none,none,none]:List (Option Tok))=[none,none,none,none]/\J [bool !b] [] [slice ae af d] m')/\(∃(v:Value),yL=some v/\∃(Y:Nat->Prop),∃(R:Value->Mem->List (List
 Value)->List Value->Prop),CXY Tryz.prog 37 (Array.mk ah) aa Y [] ad R/\(∀(t:Tok),t∈ad->∀(b:Nat),Tok.blk t=some b->Y b)/\(∀(ab:Nat),Y ab->(∃(t:Tok),t∈ad/\Tok.blk t=some ab)\/(m.free  ab/\Mem.k m ab=none)/\((∃(o:Nat),∃(v:Value),aa ab o=some v)\/∃(e:List (Value×Value)),Mem.k aa ab=some e)/\b≠ab/\True)/\(∀(v:Value)(m':Mem) (css:List (List Value)) (tvs:List Value),
 R v m' css tvs->Shape.fits Shape.slice v=true)/\∀(a:Option Addr)(n c:Nat)(m':Mem),Mem.le (Mem.off aa Y) m'->(NewM aa m' λb=>Y b\/aa.free b)->∀(ae:Option Addr)(af d:Nat),R (slice a n c)
 m' [] [slice ae af d]->kB Tryz.prog 38 [v,slice a n c] m' λb m'=>Zac ag/\([none,none,none,none]:List (Option Tok))=[none,none,none,none]/\J [bool !b] [] [slice ae af d] m')/\∃(Y:Nat->Prop),∃
 (R:Value->Mem->List (List Value)->List Value->Prop),CXY Tryz.prog 37 (Array.mk ah) aa Y [] ad R/\(∀(t:Tok),t∈ad->∀(b:Nat),Tok.blk t=some b->Y b)/\(∀(ab:Nat),Y ab->(∃(t:Tok),t∈ad/\
 Tok.blk t=some ab)\/(m.free ab/\Mem.k m ab=none)/\((∃(o:Nat),∃(v:Value),aa ab o=some v)\/∃(e:List (Value×Value)),Mem.k aa ab=some e)/\b≠ab/\True)/\(∀(v:Value)(m':Mem) (css:List
 (List Value)) (tvs:List Value),R v m' css tvs->Shape.fits Shape.slice v=true)/\∀(a:Option Addr)(n c:Nat)(m':Mem),Mem.le (Mem.off aa Y) m'->(NewM aa m' λb=>Y b\/aa.free b)->∀(ae:Option
 Addr) (af d:Nat),R (slice a n c) m' [] [slice ae af d]->∃(v:Value),m' ac (o+ai)=some v/\kB Tryz.prog 38 [v,slice a n c] m' λb m'=>Zac ag/\([none,none,none,none]:List (Option Tok))=[none,
 none,none,none]/\J [bool !b] [] [slice ae af d] m')/\(atA al λac o=>Zad aj ak/\(∃(v:Value),aa ac (o+ai)=some v/\∃(Y:Nat->Prop),∃(R:Value->Mem->List (List Value)->List Value->Prop),CXY
 Tryz.prog 37 (Array.mk ah) aa Y [] ad R/\(∀(t:Tok),t∈ad->∀(b:Nat),Tok.blk t=some b->Y b)/\(∀(ab:Nat),Y ab->(∃(t:Tok),t∈ad/\Tok.blk t=some ab)\/(m.free ab/\Mem.k m ab=none)/\((∃(o
 : Nat),∃(v:Value),aa ab o=some v)\/∃(e:List (Value×Value)),Mem.k aa ab=some e)/\b≠ab/\True)/\(∀(v:Value)(m':Mem) (css:List (List Value)) (tvs:List Value),R v m' css tvs->Shape.fits
 Shape.slice v=true)/\∀(a:Option Addr)(n c:Nat)(m':Mem),Mem.le (Mem.off aa Y) m'->(NewM aa m' λb=>Y b\/aa.free b)->∀(ae:Option Addr)(af d:Nat),R (slice a n c) m' [] [slice ae af d]->kB
 Tryz.prog 38 [v,slice a n c] m' λb m'=>Zac ag/\([none,none,none,none]:List (Option Tok))=[none,none,none,none]/\J [bool !b] [] [slice ae af d] m')/\∃(Y:Nat->Prop),∃(R:Value->Mem->List
 (List Value)->List Value->Prop),CXY Tryz.prog 37 (Array.mk ah) aa Y [] ad R/\(∀(t:Tok),t∈ad->∀(b:Nat),Tok.blk t=some b->Y b)/\(∀(ab:Nat),Y ab->(∃(t:Tok),t∈ad/\Tok.blk t=some ab)\/
 (m.free ab/\Mem.k m ab=none)/\((∃(o:Nat),∃(v:Value),aa ab o=some v)\/∃(e:List (Value×Value)),Mem.k aa ab=some e)/\b≠ab/\True)/\(∀(v:Value)(m':Mem) (css:List (List Value)) (tvs:
 List Value),R v m' css tvs->Shape.fits Shape.slice v=true)/\∀(a:Option Addr)(n c:Nat)(m':Mem),Mem.le (Mem.off aa Y) m'->(NewM aa m' λb=>Y b\/aa.free b)->∀(ae:Option Addr)(af d:Nat),R
 (slice a n c) m' [] [slice ae af d]->∃(v:Value),m' ac (o+ai)=some v/\kB Tryz.prog 38 [v,slice a n c] m' λb m'=>Zac ag/\([none,none,none,none]:List (Option Tok))=[none,none,none,none]/\J
 [bool !b] [] [slice ae af d] m')/\∃(Y:Nat->Prop),∃(R:Value->Mem->List (List Value)->List Value->Prop),CXY Tryz.prog 37 (Array.mk ah) aa Y [] ad R/\(∀(t:Tok),t∈ad->∀(b:Nat),Tok.blk t=some b->
 Y b)/\(∀(ac:Nat),Y ac->(∃(t:Tok),t∈ad/\Tok.blk t=some ac)\/(m.free ac/\Mem.k m ac=none)/\((∃(o:Nat),∃(v:Value),aa ac o=some v)\/∃(e:List (Value×Value)),Mem.k aa ac=some e)/\b
 ≠ ac/\True)/\(∀(v:Value)(m':Mem) (css:List (List Value)) (tvs:List Value),R v m' css tvs->Shape.fits Shape.slice v=true)/\∀(a:Option Addr)(n c:Nat)(m':Mem),Mem.le (Mem.off aa Y) m'->(NewM aa
 m' λb=>Y b\/aa.free b)->∀(ae:Option Addr)(af d:Nat),R (slice a n c) m' [] [slice ae af d]->atA al λb o=>Zad aj ak/\∃(v:Value),m' b (o+ai)=some v/\kB Tryz.prog 38 [v,slice a n c] m'
 λb m'=>Zac ag/\([none,none,none,none]:List (Option Tok))=[none,none,none,none]/\J [bool !b] [] [slice ae af d] m')/\((atA al λac o=>Zad aj ak/\(∃(v:Value),aa ac (o+ai)=some v/\∃
 (Y:Nat->Prop),∃(R:Value->Mem->List (List Value)->List Value->Prop),CXY Tryz.prog 37 (Array.mk ah) aa Y [] ad R/\(∀(t:Tok),t∈ad->∀(b:Nat),Tok.blk t=some b->Y b)/\(∀(ab:Nat),Y ab->(∃(t:
 Tok),t∈ad/\Tok.blk t=some ab)\/(m.free ab/\Mem.k m ab=none)/\((∃(o:Nat),∃(v:Value),aa ab o=some v)\/∃(e:List (Value×Value)),Mem.k aa ab=some e)/\b≠ab/\True)/\(∀(v:Value) (m':
 Mem) (css:List (List Value)) (tvs:List Value),R v m' css tvs->Shape.fits Shape.slice v=true)/\∀(a:Option Addr)(n c:Nat)(m':Mem),Mem.le (Mem.off aa Y) m'->(NewM aa m' λb=>Y b\/aa.free b)->∀
 (ae:Option Addr) (af d:Nat),R (slice a n c) m' [] [slice ae af d]->kB Tryz.prog 38 [v,slice a n c] m' λb m'=>Zac ag/\([none,none,none,none]:List (Option Tok))=[none,none,none,none]/\J [bool
 !b] [] [slice ae af d] m')/\∃(Y:Nat->Prop),∃(R:Value->Mem->List (List Value)->List Value->Prop),CXY Tryz.prog 37 (Array.mk ah) aa Y [] ad R/\(∀(t:Tok),t∈ad->∀(b:Nat),Tok.blk t=some b->Y b)/\
 (∀(ab:Nat),Y ab->(∃(t:Tok),t∈ad/\Tok.blk t=some ab)\/(m.free ab/\Mem.k m ab=none)/\((∃(o:Nat),∃(v:Value),aa ab o=some v)\/∃(e:List (Value×Value)),Mem.k aa ab=some e)/\b≠ab/\
 True)/\(∀(v:Value)(m':Mem) (css:List (List Value)) (tvs:List Value),R v m' css tvs->Shape.fits Shape.slice v=true)/\∀(a:Option Addr)(n c:Nat)(m':Mem),Mem.le (Mem.off aa Y) m'->(NewM aa m' fun
 b=>Y b\/aa.free b)->∀(ae:Option Addr)(af d:Nat),R (slice a n c) m' [] [slice ae af d]->∃(v:Value),m' ac (o+ai)=some v/\kB Tryz.prog 38 [v,slice a n c] m' λb m'=>Zac ag/\([none,none,
 none,none]:List (Option Tok))=[none,none,none,none]/\J [bool !b] [] [slice ae af d] m')/\∃(Y:Nat->Prop),∃(R:Value->Mem->List (List Value)->List Value->Prop),CXY Tryz.prog 37 (Array.mk ah) aa Y []
 ad R/\(∀(t:Tok),t∈ad->∀(b:Nat),Tok.blk t=some b->Y b)/\(∀(ac:Nat),Y ac->(∃(t:Tok),t∈ad/\Tok.blk t=some ac)\/(m.free ac/\Mem.k m ac=none)/\((∃(o:Nat),∃(v:Value),aa ac o =
 some v)\/∃(e:List (Value×Value)),Mem.k aa ac=some e)/\b≠ac/\True)/\(∀(v:Value)(m':Mem) (css:List (List Value)) (tvs:List Value),R v m' css tvs->Shape.fits Shape.slice v=true)/\∀(a:Option
 Addr) (n c:Nat) (m':Mem),Mem.le (Mem.off aa Y) m'->(NewM aa m' λb=>Y b\/aa.free b)->∀(ae:Option Addr)(af d:Nat),R (slice a n c) m' [] [slice ae af d]->atA al λb o=>Zad aj ak/\∃(v:
 Value),m' b (o+ai)=some v/\kB Tryz.prog 38 [v,slice a n c] m' λb m'=>Zac ag/\([none,none,none,none]:List (Option Tok))=[none,none,none,none]/\J [bool !b] [] [slice ae af d] m')/\∃(Y:Nat->
 Prop),∃(R:Value->Mem->List (List Value)->List Value->Prop),CXY Tryz.prog 37 (Array.mk ah) aa Y [] ad R/\(∀(t:Tok),t∈ad->∀(b:Nat),Tok.blk t=some b->Y b)/\(∀(ac:Nat),Y ac->(∃(t:Tok),t ∈
 ad/\Tok.blk t=some ac)\/(m.free ac/\Mem.k m ac=none)/\((∃(o:Nat),∃(v:Value),aa ac o=some v)\/∃(e:List (Value×Value)),Mem.k aa ac=some e)/\b≠ac/\True)/\(∀(v:Value)(m':Mem) (css:
 List (List Value)) (tvs:List Value),R v m' css tvs->Shape.fits Shape.slice v=true)/\∀(a:Option Addr)(n c:Nat)(m':Mem),Mem.le (Mem.off aa Y) m'->(NewM aa m' λb=>Y b\/aa.free b)->∀(ae:
 Option Addr) (af d:Nat),R (slice a n c) m' [] [slice ae af d]->atA al λb o=>Zad aj ak/\∃(v:Value),m' b (o+ai)=some v/\kB Tryz.prog 38 [v,slice a n c] m' λb m'=>Zac ag/\([none,none,
 none,none]:List (Option Tok))=[none,none,none,none]/\J [bool !b] [] [slice ae af d] m')/\(((atA al λac o=>Zad aj ak/\(∃(v:Value),aa ac (o+ai)=some v/\∃(Y:Nat->Prop),∃(R:Value->Mem->
 List (List Value)->List Value->Prop),CXY Tryz.prog 37 (Array.mk ah) aa Y [] ad R/\(∀(t:Tok),t∈ad->∀(b:Nat),Tok.blk t=some b->Y b)/\(∀(ab:Nat),Y ab->(∃(t:Tok),t∈ad/\Tok.blk t=some ab)\/
 (m.free ab/\Mem.k m ab=none)/\((∃(o:Nat),∃(v:Value),aa ab o=some v)\/∃(e:List (Value×Value)),Mem.k aa ab=some e)/\b≠ab/\True)/\(∀(v:Value)(m':Mem) (css:List (List Value)) (tvs:
 List Value),R v m' css tvs->Shape.fits Shape.slice v=true)/\∀(a:Option Addr)(n c:Nat)(m':Mem),Mem.le (Mem.off aa Y) m'->(NewM aa m' λb=>Y b\/aa.free b)->∀(ae:Option Addr)(af d:Nat),R
 (slice a n c) m' [] [slice ae af d]->kB Tryz.prog 38 [v,slice a n c] m' λb m'=>Zac ag/\([none,none,none,none]:List (Option Tok))=[none,none,none,none]/\J [bool !b] [] [slice ae af d] m')/\∃(Y:
 Nat->Prop),∃(R:Value->Mem->List (List Value)->List Value->Prop),CXY Tryz.prog 37 (Array.mk ah) aa Y [] ad R/\(∀(t:Tok),t∈ad->∀(b:Nat),Tok.blk t=some b->Y b)/\(∀(ab:Nat),Y ab->(∃(t:Tok),
 t∈ad/\Tok.blk t=some ab)\/(m.free ab/\Mem.k m ab=none)/\((∃(o:Nat),∃(v:Value),aa ab o=some v)\/∃(e:List (Value×Value)),Mem.k aa ab=some e)/\b≠ab/\True)/\(∀(v:Value)(m':Mem)
 (css:List (List Value)) (tvs:List Value),R v m' css tvs->Shape.fits Shape.slice v=true)/\∀(a:Option Addr)(n c:Nat)(m':Mem),Mem.le (Mem.off aa Y) m'->(NewM aa m' λb=>Y b\/aa.free b)->∀(ae
 : Option Addr) (af d:Nat),R (slice a n c) m' [] [slice ae af d]->∃(v:Value),m' ac (o+ai)=some v/\kB Tryz.prog 38 [v,slice a n c] m' λb m'=>Zac ag/\([none,none,none,none]:List (Option Tok)) =
 [none,none,none,none]/\J [bool !b] [] [slice ae af d] m')/\∃(Y:Nat->Prop),∃(R:Value->Mem->List (List Value)->List Value->Prop),CXY Tryz.prog 37 (Array.mk ah) aa Y [] ad R/\(∀(t:Tok),t∈ad->∀(b
 : Nat),Tok.blk t=some b->Y b)/\(∀(ac:Nat),Y ac->(∃(t:Tok),t∈ad/\Tok.blk t=some ac)\/(m.free ac/\Mem.k m ac=none)/\((∃(o:Nat),∃(v:Value),aa ac o=some v)\/∃(e:List (Value ×
 Value)),Mem.k aa ac=some e)/\b≠ac/\True)/\(∀(v:Value)(m':Mem) (css:List (List Value)) (tvs:List Value),R v m' css tvs->Shape.fits Shape.slice v=true)/\∀(a:Option Addr)(n c:Nat)(m':Mem),
 Mem.le (Mem.off aa Y) m'->(NewM aa m' λb=>Y b\/aa.free b)->∀(ae:Option Addr)(af d:Nat),R (slice a n c) m' [] [slice ae af d]->atA al λb o=>Zad aj ak/\∃(v:Value),m' b (o+ai)=some v/\
 kB Tryz.prog 38 [v,slice a n c] m' λb m'=>Zac ag/\([none,none,none,none]:List (Option Tok))=[none,none,none,none]/\J [bool !b] [] [slice ae af d] m')/\∃(Y:Nat->Prop),∃(R:Value->Mem->List
 (List Value)->List Value->Prop),CXY Tryz.prog 37 (Array.mk ah) aa Y [] ad R/\(∀(t:Tok),t∈ad->∀(b:Nat),Tok.blk t=some b->Y b)/\(∀(ac:Nat),Y ac->(∃(t:Tok),t∈ad/\Tok.blk t=some ac)\/
 (m.free ac/\Mem.k m ac=none)/\((∃(o:Nat),∃(v:Value),aa ac o=some v)\/∃(e:List (Value×Value)),Mem.k aa ac=some e)/\b≠ac/\True)/\(∀(v:Value)(m':Mem) (css:List (List Value)) (tvs:
 List Value),R v m' css tvs->Shape.fits Shape.slice v=true)/\∀(a:Option Addr)(n c:Nat)(m':Mem),Mem.le (Mem.off aa Y) m'->(NewM aa m' λb=>Y b\/aa.free b)->∀(ae:Option Addr)(af d:Nat),R
 (slice a n c) m' [] [slice ae af d]->atA al λb o=>Zad aj ak/\∃(v:Value),m' b (o+ai)=some v/\kB Tryz.prog 38 [v,slice a n c] m' λb m'=>Zac ag/\([none,none,none,none]:List (Option Tok))
 = [none,none,none,none]/\J [bool !b] [] [slice ae af d] m')/\(((atA al λac o=>Zad aj ak/\(∃(v:Value),aa ac (o+ai)=some v/\∃(Y:Nat->Prop),∃(R:Value->Mem->List (List Value)->List Value->
 Prop),CXY Tryz.prog 37 (Array.mk ah) aa Y [] ad R/\(∀(t:Tok),t∈ad->∀(b:Nat),Tok.blk t=some b->Y b)/\(∀(ab:Nat),Y ab->(∃(t:Tok),t∈ad/\Tok.blk t=some ab)\/(m.free ab/\Mem.k m ab =
 none)/\((∃(o:Nat),∃(v:Value),aa ab o=some v)\/∃(e:List (Value×Value)),Mem.k aa ab=some e)/\b≠ab/\True)/\(∀(v:Value)(m':Mem) (css:List (List Value)) (tvs:List Value),R v m' css tvs->
 Shape.fits Shape.slice v=true)/\∀(a:Option Addr)(n c:Nat)(m':Mem),Mem.le (Mem.off aa Y) m'->(NewM aa m' λb=>Y b\/aa.free b)->∀(ae:Option Addr)(af d:Nat),R (slice a n c) m' [] [slice ae af
 d]->kB Tryz.prog 38 [v,slice a n c] m' λb m'=>Zac ag/\([none,none,none,none]:List (Option Tok))=[none,none,none,none]/\J [bool !b] [] [slice ae af d] m')/\∃(Y:Nat->Prop),∃(R:Value->Mem->
 List (List Value)->List Value->Prop),CXY Tryz.prog 37 (Array.mk ah) aa Y [] ad R/\(∀(t:Tok),t∈ad->∀(b:Nat),Tok.blk t=some b->Y b)/\(∀(ab:Nat),Y ab->(∃(t:Tok),t∈ad/\Tok.blk t=some ab)\/
 (m.free ab/\Mem.k m ab=none)/\((∃(o:Nat),∃(v:Value),aa ab o=some v)\/∃(e:List (Value×Value)),Mem.k aa ab=some e)/\b≠ab/\True)/\(∀(v:Value)(m':Mem) (css:List (List Value)) (tvs:
 List Value),R v m' css tvs->Shape.fits Shape.slice v=true)/\∀(a:Option Addr)(n c:Nat)(m':Mem),Mem.le (Mem.off aa Y) m'->(NewM aa m' λb=>Y b\/aa.free b)->∀(ae:Option Addr)(af d:Nat),R
 (slice a n c) m' [] [slice ae af d]->∃(v:Value),m' ac (o+ai)=some v/\kB Tryz.prog 38 [v,slice a n c] m' λb m'=>Zac ag/\([none,none,none,none]:List (Option Tok))=[none,none,none,none]/\J
 [bool !b] [] [slice ae af d] m')/\∃(Y:Nat->Prop),∃(R:Value->Mem->List (List Value)->List Value->Prop),CXY Tryz.prog 37 (Array.mk ah) aa Y [] ad R/\(∀(t:Tok),t∈ad->∀(b:Nat),Tok.blk t=some b->
 Y b)/\(∀(ac:Nat),Y ac->(∃(t:Tok),t∈ad/\Tok.blk t=some ac)\/(m.free ac/\Mem.k m ac=none)/\((∃(o:Nat),∃(v:Value),aa ac o=some v)\/∃(e:List (Value×Value)),Mem.k aa ac=some e)/\b
 ≠ ac/\True)/\(∀(v:Value)(m':Mem) (css:List (List Value)) (tvs:List Value),R v m' css tvs->Shape.fits Shape.slice v=true)/\∀(a:Option Addr)(n c:Nat)(m':Mem),Mem.le (Mem.off aa Y) m'->(NewM aa
 m' λb=>Y b\/aa.free b)->∀(ae:Option Addr)(af d:Nat),R (slice a n c) m' [] [slice ae af d]->atA al λb o=>Zad aj ak/\∃(v:Value),m' b (o+ai)=some v/\kB Tryz.prog 38 [v,slice a n c] m'
 λb m'=>Zac ag/\([none,none,none,none]:List (Option Tok))=[none,none,none,none]/\J [bool !b] [] [slice ae af d] m')/\∃(Y:Nat->Prop),∃(R:Value->Mem->List (List Value)->List Value->Prop),
 CXY Tryz.prog 37 (Array.mk ah) aa Y [] ad R/\(∀(t:Tok),t∈ad->∀(b:Nat),Tok.blk t=some b->Y b)/\(∀(ac:Nat),Y ac->(∃(t:Tok),t∈ad/\Tok.blk t=some ac)\/(m.free ac/\Mem.k m ac=none)/\((∃
 (o:Nat),∃(v:Value),aa ac o=some v)\/∃(e:List (Value×Value)),Mem.k aa ac=some e)/\b≠ac/\True)/\(∀(v:Value)(m':Mem) (css:List (List Value)) (tvs:List Value),R v m' css tvs->Shape.fits
 Shape.slice v=true)/\∀(a:Option Addr)(n c:Nat)(m':Mem),Mem.le (Mem.off aa Y) m'->(NewM aa m' λb=>Y b\/aa.free b)->∀(ae:Option Addr)(af d:Nat),R (slice a n c) m' [] [slice ae af d]->atA
 al λb o=>Zad aj ak/\∃(v:Value),m' b (o+ai)=some v/\kB Tryz.prog 38 [v,slice a n c] m' λb m'=>Zac ag/\([none,none,none,none]:List (Option Tok))=[none,none,none,none]/\J [bool !b]
 [] [slice ae af d] m')/\∃(Y:Nat->Prop),∃(R:Value->Mem->List (List Value)->List Value->Prop),CXY Tryz.prog 37 (Array.mk ah) aa Y [] ad R/\(∀(t:Tok),t∈ad->∀(b:Nat),Tok.blk t=some b->Y b)/\(∀
 (ac:Nat),Y ac->(∃(t:Tok),t∈ad/\Tok.blk t=some ac)\/(m.free ac/\Mem.k m ac=none)/\((∃(o:Nat),∃(v:Value),aa ac o=some v)\/∃(e:List (Value×Value)),Mem.k aa ac=some e)/\b≠ac/\
 True)/\(∀(v:Value)(m':Mem) (css:List (List Value)) (tvs:List Value),R v m' css tvs->Shape.fits Shape.slice v=true)/\∀(a:Option Addr)(n c:Nat)(m':Mem),lX (slice a n c) λyL=>Mem.le (Mem.off
 aa Y) m'->(NewM aa m' λb=>Y b\/aa.free b)->∀(a:Option Addr)(c d:Nat),lV [slice a c d] λxL=>R yL m' [] xL->(atA al λb o=>Zad aj ak/\∃(v:Value),m' b (o+ai)=some v/\kB Tryz.prog
 38 [v,yL] m' λb m'=>Zac ag/\([none,none,none,none]:List (Option Tok))=[none,none,none,none]/\J [bool !b] [] xL m')/\atA al λb o=>Zad aj ak/\∃(v:Value),m' b (o+ai)=some v/\kB
 Tryz.prog 38 [v,yL] m' λb m'=>Zac ag/\([none,none,none,none]:List (Option Tok))=[none,none,none,none]/\J [bool !b] [] xL m')/\∀(b:Bool)(a:Option Addr)(n c:Nat)(m':Mem),True->J [bool
 b] [] [slice a n c] m'->br b (rtM m m' R (bool false)) (Zac xL/\nxI ce I [int i64 (i64.wrap (aj+(1:Int)))] [] [] m'))))))) (∃(f:Fx),atA aw λb o=>Zad ay ar/\∃(v:Value),m' b (o+bb+0)
 = some v/\atA aw λb o=>Zad ay ar/\∃(aq:Value),m' b (o+bb+0)=some aq/\∃(R_5:RT),R_5=f 13 [ao,v,aq] m'/\CX Tryz.prog 33 (Array.mk [ao,v,aq]) m' [] R_5/\ZbC (Shape.agg [Shape.int i64,
 Shape.slice,Shape.slice]) R_5/\∀(n:Int)(a:Option Addr)(a9 c:Nat)(a8:Option Addr)(az bs:Nat)(am:Mem),lX (agg (Array.mk [int i64 n,slice a a9 c,slice a8 az bs])) λa0=>m'.le am->R_5 a0 am
 []->∀(b:Nat)(M:Mem),m'.le M->am.le M->∃(f:Fx),atA aw λb o=>Zad yL ar/\∃(v:Value),M b (o+bl+0)=some v/\∃(R_6:RT),R_6=f 7 [ao,v] M/\CX Tryz.prog 16 (Array.mk [ao,v]) M
 [] R_6/\ZbC (Shape.tup [Shape.int i64,Shape.bool]) R_6/\∀(n:Int)(b:Bool)(m':Mem),M.le m'->R_6 (tuple (Array.mk [int i64 n,bool b])) m' []->∀(av:Mem),M.le av->m'.le av->∃(f:Fx),∃
 (R_7:RT),R_7=f 2 [a0,ao] av/\CX Tryz.prog 20 (Array.mk [a0,ao]) av [] R_7/\ZbC Shape.bool R_7/\∀(bd:Bool)(m':Mem),av.le m'->R_7 (bool bd) m' []->br bd (∃(R_8:RT),R_8=f 5 bx m'/\CX
 Tryz.prog 33 (Array.mk bx) m' [] R_8/\ZbC (Shape.agg [Shape.int i64,Shape.slice,Shape.slice]) R_8/\∀(bq:Int)(a:Option Addr)(ba c:Nat)(bp:Option Addr)(a2 a1:Nat)(aa:Mem),lX (agg (Array.mk [int i64
 bq,slice a ba c,slice bp a2 a1])) λau=>m'.le aa->R_8 au aa []->∃(R_9:RT),R_9=f 7 [au,ao] aa/\CX Tryz.prog 20 (Array.mk [au,ao]) aa [] R_9/\ZbC Shape.bool R_9/\∀(be:Bool)(ap:Mem),aa.le ap->R_9 (bool be) ap []->br be (br (n == yL) (br b (atA aw λb o=>Zad ay ar/\∃(v:Value),ap b (o+bb+0)=some v/\atA aw λb o=>Zad yL ar/\∃(a5:Value),ap b (o+bl+0)=some a5/\chk
 (Zfh v&&Zfh a5) (∀(M:Mem),av.le M->m'.le M->aa.le M->ap.le M->rtM m M R (bool ((ay == yL) == (ByteArray.toList (ZbX v) == ByteArray.toList (ZbX a5)))))) (∀(M:Mem),av.le M->
 m'.le M->aa.le M->ap.le M->rtM m M R (bool false))) (∀(M:Mem),av.le M->m'.le M->aa.le M->ap.le M->rtM m M R (bool false))) (∀(M:Mem),av.le M->m'.le M->aa.le M->
 ap.le M->rtM m M R (bool false))) (∀(M:Mem),av.le M->m'.le M->m'.le M->m'.le M->rtM m M R (bool false)))))))):CX Tryz.prog 7 #[.agg #[.int .u8 aA,.slice aW aP aX,.slice aN aJ aV],.int .u8 p1,.int .u8 p2] m [] R:=
 Zae (E:=Zew) Zao mix Tryz.func7 (by kernel_rfl) (Eq.mp (by kernel_rfl) h)
end Go.Proofs.YtpjepnkiiojgfaaGreat
namespace Go.Proofs.YtpjepnkiiojgfaaGreat
open Go Go.Eng Go.Rx Go.Proofs Go.RowKit
set_option maxRecDepth 100000
def tmV(s:Sc):Value:=.agg (msV s.states.length (ms1 s) (ms2 s) (ms3 s) (ms4 s) (ms5 s)).toArray
theorem Zri(s:Sc)(m:Mem)(hr:RepC m s)(hl:s.light=true):CX Tryz.prog 21 #[s.v] m [] (Ret (tmV s)):=by
 have:=Zmr s m hr
 rwa [ZqV hl]at this
theorem Zrj{s:Sc}:∀(v:Value)(m':Mem) (css:List (List Value)),Ret (tmV s) v m' css->Shape.fits (.agg [.int .i64,.int .i64,.int .i64,.int .i64,.int .i64,.int .i64]) v=true:=λv _ _ h=>by rw[show v=_ from h];rfl
theorem Zug{s:Sc}{a b c d e f:Int}(h:(.agg #[.int .i64 a,.int .i64 b,.int .i64 c,.int .i64 d,.int .i64 e,.int .i64 f]:Value)=tmV s):a=s.states.length/\b=ms1 s/\c=ms2 s/\d=ms3 s/\e=ms4 s/\f=ms5 s:=by
 simpa[tmV,msV,and_assoc]using h
theorem ZjW{s:Sc}{n:Int}{a a1:Option Addr}{p c p1 c1:Nat}(h:Value.agg #[.int .i64 n,.slice a p c,.slice a1 p1 c1]=s.v):n=s.n/\a=s.va/\p=s.vars.length/\c=s.vc/\a1=s.sa/\p1=s.states.length/\c1=s.sc:=Zs3 h
theorem ZkP{z:Bool}:∀(v:Value)(m':Mem) (css:List (List Value)),Ret (.bool z) v m' css->Shape.fits .bool v=true:=λv _ _ h=>by rw[show v=_ from h];rfl
theorem ZoG{z n:Bool}(h:Value.bool n=Value.bool z):n=z:=by injection h
theorem Zs6{z:Int}:∀(v:Value)(m':Mem) (css:List (List Value)),Ret (.int .i64 z) v m' css->Shape.fits (.int .i64) v=true:=λv _ _ h=>by rw[show v=_ from h];rfl
theorem ZvQ{z n:Int}(h:Value.int .i64 n=Value.int .i64 z):n=z:=by injection h
theorem Zuh{m:Mem}{a:Option Addr}{l r:List Int}(h:rowRd m a (Zcf (l++r))):rowRd m a (Zcf l):=by
 rcases h with h|⟨b,o,ha,h⟩
 ·refine .inl ?_
  unfold Zcf at h ⊢
  rw[List.map_append]at h
  exact(List.append_eq_nil_iff.1 h).1
 ·refine .inr ⟨b,o,ha,λj v hj=>h j v ?_⟩
  unfold Zcf at hj ⊢
  rw[List.map_append,zA5 (zA0 hj).1]
  exact hj
set_option maxHeartbeats 1000000 in
theorem ZjX(x:SScr)(p1 p2:Nat)(m:Mem)(hx:RepSC m x)(wF:p1 < 256)(fS:p2 < 256):CX Tryz.prog 7 #[.agg x.cs.toArray,.int .u8 (p1:Int),.int .u8 (p2:Int)] m [] (Ret (.bool true)):=by
 apply Zec
 intro b1 m1 aE jx yY x4
 refine Zah (ZpP m1) λm2 aK=>Zn4 rfl ?_
 have cR:=mLt aE aK
 refine⟨_,trivial,ZxJ x m2 (hx.mono cR),ZxH,?_⟩
 rintro n a n1 c a1 n2 c1 m3 aQ ⟨s,hv,hr,hk⟩ b4
 obtain⟨rfl,rfl,rfl,rfl,rfl,rfl,rfl⟩:=ZjW hv
 have dQ:=mLt cR aQ
 have eR:=hk.len
 have hl:=hk.light
 have tR:((s.states.length:Nat):Int)≠0:=by omega
 obtain⟨i,hi⟩:∃i,i=p1 % s.states.length:=⟨_,rfl⟩
 obtain⟨k,dF⟩:∃k,k=p2 % s.states.length:=⟨_,rfl⟩
 have tS:i < s.states.length:=by rw[hi];exact Nat.mod_lt _ (by omega)
 have kY:k < s.states.length:=by rw[dF];exact Nat.mod_lt _ (by omega)
 have gM:Int.tmod (IntKind.i64.wrap (p1:Int)) (s.states.length:Int)=(i:Int):=by rw[Zak (by omega) (by omega),hi];rfl
 have gv:Int.tmod (IntKind.i64.wrap (p2:Int)) (s.states.length:Int)=(k:Int):=by rw[Zak (by omega) (by omega),dF];rfl
 obtain⟨xi,qh⟩:=ZcC tS
 obtain⟨xk,jP⟩:=ZcC kY
 have pf:=(hk.all i xi qh).name
 have oa:=(hk.all k xk jP).name
 refine⟨tR,tR,Zan (Zht s m3 hr) Zmp ?_⟩
 rintro a2 n3 c2 m4 bZ ⟨aT,cT,T1,vL,tT,x5,x6⟩
 simp only[Value.slice.injEq]at vL
 obtain⟨rfl,rfl,rfl⟩:=vL
 rw[hl,if_pos rfl]at tT
 have nv:=hr.mono bZ
 rw[gM,gv]
 obtain⟨bi,oi,x7,sB⟩:=Zai Sta.len nv.row qh (by omega)
 obtain⟨bk,ok,x8,il⟩:=Zai Sta.len nv.row jP (by omega)
 have x9:xk.s.size<=1000000000000000:=(hr.all xk (zA2 jP)).s
 refine⟨λ_ _ _=>Zv8 xi.s xk.s s,bi,oi,x7,⟨by omega,by omega⟩,_,sB 0 _ rfl,bk,ok,x8,⟨by omega,by omega⟩,_,il 0 _ rfl,_,rfl,ZfR s xi.s xk.s m4 nv hl x9,Zhv,?_⟩
 rintro n a n4 c a3 n5 c3 m5 cO ⟨t,yb,tU,yd⟩ b5 M0 lF tV
 obtain⟨rfl,rfl,rfl,rfl,rfl,rfl,rfl⟩:=ZjW yb
 have hR:=hk.red tS kY pf oa
 have tl:t.light=true:=(Ze7 tU).trans hR.light
 have tW:=yd.mono tV
 refine Zan (Zht t M0 tW) Zmp ?_
 rintro a4 n6 c4 M hM ⟨aU,cU,T2,vM,tX,ye,yf⟩
 simp only[Value.slice.injEq]at vM
 obtain⟨rfl,rfl,rfl⟩:=vM
 rw[tl,if_pos rfl,Zzc tU]at tX
 have ij:T1.length=s.states.length:=by have:=congrArg List.length tT;simpa using this
 have jQ:T2.length=s.states.length:=by
  have h1:=congrArg List.length tX
  simp only[List.length_map]at h1
  rw[h1,Zxr]
 have i9:miL t=miL s:=(ZAs tU hR.light).trans (Zzg _ _ _)
 refine⟨λk _ _=>bif Nat.beq k 12 then Ret (tmV t)else Ret (tmV s),Zn4 (by rw[ij];simp) (Zn4 (by rw[jQ];simp) ⟨_,rfl,Zri t M (tW.mono hM) tl,Zrj,?_⟩)⟩
 rintro e0 e1 e2 e3 e4 e5 m6 eY he
 obtain⟨rfl,rfl,rfl,rfl,rfl,rfl⟩:=Zug he
 have vN:=nv.mono (mLt lF hM)
 refine⟨_,rfl,Zri s m6 (vN.mono eY) hl,Zrj,?_⟩
 rintro e0 e1 e2 e3 e4 e5 m7 fD he
 obtain⟨rfl,rfl,rfl,rfl,rfl,rfl⟩:=Zug he
 refine⟨_,ZyJ _ _ _ _ _ _ _ _ _ _ _ _,λM1 gm _ _=>Zn4 (by show(!decide (miL t=miL s))=false;rw[decide_eq_true i9];rfl) ?_⟩
 have gI:=mLt dQ (mLt bZ (mLt lF (mLt hM gm)))
 have p1:=vN.mono gm
 have tY:=x5.mono (mLt lF (mLt hM gm))
 have tZ:∀y∈T1,rowRd M1 y.a (Zcf y.l):=λy hy=>(x6 y hy).mono (mLt lF (mLt hM gm))
 have t6:=ye.mono gm
 have t7:∀y∈T2,rowRd M1 y.a (Zcf y.l):=λy hy=>(yf y hy).mono gm
 have t1:=(tW.mono hM).mono gm
 refine⟨λxs _ _ mm q=>∃j:Nat,j<=s.states.length/\xs=[.int .i64 j]/\M1.le mm/\q=s.states.length - j,⟨_,0,by omega,rfl,Mem.le_refl _,rfl⟩,?_⟩
 rintro u mm q _ ⟨j,hj,hu,ot,rfl⟩
 obtain rfl:u=j:=by simpa using hu
 have ku:IntKind.i64.wrap ((j:Int)+1)=((j+1:Nat):Int):=by rw[Zak (by omega) (by omega)];rfl
 refine ZaG (λaC=>?_) (λbL=>?_)
 ·have aC:(j:Int) < (s.states.length:Nat):=aC
  obtain⟨xj,ma⟩:=ZcC (show j < s.states.length by omega)
  have yg:=hk.all j xj ma
  have ow:=yg.len
  obtain⟨b10,o10,t8,qi⟩:=Zai Sta.len (p1.mono ot).row ma (by omega)
  refine⟨b10,o10,t8,⟨by omega,aC⟩,_,_,qi,λb11=>Zaa rfl (Zaa rfl ⟨λxs _ tvs mn q=>∃(r:Nat)(a:Option Addr)(c:Nat),r<=xj.rules.length/\xs=[.slice a ((xj.rules.take r).filterMap ZcQ).length c,.int .i64 r]/\tvs=[.slice a ((xj.rules.take r).filterMap ZcQ).length c]/\M1.le mn/\rowRd mn a (Zcf ((xj.rules.take r).filterMap ZcQ))/\(a=none\/∃b,a=some ⟨b,0,none⟩/\M1.free b/\M1.k b=none)/\q=xj.rules.length - r,⟨_,0,none,0,by omega,rfl,rfl,ot,.inl rfl,.inl rfl,rfl⟩,?_⟩)⟩
  rintro a n c z a8 n8 c8 mn q _ ⟨r,a',c',hr',cK,cH,qj,aB,bK,rfl⟩
  simp only[List.cons.injEq,Value.slice.injEq,Value.int.injEq,true_and,and_true]at cK cH
  obtain⟨⟨rfl,rfl,rfl⟩,rfl⟩:=cK
  obtain⟨rfl,rfl,rfl⟩:=cH
  have fK:IntKind.i64.wrap ((r:Int)+1)=((r+1:Nat):Int):=by rw[Zak (by omega) (by omega)];rfl
  have pN:=Zvc (xj.rules.take r)
  rw[List.length_take]at pN
  have pn:=p1.mono qj
  refine ZaG (λdO=>?_) (λdX=>?_)
  ·have dO:(r:Int) < (xj.rules.length:Nat):=dO
   obtain⟨ru,jE⟩:=ZcC (show r < xj.rules.length by omega)
   have bW:=ZsC jE
   obtain⟨b12,o12,nU,ky⟩:=Zai Ru.len (pn.all xj (zA2 ma)).row jE (by omega)
   refine Zaa rfl ⟨b12,o12,nU,⟨by omega,dO⟩,_,_,_,_,_,_,_,_,_,_,_,_,_,_,_,_,ky,λb13=>Zaa rfl (Zaa rfl (Zab (λh=>?_) (λh=>?_)))⟩
   ·have hz:ru.go.size≠0:=λe=>by
     have h:(!(ru.go.toList == ByteArray.toList ⟨#[]⟩))=true:=h
     rw[Zr8,e]at h;simp at h
    have hw:=Zvd hz
    obtain⟨ix,mH⟩:∃z:Int,z=(if ZeM.any (λy=>eqS ru.go y)then((ZeM.findIdx λy=>eqS ru.go y:Nat):Int)else -1):=⟨_,rfl⟩
    rw[<-mH]at hw
    refine⟨λk _ _=>bif Nat.beq k 1 then Zxw ZeM else Ret (.int .i64 ix),_,rfl,ZjG mn,ZcT,?_⟩
    rintro a9 n9 c9 m8 eZ ⟨a10,c10,q8,eQ⟩
    simp only[Value.slice.injEq]at q8
    obtain⟨rfl,rfl,rfl⟩:=q8
    refine⟨_,rfl,(by have:=Zn5 ZeM a9 c9 ru.go m8 (by decide) eQ;rwa [<-mH]at this),Zs6,?_⟩
    rintro n10 m9 gT hd b14 nV
    obtain rfl:=ZvQ hd
    rw[hw,Option.toList_some]at bW
    have ua:=mLt eZ gT
    refine Zcr ZvB ZxO (ts:=(xj.rules.take r).filterMap ZcQ) nV n10 (by rw[Zg1];exact aB.mono ua) 8 (by omega) (by omega) (.inl rfl) λa5 c5 m5 cO bP iM M3 _ _ _ _ fw=>?_
    have nL:=mLt (mLt ua (Mem.le_add nV _)) (mLt cO fw)
    refine⟨rfl,xj.rules.length - (r+1),by omega,r+1,a5,c5,by omega,by rw[fK,bW,zA1];rfl,by rw[bW,zA1];rfl,mLt qj nL,by rw[bW,<-Zg1];exact bP.mono fw,?_,rfl⟩
    rcases iM.2 with h|⟨bb,oo,ha',h⟩
    ·exact .inl h
    ·rcases h with h|⟨h1,h2,h3⟩
     ·rcases bK with h4|⟨b',h4,h5⟩
      ·rw[h4,ha']at h;cases h
      ·exact .inr ⟨b',by rw[<-h,h4],h5⟩
     ·subst h1
      have pW:=mLt qj (mLt ua (Mem.le_add nV (iC n10)))
      exact .inr ⟨bb,ha',Zbk pW h2,Zer pW h3⟩
   ·have hz:ru.go.size=0:=by
     have h:(!(ru.go.toList == ByteArray.toList ⟨#[]⟩))=false:=h
     rw[Zr8]at h;simpa using h
    have hw:ZcQ ru=none:=by unfold ZcQ;rw[if_pos hz]
    rw[hw,Option.toList_none,List.append_nil]at bW
    exact⟨rfl,xj.rules.length - (r+1),by omega,r+1,a8,c8,by omega,by rw[fK,bW],by rw[bW],qj,by rw[bW];exact aB,bK,rfl⟩
  ·have dX:¬(r:Int) < (xj.rules.length:Nat):=dX
   obtain rfl:r=xj.rules.length:=by omega
   rw[List.take_length]at aB pN ⊢
   obtain⟨W,hW⟩:∃W,W=xj.rules.filterMap ZcQ:=⟨_,rfl⟩
   rw[<-hW]at aB pN ⊢
   have yh:=Ze8 W
   have yi:=ZqF W
   have mF:∀(N c:Nat) b',Yi (.slice a8 N c) b'->M1.free b'/\M1.k b'=none:=λN c b' h=>by
    rcases bK with h4|⟨b2,h4,h5⟩
    ·rw[h4]at h;simp[Yi,Tok.blk]at h
    ·rw[h4]at h
     obtain rfl:b2=b':=by simpa[Yi,Tok.blk]using h
     exact h5
   refine⟨_,_,ZgO W a8 c8 mn aB (by omega),(λt ht bb dN=>by
    obtain rfl:t=_:=by simpa using ht
    exact dN),(λbb dN=>.inl ⟨_,by simp,dN⟩),(λv _ _ _ h=>by rw[h.1];rfl),?_⟩
   rintro m8 eZ _ a9 c9 d9 ⟨_,_,cH,dH⟩
   simp only[List.cons.injEq,Value.slice.injEq,and_true]at cH
   obtain⟨rfl,rfl,rfl⟩:=cH
   have pX:=Zd5 (Zgf W) a9 d9 m8 dH (by omega)
   rw[yh]at pX
   refine⟨_,_,pX,(λt ht bb dN=>by
    obtain rfl:t=_:=by simpa using ht
    exact dN),(λbb dN=>.inl ⟨_,by simp,dN⟩),(λv _ _ _ h=>by rw[h.1];rfl),?_⟩
   rintro a10 n10 c10 m9 gT _ a11 c11 d11 ⟨j9,_,qk,fj⟩
   simp only[Value.slice.injEq,List.cons.injEq,and_true]at j9 qk
   obtain⟨rfl,rfl,rfl⟩:=j9
   obtain⟨rfl,rfl,rfl⟩:=qk
   have oC:M1.le m8:=mLt (Ze3 qj (mF _ _)) eZ
   have ub:M1.le m9:=mLt (Ze3 oC (mF _ _)) gT
   have fj:=Zuh fj
   obtain⟨V,hV⟩:∃V,V=Go.Lib.compact (Zgf W):=⟨_,rfl⟩
   rw[<-hV]at fj ⊢
   have uc:Ze9 W=V:=hV.symm
   rw[uc]at yi
   obtain⟨y1,oF⟩:=ZcC (show j < T1.length by rw[ij];omega)
   obtain⟨y2,ud⟩:=ZcC (show j < T2.length by rw[jQ];omega)
   have ql:y1.l=V:=by
    have h:=Zzd hk ma
    rw[<-tT,List.getElem?_map,oF]at h
    exact(Option.some.inj h).trans (by rw[<-hW];exact uc)
   have kA:y2.l=Ze9 (V.map (ZtY i k)):=by
    have h:=Zxp hk tS kY pf oa ma
    rw[<-tX,List.getElem?_map,ud]at h
    exact(Option.some.inj h).trans (by rw[<-hW,uc])
   obtain⟨bT,oT,yj,ym⟩:=Zai Il.len (tY.mono ub) oF (by omega)
   refine⟨bT,oT,yj,⟨by omega,by rw[ij];exact aC⟩,_,ym 0 _ rfl,Zah (ZjT y1.l V y1.a a11 y1.c d11 m9 (by rw[ql];omega) ((tZ y1 (zA2 oF)).mono ub) fj) λm10 fJ=>Zn4 (by rw[decide_eq_true ql];rfl) ?_⟩
   refine⟨λxs _ _ mm2 q=>∃z:Nat,z<=V.length/\xs=[.int .i64 z]/\M1.le mm2/\rowRd mm2 a11 (Zcf (Zl7 i k z V))/\q=V.length - z,⟨_,0,by omega,rfl,mLt ub fJ,by rw[ZsD];exact fj.mono fJ,rfl⟩,?_⟩
   rintro z' mz qz _ ⟨z,hz,yo,ue,oH,rfl⟩
   obtain rfl:z'=z:=by simpa using yo
   have vO:IntKind.i64.wrap ((z:Int)+1)=((z+1:Nat):Int):=by rw[Zak (by omega) (by omega)];rfl
   refine ZaG (λfg=>?_) (λgD=>?_)
   ·have fg:(z:Int) < (V.length:Nat):=fg
    obtain⟨y,hy⟩:=ZcC (show z < V.length by omega)
    have ol:=Zt0 (i:=i) (k:=k) hy
    obtain⟨b,o,ha,yp⟩:=Zz0 oH (show(Zcf (Zl7 i k z V))[z]?=some (.int .i64 y) by unfold Zcf;rw[List.getElem?_map,ol];rfl)
    refine⟨b,o,ha,⟨by omega,fg⟩,_,yp,Zaa rfl (Zab (λh=>?_) (λh=>?_))⟩
    ·have h:(y == (i:Int))=true:=h
     have h:y=(i:Int):=beq_iff_eq.1 h
     rcases bK with h4|⟨b2,rfl,h5,h6⟩
     ·rw[h4]at ha;cases ha
     cases ha
     refine⟨b,0,rfl,⟨by omega,fg⟩,rfl,by show 0+z*1+1<=W.length*1;omega,rfl,rfl,V.length - (z+1),by omega,z+1,by omega,by rw[vO],Mem.le_upd ue h5 _ _,?_,rfl⟩
     rw[ZnV hy,show ZtY i k y=k from if_pos h]
     have:=Zu5 ZvB (by omega) (L:=Zl7 i k z V) (k:=z) (y:=(k:Int)) (by rw[Zg1];exact oH) (by rw[ZqX];omega)
     rw[Zg1]at this
     exact this
    ·have h:(y == (i:Int))=false:=h
     have h:¬y=(i:Int):=beq_eq_false_iff_ne.1 h
     exact⟨rfl,rfl,V.length - (z+1),by omega,z+1,by omega,by rw[vO],ue,by rw[ZsF hy h];exact oH,rfl⟩
   ·have gD:¬(z:Int) < (V.length:Nat):=gD
    obtain rfl:z=V.length:=by omega
    rw[ZsE]at oH
    obtain⟨U,hU⟩:∃U,U=V.map (ZtY i k):=⟨_,rfl⟩
    have vP:U.length=V.length:=by rw[hU,List.length_map]
    rw[<-hU]at oH kA
    have vQ:=ZfO U a11 d11 W.length mz oH (by omega) (by omega)
    rw[vP]at vQ
    refine⟨_,_,vQ,(λt ht bb dN=>by
     obtain rfl:t=_:=by simpa using ht
     exact dN),(λbb dN=>.inl ⟨_,by simp,dN⟩),(λv _ _ _ h=>by rw[h.1];rfl),?_⟩
    rintro m11 gd _ a12 c12 d12 ⟨_,_,cH,dE⟩
    simp only[List.cons.injEq,Value.slice.injEq,and_true]at cH
    obtain⟨rfl,rfl,rfl⟩:=cH
    have lD:M1.le m11:=mLt (Ze3 ue (mF _ _)) gd
    have yq:=Ze8 U
    have qm:=Zdr (Zgf U) a12 d12 W.length m11 dE (by omega) (by omega)
    rw[yq,vP]at qm
    obtain⟨b2,o2,fh,eG⟩:=Zai Il.len t6 ud (by omega)
    subst fh
    have ld:∀m',M1.le m'->m'.c b2 (o2+j*1+0)=some (.slice y2.a y2.l.length y2.c):=λm' hm'=>eG.mono hm' 0 _ rfl
    have kA:y2.l=Go.Lib.compact (Zgf U):=kA
    have uf:∀m',M1.le m'->rowRd m' a12 (Zcf (Go.Lib.compact (Zgf U)))->CX Tryz.prog 38 #[.slice y2.a y2.l.length y2.c,.slice a12 (Go.Lib.compact (Zgf U)).length d12] m' [] (Ret (.bool true)):=λm' hm' hr'=>by
     have:=ZjT y2.l (Go.Lib.compact (Zgf U)) y2.a a12 y2.c d12 m' (by rw[kA];have:=ZqF U;unfold Ze9 at this;omega) ((t7 y2 (zA2 ud)).mono hm') hr'
     rwa [decide_eq_true kA]at this
    refine⟨λxs _ _ mm=>xs=[.bool false]/\M1.le mm,?_,?_⟩
    ·repeat' first
      | (refine⟨b2,o2,rfl,⟨by omega,by omega⟩,?_⟩)
      | (refine⟨_,ld m11 lD,?_⟩)
      | (refine⟨_,_,qm,(λt ht bb dN=>by
        obtain rfl:t=_:=by simpa using ht
        exact dN),(λbb dN=>.inl ⟨_,by simp,dN⟩),(λv _ _ _ h=>by rw[h.1];rfl),?_⟩
         rintro aa nn cc m12 jz _ ae ce de ⟨qn,_,mM,iW⟩
         simp only[Value.slice.injEq,List.cons.injEq,and_true]at qn mM
         obtain⟨rfl,rfl,rfl⟩:=qn
         obtain⟨rfl,rfl,rfl⟩:=mM
         have jy:M1.le m12:=mLt (Ze3 lD (mF _ _)) jz
         have iW:=Zuh iW
         repeat' first
          | exact Zah (uf m12 jy iW) λm13 ug=>⟨rfl,rfl,rfl,mLt jy ug⟩
          | (refine⟨_,ld m12 jy,?_⟩)
          | (refine⟨b2,o2,rfl,⟨by omega,by omega⟩,?_⟩)
          | apply And.intro)
      | apply And.intro
    ·rintro bb a n c m' _ ⟨hx,hM'⟩
     obtain rfl:bb=false:=by simpa using hx
     exact Zn4 rfl ⟨rfl,s.states.length - (j+1),by omega,j+1,by omega,by rw[ku],hM',rfl⟩
 ·have ps:=p1.mono ot
  obtain⟨bi2,oi2,qo,qp⟩:=Zai Sta.len ps.row qh (by omega)
  have yr:xi.s.size<=1000000000000000:=(hr.all xi (zA2 qh)).s
  refine⟨λ_ _ _=>Zv8 xi.s xi.s s,bi2,oi2,qo,⟨by omega,by omega⟩,_,qp 0 _ rfl,bi2,oi2,qo,⟨by omega,by omega⟩,_,qp 0 _ rfl,_,rfl,ZfR s xi.s xi.s mm ps hl yr,Zhv,?_⟩
  rintro n a n4 c a3 n5 c3 m8 eZ ⟨t2,uh,nW,ui⟩ b M3 fw uj
  obtain⟨rfl,rfl,rfl,rfl,rfl,rfl,rfl⟩:=ZjW uh
  rw[ZsH]at nW
  obtain⟨f1,f2⟩:=hk.find_name jP
  have jM:=ZvK s xk.s M3 (ps.mono fw) hl
  rw[f1,f2]at jM
  obtain⟨bk2,ok2,uk,ul⟩:=Zai Sta.len (ps.mono fw).row jP (by omega)
  refine⟨λ_ _ _=>Ret (Zz3 true k),bk2,ok2,uk,⟨by omega,by omega⟩,_,ul 0 _ rfl,_,rfl,jM,ZvJ,?_⟩
  rintro nn bb m9 gT um M4 gJ yt
  obtain⟨rfl,rfl⟩:=Zx1 um
  have qq:=mLt fw gJ
  have p4:=ps.mono qq
  have cY:=ZoF t2 s M4 (ui.mono (mLt uj gJ)) p4
  rw[ZnS nW ((Ze7 nW).trans hl)]at cY
  refine⟨λk _ _=>bif Nat.beq k 5 then Zv8 ⟨#[110,111,119,104,101,114,101]⟩ ⟨#[97]⟩ s else Ret (.bool true),_,rfl,cY,ZkP,?_⟩
  rintro b7 m10 fJ hd
  obtain rfl:=ZoG hd
  have p10:=p4.mono fJ
  refine ZqY rfl ⟨_,rfl,ZfR s ⟨#[110,111,119,104,101,114,101]⟩ ⟨#[97]⟩ m10 p10 hl (by decide),Zhv,?_⟩
  rintro n a n4 c a3 n5 c3 m11 gd ⟨t3,un,nX,uo⟩
  obtain⟨rfl,rfl,rfl,rfl,rfl,rfl,rfl⟩:=ZjW un
  rw[ZsI hk (by decide +kernel) (by decide +kernel)]at nX
  have kC:=ZoF t3 s m11 uo (p10.mono gd)
  rw[ZnS nX ((Ze7 nX).trans hl)]at kC
  refine⟨_,rfl,kC,ZkP,?_⟩
  rintro b8 m12 jz hd
  obtain rfl:=ZoG hd
  have p12:=p10.mono (mLt gd jz)
  obtain⟨bi3,oi3,uq,ur⟩:=Zai Sta.len p12.row qh (by omega)
  obtain⟨bk3,ok3,ut,uu⟩:=Zai Sta.len p12.row jP (by omega)
  refine ZqY rfl (ZqY (by simp) (ZqY rfl ⟨bi3,oi3,uq,⟨by omega,by omega⟩,_,ur 0 _ rfl,bk3,ok3,ut,⟨by omega,by omega⟩,_,uu 0 _ rfl,Zaa rfl λM5 _ _ _ yu=>Zaf (mLt (mLt gI ot) (mLt qq (mLt fJ (mLt gd (mLt jz yu))))) ?_⟩))
  show Value.bool (((i:Int) == (k:Int)) == eqS xi.s xk.s)=_
  have he:eqS xi.s xk.s=decide (i=k):=by rw[<-Zbq pf,<-Zbq oa];exact Zxl i (by omega) k (by omega)
  rw[he]
  by_cases h:i=k
  ·subst h;simp
  ·rw[decide_eq_false h,show((i:Int) == (k:Int))=false from beq_eq_false_iff_ne.2 (by omega)];rfl
end Go.Proofs.YtpjepnkiiojgfaaGreat