/- Part of the proof: conditions and contracts of functions of this program. No condition of its own. -/
import Derived.Test.YtgclajkldphoaaaPEnv
import Derived.Test.YtgclajkldphoaaaMc
import Derived.Test.YtgclajkldphoaaaPVC
import Derived.Test.YtgclajkldphoaaaMr
import Derived.Test.YtgclajkldphoaaaPC13Q
import Derived.Test.YtgclajkldphoaaaPC13R
set_option linter.unusedVariables false
namespace Go.Proofs.Ytgclajkldphoaaa
open Go Go.Eng Go.Proofs Go.RowKit
open Go.Value (int slice agg bool string tuple func)
open Go.IntKind (u8 u64 i64)
set_option maxRecDepth 100000
noncomputable def ZoY:Env:=EB
def Zid  (m:Mem)(R:RT):Prop:=
 ∀(b:Nat),∃(m'':Mem),Mem.le m m''/\Mem.le m'' m/\R (agg (Array.mk [int i64 (-1:Int),int i64 (-1:Int)])) m'' []
theorem ZmH  (m:Mem)(R:RT)(h:Zid  m R):CX Try.prog 21 #[] m [] R:=
 Zaj (E:=ZoY) ZaA mix Try.func21 [] [] (by kernel_rfl) (Eq.mp (by kernel_rfl) h)
noncomputable def ZmI:Env:={ EB with
 dr:=(λi=>bif Nat.beq i 2 then[⟨0,[],[],none,[],[]⟩,⟨1,[],[],none,[0],[]⟩,⟨2,[],[],none,[],[]⟩,⟨3,[],[],none,[],[]⟩,⟨4,[],[],none,[3],[]⟩,⟨5,[],[],none,[3,4],[]⟩,⟨6,[],[],none,[3,4,5],[]⟩,⟨7,[],[],none,[3,4,5,6],[]⟩,⟨8,[],[],none,[2,3,4,5,6,7],[]⟩,⟨9,[],[],none,[0,1],[]⟩,⟨10,[],[],none,[0,1,2,3,4,5,6,7,8,9],[]⟩]else[]) }
def Zhj(p0b p0o:Nat)(p1:Int)(m:Mem)(R:RT):Prop:=
 ∃(v:Value),m p0b (p0o+0+6)=some v/\chk (ZaO i64 v&&decide (i64=i64)) (br (!RowKit.intOf v == (-1:Int)) (∃(v:Value),m p0b (p0o+0+6)=some v/\chk (ZaO i64 v) (∃(m'':Mem),Mem.le m m''/\
 Mem.le m'' m/\R (tuple (Array.mk [int i64 (IntKind.wrap i64 (p1+(1:Int))),bool (decide (p1 < RowKit.intOf v))])) m'' [])) (∃(v:Value),m p0b (p0o+0+5)=some v/\chk (ZaO i64 v) (∃(m'':Mem),Mem.le m
 m''/\Mem.le m'' m/\R (tuple (Array.mk [int i64 (if RowKit.intOf v < IntKind.wrap i64 (p1+(1:Int))then RowKit.intOf v else IntKind.wrap i64 (p1+(1:Int))),bool true])) m'' [])))
theorem ZkU(p0b p0o:Nat)(p1:Int)(m:Mem)(R:RT)(h:Zhj p0b p0o p1 m R):CX Try.prog 75 #[.pointer (some ⟨p0b,p0o,none⟩),.int .i64 p1] m [] R:=
 Zaj (E:=ZmI) ZaA mix Try.func75 [.v (.pointer (some ⟨p0b,p0o,none⟩)),.v (.int .i64 p1)] [] (by kernel_rfl) (Eq.mp (by kernel_rfl) h)
noncomputable def ZoZ:Env:={ EB with
 frzNew:=[1]
 thaw:=true
 kF:=true }
def Zie(p0g:Nat)(p0fi p0ca:List Value)(m:Mem)(R:RT):Prop:=
 ∀(b:Nat)(m':Mem),Mem.le m m'->Mem.reads m' b 0 [func (Fn.func p0g) (Array.mk p0fi) (Array.mk p0ca)]->Mem.free m b->(∀(b' o:Nat)(u:Value),m' b' o=some u->m b' o=some u\/b'=b)->Mem.k m b=none->
 ∃(m'':Mem),Mem.le m m''/\Mem.le m'' m'/\R (func (Fn.func 90) (Array.mk []) (Array.mk [Value.pointer (some (Addr.mk b 0 none))])) m'' []
theorem ZmJ(p0g:Nat)(p0fi p0ca:List Value)(m:Mem)(R:RT)(h:Zie p0g p0fi p0ca m R):CX Try.prog 71 #[.func (.func p0g) p0fi.toArray p0ca.toArray] m [] R:=
 Zaj (E:=ZoZ) ZaA mix Try.func71 [.v (.func (.func p0g) p0fi.toArray p0ca.toArray)] [] (by kernel_rfl) (Eq.mp (by kernel_rfl) h)
noncomputable def Zfu:Env:={ EB with
 frzNew:=[4,5,6,7]
 thaw:=true
 kF:=true }
def ZcQ(p0b p0o p1b p1o:Nat)(p2 p3:Int)(m:Mem)(R:RT):Prop:=
 ∀(b:Nat)(m':Mem),Mem.le m m'->Mem.reads m' b 0 [Value.pointer (some (Addr.mk p0b p0o none))]->Mem.free m b->(∀(b' o:Nat)(u:Value),m' b' o=some u->m b' o=some u\/b'=b)->Mem.k m b=none->∀(b_1
 : Nat) (m'_1:Mem),Mem.le m' m'_1->Mem.reads m'_1 b_1 0 [Value.pointer (some (Addr.mk p1b p1o none))]->Mem.free m' b_1->(∀(b' o:Nat)(u:Value),m'_1 b' o=some u->m' b' o=some u\/b'=b_1)->Mem.k m' b_1
 = none->∀(b_2:Nat)(m':Mem),Mem.le m'_1 m'->Mem.reads m' b_2 0 [int i64 p2]->Mem.free m'_1 b_2->(∀(b' o:Nat)(u:Value),m' b' o=some u->m'_1 b' o=some u\/b'=b_2)->Mem.k m'_1 b_2=none->∀(b_3:
 Nat) (m'_2:Mem),Mem.le m' m'_2->Mem.reads m'_2 b_3 0 [int i64 p3]->Mem.free m' b_3->(∀(b' o:Nat)(u:Value),m'_2 b' o=some u->m' b' o=some u\/b'=b_3)->Mem.k m' b_3=none->∃(m'':Mem),Mem.le m
 m''/\Mem.le m'' m'_2/\R (func (Fn.func 91) (Array.mk []) (Array.mk [Value.pointer (some (Addr.mk b_1 0 none)),Value.pointer (some (Addr.mk b_3 0 none)),Value.pointer (some (Addr.mk b 0 none)),Value.pointer (some
 (Addr.mk b_2 0 none))])) m'' []
theorem ZeP(p0b p0o p1b p1o:Nat)(p2 p3:Int)(m:Mem)(R:RT)(h:ZcQ p0b p0o p1b p1o p2 p3 m R):CX Try.prog 72 #[.pointer (some ⟨p0b,p0o,none⟩),.pointer (some ⟨p1b,p1o,none⟩),.int .i64 p2,.int .i64 p3] m [] R:=
 Zaj (E:=Zfu) ZaA mix Try.func72 [.v (.pointer (some ⟨p0b,p0o,none⟩)),.v (.pointer (some ⟨p1b,p1o,none⟩)),.v (.int .i64 p2),.v (.int .i64 p3)] [] (by kernel_rfl) (Eq.mp (by kernel_rfl) h)
noncomputable def Zcq:Env:={ EB with
 loops:=(λi=>bif Nat.beq i 3 then⟨[(7,.int .i64)],[2],[(11,1)],false⟩ else⟨[],[],[],false⟩)
 tokOf:=(λi=>bif Nat.beq i 11 then 11 else 0)
 thaw:=true
 rgY:=(λi=>bif Nat.beq i 3 then true else false) }
def Zbi(p1g:Nat)(p1fi p1ca:List Value)(m:Mem)(Y:Nat->Prop)(R:RTY):Prop:=
 ∀(b:Nat),∃(Y_1:Nat->Prop),∃(n:Nat),∃(V:Nat->List Value->Mem->Prop),∃(R_1:Mem->Prop),IXY Try.prog p1g p1fi p1ca m Y_1 n V R_1/\(∀(b:Nat),Y_1 b->Mem.k (Mem.off m Y) b=none/\∃(e:List
 (Value×Value)),Mem.k m b=some e)/\(∀(i:Nat)(x:List Value)(mi:Mem),V i x mi->Shape.fitsL [Shape.int i64] x=true)/\∃(I:IT),I [] [[slice none 0 0]] [slice none 0 0] (Mem.off m Y_1) 0/\(∀(n_1:
 Int) (cs:List Value) (a:Option Addr) (n_2 c:Nat) (m' mi:Mem) (k:Nat),k < n->Mem.le (Mem.off m Y_1) m'->Mem.le (Mem.off m Y_1) mi->Mem.le mi (Mem.or m' mi)->(∀(b:Nat),Mem.newC (Mem.off m Y_1) mi b->
 Mem.free m' b)->V k [int i64 n_1] mi->I [] [cs] [slice a n_2 c] m' k->Eng.Zs2 cs 0 λ(v:Value)=>∀(b_1:Nat),Mem.free (Mem.or m' mi) b_1->chk (Zeq v&&true) ((Tok.mk (slice a n_2 c) 1=Tok.mk v 1\/v =
 slice none 0 0\/slC v < slN v+1)/\∃(xs:List Value),∃(ys:List Value),List.length xs=slN v*1/\List.length ys=1*1/\rowRd (Mem.add (Mem.or m' mi) b_1 [int i64 n_1]) (slA v) xs/\rowRd (Mem.add (Mem.or
 m' mi) b_1 [int i64 n_1]) (some (Addr.mk b_1 0 none)) ys/\(∀(u:Value),u∈ys->Value.oneCell' u=true)/\(slN v+1)*8<=140737488355328/\slN v+1<=9223372036854775807/\∀(a':Option Addr)(c':Nat) (m'_1
 : Mem),Mem.le (Mem.add (Mem.or m' mi) b_1 [int i64 n_1]) m'_1->rowRd m'_1 a' (List.append xs ys)->TokFact (Mem.add (Mem.or m' mi) b_1 [int i64 n_1]) (slA v) a' (slN v+1) c'->[some (Box.mk b [] 39 1 false true)] =
 [some (Box.mk b [] 39 1 false true)]/\Mem.le (Mem.off m Y_1) m'_1/\I [] [[slice a' (slN v+1) c']] [slice a' (slN v+1) c'] (Mem.less m'_1 (Mem.off m Y_1) mi) (k+1)))/\∀(cs:List Value)(a:Option Addr) (n_1 c
 : Nat) (m' me:Mem),Mem.le (Mem.off m Y_1) m'->Mem.le (Mem.off m Y_1) me->Mem.le me (Mem.or m' me)->I [] [cs] [slice a n_1 c] m' n->R_1 me->Eng.Zs2 cs 0 λ(v:Value)=>R v (Mem.or m' me) [] []
theorem ZbX(p1g:Nat)(p1fi p1ca:List Value)(m:Mem)(Y:Nat->Prop)(R:RTY)(h:Zbi p1g p1fi p1ca m Y R):CXY Try.prog 89 #[.slice none 0 0,.func (.func p1g) p1fi.toArray p1ca.toArray] m Y [] [] R:=
 Zcc (E:=Zcq) ZaA mix Try.func89 [.v (.slice none 0 0),.v (.func (.func p1g) p1fi.toArray p1ca.toArray)] [] [] [] (by decide) (by kernel_rfl) (Eq.mp (by kernel_rfl) h)
noncomputable def ZdH:Env:={ EB with
 thaw:=true
 lentC:=(λi=>bif Nat.beq i 4 then some []else none) }
def Zb4(p0g:Nat)(p0fi p0ca:List Value)(m:Mem)(Y:Nat->Prop)(R:RTY):Prop:=
 ∃(Y_1:Nat->Prop),∃(R_1:Value->Mem->List (List Value)->List Value->Prop),CXY Try.prog 89 (Array.mk [slice none 0 0,func (Fn.func p0g) (Array.mk p0fi) (Array.mk p0ca)]) m Y_1 [] [] R_1/\(∀(t:Tok),t∈[]
 -> ∀(b:Nat),Tok.blk t=some b->Y_1 b)/\(∀(b:Nat),Y_1 b->(∃(t:Tok),t∈[]/\Tok.blk t=some b)\/(Mem.free (Mem.off m Y) b/\Mem.k (Mem.off m Y) b=none)/\((∃(o:Nat),∃(v:Value),m b o=some v)\/
 ∃(e:List (Value×Value)),Mem.k m b=some e)/\True)/\(∀(v:Value)(m':Mem) (css:List (List Value)) (tvs:List Value),R_1 v m' css tvs->Shape.fits Shape.slice v=true)/\∀(a:Option Addr)(n c:Nat)
 (m':Mem),Mem.le (Mem.off m Y_1) m'->(NewM m m' λ(b:Nat)=>Y_1 b\/Mem.free m b)->R_1 (slice a n c) m' [] []->R (slice a n c) m' [] []
theorem Zdk(p0g:Nat)(p0fi p0ca:List Value)(m:Mem)(Y:Nat->Prop)(R:RTY)(h:Zb4 p0g p0fi p0ca m Y R):CXY Try.prog 70 #[.func (.func p0g) p0fi.toArray p0ca.toArray] m Y [] [] R:=
 Zcc (E:=ZdH) ZaA mix Try.func70 [.v (.func (.func p0g) p0fi.toArray p0ca.toArray)] [] [] [] (by decide) (by kernel_rfl) (Eq.mp (by kernel_rfl) h)
noncomputable def ZkV:Env:={ EB with
 loops:=(λi=>bif Nat.beq i 4 then⟨[(8,.slice)],[3],[(21,1)],true⟩ else bif Nat.beq i 5 then⟨[(11,.int .i64)],[3],[(21,1)],true⟩ else⟨[],[],[],false⟩)
 tokOf:=(λi=>bif Nat.beq i 21 then 21 else 0)
 frzNew:=[2]
 thaw:=true
 rgY:=(λi=>bif Nat.beq i 4 then true else false)
 ldF:=(λi=>bif Nat.beq i 7 then some (.fn)else none) }
def Zgc(p0g:Nat)(p0fi p0ca:List Value)(c0b c0o:Nat)(m:Mem)(Y:Nat->Prop)(n:Nat)(V:Nat->List Value->Mem->Prop)(R:Mem->Prop):Prop:=
 ∀(l b:Nat)(m':Mem),Mem.le m m'->Mem.reads m' b 0 [func (Fn.yield l) (Array.mk []) (Array.mk [])]->Mem.free m b->(∀(b' o:Nat)(u:Value),m' b' o=some u->m b' o=some u\/b'=b)->∀(ad:Nat),∃(v:
 Value),m' c0b c0o=some v/\∃(g:Nat),∃(fi:List Value),∃(ca:List Value),v=func (Fn.func g) (Array.mk fi) (Array.mk ca)/\∃(ab:Nat->Prop),∃(am:Nat),∃(an:Nat->List Value->Mem->Prop),∃(R_1:
 Mem->Prop),IXY Try.prog g fi ca m' ab am an R_1/\(∀(b:Nat),ab b->Mem.k (Mem.off m Y) b=none/\∃(e:List (Value×Value)),Mem.k m' b=some e)/\(∀(i:Nat)(x:List Value)(mi:Mem),an i x mi->
 Shape.fitsL [Shape.slice] x=true)/\∃(I:IT),I [int i64 0] [[slice none 0 0]] [slice none 0 0] (Mem.off m' ab) 0/\(∀(y:Int)(a:Option Addr)(ah c:Nat)(cs:List Value)(ap:Option Addr)(aq ar:Nat) (ac
 mi:Mem) (k:Nat),k < am->Mem.le (Mem.off m' ab) ac->Mem.le (Mem.off m' ab) mi->Mem.le mi (Mem.or ac mi)->(∀(b:Nat),Mem.newC (Mem.off m' ab) mi b->Mem.free ac b)->an k [slice a ah c] mi->I [int i64 y] [cs]
 [slice ap aq ar] ac k->∃(ai:IT),(∃(n:Nat),ai [int i64 y,int i64 0] [cs] [slice ap aq ar] (Mem.or ac mi) n)/\∀(y ae:Int)(cs:List Value)(aj:Option Addr)(ak c:Nat)(af:Mem)(ao:Nat),True->ai
 [int i64 y,int i64 ae] [cs] [slice aj ak c] af ao->br (decide (ae < (↑ah:Int))) (∃(au:Nat),∃(o:Nat),a=some (Addr.mk au o none)/\Zag ae ah/\∃(v:Value),af au (o+Int.toNat ae*1)=some v/\
 Eng.Zs2 cs 0 λ(aw:Value)=>∃(R:RT),True/\CX Try.prog 45 (Array.mk [aw,v]) af [] R/\Zaz Shape.bool R/\∀(av:Bool)(m':Mem),Mem.le af m'->R (bool av) m' []->br av ([some (Box.mk ad [] 39 1 false
 true),some (Box.mk b [func (Fn.yield l) (Array.mk []) (Array.mk [])] 124 1 true true)]=[some (Box.mk ad [] 39 1 false true),some (Box.mk b [func (Fn.yield l) (Array.mk []) (Array.mk [])] 124 1 true true)]/\([none]
 : List (Option Tok))=[none]/\∃(n':Nat),n' < ao/\ai [int i64 y,int i64 (IntKind.wrap i64 (ae+(1:Int)))] [cs] [slice aj ak c] m' n') (Eng.Zs2 cs 0 λ(aa:Value)=>chk (Nat.beq (List.length (Array.toList
 (Value.cells v))) 1&&true) (∀(ag:Nat),Mem.free m' ag->chk (Zeq aa&&true) ((Tok.mk (slice aj ak c) 1=Tok.mk aa 1\/aa=slice none 0 0\/slC aa < slN aa+1)/\∃(xs:List Value),∃(ys:List Value),
 List.length xs=slN aa*1/\List.length ys=1*1/\rowRd (Mem.add m' ag (List.append (Array.toList (Value.cells v)) [])) (slA aa) xs/\rowRd (Mem.add m' ag (List.append (Array.toList (Value.cells v)) [])) (some
 (Addr.mk ag 0 none)) ys/\(∀(u:Value),u∈ys->Value.oneCell' u=true)/\(slN aa+1)*8<=140737488355328/\slN aa+1<=9223372036854775807/\∀(a':Option Addr)(c':Nat)(al:Mem),Mem.le (Mem.add m' ag
 (List.append (Array.toList (Value.cells v)) [])) al->rowRd al a' (List.append xs ys)->TokFact (Mem.add m' ag (List.append (Array.toList (Value.cells v)) [])) (slA aa) a' (slN aa+1) c'->(l=l/\∃(i:Nat),y=(↑i
 : Int)/\i < n/\V i [v] al)/\[some (Box.mk ad [] 39 1 false true),some (Box.mk b [func (Fn.yield l) (Array.mk []) (Array.mk [])] 124 1 true true)]=[some (Box.mk ad [] 39 1 false true),some (Box.mk b [func
 (Fn.yield l) (Array.mk []) (Array.mk [])] 124 1 true true)]/\([none]:List (Option Tok))=[none]/\∃(n':Nat),n' < ao/\ai [int i64 (y+(1:Int)),int i64 (IntKind.wrap i64 (ae+(1:Int)))] [[slice a' (slN aa
 + 1) c']] [slice a' (slN aa+1) c'] al n')))) ([some (Box.mk ad [] 39 1 false true),some (Box.mk b [func (Fn.yield l) (Array.mk []) (Array.mk [])] 124 1 true true)]=[some (Box.mk ad [] 39 1 false true),some (Box.mk
 b [func (Fn.yield l) (Array.mk []) (Array.mk [])] 124 1 true true)]/\Mem.le (Mem.off m' ab) af/\I [int i64 y] [cs] [slice aj ak c] (Mem.less af (Mem.off m' ab) mi) (k+1)))/\∀(y:Int)(cs:List Value) (a:Option
 Addr) (ah c:Nat) (ac me:Mem),Mem.le (Mem.off m' ab) ac->Mem.le (Mem.off m' ab) me->Mem.le me (Mem.or ac me)->I [int i64 y] [cs] [slice a ah c] ac am->R_1 me->y=(↑n:Int)/\R (Mem.or ac me)
theorem Zif(p0g:Nat)(p0fi p0ca:List Value)(c0b c0o:Nat)(m:Mem)(Y:Nat->Prop)(n:Nat)(V:Nat->List Value->Mem->Prop)(R:Mem->Prop)(h:Zgc p0g p0fi p0ca c0b c0o m Y n V R):IXY Try.prog 90 [] [.pointer (some ⟨c0b,c0o,none⟩)] m Y n V R:=
 Zjy (E:=ZkV) ZaA mix Try.func90 [] [.pointer (some ⟨c0b,c0o,none⟩)] n V R (by kernel_rfl) (Eq.mp (by kernel_rfl) h)
noncomputable def Zen:Env:={ EB with
 loops:=(λi=>bif Nat.beq i 10 then⟨[(74,.int .i64)],[],[],true⟩ else bif Nat.beq i 18 then⟨[(110,.int .i64)],[],[],true⟩ else bif Nat.beq i 25 then⟨[(138,.int .i64)],[],[],true⟩ else⟨[],[],[],false⟩)
 dr:=(λi=>bif Nat.beq i 4 then[⟨0,[],[],none,[],[]⟩,⟨1,[],[],none,[],[]⟩,⟨2,[],[],none,[1],[]⟩,⟨3,[],[],none,[1,2],[]⟩,⟨4,[],[],none,[1,2,3],[]⟩,⟨5,[],[],none,[1,2,3,4],[]⟩,⟨6,[],[],none,[0,1,2,3,4,5],[]⟩,⟨7,[],[],none,[0,1,2,3,4,5,6],[]⟩,⟨8,[],[],none,[0,1,2,3,4,5,6,7],[]⟩,⟨9,[],[],none,[0,1,2,3,4,5,6,7,8],[]⟩,⟨10,[],[],none,[0,1,2,3,4,5,6,7,8,9],[]⟩,⟨11,[],[],none,[0,1,2,3,4,5,6,7,8,9,10],[]⟩,⟨12,[],[],none,rg 0 12,[]⟩,⟨13,[],[],none,[0,1,2,3,4,5,6,7],[]⟩,⟨14,[],[],none,[0,1,2,3,4,5,6,7,13],[]⟩,⟨15,[],[],none,[0,1,2,3,4,5,6,7,13,14],[]⟩,⟨16,[],[],none,[0,1,2,3,4,5,6,7,13,14,15],[]⟩,⟨17,[],[],none,[0,1,2,3,4,5,6,7],[]⟩,⟨18,[],[],none,rg 0 8++rg 13 5,[]⟩,⟨19,[],[],none,rg 0 8++rg 13 6,[]⟩,⟨20,[],[],none,rg 0 20,[]⟩,⟨21,[],[],none,rg 0 21,[]⟩]else bif Nat.beq i 15 then[⟨0,[],[],none,[],[]⟩,⟨1,[],[],none,[],[]⟩,⟨2,[],[],none,[1],[]⟩,⟨3,[],[],none,[1,2],[]⟩,⟨4,[],[],none,[1,2,3],[]⟩,⟨5,[],[],none,[1,2,3,4],[]⟩,⟨6,[],[],none,[0,1,2,3,4,5],[]⟩]else bif Nat.beq i 29 then[⟨0,[],[],none,[],[]⟩,⟨1,[],[],none,[],[]⟩,⟨2,[],[],none,[1],[]⟩,⟨3,[],[],none,[1,2],[]⟩,⟨4,[],[],none,[1,2,3],[]⟩,⟨5,[],[],none,[1,2,3,4],[]⟩,⟨6,[],[],none,[0,1,2,3,4,5],[]⟩]else[])
 last:=(λi=>bif Nat.beq i 7 then true else bif Nat.beq i 17 then true else false)
 mix:=(λi=>bif Nat.beq i 7 then some ([0,1,2,3,4,5,6,7,8],[9,10])else bif Nat.beq i 17 then some ([0,1,2,3,4,5,6,7,8,11],[9,10])else none)
 thaw:=true
 gb:=true
 lentC:=(λi=>bif Nat.beq i 65 then some []else bif Nat.beq i 82 then some []else bif Nat.beq i 108 then some []else bif Nat.beq i 120 then some []else bif Nat.beq i 136 then some []else bif Nat.beq i 149 then some []else none) }
def Zcl(p0g:Nat)(p0fi p0ca:List Value)(c0b c0o c1b c1o c2b c2o c3b c3o:Nat)(m:Mem)(Y:Nat->Prop)(n:Nat)(V:Nat->List Value->Mem->Prop)(R:Mem->Prop):Prop:=
 ∀(l:Nat),∃(v:Value),m c0b c0o=some v/\chk (Zct v) (chk (Zct v) (∃(ai:Value),m (ZjU v) (ZjV v+0+0)=some ai/\chk (ZaO u8 ai&&decide (u8=u8)) (br (RowKit.intOf ai == (1:Int)) (∃(v:
 Value),m c1b c1o=some v/\chk (Nat.beq (List.length (Array.toList (Value.cells v))) 1&&true) (∀(b:Nat),Mem.free m b->(l=l/\∃(i:Nat),(0:Int)=(↑i:Int)/\i < n/\V i [slice (some (Addr.mk b 0 none))
 1 1] (Mem.add m b (List.append (Array.toList (Value.cells v)) [])))/\(0:Int)+(1:Int)=(↑n:Int)/\R (Mem.add m b (List.append (Array.toList (Value.cells v)) [])))) (chk (ZaO u8 ai&&decide (u8=u8)) (br
 (RowKit.intOf ai == (2:Int)) (∃(f:Fx),∃(v:Value),m c1b c1o=some v/\∃(aa:Value),m c2b c2o=some aa/\chk (Zct aa) (chk (Zct aa) (∃(ac:Value),m (ZjU aa) (ZjV aa+0)=some ac/\chk (Zeq ac)
 (chk (ZaO i64 v&&decide (i64=i64)) (br (decide (RowKit.intOf v < (↑(slN ac):Int))) (∃(v:Value),m c0b c0o=some v/\chk (Zct v) (chk (Zct v) (∃(ad:Value),∃(ah:Value),∃(ae:Value),∃(aj:
 Value),Mem.reads m (ZjU v) (ZjV v+0+1) [ad,ah,ae,aj]/\∃(v:Value),m c2b c2o=some v/\chk (Zct v) (chk (Zct v) (∃(an:Value),m (ZjU v) (ZjV v+0)=some an/\∃(v:Value),m c1b c1o=some v/\
 chk (Zbn v) (chk (Zeq an) (∃(b:Nat),∃(o:Nat),slA an=some (Addr.mk b o none)/\Zag (RowKit.intOf v) (slN an)/\∃(ao:Value),m b (o+Int.toNat (RowKit.intOf v)*1)=some ao/\∃(R_1:RT),R_1 =
 f 20 [agg (Array.mk [ad,ah,ae,aj]),ao] m/\CX Try.prog 92 (Array.mk [agg (Array.mk [ad,ah,ae,aj]),ao]) m [] R_1/\Zaz Shape.bool R_1/\∀(b:Bool)(m':Mem),Mem.le m m'->R_1 (bool b) m' []->∀(M:Mem),
 Mem.le m M->Mem.le m' M->br b (∃(v:Value),M c1b c1o=some v/\chk (ZaO i64 v&&decide (i64=i64)) (∀(b:Nat),Mem.free M b->(l=l/\∃(i:Nat),(0:Int)=(↑i:Int)/\i < n/\V i [slice (some (Addr.mk
 b 0 none)) 1 1] (Mem.add M b [int i64 (IntKind.wrap i64 (RowKit.intOf v+(1:Int)))]))/\(0:Int)+(1:Int)=(↑n:Int)/\R (Mem.add M b [int i64 (IntKind.wrap i64 (RowKit.intOf v+(1:Int)))]))) ((0:Int) =
 (↑n:Int)/\R M)))))))) (∀(M:Mem),Mem.le m M->Mem.le m M->(0:Int)=(↑n:Int)/\R M)))))) (chk (ZaO u8 ai&&decide (u8=u8)) (br (RowKit.intOf ai == (6:Int)) (∃(v:Value),(Mem.off m Y) c2b c2o=some
 v/\∃(aa:Value),(Mem.off m Y) c0b c0o=some aa/\chk (Zct aa) (chk (Zct aa) (∃(ac:Value),(Mem.off m Y) (ZjU aa) (ZjV aa+10)=some ac/\chk (Zeq ac) (∃(b:Nat),∃(o:Nat),slA ac=some (Addr.mk b
 o none)/\Zag (0:Int) (slN ac)/\∃(ad:Value),(Mem.off m Y) b (o+0)=some ad/\∃(ah:Value),(Mem.off m Y) c1b c1o=some ah/\∃(ab:Nat->Prop),∃(R_1:Value->Mem->List (List Value)->List Value->
 Prop),CXY Try.prog 44 (Array.mk [v,ad,int i64 0,ah]) m ab [] [] R_1/\(∀(t:Tok),t∈[]->∀(b:Nat),Tok.blk t=some b->ab b)/\(∀(b:Nat),ab b->(∃(t:Tok),t∈[]/\Tok.blk t=some b)\/(Mem.free
 (Mem.off m Y) b/\Mem.k (Mem.off m Y) b=none)/\((∃(o:Nat),∃(v:Value),m b o=some v)\/∃(e:List (Value×Value)),Mem.k m b=some e)/\True)/\(∀(v:Value)(m':Mem) (css:List (List Value)) (tvs:
 List Value),R_1 v m' css tvs->Shape.fits Shape.slice v=true)/\∀(a:Option Addr)(ag c:Nat)(m':Mem),Mem.le (Mem.off m ab) m'->(NewM m m' λ(b:Nat)=>ab b\/Mem.free m b)->R_1 (slice a ag c) m' [] []->
 (l=l/\∃(i:Nat),(0:Int)=(↑i:Int)/\i < n/\V i [slice a ag c] m')/\(0:Int)+(1:Int)=(↑n:Int)/\R m')))) (chk (ZaO u8 ai&&decide (u8=u8)) (br (RowKit.intOf ai == (4:Int)) (∃(v:Value),m
 c0b c0o=some v/\chk (Zct v) (chk (Zct v) (∃(aa:Value),m (ZjU v) (ZjV v+10)=some aa/\chk (Zeq aa) (∃(I:IT),(∃(n:Nat),I [int i64 0,int i64 0] [] [] m n)/\∀(y ag:Int)(m':Mem)(ak:Nat),
 True->I [int i64 y,int i64 ag] [] [] m' ak->br (decide (ag < (↑(slN aa):Int))) (chk (Zeq aa) (∃(b:Nat),∃(o:Nat),slA aa=some (Addr.mk b o none)/\Zag ag (slN aa)/\∃(v:Value),m' b (o+Int.toNat
 ag*1)=some v/\∃(ac:Value),m' c2b c2o=some ac/\∃(ad:Value),m' c1b c1o=some ad/\∃(ab:Nat->Prop),∃(R:Value->Mem->List (List Value)->List Value->Prop),CXY Try.prog 44 (Array.mk [ac,v,int
 i64 0,ad]) m' ab [] [] R/\(∀(t:Tok),t∈[]->∀(b:Nat),Tok.blk t=some b->ab b)/\(∀(b:Nat),ab b->(∃(t:Tok),t∈[]/\Tok.blk t=some b)\/(Mem.free (Mem.off m Y) b/\Mem.k (Mem.off m Y) b=none)/\
 ((∃(o:Nat),∃(v:Value),m' b o=some v)\/∃(e:List (Value×Value)),Mem.k m' b=some e)/\True)/\(∀(v:Value)(m':Mem) (css:List (List Value)) (tvs:List Value),R v m' css tvs->Shape.fits
 Shape.slice v=true)/\∀(a:Option Addr)(al c:Nat)(af:Mem),Mem.le (Mem.off m' ab) af->(NewM m' af λ(b:Nat)=>ab b\/Mem.free m' b)->R (slice a al c) af [] []->(l=l/\∃(i:Nat),y=(↑i:Int)/\i
 < n/\V i [slice a al c] af)/\∃(n':Nat),n' < ak/\I [int i64 (y+(1:Int)),int i64 (IntKind.wrap i64 (ag+(1:Int)))] [] [] af n')) (y=(↑n:Int)/\R m'))))) (chk (ZaO u8 ai&&decide (u8=u8)) (br
 (RowKit.intOf ai == (3:Int)) (∃(v:Value),m c3b c3o=some v/\∃(aa:Value),m c0b c0o=some aa/\chk (Zct aa) (chk (Zct aa) (∃(ac:Value),m (ZjU aa) (ZjV aa+10)=some ac/\chk (Zeq ac) (chk (ZaO
 i64 v&&decide (i64=i64)) (br (RowKit.intOf v == (↑(slN ac):Int)) (∃(v:Value),m c1b c1o=some v/\chk (Nat.beq (List.length (Array.toList (Value.cells v))) 1&&true) (∀(b:Nat),Mem.free m b->(l=l/\∃(i
 : Nat),(0:Int)=(↑i:Int)/\i < n/\V i [slice (some (Addr.mk b 0 none)) 1 1] (Mem.add m b (List.append (Array.toList (Value.cells v)) [])))/\(0:Int)+(1:Int)=(↑n:Int)/\R (Mem.add m b (List.append
 (Array.toList (Value.cells v)) [])))) (∃(v:Value),(Mem.off m Y) c2b c2o=some v/\∃(ad:Value),(Mem.off m Y) c0b c0o=some ad/\chk (Zct ad) (chk (Zct ad) (∃(ah:Value),(Mem.off m Y) (ZjU ad) (ZjV ad +
 10)=some ah/\∃(ae:Value),(Mem.off m Y) c3b c3o=some ae/\chk (Zbn ae&&Zeq ah) (∃(b:Nat),∃(o:Nat),slA ah=some (Addr.mk b o none)/\Zag (RowKit.intOf ae) (slN ah)/\∃(aj:Value),(Mem.off
 m Y) b (o+Int.toNat (RowKit.intOf ae)*1)=some aj/\∃(an:Value),(Mem.off m Y) c1b c1o=some an/\∃(ab:Nat->Prop),∃(R_1:Value->Mem->List (List Value)->List Value->Prop),CXY Try.prog 44 (Array.mk
 [v,aj,int i64 0,an]) m ab [] [] R_1/\(∀(t:Tok),t∈[]->∀(b:Nat),Tok.blk t=some b->ab b)/\(∀(b:Nat),ab b->(∃(t:Tok),t∈[]/\Tok.blk t=some b)\/(Mem.free (Mem.off m Y) b/\Mem.k (Mem.off m Y)
 b=none)/\((∃(o:Nat),∃(v:Value),m b o=some v)\/∃(e:List (Value×Value)),Mem.k m b=some e)/\True)/\(∀(v:Value)(m':Mem) (css:List (List Value)) (tvs:List Value),R_1 v m' css tvs->
 Shape.fits Shape.slice v=true)/\∀(a:Option Addr)(ag c:Nat)(m':Mem),Mem.le (Mem.off m ab) m'->(NewM m m' λ(b:Nat)=>ab b\/Mem.free m b)->R_1 (slice a ag c) m' [] []->∃(I:IT),(∃(n:Nat),I
 [int i64 0,int i64 0] [] [] m' n)/\∀(y ak:Int)(m':Mem)(al:Nat),True->I [int i64 y,int i64 ak] [] [] m' al->br (decide (ak < (↑ag:Int))) (∃(b:Nat),∃(o:Nat),a=some (Addr.mk b o none)/\Zag
 ak ag/\∃(v:Value),m' b (o+Int.toNat ak*1)=some v/\∃(ao:Value),m' c2b c2o=some ao/\∃(au:Value),m' c0b c0o=some au/\∃(ar:Value),m' c3b c3o=some ar/\chk (ZaO i64 ar&&decide (i64=i64))
 (∃(am:Nat->Prop),∃(R:Value->Mem->List (List Value)->List Value->Prop),CXY Try.prog 44 (Array.mk [ao,au,int i64 (IntKind.wrap i64 (RowKit.intOf ar+(1:Int))),v]) m' am [] [] R/\(∀(t:Tok),t∈[]->
 ∀(b:Nat),Tok.blk t=some b->am b)/\(∀(b:Nat),am b->(∃(t:Tok),t∈[]/\Tok.blk t=some b)\/(Mem.free (Mem.off m Y) b/\Mem.k (Mem.off m Y) b=none)/\((∃(o:Nat),∃(v:Value),m' b o=some v)\/∃
 (e:List (Value×Value)),Mem.k m' b=some e)/\True)/\(∀(v:Value)(m':Mem) (css:List (List Value)) (tvs:List Value),R v m' css tvs->Shape.fits Shape.slice v=true)/\∀(a:Option Addr)(ap c:Nat) (af
 : Mem),Mem.le (Mem.off m' am) af->(NewM m' af λ(b:Nat)=>am b\/Mem.free m' b)->R (slice a ap c) af [] []->(l=l/\∃(i:Nat),y=(↑i:Int)/\i < n/\V i [slice a ap c] af)/\∃(n':Nat),n' < al/\I [int
 i64 (y+(1:Int)),int i64 (IntKind.wrap i64 (ak+(1:Int)))] [] [] af n')) (y=(↑n:Int)/\R m')))))))))) (chk (ZaO u8 ai&&decide (u8=u8)) (br (RowKit.intOf ai == (5:Int)) (∃(v:Value),m c0b c0o=some
 v/\∃(aa:Value),m c3b c3o=some aa/\∃(R_1:RT),True/\CX Try.prog 75 (Array.mk [v,aa]) m [] R_1/\Zaz (Shape.tup [Shape.int i64,Shape.bool]) R_1/\∀(ag:Int)(b:Bool)(m':Mem),Mem.le m m'->R_1 (tuple
 (Array.mk [int i64 ag,bool b])) m' []->∃(v:Value),m' c2b c2o=some v/\∃(ac:Value),m' c0b c0o=some ac/\∃(ad:Value),m' c3b c3o=some ad/\∃(ah:Value),m' c1b c1o=some ah/\∃(ab:Nat->Prop),∃
 (R_2:Value->Mem->List (List Value)->List Value->Prop),CXY Try.prog 76 (Array.mk [v,ac,ad,ah]) m' ab [] [] R_2/\(∀(t:Tok),t∈[]->∀(b:Nat),Tok.blk t=some b->ab b)/\(∀(b:Nat),ab b->(∃(t:
 Tok),t∈[]/\Tok.blk t=some b)\/(Mem.free (Mem.off m Y) b/\Mem.k (Mem.off m Y) b=none)/\((∃(o:Nat),∃(v:Value),m' b o=some v)\/∃(e:List (Value×Value)),Mem.k m' b=some e)/\True)/\(∀(v:
 Value) (m':Mem) (css:List (List Value)) (tvs:List Value),R_2 v m' css tvs->Shape.fits Shape.slice v=true)/\∀(a:Option Addr)(ak c:Nat)(af:Mem),Mem.le (Mem.off m' ab) af->(NewM m' af λ(b:Nat)=>
 ab b\/Mem.free m' b)->R_2 (slice a ak c) af [] []->∃(I:IT),(∃(n:Nat),I [int i64 0,int i64 0] [] [] af n)/\∀(y al:Int)(m':Mem)(ap:Nat),True->I [int i64 y,int i64 al] [] [] m' ap->br (decide (al
 < (↑ak:Int))) (∃(av:Nat),∃(o:Nat),a=some (Addr.mk av o none)/\Zag al ak/\∃(v:Value),m' av (o+Int.toNat al*1)=some v/\br b (∃(ae:Value),m' c2b c2o=some ae/\∃(aj:Value),m' c0b c0o =
 some aj/\∃(am:Nat->Prop),∃(R:Value->Mem->List (List Value)->List Value->Prop),CXY Try.prog 44 (Array.mk [ae,aj,int i64 ag,v]) m' am [] [] R/\(∀(t:Tok),t∈[]->∀(b:Nat),Tok.blk t=some b->am
 b)/\(∀(b:Nat),am b->(∃(t:Tok),t∈[]/\Tok.blk t=some b)\/(Mem.free (Mem.off m Y) b/\Mem.k (Mem.off m Y) b=none)/\((∃(o:Nat),∃(v:Value),m' b o=some v)\/∃(e:List (Value×Value)),Mem.k m'
 b=some e)/\True)/\(∀(v:Value)(m':Mem) (css:List (List Value)) (tvs:List Value),R v m' css tvs->Shape.fits Shape.slice v=true)/\∀(a:Option Addr)(aw c:Nat)(aq:Mem),Mem.le (Mem.off m' am) aq->
 (NewM m' aq λ(b:Nat)=>am b\/Mem.free m' b)->R (slice a aw c) aq [] []->(l=l/\∃(i:Nat),y=(↑i:Int)/\i < n/\V i [slice a aw c] aq)/\∃(n':Nat),n' < ap/\I [int i64 (y+(1:Int)),int i64
 (IntKind.wrap i64 (al+(1:Int)))] [] [] aq n') (∃(n':Nat),n' < ap/\I [int i64 y,int i64 (IntKind.wrap i64 (al+(1:Int)))] [] [] m' n')) (∃(v:Value),m' c3b c3o=some v/\∃(ae:Value),m' c0b c0o=some
 ae/\chk (Zct ae) (chk (Zct ae) (∃(aj:Value),m' (ZjU ae) (ZjV ae+0+5)=some aj/\chk (ZaO i64 v&&ZaO i64 aj) (br (decide (RowKit.intOf v ≥ RowKit.intOf aj)) (∃(v:Value),m' c1b c1o=some v/\chk
 (Nat.beq (List.length (Array.toList (Value.cells v))) 1&&true) (∀(b:Nat),Mem.free m' b->(l=l/\∃(i:Nat),y=(↑i:Int)/\i < n/\V i [slice (some (Addr.mk b 0 none)) 1 1] (Mem.add m' b (List.append
 (Array.toList (Value.cells v)) [])))/\y+(1:Int)=(↑n:Int)/\R (Mem.add m' b (List.append (Array.toList (Value.cells v)) [])))) (y=(↑n:Int)/\R m')))))) ((0:Int)=(↑n:Int)/\R m))))))))))))))
theorem Zdw(p0g:Nat)(p0fi p0ca:List Value)(c0b c0o c1b c1o c2b c2o c3b c3o:Nat)(m:Mem)(Y:Nat->Prop)(n:Nat)(V:Nat->List Value->Mem->Prop)(R:Mem->Prop)(h:Zcl p0g p0fi p0ca c0b c0o c1b c1o c2b c2o c3b c3o m Y n V R):IXY Try.prog 91 [] [.pointer (some ⟨c0b,c0o,none⟩),.pointer (some ⟨c1b,c1o,none⟩),.pointer (some ⟨c2b,c2o,none⟩),.pointer (some ⟨c3b,c3o,none⟩)] m Y n V R:=
 Zjy (E:=Zen) ZaA mix Try.func91 [] [.pointer (some ⟨c0b,c0o,none⟩),.pointer (some ⟨c1b,c1o,none⟩),.pointer (some ⟨c2b,c2o,none⟩),.pointer (some ⟨c3b,c3o,none⟩)] n V R (by kernel_rfl) (Eq.mp (by kernel_rfl) h)
noncomputable def Zfv:Env:={ EB with
 loops:=(λi=>bif Nat.beq i 6 then⟨[(11,.slice),(32,.int .i64)],[],[(51,1)],false⟩ else⟨[],[],[],false⟩)
 joins:=(λi=>bif Nat.beq i 8 then some [(47,.bool)]else none)
 tokOf:=(λi=>bif Nat.beq i 51 then 51 else 0)
 thaw:=true
 lentC:=(λi=>bif Nat.beq i 30 then some []else none) }
def ZcR(p0b p0o p1b p1o:Nat)(p2 p3:Int)(m:Mem)(Y:Nat->Prop)(R:RTY):Prop:=
 ∃(R_1:RT),True/\CX Try.prog 75 (Array.mk [Value.pointer (some (Addr.mk p1b p1o none)),int i64 p2]) m [] R_1/\Zaz (Shape.tup [Shape.int i64,Shape.bool]) R_1/\∀(n:Int)(b:Bool)(m':Mem),Mem.le m m'->R_1
 (tuple (Array.mk [int i64 n,bool b])) m' []->br (!b) (R (slice none 0 0) m' [] []) (∃(v:Value),m' p1b (p1o+10)=some v/\chk (Zeq v) (∃(b:Nat),∃(o:Nat),slA v=some (Addr.mk b o none)/\Zag (0:
 Int) (slN v)/\∃(v:Value),m' b (o+0)=some v/\∃(ag:Nat->Prop),∃(R_2:Value->Mem->List (List Value)->List Value->Prop),CXY Try.prog 44 (Array.mk [Value.pointer (some (Addr.mk p0b p0o none)),v,int
 i64 0,int i64 p3]) m' ag [] [] R_2/\(∀(t:Tok),t∈[]->∀(b:Nat),Tok.blk t=some b->ag b)/\(∀(b:Nat),ag b->(∃(t:Tok),t∈[]/\Tok.blk t=some b)\/(Mem.free (Mem.off m Y) b/\Mem.k (Mem.off m Y) b
 = none)/\((∃(o:Nat),∃(v:Value),m' b o=some v)\/∃(e:List (Value×Value)),Mem.k m' b=some e)/\True)/\(∀(v:Value)(m':Mem) (css:List (List Value)) (tvs:List Value),R_2 v m' css tvs->
 Shape.fits Shape.slice v=true)/\∀(a:Option Addr)(n c:Nat)(ah:Mem),Mem.le (Mem.off m' ag) ah->(NewM m' ah λ(b:Nat)=>ag b\/Mem.free m' b)->R_2 (slice a n c) ah [] []->∃(I:IT),(∃(n:Nat),I
 [slice none 0 0,int i64 0] [] [slice none 0 0] ah n)/\∀(ab:Option Addr)(aa c:Nat)(af:Int)(ac:Option Addr)(ad ae:Nat)(m':Mem)(ai:Nat),True->I [slice ab aa c,int i64 af] [] [slice ac ad ae] m' ai
 -> br (decide (af < (↑n:Int))) (∃(b:Nat),∃(o:Nat),a=some (Addr.mk b o none)/\Zag af n/\∃(v:Value),m' b (o+Int.toNat af*1)=some v/\∃(b:Bool),chk (ZaO i64 v&&decide (i64=i64)) (br
 (decide (RowKit.intOf v > p3)) ([some (Tok.mk (slice ac ad ae) 1)]=[some (Tok.mk (slice ac ad ae) 1)]/\[bool true]=[bool b]) (∃(v:Value),m' p1b (p1o+0+5)=some v/\chk (ZaO i64 v) ([some (Tok.mk (slice
 ac ad ae) 1)]=[some (Tok.mk (slice ac ad ae) 1)]/\[bool (decide (p2 < RowKit.intOf v))]=[bool b])))/\br b (chk (Nat.beq (List.length (Array.toList (Value.cells v))) 1&&true) (∀(b:Nat),Mem.free m' b->(Tok.mk
 (slice ac ad ae) 1=Tok.mk (slice ab aa c) 1\/slice ab aa c=slice none 0 0\/c < aa+1)/\∃(xs:List Value),∃(ys:List Value),List.length xs=aa*1/\List.length ys=1*1/\rowRd (Mem.add m' b
 (List.append (Array.toList (Value.cells v)) [])) ab xs/\rowRd (Mem.add m' b (List.append (Array.toList (Value.cells v)) [])) (some (Addr.mk b 0 none)) ys/\(∀(u:Value),u∈ys->Value.oneCell' u=true)/\(aa+1) *
 8<=140737488355328/\aa+1<=9223372036854775807/\∀(a':Option Addr)(c':Nat)(aj:Mem),Mem.le (Mem.add m' b (List.append (Array.toList (Value.cells v)) [])) aj->rowRd aj a' (List.append xs ys)->TokFact
 (Mem.add m' b (List.append (Array.toList (Value.cells v)) [])) ab a' (aa+1) c'->∃(n':Nat),n' < ai/\I [slice a' (aa+1) c',int i64 (IntKind.wrap i64 (af+(1:Int)))] [] [slice a' (aa+1) c'] aj n')) (∃(n':
 Nat),n' < ai/\I [slice ab aa c,int i64 (IntKind.wrap i64 (af+(1:Int)))] [] [slice ac ad ae] m' n')) (R (slice ab aa c) m' [] [])))
theorem Zeo(p0b p0o p1b p1o:Nat)(p2 p3:Int)(m:Mem)(Y:Nat->Prop)(R:RTY)(h:ZcR p0b p0o p1b p1o p2 p3 m Y R):CXY Try.prog 76 #[.pointer (some ⟨p0b,p0o,none⟩),.pointer (some ⟨p1b,p1o,none⟩),.int .i64 p2,.int .i64 p3] m Y [] [] R:=
 Zcc (E:=Zfv) ZaA mix Try.func76 [.v (.pointer (some ⟨p0b,p0o,none⟩)),.v (.pointer (some ⟨p1b,p1o,none⟩)),.v (.int .i64 p2),.v (.int .i64 p3)] [] [] [] (by decide) (by kernel_rfl) (Eq.mp (by kernel_rfl) h)
noncomputable def ZfV:Env:={ EB with
 dr:=(λi=>bif Nat.beq i 2 then[⟨0,[],[],none,[],[]⟩,⟨1,[],[],none,[0],[]⟩,⟨2,[],[],none,[0,1],[]⟩,⟨3,[],[],none,[0,1,2],[]⟩,⟨4,[9],[],none,[],[]⟩,⟨5,[],[],none,[0,1,2,3,4],[]⟩,⟨6,[],[],none,[0,1,2,3,4,5],[]⟩,⟨7,[],[],none,[0,1,2,3,4,5,6],[]⟩,⟨8,[],[],none,[0,1,2,3,4,5,6],[]⟩,⟨9,[],[],none,[0,1,2,3,4,5,6,7],[]⟩,⟨10,[],[],none,[0,1,2,3,4,5,6,7,8,9],[]⟩]else bif Nat.beq i 6 then[⟨0,[],[],none,[],[]⟩,⟨1,[],[],none,[0],[]⟩,⟨2,[],[],none,[0,1],[]⟩,⟨3,[],[],none,[0,1,2],[]⟩,⟨4,[9],[],none,[],[]⟩,⟨5,[],[],none,[],[]⟩]else[])
 last:=(λi=>bif Nat.beq i 6 then true else false)
 lastK:=(λi=>bif Nat.beq i 6 then 1 else 1)
 thaw:=true
 lentC:=(λi=>bif Nat.beq i 37 then some []else none)
 ldF:=(λi=>bif Nat.beq i 16 then some (.int .i64)else none) }
def Zc7(p0b p0o p1b p1o:Nat)(p2 p3:Int)(m:Mem)(Y:Nat->Prop)(R:RTY):Prop:=
 ∃(v:Value),m p1b (p1o+8)=some v/\∃(n:Int),v=int i64 n/\∀(b:Nat),∃(v:Value),m p0b (p0o+3)=some v/\∃(b:Nat),∃(es:List (Value×Value)),∃(v_1:Value),∃(o:Bool),v=Value.map
 (some b)/\Mem.k m b=some es/\Zvb Try.prog 132 (agg (Array.mk [int i64 n,int i64 p2,int i64 p3]))/\LookIs Try.prog 132 (agg (Array.mk [int i64 n,int i64 p2,int i64 p3])) es (slice none 0 0) v_1 o/\br o (R v_1
 m [] []) (∃(R_1:RT),True/\CX Try.prog 72 (Array.mk [Value.pointer (some (Addr.mk p0b p0o none)),Value.pointer (some (Addr.mk p1b p1o none)),int i64 p2,int i64 p3]) m [] R_1/\Zaz Shape.fn R_1/\∀(g:Nat) (fi
 ca:List Value) (m':Mem),Mem.le m m'->R_1 (func (Fn.func g) (Array.mk fi) (Array.mk ca)) m' []->∃(R_2:RT),True/\CX Try.prog 71 (Array.mk [func (Fn.func g) (Array.mk fi) (Array.mk ca)]) m' [] R_2/\Zaz
 Shape.fn R_2/\∀(g:Nat)(fi ca:List Value)(m'_1:Mem),Mem.le m' m'_1->R_2 (func (Fn.func g) (Array.mk fi) (Array.mk ca)) m'_1 []->∃(Y_1:Nat->Prop),∃(R_3:Value->Mem->List (List Value)->List Value->
 Prop),CXY Try.prog 70 (Array.mk [func (Fn.func g) (Array.mk fi) (Array.mk ca)]) m'_1 Y_1 [] [] R_3/\(∀(t:Tok),t∈[]->∀(b:Nat),Tok.blk t=some b->Y_1 b)/\(∀(b:Nat),Y_1 b->(∃(t:Tok),t∈[]/\
 Tok.blk t=some b)\/(Mem.free (Mem.off m Y) b/\Mem.k (Mem.off m Y) b=none)/\((∃(o:Nat),∃(v:Value),m'_1 b o=some v)\/∃(e:List (Value×Value)),Mem.k m'_1 b=some e)/\True)/\(∀(v:Value) (m':
 Mem) (css:List (List Value)) (tvs:List Value),R_3 v m' css tvs->Shape.fits Shape.slice v=true)/\∀(a:Option Addr)(n_1 c:Nat)(m':Mem),Mem.le (Mem.off m'_1 Y_1) m'->(NewM m'_1 m' λ(b:Nat)=>Y_1 b
 \/ Mem.free m'_1 b)->R_3 (slice a n_1 c) m' [] []->∃(v:Value),m' p0b (p0o+3)=some v/\∃(b:Nat),∃(es:List (Value×Value)),∃(es':List (Value×Value)),v=Value.map (some b)/\Mem.k m' b=some es/\
 Zvb Try.prog 132 (agg (Array.mk [int i64 n,int i64 p2,int i64 p3]))/\Zj5 Try.prog 132 (agg (Array.mk [int i64 n,int i64 p2,int i64 p3])) (slice a n_1 c) es es'/\Mem.k (Mem.off m Y) b=none/\R (slice a n_1
 c) (Mem.updK m' b es') [] [])
theorem ZeQ(p0b p0o p1b p1o:Nat)(p2 p3:Int)(m:Mem)(Y:Nat->Prop)(R:RTY)(h:Zc7 p0b p0o p1b p1o p2 p3 m Y R):CXY Try.prog 44 #[.pointer (some ⟨p0b,p0o,none⟩),.pointer (some ⟨p1b,p1o,none⟩),.int .i64 p2,.int .i64 p3] m Y [] [] R:=
 Zcc (E:=ZfV) ZaA mix Try.func44 [.v (.pointer (some ⟨p0b,p0o,none⟩)),.v (.pointer (some ⟨p1b,p1o,none⟩)),.v (.int .i64 p2),.v (.int .i64 p3)] [] [] [] (by decide) (by kernel_rfl) (Eq.mp (by kernel_rfl) h)
end Go.Proofs.Ytgclajkldphoaaa
set_option linter.unusedVariables false
namespace Go.Proofs.Ytgclajkldphoaaa
open Go Go.Eng Go.Proofs Go.RowKit
open Go.Value (int slice agg bool string tuple func)
open Go.IntKind (u8 u64 i64)
set_option maxRecDepth 100000
noncomputable def ZdI:Env:={ EB with
 loops:=(λi=>bif Nat.beq i 2 then⟨[(8,.int .i64)],[],[],false⟩ else⟨[],[],[],false⟩) }
def Zb5(p0a:Option Addr)(p0n p0c:Nat)(p1:Int)(m:Mem)(R:RT):Prop:=
 ∃(I:IT),(∃(n:Nat),I [int i64 0] [] [] m n)/\∀(n:Int)(m':Mem)(n_1:Nat),Mem.le m m'->I [int i64 n] [] [] m' n_1->br (decide (n < (↑p0n:Int))) (∃(b:Nat),∃(o:Nat),p0a=some (Addr.mk b o none)
 /\ Zag n p0n/\∃(v:Value),m' b (o+Int.toNat n*1)=some v/\chk (ZaO i64 v) (br (p1 == RowKit.intOf v) (∃(m'':Mem),Mem.le m m''/\Mem.le m'' m'/\R (int i64 n) m'' []) (∃(n':Nat),n' < n_1/\I [int
 i64 (IntKind.wrap i64 (n+(1:Int)))] [] [] m' n'))) (∃(m'':Mem),Mem.le m m''/\Mem.le m'' m'/\R (int i64 (-1:Int)) m'' [])
theorem Zdx(p0a:Option Addr)(p0n p0c:Nat)(p1:Int)(m:Mem)(R:RT)(h:Zb5 p0a p0n p0c p1 m R):CX Try.prog 73 #[.slice p0a p0n p0c,.int .i64 p1] m [] R:=
 Zaj (E:=ZdI) ZaA mix Try.func73 [.v (.slice p0a p0n p0c),.v (.int .i64 p1)] [] (by kernel_rfl) (Eq.mp (by kernel_rfl) h)
noncomputable def ZcX:Env:=EB
def Zby(p0a:Option Addr)(p0n p0c:Nat)(p1:Int)(m:Mem)(R:RT):Prop:=
 ∃(R_1:RT),True/\CX Try.prog 73 (Array.mk [slice p0a p0n p0c,int i64 p1]) m [] R_1/\Zaz (Shape.int i64) R_1/\∀(n:Int)(m':Mem),Mem.le m m'->R_1 (int i64 n) m' []->∃(m'':Mem),Mem.le m m''/\Mem.le m''
 m'/\R (bool (decide (n ≥ (0:Int)))) m'' []
theorem ZcL(p0a:Option Addr)(p0n p0c:Nat)(p1:Int)(m:Mem)(R:RT)(h:Zby p0a p0n p0c p1 m R):CX Try.prog 45 #[.slice p0a p0n p0c,.int .i64 p1] m [] R:=
 Zaj (E:=ZcX) ZaA mix Try.func45 [.v (.slice p0a p0n p0c),.v (.int .i64 p1)] [] (by kernel_rfl) (Eq.mp (by kernel_rfl) h)
end Go.Proofs.Ytgclajkldphoaaa
set_option linter.unusedVariables false
set_option linter.unusedSimpArgs false
namespace Go.Proofs.Ytgclajkldphoaaa
open Go Go.Eng Go.Rx Go.Proofs Go.RowKit
set_option maxRecDepth 100000
theorem ZuT{l:List Nat}{q i:Nat}(h:l[q]?=some i):nsL (l.take (q+1))=nsL (l.take q)++[.int .i64 (i:Nat)]:=by
 unfold nsL
 rw[Zce h,List.map_append];rfl
theorem ZwU{l:List Nat}:∀u∈nsL l,u.oneCell'=true:=λu hu=>by
 obtain⟨x,_,rfl⟩:=List.mem_map.1 hu;rfl
theorem Zig{M:Mem}{b1 b:Nat}{cs:List Value}(hc:cs≠[])(h:(M.add b1 cs).free b):b≠b1/\M.free b:=by
 have h1:b≠b1:=λe=>by
  subst e
  have:=h 0
  rw[Mem.add_same]at this
  cases cs with
  | nil=>exact hc rfl
  | cons x l=>simp at this
 exact⟨h1,λo=>by rw[<-Mem.add_other M h1 cs o];exact h o⟩
theorem Zo0{m M:Mem}{b:Nat}(hm:m.le M)(h:M.free b):m.free b:=λo=>by
 cases he:m b o with
 | none=>rfl
 | some v=>have:=hm.c _ _ _ he;rw[h o]at this;cases this
def Zzz(X:List Nat)(kb:Nat)(i:Nat)(v:List Value)(mi:Mem):Prop:=(∃x,X[i]?=some x/\v=[.int .i64 (x:Nat)])/\∃es,mi.k kb=some es
theorem ZkW(g:Nat)(fi ca:List Value)(m:Mem)(kb:Nat)(Z:Nat->Prop)(hz:ZOk m kb Z)(X:List Nat)(hX:X.length<=1000000)(RI:Mem->Prop)(sO:∀a b:Mem,a.le b->RI a->RI b)(hk:∃es,m.k kb=some es)
  (sP:IXY Try.prog g fi ca m (λb=>b=kb) X.length (Zzz X kb) RI):
  CXY Try.prog 89 #[.slice none 0 0,.func (.func g) fi.toArray ca.toArray] m (λb=>b=kb) [] [] (λv m' _ _=>∃a c,v=.slice a X.length c/\rowRd (m'.off Z) a (nsL X)/\RI m'):=by
 apply ZbX
 unfold Zbi
 intro b0
 refine⟨λb=>b=kb,X.length,_,RI,sP,λb hb=>⟨by subst hb;exact Zms,by subst hb;exact hk⟩,λi x mi ⟨⟨y,_,hy⟩,_⟩=>by rw[hy];rfl,
  λ_ css tvs m' k=>∃a c,css=[[.slice a k c]]/\tvs=[.slice a k c]/\(k=0/\a=none\/∃b,a=some ⟨b,0,none⟩/\¬Z b/\m'.reads b 0 (nsL (X.take k))/\0 < k),⟨none,0,rfl,rfl,.inl ⟨rfl,rfl⟩⟩,?_,?_⟩
 ·rintro n1 cs a n2 c m' mi k hk' cE jX lD bZ ⟨⟨x,hx,hv⟩,es,eC⟩ ⟨a',c',cP,gQ,hI⟩
  obtain rfl:cs=[.slice a' k c']:=by simpa using cP
  obtain⟨rfl,rfl,rfl⟩:a=a'/\n2=k/\c=c':=by simpa using gQ
  obtain rfl:n1=x:=by simpa using hv
  have sQ:rowRd m' a (nsL (X.take n2)):=by
   rcases hI with⟨rfl,rfl⟩|⟨b,rfl,_,h,_⟩
   ·exact .inl rfl
   ·exact .inr ⟨b,0,rfl,h⟩
  refine Zau rfl λb1 bQ=>Zaa rfl ⟨.inl rfl,nsL (X.take n2),[.int .i64 (x:Nat)],?_,rfl,(sQ.mono (Mem.le_or _ _)).mono (Mem.le_add bQ _),.inr ⟨b1,0,rfl,?_⟩,?_,?_,?_,λa4 c4 m4 cB bG hf=>⟨rfl,?_,a4,c4,rfl,rfl,.inr ?_⟩⟩
  ·simp[nsL,slN];omega
  ·intro j v hj;rw[Nat.zero_add,Mem.add_same];exact hj
  ·intro u hu;obtain rfl:u=.int .i64 (x:Nat):=by simpa using hu
   rfl
  ·simp only[slN];omega
  ·simp only[slN];omega
  ·exact mLt cE (mLt (Mem.le_or _ _) (mLt (Mem.le_add bQ _) cB))
  ·rw[ZuT hx]
   have bG:rowRd m4 a4 (nsL (X.take n2)++[.int .i64 (x:Nat)]):=bG
   rcases bG with bG|⟨b,o,ha,cS⟩
   ·simp at bG
   obtain⟨_,hf⟩:=hf
   rcases hf with hf|⟨b',o',ha',hf⟩
   ·rw[ha]at hf;cases hf
   rw[ha]at ha';cases ha'
   have ua:(m'.or mi).k kb=some es:=lD.k _ _ eC
   have rB:ZOk (m'.or mi) kb Z:=hz.next (mLt cE (Mem.le_or _ _))
   have key:o=0/\¬Z b/\¬(but m kb).newC mi b:=by
    rcases hf with hf|⟨ho,nY,mP⟩
    ·have hf:a=some ⟨b,o,none⟩:=hf.trans ha
     rcases hI with⟨_,hI⟩|⟨b2,zB,sj,zC,BI⟩
     ·rw[hI]at hf;cases hf
     ·rw[zB]at hf;cases hf
      refine⟨rfl,sj,λhn=>?_⟩
      have bF:0 < (nsL (X.take n2)).length:=by simp[nsL];omega
      have:=zC 0 _ (List.getElem?_eq_getElem bF)
      rw[bZ b hn]at this;cases this
    ·obtain⟨g1,g2⟩:=Zig (by simp) nY
     refine⟨ho,rB.new ⟨es,ua⟩ g2 mP,λ⟨o2,v2,hn,_⟩=>?_⟩
     ·have:=lD.c _ _ _ hn
      rw[g2 o2]at this;cases this
   obtain⟨rfl,h2,h3⟩:=key
   exact⟨b,ha,h2,λj v hj=>by rw[Mem.less_at h3];exact cS j v hj,by omega⟩
 ·rintro cs a n2 c m' me cE eQ q8 ⟨a',c',cP,gQ,hI⟩ hR
  obtain rfl:cs=[.slice a' X.length c']:=by simpa using cP
  refine Zau rfl ⟨a',c',rfl,?_,sO _ _ q8 hR⟩
  rcases hI with⟨h1,rfl⟩|⟨b,rfl,h2,h3,_⟩
  ·refine .inl ?_
   have:X=[]:=List.eq_nil_of_length_eq_zero h1
   rw[this];rfl
  ·rw[List.take_length]at h3
   refine .inr ⟨b,0,rfl,λj v hj=>?_⟩
   rw[Mem.off_at h2]
   exact(Mem.le_or _ _).c _ _ _ (h3 j v hj)
theorem Zo1(g:Nat)(fi ca:List Value)(m:Mem)(kb:Nat)(Z:Nat->Prop)(hz:ZOk m kb Z)(X:List Nat)(hX:X.length<=1000000)(RI:Mem->Prop)(sO:∀a b:Mem,a.le b->RI a->RI b)(hk:∃es,m.k kb=some es)
  (sP:IXY Try.prog g fi ca m (λb=>b=kb) X.length (Zzz X kb) RI):
  CXY Try.prog 70 #[.func (.func g) fi.toArray ca.toArray] m (λb=>b=kb) [] [] (λv m' _ _=>∃a c,v=.slice a X.length c/\rowRd (m'.off Z) a (nsL X)/\RI m'):=by
 apply Zdk
 unfold Zb4
 refine⟨λb=>b=kb,_,ZkW g fi ca m kb Z hz X hX RI sO hk sP,by simp,λb hb=>.inr ⟨⟨λo=>Mem.off_free (Y:=λb=>b=kb) hb o,Mem.off_kn (Y:=λb=>b=kb) hb⟩,.inr (by subst hb;exact hk),trivial⟩,?_,λa n c m' hm hn h=>h⟩
 rintro v m' css tvs ⟨a,c,rfl,_⟩;rfl
theorem ZuU(l:List Nat)(a:Option Addr)(c x:Nat)(m:Mem)(h:rowRd m a (nsL l))(hl:l.length<=1000000000000000):CX Try.prog 73 #[.slice a l.length c,.int .i64 x] m [] (λv _ _=>∃z:Int,v=.int .i64 z/\(z ≥ 0↔x∈l)):=by
 apply Zdx
 unfold Zb5
 refine⟨λxs css _ m' q=>∃k:Nat,k<=l.length/\xs=[.int .i64 k]/\x ∉ l.take k/\q=l.length - k,⟨_,0,by omega,rfl,by simp,rfl⟩,?_⟩
 rintro z m1 q bH ⟨k,hk,hz,fX,hq⟩
 obtain rfl:z=k:=by simpa using hz
 refine Zab (λbF=>?_) (λcR=>⟨m1,bH,Mem.le_refl _,_,rfl,?_⟩)
 ·have bI:k < l.length:=by have:=of_decide_eq_true bF;omega
  obtain⟨u,hu⟩:∃u,l[k]?=some u:=⟨_,List.getElem?_eq_getElem bI⟩
  have fB:IntKind.i64.wrap ((k:Int)+1)=((k+1:Nat):Int):=by rw[ZaK (by omega) (by omega)];rfl
  rcases h.mono bH with h|⟨b,o,h1,h2⟩
  ·rw[show l=[] by simpa[nsL]using h]at hu;simp at hu
  simp only[fB,Int.toNat_natCast,Nat.mul_one]
  refine⟨b,o,h1,⟨by omega,by omega⟩,_,h2 k (.int .i64 u) (by rw[nsL,List.getElem?_map,hu];rfl),Zaa rfl (Zab (λhc=>⟨m1,bH,Mem.le_refl _,_,rfl,?_⟩) (λhc=>⟨l.length - (k+1),by omega,k+1,by omega,rfl,?_,rfl⟩))⟩
  ·have:x=u:=by simp[RowKit.intOf]at hc;omega
   subst this
   exact⟨λ_=>List.mem_of_getElem? hu,λ_=>by omega⟩
  ·rw[Zce hu,List.mem_append]
   rintro(h|h)
   ·exact fX h
   ·simp at h;subst h;simp[RowKit.intOf]at hc
 ·have:k=l.length:=by have:=of_decide_eq_false cR;omega
  subst this
  rw[List.take_length]at fX
  exact⟨λh=>by omega,λh=>absurd h fX⟩
theorem ZdY(l:List Nat)(a:Option Addr)(c x:Nat)(m:Mem)(h:rowRd m a (nsL l))(hl:l.length<=1000000000000000):CX Try.prog 45 #[.slice a l.length c,.int .i64 x] m [] (Ret (.bool (decide (x∈l)))):=by
 apply ZcL
 unfold Zby
 refine ZaZ (ZuU l a c x m h hl) (λv _ _ ⟨z,e,_⟩=>by rw[e];rfl) ?_
 rintro z m1 bH ⟨z',hz,hx⟩
 cases hz
 exact Zah bH (by unfold Ret;congr 1;exact decide_eq_decide.2 hx)
theorem ZwV(g:Nat)(fi ca:List Value)(m:Mem):CX Try.prog 71 #[.func (.func g) fi.toArray ca.toArray] m [] (λv m' _=>∃c,v=.func (.func 90) #[] #[.pointer (some ⟨c,0,none⟩)]/\m'.reads c 0 [.func (.func g) fi.toArray ca.toArray]/\m.k c=none):=by
 apply ZmJ
 unfold Zie
 intro c m1 bH hc _ _ hk
 exact⟨m1,bH,Mem.le_refl _,c,rfl,hc,hk⟩
theorem Zhk:∀(l seen:List Nat),∃r,Zpm seen l=seen++r
 | [],seen=>⟨[],by simp[Zpm]⟩
 | i::l,seen=>by
  unfold Zpm
  split
  ·exact Zhk l seen
  ·obtain⟨r,h⟩:=Zhk l (seen++[i])
   exact⟨i::r,by rw[h];simp⟩
def Zvo(LL:List (List Nat))(kb:Nat)(i:Nat)(v:List Value)(mi:Mem):Prop:=(∃l a c,LL[i]?=some l/\v=[.slice a l.length c]/\rowRd mi a (nsL l))/\∃es,mi.k kb=some es
def SeenAt(m:Mem)(p:Nat->Prop)(a:Option Addr)(l:List Nat):Prop:=(l=[]/\a=none)\/∃b,a=some ⟨b,0,none⟩/\p b/\m.reads b 0 (nsL l)/\l≠[]
theorem SeenAt.row{m:Mem}{p:Nat->Prop}{a:Option Addr}{l:List Nat}(h:SeenAt m p a l):rowRd m a (nsL l):=by
 rcases h with⟨rfl,_⟩|⟨b,h1,_,h3,_⟩
 ·exact .inl rfl
 ·exact .inr ⟨b,0,h1,h3⟩
theorem SeenAt.next{m m4:Mem}{p q:Nat->Prop}{a:Option Addr}{l r:List Nat}(h:SeenAt m p a l)(hm:∀b,p b->(∃v,m b 0=some v)->q b/\∀o v,m b o=some v->m4 b o=some v):SeenAt m4 q a l:=by
 rcases h with h|⟨b,h1,h2,h3,h4⟩
 ·exact .inl h
 ·have bF:0 < (nsL l).length:=by simp[nsL];exact List.length_pos_iff.2 h4
  obtain⟨g1,g2⟩:=hm b h2 ⟨_,by have:=h3 0 _ (List.getElem?_eq_getElem bF);exact this⟩
  exact .inr ⟨b,h1,g1,λj v hj=>g2 _ _ (h3 j v hj),h4⟩
theorem SeenAt.push{m M m4:Mem}{p:Nat->Prop}{a a4:Option Addr}{l:List Nat}{x:Nat}{n c:Nat}(h:SeenAt m p a l)(bG:rowRd m4 a4 (nsL l++[.int .i64 (x:Nat)]))(hf:TokFact M a a4 n c)(hp:∀b,M.free b->M.k b=none->p b):SeenAt m4 p a4 (l++[x]):=by
 rcases bG with bG|⟨b,o,ha,cS⟩
 ·simp at bG
 obtain⟨_,hf⟩:=hf
 rcases hf with hf|⟨b',o',ha',hf⟩
 ·rw[ha]at hf;cases hf
 rw[ha]at ha';cases ha'
 have key:o=0/\p b:=by
  rcases hf with hf|⟨ho,nY,mP⟩
  ·have hf:a=some ⟨b,o,none⟩:=hf.trans ha
   rcases h with⟨_,h⟩|⟨b2,h1,h2,_⟩
   ·rw[h]at hf;cases hf
   ·rw[h1]at hf;cases hf;exact⟨rfl,h2⟩
  ·exact⟨ho,hp b nY mP⟩
 obtain⟨rfl,rv⟩:=key
 exact .inr ⟨b,ha,rv,λj v hj=>cS j v (by simpa[nsL]using hj),by simp⟩
theorem ZuV(g:Nat)(fi ca:List Value)(c0:Nat)(m:Mem)(kb:Nat)(LL:List (List Nat))(hX:(ddp LL.flatten).length<=1000000)(hL:∀l∈LL,l.length<=1000000)(RI:Mem->Prop)(sO:∀a b:Mem,a.le b->RI a->RI b)(hk:∃es,m.k kb=some es)
  (hd:m.reads c0 0 [.func (.func g) fi.toArray ca.toArray]) (sP:∀m1:Mem,m.le m1->IXY Try.prog g fi ca m1 (λb=>b=kb) LL.length (Zvo LL kb) RI):
  IXY Try.prog 90 [] [.pointer (some ⟨c0,0,none⟩)] m (λb=>b=kb) (ddp LL.flatten).length (Zzz (ddp LL.flatten) kb) RI:=by
 apply Zif 0 [] []
 unfold Zgc
 intro yl yb m1 bH dZ BJ xm ad
 refine⟨_,bH.c _ _ _ (hd 0 _ rfl),g,fi,ca,rfl,λb=>b=kb,LL.length,_,RI,sP m1 bH,λb hb=>⟨by subst hb;exact Zms,by subst hb;obtain⟨es,eC⟩:=hk;exact⟨es,bH.k _ _ eC⟩⟩,λi x mi ⟨⟨l,a,c,_,hy,_⟩,_⟩=>by rw[hy];rfl,
  λxs css tvs m' k=>∃a c,xs=[.int .i64 ((ddp (LL.take k).flatten).length:Nat)]/\css=[[.slice a (ddp (LL.take k).flatten).length c]]/\tvs=[.slice a (ddp (LL.take k).flatten).length c]/\SeenAt m' (λb=>b≠kb) a (ddp (LL.take k).flatten),⟨none,0,rfl,rfl,rfl,.inl ⟨rfl,rfl⟩⟩,?_,?_⟩
 ·rintro y a ah c cs ap aq ar ac mi k hk' cE jX lD bZ ⟨⟨l,a',c',hl,hv,bG⟩,es,eC⟩ ⟨as1,c2,hy,cP,gQ,hS⟩
  obtain⟨rfl,rfl,rfl⟩:a=a'/\ah=l.length/\c=c':=by simpa using hv
  have jY:=hL l (List.mem_of_getElem? hl)
  obtain⟨S,sR⟩:∃S:Nat->List Nat,S=λj=>Zpm (ddp (LL.take k).flatten) (l.take j):=⟨_,rfl⟩
  have zD:S 0=ddp (LL.take k).flatten:=by rw[sR];rfl
  have zE:∀j x,l[j]?=some x->S (j+1)=if x∈S j then S j else S j++[x]:=λj x hx=>by
   rw[sR];simp only
   rw[Zce hx,Zg6]
   simp only[Zpm]
  have ub:S l.length=ddp (LL.take (k+1)).flatten:=by
   rw[sR];simp only[List.take_length]
   unfold ddp
   rw[Zce hl,List.flatten_append,Zg6]
   simp
  have jC:∀j,∃r,ddp LL.flatten=S j++r:=λj=>by
   have e:LL.flatten=(LL.take k).flatten++(l.take j++(l.drop j++(LL.drop (k+1)).flatten)):=by
    have e1:LL=LL.take k++l::LL.drop (k+1):=by
     have bF:=(List.getElem?_eq_some_iff.1 hl).1
     conv=>lhs;rw[<-List.take_append_drop k LL]
     rw[List.drop_eq_getElem_cons bF,(List.getElem?_eq_some_iff.1 hl).2]
    conv=>lhs;rw[e1,List.flatten_append,List.flatten_cons]
    rw[<-List.append_assoc (l.take j),List.take_append_drop]
   unfold ddp at sR ⊢
   rw[e,Zg6,Zg6,sR]
   exact Zhk _ _
  have bL:∀j,(S j).length<=1000000:=λj=>by
   obtain⟨r,hr⟩:=jC j
   have:=congrArg List.length hr
   simp at this;omega
  rw[<-zD]at hy cP gQ hS
  obtain rfl:y=((S 0).length:Nat):=by simpa using hy
  have ua:(ac.or mi).k kb=some es:=lD.k _ _ eC
  refine⟨λxs css tvs m' q=>∃(j:Nat)(a2:Option Addr)(c2:Nat),j<=l.length/\xs=[.int .i64 ((S j).length:Nat),.int .i64 (j:Nat)]/\css=[[.slice a2 (S j).length c2]]/\tvs=[.slice a2 (S j).length c2]/\(ac.or mi).le m'/\SeenAt m' (λb=>b≠kb/\¬(but m1 kb).newC mi b) a2 (S j)/\q=l.length - j,⟨_,0,as1,c2,by omega,rfl,cP,gQ,Mem.le_refl _,hS.next (r:=[]) λb hb ⟨v,hv⟩=>⟨⟨hb,λhn=>by rw[bZ b hn 0]at hv;cases hv⟩,λo v hv=>(Mem.le_or _ _).c _ _ _ hv⟩,rfl⟩,?_⟩
  rintro y ae cs aj ak cc af ao _ ⟨j,a2,c2',hj,cU,cP,gQ,iE,hS,rfl⟩
  simp only[List.cons.injEq,Value.int.injEq,true_and,and_true]at cU
  obtain⟨rfl,rfl⟩:=cU
  obtain rfl:cs=[.slice a2 (S j).length c2']:=by simpa using cP
  obtain⟨rfl,rfl,rfl⟩:aj=a2/\ak=(S j).length/\cc=c2':=by simpa using gQ
  refine Zab (λbF=>?_) (λcR=>?_)
  ·have bI:j < l.length:=by have:=of_decide_eq_true bF;omega
   obtain⟨x,hx⟩:∃x,l[j]?=some x:=⟨_,List.getElem?_eq_getElem bI⟩
   have fB:IntKind.i64.wrap ((j:Int)+1)=((j+1:Nat):Int):=by rw[ZaK (by omega) (by omega)];rfl
   have fA:=zE j x hx
   rcases(bG.mono lD).mono iE with h|⟨b,o,h1,h2⟩
   ·have:l=[]:=by simpa[nsL]using h
    rw[this]at bI;simp at bI
   simp only[Int.toNat_natCast,Nat.mul_one,fB]
   refine⟨b,o,h1,⟨by omega,by omega⟩,.int .i64 (x:Nat),h2 j _ (by rw[nsL,List.getElem?_map,hx];rfl),Zau rfl (Zaq (ZdY (S j) aj cc x af hS.row (by have:=bL j;omega)) λm2 bO=>Zab (λh=>⟨by trivial,by trivial,_,?_,j+1,aj,cc,by omega,?_,?_,?_,mLt iE bO,?_,rfl⟩) (λh=>Zau rfl (Zaa rfl λag qp=>Zaa rfl ⟨.inl rfl,nsL (S j),[.int .i64 (x:Nat)],?_,rfl,(hS.row.mono bO).mono (Mem.le_add qp _),.inr ⟨ag,0,rfl,?_⟩,?_,?_,?_,λa4 c4 m4 cB cI hf=>?_⟩)))⟩
   ·omega
   ·rw[fA,if_pos (of_decide_eq_true h)]
   ·rw[fA,if_pos (of_decide_eq_true h)]
   ·rw[fA,if_pos (of_decide_eq_true h)]
   ·rw[fA,if_pos (of_decide_eq_true h)]
    exact hS.next (r:=[]) λb hb _=>⟨hb,λo v hv=>bO.c _ _ _ hv⟩
   ·simp[nsL,slN]
   ·intro q v hq;rw[Nat.zero_add,Mem.add_same];exact hq
   ·intro u hu;obtain rfl:u=.int .i64 (x:Nat):=by simpa using hu
    rfl
   ·have:=bL j;simp only[slN];omega
   ·have:=bL j;simp only[slN];omega
   ·have fE:S (j+1)=S j++[x]:=by rw[fA,if_neg (of_decide_eq_false h)]
    have hM:(ac.or mi).le m4:=mLt iE (mLt bO (mLt (Mem.le_add qp _) cB))
    obtain⟨r,hr⟩:=jC (j+1)
    refine⟨⟨by trivial,(S j).length,rfl,?_,⟨x,?_,rfl⟩,es,hM.k _ _ ua⟩,by trivial,by trivial,_,?_,j+1,a4,c4,by omega,?_,?_,?_,hM,?_,rfl⟩
    ·rw[hr,fE];simp
    ·rw[hr,fE,List.append_assoc,List.getElem?_append_right (Nat.le_refl _)];simp
    ·omega
    ·rw[fE];simp
    ·rw[fE];simp[slN]
    ·rw[fE];simp[slN]
    ·rw[fE]
     have zF:SeenAt m2 (λb=>b≠kb/\¬(but m1 kb).newC mi b) aj (S j):=hS.next (r:=[]) λb hb _=>⟨hb,λo v hv=>bO.c _ _ _ hv⟩
     refine zF.push (M:=m2.add ag [.int .i64 (x:Nat)]) cI hf λb eT eB=>?_
     obtain⟨g1,g2⟩:=Zig (by simp) eT
     have dR:(ac.or mi).le m2:=mLt iE bO
     refine⟨λe=>?_,λ⟨o2,v2,hn,_⟩=>?_⟩
     ·subst e
      have h3:m2.k b=none:=eB
      rw[dR.k _ _ ua]at h3;cases h3
     ·have:=dR.c _ _ _ (lD.c _ _ _ hn)
      rw[g2 o2]at this;cases this
  ·have:j=l.length:=by have:=of_decide_eq_false cR;omega
   subst this
   refine⟨rfl,mLt cE (mLt (Mem.le_or _ _) iE),aj,cc,?_,?_,?_,?_⟩
   ·rw[<-ub]
   ·rw[<-ub]
   ·rw[<-ub]
   ·rw[<-ub]
    exact hS.next (r:=[]) λb hb _=>⟨hb.1,λo v hv=>by rw[Mem.less_at hb.2];exact hv⟩
 ·rintro y cs a ah c ac me cE eQ q8 ⟨as1,c2,hy,cP,gQ,hS⟩ hR
  rw[List.take_length]at hy
  refine⟨?_,sO _ _ q8 hR⟩
  simpa using hy
end Go.Proofs.Ytgclajkldphoaaa
set_option linter.unusedVariables false
set_option linter.unusedSimpArgs false
namespace Go.Proofs.Ytgclajkldphoaaa
open Go Go.Eng Go.Rx Go.Proofs Go.RowKit
set_option maxRecDepth 100000
theorem ZuW(a b c a' b' c':Int):EqIs Try.prog 132 (.agg #[.int .i64 a,.int .i64 b,.int .i64 c]) (.agg #[.int .i64 a',.int .i64 b',.int .i64 c']) (a == a'&&b == b'&&c == c'):=by
 refine⟨λw=>?_,λop ox oy w=>Zd7 (by kernel_rfl) op ox oy _ _ w⟩
 have u3:=Try.underlying3
 have a3:=Try.isAgg3
 have z3:=Try.sizeOf3
 rw[Op.equal,Op.maxDepth,show(10000:Nat)=9999+1 from rfl,Op.equalIn]
 simp only[Sem.run_bind,run_underlying Try.underlying132,Result.andThen_ok]
 go_simp
 by_cases h1:a=a' <;> by_cases h2:b=b' <;> by_cases h3:c=c' <;> simp[h1,h2,h3]
theorem ZwW(em:Bool)(n:Nat)(x:Int)(w:World):(Instr.checkKey em (n+1) 3 (.int .i64 x)).run Try.prog w=.ok () w:=by
 have u3:=Try.underlying3
 simp only[Instr.checkKey,Sem.run_bind,run_underlying u3,Result.andThen_ok]
 simp
theorem Zo2(a b c:Int):Zvb Try.prog 132 (.agg #[.int .i64 a,.int .i64 b,.int .i64 c]):=by
 intro em w
 have u3:=Try.underlying3
 have a3:=Try.isAgg3
 have z3:=Try.sizeOf3
 rw[show(10000:Nat)=9998+1+1 from rfl]
 generalize (9998:Nat)=n
 rw[Instr.checkKey]
 simp only[Sem.run_bind,run_underlying Try.underlying132,Result.andThen_ok]
 go_simp
 simp[ZwW,Result.andThen]
end Go.Proofs.Ytgclajkldphoaaa
set_option linter.unusedVariables false
set_option linter.unusedSimpArgs false
namespace Go.Proofs.Ytgclajkldphoaaa
open Go Go.Eng Go.Rx Go.Proofs Go.RowKit
set_option maxRecDepth 100000
theorem Zih{m:Mem}{n:Nd}(h:NRep m n):m n.b 0=some (.int .u8 n.t.k)/\m.reads n.b 1 [.int .u64 n.t.s0,.int .u64 n.t.s1,.int .u64 n.t.s2,.int .u64 n.t.s3]/\m n.b 5=some (.int .i64 n.t.mn)/\m n.b 6=some (.int .i64 n.t.mx)/\
  m n.b 8=some (.int .i64 (n.id:Nat))/\m n.b 9=some (.int .i64 (n.grp:Nat))/\m n.b 10=some (.slice n.a n.subs.length n.c):=by
 have h:=(Zdt.1 h).1
 have g:∀(j:Nat) v,n.cs[j]?=some v->m n.b j=some v:=λj v hj=>by have:=h j v hj;rwa [Nat.zero_add]at this
 refine⟨g 0 _ rfl,λj v hj=>?_,g 5 _ rfl,g 6 _ rfl,g 8 _ rfl,g 9 _ rfl,g 10 _ rfl⟩
 have bF:=(List.getElem?_eq_some_iff.1 hj).1
 have bF:j < 4:=bF
 have:j=0\/j=1\/j=2\/j=3:=by omega
 rcases this with rfl|rfl|rfl|rfl <;> (cases hj;first|exact g 1 _ rfl|exact g 2 _ rfl|exact g 3 _ rfl|exact g 4 _ rfl)
theorem ZkX{m:Mem}{n x:Nd}{j:Nat}(h:NRep m n)(hx:n.subs[j]?=some x):∃b0 o,n.a=some ⟨b0,o,none⟩/\m b0 (o+j)=some (ptr x.b 0):=by
 rcases(Zdt.1 h).2.2.2 with h|⟨b0,o,h1,h2⟩
 ·rw[h]at hx;simp at hx
 ·exact⟨b0,o,h1,(h2.get hx).1⟩
theorem Zys{m:Mem}{n x:Nd}{j:Nat}(h:NRep m n)(hx:n.subs[j]?=some x):n.t.subs[j]?=some x.t:=by
 rw[<-(Zdt.1 h).2.1.2,List.getElem?_map,hx];rfl
theorem ZsQ{m:Mem}{n:Nd}(h:NRep m n):n.t.subs.length=n.subs.length:=by
 rw[<-(Zdt.1 h).2.1.2];simp
theorem ZsR{m:Mem}{n:Nd}(h:NRep m n):n.subs.length<=1000000000000000:=by
 rw[<-ZsQ h];exact(Zdq (Zdt.1 h).2.1.1).1
theorem ZiO:∀{l seen:List Nat},seen.Nodup->(Zpm seen l).Nodup
 | [],seen,h=>h
 | i::l,seen,h=>by
  unfold Zpm
  split
  ·exact ZiO h
  ·rename_i hi
   exact ZiO (List.nodup_append.2 ⟨h,by simp,λa ha b hb e=>by simp at hb;subst hb;exact hi (e ▸ ha)⟩)
def Zyt(t:T):Prop:=t.k=5->0<=t.mn/\t.mn<=16/\(t.mx=-1\/(1<=t.mx/\t.mn<=t.mx/\t.mx<=16))
theorem ZcD{t:T}(h:t.right=true):Zyt t:=λh5=>by
 rcases Zhb h with h|h|h|h|h|h
 ·omega
 ·omega
 ·omega
 ·omega
 ·exact h.2.2
 ·omega
theorem ZtY{s:List Nat}{t:T}{d i:Nat}(h:t.right=true)(hi:i<=s.length):t.ends s d i=ddp (t.lists s d i).flatten:=
 Zqd s t d i hi λh5=>by
  obtain⟨h1,_,h3⟩:=ZcD h h5
  exact⟨h1,h3.imp id λh=>h.2.1⟩
theorem Zx2{l:List Nat}(hn:l.Nodup)(h:∀x∈l,x<=512):l.length<=513:=by
 have:=List.Nodup.length_le_of_subset hn (l₂:=List.range 513) (λx hx=>List.mem_range.2 (by have:=h x hx;omega))
 simpa using this
theorem Zb6{s:List Nat}{t:T}{d i:Nat}(h:t.right=true)(hs:s.length<=512)(hi:i<=s.length):(t.ends s d i).length<=513:=by
 refine Zx2 ?_ λx hx=>?_
 ·rw[ZtY h hi];exact ZiO (by simp)
 ·have:=Zg9 s t d i hi x hx;omega
structure Wk (m:Mem)(fb kb:Nat)(Z:Nat->Prop)(root:Nd)(sa:Option Addr)(s:List Nat)(sc:Nat):Prop where
 fin:Fin (m.off Z) fb kb root sa s sc
 has:HasM m kb Z root s
 z:ZOk m kb Z
theorem Wk.le{m m':Mem}{fb kb:Nat}{Z:Nat->Prop}{root:Nd}{sa:Option Addr}{s:List Nat}{sc:Nat}(h:Wk m fb kb Z root sa s sc)(hm:m.le m'):Wk m' fb kb Z root sa s sc:=⟨h.fin.mono (ZfP hm),h.has.le hm,h.z.le hm⟩
theorem Wk.next{m m':Mem}{fb kb:Nat}{Z:Nat->Prop}{root:Nd}{sa:Option Addr}{s:List Nat}{sc:Nat}(h:Wk m fb kb Z root sa s sc)(hm:(but m kb).le m')(hh:HasM m' kb Z root s):Wk m' fb kb Z root sa s sc:=⟨h.fin.mono (Ztt h.z.1 hm),hh,h.z.next hm⟩
theorem Wk.fb{m:Mem}{fb kb:Nat}{Z:Nat->Prop}{root:Nd}{sa:Option Addr}{s:List Nat}{sc:Nat}(h:Wk m fb kb Z root sa s sc):Fin (but m kb) fb kb root sa s sc:=h.fin.mono (Zon h.z.1)
theorem Wk.fm{m:Mem}{fb kb:Nat}{Z:Nat->Prop}{root:Nd}{sa:Option Addr}{s:List Nat}{sc:Nat}(h:Wk m fb kb Z root sa s sc):Fin m fb kb root sa s sc:=h.fin.mono (Mem.off_le _ _)
def ZwX(kb:Nat)(Z:Nat->Prop)(root:Nd)(s X:List Nat):RTY:=λv m' _ _=>∃a c,v=.slice a X.length c/\rowRd (m'.off Z) a (nsL X)/\HasM m' kb Z root s
theorem Za7{kb:Nat}{Z:Nat->Prop}{root:Nd}{s X:List Nat}:∀(v:Value)(m':Mem) (css:List (List Value)) (tvs:List Value),ZwX kb Z root s X v m' css tvs->Shape.fits Shape.slice v=true:=λv _ _ _ ⟨a,c,h,_⟩=>by rw[h];rfl
def ZlY(fb kb:Nat)(Z:Nat->Prop)(root:Nd)(sa:Option Addr)(s:List Nat)(sc:Nat)(n:Nd)(d i:Nat):Prop:=
 ∀m:Mem,Wk m fb kb Z root sa s sc->CXY Try.prog 44 #[.pointer (some ⟨fb,0,none⟩),.pointer (some ⟨n.b,0,none⟩),.int .i64 (d:Nat),.int .i64 (i:Nat)] m (λb=>b=kb) [] [] (ZwX kb Z root s (n.t.ends s d i))
theorem Zpw{P:Program}{g:FuncId}{args:Array Value}{m m0:Mem}{kb:Nat}{R0:RTY}{K:Option Addr->Nat->Nat->Mem->Prop}(h:CXY P g args m (λb=>b=kb) [] [] R0)(hk:∃es,m.k kb=some es)(hf:∀(v:Value)(m':Mem) (css:List (List Value)) (tvs:List Value),R0 v m' css tvs->Shape.fits Shape.slice v=true)
  (k:∀a n c m',(but m kb).le m'->R0 (.slice a n c) m' [] []->K a n c m'):
  ∃(Y:Nat->Prop),∃(R:Value->Mem->List (List Value)->List Value->Prop),CXY P g args m Y [] [] R/\(∀(t:Tok),t∈[]->∀(b:Nat),t.blk=some b->Y b)/\
   (∀(b:Nat),Y b->(∃(t:Tok),t∈[]/\t.blk=some b)\/(Mem.free (but m0 kb) b/\Mem.k (but m0 kb) b=none)/\((∃(o:Nat),∃(v:Value),m b o=some v)\/∃(e:List (Value×Value)),Mem.k m b=some e)/\True)/\
   (∀(v:Value)(m':Mem) (css:List (List Value)) (tvs:List Value),R v m' css tvs->Shape.fits Shape.slice v=true)/\
   ∀(a:Option Addr)(n c:Nat)(m':Mem),Mem.le (Mem.off m Y) m'->(NewM m m' λ(b:Nat)=>Y b\/Mem.free m b)->R (.slice a n c) m' [] []->K a n c m':=
 ⟨λb=>b=kb,R0,h,by simp,λb hb=>.inr ⟨by subst hb;exact⟨ZkC,Zms⟩,.inr (by subst hb;exact hk),trivial⟩,hf,λa n c m' h1 _ h2=>k a n c m' h1 h2⟩
theorem Zni(n:Nd)(d:Nat)(m:Mem)(h:NRep m n)(hk:Zyt n.t)(h5:n.t.k=5)(hd:d<=1000000000000000):CX Try.prog 75 #[.pointer (some ⟨n.b,0,none⟩),.int .i64 (d:Nat)] m [] (Ret (.tuple #[.int .i64 (Zbq n.t.mn n.t.mx d:Nat),.bool (Zhy n.t.mx d)])):=by
 apply ZkU
 unfold Zhj
 obtain⟨h1,h2,h3⟩:=hk h5
 obtain⟨_,_,g5,g6,_⟩:=Zih h
 have fB:IntKind.i64.wrap ((d:Int)+1)=((d+1:Nat):Int):=by rw[ZaK (by omega) (by omega)];rfl
 simp only[fB]
 refine⟨_,g6,Zaa rfl (Zab (λhq=>⟨_,g6,Zaa rfl (Zah (Mem.le_refl _) ?_)⟩) (λhq=>⟨_,g5,Zaa rfl (Zah (Mem.le_refl _) ?_)⟩))⟩
 ·have hq':n.t.mx≠-1:=by simpa[RowKit.intOf]using hq
  unfold Ret Zbq Zhy
  rw[if_neg hq',beq_eq_false_iff_ne.2 hq',Bool.false_or];rfl
 ·have hq':n.t.mx=-1:=by simpa[RowKit.intOf]using hq
  unfold Ret Zbq Zhy
  rw[if_pos hq',hq']
  congr 3
  show Value.int .i64 (if n.t.mn < _ then n.t.mn else _)=_
  congr 1
  split <;> omega
theorem Zo3{α:Type}{p:α->Bool}{l:List α}{j:Nat}{x:α}(h:l[j]?=some x):(l.take (j+1)).filter p=if p x=true then(l.take j).filter p++[x]else(l.take j).filter p:=by
 rw[Zce h,List.filter_append]
 simp only[List.filter_cons,List.filter_nil]
 split <;> simp
theorem Zo4(fb kb:Nat)(Z:Nat->Prop)(root:Nd)(sa:Option Addr)(s:List Nat)(sc:Nat)(n:Nd)(hn:n∈root.all)(h5:n.t.k=5)(d i:Nat)(hd:d<=1000000000000000)(hi:i<=s.length)(ih:∀x∈n.subs,ZlY fb kb Z root sa s sc x 0 i)(m:Mem)(hw:Wk m fb kb Z root sa s sc):
  CXY Try.prog 76 #[.pointer (some ⟨fb,0,none⟩),.pointer (some ⟨n.b,0,none⟩),.int .i64 (d:Nat),.int .i64 (i:Nat)] m (λb=>b=kb) [] [] (ZwX kb Z root s (ZcK (hd0 s n.t.subs) n.t.mn n.t.mx d i)):=by
 have hg:=hw.fin.good n hn
 have kU:=ZcD hg
 have cZ:=ZbB root hw.fm.rep n hn
 obtain⟨x0,gN⟩:∃x,n.t.subs=[x]:=by
  rcases Zhb hg with h|h|h|h|h|h <;> first|omega|exact h.2.1|exact h.2
 obtain⟨x,cU⟩:∃x,n.subs=[x]:=by
  have:=ZsQ cZ
  rw[gN]at this
  match bV:n.subs,this with
  | [x],_=>exact⟨x,rfl⟩
 have hx:n.subs[0]?=some x:=by rw[cU];rfl
 have iQ:x0=x.t:=by
  have:=Zys cZ hx
  rw[gN]at this;simpa using this
 subst iQ
 have gL:x∈n.subs:=by rw[cU];simp
 have fF:x.t.right=true:=hw.fin.good x (Zew hn gL)
 obtain⟨X,hX⟩:∃X,X=x.t.ends s 0 i:=⟨_,rfl⟩
 have sS:X.length<=513:=by rw[hX];exact Zb6 fF hw.fin.len hi
 have dK:ZcK (hd0 s n.t.subs) n.t.mn n.t.mx d i=if Zhy n.t.mx d=true then X.filter (λj=>decide (i < j)||decide ((d:Int) < n.t.mn))else[]:=by
  unfold ZcK
  rw[gN,hX,Za5];simp[hd0]
 apply Zeo
 unfold ZcR
 refine⟨_,trivial,Zni n d m cZ kU h5 hd,λv m' css h=>by unfold Ret at h;rw[h];rfl,?_⟩
 rintro n1 b1 m1 bH nQ
 simp only[Ret,Value.tuple.injEq,Array.mk.injEq,List.cons.injEq,Value.int.injEq,Value.bool.injEq,true_and,and_true]at nQ
 obtain⟨rfl,rfl⟩:=nQ
 have eH:=hw.le bH
 refine Zab (λhq=>⟨none,0,?_,?_,eH.has⟩) (λhq=>?_)
 ·rw[dK,if_neg (by simpa using hq)];rfl
 ·rw[dK,if_neg (by simpa using hq)];exact .inl rfl
 have sT:Zhy n.t.mx d=true:=by simpa using hq
 rw[dK,if_pos sT]
 have pQ:=ZbB root eH.fm.rep n hn
 obtain⟨_,_,_,_,_,_,g10⟩:=Zih pQ
 obtain⟨b0,o,ha,hp⟩:=ZkX pQ hx
 obtain⟨es1,iK,_⟩:=eH.has
 refine⟨_,g10,Zaa rfl ⟨b0,o,ha,⟨by omega,by simp[slN,cU]⟩,_,hp,Zpw (ih x gL m1 eH) ⟨es1,iK⟩ Za7 ?_⟩⟩
 rintro a nn c m2 bO ⟨a',c',hv,bG,dF⟩
 obtain⟨rfl,rfl,rfl⟩:a=a'/\nn=(x.t.ends s 0 i).length/\c=c':=by simpa using hv
 rw[<-hX]at bG
 rw[<-hX]
 have dX:=eH.next bO dF
 obtain⟨p,vV⟩:∃p:Nat->Bool,p=λj=>decide (i < j)||decide ((d:Int) < n.t.mn):=⟨_,rfl⟩
 rw[<-vV]
 have pL:∀j,((X.take j).filter p).length<=513:=λj=>by
  have h1:=List.length_filter_le p (X.take j)
  have h2:=List.length_take_le j X
  have h3:(X.take j).length<=X.length:=by rw[List.length_take];omega
  omega
 refine⟨λxs css tvs m' q=>∃(j:Nat)(a2:Option Addr)(c2:Nat),j<=X.length/\xs=[.slice a2 ((X.take j).filter p).length c2,.int .i64 (j:Nat)]/\tvs=[.slice a2 ((X.take j).filter p).length c2]/\(but m2 kb).le m'/\HasM m' kb Z root s/\SeenAt m' (λb=>¬Z b) a2 ((X.take j).filter p)/\q=X.length - j,⟨_,0,none,0,by omega,rfl,rfl,ZhX _ _,dF,.inl ⟨rfl,rfl⟩,rfl⟩,?_⟩
 rintro ab aa c2 af ac ad ae m3 ai _ ⟨j,a2,c2',hj,mQ,gQ,dE,fO,hS,rfl⟩
 simp only[List.cons.injEq,Value.int.injEq,Value.slice.injEq,true_and,and_true]at mQ
 obtain⟨⟨rfl,rfl,rfl⟩,rfl⟩:=mQ
 obtain⟨rfl,rfl,rfl⟩:ac=ab/\ad=((X.take j).filter p).length/\ae=c2:=by simpa using gQ
 have nP:=dX.next dE fO
 have gG:=ZbB root nP.fm.rep n hn
 obtain⟨es3,dW,_⟩:=fO
 refine Zab (λbF=>?_) (λcR=>?_)
 ·have bI:j < X.length:=by have:=of_decide_eq_true bF;omega
  obtain⟨y,hy⟩:∃y,X[j]?=some y:=⟨_,List.getElem?_eq_getElem bI⟩
  have fB:IntKind.i64.wrap ((j:Int)+1)=((j+1:Nat):Int):=by rw[ZaK (by omega) (by omega)];rfl
  have dM:=Zo3 (p:=p) hy
  rcases((bG.mono (Zon dX.z.1)).mono dE)with h|⟨b,o2,h1,h2⟩
  ·have:X=[]:=by simpa[nsL]using h
   rw[this]at bI;simp at bI
  obtain⟨_,_,g5,_⟩:=Zih gG
  simp only[Int.toNat_natCast,Nat.mul_one,fB]
  refine⟨b,o2,h1,⟨by omega,by omega⟩,.int .i64 (y:Nat),h2 j _ (by rw[nsL,List.getElem?_map,hy];rfl),p y,Zaa rfl (Zab (λjW=>⟨by trivial,Zao ?_⟩) (λjW=>⟨_,g5,Zaa rfl ⟨by trivial,Zao ?_⟩⟩)),Zab (λq9=>Zaa rfl λag qp=>⟨.inl (by trivial),nsL ((X.take j).filter p),[.int .i64 (y:Nat)],?_,rfl,hS.row.mono (Mem.le_add qp _),.inr ⟨ag,0,rfl,?_⟩,?_,?_,?_,λa4 c4 m4 cB cI hf=>?_⟩) (λq9=>⟨_,?_,j+1,ac,ae,by omega,?_,?_,dE,⟨es3,dW,by assumption⟩,?_,rfl⟩)⟩
  ·have:(i:Int) < (y:Nat):=by have:=of_decide_eq_true jW;simpa[RowKit.intOf]using this
   rw[vV];simp;left;omega
  ·have:¬(i:Int) < (y:Nat):=by have:=of_decide_eq_false jW;simpa[RowKit.intOf]using this
   rw[vV]
   have hn:decide (i < y)=false:=by simp;omega
   simp only[hn,Bool.false_or];rfl
  ·simp[nsL]
  ·intro q v hq;rw[Nat.zero_add,Mem.add_same];exact hq
  ·intro u hu;obtain rfl:u=.int .i64 (y:Nat):=by simpa using hu
   rfl
  ·have:=pL j;omega
  ·have:=pL j;omega
  ·have hM:m3.le m4:=mLt (Mem.le_add qp _) cB
   refine⟨_,?_,j+1,a4,c4,by omega,?_,?_,mLt dE hM,HasM.le ⟨es3,dW,by assumption⟩ hM,?_,rfl⟩
   ·omega
   ·rw[dM,if_pos q9];simp
   ·rw[dM,if_pos q9];simp
   ·rw[dM,if_pos q9]
    refine hS.push (M:=m3.add ag [.int .i64 (y:Nat)]) cI hf λb3 eT eB=>nP.z.new ⟨es3,dW⟩ (Zig (by simp) eT).2 eB
  ·omega
  ·rw[dM,if_neg (by simp[q9])]
  ·rw[dM,if_neg (by simp[q9])]
  ·rw[dM,if_neg (by simp[q9])];exact hS
 ·have:j=X.length:=by have:=of_decide_eq_false cR;omega
  subst this
  rw[List.take_length]at hS ⊢
  refine⟨ac,ae,rfl,?_,⟨es3,dW,by assumption⟩⟩
  rcases hS with⟨h1,_⟩|⟨b,h1,h2,h3,_⟩
  ·rw[h1];exact .inl rfl
  ·exact .inr ⟨b,0,h1,λq v hq=>by rw[Mem.off_at h2];exact h3 q v hq⟩
end Go.Proofs.Ytgclajkldphoaaa
