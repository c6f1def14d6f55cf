/- Part of the proof: conditions and contracts of functions of this program. No condition of its own. -/
import Derived.Test.YtgclajkldphoaaaGreatPEnv
import Derived.Test.YtgclajkldphoaaaGreatMc
import Derived.Test.YtgclajkldphoaaaGreatPVC
import Derived.Test.YtgclajkldphoaaaGreatMr
import Derived.Test.YtgclajkldphoaaaGreatPC13Q
set_option linter.unusedVariables false
set_option linter.unusedSimpArgs false
set_option linter.unusedSectionVars false
namespace Go.Proofs.YtgclajkldphoaaaGreat
open Go Go.Eng Go.Proofs Go.RowKit
open Go.Value (int slice agg bool string tuple func)
open Go.IntKind (u8 u64 i64)
set_option maxRecDepth 100000
noncomputable def ZeG:Env:={ EB with
 last:=(λi=>bif Nat.beq i 1 then true else false)
 mix:=(λi=>bif Nat.beq i 1 then some ([0,1,2,3,5],[4,6,7])else none)
 thaw:=true
 lentC:=(λi=>bif Nat.beq i 11 then some []else none) }
def Zcr(p0:Int)(c0b c0o c1b c1o c2b c2o c3b c3o:Nat)(m:Mem)(Y:Nat->Prop)(R:RTY):Prop:=
 ∃(v:Value),(Mem.off m Y) c0b c0o=some v/\∃(v_1:Value),(Mem.off m Y) c1b c1o=some v_1/\∃(v_2:Value),(Mem.off m Y) c2b c2o=some v_2/\∃(v_3:Value),(Mem.off m Y) c3b c3o=some v_3/\∃(Y_1:Nat->
 Prop),∃(R_1:Value->Mem->List (List Value)->List Value->Prop),CXY Tryz.prog 44 (Array.mk [v,v_1,v_2,int i64 p0]) m Y_1 [] [] R_1/\(∀(t:Tok),t∈[]->∀(b:Nat),Tok.blk t=some b->Y_1 b)/\(∀(b:
 Nat),Y_1 b->(∃(t:Tok),t∈[]/\Tok.blk t=some b)\/(Mem.free (Mem.off m Y) b/\Mem.k (Mem.off m Y) b=none)/\((∃(o:Nat),∃(v:Value),m b o=some v)\/∃(e:List (Value×Value)),Mem.k m b=some e)/\
 True)/\(∀(v:Value)(m':Mem) (css:List (List Value)) (tvs:List Value),R_1 v m' css tvs->Shape.fits Shape.slice v=true)/\∀(a:Option Addr)(n c:Nat)(m':Mem),Mem.le (Mem.off m Y_1) m'->(NewM m m'
 λ(b:Nat)=>Y_1 b\/Mem.free m b)->R_1 (slice a n c) m' [] []->∃(R_2:RT),True/\CX Tryz.prog 43 (Array.mk [slice a n c,v_3]) m' [] R_2/\Zaz Shape.bool R_2/\∀(b:Bool)(m'_1:Mem),Mem.le m' m'_1->R_2
 (bool b) m'_1 []->R (bool b) m'_1 [] []
theorem ZdG(p0:Int)(c0b c0o c1b c1o c2b c2o c3b c3o:Nat)(m:Mem)(Y:Nat->Prop)(R:RTY)(h:Zcr p0 c0b c0o c1b c1o c2b c2o c3b c3o m Y R):CXY Tryz.prog 94 #[.int .i64 p0,.pointer (some ⟨c0b,c0o,none⟩),.pointer (some ⟨c1b,c1o,none⟩),.pointer (some ⟨c2b,c2o,none⟩),.pointer (some ⟨c3b,c3o,none⟩)] m Y [] [] R:=
 Zcj (E:=ZeG) Zay mix Tryz.func94 [.v (.int .i64 p0),.v (.pointer (some ⟨c0b,c0o,none⟩)),.v (.pointer (some ⟨c1b,c1o,none⟩)),.v (.pointer (some ⟨c2b,c2o,none⟩)),.v (.pointer (some ⟨c3b,c3o,none⟩))] [] [] [] (by decide) (by kernel_rfl) (Eq.mp (by kernel_rfl) h)
noncomputable def Zcw:Env:={ EB with
 loops:=(λi=>bif Nat.beq i 2 then⟨[(8,.int .i64)],[],[],false⟩ else⟨[],[],[],false⟩)
 thaw:=true
 lentC:=(λi=>bif Nat.beq i 16 then some []else none) }
def Zbl(p0a:Option Addr)(p0n p0c p1g:Nat)(p1fi p1ca:List Value)(m:Mem)(Y:Nat->Prop)(R:RTY):Prop:=
 ∃(I:IT),(∃(n:Nat),I [int i64 0] [] [] m n)/\∀(n:Int)(m':Mem)(n_1:Nat),True->I [int i64 n] [] [] m' n_1->br (decide (n < (↑p0n:Int))) (∃(b:Nat),∃(o:Nat),p0a=some (Addr.mk b o none)/\
 Zag n p0n/\∃(v:Value),m' b (o+Int.toNat n*1)=some v/\∃(Y_1:Nat->Prop),∃(R_1:Value->Mem->List (List Value)->List Value->Prop),CXY Tryz.prog p1g (Array.mk (List.append (List.append p1fi [v])
 p1ca)) m' Y_1 [] [] R_1/\(∀(t:Tok),t∈[]->∀(b:Nat),Tok.blk t=some b->Y_1 b)/\(∀(b:Nat),Y_1 b->(∃(t:Tok),t∈[]/\Tok.blk t=some b)\/(Mem.free (Mem.off m Y) b/\Mem.k (Mem.off m Y) b=none)/\
 ((∃(o:Nat),∃(v:Value),m' b o=some v)\/∃(e:List (Value×Value)),Mem.k m' b=some e)/\True)/\(∀(v:Value)(m':Mem) (css:List (List Value)) (tvs:List Value),R_1 v m' css tvs->Shape.fits
 Shape.bool v=true)/\∀(b:Bool)(m'_1:Mem),Mem.le (Mem.off m' Y_1) m'_1->(NewM m' m'_1 λ(b:Nat)=>Y_1 b\/Mem.free m' b)->R_1 (bool b) m'_1 [] []->br b (R (int i64 n) m'_1 [] []) (∃(n':Nat),n' < n_1
 /\ I [int i64 (IntKind.wrap i64 (n+(1:Int)))] [] [] m'_1 n')) (R (int i64 (-1:Int)) m' [] [])
theorem Zb4(p0a:Option Addr)(p0n p0c p1g:Nat)(p1fi p1ca:List Value)(m:Mem)(Y:Nat->Prop)(R:RTY)(h:Zbl p0a p0n p0c p1g p1fi p1ca m Y R):CXY Tryz.prog 93 #[.slice p0a p0n p0c,.func (.func p1g) p1fi.toArray p1ca.toArray] m Y [] [] R:=
 Zcj (E:=Zcw) Zay mix Tryz.func93 [.v (.slice p0a p0n p0c),.v (.func (.func p1g) p1fi.toArray p1ca.toArray)] [] [] [] (by decide) (by kernel_rfl) (Eq.mp (by kernel_rfl) h)
noncomputable def ZfT:Env:={ EB with
 frzNew:=[5,7,8,9]
 thaw:=true
 kF:=true
 lentC:=(λi=>bif Nat.beq i 14 then some []else none) }
def Zc0(p0b p0o:Nat)(p1a:Option Addr)(p1n p1c p2b p2o:Nat)(p3 p4:Int)(m:Mem)(Y:Nat->Prop)(R:RTY):Prop:=
 ∀(b:Nat)(m':Mem),Mem.le m m'->Mem.reads m' b 0 [Value.pointer (some (Addr.mk p0b p0o none))]->Mem.free m b->(∀(b' o:Nat)(u:Value),m' b' o=some u->m b' o=some u\/b'=b)->Mem.k m b=none->∀(b_1
 : Nat) (m'_1:Mem),Mem.le m' m'_1->Mem.reads m'_1 b_1 0 [Value.pointer (some (Addr.mk p2b p2o none))]->Mem.free m' b_1->(∀(b' o:Nat)(u:Value),m'_1 b' o=some u->m' b' o=some u\/b'=b_1)->Mem.k m' b_1
 = none->∀(b_2:Nat)(m':Mem),Mem.le m'_1 m'->Mem.reads m' b_2 0 [int i64 p3]->Mem.free m'_1 b_2->(∀(b' o:Nat)(u:Value),m' b' o=some u->m'_1 b' o=some u\/b'=b_2)->Mem.k m'_1 b_2=none->∀(b_3:
 Nat) (m'_2:Mem),Mem.le m' m'_2->Mem.reads m'_2 b_3 0 [int i64 p4]->Mem.free m' b_3->(∀(b' o:Nat)(u:Value),m'_2 b' o=some u->m' b' o=some u\/b'=b_3)->Mem.k m' b_3=none->∃(Y_1:Nat->Prop),∃
 (R_1:Value->Mem->List (List Value)->List Value->Prop),CXY Tryz.prog 93 (Array.mk [slice p1a p1n p1c,func (Fn.func 94) (Array.mk []) (Array.mk [Value.pointer (some (Addr.mk b 0 none)),Value.pointer (some
 (Addr.mk b_1 0 none)),Value.pointer (some (Addr.mk b_2 0 none)),Value.pointer (some (Addr.mk b_3 0 none))])]) m'_2 Y_1 [] [] R_1/\(∀(t:Tok),t∈[]->∀(b:Nat),Tok.blk t=some b->Y_1 b)/\(∀(b_4:Nat),Y_1
 b_4->(∃(t:Tok),t∈[]/\Tok.blk t=some b_4)\/(Mem.free (Mem.off m Y) b_4/\Mem.k (Mem.off m Y) b_4=none)/\((∃(o:Nat),∃(v:Value),m'_2 b_4 o=some v)\/∃(e:List (Value×Value)),Mem.k m'_2 b_4 =
 some e)/\b_3≠b_4/\b_2≠b_4/\b_1≠b_4/\b≠b_4/\True)/\(∀(v:Value)(m':Mem) (css:List (List Value)) (tvs:List Value),R_1 v m' css tvs->Shape.fits (Shape.int i64) v=true)/\∀(n:Int)(m':Mem),
 Mem.le (Mem.off m'_2 Y_1) m'->(NewM m'_2 m' λ(b:Nat)=>Y_1 b\/Mem.free m'_2 b)->R_1 (int i64 n) m' [] []->br (decide (n < (0:Int))) (R (int i64 (-1:Int)) m' [] []) (∃(b:Nat),∃(o:Nat),p1a=some
 (Addr.mk b o none)/\Zag n p1n/\∃(v:Value),m' b (o+Int.toNat n*1)=some v/\R v m' [] [])
theorem ZeH(p0b p0o:Nat)(p1a:Option Addr)(p1n p1c p2b p2o:Nat)(p3 p4:Int)(m:Mem)(Y:Nat->Prop)(R:RTY)(h:Zc0 p0b p0o p1a p1n p1c p2b p2o p3 p4 m Y R):CXY Tryz.prog 61 #[.pointer (some ⟨p0b,p0o,none⟩),.slice p1a p1n p1c,.pointer (some ⟨p2b,p2o,none⟩),.int .i64 p3,.int .i64 p4] m Y [] [] R:=
 Zcj (E:=ZfT) Zay mix Tryz.func61 [.v (.pointer (some ⟨p0b,p0o,none⟩)),.v (.slice p1a p1n p1c),.v (.pointer (some ⟨p2b,p2o,none⟩)),.v (.int .i64 p3),.v (.int .i64 p4)] [] [] [] (by decide) (by kernel_rfl) (Eq.mp (by kernel_rfl) h)
noncomputable def Zgh:Env:={ EB with
 loops:=(λi=>bif Nat.beq i 7 then⟨[(55,.int .i64)],[],[],false⟩ else bif Nat.beq i 14 then⟨[(2,.int .i64),(78,.int .i64)],[],[],false⟩ else bif Nat.beq i 22 then⟨[(2,.int .i64),(14,.int .i64),(15,.int .i64)],[],[],false⟩ else⟨[],[],[],false⟩)
 dr:=(λi=>bif Nat.beq i 3 then[⟨0,[],[],none,[],[]⟩,⟨1,[],[],none,[0],[]⟩,⟨2,[],[],none,[0,1],[]⟩,⟨3,[],[],none,[0,1,2],[]⟩,⟨4,[],[],none,[],[]⟩,⟨5,[],[],none,[4],[]⟩,⟨6,[],[],none,[4,5],[]⟩,⟨7,[],[],none,[4,5,6],[]⟩,⟨8,[],[],none,[],[]⟩,⟨9,[],[],none,[],[]⟩,⟨10,[],[],none,[8,9],[]⟩,⟨11,[],[],none,[0,1,2,3,4,5,6,7,8,9,10],[]⟩]else[])
 thaw:=true
 stAt:=(λi=>bif Nat.beq i 37 then some 999 else none)
 last:=(λi=>bif Nat.beq i 3 then true else false)
 lastK:=(λi=>bif Nat.beq i 3 then 1 else 1)
 lentC:=(λi=>bif Nat.beq i 47 then some []else bif Nat.beq i 62 then some []else bif Nat.beq i 69 then some []else bif Nat.beq i 87 then some []else bif Nat.beq i 92 then some []else bif Nat.beq i 97 then some []else bif Nat.beq i 113 then some []else bif Nat.beq i 117 then some []else bif Nat.beq i 130 then some []else none) }
def Zdh(p0b p0o p1b p1o:Nat)(p2 p3:Int)(m:Mem)(Y:Nat->Prop)(R:RTY):Prop:=
 ∃(v:Value),m p1b (p1o+0+0)=some v/\chk (ZaS u8 v&&decide (u8=u8)) (br (RowKit.intOf v == (6:Int)) (∃(v:Value),m p0b (p0o+2)=some v/\∃(af:Value),m p1b (p1o+9)=some af/\chk (Zbr
 af) (chk (Zel v) (∃(b:Nat),∃(o:Nat),slA v=some (Addr.mk b o none)/\Zag (RowKit.intOf af) (slN v)/\(∃(vs:List Value),List.length vs=2/\Mem.reads m b (o+Int.toNat (RowKit.intOf af)*2) vs)/\
 Mem.free (Mem.off m Y) b/\true=true/\∃(v:Value),(Mem.upd m b (o+Int.toNat (RowKit.intOf af)*2) [int i64 p2,int i64 p3]) p1b (p1o+10)=some v/\chk (Zel v) (∃(am:Nat),∃(an:Nat),slA v=some
 (Addr.mk am an none)/\Zag (0:Int) (slN v)/\∃(v:Value),(Mem.upd m b (o+Int.toNat (RowKit.intOf af)*2) [int i64 p2,int i64 p3]) am (an+0)=some v/\∃(ab:Nat->Prop),∃(R_1:Value->Mem->List
 (List Value)->List Value->Prop),CXY Tryz.prog 45 (Array.mk [Value.pointer (some (Addr.mk p0b p0o none)),v,int i64 p2,int i64 p3]) (Mem.upd m b (o+Int.toNat (RowKit.intOf af)*2) [int i64 p2,int i64 p3]) ab []
 [] R_1/\(∀(t:Tok),t∈[]->∀(b:Nat),Tok.blk t=some b->ab b)/\(∀(ah:Nat),ab ah->(∃(t:Tok),t∈[]/\Tok.blk t=some ah)\/(Mem.free (Mem.off m Y) ah/\Mem.k (Mem.off m Y) ah=none)/\((∃(ap:
 Nat),∃(v:Value),(Mem.upd m b (o+Int.toNat (RowKit.intOf af)*2) [int i64 p2,int i64 p3]) ah ap=some v)\/∃(e:List (Value×Value)),Mem.k (Mem.upd m b (o+Int.toNat (RowKit.intOf af)*2) [int i64 p2,int
 i64 p3]) ah=some e)/\True)/\(∀(v:Value)(m':Mem) (css:List (List Value)) (tvs:List Value),R_1 v m' css tvs->Shape.fits (Shape.int i64) v=true)/\∀(n:Int)(m':Mem),Mem.le (Mem.off (Mem.upd m b (o +
 Int.toNat (RowKit.intOf af)*2) [int i64 p2,int i64 p3]) ab) m'->(NewM (Mem.upd m b (o+Int.toNat (RowKit.intOf af)*2) [int i64 p2,int i64 p3]) m' λ(ah:Nat)=>ab ah\/Mem.free (Mem.upd m b (o+Int.toNat
 (RowKit.intOf af)*2) [int i64 p2,int i64 p3]) ah)->R_1 (int i64 n) m' [] []->R (int i64 0) m' [] [])))) (chk (ZaS u8 v&&decide (u8=u8)) (br (RowKit.intOf v == (4:Int)) (∃(v:Value),m p1b (p1o+10) =
 some v/\chk (Zel v) (∃(I:IT),(∃(n:Nat),I [int i64 0] [] [] m n)/\∀(n:Int)(m':Mem)(ae:Nat),True->I [int i64 n] [] [] m' ae->br (decide (n < (↑(slN v):Int))) (chk (Zel v) (∃(b:Nat),∃(o:
 Nat),slA v=some (Addr.mk b o none)/\Zag n (slN v)/\∃(v:Value),m' b (o+Int.toNat n*1)=some v/\∃(ab:Nat->Prop),∃(R_1:Value->Mem->List (List Value)->List Value->Prop),CXY Tryz.prog 44
 (Array.mk [Value.pointer (some (Addr.mk p0b p0o none)),v,int i64 0,int i64 p2]) m' ab [] [] R_1/\(∀(t:Tok),t∈[]->∀(b:Nat),Tok.blk t=some b->ab b)/\(∀(b:Nat),ab b->(∃(t:Tok),t∈[]/\Tok.blk t
 = some b)\/(Mem.free (Mem.off m Y) b/\Mem.k (Mem.off m Y) b=none)/\((∃(o:Nat),∃(v:Value),m' b o=some v)\/∃(e:List (Value×Value)),Mem.k m' b=some e)/\True)/\(∀(v:Value)(m':Mem) (css:List
 (List Value)) (tvs:List Value),R_1 v m' css tvs->Shape.fits Shape.slice v=true)/\∀(a:Option Addr)(ai c:Nat)(aa:Mem),Mem.le (Mem.off m' ab) aa->(NewM m' aa λ(b:Nat)=>ab b\/Mem.free m' b)->R_1
 (slice a ai c) aa [] []->∃(R_2:RT),True/\CX Tryz.prog 43 (Array.mk [slice a ai c,int i64 p3]) aa [] R_2/\Zaz Shape.bool R_2/\∀(b:Bool)(m':Mem),Mem.le aa m'->R_2 (bool b) m' []->br b (∃(ad:Nat->
 Prop),∃(R_3:Value->Mem->List (List Value)->List Value->Prop),CXY Tryz.prog 45 (Array.mk [Value.pointer (some (Addr.mk p0b p0o none)),v,int i64 p2,int i64 p3]) m' ad [] [] R_3/\(∀(t:Tok),t∈[]->∀(b:
 Nat),Tok.blk t=some b->ad b)/\(∀(b:Nat),ad b->(∃(t:Tok),t∈[]/\Tok.blk t=some b)\/(Mem.free (Mem.off m Y) b/\Mem.k (Mem.off m Y) b=none)/\((∃(o:Nat),∃(v:Value),m' b o=some v)\/∃(e:
 List (Value×Value)),Mem.k m' b=some e)/\True)/\(∀(v:Value)(m':Mem) (css:List (List Value)) (tvs:List Value),R_3 v m' css tvs->Shape.fits (Shape.int i64) v=true)/\∀(n:Int)(ac:Mem),Mem.le
 (Mem.off m' ad) ac->(NewM m' ac λ(b:Nat)=>ad b\/Mem.free m' b)->R_3 (int i64 n) ac [] []->R (int i64 0) ac [] []) (∃(n':Nat),n' < ae/\I [int i64 (IntKind.wrap i64 (n+(1:Int)))] [] [] m' n'))) (R (int
 i64 0) m' [] []))) (chk (ZaS u8 v&&decide (u8=u8)) (br (RowKit.intOf v == (3:Int)) (∃(v:Value),m p1b (p1o+10)=some v/\chk (Zel v) (∃(I:IT),(∃(n:Nat),I [int i64 p2,int i64 0] [] [] m n)/\∀(n
 ae:Int) (m':Mem) (ai:Nat),True->I [int i64 n,int i64 ae] [] [] m' ai->br (decide (ae < (↑(slN v):Int))) (chk (Zel v) (∃(b:Nat),∃(o:Nat),slA v=some (Addr.mk b o none)/\Zag ae (slN v)/\∃(v:
 Value),m' b (o+Int.toNat ae*1)=some v/\∃(ab:Nat->Prop),∃(R:Value->Mem->List (List Value)->List Value->Prop),CXY Tryz.prog 44 (Array.mk [Value.pointer (some (Addr.mk p0b p0o none)),v,int i64 0,int
 i64 n]) m' ab [] [] R/\(∀(t:Tok),t∈[]->∀(b:Nat),Tok.blk t=some b->ab b)/\(∀(b:Nat),ab b->(∃(t:Tok),t∈[]/\Tok.blk t=some b)\/(Mem.free (Mem.off m Y) b/\Mem.k (Mem.off m Y) b=none)/\((∃
 (o:Nat),∃(v:Value),m' b o=some v)\/∃(e:List (Value×Value)),Mem.k m' b=some e)/\True)/\(∀(v:Value)(m':Mem) (css:List (List Value)) (tvs:List Value),R v m' css tvs->Shape.fits Shape.slice v
 = true)/\∀(a:Option Addr)(ak c:Nat)(aa:Mem),Mem.le (Mem.off m' ab) aa->(NewM m' aa λ(b:Nat)=>ab b\/Mem.free m' b)->R (slice a ak c) aa [] []->∃(ad:Nat->Prop),∃(R:Value->Mem->List (List
 Value)->List Value->Prop),CXY Tryz.prog 61 (Array.mk [Value.pointer (some (Addr.mk p0b p0o none)),slice a ak c,Value.pointer (some (Addr.mk p1b p1o none)),int i64 (IntKind.wrap i64 (ae+(1:Int))),int i64 p3])
 aa ad [] [] R/\(∀(t:Tok),t∈[]->∀(b:Nat),Tok.blk t=some b->ad b)/\(∀(b:Nat),ad b->(∃(t:Tok),t∈[]/\Tok.blk t=some b)\/(Mem.free (Mem.off m Y) b/\Mem.k (Mem.off m Y) b=none)/\((∃(o:
 Nat),∃(v:Value),aa b o=some v)\/∃(e:List (Value×Value)),Mem.k aa b=some e)/\True)/\(∀(v:Value)(m':Mem) (css:List (List Value)) (tvs:List Value),R v m' css tvs->Shape.fits (Shape.int i64) v
 = true)/\∀(aj:Int)(m':Mem),Mem.le (Mem.off aa ad) m'->(NewM aa m' λ(b:Nat)=>ad b\/Mem.free aa b)->R (int i64 aj) m' [] []->∃(ag:Nat->Prop),∃(R:Value->Mem->List (List Value)->List Value->
 Prop),CXY Tryz.prog 45 (Array.mk [Value.pointer (some (Addr.mk p0b p0o none)),v,int i64 n,int i64 aj]) m' ag [] [] R/\(∀(t:Tok),t∈[]->∀(b:Nat),Tok.blk t=some b->ag b)/\(∀(b:Nat),ag b->(∃(t:
 Tok),t∈[]/\Tok.blk t=some b)\/(Mem.free (Mem.off m Y) b/\Mem.k (Mem.off m Y) b=none)/\((∃(o:Nat),∃(v:Value),m' b o=some v)\/∃(e:List (Value×Value)),Mem.k m' b=some e)/\True)/\(∀(v:
 Value) (m':Mem) (css:List (List Value)) (tvs:List Value),R v m' css tvs->Shape.fits (Shape.int i64) v=true)/\∀(n:Int)(ac:Mem),Mem.le (Mem.off m' ag) ac->(NewM m' ac λ(b:Nat)=>ag b\/Mem.free m'
 b)->R (int i64 n) ac [] []->∃(n':Nat),n' < ai/\I [int i64 aj,int i64 (IntKind.wrap i64 (ae+(1:Int)))] [] [] ac n')) (R (int i64 0) m' [] []))) (chk (ZaS u8 v&&decide (u8=u8)) (br (RowKit.intOf v == (5
 : Int)) (∃(I:IT),(∃(n:Nat),I [int i64 p2,int i64 0,int i64 0] [] [] m n)/\∀(n ae ai:Int)(m':Mem)(ak:Nat),True->I [int i64 n,int i64 ae,int i64 ai] [] [] m' ak->∃(R_1:RT),True/\CX Tryz.prog
 62 (Array.mk [Value.pointer (some (Addr.mk p1b p1o none)),int i64 ae]) m' [] R_1/\Zaz (Shape.tup [Shape.int i64,Shape.bool]) R_1/\∀(aj:Int)(b:Bool)(aa:Mem),Mem.le m' aa->R_1 (tuple (Array.mk [int i64 aj,
 bool b])) aa []->∃(ab:Nat->Prop),∃(R_2:Value->Mem->List (List Value)->List Value->Prop),CXY Tryz.prog 63 (Array.mk [Value.pointer (some (Addr.mk p0b p0o none)),Value.pointer (some (Addr.mk p1b p1o none)),
 int i64 ae,int i64 n]) aa ab [] [] R_2/\(∀(t:Tok),t∈[]->∀(b:Nat),Tok.blk t=some b->ab b)/\(∀(b:Nat),ab b->(∃(t:Tok),t∈[]/\Tok.blk t=some b)\/(Mem.free (Mem.off m Y) b/\Mem.k (Mem.off m
 Y) b=none)/\((∃(o:Nat),∃(v:Value),aa b o=some v)\/∃(e:List (Value×Value)),Mem.k aa b=some e)/\True)/\(∀(v:Value)(m':Mem) (css:List (List Value)) (tvs:List Value),R_2 v m' css tvs->
 Shape.fits Shape.slice v=true)/\∀(a:Option Addr)(ao c:Nat)(m':Mem),Mem.le (Mem.off aa ab) m'->(NewM aa m' λ(b:Nat)=>ab b\/Mem.free aa b)->R_2 (slice a ao c) m' [] []->∃(ad:Nat->Prop),∃(R_3
 : Value->Mem->List (List Value)->List Value->Prop),CXY Tryz.prog 61 (Array.mk [Value.pointer (some (Addr.mk p0b p0o none)),slice a ao c,Value.pointer (some (Addr.mk p1b p1o none)),int i64 aj,int i64 p3]) m' ad
 [] [] R_3/\(∀(t:Tok),t∈[]->∀(b:Nat),Tok.blk t=some b->ad b)/\(∀(b:Nat),ad b->(∃(t:Tok),t∈[]/\Tok.blk t=some b)\/(Mem.free (Mem.off m Y) b/\Mem.k (Mem.off m Y) b=none)/\((∃(o:Nat),∃
 (v:Value),m' b o=some v)\/∃(e:List (Value×Value)),Mem.k m' b=some e)/\True)/\(∀(v:Value)(m':Mem) (css:List (List Value)) (tvs:List Value),R_3 v m' css tvs->Shape.fits (Shape.int i64) v =
 true)/\∀(al:Int)(ac:Mem),Mem.le (Mem.off m' ad) ac->(NewM m' ac λ(b:Nat)=>ad b\/Mem.free m' b)->R_3 (int i64 al) ac [] []->br (decide (al < (0:Int))) (R (int i64 ai) ac [] []) (∃(v:Value),ac p1b
 (p1o+10)=some v/\chk (Zel v) (∃(b:Nat),∃(o:Nat),slA v=some (Addr.mk b o none)/\Zag (0:Int) (slN v)/\∃(v:Value),ac b (o+0)=some v/\∃(ag:Nat->Prop),∃(R:Value->Mem->List (List
 Value)->List Value->Prop),CXY Tryz.prog 45 (Array.mk [Value.pointer (some (Addr.mk p0b p0o none)),v,int i64 n,int i64 al]) ac ag [] [] R/\(∀(t:Tok),t∈[]->∀(b:Nat),Tok.blk t=some b->ag b)/\(∀(b:
 Nat),ag b->(∃(t:Tok),t∈[]/\Tok.blk t=some b)\/(Mem.free (Mem.off m Y) b/\Mem.k (Mem.off m Y) b=none)/\((∃(o:Nat),∃(v:Value),ac b o=some v)\/∃(e:List (Value×Value)),Mem.k ac b=some e)/\
 True)/\(∀(v:Value)(m':Mem) (css:List (List Value)) (tvs:List Value),R v m' css tvs->Shape.fits (Shape.int i64) v=true)/\∀(n:Int)(m':Mem),Mem.le (Mem.off ac ag) m'->(NewM ac m' λ(b:Nat)=>ag
 b\/Mem.free ac b)->R (int i64 n) m' [] []->∃(n':Nat),n' < ak/\I [int i64 al,int i64 aj,int i64 (IntKind.wrap i64 (ai+(1:Int)))] [] [] m' n'))) (R (int i64 0) m [] []))))))))
theorem Zfb(p0b p0o p1b p1o:Nat)(p2 p3:Int)(m:Mem)(Y:Nat->Prop)(R:RTY)(h:Zdh p0b p0o p1b p1o p2 p3 m Y R):CXY Tryz.prog 45 #[.pointer (some ⟨p0b,p0o,none⟩),.pointer (some ⟨p1b,p1o,none⟩),.int .i64 p2,.int .i64 p3] m Y [] [] R:=
 Zcj (E:=Zgh) Zay mix Tryz.func45 [.v (.pointer (some ⟨p0b,p0o,none⟩)),.v (.pointer (some ⟨p1b,p1o,none⟩)),.v (.int .i64 p2),.v (.int .i64 p3)] [] [] [] (by decide) (by kernel_rfl) (Eq.mp (by kernel_rfl) h)
noncomputable def ZpI:Env:=EB
def ZiB  (m:Mem)(R:RT):Prop:=
 ∀(b:Nat),∃(m'':Mem),Mem.le m m''/\Mem.le m'' m/\R (agg (Array.mk [int i64 (-1:Int),int i64 (-1:Int)])) m'' []
theorem Znq  (m:Mem)(R:RT)(h:ZiB  m R):CX Tryz.prog 17 #[] m [] R:=
 Zah (E:=ZpI) Zay mix Tryz.func17 [] [] (by kernel_rfl) (Eq.mp (by kernel_rfl) h)
noncomputable def Znr:Env:={ EB with
 dr:=(λi=>bif Nat.beq i 2 then[⟨0,[],[],none,[],[]⟩,⟨1,[],[],none,[0],[]⟩,⟨2,[],[],none,[],[]⟩,⟨3,[],[],none,[],[]⟩,⟨4,[],[],none,[3],[]⟩,⟨5,[],[],none,[3,4],[]⟩,⟨6,[],[],none,[3,4,5],[]⟩,⟨7,[],[],none,[3,4,5,6],[]⟩,⟨8,[],[],none,[2,3,4,5,6,7],[]⟩,⟨9,[],[],none,[0,1],[]⟩,⟨10,[],[],none,[0,1,2,3,4,5,6,7,8,9],[]⟩]else[]) }
def ZhE(p0b p0o:Nat)(p1:Int)(m:Mem)(R:RT):Prop:=
 ∃(v:Value),m p0b (p0o+0+6)=some v/\chk (ZaS i64 v&&decide (i64=i64)) (br (!RowKit.intOf v == (-1:Int)) (∃(v:Value),m p0b (p0o+0+6)=some v/\chk (ZaS i64 v) (∃(m'':Mem),Mem.le m m''/\
 Mem.le m'' m/\R (tuple (Array.mk [int i64 (IntKind.wrap i64 (p1+(1:Int))),bool (decide (p1 < RowKit.intOf v))])) m'' [])) (∃(v:Value),m p0b (p0o+0+5)=some v/\chk (ZaS i64 v) (∃(m'':Mem),Mem.le m
 m''/\Mem.le m'' m/\R (tuple (Array.mk [int i64 (if RowKit.intOf v < IntKind.wrap i64 (p1+(1:Int))then RowKit.intOf v else IntKind.wrap i64 (p1+(1:Int))),bool true])) m'' [])))
theorem Zlv(p0b p0o:Nat)(p1:Int)(m:Mem)(R:RT)(h:ZhE p0b p0o p1 m R):CX Tryz.prog 62 #[.pointer (some ⟨p0b,p0o,none⟩),.int .i64 p1] m [] R:=
 Zah (E:=Znr) Zay mix Tryz.func62 [.v (.pointer (some ⟨p0b,p0o,none⟩)),.v (.int .i64 p1)] [] (by kernel_rfl) (Eq.mp (by kernel_rfl) h)
noncomputable def ZpJ:Env:={ EB with
 frzNew:=[1]
 thaw:=true
 kF:=true }
def ZiC(p0g:Nat)(p0fi p0ca:List Value)(m:Mem)(R:RT):Prop:=
 ∀(b:Nat)(m':Mem),Mem.le m m'->Mem.reads m' b 0 [func (Fn.func p0g) (Array.mk p0fi) (Array.mk p0ca)]->Mem.free m b->(∀(b' o:Nat)(u:Value),m' b' o=some u->m b' o=some u\/b'=b)->Mem.k m b=none->
 ∃(m'':Mem),Mem.le m m''/\Mem.le m'' m'/\R (func (Fn.func 90) (Array.mk []) (Array.mk [Value.pointer (some (Addr.mk b 0 none))])) m'' []
theorem Zns(p0g:Nat)(p0fi p0ca:List Value)(m:Mem)(R:RT)(h:ZiC p0g p0fi p0ca m R):CX Tryz.prog 59 #[.func (.func p0g) p0fi.toArray p0ca.toArray] m [] R:=
 Zah (E:=ZpJ) Zay mix Tryz.func59 [.v (.func (.func p0g) p0fi.toArray p0ca.toArray)] [] (by kernel_rfl) (Eq.mp (by kernel_rfl) h)
noncomputable def ZfU:Env:={ EB with
 frzNew:=[4,5,6,7]
 thaw:=true
 kF:=true }
def Zc1(p0b p0o p1b p1o:Nat)(p2 p3:Int)(m:Mem)(R:RT):Prop:=
 ∀(b:Nat)(m':Mem),Mem.le m m'->Mem.reads m' b 0 [Value.pointer (some (Addr.mk p0b p0o none))]->Mem.free m b->(∀(b' o:Nat)(u:Value),m' b' o=some u->m b' o=some u\/b'=b)->Mem.k m b=none->∀(b_1
 : Nat) (m'_1:Mem),Mem.le m' m'_1->Mem.reads m'_1 b_1 0 [Value.pointer (some (Addr.mk p1b p1o none))]->Mem.free m' b_1->(∀(b' o:Nat)(u:Value),m'_1 b' o=some u->m' b' o=some u\/b'=b_1)->Mem.k m' b_1
 = none->∀(b_2:Nat)(m':Mem),Mem.le m'_1 m'->Mem.reads m' b_2 0 [int i64 p2]->Mem.free m'_1 b_2->(∀(b' o:Nat)(u:Value),m' b' o=some u->m'_1 b' o=some u\/b'=b_2)->Mem.k m'_1 b_2=none->∀(b_3:
 Nat) (m'_2:Mem),Mem.le m' m'_2->Mem.reads m'_2 b_3 0 [int i64 p3]->Mem.free m' b_3->(∀(b' o:Nat)(u:Value),m'_2 b' o=some u->m' b' o=some u\/b'=b_3)->Mem.k m' b_3=none->∃(m'':Mem),Mem.le m
 m''/\Mem.le m'' m'_2/\R (func (Fn.func 91) (Array.mk []) (Array.mk [Value.pointer (some (Addr.mk b_1 0 none)),Value.pointer (some (Addr.mk b_3 0 none)),Value.pointer (some (Addr.mk b 0 none)),Value.pointer (some
 (Addr.mk b_2 0 none))])) m'' []
theorem Zfc(p0b p0o p1b p1o:Nat)(p2 p3:Int)(m:Mem)(R:RT)(h:Zc1 p0b p0o p1b p1o p2 p3 m R):CX Tryz.prog 60 #[.pointer (some ⟨p0b,p0o,none⟩),.pointer (some ⟨p1b,p1o,none⟩),.int .i64 p2,.int .i64 p3] m [] R:=
 Zah (E:=ZfU) Zay mix Tryz.func60 [.v (.pointer (some ⟨p0b,p0o,none⟩)),.v (.pointer (some ⟨p1b,p1o,none⟩)),.v (.int .i64 p2),.v (.int .i64 p3)] [] (by kernel_rfl) (Eq.mp (by kernel_rfl) h)
noncomputable def Zcx:Env:={ EB with
 loops:=(λi=>bif Nat.beq i 3 then⟨[(7,.int .i64)],[2],[(11,1)],false⟩ else⟨[],[],[],false⟩)
 tokOf:=(λi=>bif Nat.beq i 11 then 11 else 0)
 thaw:=true
 rgY:=(λi=>bif Nat.beq i 3 then true else false) }
def Zbm(p1g:Nat)(p1fi p1ca:List Value)(m:Mem)(Y:Nat->Prop)(R:RTY):Prop:=
 ∀(b:Nat),∃(Y_1:Nat->Prop),∃(n:Nat),∃(V:Nat->List Value->Mem->Prop),∃(R_1:Mem->Prop),IXY Tryz.prog p1g p1fi p1ca m Y_1 n V R_1/\(∀(b:Nat),Y_1 b->Mem.k (Mem.off m Y) b=none/\∃(e:List
 (Value×Value)),Mem.k m b=some e)/\(∀(i:Nat)(x:List Value)(mi:Mem),V i x mi->Shape.fitsL [Shape.int i64] x=true)/\∃(I:IT),I [] [[slice none 0 0]] [slice none 0 0] (Mem.off m Y_1) 0/\(∀(n_1:
 Int) (cs:List Value) (a:Option Addr) (n_2 c:Nat) (m' mi:Mem) (k:Nat),k < n->Mem.le (Mem.off m Y_1) m'->Mem.le (Mem.off m Y_1) mi->Mem.le mi (Mem.or m' mi)->(∀(b:Nat),Mem.newC (Mem.off m Y_1) mi b->
 Mem.free m' b)->V k [int i64 n_1] mi->I [] [cs] [slice a n_2 c] m' k->Eng.Zum cs 0 λ(v:Value)=>∀(b_1:Nat),Mem.free (Mem.or m' mi) b_1->chk (Zel v&&true) ((Tok.mk (slice a n_2 c) 1=Tok.mk v 1\/v =
 slice none 0 0\/slC v < slN v+1)/\∃(xs:List Value),∃(ys:List Value),List.length xs=slN v*1/\List.length ys=1*1/\rowRd (Mem.add (Mem.or m' mi) b_1 [int i64 n_1]) (slA v) xs/\rowRd (Mem.add (Mem.or
 m' mi) b_1 [int i64 n_1]) (some (Addr.mk b_1 0 none)) ys/\(∀(u:Value),u∈ys->Value.oneCell' u=true)/\(slN v+1)*8<=140737488355328/\slN v+1<=9223372036854775807/\∀(a':Option Addr)(c':Nat) (m'_1
 : Mem),Mem.le (Mem.add (Mem.or m' mi) b_1 [int i64 n_1]) m'_1->rowRd m'_1 a' (List.append xs ys)->TokFact (Mem.add (Mem.or m' mi) b_1 [int i64 n_1]) (slA v) a' (slN v+1) c'->[some (Box.mk b [] 44 1 false true)] =
 [some (Box.mk b [] 44 1 false true)]/\Mem.le (Mem.off m Y_1) m'_1/\I [] [[slice a' (slN v+1) c']] [slice a' (slN v+1) c'] (Mem.less m'_1 (Mem.off m Y_1) mi) (k+1)))/\∀(cs:List Value)(a:Option Addr) (n_1 c
 : Nat) (m' me:Mem),Mem.le (Mem.off m Y_1) m'->Mem.le (Mem.off m Y_1) me->Mem.le me (Mem.or m' me)->I [] [cs] [slice a n_1 c] m' n->R_1 me->Eng.Zum cs 0 λ(v:Value)=>R v (Mem.or m' me) [] []
theorem Zb5(p1g:Nat)(p1fi p1ca:List Value)(m:Mem)(Y:Nat->Prop)(R:RTY)(h:Zbm p1g p1fi p1ca m Y R):CXY Tryz.prog 89 #[.slice none 0 0,.func (.func p1g) p1fi.toArray p1ca.toArray] m Y [] [] R:=
 Zcj (E:=Zcx) Zay mix Tryz.func89 [.v (.slice none 0 0),.v (.func (.func p1g) p1fi.toArray p1ca.toArray)] [] [] [] (by decide) (by kernel_rfl) (Eq.mp (by kernel_rfl) h)
noncomputable def ZdT:Env:={ EB with
 thaw:=true
 lentC:=(λi=>bif Nat.beq i 4 then some []else none) }
def Zcc(p0g:Nat)(p0fi p0ca:List Value)(m:Mem)(Y:Nat->Prop)(R:RTY):Prop:=
 ∃(Y_1:Nat->Prop),∃(R_1:Value->Mem->List (List Value)->List Value->Prop),CXY Tryz.prog 89 (Array.mk [slice none 0 0,func (Fn.func p0g) (Array.mk p0fi) (Array.mk p0ca)]) m Y_1 [] [] R_1/\(∀(t:Tok),t ∈
 []->∀(b:Nat),Tok.blk t=some b->Y_1 b)/\(∀(b:Nat),Y_1 b->(∃(t:Tok),t∈[]/\Tok.blk t=some b)\/(Mem.free (Mem.off m Y) b/\Mem.k (Mem.off m Y) b=none)/\((∃(o:Nat),∃(v:Value),m b o=some
 v)\/∃(e:List (Value×Value)),Mem.k m b=some e)/\True)/\(∀(v:Value)(m':Mem) (css:List (List Value)) (tvs:List Value),R_1 v m' css tvs->Shape.fits Shape.slice v=true)/\∀(a:Option Addr) (n c:
 Nat) (m':Mem),Mem.le (Mem.off m Y_1) m'->(NewM m m' λ(b:Nat)=>Y_1 b\/Mem.free m b)->R_1 (slice a n c) m' [] []->R (slice a n c) m' [] []
theorem Zdw(p0g:Nat)(p0fi p0ca:List Value)(m:Mem)(Y:Nat->Prop)(R:RTY)(h:Zcc p0g p0fi p0ca m Y R):CXY Tryz.prog 58 #[.func (.func p0g) p0fi.toArray p0ca.toArray] m Y [] [] R:=
 Zcj (E:=ZdT) Zay mix Tryz.func58 [.v (.func (.func p0g) p0fi.toArray p0ca.toArray)] [] [] [] (by decide) (by kernel_rfl) (Eq.mp (by kernel_rfl) h)
noncomputable def Zlw:Env:={ EB with
 loops:=(λi=>bif Nat.beq i 4 then⟨[(8,.slice)],[3],[(21,1)],true⟩ else bif Nat.beq i 5 then⟨[(11,.int .i64)],[3],[(21,1)],true⟩ else⟨[],[],[],false⟩)
 tokOf:=(λi=>bif Nat.beq i 21 then 21 else 0)
 frzNew:=[2]
 thaw:=true
 rgY:=(λi=>bif Nat.beq i 4 then true else false)
 ldF:=(λi=>bif Nat.beq i 7 then some (.fn)else none) }
def ZgA(p0g:Nat)(p0fi p0ca:List Value)(c0b c0o:Nat)(m:Mem)(Y:Nat->Prop)(n:Nat)(V:Nat->List Value->Mem->Prop)(R:Mem->Prop):Prop:=
 ∀(l b:Nat)(m':Mem),Mem.le m m'->Mem.reads m' b 0 [func (Fn.yield l) (Array.mk []) (Array.mk [])]->Mem.free m b->(∀(b' o:Nat)(u:Value),m' b' o=some u->m b' o=some u\/b'=b)->∀(ad:Nat),∃(v:
 Value),m' c0b c0o=some v/\∃(g:Nat),∃(fi:List Value),∃(ca:List Value),v=func (Fn.func g) (Array.mk fi) (Array.mk ca)/\∃(ab:Nat->Prop),∃(am:Nat),∃(an:Nat->List Value->Mem->Prop),∃(R_1:
 Mem->Prop),IXY Tryz.prog g fi ca m' ab am an R_1/\(∀(b:Nat),ab b->Mem.k (Mem.off m Y) b=none/\∃(e:List (Value×Value)),Mem.k m' b=some e)/\(∀(i:Nat)(x:List Value)(mi:Mem),an i x mi->
 Shape.fitsL [Shape.slice] x=true)/\∃(I:IT),I [int i64 0] [[slice none 0 0]] [slice none 0 0] (Mem.off m' ab) 0/\(∀(y:Int)(a:Option Addr)(ah c:Nat)(cs:List Value)(ap:Option Addr)(aq ar:Nat) (ac
 mi:Mem) (k:Nat),k < am->Mem.le (Mem.off m' ab) ac->Mem.le (Mem.off m' ab) mi->Mem.le mi (Mem.or ac mi)->(∀(b:Nat),Mem.newC (Mem.off m' ab) mi b->Mem.free ac b)->an k [slice a ah c] mi->I [int i64 y] [cs]
 [slice ap aq ar] ac k->∃(ai:IT),(∃(n:Nat),ai [int i64 y,int i64 0] [cs] [slice ap aq ar] (Mem.or ac mi) n)/\∀(y ae:Int)(cs:List Value)(aj:Option Addr)(ak c:Nat)(af:Mem)(ao:Nat),True->ai
 [int i64 y,int i64 ae] [cs] [slice aj ak c] af ao->br (decide (ae < (↑ah:Int))) (∃(au:Nat),∃(o:Nat),a=some (Addr.mk au o none)/\Zag ae ah/\∃(v:Value),af au (o+Int.toNat ae*1)=some v/\
 Eng.Zum cs 0 λ(aw:Value)=>∃(R:RT),True/\CX Tryz.prog 43 (Array.mk [aw,v]) af [] R/\Zaz Shape.bool R/\∀(av:Bool)(m':Mem),Mem.le af m'->R (bool av) m' []->br av ([some (Box.mk ad [] 44 1 false
 true),some (Box.mk b [func (Fn.yield l) (Array.mk []) (Array.mk [])] 80 1 true true)]=[some (Box.mk ad [] 44 1 false true),some (Box.mk b [func (Fn.yield l) (Array.mk []) (Array.mk [])] 80 1 true true)]/\([none]:
 List (Option Tok))=[none]/\∃(n':Nat),n' < ao/\ai [int i64 y,int i64 (IntKind.wrap i64 (ae+(1:Int)))] [cs] [slice aj ak c] m' n') (Eng.Zum cs 0 λ(aa:Value)=>chk (Nat.beq (List.length (Array.toList
 (Value.cells v))) 1&&true) (∀(ag:Nat),Mem.free m' ag->chk (Zel aa&&true) ((Tok.mk (slice aj ak c) 1=Tok.mk aa 1\/aa=slice none 0 0\/slC aa < slN aa+1)/\∃(xs:List Value),∃(ys:List Value),
 List.length xs=slN aa*1/\List.length ys=1*1/\rowRd (Mem.add m' ag (List.append (Array.toList (Value.cells v)) [])) (slA aa) xs/\rowRd (Mem.add m' ag (List.append (Array.toList (Value.cells v)) [])) (some
 (Addr.mk ag 0 none)) ys/\(∀(u:Value),u∈ys->Value.oneCell' u=true)/\(slN aa+1)*8<=140737488355328/\slN aa+1<=9223372036854775807/\∀(a':Option Addr)(c':Nat)(al:Mem),Mem.le (Mem.add m' ag
 (List.append (Array.toList (Value.cells v)) [])) al->rowRd al a' (List.append xs ys)->TokFact (Mem.add m' ag (List.append (Array.toList (Value.cells v)) [])) (slA aa) a' (slN aa+1) c'->(l=l/\∃(i:Nat),y=(↑i
 : Int)/\i < n/\V i [v] al)/\[some (Box.mk ad [] 44 1 false true),some (Box.mk b [func (Fn.yield l) (Array.mk []) (Array.mk [])] 80 1 true true)]=[some (Box.mk ad [] 44 1 false true),some (Box.mk b [func (Fn.yield
 l) (Array.mk []) (Array.mk [])] 80 1 true true)]/\([none]:List (Option Tok))=[none]/\∃(n':Nat),n' < ao/\ai [int i64 (y+(1:Int)),int i64 (IntKind.wrap i64 (ae+(1:Int)))] [[slice a' (slN aa+1) c']]
 [slice a' (slN aa+1) c'] al n')))) ([some (Box.mk ad [] 44 1 false true),some (Box.mk b [func (Fn.yield l) (Array.mk []) (Array.mk [])] 80 1 true true)]=[some (Box.mk ad [] 44 1 false true),some (Box.mk b [func
 (Fn.yield l) (Array.mk []) (Array.mk [])] 80 1 true true)]/\Mem.le (Mem.off m' ab) af/\I [int i64 y] [cs] [slice aj ak c] (Mem.less af (Mem.off m' ab) mi) (k+1)))/\∀(y:Int)(cs:List Value)(a:Option Addr)
 (ah c:Nat) (ac me:Mem),Mem.le (Mem.off m' ab) ac->Mem.le (Mem.off m' ab) me->Mem.le me (Mem.or ac me)->I [int i64 y] [cs] [slice a ah c] ac am->R_1 me->y=(↑n:Int)/\R (Mem.or ac me)
theorem ZiD(p0g:Nat)(p0fi p0ca:List Value)(c0b c0o:Nat)(m:Mem)(Y:Nat->Prop)(n:Nat)(V:Nat->List Value->Mem->Prop)(R:Mem->Prop)(h:ZgA p0g p0fi p0ca c0b c0o m Y n V R):IXY Tryz.prog 90 [] [.pointer (some ⟨c0b,c0o,none⟩)] m Y n V R:=
 Zj3 (E:=Zlw) Zay mix Tryz.func90 [] [.pointer (some ⟨c0b,c0o,none⟩)] n V R (by kernel_rfl) (Eq.mp (by kernel_rfl) h)
noncomputable def ZeI:Env:={ EB with
 loops:=(λi=>bif Nat.beq i 10 then⟨[(74,.int .i64)],[],[],true⟩ else bif Nat.beq i 18 then⟨[(110,.int .i64)],[],[],true⟩ else bif Nat.beq i 25 then⟨[(138,.int .i64)],[],[],true⟩ else⟨[],[],[],false⟩)
 dr:=(λi=>bif Nat.beq i 4 then[⟨0,[],[],none,[],[]⟩,⟨1,[],[],none,[],[]⟩,⟨2,[],[],none,[1],[]⟩,⟨3,[],[],none,[1,2],[]⟩,⟨4,[],[],none,[1,2,3],[]⟩,⟨5,[],[],none,[1,2,3,4],[]⟩,⟨6,[],[],none,[0,1,2,3,4,5],[]⟩,⟨7,[],[],none,[0,1,2,3,4,5,6],[]⟩,⟨8,[],[],none,[0,1,2,3,4,5,6,7],[]⟩,⟨9,[],[],none,[0,1,2,3,4,5,6,7,8],[]⟩,⟨10,[],[],none,[0,1,2,3,4,5,6,7,8,9],[]⟩,⟨11,[],[],none,[0,1,2,3,4,5,6,7,8,9,10],[]⟩,⟨12,[],[],none,rg 0 12,[]⟩,⟨13,[],[],none,[0,1,2,3,4,5,6,7],[]⟩,⟨14,[],[],none,[0,1,2,3,4,5,6,7,13],[]⟩,⟨15,[],[],none,[0,1,2,3,4,5,6,7,13,14],[]⟩,⟨16,[],[],none,[0,1,2,3,4,5,6,7,13,14,15],[]⟩,⟨17,[],[],none,[0,1,2,3,4,5,6,7],[]⟩,⟨18,[],[],none,rg 0 8++rg 13 5,[]⟩,⟨19,[],[],none,rg 0 8++rg 13 6,[]⟩,⟨20,[],[],none,rg 0 20,[]⟩,⟨21,[],[],none,rg 0 21,[]⟩]else bif Nat.beq i 15 then[⟨0,[],[],none,[],[]⟩,⟨1,[],[],none,[],[]⟩,⟨2,[],[],none,[1],[]⟩,⟨3,[],[],none,[1,2],[]⟩,⟨4,[],[],none,[1,2,3],[]⟩,⟨5,[],[],none,[1,2,3,4],[]⟩,⟨6,[],[],none,[0,1,2,3,4,5],[]⟩]else bif Nat.beq i 29 then[⟨0,[],[],none,[],[]⟩,⟨1,[],[],none,[],[]⟩,⟨2,[],[],none,[1],[]⟩,⟨3,[],[],none,[1,2],[]⟩,⟨4,[],[],none,[1,2,3],[]⟩,⟨5,[],[],none,[1,2,3,4],[]⟩,⟨6,[],[],none,[0,1,2,3,4,5],[]⟩]else[])
 last:=(λi=>bif Nat.beq i 7 then true else bif Nat.beq i 17 then true else false)
 mix:=(λi=>bif Nat.beq i 7 then some ([0,1,2,3,4,5,6,7,8],[9,10])else bif Nat.beq i 17 then some ([0,1,2,3,4,5,6,7,8,11],[9,10])else none)
 thaw:=true
 gb:=true
 lentC:=(λi=>bif Nat.beq i 65 then some []else bif Nat.beq i 82 then some []else bif Nat.beq i 108 then some []else bif Nat.beq i 120 then some []else bif Nat.beq i 136 then some []else bif Nat.beq i 149 then some []else none) }
def Zcs(p0g:Nat)(p0fi p0ca:List Value)(c0b c0o c1b c1o c2b c2o c3b c3o:Nat)(m:Mem)(Y:Nat->Prop)(n:Nat)(V:Nat->List Value->Mem->Prop)(R:Mem->Prop):Prop:=
 ∀(l:Nat),∃(v:Value),m c0b c0o=some v/\chk (ZcA v) (chk (ZcA v) (∃(ai:Value),m (Zkq v) (Zkr v+0+0)=some ai/\chk (ZaS u8 ai&&decide (u8=u8)) (br (RowKit.intOf ai == (1:Int)) (∃(v:
 Value),m c1b c1o=some v/\chk (Nat.beq (List.length (Array.toList (Value.cells v))) 1&&true) (∀(b:Nat),Mem.free m b->(l=l/\∃(i:Nat),(0:Int)=(↑i:Int)/\i < n/\V i [slice (some (Addr.mk b 0 none))
 1 1] (Mem.add m b (List.append (Array.toList (Value.cells v)) [])))/\(0:Int)+(1:Int)=(↑n:Int)/\R (Mem.add m b (List.append (Array.toList (Value.cells v)) [])))) (chk (ZaS u8 ai&&decide (u8=u8)) (br
 (RowKit.intOf ai == (2:Int)) (∃(f:Fx),∃(v:Value),m c1b c1o=some v/\∃(aa:Value),m c2b c2o=some aa/\chk (ZcA aa) (chk (ZcA aa) (∃(ac:Value),m (Zkq aa) (Zkr aa+0)=some ac/\chk (Zel ac)
 (chk (ZaS i64 v&&decide (i64=i64)) (br (decide (RowKit.intOf v < (↑(slN ac):Int))) (∃(v:Value),m c0b c0o=some v/\chk (ZcA v) (chk (ZcA v) (∃(ad:Value),∃(ah:Value),∃(ae:Value),∃(aj:
 Value),Mem.reads m (Zkq v) (Zkr v+0+1) [ad,ah,ae,aj]/\∃(v:Value),m c2b c2o=some v/\chk (ZcA v) (chk (ZcA v) (∃(an:Value),m (Zkq v) (Zkr v+0)=some an/\∃(v:Value),m c1b c1o=some v/\
 chk (Zbr v) (chk (Zel an) (∃(b:Nat),∃(o:Nat),slA an=some (Addr.mk b o none)/\Zag (RowKit.intOf v) (slN an)/\∃(ao:Value),m b (o+Int.toNat (RowKit.intOf v)*1)=some ao/\∃(R_1:RT),R_1 =
 f 20 [agg (Array.mk [ad,ah,ae,aj]),ao] m/\CX Tryz.prog 92 (Array.mk [agg (Array.mk [ad,ah,ae,aj]),ao]) m [] R_1/\Zaz Shape.bool R_1/\∀(b:Bool)(m':Mem),Mem.le m m'->R_1 (bool b) m' []->∀(M:Mem),
 Mem.le m M->Mem.le m' M->br b (∃(v:Value),M c1b c1o=some v/\chk (ZaS i64 v&&decide (i64=i64)) (∀(b:Nat),Mem.free M b->(l=l/\∃(i:Nat),(0:Int)=(↑i:Int)/\i < n/\V i [slice (some (Addr.mk
 b 0 none)) 1 1] (Mem.add M b [int i64 (IntKind.wrap i64 (RowKit.intOf v+(1:Int)))]))/\(0:Int)+(1:Int)=(↑n:Int)/\R (Mem.add M b [int i64 (IntKind.wrap i64 (RowKit.intOf v+(1:Int)))]))) ((0:Int) =
 (↑n:Int)/\R M)))))))) (∀(M:Mem),Mem.le m M->Mem.le m M->(0:Int)=(↑n:Int)/\R M)))))) (chk (ZaS u8 ai&&decide (u8=u8)) (br (RowKit.intOf ai == (6:Int)) (∃(v:Value),(Mem.off m Y) c2b c2o=some
 v/\∃(aa:Value),(Mem.off m Y) c0b c0o=some aa/\chk (ZcA aa) (chk (ZcA aa) (∃(ac:Value),(Mem.off m Y) (Zkq aa) (Zkr aa+10)=some ac/\chk (Zel ac) (∃(b:Nat),∃(o:Nat),slA ac=some (Addr.mk b
 o none)/\Zag (0:Int) (slN ac)/\∃(ad:Value),(Mem.off m Y) b (o+0)=some ad/\∃(ah:Value),(Mem.off m Y) c1b c1o=some ah/\∃(ab:Nat->Prop),∃(R_1:Value->Mem->List (List Value)->List Value->
 Prop),CXY Tryz.prog 44 (Array.mk [v,ad,int i64 0,ah]) m ab [] [] R_1/\(∀(t:Tok),t∈[]->∀(b:Nat),Tok.blk t=some b->ab b)/\(∀(b:Nat),ab b->(∃(t:Tok),t∈[]/\Tok.blk t=some b)\/(Mem.free
 (Mem.off m Y) b/\Mem.k (Mem.off m Y) b=none)/\((∃(o:Nat),∃(v:Value),m b o=some v)\/∃(e:List (Value×Value)),Mem.k m b=some e)/\True)/\(∀(v:Value)(m':Mem) (css:List (List Value)) (tvs:
 List Value),R_1 v m' css tvs->Shape.fits Shape.slice v=true)/\∀(a:Option Addr)(ag c:Nat)(m':Mem),Mem.le (Mem.off m ab) m'->(NewM m m' λ(b:Nat)=>ab b\/Mem.free m b)->R_1 (slice a ag c) m' [] []->
 (l=l/\∃(i:Nat),(0:Int)=(↑i:Int)/\i < n/\V i [slice a ag c] m')/\(0:Int)+(1:Int)=(↑n:Int)/\R m')))) (chk (ZaS u8 ai&&decide (u8=u8)) (br (RowKit.intOf ai == (4:Int)) (∃(v:Value),m
 c0b c0o=some v/\chk (ZcA v) (chk (ZcA v) (∃(aa:Value),m (Zkq v) (Zkr v+10)=some aa/\chk (Zel aa) (∃(I:IT),(∃(n:Nat),I [int i64 0,int i64 0] [] [] m n)/\∀(y ag:Int)(m':Mem)(ak:Nat),
 True->I [int i64 y,int i64 ag] [] [] m' ak->br (decide (ag < (↑(slN aa):Int))) (chk (Zel aa) (∃(b:Nat),∃(o:Nat),slA aa=some (Addr.mk b o none)/\Zag ag (slN aa)/\∃(v:Value),m' b (o+Int.toNat
 ag*1)=some v/\∃(ac:Value),m' c2b c2o=some ac/\∃(ad:Value),m' c1b c1o=some ad/\∃(ab:Nat->Prop),∃(R:Value->Mem->List (List Value)->List Value->Prop),CXY Tryz.prog 44 (Array.mk [ac,v,int
 i64 0,ad]) m' ab [] [] R/\(∀(t:Tok),t∈[]->∀(b:Nat),Tok.blk t=some b->ab b)/\(∀(b:Nat),ab b->(∃(t:Tok),t∈[]/\Tok.blk t=some b)\/(Mem.free (Mem.off m Y) b/\Mem.k (Mem.off m Y) b=none)/\
 ((∃(o:Nat),∃(v:Value),m' b o=some v)\/∃(e:List (Value×Value)),Mem.k m' b=some e)/\True)/\(∀(v:Value)(m':Mem) (css:List (List Value)) (tvs:List Value),R v m' css tvs->Shape.fits
 Shape.slice v=true)/\∀(a:Option Addr)(al c:Nat)(af:Mem),Mem.le (Mem.off m' ab) af->(NewM m' af λ(b:Nat)=>ab b\/Mem.free m' b)->R (slice a al c) af [] []->(l=l/\∃(i:Nat),y=(↑i:Int)/\i
 < n/\V i [slice a al c] af)/\∃(n':Nat),n' < ak/\I [int i64 (y+(1:Int)),int i64 (IntKind.wrap i64 (ag+(1:Int)))] [] [] af n')) (y=(↑n:Int)/\R m'))))) (chk (ZaS u8 ai&&decide (u8=u8)) (br
 (RowKit.intOf ai == (3:Int)) (∃(v:Value),m c3b c3o=some v/\∃(aa:Value),m c0b c0o=some aa/\chk (ZcA aa) (chk (ZcA aa) (∃(ac:Value),m (Zkq aa) (Zkr aa+10)=some ac/\chk (Zel ac) (chk (ZaS
 i64 v&&decide (i64=i64)) (br (RowKit.intOf v == (↑(slN ac):Int)) (∃(v:Value),m c1b c1o=some v/\chk (Nat.beq (List.length (Array.toList (Value.cells v))) 1&&true) (∀(b:Nat),Mem.free m b->(l=l/\∃(i
 : Nat),(0:Int)=(↑i:Int)/\i < n/\V i [slice (some (Addr.mk b 0 none)) 1 1] (Mem.add m b (List.append (Array.toList (Value.cells v)) [])))/\(0:Int)+(1:Int)=(↑n:Int)/\R (Mem.add m b (List.append
 (Array.toList (Value.cells v)) [])))) (∃(v:Value),(Mem.off m Y) c2b c2o=some v/\∃(ad:Value),(Mem.off m Y) c0b c0o=some ad/\chk (ZcA ad) (chk (ZcA ad) (∃(ah:Value),(Mem.off m Y) (Zkq ad) (Zkr ad +
 10)=some ah/\∃(ae:Value),(Mem.off m Y) c3b c3o=some ae/\chk (Zbr ae&&Zel ah) (∃(b:Nat),∃(o:Nat),slA ah=some (Addr.mk b o none)/\Zag (RowKit.intOf ae) (slN ah)/\∃(aj:Value),(Mem.off
 m Y) b (o+Int.toNat (RowKit.intOf ae)*1)=some aj/\∃(an:Value),(Mem.off m Y) c1b c1o=some an/\∃(ab:Nat->Prop),∃(R_1:Value->Mem->List (List Value)->List Value->Prop),CXY Tryz.prog 44 (Array.mk
 [v,aj,int i64 0,an]) m ab [] [] R_1/\(∀(t:Tok),t∈[]->∀(b:Nat),Tok.blk t=some b->ab b)/\(∀(b:Nat),ab b->(∃(t:Tok),t∈[]/\Tok.blk t=some b)\/(Mem.free (Mem.off m Y) b/\Mem.k (Mem.off m Y)
 b=none)/\((∃(o:Nat),∃(v:Value),m b o=some v)\/∃(e:List (Value×Value)),Mem.k m b=some e)/\True)/\(∀(v:Value)(m':Mem) (css:List (List Value)) (tvs:List Value),R_1 v m' css tvs->
 Shape.fits Shape.slice v=true)/\∀(a:Option Addr)(ag c:Nat)(m':Mem),Mem.le (Mem.off m ab) m'->(NewM m m' λ(b:Nat)=>ab b\/Mem.free m b)->R_1 (slice a ag c) m' [] []->∃(I:IT),(∃(n:Nat),I
 [int i64 0,int i64 0] [] [] m' n)/\∀(y ak:Int)(m':Mem)(al:Nat),True->I [int i64 y,int i64 ak] [] [] m' al->br (decide (ak < (↑ag:Int))) (∃(b:Nat),∃(o:Nat),a=some (Addr.mk b o none)/\Zag
 ak ag/\∃(v:Value),m' b (o+Int.toNat ak*1)=some v/\∃(ao:Value),m' c2b c2o=some ao/\∃(au:Value),m' c0b c0o=some au/\∃(ar:Value),m' c3b c3o=some ar/\chk (ZaS i64 ar&&decide (i64=i64))
 (∃(am:Nat->Prop),∃(R:Value->Mem->List (List Value)->List Value->Prop),CXY Tryz.prog 44 (Array.mk [ao,au,int i64 (IntKind.wrap i64 (RowKit.intOf ar+(1:Int))),v]) m' am [] [] R/\(∀(t:Tok),t∈[]->
 ∀(b:Nat),Tok.blk t=some b->am b)/\(∀(b:Nat),am b->(∃(t:Tok),t∈[]/\Tok.blk t=some b)\/(Mem.free (Mem.off m Y) b/\Mem.k (Mem.off m Y) b=none)/\((∃(o:Nat),∃(v:Value),m' b o=some v)\/∃
 (e:List (Value×Value)),Mem.k m' b=some e)/\True)/\(∀(v:Value)(m':Mem) (css:List (List Value)) (tvs:List Value),R v m' css tvs->Shape.fits Shape.slice v=true)/\∀(a:Option Addr)(ap c:Nat) (af
 : Mem),Mem.le (Mem.off m' am) af->(NewM m' af λ(b:Nat)=>am b\/Mem.free m' b)->R (slice a ap c) af [] []->(l=l/\∃(i:Nat),y=(↑i:Int)/\i < n/\V i [slice a ap c] af)/\∃(n':Nat),n' < al/\I [int
 i64 (y+(1:Int)),int i64 (IntKind.wrap i64 (ak+(1:Int)))] [] [] af n')) (y=(↑n:Int)/\R m')))))))))) (chk (ZaS u8 ai&&decide (u8=u8)) (br (RowKit.intOf ai == (5:Int)) (∃(v:Value),m c0b c0o=some
 v/\∃(aa:Value),m c3b c3o=some aa/\∃(R_1:RT),True/\CX Tryz.prog 62 (Array.mk [v,aa]) m [] R_1/\Zaz (Shape.tup [Shape.int i64,Shape.bool]) R_1/\∀(ag:Int)(b:Bool)(m':Mem),Mem.le m m'->R_1
 (tuple (Array.mk [int i64 ag,bool b])) m' []->∃(v:Value),m' c2b c2o=some v/\∃(ac:Value),m' c0b c0o=some ac/\∃(ad:Value),m' c3b c3o=some ad/\∃(ah:Value),m' c1b c1o=some ah/\∃(ab:Nat->
 Prop),∃(R_2:Value->Mem->List (List Value)->List Value->Prop),CXY Tryz.prog 63 (Array.mk [v,ac,ad,ah]) m' ab [] [] R_2/\(∀(t:Tok),t∈[]->∀(b:Nat),Tok.blk t=some b->ab b)/\(∀(b:Nat),ab b->
 (∃(t:Tok),t∈[]/\Tok.blk t=some b)\/(Mem.free (Mem.off m Y) b/\Mem.k (Mem.off m Y) b=none)/\((∃(o:Nat),∃(v:Value),m' b o=some v)\/∃(e:List (Value×Value)),Mem.k m' b=some e)/\True)/\(∀
 (v:Value) (m':Mem) (css:List (List Value)) (tvs:List Value),R_2 v m' css tvs->Shape.fits Shape.slice v=true)/\∀(a:Option Addr)(ak c:Nat)(af:Mem),Mem.le (Mem.off m' ab) af->(NewM m' af λ(b:
 Nat)=>ab b\/Mem.free m' b)->R_2 (slice a ak c) af [] []->∃(I:IT),(∃(n:Nat),I [int i64 0,int i64 0] [] [] af n)/\∀(y al:Int)(m':Mem)(ap:Nat),True->I [int i64 y,int i64 al] [] [] m' ap->br
 (decide (al < (↑ak:Int))) (∃(av:Nat),∃(o:Nat),a=some (Addr.mk av o none)/\Zag al ak/\∃(v:Value),m' av (o+Int.toNat al*1)=some v/\br b (∃(ae:Value),m' c2b c2o=some ae/\∃(aj:Value),
 m' c0b c0o=some aj/\∃(am:Nat->Prop),∃(R:Value->Mem->List (List Value)->List Value->Prop),CXY Tryz.prog 44 (Array.mk [ae,aj,int i64 ag,v]) m' am [] [] R/\(∀(t:Tok),t∈[]->∀(b:Nat),Tok.blk t
 = some b->am b)/\(∀(b:Nat),am b->(∃(t:Tok),t∈[]/\Tok.blk t=some b)\/(Mem.free (Mem.off m Y) b/\Mem.k (Mem.off m Y) b=none)/\((∃(o:Nat),∃(v:Value),m' b o=some v)\/∃(e:List (Value ×
 Value)),Mem.k m' b=some e)/\True)/\(∀(v:Value)(m':Mem) (css:List (List Value)) (tvs:List Value),R v m' css tvs->Shape.fits Shape.slice v=true)/\∀(a:Option Addr)(aw c:Nat)(aq:Mem),Mem.le
 (Mem.off m' am) aq->(NewM m' aq λ(b:Nat)=>am b\/Mem.free m' b)->R (slice a aw c) aq [] []->(l=l/\∃(i:Nat),y=(↑i:Int)/\i < n/\V i [slice a aw c] aq)/\∃(n':Nat),n' < ap/\I [int i64 (y+(1:
 Int)),int i64 (IntKind.wrap i64 (al+(1:Int)))] [] [] aq n') (∃(n':Nat),n' < ap/\I [int i64 y,int i64 (IntKind.wrap i64 (al+(1:Int)))] [] [] m' n')) (∃(v:Value),m' c3b c3o=some v/\∃(ae:Value),m'
 c0b c0o=some ae/\chk (ZcA ae) (chk (ZcA ae) (∃(aj:Value),m' (Zkq ae) (Zkr ae+0+5)=some aj/\chk (ZaS i64 v&&ZaS i64 aj) (br (decide (RowKit.intOf v ≥ RowKit.intOf aj)) (∃(v:Value),m' c1b c1o
 = some v/\chk (Nat.beq (List.length (Array.toList (Value.cells v))) 1&&true) (∀(b:Nat),Mem.free m' b->(l=l/\∃(i:Nat),y=(↑i:Int)/\i < n/\V i [slice (some (Addr.mk b 0 none)) 1 1] (Mem.add m' b
 (List.append (Array.toList (Value.cells v)) [])))/\y+(1:Int)=(↑n:Int)/\R (Mem.add m' b (List.append (Array.toList (Value.cells v)) [])))) (y=(↑n:Int)/\R m')))))) ((0:Int)=(↑n:Int)/\R
 m))))))))))))))
theorem ZdH(p0g:Nat)(p0fi p0ca:List Value)(c0b c0o c1b c1o c2b c2o c3b c3o:Nat)(m:Mem)(Y:Nat->Prop)(n:Nat)(V:Nat->List Value->Mem->Prop)(R:Mem->Prop)(h:Zcs p0g p0fi p0ca c0b c0o c1b c1o c2b c2o c3b c3o m Y n V R):IXY Tryz.prog 91 [] [.pointer (some ⟨c0b,c0o,none⟩),.pointer (some ⟨c1b,c1o,none⟩),.pointer (some ⟨c2b,c2o,none⟩),.pointer (some ⟨c3b,c3o,none⟩)] m Y n V R:=
 Zj3 (E:=ZeI) Zay mix Tryz.func91 [] [.pointer (some ⟨c0b,c0o,none⟩),.pointer (some ⟨c1b,c1o,none⟩),.pointer (some ⟨c2b,c2o,none⟩),.pointer (some ⟨c3b,c3o,none⟩)] n V R (by kernel_rfl) (Eq.mp (by kernel_rfl) h)
noncomputable def ZfV:Env:={ EB with
 loops:=(λi=>bif Nat.beq i 6 then⟨[(11,.slice),(32,.int .i64)],[],[(51,1)],false⟩ else⟨[],[],[],false⟩)
 joins:=(λi=>bif Nat.beq i 8 then some [(47,.bool)]else none)
 tokOf:=(λi=>bif Nat.beq i 51 then 51 else 0)
 thaw:=true
 lentC:=(λi=>bif Nat.beq i 30 then some []else none) }
def Zc2(p0b p0o p1b p1o:Nat)(p2 p3:Int)(m:Mem)(Y:Nat->Prop)(R:RTY):Prop:=
 ∃(R_1:RT),True/\CX Tryz.prog 62 (Array.mk [Value.pointer (some (Addr.mk p1b p1o none)),int i64 p2]) m [] R_1/\Zaz (Shape.tup [Shape.int i64,Shape.bool]) R_1/\∀(n:Int)(b:Bool)(m':Mem),Mem.le m m'->
 R_1 (tuple (Array.mk [int i64 n,bool b])) m' []->br (!b) (R (slice none 0 0) m' [] []) (∃(v:Value),m' p1b (p1o+10)=some v/\chk (Zel v) (∃(b:Nat),∃(o:Nat),slA v=some (Addr.mk b o none)/\Zag (0
 : Int) (slN v)/\∃(v:Value),m' b (o+0)=some v/\∃(ag:Nat->Prop),∃(R_2:Value->Mem->List (List Value)->List Value->Prop),CXY Tryz.prog 44 (Array.mk [Value.pointer (some (Addr.mk p0b p0o none)),v,int
 i64 0,int i64 p3]) m' ag [] [] R_2/\(∀(t:Tok),t∈[]->∀(b:Nat),Tok.blk t=some b->ag b)/\(∀(b:Nat),ag b->(∃(t:Tok),t∈[]/\Tok.blk t=some b)\/(Mem.free (Mem.off m Y) b/\Mem.k (Mem.off m Y) b
 = none)/\((∃(o:Nat),∃(v:Value),m' b o=some v)\/∃(e:List (Value×Value)),Mem.k m' b=some e)/\True)/\(∀(v:Value)(m':Mem) (css:List (List Value)) (tvs:List Value),R_2 v m' css tvs->
 Shape.fits Shape.slice v=true)/\∀(a:Option Addr)(n c:Nat)(ah:Mem),Mem.le (Mem.off m' ag) ah->(NewM m' ah λ(b:Nat)=>ag b\/Mem.free m' b)->R_2 (slice a n c) ah [] []->∃(I:IT),(∃(n:Nat),I
 [slice none 0 0,int i64 0] [] [slice none 0 0] ah n)/\∀(ab:Option Addr)(aa c:Nat)(af:Int)(ac:Option Addr)(ad ae:Nat)(m':Mem)(ai:Nat),True->I [slice ab aa c,int i64 af] [] [slice ac ad ae] m' ai
 -> br (decide (af < (↑n:Int))) (∃(b:Nat),∃(o:Nat),a=some (Addr.mk b o none)/\Zag af n/\∃(v:Value),m' b (o+Int.toNat af*1)=some v/\∃(b:Bool),chk (ZaS i64 v&&decide (i64=i64)) (br
 (decide (RowKit.intOf v > p3)) ([some (Tok.mk (slice ac ad ae) 1)]=[some (Tok.mk (slice ac ad ae) 1)]/\[bool true]=[bool b]) (∃(v:Value),m' p1b (p1o+0+5)=some v/\chk (ZaS i64 v) ([some (Tok.mk (slice
 ac ad ae) 1)]=[some (Tok.mk (slice ac ad ae) 1)]/\[bool (decide (p2 < RowKit.intOf v))]=[bool b])))/\br b (chk (Nat.beq (List.length (Array.toList (Value.cells v))) 1&&true) (∀(b:Nat),Mem.free m' b->(Tok.mk
 (slice ac ad ae) 1=Tok.mk (slice ab aa c) 1\/slice ab aa c=slice none 0 0\/c < aa+1)/\∃(xs:List Value),∃(ys:List Value),List.length xs=aa*1/\List.length ys=1*1/\rowRd (Mem.add m' b
 (List.append (Array.toList (Value.cells v)) [])) ab xs/\rowRd (Mem.add m' b (List.append (Array.toList (Value.cells v)) [])) (some (Addr.mk b 0 none)) ys/\(∀(u:Value),u∈ys->Value.oneCell' u=true)/\(aa+1) *
 8<=140737488355328/\aa+1<=9223372036854775807/\∀(a':Option Addr)(c':Nat)(aj:Mem),Mem.le (Mem.add m' b (List.append (Array.toList (Value.cells v)) [])) aj->rowRd aj a' (List.append xs ys)->TokFact
 (Mem.add m' b (List.append (Array.toList (Value.cells v)) [])) ab a' (aa+1) c'->∃(n':Nat),n' < ai/\I [slice a' (aa+1) c',int i64 (IntKind.wrap i64 (af+(1:Int)))] [] [slice a' (aa+1) c'] aj n')) (∃(n':
 Nat),n' < ai/\I [slice ab aa c,int i64 (IntKind.wrap i64 (af+(1:Int)))] [] [slice ac ad ae] m' n')) (R (slice ab aa c) m' [] [])))
theorem ZeJ(p0b p0o p1b p1o:Nat)(p2 p3:Int)(m:Mem)(Y:Nat->Prop)(R:RTY)(h:Zc2 p0b p0o p1b p1o p2 p3 m Y R):CXY Tryz.prog 63 #[.pointer (some ⟨p0b,p0o,none⟩),.pointer (some ⟨p1b,p1o,none⟩),.int .i64 p2,.int .i64 p3] m Y [] [] R:=
 Zcj (E:=ZfV) Zay mix Tryz.func63 [.v (.pointer (some ⟨p0b,p0o,none⟩)),.v (.pointer (some ⟨p1b,p1o,none⟩)),.v (.int .i64 p2),.v (.int .i64 p3)] [] [] [] (by decide) (by kernel_rfl) (Eq.mp (by kernel_rfl) h)
noncomputable def Zgi:Env:={ EB with
 dr:=(λi=>bif Nat.beq i 2 then[⟨0,[],[],none,[],[]⟩,⟨1,[],[],none,[0],[]⟩,⟨2,[],[],none,[0,1],[]⟩,⟨3,[],[],none,[0,1,2],[]⟩,⟨4,[9],[],none,[],[]⟩,⟨5,[],[],none,[0,1,2,3,4],[]⟩,⟨6,[],[],none,[0,1,2,3,4,5],[]⟩,⟨7,[],[],none,[0,1,2,3,4,5,6],[]⟩,⟨8,[],[],none,[0,1,2,3,4,5,6],[]⟩,⟨9,[],[],none,[0,1,2,3,4,5,6,7],[]⟩,⟨10,[],[],none,[0,1,2,3,4,5,6,7,8,9],[]⟩]else bif Nat.beq i 6 then[⟨0,[],[],none,[],[]⟩,⟨1,[],[],none,[0],[]⟩,⟨2,[],[],none,[0,1],[]⟩,⟨3,[],[],none,[0,1,2],[]⟩,⟨4,[9],[],none,[],[]⟩,⟨5,[],[],none,[],[]⟩]else[])
 last:=(λi=>bif Nat.beq i 6 then true else false)
 lastK:=(λi=>bif Nat.beq i 6 then 1 else 1)
 thaw:=true
 lentC:=(λi=>bif Nat.beq i 37 then some []else none)
 ldF:=(λi=>bif Nat.beq i 16 then some (.int .i64)else none) }
def Zdi(p0b p0o p1b p1o:Nat)(p2 p3:Int)(m:Mem)(Y:Nat->Prop)(R:RTY):Prop:=
 ∃(v:Value),m p1b (p1o+8)=some v/\∃(n:Int),v=int i64 n/\∀(b:Nat),∃(v:Value),m p0b (p0o+3)=some v/\∃(b:Nat),∃(es:List (Value×Value)),∃(v_1:Value),∃(o:Bool),v=Value.map
 (some b)/\Mem.k m b=some es/\ZwD Tryz.prog 108 (agg (Array.mk [int i64 n,int i64 p2,int i64 p3]))/\LookIs Tryz.prog 108 (agg (Array.mk [int i64 n,int i64 p2,int i64 p3])) es (slice none 0 0) v_1 o/\br o (R
 v_1 m [] []) (∃(R_1:RT),True/\CX Tryz.prog 60 (Array.mk [Value.pointer (some (Addr.mk p0b p0o none)),Value.pointer (some (Addr.mk p1b p1o none)),int i64 p2,int i64 p3]) m [] R_1/\Zaz Shape.fn R_1/\∀(g:Nat)
 (fi ca:List Value) (m':Mem),Mem.le m m'->R_1 (func (Fn.func g) (Array.mk fi) (Array.mk ca)) m' []->∃(R_2:RT),True/\CX Tryz.prog 59 (Array.mk [func (Fn.func g) (Array.mk fi) (Array.mk ca)]) m' [] R_2/\Zaz
 Shape.fn R_2/\∀(g:Nat)(fi ca:List Value)(m'_1:Mem),Mem.le m' m'_1->R_2 (func (Fn.func g) (Array.mk fi) (Array.mk ca)) m'_1 []->∃(Y_1:Nat->Prop),∃(R_3:Value->Mem->List (List Value)->List Value->
 Prop),CXY Tryz.prog 58 (Array.mk [func (Fn.func g) (Array.mk fi) (Array.mk ca)]) m'_1 Y_1 [] [] R_3/\(∀(t:Tok),t∈[]->∀(b:Nat),Tok.blk t=some b->Y_1 b)/\(∀(b:Nat),Y_1 b->(∃(t:Tok),t∈[]/\
 Tok.blk t=some b)\/(Mem.free (Mem.off m Y) b/\Mem.k (Mem.off m Y) b=none)/\((∃(o:Nat),∃(v:Value),m'_1 b o=some v)\/∃(e:List (Value×Value)),Mem.k m'_1 b=some e)/\True)/\(∀(v:Value) (m':
 Mem) (css:List (List Value)) (tvs:List Value),R_3 v m' css tvs->Shape.fits Shape.slice v=true)/\∀(a:Option Addr)(n_1 c:Nat)(m':Mem),Mem.le (Mem.off m'_1 Y_1) m'->(NewM m'_1 m' λ(b:Nat)=>Y_1 b
 \/ Mem.free m'_1 b)->R_3 (slice a n_1 c) m' [] []->∃(v:Value),m' p0b (p0o+3)=some v/\∃(b:Nat),∃(es:List (Value×Value)),∃(es':List (Value×Value)),v=Value.map (some b)/\Mem.k m' b=some es/\
 ZwD Tryz.prog 108 (agg (Array.mk [int i64 n,int i64 p2,int i64 p3]))/\ZkC Tryz.prog 108 (agg (Array.mk [int i64 n,int i64 p2,int i64 p3])) (slice a n_1 c) es es'/\Mem.k (Mem.off m Y) b=none/\R (slice a n_1
 c) (Mem.updK m' b es') [] [])
theorem Zfd(p0b p0o p1b p1o:Nat)(p2 p3:Int)(m:Mem)(Y:Nat->Prop)(R:RTY)(h:Zdi p0b p0o p1b p1o p2 p3 m Y R):CXY Tryz.prog 44 #[.pointer (some ⟨p0b,p0o,none⟩),.pointer (some ⟨p1b,p1o,none⟩),.int .i64 p2,.int .i64 p3] m Y [] [] R:=
 Zcj (E:=Zgi) Zay mix Tryz.func44 [.v (.pointer (some ⟨p0b,p0o,none⟩)),.v (.pointer (some ⟨p1b,p1o,none⟩)),.v (.int .i64 p2),.v (.int .i64 p3)] [] [] [] (by decide) (by kernel_rfl) (Eq.mp (by kernel_rfl) h)
noncomputable def ZdU:Env:={ EB with
 loops:=(λi=>bif Nat.beq i 2 then⟨[(8,.int .i64)],[],[],false⟩ else⟨[],[],[],false⟩) }
def Zcd(p0a:Option Addr)(p0n p0c:Nat)(p1:Int)(m:Mem)(R:RT):Prop:=
 ∃(I:IT),(∃(n:Nat),I [int i64 0] [] [] m n)/\∀(n:Int)(m':Mem)(n_1:Nat),Mem.le m m'->I [int i64 n] [] [] m' n_1->br (decide (n < (↑p0n:Int))) (∃(b:Nat),∃(o:Nat),p0a=some (Addr.mk b o none)
 /\ Zag n p0n/\∃(v:Value),m' b (o+Int.toNat n*1)=some v/\chk (ZaS i64 v) (br (p1 == RowKit.intOf v) (∃(m'':Mem),Mem.le m m''/\Mem.le m'' m'/\R (int i64 n) m'' []) (∃(n':Nat),n' < n_1/\I [int
 i64 (IntKind.wrap i64 (n+(1:Int)))] [] [] m' n'))) (∃(m'':Mem),Mem.le m m''/\Mem.le m'' m'/\R (int i64 (-1:Int)) m'' [])
theorem ZdI(p0a:Option Addr)(p0n p0c:Nat)(p1:Int)(m:Mem)(R:RT)(h:Zcd p0a p0n p0c p1 m R):CX Tryz.prog 57 #[.slice p0a p0n p0c,.int .i64 p1] m [] R:=
 Zah (E:=ZdU) Zay mix Tryz.func57 [.v (.slice p0a p0n p0c),.v (.int .i64 p1)] [] (by kernel_rfl) (Eq.mp (by kernel_rfl) h)
noncomputable def Zc7:Env:=EB
def ZbC(p0a:Option Addr)(p0n p0c:Nat)(p1:Int)(m:Mem)(R:RT):Prop:=
 ∃(R_1:RT),True/\CX Tryz.prog 57 (Array.mk [slice p0a p0n p0c,int i64 p1]) m [] R_1/\Zaz (Shape.int i64) R_1/\∀(n:Int)(m':Mem),Mem.le m m'->R_1 (int i64 n) m' []->∃(m'':Mem),Mem.le m m''/\Mem.le
 m'' m'/\R (bool (decide (n ≥ (0:Int)))) m'' []
theorem ZcT(p0a:Option Addr)(p0n p0c:Nat)(p1:Int)(m:Mem)(R:RT)(h:ZbC p0a p0n p0c p1 m R):CX Tryz.prog 43 #[.slice p0a p0n p0c,.int .i64 p1] m [] R:=
 Zah (E:=Zc7) Zay mix Tryz.func43 [.v (.slice p0a p0n p0c),.v (.int .i64 p1)] [] (by kernel_rfl) (Eq.mp (by kernel_rfl) h)
end Go.Proofs.YtgclajkldphoaaaGreat
namespace Go.Proofs.YtgclajkldphoaaaGreat
open Go Go.Eng Go.Rx Go.Proofs Go.RowKit
set_option maxRecDepth 100000
theorem Zwl{l:List Nat}{q i:Nat}(h:l[q]?=some i):nsL (l.take (q+1))=nsL (l.take q)++[.int .i64 (i:Nat)]:=by
 unfold nsL
 rw[ZbZ h,List.map_append];rfl
theorem Zvj{l:List Nat}:∀u∈nsL l,u.oneCell'=true:=λu hu=>by
 obtain⟨x,_,rfl⟩:=List.mem_map.1 hu;rfl
theorem ZiE{M:Mem}{b1 b:Nat}{cs:List Value}(hc:cs≠[])(h:(M.add b1 cs).free b):b≠b1/\M.free b:=by
 have h1:b≠b1:=λe=>by
  subst e
  have:=h 0
  rw[Mem.add_same]at this
  cases cs with
  | nil=>exact hc rfl
  | cons x l=>simp at this
 exact⟨h1,λo=>by rw[<-Mem.add_other M h1 cs o];exact h o⟩
theorem ZmA{m M:Mem}{b:Nat}(hm:m.le M)(h:M.free b):m.free b:=λo=>by
 cases he:m b o with
 | none=>rfl
 | some v=>have:=hm.c _ _ _ he;rw[h o]at this;cases this
def ZBe(X:List Nat)(kb:Nat)(i:Nat)(v:List Value)(mi:Mem):Prop:=(∃x,X[i]?=some x/\v=[.int .i64 (x:Nat)])/\∃es,mi.k kb=some es
theorem Zlx(g:Nat)(fi ca:List Value)(m:Mem)(kb:Nat)(Z:Nat->Prop)(hz:ZOk m kb Z)(X:List Nat)(hX:X.length<=1000000)(RI:Mem->Prop)(oZ:∀a b:Mem,a.le b->RI a->RI b)(hk:∃es,m.k kb=some es)
  (tu:IXY Tryz.prog g fi ca m (λb=>b=kb) X.length (ZBe X kb) RI):
  CXY Tryz.prog 89 #[.slice none 0 0,.func (.func g) fi.toArray ca.toArray] m (λb=>b=kb) [] [] (λv m' _ _=>∃a c,v=.slice a X.length c/\rowRd (m'.off Z) a (nsL X)/\RI m'):=by
 apply Zb5
 unfold Zbm
 intro b0
 refine⟨λb=>b=kb,X.length,_,RI,tu,λb hb=>⟨by subst hb;exact Zna,by subst hb;exact hk⟩,λi x mi ⟨⟨y,_,hy⟩,_⟩=>by rw[hy];rfl,
  λ_ css tvs m' k=>∃a c,css=[[.slice a k c]]/\tvs=[.slice a k c]/\(k=0/\a=none\/∃b,a=some ⟨b,0,none⟩/\¬Z b/\m'.reads b 0 (nsL (X.take k))/\0 < k),⟨none,0,rfl,rfl,.inl ⟨rfl,rfl⟩⟩,?_,?_⟩
 ·rintro n1 cs a n2 c m' mi k hk' cF kK lQ cC ⟨⟨x,hx,hv⟩,es,eE⟩ ⟨a',c',cQ,fI,hI⟩
  obtain rfl:cs=[.slice a' k c']:=by simpa using cQ
  obtain⟨rfl,rfl,rfl⟩:a=a'/\n2=k/\c=c':=by simpa using fI
  obtain rfl:n1=x:=by simpa using hv
  have tw:rowRd m' a (nsL (X.take n2)):=by
   rcases hI with⟨rfl,rfl⟩|⟨b,rfl,_,h,_⟩
   ·exact .inl rfl
   ·exact .inr ⟨b,0,rfl,h⟩
  refine Zar rfl λb1 bP=>Zaa rfl ⟨.inl rfl,nsL (X.take n2),[.int .i64 (x:Nat)],?_,rfl,(tw.mono (Mem.le_or _ _)).mono (Mem.le_add bP _),.inr ⟨b1,0,rfl,?_⟩,?_,?_,?_,λa4 c4 m4 cA bG hf=>⟨rfl,?_,a4,c4,rfl,rfl,.inr ?_⟩⟩
  ·simp[nsL,slN];omega
  ·intro j v hj;rw[Nat.zero_add,Mem.add_same];exact hj
  ·intro u hu;obtain rfl:u=.int .i64 (x:Nat):=by simpa using hu
   rfl
  ·simp only[slN];omega
  ·simp only[slN];omega
  ·exact mLt cF (mLt (Mem.le_or _ _) (mLt (Mem.le_add bP _) cA))
  ·rw[Zwl hx]
   have bG:rowRd m4 a4 (nsL (X.take n2)++[.int .i64 (x:Nat)]):=bG
   rcases bG with bG|⟨b,o,ha,cP⟩
   ·simp at bG
   obtain⟨_,hf⟩:=hf
   rcases hf with hf|⟨b',o',ha',hf⟩
   ·rw[ha]at hf;cases hf
   rw[ha]at ha';cases ha'
   have uI:(m'.or mi).k kb=some es:=lQ.k _ _ eE
   have rZ:ZOk (m'.or mi) kb Z:=hz.next (mLt cF (Mem.le_or _ _))
   have key:o=0/\¬Z b/\¬(but m kb).newC mi b:=by
    rcases hf with hf|⟨ho,kH,nB⟩
    ·have hf:a=some ⟨b,o,none⟩:=hf.trans ha
     rcases hI with⟨_,hI⟩|⟨b2,Ah,sQ,Ai,Cf⟩
     ·rw[hI]at hf;cases hf
     ·rw[Ah]at hf;cases hf
      refine⟨rfl,sQ,λhn=>?_⟩
      have bF:0 < (nsL (X.take n2)).length:=by simp[nsL];omega
      have:=Ai 0 _ (List.getElem?_eq_getElem bF)
      rw[cC b hn]at this;cases this
    ·obtain⟨g1,g2⟩:=ZiE (by simp) kH
     refine⟨ho,rZ.new ⟨es,uI⟩ g2 nB,λ⟨o2,v2,hn,_⟩=>?_⟩
     ·have:=lQ.c _ _ _ hn
      rw[g2 o2]at this;cases this
   obtain⟨rfl,h2,h3⟩:=key
   exact⟨b,ha,h2,λj v hj=>by rw[Mem.less_at h3];exact cP j v hj,by omega⟩
 ·rintro cs a n2 c m' me cF eV rv ⟨a',c',cQ,fI,hI⟩ hR
  obtain rfl:cs=[.slice a' X.length c']:=by simpa using cQ
  refine Zar rfl ⟨a',c',rfl,?_,oZ _ _ rv hR⟩
  rcases hI with⟨h1,rfl⟩|⟨b,rfl,h2,h3,_⟩
  ·refine .inl ?_
   have:X=[]:=List.eq_nil_of_length_eq_zero h1
   rw[this];rfl
  ·rw[List.take_length]at h3
   refine .inr ⟨b,0,rfl,λj v hj=>?_⟩
   rw[Mem.off_at h2]
   exact(Mem.le_or _ _).c _ _ _ (h3 j v hj)
theorem ZpK(g:Nat)(fi ca:List Value)(m:Mem)(kb:Nat)(Z:Nat->Prop)(hz:ZOk m kb Z)(X:List Nat)(hX:X.length<=1000000)(RI:Mem->Prop)(oZ:∀a b:Mem,a.le b->RI a->RI b)(hk:∃es,m.k kb=some es)
  (tu:IXY Tryz.prog g fi ca m (λb=>b=kb) X.length (ZBe X kb) RI):
  CXY Tryz.prog 58 #[.func (.func g) fi.toArray ca.toArray] m (λb=>b=kb) [] [] (λv m' _ _=>∃a c,v=.slice a X.length c/\rowRd (m'.off Z) a (nsL X)/\RI m'):=by
 apply Zdw
 unfold Zcc
 refine⟨λb=>b=kb,_,Zlx g fi ca m kb Z hz X hX RI oZ hk tu,by simp,λb hb=>.inr ⟨⟨λo=>Mem.off_free (Y:=λb=>b=kb) hb o,Mem.off_kn (Y:=λb=>b=kb) hb⟩,.inr (by subst hb;exact hk),trivial⟩,?_,λa n c m' hm hn h=>h⟩
 rintro v m' css tvs ⟨a,c,rfl,_⟩;rfl
theorem Zwm(l:List Nat)(a:Option Addr)(c x:Nat)(m:Mem)(h:rowRd m a (nsL l))(hl:l.length<=1000000000000000):CX Tryz.prog 57 #[.slice a l.length c,.int .i64 x] m [] (λv _ _=>∃z:Int,v=.int .i64 z/\(z ≥ 0↔x∈l)):=by
 apply ZdI
 unfold Zcd
 refine⟨λxs css _ m' q=>∃k:Nat,k<=l.length/\xs=[.int .i64 k]/\x ∉ l.take k/\q=l.length - k,⟨_,0,by omega,rfl,by simp,rfl⟩,?_⟩
 rintro z m1 q bH ⟨k,hk,hz,gY,hq⟩
 obtain rfl:z=k:=by simpa using hz
 refine Zab (λbF=>?_) (λcR=>⟨m1,bH,Mem.le_refl _,_,rfl,?_⟩)
 ·have bI:k < l.length:=by have:=of_decide_eq_true bF;omega
  obtain⟨u,hu⟩:∃u,l[k]?=some u:=⟨_,List.getElem?_eq_getElem bI⟩
  have fH:IntKind.i64.wrap ((k:Int)+1)=((k+1:Nat):Int):=by rw[ZaN (by omega) (by omega)];rfl
  rcases h.mono bH with h|⟨b,o,h1,h2⟩
  ·rw[show l=[] by simpa[nsL]using h]at hu;simp at hu
  simp only[fH,Int.toNat_natCast,Nat.mul_one]
  refine⟨b,o,h1,⟨by omega,by omega⟩,_,h2 k (.int .i64 u) (by rw[nsL,List.getElem?_map,hu];rfl),Zaa rfl (Zab (λhc=>⟨m1,bH,Mem.le_refl _,_,rfl,?_⟩) (λhc=>⟨l.length - (k+1),by omega,k+1,by omega,rfl,?_,rfl⟩))⟩
  ·have:x=u:=by simp[RowKit.intOf]at hc;omega
   subst this
   exact⟨λ_=>List.mem_of_getElem? hu,λ_=>by omega⟩
  ·rw[ZbZ hu,List.mem_append]
   rintro(h|h)
   ·exact gY h
   ·simp at h;subst h;simp[RowKit.intOf]at hc
 ·have:k=l.length:=by have:=of_decide_eq_false cR;omega
  subst this
  rw[List.take_length]at gY
  exact⟨λh=>by omega,λh=>absurd h gY⟩
theorem Zee(l:List Nat)(a:Option Addr)(c x:Nat)(m:Mem)(h:rowRd m a (nsL l))(hl:l.length<=1000000000000000):CX Tryz.prog 43 #[.slice a l.length c,.int .i64 x] m [] (Ret (.bool (decide (x∈l)))):=by
 apply ZcT
 unfold ZbC
 refine ZaJ (Zwm l a c x m h hl) (λv _ _ ⟨z,e,_⟩=>by rw[e];rfl) ?_
 rintro z m1 bH ⟨z',hz,hx⟩
 cases hz
 exact Zaf bH (by unfold Ret;congr 1;exact decide_eq_decide.2 hx)
theorem Zyr(g:Nat)(fi ca:List Value)(m:Mem):CX Tryz.prog 59 #[.func (.func g) fi.toArray ca.toArray] m [] (λv m' _=>∃c,v=.func (.func 90) #[] #[.pointer (some ⟨c,0,none⟩)]/\m'.reads c 0 [.func (.func g) fi.toArray ca.toArray]/\m.k c=none):=by
 apply Zns
 unfold ZiC
 intro c m1 bH hc _ _ hk
 exact⟨m1,bH,Mem.le_refl _,c,rfl,hc,hk⟩
theorem ZhF:∀(l seen:List Nat),∃r,Zjt seen l=seen++r
 | [],seen=>⟨[],by simp[Zjt]⟩
 | i::l,seen=>by
  unfold Zjt
  split
  ·exact ZhF l seen
  ·obtain⟨r,h⟩:=ZhF l (seen++[i])
   exact⟨i::r,by rw[h];simp⟩
def ZwP(LL:List (List Nat))(kb:Nat)(i:Nat)(v:List Value)(mi:Mem):Prop:=(∃l a c,LL[i]?=some l/\v=[.slice a l.length c]/\rowRd mi a (nsL l))/\∃es,mi.k kb=some es
def SeenAt(m:Mem)(p:Nat->Prop)(a:Option Addr)(l:List Nat):Prop:=(l=[]/\a=none)\/∃b,a=some ⟨b,0,none⟩/\p b/\m.reads b 0 (nsL l)/\l≠[]
theorem SeenAt.row{m:Mem}{p:Nat->Prop}{a:Option Addr}{l:List Nat}(h:SeenAt m p a l):rowRd m a (nsL l):=by
 rcases h with⟨rfl,_⟩|⟨b,h1,_,h3,_⟩
 ·exact .inl rfl
 ·exact .inr ⟨b,0,h1,h3⟩
theorem SeenAt.next{m m4:Mem}{p q:Nat->Prop}{a:Option Addr}{l r:List Nat}(h:SeenAt m p a l)(hm:∀b,p b->(∃v,m b 0=some v)->q b/\∀o v,m b o=some v->m4 b o=some v):SeenAt m4 q a l:=by
 rcases h with h|⟨b,h1,h2,h3,h4⟩
 ·exact .inl h
 ·have bF:0 < (nsL l).length:=by simp[nsL];exact List.length_pos_iff.2 h4
  obtain⟨g1,g2⟩:=hm b h2 ⟨_,by have:=h3 0 _ (List.getElem?_eq_getElem bF);exact this⟩
  exact .inr ⟨b,h1,g1,λj v hj=>g2 _ _ (h3 j v hj),h4⟩
theorem SeenAt.push{m M m4:Mem}{p:Nat->Prop}{a a4:Option Addr}{l:List Nat}{x:Nat}{n c:Nat}(h:SeenAt m p a l)(bG:rowRd m4 a4 (nsL l++[.int .i64 (x:Nat)]))(hf:TokFact M a a4 n c)(hp:∀b,M.free b->M.k b=none->p b):SeenAt m4 p a4 (l++[x]):=by
 rcases bG with bG|⟨b,o,ha,cP⟩
 ·simp at bG
 obtain⟨_,hf⟩:=hf
 rcases hf with hf|⟨b',o',ha',hf⟩
 ·rw[ha]at hf;cases hf
 rw[ha]at ha';cases ha'
 have key:o=0/\p b:=by
  rcases hf with hf|⟨ho,kH,nB⟩
  ·have hf:a=some ⟨b,o,none⟩:=hf.trans ha
   rcases h with⟨_,h⟩|⟨b2,h1,h2,_⟩
   ·rw[h]at hf;cases hf
   ·rw[h1]at hf;cases hf;exact⟨rfl,h2⟩
  ·exact⟨ho,hp b kH nB⟩
 obtain⟨rfl,rU⟩:=key
 exact .inr ⟨b,ha,rU,λj v hj=>cP j v (by simpa[nsL]using hj),by simp⟩
theorem Zwn(g:Nat)(fi ca:List Value)(c0:Nat)(m:Mem)(kb:Nat)(LL:List (List Nat))(hX:(ddp LL.flatten).length<=1000000)(hL:∀l∈LL,l.length<=1000000)(RI:Mem->Prop)(oZ:∀a b:Mem,a.le b->RI a->RI b)(hk:∃es,m.k kb=some es)
  (hd:m.reads c0 0 [.func (.func g) fi.toArray ca.toArray]) (tu:∀m1:Mem,m.le m1->IXY Tryz.prog g fi ca m1 (λb=>b=kb) LL.length (ZwP LL kb) RI):
  IXY Tryz.prog 90 [] [.pointer (some ⟨c0,0,none⟩)] m (λb=>b=kb) (ddp LL.flatten).length (ZBe (ddp LL.flatten) kb) RI:=by
 apply ZiD 0 [] []
 unfold ZgA
 intro yl yb m1 bH eD Cg xU ad
 refine⟨_,bH.c _ _ _ (hd 0 _ rfl),g,fi,ca,rfl,λb=>b=kb,LL.length,_,RI,tu m1 bH,λb hb=>⟨by subst hb;exact Zna,by subst hb;obtain⟨es,eE⟩:=hk;exact⟨es,bH.k _ _ eE⟩⟩,λi x mi ⟨⟨l,a,c,_,hy,_⟩,_⟩=>by rw[hy];rfl,
  λxs css tvs m' k=>∃a c,xs=[.int .i64 ((ddp (LL.take k).flatten).length:Nat)]/\css=[[.slice a (ddp (LL.take k).flatten).length c]]/\tvs=[.slice a (ddp (LL.take k).flatten).length c]/\SeenAt m' (λb=>b≠kb) a (ddp (LL.take k).flatten),⟨none,0,rfl,rfl,rfl,.inl ⟨rfl,rfl⟩⟩,?_,?_⟩
 ·rintro y a ah c cs ap aq ar ac mi k hk' cF kK lQ cC ⟨⟨l,a',c',hl,hv,bG⟩,es,eE⟩ ⟨as1,c2,hy,cQ,fI,hS⟩
  obtain⟨rfl,rfl,rfl⟩:a=a'/\ah=l.length/\c=c':=by simpa using hv
  have gJ:=hL l (List.mem_of_getElem? hl)
  obtain⟨S,tx⟩:∃S:Nat->List Nat,S=λj=>Zjt (ddp (LL.take k).flatten) (l.take j):=⟨_,rfl⟩
  have Aj:S 0=ddp (LL.take k).flatten:=by rw[tx];rfl
  have Ak:∀j x,l[j]?=some x->S (j+1)=if x∈S j then S j else S j++[x]:=λj x hx=>by
   rw[tx];simp only
   rw[ZbZ hx,Zhw]
   simp only[Zjt]
  have uJ:S l.length=ddp (LL.take (k+1)).flatten:=by
   rw[tx];simp only[List.take_length]
   unfold ddp
   rw[ZbZ hl,List.flatten_append,Zhw]
   simp
  have jR:∀j,∃r,ddp LL.flatten=S j++r:=λj=>by
   have e:LL.flatten=(LL.take k).flatten++(l.take j++(l.drop j++(LL.drop (k+1)).flatten)):=by
    have e1:LL=LL.take k++l::LL.drop (k+1):=by
     have bF:=(List.getElem?_eq_some_iff.1 hl).1
     conv=>lhs;rw[<-List.take_append_drop k LL]
     rw[List.drop_eq_getElem_cons bF,(List.getElem?_eq_some_iff.1 hl).2]
    conv=>lhs;rw[e1,List.flatten_append,List.flatten_cons]
    rw[<-List.append_assoc (l.take j),List.take_append_drop]
   unfold ddp at tx ⊢
   rw[e,Zhw,Zhw,tx]
   exact ZhF _ _
  have bO:∀j,(S j).length<=1000000:=λj=>by
   obtain⟨r,hr⟩:=jR j
   have:=congrArg List.length hr
   simp at this;omega
  rw[<-Aj]at hy cQ fI hS
  obtain rfl:y=((S 0).length:Nat):=by simpa using hy
  have uI:(ac.or mi).k kb=some es:=lQ.k _ _ eE
  refine⟨λxs css tvs m' q=>∃(j:Nat)(a2:Option Addr)(c2:Nat),j<=l.length/\xs=[.int .i64 ((S j).length:Nat),.int .i64 (j:Nat)]/\css=[[.slice a2 (S j).length c2]]/\tvs=[.slice a2 (S j).length c2]/\(ac.or mi).le m'/\SeenAt m' (λb=>b≠kb/\¬(but m1 kb).newC mi b) a2 (S j)/\q=l.length - j,⟨_,0,as1,c2,by omega,rfl,cQ,fI,Mem.le_refl _,hS.next (r:=[]) λb hb ⟨v,hv⟩=>⟨⟨hb,λhn=>by rw[cC b hn 0]at hv;cases hv⟩,λo v hv=>(Mem.le_or _ _).c _ _ _ hv⟩,rfl⟩,?_⟩
  rintro y ae cs aj ak cc af ao _ ⟨j,a2,c2',hj,cJ,cQ,fI,iV,hS,rfl⟩
  simp only[List.cons.injEq,Value.int.injEq,true_and,and_true]at cJ
  obtain⟨rfl,rfl⟩:=cJ
  obtain rfl:cs=[.slice a2 (S j).length c2']:=by simpa using cQ
  obtain⟨rfl,rfl,rfl⟩:aj=a2/\ak=(S j).length/\cc=c2':=by simpa using fI
  refine Zab (λbF=>?_) (λcR=>?_)
  ·have bI:j < l.length:=by have:=of_decide_eq_true bF;omega
   obtain⟨x,hx⟩:∃x,l[j]?=some x:=⟨_,List.getElem?_eq_getElem bI⟩
   have fH:IntKind.i64.wrap ((j:Int)+1)=((j+1:Nat):Int):=by rw[ZaN (by omega) (by omega)];rfl
   have fG:=Ak j x hx
   rcases(bG.mono lQ).mono iV with h|⟨b,o,h1,h2⟩
   ·have:l=[]:=by simpa[nsL]using h
    rw[this]at bI;simp at bI
   simp only[Int.toNat_natCast,Nat.mul_one,fH]
   refine⟨b,o,h1,⟨by omega,by omega⟩,.int .i64 (x:Nat),h2 j _ (by rw[nsL,List.getElem?_map,hx];rfl),Zar rfl (Zax (Zee (S j) aj cc x af hS.row (by have:=bO j;omega)) λm2 bL=>Zab (λh=>⟨by trivial,by trivial,_,?_,j+1,aj,cc,by omega,?_,?_,?_,mLt iV bL,?_,rfl⟩) (λh=>Zar rfl (Zaa rfl λag qC=>Zaa rfl ⟨.inl rfl,nsL (S j),[.int .i64 (x:Nat)],?_,rfl,(hS.row.mono bL).mono (Mem.le_add qC _),.inr ⟨ag,0,rfl,?_⟩,?_,?_,?_,λa4 c4 m4 cA cO hf=>?_⟩)))⟩
   ·omega
   ·rw[fG,if_pos (of_decide_eq_true h)]
   ·rw[fG,if_pos (of_decide_eq_true h)]
   ·rw[fG,if_pos (of_decide_eq_true h)]
   ·rw[fG,if_pos (of_decide_eq_true h)]
    exact hS.next (r:=[]) λb hb _=>⟨hb,λo v hv=>bL.c _ _ _ hv⟩
   ·simp[nsL,slN]
   ·intro q v hq;rw[Nat.zero_add,Mem.add_same];exact hq
   ·intro u hu;obtain rfl:u=.int .i64 (x:Nat):=by simpa using hu
    rfl
   ·have:=bO j;simp only[slN];omega
   ·have:=bO j;simp only[slN];omega
   ·have fL:S (j+1)=S j++[x]:=by rw[fG,if_neg (of_decide_eq_false h)]
    have hM:(ac.or mi).le m4:=mLt iV (mLt bL (mLt (Mem.le_add qC _) cA))
    obtain⟨r,hr⟩:=jR (j+1)
    refine⟨⟨by trivial,(S j).length,rfl,?_,⟨x,?_,rfl⟩,es,hM.k _ _ uI⟩,by trivial,by trivial,_,?_,j+1,a4,c4,by omega,?_,?_,?_,hM,?_,rfl⟩
    ·rw[hr,fL];simp
    ·rw[hr,fL,List.append_assoc,List.getElem?_append_right (Nat.le_refl _)];simp
    ·omega
    ·rw[fL];simp
    ·rw[fL];simp[slN]
    ·rw[fL];simp[slN]
    ·rw[fL]
     have Al:SeenAt m2 (λb=>b≠kb/\¬(but m1 kb).newC mi b) aj (S j):=hS.next (r:=[]) λb hb _=>⟨hb,λo v hv=>bL.c _ _ _ hv⟩
     refine Al.push (M:=m2.add ag [.int .i64 (x:Nat)]) cO hf λb dW eA=>?_
     obtain⟨g1,g2⟩:=ZiE (by simp) dW
     have dT:(ac.or mi).le m2:=mLt iV bL
     refine⟨λe=>?_,λ⟨o2,v2,hn,_⟩=>?_⟩
     ·subst e
      have h3:m2.k b=none:=eA
      rw[dT.k _ _ uI]at h3;cases h3
     ·have:=dT.c _ _ _ (lQ.c _ _ _ hn)
      rw[g2 o2]at this;cases this
  ·have:j=l.length:=by have:=of_decide_eq_false cR;omega
   subst this
   refine⟨rfl,mLt cF (mLt (Mem.le_or _ _) iV),aj,cc,?_,?_,?_,?_⟩
   ·rw[<-uJ]
   ·rw[<-uJ]
   ·rw[<-uJ]
   ·rw[<-uJ]
    exact hS.next (r:=[]) λb hb _=>⟨hb.1,λo v hv=>by rw[Mem.less_at hb.2];exact hv⟩
 ·rintro y cs a ah c ac me cF eV rv ⟨as1,c2,hy,cQ,fI,hS⟩ hR
  rw[List.take_length]at hy
  refine⟨?_,oZ _ _ rv hR⟩
  simpa using hy
theorem Zwo(a b c a' b' c':Int):EqIs Tryz.prog 108 (.agg #[.int .i64 a,.int .i64 b,.int .i64 c]) (.agg #[.int .i64 a',.int .i64 b',.int .i64 c']) (a == a'&&b == b'&&c == c'):=by
 refine⟨λw=>?_,λop ox oy w=>Zer (by kernel_rfl) op ox oy _ _ w⟩
 have u3:=Tryz.underlying3
 have a3:=Tryz.isAgg3
 have z3:=Tryz.sizeOf3
 rw[Op.equal,Op.maxDepth,show(10000:Nat)=9999+1 from rfl,Op.equalIn]
 simp only[Sem.run_bind,run_underlying Tryz.underlying108,Result.andThen_ok]
 go_simp
 by_cases h1:a=a' <;> by_cases h2:b=b' <;> by_cases h3:c=c' <;> simp[h1,h2,h3]
theorem Zys(em:Bool)(n:Nat)(x:Int)(w:World):(Instr.checkKey em (n+1) 3 (.int .i64 x)).run Tryz.prog w=.ok () w:=by
 have u3:=Tryz.underlying3
 simp only[Instr.checkKey,Sem.run_bind,run_underlying u3,Result.andThen_ok]
 simp
theorem ZpL(a b c:Int):ZwD Tryz.prog 108 (.agg #[.int .i64 a,.int .i64 b,.int .i64 c]):=by
 intro em w
 have u3:=Tryz.underlying3
 have a3:=Tryz.isAgg3
 have z3:=Tryz.sizeOf3
 rw[show(10000:Nat)=9998+1+1 from rfl]
 generalize (9998:Nat)=n
 rw[Instr.checkKey]
 simp only[Sem.run_bind,run_underlying Tryz.underlying108,Result.andThen_ok]
 go_simp
 simp[Zys,Result.andThen]
end Go.Proofs.YtgclajkldphoaaaGreat