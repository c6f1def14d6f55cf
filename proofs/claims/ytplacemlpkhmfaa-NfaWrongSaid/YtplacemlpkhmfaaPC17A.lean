/- Part of the proof: conditions and contracts of functions of this program. No condition of its own. -/
import Derived.Test.YtplacemlpkhmfaaPVNA
import Derived.Test.YtplacemlpkhmfaaMc
import Derived.Test.YtplacemlpkhmfaaMr
set_option linter.unusedVariables false
set_option linter.unusedSimpArgs false
namespace Go.Proofs.Ytplacemlpkhmfaa
open Go Go.Eng Go.Rx Go.Proofs Go.RowKit
set_option maxRecDepth 100000
theorem ZtL(i:Nat):Int.tdiv (i:Int) 64=((i / 64:Nat):Int):=rfl
theorem Zox(i:Nat):Int.tmod (i:Int) 64=((i % 64:Nat):Int):=rfl
theorem Zsy(f i:Nat)(h:i < 448)(b o:Nat)(m:Mem)(hb:m.reads b o (bwL f)):CX Try.prog 115 #[.pointer (some ⟨b,o,none⟩),.int .i64 i] m [] (Ret (.bool (f.testBit i))):=by
 apply ZhW
 unfold Zfk
 have hq:IntKind.i64.wrap (Int.tdiv (i:Int) 64)=((i / 64:Nat):Int):=by rw[ZtL];exact Zax (by omega) (by omega)
 simp only[hq,Int.toNat_natCast,Nat.mul_one]
 have iB:(wdN f (i / 64)).testBit (i % 64)=f.testBit i:=by
  rw[Zp8,show 64*(i / 64)+i % 64=i by omega];simp;omega
 refine⟨by omega,⟨by omega,by omega⟩,_,hb (i / 64) _ (Zlh (by omega)),by omega,Zaa rfl ⟨by rw[Zox];omega,Zah (Mem.le_refl _) ?_⟩⟩
 rw[Zox,Int.toNat_natCast,Nat.min_eq_left (by omega)]
 show Value.bool (IntKind.u64.wrap _ == 1)=_
 simp only[intOf]
 rw[Zp9 _ _ (Znq _ _),iB]
theorem Ztq{i:Nat}:IntKind.u64.wrap (1*2 ^ min (Int.toNat (Int.tmod (i:Int) 64)) 64)=((2 ^ (i % 64):Nat):Int):=by
 rw[Zox,Int.toNat_natCast,Nat.min_eq_left (by omega),Int.one_mul]
 have:=ZtJ (2 ^ (i % 64)) (by
  have:2 ^ (i % 64) < 2 ^ 64:=Nat.pow_lt_pow_right (by omega) (by omega)
  exact this)
 rw[←this];push_cast;rfl
theorem Zlz(f i:Nat)(h:i < 448)(b T cap:Nat)(A B:List Value)(m:Mem)(dD:1 < cap):CX Try.prog 116 #[.pointer (some ⟨b,A.length,none⟩),.int .i64 i] m [⟨b,A++bwL f++B,T,cap,false,true⟩]
  (fun v _ css=>v=.tuple #[]∧css=[A++bwL (f|||2 ^ i)++B]):=by
 apply ZhV
 unfold Zfj
 have hq:IntKind.i64.wrap (Int.tdiv (i:Int) 64)=((i / 64:Nat):Int):=by rw[ZtL];exact Zax (by omega) (by omega)
 simp only[hq,Ztq,Int.toNat_natCast,Nat.mul_one]
 have hc:Nat.beq cap 1=false:=Zat (by omega)
 simp only[hc,Bool.false_and,cond_false]
 have bK:2 ^ (i % 64) < 18446744073709551616:=by
  have:2 ^ (i % 64) < 2 ^ 64:=Nat.pow_lt_pow_right (by omega) (by omega)
  exact this
 refine⟨by omega,⟨by omega,by omega⟩,Zap (ZnA (Zlh (by omega))) ⟨by omega,by rw[Zox];omega,Zaa rfl ⟨⟨by omega,by omega⟩,Zaa (by rw[Nat.ble_eq];simp[Znz];omega) ⟨by trivial,m,Mem.le_refl _,Mem.le_refl _,by trivial,?_⟩⟩⟩⟩
 simp only[intOf]
 rw[Zkc _ _ (Znq _ _) bK,Zij (by rw[Znz];omega),ZvL (by omega) (by omega),show 64*(i / 64)+i % 64=i by omega]
theorem Zoc(f g:Nat)(b T cap:Nat)(A B:List Value)(m:Mem)(dD:1 < cap):CX Try.prog 141 #[.pointer (some ⟨b,A.length,none⟩),bwV g] m [⟨b,A++bwL f++B,T,cap,false,true⟩]
  (fun v _ css=>v=.tuple #[]∧css=[A++bwL (f|||g)++B]):=by
 apply ZiQ
 unfold ZfZ
 intro b1 m1 bH _
 have hc:Nat.beq cap 1=false:=Zat (by omega)
 refine⟨fun xs css _ m' q=>∃k:Nat,k≤7∧xs=[.int .i64 k]∧css=[A++orB f g k++B]∧q=7 - k,⟨7,0,by omega,rfl,rfl,rfl⟩,?_⟩
 rintro n cs m2 q bN ⟨k,hk,hn,cH,hq⟩
 obtain rfl:n=k:=by simpa using hn
 obtain rfl:cs=A++orB f g k++B:=by simpa using cH
 refine Zab (fun bK=>?_) (fun cS=>?_)
 ·have bJ:k < 7:=by have:=of_decide_eq_true bK;omega
  have h1:=Zsr (f:=f) (g:=g) (k:=k) bJ
  rw[if_neg (by omega)]at h1
  have h2:=Zlh (f:=g) bJ
  simp only[Int.toNat_natCast,Nat.zero_add,Nat.mul_one,hc,Bool.false_and,cond_false]
  refine⟨⟨by omega,by omega⟩,Zap (ZnA h1) ⟨⟨by omega,by omega⟩,Zap h2 (Zaa rfl ⟨⟨by omega,by omega⟩,Zaa (by rw[Nat.ble_eq];simp[Zny];omega) ⟨by trivial,7 - (k+1),by omega,k+1,by omega,?_,?_,rfl⟩⟩)⟩⟩
  ·rw[Zax (by omega) (by omega)];rfl
  ·simp only[intOf]
   rw[Zkc _ _ (Znq _ _) (Znq _ _),Zij (by rw[Zny];omega),Zqi bJ]
 ·have:k=7:=by have:=of_decide_eq_false cS;omega
  subst this
  exact⟨rfl,m,Mem.le_refl _,Mem.le_trans bH bN,rfl,rfl⟩
theorem Zqt(f:Nat)(b o c:Nat)(m:Mem)(hb:m.reads b o (bwL f))(hc:m.reads c 0 [.pointer (some ⟨b,o,none⟩)]):IX Try.prog 145 [] [.pointer (some ⟨c,0,none⟩)] m ((ZcG f).map fun i=>[.int .i64 (i:Nat)]):=by
 apply Zgl 0 [] [] c 0
 unfold ZdI
 intro l
 refine⟨fun xs _ _ m' q=>∃k:Nat,k≤448∧xs=[.int .i64 (((List.range k).filter fun i=>f.testBit i).length:Nat),.int .i64 k]∧m.le m'∧q=448 - k,⟨448,0,by omega,rfl,Mem.le_refl _,rfl⟩,?_⟩
 rintro y n m1 q bH ⟨k,hk,eM,_,hq⟩
 simp only[List.cons.injEq,Value.int.injEq,true_and,and_true]at eM
 obtain⟨rfl,rfl⟩:=eM
 have cO:((List.range (k+1)).filter fun i=>f.testBit i).length=((List.range k).filter fun i=>f.testBit i).length+(if f.testBit k then 1 else 0):=by
  rw[List.range_succ,List.filter_append,List.length_append];simp[List.filter_cons];split <;> simp
 refine Zab (fun bK=>?_) (fun cS=>?_)
 ·have bJ:k < 448:=by have:=of_decide_eq_true bK;omega
  refine⟨_,bH _ _ _ (hc 0 _ rfl),Zaj (Zsy f k (by omega) b o m1 (hb.mono bH)) fun m2 bN=>Zab (fun h=>?_) (fun h=>?_)⟩
  ·refine⟨⟨rfl,by omega,?_⟩,⟨448 - (k+1),by omega,k+1,by omega,?_,Mem.le_trans bH bN,rfl⟩,.inr rfl⟩
   ·rw[Int.toNat_natCast]
    show((ZcG f).map fun i=>[Value.int .i64 (i:Nat)])[((List.range k).filter fun i=>f.testBit i).length]?=_
    rw[List.getElem?_map,Zte f k bJ h];rfl
   ·rw[cO,if_pos h,Zax (by omega) (by omega)];rfl
  ·refine⟨448 - (k+1),by omega,k+1,by omega,?_,Mem.le_trans bH bN,rfl⟩
   rw[cO,if_neg (by simp[h]),Zax (by omega) (by omega)];rfl
 ·have:k=448:=by have:=of_decide_eq_false cS;omega
  subst this
  left
  simp[ZcG]
theorem Zsz(b o:Nat)(m:Mem):CX Try.prog 111 #[.pointer (some ⟨b,o,none⟩)] m [] (fun v m' _=>∃c,v=.func (.func 145) #[] #[.pointer (some ⟨c,0,none⟩)]∧m'.reads c 0 [.pointer (some ⟨b,o,none⟩)]):=by
 apply ZhY
 unfold Zfl
 intro c m1 bH hc
 exact⟨m1,bH,Mem.le_refl _,c,rfl,hc⟩
def Zod(l:List Nat):List Value:=l.map fun i=>.int .i64 (i:Nat)
theorem ZrM(l:List Nat):(Zod l).length=l.length:=by simp[Zod]
def SlN(l:List Nat)(v:Value)(m':Mem):Prop:=∃a c,v=.slice a l.length c∧rowRd m' a (Zod l)∧(l=[]→a=none)
theorem ZrN(f:Nat)(l:List Nat)(g:Nat)(ca:List Value)(m:Mem)(hl:l.length≤1000)(rE:IX Try.prog g [] ca m (l.map fun i=>[.int .i64 (i:Nat)])):CX Try.prog 144 #[.slice none 0 0,.func (.func g) #[] ca.toArray] m [] (fun v m' _=>SlN l v m'):=by
 apply Zcj none 0 0 g [] ca
 unfold Zbx
 intro b
 refine⟨l.map fun i=>[.int .i64 (i:Nat)],rE,fun x hx=>?_,fun xs css tvs m' q=>∃(a:Option Addr)(c:Nat),q≤l.length∧css=[[.slice a q c]]∧tvs=[.slice a q c]∧m.le m'∧rowRd m' a (Zod (l.take q))∧(q=0→a=none),⟨none,0,Nat.zero_le _,rfl,rfl,Mem.le_refl _,.inl rfl,fun _=>rfl⟩,?_,?_⟩
 ·obtain⟨i,_,rfl⟩:=List.mem_map.1 hx
  rfl
 ·rintro n cs a n1 c m1 q bH hq ⟨a',c',rF,cH,dA,_,cM,gf⟩
  obtain rfl:cs=[.slice a' q c']:=by simpa using cH
  obtain⟨rfl,rfl,rfl⟩:a=a'∧n1=q∧c=c':=by simpa using dA
  have hq':l[n1]?.map (fun i=>[Value.int .i64 (i:Nat)])=some [.int .i64 n]:=by rw[←List.getElem?_map];exact hq
  cases pL:l[n1]? with
  | none=>rw[pL]at hq';cases hq'
  | some i=>
   rw[pL]at hq'
   obtain rfl:(i:Int)=n:=by simpa using hq'
   have bK:=(List.getElem?_eq_some_iff.1 pL).1
   refine Zap (v:=.slice a n1 c) rfl fun b1 fP=>Zaa rfl ⟨.inl rfl,Zod (l.take n1),[.int .i64 (i:Nat)],?_,rfl,cM.mono (Mem.le_add fP _),.inr ⟨b1,0,rfl,fun j v hv=>by rw[Mem.add_same];simpa using hv⟩,by simp[Value.oneCell'],?_,?_,fun a2 c2 m2 bN gQ=>⟨rfl,a2,c2,bK,?_,?_,Mem.le_trans bH (Mem.le_trans (Mem.le_add fP _) bN),?_,fun h=>by omega⟩⟩
   ·simp only[ZrM,List.length_take,slN];omega
   ·show(n1+1)*8≤_;omega
   ·show n1+1≤_;omega
   ·rfl
   ·rfl
   ·have e:Zod (l.take (n1+1))=Zod (l.take n1)++[.int .i64 (i:Nat)]:=by
     rw[List.take_add_one,pL];simp[Zod]
    rw[e];exact gQ
 ·rintro cs a n1 c m1 bH ⟨a',c',rF,cH,dA,_,cM,gf⟩
  obtain rfl:cs=[.slice a' (l.map fun i=>[Value.int .i64 (i:Nat)]).length c']:=by simpa using cH
  refine Zap (v:=.slice a' (l.map fun i=>[Value.int .i64 (i:Nat)]).length c') rfl ⟨m1,bH,Mem.le_refl _,a',c',by simp,by simpa using cM,fun h=>gf (by simp[h])⟩
theorem Zpt(l:List Nat)(g:Nat)(ca:List Value)(m:Mem)(hl:l.length≤1000)(rE:IX Try.prog g [] ca m (l.map fun i=>[.int .i64 (i:Nat)])):CX Try.prog 110 #[.func (.func g) #[] ca.toArray] m [] (fun v m' _=>SlN l v m'):=by
 apply Zd5 g [] ca
 unfold Zck
 refine Zam (ZrN 0 l g ca m hl rE) (fun v m' _ h=>by obtain⟨a,c,rfl,_⟩:=h;rfl) fun a n c m1 bH h=>⟨m1,bH,Mem.le_refl _,h⟩
theorem Ztr(f:Nat)(b o:Nat)(m:Mem)(hb:m.reads b o (bwL f)):CX Try.prog 62 #[.pointer (some ⟨b,o,none⟩)] m [] (fun v m' _=>SlN (ZcG f) v m'):=by
 apply Zg6
 unfold Zeg
 refine Zam (Zsz b o m) (fun v m' _ h=>by obtain⟨c,rfl,_⟩:=h;rfl) fun g fi ca m1 bH h=>?_
 obtain⟨c,hv,hc⟩:=h
 simp only[Value.func.injEq,Fn.func.injEq,Array.mk.injEq]at hv
 obtain⟨rfl,rfl,rfl⟩:=hv
 exact Zam (Zpt (ZcG f) _ _ m1 (Nat.le_trans (ZnB f) (by omega)) (Zqt f b o c m1 (hb.mono bH) hc)) (fun v m' _ h=>by obtain⟨a,c,rfl,_⟩:=h;rfl) fun a n c m2 bN h=>⟨m2,Mem.le_trans bH bN,Mem.le_refl _,h⟩
end Go.Proofs.Ytplacemlpkhmfaa

