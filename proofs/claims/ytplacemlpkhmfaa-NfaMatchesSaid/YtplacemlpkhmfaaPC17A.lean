/- Part of the proof: conditions and contracts of functions of this program. No condition of its own. -/
import Derived.Test.YtplacemlpkhmfaaPVNA
import Derived.Test.YtplacemlpkhmfaaMc
import Derived.Test.YtplacemlpkhmfaaMr
set_option linter.unusedVariables false
set_option linter.unusedSimpArgs false
namespace Go.Proofs.Ytplacemlpkhmfaa
open Go Go.Eng Go.Rx Go.Proofs Go.RowKit
set_option maxRecDepth 100000
theorem Zsh(i:Nat):Int.tdiv (i:Int) 64=((i / 64:Nat):Int):=rfl
theorem ZjO(i:Nat):Int.tmod (i:Int) 64=((i % 64:Nat):Int):=rfl
theorem ZuB(f i:Nat)(h:i < 448)(b o:Nat)(m:Mem)(hb:m.reads b o (bwL f)):CX Try.prog 115 #[.pointer (some ⟨b,o,none⟩),.int .i64 i] m [] (Ret (.bool (f.testBit i))):=by
 apply Zi7
 unfold Zf7
 have hq:IntKind.i64.wrap (Int.tdiv (i:Int) 64)=((i / 64:Nat):Int):=by rw[Zsh];exact Zat (by omega) (by omega)
 simp only[hq,Int.toNat_natCast,Nat.mul_one]
 have eY:(wdN f (i / 64)).testBit (i % 64)=f.testBit i:=by
  rw[Ziy,show 64*(i / 64)+i % 64=i by omega];simp;omega
 refine⟨by omega,⟨by omega,by omega⟩,_,hb (i / 64) _ (ZiA (by omega)),by omega,Zaa rfl ⟨by rw[ZjO];omega,Zac (Mem.le_refl _) ?_⟩⟩
 rw[ZjO,Int.toNat_natCast,Nat.min_eq_left (by omega)]
 show Value.bool (IntKind.u64.wrap _ == 1)=_
 simp only[intOf]
 rw[ZlE _ _ (Zg5 _ _),eY]
theorem ZvG{i:Nat}:IntKind.u64.wrap (1*2 ^ min (Int.toNat (Int.tmod (i:Int) 64)) 64)=((2 ^ (i % 64):Nat):Int):=by
 rw[ZjO,Int.toNat_natCast,Nat.min_eq_left (by omega),Int.one_mul]
 have:=Zs4 (2 ^ (i % 64)) (by
  have:2 ^ (i % 64) < 2 ^ 64:=Nat.pow_lt_pow_right (by omega) (by omega)
  exact this)
 rw[←this];push_cast;rfl
theorem Zk2(f i:Nat)(h:i < 448)(b T cap:Nat)(A B:List Value)(m:Mem)(dP:1 < cap):CX Try.prog 116 #[.pointer (some ⟨b,A.length,none⟩),.int .i64 i] m [⟨b,A++bwL f++B,T,cap,false,true⟩]
  (fun v _ css=>v=.tuple #[]∧css=[A++bwL (f|||2 ^ i)++B]):=by
 apply Zi6
 unfold Zf6
 have hq:IntKind.i64.wrap (Int.tdiv (i:Int) 64)=((i / 64:Nat):Int):=by rw[Zsh];exact Zat (by omega) (by omega)
 simp only[hq,ZvG,Int.toNat_natCast,Nat.mul_one]
 have hc:Nat.beq cap 1=false:=Zaq (by omega)
 simp only[hc,Bool.false_and,cond_false]
 have bS:2 ^ (i % 64) < 18446744073709551616:=by
  have:2 ^ (i % 64) < 2 ^ 64:=Nat.pow_lt_pow_right (by omega) (by omega)
  exact this
 refine⟨by omega,⟨by omega,by omega⟩,Zam (Zo2 (ZiA (by omega))) ⟨by omega,by rw[ZjO];omega,Zaa rfl ⟨⟨by omega,by omega⟩,Zaa (by rw[Nat.ble_eq];simp[Zo1];omega) ⟨by trivial,m,Mem.le_refl _,Mem.le_refl _,by trivial,?_⟩⟩⟩⟩
 simp only[intOf]
 rw[Zjw _ _ (Zg5 _ _) bS,Zjx (by rw[Zo1];omega),ZxV (by omega) (by omega),show 64*(i / 64)+i % 64=i by omega]
theorem ZpR(f g:Nat)(b T cap:Nat)(A B:List Value)(m:Mem)(dP:1 < cap):CX Try.prog 141 #[.pointer (some ⟨b,A.length,none⟩),bwV g] m [⟨b,A++bwL f++B,T,cap,false,true⟩]
  (fun v _ css=>v=.tuple #[]∧css=[A++bwL (f|||g)++B]):=by
 apply Zkb
 unfold ZgT
 intro b1 m1 bJ _
 have hc:Nat.beq cap 1=false:=Zaq (by omega)
 refine⟨fun xs css _ m' q=>∃k:Nat,k≤7∧xs=[.int .i64 k]∧css=[A++orB f g k++B]∧q=7 - k,⟨7,0,by omega,rfl,rfl,rfl⟩,?_⟩
 rintro n cs m2 q bT ⟨k,hk,hn,cK,hq⟩
 obtain rfl:n=k:=by simpa using hn
 obtain rfl:cs=A++orB f g k++B:=by simpa using cK
 refine Zab (fun bS=>?_) (fun cX=>?_)
 ·have bR:k < 7:=by have:=of_decide_eq_true bS;omega
  have h1:=Zup (f:=f) (g:=g) (k:=k) bR
  rw[if_neg (by omega)]at h1
  have h2:=ZiA (f:=g) bR
  simp only[Int.toNat_natCast,Nat.zero_add,Nat.mul_one,hc,Bool.false_and,cond_false]
  refine⟨⟨by omega,by omega⟩,Zam (Zo2 h1) ⟨⟨by omega,by omega⟩,Zam h2 (Zaa rfl ⟨⟨by omega,by omega⟩,Zaa (by rw[Nat.ble_eq];simp[Zo0];omega) ⟨by trivial,7 - (k+1),by omega,k+1,by omega,?_,?_,rfl⟩⟩)⟩⟩
  ·rw[Zat (by omega) (by omega)];rfl
  ·simp only[intOf]
   rw[Zjw _ _ (Zg5 _ _) (Zg5 _ _),Zjx (by rw[Zo0];omega),ZrY bR]
 ·have:k=7:=by have:=of_decide_eq_false cX;omega
  subst this
  exact⟨rfl,m,Mem.le_refl _,Mem.le_trans bJ bT,rfl,rfl⟩
theorem Zsk(f:Nat)(b o c:Nat)(m:Mem)(hb:m.reads b o (bwL f))(hc:m.reads c 0 [.pointer (some ⟨b,o,none⟩)]):IX Try.prog 145 [] [.pointer (some ⟨c,0,none⟩)] m ((ZcI f).map fun i=>[.int .i64 (i:Nat)]):=by
 apply Zhi 0 [] [] c 0
 unfold Zd3
 intro l
 refine⟨fun xs _ _ m' q=>∃k:Nat,k≤448∧xs=[.int .i64 (((List.range k).filter fun i=>f.testBit i).length:Nat),.int .i64 k]∧m.le m'∧q=448 - k,⟨448,0,by omega,rfl,Mem.le_refl _,rfl⟩,?_⟩
 rintro y n m1 q bJ ⟨k,hk,gn,_,hq⟩
 simp only[List.cons.injEq,Value.int.injEq,true_and,and_true]at gn
 obtain⟨rfl,rfl⟩:=gn
 have dD:((List.range (k+1)).filter fun i=>f.testBit i).length=((List.range k).filter fun i=>f.testBit i).length+(if f.testBit k then 1 else 0):=by
  rw[List.range_succ,List.filter_append,List.length_append];simp[List.filter_cons];split <;> simp
 refine Zab (fun bS=>?_) (fun cX=>?_)
 ·have bR:k < 448:=by have:=of_decide_eq_true bS;omega
  refine⟨_,bJ _ _ _ (hc 0 _ rfl),Zak (ZuB f k (by omega) b o m1 (hb.mono bJ)) fun m2 bT=>Zab (fun h=>?_) (fun h=>?_)⟩
  ·refine⟨⟨rfl,by omega,?_⟩,⟨448 - (k+1),by omega,k+1,by omega,?_,Mem.le_trans bJ bT,rfl⟩,.inr rfl⟩
   ·rw[Int.toNat_natCast]
    show((ZcI f).map fun i=>[Value.int .i64 (i:Nat)])[((List.range k).filter fun i=>f.testBit i).length]?=_
    rw[List.getElem?_map,Zvi f k bR h];rfl
   ·rw[dD,if_pos h,Zat (by omega) (by omega)];rfl
  ·refine⟨448 - (k+1),by omega,k+1,by omega,?_,Mem.le_trans bJ bT,rfl⟩
   rw[dD,if_neg (by simp[h]),Zat (by omega) (by omega)];rfl
 ·have:k=448:=by have:=of_decide_eq_false cX;omega
  subst this
  left
  simp[ZcI]
theorem ZuC(b o:Nat)(m:Mem):CX Try.prog 111 #[.pointer (some ⟨b,o,none⟩)] m [] (fun v m' _=>∃c,v=.func (.func 145) #[] #[.pointer (some ⟨c,0,none⟩)]∧m'.reads c 0 [.pointer (some ⟨b,o,none⟩)]):=by
 apply Zi9
 unfold Zf8
 intro c m1 bJ hc
 exact⟨m1,bJ,Mem.le_refl _,c,rfl,hc⟩
def ZpS(l:List Nat):List Value:=l.map fun i=>.int .i64 (i:Nat)
theorem ZtD(l:List Nat):(ZpS l).length=l.length:=by simp[ZpS]
def SlN(l:List Nat)(v:Value)(m':Mem):Prop:=∃a c,v=.slice a l.length c∧rowRd m' a (ZpS l)∧(l=[]→a=none)
theorem ZtE(f:Nat)(l:List Nat)(g:Nat)(ca:List Value)(m:Mem)(hl:l.length≤1000)(rW:IX Try.prog g [] ca m (l.map fun i=>[.int .i64 (i:Nat)])):CX Try.prog 144 #[.slice none 0 0,.func (.func g) #[] ca.toArray] m [] (fun v m' _=>SlN l v m'):=by
 apply Zcv none 0 0 g [] ca
 unfold Zbv
 intro b
 refine⟨l.map fun i=>[.int .i64 (i:Nat)],rW,fun x hx=>?_,fun xs css tvs m' q=>∃(a:Option Addr)(c:Nat),q≤l.length∧css=[[.slice a q c]]∧tvs=[.slice a q c]∧m.le m'∧rowRd m' a (ZpS (l.take q))∧(q=0→a=none),⟨none,0,Nat.zero_le _,rfl,rfl,Mem.le_refl _,.inl rfl,fun _=>rfl⟩,?_,?_⟩
 ·obtain⟨i,_,rfl⟩:=List.mem_map.1 hx
  rfl
 ·rintro n cs a n1 c m1 q bJ hq ⟨a',c',rX,cK,dE,_,cU,gD⟩
  obtain rfl:cs=[.slice a' q c']:=by simpa using cK
  obtain⟨rfl,rfl,rfl⟩:a=a'∧n1=q∧c=c':=by simpa using dE
  have hq':l[n1]?.map (fun i=>[Value.int .i64 (i:Nat)])=some [.int .i64 n]:=by rw[←List.getElem?_map];exact hq
  cases nB:l[n1]? with
  | none=>rw[nB]at hq';cases hq'
  | some i=>
   rw[nB]at hq'
   obtain rfl:(i:Int)=n:=by simpa using hq'
   have bS:=(List.getElem?_eq_some_iff.1 nB).1
   refine Zam (v:=.slice a n1 c) rfl fun b1 fU=>Zaa rfl ⟨.inl rfl,ZpS (l.take n1),[.int .i64 (i:Nat)],?_,rfl,cU.mono (Mem.le_add fU _),.inr ⟨b1,0,rfl,fun j v hv=>by rw[Mem.add_same];simpa using hv⟩,by simp[Value.oneCell'],?_,?_,fun a2 c2 m2 bT hU=>⟨rfl,a2,c2,bS,?_,?_,Mem.le_trans bJ (Mem.le_trans (Mem.le_add fU _) bT),?_,fun h=>by omega⟩⟩
   ·simp only[ZtD,List.length_take,slN];omega
   ·show(n1+1)*8≤_;omega
   ·show n1+1≤_;omega
   ·rfl
   ·rfl
   ·have e:ZpS (l.take (n1+1))=ZpS (l.take n1)++[.int .i64 (i:Nat)]:=by
     rw[List.take_add_one,nB];simp[ZpS]
    rw[e];exact hU
 ·rintro cs a n1 c m1 bJ ⟨a',c',rX,cK,dE,_,cU,gD⟩
  obtain rfl:cs=[.slice a' (l.map fun i=>[Value.int .i64 (i:Nat)]).length c']:=by simpa using cK
  refine Zam (v:=.slice a' (l.map fun i=>[Value.int .i64 (i:Nat)]).length c') rfl ⟨m1,bJ,Mem.le_refl _,a',c',by simp,by simpa using cU,fun h=>gD (by simp[h])⟩
theorem Zrf(l:List Nat)(g:Nat)(ca:List Value)(m:Mem)(hl:l.length≤1000)(rW:IX Try.prog g [] ca m (l.map fun i=>[.int .i64 (i:Nat)])):CX Try.prog 110 #[.func (.func g) #[] ca.toArray] m [] (fun v m' _=>SlN l v m'):=by
 apply ZeA g [] ca
 unfold Zcw
 refine Zap (ZtE 0 l g ca m hl rW) (fun v m' _ h=>by obtain⟨a,c,rfl,_⟩:=h;rfl) fun a n c m1 bJ h=>⟨m1,bJ,Mem.le_refl _,h⟩
theorem ZvH(f:Nat)(b o:Nat)(m:Mem)(hb:m.reads b o (bwL f)):CX Try.prog 62 #[.pointer (some ⟨b,o,none⟩)] m [] (fun v m' _=>SlN (ZcI f) v m'):=by
 apply Zh3
 unfold ZeJ
 refine Zap (ZuC b o m) (fun v m' _ h=>by obtain⟨c,rfl,_⟩:=h;rfl) fun g fi ca m1 bJ h=>?_
 obtain⟨c,hv,hc⟩:=h
 simp only[Value.func.injEq,Fn.func.injEq,Array.mk.injEq]at hv
 obtain⟨rfl,rfl,rfl⟩:=hv
 exact Zap (Zrf (ZcI f) _ _ m1 (Nat.le_trans (Zo3 f) (by omega)) (Zsk f b o c m1 (hb.mono bJ) hc)) (fun v m' _ h=>by obtain⟨a,c,rfl,_⟩:=h;rfl) fun a n c m2 bT h=>⟨m2,Mem.le_trans bJ bT,Mem.le_refl _,h⟩
end Go.Proofs.Ytplacemlpkhmfaa

