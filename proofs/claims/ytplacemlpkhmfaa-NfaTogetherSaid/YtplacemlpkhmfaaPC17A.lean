/- Part of the proof: conditions and contracts of functions of this program. No condition of its own. -/
import Derived.Test.YtplacemlpkhmfaaPVNA
import Derived.Test.YtplacemlpkhmfaaMc
import Derived.Test.YtplacemlpkhmfaaMr
set_option linter.unusedVariables false
set_option linter.unusedSimpArgs false
namespace Go.Proofs.Ytplacemlpkhmfaa
open Go Go.Eng Go.Rx Go.Proofs Go.RowKit
set_option maxRecDepth 100000
theorem Zuz(i:Nat):Int.tdiv (i:Int) 64=((i / 64:Nat):Int):=rfl
theorem Zpf(i:Nat):Int.tmod (i:Int) 64=((i % 64:Nat):Int):=rfl
theorem Zti(f i:Nat)(h:i < 448)(b o:Nat)(m:Mem)(hb:m.reads b o (bwL f)):CX Try.prog 115 #[.pointer (some ⟨b,o,none⟩),.int .i64 i] m [] (Ret (.bool (f.testBit i))):=by
 apply Zim
 unfold ZfE
 have hq:IntKind.i64.wrap (Int.tdiv (i:Int) 64)=((i / 64:Nat):Int):=by rw[Zuz];exact ZaA (by omega) (by omega)
 simp only[hq,Int.toNat_natCast,Nat.mul_one]
 have fU:(wdN f (i / 64)).testBit (i % 64)=f.testBit i:=by
  rw[ZqM,show 64*(i / 64)+i % 64=i by omega];simp;omega
 refine⟨by omega,⟨by omega,by omega⟩,_,hb (i / 64) _ (ZlL (by omega)),by omega,Zab rfl ⟨by rw[Zpf];omega,Zag (Mem.le_refl _) ?_⟩⟩
 rw[Zpf,Int.toNat_natCast,Nat.min_eq_left (by omega)]
 show Value.bool (IntKind.u64.wrap _ == 1)=_
 simp only[intOf]
 rw[ZqN _ _ (Zn1 _ _),fU]
theorem Zuc{i:Nat}:IntKind.u64.wrap (1*2 ^ min (Int.toNat (Int.tmod (i:Int) 64)) 64)=((2 ^ (i % 64):Nat):Int):=by
 rw[Zpf,Int.toNat_natCast,Nat.min_eq_left (by omega),Int.one_mul]
 have:=Zuy (2 ^ (i % 64)) (by
  have:2 ^ (i % 64) < 2 ^ 64:=Nat.pow_lt_pow_right (by omega) (by omega)
  exact this)
 rw[←this];push_cast;rfl
theorem Zl1(f i:Nat)(h:i < 448)(b T cap:Nat)(A B:List Value)(m:Mem)(cX:1 < cap):CX Try.prog 116 #[.pointer (some ⟨b,A.length,none⟩),.int .i64 i] m [⟨b,A++bwL f++B,T,cap,false,true⟩]
  (fun v _ css=>v=.tuple #[]∧css=[A++bwL (f|||2 ^ i)++B]):=by
 apply Zil
 unfold ZfD
 have hq:IntKind.i64.wrap (Int.tdiv (i:Int) 64)=((i / 64:Nat):Int):=by rw[Zuz];exact ZaA (by omega) (by omega)
 simp only[hq,Zuc,Int.toNat_natCast,Nat.mul_one]
 have hc:Nat.beq cap 1=false:=Zat (by omega)
 simp only[hc,Bool.false_and,cond_false]
 have bM:2 ^ (i % 64) < 18446744073709551616:=by
  have:2 ^ (i % 64) < 2 ^ 64:=Nat.pow_lt_pow_right (by omega) (by omega)
  exact this
 refine⟨by omega,⟨by omega,by omega⟩,Zan (Zn9 (ZlL (by omega))) ⟨by omega,by rw[Zpf];omega,Zab rfl ⟨⟨by omega,by omega⟩,Zab (by rw[Nat.ble_eq];simp[Zn8];omega) ⟨by trivial,m,Mem.le_refl _,Mem.le_refl _,by trivial,?_⟩⟩⟩⟩
 simp only[intOf]
 rw[ZkE _ _ (Zn1 _ _) bM,ZiL (by rw[Zn8];omega),Zwn (by omega) (by omega),show 64*(i / 64)+i % 64=i by omega]
theorem ZoQ(f g:Nat)(b T cap:Nat)(A B:List Value)(m:Mem)(cX:1 < cap):CX Try.prog 141 #[.pointer (some ⟨b,A.length,none⟩),bwV g] m [⟨b,A++bwL f++B,T,cap,false,true⟩]
  (fun v _ css=>v=.tuple #[]∧css=[A++bwL (f|||g)++B]):=by
 apply Zjj
 unfold Zgc
 intro b1 m1 bJ _
 have hc:Nat.beq cap 1=false:=Zat (by omega)
 refine⟨fun xs css _ m' q=>∃k:Nat,k≤7∧xs=[.int .i64 k]∧css=[A++orB f g k++B]∧q=7 - k,⟨7,0,by omega,rfl,rfl,rfl⟩,?_⟩
 rintro n cs m2 q bP ⟨k,hk,hn,cG,hq⟩
 obtain rfl:n=k:=by simpa using hn
 obtain rfl:cs=A++orB f g k++B:=by simpa using cG
 refine Zaa (fun bM=>?_) (fun cR=>?_)
 ·have bL:k < 7:=by have:=of_decide_eq_true bM;omega
  have h1:=Zs9 (f:=f) (g:=g) (k:=k) bL
  rw[if_neg (by omega)]at h1
  have h2:=ZlL (f:=g) bL
  simp only[Int.toNat_natCast,Nat.zero_add,Nat.mul_one,hc,Bool.false_and,cond_false]
  refine⟨⟨by omega,by omega⟩,Zan (Zn9 h1) ⟨⟨by omega,by omega⟩,Zan h2 (Zab rfl ⟨⟨by omega,by omega⟩,Zab (by rw[Nat.ble_eq];simp[Zn7];omega) ⟨by trivial,7 - (k+1),by omega,k+1,by omega,?_,?_,rfl⟩⟩)⟩⟩
  ·rw[ZaA (by omega) (by omega)];rfl
  ·simp only[intOf]
   rw[ZkE _ _ (Zn1 _ _) (Zn1 _ _),ZiL (by rw[Zn7];omega),ZqT bL]
 ·have:k=7:=by have:=of_decide_eq_false cR;omega
  subst this
  exact⟨rfl,m,Mem.le_refl _,Mem.le_trans bJ bP,rfl,rfl⟩
theorem Zrf(f:Nat)(b o c:Nat)(m:Mem)(hb:m.reads b o (bwL f))(hc:m.reads c 0 [.pointer (some ⟨b,o,none⟩)]):IX Try.prog 145 [] [.pointer (some ⟨c,0,none⟩)] m ((ZcS f).map fun i=>[.int .i64 (i:Nat)]):=by
 apply ZgA 0 [] [] c 0
 unfold ZdW
 intro l
 refine⟨fun xs _ _ m' q=>∃k:Nat,k≤448∧xs=[.int .i64 (((List.range k).filter fun i=>f.testBit i).length:Nat),.int .i64 k]∧m.le m'∧q=448 - k,⟨448,0,by omega,rfl,Mem.le_refl _,rfl⟩,?_⟩
 rintro y n m1 q bJ ⟨k,hk,eG,_,hq⟩
 simp only[List.cons.injEq,Value.int.injEq,true_and,and_true]at eG
 obtain⟨rfl,rfl⟩:=eG
 have cO:((List.range (k+1)).filter fun i=>f.testBit i).length=((List.range k).filter fun i=>f.testBit i).length+(if f.testBit k then 1 else 0):=by
  rw[List.range_succ,List.filter_append,List.length_append];simp[List.filter_cons];split <;> simp
 refine Zaa (fun bM=>?_) (fun cR=>?_)
 ·have bL:k < 448:=by have:=of_decide_eq_true bM;omega
  refine⟨_,bJ _ _ _ (hc 0 _ rfl),Zai (Zti f k (by omega) b o m1 (hb.mono bJ)) fun m2 bP=>Zaa (fun h=>?_) (fun h=>?_)⟩
  ·refine⟨⟨rfl,by omega,?_⟩,⟨448 - (k+1),by omega,k+1,by omega,?_,Mem.le_trans bJ bP,rfl⟩,.inr rfl⟩
   ·rw[Int.toNat_natCast]
    show((ZcS f).map fun i=>[Value.int .i64 (i:Nat)])[((List.range k).filter fun i=>f.testBit i).length]?=_
    rw[List.getElem?_map,ZtU f k bL h];rfl
   ·rw[cO,if_pos h,ZaA (by omega) (by omega)];rfl
  ·refine⟨448 - (k+1),by omega,k+1,by omega,?_,Mem.le_trans bJ bP,rfl⟩
   rw[cO,if_neg (by simp[h]),ZaA (by omega) (by omega)];rfl
 ·have:k=448:=by have:=of_decide_eq_false cR;omega
  subst this
  left
  simp[ZcS]
theorem Ztj(b o:Nat)(m:Mem):CX Try.prog 111 #[.pointer (some ⟨b,o,none⟩)] m [] (fun v m' _=>∃c,v=.func (.func 145) #[] #[.pointer (some ⟨c,0,none⟩)]∧m'.reads c 0 [.pointer (some ⟨b,o,none⟩)]):=by
 apply Zio
 unfold ZfF
 intro c m1 bJ hc
 exact⟨m1,bJ,Mem.le_refl _,c,rfl,hc⟩
def ZoR(l:List Nat):List Value:=l.map fun i=>.int .i64 (i:Nat)
theorem Zsv(l:List Nat):(ZoR l).length=l.length:=by simp[ZoR]
def SlN(l:List Nat)(v:Value)(m':Mem):Prop:=∃a c,v=.slice a l.length c∧rowRd m' a (ZoR l)∧(l=[]→a=none)
theorem Zsw(f:Nat)(l:List Nat)(g:Nat)(ca:List Value)(m:Mem)(hl:l.length≤1000)(r6:IX Try.prog g [] ca m (l.map fun i=>[.int .i64 (i:Nat)])):CX Try.prog 144 #[.slice none 0 0,.func (.func g) #[] ca.toArray] m [] (fun v m' _=>SlN l v m'):=by
 apply Zcx none 0 0 g [] ca
 unfold ZbB
 intro b
 refine⟨l.map fun i=>[.int .i64 (i:Nat)],r6,fun x hx=>?_,fun xs css tvs m' q=>∃(a:Option Addr)(c:Nat),q≤l.length∧css=[[.slice a q c]]∧tvs=[.slice a q c]∧m.le m'∧rowRd m' a (ZoR (l.take q))∧(q=0→a=none),⟨none,0,Nat.zero_le _,rfl,rfl,Mem.le_refl _,.inl rfl,fun _=>rfl⟩,?_,?_⟩
 ·obtain⟨i,_,rfl⟩:=List.mem_map.1 hx
  rfl
 ·rintro n cs a n1 c m1 q bJ hq ⟨a',c',r7,cG,dF,_,cQ,gt⟩
  obtain rfl:cs=[.slice a' q c']:=by simpa using cG
  obtain⟨rfl,rfl,rfl⟩:a=a'∧n1=q∧c=c':=by simpa using dF
  have hq':l[n1]?.map (fun i=>[Value.int .i64 (i:Nat)])=some [.int .i64 n]:=by rw[←List.getElem?_map];exact hq
  cases p7:l[n1]? with
  | none=>rw[p7]at hq';cases hq'
  | some i=>
   rw[p7]at hq'
   obtain rfl:(i:Int)=n:=by simpa using hq'
   have bM:=(List.getElem?_eq_some_iff.1 p7).1
   refine Zan (v:=.slice a n1 c) rfl fun b1 fS=>Zab rfl ⟨.inl rfl,ZoR (l.take n1),[.int .i64 (i:Nat)],?_,rfl,cQ.mono (Mem.le_add fS _),.inr ⟨b1,0,rfl,fun j v hv=>by rw[Mem.add_same];simpa using hv⟩,by simp[Value.oneCell'],?_,?_,fun a2 c2 m2 bP fZ=>⟨rfl,a2,c2,bM,?_,?_,Mem.le_trans bJ (Mem.le_trans (Mem.le_add fS _) bP),?_,fun h=>by omega⟩⟩
   ·simp only[Zsv,List.length_take,slN];omega
   ·show(n1+1)*8≤_;omega
   ·show n1+1≤_;omega
   ·rfl
   ·rfl
   ·have e:ZoR (l.take (n1+1))=ZoR (l.take n1)++[.int .i64 (i:Nat)]:=by
     rw[List.take_add_one,p7];simp[ZoR]
    rw[e];exact fZ
 ·rintro cs a n1 c m1 bJ ⟨a',c',r7,cG,dF,_,cQ,gt⟩
  obtain rfl:cs=[.slice a' (l.map fun i=>[Value.int .i64 (i:Nat)]).length c']:=by simpa using cG
  refine Zan (v:=.slice a' (l.map fun i=>[Value.int .i64 (i:Nat)]).length c') rfl ⟨m1,bJ,Mem.le_refl _,a',c',by simp,by simpa using cQ,fun h=>gt (by simp[h])⟩
theorem Zqa(l:List Nat)(g:Nat)(ca:List Value)(m:Mem)(hl:l.length≤1000)(r6:IX Try.prog g [] ca m (l.map fun i=>[.int .i64 (i:Nat)])):CX Try.prog 110 #[.func (.func g) #[] ca.toArray] m [] (fun v m' _=>SlN l v m'):=by
 apply Zem g [] ca
 unfold Zcy
 refine Zam (Zsw 0 l g ca m hl r6) (fun v m' _ h=>by obtain⟨a,c,rfl,_⟩:=h;rfl) fun a n c m1 bJ h=>⟨m1,bJ,Mem.le_refl _,h⟩
theorem Zud(f:Nat)(b o:Nat)(m:Mem)(hb:m.reads b o (bwL f)):CX Try.prog 62 #[.pointer (some ⟨b,o,none⟩)] m [] (fun v m' _=>SlN (ZcS f) v m'):=by
 apply Zhq
 unfold Zev
 refine Zam (Ztj b o m) (fun v m' _ h=>by obtain⟨c,rfl,_⟩:=h;rfl) fun g fi ca m1 bJ h=>?_
 obtain⟨c,hv,hc⟩:=h
 simp only[Value.func.injEq,Fn.func.injEq,Array.mk.injEq]at hv
 obtain⟨rfl,rfl,rfl⟩:=hv
 exact Zam (Zqa (ZcS f) _ _ m1 (Nat.le_trans (Zoa f) (by omega)) (Zrf f b o c m1 (hb.mono bJ) hc)) (fun v m' _ h=>by obtain⟨a,c,rfl,_⟩:=h;rfl) fun a n c m2 bP h=>⟨m2,Mem.le_trans bJ bP,Mem.le_refl _,h⟩
end Go.Proofs.Ytplacemlpkhmfaa

