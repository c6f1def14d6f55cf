/- Part of the proof: conditions and contracts of functions of this program. No condition of its own. -/
import Derived.Test.YtplacemlpkhmfaaPVNA
import Derived.Test.YtplacemlpkhmfaaMc
import Derived.Test.YtplacemlpkhmfaaMr
set_option linter.unusedVariables false
set_option linter.unusedSimpArgs false
namespace Go.Proofs.Ytplacemlpkhmfaa
open Go Go.Eng Go.Rx Go.Proofs Go.RowKit
set_option maxRecDepth 100000
theorem Zt3(i:Nat):Int.tdiv (i:Int) 64=((i / 64:Nat):Int):=rfl
theorem Zrc(i:Nat):Int.tmod (i:Int) 64=((i % 64:Nat):Int):=rfl
theorem Zr0(f i:Nat)(h:i < 448)(b o:Nat)(m:Mem)(hb:m.reads b o (bwL f)):CX Try.prog 115 #[.pointer (some ⟨b,o,none⟩),.int .i64 i] m [] (Ret (.bool (f.testBit i))):=by
 apply Zhw
 unfold Zex
 have hq:IntKind.i64.wrap (Int.tdiv (i:Int) 64)=((i / 64:Nat):Int):=by rw[Zt3];exact Zau (by omega) (by omega)
 simp only[hq,Int.toNat_natCast,Nat.mul_one]
 have ij:(wdN f (i / 64)).testBit (i % 64)=f.testBit i:=by
  rw[ZpG,show 64*(i / 64)+i % 64=i by omega];simp;omega
 refine⟨by omega,⟨by omega,by omega⟩,_,hb (i / 64) _ (Zk4 (by omega)),by omega,Zaa rfl ⟨by rw[Zrc];omega,Zad (Mem.le_refl _) ?_⟩⟩
 rw[Zrc,Int.toNat_natCast,Nat.min_eq_left (by omega)]
 show Value.bool (IntKind.u64.wrap _ == 1)=_
 simp only[intOf]
 rw[ZpH _ _ (Znf _ _),ij]
theorem ZsN{i:Nat}:IntKind.u64.wrap (1*2 ^ min (Int.toNat (Int.tmod (i:Int) 64)) 64)=((2 ^ (i % 64):Nat):Int):=by
 rw[Zrc,Int.toNat_natCast,Nat.min_eq_left (by omega),Int.one_mul]
 have:=Zta (2 ^ (i % 64)) (by
  have:2 ^ (i % 64) < 2 ^ 64:=Nat.pow_lt_pow_right (by omega) (by omega)
  exact this)
 rw[←this];push_cast;rfl
theorem Zlg(f i:Nat)(h:i < 448)(b T cap:Nat)(A B:List Value)(m:Mem)(fV:1 < cap):CX Try.prog 116 #[.pointer (some ⟨b,A.length,none⟩),.int .i64 i] m [⟨b,A++bwL f++B,T,cap,false,true⟩]
  (fun v _ css=>v=.tuple #[]∧css=[A++bwL (f|||2 ^ i)++B]):=by
 apply Zhv
 unfold Zew
 have hq:IntKind.i64.wrap (Int.tdiv (i:Int) 64)=((i / 64:Nat):Int):=by rw[Zt3];exact Zau (by omega) (by omega)
 simp only[hq,ZsN,Int.toNat_natCast,Nat.mul_one]
 have hc:Nat.beq cap 1=false:=Zap (by omega)
 simp only[hc,Bool.false_and,cond_false]
 have bV:2 ^ (i % 64) < 18446744073709551616:=by
  have:2 ^ (i % 64) < 2 ^ 64:=Nat.pow_lt_pow_right (by omega) (by omega)
  exact this
 refine⟨by omega,⟨by omega,by omega⟩,Zas (Zni (Zk4 (by omega))) ⟨by omega,by rw[Zrc];omega,Zaa rfl ⟨⟨by omega,by omega⟩,Zaa (by rw[Nat.ble_eq];simp[Znh];omega) ⟨by trivial,m,Mem.le_refl _,Mem.le_refl _,by trivial,?_⟩⟩⟩⟩
 simp only[intOf]
 rw[Zmd _ _ (Znf _ _) bV,Zh2 (by rw[Znh];omega),Zu3 (by omega) (by omega),show 64*(i / 64)+i % 64=i by omega]
theorem ZnL(f g:Nat)(b T cap:Nat)(A B:List Value)(m:Mem)(fV:1 < cap):CX Try.prog 141 #[.pointer (some ⟨b,A.length,none⟩),bwV g] m [⟨b,A++bwL f++B,T,cap,false,true⟩]
  (fun v _ css=>v=.tuple #[]∧css=[A++bwL (f|||g)++B]):=by
 apply Ziz
 unfold Zfj
 intro b1 m1 bD _
 have hc:Nat.beq cap 1=false:=Zap (by omega)
 refine⟨fun xs css _ m' q=>∃k:Nat,k≤7∧xs=[.int .i64 k]∧css=[A++orB f g k++B]∧q=7 - k,⟨7,0,by omega,rfl,rfl,rfl⟩,?_⟩
 rintro n cs m2 q bZ ⟨k,hk,hn,cF,hq⟩
 obtain rfl:n=k:=by simpa using hn
 obtain rfl:cs=A++orB f g k++B:=by simpa using cF
 refine Zab (fun bV=>?_) (fun cK=>?_)
 ·have bF:k < 7:=by have:=of_decide_eq_true bV;omega
  have h1:=ZrV (f:=f) (g:=g) (k:=k) bF
  rw[if_neg (by omega)]at h1
  have h2:=Zk4 (f:=g) bF
  simp only[Int.toNat_natCast,Nat.zero_add,Nat.mul_one,hc,Bool.false_and,cond_false]
  refine⟨⟨by omega,by omega⟩,Zas (Zni h1) ⟨⟨by omega,by omega⟩,Zas h2 (Zaa rfl ⟨⟨by omega,by omega⟩,Zaa (by rw[Nat.ble_eq];simp[Zng];omega) ⟨by trivial,7 - (k+1),by omega,k+1,by omega,?_,?_,rfl⟩⟩)⟩⟩
  ·rw[Zau (by omega) (by omega)];rfl
  ·simp only[intOf]
   rw[Zmd _ _ (Znf _ _) (Znf _ _),Zh2 (by rw[Zng];omega),ZpN bF]
 ·have:k=7:=by have:=of_decide_eq_false cK;omega
  subst this
  exact⟨rfl,m,Mem.le_refl _,Mem.le_trans bD bZ,rfl,rfl⟩
theorem ZpW(f:Nat)(b o c:Nat)(m:Mem)(hb:m.reads b o (bwL f))(hc:m.reads c 0 [.pointer (some ⟨b,o,none⟩)]):IX Try.prog 145 [] [.pointer (some ⟨c,0,none⟩)] m ((Zcf f).map fun i=>[.int .i64 (i:Nat)]):=by
 apply ZfQ 0 [] [] c 0
 unfold Zdg
 intro l
 refine⟨fun xs _ _ m' q=>∃k:Nat,k≤448∧xs=[.int .i64 (((List.range k).filter fun i=>f.testBit i).length:Nat),.int .i64 k]∧m.le m'∧q=448 - k,⟨448,0,by omega,rfl,Mem.le_refl _,rfl⟩,?_⟩
 rintro y n m1 q bD ⟨k,hk,jf,_,hq⟩
 simp only[List.cons.injEq,Value.int.injEq,true_and,and_true]at jf
 obtain⟨rfl,rfl⟩:=jf
 have eL:((List.range (k+1)).filter fun i=>f.testBit i).length=((List.range k).filter fun i=>f.testBit i).length+(if f.testBit k then 1 else 0):=by
  rw[List.range_succ,List.filter_append,List.length_append];simp[List.filter_cons];split <;> simp
 refine Zab (fun bV=>?_) (fun cK=>?_)
 ·have bF:k < 448:=by have:=of_decide_eq_true bV;omega
  refine⟨_,bD _ _ _ (hc 0 _ rfl),Zah (Zr0 f k (by omega) b o m1 (hb.mono bD)) fun m2 bZ=>Zab (fun h=>?_) (fun h=>?_)⟩
  ·refine⟨⟨rfl,by omega,?_⟩,⟨448 - (k+1),by omega,k+1,by omega,?_,Mem.le_trans bD bZ,rfl⟩,.inr rfl⟩
   ·rw[Int.toNat_natCast]
    show((Zcf f).map fun i=>[Value.int .i64 (i:Nat)])[((List.range k).filter fun i=>f.testBit i).length]?=_
    rw[List.getElem?_map,ZsB f k bF h];rfl
   ·rw[eL,if_pos h,Zau (by omega) (by omega)];rfl
  ·refine⟨448 - (k+1),by omega,k+1,by omega,?_,Mem.le_trans bD bZ,rfl⟩
   rw[eL,if_neg (by simp[h]),Zau (by omega) (by omega)];rfl
 ·have:k=448:=by have:=of_decide_eq_false cK;omega
  subst this
  left
  simp[Zcf]
theorem Zr1(b o:Nat)(m:Mem):CX Try.prog 111 #[.pointer (some ⟨b,o,none⟩)] m [] (fun v m' _=>∃c,v=.func (.func 145) #[] #[.pointer (some ⟨c,0,none⟩)]∧m'.reads c 0 [.pointer (some ⟨b,o,none⟩)]):=by
 apply Zhy
 unfold Zey
 intro c m1 bD hc
 exact⟨m1,bD,Mem.le_refl _,c,rfl,hc⟩
def ZbX(l:List Nat):List Value:=l.map fun i=>.int .i64 (i:Nat)
theorem ZhA(l:List Nat):(ZbX l).length=l.length:=by simp[ZbX]
def SlN(l:List Nat)(v:Value)(m':Mem):Prop:=∃a c,v=.slice a l.length c∧rowRd m' a (ZbX l)∧(l=[]→a=none)
theorem Zo4(l:List Nat)(g:Nat)(ca:List Value)(m:Mem)(hl:l.length≤1000)(rF:IX Try.prog g [] ca m (l.map fun i=>[.int .i64 (i:Nat)])):CXT Try.prog 144 #[.slice none 0 0,.func (.func g) #[] ca.toArray] m 1 (fun v m' _=>SlN l v m'):=by
 apply ZbY none 0 0 g [] ca
 unfold Zbl
 intro b
 refine⟨l.map fun i=>[.int .i64 (i:Nat)],rF,fun x hx=>?_,fun xs css tvs m' q=>∃(a:Option Addr)(c:Nat),q≤l.length∧css=[[.slice a q c]]∧tvs=[.slice a q c]∧m.le m'∧rowRd m' a (ZbX (l.take q))∧(q=0→a=none),⟨none,0,Nat.zero_le _,rfl,rfl,Mem.le_refl _,.inl rfl,fun _=>rfl⟩,?_,?_⟩
 ·obtain⟨i,_,rfl⟩:=List.mem_map.1 hx
  rfl
 ·rintro n cs a n1 c m1 q bD hq ⟨a',c',rG,cF,dB,_,cO,fN⟩
  obtain rfl:cs=[.slice a' q c']:=by simpa using cF
  obtain⟨rfl,rfl,rfl⟩:a=a'∧n1=q∧c=c':=by simpa using dB
  have hq':l[n1]?.map (fun i=>[Value.int .i64 (i:Nat)])=some [.int .i64 n]:=by rw[←List.getElem?_map];exact hq
  cases pV:l[n1]? with
  | none=>rw[pV]at hq';cases hq'
  | some i=>
   rw[pV]at hq'
   obtain rfl:(i:Int)=n:=by simpa using hq'
   have bV:=(List.getElem?_eq_some_iff.1 pV).1
   refine Zas (v:=.slice a n1 c) rfl fun b1 eI=>Zaa rfl ⟨.inl rfl,ZbX (l.take n1),[.int .i64 (i:Nat)],?_,rfl,cO.mono (Mem.le_add eI _),.inr ⟨b1,0,rfl,fun j v hv=>by rw[Mem.add_same];simpa using hv⟩,by simp[Value.oneCell'],?_,?_,fun a2 c2 m2 bZ gB=>⟨rfl,a2,c2,bV,?_,?_,Mem.le_trans bD (Mem.le_trans (Mem.le_add eI _) bZ),?_,fun h=>by omega⟩⟩
   ·simp only[ZhA,List.length_take,slN];omega
   ·show(n1+1)*8≤_;omega
   ·show n1+1≤_;omega
   ·rfl
   ·rfl
   ·have e:ZbX (l.take (n1+1))=ZbX (l.take n1)++[.int .i64 (i:Nat)]:=by
     rw[List.take_add_one,pV];simp[ZbX]
    rw[e];exact gB
 ·rintro cs a n1 c m1 bD ⟨a',c',rG,cF,dB,_,cO,fN⟩
  obtain rfl:cs=[.slice a' (l.map fun i=>[Value.int .i64 (i:Nat)]).length c']:=by simpa using cF
  obtain⟨rfl,rfl,rfl⟩:a=a'∧n1=(l.map fun i=>[Value.int .i64 (i:Nat)]).length∧c=c':=by simpa using dB
  refine Zas (v:=.slice a (l.map fun i=>[Value.int .i64 (i:Nat)]).length c) rfl ⟨rfl,a,c,by simp,by simpa using cO,fun h=>fN (by simp[h])⟩
def NewS(m:Mem)(v:Value):Prop:=∀b o,slA v=some ⟨b,o,none⟩→m.free b
theorem Zmj{m m':Mem}{esz:Nat}{v:Value}(h:ZtJ m m' esz v):NewS m v:=fun b' o' e'=>by
 rcases h with e|⟨b,o,n,c2,e,hH,hf,hq⟩
 ·rw[e]at e';simp[slA]at e'
 ·rw[e]at e';simp[slA]at e';exact e'.1 ▸ hf
theorem NewS.less{m m0:Mem}{v:Value}(h:NewS m v)(k:m0.le m):NewS m0 v:=fun b o e x=>by
 cases he:m0 b x with
 | none=>rfl
 | some u=>have:=k _ _ _ he;rw[h b o e x]at this;cases this
theorem SlN.mono{l:List Nat}{v:Value}{m m':Mem}(h:SlN l v m)(k:m.le m'):SlN l v m':=by
 obtain⟨a,c,e,h1,h2⟩:=h
 exact⟨a,c,e,h1.mono k,h2⟩
theorem ZnM(l:List Nat)(g:Nat)(ca:List Value)(m:Mem)(hl:l.length≤1000)(rF:IX Try.prog g [] ca m (l.map fun i=>[.int .i64 (i:Nat)])):CX Try.prog 110 #[.func (.func g) #[] ca.toArray] m [] (fun v m' _=>SlN l v m'∧NewS m v):=by
 apply Zdz g [] ca
 unfold Zb3
 refine Zat ((Zo4 l g ca m hl rF).room.mono (R':=fun v m' _=>SlN l v m'∧NewS m v) fun v m' css cQ ⟨m1,h0,h1,hS,hr⟩=>⟨hS.mono h1,Zmj hr⟩) (fun v m' _ h=>by obtain⟨⟨a,c,rfl,_⟩,_⟩:=h;rfl) fun a n c m1 bD h=>⟨m1,bD,Mem.le_refl _,h⟩
theorem ZnN(f:Nat)(b o:Nat)(m:Mem)(hb:m.reads b o (bwL f)):CX Try.prog 62 #[.pointer (some ⟨b,o,none⟩)] m [] (fun v m' _=>SlN (Zcf f) v m'∧NewS m v):=by
 apply ZgD
 unfold ZdK
 refine Zat (Zr1 b o m) (fun v m' _ h=>by obtain⟨c,rfl,_⟩:=h;rfl) fun g fi ca m1 bD h=>?_
 obtain⟨c,hv,hc⟩:=h
 simp only[Value.func.injEq,Fn.func.injEq,Array.mk.injEq]at hv
 obtain⟨rfl,rfl,rfl⟩:=hv
 exact Zat (ZnM (Zcf f) _ _ m1 (Nat.le_trans (Znj f) (by omega)) (ZpW f b o c m1 (hb.mono bD) hc)) (fun v m' _ h=>by obtain⟨⟨a,c,rfl,_⟩,_⟩:=h;rfl) fun a n c m2 bZ h=>⟨m2,Mem.le_trans bD bZ,Mem.le_refl _,h.1,h.2.less bD⟩
theorem ZsO(f:Nat)(b o:Nat)(m:Mem)(hb:m.reads b o (bwL f)):CX Try.prog 62 #[.pointer (some ⟨b,o,none⟩)] m [] (fun v m' _=>SlN (Zcf f) v m'):=(ZnN f b o m hb).mono fun _ _ _ _ h=>h.1
end Go.Proofs.Ytplacemlpkhmfaa

