/- Part of the proof: functions of the program. No condition. -/
import Derived.Test.YtpjepnkiiojgfaaGreatPC25AU
import Derived.Test.YtpjepnkiiojgfaaGreatPC40M
import Derived.Test.YtpjepnkiiojgfaaGreatPC25E
import Derived.Test.YtpjepnkiiojgfaaGreatPC25MA
import Derived.Test.YtpjepnkiiojgfaaGreatMr
import Derived.Test.YtpjepnkiiojgfaaGreatPEnv
set_option linter.unusedVariables false
set_option linter.unusedSimpArgs false
set_option linter.unusedSectionVars false
noncomputable section
namespace Go.Proofs.YtpjepnkiiojgfaaGreat
open Go Go.Eng Go.Rx Go.Proofs Go.RowKit
set_option maxRecDepth 100000
theorem NmSt.up{m mm mL:Mem}{v0:Value}{a:Option Addr}{c:Nat}{l:List ByteArray}(h:NmSt m v0 mm a c l)(bU:mm.le mL):NmSt m v0 mL a c l:=⟨h.row.mono bU,mLt h.base (ZjZ bU),h.new⟩
theorem Zut{a:Option Addr}{n c b:Nat}(h:Yn (.slice a n c) b):∃o e,a=some ⟨b,o,e⟩:=by
 cases a with
 | none=>simp[Yn,Tok.blk]at h
 | some q=>
  obtain⟨b',o,e⟩:=q
  obtain rfl:b'=b:=by simpa[Yn,Tok.blk]using h
  exact⟨o,e,rfl⟩
structure Nl (l:List ByteArray)(a:Option Addr)(c:Nat):Prop where
 nil:l=[]->a=none
 cap:l.length<=c
def ZnL(l:List ByteArray):Value->Mem->List (List Value)->Prop:=λv m' _=>∃a c,v=.slice a l.length c/\rowRd m' a (Za2 l)/\l.length<=c
theorem Zcv{l}:∀(v:Value)(m':Mem) (css:List (List Value)),ZnL l v m' css->Shape.fits .slice v=true:=λv _ _ ⟨_,_,e,_⟩=>by rw[e];rfl
def Zzg(v0:Value)(m:Mem)(l:List ByteArray):RTY:=λv m' css tvs=>∃a c,v=.tuple #[]/\css=[[.slice a l.length c]]/\tvs=[.slice a l.length c]/\rowRd m' a (Za2 l)/\(∀b,Yn (.slice a l.length c) b->Yn v0 b\/(m.free b/\m.k b=none))/\Nl l a c
theorem Zjf{v0 m l}:∀(v:Value)(m':Mem) (css:List (List Value)) (tvs:List Value),Zzg v0 m l v m' css tvs->Shape.fits (.tup []) v=true:=λv _ _ _ ⟨_,_,h,_⟩=>by rw[h];rfl
theorem ZnM(l out:List ByteArray)(la:Option Addr)(lc:Nat)(a:Option Addr)(c c0b:Nat)(m:Mem)(hl:rowRd (m.off (Yn (.slice a out.length c))) la (Za2 l))(ho:rowRd m a (Za2 out))(dQ:Nl out a c)(hb:out.length+l.length<=100000):
  CXY Tryz.prog 108 #[.slice la l.length lc,.pointer (some ⟨c0b,0,none⟩)] m (Yn (.slice a out.length c)) [⟨c0b,[.slice a out.length c],80,1,false,true⟩] [⟨.slice a out.length c,1⟩] (Zzg (.slice a out.length c) m (l.foldl ZcO out)):=by
 apply Zhu
 refine⟨λxs css tvs mm q=>∃(i:Nat)(a':Option Addr)(c':Nat),i<=l.length/\xs=[.int .i64 i]/\css=[[.slice a' ((l.take i).foldl ZcO out).length c']]/\tvs=[.slice none 0 0,.slice a' ((l.take i).foldl ZcO out).length c']/\NmSt m (.slice a out.length c) mm a' c' ((l.take i).foldl ZcO out)/\Nl ((l.take i).foldl ZcO out) a' c'/\q=l.length - i,
  ⟨_,0,a,c,by omega,rfl,rfl,rfl,⟨ho,Mem.le_refl _,λb h=>.inl h⟩,dQ,rfl⟩,?_⟩
 rintro z cs a1 n1 c1 a2 n2 c2 mm q _ ⟨i,a',c',hi,hz,bL,cG,hS,hn,rfl⟩
 obtain rfl:z=i:=by simpa using hz
 simp only[List.cons.injEq,Value.slice.injEq,and_true]at bL cG
 obtain⟨⟨rfl,rfl,rfl⟩,rfl,rfl,rfl⟩:=cG
 subst bL
 have aH:=ZlG (l.take i) out
 rw[List.length_take]at aH
 have iK:IntKind.i64.wrap ((i:Int)+1)=((i+1:Nat):Int):=by rw[Zak (by omega) (by omega)];rfl
 refine ZaE (λaC=>?_) (λbG=>⟨rfl,?_⟩)
 ·have aC:(i:Int) < (l.length:Nat):=aC
  obtain⟨s,hs⟩:=Zdh (show i < l.length by omega)
  have cA:=ZeT ZcO out hs
  obtain⟨b,o,ha,hv⟩:=ZxK (hl.mono (mLt hS.base (Mem.off_le _ _))) (show(Za2 l)[i]?=some (.string s) by unfold Za2;rw[List.getElem?_map,hs];rfl)
  refine⟨b,o,ha,⟨by omega,aC⟩,_,hv,Zaj rfl (Zai (Zbx ((l.take i).foldl ZcO out) a2 c2 s mm (by omega) hS.row) λm2 aJ=>?_)⟩
  have uf:=hS.up aJ
  refine Zab (λh=>Zaj rfl (Zaa rfl λb3 fu=>Zaa rfl ?_)) (λh=>⟨rfl,rfl,?_⟩)
  ·have ie:((l.take i).foldl ZcO out).any (λy=>eqS s y)=false:=by simpa using h
   have dO:ZcO ((l.take i).foldl ZcO out) s=(l.take i).foldl ZcO out++[s]:=ZtP ie
   rw[dO]at cA
   have bU:m2.le (m2.add b3 [.string s]):=Mem.le_add fu _
   have ug:=uf.up bU
   refine⟨.inl rfl,Za2 ((l.take i).foldl ZcO out),[.string s],by rw[ZdY];exact(Nat.mul_one _).symm,rfl,ug.row,.inr ⟨b3,0,rfl,Zc6 m2 b3 _⟩,λu hu=>?_,by show(((l.take i).foldl ZcO out).length+1)*16<=_;omega,by show((l.take i).foldl ZcO out).length+1<=_;omega,λa5 c5 m5 cF bI hT=>⟨rfl,rfl,l.length - (i+1),by omega,i+1,a5,c5,by omega,by rw[iK],?_,?_,?_,?_,rfl⟩⟩
   ·obtain rfl:u=.string s:=by simpa using hu
    rfl
   ·rw[cA,zA1];rfl
   ·rw[cA,zA1];rfl
   ·have e:((l.take i).foldl ZcO out++[s]).length=((l.take i).foldl ZcO out).length+1:=by rw[zA1];rfl
    rw[cA]
    refine ug.step (mLt (Mem.off_le _ _) cF) (by unfold Za2 at bI ⊢;rw[List.map_append];exact bI) λb' hb'=>?_
    obtain⟨oo,oe,hb'⟩:=Zut hb'
    rcases hT.2 with h|⟨b6,o6,ha',h⟩
    ·rw[h]at hb';cases hb'
    ·rw[ha']at hb';cases hb'
     rcases h with h|⟨_,h2,h3⟩
     ·left
      have h:a2=a5:=h
      rw[h,ha'];simp[Yn,Tok.blk]
     ·exact .inr ⟨h2,h3⟩
   ·rw[cA];exact⟨λe=>by simp at e,by rw[zA1];exact hT.1⟩
  ·have ie:((l.take i).foldl ZcO out).any (λy=>eqS s y)=true:=by simpa using h
   have dO:ZcO ((l.take i).foldl ZcO out) s=(l.take i).foldl ZcO out:=ZtQ ie
   rw[dO]at cA
   exact⟨l.length - (i+1),by omega,i+1,a2,c2,by omega,by rw[iK],by rw[cA],by rw[cA],by rw[cA];exact uf,by rw[cA];exact hn,rfl⟩
 ·have bG:¬(i:Int) < (l.length:Nat):=bG
  have hi:i=l.length:=by omega
  subst hi
  rw[List.take_length]at hS hn ⊢
  exact⟨a2,c2,rfl,rfl,rfl,hS.row,hS.new,hn⟩
def Zyn(r:Ru):Value->Mem->List (List Value)->Prop:=λv m' _=>∃s:Sc,v=s.v/\RepC m' s/\s.light=ZbU r/\Zd0 s=r.acts
theorem ZeZ{r:Ru}:∀(v:Value)(m':Mem) (css:List (List Value)),Zyn r v m' css->Shape.fits (.agg [.int .i64,.slice,.slice]) v=true:=λv _ _ ⟨t,e,_⟩=>by rw[e];rfl
theorem ZrS(r:Ru)(m:Mem)(hr:RepR m r):CX Tryz.prog 75 #[.agg r.cs.toArray] m [] (Zyn r):=by
 apply ZnI
 intro b m1 aG _ b1 b2 lp b3 fu
 have h2:m1.le (m1.add b2 r.cs):=Mem.le_add lp _
 have h3:(m1.add b2 r.cs).le ((m1.add b2 r.cs).add b3 [.string ⟨#[]⟩,.slice (some ⟨b2,0,none⟩) 1 1]):=Mem.le_add fu _
 have oZ:=mLt aG (mLt h2 h3)
 refine⟨_,oZ,Mem.le_refl _,⟨0,none,0,[],some ⟨b3,0,none⟩,1,[⟨⟨#[]⟩,some ⟨b2,0,none⟩,1,[r]⟩]⟩,rfl,⟨by show I64 0;unfold I64;omega,by show 0<=few;omega,.inl rfl,by simp,by show 1<=few;unfold few;omega,ZaU,λx hx=>?_,Nat.le_refl _,Nat.le_refl _⟩,?_,?_⟩
 ·simp only[List.mem_singleton]at hx
  subst hx
  have aB:rowRd (m1.add b2 r.cs) (some ⟨b2,0,none⟩) ([r].map Ru.cs).flatten:=by simpa using(ZaU (m:=m1) (b:=b2) (cs:=r.cs))
  exact⟨by show(ByteArray.mk #[]).size<=_;decide,by show 1<=few;unfold few;omega,aB.mono h3,λp hp=>by
   simp only[List.mem_singleton]at hp;subst hp;exact hr.mono oZ⟩
 ·unfold Sc.light Sc.weight ZbU
  simp only[List.length_nil,List.length_singleton,List.map_cons,List.map_nil,ZaR,wS]
  congr 1
  refine propext ?_
  constructor <;> intro h <;> simp only[Int.add_zero]at h ⊢ <;> omega
 ·simp[Zd0,Zm1]
theorem Zql(e:E){M0 mm:Mem}{v0:Value}{a:Option Addr}{c:Nat}{o:List ByteArray}(hS:NmSt M0 v0 mm a c o)(hn:Nl o a c)(he:RepE (M0.off (Yn v0)) e):
  CX Tryz.prog 109 #[e.v] mm [] (λv m' _=>∃a1 c1,v=.slice a1 e.vars.length c1/\∃m1:Mem,m1.le m'/\rowRd (m1.off (Yn (.slice a o.length c))) a1 (Za2 e.vars)):=by
 refine((Zui e (mm.off (Yn (.slice a o.length c))) (RepE.mono' he hS.base)).frame2 (Mem.off_le _ _)).mono ?_
 rintro v m' css _ ⟨m1,h1,h2,h3,a1,c1,hv,aB⟩
 refine⟨a1,c1,hv,m1,h2,?_⟩
 rcases aB with h|⟨b,oo,ha,h⟩
 ·exact .inl h
 ·refine .inr ⟨b,oo,ha,λj u hj=>?_⟩
  by_cases hY:Yn (.slice a o.length c) b
  ·exfalso
   obtain⟨o2,e2,fX⟩:=Zut hY
   have ho:o≠[]:=λe=>by rw[hn.nil e]at fX;cases fX
   rcases hS.row with h4|⟨b4,o4,kA,h4⟩
   ·have:=congrArg List.length h4
    rw[ZdY]at this
    exact ho (List.eq_nil_of_length_eq_zero (by simpa using this))
   ·rw[fX]at kA;cases kA
    have aC:0 < (Za2 o).length:=by rw[ZdY];exact List.length_pos_iff.2 ho
    have h5:=h3 _ _ _ (h4 0 _ (zA3 aC)) (oo+j)
    have h6:(mm.off (Yn (.slice a o.length c))) b (oo+j)=none:=Mem.off_free hY _
    rw[h6]at h5
    have h7:=h j u hj
    rw[h5]at h7;cases h7
  ·rw[Mem.off_at hY];exact h j u hj
theorem Zy0(m:Mem):NmSt m (.slice none 0 0) m none 0 []:=⟨.inl rfl,Mem.le_refl _,λb h=>.inl h⟩
theorem NmSt.put{M0 mm m':Mem}{v0:Value}{a a':Option Addr}{c c':Nat}{o l:List ByteArray}(h:NmSt M0 v0 mm a c o)(bU:(mm.off (Yn (.slice a o.length c))).le m')(hr:rowRd m' a' (Za2 l))(hn:∀b,Yn (.slice a' l.length c') b->Yn (.slice a o.length c) b\/(mm.free b/\mm.k b=none)):NmSt M0 v0 m' a' c' l:=h.step bU hr hn
theorem NmSt.low{m mm:Mem}{a:Option Addr}{c:Nat}{l:List ByteArray}(h:NmSt m (.slice none 0 0) mm a c l):m.le mm:=by
 have hY:∀b,¬Yn (.slice none 0 0) b:=λb hb=>by simp[Yn,Tok.blk]at hb
 have fV:m.le (m.off (Yn (.slice none 0 0))):=⟨λb o v hv=>by rw[Mem.off_at (hY b)];exact hv,λb e he=>by rw[Mem.off_k (hY b)];exact he⟩
 exact mLt fV (mLt h.base (Mem.off_le _ _))
theorem Zs1(m:Mem):m.le (m.off (Yn (.slice none 0 0))):=ZmT (Mem.le_refl m) λb hb=>by simp[Yn,Tok.blk]at hb
theorem Zwh{M0 mm:Mem}{v0:Value}{a:Option Addr}{c b:Nat}{o:List ByteArray}(hS:NmSt M0 v0 mm a c o)(hn:Nl o a c)(hf:mm.free b):¬Yn (.slice a o.length c) b:=λhY=>by
 obtain⟨o2,e2,fX⟩:=Zut hY
 have ho:o≠[]:=λe=>by rw[hn.nil e]at fX;cases fX
 rcases hS.row with h4|⟨b4,o4,kA,h4⟩
 ·have:=congrArg List.length h4
  rw[ZdY]at this
  exact ho (List.eq_nil_of_length_eq_zero (by simpa using this))
 ·rw[fX]at kA;cases kA
  have aC:0 < (Za2 o).length:=by rw[ZdY];exact List.length_pos_iff.2 ho
  have:=h4 0 _ (zA3 aC)
  rw[hf]at this;cases this
theorem ZnN{cs:List Value}{a7:Option Addr}{c7 d7:Nat}{v0:Value}{m m7:Mem}{l:List ByteArray}{v:Value}(h:Zzg v0 m l v m7 [cs] [.slice a7 c7 d7]):c7=l.length/\cs=[.slice a7 l.length d7]/\rowRd m7 a7 (Za2 l)/\(∀b,Yn (.slice a7 l.length d7) b->Yn v0 b\/(m.free b/\m.k b=none))/\Nl l a7 d7:=by
 obtain⟨a8,c8,_,bL,cG,aB,bJ,dQ⟩:=h
 simp only[List.cons.injEq,Value.slice.injEq,and_true]at bL cG
 obtain⟨rfl,rfl,rfl⟩:=cG
 exact⟨rfl,bL,aB,bJ,dQ⟩
theorem Zs2(r:Ru)(w:Bool)(m:Mem)(hr:RepR m r):CX Tryz.prog 74 #[.agg r.cs.toArray,.bool w] m [] (ZnL (ZaX w r)):=by
 have nB:r.acts.length<=100000:=hr.len
 apply ZnD
 intro b m1 aG jF fL _ b1 m2 aJ _ _ _
 have cV:=mLt aG aJ
 refine⟨_,trivial,ZrS r m2 (hr.mono cV),ZeZ,?_⟩
 rintro n a n1 c a1 n2 c1 m3 aQ ⟨s,hv,hs,eG,oD⟩
 rw[hv]
 have dH:=mLt cV aQ
 refine Zai (Zce s m3 hs) λm4 bZ=>Zab (λh=>Zaf (mLt dH bZ) ?_) (λh=>?_)
 ·have hl:ZbU r=false:=by rw[<-eG];simpa using h
  unfold ZaX
  rw[hl]
  exact⟨none,0,rfl,.inl rfl,Nat.le_refl _⟩
 have hl:ZbU r=true:=by rw[<-eG];simpa using h
 have gi:=mLt dH bZ
 intro b3 b4
 refine⟨_,trivial,ZrS r m4 (hr.mono gi),ZeZ,?_⟩
 rintro n' a' n1' c' a1' n2' c1' m5 cF ⟨s',hv',hs',sD,mR⟩
 rw[hv']
 have jE:=mLt gi cF
 refine Zan (Zg0 s' m5) (λv m' css h=>by obtain⟨_,rfl,_⟩:=h;rfl) ?_
 rintro g fi ca m6 eo ⟨b5,eY,sE⟩
 obtain⟨rfl,rfl,rfl⟩:=Zch eY
 have fy:=mLt jE eo
 have pb:=Zfv s' m6 b5 (hs'.mono eo) sE
 rw[mR]at pb
 have sF:=hr.mono fy
 refine⟨m6,Mem.le_refl _,_,pb,λy hy=>?_,λ_ css tvs mm q=>∃(a:Option Addr)(c:Nat),q<=r.acts.length/\css=[[.slice a ((r.acts.take q).foldl (Zev w) []).length c]]/\tvs=[.slice a ((r.acts.take q).foldl (Zev w) []).length c]/\NmSt m6 (.slice none 0 0) mm a c ((r.acts.take q).foldl (Zev w) [])/\Nl ((r.acts.take q).foldl (Zev w) []) a c,⟨none,0,by omega,rfl,rfl,Zy0 m6,⟨λ_=>rfl,Nat.le_refl _⟩⟩,?_,?_⟩
 ·obtain⟨z,_,rfl⟩:=List.mem_map.1 hy;rfl
 ·rintro k0 s0 pa pn pc k1 x1 s1 g1 sa sn sc cs ta tn tc mm q i9 hq ⟨a',c',gF,bL,cG,hS,hn⟩ b6
  simp only[List.cons.injEq,Value.slice.injEq,and_true]at bL cG
  obtain⟨rfl,rfl,rfl⟩:=cG
  subst bL
  have hq':(List.map (λa:Ac=>[Value.agg a.cs.toArray]) r.acts)[(q:Nat)]?=some [Value.agg #[.int .u8 k0,.string s0,.slice pa pn pc,.int .u8 k1,x1,.string s1,.int .i64 g1,.slice sa sn sc]]:=hq
  rw[List.getElem?_map]at hq'
  obtain⟨x,hx,pf⟩:=Option.map_eq_some_iff.1 hq'
  have nt:=(zA0 hx).1
  simp only[Ac.cs,List.cons.injEq,Value.agg.injEq,Array.mk.injEq,Value.int.injEq,Value.string.injEq,Value.slice.injEq,true_and,and_true]at pf
  obtain⟨rfl,rfl,⟨rfl,rfl,rfl⟩,rfl,rfl,rfl,rfl,rfl,rfl,rfl⟩:=pf
  have cA:=ZeT (Zev w) [] hx
  have wG:=ZvN w hl q hx
  have cY:=sF.all x (zA2 hx)
  have xE:=Zrb x
  have iB:x.parts.length<=100000:=cY.n
  obtain⟨o,ho⟩:∃o,o=(r.acts.take q).foldl (Zev w) []:=⟨_,rfl⟩
  rw[<-ho]at hS hn cA wG ⊢
  have iL:Zev w o x=o->NmSt m6 (.slice none 0 0) mm ta tc o/\((r.acts.take (q+1)).foldl (Zev w) []=o):=λh=>⟨hS,by rw[cA,h]⟩
  refine Zaa rfl ?_
  cases w with
  | true=>
   refine ZrF rfl ⟨x.k == 2||x.k == 3,Zab (λh=>⟨rfl,rfl,by rw[h];rfl⟩) (λh=>⟨rfl,rfl,by rw[h];rfl⟩),Zab (λh b7 lz=>?_) (λh=>?_)⟩
   ·have hu:Zev true o x=ZcO o x.s:=by
     unfold Zev;rw[if_pos rfl,if_pos (by simpa using h)]
    have qd:=hS.up (Mem.le_add lz [.string x.s])
    have sG:=Zwh hS hn lz
    refine⟨_,_,ZnM [x.s] o (some ⟨b7,0,none⟩) 1 ta tc b3 (mm.add b7 [.string x.s]) ?_ qd.row hn (by simp;omega),λt ht bb dS=>?_,λbb dS=>.inl ⟨_,by simp,dS⟩,Zjf,?_⟩
    ·refine .inr ⟨b7,0,rfl,λj v hj=>?_⟩
     rw[Mem.off_at sG]
     exact Zc6 mm b7 _ j v hj
    ·obtain rfl:t=_:=by simpa using ht
     exact dS
    ·rintro m7 eT _ cs7 a7 c7 d7 hp
     obtain⟨rfl,rfl,aB,bJ,dQ⟩:=ZnN hp
     have hS':=qd.step eT aB bJ
     rw[show[x.s].foldl ZcO o=ZcO o x.s from rfl,<-hu,<-cA]at hS' dQ ⊢
     exact⟨hS'.low,rfl,a7,d7,by omega,rfl,rfl,hS',dQ⟩
   ·have hu:Zev true o x=o:=by
     unfold Zev;rw[if_pos rfl,if_neg (by simpa using h)]
    have:=iL hu
    exact⟨i9,rfl,ta,tc,by omega,by rw[this.2],by rw[this.2],by rw[this.2];exact hS,by rw[this.2];exact hn⟩
  | false=>
   have hu:Zev false o x=x.parts.foldl Zcs (Zb8 o x):=by unfold Zev;rw[if_neg (by decide)]
   have gY:=ZpT x.e
   refine Zp3 rfl ⟨λ_ css tvs mm'=>∃(a:Option Addr)(c:Nat),css=[[.slice a (Zb8 o x).length c]]/\tvs=[.slice a (Zb8 o x).length c]/\NmSt m6 (.slice none 0 0) mm' a c (Zb8 o x)/\Nl (Zb8 o x) a c,Zab (λh=>?_) (λh=>?_),?_⟩
   ·have hk:Zb8 o x=x.e.vars.foldl ZcO o:=by unfold Zb8;rw[if_pos (by simpa using h)]
    refine⟨λ_ _ _=>_,_,rfl,Zql x.e hS hn (RepE.mono' cY.e (Zs1 m6)),(λv _ _ ⟨_,_,e,_⟩=>by rw[e];rfl),?_⟩
    rintro a8 n8 c8 m8 eS ⟨a9,c9,iJ,m9,fW,gn⟩ M hM uh
    simp only[Value.slice.injEq]at iJ
    obtain⟨rfl,rfl,rfl⟩:=iJ
    have pg:=hS.up hM
    refine⟨_,_,ZnM x.e.vars o a8 c8 ta tc b3 M (gn.mono (ZjZ (mLt fW uh))) pg.row hn (by omega),λt ht bb dS=>?_,λbb dS=>.inl ⟨_,by simp,dS⟩,Zjf,?_⟩
    ·obtain rfl:t=_:=by simpa using ht
     exact dS
    ·rintro m7 eT _ cs7 a7 c7 d7 hp
     obtain⟨rfl,rfl,aB,bJ,dQ⟩:=ZnN hp
     have hS':=pg.step eT aB bJ
     rw[<-hk]at hS' dQ ⊢
     exact⟨rfl,rfl,a7,d7,rfl,rfl,hS',dQ⟩
   ·have hk:Zb8 o x=o:=by unfold Zb8;rw[if_neg (by simpa using h)]
    exact⟨rfl,rfl,ta,tc,by rw[hk],by rw[hk],by rw[hk];exact hS,by rw[hk];exact hn⟩
   rintro cs ja jn jc m7 _ ⟨a',c',bL,cG,qd,wH⟩
   simp only[List.cons.injEq,Value.slice.injEq,and_true]at bL cG
   obtain⟨rfl,rfl,rfl⟩:=cG
   subst bL
   refine⟨λxs css tvs mm' q=>∃(j:Nat)(a:Option Addr)(c:Nat),j<=x.parts.length/\xs=[.int .i64 j]/\css=[[.slice a ((x.parts.take j).foldl Zcs (Zb8 o x)).length c]]/\tvs=[.slice a ((x.parts.take j).foldl Zcs (Zb8 o x)).length c]/\NmSt m6 (.slice none 0 0) mm' a c ((x.parts.take j).foldl Zcs (Zb8 o x))/\Nl ((x.parts.take j).foldl Zcs (Zb8 o x)) a c/\q=x.parts.length - j,⟨_,0,ja,jc,by omega,rfl,rfl,rfl,qd,wH,rfl⟩,?_⟩
   rintro z cs a1 n1 c1 m8 q2 _ ⟨j,a',c',hj,hz,bL,cG,jY,je,rfl⟩
   obtain rfl:z=j:=by simpa using hz
   simp only[List.cons.injEq,Value.slice.injEq,and_true]at bL cG
   obtain⟨rfl,rfl,rfl⟩:=cG
   subst bL
   have jJ:IntKind.i64.wrap ((j:Int)+1)=((j+1:Nat):Int):=by rw[Zak (by omega) (by omega)];rfl
   have wI:=ZgX o x j
   refine ZaE (λaC=>?_) (λbG=>?_)
   ·have aC:(j:Int) < (x.parts.length:Nat):=aC
    obtain⟨p,hp⟩:=Zdh (show j < x.parts.length by omega)
    have qg:=cY.mono jY.low
    obtain⟨b8,o8,mQ,mS⟩:=Zam Pt.len qg.row hp (by omega)
    have gd:=cY.all p (zA2 hp)
    have fc:=ZeT Zcs (Zb8 o x) hp
    have wJ:=ZgX o x (j+1)
    have sH:=ZpT p.e
    obtain⟨o',ho'⟩:∃o',o'=(x.parts.take j).foldl Zcs (Zb8 o x):=⟨_,rfl⟩
    rw[<-ho']at jY je fc wI ⊢
    refine⟨b8,o8,mQ,⟨by omega,aC⟩,_,_,_,_,_,_,_,_,mS,λb9=>Zaa rfl (Zaa rfl (Zab (λh=>Zaa rfl λb10 gA=>?_) (λh=>Zaa rfl (Zab (λh2=>?_) (λh2=>?_)))))⟩
    ·have h:(p.k == 2)=true:=h
     have hk:Zcs o' p=ZcO o' p.s:=by unfold Zcs;rw[if_pos (by simpa using h)]
     have ph:=jY.up (Mem.le_add gA [.string p.s])
     have sG:=Zwh jY je gA
     refine⟨_,_,ZnM [p.s] o' (some ⟨b10,0,none⟩) 1 a1 c1 b3 (m8.add b10 [.string p.s]) ?_ ph.row je (by simp;omega),λt ht bb dS=>?_,λbb dS=>.inl ⟨_,by simp,dS⟩,Zjf,?_⟩
     ·refine .inr ⟨b10,0,rfl,λj v hj=>?_⟩
      rw[Mem.off_at sG]
      exact Zc6 m8 b10 _ j v hj
     ·obtain rfl:t=_:=by simpa using ht
      exact dS
     ·rintro m9 fW _ cs9 a9 c9 d9 sI
      obtain⟨rfl,rfl,aB,bJ,dQ⟩:=ZnN sI
      have hS':=ph.step fW aB bJ
      rw[show[p.s].foldl ZcO o'=ZcO o' p.s from rfl,<-hk,<-fc]at hS' dQ ⊢
      exact⟨rfl,rfl,x.parts.length - (j+1),by omega,j+1,a9,d9,by omega,by rw[jJ],rfl,rfl,hS',dQ,rfl⟩
    ·have h:(p.k == 2)=false:=h
     have h2:(p.k == 4)=true:=h2
     have hk:Zcs o' p=p.e.vars.foldl ZcO o':=by unfold Zcs;rw[if_neg (by simpa using h),if_pos (by simpa using h2)]
     refine⟨λ_ _ _=>_,_,rfl,Zql p.e jY je (RepE.mono' gd.e (Zs1 m6)),(λv _ _ ⟨_,_,e,_⟩=>by rw[e];rfl),?_⟩
     rintro a10 n10 c10 m10 fY ⟨a9,c9,iJ,m9,fW,gn⟩ M hM kL
     simp only[Value.slice.injEq]at iJ
     obtain⟨rfl,rfl,rfl⟩:=iJ
     have pg:=jY.up hM
     refine⟨_,_,ZnM p.e.vars o' a10 c10 a1 c1 b3 M (gn.mono (ZjZ (mLt fW kL))) pg.row je (by omega),λt ht bb dS=>?_,λbb dS=>.inl ⟨_,by simp,dS⟩,Zjf,?_⟩
     ·obtain rfl:t=_:=by simpa using ht
      exact dS
     ·rintro m11 gS _ cs9 a9 c9 d9 sI
      obtain⟨rfl,rfl,aB,bJ,dQ⟩:=ZnN sI
      have hS':=pg.step gS aB bJ
      rw[<-hk,<-fc]at hS' dQ ⊢
      exact⟨rfl,rfl,x.parts.length - (j+1),by omega,j+1,a9,d9,by omega,by rw[jJ],rfl,rfl,hS',dQ,rfl⟩
    ·have h:(p.k == 2)=false:=h
     have h2:(p.k == 4)=false:=h2
     have hk:Zcs o' p=o':=by unfold Zcs;rw[if_neg (by simpa using h),if_neg (by simpa using h2)]
     rw[hk]at fc
     exact⟨rfl,rfl,x.parts.length - (j+1),by omega,j+1,a1,c1,by omega,by rw[jJ],by rw[fc],by rw[fc],by rw[fc];exact jY,by rw[fc];exact je,rfl⟩
   ·have bG:¬(j:Int) < (x.parts.length:Nat):=bG
    have hj:j=x.parts.length:=by omega
    subst hj
    rw[List.take_length,<-hu,<-cA]at jY je ⊢
    exact⟨jY.low,rfl,a1,c1,by omega,rfl,rfl,jY,je⟩
 ·rintro cs a7 n7 c7 m7 eT ⟨a',c',_,bL,cG,hS,hn⟩
  rw[List.length_map,List.take_length]at bL cG hS hn
  simp only[List.cons.injEq,Value.slice.injEq,and_true]at bL cG
  obtain⟨rfl,rfl,rfl⟩:=cG
  subst bL
  refine Zaj rfl (ZaH (mLt fy eT) ?_)
  unfold ZaX
  rw[hl,if_pos rfl]
  exact⟨a7,c7,rfl,hS.row,hn.cap⟩
theorem Zjg(r:Ru)(m:Mem)(hr:RepR m r):CX Tryz.prog 27 #[.agg r.cs.toArray] m [] (ZnL (ZaX false r)):=by
 apply Zlb
 intro b m0 eD _
 refine Zan (Zs2 r false m0 (hr.mono eD)) Zcv ?_
 rintro a n c m1 aG ⟨a',c',hv,aB,hc⟩
 exact ZaH (mLt eD aG) ⟨a',c',hv,aB,hc⟩
theorem Zg1(r:Ru)(m:Mem)(hr:RepR m r):CX Tryz.prog 28 #[.agg r.cs.toArray] m [] (ZnL (ZaX true r)):=by
 apply Zjc
 intro b m0 eD _
 refine Zan (Zs2 r true m0 (hr.mono eD)) Zcv ?_
 rintro a n c m1 aG ⟨a',c',hv,aB,hc⟩
 exact ZaH (mLt eD aG) ⟨a',c',hv,aB,hc⟩
theorem Zuu(r:Ru)(m:Mem)(hr:RepR m r):CX Tryz.prog 27 #[.agg r.cs.toArray] m [] (Zwf (ZaX false r)):=(Zjg r m hr).mono λ_ _ _ _ ⟨a,c,h1,h2,_⟩=>⟨a,c,h1,h2⟩
theorem ZrT(r:Ru)(m:Mem)(hr:RepR m r):CX Tryz.prog 28 #[.agg r.cs.toArray] m [] (Zwf (ZaX true r)):=(Zg1 r m hr).mono λ_ _ _ _ ⟨a,c,h1,h2,_⟩=>⟨a,c,h1,h2⟩
theorem Zka(r:Ru)(m:Mem)(hr:RepR m r):CX Tryz.prog 30 #[.agg r.cs.toArray] m [] (Ret (.int .i64 (Zgi r))):=by
 have nB:r.acts.length<=100000:=hr.len
 apply ZnF
 intro b m2 cV _
 refine⟨_,trivial,ZrS r m2 (hr.mono cV),ZeZ,?_⟩
 rintro n a n1 c a1 n2 c1 m3 aQ ⟨s,hv,hs,eG,oD⟩
 rw[hv]
 have dH:=mLt cV aQ
 refine Zai (Zce s m3 hs) λm4 bZ=>Zab (λh=>Zaf (mLt dH bZ) ?_) (λh=>?_)
 ·have hl:ZbU r=false:=by rw[<-eG];simpa using h
  show Value.int _ _=Value.int _ _
  unfold Zgi
  rw[hl];rfl
 have hl:ZbU r=true:=by rw[<-eG];simpa using h
 have gi:=mLt dH bZ
 intro b3
 refine⟨_,trivial,ZrS r m4 (hr.mono gi),ZeZ,?_⟩
 rintro n' a' n1' c' a1' n2' c1' m5 cF ⟨s',hv',hs',sD,mR⟩
 rw[hv']
 have jE:=mLt gi cF
 refine Zan (Zg0 s' m5) (λv m' css h=>by obtain⟨_,rfl,_⟩:=h;rfl) ?_
 rintro g fi ca m6 eo ⟨b5,eY,sE⟩
 obtain⟨rfl,rfl,rfl⟩:=Zch eY
 have fy:=mLt jE eo
 have pb:=Zfv s' m6 b5 (hs'.mono eo) sE
 rw[mR]at pb
 have sF:=hr.mono fy
 refine⟨_,pb,λy hy=>?_,λ_ css tvs mm q=>q<=r.acts.length/\css=[[.int .i64 ((r.acts.take q).foldl Zrt (-1))]],⟨by omega,rfl⟩,?_,?_⟩
 ·obtain⟨z,_,rfl⟩:=List.mem_map.1 hy;rfl
 ·rintro k0 s0 pa pn pc k1 x1 s1 g1 sa sn sc cs mm q i9 hq ⟨gF,bL⟩ b6
  obtain rfl:cs=_:=by simpa using bL
  have hq':(List.map (λa:Ac=>[Value.agg a.cs.toArray]) r.acts)[(q:Nat)]?=some [Value.agg #[.int .u8 k0,.string s0,.slice pa pn pc,.int .u8 k1,x1,.string s1,.int .i64 g1,.slice sa sn sc]]:=hq
  rw[List.getElem?_map]at hq'
  obtain⟨x,hx,pf⟩:=Option.map_eq_some_iff.1 hq'
  have nt:=(zA0 hx).1
  simp only[Ac.cs,List.cons.injEq,Value.agg.injEq,Array.mk.injEq,Value.int.injEq,Value.string.injEq,Value.slice.injEq,true_and,and_true]at pf
  obtain⟨rfl,rfl,⟨rfl,rfl,rfl⟩,rfl,rfl,rfl,rfl,rfl,rfl,rfl⟩:=pf
  have cA:=ZeT Zrt (-1) hx
  have cY:=sF.all x (zA2 hx)
  have iB:x.parts.length<=100000:=cY.n
  generalize (r.acts.take q).foldl Zrt (-1)=o at cA ⊢
  have hu:Zrt o x=x.parts.foldl ZiG (if x.k=3 then mxI o x.e.most else o):=rfl
  refine Zaa rfl ⟨λ_ css _ mm'=>m6.le mm'/\css=[[.int .i64 (if x.k=3 then mxI o x.e.most else o)]],Zab (λh=>?_) (λh=>?_),?_⟩
  ·have h:x.k=3:=by simpa using h
   refine⟨λ_ _ _=>_,Zaj rfl ⟨_,rfl,Zqf x.e mm (RepE.mono' cY.e i9),(λv _ _ h=>by rw[show v=_ from h];rfl),?_⟩⟩
   intro n8 m8 eS wK
   obtain rfl:n8=_:=by simpa using(show Value.int .i64 n8=Value.int .i64 _ from wK)
   refine Zaa rfl λM hM uh=>⟨rfl,mLt i9 hM,?_⟩
   rw[if_pos h];rfl
  ·have h:¬x.k=3:=by simpa using h
   exact⟨rfl,i9,by rw[if_neg h]⟩
  rintro cs m7 _ ⟨eT,bL⟩
  obtain rfl:cs=_:=by simpa using bL
  generalize (if x.k=3 then mxI o x.e.most else o)=o1 at hu ⊢
  refine⟨λxs css _ mm' q=>∃j:Nat,j<=x.parts.length/\xs=[.int .i64 j]/\css=[[.int .i64 ((x.parts.take j).foldl ZiG o1)]]/\q=x.parts.length - j,⟨_,0,by omega,rfl,rfl,rfl⟩,?_⟩
  rintro z cs m8 q2 eS ⟨j,hj,hz,bL,rfl⟩
  obtain rfl:z=j:=by simpa using hz
  obtain rfl:cs=_:=by simpa using bL
  have jJ:IntKind.i64.wrap ((j:Int)+1)=((j+1:Nat):Int):=by rw[Zak (by omega) (by omega)];rfl
  have nA:=mLt eT eS
  refine ZaE (λaC=>?_) (λbG=>?_)
  ·have aC:(j:Int) < (x.parts.length:Nat):=aC
   obtain⟨p,hp⟩:=Zdh (show j < x.parts.length by omega)
   have qg:=cY.mono nA
   obtain⟨b8,o8,mQ,mS⟩:=Zam Pt.len qg.row hp (by omega)
   have gd:=qg.all p (zA2 hp)
   have fc:=ZeT ZiG o1 hp
   generalize (x.parts.take j).foldl ZiG o1=o' at fc ⊢
   refine⟨b8,o8,mQ,⟨by omega,aC⟩,_,_,_,_,_,_,_,_,mS,λb9=>Zaa rfl (Zaa rfl (Zab (λh=>Zaj rfl (Zaa rfl ⟨rfl,x.parts.length - (j+1),by omega,j+1,by omega,by rw[jJ],?_,rfl⟩)) (λh=>Zaa rfl (Zab (λh2=>?_) (λh2=>⟨rfl,x.parts.length - (j+1),by omega,j+1,by omega,by rw[jJ],?_,rfl⟩)))))⟩
   ·have h:(p.k == 3)=true:=h
    rw[fc,show ZiG o' p=mxI o' p.g by unfold ZiG;rw[if_pos (by simpa using h)]];rfl
   ·have h:(p.k == 3)=false:=h
    have h2:(p.k == 4)=true:=h2
    refine⟨λ_ _ _=>_,Zaj rfl ⟨_,rfl,Zqf p.e m8 gd.e,(λv _ _ h=>by rw[show v=_ from h];rfl),?_⟩⟩
    intro n10 m10 fY ip
    obtain rfl:n10=_:=by simpa using(show Value.int .i64 n10=Value.int .i64 _ from ip)
    refine Zaa rfl λM hM kL=>⟨rfl,x.parts.length - (j+1),by omega,j+1,by omega,by rw[jJ],?_,rfl⟩
    rw[fc,show ZiG o' p=mxI o' p.e.most by unfold ZiG;rw[if_neg (by simpa using h),if_pos (by simpa using h2)]];rfl
   ·have h:(p.k == 3)=false:=h
    have h2:(p.k == 4)=false:=h2
    rw[fc,show ZiG o' p=o' by unfold ZiG;rw[if_neg (by simpa using h),if_neg (by simpa using h2)]]
  ·have bG:¬(j:Int) < (x.parts.length:Nat):=bG
   have hj:j=x.parts.length:=by omega
   subst hj
   rw[List.take_length,<-hu,<-cA]
   exact⟨rfl,by omega,rfl⟩
 ·rintro cs m7 eT ⟨_,bL⟩
  rw[List.length_map,List.take_length]at bL
  obtain rfl:cs=_:=by simpa using bL
  refine Zaj rfl (Zaf (mLt fy eT) ?_)
  show Value.int _ _=Value.int _ _
  unfold Zgi
  rw[hl,if_pos rfl]
theorem Zo0(L:List Pl):(L.map Pl.cs).flatten.length=L.length*5:=by
 induction L with
 | nil=>rfl
 | cons x l ih=>rw[List.map_cons,List.flatten_cons,zA1,ih,List.length_cons,Nat.succ_mul];show 5+_=_;omega
def PI(L:List Pl)(v t:Value)(m:Mem):Prop:=∃a c a1 n1 c1,v=.slice a L.length c/\t=.slice a1 n1 c1/\((a1=a/\n1=L.length/\c1=c)\/c < L.length+1)/\rowRd m a (L.map Pl.cs).flatten
theorem PI.mono{L:List Pl}{v t:Value}{m m':Mem}(h:PI L v t m)(hm:m.le m'):PI L v t m':=by
 obtain⟨a,c,a1,n1,c1,h1,h2,h3,h4⟩:=h
 exact⟨a,c,a1,n1,c1,h1,h2,h3,h4.mono hm⟩
theorem PI.app{L:List Pl}{a a1:Option Addr}{n c n1 c1:Nat}{m:Mem}{b:Nat}{Q:Option Addr->Nat->Mem->Prop}(z:Pl)(h:PI L (.slice a n c) (.slice a1 n1 c1) m)(hb:L.length<=30000)(hf:m.free b)
  (k:∀(a':Option Addr)(c':Nat)(m':Mem),m.le m'->PI (L++[z]) (.slice a' (n+1) c') (.slice a' (n+1) c') m'->Q a' c' m'):
  (Tok.mk (.slice a1 n1 c1) 5=Tok.mk (.slice a n c) 5\/Value.slice a n c=.slice none 0 0\/c < n+1)/\∃xs ys:List Value,xs.length=n*5/\ys.length=1*5/\rowRd (m.add b z.cs) a xs/\rowRd (m.add b z.cs) (some ⟨b,0,none⟩) ys/\(∀u∈ys,u.oneCell'=true)/\
   (n+1)*40<=140737488355328/\n+1<=9223372036854775807/\∀(a':Option Addr)(c':Nat)(m':Mem),(m.add b z.cs).le m'->rowRd m' a' (List.append xs ys)->Q a' c' m':=by
 obtain⟨a0,c0,a10,n10,c10,h1,h2,h3,h4⟩:=h
 simp only[Value.slice.injEq]at h1 h2
 obtain⟨rfl,rfl,rfl⟩:=h1
 obtain⟨rfl,rfl,rfl⟩:=h2
 have bU:m.le (m.add b z.cs):=Mem.le_add hf _
 refine⟨?_,(L.map Pl.cs).flatten,z.cs,Zo0 L,rfl,h4.mono bU,.inr ⟨b,0,rfl,Zc6 m b _⟩,?_,by omega,by omega,λa' c' m' hm' hr'=>k a' c' m' (mLt bU hm') ⟨a',c',a',L.length+1,c',?_,rfl,.inl ⟨rfl,?_,rfl⟩,?_⟩⟩
 ·rcases h3 with⟨e1,e2,e3⟩|h3
  ·rw[e1,e2,e3];exact .inl rfl
  ·exact .inr (.inr h3)
 ·intro u hu
  simp only[Pl.cs,List.mem_cons,List.not_mem_nil,or_false]at hu
  rcases hu with rfl|rfl|rfl|rfl|rfl <;> rfl
 ·rw[zA1];rfl
 ·rw[zA1];rfl
 ·rw[List.map_append,List.flatten_append]
  have:(List.map Pl.cs [z]).flatten=z.cs:=by simp
  rw[this];exact hr'
def Zs3(s:Sc):Value->Mem->List (List Value)->Prop:=λv m _=>∃a c,v=.slice a s.places.length c/\rowRd m a (s.places.map Pl.cs).flatten
theorem ZnO{s}:∀(v:Value)(m':Mem) (css:List (List Value)),Zs3 s v m' css->Shape.fits .slice v=true:=λv _ _ ⟨_,_,e,_⟩=>by rw[e];rfl
set_option maxHeartbeats 4000000 in
theorem ZrU(s:Sc)(m:Mem)(hr:RepC m s):CX Tryz.prog 11 #[s.v] m [] (Zs3 s):=by
 apply Zi9
 intro b m1 aG _
 have gY:=hr.vlen
 have eG:=hr.len
 unfold few at gY eG
 refine Zai (Zce s m1 (hr.mono aG)) λm2 aJ=>Zab (λhl=>?_) (λhl b2 lp=>?_)
 ·have hl:s.light=false:=by simpa using hl
  have he:s.places=[]:=by unfold Sc.places;rw[hl];rfl
  exact Zaf (mLt aG aJ) ⟨none,0,by rw[he];rfl,by rw[he];exact .inl rfl⟩
 have hl:s.light=true:=by simpa using hl
 have jo:m2.le (m2.add b2 (Pl.cs top)):=Mem.le_add lp _
 have cV:=mLt aG (mLt aJ jo)
 have iB:=ZoB s
 have pT:=Ziw hl
 rw[pT,List.length_cons,zA1,show(Zc4 s.vars.length Vf).length=s.vars.length from Zfq _ _]at iB
 have hw:∀k:Nat,k<=100000->IntKind.i64.wrap ((k:Int)+1)=((k+1:Nat):Int):=λk hk=>by rw[Zak (by omega) (by omega)];rfl
 have start:PI [top] (.slice (some ⟨b2,0,none⟩) 1 1) (.slice none 0 0) (m2.add b2 (Pl.cs top)):=⟨_,1,_,_,_,rfl,rfl,.inr (by decide),.inr ⟨b2,0,rfl,by simpa using Zc6 m2 b2 (Pl.cs top)⟩⟩
 refine⟨λxs _ tks m' q=>∃(i:Nat)(v t:Value),i<=s.vars.length/\xs=[v,.int .i64 i]/\tks=[t]/\PI (top::Zc4 i Vf) v t m'/\q=s.vars.length - i,⟨s.vars.length,0,_,_,by omega,rfl,rfl,start,rfl⟩,?_⟩
 rintro a n c i' a1 n2 c1 m3 q aQ ⟨i,v,t,hi,hx,ht,hP,rfl⟩
 simp only[List.cons.injEq,Value.int.injEq,and_true,true_and]at hx ht
 obtain⟨rfl,rfl⟩:=hx
 subst ht
 have dH:=mLt cV aQ
 have ui:(Zc4 i Vf).length=i:=Zfq _ _
 refine ZaE (λaC b3 fu=>?_) (λbG=>?_)
 ·have aC:(i:Int) < (s.vars.length:Int):=aC
  refine PI.app ⟨i,-1,-1,-1,-1⟩ hP (by rw[List.length_cons,ui];omega) fu λa' c' m' hm' hP'=>⟨rfl,s.vars.length - (i+1),by omega,i+1,_,_,by omega,by rw[hw i (by omega)],rfl,?_,rfl⟩
  rw[ZbN];exact hP'
 have bG:¬(i:Int) < (s.vars.length:Int):=bG
 obtain rfl:i=s.vars.length:=by omega
 generalize hB:top::Zc4 s.vars.length Vf=B at hP
 have xF:B.length=s.vars.length+1:=by rw[<-hB,List.length_cons,ui]
 refine⟨λxs _ tks m' q=>∃(i:Nat)(v t:Value),i<=s.states.length/\xs=[v,.int .i64 i]/\tks=[t]/\PI (B++Zc4 i (Ff s)) v t m'/\q=s.states.length - i,⟨s.states.length,0,_,_,by omega,rfl,rfl,by simpa[Zc4]using hP,rfl⟩,?_⟩
 rintro a n c i' a1 n2 c1 m4 q bZ ⟨i,v,t,hi,hx,ht,hP,rfl⟩
 simp only[List.cons.injEq,Value.int.injEq,and_true,true_and]at hx ht
 obtain⟨rfl,rfl⟩:=hx
 subst ht
 have gi:=mLt dH bZ
 refine ZaE (λaC=>?_) (λbG=>?_)
 ·have aC:(i:Int) < (s.states.length:Int):=aC
  obtain⟨x,hx⟩:=Zdh (show i < s.states.length by omega)
  have cY:=hr.all x (zA2 hx)
  have kz:=cY.len
  unfold few at kz
  have hF:Ff s i=plS i x:=by unfold Ff;rw[hx]
  have dT:(Zc4 i (Ff s)).length+(plS i x).length<=(Zc4 s.states.length (Ff s)).length:=by
   have:=ZpA (show i+1<=s.states.length by omega) (Ff s)
   rw[ZbN,zA1,hF]at this;exact this
  rw[Zrg,List.length_cons]at dT
  obtain⟨b3,o3,eX,kD⟩:=Zam Sta.len (hr.row.mono gi) hx (by omega)
  refine⟨b3,o3,eX,⟨by omega,aC⟩,_,_,kD,λb4=>Zaa rfl λb5 iT=>?_⟩
  refine PI.app ⟨-1,i,-1,-1,-1⟩ hP (by rw[zA1];omega) iT λa' c' m5 cF hP=>Zaa rfl ?_
  have jE:=mLt gi cF
  generalize uj:B++Zc4 i (Ff s)=L1 at hP
  have iz:L1.length=B.length+(Zc4 i (Ff s)).length:=by rw[<-uj,zA1]
  refine⟨λxs _ tks m' q=>∃(k:Nat)(v t:Value),k<=x.rules.length/\xs=[v,.int .i64 k]/\tks=[t]/\PI (L1++(⟨-1,i,-1,-1,-1⟩::Zc4 k (Gf i x))) v t m'/\q=x.rules.length - k,⟨x.rules.length,0,_,_,by omega,rfl,rfl,by simpa[Zc4]using hP,rfl⟩,?_⟩
  rintro a n c k' a1 n2 c1 m6 q eo ⟨k,v,t,hk,hy,ht,hP,rfl⟩
  simp only[List.cons.injEq,Value.int.injEq,and_true,true_and]at hy ht
  obtain⟨rfl,rfl⟩:=hy
  subst ht
  have fy:=mLt jE eo
  refine ZaE (λdZ=>?_) (λee=>?_)
  ·have dZ:(k:Int) < (x.rules.length:Int):=dZ
   obtain⟨r,ib⟩:=Zdh (show k < x.rules.length by omega)
   have fZ:=cY.all r (zA2 ib)
   have nB:=fZ.len
   unfold few at nB
   have hG:Gf i x k=plR i k r:=by unfold Gf;rw[ib]
   have fJ:(Zc4 k (Gf i x)).length+(plR i k r).length<=(Zc4 x.rules.length (Gf i x)).length:=by
    have:=ZpA (show k+1<=x.rules.length by omega) (Gf i x)
    rw[ZbN,zA1,hG]at this;exact this
   rw[Zrf,List.length_cons]at fJ
   obtain⟨b6,o6,ij,mM⟩:=Zam Ru.len (cY.row.mono fy) ib (by omega)
   refine Zaa rfl ⟨b6,o6,ij,⟨by omega,dZ⟩,_,_,_,_,_,_,_,_,_,_,_,_,_,_,_,_,mM,λb7=>Zaa rfl λb8 jZ=>?_⟩
   refine PI.app ⟨-1,i,k,-1,-1⟩ hP (by rw[zA1,List.length_cons];omega) jZ λa' c' m7 eT hP=>Zaa rfl ?_
   have wL:=mLt fy eT
   generalize pi:L1++(⟨-1,i,-1,-1,-1⟩::Zc4 k (Gf i x))=L2 at hP
   have jl:L2.length=L1.length+1+(Zc4 k (Gf i x)).length:=by rw[<-pi,zA1,List.length_cons];omega
   refine⟨λxs _ tks m' q=>∃(j:Nat)(v t:Value),j<=r.acts.length/\xs=[v,.int .i64 j]/\tks=[t]/\PI (L2++(⟨-1,i,k,-1,-1⟩::Zc4 j (Hf i k r))) v t m'/\q=r.acts.length - j,⟨r.acts.length,0,_,_,by omega,rfl,rfl,by simpa[Zc4]using hP,rfl⟩,?_⟩
   rintro a n c j' a1 n2 c1 m8 q eS ⟨j,v,t,hj,hy,ht,hP,rfl⟩
   simp only[List.cons.injEq,Value.int.injEq,and_true,true_and]at hy ht
   obtain⟨rfl,rfl⟩:=hy
   subst ht
   have qb:=mLt wL eS
   refine ZaE (λgB=>?_) (λil=>?_)
   ·have gB:(j:Int) < (r.acts.length:Int):=gB
    obtain⟨y,mN⟩:=Zdh (show j < r.acts.length by omega)
    have im:=fZ.all y (zA2 mN)
    have sJ:=im.n
    unfold few at sJ
    have hH:Hf i k r j=plA i k j y:=by unfold Hf;rw[mN]
    have fK:(Zc4 j (Hf i k r)).length+(plA i k j y).length<=(Zc4 r.acts.length (Hf i k r)).length:=by
     have:=ZpA (show j+1<=r.acts.length by omega) (Hf i k r)
     rw[ZbN,zA1,hH]at this;exact this
    rw[Zre,List.length_cons,show(Zc4 y.parts.length (Pf i k j)).length=y.parts.length from Zfq _ _]at fK
    obtain⟨b9,o9,wM,wN⟩:=Zam Ac.len (fZ.row.mono qb) mN (by omega)
    refine Zaa rfl ⟨b9,o9,wM,⟨by omega,gB⟩,_,_,_,_,_,_,_,_,wN,λb10=>Zaa rfl λb11 sK=>?_⟩
    refine PI.app ⟨-1,i,k,j,-1⟩ hP (by rw[zA1,List.length_cons];omega) sK λa' c' m9 fW hP=>Zaa rfl ?_
    generalize p9:L2++(⟨-1,i,k,-1,-1⟩::Zc4 j (Hf i k r))=L3 at hP
    have q6:L3.length=L2.length+1+(Zc4 j (Hf i k r)).length:=by rw[<-p9,zA1,List.length_cons];omega
    refine⟨λxs _ tks m' q=>∃(w:Nat)(v t:Value),w<=y.parts.length/\xs=[v,.int .i64 w]/\tks=[t]/\PI (L3++(⟨-1,i,k,j,-1⟩::Zc4 w (Pf i k j))) v t m'/\q=y.parts.length - w,⟨y.parts.length,0,_,_,by omega,rfl,rfl,by simpa[Zc4]using hP,rfl⟩,?_⟩
    rintro a n c w' a1 n2 c1 m10 q fY ⟨w,v,t,xG,hy,ht,hP,rfl⟩
    simp only[List.cons.injEq,Value.int.injEq,and_true,true_and]at hy ht
    obtain⟨rfl,rfl⟩:=hy
    subst ht
    have qh:(Zc4 w (Pf i k j)).length=w:=Zfq _ _
    refine ZaE (λkJ b12 sL=>?_) (λkK=>?_)
    ·have kJ:(w:Int) < (y.parts.length:Int):=kJ
     refine PI.app ⟨-1,i,k,j,w⟩ hP (by rw[zA1,List.length_cons,qh];omega) sL λa' c' m' hm' hP'=>⟨rfl,rfl,y.parts.length - (w+1),by omega,w+1,_,_,by omega,by rw[hw w (by omega)],rfl,?_,rfl⟩
     rw[ZbN]
     simpa[Pf]using hP'
    ·have kK:¬(w:Int) < (y.parts.length:Int):=kK
     obtain rfl:w=y.parts.length:=by omega
     refine⟨rfl,rfl,r.acts.length - (j+1),by omega,j+1,_,_,by omega,by rw[hw j (by omega)],rfl,?_,rfl⟩
     rw[ZbN,hH,Zre]
     rw[<-p9]at hP
     simpa using hP
   ·have il:¬(j:Int) < (r.acts.length:Int):=il
    obtain rfl:j=r.acts.length:=by omega
    refine⟨rfl,rfl,x.rules.length - (k+1),by omega,k+1,_,_,by omega,by rw[hw k (by omega)],rfl,?_,rfl⟩
    rw[ZbN,hG,Zrf]
    rw[<-pi]at hP
    simpa using hP
  ·have ee:¬(k:Int) < (x.rules.length:Int):=ee
   obtain rfl:k=x.rules.length:=by omega
   refine⟨rfl,rfl,s.states.length - (i+1),by omega,i+1,_,_,by omega,by rw[hw i (by omega)],rfl,?_,rfl⟩
   rw[ZbN,hF,Zrg]
   rw[<-uj]at hP
   simpa using hP
 ·have bG:¬(i:Int) < (s.states.length:Int):=bG
  obtain rfl:i=s.states.length:=by omega
  obtain⟨a0,c0,a10,n10,c10,h1,h2,h3,h4⟩:=hP
  have he:B++Zc4 s.states.length (Ff s)=s.places:=by rw[pT,<-hB];rfl
  rw[he]at h1 h4
  rw[h1]
  exact⟨m4,gi,Mem.le_refl _,a0,c0,rfl,h4⟩
end Go.Proofs.YtpjepnkiiojgfaaGreat
namespace Go.Proofs.YtpjepnkiiojgfaaGreat
open Go Go.Eng Go.Proofs Go.RowKit
open Go.Value (int slice agg bool string tuple func)
open Go.IntKind (u8 u64 i64)
set_option maxRecDepth 100000
def ZnP:Env:={ EB with
 joins:=(λi=>bif Nat.beq i 1 then some [(6,.bool)]else none)
 frzNew:=[3] }
theorem Zlf(aA:Int)(bH:Option Addr)(bF bK:Nat)(aW:Option Addr)(aP bC:Nat)(p1 p2:Int)(m:Mem)(R:RT)(h:
 lV [int i64 aA,slice bH bF bK,slice aW aP bC] λxL=>fzM m xL λb m'=>∃(b_1:Bool),lV [bool b_1] λxL_1=>lE [some (Box.mk b xL 32 3 true true)] λxL_2=>(kB Tryz.prog 19 [agg
 (Array.mk xL)] m' λb m'=>br b (br (decide (p1 ≥ (0:Int))) (br (decide (p1 < (↑aP:Int))) (br (decide (p2 ≥ (0:Int))) (atA aW λb o=>Zae p1 aP/\∃(v:Value),m' b (o+Int.toNat p1*2+1) =
 some v/\chk (ZbT v) (Zac xL_2/\[bool (decide (p2 < (↑(slN v):Int)))]=xL_1)) (Zac xL_2/\[bool false]=xL_1)) (Zac xL_2/\[bool false]=xL_1)) (Zac xL_2/\[bool false]=xL_1)) (Zac xL_2/\[bool
 false]=xL_1))/\rtM m m' R (bool b_1)):CX Tryz.prog 47 #[.agg #[.int .i64 aA,.slice bH bF bK,.slice aW aP bC],.int .i64 p1,.int .i64 p2] m [] R:=
 Zad (E:=ZnP) Zap mix Tryz.func47 (by kernel_rfl) (Eq.mp (by kernel_rfl) h)
def Zo1:Env:={ EB with
 dr:=(λi=>bif Nat.beq i 4 then[⟨0,[8],[],none,[],[]⟩,⟨1,[8],[],none,[0],[]⟩,⟨2,[],[],none,[],[]⟩,⟨3,[8],[],none,[],[]⟩,⟨4,[8],[],none,[3],[]⟩,⟨5,[],[],none,[],[]⟩,⟨6,[],[],none,[3,4,5],[]⟩,⟨7,[],[],none,[3,4,5,6],[]⟩,⟨8,[],[],none,[3,4,5,6,7],[]⟩,⟨9,[],[],none,[],[]⟩,⟨10,[],[],none,[],[]⟩,⟨11,[],[],none,[10],[]⟩,⟨12,[200],[200],none,[3,4,5,6,7,8,9,10,11],[]⟩]else[])
 borrow:=(λi=>bif Nat.beq i 29 then[200]else[])
 frzNew:=[3]
 acqB:=(λi=>bif Nat.beq i 4 then some 200 else none)
 thaw:=true
 stAt:=(λi=>bif Nat.beq i 31 then some 999 else none)
 last:=(λi=>bif Nat.beq i 4 then true else false)
 lastK:=(λi=>bif Nat.beq i 4 then 3 else 1)
 frz:=[200]
 kF:=true }
theorem ZnQ(aA:Int)(bH:Option Addr)(bF bK:Nat)(aW:Option Addr)(aP bC:Nat)(p1 p2:Int)(m:Mem)(R:RT)(h:
 lV [int i64 p2,int i64 (i64.wrap (p2+(1:Int)))] λxL=>lE (Int.toNat p1*2) λyL=>lV [int i64 aA,slice bH bF bK,slice aW aP bC] λxL_1=>fzM m xL_1 λb m'=>m.free b
 -> (∀(b' o:Nat)(u:Value),m' b' o=some u->m b' o=some u\/b'=b)->Mem.k m b=none->∀(b_1:Nat),kB Tryz.prog 47 [agg (Array.mk xL_1),int i64 p1,int i64 p2] m' λb_2 m'=>br (!b_2) (rtM m m' R (tuple
 (Array.mk [agg (Array.mk [int i64 0,slice none 0 0,slice none 0 0]),int i64 250]))) (∃(R_1:RT),True/\CX Tryz.prog 18 (Array.mk [agg (Array.mk xL_1)]) m' [] R_1/\Zbq (Shape.agg [Shape.int i64,Shape.slice,
 Shape.slice]) R_1/\∀(n:Int)(a:Option Addr)(n_1 c:Nat)(a_1:Option Addr)(n_2 c_1:Nat)(m'_1:Mem),lX (agg (Array.mk [int i64 n,slice a n_1 c,slice a_1 n_2 c_1])) λyL_1=>m'.le m'_1->R_1 yL_1
 m'_1 []->∀(b_3:Nat),∃(b_4:Nat),∃(cs:List Value),lM (Mem.off m'_1 λk=>k=b_4) λmL=>cs≠[]/\m'_1.reads b_4 0 cs/\m.free b_4/\(b≠b_4/\True)/\∀(T:TypeId)(cap:Nat),∃(f:Fx),
 atA a_1 λb_5 o=>Zae p1 n_2/\∃(v:Value),mL b_5 (o+yL+1)=some v/\∃(R_2:RT),R_2=f 12 (v::xL) mL/\CX Tryz.prog 48 (Array.mk (v::xL)) mL [Box.mk b_4 cs T cap false false] R_2/\Zbq
 Shape.slice R_2/\∀(a:Option Addr)(n c:Nat)(m':Mem),lX (slice a n c) λyL_2=>mL.le m'->∀(cs:List Value),R_2 yL_2 m' [cs]->∀(M:Mem),mL.le M->m'.le M->atA a_1 λb_6 o=>lM (Mem.upd
 M b_6 (o+yL+1) [yL_2]) λmL=>Zae p1 n_2/\(∃(vs:List Value),vs.length=1/\M.reads b_6 (o+yL+1) vs)/\m.free b_6/\true=true/\b≠b_6/\(mL.free b_4->Mem.k mL b_4=none->rtM m
 (mL.add b_4 cs) R (tuple (Array.mk [yL_1,int i64 0]))))):CX Tryz.prog 13 #[.agg #[.int .i64 aA,.slice bH bF bK,.slice aW aP bC],.int .i64 p1,.int .i64 p2] m [] R:=
 Zad (E:=Zo1) Zap mix Tryz.func13 (by kernel_rfl) (Eq.mp (by kernel_rfl) h)
end Go.Proofs.YtpjepnkiiojgfaaGreat
namespace Go.Proofs.YtpjepnkiiojgfaaGreat
open Go Go.Eng Go.Rx Go.Proofs Go.RowKit Go.Shelf
set_option maxRecDepth 100000
def zRu:Value:=.agg #[.int .u8 0,.bool false,.bool false,.int .u8 0,.int .u64 0,.int .u64 0,.int .u64 0,.int .u64 0,.int .i64 0,.int .i64 0,.slice none 0 0,.string .empty,.int .i64 0,.slice none 0 0,.string .empty,.int .i64 0]
def ZxN:Ren:=⟨fun|45=>48|n=>n,fun|0=>0|3=>3|4=>4|22=>34|23=>47|n=>n,λn=>n⟩
theorem Zwi:DelLay Tryz.prog ZxN 16 zRu:=
 {mixed:=mix,f45:=⟨Tryz.f48.name,by kernel_rfl,by kernel_rfl⟩
  t0:=by kernel_rfl,a0:=Tryz.isAgg0,z0:=Tryz.sizeOf0,v0:=Tryz.zeroValue0
  t3:=Tryz.underlying3,a3:=Tryz.isAgg3,z3:=Tryz.sizeOf3,v3:=Tryz.zeroValue3
  t4:=Tryz.underlying4,a4:=Tryz.isAgg4,z4:=Tryz.sizeOf4,v4:=Tryz.zeroValue4
  t22:=Tryz.underlying34,a22:=Tryz.isAgg34,z22:=Tryz.sizeOf34,v22:=Tryz.zeroValue34
  z23:=Tryz.sizeOf47,v23:=Tryz.zeroValue47 }
theorem Zwj(m:Nat):∀u∈(Builtin.zeroCells zRu.cells m).toList,u.oneCell'=true:=by
 have kG:∀i,i < 16->(zRu.cells[i]!).oneCell'=true:=by decide
 intro u hu
 simp only[Builtin.zeroCells,Array.toList_map,List.mem_map]at hu
 obtain⟨i,_,rfl⟩:=hu
 exact kG _ (Nat.mod_lt _ (by decide))
theorem Zwk(l:List Ru)(b c i:Nat)(T:TypeId)(cap:Nat)(m:Mem)(hi:i < l.length)(hc:l.length<=c)(hm:l.length<=9223372036854775807):
  CX Tryz.prog 48 #[.slice (some ⟨b,0,none⟩) l.length c,.int .i64 i,.int .i64 (i+1:Nat)] m [⟨b,(l.map Ru.cs).flatten,T,cap,false,false⟩] (λv m' css=>v=.slice (some ⟨b,0,none⟩) (l.length - 1) c/\css=[((l.eraseIdx i).map Ru.cs).flatten++zRu.cells.toList]):=by
 obtain⟨i0,h1,h2⟩:∃i0,Tryz.prog.info? 47=some i0/\i0.size=16:=by
  obtain⟨x,h1,h2,_⟩:=(Zap 47 _ rfl).info
  exact⟨x,h1,h2⟩
 exact Zru Zwi i0 h1 h2 rfl (Go.Eng.ZfU Tryz.func48 (by kernel_rfl) (by kernel_rfl)) (by decide) (by kernel_rfl) Zwj Ru.len Ru.one l b c i T cap m hi hc hm
end Go.Proofs.YtpjepnkiiojgfaaGreat
namespace Go.Proofs.YtpjepnkiiojgfaaGreat
open Go Go.Eng Go.Rx Go.Proofs Go.RowKit
set_option maxRecDepth 100000
theorem Zuv(s:Sc)(i k:Int)(m:Mem)(hr:RepC m s):CX Tryz.prog 47 #[s.v,.int .i64 i,.int .i64 k] m [] (Ret (.bool (Zhc s i k))):=by
 apply Zlf
 intro b m1 aG _
 refine⟨Zhc s i k,Zai (Zce s m1 (hr.mono aG)) λm2 aJ=>?_,Zaf aG rfl⟩
 refine Zab (λh1=>Zab (λh2=>Zab (λh3=>Zab (λh4=>?_) (λh4=>⟨rfl,?_⟩)) (λh3=>⟨rfl,?_⟩)) (λh2=>⟨rfl,?_⟩)) (λh1=>⟨rfl,?_⟩)
 ·have h2':0<=i:=zA6 h2
  have h3':i < s.states.length:=zA6 h3
  obtain⟨x,hx⟩:=Zat (l:=s.states) (k:=i.toNat) (by omega)
  obtain⟨bs,o,ha,cD⟩:=Zam Sta.len (hr.mono (mLt aG aJ)).row hx (by omega)
  refine⟨bs,o,ha,⟨h2',h3'⟩,_,cD 1 _ rfl,Zaa rfl ⟨rfl,?_⟩⟩
  simp only[Zhc,h1,h2,h3,h4,hx,Bool.true_and]
  rfl
 ·simp only[Zhc,h1,h2,h3,h4,Bool.true_and,Bool.false_and]
 ·simp only[Zhc,h1,h2,h3,Bool.true_and,Bool.false_and]
 ·simp only[Zhc,h1,h2,Bool.true_and,Bool.false_and]
 ·simp only[Zhc,h1,Bool.false_and]
def Zyo(s:Sc)(i k:Nat):Value->Mem->List (List Value)->Prop:=λv m' _=>∃s':Sc,v=.tuple #[s'.v,.int .i64 0]/\s'.er=(ZuQ s i k).er/\RepC m' s'
theorem ZrV{s:Sc}{i k:Nat}:∀(v:Value)(m':Mem) (css:List (List Value)),Zyo s i k v m' css->Shape.fits (.tup [.agg [.int .i64,.slice,.slice],.int .i64]) v=true:=λv _ _ ⟨t,e,_⟩=>by rw[e];rfl
theorem Zuw{s:Sc}{n:Int}{a a1:Option Addr}{p c p1 c1:Nat}(h:Value.agg #[.int .i64 n,.slice a p c,.slice a1 p1 c1]=s.v):n=s.n/\a=s.va/\p=s.vars.length/\c=s.vc/\a1=s.sa/\p1=s.states.length/\c1=s.sc:=by
 simpa[Sc.v,and_assoc]using h
theorem Zwl(s:Sc)(i k:Nat)(m:Mem)(hr:RepC m s)(hl:s.light=true){x:Sta}(hx:s.states[i]?=some x)(hk:k < x.rules.length):CX Tryz.prog 13 #[s.v,.int .i64 i,.int .i64 k] m [] (Zyo s i k):=by
 have hi:=(zA0 hx).1
 have eG:s.states.length<=100000:=hr.len
 have iO:x.rules.length<=100000:=(hr.all x (zA2 hx)).len
 have fR:Zhc s i k=true:=by
  simp only[Zhc,hl,zA8,hx,Bool.true_and,zA7,decide_eq_true_eq]
  omega
 apply ZnQ
 intro b m1 aG jF fL wF eW b1
 have hc:=Zuv s i k m1 (hr.mono aG)
 rw[fR]at hc
 refine Zai hc λm2 aJ=>Zp3 rfl ?_
 have cV:=mLt aG aJ
 refine Zan (Zwg s m2 (hr.mono cV) hl) Zun ?_
 rintro n a p c a1 p1 c1 m3 aQ ⟨s',hv,sM,dP,d5⟩ b3
 obtain⟨rfl,rfl,rfl,rfl,rfl,rfl,rfl⟩:=Zuw hv
 obtain⟨x',hx',rZ⟩:=ZyM sM hx
 obtain⟨cI,cY,tR⟩:=ZpK rZ
 have hk':k < x'.rules.length:=by omega
 have hi':=(zA0 hx').1
 rcases d5 with h0|⟨bS,μ,d5⟩
 ·rw[h0]at hi';simp at hi'
 obtain⟨oC,⟨wO,nF⟩,bU,pZ⟩:=d5.all i x' hx'
 rcases nF with h0|⟨bR,ky,sN,wP,mC⟩
 ·rw[h0]at hk';simp at hk'
 have aB:(μ i).reads bR 0 (x'.rules.map Ru.cs).flatten:=by
  rcases oC.row with h|⟨b',o',ha,h⟩
  ·have:=congrArg List.length h
   rw[ZaQ Ru.len]at this;simp at this;omega
  ·rw[ky]at ha;cases ha;exact h
 have lN:(x'.rules.map Ru.cs).flatten.length=x'.rules.length*16:=ZaQ Ru.len _
 have j2:¬(μ i).free bR:=λhf=>by
  have:=aB 0 _ (zA3 (by omega))
  rw[hf]at this;cases this
 have rH:bS≠bR:=λe=>j2 (e ▸ pZ)
 have fJ:¬m2.free b:=λhf=>by
  have:=aJ _ _ _ (jF 0 _ rfl)
  rw[hf]at this;cases this
 have fH:=mLt bU (Zln m2 m3)
 obtain⟨bs0,o0,mJ,cA⟩:=Zam Sta.len dP.row hx' (by omega)
 rw[d5.sa]at mJ
 simp only[Option.some.injEq,Addr.mk.injEq,and_true]at mJ
 obtain⟨rfl,rfl⟩:=mJ
 have bV:∀M:Mem,(m3.off λq=>q=bR).le M->M bS (0+i*2+1)=some (.slice x'.ra x'.rules.length x'.rc):=λM hM=>hM _ _ _ (by
  rw[Mem.off_at (Y:=λq=>q=bR) rH];exact(Zln m2 m3) _ _ _ (cA 1 _ rfl))
 have nq:m.le (m3.off λq=>q=bR):=ZmT (mLt cV aQ) λq e=>⟨e ▸ ZbH cV sN,e ▸ Zgg cV wP⟩
 have hw:IntKind.i64.wrap ((k:Int)+1)=((k+1:Nat):Int):=by rw[Zak (by omega) (by omega)];rfl
 refine⟨bR,(x'.rules.map Ru.cs).flatten,λe=>?_,aB.mono fH,ZbH cV sN,⟨λe=>fJ (e ▸ sN),trivial⟩,λT cap=>?_⟩
 ·rw[e]at lN;simp at lN;omega
 rw[hw]
 have hd:=Zwk x'.rules bR x'.rc k T cap (m3.off λq=>q=bR) hk' wO (by omega)
 rw[<-ky]at hd
 refine⟨λ_ _ _=>_,bS,0,d5.sa,⟨by omega,by omega⟩,_,bV _ (Mem.le_refl _),_,rfl,hd,(λv _ _ h=>by rw[h.1];rfl),?_⟩
 rintro a4 n4 c4 m4 bZ cs4 ⟨pj,sr⟩ M hM gQ
 simp only[Value.slice.injEq]at pj
 obtain⟨rfl,rfl,rfl⟩:=pj
 simp only[List.cons.injEq,and_true]at sr
 subst sr
 refine⟨bS,0,d5.sa,⟨by omega,by omega⟩,⟨[.slice x'.ra x'.rules.length x'.rc],rfl,λj v hj=>?_⟩,ZbH cV d5.free.1,rfl,λe=>fJ (e ▸ d5.free.1),λuk _=>⟨_,mLt (Mem.le_upd (mLt nq hM) (ZbH cV d5.free.1) _ _) (Mem.le_add uk _),Mem.le_refl _,⟨s'.n,s'.va,s'.vc,s'.vars,s'.sa,s'.sc,s'.states.set i (Zlo x' k)⟩,?_,?_,ZtD dP d5 hx' ky hk' mC hM uk⟩⟩
 ·cases j with
  | zero=>simp at hj;subst hj;exact bV M hM
  | succ j=>simp at hj
 ·simp only[Sc.v,List.length_set]
 ·have h1:=ZvI sM
  have h2:ZuQ s i k=⟨s.n,s.va,s.vc,s.vars,s.sa,s.sc,s.states.set i (Zlo x k)⟩:=by unfold ZuQ;rw[hx]
  rw[h2]
  exact ZtA h1.1 h1.2 (by rw[List.map_set,List.map_set,ZmV sM,ZtB rZ])
end Go.Proofs.YtpjepnkiiojgfaaGreat
namespace Go.Proofs.YtpjepnkiiojgfaaGreat
open Go Go.Eng Go.Proofs Go.RowKit
open Go.Value (int slice agg bool string tuple func)
open Go.IntKind (u8 u64 i64)
set_option maxRecDepth 100000
def Zjh:Env:=EB
theorem Zex(p0:Int)(m:Mem)(R:RT)(h:
 ∀(b b:Nat),lE (u8.wrap (Int.tdiv p0 (64:Int))) λyL=>lE (1+Int.toNat yL*1) λyL_1=>lV (ZaC [int u8 2,int u64 0,int u64 0,int u64 0,int u64 0,int i64 0,int i64 0,slice none 0 0] yL_1
 [int u64 (u64.wrap ((1:Int)*(2:Int) ^ min (Int.toNat (Int.tmod p0 (64:Int))) 64))]) λxL=>(64:Int)≠(0:Int)/\(64:Int)≠(0:Int)/\(0:Int)<=Int.tmod p0 (64:Int)/\Zae yL 4/\chk
 (Nat.ble yL_1 (nat_lit 7)) (chk (Nat.beq (xL.length) 8&&Zek xL) (rtM m m R (agg (Array.mk xL))))):CX Tryz.prog 83 #[.int .u8 p0] m [] R:=
 Zad (E:=Zjh) Zap mix Tryz.func83 (by kernel_rfl) (Eq.mp (by kernel_rfl) h)
def ZgE:Env:=EB
theorem ZfN  (m:Mem)(R:RT)(h:
 ∀(b b:Nat),∃(R_1:RT),True/\CX Tryz.prog 83 (Array.mk [int u8 120]) m [] R_1/\Zbq (shT) R_1/\∀(n am an ao ap aq ar:Int)(a:Option Addr)(au c:Nat)(m':Mem),lV [int u8 n,int u64 am,int u64 an,int
 u64 ao,int u64 ap,int i64 aq,int i64 ar,slice a au c] λxL=>m.le m'->R_1 (agg (Array.mk xL)) m' []->∀(b:Nat),lM (m'.add b xL) λmL=>lV [int u8 6,int u64 0,int u64 0,int u64 0,int u64 0,int
 i64 0,int i64 0,slice (some (Addr.mk b 0 none)) 1 1] λxL=>m'.free b->∀(b:Nat),lX (slice (some (Addr.mk b 0 none)) 1 1) λyL=>mL.free b->∃(R_2:RT),True/\CX Tryz.prog 83 (Array.mk [int u8
 121]) (mL.add b xL) [] R_2/\Zbq (shT) R_2/\∀(n av aw ax ay az a0:Int)(a:Option Addr)(a1 c:Nat)(m':Mem),lV [int u8 n,int u64 av,int u64 aw,int u64 ax,int u64 ay,int i64 az,int i64 a0,slice a a1
 c] λah=>lV (int u8 5::int u64 0::int u64 0::int u64 0::int u64 0::int i64 1::int i64 (-1:Int)::yL::ah) λa2=>Mem.le (mL.add b xL) m'->R_2 (agg (Array.mk ah)) m' []->∀(b:Nat),lX
 (slice (some (Addr.mk b 0 none)) 2 2) λyL=>lM (m'.add b a2) λmL=>m'.free b->∀(b b:Nat),lM (mL.add b [string (ByteArray.mk (Array.mk [110])),bool true,string bE0,Value.float .f64 0]) λai=>mL.free b->∀(aa:Nat),lX (slice (some (Addr.mk aa 0 none)) 2 2) λa3=>lM (ai.add aa [int u8 9,Value.float .f64 0,string (ByteArray.mk (Array.mk
 [110])),int i64 0,slice none 0 0,int u8 8,Value.float .f64 4607182418800017408,string bE0,int i64 0,slice none 0 0]) λmL=>ai.free aa->∀(ab:Nat),lM
 (mL.add ab [int u8 9,Value.float .f64 0,string (ByteArray.mk (Array.mk [110])),int i64 0,slice none 0 0,int u8 8,Value.float .f64 4611686018427387904,string bE0,int i64 0,slice none 0 0]) λaj=>lV [int u8 3,string bE0,int i64 1,int u8 0,Value.float .f64 0,string bE0,int i64 0,slice none 0 0,int u8 4,
 string bE0,int i64 0,int u8 4,Value.float .f64 0,string bE0,int i64 0,slice (some (Addr.mk ab 0 none)) 2 2] λxL=>mL.free ab->∀(ac:Nat),lM
 (aj.add ac xL) λmL=>lV [int u8 3,string (ByteArray.mk (Array.mk [110])),slice none 0 0,int u8 2,Value.float .f64 0,string bE0,int i64 0,a3,int u8 1,string
 bE0,slice (some (Addr.mk ac 0 none)) 2 2,int u8 0,Value.float .f64 0,string bE0,int i64 0,slice none 0 0] λxL=>aj.free ac->∀(ad:Nat),lM
 (mL.add ad xL) λak=>lV [int u8 1,bool false,bool false,int u8 3,int u64 0,int u64 0,int u64 0,int u64 0,int i64 0,int i64 0,yL,string bE0,int i64 0,slice (some (Addr.mk ad
 0 none)) 2 2,string (ByteArray.mk (Array.mk [98])),int i64 0,int u8 4,bool false,bool false,int u8 0,int u64 0,int u64 0,int u64 0,int u64 0,int i64 0,int i64 0,slice none 0 0,string
 bE0,int i64 5,slice none 0 0,string bE0,int i64 1] λxL=>mL.free ad->∀(ae:Nat),lM (ak.add ae xL) λmL=>ak.free ae->∀(af:Nat),lM
 (mL.add af [int u8 3,bool false,bool false,int u8 0,int u64 0,int u64 0,int u64 0,int u64 0,int i64 0,int i64 0,slice none 0 0,string bE0,int i64 0,slice none 0 0,string
 bE0,int i64 0]) λal=>mL.free af->∀(ag:Nat),al.free ag->rtM m (al.add ag [string (ByteArray.mk (Array.mk [97])),slice (some (Addr.mk ae 0 none)) 2 2,string
 (ByteArray.mk (Array.mk [98])),slice (some (Addr.mk af 0 none)) 1 1]) R (agg (Array.mk [int i64 9,slice (some (Addr.mk b 0 none)) 1 1,slice (some (Addr.mk ag 0 none)) 2 2]))):CX Tryz.prog 41 #[] m [] R:=
 Zad (E:=ZgE) Zap mix Tryz.func41 (by kernel_rfl) (Eq.mp (by kernel_rfl) h)
def Zji:Env:={ EB with
 joins:=(λi=>bif Nat.beq i 6 then some [(35,.bool)]else none) }
theorem Zhz  (m:Mem)(R:RT)(h:
 ∃(R_1:RT),True/\CX Tryz.prog 41 (Array.mk []) m [] R_1/\Zbq (Shape.agg [Shape.int i64,Shape.slice,Shape.slice]) R_1/\∀(n:Int)(a:Option Addr)(a6 c:Nat)(ah:Option Addr)(ai a7:Nat)(m':Mem),lV
 [int i64 n,slice a a6 c,slice ah ai a7] λxL=>lX (agg (Array.mk xL)) λyL=>m.le m'->R_1 yL m' []->∀(b:Nat),lE [some (Box.mk b xL 32 3 false true)] λxL=>atA ah λb o=>Zae (0:Int) ai/\∃
 (v:Value),m' b (o+0+1)=some v/\chk (ZbT v) (atA (slA v) λb o=>Zae (0:Int) (slN v)/\∃v aj ak al am an ao ap aq ar au av aw ax ay az:Value,lV [v,aj,ak,al,am,an,ao,ap,aq,ar,au,av,aw,ax,ay,az] λab=>
 lV [agg (Array.mk ab)] λac=>m'.reads b (o+0) ab/\∀(b:Nat),lE (some (Box.mk b ab 47 16 false true)::xL) λxL=>chk (v.oneCell'&&(aj.oneCell'&&(ak.oneCell'&&(al.oneCell'
 && (am.oneCell'&&(an.oneCell'&&(ao.oneCell'&&(ap.oneCell'&&(aq.oneCell'&&(ar.oneCell'&&(au.oneCell'&&(av.oneCell'&&(aw.oneCell'&&(ax.oneCell'
 && (ay.oneCell'&&(az.oneCell'&&true)))))))))))))))) (kS Tryz.prog 11 [yL] m' λa n c m'=>∃(R_2:RT),True/\CX Tryz.prog 13 (Array.mk [yL,int i64 0,int i64 0]) m' [] R_2/\Zbq (Shape.tup
 [Shape.agg [Shape.int i64,Shape.slice,Shape.slice],Shape.int i64]) R_2/\∀(a8:Int)(a9:Option Addr)(ba c:Nat)(bb:Option Addr)(bc bd:Nat)(a0:Int)(ad:Mem),lV [int i64 a8,slice a9 ba c,slice bb bc
 bd] λae=>m'.le ad->R_2 (tuple (Array.mk [agg (Array.mk ae),int i64 a0])) ad []->∀(b:Nat),lE (some (Box.mk b ae 32 3 false true)::xL) λxL=>kS Tryz.prog 32 [yL] ad λa1 af c m'=>∃(b:Bool),br
 (!a0 == (0:Int)) (Zac xL/\[bool true]=[bool b]) (br (!(↑n:Int) == (11:Int)) (Zac xL/\[bool true]=[bool b]) (Zac xL/\[bool !(↑af:Int) == (2:Int)]=[bool b]))/\br b (rtM m m' R (bool false)) (∃
 (R_3:RT),True/\CX Tryz.prog 21 (Array.mk [yL]) m' [] R_3/\Zbq (Shape.agg [Shape.int i64,Shape.int i64,Shape.int i64,Shape.int i64,Shape.int i64,Shape.int i64]) R_3/\∀(be bf bg bh bi bj:Int)(aa:Mem),lX
 (agg (Array.mk [int i64 be,int i64 bf,int i64 bg,int i64 bh,int i64 bi,int i64 bj])) λyL=>m'.le aa->R_3 yL aa []->∃(b:Bool),EqIs Tryz.prog 75 yL (agg (Array.mk [int i64 2,int i64 3,int i64 5,int
 i64 2,int i64 2,int i64 2])) b/\br b (atA a1 λb o=>Zae (0:Int) af/\∃(v:Value),aa b (o+0)=some v/\∀(b:Nat),aa.free b->kB Tryz.prog 38 [v,slice (some (Addr.mk b 0 none)) 1 1] (aa.add  b [int i64 1]) λb m'=>br b (atA a1 λb o=>Zae (1:Int) af/\∃(v:Value),m' b (o+1)=some v/\chk (ZbT v) (br ((↑(slN v):Int) == (0:Int)) (kS Tryz.prog 27 ac m' λbk bl c m'=>∀(b:Nat),
 m'.free b->kB Tryz.prog 42 [slice bk bl c,slice (some (Addr.mk b 0 none)) 1 1] (m'.add b [string (ByteArray.mk (Array.mk [110]))]) λb m'=>br b (kS Tryz.prog 28 ac m' λbm bn c m'=>∀(b:
 Nat),m'.free b->kB Tryz.prog 42 [slice bm bn c,slice (some (Addr.mk b 0 none)) 1 1] (m'.add b [string (ByteArray.mk (Array.mk [110]))]) λb m'=>br b (kI Tryz.prog 30 ac m' λbo m'=>br (bo ==
 (1:Int)) (atA a λb o=>Zae (5:Int) n/\∃v a2 a3 a4 a5:Value,m'.reads b (o+25) [v,a2,a3,a4,a5]/\∃(b:Bool),EqIs Tryz.prog 27 (agg
 (Array.mk [v,a2,a3,a4,a5])) (agg (Array.mk [int i64 (-1:Int),int i64 0,int i64 0,int i64 1,int i64 (-1:Int)])) b/\br b (∃(R_4:RT),True/\CX Tryz.prog 21 (Array.mk [agg (Array.mk ae)]) m' [] R_4/\Zbq
 (Shape.agg [Shape.int i64,Shape.int i64,Shape.int i64,Shape.int i64,Shape.int i64,Shape.int i64]) R_4/\∀(n bp bq bs bt bu:Int)(ag:Mem),lX (agg (Array.mk [int i64 n,int i64 bp,int i64 bq,int i64 bs,int
 i64 bt,int i64 bu])) λyL=>m'.le ag->R_4 yL ag []->∃(b:Bool),EqIs Tryz.prog 75 yL (agg (Array.mk [int i64 2,int i64 2,int i64 0,int i64 0,int i64 0,int i64 0])) b/\rtM m ag R (bool b)) (rtM m m' R
 (bool false))) (rtM m m' R (bool false))) (rtM m m' R (bool false))) (rtM m m' R (bool false))) (rtM m m' R (bool false)))) (rtM m m' R (bool false))) (rtM m aa R (bool false)))))):CX Tryz.prog 9 #[] m [] R:=
 Zad (E:=Zji) Zap mix Tryz.func9 (by kernel_rfl) (Eq.mp (by kernel_rfl) h)
end Go.Proofs.YtpjepnkiiojgfaaGreat
end
