/- Part of the proof: functions of the program. No condition. -/
import Derived.Test.YtpjepnkiiojgfaaGreatPC25AU
import Derived.Test.YtpjepnkiiojgfaaGreatPC40M
import Derived.Test.YtpjepnkiiojgfaaGreatPC25E
import Derived.Test.YtpjepnkiiojgfaaGreatPC25MA
import Derived.Test.YtpjepnkiiojgfaaGreatMr
import Derived.Test.YtpjepnkiiojgfaaGreatPEnv
set_option linter.unusedVariables false
set_option linter.unusedSimpArgs false
set_option linter.unusedSectionVars false
noncomputable section
namespace Go.Proofs.YtpjepnkiiojgfaaGreat
open Go Go.Eng Go.Rx Go.Proofs Go.RowKit
set_option maxRecDepth 100000
theorem NmSt.up{m mm mL:Mem}{v0:Value}{a:Option Addr}{c:Nat}{l:List ByteArray}(h:NmSt m v0 mm a c l)(bU:mm.le mL):NmSt m v0 mL a c l:=⟨h.row.mono bU,mLt h.base (ZkB bU),h.new⟩
theorem ZvG{a:Option Addr}{n c b:Nat}(h:Yn (.slice a n c) b):∃o e,a=some ⟨b,o,e⟩:=by
 cases a with
 | none=>simp[Yn,Tok.blk]at h
 | some q=>
  obtain⟨b',o,e⟩:=q
  obtain rfl:b'=b:=by simpa[Yn,Tok.blk]using h
  exact⟨o,e,rfl⟩
structure Nl (l:List ByteArray)(a:Option Addr)(c:Nat):Prop where
 nil:l=[]->a=none
 cap:l.length<=c
def ZxP(l:List ByteArray):Value->Mem->List (List Value)->Prop:=λv m' _=>∃a c,v=.slice a l.length c/\rowRd m' a (Zb8 l)/\l.length<=c
theorem ZkM{l}:∀(v:Value)(m':Mem) (css:List (List Value)),ZxP l v m' css->Shape.fits .slice v=true:=λv _ _ ⟨_,_,e,_⟩=>by rw[e];rfl
def ZAU(v0:Value)(m:Mem)(l:List ByteArray):RTY:=λv m' css tvs=>∃a c,v=.tuple #[]/\css=[[.slice a l.length c]]/\tvs=[.slice a l.length c]/\rowRd m' a (Zb8 l)/\(∀b,Yn (.slice a l.length c) b->Yn v0 b\/(m.free b/\m.k b=none))/\Nl l a c
theorem ZjQ{v0 m l}:∀(v:Value)(m':Mem) (css:List (List Value)) (tvs:List Value),ZAU v0 m l v m' css tvs->Shape.fits (.tup []) v=true:=λv _ _ _ ⟨_,_,h,_⟩=>by rw[h];rfl
theorem Zoz(l out:List ByteArray)(la:Option Addr)(lc:Nat)(a:Option Addr)(c c0b:Nat)(m:Mem)(hl:rowRd (m.off (Yn (.slice a out.length c))) la (Zb8 l))(ho:rowRd m a (Zb8 out))(eF:Nl out a c)(hb:out.length+l.length<=100000):
  CXY Tryz.prog 108 #[.slice la l.length lc,.pointer (some ⟨c0b,0,none⟩)] m (Yn (.slice a out.length c)) [⟨c0b,[.slice a out.length c],80,1,false,true⟩] [⟨.slice a out.length c,1⟩] (ZAU (.slice a out.length c) m (l.foldl ZeK out)):=by
 apply ZhZ
 refine⟨λxs css tvs mm q=>∃(i:Nat)(a':Option Addr)(c':Nat),i<=l.length/\xs=[.int .i64 i]/\css=[[.slice a' ((l.take i).foldl ZeK out).length c']]/\tvs=[.slice none 0 0,.slice a' ((l.take i).foldl ZeK out).length c']/\NmSt m (.slice a out.length c) mm a' c' ((l.take i).foldl ZeK out)/\Nl ((l.take i).foldl ZeK out) a' c'/\q=l.length - i,
  ⟨_,0,a,c,by omega,rfl,rfl,rfl,⟨ho,Mem.le_refl _,λb h=>.inl h⟩,eF,rfl⟩,?_⟩
 rintro z cs a1 n1 c1 a2 n2 c2 mm q _ ⟨i,a',c',hi,hz,bN,cH,hS,hn,rfl⟩
 obtain rfl:z=i:=by simpa using hz
 simp only[List.cons.injEq,Value.slice.injEq,and_true]at bN cH
 obtain⟨⟨rfl,rfl,rfl⟩,rfl,rfl,rfl⟩:=cH
 subst bN
 have aH:=Zmh (l.take i) out
 rw[List.length_take]at aH
 have jG:IntKind.i64.wrap ((i:Int)+1)=((i+1:Nat):Int):=by rw[Zak (by omega) (by omega)];rfl
 refine ZaG (λaC=>?_) (λbL=>⟨rfl,?_⟩)
 ·have aC:(i:Int) < (l.length:Nat):=aC
  obtain⟨s,hs⟩:=ZcC (show i < l.length by omega)
  have bW:=Zfa ZeK out hs
  obtain⟨b,o,ha,hv⟩:=Zz0 (hl.mono (mLt hS.base (Mem.off_le _ _))) (show(Zb8 l)[i]?=some (.string s) by unfold Zb8;rw[List.getElem?_map,hs];rfl)
  refine⟨b,o,ha,⟨by omega,aC⟩,_,hv,Zal rfl (Zah (ZgN ((l.take i).foldl ZeK out) a2 c2 s mm (by omega) hS.row) λm2 aK=>?_)⟩
  have vn:=hS.up aK
  refine Zab (λh=>Zal rfl (Zaa rfl λb3 gA=>Zaa rfl ?_)) (λh=>⟨rfl,rfl,?_⟩)
  ·have fV:((l.take i).foldl ZeK out).any (λy=>eqS s y)=false:=by simpa using h
   have ew:ZeK ((l.take i).foldl ZeK out) s=(l.take i).foldl ZeK out++[s]:=Zy5 fV
   rw[ew]at bW
   have bU:m2.le (m2.add b3 [.string s]):=Mem.le_add gA _
   have vo:=vn.up bU
   refine⟨.inl rfl,Zb8 ((l.take i).foldl ZeK out),[.string s],by rw[Zea];exact(Nat.mul_one _).symm,rfl,vo.row,.inr ⟨b3,0,rfl,Zd9 m2 b3 _⟩,λu hu=>?_,by show(((l.take i).foldl ZeK out).length+1)*16<=_;omega,by show((l.take i).foldl ZeK out).length+1<=_;omega,λa5 c5 m5 cO bP hT=>⟨rfl,rfl,l.length - (i+1),by omega,i+1,a5,c5,by omega,by rw[jG],?_,?_,?_,?_,rfl⟩⟩
   ·obtain rfl:u=.string s:=by simpa using hu
    rfl
   ·rw[bW,zA1];rfl
   ·rw[bW,zA1];rfl
   ·have e:((l.take i).foldl ZeK out++[s]).length=((l.take i).foldl ZeK out).length+1:=by rw[zA1];rfl
    rw[bW]
    refine vo.step (mLt (Mem.off_le _ _) cO) (by unfold Zb8 at bP ⊢;rw[List.map_append];exact bP) λb' hb'=>?_
    obtain⟨oo,oe,hb'⟩:=ZvG hb'
    rcases hT.2 with h|⟨b6,o6,ha',h⟩
    ·rw[h]at hb';cases hb'
    ·rw[ha']at hb';cases hb'
     rcases h with h|⟨_,h2,h3⟩
     ·left
      have h:a2=a5:=h
      rw[h,ha'];simp[Yn,Tok.blk]
     ·exact .inr ⟨h2,h3⟩
   ·rw[bW];exact⟨λe=>by simp at e,by rw[zA1];exact hT.1⟩
  ·have fV:((l.take i).foldl ZeK out).any (λy=>eqS s y)=true:=by simpa using h
   have ew:ZeK ((l.take i).foldl ZeK out) s=(l.take i).foldl ZeK out:=Zy6 fV
   rw[ew]at bW
   exact⟨l.length - (i+1),by omega,i+1,a2,c2,by omega,by rw[jG],by rw[bW],by rw[bW],by rw[bW];exact vn,by rw[bW];exact hn,rfl⟩
 ·have bL:¬(i:Int) < (l.length:Nat):=bL
  have hi:i=l.length:=by omega
  subst hi
  rw[List.take_length]at hS hn ⊢
  exact⟨a2,c2,rfl,rfl,rfl,hS.row,hS.new,hn⟩
def Zz1(r:Ru):Value->Mem->List (List Value)->Prop:=λv m' _=>∃s:Sc,v=s.v/\RepC m' s/\s.light=ZhG r/\Zb3 s=r.acts
theorem Zfg{r:Ru}:∀(v:Value)(m':Mem) (css:List (List Value)),Zz1 r v m' css->Shape.fits (.agg [.int .i64,.slice,.slice]) v=true:=λv _ _ ⟨t,e,_⟩=>by rw[e];rfl
theorem ZsY(r:Ru)(m:Mem)(hr:RepR m r):CX Tryz.prog 75 #[.agg r.cs.toArray] m [] (Zz1 r):=by
 apply ZsX
 intro b m1 aE _ b1 b2 pA b3 gA
 have h2:m1.le (m1.add b2 r.cs):=Mem.le_add pA _
 have h3:(m1.add b2 r.cs).le ((m1.add b2 r.cs).add b3 [.string ⟨#[]⟩,.slice (some ⟨b2,0,none⟩) 1 1]):=Mem.le_add gA _
 have vp:=mLt aE (mLt h2 h3)
 refine⟨_,vp,Mem.le_refl _,⟨0,none,0,[],some ⟨b3,0,none⟩,1,[⟨⟨#[]⟩,some ⟨b2,0,none⟩,1,[r]⟩]⟩,rfl,⟨by show I64 0;unfold I64;omega,by show 0<=few;omega,.inl rfl,by simp,by show 1<=few;unfold few;omega,Zbi,λx hx=>?_,Nat.le_refl _,Nat.le_refl _⟩,?_,?_⟩
 ·simp only[List.mem_singleton]at hx
  subst hx
  have aB:rowRd (m1.add b2 r.cs) (some ⟨b2,0,none⟩) ([r].map Ru.cs).flatten:=by simpa using(Zbi (m:=m1) (b:=b2) (cs:=r.cs))
  exact⟨by show(ByteArray.mk #[]).size<=_;decide,by show 1<=few;unfold few;omega,aB.mono h3,λp hp=>by
   simp only[List.mem_singleton]at hp;subst hp;exact hr.mono vp⟩
 ·unfold Sc.light Sc.weight ZhG
  simp only[List.length_nil,List.length_singleton,List.map_cons,List.map_nil,ZaB,wS]
  congr 1
  refine propext ?_
  constructor <;> intro h <;> simp only[Int.add_zero]at h ⊢ <;> omega
 ·simp[Zb3,Zge]
theorem Zrg(e:E){M0 mm:Mem}{v0:Value}{a:Option Addr}{c:Nat}{o:List ByteArray}(hS:NmSt M0 v0 mm a c o)(hn:Nl o a c)(he:RepE (M0.off (Yn v0)) e):
  CX Tryz.prog 109 #[e.v] mm [] (λv m' _=>∃a1 c1,v=.slice a1 e.vars.length c1/\∃m1:Mem,m1.le m'/\rowRd (m1.off (Yn (.slice a o.length c))) a1 (Zb8 e.vars)):=by
 refine((Zvv e (mm.off (Yn (.slice a o.length c))) (RepE.mono' he hS.base)).frame2 (Mem.off_le _ _)).mono ?_
 rintro v m' css _ ⟨m1,h1,h2,h3,a1,c1,hv,aB⟩
 refine⟨a1,c1,hv,m1,h2,?_⟩
 rcases aB with h|⟨b,oo,ha,h⟩
 ·exact .inl h
 ·refine .inr ⟨b,oo,ha,λj u hj=>?_⟩
  by_cases hY:Yn (.slice a o.length c) b
  ·exfalso
   obtain⟨o2,e2,fh⟩:=ZvG hY
   have ho:o≠[]:=λe=>by rw[hn.nil e]at fh;cases fh
   rcases hS.row with h4|⟨b4,o4,lr,h4⟩
   ·have:=congrArg List.length h4
    rw[Zea]at this
    exact ho (List.eq_nil_of_length_eq_zero (by simpa using this))
   ·rw[fh]at lr;cases lr
    have aC:0 < (Zb8 o).length:=by rw[Zea];exact List.length_pos_iff.2 ho
    have h5:=h3 _ _ _ (h4 0 _ (zA3 aC)) (oo+j)
    have h6:(mm.off (Yn (.slice a o.length c))) b (oo+j)=none:=Mem.off_free hY _
    rw[h6]at h5
    have h7:=h j u hj
    rw[h5]at h7;cases h7
  ·rw[Mem.off_at hY];exact h j u hj
theorem ZAF(m:Mem):NmSt m (.slice none 0 0) m none 0 []:=⟨.inl rfl,Mem.le_refl _,λb h=>.inl h⟩
theorem NmSt.put{M0 mm m':Mem}{v0:Value}{a a':Option Addr}{c c':Nat}{o l:List ByteArray}(h:NmSt M0 v0 mm a c o)(bU:(mm.off (Yn (.slice a o.length c))).le m')(hr:rowRd m' a' (Zb8 l))(hn:∀b,Yn (.slice a' l.length c') b->Yn (.slice a o.length c) b\/(mm.free b/\mm.k b=none)):NmSt M0 v0 m' a' c' l:=h.step bU hr hn
theorem NmSt.low{m mm:Mem}{a:Option Addr}{c:Nat}{l:List ByteArray}(h:NmSt m (.slice none 0 0) mm a c l):m.le mm:=by
 have hY:∀b,¬Yn (.slice none 0 0) b:=λb hb=>by simp[Yn,Tok.blk]at hb
 have fI:m.le (m.off (Yn (.slice none 0 0))):=⟨λb o v hv=>by rw[Mem.off_at (hY b)];exact hv,λb e he=>by rw[Mem.off_k (hY b)];exact he⟩
 exact mLt fI (mLt h.base (Mem.off_le _ _))
theorem Zud(m:Mem):m.le (m.off (Yn (.slice none 0 0))):=Ze3 (Mem.le_refl m) λb hb=>by simp[Yn,Tok.blk]at hb
theorem ZxQ{M0 mm:Mem}{v0:Value}{a:Option Addr}{c b:Nat}{o:List ByteArray}(hS:NmSt M0 v0 mm a c o)(hn:Nl o a c)(hf:mm.free b):¬Yn (.slice a o.length c) b:=λhY=>by
 obtain⟨o2,e2,fh⟩:=ZvG hY
 have ho:o≠[]:=λe=>by rw[hn.nil e]at fh;cases fh
 rcases hS.row with h4|⟨b4,o4,lr,h4⟩
 ·have:=congrArg List.length h4
  rw[Zea]at this
  exact ho (List.eq_nil_of_length_eq_zero (by simpa using this))
 ·rw[fh]at lr;cases lr
  have aC:0 < (Zb8 o).length:=by rw[Zea];exact List.length_pos_iff.2 ho
  have:=h4 0 _ (zA3 aC)
  rw[hf]at this;cases this
theorem ZoA{cs:List Value}{a7:Option Addr}{c7 d7:Nat}{v0:Value}{m m7:Mem}{l:List ByteArray}{v:Value}(h:ZAU v0 m l v m7 [cs] [.slice a7 c7 d7]):c7=l.length/\cs=[.slice a7 l.length d7]/\rowRd m7 a7 (Zb8 l)/\(∀b,Yn (.slice a7 l.length d7) b->Yn v0 b\/(m.free b/\m.k b=none))/\Nl l a7 d7:=by
 obtain⟨a8,c8,_,bN,cH,aB,bK,eF⟩:=h
 simp only[List.cons.injEq,Value.slice.injEq,and_true]at bN cH
 obtain⟨rfl,rfl,rfl⟩:=cH
 exact⟨rfl,bN,aB,bK,eF⟩
theorem Zue(r:Ru)(w:Bool)(m:Mem)(hr:RepR m r):CX Tryz.prog 74 #[.agg r.cs.toArray,.bool w] m [] (ZxP (ZoM w r)):=by
 have oB:r.acts.length<=100000:=hr.len
 apply Zos
 intro b m1 aE jx fW _ b1 m2 aK _ _ _
 have cR:=mLt aE aK
 refine⟨_,trivial,ZsY r m2 (hr.mono cR),Zfg,?_⟩
 rintro n a n1 c a1 n2 c1 m3 aQ ⟨s,hv,hs,eR,nA⟩
 rw[hv]
 have dQ:=mLt cR aQ
 refine Zah (Zb9 s m3 hs) λm4 bZ=>Zab (λh=>Zaf (mLt dQ bZ) ?_) (λh=>?_)
 ·have hl:ZhG r=false:=by rw[<-eR];simpa using h
  unfold ZoM
  rw[hl]
  exact⟨none,0,rfl,.inl rfl,Nat.le_refl _⟩
 have hl:ZhG r=true:=by rw[<-eR];simpa using h
 have gB:=mLt dQ bZ
 intro b3 b4
 refine⟨_,trivial,ZsY r m4 (hr.mono gB),Zfg,?_⟩
 rintro n' a' n1' c' a1' n2' c1' m5 cO ⟨s',hv',hs',tE,nQ⟩
 rw[hv']
 have iz:=mLt gB cO
 refine Zan (Zhu s' m5) (λv m' css h=>by obtain⟨_,rfl,_⟩:=h;rfl) ?_
 rintro g fi ca m6 eY ⟨b5,fN,tF⟩
 obtain⟨rfl,rfl,rfl⟩:=Zcp fN
 have gC:=mLt iz eY
 have mH:=ZfQ s' m6 b5 (hs'.mono eY) tF
 rw[nQ]at mH
 have tG:=hr.mono gC
 refine⟨m6,Mem.le_refl _,_,mH,λy hy=>?_,λ_ css tvs mm q=>∃(a:Option Addr)(c:Nat),q<=r.acts.length/\css=[[.slice a ((r.acts.take q).foldl (ZfM w) []).length c]]/\tvs=[.slice a ((r.acts.take q).foldl (ZfM w) []).length c]/\NmSt m6 (.slice none 0 0) mm a c ((r.acts.take q).foldl (ZfM w) [])/\Nl ((r.acts.take q).foldl (ZfM w) []) a c,⟨none,0,by omega,rfl,rfl,ZAF m6,⟨λ_=>rfl,Nat.le_refl _⟩⟩,?_,?_⟩
 ·obtain⟨z,_,rfl⟩:=List.mem_map.1 hy;rfl
 ·rintro k0 s0 pa pn pc k1 x1 s1 g1 sa sn sc cs ta tn tc mm q i9 hq ⟨a',c',gZ,bN,cH,hS,hn⟩ b6
  simp only[List.cons.injEq,Value.slice.injEq,and_true]at bN cH
  obtain⟨rfl,rfl,rfl⟩:=cH
  subst bN
  have hq':(List.map (λa:Ac=>[Value.agg a.cs.toArray]) r.acts)[(q:Nat)]?=some [Value.agg #[.int .u8 k0,.string s0,.slice pa pn pc,.int .u8 k1,x1,.string s1,.int .i64 g1,.slice sa sn sc]]:=hq
  rw[List.getElem?_map]at hq'
  obtain⟨x,hx,pY⟩:=Option.map_eq_some_iff.1 hq'
  have pB:=(zA0 hx).1
  simp only[Ac.cs,List.cons.injEq,Value.agg.injEq,Array.mk.injEq,Value.int.injEq,Value.string.injEq,Value.slice.injEq,true_and,and_true]at pY
  obtain⟨rfl,rfl,⟨rfl,rfl,rfl⟩,rfl,rfl,rfl,rfl,rfl,rfl,rfl⟩:=pY
  have bW:=Zfa (ZfM w) [] hx
  have xF:=Zw3 w hl q hx
  have dJ:=tG.all x (zA2 hx)
  have yV:=Zqk x
  have jD:x.parts.length<=100000:=dJ.n
  obtain⟨o,ho⟩:∃o,o=(r.acts.take q).foldl (ZfM w) []:=⟨_,rfl⟩
  rw[<-ho]at hS hn bW xF ⊢
  have ji:ZfM w o x=o->NmSt m6 (.slice none 0 0) mm ta tc o/\((r.acts.take (q+1)).foldl (ZfM w) []=o):=λh=>⟨hS,by rw[bW,h]⟩
  refine Zaa rfl ?_
  cases w with
  | true=>
   refine ZqY rfl ⟨x.k == 2||x.k == 3,Zab (λh=>⟨rfl,rfl,by rw[h];rfl⟩) (λh=>⟨rfl,rfl,by rw[h];rfl⟩),Zab (λh b7 mr=>?_) (λh=>?_)⟩
   ·have hu:ZfM true o x=ZeK o x.s:=by
     unfold ZfM;rw[if_pos rfl,if_pos (by simpa using h)]
    have q6:=hS.up (Mem.le_add mr [.string x.s])
    have tH:=ZxQ hS hn mr
    refine⟨_,_,Zoz [x.s] o (some ⟨b7,0,none⟩) 1 ta tc b3 (mm.add b7 [.string x.s]) ?_ q6.row hn (by simp;omega),λt ht bb dN=>?_,λbb dN=>.inl ⟨_,by simp,dN⟩,ZjQ,?_⟩
    ·refine .inr ⟨b7,0,rfl,λj v hj=>?_⟩
     rw[Mem.off_at tH]
     exact Zd9 mm b7 _ j v hj
    ·obtain rfl:t=_:=by simpa using ht
     exact dN
    ·rintro m7 fD _ cs7 a7 c7 d7 hp
     obtain⟨rfl,rfl,aB,bK,eF⟩:=ZoA hp
     have hS':=q6.step fD aB bK
     rw[show[x.s].foldl ZeK o=ZeK o x.s from rfl,<-hu,<-bW]at hS' eF ⊢
     exact⟨hS'.low,rfl,a7,d7,by omega,rfl,rfl,hS',eF⟩
   ·have hu:ZfM true o x=o:=by
     unfold ZfM;rw[if_pos rfl,if_neg (by simpa using h)]
    have:=ji hu
    exact⟨i9,rfl,ta,tc,by omega,by rw[this.2],by rw[this.2],by rw[this.2];exact hS,by rw[this.2];exact hn⟩
  | false=>
   have hu:ZfM false o x=x.parts.foldl ZcY (Zcl o x):=by unfold ZfM;rw[if_neg (by decide)]
   have iB:=ZqI x.e
   refine Zn4 rfl ⟨λ_ css tvs mm'=>∃(a:Option Addr)(c:Nat),css=[[.slice a (Zcl o x).length c]]/\tvs=[.slice a (Zcl o x).length c]/\NmSt m6 (.slice none 0 0) mm' a c (Zcl o x)/\Nl (Zcl o x) a c,Zab (λh=>?_) (λh=>?_),?_⟩
   ·have hk:Zcl o x=x.e.vars.foldl ZeK o:=by unfold Zcl;rw[if_pos (by simpa using h)]
    refine⟨λ_ _ _=>_,_,rfl,Zrg x.e hS hn (RepE.mono' dJ.e (Zud m6)),(λv _ _ ⟨_,_,e,_⟩=>by rw[e];rfl),?_⟩
    rintro a8 n8 c8 m8 eZ ⟨a9,c9,j9,m9,gT,kw⟩ M hM vq
    simp only[Value.slice.injEq]at j9
    obtain⟨rfl,rfl,rfl⟩:=j9
    have pZ:=hS.up hM
    refine⟨_,_,Zoz x.e.vars o a8 c8 ta tc b3 M (kw.mono (ZkB (mLt gT vq))) pZ.row hn (by omega),λt ht bb dN=>?_,λbb dN=>.inl ⟨_,by simp,dN⟩,ZjQ,?_⟩
    ·obtain rfl:t=_:=by simpa using ht
     exact dN
    ·rintro m7 fD _ cs7 a7 c7 d7 hp
     obtain⟨rfl,rfl,aB,bK,eF⟩:=ZoA hp
     have hS':=pZ.step fD aB bK
     rw[<-hk]at hS' eF ⊢
     exact⟨rfl,rfl,a7,d7,rfl,rfl,hS',eF⟩
   ·have hk:Zcl o x=o:=by unfold Zcl;rw[if_neg (by simpa using h)]
    exact⟨rfl,rfl,ta,tc,by rw[hk],by rw[hk],by rw[hk];exact hS,by rw[hk];exact hn⟩
   rintro cs ja jn jc m7 _ ⟨a',c',bN,cH,q6,xG⟩
   simp only[List.cons.injEq,Value.slice.injEq,and_true]at bN cH
   obtain⟨rfl,rfl,rfl⟩:=cH
   subst bN
   refine⟨λxs css tvs mm' q=>∃(j:Nat)(a:Option Addr)(c:Nat),j<=x.parts.length/\xs=[.int .i64 j]/\css=[[.slice a ((x.parts.take j).foldl ZcY (Zcl o x)).length c]]/\tvs=[.slice a ((x.parts.take j).foldl ZcY (Zcl o x)).length c]/\NmSt m6 (.slice none 0 0) mm' a c ((x.parts.take j).foldl ZcY (Zcl o x))/\Nl ((x.parts.take j).foldl ZcY (Zcl o x)) a c/\q=x.parts.length - j,⟨_,0,ja,jc,by omega,rfl,rfl,rfl,q6,xG,rfl⟩,?_⟩
   rintro z cs a1 n1 c1 m8 q2 _ ⟨j,a',c',hj,hz,bN,cH,kR,jF,rfl⟩
   obtain rfl:z=j:=by simpa using hz
   simp only[List.cons.injEq,Value.slice.injEq,and_true]at bN cH
   obtain⟨rfl,rfl,rfl⟩:=cH
   subst bN
   have ku:IntKind.i64.wrap ((j:Int)+1)=((j+1:Nat):Int):=by rw[Zak (by omega) (by omega)];rfl
   have xH:=Zhq o x j
   refine ZaG (λaC=>?_) (λbL=>?_)
   ·have aC:(j:Int) < (x.parts.length:Nat):=aC
    obtain⟨p,hp⟩:=ZcC (show j < x.parts.length by omega)
    have q7:=dJ.mono kR.low
    obtain⟨b8,o8,nP,nR⟩:=Zai Pt.len q7.row hp (by omega)
    have ib:=dJ.all p (zA2 hp)
    have fx:=Zfa ZcY (Zcl o x) hp
    have xI:=Zhq o x (j+1)
    have tI:=ZqI p.e
    obtain⟨o',ho'⟩:∃o',o'=(x.parts.take j).foldl ZcY (Zcl o x):=⟨_,rfl⟩
    rw[<-ho']at kR jF fx xH ⊢
    refine⟨b8,o8,nP,⟨by omega,aC⟩,_,_,_,_,_,_,_,_,nR,λb9=>Zaa rfl (Zaa rfl (Zab (λh=>Zaa rfl λb10 gU=>?_) (λh=>Zaa rfl (Zab (λh2=>?_) (λh2=>?_)))))⟩
    ·have h:(p.k == 2)=true:=h
     have hk:ZcY o' p=ZeK o' p.s:=by unfold ZcY;rw[if_pos (by simpa using h)]
     have p6:=kR.up (Mem.le_add gU [.string p.s])
     have tH:=ZxQ kR jF gU
     refine⟨_,_,Zoz [p.s] o' (some ⟨b10,0,none⟩) 1 a1 c1 b3 (m8.add b10 [.string p.s]) ?_ p6.row jF (by simp;omega),λt ht bb dN=>?_,λbb dN=>.inl ⟨_,by simp,dN⟩,ZjQ,?_⟩
     ·refine .inr ⟨b10,0,rfl,λj v hj=>?_⟩
      rw[Mem.off_at tH]
      exact Zd9 m8 b10 _ j v hj
     ·obtain rfl:t=_:=by simpa using ht
      exact dN
     ·rintro m9 gT _ cs9 a9 c9 d9 tJ
      obtain⟨rfl,rfl,aB,bK,eF⟩:=ZoA tJ
      have hS':=p6.step gT aB bK
      rw[show[p.s].foldl ZeK o'=ZeK o' p.s from rfl,<-hk,<-fx]at hS' eF ⊢
      exact⟨rfl,rfl,x.parts.length - (j+1),by omega,j+1,a9,d9,by omega,by rw[ku],rfl,rfl,hS',eF,rfl⟩
    ·have h:(p.k == 2)=false:=h
     have h2:(p.k == 4)=true:=h2
     have hk:ZcY o' p=p.e.vars.foldl ZeK o':=by unfold ZcY;rw[if_neg (by simpa using h),if_pos (by simpa using h2)]
     refine⟨λ_ _ _=>_,_,rfl,Zrg p.e kR jF (RepE.mono' ib.e (Zud m6)),(λv _ _ ⟨_,_,e,_⟩=>by rw[e];rfl),?_⟩
     rintro a10 n10 c10 m10 fJ ⟨a9,c9,j9,m9,gT,kw⟩ M hM p7
     simp only[Value.slice.injEq]at j9
     obtain⟨rfl,rfl,rfl⟩:=j9
     have pZ:=kR.up hM
     refine⟨_,_,Zoz p.e.vars o' a10 c10 a1 c1 b3 M (kw.mono (ZkB (mLt gT p7))) pZ.row jF (by omega),λt ht bb dN=>?_,λbb dN=>.inl ⟨_,by simp,dN⟩,ZjQ,?_⟩
     ·obtain rfl:t=_:=by simpa using ht
      exact dN
     ·rintro m11 gd _ cs9 a9 c9 d9 tJ
      obtain⟨rfl,rfl,aB,bK,eF⟩:=ZoA tJ
      have hS':=pZ.step gd aB bK
      rw[<-hk,<-fx]at hS' eF ⊢
      exact⟨rfl,rfl,x.parts.length - (j+1),by omega,j+1,a9,d9,by omega,by rw[ku],rfl,rfl,hS',eF,rfl⟩
    ·have h:(p.k == 2)=false:=h
     have h2:(p.k == 4)=false:=h2
     have hk:ZcY o' p=o':=by unfold ZcY;rw[if_neg (by simpa using h),if_neg (by simpa using h2)]
     rw[hk]at fx
     exact⟨rfl,rfl,x.parts.length - (j+1),by omega,j+1,a1,c1,by omega,by rw[ku],by rw[fx],by rw[fx],by rw[fx];exact kR,by rw[fx];exact jF,rfl⟩
   ·have bL:¬(j:Int) < (x.parts.length:Nat):=bL
    have hj:j=x.parts.length:=by omega
    subst hj
    rw[List.take_length,<-hu,<-bW]at kR jF ⊢
    exact⟨kR.low,rfl,a1,c1,by omega,rfl,rfl,kR,jF⟩
 ·rintro cs a7 n7 c7 m7 fD ⟨a',c',_,bN,cH,hS,hn⟩
  rw[List.length_map,List.take_length]at bN cH hS hn
  simp only[List.cons.injEq,Value.slice.injEq,and_true]at bN cH
  obtain⟨rfl,rfl,rfl⟩:=cH
  subst bN
  refine Zal rfl (ZaH (mLt gC fD) ?_)
  unfold ZoM
  rw[hl,if_pos rfl]
  exact⟨a7,c7,rfl,hS.row,hn.cap⟩
theorem ZsZ(r:Ru)(m:Mem)(hr:RepR m r):CX Tryz.prog 27 #[.agg r.cs.toArray] m [] (ZxP (ZoM false r)):=by
 apply ZlM
 intro b m0 eM _
 refine Zan (Zue r false m0 (hr.mono eM)) ZkM ?_
 rintro a n c m1 aE ⟨a',c',hv,aB,hc⟩
 exact ZaH (mLt eM aE) ⟨a',c',hv,aB,hc⟩
theorem ZpL(r:Ru)(m:Mem)(hr:RepR m r):CX Tryz.prog 28 #[.agg r.cs.toArray] m [] (ZxP (ZoM true r)):=by
 apply ZjN
 intro b m0 eM _
 refine Zan (Zue r true m0 (hr.mono eM)) ZkM ?_
 rintro a n c m1 aE ⟨a',c',hv,aB,hc⟩
 exact ZaH (mLt eM aE) ⟨a',c',hv,aB,hc⟩
theorem ZvH(r:Ru)(m:Mem)(hr:RepR m r):CX Tryz.prog 27 #[.agg r.cs.toArray] m [] (ZxN (ZoM false r)):=(ZsZ r m hr).mono λ_ _ _ _ ⟨a,c,h1,h2,_⟩=>⟨a,c,h1,h2⟩
theorem Zs0(r:Ru)(m:Mem)(hr:RepR m r):CX Tryz.prog 28 #[.agg r.cs.toArray] m [] (ZxN (ZoM true r)):=(ZpL r m hr).mono λ_ _ _ _ ⟨a,c,h1,h2,_⟩=>⟨a,c,h1,h2⟩
theorem ZxR(r:Ru)(m:Mem)(hr:RepR m r):CX Tryz.prog 30 #[.agg r.cs.toArray] m [] (Ret (.int .i64 (Zw4 r))):=by
 have oB:r.acts.length<=100000:=hr.len
 apply Zou
 intro b m2 cR _
 refine⟨_,trivial,ZsY r m2 (hr.mono cR),Zfg,?_⟩
 rintro n a n1 c a1 n2 c1 m3 aQ ⟨s,hv,hs,eR,nA⟩
 rw[hv]
 have dQ:=mLt cR aQ
 refine Zah (Zb9 s m3 hs) λm4 bZ=>Zab (λh=>Zaf (mLt dQ bZ) ?_) (λh=>?_)
 ·have hl:ZhG r=false:=by rw[<-eR];simpa using h
  show Value.int _ _=Value.int _ _
  unfold Zw4
  rw[hl];rfl
 have hl:ZhG r=true:=by rw[<-eR];simpa using h
 have gB:=mLt dQ bZ
 intro b3
 refine⟨_,trivial,ZsY r m4 (hr.mono gB),Zfg,?_⟩
 rintro n' a' n1' c' a1' n2' c1' m5 cO ⟨s',hv',hs',tE,nQ⟩
 rw[hv']
 have iz:=mLt gB cO
 refine Zan (Zhu s' m5) (λv m' css h=>by obtain⟨_,rfl,_⟩:=h;rfl) ?_
 rintro g fi ca m6 eY ⟨b5,fN,tF⟩
 obtain⟨rfl,rfl,rfl⟩:=Zcp fN
 have gC:=mLt iz eY
 have mH:=ZfQ s' m6 b5 (hs'.mono eY) tF
 rw[nQ]at mH
 have tG:=hr.mono gC
 refine⟨_,mH,λy hy=>?_,λ_ css tvs mm q=>q<=r.acts.length/\css=[[.int .i64 ((r.acts.take q).foldl Zv6 (-1))]],⟨by omega,rfl⟩,?_,?_⟩
 ·obtain⟨z,_,rfl⟩:=List.mem_map.1 hy;rfl
 ·rintro k0 s0 pa pn pc k1 x1 s1 g1 sa sn sc cs mm q i9 hq ⟨gZ,bN⟩ b6
  obtain rfl:cs=_:=by simpa using bN
  have hq':(List.map (λa:Ac=>[Value.agg a.cs.toArray]) r.acts)[(q:Nat)]?=some [Value.agg #[.int .u8 k0,.string s0,.slice pa pn pc,.int .u8 k1,x1,.string s1,.int .i64 g1,.slice sa sn sc]]:=hq
  rw[List.getElem?_map]at hq'
  obtain⟨x,hx,pY⟩:=Option.map_eq_some_iff.1 hq'
  have pB:=(zA0 hx).1
  simp only[Ac.cs,List.cons.injEq,Value.agg.injEq,Array.mk.injEq,Value.int.injEq,Value.string.injEq,Value.slice.injEq,true_and,and_true]at pY
  obtain⟨rfl,rfl,⟨rfl,rfl,rfl⟩,rfl,rfl,rfl,rfl,rfl,rfl,rfl⟩:=pY
  have bW:=Zfa Zv6 (-1) hx
  have dJ:=tG.all x (zA2 hx)
  have jD:x.parts.length<=100000:=dJ.n
  generalize (r.acts.take q).foldl Zv6 (-1)=o at bW ⊢
  have hu:Zv6 o x=x.parts.foldl Zl0 (if x.k=3 then mxI o x.e.most else o):=rfl
  refine Zaa rfl ⟨λ_ css _ mm'=>m6.le mm'/\css=[[.int .i64 (if x.k=3 then mxI o x.e.most else o)]],Zab (λh=>?_) (λh=>?_),?_⟩
  ·have h:x.k=3:=by simpa using h
   refine⟨λ_ _ _=>_,Zal rfl ⟨_,rfl,Zrb x.e mm (RepE.mono' dJ.e i9),(λv _ _ h=>by rw[show v=_ from h];rfl),?_⟩⟩
   intro n8 m8 eZ q8
   obtain rfl:n8=_:=by simpa using(show Value.int .i64 n8=Value.int .i64 _ from q8)
   refine Zaa rfl λM hM vq=>⟨rfl,mLt i9 hM,?_⟩
   rw[if_pos h];rfl
  ·have h:¬x.k=3:=by simpa using h
   exact⟨rfl,i9,by rw[if_neg h]⟩
  rintro cs m7 _ ⟨fD,bN⟩
  obtain rfl:cs=_:=by simpa using bN
  generalize (if x.k=3 then mxI o x.e.most else o)=o1 at hu ⊢
  refine⟨λxs css _ mm' q=>∃j:Nat,j<=x.parts.length/\xs=[.int .i64 j]/\css=[[.int .i64 ((x.parts.take j).foldl Zl0 o1)]]/\q=x.parts.length - j,⟨_,0,by omega,rfl,rfl,rfl⟩,?_⟩
  rintro z cs m8 q2 eZ ⟨j,hj,hz,bN,rfl⟩
  obtain rfl:z=j:=by simpa using hz
  obtain rfl:cs=_:=by simpa using bN
  have ku:IntKind.i64.wrap ((j:Int)+1)=((j+1:Nat):Int):=by rw[Zak (by omega) (by omega)];rfl
  have qY:=mLt fD eZ
  refine ZaG (λaC=>?_) (λbL=>?_)
  ·have aC:(j:Int) < (x.parts.length:Nat):=aC
   obtain⟨p,hp⟩:=ZcC (show j < x.parts.length by omega)
   have q7:=dJ.mono qY
   obtain⟨b8,o8,nP,nR⟩:=Zai Pt.len q7.row hp (by omega)
   have ib:=q7.all p (zA2 hp)
   have fx:=Zfa Zl0 o1 hp
   generalize (x.parts.take j).foldl Zl0 o1=o' at fx ⊢
   refine⟨b8,o8,nP,⟨by omega,aC⟩,_,_,_,_,_,_,_,_,nR,λb9=>Zaa rfl (Zaa rfl (Zab (λh=>Zal rfl (Zaa rfl ⟨rfl,x.parts.length - (j+1),by omega,j+1,by omega,by rw[ku],?_,rfl⟩)) (λh=>Zaa rfl (Zab (λh2=>?_) (λh2=>⟨rfl,x.parts.length - (j+1),by omega,j+1,by omega,by rw[ku],?_,rfl⟩)))))⟩
   ·have h:(p.k == 3)=true:=h
    rw[fx,show Zl0 o' p=mxI o' p.g by unfold Zl0;rw[if_pos (by simpa using h)]];rfl
   ·have h:(p.k == 3)=false:=h
    have h2:(p.k == 4)=true:=h2
    refine⟨λ_ _ _=>_,Zal rfl ⟨_,rfl,Zrb p.e m8 ib.e,(λv _ _ h=>by rw[show v=_ from h];rfl),?_⟩⟩
    intro n10 m10 fJ tK
    obtain rfl:n10=_:=by simpa using(show Value.int .i64 n10=Value.int .i64 _ from tK)
    refine Zaa rfl λM hM p7=>⟨rfl,x.parts.length - (j+1),by omega,j+1,by omega,by rw[ku],?_,rfl⟩
    rw[fx,show Zl0 o' p=mxI o' p.e.most by unfold Zl0;rw[if_neg (by simpa using h),if_pos (by simpa using h2)]];rfl
   ·have h:(p.k == 3)=false:=h
    have h2:(p.k == 4)=false:=h2
    rw[fx,show Zl0 o' p=o' by unfold Zl0;rw[if_neg (by simpa using h),if_neg (by simpa using h2)]]
  ·have bL:¬(j:Int) < (x.parts.length:Nat):=bL
   have hj:j=x.parts.length:=by omega
   subst hj
   rw[List.take_length,<-hu,<-bW]
   exact⟨rfl,by omega,rfl⟩
 ·rintro cs m7 fD ⟨_,bN⟩
  rw[List.length_map,List.take_length]at bN
  obtain rfl:cs=_:=by simpa using bN
  refine Zal rfl (Zaf (mLt gC fD) ?_)
  show Value.int _ _=Value.int _ _
  unfold Zw4
  rw[hl,if_pos rfl]
theorem ZpM(L:List Pl):(L.map Pl.cs).flatten.length=L.length*5:=by
 induction L with
 | nil=>rfl
 | cons x l ih=>rw[List.map_cons,List.flatten_cons,zA1,ih,List.length_cons,Nat.succ_mul];show 5+_=_;omega
def PI(L:List Pl)(v t:Value)(m:Mem):Prop:=∃a c a1 n1 c1,v=.slice a L.length c/\t=.slice a1 n1 c1/\((a1=a/\n1=L.length/\c1=c)\/c < L.length+1)/\rowRd m a (L.map Pl.cs).flatten
theorem PI.mono{L:List Pl}{v t:Value}{m m':Mem}(h:PI L v t m)(hm:m.le m'):PI L v t m':=by
 obtain⟨a,c,a1,n1,c1,h1,h2,h3,h4⟩:=h
 exact⟨a,c,a1,n1,c1,h1,h2,h3,h4.mono hm⟩
theorem PI.app{L:List Pl}{a a1:Option Addr}{n c n1 c1:Nat}{m:Mem}{b:Nat}{Q:Option Addr->Nat->Mem->Prop}(z:Pl)(h:PI L (.slice a n c) (.slice a1 n1 c1) m)(hb:L.length<=30000)(hf:m.free b)
  (k:∀(a':Option Addr)(c':Nat)(m':Mem),m.le m'->PI (L++[z]) (.slice a' (n+1) c') (.slice a' (n+1) c') m'->Q a' c' m'):
  (Tok.mk (.slice a1 n1 c1) 5=Tok.mk (.slice a n c) 5\/Value.slice a n c=.slice none 0 0\/c < n+1)/\∃xs ys:List Value,xs.length=n*5/\ys.length=1*5/\rowRd (m.add b z.cs) a xs/\rowRd (m.add b z.cs) (some ⟨b,0,none⟩) ys/\(∀u∈ys,u.oneCell'=true)/\
   (n+1)*40<=140737488355328/\n+1<=9223372036854775807/\∀(a':Option Addr)(c':Nat)(m':Mem),(m.add b z.cs).le m'->rowRd m' a' (List.append xs ys)->Q a' c' m':=by
 obtain⟨a0,c0,a10,n10,c10,h1,h2,h3,h4⟩:=h
 simp only[Value.slice.injEq]at h1 h2
 obtain⟨rfl,rfl,rfl⟩:=h1
 obtain⟨rfl,rfl,rfl⟩:=h2
 have bU:m.le (m.add b z.cs):=Mem.le_add hf _
 refine⟨?_,(L.map Pl.cs).flatten,z.cs,ZpM L,rfl,h4.mono bU,.inr ⟨b,0,rfl,Zd9 m b _⟩,?_,by omega,by omega,λa' c' m' hm' hr'=>k a' c' m' (mLt bU hm') ⟨a',c',a',L.length+1,c',?_,rfl,.inl ⟨rfl,?_,rfl⟩,?_⟩⟩
 ·rcases h3 with⟨e1,e2,e3⟩|h3
  ·rw[e1,e2,e3];exact .inl rfl
  ·exact .inr (.inr h3)
 ·intro u hu
  simp only[Pl.cs,List.mem_cons,List.not_mem_nil,or_false]at hu
  rcases hu with rfl|rfl|rfl|rfl|rfl <;> rfl
 ·rw[zA1];rfl
 ·rw[zA1];rfl
 ·rw[List.map_append,List.flatten_append]
  have:(List.map Pl.cs [z]).flatten=z.cs:=by simp
  rw[this];exact hr'
def Zuf(s:Sc):Value->Mem->List (List Value)->Prop:=λv m _=>∃a c,v=.slice a s.places.length c/\rowRd m a (s.places.map Pl.cs).flatten
theorem ZoB{s}:∀(v:Value)(m':Mem) (css:List (List Value)),Zuf s v m' css->Shape.fits .slice v=true:=λv _ _ ⟨_,_,e,_⟩=>by rw[e];rfl
set_option maxHeartbeats 4000000 in
theorem Zs1(s:Sc)(m:Mem)(hr:RepC m s):CX Tryz.prog 11 #[s.v] m [] (Zuf s):=by
 apply ZjK
 intro b m1 aE _
 have iB:=hr.vlen
 have eR:=hr.len
 unfold few at iB eR
 refine Zah (Zb9 s m1 (hr.mono aE)) λm2 aK=>Zab (λhl=>?_) (λhl b2 pA=>?_)
 ·have hl:s.light=false:=by simpa using hl
  have he:s.places=[]:=by unfold Sc.places;rw[hl];rfl
  exact Zaf (mLt aE aK) ⟨none,0,by rw[he];rfl,by rw[he];exact .inl rfl⟩
 have hl:s.light=true:=by simpa using hl
 have jS:m2.le (m2.add b2 (Pl.cs top)):=Mem.le_add pA _
 have cR:=mLt aE (mLt aK jS)
 have jD:=Zpm s
 have qK:=Zi7 hl
 rw[qK,List.length_cons,zA1,show(Zde s.vars.length Vf).length=s.vars.length from ZfI _ _]at jD
 have hw:∀k:Nat,k<=100000->IntKind.i64.wrap ((k:Int)+1)=((k+1:Nat):Int):=λk hk=>by rw[Zak (by omega) (by omega)];rfl
 have start:PI [top] (.slice (some ⟨b2,0,none⟩) 1 1) (.slice none 0 0) (m2.add b2 (Pl.cs top)):=⟨_,1,_,_,_,rfl,rfl,.inr (by decide),.inr ⟨b2,0,rfl,by simpa using Zd9 m2 b2 (Pl.cs top)⟩⟩
 refine⟨λxs _ tks m' q=>∃(i:Nat)(v t:Value),i<=s.vars.length/\xs=[v,.int .i64 i]/\tks=[t]/\PI (top::Zde i Vf) v t m'/\q=s.vars.length - i,⟨s.vars.length,0,_,_,by omega,rfl,rfl,start,rfl⟩,?_⟩
 rintro a n c i' a1 n2 c1 m3 q aQ ⟨i,v,t,hi,hx,ht,hP,rfl⟩
 simp only[List.cons.injEq,Value.int.injEq,and_true,true_and]at hx ht
 obtain⟨rfl,rfl⟩:=hx
 subst ht
 have dQ:=mLt cR aQ
 have vr:(Zde i Vf).length=i:=ZfI _ _
 refine ZaG (λaC b3 gA=>?_) (λbL=>?_)
 ·have aC:(i:Int) < (s.vars.length:Int):=aC
  refine PI.app ⟨i,-1,-1,-1,-1⟩ hP (by rw[List.length_cons,vr];omega) gA λa' c' m' hm' hP'=>⟨rfl,s.vars.length - (i+1),by omega,i+1,_,_,by omega,by rw[hw i (by omega)],rfl,?_,rfl⟩
  rw[ZbS];exact hP'
 have bL:¬(i:Int) < (s.vars.length:Int):=bL
 obtain rfl:i=s.vars.length:=by omega
 generalize hB:top::Zde s.vars.length Vf=B at hP
 have yW:B.length=s.vars.length+1:=by rw[<-hB,List.length_cons,vr]
 refine⟨λxs _ tks m' q=>∃(i:Nat)(v t:Value),i<=s.states.length/\xs=[v,.int .i64 i]/\tks=[t]/\PI (B++Zde i (Ff s)) v t m'/\q=s.states.length - i,⟨s.states.length,0,_,_,by omega,rfl,rfl,by simpa[Zde]using hP,rfl⟩,?_⟩
 rintro a n c i' a1 n2 c1 m4 q bZ ⟨i,v,t,hi,hx,ht,hP,rfl⟩
 simp only[List.cons.injEq,Value.int.injEq,and_true,true_and]at hx ht
 obtain⟨rfl,rfl⟩:=hx
 subst ht
 have gB:=mLt dQ bZ
 refine ZaG (λaC=>?_) (λbL=>?_)
 ·have aC:(i:Int) < (s.states.length:Int):=aC
  obtain⟨x,hx⟩:=ZcC (show i < s.states.length by omega)
  have dJ:=hr.all x (zA2 hx)
  have lq:=dJ.len
  unfold few at lq
  have hF:Ff s i=plS i x:=by unfold Ff;rw[hx]
  have eD:(Zde i (Ff s)).length+(plS i x).length<=(Zde s.states.length (Ff s)).length:=by
   have:=Zqn (show i+1<=s.states.length by omega) (Ff s)
   rw[ZbS,zA1,hF]at this;exact this
  rw[Zsd,List.length_cons]at eD
  obtain⟨b3,o3,fu,lu⟩:=Zai Sta.len (hr.row.mono gB) hx (by omega)
  refine⟨b3,o3,fu,⟨by omega,aC⟩,_,_,lu,λb4=>Zaa rfl λb5 jt=>?_⟩
  refine PI.app ⟨-1,i,-1,-1,-1⟩ hP (by rw[zA1];omega) jt λa' c' m5 cO hP=>Zaa rfl ?_
  have iz:=mLt gB cO
  generalize vt:B++Zde i (Ff s)=L1 at hP
  have ij:L1.length=B.length+(Zde i (Ff s)).length:=by rw[<-vt,zA1]
  refine⟨λxs _ tks m' q=>∃(k:Nat)(v t:Value),k<=x.rules.length/\xs=[v,.int .i64 k]/\tks=[t]/\PI (L1++(⟨-1,i,-1,-1,-1⟩::Zde k (Gf i x))) v t m'/\q=x.rules.length - k,⟨x.rules.length,0,_,_,by omega,rfl,rfl,by simpa[Zde]using hP,rfl⟩,?_⟩
  rintro a n c k' a1 n2 c1 m6 q eY ⟨k,v,t,hk,hy,ht,hP,rfl⟩
  simp only[List.cons.injEq,Value.int.injEq,and_true,true_and]at hy ht
  obtain⟨rfl,rfl⟩:=hy
  subst ht
  have gC:=mLt iz eY
  refine ZaG (λdO=>?_) (λdX=>?_)
  ·have dO:(k:Int) < (x.rules.length:Int):=dO
   obtain⟨r,il⟩:=ZcC (show k < x.rules.length by omega)
   have gE:=dJ.all r (zA2 il)
   have oB:=gE.len
   unfold few at oB
   have hG:Gf i x k=plR i k r:=by unfold Gf;rw[il]
   have gk:(Zde k (Gf i x)).length+(plR i k r).length<=(Zde x.rules.length (Gf i x)).length:=by
    have:=Zqn (show k+1<=x.rules.length by omega) (Gf i x)
    rw[ZbS,zA1,hG]at this;exact this
   rw[Zsc,List.length_cons]at gk
   obtain⟨b6,o6,iL,nI⟩:=Zai Ru.len (dJ.row.mono gC) il (by omega)
   refine Zaa rfl ⟨b6,o6,iL,⟨by omega,dO⟩,_,_,_,_,_,_,_,_,_,_,_,_,_,_,_,_,nI,λb7=>Zaa rfl λb8 nS=>?_⟩
   refine PI.app ⟨-1,i,k,-1,-1⟩ hP (by rw[zA1,List.length_cons];omega) nS λa' c' m7 fD hP=>Zaa rfl ?_
   have xJ:=mLt gC fD
   generalize vu:L1++(⟨-1,i,-1,-1,-1⟩::Zde k (Gf i x))=L2 at hP
   have jQ:L2.length=L1.length+1+(Zde k (Gf i x)).length:=by rw[<-vu,zA1,List.length_cons];omega
   refine⟨λxs _ tks m' q=>∃(j:Nat)(v t:Value),j<=r.acts.length/\xs=[v,.int .i64 j]/\tks=[t]/\PI (L2++(⟨-1,i,k,-1,-1⟩::Zde j (Hf i k r))) v t m'/\q=r.acts.length - j,⟨r.acts.length,0,_,_,by omega,rfl,rfl,by simpa[Zde]using hP,rfl⟩,?_⟩
   rintro a n c j' a1 n2 c1 m8 q eZ ⟨j,v,t,hj,hy,ht,hP,rfl⟩
   simp only[List.cons.injEq,Value.int.injEq,and_true,true_and]at hy ht
   obtain⟨rfl,rfl⟩:=hy
   subst ht
   have qZ:=mLt xJ eZ
   refine ZaG (λfg=>?_) (λgD=>?_)
   ·have fg:(j:Int) < (r.acts.length:Int):=fg
    obtain⟨y,nJ⟩:=ZcC (show j < r.acts.length by omega)
    have iO:=gE.all y (zA2 nJ)
    have tL:=iO.n
    unfold few at tL
    have hH:Hf i k r j=plA i k j y:=by unfold Hf;rw[nJ]
    have gl:(Zde j (Hf i k r)).length+(plA i k j y).length<=(Zde r.acts.length (Hf i k r)).length:=by
     have:=Zqn (show j+1<=r.acts.length by omega) (Hf i k r)
     rw[ZbS,zA1,hH]at this;exact this
    rw[Zsb,List.length_cons,show(Zde y.parts.length (Pf i k j)).length=y.parts.length from ZfI _ _]at gl
    obtain⟨b9,o9,xK,xM⟩:=Zai Ac.len (gE.row.mono qZ) nJ (by omega)
    refine Zaa rfl ⟨b9,o9,xK,⟨by omega,fg⟩,_,_,_,_,_,_,_,_,xM,λb10=>Zaa rfl λb11 tM=>?_⟩
    refine PI.app ⟨-1,i,k,j,-1⟩ hP (by rw[zA1,List.length_cons];omega) tM λa' c' m9 gT hP=>Zaa rfl ?_
    generalize qW:L2++(⟨-1,i,k,-1,-1⟩::Zde j (Hf i k r))=L3 at hP
    have sj:L3.length=L2.length+1+(Zde j (Hf i k r)).length:=by rw[<-qW,zA1,List.length_cons];omega
    refine⟨λxs _ tks m' q=>∃(w:Nat)(v t:Value),w<=y.parts.length/\xs=[v,.int .i64 w]/\tks=[t]/\PI (L3++(⟨-1,i,k,j,-1⟩::Zde w (Pf i k j))) v t m'/\q=y.parts.length - w,⟨y.parts.length,0,_,_,by omega,rfl,rfl,by simpa[Zde]using hP,rfl⟩,?_⟩
    rintro a n c w' a1 n2 c1 m10 q fJ ⟨w,v,t,yX,hy,ht,hP,rfl⟩
    simp only[List.cons.injEq,Value.int.injEq,and_true,true_and]at hy ht
    obtain⟨rfl,rfl⟩:=hy
    subst ht
    have q9:(Zde w (Pf i k j)).length=w:=ZfI _ _
    refine ZaG (λlB b12 tN=>?_) (λlC=>?_)
    ·have lB:(w:Int) < (y.parts.length:Int):=lB
     refine PI.app ⟨-1,i,k,j,w⟩ hP (by rw[zA1,List.length_cons,q9];omega) tN λa' c' m' hm' hP'=>⟨rfl,rfl,y.parts.length - (w+1),by omega,w+1,_,_,by omega,by rw[hw w (by omega)],rfl,?_,rfl⟩
     rw[ZbS]
     simpa[Pf]using hP'
    ·have lC:¬(w:Int) < (y.parts.length:Int):=lC
     obtain rfl:w=y.parts.length:=by omega
     refine⟨rfl,rfl,r.acts.length - (j+1),by omega,j+1,_,_,by omega,by rw[hw j (by omega)],rfl,?_,rfl⟩
     rw[ZbS,hH,Zsb]
     rw[<-qW]at hP
     simpa using hP
   ·have gD:¬(j:Int) < (r.acts.length:Int):=gD
    obtain rfl:j=r.acts.length:=by omega
    refine⟨rfl,rfl,x.rules.length - (k+1),by omega,k+1,_,_,by omega,by rw[hw k (by omega)],rfl,?_,rfl⟩
    rw[ZbS,hG,Zsc]
    rw[<-vu]at hP
    simpa using hP
  ·have dX:¬(k:Int) < (x.rules.length:Int):=dX
   obtain rfl:k=x.rules.length:=by omega
   refine⟨rfl,rfl,s.states.length - (i+1),by omega,i+1,_,_,by omega,by rw[hw i (by omega)],rfl,?_,rfl⟩
   rw[ZbS,hF,Zsd]
   rw[<-vt]at hP
   simpa using hP
 ·have bL:¬(i:Int) < (s.states.length:Int):=bL
  obtain rfl:i=s.states.length:=by omega
  obtain⟨a0,c0,a10,n10,c10,h1,h2,h3,h4⟩:=hP
  have he:B++Zde s.states.length (Ff s)=s.places:=by rw[qK,<-hB];rfl
  rw[he]at h1 h4
  rw[h1]
  exact⟨m4,gB,Mem.le_refl _,a0,c0,rfl,h4⟩
end Go.Proofs.YtpjepnkiiojgfaaGreat
namespace Go.Proofs.YtpjepnkiiojgfaaGreat
open Go Go.Eng Go.Proofs Go.RowKit
open Go.Value (int slice agg bool string tuple func)
open Go.IntKind (u8 u64 i64)
set_option maxRecDepth 100000
def ZoC:Env:={ EB with
 joins:=(λi=>bif Nat.beq i 1 then some [(6,.bool)]else none)
 frzNew:=[3] }
theorem ZlQ(aA:Int)(aW:Option Addr)(aP aX:Nat)(aN:Option Addr)(aJ aV:Nat)(p1 p2:Int)(m:Mem)(R:RT)(h:
 lV [int i64 aA,slice aW aP aX,slice aN aJ aV] λxL=>fzM m xL λb m'=>∃(b_1:Bool),lV [bool b_1] λxL_1=>lE [some (Box.mk b xL 32 3 true true)] λxL_2=>(kB Tryz.prog 19 [agg
 (Array.mk xL)] m' λb m'=>br b (br (decide (p1 ≥ (0:Int))) (br (decide (p1 < (↑aJ:Int))) (br (decide (p2 ≥ (0:Int))) (atA aN λb o=>Zad p1 aJ/\∃(v:Value),m' b (o+Int.toNat p1*2+1) =
 some v/\chk (ZbM v) (Zac xL_2/\[bool (decide (p2 < (↑(slN v):Int)))]=xL_1)) (Zac xL_2/\[bool false]=xL_1)) (Zac xL_2/\[bool false]=xL_1)) (Zac xL_2/\[bool false]=xL_1)) (Zac xL_2/\[bool
 false]=xL_1))/\rtM m m' R (bool b_1)):CX Tryz.prog 47 #[.agg #[.int .i64 aA,.slice aW aP aX,.slice aN aJ aV],.int .i64 p1,.int .i64 p2] m [] R:=
 Zae (E:=ZoC) Zao mix Tryz.func47 (by kernel_rfl) (Eq.mp (by kernel_rfl) h)
def ZpN:Env:={ EB with
 dr:=(λi=>bif Nat.beq i 4 then[⟨0,[8],[],none,[],[]⟩,⟨1,[8],[],none,[0],[]⟩,⟨2,[],[],none,[],[]⟩,⟨3,[8],[],none,[],[]⟩,⟨4,[8],[],none,[3],[]⟩,⟨5,[],[],none,[],[]⟩,⟨6,[],[],none,[3,4,5],[]⟩,⟨7,[],[],none,[3,4,5,6],[]⟩,⟨8,[],[],none,[3,4,5,6,7],[]⟩,⟨9,[],[],none,[],[]⟩,⟨10,[],[],none,[],[]⟩,⟨11,[],[],none,[10],[]⟩,⟨12,[200],[200],none,[3,4,5,6,7,8,9,10,11],[]⟩]else[])
 borrow:=(λi=>bif Nat.beq i 29 then[200]else[])
 frzNew:=[3]
 acqB:=(λi=>bif Nat.beq i 4 then some 200 else none)
 thaw:=true
 stAt:=(λi=>bif Nat.beq i 31 then some 999 else none)
 last:=(λi=>bif Nat.beq i 4 then true else false)
 lastK:=(λi=>bif Nat.beq i 4 then 3 else 1)
 frz:=[200]
 kF:=true }
theorem ZoD(aA:Int)(aW:Option Addr)(aP aX:Nat)(aN:Option Addr)(aJ aV:Nat)(p1 p2:Int)(m:Mem)(R:RT)(h:
 lV [int i64 p2,int i64 (i64.wrap (p2+(1:Int)))] λxL=>lE (Int.toNat p1*2) λyL=>lV [int i64 aA,slice aW aP aX,slice aN aJ aV] λxL_1=>fzM m xL_1 λb m'=>m.free b
 -> (∀(b' o:Nat)(u:Value),m' b' o=some u->m b' o=some u\/b'=b)->Mem.k m b=none->∀(b_1:Nat),kB Tryz.prog 47 [agg (Array.mk xL_1),int i64 p1,int i64 p2] m' λb_2 m'=>br (!b_2) (rtM m m' R (tuple
 (Array.mk [agg (Array.mk [int i64 0,slice none 0 0,slice none 0 0]),int i64 250]))) (∃(R_1:RT),True/\CX Tryz.prog 18 (Array.mk [agg (Array.mk xL_1)]) m' [] R_1/\ZbC (Shape.agg [Shape.int i64,Shape.slice,
 Shape.slice]) R_1/\∀(n:Int)(a:Option Addr)(n_1 c:Nat)(a_1:Option Addr)(n_2 c_1:Nat)(m'_1:Mem),lX (agg (Array.mk [int i64 n,slice a n_1 c,slice a_1 n_2 c_1])) λyL_1=>m'.le m'_1->R_1 yL_1
 m'_1 []->∀(b_3:Nat),∃(b_4:Nat),∃(cs:List Value),lM (Mem.off m'_1 λk=>k=b_4) λmL=>cs≠[]/\m'_1.reads b_4 0 cs/\m.free b_4/\(b≠b_4/\True)/\∀(T:TypeId)(cap:Nat),∃(f:Fx),
 atA a_1 λb_5 o=>Zad p1 n_2/\∃(v:Value),mL b_5 (o+yL+1)=some v/\∃(R_2:RT),R_2=f 12 (v::xL) mL/\CX Tryz.prog 48 (Array.mk (v::xL)) mL [Box.mk b_4 cs T cap false false] R_2/\ZbC
 Shape.slice R_2/\∀(a:Option Addr)(n c:Nat)(m':Mem),lX (slice a n c) λyL_2=>mL.le m'->∀(cs:List Value),R_2 yL_2 m' [cs]->∀(M:Mem),mL.le M->m'.le M->atA a_1 λb_6 o=>lM (Mem.upd
 M b_6 (o+yL+1) [yL_2]) λmL=>Zad p1 n_2/\(∃(vs:List Value),vs.length=1/\M.reads b_6 (o+yL+1) vs)/\m.free b_6/\true=true/\b≠b_6/\(mL.free b_4->Mem.k mL b_4=none->rtM m
 (mL.add b_4 cs) R (tuple (Array.mk [yL_1,int i64 0]))))):CX Tryz.prog 13 #[.agg #[.int .i64 aA,.slice aW aP aX,.slice aN aJ aV],.int .i64 p1,.int .i64 p2] m [] R:=
 Zae (E:=ZpN) Zao mix Tryz.func13 (by kernel_rfl) (Eq.mp (by kernel_rfl) h)
end Go.Proofs.YtpjepnkiiojgfaaGreat
namespace Go.Proofs.YtpjepnkiiojgfaaGreat
open Go Go.Eng Go.Rx Go.Proofs Go.RowKit Go.Shelf
set_option maxRecDepth 100000
def zRu:Value:=.agg #[.int .u8 0,.bool false,.bool false,.int .u8 0,.int .u64 0,.int .u64 0,.int .u64 0,.int .u64 0,.int .i64 0,.int .i64 0,.slice none 0 0,.string .empty,.int .i64 0,.slice none 0 0,.string .empty,.int .i64 0]
def Zzr:Ren:=⟨fun|45=>48|n=>n,fun|0=>0|3=>3|4=>4|22=>34|23=>47|n=>n,λn=>n⟩
theorem ZxS:DelLay Tryz.prog Zzr 16 zRu:=
 {mixed:=mix,f45:=⟨Tryz.f48.name,by kernel_rfl,by kernel_rfl⟩
  t0:=by kernel_rfl,a0:=Tryz.isAgg0,z0:=Tryz.sizeOf0,v0:=Tryz.zeroValue0
  t3:=Tryz.underlying3,a3:=Tryz.isAgg3,z3:=Tryz.sizeOf3,v3:=Tryz.zeroValue3
  t4:=Tryz.underlying4,a4:=Tryz.isAgg4,z4:=Tryz.sizeOf4,v4:=Tryz.zeroValue4
  t22:=Tryz.underlying34,a22:=Tryz.isAgg34,z22:=Tryz.sizeOf34,v22:=Tryz.zeroValue34
  z23:=Tryz.sizeOf47,v23:=Tryz.zeroValue47 }
theorem ZxT(m:Nat):∀u∈(Builtin.zeroCells zRu.cells m).toList,u.oneCell'=true:=by
 have lx:∀i,i < 16->(zRu.cells[i]!).oneCell'=true:=by decide
 intro u hu
 simp only[Builtin.zeroCells,Array.toList_map,List.mem_map]at hu
 obtain⟨i,_,rfl⟩:=hu
 exact lx _ (Nat.mod_lt _ (by decide))
theorem ZxU(l:List Ru)(b c i:Nat)(T:TypeId)(cap:Nat)(m:Mem)(hi:i < l.length)(hc:l.length<=c)(hm:l.length<=9223372036854775807):
  CX Tryz.prog 48 #[.slice (some ⟨b,0,none⟩) l.length c,.int .i64 i,.int .i64 (i+1:Nat)] m [⟨b,(l.map Ru.cs).flatten,T,cap,false,false⟩] (λv m' css=>v=.slice (some ⟨b,0,none⟩) (l.length - 1) c/\css=[((l.eraseIdx i).map Ru.cs).flatten++zRu.cells.toList]):=by
 obtain⟨i0,h1,h2⟩:∃i0,Tryz.prog.info? 47=some i0/\i0.size=16:=by
  obtain⟨x,h1,h2,_⟩:=(Zao 47 _ rfl).info
  exact⟨x,h1,h2⟩
 exact Zsu ZxS i0 h1 h2 rfl (Go.Eng.Zgk Tryz.func48 (by kernel_rfl) (by kernel_rfl)) (by decide) (by kernel_rfl) ZxT Ru.len Ru.one l b c i T cap m hi hc hm
end Go.Proofs.YtpjepnkiiojgfaaGreat
namespace Go.Proofs.YtpjepnkiiojgfaaGreat
open Go Go.Eng Go.Rx Go.Proofs Go.RowKit
set_option maxRecDepth 100000
theorem ZvI(s:Sc)(i k:Int)(m:Mem)(hr:RepC m s):CX Tryz.prog 47 #[s.v,.int .i64 i,.int .i64 k] m [] (Ret (.bool (ZhF s i k))):=by
 apply ZlQ
 intro b m1 aE _
 refine⟨ZhF s i k,Zah (Zb9 s m1 (hr.mono aE)) λm2 aK=>?_,Zaf aE rfl⟩
 refine Zab (λh1=>Zab (λh2=>Zab (λh3=>Zab (λh4=>?_) (λh4=>⟨rfl,?_⟩)) (λh3=>⟨rfl,?_⟩)) (λh2=>⟨rfl,?_⟩)) (λh1=>⟨rfl,?_⟩)
 ·have h2':0<=i:=zA6 h2
  have h3':i < s.states.length:=zA6 h3
  obtain⟨x,hx⟩:=Zaq (l:=s.states) (k:=i.toNat) (by omega)
  obtain⟨bs,o,ha,cG⟩:=Zai Sta.len (hr.mono (mLt aE aK)).row hx (by omega)
  refine⟨bs,o,ha,⟨h2',h3'⟩,_,cG 1 _ rfl,Zaa rfl ⟨rfl,?_⟩⟩
  simp only[ZhF,h1,h2,h3,h4,hx,Bool.true_and]
  rfl
 ·simp only[ZhF,h1,h2,h3,h4,Bool.true_and,Bool.false_and]
 ·simp only[ZhF,h1,h2,h3,Bool.true_and,Bool.false_and]
 ·simp only[ZhF,h1,h2,Bool.true_and,Bool.false_and]
 ·simp only[ZhF,h1,Bool.false_and]
def Zz2(s:Sc)(i k:Nat):Value->Mem->List (List Value)->Prop:=λv m' _=>∃s':Sc,v=.tuple #[s'.v,.int .i64 0]/\s'.er=(Zv5 s i k).er/\RepC m' s'
theorem Zs2{s:Sc}{i k:Nat}:∀(v:Value)(m':Mem) (css:List (List Value)),Zz2 s i k v m' css->Shape.fits (.tup [.agg [.int .i64,.slice,.slice],.int .i64]) v=true:=λv _ _ ⟨t,e,_⟩=>by rw[e];rfl
theorem Zs3{s:Sc}{n:Int}{a a1:Option Addr}{p c p1 c1:Nat}(h:Value.agg #[.int .i64 n,.slice a p c,.slice a1 p1 c1]=s.v):n=s.n/\a=s.va/\p=s.vars.length/\c=s.vc/\a1=s.sa/\p1=s.states.length/\c1=s.sc:=by
 simpa[Sc.v,and_assoc]using h
theorem ZxV(s:Sc)(i k:Nat)(m:Mem)(hr:RepC m s)(hl:s.light=true){x:Sta}(hx:s.states[i]?=some x)(hk:k < x.rules.length):CX Tryz.prog 13 #[s.v,.int .i64 i,.int .i64 k] m [] (Zz2 s i k):=by
 have hi:=(zA0 hx).1
 have eR:s.states.length<=100000:=hr.len
 have iZ:x.rules.length<=100000:=(hr.all x (zA2 hx)).len
 have gw:ZhF s i k=true:=by
  simp only[ZhF,hl,zA8,hx,Bool.true_and,zA7,decide_eq_true_eq]
  omega
 apply ZoD
 intro b m1 aE jx fW vh fl b1
 have hc:=ZvI s i k m1 (hr.mono aE)
 rw[gw]at hc
 refine Zah hc λm2 aK=>Zn4 rfl ?_
 have cR:=mLt aE aK
 refine Zan (Zuc s m2 (hr.mono cR) hl) Zre ?_
 rintro n a p c a1 p1 c1 m3 aQ ⟨s',hv,nT,cX,bQ⟩ b3
 obtain⟨rfl,rfl,rfl,rfl,rfl,rfl,rfl⟩:=Zs3 hv
 obtain⟨x',hx',s9⟩:=ZAr nT hx
 obtain⟨cK,dJ,uV⟩:=Zho s9
 have hk':k < x'.rules.length:=by omega
 have hi':=(zA0 hx').1
 rcases bQ with h0|⟨bS,μ,bQ⟩
 ·rw[h0]at hi';simp at hi'
 obtain⟨kO,⟨xN,oJ⟩,bU,qP⟩:=bQ.all i x' hx'
 rcases oJ with h0|⟨bR,fU,oE,vv,jE⟩
 ·rw[h0]at hk';simp at hk'
 have aB:(μ i).reads bR 0 (x'.rules.map Ru.cs).flatten:=by
  rcases kO.row with h|⟨b',o',ha,h⟩
  ·have:=congrArg List.length h
   rw[ZaY Ru.len]at this;simp at this;omega
  ·rw[fU]at ha;cases ha;exact h
 have mI:(x'.rules.map Ru.cs).flatten.length=x'.rules.length*16:=ZaY Ru.len _
 have jm:¬(μ i).free bR:=λhf=>by
  have:=aB 0 _ (zA3 (by omega))
  rw[hf]at this;cases this
 have sL:bS≠bR:=λe=>jm (e ▸ qP)
 have gk:¬m2.free b:=λhf=>by
  have:=aK _ _ _ (jx 0 _ rfl)
  rw[hf]at this;cases this
 have fY:=mLt bU (Zgd m2 m3)
 obtain⟨bs0,o0,j6,bW⟩:=Zai Sta.len cX.row hx' (by omega)
 rw[bQ.sa]at j6
 simp only[Option.some.injEq,Addr.mk.injEq,and_true]at j6
 obtain⟨rfl,rfl⟩:=j6
 have bO:∀M:Mem,(m3.off λq=>q=bR).le M->M bS (0+i*2+1)=some (.slice x'.ra x'.rules.length x'.rc):=λM hM=>hM _ _ _ (by
  rw[Mem.off_at (Y:=λq=>q=bR) sL];exact(Zgd m2 m3) _ _ _ (bW 1 _ rfl))
 have qN:m.le (m3.off λq=>q=bR):=Ze3 (mLt cR aQ) λq e=>⟨e ▸ Zbk cR oE,e ▸ Zer cR vv⟩
 have hw:IntKind.i64.wrap ((k:Int)+1)=((k+1:Nat):Int):=by rw[Zak (by omega) (by omega)];rfl
 refine⟨bR,(x'.rules.map Ru.cs).flatten,λe=>?_,aB.mono fY,Zbk cR oE,⟨λe=>gk (e ▸ oE),trivial⟩,λT cap=>?_⟩
 ·rw[e]at mI;simp at mI;omega
 rw[hw]
 have hd:=ZxU x'.rules bR x'.rc k T cap (m3.off λq=>q=bR) hk' xN (by omega)
 rw[<-fU]at hd
 refine⟨λ_ _ _=>_,bS,0,bQ.sa,⟨by omega,by omega⟩,_,bO _ (Mem.le_refl _),_,rfl,hd,(λv _ _ h=>by rw[h.1];rfl),?_⟩
 rintro a4 n4 c4 m4 bZ cs4 ⟨vA,tz⟩ M hM gJ
 simp only[Value.slice.injEq]at vA
 obtain⟨rfl,rfl,rfl⟩:=vA
 simp only[List.cons.injEq,and_true]at tz
 subst tz
 refine⟨bS,0,bQ.sa,⟨by omega,by omega⟩,⟨[.slice x'.ra x'.rules.length x'.rc],rfl,λj v hj=>?_⟩,Zbk cR bQ.free.1,rfl,λe=>gk (e ▸ bQ.free.1),λvB _=>⟨_,mLt (Mem.le_upd (mLt qN hM) (Zbk cR bQ.free.1) _ _) (Mem.le_add vB _),Mem.le_refl _,⟨s'.n,s'.va,s'.vc,s'.vars,s'.sa,s'.sc,s'.states.set i (ZlY x' k)⟩,?_,?_,ZuR cX bQ hx' fU hk' jE hM vB⟩⟩
 ·cases j with
  | zero=>simp at hj;subst hj;exact bO M hM
  | succ j=>simp at hj
 ·simp only[Sc.v,List.length_set]
 ·have h1:=Zqy nT
  have h2:Zv5 s i k=⟨s.n,s.va,s.vc,s.vars,s.sa,s.sc,s.states.set i (ZlY x k)⟩:=by unfold Zv5;rw[hx]
  rw[h2]
  exact Zmd h1.1 h1.2 (by rw[List.map_set,List.map_set,Zdg nT,ZuP s9])
end Go.Proofs.YtpjepnkiiojgfaaGreat
namespace Go.Proofs.YtpjepnkiiojgfaaGreat
open Go Go.Eng Go.Proofs Go.RowKit
open Go.Value (int slice agg bool string tuple func)
open Go.IntKind (u8 u64 i64)
set_option maxRecDepth 100000
def ZjR:Env:=EB
theorem ZeL(p0:Int)(m:Mem)(R:RT)(h:
 ∀(b b:Nat),lE (u8.wrap (Int.tdiv p0 (64:Int))) λyL=>lE (1+Int.toNat yL*1) λyL_1=>lV (ZaF [int u8 2,int u64 0,int u64 0,int u64 0,int u64 0,int i64 0,int i64 0,slice none 0 0] yL_1
 [int u64 (u64.wrap ((1:Int)*(2:Int) ^ min (Int.toNat (Int.tmod p0 (64:Int))) 64))]) λxL=>(64:Int)≠(0:Int)/\(64:Int)≠(0:Int)/\(0:Int)<=Int.tmod p0 (64:Int)/\Zad yL 4/\chk
 (Nat.ble yL_1 (nat_lit 7)) (chk (Nat.beq (xL.length) 8&&Zey xL) (rtM m m R (agg (Array.mk xL))))):CX Tryz.prog 83 #[.int .u8 p0] m [] R:=
 Zae (E:=ZjR) Zao mix Tryz.func83 (by kernel_rfl) (Eq.mp (by kernel_rfl) h)
def Zg5:Env:=EB
theorem Zf8  (m:Mem)(R:RT)(h:
 ∀(b b:Nat),∃(R_1:RT),True/\CX Tryz.prog 83 (Array.mk [int u8 120]) m [] R_1/\ZbC (shT) R_1/\∀(n am an ao ap aq ar:Int)(a:Option Addr)(au c:Nat)(m':Mem),lV [int u8 n,int u64 am,int u64 an,int
 u64 ao,int u64 ap,int i64 aq,int i64 ar,slice a au c] λxL=>m.le m'->R_1 (agg (Array.mk xL)) m' []->∀(b:Nat),lM (m'.add b xL) λmL=>lV [int u8 6,int u64 0,int u64 0,int u64 0,int u64 0,int
 i64 0,int i64 0,slice (some (Addr.mk b 0 none)) 1 1] λxL=>m'.free b->∀(b:Nat),lX (slice (some (Addr.mk b 0 none)) 1 1) λyL=>mL.free b->∃(R_2:RT),True/\CX Tryz.prog 83 (Array.mk [int u8
 121]) (mL.add b xL) [] R_2/\ZbC (shT) R_2/\∀(n av aw ax ay az a0:Int)(a:Option Addr)(a1 c:Nat)(m':Mem),lV [int u8 n,int u64 av,int u64 aw,int u64 ax,int u64 ay,int i64 az,int i64 a0,slice a a1
 c] λah=>lV (int u8 5::int u64 0::int u64 0::int u64 0::int u64 0::int i64 1::int i64 (-1:Int)::yL::ah) λa2=>Mem.le (mL.add b xL) m'->R_2 (agg (Array.mk ah)) m' []->∀(b:Nat),lX
 (slice (some (Addr.mk b 0 none)) 2 2) λyL=>lM (m'.add b a2) λmL=>m'.free b->∀(b b:Nat),lM (mL.add b [string (ByteArray.mk (Array.mk [110])),bool true,string bE0,Value.float .f64 0]) λai=>mL.free b->∀(aa:Nat),lX (slice (some (Addr.mk aa 0 none)) 2 2) λa3=>lM (ai.add aa [int u8 9,Value.float .f64 0,string (ByteArray.mk (Array.mk
 [110])),int i64 0,slice none 0 0,int u8 8,Value.float .f64 4607182418800017408,string bE0,int i64 0,slice none 0 0]) λmL=>ai.free aa->∀(ab:Nat),lM
 (mL.add ab [int u8 9,Value.float .f64 0,string (ByteArray.mk (Array.mk [110])),int i64 0,slice none 0 0,int u8 8,Value.float .f64 4611686018427387904,string bE0,int i64 0,slice none 0 0]) λaj=>lV [int u8 3,string bE0,int i64 1,int u8 0,Value.float .f64 0,string bE0,int i64 0,slice none 0 0,int u8 4,
 string bE0,int i64 0,int u8 4,Value.float .f64 0,string bE0,int i64 0,slice (some (Addr.mk ab 0 none)) 2 2] λxL=>mL.free ab->∀(ac:Nat),lM
 (aj.add ac xL) λmL=>lV [int u8 3,string (ByteArray.mk (Array.mk [110])),slice none 0 0,int u8 2,Value.float .f64 0,string bE0,int i64 0,a3,int u8 1,string
 bE0,slice (some (Addr.mk ac 0 none)) 2 2,int u8 0,Value.float .f64 0,string bE0,int i64 0,slice none 0 0] λxL=>aj.free ac->∀(ad:Nat),lM
 (mL.add ad xL) λak=>lV [int u8 1,bool false,bool false,int u8 3,int u64 0,int u64 0,int u64 0,int u64 0,int i64 0,int i64 0,yL,string bE0,int i64 0,slice (some (Addr.mk ad
 0 none)) 2 2,string (ByteArray.mk (Array.mk [98])),int i64 0,int u8 4,bool false,bool false,int u8 0,int u64 0,int u64 0,int u64 0,int u64 0,int i64 0,int i64 0,slice none 0 0,string
 bE0,int i64 5,slice none 0 0,string bE0,int i64 1] λxL=>mL.free ad->∀(ae:Nat),lM (ak.add ae xL) λmL=>ak.free ae->∀(af:Nat),lM
 (mL.add af [int u8 3,bool false,bool false,int u8 0,int u64 0,int u64 0,int u64 0,int u64 0,int i64 0,int i64 0,slice none 0 0,string bE0,int i64 0,slice none 0 0,string
 bE0,int i64 0]) λal=>mL.free af->∀(ag:Nat),al.free ag->rtM m (al.add ag [string (ByteArray.mk (Array.mk [97])),slice (some (Addr.mk ae 0 none)) 2 2,string
 (ByteArray.mk (Array.mk [98])),slice (some (Addr.mk af 0 none)) 1 1]) R (agg (Array.mk [int i64 9,slice (some (Addr.mk b 0 none)) 1 1,slice (some (Addr.mk ag 0 none)) 2 2]))):CX Tryz.prog 41 #[] m [] R:=
 Zae (E:=Zg5) Zao mix Tryz.func41 (by kernel_rfl) (Eq.mp (by kernel_rfl) h)
def ZjS:Env:={ EB with
 joins:=(λi=>bif Nat.beq i 6 then some [(35,.bool)]else none) }
theorem Zh3  (m:Mem)(R:RT)(h:
 ∃(R_1:RT),True/\CX Tryz.prog 41 (Array.mk []) m [] R_1/\ZbC (Shape.agg [Shape.int i64,Shape.slice,Shape.slice]) R_1/\∀(n:Int)(a:Option Addr)(a6 c:Nat)(ah:Option Addr)(ai a7:Nat)(m':Mem),lV
 [int i64 n,slice a a6 c,slice ah ai a7] λxL=>lX (agg (Array.mk xL)) λyL=>m.le m'->R_1 yL m' []->∀(b:Nat),lE [some (Box.mk b xL 32 3 false true)] λxL=>atA ah λb o=>Zad (0:Int) ai/\∃
 (v:Value),m' b (o+0+1)=some v/\chk (ZbM v) (atA (slA v) λb o=>Zad (0:Int) (slN v)/\∃v aj ak al am an ao ap aq ar au av aw ax ay az:Value,lV [v,aj,ak,al,am,an,ao,ap,aq,ar,au,av,aw,ax,ay,az] λab=>
 lV [agg (Array.mk ab)] λac=>m'.reads b (o+0) ab/\∀(b:Nat),lE (some (Box.mk b ab 47 16 false true)::xL) λxL=>chk (v.oneCell'&&(aj.oneCell'&&(ak.oneCell'&&(al.oneCell'
 && (am.oneCell'&&(an.oneCell'&&(ao.oneCell'&&(ap.oneCell'&&(aq.oneCell'&&(ar.oneCell'&&(au.oneCell'&&(av.oneCell'&&(aw.oneCell'&&(ax.oneCell'
 && (ay.oneCell'&&(az.oneCell'&&true)))))))))))))))) (kS Tryz.prog 11 [yL] m' λa n c m'=>∃(R_2:RT),True/\CX Tryz.prog 13 (Array.mk [yL,int i64 0,int i64 0]) m' [] R_2/\ZbC (Shape.tup
 [Shape.agg [Shape.int i64,Shape.slice,Shape.slice],Shape.int i64]) R_2/\∀(a8:Int)(a9:Option Addr)(ba c:Nat)(bb:Option Addr)(bc bd:Nat)(a0:Int)(ad:Mem),lV [int i64 a8,slice a9 ba c,slice bb bc
 bd] λae=>m'.le ad->R_2 (tuple (Array.mk [agg (Array.mk ae),int i64 a0])) ad []->∀(b:Nat),lE (some (Box.mk b ae 32 3 false true)::xL) λxL=>kS Tryz.prog 32 [yL] ad λa1 af c m'=>∃(b:Bool),br
 (!a0 == (0:Int)) (Zac xL/\[bool true]=[bool b]) (br (!(↑n:Int) == (11:Int)) (Zac xL/\[bool true]=[bool b]) (Zac xL/\[bool !(↑af:Int) == (2:Int)]=[bool b]))/\br b (rtM m m' R (bool false)) (∃
 (R_3:RT),True/\CX Tryz.prog 21 (Array.mk [yL]) m' [] R_3/\ZbC (Shape.agg [Shape.int i64,Shape.int i64,Shape.int i64,Shape.int i64,Shape.int i64,Shape.int i64]) R_3/\∀(be bf bg bh bi bj:Int)(aa:Mem),lX
 (agg (Array.mk [int i64 be,int i64 bf,int i64 bg,int i64 bh,int i64 bi,int i64 bj])) λyL=>m'.le aa->R_3 yL aa []->∃(b:Bool),EqIs Tryz.prog 75 yL (agg (Array.mk [int i64 2,int i64 3,int i64 5,int
 i64 2,int i64 2,int i64 2])) b/\br b (atA a1 λb o=>Zad (0:Int) af/\∃(v:Value),aa b (o+0)=some v/\∀(b:Nat),aa.free b->kB Tryz.prog 38 [v,slice (some (Addr.mk b 0 none)) 1 1] (aa.add  b [int i64 1]) λb m'=>br b (atA a1 λb o=>Zad (1:Int) af/\∃(v:Value),m' b (o+1)=some v/\chk (ZbM v) (br ((↑(slN v):Int) == (0:Int)) (kS Tryz.prog 27 ac m' λbk bl c m'=>∀(b:Nat),
 m'.free b->kB Tryz.prog 42 [slice bk bl c,slice (some (Addr.mk b 0 none)) 1 1] (m'.add b [string (ByteArray.mk (Array.mk [110]))]) λb m'=>br b (kS Tryz.prog 28 ac m' λbm bn c m'=>∀(b:
 Nat),m'.free b->kB Tryz.prog 42 [slice bm bn c,slice (some (Addr.mk b 0 none)) 1 1] (m'.add b [string (ByteArray.mk (Array.mk [110]))]) λb m'=>br b (kI Tryz.prog 30 ac m' λbo m'=>br (bo ==
 (1:Int)) (atA a λb o=>Zad (5:Int) n/\∃v a2 a3 a4 a5:Value,m'.reads b (o+25) [v,a2,a3,a4,a5]/\∃(b:Bool),EqIs Tryz.prog 27 (agg
 (Array.mk [v,a2,a3,a4,a5])) (agg (Array.mk [int i64 (-1:Int),int i64 0,int i64 0,int i64 1,int i64 (-1:Int)])) b/\br b (∃(R_4:RT),True/\CX Tryz.prog 21 (Array.mk [agg (Array.mk ae)]) m' [] R_4/\ZbC
 (Shape.agg [Shape.int i64,Shape.int i64,Shape.int i64,Shape.int i64,Shape.int i64,Shape.int i64]) R_4/\∀(n bp bq bs bt bu:Int)(ag:Mem),lX (agg (Array.mk [int i64 n,int i64 bp,int i64 bq,int i64 bs,int
 i64 bt,int i64 bu])) λyL=>m'.le ag->R_4 yL ag []->∃(b:Bool),EqIs Tryz.prog 75 yL (agg (Array.mk [int i64 2,int i64 2,int i64 0,int i64 0,int i64 0,int i64 0])) b/\rtM m ag R (bool b)) (rtM m m' R
 (bool false))) (rtM m m' R (bool false))) (rtM m m' R (bool false))) (rtM m m' R (bool false))) (rtM m m' R (bool false)))) (rtM m m' R (bool false))) (rtM m aa R (bool false)))))):CX Tryz.prog 9 #[] m [] R:=
 Zae (E:=ZjS) Zao mix Tryz.func9 (by kernel_rfl) (Eq.mp (by kernel_rfl) h)
end Go.Proofs.YtpjepnkiiojgfaaGreat
end
