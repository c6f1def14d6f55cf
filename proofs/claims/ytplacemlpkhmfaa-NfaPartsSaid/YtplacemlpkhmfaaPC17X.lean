/- Part of the proof: conditions and contracts of functions of this program. No condition of its own. -/
import Derived.Test.YtplacemlpkhmfaaPC17H
import Derived.Test.YtplacemlpkhmfaaPC13S
import Derived.Test.YtplacemlpkhmfaaMr
import Derived.Test.YtplacemlpkhmfaaPVND
import Derived.Shelf.Sort.Plain
import Derived.Shelf.Slices.In.SortNone
import Derived.Shelf.SlicesE.Compact
set_option linter.unusedVariables false
set_option linter.unusedSimpArgs false
set_option linter.unusedSectionVars false
namespace Go.Proofs.Ytplacemlpkhmfaa
open Go Go.Eng Go.Rx Go.Proofs Go.RowKit
set_option maxRecDepth 100000
theorem ZqN{f:Nat}{v:Value}{m:Mem}(h:SlN (Zb1 f) v m):SlI true (Zbv f) v m:=by
 obtain⟨a,c,rfl,h2,h3⟩:=h
 refine⟨a,c,by simp[Zbv],?_,by have:=ZlP f;omega,λ_ e=>h3 (by simpa[Zbv]using e)⟩
 have e:Zan (Zbv f)=Zmi (Zb1 f):=by simp[Zan,Zbv,Zmi]
 rw[e];exact h2
theorem ZrC(f:Nat)(b o:Nat)(m:Mem)(hb:m.reads b o (bwL f)):CX Try.prog 62 #[.pointer (some ⟨b,o,none⟩)] m [] (λv m' _=>SlI true (Zbv f) v m'/\NewS m v):=
 (Zmk f b o m hb).mono λ_ _ _ _ h=>⟨ZqN h.1,h.2⟩
theorem ZkJ(f:Nat)(b o:Nat)(m:Mem)(hb:m.reads b o (bwL f)):CX Try.prog 62 #[.pointer (some ⟨b,o,none⟩)] m [] (λv m' _=>SlI true (Zbv f) v m'):=
 (Zry f b o m hb).mono λ_ _ _ _ h=>ZqN h
theorem Zt9(m:Mem):NfR true nf0 (.agg #[.slice none 0 0,.slice none 0 0,.slice none 0 0,.slice none 0 0,.bool false]) m:=
 ⟨_,_,_,_,rfl,⟨none,0,rfl,.inl rfl,by simp[nf0],λ_ _=>rfl⟩,⟨none,0,[],rfl,.inl rfl,rfl,by simp[nf0],λi v l hv=>by simp at hv⟩,⟨none,0,rfl,.inl rfl,by simp[nf0],λ_ _=>rfl⟩,⟨none,0,rfl,.inl rfl,by simp[nf0],λ_ _=>rfl⟩⟩
def NfE(A:Nf)(e:Int):Value->Mem->List (List Value)->Prop:=λv m' _=>∃w,v=.tuple #[w,.int .i64 e]/\NfR true A w m'
theorem Zg3{m:Mem}{b o:Nat}{l r:List Value}(h:m.reads b o (l++r)):m.reads b o l:=λj v hv=>h j v (by rw[zA5 (zA0 hv).1];exact hv)
theorem Zh6{m:Mem}{b o:Nat}{l r:List Value}(h:m.reads b o (l++r)):m.reads b (o+l.length) r:=λj v hv=>by
 have:=h (l.length+j) v (by rw[zA4 (by omega),Nat.add_sub_cancel_left];exact hv)
 rwa [<-Nat.add_assoc]at this
theorem ZrU(t:T)(m:Mem)(hr:Rep m t):CX Try.prog 14 #[t.v] m [] (NfE t.ofN t.ofE):=by
 apply ZpU
 intro b m1 aD _ kG iZ b1
 have dD:=Rep.mono aD t hr
 refine⟨t.isNone,Zab (λh=>?_) (λh=>⟨rfl,?_⟩),?_⟩
 ·refine Zai (ZsF t T0 m1 dD (Ztx m1)) λm2 bN=>⟨rfl,?_⟩
  unfold T.isNone;rw[h,Bool.true_and]
 ·unfold T.isNone;rw[h,Bool.false_and]
 refine Zab (λh=>?_) (λh=>?_)
 ·refine⟨_,aD,Mem.le_refl _,_,by unfold T.ofE;rw[if_pos h],?_⟩
  unfold T.ofN;rw[if_pos h];exact Zt9 _
 have eN:t.ofN=if t.nfit then t.auto else nf0:=by unfold T.ofN;rw[h];rfl
 have eE:t.ofE=if t.nfit then 0 else 170:=by unfold T.ofE;rw[h];rfl
 refine⟨!t.nfit,?_,?_⟩
 ·refine Zai (Zru t m1 dD) λm2 bN=>Zab (λhc=>⟨rfl,?_⟩) (λhc=>?_)
  ·have:t.clean=false:=by simpa using hc
   unfold T.nfit;rw[this];rfl
  have hc':t.clean=true:=by simpa using hc
  refine Zem (ZsE t m2 (Rep.mono bN t dD)) λm3 bW=>Zab (λhz=>⟨rfl,?_⟩) (λhz=>?_)
  ·have:¬t.size<=120:=by have:=zA6 hz;omega
   unfold T.nfit;simp[this]
  have hz':t.size<=120:=by have:=of_decide_eq_false hz;omega
  refine Zem (Zkf t m3 (Rep.mono bW t (Rep.mono bN t dD))) λm4 cP=>⟨rfl,?_⟩
  refine congrArg (λz=>[Value.bool z]) ?_
  unfold T.nfit;rw[hc',Bool.eq_iff_iff];simp[hz']
 refine Zab (λhb=>?_) (λhb b4=>?_)
 ·have:t.nfit=false:=by simpa using hb
  refine⟨_,aD,Mem.le_refl _,_,by rw[eE,this];rfl,?_⟩
  rw[eN,this];exact Zt9 _
 have dF:t.nfit=true:=by simpa using hb
 rw[eN,eE,dF]
 simp only[if_true]
 have jY:=dF
 unfold T.nfit at jY
 simp only[zA7,decide_eq_true_eq]at jY
 obtain⟨hc,_,hp⟩:=jY
 have eQ:=hc
 unfold T.clean at eQ
 simp only[zA7,List.all_eq_true]at eQ
 have fU:t.pos<=400:=by unfold T.positions at hp;rw[eQ.1]at hp;simpa using hp
 have mw:=Zg0 t eQ.2 (by omega) ⟨[],[]⟩
 have hN:(mk t ⟨[],[]⟩).2.sets.length<=448:=by rw[mw];simp;omega
 have hY:∀k,¬Yof (.slice none 0 0) (.slice none 0 0) k:=by
  rintro k (h|h) <;> simp[Tok.blk]at h
 have bQ:MkRow m1 (.slice none 0 0) (.slice none 0 0) ⟨[],[]⟩:=⟨.inl ⟨rfl,rfl⟩,.inl ⟨rfl,rfl⟩,λb hb=>by simp[Tok.blk]at hb⟩
 have bX:MsOk ⟨[],[]⟩:=⟨rfl,λj x hj=>by simp at hj⟩
 have oS:Rep (m1.off (Yof (.slice none 0 0) (.slice none 0 0))) t:=Rep.mono (λb o v hv=>by rw[Mem.off_at (hY b)];exact hv) t dD
 have bV:=MkSt.refl bQ bX (Mem.le_refl m1)
 have hg:=ZcX t ⟨[],[]⟩ bX
 refine lentC (ZqK t eQ.2 ⟨[],[]⟩ b4 none none 0 0 0 0 m1 bQ bX oS hN) ZbU (Ze9 bV hg.ok λm3 a3 n3 c3 a4 n4 c4 cK=>?_)
 generalize j5:mk t ⟨[],[]⟩=r at *
 obtain⟨p,s'⟩:=r
 have oT:t.auto=Zsz (p,s'):=by unfold T.auto;rw[j5]
 have gP:m.le m3:=mLt aD (mLt (λb o v hv=>by rw[Mem.off_at (hY b)];exact hv) (mLt cK.base (Mem.off_le m3 _)))
 intro b6 m4 cP ww
 have my:m4.reads b6 0 (bwL p.first++(bwL p.last++[Value.bool p.null])):=ww
 have hF:=Zg3 my
 have hL:m4.reads b6 7 (bwL p.last):=by have:=Zg3 (Zh6 my);rwa [ZlI,Nat.zero_add]at this
 obtain⟨rfl,r5,_⟩:=ZiW cK.row.row0 (λe=>by rw[List.eq_nil_of_length_eq_zero e];rfl)
 obtain⟨rfl,iw,_⟩:=ZiW cK.row.row1 (λe=>by rw[List.eq_nil_of_length_eq_zero e];rfl)
 have oU:s'.sets=[]->a3=none:=λe=>by
  rcases cK.row.row0 with⟨_,h2⟩|⟨_,_,_,_,h3⟩
  ·simp only[Value.slice.injEq]at h2;exact h2.1
  ·rw[e]at h3;simp at h3
 refine⟨λi _ _=>if i=5 then(λv m' _=>SlI true (Zbv p.first) v m')else(λv m' _=>SlI true (Zbv p.last) v m'),Zal (v:=.slice a3 s'.sets.length c3) rfl ?_⟩
 refine⟨_,rfl,ZkJ p.first b6 0 m4 hF,ZcZ,λa5 n5 c5 m5 cY wx=>?_⟩
 refine⟨_,rfl,ZkJ p.last b6 7 m5 (hL.mono cY),ZcZ,λa6 n6 c6 m6 gM lp=>?_⟩
 refine⟨.bool p.null,by simpa using my 14 _ rfl,Zaa rfl (Zaa rfl (Zaa rfl (Zaa rfl λb7=>Zaa rfl λM gN jd mt=>⟨by trivial,Zal (v:=.slice a4 s'.fol.length c4) rfl (Zaa rfl ?_)⟩)))⟩
 have sI:m3.le M:=mLt cP gN
 have wz:SlI true (Zbv p.first) (.slice a5 n5 c5) M:=(show SlI true (Zbv p.first) _ m5 from wx).mono jd
 have wA:SlI true (Zbv p.last) (.slice a6 n6 c6) M:=(show SlI true (Zbv p.last) _ m6 from lp).mono mt
 have bG:s'.fol.length<=448:=by rw[hg.ok.len];exact hN
 have uq:s'.sets.length<=448:=hN
 refine⟨λxs css tvs m' q=>∃(k:Nat)(a:Option Addr)(c:Nat),k<=s'.fol.length/\xs=[.int .i64 k]/\css=[[.slice a3 s'.sets.length c3,.slice a k c,.slice a5 n5 c5,.slice a6 n6 c6,.bool p.null]]/\tvs=[.slice a k c]/\M.le m'/\FolG m' a ((s'.fol.map Zbv).take k)/\q=s'.fol.length - k,⟨_,0,none,0,Nat.zero_le _,rfl,rfl,rfl,Mem.le_refl _,⟨[],.inl rfl,rfl,λi v l hv=>by simp at hv⟩,rfl⟩,?_⟩
 rintro z cs a n c m7 q _ ⟨k,a',c',hk,hz,bZ,cO,nr,hG,hq⟩
 obtain rfl:z=k:=by simpa using hz
 obtain rfl:cs=_:=by simpa using bZ
 simp only[List.cons.injEq,Value.slice.injEq,and_true]at cO
 obtain⟨rfl,rfl,rfl⟩:=cO
 subst hq
 refine Zab (λaH=>?_) (λcL=>?_)
 ·have aF:n < s'.fol.length:=by have:=zA6 aH;simp only[slN]at this;omega
  obtain⟨x,hx⟩:=Zau aF
  have oV:=iw.mono (mLt sI nr)
  rcases oV with h0|⟨fb,fo,ii,gu⟩
  ·have:=congrArg List.length h0
   rw[Zgn]at this;simp at this;omega
  rw[Zoj hx,List.append_assoc]at gu
  have wB:m7.reads fb (fo+n*7) (bwL x):=by
   have:=Zg3 (Zh6 gu)
   rwa [Zgn,List.length_take,Nat.min_eq_left (by omega)]at this
  refine Zaa rfl ⟨fb,fo,ii,⟨by omega,by show(n:Int) < (s'.fol.length:Nat);omega⟩,_,_,_,_,_,_,_,(by rw[zA8];exact wB),λb9=>Zaa rfl λm8 mz oW=>⟨λ_ _ _=>(λv m' _=>SlI true (Zbv x) v m'),Zal (v:=.slice a n c) rfl ⟨_,rfl,ZkJ x b9 0 m8 oW,ZcZ,λa10 n10 c10 m9 sJ wC b10 sK=>Zaa rfl ?_⟩⟩⟩
  obtain⟨ws,dR,dT,mj⟩:=hG
  have fA:((s'.fol.map Zbv).take n).length=n:=by rw[List.length_take,List.length_map];omega
  have gZ:=Mem.le_add sK [Value.slice a10 n10 c10]
  refine⟨.inl rfl,ws,[.slice a10 n10 c10],by rw[dT,fA];simp[slN],rfl,((dR.mono mz).mono sJ).mono gZ,Zh5,by simp[Value.oneCell'],by show(n+1)*24<=_;omega,by show n+1<=_;omega,λa11 c11 m10 mA sL _=>Zaa rfl λM2 oX sM wD sN=>⟨by trivial,by trivial,by trivial,_,by omega,n+1,a11,c11,aF,by rw[Zat (by omega) (by omega)];rfl,rfl,rfl,mLt nr (mLt mz oX),?_,rfl⟩⟩
  have e:(s'.fol.map Zbv).take (n+1)=(s'.fol.map Zbv).take n++[Zbv x]:=by rw[List.take_add_one,List.getElem?_map,hx];rfl
  rw[e]
  exact ZpV dT mj (mLt mz oX) sL sN ((show SlI true (Zbv x) _ m9 from wC).mono sM)
 ·have:n=s'.fol.length:=by have:=of_decide_eq_false cL;simp only[slN]at this;omega
  subst this
  have jx:(s'.fol.map Zbv).take s'.fol.length=s'.fol.map Zbv:=List.take_of_length_le (by simp)
  rw[jx]at hG
  obtain⟨ws,dR,dT,mj⟩:=hG
  have bR:m.le m7:=mLt gP (mLt sI nr)
  refine Zaa rfl ⟨_,bR,Mem.le_refl _,_,rfl,?_⟩
  rw[oT]
  exact⟨_,_,_,_,rfl,⟨a3,c3,rfl,(r5.mono sI).mono nr,by show s'.sets.length<=_;omega,λ_ e=>oU e⟩,⟨a,c,ws,by show _=Value.slice a (s'.fol.map Zbv).length c;rw[List.length_map],dR,dT,by show(s'.fol.map Zbv).length<=_;rw[List.length_map];omega,mj⟩,wz.mono nr,wA.mono nr⟩
theorem Zg4{st:Bool}(l:List Int)(v:Value)(m:Mem)(h:SlI st l v m):CX Try.prog 44 #[v] m [] (λv m' _=>SlI st l v m'/\NewS m v):=(ZnC l v m h).room.mono λv m' css cA ⟨m1,h0,h1,⟨hS,_⟩,hr⟩=>⟨hS.mono h1,ZkG hr⟩
theorem ZnE{st:Bool}(l:List QS)(v:Value)(m:Mem)(h:SlQ st l v m):CX Try.prog 77 #[v] m [] (λv m' _=>SlQ st l v m'/\NewS m v):=(ZnD l v m h).room.mono λv m' css cA ⟨m1,h0,h1,⟨hS,_⟩,hr⟩=>⟨hS.mono h1,ZkG hr⟩
theorem Zua{st:Bool}{l:List Int}{v:Value}{m:Mem}(h:SlI st l v m)(hl:l≠[]){b o:Nat}(ha:slA v=some ⟨b,o,none⟩):¬m.free b:=by
 obtain⟨a,c,rfl,h1,_⟩:=h
 exact ZiY h1 (λe=>hl (by simpa[Zan]using e)) ha
theorem ZuP{st:Bool}{l:List QS}{v:Value}{m:Mem}(h:SlQ st l v m)(hl:l≠[]){b o:Nat}(ha:slA v=some ⟨b,o,none⟩):¬m.free b:=by
 obtain⟨a,c,rfl,h1,_⟩:=h
 exact ZiY h1 (λe=>hl (by
  have:=congrArg List.length e
  rw[Ze0]at this
  exact List.eq_nil_of_length_eq_zero (by simp at this;omega))) ha
def ZpW(a:Option Addr)(v:Value):Prop:=∀b o o',slA v=some ⟨b,o,none⟩->a≠some ⟨b,o',none⟩
def CopyS(st:Bool)(A:Nf)(m:Mem)(v:Value)(m':Mem):Prop:=∃s f x y,v=.agg #[s,f,x,y,.bool A.empty]/\(SlQ st A.sets s m'/\NewS m s)/\(SlI st A.first x m'/\NewS m x)/\(SlI st A.last y m'/\NewS m y)/\∃a c vs,f=.slice a A.fol.length c/\rowRd m' a vs/\vs.length=A.fol.length/\A.fol.length<=1000000/\(A.sets≠[]->ZpW a s)/\(A.first≠[]->ZpW a x)/\(A.last≠[]->ZpW a y)/\∀(i:Nat)(v:Value)(l:List Int),vs[i]?=some v->A.fol[i]?=some l->SlI st l v m'/\NewS m v/\(l≠[]->ZpW a v)
theorem CopyS.nf{st:Bool}{A:Nf}{m m':Mem}{v:Value}(h:CopyS st A m v m'):NfR st A v m':=by
 obtain⟨s,f,x,y,rfl,h1,h2,h3,a,c,vs,rfl,h4,h5,h6,g1,g2,g3,h7⟩:=h
 exact⟨_,_,_,_,rfl,h1.1,⟨a,c,vs,rfl,h4,h5,h6,λi v l hv hl=>(h7 i v l hv hl).1⟩,h2.1,h3.1⟩
theorem CopyS.mono{st:Bool}{A:Nf}{m m' M:Mem}{v:Value}(h:CopyS st A m v m')(k:m'.le M):CopyS st A m v M:=by
 obtain⟨s,f,x,y,rfl,h1,h2,h3,a,c,vs,rfl,h4,h5,h6,g1,g2,g3,h7⟩:=h
 exact⟨_,_,_,_,rfl,⟨h1.1.mono k,h1.2⟩,⟨h2.1.mono k,h2.2⟩,⟨h3.1.mono k,h3.2⟩,a,c,vs,rfl,h4.mono k,h5,h6,g1,g2,g3,λi v l hv hl=>⟨(h7 i v l hv hl).1.mono k,(h7 i v l hv hl).2⟩⟩
theorem ZnF{st:Bool}{A:Nf}{m:Mem}:∀(v:Value)(m':Mem) (css:List (List Value)),CopyS st A m v m'->Shape.fits (.agg [.slice,.slice,.slice,.slice,.bool]) v=true:=by
 rintro v m' css ⟨s,f,x,y,rfl,⟨⟨_,_,rfl,_⟩,_⟩,⟨⟨_,_,rfl,_⟩,_⟩,⟨⟨_,_,rfl,_⟩,_⟩,_,_,_,rfl,_⟩;rfl
set_option maxHeartbeats 800000 in
theorem ZrD{st:Bool}(A:Nf)(v:Value)(m:Mem)(h:NfR st A v m)(hN:A.fol.length<=1000):CX Try.prog 26 #[v] m [] (λv m' _=>CopyS st A m v m'):=by
 obtain⟨s,f,x,y,rfl,⟨sa,sc,rfl,hs,dM,iq⟩,⟨fa,fc,vs,rfl,hf,gE,i9,ia⟩,⟨xa,xc,rfl,hx,fB,hU⟩,⟨ya,yc,rfl,hy,dL,ir⟩⟩:=h
 apply Zmp
 intro b0 m1 aD _ _ _ b1
 refine⟨λi _ m=>if i=2 then(λv m' _=>SlQ st A.sets v m'/\NewS m v)else if i=5 then(λv m' _=>SlI st A.first v m'/\NewS m v)else(λv m' _=>SlI st A.last v m'/\NewS m v),?_⟩
 refine⟨_,rfl,ZnE A.sets _ m1 ⟨sa,sc,rfl,hs.mono aD,dM,iq⟩,λv m' css h=>ZrB v m' css h.1,λa2 n2 c2 m2 bN oY=>?_⟩
 refine⟨_,rfl,Zg4 A.first _ m2 ⟨xa,xc,rfl,(hx.mono aD).mono bN,fB,hU⟩,λv m' css h=>ZcZ v m' css h.1,λa3 n3 c3 m3 bW oZ=>?_⟩
 refine⟨_,rfl,Zg4 A.last _ m3 ⟨ya,yc,rfl,((hy.mono aD).mono bN).mono bW,dL,ir⟩,λv m' css h=>ZcZ v m' css h.1,λa4 n4 c4 m4 cP o6=>?_⟩
 have oY:SlQ st A.sets (.slice a2 n2 c2) m2/\NewS m1 (.slice a2 n2 c2):=oY
 have oZ:SlI st A.first (.slice a3 n3 c3) m3/\NewS m2 (.slice a3 n3 c3):=oZ
 have o6:SlI st A.last (.slice a4 n4 c4) m4/\NewS m3 (.slice a4 n4 c4):=o6
 intro b2 M eB dW f6 gN
 have kJ:m.le M:=mLt aD eB
 have f8:m.le m2:=mLt aD bN
 have o7:m.le m3:=mLt f8 bW
 refine⟨λxs css tvs m' q=>∃(k:Nat)(a:Option Addr)(c:Nat),k<=A.fol.length/\xs=[.int .i64 k]/\css=[[.slice a2 n2 c2,.slice a k c,.slice a3 n3 c3,.slice a4 n4 c4,.bool A.empty]]/\tvs=[.slice a k c]/\M.le m'/\(∃ws,rowRd m' a ws/\ws.length=k/\(k=0->a=none)/\(∀b o,a=some ⟨b,o,none⟩->M.free b)/\∀(i:Nat)(v:Value)(l:List Int),ws[i]?=some v->A.fol[i]?=some l->SlI st l v m'/\NewS m v/\(l≠[]->ZpW a v))/\q=A.fol.length - k,
  ⟨_,0,none,0,by omega,rfl,rfl,rfl,Mem.le_refl _,⟨[],.inl rfl,rfl,λ_=>rfl,λb o e=>(by cases e),λi v l hv=>by simp at hv⟩,rfl⟩,?_⟩
 rintro z cs a n c m5 q _ ⟨k,a',c',hk,hz,bZ,cO,cY,⟨ws,dR,dT,wE,qA,mj⟩,hq⟩
 obtain rfl:z=k:=by simpa using hz
 obtain rfl:cs=_:=by simpa using bZ
 simp only[List.cons.injEq,Value.slice.injEq,and_true]at cO
 obtain⟨rfl,rfl,rfl⟩:=cO
 subst hq
 refine Zab (λaH=>?_) (λcL=>?_)
 ·have aF:n < A.fol.length:=by have:=zA6 aH;omega
  obtain⟨l,hl⟩:=Zau aF
  obtain⟨u,hu⟩:=Zau (l:=vs) (k:=n) (by omega)
  have wF:=ia n u l hu hl
  obtain⟨fb,fo,ii,gu⟩:=ZfA (hf.mono (mLt kJ cY)) hu
  refine⟨fb,fo,ii,⟨by omega,by omega⟩,_,(by rw[zA8];exact gu),λ_ _ m=>(λv m' _=>SlI st l v m'/\NewS m v),Zal (v:=.slice a n c) rfl ⟨_,rfl,Zg4 l u m5 (wF.mono (mLt kJ cY)),λv m' css h=>ZcZ v m' css h.1,λa6 n6 c6 m6 gM lp b4 sO=>Zaa rfl ?_⟩⟩
  have lp:SlI st l (.slice a6 n6 c6) m6/\NewS m5 (.slice a6 n6 c6):=lp
  have gZ:=Mem.le_add sO [Value.slice a6 n6 c6]
  refine⟨.inl rfl,ws,[.slice a6 n6 c6],by rw[dT];simp[slN],rfl,(dR.mono gM).mono gZ,Zh5,by simp[Value.oneCell'],by show(n+1)*24<=_;omega,by show n+1<=_;omega,λa7 c7 m7 pb wG sP=>Zaa rfl λM2 oX sM wD sN=>?_⟩
  have cF:∀b o,a7=some ⟨b,o,none⟩->a=a7\/(m6.add b4 [Value.slice a6 n6 c6]).free b:=λb o e=>by
   rcases sP.2 with h|⟨b',o',h1,h2⟩
   ·rw[h]at e;cases e
   ·rw[h1]at e;cases e
    exact h2.imp id (·.2)
  refine⟨by trivial,A.fol.length - (n+1),by omega,n+1,a7,c7,by omega,?_,rfl,rfl,mLt cY oX,⟨ws++[.slice a6 n6 c6],wG.mono sN,by simp[dT],λe=>by omega,λb o e=>?_,λi v l' hv hl'=>?_⟩,rfl⟩
  ·rw[Zat (by omega) (by omega)];rfl
  ·rcases cF b o e with h|h
   ·exact qA b o (h.trans e)
   ·exact ZqM (mLt cY (mLt gM gZ)) h
  ·rw[List.getElem?_append]at hv
   split at hv
   ·obtain⟨g1,g2,g3⟩:=mj i v l' hv hl'
    refine⟨g1.mono oX,g2,λcE b o o' e e7=>?_⟩
    rcases cF b o' e7 with h|h
    ·exact g3 cE b o o' e (h.trans e7)
    ·exact Zua (g1.mono (mLt gM gZ)) cE e h
   ·rename_i cL
    have eW:i=n:=by
     have:=(zA0 hv).1
     simp at this;omega
    subst eW
    rw[dT,Nat.sub_self]at hv
    obtain rfl:Value.slice a6 n6 c6=v:=by simpa using hv
    obtain rfl:l=l':=by rw[hl]at hl';exact Option.some.inj hl'
    refine⟨lp.1.mono sM,lp.2.less (mLt kJ cY),λcE b o o' e e7=>?_⟩
    rcases cF b o' e7 with h|h
    ·have qB:i≠0:=λe0=>by rw[wE e0]at h;rw[<-h]at e7;cases e7
     exact ZiY dR (λe0=>qB (by rw[<-dT,e0];rfl)) (h.trans e7) (lp.2 b o e)
    ·exact Zua (lp.1.mono gZ) cE e h
 ·have:n=A.fol.length:=by have:=of_decide_eq_false cL;omega
  subst this
  exact Zaa rfl ⟨m5,mLt kJ cY,Mem.le_refl _,_,_,_,_,rfl,⟨oY.1.mono (mLt dW cY),oY.2.less aD⟩,⟨oZ.1.mono (mLt f6 cY),oZ.2.less f8⟩,⟨o6.1.mono (mLt gN cY),o6.2.less o7⟩,a,c,ws,rfl,dR,dT,i9,λcE b o o' e ea=>ZuP (oY.1.mono dW) cE e (qA b o' ea),λcE b o o' e ea=>Zua (oZ.1.mono f6) cE e (qA b o' ea),λcE b o o' e ea=>Zua (o6.1.mono gN) cE e (qA b o' ea),mj⟩
def Zuu(st:Bool)(A:Nf)(m:Mem):Value->Mem->List (List Value)->Prop:=λv m' _=>∃w,v=.tuple #[w,.int .i64 0]/\CopyS st A m w m'
theorem ZpX{st:Bool}(A:Nf)(v:Value)(m:Mem)(h:NfR st A v m)(hr:A.right=true):CX Try.prog 16 #[v] m [] (Zuu st A.turn m):=by
 have h':=h
 have bX:=Zeo.1 hr
 have xo:=bX.n
 have xp:=bX.len
 obtain⟨s,f,x,y,rfl,⟨sa,sc,rfl,hs,dM,iq⟩,⟨fa,fc,vs,rfl,hf,gE,i9,ia⟩,⟨xa,xc,rfl,hx,fB,hU⟩,⟨ya,yc,rfl,hy,dL,ir⟩⟩:=h
 apply Zmq
 intro b m1 aD dE kG iZ b1
 refine Zai (ZkH A _ m1 (h'.mono aD)) λm2 bN=>ZaZ (by rw[hr];rfl) ?_
 refine Zak (ZrD A _ m2 ((h'.mono aD).mono bN) (by omega)) ZnF ?_
 rintro a2 n2 c2 a3 n3 c3 a4 n4 c4 a5 n5 c5 e5 base bW ⟨s',f',x',y',hv,hs',hx',hy',_,_,_,_,_,_,_,_⟩
 simp only[Value.agg.injEq,Array.mk.injEq,List.cons.injEq,Value.bool.injEq,and_true]at hv
 obtain⟨rfl,rfl,rfl,rfl,rfl⟩:=hv
 intro b4
 have mB:m.le base:=mLt aD (mLt bN bW)
 have cZ:∀k,base.free k->b≠k:=λk hk e=>by
  subst e
  have h1:=mLt bN bW _ _ _ (dE 0 _ rfl)
  rw[hk]at h1;cases h1
 refine⟨⟨by omega,by omega,by show(A.fol.length:Int)*24<=_;omega,by omega⟩,λb5 mC=>?_⟩
 simp only[zA8]
 have mg:∀N:Nat,(List.replicate N [Value.slice none 0 0]).flatten=List.replicate N (.slice none 0 0):=λN=>by
  induction N with
  | zero=>rfl
  | succ N ih=>rw[List.replicate_succ,List.flatten_cons,ih];rfl
 rw[mg]
 have start:TurnI base (base.add b5 (List.replicate A.fol.length (.slice none 0 0))) b5 (λ_=>none) (List.replicate A.fol.length []):=by
  refine⟨Mem.le_add mC _,mC,λq l hq=>?_,λ_ _ _ _ _ h=>by simp at h,λq x h=>by simp at h⟩
  rw[List.getElem?_replicate]at hq
  split at hq
  ·rename_i aH
   cases hq
   refine .inl ⟨rfl,rfl,?_⟩
   rw[Mem.add_same,List.getElem?_replicate,if_pos aH]
  ·cases hq
 refine⟨λxs _ _ m' q=>∃(p:Nat) (F:Nat->Option (Nat×Nat)) (cur:List (List Int)),p<=A.fol.length/\xs=[.int .i64 p]/\TurnI base m' b5 F cur/\cur.length=A.fol.length/\ZcC (A.fol.drop p) p cur=Zh0 A.fol/\(∀l∈cur,l.length<=p*1000000)/\q=A.fol.length - p,⟨_,0,_,_,Nat.zero_le _,rfl,start,List.length_replicate,rfl,λl hl=>by obtain⟨_,rfl⟩:=List.mem_replicate.1 hl;exact Nat.zero_le _,rfl⟩,?_⟩
 rintro z m6 q _ ⟨p,F,cur,hp,hz,hT,eQ,dX,wH,hq⟩
 obtain rfl:z=p:=by simpa using hz
 subst hq
 refine Zab (λaH=>?_) (λcL=>?_)
 ·have aF:p < A.fol.length:=by have:=zA6 aH;omega
  obtain⟨l,hl⟩:=Zau aF
  obtain⟨u,hu⟩:=Zau (l:=vs) (k:=p) (by omega)
  obtain⟨la,lc,rfl,gq,dU,_⟩:=(ia p u l hu hl).mono (mLt mB hT.le)
  obtain⟨fb,fo,ii,gu⟩:=ZfA (hf.mono (mLt mB hT.le)) hu
  have sQ:rowRd base la (Zan l):=by
   obtain⟨la',lc',e,sR,_⟩:=(ia p _ l hu hl).mono mB
   simp only[Value.slice.injEq]at e
   rw[e.1];exact sR
  have jZ:=bX.fol l (zA2 hl)
  refine⟨fb,fo,ii,⟨by omega,by omega⟩,_,(by rw[zA8];exact gu),Zaa rfl ?_⟩
  refine⟨λxs _ _ m' q=>∃(j:Nat) (F:Nat->Option (Nat×Nat)) (cur':List (List Int)),j<=l.length/\xs=[.int .i64 j]/\TurnI base m' b5 F cur'/\cur'.length=A.fol.length/\(l.drop j).foldl (ZmD p) cur'=ZfB p cur l/\(∀x∈cur',x.length<=p*1000000+j)/\q=l.length - j,⟨_,0,F,cur,Nat.zero_le _,rfl,hT,eQ,by rw[List.drop_zero];unfold ZfB;rfl,λx hx=>Nat.le_trans (wH x hx) (Nat.le_add_right _ _),rfl⟩,?_⟩
  rintro z m7 q _ ⟨j,F2,cur2,hj,hz,qC,pd,gH,mD,hq⟩
  obtain rfl:z=j:=by simpa using hz
  subst hq
  refine Zab (λgp=>?_) (λim=>?_)
  ·have eF:j < l.length:=by have:=zA6 gp;simp only[slN]at this;omega
   obtain⟨x,hx⟩:=Zau eF
   have nv:=jZ.2 x (zA2 hx)
   have hU:x.toNat < A.fol.length:=by have:=nv.2;unfold Nf.top at this;omega
   obtain⟨lb,lo,wI,gT⟩:=ZcY (sQ.mono qC.le) hx
   obtain⟨c,hc⟩:=Zau (l:=cur2) (k:=x.toNat) (by omega)
   have ur:=mD c (zA2 hc)
   rw[Zcb hx,List.foldl_cons]at gH
   have cH:=qC.cell _ _ hc
   obtain⟨ga,gc,sS,mE,bQ,bO⟩:∃(ga:Option Addr)(gc:Nat),m7 b5 x.toNat=some (.slice ga c.length gc)/\Zun m7 m 1 ga c.length gc/\rowRd (m7.cutA ga (c.length*1)) ga (Zan c)/\∀k,ga=some ⟨k,0,none⟩->base.free k/\k≠b5:=by
    rcases cH with⟨_,rfl,h3⟩|⟨bq,c0,_,h2,h3,h4,h5,h6,h7,h8⟩
    ·exact⟨none,0,h3,.inl ⟨rfl,rfl,rfl⟩,.inl rfl,λk hk=>by cases hk⟩
    ·have fU:0 < c.length:=List.length_pos_iff.2 h2
     refine⟨_,c0,h4,.inr ⟨bq,rfl,h3,by omega,λo ho=>h5 o (by omega),ZkE mB h7⟩,.inr ⟨bq,0,rfl,λi v hv=>?_⟩,λk hk=>by cases hk;exact⟨h7,h8⟩⟩
     have jj:=(zA0 hv).1
     rw[Zb3]at jj
     simp only[Mem.cutA]
     rw[if_neg (by omega)]
     exact h6 i v hv
   have iW:(m7.cutA ga (c.length*1)) b5 x.toNat=some (.slice ga c.length gc):=by
    unfold Mem.cutA
    split
    ·rename_i k o sp
     have hk:k≠b5:=by
      rcases mE with⟨h1,_⟩|⟨k',h1,_⟩
      ·cases h1
      ·cases h1;exact(bO _ rfl).2
     rw[if_neg (λhc=>hk hc.1.symm)];exact sS
    ·exact sS
   have mF:(m7.cutA ga (c.length*1)) b5 (0+(RowKit.intOf (Value.int .i64 x)).toNat*1)=some (.slice ga c.length gc):=by
    have e:0+(RowKit.intOf (Value.int .i64 x)).toNat*1=x.toNat:=by show 0+x.toNat*1=_;omega
    rw[e];exact iW
   refine Zaa rfl ⟨lb,lo,wI,⟨by omega,by show(j:Int) < (l.length:Nat);omega⟩,_,(by rw[zA8];exact gT),ga,c.length,gc,mE,λk hk=>⟨cZ k ?_,trivial⟩,Zaa rfl ⟨b5,0,rfl,⟨by show 0<=x;omega,by show x < (A.fol.length:Nat);omega⟩,_,mF,λb9 oW=>Zaa rfl ?_⟩⟩
   ·cases ga with
    | none=>simp[Tok.blk]at hk
    | some ad=>
     obtain⟨k',o,sp⟩:=ad
     rcases mE with⟨h1,_⟩|⟨k2,h1,_⟩
     ·cases h1
     ·cases h1
      simp[Tok.blk]at hk
      subst hk
      exact(bO _ rfl).1
   refine⟨.inl rfl,Zan c,[.int .i64 (p:Int)],by rw[Zb3];exact(Nat.mul_one _).symm,rfl,bQ.mono (Mem.le_add oW _),Zh5,by simp[Value.oneCell'],by show(c.length+1)*8<=_;omega,by show c.length+1<=_;omega,λa' c' m8 mz wJ pg M eB dW f6=>Zaa rfl ⟨b5,0,rfl,⟨by show 0<=x;omega,by show x < (A.fol.length:Nat);omega⟩,⟨[.slice ga c.length gc],rfl,λi v hv=>?_⟩,ZkE mB mC,by trivial,λe=>?_,cZ b5 mC,λzs kY=>⟨by trivial,?_⟩⟩⟩
   ·cases i with
    | zero=>
     simp at hv;subst hv
     show M b5 (0+x.toNat*1+0)=_
     rw[Nat.add_zero,Nat.zero_add,Nat.mul_one]
     exact eB _ _ _ iW
    | succ i=>simp at hv
   ·subst e
    rw[oW]at iW;cases iW
   ·obtain⟨F3,wK⟩:=qC.push (p:=p) (by omega:0<=x) hc sS (Mem.le_add oW _) wJ pg eB f6 zs kY
    refine⟨_,by omega,j+1,F3,_,eF,by rw[Zat (by omega) (by omega)];rfl,?_,by rw[Ze3];exact pd,gH,λy hy=>?_,rfl⟩
    ·have e:0+(RowKit.intOf (Value.int .i64 x)).toNat*1=x.toNat:=by show 0+x.toNat*1=_;omega
     rw[e];exact wK
    ·obtain⟨i,hi⟩:=List.getElem?_of_mem hy
     have jj:=(zA0 hi).1
     rw[Ze3]at jj
     rw[ZiJ (zA3 jj)]at hi
     have:=mD _ (List.getElem_mem jj)
     split at hi <;> cases hi
     ·rw[zA1,List.length_singleton];omega
     ·omega
  ·have:j=l.length:=by have:=of_decide_eq_false im;simp only[slN]at this;omega
   subst this
   rw[List.drop_length,List.foldl_nil]at gH
   refine⟨by trivial,_,by omega,p+1,F2,cur2,aF,by rw[Zat (by omega) (by omega)];rfl,qC,pd,?_,λy hy=>by have:=mD y hy;omega,rfl⟩
   rw[gH,<-dX,Zcb hl,ZcC]
 ·have:p=A.fol.length:=by have:=of_decide_eq_false cL;omega
  subst this
  rw[List.drop_length,ZcC]at dX
  subst dX
  have fD:∀(q:Nat)(l:List Int),(Zh0 A.fol)[q]?=some l->∃w,m6 b5 q=some w/\SlI st l w m6/\NewS m w/\(l≠[]->ZpW (some ⟨b5,0,none⟩) w):=λq l sg=>by
   have bG:=(Zj7 sg bX.rows).2
   rcases hT.cell _ _ sg with⟨_,rfl,h3⟩|⟨bq,c0,_,h2,h3,h4,_,h6,h7,h8⟩
   ·exact⟨_,h3,⟨none,0,rfl,.inl rfl,by simp,λ_ _=>rfl⟩,λb o e=>by simp[slA]at e,λcE=>absurd rfl cE⟩
   ·exact⟨_,h4,⟨_,c0,rfl,.inr ⟨bq,0,rfl,h6⟩,by omega,λ_ e=>absurd e h2⟩,λb o e=>by simp[slA]at e;exact e.1 ▸ ZkE mB h7,λ_ b o o' e ea=>by simp[slA]at e ea;exact h8 (e.1.trans ea.1.symm)⟩
  have dV:∀(i:Nat)(v:Value),((List.range A.fol.length).map λq=>((m6 b5 q).getD (.bool false)))[i]?=some v->i < A.fol.length/\∃l,(Zh0 A.fol)[i]?=some l/\m6 b5 i=some v/\SlI st l v m6/\NewS m v/\(l≠[]->ZpW (some ⟨b5,0,none⟩) v):=λi v hv=>by
   have jj:=(zA0 hv).1
   rw[List.length_map,List.length_range]at jj
   rw[List.getElem?_map,List.getElem?_range jj]at hv
   simp only[Option.map_some,Option.some.injEq]at hv
   obtain⟨l,hl⟩:=Zau (l:=Zh0 A.fol) (k:=i) (by rw[Ze4];exact jj)
   obtain⟨w,dR,dT⟩:=fD i l hl
   rw[dR]at hv
   have:w=v:=hv
   subst this
   exact⟨jj,l,hl,dR,dT⟩
  have gv:=mLt aD bN
  refine⟨m6,mLt mB hT.le,Mem.le_refl _,_,rfl,_,_,_,_,rfl,⟨hs'.1.mono hT.le,hs'.2.less gv⟩,⟨hy'.1.mono hT.le,hy'.2.less gv⟩,⟨hx'.1.mono hT.le,hx'.2.less gv⟩,some ⟨b5,0,none⟩,A.fol.length,(List.range A.fol.length).map λq=>((m6 b5 q).getD (.bool false)),?_,.inr ⟨b5,0,rfl,λi v hv=>?_⟩,?_,?_,λcE b o o' e ea=>?_,λcE b o o' e ea=>?_,λcE b o o' e ea=>?_,λi v l hv hl=>?_⟩
  ·show _=Value.slice _ (Zh0 A.fol).length _
   rw[Ze4]
  ·rw[Nat.zero_add]
   obtain⟨_,l,_,h2,_⟩:=dV i v hv
   exact h2
  ·show _=(Zh0 A.fol).length
   rw[Ze4,List.length_map,List.length_range]
  ·show(Zh0 A.fol).length<=_
   rw[Ze4];exact i9
  ·cases ea;exact ZuP hs'.1 cE e mC
  ·cases ea;exact Zua hy'.1 cE e mC
  ·cases ea;exact Zua hx'.1 cE e mC
  ·obtain⟨_,l2,h1,_,h3⟩:=dV i v hv
   rw[show A.turn.fol=Zh0 A.fol from rfl,h1]at hl
   cases hl;exact h3
theorem ZnG{st:Bool}(A:Nf)(v:Value)(m:Mem)(h:NfR st A v m)(hr:A.right=true):CX Try.prog 16 #[v] m [] (λv m' _=>∃w,v=.tuple #[w,.int .i64 0]/\NfR st A.turn w m'):=(ZpX A v m h hr).mono λ_ _ _ _ ⟨w,h1,h2⟩=>⟨w,h1,h2.nf⟩
theorem ZqO(q:QS)(hq:QOk q)(c:Nat)(hc:c < 256)(m:Mem):CX Try.prog 117 #[.agg #[.int .u64 q.1,.int .u64 q.2.1,.int .u64 q.2.2.1,.int .u64 q.2.2.2],.int .u8 c] m [] (Ret (.bool (ZuG q c))):=
 ZsH (ZsA q) c hc m (Zus hq m)
theorem ZsU(l:List Int)(a:Option Addr)(c:Nat)(m:Mem)(h:rowRd m a (Zan l))(hl:l.length<=1000000)(eW:∀p∈l,0<=p/\p < 448):CX Try.prog 112 #[.slice a l.length c] m [] (Ret (bwV (Zuh l 0))):=by
 apply Znw
 intro b b1
 refine⟨λxs css _ m' q=>∃(k f:Nat),k<=l.length/\xs=[.int .i64 k]/\css=[bwL f]/\Zuh (l.drop k) f=Zuh l 0/\m.le m'/\q=l.length - k,⟨_,0,0,Nat.zero_le _,rfl,by rw[ZjA],rfl,Mem.le_refl _,rfl⟩,?_⟩
 rintro z cs m1 q aD ⟨k,f,hk,hz,bZ,he,_,hq⟩
 obtain rfl:z=k:=by simpa using hz
 obtain rfl:cs=bwL f:=by simpa using bZ
 subst hq
 refine Zab (λaH=>?_) (λcL=>?_)
 ·have aF:k < l.length:=by have:=zA6 aH;omega
  obtain⟨x,hx⟩:=Zau aF
  obtain⟨b2,o,gz,cM⟩:=ZcY (h.mono aD) hx
  have xq:=eW x (zA2 hx)
  obtain⟨i,rfl⟩:∃i:Nat,x=i:=⟨x.toNat,by omega⟩
  rw[Zcb hx]at he
  refine⟨b2,o,gz,⟨by omega,by omega⟩,_,(by rw[zA8];exact cM),_,trivial,ZjI f i (by omega) b1 100 7 [] [] m1 (by omega),λv _ _ h=>by rw[h.1];rfl,λm2 bN cs2 jS=>⟨by trivial,_,by omega,k+1,f|||2 ^ i,aF,by rw[Zat (by omega) (by omega)];rfl,?_,he,mLt aD bN,rfl⟩⟩
  have:=jS.2
  simp only[List.nil_append,List.append_nil]at this
  exact this
 ·have:k=l.length:=by have:=of_decide_eq_false cL;omega
  subst this
  rw[List.drop_length]at he
  refine Zaa rfl (Zag aD ?_)
  rw[<-he];rfl
theorem ZsV(A:Nf)(f:Nat)(p:Int)(hp : -1<=p/\p < 448)(s0 s1 s2 s3:Value)(b c:Nat)(m:Mem)(hb:m.reads b 0 [s0,s1,s2,s3,.bool A.empty])(hc:m.reads c 0 (bwL f)):CX Try.prog 114 #[.int .i64 p,.pointer (some ⟨b,0,none⟩),.pointer (some ⟨c,0,none⟩)] m [] (Ret (.bool (if p=-1 then A.empty else f.testBit p.toNat))):=by
 apply ZfJ
 by_cases h:p=-1
 ·subst h
  rw[if_pos rfl]
  refine⟨A.empty,ZbZ (by decide) ⟨_,(by simpa using hb 4 _ rfl),?_⟩,Zag (Mem.le_refl _) rfl⟩
  cases A.empty
  ·exact Zaa rfl (ZaZ rfl (ZaZ (by decide) rfl))
  ·exact Zaa rfl (ZbZ rfl rfl)
 ·rw[if_neg h]
  obtain⟨i,rfl⟩:∃i:Nat,p=i:=⟨p.toNat,by omega⟩
  refine⟨f.testBit i,ZaZ (by simp) (ZbZ (by simp) ?_),Zag (Mem.le_refl _) (by rw[zA8])⟩
  exact Zai (ZqH f i (by omega) c 0 m hc) λm1 aD=>rfl
theorem ZpY(l:List Int)(a:Option Addr)(c:Nat)(g:Nat)(ca:List Value)(p:Int->Bool)(m:Mem)(h:rowRd m a (Zan l))(hl:l.length<=1000000)(hg:∀x∈l,∀m',m.le m'->CX Try.prog g (([.int .i64 x]:List Value)++ca).toArray m' [] (Ret (.bool (p x)))):
  CX Try.prog 113 #[.slice a l.length c,.func (.func g) #[] ca.toArray] m [] (Ret (.bool (l.any p))):=by
 have sT:CX Try.prog 146 #[.slice a l.length c,.func (.func g) #[] ca.toArray] m [] (λv _ _=>∃n:Int,v=.int .i64 n/\decide (n ≥ 0)=l.any p):=by
  apply ZbN a l.length c g [] ca
  refine⟨λxs _ _ m' q=>∃k:Nat,k<=l.length/\xs=[.int .i64 k]/\(l.drop k).any p=l.any p/\m.le m'/\q=l.length - k,⟨_,0,Nat.zero_le _,rfl,rfl,Mem.le_refl _,rfl⟩,?_⟩
  rintro z m1 q aD ⟨k,hk,hz,he,_,hq⟩
  obtain rfl:z=k:=by simpa using hz
  subst hq
  refine Zab (λaH=>?_) (λcL=>?_)
  ·have aF:k < l.length:=by have:=zA6 aH;omega
   obtain⟨x,hx⟩:=Zau aF
   obtain⟨b2,o,gz,cM⟩:=ZcY (h.mono aD) hx
   rw[Zcb hx,List.any_cons]at he
   refine⟨b2,o,gz,⟨by omega,by omega⟩,_,(by rw[zA8];exact cM),Zai (hg x (zA2 hx) m1 aD) λm2 bN=>Zab (λh2=>?_) (λh2=>⟨_,by omega,k+1,aF,by rw[Zat (by omega) (by omega)];rfl,?_,mLt aD bN,rfl⟩)⟩
   ·refine⟨_,mLt aD bN,Mem.le_refl _,_,rfl,?_⟩
    rw[<-he,h2];simp
   ·rw[<-he,h2];rfl
  ·have:k=l.length:=by have:=of_decide_eq_false cL;omega
   subst this
   refine⟨_,aD,Mem.le_refl _,_,rfl,?_⟩
   rw[<-he,List.drop_length];rfl
 apply Zbx a l.length c g [] ca
 refine Zak sT (by rintro v m' css ⟨n,rfl,_⟩;rfl) ?_
 rintro n m1 aD ⟨n',hn,he⟩
 cases hn
 exact Zag aD (by rw[<-he])
theorem Zg5{st:Bool}(A:Nf)(hA:A.Ok)(v:Value)(l:List Int)(a:Option Addr)(c:Nat)(m:Mem)(h:NfR st A v m)(hl:rowRd m a (Zan l))(dU:l.length<=1000000)(hs:A.states l=true):CX Try.prog 68 #[v,.slice a l.length c] m [] (Ret (.bool (A.accepts l))):=by
 obtain⟨s,f,x,y,rfl,⟨sa,sc,rfl,hs',dM,iq⟩,⟨fa,fc,vs,rfl,hf,gE,i9,ia⟩,⟨xa,xc,rfl,hx,fB,hU⟩,⟨ya,yc,rfl,hy,dL,ir⟩⟩:=h
 have hn:=hA.n
 apply Zhn
 intro b m1 aD hb
 refine Zak (ZsU A.last ya yc m1 (hy.mono aD) dL (λp hp=>by have:=hA.last.2 p hp;unfold Nf.top at this;omega)) (by rintro v m' css rfl;rfl) ?_
 intro n0 n1 n2 n3 n4 n5 n6 m2 bN hv
 simp only[Ret,bwV,Value.agg.injEq,Array.mk.injEq,List.cons.injEq,Value.int.injEq,true_and,and_true]at hv
 obtain⟨rfl,rfl,rfl,rfl,rfl,rfl,rfl⟩:=hv
 intro b1 m3 bW dE
 have o7:=mLt bN bW
 refine Zai (ZpY l a c _ [.pointer (some ⟨b,0,none⟩),.pointer (some ⟨b1,0,none⟩)] A.acc1 m3 ((hl.mono aD).mono o7) dU λp hp m4 cP=>?_) λm5 cY=>Zag (mLt aD (mLt o7 cY)) rfl
 have:=ZjD hs p hp
 exact ZsV A (Zuh A.last 0) p ⟨by omega,by unfold Nf.top at this;omega⟩ _ _ _ _ b b1 m4 ((hb.mono o7).mono cP) (Mem.reads.mono dE cP)
theorem Zoz{st:Bool}(A:Nf)(v:Value)(l:List Int)(a:Option Addr)(c:Nat)(m:Mem)(h:NfR st A v m)(hl:rowRd m a (Zan l))(dU:l.length<=1000000):CX Try.prog 78 #[v,.slice a l.length c] m [] (Ret (.int .i64 (A.err l))):=by
 have h':=h
 obtain⟨s,f,x,y,rfl,⟨sa,sc,rfl,hs',dM,iq⟩,⟨fa,fc,vs,rfl,hf,gE,i9,ia⟩,⟨xa,xc,rfl,hx,fB,hU⟩,⟨ya,yc,rfl,hy,dL,ir⟩⟩:=h
 apply Zkh
 intro b m1 aD hb
 refine Zai (ZkH A _ m1 (h'.mono aD)) λm2 bN=>Zab (λh1=>Zag (mLt aD bN) ?_) (λh1=>?_)
 ·unfold Nf.err;rw[if_pos (by simpa using h1)]
 have hr:A.right=true:=by simpa using h1
 have hw:IntKind.i64.wrap ((A.sets.length:Int) - 1)=A.top:=Zat (by omega) (by omega)
 simp only[hw]
 refine Zai (ZgF l (-1) A.top a c m2 ((hl.mono aD).mono bN) dU ⟨by omega,by omega⟩) λm3 bW=>Zab (λh2=>Zag (mLt aD (mLt bN bW)) ?_) (λh2=>Zag (mLt aD (mLt bN bW)) ?_)
 ·have:A.states l=false:=by unfold Nf.states;simpa using h2
  unfold Nf.err;rw[hr,this];rfl
 ·have:A.states l=true:=by unfold Nf.states;simpa using h2
  unfold Nf.err;rw[hr,this];rfl
theorem ZoA{st:Bool}(A:Nf)(hA:A.Ok)(hq:∀q∈A.sets,QOk q)(v:Value)(l:List Int)(a:Option Addr)(c ch:Nat)(jm:ch < 256)(m:Mem)(h:NfR st A v m)(hl:rowRd m a (Zan l))(dU:l.length<=1000000)(hs:A.states l=true):CX Try.prog 79 #[v,.slice a l.length c,.int .u8 ch] m [] (λv m' _=>SlI true (A.step l ch) v m'/\NewS m v):=by
 obtain⟨s,f,x,y,rfl,⟨sa,sc,rfl,hs',dM,iq⟩,⟨fa,fc,vs,rfl,hf,gE,i9,ia⟩,⟨xa,xc,rfl,ut,fB,hU⟩,⟨ya,yc,rfl,hy,dL,ir⟩⟩:=h
 have hn:=hA.n
 have bG:=hA.len
 apply Zmd
 intro b m1 aD hb b1
 refine⟨λxs css _ m' q=>∃(k f:Nat),k<=l.length/\xs=[.int .i64 k]/\css=[bwL f]/\A.stepM (l.drop k) ch f=A.stepM l ch 0/\m1.le m'/\q=l.length - k,⟨_,0,0,Nat.zero_le _,rfl,by rw[ZjA],rfl,Mem.le_refl _,rfl⟩,?_⟩
 rintro z cs m2 q bN ⟨k,f,hk,hz,bZ,he,_,hq⟩
 obtain rfl:z=k:=by simpa using hz
 obtain rfl:cs=bwL f:=by simpa using bZ
 subst hq
 have gv:=mLt aD bN
 refine Zab (λaH=>?_) (λcL=>?_)
 ·have aF:k < l.length:=by have:=zA6 aH;omega
  obtain⟨p,hp⟩:=Zau aF
  obtain⟨b2,o,gz,cM⟩:=ZcY (hl.mono gv) hp
  have mY:=ZjD hs p (zA2 hp)
  rw[Zcb hp]at he
  have he':A.stepM (l.drop (k+1)) ch ((A.fromL p).foldl (A.step1 ch) f)=A.stepM l ch 0:=he
  have inner:∀(w:List Int),A.fromL p=w->w.length<=1000000->∀(wa:Option Addr),rowRd m2 wa (Zan w)->∀(k2 f2:Nat)(m3:Mem)(x:Int),m2.le m3->w[k2]?=some x->∃(i:Nat)(bs os:Nat)(qq:QS),x=i/\i < 448/\sa=some ⟨bs,os,none⟩/\(0<=x/\x < (A.sets.length:Nat))/\m3.reads bs (os+x.toNat*4) [.int .u64 qq.1,.int .u64 qq.2.1,.int .u64 qq.2.2.1,.int .u64 qq.2.2.2]/\QOk qq/\ZuG qq ch=A.hasAt x ch:=by
   intro w hw _ wa _ k2 f2 m3 x bW hx
   have hb:=(Zgr hA p).2 x (by rw[hw];exact zA2 hx)
   unfold Nf.top at hb
   obtain⟨qq,sU⟩:=Zau (l:=A.sets) (k:=x.toNat) (by omega)
   obtain⟨bs,os,mu,iu⟩:=ZiI ((hs'.mono gv).mono bW) sU
   refine⟨x.toNat,bs,os,qq,by omega,by omega,mu,⟨by omega,by omega⟩,iu,hq qq (zA2 sU),?_⟩
   unfold Nf.hasAt;rw[sU];rfl
  have dR:IntKind.i64.wrap ((k:Int)+1)=((k+1:Nat):Int):=by rw[Zat (by omega) (by omega)];rfl
  refine⟨b2,o,gz,⟨by omega,by omega⟩,_,(by rw[zA8];exact cM),Zaa rfl (Zab (λcE=>?_) (λcE=>?_))⟩
  ·have nZ:¬p=-1:=by simpa[RowKit.intOf]using cE
   have kZ:p.toNat < A.fol.length:=by unfold Nf.top at mY;omega
   obtain⟨w,hw⟩:=Zau kZ
   obtain⟨u,hu⟩:=Zau (l:=vs) (k:=p.toNat) (by omega)
   obtain⟨wa,wc,rfl,gL,wL,_⟩:=(ia _ u w hu hw).mono gv
   obtain⟨fb,fo,ii,gu⟩:=ZfA (hf.mono gv) hu
   have hO:A.fromL p=w:=by unfold Nf.fromL;rw[if_neg nZ,hw];rfl
   refine Zaa rfl ⟨fb,fo,ii,⟨by show 0<=p;omega,by show p < (A.fol.length:Nat);omega⟩,_,(show m2 fb (fo+p.toNat*1)=some _ from gu),Zaa rfl ?_⟩
   refine⟨λxs css _ m' q=>∃(j f2:Nat),j<=w.length/\xs=[.int .i64 j]/\css=[bwL f2]/\(w.drop j).foldl (A.step1 ch) f2=(A.fromL p).foldl (A.step1 ch) f/\m2.le m'/\q=w.length - j,⟨_,0,f,Nat.zero_le _,rfl,rfl,by rw[hO];rfl,Mem.le_refl _,rfl⟩,?_⟩
   rintro z cs m3 q bW ⟨j,f2,hj,hz,bZ,hZ,_,hq⟩
   obtain rfl:z=j:=by simpa using hz
   obtain rfl:cs=bwL f2:=by simpa using bZ
   subst hq
   refine Zab (λgp=>?_) (λim=>?_)
   ·have eF:j < w.length:=by have:=zA6 gp;simp only[slN]at this;omega
    obtain⟨x,hx⟩:=Zau eF
    obtain⟨b3,o3,mG,jT⟩:=ZcY (gL.mono bW) hx
    obtain⟨i,bs,os,qq,rfl,hi,mu,eW,iu,sV,j0⟩:=inner w hO wL wa gL j f2 m3 x bW hx
    rw[Zcb hx,List.foldl_cons]at hZ
    have dT:IntKind.i64.wrap ((j:Int)+1)=((j+1:Nat):Int):=by rw[Zat (by omega) (by omega)];rfl
    refine Zaa rfl ⟨b3,o3,mG,⟨by omega,by show(j:Int) < (w.length:Nat);omega⟩,.int .i64 (i:Int),(by rw[zA8];exact jT),Zaa rfl ⟨bs,os,mu,eW,_,_,_,_,iu,?_⟩⟩
    refine Zai (ZqO qq sV ch jm m3) λm4 cP=>Zab (λhh=>?_) (λhh=>?_)
    ·refine⟨_,trivial,ZjI f2 i hi b1 100 7 [] [] m4 (by omega),λv _ _ h=>by rw[h.1];rfl,λm5 cY cs5 jU=>⟨by trivial,_,by omega,j+1,f2|||2 ^ i,eF,by rw[dT],?_,?_,mLt bW (mLt cP cY),rfl⟩⟩
     ·have:=jU.2
      simp only[List.nil_append,List.append_nil]at this
      exact this
     ·rw[j0]at hh
      rw[<-hZ];unfold Nf.step1;rw[if_pos hh,zA8]
    ·refine⟨by trivial,_,by omega,j+1,f2,eF,by rw[dT],rfl,?_,mLt bW cP,rfl⟩
     rw[j0]at hh
     rw[<-hZ];unfold Nf.step1;rw[if_neg (by simp[hh])]
   ·have:j=w.length:=by have:=of_decide_eq_false im;simp only[slN]at this;omega
    subst this
    rw[List.drop_length,List.foldl_nil]at hZ
    exact⟨by trivial,_,by omega,k+1,f2,aF,by rw[dR],rfl,by rw[hZ];exact he',mLt bN bW,rfl⟩
  ·have nZ:p=-1:=by simpa[RowKit.intOf]using cE
   have hO:A.fromL p=A.first:=by unfold Nf.fromL;rw[if_pos nZ]
   refine⟨λxs css _ m' q=>∃(j f2:Nat),j<=A.first.length/\xs=[.int .i64 j]/\css=[bwL f2]/\(A.first.drop j).foldl (A.step1 ch) f2=(A.fromL p).foldl (A.step1 ch) f/\m2.le m'/\q=A.first.length - j,⟨_,0,f,Nat.zero_le _,rfl,rfl,by rw[hO];rfl,Mem.le_refl _,rfl⟩,?_⟩
   rintro z cs m3 q bW ⟨j,f2,hj,hz,bZ,hZ,_,hq⟩
   obtain rfl:z=j:=by simpa using hz
   obtain rfl:cs=bwL f2:=by simpa using bZ
   subst hq
   refine Zab (λgp=>?_) (λim=>?_)
   ·have eF:j < A.first.length:=by have:=zA6 gp;omega
    obtain⟨x,hx⟩:=Zau eF
    obtain⟨b3,o3,mG,jT⟩:=ZcY ((ut.mono gv).mono bW) hx
    obtain⟨i,bs,os,qq,rfl,hi,mu,eW,iu,sV,j0⟩:=inner A.first hO fB xa (ut.mono gv) j f2 m3 x bW hx
    rw[Zcb hx,List.foldl_cons]at hZ
    have dT:IntKind.i64.wrap ((j:Int)+1)=((j+1:Nat):Int):=by rw[Zat (by omega) (by omega)];rfl
    refine⟨b3,o3,mG,⟨by omega,by omega⟩,.int .i64 (i:Int),(by rw[zA8];exact jT),Zaa rfl ⟨bs,os,mu,eW,_,_,_,_,iu,?_⟩⟩
    refine Zai (ZqO qq sV ch jm m3) λm4 cP=>Zab (λhh=>?_) (λhh=>?_)
    ·refine⟨_,trivial,ZjI f2 i hi b1 100 7 [] [] m4 (by omega),λv _ _ h=>by rw[h.1];rfl,λm5 cY cs5 jU=>⟨by trivial,_,by omega,j+1,f2|||2 ^ i,eF,by rw[dT],?_,?_,mLt bW (mLt cP cY),rfl⟩⟩
     ·have:=jU.2
      simp only[List.nil_append,List.append_nil]at this
      exact this
     ·rw[j0]at hh
      rw[<-hZ];unfold Nf.step1;rw[if_pos hh,zA8]
    ·refine⟨by trivial,_,by omega,j+1,f2,eF,by rw[dT],rfl,?_,mLt bW cP,rfl⟩
     rw[j0]at hh
     rw[<-hZ];unfold Nf.step1;rw[if_neg (by simp[hh])]
   ·have:j=A.first.length:=by have:=of_decide_eq_false im;omega
    subst this
    rw[List.drop_length,List.foldl_nil]at hZ
    exact⟨by trivial,_,by omega,k+1,f2,aF,by rw[dR],rfl,by rw[hZ];exact he',mLt bN bW,rfl⟩
 ·have:k=l.length:=by have:=of_decide_eq_false cL;omega
  subst this
  rw[List.drop_length]at he
  intro m3 bW fH
  refine Zak (ZrC f b1 0 m3 fH) (λv m' css h=>ZcZ v m' css h.1) ?_
  intro a4 n4 c4 m4 cP hR
  refine⟨m4,mLt gv (mLt bW cP),Mem.le_refl _,?_⟩
  have:A.step l ch=Zbv f:=by unfold Nf.step;rw[<-he];rfl
  rw[this];exact⟨hR.1,hR.2.less (mLt gv bW)⟩
theorem ZsW{st:Bool}(A:Nf)(hA:A.Ok)(hq:∀q∈A.sets,QOk q)(v:Value)(l:List Int)(a:Option Addr)(c ch:Nat)(jm:ch < 256)(m:Mem)(h:NfR st A v m)(hl:rowRd m a (Zan l))(dU:l.length<=1000000)(hs:A.states l=true):CX Try.prog 79 #[v,.slice a l.length c,.int .u8 ch] m [] (λv m' _=>SlI true (A.step l ch) v m'):=(ZoA A hA hq v l a c ch jm m h hl dU hs).mono λ_ _ _ _ h=>h.1
theorem ZoB{st:Bool}(A:Nf)(hq:∀q∈A.sets,QOk q)(v:Value)(l:List Int)(a:Option Addr)(c ch:Nat)(jm:ch < 256)(m:Mem)(h:NfR st A v m)(hl:rowRd m a (Zan l))(dU:l.length<=1000000):
  CX Try.prog 27 #[v,.slice a l.length c,.int .u8 ch] m [] (λv m' _=>∃w,v=.tuple #[w,.int .i64 (A.err l)]/\SlI true (if A.err l=0 then A.step l ch else[]) w m'/\NewS m w):=by
 have h':=h
 obtain⟨s,f,x,y,rfl,⟨sa,sc,rfl,hs',dM,iq⟩,⟨fa,fc,vs,rfl,hf,gE,i9,ia⟩,⟨xa,xc,rfl,hx,fB,hU⟩,⟨ya,yc,rfl,hy,dL,ir⟩⟩:=h
 apply Zme
 intro b m1 aD hb
 refine Zem (Zoz A _ l a c m1 (h'.mono aD) (hl.mono aD) dU) λm2 bN=>Zab (λh1=>?_) (λh1=>?_)
 ·have he:A.err l≠0:=by simpa using h1
  refine⟨_,mLt aD bN,Mem.le_refl _,_,rfl,?_⟩
  rw[if_neg he]
  exact⟨⟨none,0,rfl,.inl rfl,by simp,λ_ _=>rfl⟩,λb o e=>by simp[slA]at e⟩
 ·have he:A.err l=0:=by simpa using h1
  have hr:A.right=true:=by
   unfold Nf.err at he
   cases hr:A.right with
   | true=>rfl
   | false=>rw[hr]at he;simp at he
  have hs:A.states l=true:=by
   unfold Nf.err at he
   cases hs:A.states l with
   | true=>rfl
   | false=>rw[hr,hs]at he;simp at he
  have f8:=mLt aD bN
  refine Zak (ZoA A (Zeo.1 hr) hq _ l a c ch jm m2 (h'.mono f8) (hl.mono f8) dU hs) (λv m' css h=>ZcZ v m' css h.1) ?_
  intro a3 n3 c3 m3 bW hR
  refine⟨_,mLt f8 bW,Mem.le_refl _,_,by rw[he],?_⟩
  rw[if_pos he];exact⟨hR.1,hR.2.less f8⟩
theorem ZqP{st:Bool}(A:Nf)(hq:∀q∈A.sets,QOk q)(v:Value)(l:List Int)(a:Option Addr)(c ch:Nat)(jm:ch < 256)(m:Mem)(h:NfR st A v m)(hl:rowRd m a (Zan l))(dU:l.length<=1000000):
  CX Try.prog 27 #[v,.slice a l.length c,.int .u8 ch] m [] (λv m' _=>∃w,v=.tuple #[w,.int .i64 (A.err l)]/\SlI true (if A.err l=0 then A.step l ch else[]) w m'):=(ZoB A hq v l a c ch jm m h hl dU).mono λ_ _ _ _ ⟨w,h1,h2,_⟩=>⟨w,h1,h2⟩
theorem ZiZ{P:Program}{g:FuncId}{args:Array Value}{m:Mem}{v0:Value}{xs:List Box}{R0:Value->Mem->List (List Value)->List Value->Prop}{Q:Nat->Prop}{F:Shape}{K:(Nat->Prop)->(Value->Mem->List (List Value)->List Value->Prop)->Prop}(h:CXY P g args m (λk=>(Tok.mk v0 1).blk=some k) xs [⟨v0,1⟩] R0)(hf:∀v m' css tvs,R0 v m' css tvs->Shape.fits F v=true)(k:K (λk=>(Tok.mk v0 1).blk=some k) R0):
  ∃(Y1:Nat->Prop) (R:Value->Mem->List (List Value)->List Value->Prop),CXY P g args m Y1 xs [⟨v0,1⟩] R/\(∀t:Tok,t∈[Tok.mk v0 1]->∀b,t.blk=some b->Y1 b)/\(∀b,Y1 b->(∃t:Tok,t∈[Tok.mk v0 1]/\t.blk=some b)\/Q b)/\(∀v m' css tvs,R v m' css tvs->Shape.fits F v=true)/\K Y1 R:=
 ⟨_,_,h,λt ht b hb=>by rw[List.mem_singleton]at ht;subst ht;exact hb,λb hb=>.inl ⟨_,List.mem_singleton.2 rfl,hb⟩,hf,k⟩
def CbR{S:Type}(j:Nat)(Inv:Nat->S->Value->Value->Mem->Prop)(m:Mem)(s:S):Value->Mem->List (List Value)->List Value->Prop:=λv m' css tvs=>
 v=.tuple #[]/\m.le m'/\∃a n c a1 n1 c1,css=[[.slice a n c]]/\tvs=[.slice a1 n1 c1]/\Inv j s (.slice a n c) (.slice a1 n1 c1) m'
def ZuJ{S:Type}(A:Nf)(g:FuncId)(fi cap:List Value)(cb:Nat)(st:S->Nat->List Int->S)(Inv:Nat->S->Value->Value->Mem->Prop)(base:Mem):Prop:=
 ∀(s:S)(n:Nat)(l:List Int)(la:Option Addr)(lc:Nat)(ca:Option Addr)(cn cc:Nat)(ta:Option Addr)(tn tc:Nat)(m:Mem),base.le m->Inv n s (.slice ca cn cc) (.slice ta tn tc) m->rowRd m la (Zan l)->l.length<=1000000->A.states l=true->n<=4096->
  CXY Try.prog g ((fi++([Value.int .i64 (n:Nat),Value.slice la l.length lc]:List Value))++cap).toArray m (λk=>(Tok.mk (.slice ta tn tc) 1).blk=some k) [⟨cb,[.slice ca cn cc],24,1,false,true⟩] [⟨.slice ta tn tc,1⟩] (CbR (n+1) Inv m (st s n l))
theorem Zmr{S:Type}{j:Nat}{Inv:Nat->S->Value->Value->Mem->Prop}{m:Mem}{s:S}:∀v m' css tvs,CbR j Inv m s v m' css tvs->Shape.fits (.tup []) v=true:=by
 rintro v m' css tvs ⟨rfl,_⟩;rfl
theorem ZqQ{S:Type}{stt:Bool}(A:Nf)(hq:∀q∈A.sets,QOk q)(v:Value)(bs:List Nat)(ba:Option Addr)(bc:Nat)(again:Bool)(g:FuncId)(fi cap:List Value)(cb:Nat)(st:S->Nat->List Int->S)(Inv:Nat->S->Value->Value->Mem->Prop)(gC:∀j s a b m m',Inv j s a b m->m.le m'->Inv j s a b m')
  (s0:S) (ca:Option Addr) (cn cc:Nat) (ta:Option Addr) (tn tc:Nat) (m:Mem) (nq:ZuJ A g fi cap cb st Inv m) (h:NfR stt A v m) (hb:Byt m ba bs) (cN:Inv 0 s0 (.slice ca cn cc) (.slice ta tn tc) m):
  CXY Try.prog 80 #[v,.slice ba bs.length bc,.bool again,.func (.func g) fi.toArray cap.toArray] m (λk=>(Tok.mk (.slice ta tn tc) 1).blk=some k) [⟨cb,[.slice ca cn cc],24,1,false,true⟩] [⟨.slice ta tn tc,1⟩]
   (λv m' css tvs=>v=.int .i64 (A.runE bs.length)/\m.le m'/\∃j a n c a1 n1 c1,css=[[.slice a n c]]/\tvs=[.slice a1 n1 c1]/\Inv j (if A.runE bs.length=0 then A.runL again st bs 0 [-1] (st s0 0 [-1])else s0) (.slice a n c) (.slice a1 n1 c1) m'):=by
 have h':=h
 obtain⟨s,f,x,y,rfl,⟨sa,sc,rfl,hs',dM,iq⟩,⟨fa,fc,vs,rfl,hf,gE,i9,ia⟩,⟨xa,xc,rfl,hx,fB,hU⟩,⟨ya,yc,rfl,hy,dL,ir⟩⟩:=h
 apply Zmf
 intro b m1 aD _ _ _
 refine Zai (ZkH A _ m1 (h'.mono aD)) λm2 bN=>Zab (λh1=>?_) (λh1=>?_)
 ·have he:A.runE bs.length=171:=by unfold Nf.runE;rw[if_pos (by simpa using h1)]
  rw[he]
  exact⟨by trivial,rfl,mLt aD bN,_,_,_,_,_,_,_,rfl,rfl,gC _ _ _ _ _ _ cN (mLt aD bN)⟩
 have hr:A.right=true:=by simpa using h1
 have hA:=Zeo.1 hr
 have f8:=mLt aD bN
 refine Zab (λh2=>?_) (λh2=>?_)
 ·have h2':4096 < bs.length:=by have:=zA6 h2;omega
  have he:A.runE bs.length=3:=by unfold Nf.runE;rw[hr,if_pos h2'];rfl
  rw[he]
  exact⟨by trivial,rfl,f8,_,_,_,_,_,_,_,rfl,rfl,gC _ _ _ _ _ _ cN f8⟩
 have h2':bs.length<=4096:=by have:=of_decide_eq_false h2;omega
 have he:A.runE bs.length=0:=by unfold Nf.runE;rw[if_neg (by rw[hr];simp),if_neg (by omega)]
 rw[he]
 simp only[if_true]
 intro b2 gj
 have gv:m.le (m2.add b2 [.int .i64 (-1)]):=mLt f8 (Mem.le_add gj _)
 have dH:rowRd (m2.add b2 [.int .i64 (-1)]) (some ⟨b2,0,none⟩) (Zan [-1]):=Zh5
 have mH:A.states [-1]=true:=by
  unfold Nf.states
  rw[ZbH]
  exact⟨by simp,λx hx=>by rw[List.mem_singleton]at hx;subst hx;unfold Nf.top;omega⟩
 refine ZiZ (nq s0 0 [-1] (some ⟨b2,0,none⟩) 1 ca cn cc ta tn tc _ gv (gC _ _ _ _ _ _ cN gv) dH (by simp) mH (by omega)) Zmr ?_
 rintro m3 eM _ cs a3 n3 c3 ⟨_,bW,a4,n4,c4,a5,n5,c5,bZ,cO,ph⟩
 simp only[List.cons.injEq,Value.slice.injEq,and_true]at cO
 obtain⟨rfl,rfl,rfl⟩:=cO
 obtain rfl:cs=[.slice a4 n4 c4]:=by simpa using bZ
 have oR:=mLt gv bW
 refine⟨λxs css tvs m' q=>∃(k:Nat)(l:List Int)(la:Option Addr)(lc:Nat)(z:S)(a n:_)(c:Nat)(a1:Option Addr)(n1 c1:Nat)(w:Value),k<=bs.length/\xs=[.slice la l.length lc,.int .i64 k]/\css=[[.slice a n c]]/\tvs=[w,.slice a1 n1 c1]/\m.le m'/\Inv (k+1) z (.slice a n c) (.slice a1 n1 c1) m'/\rowRd m' la (Zan l)/\l.length<=1000000/\A.states l=true/\A.runL again st (bs.drop k) k l z=A.runL again st bs 0 [-1] (st s0 0 [-1])/\q=bs.length - k,
  ⟨_,0,[-1],some ⟨b2,0,none⟩,1,st s0 0 [-1],a4,n4,c4,a3,n3,c3,.slice none 0 0,Nat.zero_le _,rfl,rfl,rfl,oR,ph,dH.mono bW,by simp,mH,rfl,rfl⟩,?_⟩
 rintro la ln lc z cs a6 n6 c6 a7 n7 c7 m4 q _ ⟨k,l,la',lc',zz,a,n,c,a1,n1,c1,w,hk,hx,bZ,cO,ll,iX,jZ,dU,i8,dX,hq⟩
 simp only[List.cons.injEq,Value.slice.injEq,Value.int.injEq,true_and,and_true]at hx
 obtain⟨⟨rfl,rfl,rfl⟩,rfl⟩:=hx
 simp only[List.cons.injEq,and_true]at bZ cO
 subst bZ
 obtain⟨rfl,cO⟩:=cO
 simp only[Value.slice.injEq]at cO
 obtain⟨rfl,rfl,rfl⟩:=cO
 subst hq
 refine Zab (λaH=>?_) (λcL=>?_)
 ·have aF:k < bs.length:=by have:=zA6 aH;omega
  obtain⟨ch,jm⟩:=Zau aF
  have lf:=hb.2 ch (zA2 jm)
  rcases(hb.mono ll).1 with h0|⟨bb,bo,wM,sW⟩
  ·rw[h0]at aF;simp at aF
  have sX:m4 bb (bo+k*1)=some (.int .u8 ch):=by
   have:=sW k (.int .u8 ch) (by simp[jm])
   rwa [Nat.mul_one]
  have dR:IntKind.i64.wrap ((k:Int)+1)=((k+1:Nat):Int):=by rw[Zat (by omega) (by omega)];rfl
  rw[Zcb jm,Nf.runL]at dX
  refine⟨bb,bo,wM,⟨by omega,by omega⟩,_,(by rw[zA8];exact sX),?_⟩
  refine Zak (ZsW A hA hq _ l la lc ch lf m4 (h'.mono ll) jZ dU i8) ZcZ ?_
  rintro a8 n8 c8 m5 cY ⟨a8',c8',uu,j1,uv,_⟩
  simp only[Value.slice.injEq]at uu
  obtain⟨rfl,rfl,rfl⟩:=uu
  have lm:=mLt ll cY
  have uw:(A.step l ch).length<=448:=ZlP _
  have sY:=ZlS hA again l ch
  have fin:∀(l2:List Int)(la2:Option Addr)(lc2:Nat)(m6:Mem)(w:Value),l2=A.next again l ch->m.le m6->rowRd m6 la2 (Zan l2)->l2.length<=1000000->∀(m7:Mem)(cs:List Value)(a9:Option Addr)(n9 c9:Nat),CbR (k+1+1) Inv m6 (st zz (k+1) l2) (.tuple #[]) m7 [cs] [.slice a9 n9 c9]->
    ∃n',n' < bs.length - k/\(λ(xs:List Value) (css:List (List Value)) (tvs:List Value) (m':Mem) (q:Nat)=>∃(k:Nat)(l:List Int)(la:Option Addr)(lc:Nat)(z:S)(a:Option Addr)(n c:Nat)(a1:Option Addr)(n1 c1:Nat)(w:Value),k<=bs.length/\xs=[.slice la l.length lc,.int .i64 k]/\css=[[.slice a n c]]/\tvs=[w,.slice a1 n1 c1]/\m.le m'/\Inv (k+1) z (.slice a n c) (.slice a1 n1 c1) m'/\rowRd m' la (Zan l)/\l.length<=1000000/\A.states l=true/\A.runL again st (bs.drop k) k l z=A.runL again st bs 0 [-1] (st s0 0 [-1])/\q=bs.length - k) [.slice la2 l2.length lc2,.int .i64 (IntKind.i64.wrap ((k:Int)+1))] [cs] [w,.slice a9 n9 c9] m7 n':=by
   rintro l2 la2 lc2 m6 w rfl sZ eY pi m7 cs a9 n9 c9 ⟨_,pb,e1,e2,e3,e4,e5,e6,bZ,cO,pj⟩
   simp only[List.cons.injEq,Value.slice.injEq,and_true]at cO
   obtain⟨rfl,rfl,rfl⟩:=cO
   obtain rfl:cs=[.slice e1 e2 e3]:=by simpa using bZ
   exact⟨_,by omega,k+1,_,la2,lc2,st zz (k+1) (A.next again l ch),e1,e2,e3,a9,n9,c9,w,aF,by rw[dR],rfl,rfl,mLt sZ pb,pj,eY.mono pb,pi,sY,dX,rfl⟩
  refine Zab (λlC=>?_) (λlC=>?_)
  ·have pk:A.next again l ch=-1::A.step l ch:=by unfold Nf.next;rw[lC];rfl
   intro b4 sO
   have cG:rowRd (m5.add b4 [.int .i64 (-1)]) (some ⟨b4,0,none⟩) (Zan [-1]):=Zh5
   have nt:=Mem.le_add sO [Value.int .i64 (-1)]
   refine Zab (λhz=>?_) (λhz=>?_)
   ·have i4:A.step l ch=[]:=List.eq_nil_of_length_eq_zero (Nat.eq_of_beq_eq_true hz)
    have k5:([-1]:List Int)=A.next again l ch:=by rw[pk,i4]
    rw[dR]
    refine ZiZ (nq zz (k+1) [-1] (some ⟨b4,0,none⟩) 1 _ _ _ _ _ _ _ (mLt lm nt) (gC _ _ _ _ _ _ iX (mLt cY nt)) cG (by simp) mH (by omega)) Zmr ?_
    rintro m7 pm _ cs a9 n9 c9 po
    refine⟨by trivial,by trivial,?_⟩
    have:=fin [-1] (some ⟨b4,0,none⟩) 1 _ (Value.slice a6 n6 c6) k5 (mLt lm nt) cG (by simp) m7 cs a9 n9 c9 po
    rw[dR]at this
    exact this
   ·have i4:(A.step l ch).length≠0:=λe=>by rw[e]at hz;cases hz
    refine⟨.inr (.inr (by show 1 < 1+(A.step l ch).length;omega)),Zan [-1],Zan (A.step l ch),rfl,by rw[Zb3,Nat.mul_one],cG,j1.mono nt,λu hu=>?_,by show(1+(A.step l ch).length)*8<=_;omega,by show 1+(A.step l ch).length<=_;omega,λa' c' m6 gM wN pg=>?_⟩
    ·obtain⟨i,_,rfl⟩:=List.mem_map.1 hu
     rfl
    have k5:(-1::A.step l ch:List Int)=A.next again l ch:=by rw[pk]
    have qD:(-1::A.step l ch:List Int).length=1+(A.step l ch).length:=by rw[List.length_cons];omega
    have pp:rowRd m6 a' (Zan (-1::A.step l ch)):=wN
    have ux:m.le m6:=mLt lm (mLt nt gM)
    have cV:=nq zz (k+1) (-1::A.step l ch) a' c' _ _ _ _ _ _ m6 ux (gC _ _ _ _ _ _ iX (mLt cY (mLt nt gM))) pp (by rw[qD];omega) (by rw[k5];exact sY) (by omega)
    rw[qD]at cV
    rw[dR]
    refine ZiZ cV Zmr ?_
    rintro m7 pm _ cs a9 n9 c9 po
    refine⟨by trivial,by trivial,?_⟩
    have:=fin (-1::A.step l ch) a' c' m6 (.slice a' (1+(A.step l ch).length) c') k5 ux pp (by rw[qD];omega) m7 cs a9 n9 c9 po
    rw[dR,qD]at this
    exact this
  ·have pk:A.step l ch=A.next again l ch:=by unfold Nf.next;rw[lC];rfl
   rw[dR]
   refine ZiZ (nq zz (k+1) (A.step l ch) a8 c8 _ _ _ _ _ _ m5 lm (gC _ _ _ _ _ _ iX cY) j1 (by omega) (by rw[pk];exact sY) (by omega)) Zmr ?_
   rintro m7 pm _ cs a9 n9 c9 po
   refine⟨by trivial,by trivial,?_⟩
   have:=fin (A.step l ch) a8 c8 m5 (Value.slice a6 n6 c6) pk lm j1 (by omega) m7 cs a9 n9 c9 po
   rw[dR]at this
   exact this
 ·have:k=bs.length:=by have:=of_decide_eq_false cL;omega
  subst this
  rw[List.drop_length,Nf.runL]at dX
  subst dX
  exact⟨by trivial,by trivial,ll,_,_,_,_,_,_,_,rfl,rfl,iX⟩
def ZuQ(_:Nat)(s:List Int)(cell tok:Value)(m:Mem):Prop:=SlI false s cell m/\tok=.slice none 0 0
theorem ZtH(A:Nf)(cb:Nat)(base:Mem):ZuJ A 81 [] [.pointer (some ⟨cb,0,none⟩)] cb (λ_ _ l=>l) ZuQ base:=by
 rintro s n l la lc ca cn cc ta tn tc m hb ⟨_,ht⟩ hl dU _ hn
 simp only[Value.slice.injEq]at ht
 obtain⟨rfl,rfl,rfl⟩:=ht
 apply ZiS
 exact⟨rfl,rfl,Mem.le_refl _,_,_,_,_,_,_,rfl,rfl,⟨la,lc,rfl,hl,dU,λh=>by cases h⟩,rfl⟩
def Zuv(l:List Int)(e:Int):Value->Mem->List (List Value)->Prop:=λv m' _=>∃w,v=.tuple #[w,.int .i64 e]/\SlI false l w m'
theorem Zee{l:List Int}{e:Int}:∀(v:Value)(m':Mem) (css:List (List Value)),Zuv l e v m' css->Shape.fits (.tup [.slice,.int .i64]) v=true:=by
 rintro v m' css ⟨w,rfl,a,c,rfl,_⟩;rfl
theorem ZrE{stt:Bool}(A:Nf)(hq:∀q∈A.sets,QOk q)(v:Value)(bs:List Nat)(ba:Option Addr)(bc:Nat)(m:Mem)(h:NfR stt A v m)(hb:Byt m ba bs):
  CX Try.prog 29 #[v,.slice ba bs.length bc] m [] (Zuv (if A.runE bs.length=0 then A.run bs [-1]else[]) (A.runE bs.length)):=by
 have h':=h
 obtain⟨s,f,x,y,rfl,⟨sa,sc,rfl,hs',dM,iq⟩,⟨fa,fc,vs,rfl,hf,gE,i9,ia⟩,⟨xa,xc,rfl,hx,fB,hU⟩,⟨ya,yc,rfl,hy,dL,ir⟩⟩:=h
 apply Znv
 intro b m1 aD _ _ _ b1
 have fE:SlI false [] (.slice none 0 0) m1:=⟨none,0,rfl,.inl rfl,by simp,λ_ _=>rfl⟩
 refine ZiZ (ZqQ A hq _ bs ba bc false 81 [] [.pointer (some ⟨b1,0,none⟩)] b1 (λ_ _ l=>l) ZuQ (λj s a b m m' h hm=>⟨h.1.mono hm,h.2⟩) [] none 0 0 none 0 0 m1 (ZtH A b1 m1) (h'.mono aD) (hb.mono aD) ⟨fE,rfl⟩) (by rintro v m' css tvs ⟨rfl,_⟩;rfl) ?_
 rintro n m2 jD _ cs a c d ⟨hn,bN,j,a1,n1,c1,a2,n2,c2,bZ,cO,cN,_⟩
 simp only[Value.int.injEq,true_and]at hn
 subst hn
 obtain rfl:cs=[.slice a1 n1 c1]:=by simpa using bZ
 refine Zal (v:=.slice a1 n1 c1) rfl ⟨m2,mLt aD bN,Mem.le_refl _,_,rfl,?_⟩
 rw[Zol]at cN
 exact cN
def ZuR(j:Nat)(s:List Int)(cell tok:Value)(m:Mem):Prop:=SlI false s cell m/\tok=cell/\s.length<=j/\j<=4097
theorem ZpZ{stt:Bool}(A:Nf)(hA:A.Ok)(cb b:Nat)(v0 v1 v2 v3:Value)(base:Mem)(hb:base.reads b 0 [v0,v1,v2,v3,.bool A.empty])(h:NfR stt A (.agg #[v0,v1,v2,v3,.bool A.empty]) base):ZuJ A 82 [] [.pointer (some ⟨b,0,none⟩),.pointer (some ⟨cb,0,none⟩)] cb (λs n l=>if A.accepts l then s++[(n:Int)]else s) ZuR base:=by
 rintro s n l la lc ca cn cc ta tn tc m uy ⟨⟨sa,sc,qm,bQ,bG,_⟩,ht,iq,kb⟩ hl dU i8 hn
 simp only[Value.slice.injEq]at ht qm
 obtain⟨rfl,rfl,rfl⟩:=ht
 obtain⟨rfl,rfl,rfl⟩:=qm
 apply ZfK
 refine⟨v0,v1,v2,v3,.bool A.empty,hb.mono uy,?_⟩
 refine Zai (Zg5 A hA _ l la lc m (h.mono uy) hl dU i8) λm1 aD=>Zab (λha=>?_) (λha=>?_)
 ·intro b3 fH
  have cA:=Mem.le_add fH [Value.int .i64 (n:Int)]
  refine⟨.inl rfl,Zan s,[.int .i64 (n:Int)],by rw[Zb3,Nat.mul_one],rfl,(bQ.mono aD).mono cA,Zh5,by simp[Value.oneCell'],by omega,by omega,λa' c' m2 bN ge _=>⟨rfl,rfl,mLt aD (mLt cA bN),_,_,_,_,_,_,rfl,rfl,?_⟩⟩
  simp only[ha,if_true]
  refine⟨⟨a',c',by simp,?_,by rw[zA1,List.length_singleton];omega,λh=>by cases h⟩,rfl,by rw[zA1,List.length_singleton];omega,by omega⟩
  rw[ZlR];exact ge
 ·refine⟨rfl,rfl,aD,_,_,_,_,_,_,rfl,rfl,?_⟩
  simp only[ha]
  exact⟨⟨_,_,rfl,bQ.mono aD,bG,λh=>by cases h⟩,rfl,by simp;omega,by omega⟩
theorem ZeE{stt:Bool}(A:Nf)(hA:A.right=true)(hq:∀q∈A.sets,QOk q)(v:Value)(bs:List Nat)(ba:Option Addr)(bc:Nat)(m:Mem)(h:NfR stt A v m)(hb:Byt m ba bs):
  CX Try.prog 30 #[v,.slice ba bs.length bc] m [] (Zuv (if A.runE bs.length=0 then A.search bs else[]) (A.runE bs.length)):=by
 have h':=h
 obtain⟨s,f,x,y,rfl,⟨sa,sc,rfl,hs',dM,iq⟩,⟨fa,fc,vs,rfl,hf,gE,i9,ia⟩,⟨xa,xc,rfl,hx,fB,hU⟩,⟨ya,yc,rfl,hy,dL,ir⟩⟩:=h
 apply ZiT
 intro b m1 aD wO _ _ b1
 have fE:SlI false [] (.slice none 0 0) m1:=⟨none,0,rfl,.inl rfl,by simp,λ_ _=>rfl⟩
 refine ZiZ (ZqQ A hq _ bs ba bc true 82 [] [.pointer (some ⟨b,0,none⟩),.pointer (some ⟨b1,0,none⟩)] b1 (λs n l=>if A.accepts l then s++[(n:Int)]else s) ZuR (λj s a b m m' h hm=>⟨h.1.mono hm,h.2⟩) [] none 0 0 none 0 0 m1 (ZpZ A (Zeo.1 hA) b1 b _ _ _ _ m1 wO (h'.mono aD)) (h'.mono aD) (hb.mono aD) ⟨fE,rfl,by simp,by omega⟩) (by rintro v m' css tvs ⟨rfl,_⟩;rfl) ?_
 rintro n m2 jD _ cs a c d ⟨hn,bN,j,a1,n1,c1,a2,n2,c2,bZ,cO,cN,_⟩
 simp only[Value.int.injEq,true_and]at hn
 subst hn
 obtain rfl:cs=[.slice a1 n1 c1]:=by simpa using bZ
 refine Zal (v:=.slice a1 n1 c1) rfl ⟨m2,mLt aD bN,Mem.le_refl _,_,rfl,?_⟩
 exact cN
theorem Zh7{stt:Bool}(A:Nf)(hq:∀q∈A.sets,QOk q)(v:Value)(bs:List Nat)(ba:Option Addr)(bc:Nat)(m:Mem)(h:NfR stt A v m)(hb:Byt m ba bs)(bG:bs.length<=4096):
  CX Try.prog 18 #[v,.slice ba bs.length bc] m [] (Ret (.tuple #[.bool (A.right&&A.matches bs),.int .i64 (if A.right then 0 else 171)])):=by
 have h':=h
 obtain⟨s,f,x,y,rfl,⟨sa,sc,rfl,hs',dM,iq⟩,⟨fa,fc,vs,rfl,hf,gE,i9,ia⟩,⟨xa,xc,rfl,hx,fB,hU⟩,⟨ya,yc,rfl,hy,dL,ir⟩⟩:=h
 apply Zhp
 intro b m1 aD _
 refine Zak (ZrE A hq _ bs ba bc m1 (h'.mono aD) (hb.mono aD)) Zee ?_
 rintro a n c e m2 bN ⟨w,hv,a',c',rfl,bQ,hl,_⟩
 simp only[Value.tuple.injEq,Array.mk.injEq,List.cons.injEq,Value.slice.injEq,Value.int.injEq,true_and,and_true]at hv
 obtain⟨⟨rfl,rfl,rfl⟩,rfl⟩:=hv
 have f8:=mLt aD bN
 by_cases hr:A.right=true
 ·have he:A.runE bs.length=0:=by unfold Nf.runE;rw[if_neg (by rw[hr];simp),if_neg (by omega)]
  simp only[he,if_true]at bQ hl ⊢
  have hA:=Zeo.1 hr
  refine⟨A.matches bs,0,ZbZ rfl ?_,Zag f8 ?_⟩
  ·refine Zai (Zg5 A hA _ _ a c m2 (h'.mono f8) bQ hl (ZdH hA bs _ (Zeq A))) λm3 bW=>?_
   first|exact⟨rfl,rfl⟩|exact⟨by trivial,rfl⟩
  ·rw[hr];rfl
 ·have hr':A.right=false:=by simpa using hr
  have he:A.runE bs.length=171:=by unfold Nf.runE;rw[if_pos hr']
  refine⟨false,171,ZaZ (by rw[he];rfl) ?_,Zag f8 ?_⟩
  ·rw[he];first|exact⟨rfl,rfl⟩|exact⟨by trivial,rfl⟩
  ·rw[hr'];rfl
end Go.Proofs.Ytplacemlpkhmfaa
namespace Go.Proofs.Ytplacemlpkhmfaa
open Go Go.Eng Go.Rx Go.Proofs Go.RowKit Go.Shelf
set_option maxRecDepth 100000
def ZsX:Ren:=⟨fun|125=>97|128=>130|129=>131|189=>40|215=>161|216=>127|257=>96|294=>121|295=>122|296=>123|297=>124|298=>125|299=>126|300=>128|301=>129|328=>156|329=>157|330=>158|331=>159|332=>160|343=>165|n=>n,
 fun|0=>0|3=>3|4=>4|5=>5|9=>9|28=>24|46=>138|51=>172|53=>36|131=>169|182=>165|183=>166|218=>181|222=>185|228=>189|229=>190|n=>n,λn=>n⟩
theorem ZoC:Lays.n189 Try.prog ZsX:=
 {mixed:=mix
  f125:=by kernel_rfl,f128:=by kernel_rfl,f129:=by kernel_rfl,f189:=by kernel_rfl,f215:=by kernel_rfl,f216:=by kernel_rfl,f257:=by kernel_rfl,f294:=by kernel_rfl,f295:=by kernel_rfl,f296:=by kernel_rfl,f297:=by kernel_rfl
  f298:=by kernel_rfl,f299:=by kernel_rfl,f300:=by kernel_rfl,f301:=by kernel_rfl,f328:=by kernel_rfl,f329:=by kernel_rfl,f330:=by kernel_rfl,f331:=by kernel_rfl,f332:=by kernel_rfl,f343:=by kernel_rfl
  t0:=by kernel_rfl,a0:=Try.isAgg0,z0:=Try.sizeOf0,v0:=Try.zeroValue0
  t3:=by kernel_rfl,a3:=Try.isAgg3,z3:=Try.sizeOf3,v3:=Try.zeroValue3
  t4:=by kernel_rfl,a4:=Try.isAgg4,z4:=Try.sizeOf4,v4:=Try.zeroValue4
  t5:=by kernel_rfl,a5:=Try.isAgg5,z5:=Try.sizeOf5,v5:=Try.zeroValue5
  t9:=by kernel_rfl,a9:=Try.isAgg9,z9:=Try.sizeOf9,v9:=Try.zeroValue9
  t28:=by kernel_rfl,a28:=Try.isAgg24,z28:=Try.sizeOf24,v28:=Try.zeroValue24
  t46:=by kernel_rfl,a46:=Try.isAgg138,z46:=Try.sizeOf138,v46:=Try.zeroValue138
  t51:=by kernel_rfl,a51:=Try.isAgg172,z51:=Try.sizeOf172,v51:=Try.zeroValue172
  t53:=by kernel_rfl,a53:=Try.isAgg36,z53:=Try.sizeOf36,v53:=Try.zeroValue36
  t131:=by kernel_rfl,a131:=Try.isAgg169,z131:=Try.sizeOf169,v131:=Try.zeroValue169
  t182:=by kernel_rfl,a182:=Try.isAgg165,z182:=Try.sizeOf165,v182:=Try.zeroValue165
  t183:=by kernel_rfl,a183:=Try.isAgg166,z183:=Try.sizeOf166,v183:=Try.zeroValue166
  t218:=by kernel_rfl,a218:=Try.isAgg181,z218:=Try.sizeOf181,v218:=Try.zeroValue181
  t222:=by kernel_rfl,a222:=Try.isAgg185,z222:=Try.sizeOf185,v222:=Try.zeroValue185
  t228:=by kernel_rfl,a228:=Try.isAgg189,z228:=Try.sizeOf189,v228:=Try.zeroValue189
  t229:=by kernel_rfl,a229:=Try.isAgg190,z229:=Try.sizeOf190,v229:=Try.zeroValue190 }
abbrev Yi(v:Value):Nat->Prop:=λk=>(Tok.mk v 1).blk=some k
theorem Zi0(zs:List Int)(a:Option Addr)(c N:Nat)(m:Mem)(hr:rowRd m a (Zan zs))(hl:zs.length<=1000000)(hN:zs.length<=N):
  CXY Try.prog 40 #[.slice a zs.length c] m (Yi (.slice a N c)) [] [⟨.slice a N c,1⟩]
   (λv m' css tvs=>v=.tuple #[]/\css=[]/\tvs=[.slice a N c]/\rowRd m' a (Zan (ZlU zs))):=
 Zh2 (Value.int .i64) (vf:=λ_=>.tuple #[]) (Go.Eng.ZfV Try.func40 (by kernel_rfl) (by kernel_rfl)) hr (Zd1 zs) hN
  (λ_ w=>Any.slices_Sort_int_none ZoC a c w)
  (λ_ b o w _ _ hH hb=>Any.slices_Sort_int ZoC b o c zs w hH hb (by omega))
theorem Zkn(zs:List Int)(a:Option Addr)(c:Nat)(m:Mem)(hr:rowRd m a (Zan zs))(hl:zs.length<=1000000):
  CXY Try.prog 40 #[.slice a zs.length c] m (Yi (.slice a zs.length c)) [] [⟨.slice a zs.length c,1⟩]
   (λv m' css tvs=>v=.tuple #[]/\css=[]/\tvs=[.slice a zs.length c]/\rowRd m' a (Zan (ZlU zs))):=Zi0 zs a c zs.length m hr hl (Nat.le_refl _)
def Zuw:Ren:=⟨fun|43=>41|n=>n,fun|0=>0|3=>3|4=>4|22=>24|23=>3|n=>n,λn=>n⟩
theorem Zh8:SlLaysE.n43 Try.prog Zuw:=
 {mixed:=mix,f43:=⟨Try.f41.name,by kernel_rfl,by kernel_rfl⟩
  t0:=by kernel_rfl,a0:=Try.isAgg0,z0:=Try.sizeOf0,v0:=Try.zeroValue0
  t3:=Try.underlying3,a3:=Try.isAgg3,z3:=Try.sizeOf3,v3:=Try.zeroValue3
  t4:=Try.underlying4,a4:=Try.isAgg4,z4:=Try.sizeOf4,v4:=Try.zeroValue4
  t22:=Try.underlying24,a22:=Try.isAgg24,z22:=Try.sizeOf24,v22:=Try.zeroValue24
  a23:=Try.isAgg3,z23:=Try.sizeOf3 }
section
variable {P:Program} {ρ:Ren}
set_option maxHeartbeats 1000000 in
theorem Zko(L:SlLaysE.n43 P ρ)(a:Option Addr)(cap:Nat)(w:World):Calls P (ρ.f 43) #[.slice a 0 cap] w λe w'=>e=.returned (.slice a 0 cap)/\w'=w:=by
 have mixed:=L.mixed;have t0:=L.t0;have a0:=L.a0;have z0:=L.z0;have v0:=L.v0;have t3:=L.t3;have a3:=L.a3;have z3:=L.z3;have v3:=L.v3;have t4:=L.t4;have a4:=L.a4;have z4:=L.z4;have v4:=L.v4;have t22:=L.t22;have a22:=L.a22;have z22:=L.z22;have v22:=L.v22;have a23:=L.a23;have z23:=L.z23
 obtain⟨_,_,FG⟩:=L.f43
 go_enter FG,SlBodyN.n43_ntmps ρ
 go_wp2
 go_ret
 exact⟨rfl,rfl⟩
end
theorem Zms(zs:List Int):(Go.Lib.compact zs).length<=zs.length:=by
 unfold Go.Lib.compact Go.Lib.compactUpTo
 rw[List.length_map]
 exact Nat.le_trans (List.length_filter_le _ _) (by rw[List.length_range];exact Nat.le_refl _)
theorem ZfP(zs:List Int)(a:Option Addr)(c N:Nat)(m:Mem)(hr:rowRd m a (Zan zs))(hl:zs.length<=1000000)(hN:zs.length<=N):
  CXY Try.prog 41 #[.slice a zs.length c] m (Yi (.slice a N c)) [] [⟨.slice a N c,1⟩]
   (λv m' css tvs=>v=.slice a (Go.Lib.compact zs).length c/\css=[]/\tvs=[.slice a N c]/\rowRd m' a (Zan (Go.Lib.compact zs++List.replicate (zs.length - (Go.Lib.compact zs).length) 0))):=by
 have eQ:=Zms zs
 refine Zh2 (Value.int .i64) (vf:=λa=>.slice a (Go.Lib.compact zs).length c) (Go.Eng.ZfV Try.func41 (by kernel_rfl) (by kernel_rfl)) hr (by rw[zA1,List.length_replicate];omega) hN
  (λh w=>?_) (λ_ b o w ha hc hH hb=>?_)
 ·subst h;exact Zko Zh8 a c w
 ·refine(AnyE.slices_Compact Zh8 (Value.int .i64) (λ_=>rfl) (EqlAt.intD _ _ _) (NeqAt.intD _ _ _) 0 (λw=>Try.zeroValue3 w) b o c zs.toArray w hH (by simp;omega) (by simpa using hc)).mono ?_
  rintro e w' ⟨h1,q,h2⟩
  refine⟨by rw[h1,ha];rfl,q,#[],?_⟩
  rw[h2,Zrn]
  rfl
theorem ZgG(zs:List Int)(a:Option Addr)(c:Nat)(m:Mem)(hr:rowRd m a (Zan zs))(hl:zs.length<=1000000):
  CXY Try.prog 41 #[.slice a zs.length c] m (Yi (.slice a zs.length c)) [] [⟨.slice a zs.length c,1⟩]
   (λv m' css tvs=>v=.slice a (Go.Lib.compact zs).length c/\css=[]/\tvs=[.slice a zs.length c]/\rowRd m' a (Zan (Go.Lib.compact zs++List.replicate (zs.length - (Go.Lib.compact zs).length) 0))):=ZfP zs a c zs.length m hr hl (Nat.le_refl _)
end Go.Proofs.Ytplacemlpkhmfaa