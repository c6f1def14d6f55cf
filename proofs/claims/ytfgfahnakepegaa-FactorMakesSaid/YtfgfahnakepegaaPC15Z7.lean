/- Part of the proof: conditions and contracts of functions of this program. No condition of its own. -/
import Derived.Test.YtfgfahnakepegaaPC15K
import Derived.Test.YtfgfahnakepegaaPVLD
import Derived.Test.YtfgfahnakepegaaPEnv
import Derived.Test.YtfgfahnakepegaaMc
import Derived.Test.YtfgfahnakepegaaPC15ZN
set_option linter.unusedVariables false
set_option linter.unusedSimpArgs false
set_option linter.unusedSectionVars false
namespace Go.Proofs.Ytfgfahnakepegaa
open Go Go.Eng Go.Rx Go.Proofs Go.RowKit
set_option maxRecDepth 100000
def aE1:T:=Zee [ZdZ [97,98],ZdZ [97,99]]
def aE6:T:=Zee [Zan 98,Zan 99]
def aE8:T:=ZjK [Zan 97,aE6]
def ZBr:T:=Zee [ZdZ [97],ZdZ [97,98]]
def ZBV:T:=Zee [ZdZ [97],ZdZ [97,98]]
def ZAz:T:=Zee [ZdZ [97,98,99],ZdZ [97,98,100],ZdZ [97]]
def ZBs:T:=Zee [Zan 99,Zan 100]
def ZBt:T:=ZjK [Zan 97,Zan 98,ZBs]
def ZBW:T:=Zee [ZBt,Zan 97]
def ZBX:T:=Zee [ZdZ [97,98],ZdZ [99],ZdZ [97,100]]
def ZBY:T:=Zee [ZdZ [97,98],ZdZ [99],ZdZ [97,100]]
def ZBZ:T:=Zee [ZdZ [97,98],ZdZ [97,98]]
def ZB0:T:=ZjK [Zan 97,Zan 98]
def ZBu:T:=ZAD (Zan 97)
def ZBv:T:=ZjK [ZBu,Zan 98]
def ZBw:T:=ZAD (Zan 97)
def ZBx:T:=ZjK [ZBw,Zan 99]
def ZB1:T:=Zee [ZBv,ZBx]
def ZBy:T:=ZAD (Zan 97)
def ZBz:T:=ZjK [ZBy,Zan 98]
def ZBA:T:=ZAD (Zan 97)
def ZBB:T:=ZjK [ZBA,Zan 99]
def ZB2:T:=Zee [ZBz,ZBB]
def ZBC:T:=Zan 120
def ZBD:T:=Zee [ZdZ [121,97],ZdZ [121,98]]
def ZBE:T:=Zan 122
def ZB3:T:=ZjK [ZBC,ZBD,ZBE]
def ZBF:T:=Zan 120
def ZBG:T:=Zan 121
def ZBH:T:=Zee [Zan 97,Zan 98]
def ZBI:T:=Zan 122
def ZB4:T:=ZjK [ZBF,ZBG,ZBH,ZBI]
def awF:Fx:=λi _ _=>match i with
 | 1=>IsE aE1
 | 6=>IsE aE6
 | 8=>IsE aE8
 | 11=>IsE ZBr
 | 13=>IsE ZBV
 | 16=>IsE ZAz
 | 22=>IsE ZBs
 | 24=>IsE ZBt
 | 27=>IsE ZBW
 | 30=>IsE ZBX
 | 32=>IsE ZBY
 | 35=>IsE ZBZ
 | 39=>IsE ZB0
 | 42=>IsE ZBu
 | 45=>IsE ZBv
 | 47=>IsE ZBw
 | 50=>IsE ZBx
 | 52=>IsE ZB1
 | 54=>IsE ZBy
 | 57=>IsE ZBz
 | 59=>IsE ZBA
 | 62=>IsE ZBB
 | 64=>IsE ZB2
 | 66=>IsE ZBC
 | 68=>IsE ZBD
 | 69=>IsE ZBE
 | 71=>IsE ZB3
 | 72=>IsE ZBF
 | 73=>IsE ZBG
 | 77=>IsE ZBH
 | 78=>IsE ZBI
 | 80=>IsE ZB4
 | _=>IsE T0
structure Item (n w:T)(c:Nat):Prop where
 rgt:T.rgt n=true
 cuts:n.cuts.length=c
 same:((ZbP n).1.light&&(w.light&&(ZbP n).1.same w))=true
 clean:n.clean=true
theorem ZBh:Item aE1 aE8 1:=⟨by decide +kernel,by decide +kernel,by decide +kernel,by decide +kernel⟩
theorem ZzZ:Item ZBr ZBV 1:=⟨by decide +kernel,by decide +kernel,by decide +kernel,by decide +kernel⟩
theorem Zz0:Item ZAz ZBW 3:=⟨by decide +kernel,by decide +kernel,by decide +kernel,by decide +kernel⟩
theorem Zz1:Item ZBX ZBY 0:=⟨by decide +kernel,by decide +kernel,by decide +kernel,by decide +kernel⟩
theorem Zz2:Item ZBZ ZB0 1:=⟨by decide +kernel,by decide +kernel,by decide +kernel,by decide +kernel⟩
theorem Zz3:Item ZB1 ZB2 0:=⟨by decide +kernel,by decide +kernel,by decide +kernel,by decide +kernel⟩
theorem Zz4:Item ZB3 ZB4 1:=⟨by decide +kernel,by decide +kernel,by decide +kernel,by decide +kernel⟩
def ZCd(x y:T)(c:Nat):List Value:=x.cs++(y.cs++[.int .i64 (c:Nat)])
set_option maxHeartbeats 6400000 in
theorem ZnP(m:Mem):CX Try.prog 12 #[] m [] (Ret (.bool true)):=by
 apply Zkj
 unfold Zf3
 refine Zag (Zf2 97 (by omega) m) ZaP (ZgD λta ma ha ra ea ka=>?_)
 refine Zag (Zf2 98 (by omega) ma) ZaP (ZgD λtb mb hb rb eb kb=>?_)
 refine Zag (Zf2 99 (by omega) mb) ZaP (ZgD λtc mc hc rc ec kc=>?_)
 refine Zag (Zf2 100 (by omega) mc) ZaP (ZgD λtd md hd rd ed kd=>?_)
 intro b b1 b2 b3
 refine⟨awF,?_⟩
 have g0:md.le md:=Mem.le_refl _
 have ra:=ra.mono (mLt hb (mLt hc hd))
 have rb:=rb.mono (mLt hc hd)
 have rc:=rc.mono (hd)
 have rd:=rd.mono (Mem.le_refl _)
 intro b1 f1
 refine⟨_,rfl,Zd0 [⟨#[97,98]⟩,⟨#[97,99]⟩] _ _ _ _ (Zd1 (m:=md) (b:=b1) (cs:=([⟨#[97,98]⟩,⟨#[97,99]⟩]:List ByteArray).map Value.string)) (by decide) (by decide +kernel) (by simp) rfl,ZaP,ZgD λt1 m1 h1 r1 e1 k1=>?_⟩
 have g1:md.le m1:=(mLt (Mem.le_add f1 _) h1)
 intro b6 f6
 intro V6 v6 w6 x6
 refine⟨_,rfl,ZvZ [tb,tc] [Zan 98,Zan 99] _ _ V6 ((Zb9 f6 (by intro x hx;simp only[List.mem_cons,List.not_mem_nil,or_false]at hx;rcases hx with rfl|rfl <;> assumption) (by simp)).mono x6) (by show[T.er tb,T.er tc]=_;rw[eb,ec]) (by decide +kernel) (by decide +kernel) (by simp),ZaP,ZgD λt6 m6 h6 r6 e6 k6=>?_⟩
 have s6:m1.le m6:=(mLt w6 h6)
 have g6:md.le m6:=mLt g1 s6
 intro b8 f8
 have q8_0:Rep m6 ta:=(ra.mono g6)
 have q8_1:Rep m6 t6:=(r6.mono (Mem.le_refl _))
 refine⟨_,rfl,Zkh [ta,t6] [Zan 97,aE6] _ _ _ (Zb9 f8 (by intro x hx;simp only[List.mem_cons,List.not_mem_nil,or_false]at hx;rcases hx with rfl|rfl <;> assumption) (by simp)) (by show[T.er ta,T.er t6]=_;rw[ea,e6]) (by decide +kernel) (by decide +kernel),ZaP,ZgD λt8 m8 h8 r8 e8 k8=>?_⟩
 have s8:m6.le m8:=(mLt (Mem.le_add f8 _) h8)
 have g8:md.le m8:=mLt g6 s8
 intro b11 f11
 intro V11 v11 w11 x11
 refine⟨_,rfl,Zd0 [⟨#[97]⟩,⟨#[97,98]⟩] _ _ _ V11 ((Zd1 (m:=md) (b:=b11) (cs:=([⟨#[97]⟩,⟨#[97,98]⟩]:List ByteArray).map Value.string)).mono x11) (by decide) (by decide +kernel) (by simp) rfl,ZaP,ZgD λt11 m11 zR r11 e11 k11=>?_⟩
 have s11:m8.le m11:=(mLt w11 zR)
 have g11:md.le m11:=mLt g8 s11
 intro b13 f13
 intro V13 v13 w13 x13
 refine⟨_,rfl,Zd0 [⟨#[97]⟩,⟨#[97,98]⟩] _ _ _ V13 ((Zd1 (m:=md) (b:=b13) (cs:=([⟨#[97]⟩,⟨#[97,98]⟩]:List ByteArray).map Value.string)).mono x13) (by decide) (by decide +kernel) (by simp) rfl,ZaP,ZgD λt13 m13 qL r13 e13 k13=>?_⟩
 have s13:m11.le m13:=(mLt w13 qL)
 have g13:md.le m13:=mLt g11 s13
 intro b16 f16
 intro V16 v16 w16 x16
 refine⟨_,rfl,Zd0 [⟨#[97,98,99]⟩,⟨#[97,98,100]⟩,⟨#[97]⟩] _ _ _ V16 ((Zd1 (m:=md) (b:=b16) (cs:=([⟨#[97,98,99]⟩,⟨#[97,98,100]⟩,⟨#[97]⟩]:List ByteArray).map Value.string)).mono x16) (by decide) (by decide +kernel) (by simp) rfl,ZaP,ZgD λt16 m16 zS r16 e16 k16=>?_⟩
 have s16:m13.le m16:=(mLt w16 zS)
 have g16:md.le m16:=mLt g13 s16
 intro b22 f22
 intro V22 v22 w22 x22
 refine⟨_,rfl,ZvZ [tc,td] [Zan 99,Zan 100] _ _ V22 ((Zb9 f22 (by intro x hx;simp only[List.mem_cons,List.not_mem_nil,or_false]at hx;rcases hx with rfl|rfl <;> assumption) (by simp)).mono x22) (by show[T.er tc,T.er td]=_;rw[ec,ed]) (by decide +kernel) (by decide +kernel) (by simp),ZaP,ZgD λt22 m22 zT r22 e22 k22=>?_⟩
 have s22:m16.le m22:=(mLt w22 zT)
 have g22:md.le m22:=mLt g16 s22
 intro b24 f24
 have q24_0:Rep m22 ta:=(ra.mono g22)
 have q24_1:Rep m22 tb:=(rb.mono g22)
 have q24_2:Rep m22 t22:=(r22.mono (Mem.le_refl _))
 refine⟨_,rfl,Zkh [ta,tb,t22] [Zan 97,Zan 98,ZBs] _ _ _ (Zb9 f24 (by intro x hx;simp only[List.mem_cons,List.not_mem_nil,or_false]at hx;rcases hx with rfl|rfl|rfl <;> assumption) (by simp)) (by show[T.er ta,T.er tb,T.er t22]=_;rw[ea,eb,e22]) (by decide +kernel) (by decide +kernel),ZaP,ZgD λt24 m24 r7 r24 e24 k24=>?_⟩
 have s24:m22.le m24:=(mLt (Mem.le_add f24 _) r7)
 have g24:md.le m24:=mLt g22 s24
 intro b27 f27
 have q27_0:Rep m24 t24:=(r24.mono (Mem.le_refl _))
 have q27_1:Rep m24 ta:=(ra.mono g24)
 refine⟨_,rfl,ZvZ [t24,ta] [ZBt,Zan 97] _ _ _ (Zb9 f27 (by intro x hx;simp only[List.mem_cons,List.not_mem_nil,or_false]at hx;rcases hx with rfl|rfl <;> assumption) (by simp)) (by show[T.er t24,T.er ta]=_;rw[e24,ea]) (by decide +kernel) (by decide +kernel) (by simp),ZaP,ZgD λt27 m27 zU r27 e27 k27=>?_⟩
 have s27:m24.le m27:=(mLt (Mem.le_add f27 _) zU)
 have g27:md.le m27:=mLt g24 s27
 intro b30 f30
 intro V30 v30 w30 x30
 refine⟨_,rfl,Zd0 [⟨#[97,98]⟩,⟨#[99]⟩,⟨#[97,100]⟩] _ _ _ V30 ((Zd1 (m:=md) (b:=b30) (cs:=([⟨#[97,98]⟩,⟨#[99]⟩,⟨#[97,100]⟩]:List ByteArray).map Value.string)).mono x30) (by decide) (by decide +kernel) (by simp) rfl,ZaP,ZgD λt30 m30 zV r30 e30 k30=>?_⟩
 have s30:m27.le m30:=(mLt w30 zV)
 have g30:md.le m30:=mLt g27 s30
 intro b32 f32
 intro V32 v32 w32 x32
 refine⟨_,rfl,Zd0 [⟨#[97,98]⟩,⟨#[99]⟩,⟨#[97,100]⟩] _ _ _ V32 ((Zd1 (m:=md) (b:=b32) (cs:=([⟨#[97,98]⟩,⟨#[99]⟩,⟨#[97,100]⟩]:List ByteArray).map Value.string)).mono x32) (by decide) (by decide +kernel) (by simp) rfl,ZaP,ZgD λt32 m32 zW r32 e32 k32=>?_⟩
 have s32:m30.le m32:=(mLt w32 zW)
 have g32:md.le m32:=mLt g30 s32
 intro b35 f35
 intro V35 v35 w35 x35
 refine⟨_,rfl,Zd0 [⟨#[97,98]⟩,⟨#[97,98]⟩] _ _ _ V35 ((Zd1 (m:=md) (b:=b35) (cs:=([⟨#[97,98]⟩,⟨#[97,98]⟩]:List ByteArray).map Value.string)).mono x35) (by decide) (by decide +kernel) (by simp) rfl,ZaP,ZgD λt35 m35 uV r35 e35 k35=>?_⟩
 have s35:m32.le m35:=(mLt w35 uV)
 have g35:md.le m35:=mLt g32 s35
 intro b39 f39
 intro V39 v39 w39 x39
 refine⟨_,rfl,Zkh [ta,tb] [Zan 97,Zan 98] _ _ V39 ((Zb9 f39 (by intro x hx;simp only[List.mem_cons,List.not_mem_nil,or_false]at hx;rcases hx with rfl|rfl <;> assumption) (by simp)).mono x39) (by show[T.er ta,T.er tb]=_;rw[ea,eb]) (by decide +kernel) (by decide +kernel),ZaP,ZgD λt39 m39 zX r39 e39 k39=>?_⟩
 have s39:m35.le m39:=(mLt w39 zX)
 have g39:md.le m39:=mLt g35 s39
 refine⟨_,rfl,Zvj ta (Zan 97) _ (ra.mono g39) ea (by decide +kernel) (by decide +kernel),ZaP,ZgD λt42 m42 zY r42 e42 k42=>?_⟩
 have s42:m39.le m42:=zY
 have g42:md.le m42:=mLt g39 s42
 intro b45 f45
 have q45_0:Rep m42 t42:=(r42.mono (Mem.le_refl _))
 have q45_1:Rep m42 tb:=(rb.mono g42)
 refine⟨_,rfl,Zkh [t42,tb] [ZBu,Zan 98] _ _ _ (Zb9 f45 (by intro x hx;simp only[List.mem_cons,List.not_mem_nil,or_false]at hx;rcases hx with rfl|rfl <;> assumption) (by simp)) (by show[T.er t42,T.er tb]=_;rw[e42,eb]) (by decide +kernel) (by decide +kernel),ZaP,ZgD λt45 m45 zZ r45 e45 k45=>?_⟩
 have s45:m42.le m45:=(mLt (Mem.le_add f45 _) zZ)
 have g45:md.le m45:=mLt g42 s45
 refine⟨_,rfl,Zvj ta (Zan 97) _ (ra.mono g45) ea (by decide +kernel) (by decide +kernel),ZaP,ZgD λt47 m47 tz r47 e47 k47=>?_⟩
 have s47:m45.le m47:=tz
 have g47:md.le m47:=mLt g45 s47
 intro b50 f50
 have q50_0:Rep m47 t47:=(r47.mono (Mem.le_refl _))
 have q50_1:Rep m47 tc:=(rc.mono g47)
 refine⟨_,rfl,Zkh [t47,tc] [ZBw,Zan 99] _ _ _ (Zb9 f50 (by intro x hx;simp only[List.mem_cons,List.not_mem_nil,or_false]at hx;rcases hx with rfl|rfl <;> assumption) (by simp)) (by show[T.er t47,T.er tc]=_;rw[e47,ec]) (by decide +kernel) (by decide +kernel),ZaP,ZgD λt50 m50 Aa r50 e50 k50=>?_⟩
 have s50:m47.le m50:=(mLt (Mem.le_add f50 _) Aa)
 have g50:md.le m50:=mLt g47 s50
 intro b52 f52
 have q52_0:Rep m50 t45:=(r45.mono (mLt s47 (s50)))
 have q52_1:Rep m50 t50:=(r50.mono (Mem.le_refl _))
 refine⟨_,rfl,ZvZ [t45,t50] [ZBv,ZBx] _ _ _ (Zb9 f52 (by intro x hx;simp only[List.mem_cons,List.not_mem_nil,or_false]at hx;rcases hx with rfl|rfl <;> assumption) (by simp)) (by show[T.er t45,T.er t50]=_;rw[e45,e50]) (by decide +kernel) (by decide +kernel) (by simp),ZaP,ZgD λt52 m52 Ab r52 e52 k52=>?_⟩
 have s52:m50.le m52:=(mLt (Mem.le_add f52 _) Ab)
 have g52:md.le m52:=mLt g50 s52
 refine⟨_,rfl,Zvj ta (Zan 97) _ (ra.mono g52) ea (by decide +kernel) (by decide +kernel),ZaP,ZgD λt54 m54 Ac r54 e54 k54=>?_⟩
 have s54:m52.le m54:=Ac
 have g54:md.le m54:=mLt g52 s54
 intro b57 f57
 have q57_0:Rep m54 t54:=(r54.mono (Mem.le_refl _))
 have q57_1:Rep m54 tb:=(rb.mono g54)
 refine⟨_,rfl,Zkh [t54,tb] [ZBy,Zan 98] _ _ _ (Zb9 f57 (by intro x hx;simp only[List.mem_cons,List.not_mem_nil,or_false]at hx;rcases hx with rfl|rfl <;> assumption) (by simp)) (by show[T.er t54,T.er tb]=_;rw[e54,eb]) (by decide +kernel) (by decide +kernel),ZaP,ZgD λt57 m57 xn r57 e57 k57=>?_⟩
 have s57:m54.le m57:=(mLt (Mem.le_add f57 _) xn)
 have g57:md.le m57:=mLt g54 s57
 refine⟨_,rfl,Zvj ta (Zan 97) _ (ra.mono g57) ea (by decide +kernel) (by decide +kernel),ZaP,ZgD λt59 m59 Ad r59 e59 k59=>?_⟩
 have s59:m57.le m59:=Ad
 have g59:md.le m59:=mLt g57 s59
 intro b62 f62
 have q62_0:Rep m59 t59:=(r59.mono (Mem.le_refl _))
 have q62_1:Rep m59 tc:=(rc.mono g59)
 refine⟨_,rfl,Zkh [t59,tc] [ZBA,Zan 99] _ _ _ (Zb9 f62 (by intro x hx;simp only[List.mem_cons,List.not_mem_nil,or_false]at hx;rcases hx with rfl|rfl <;> assumption) (by simp)) (by show[T.er t59,T.er tc]=_;rw[e59,ec]) (by decide +kernel) (by decide +kernel),ZaP,ZgD λt62 m62 Ae r62 e62 k62=>?_⟩
 have s62:m59.le m62:=(mLt (Mem.le_add f62 _) Ae)
 have g62:md.le m62:=mLt g59 s62
 intro b64 f64
 have q64_0:Rep m62 t57:=(r57.mono (mLt s59 (s62)))
 have q64_1:Rep m62 t62:=(r62.mono (Mem.le_refl _))
 refine⟨_,rfl,ZvZ [t57,t62] [ZBz,ZBB] _ _ _ (Zb9 f64 (by intro x hx;simp only[List.mem_cons,List.not_mem_nil,or_false]at hx;rcases hx with rfl|rfl <;> assumption) (by simp)) (by show[T.er t57,T.er t62]=_;rw[e57,e62]) (by decide +kernel) (by decide +kernel) (by simp),ZaP,ZgD λt64 m64 Af r64 e64 k64=>?_⟩
 have s64:m62.le m64:=(mLt (Mem.le_add f64 _) Af)
 have g64:md.le m64:=mLt g62 s64
 refine⟨_,rfl,Zf2 120 (by omega) _,ZaP,ZgD λt66 m66 Ag r66 e66 k66=>?_⟩
 have s66:m64.le m66:=Ag
 have g66:md.le m66:=mLt g64 s66
 intro b68 f68
 intro V68 v68 w68 x68
 refine⟨_,rfl,Zd0 [⟨#[121,97]⟩,⟨#[121,98]⟩] _ _ _ V68 ((Zd1 (m:=md) (b:=b68) (cs:=([⟨#[121,97]⟩,⟨#[121,98]⟩]:List ByteArray).map Value.string)).mono x68) (by decide) (by decide +kernel) (by simp) rfl,ZaP,ZgD λt68 m68 Ah r68 e68 k68=>?_⟩
 have s68:m66.le m68:=(mLt w68 Ah)
 have g68:md.le m68:=mLt g66 s68
 refine⟨_,rfl,Zf2 122 (by omega) _,ZaP,ZgD λt69 m69 Ai r69 e69 k69=>?_⟩
 have s69:m68.le m69:=Ai
 have g69:md.le m69:=mLt g68 s69
 intro b71 f71
 have q71_0:Rep m69 t66:=(r66.mono (mLt s68 (s69)))
 have q71_1:Rep m69 t68:=(r68.mono (s69))
 have q71_2:Rep m69 t69:=(r69.mono (Mem.le_refl _))
 refine⟨_,rfl,Zkh [t66,t68,t69] [ZBC,ZBD,ZBE] _ _ _ (Zb9 f71 (by intro x hx;simp only[List.mem_cons,List.not_mem_nil,or_false]at hx;rcases hx with rfl|rfl|rfl <;> assumption) (by simp)) (by show[T.er t66,T.er t68,T.er t69]=_;rw[e66,e68,e69]) (by decide +kernel) (by decide +kernel),ZaP,ZgD λt71 m71 Aj r71 e71 k71=>?_⟩
 have s71:m69.le m71:=(mLt (Mem.le_add f71 _) Aj)
 have g71:md.le m71:=mLt g69 s71
 refine⟨_,rfl,Zf2 120 (by omega) _,ZaP,ZgD λt72 m72 Ak r72 e72 k72=>?_⟩
 have s72:m71.le m72:=Ak
 have g72:md.le m72:=mLt g71 s72
 refine⟨_,rfl,Zf2 121 (by omega) _,ZaP,ZgD λt73 m73 Al r73 e73 k73=>?_⟩
 have s73:m72.le m73:=Al
 have g73:md.le m73:=mLt g72 s73
 intro b77 f77
 intro V77 v77 w77 x77
 refine⟨_,rfl,ZvZ [ta,tb] [Zan 97,Zan 98] _ _ V77 ((Zb9 f77 (by intro x hx;simp only[List.mem_cons,List.not_mem_nil,or_false]at hx;rcases hx with rfl|rfl <;> assumption) (by simp)).mono x77) (by show[T.er ta,T.er tb]=_;rw[ea,eb]) (by decide +kernel) (by decide +kernel) (by simp),ZaP,ZgD λt77 m77 Am r77 e77 k77=>?_⟩
 have s77:m73.le m77:=(mLt w77 Am)
 have g77:md.le m77:=mLt g73 s77
 refine⟨_,rfl,Zf2 122 (by omega) _,ZaP,ZgD λt78 m78 An r78 e78 k78=>?_⟩
 have s78:m77.le m78:=An
 have g78:md.le m78:=mLt g77 s78
 intro b80 f80
 have q80_0:Rep m78 t72:=(r72.mono (mLt s73 (mLt s77 (s78))))
 have q80_1:Rep m78 t73:=(r73.mono (mLt s77 (s78)))
 have q80_2:Rep m78 t77:=(r77.mono (s78))
 have q80_3:Rep m78 t78:=(r78.mono (Mem.le_refl _))
 refine⟨_,rfl,Zkh [t72,t73,t77,t78] [ZBF,ZBG,ZBH,ZBI] _ _ _ (Zb9 f80 (by intro x hx;simp only[List.mem_cons,List.not_mem_nil,or_false]at hx;rcases hx with rfl|rfl|rfl|rfl <;> assumption) (by simp)) (by show[T.er t72,T.er t73,T.er t77,T.er t78]=_;rw[e72,e73,e77,e78]) (by decide +kernel) (by decide +kernel),ZaP,ZgD λt80 m80 Ao r80 e80 k80=>?_⟩
 have s80:m78.le m80:=(mLt (Mem.le_add f80 _) Ao)
 have g80:md.le m80:=mLt g78 s80
 intro b90 f90 M
 intro z0 z1 z2 z3 z4 z5 z6 z7 z8 z9 z10 z11 z12 z13 z14 z15 z16 z17 z18 z19 z20 z21 z22 z23 z24 z25 z26 z27 z28 z29 z30 z31 z32 z33 z34 z35 z36 z37 z38 z39 z40 z41 z42 z43 z44 z45 z46 z47 z48 z49 z50 z51 z52 z53 z54 z55 z56
 have hM:m80.le M:=by assumption
 have Ap:m.le M:=mLt ha (mLt hb (mLt hc (mLt hd (mLt g80 hM))))
 have u1:Rep M t1:=r1.mono (mLt (mLt s6 (mLt s8 (mLt s11 (mLt s13 (mLt s16 (mLt s22 (mLt s24 (mLt s27 (mLt s30 (mLt s32 (mLt s35 (mLt s39 (mLt s42 (mLt s45 (mLt s47 (mLt s50 (mLt s52 (mLt s54 (mLt s57 (mLt s59 (mLt s62 (mLt s64 (mLt s66 (mLt s68 (mLt s69 (mLt s71 (mLt s72 (mLt s73 (mLt s77 (mLt s78 (s80))))))))))))))))))))))))))))))) hM)
 have u8:Rep M t8:=r8.mono (mLt (mLt s11 (mLt s13 (mLt s16 (mLt s22 (mLt s24 (mLt s27 (mLt s30 (mLt s32 (mLt s35 (mLt s39 (mLt s42 (mLt s45 (mLt s47 (mLt s50 (mLt s52 (mLt s54 (mLt s57 (mLt s59 (mLt s62 (mLt s64 (mLt s66 (mLt s68 (mLt s69 (mLt s71 (mLt s72 (mLt s73 (mLt s77 (mLt s78 (s80))))))))))))))))))))))))))))) hM)
 have u11:Rep M t11:=r11.mono (mLt (mLt s13 (mLt s16 (mLt s22 (mLt s24 (mLt s27 (mLt s30 (mLt s32 (mLt s35 (mLt s39 (mLt s42 (mLt s45 (mLt s47 (mLt s50 (mLt s52 (mLt s54 (mLt s57 (mLt s59 (mLt s62 (mLt s64 (mLt s66 (mLt s68 (mLt s69 (mLt s71 (mLt s72 (mLt s73 (mLt s77 (mLt s78 (s80)))))))))))))))))))))))))))) hM)
 have u13:Rep M t13:=r13.mono (mLt (mLt s16 (mLt s22 (mLt s24 (mLt s27 (mLt s30 (mLt s32 (mLt s35 (mLt s39 (mLt s42 (mLt s45 (mLt s47 (mLt s50 (mLt s52 (mLt s54 (mLt s57 (mLt s59 (mLt s62 (mLt s64 (mLt s66 (mLt s68 (mLt s69 (mLt s71 (mLt s72 (mLt s73 (mLt s77 (mLt s78 (s80))))))))))))))))))))))))))) hM)
 have u16:Rep M t16:=r16.mono (mLt (mLt s22 (mLt s24 (mLt s27 (mLt s30 (mLt s32 (mLt s35 (mLt s39 (mLt s42 (mLt s45 (mLt s47 (mLt s50 (mLt s52 (mLt s54 (mLt s57 (mLt s59 (mLt s62 (mLt s64 (mLt s66 (mLt s68 (mLt s69 (mLt s71 (mLt s72 (mLt s73 (mLt s77 (mLt s78 (s80)))))))))))))))))))))))))) hM)
 have u27:Rep M t27:=r27.mono (mLt (mLt s30 (mLt s32 (mLt s35 (mLt s39 (mLt s42 (mLt s45 (mLt s47 (mLt s50 (mLt s52 (mLt s54 (mLt s57 (mLt s59 (mLt s62 (mLt s64 (mLt s66 (mLt s68 (mLt s69 (mLt s71 (mLt s72 (mLt s73 (mLt s77 (mLt s78 (s80))))))))))))))))))))))) hM)
 have u30:Rep M t30:=r30.mono (mLt (mLt s32 (mLt s35 (mLt s39 (mLt s42 (mLt s45 (mLt s47 (mLt s50 (mLt s52 (mLt s54 (mLt s57 (mLt s59 (mLt s62 (mLt s64 (mLt s66 (mLt s68 (mLt s69 (mLt s71 (mLt s72 (mLt s73 (mLt s77 (mLt s78 (s80)))))))))))))))))))))) hM)
 have u32:Rep M t32:=r32.mono (mLt (mLt s35 (mLt s39 (mLt s42 (mLt s45 (mLt s47 (mLt s50 (mLt s52 (mLt s54 (mLt s57 (mLt s59 (mLt s62 (mLt s64 (mLt s66 (mLt s68 (mLt s69 (mLt s71 (mLt s72 (mLt s73 (mLt s77 (mLt s78 (s80))))))))))))))))))))) hM)
 have u35:Rep M t35:=r35.mono (mLt (mLt s39 (mLt s42 (mLt s45 (mLt s47 (mLt s50 (mLt s52 (mLt s54 (mLt s57 (mLt s59 (mLt s62 (mLt s64 (mLt s66 (mLt s68 (mLt s69 (mLt s71 (mLt s72 (mLt s73 (mLt s77 (mLt s78 (s80)))))))))))))))))))) hM)
 have u39:Rep M t39:=r39.mono (mLt (mLt s42 (mLt s45 (mLt s47 (mLt s50 (mLt s52 (mLt s54 (mLt s57 (mLt s59 (mLt s62 (mLt s64 (mLt s66 (mLt s68 (mLt s69 (mLt s71 (mLt s72 (mLt s73 (mLt s77 (mLt s78 (s80))))))))))))))))))) hM)
 have u52:Rep M t52:=r52.mono (mLt (mLt s54 (mLt s57 (mLt s59 (mLt s62 (mLt s64 (mLt s66 (mLt s68 (mLt s69 (mLt s71 (mLt s72 (mLt s73 (mLt s77 (mLt s78 (s80)))))))))))))) hM)
 have u64:Rep M t64:=r64.mono (mLt (mLt s66 (mLt s68 (mLt s69 (mLt s71 (mLt s72 (mLt s73 (mLt s77 (mLt s78 (s80))))))))) hM)
 have u71:Rep M t71:=r71.mono (mLt (mLt s72 (mLt s73 (mLt s77 (mLt s78 (s80))))) hM)
 have u80:Rep M t80:=r80.mono (mLt (Mem.le_refl _) hM)
 refine⟨λxs css tvs m' q=>∃i:Nat,i<=7/\xs=[.int .i64 i]/\q=7 - i,⟨7,0,by omega,rfl,rfl⟩,?_⟩
 rintro z0 m91 q v5 ⟨i,hi,bB,hq⟩
 obtain rfl:z0=i:=by simpa using bB
 refine Zab (λaS=>?_) (λbR=>?_)
 ·have aQ:i < 7:=by have:=of_decide_eq_true aS;omega
  have Aq:i=0\/i=1\/i=2\/i=3\/i=4\/i=5\/i=6:=by omega
  obtain⟨x,y,c,X,Y,aR,hX,hY,xv,xr,bW,jX,qO,Ar⟩:∃(x y:T)(c:Nat)(X Y:T),List.take 17 (List.drop ((i:Int).toNat*17) ([.int .u8 t1.k,.int .u64 t1.s0,.int .u64 t1.s1,.int .u64 t1.s2,.int .u64 t1.s3,.int .i64 t1.mn,.int .i64 t1.mx,.slice t1.a t1.subs.length t1.c,.int .u8 t8.k,.int .u64 t8.s0,.int .u64 t8.s1,.int .u64 t8.s2,.int .u64 t8.s3,.int .i64 t8.mn,.int .i64 t8.mx,.slice t8.a t8.subs.length t8.c,.int .i64 1,.int .u8 t11.k,.int .u64 t11.s0,.int .u64 t11.s1,.int .u64 t11.s2,.int .u64 t11.s3,.int .i64 t11.mn,.int .i64 t11.mx,.slice t11.a t11.subs.length t11.c,.int .u8 t13.k,.int .u64 t13.s0,.int .u64 t13.s1,.int .u64 t13.s2,.int .u64 t13.s3,.int .i64 t13.mn,.int .i64 t13.mx,.slice t13.a t13.subs.length t13.c,.int .i64 1,.int .u8 t16.k,.int .u64 t16.s0,.int .u64 t16.s1,.int .u64 t16.s2,.int .u64 t16.s3,.int .i64 t16.mn,.int .i64 t16.mx,.slice t16.a t16.subs.length t16.c,.int .u8 t27.k,.int .u64 t27.s0,.int .u64 t27.s1,.int .u64 t27.s2,.int .u64 t27.s3,.int .i64 t27.mn,.int .i64 t27.mx,.slice t27.a t27.subs.length t27.c,.int .i64 3,.int .u8 t30.k,.int .u64 t30.s0,.int .u64 t30.s1,.int .u64 t30.s2,.int .u64 t30.s3,.int .i64 t30.mn,.int .i64 t30.mx,.slice t30.a t30.subs.length t30.c,.int .u8 t32.k,.int .u64 t32.s0,.int .u64 t32.s1,.int .u64 t32.s2,.int .u64 t32.s3,.int .i64 t32.mn,.int .i64 t32.mx,.slice t32.a t32.subs.length t32.c,.int .i64 0,.int .u8 t35.k,.int .u64 t35.s0,.int .u64 t35.s1,.int .u64 t35.s2,.int .u64 t35.s3,.int .i64 t35.mn,.int .i64 t35.mx,.slice t35.a t35.subs.length t35.c,.int .u8 t39.k,.int .u64 t39.s0,.int .u64 t39.s1,.int .u64 t39.s2,.int .u64 t39.s3,.int .i64 t39.mn,.int .i64 t39.mx,.slice t39.a t39.subs.length t39.c,.int .i64 1,.int .u8 t52.k,.int .u64 t52.s0,.int .u64 t52.s1,.int .u64 t52.s2,.int .u64 t52.s3,.int .i64 t52.mn,.int .i64 t52.mx,.slice t52.a t52.subs.length t52.c,.int .u8 t64.k,.int .u64 t64.s0,.int .u64 t64.s1,.int .u64 t64.s2,.int .u64 t64.s3,.int .i64 t64.mn,.int .i64 t64.mx,.slice t64.a t64.subs.length t64.c,.int .i64 0,.int .u8 t71.k,.int .u64 t71.s0,.int .u64 t71.s1,.int .u64 t71.s2,.int .u64 t71.s3,.int .i64 t71.mn,.int .i64 t71.mx,.slice t71.a t71.subs.length t71.c,.int .u8 t80.k,.int .u64 t80.s0,.int .u64 t80.s1,.int .u64 t80.s2,.int .u64 t80.s3,.int .i64 t80.mn,.int .i64 t80.mx,.slice t80.a t80.subs.length t80.c,.int .i64 1]:List Value))=ZCd x y c/\x.er=X/\y.er=Y/\x.caps/\y.caps/\Rep M x/\Rep M y/\Item X Y c/\c<=20:=by
   rcases Aq with rfl|rfl|rfl|rfl|rfl|rfl|rfl
   ·exact⟨t1,t8,1,_,_,rfl,e1,e8,k1,k8,u1,u8,ZBh,by omega⟩
   ·exact⟨t11,t13,1,_,_,rfl,e11,e13,k11,k13,u11,u13,ZzZ,by omega⟩
   ·exact⟨t16,t27,3,_,_,rfl,e16,e27,k16,k27,u16,u27,Zz0,by omega⟩
   ·exact⟨t30,t32,0,_,_,rfl,e30,e32,k30,k32,u30,u32,Zz1,by omega⟩
   ·exact⟨t35,t39,1,_,_,rfl,e35,e39,k35,k39,u35,u39,Zz2,by omega⟩
   ·exact⟨t52,t64,0,_,_,rfl,e52,e64,k52,k64,u52,u64,Zz3,by omega⟩
   ·exact⟨t71,t80,1,_,_,rfl,e71,e80,k71,k80,u71,u80,Zz4,by omega⟩
  have v7:c<=1000000:=by omega
  refine⟨⟨by omega,by omega⟩,Zaa (by rw[Nat.ble_eq];show i*17<=102;omega) ?_⟩
  intro b92
  unfold ZaF
  have sI:=bW.mono v5
  have mM:T.rgt x=true:=by rw[<-Zw8,hX];exact qO.rgt
  have AV:=Zex.1 mM
  have gY:x.cuts.length=c:=by rw[<-Ztf,hX];exact qO.cuts
  have dG:x.clean=true:=by rw[<-Zs1,hX];exact qO.clean
  rw[aR]
  have hF:CX Try.prog 17 #[x.v] m91 [] (Zk3 0 (λt'=>t'.er=(ZbP x).1)):=(Zu2 x m91 sI xv).mono λv m' css _ h=>by rw[if_pos mM]at h;exact h
  refine Zaa rfl (Zaa rfl ⟨_,trivial,hF,(λv _ _ ⟨t,e,_⟩=>by rw[e];rfl),?_⟩)
  rintro n1 n2 n3 n4 n5 n6 n7 fa nf fc n8 m92 xw ⟨f,hv,eE,rv,mA⟩
  simp only[T.v,Value.tuple.injEq,Value.agg.injEq,Array.mk.injEq,List.cons.injEq,Value.int.injEq,Value.slice.injEq,true_and,and_true]at hv
  obtain⟨⟨rfl,rfl,rfl,rfl,rfl,rfl,rfl,rfl,rfl,rfl⟩,rfl⟩:=hv
  intro b93
  have sJ:=sI.mono xw
  have hC:CX Try.prog 32 #[x.v] m92 [] (Zzv 0 x.cuts):=(ZyE x m92 sJ xv (by rw[gY];exact v7)).mono λv m' css _ h=>by unfold OrE at h;rw[if_neg (by rw[mM];simp)]at h;exact h
  refine Zaa rfl ⟨_,trivial,hC,Zsd,?_⟩
  rintro ca nc cc n9 m93 v8 ⟨ca',cc',hv,-⟩
  simp only[Value.tuple.injEq,Array.mk.injEq,List.cons.injEq,Value.int.injEq,Value.slice.injEq,true_and,and_true]at hv
  obtain⟨⟨rfl,rfl,rfl⟩,rfl⟩:=hv
  have gU:(f.light&&(y.light&&f.same y))=true:=by
   rw[<-Zjq f,<-Zjq y,<-ZtI f y,rv,hY,<-ZqY,hX]
   exact qO.same
  refine⟨false,ZnB rfl (Zaa rfl (Zak (Zyq f y m93 (eE.mono v8) (jX.mono (mLt v5 (mLt xw v8)))) λm94 As=>?_)),ZnB rfl ⟨by trivial,7 - (i+1),by omega,i+1,by omega,?_,rfl⟩⟩
  ·rw[gU]
   refine ZnB rfl (Zas (v:=.int .i64 (c:Nat)) rfl (Zaa rfl (ZnB ?_ (Zaa rfl (Zak (ZjC x m94 (sJ.mono (mLt v8 As))) λm95 AW=>⟨by trivial,?_⟩)))))
   ·rw[gY];simp[RowKit.intOf]
   ·rw[dG];rfl
  ·rw[ZaA (by omega) (by omega)];rfl
 ·have wa:=mLt Ap v5
  have gain:∀(t:T)(E:T)(k:C4)(M:Mem)(g:Int),Rep M t->t.caps->t.er=E->T.rgt E=true->k∈E.cuts->Zfi E k=g->CX Try.prog 30 #[t.v,.agg #[.int .i64 (k.a:Nat),.int .i64 (k.f:Nat),.int .i64 (k.t:Nat),.int .i64 (k.n:Nat)]] M [] (Ret (.tuple #[.int .i64 g,.int .i64 0])):=by
   intro t E k M g hr hc he hg hk At
   refine(ZvS t _ _ _ _ M hr hc).mono ?_
   rintro v m' css _ ⟨g',e,hv,hp⟩
   have tq:T.rgt t=true:=by rw[<-Zw8,he];exact hg
   have iZ:k∈t.cuts:=by rw[<-Ztf,he];exact hk
   rcases hp with⟨h,_⟩|⟨_,k',hk',h1,h2,h3,h4,rfl,rfl⟩|⟨_,h,_⟩
   ·rw[tq]at h;cases h
   ·obtain⟨ka,kf,kt,kn⟩:=k
    obtain⟨ka',kf',kt',kn'⟩:=k'
    simp only[Int.natCast_inj]at h1 h2 h3 h4
    subst h1 h2 h3 h4
    rw[hv,<-At,<-he,Zw9 hk']
   ·exact absurd ⟨rfl,rfl,rfl,rfl⟩ (h k iZ)
  have gfit:∀{x:Int} (v:Value) (m':Mem) (css:List (List Value)),Ret (.tuple #[.int .i64 x,.int .i64 0]) v m' css->Shape.fits (.tup [.int .i64,.int .i64]) v=true:=λv _ _ e=>by rw[e];rfl
  intro b101 f101
  refine Zag (Zd0 [⟨#[97,98]⟩,⟨#[97,99]⟩] _ _ _ _ (Zd1 (m:=m91) (b:=b101) (cs:=([⟨#[97,98]⟩,⟨#[97,99]⟩]:List ByteArray).map Value.string)) (by decide) (by decide +kernel) (by simp) rfl) ZaP (ZgD λt1 m101 wc r1 e1 k1=>?_)
  refine Zag (gain t1 aE1 ⟨0,0,2,1⟩ m101 2 r1 k1 e1 (by decide +kernel) (by decide +kernel) (by decide +kernel)) gfit ?_
  rintro g1 w1 m102 wd Au
  obtain⟨rfl,rfl⟩:g1=2/\w1=0:=by simpa[Ret]using Au
  intro b103 f103
  refine Zag (Zd0 [⟨#[97]⟩,⟨#[97,98]⟩] _ _ _ _ (Zd1 (m:=m102) (b:=b103) (cs:=([⟨#[97]⟩,⟨#[97,98]⟩]:List ByteArray).map Value.string)) (by decide) (by decide +kernel) (by simp) rfl) ZaP (ZgD λt2 m103 we r2 e2 k2=>?_)
  refine Zag (gain t2 ZBr ⟨0,0,2,1⟩ m103 0 r2 k2 e2 (by decide +kernel) (by decide +kernel) (by decide +kernel)) gfit ?_
  rintro g2 w2 m104 wg Av
  obtain⟨rfl,rfl⟩:g2=0/\w2=0:=by simpa[Ret]using Av
  intro b105 f105
  refine Zag (Zd0 [⟨#[97,98,99]⟩,⟨#[97,98,100]⟩,⟨#[97]⟩] _ _ _ _ (Zd1 (m:=m104) (b:=b105) (cs:=([⟨#[97,98,99]⟩,⟨#[97,98,100]⟩,⟨#[97]⟩]:List ByteArray).map Value.string)) (by decide) (by decide +kernel) (by simp) rfl) ZaP (ZgD λt3 m105 wh r3 e3 k3=>?_)
  refine Zag (gain t3 ZAz ⟨0,0,3,1⟩ m105 0 r3 k3 e3 (by decide +kernel) (by decide +kernel) (by decide +kernel)) gfit ?_
  rintro g3 w3 m106 wi Aw
  obtain⟨rfl,rfl⟩:g3=0/\w3=0:=by simpa[Ret]using Aw
  intro b107 f107
  refine Zag (Zd0 [⟨#[97,98,99]⟩,⟨#[97,98,100]⟩,⟨#[97]⟩] _ _ _ _ (Zd1 (m:=m106) (b:=b107) (cs:=([⟨#[97,98,99]⟩,⟨#[97,98,100]⟩,⟨#[97]⟩]:List ByteArray).map Value.string)) (by decide) (by decide +kernel) (by simp) rfl) ZaP (ZgD λt4 m107 wj r4 e4 k4=>?_)
  have kU:T.rgt t4=true:=by rw[<-Zw8,e4];decide +kernel
  have sD:Zcw t4=Zcw ZAz:=by rw[<-Ztg t4,e4];rfl
  have dM:(Zcw ZAz).c=⟨0,0,2,2⟩/\(Zcw ZAz).g=2:=by decide +kernel
  have hB:CX Try.prog 29 #[t4.v] m107 [] (Ret (.tuple #[.agg #[.int .i64 0,.int .i64 0,.int .i64 2,.int .i64 2],.int .i64 2,.bool true,.int .i64 0])):=(ZyB t4 m107 r4 k4).mono λv m' css _ h=>by
   rw[if_neg (by rw[kU];simp),sD,dM.1,dM.2,if_neg (by omega)]at h
   exact h
  refine Zag hB (λv _ _ e=>by rw[e];rfl) ?_
  rintro x1 x2 x3 x4 g4 is w4 m108 wk Ax
  obtain⟨⟨rfl,rfl,rfl,rfl⟩,rfl,rfl,rfl⟩:(x1=0/\x2=0/\x3=2/\x4=2)/\g4=2/\is=true/\w4=0:=by simpa[Ret]using Ax
  intro b109
  refine⟨true,ZvM rfl (ZvM rfl (ZvM rfl (ZvM rfl ⟨_,ZyC _ _ _ _ _ _ _ _,ZvM rfl (ZvM rfl ⟨by trivial,rfl⟩)⟩))),Zaj ?_ rfl⟩
  exact mLt wa (mLt (Mem.le_add f101 _) (mLt wc (mLt wd (mLt (Mem.le_add f103 _) (mLt we (mLt wg (mLt (Mem.le_add f105 _) (mLt wh (mLt wi (mLt (Mem.le_add f107 _) (mLt wj wk)))))))))))
end Go.Proofs.Ytfgfahnakepegaa
set_option linter.unusedVariables false
set_option linter.unusedSimpArgs false
set_option linter.unusedSectionVars false
namespace Go.Proofs.Ytfgfahnakepegaa
open Go Go.Eng Go.Rx Go.Proofs Go.RowKit
set_option maxRecDepth 100000
theorem ZmR:∀t:T,t.same t=true
 | .node k s0 s1 s2 s3 mn mx a c l=>by
  have:=same_reflL l
  simp only[T.same,this,beq_self_eq_true,Bool.and_self]
where same_reflL:∀l:List T,ZdR l l=true
 | []=>rfl
 | t::l=>by simp only[ZdR,ZmR t,same_reflL l,Bool.and_self]
theorem Zsw{t u:T}(h:t.er=u.er):t.same u=true:=by
 rw[<-ZtI,h];exact ZmR _
end Go.Proofs.Ytfgfahnakepegaa
set_option linter.unusedVariables false
namespace Go.Proofs.Ytfgfahnakepegaa
open Go Go.Eng Go.Proofs Go.RowKit
open Go.Value (int slice agg bool string tuple func)
open Go.IntKind (u8 u64 i64)
set_option maxRecDepth 100000
end Go.Proofs.Ytfgfahnakepegaa
set_option linter.unusedVariables false
set_option linter.unusedSimpArgs false
set_option linter.unusedSectionVars false
namespace Go.Proofs.Ytfgfahnakepegaa
open Go Go.Eng Go.Rx Go.Proofs Go.RowKit
set_option maxRecDepth 100000
theorem Zz5{M m:Mem}{Y:Nat->Prop}(h:M.le m)(hY:∀b,Y b->M.free b):M.le (m.off Y):=λb o v hv=>by
 rw[Mem.off_at λhy=>by rw[hY b hy o]at hv;cases hv]
 exact h _ _ _ hv
theorem ZyW{m:Mem}{t:T}(h:NewT m t){b:Nat}(hb:YT t b):m.free b:=by
 obtain⟨x,hx,bS,e⟩:=hb
 rcases h x hx with h|⟨b',e',hf⟩
 ·exact absurd h bS
 ·rw[e]at e'
  cases e'
  exact hf
theorem Zsx{t:T}{n:Nat}(h:t.nodes.length<=n):∀y∈t.nodes,y.subs.length<=n:=λy hy=>by
 have h1:=Ztn t y hy
 have h2:=Zp1 y
 omega
end Go.Proofs.Ytfgfahnakepegaa
set_option linter.unusedVariables false
namespace Go.Proofs.Ytfgfahnakepegaa
open Go Go.Eng Go.Proofs Go.RowKit
open Go.Value (int slice agg bool string tuple func)
open Go.IntKind (u8 u64 i64)
set_option maxRecDepth 100000
noncomputable def ZmS:Env:={ EB with
 loops:=(λi=>bif Nat.beq i 9 then⟨[(47,.int .i64)],[],[],false⟩ else⟨[],[],[],false⟩)
 dr:=(λi=>bif Nat.beq i 1 then[⟨0,[3],[],none,[],[]⟩,⟨1,[],[],none,[0],[]⟩,⟨2,[3],[],none,[],[]⟩,⟨3,[],[],none,[0,1,2],[1]⟩,⟨4,[7],[7],none,[],[]⟩,⟨5,[8],[8],none,[],[]⟩,⟨6,[7],[7],none,[0,1,2,3,4,5],[]⟩,⟨7,[8],[8],none,[0,1,2,3,4,5,6],[]⟩]else bif Nat.beq i 16 then[⟨0,[],[],none,[],[]⟩,⟨1,[],[],none,[],[]⟩,⟨2,[],[],none,[0,1],[]⟩,⟨3,[],[],none,[0,1,2],[]⟩,⟨4,[],[],none,[0,1,2,3],[]⟩,⟨5,[],[],none,[0,1,2,3],[]⟩,⟨6,[],[],none,[0,1,2,3,4,5],[]⟩,⟨7,[],[],none,[0,1,2,3,4,5,6],[]⟩,⟨8,[],[],none,[0,1,2,3,4,5,6,7],[]⟩,⟨9,[14],[],none,[0,1,2,3,4,5,6,7,8],[]⟩,⟨10,[18],[],none,[0,1,2,3,4,5,6,7,8],[]⟩,⟨11,[],[],none,[0,1,2,3,4,5,6,7,8,9,10],[]⟩,⟨12,[],[],none,rg 0 12,[]⟩,⟨13,[],[],none,rg 0 13,[]⟩,⟨14,[],[],none,rg 0 14,[]⟩,⟨15,[],[],none,rg 0 15,[]⟩,⟨16,[],[],none,rg 0 16,[]⟩,⟨17,[],[],none,rg 0 17,[]⟩,⟨18,[],[],none,rg 0 18,[]⟩,⟨19,[],[],none,rg 0 19,[]⟩,⟨20,[],[],none,rg 0 20,[]⟩,⟨21,[],[],none,rg 0 21,[]⟩,⟨22,[],[],none,rg 0 22,[]⟩,⟨23,[],[],none,rg 0 23,[]⟩,⟨24,[],[],none,rg 0 24,[]⟩,⟨25,[],[],none,rg 0 25,[]⟩,⟨26,[],[],none,rg 0 26,[]⟩,⟨27,[8],[],none,rg 0 26,[11]⟩,⟨28,[],[],none,rg 0 26++[27],[11]⟩,⟨29,[18],[],none,rg 0 26,[11]⟩,⟨30,[],[],none,rg 0 26++[27,28,29],[28]⟩,⟨31,[],[],none,rg 0 26++rg 27 4,[]⟩,⟨32,[],[],none,rg 0 32,[]⟩,⟨33,[],[],none,rg 0 33,[]⟩,⟨34,[],[],none,rg 0 34,[]⟩]else[])
 tokOf:=(λi=>bif Nat.beq i 44 then 44 else 0)
 frzNew:=[3,4]
 gb:=true
 thaw:=true
 cuts:=(λi=>bif Nat.beq i 8 then some ⟨[(9,.slice)],[],[],false⟩ else bif Nat.beq i 16 then some ⟨[(19,.int .i64)],[18],[],false⟩ else bif Nat.beq i 18 then some ⟨[],[],[],false⟩ else none)
 lentC:=(λi=>bif Nat.beq i 107 then some []else none) }
abbrev Zd5:Int->Int->Int->Int->Nat->Option Box:=λ(aN aK aL aM:Int)(b:Nat)=>some (Box.mk b [int i64 aN,int i64 aK,int i64 aL,int i64 aM] 72 4 true true)
abbrev Zbr:Int->Int->Int->Int->Int->Int->Int->Option Addr->Nat->Nat->Nat->Option Box:=λ(n ab ac ad ae af ag:Int)(a:Option Addr)(ah c b:Nat)=>some (Box.mk b [int u8 n,int u64 ab,
 int u64 ac,int u64 ad,int u64 ae,int i64 af,int i64 ag,slice a ah c] 27 8 false true)
abbrev Zb3:List Value->Nat->Option Box:=λ(cs:List Value)(b:Nat)=>some (Box.mk b cs 70 260 false true)
abbrev Zd6:Int->Int->Int->Int->Nat->Option Box:=λ(aN aK aL aM:Int)(b:Nat)=>some (Box.mk b [int i64 aN,int i64 aK,int i64 aL,int i64 aM] 29 4 true true)
abbrev Zd7:Int->Int->Int->Int->Int->Int->Int->Option Addr->Nat->Nat->Nat->Option Box:=λ(aD aE aF aG aJ aH aI:Int)(aB:Option Addr)(aA aC b:Nat)=>some (Box.mk
 b [int u8 aD,int u64 aE,int u64 aF,int u64 aG,int u64 aJ,int i64 aH,int i64 aI,slice aB aA aC] 27 8 true true)
abbrev Zc2:Int->Int->Int->Int->Int->Int->Int->Option Addr->Nat->Nat->Int->Int->Int->Int->Nat->Nat->Int->Int->Int->Int->Int->Int->Int->Option Addr->Nat->Nat->List Value->Nat->Nat
 -> Nat->List (Option Box):=λ(aD aE aF aG aJ aH aI:Int)(aB:Option Addr)(aA aC:Nat)(aN aK aL aM:Int)(b am:Nat)(n ab ac ad ae af ag:Int)(a:Option Addr)(ah c:Nat)
 (cs:List Value) (an ao ai:Nat)=>[Zd5 aN aK aL aM ai,Zbr n ab ac ad ae af ag a ah c an,Zb3 cs ao,Zbr n ab ac ad ae af ag a ah c an,Zb3 cs ao,
 Zd6 aN aK aL aM am,Zd7 aD aE aF aG aJ aH aI aB aA aC b]
abbrev Zf4:Value->Value->Value->Value->Nat->Option Box:=λ(v aj ak al:Value)(b:Nat)=>some (Box.mk b [v,aj,ak,al] 72 4 false true)
abbrev Zf5:Int->Int->Int->Int->Int->Int->Int->Option Addr->Nat->Nat->Int->Int->Int->Int->Nat->Nat->Int->Int->Int->Int->Int->Int->Int->Option Addr->Nat->Nat->List Value->Nat->Nat
 -> Nat->Value->Value->Value->Value->Nat->Int->Int->Int->Int->Int->Int->Int->Option Addr->Nat->Nat->Nat->Nat->List (Option Box):=λ(aD aE aF aG aJ aH aI:Int)(aB:Option Addr)
 (aA aC:Nat) (aN aK aL aM:Int) (b am:Nat) (n ab ac ad ae af ag:Int) (a:Option Addr) (ah c:Nat) (cs:List Value) (an ao ai:Nat) (v aj ak al:Value) (bb:Nat) (au a8 be av aw ax ay:Int) (bm
 : Option Addr) (az bc a7 ar:Nat)=>[some (Box.mk ar [] 70 260 false true),Zbr au a8 be av aw ax ay bm az bc a7,Zf4 v aj ak al bb,Zd5 aN aK aL aM ai,Zbr n ab ac
 ad ae af ag a ah c an,Zb3 cs ao,Zbr n ab ac ad ae af ag a ah c an,Zb3 cs ao,Zd6 aN aK aL aM am,Zd7 aD aE aF aG aJ aH aI aB aA aC
 b]
abbrev Zf6:List Value:=[int i64 0,int i64 0,int i64 0,int i64 0,int i64 0,int i64 0,int i64 0,int i64 0,int i64 0,int i64 0,int i64 0,int i64 0,int i64 0,int i64 0,int i64 0,int i64 0,int
 i64 0,int i64 0,int i64 0,int i64 0,int i64 0,int i64 0,int i64 0,int i64 0,int i64 0,int i64 0,int i64 0,int i64 0,int i64 0,int i64 0,int i64 0,int i64 0,int i64 0,int i64 0,int i64 0,int i64 0,int
 i64 0,int i64 0,int i64 0,int i64 0,int i64 0,int i64 0,int i64 0,int i64 0,int i64 0,int i64 0,int i64 0,int i64 0,int i64 0,int i64 0,int i64 0,int i64 0,int i64 0,int i64 0,int i64 0,int i64 0,int
 i64 0,int i64 0,int i64 0,int i64 0,int i64 0,int i64 0,int i64 0,int i64 0,int i64 0,int i64 0,int i64 0,int i64 0,int i64 0,int i64 0,int i64 0,int i64 0,int i64 0,int i64 0,int i64 0,int i64 0,int
 i64 0,int i64 0,int i64 0,int i64 0,int i64 0,int i64 0,int i64 0,int i64 0,int i64 0,int i64 0,int i64 0,int i64 0,int i64 0,int i64 0,int i64 0,int i64 0,int i64 0,int i64 0,int i64 0,int i64 0,int
 i64 0,int i64 0,int i64 0,int i64 0,int i64 0,int i64 0,int i64 0,int i64 0,int i64 0,int i64 0,int i64 0,int i64 0,int i64 0,int i64 0,int i64 0,int i64 0,int i64 0,int i64 0,int i64 0,int i64 0,int
 i64 0,int i64 0,int i64 0,int i64 0,int i64 0,int i64 0,int i64 0,int i64 0,int i64 0,int i64 0,int i64 0,int i64 0,int i64 0,int i64 0,int i64 0,int i64 0,int i64 0,int i64 0,int i64 0,int i64 0,int
 i64 0,int i64 0,int i64 0,int i64 0,int i64 0,int i64 0,int i64 0,int i64 0,int i64 0,int i64 0,int i64 0,int i64 0,int i64 0,int i64 0,int i64 0,int i64 0,int i64 0,int i64 0,int i64 0,int i64 0,int
 i64 0,int i64 0,int i64 0,int i64 0,int i64 0,int i64 0,int i64 0,int i64 0,int i64 0,int i64 0,int i64 0,int i64 0,int i64 0,int i64 0,int i64 0,int i64 0,int i64 0,int i64 0,int i64 0,int i64 0,int
 i64 0,int i64 0,int i64 0,int i64 0,int i64 0,int i64 0,int i64 0,int i64 0,int i64 0,int i64 0,int i64 0,int i64 0,int i64 0,int i64 0,int i64 0,int i64 0,int i64 0,int i64 0,int i64 0,int i64 0,int
 i64 0,int i64 0,int i64 0,int i64 0,int i64 0,int i64 0,int i64 0,int i64 0,int i64 0,int i64 0,int i64 0,int i64 0,int i64 0,int i64 0,int i64 0,int i64 0,int i64 0,int i64 0,int i64 0,int i64 0,int
 i64 0,int i64 0,int i64 0,int i64 0,int i64 0,int i64 0,int i64 0,int i64 0,int i64 0,int i64 0,int i64 0,int i64 0,int i64 0,int i64 0,int i64 0,int i64 0,int i64 0,int i64 0,int i64 0,int i64 0,int
 i64 0,int i64 0,int i64 0,int i64 0,int i64 0,int i64 0,int i64 0,int i64 0,int i64 0,int i64 0,int i64 0,int i64 0,int i64 0,int i64 0,int i64 0,int i64 0,int i64 0,int i64 0,int i64 0,int i64 0,int
 i64 0,int i64 0,int i64 0,slice none 0 0]
abbrev Zkk:Nat->List Value->Option Box:=λ(b:Nat)(cs:List Value)=>some (Box.mk b cs 70 260 false true)
abbrev ZcL:Int->Int->Int->Int->Int->Int->Int->Option Addr->Nat->Nat->Int->Int->Int->Int->Nat->Nat->Int->Int->Int->Int->Int->Int->Int->Option Addr->Nat->Nat->List Value->Nat->Nat
 -> Nat->Value->Value->Value->Value->Nat->Int->Int->Int->Int->Int->Int->Int->Option Addr->Nat->Nat->Nat->Nat->List Value->List (Option Box):=λ(aD aE aF aG aJ aH aI:Int) (aB:
 Option Addr) (aA aC:Nat) (aN aK aL aM:Int) (b am:Nat) (n ab ac ad ae af ag:Int) (a:Option Addr) (ah c:Nat) (cs:List Value) (an ao ai:Nat) (v aj ak al:Value) (bb:Nat) (au a8 be av aw ax
 ay:Int) (bm:Option Addr) (az bc a7 ar:Nat) (aq:List Value)=>[Zkk ar aq,Zbr au a8 be av aw ax ay bm az bc a7,Zf4 v aj ak al bb,Zd5 aN aK aL aM ai,
 Zbr n ab ac ad ae af ag a ah c an,Zb3 cs ao,Zbr n ab ac ad ae af ag a ah c an,Zb3 cs ao,Zd6 aN aK aL aM am,Zd7 aD aE aF aG aJ aH
 aI aB aA aC b]
def Zf7(aD aE aF aG aJ aH aI:Int)(aB:Option Addr)(aA aC:Nat)(aN aK aL aM p2:Int)(m:Mem)(R:RT):Prop:=
 ∀(b:Nat)(m':Mem),Mem.le m m'->Mem.reads m' b 0 [int u8 aD,int u64 aE,int u64 aF,int u64 aG,int u64 aJ,int i64 aH,int i64 aI,slice aB aA aC]->Mem.free m b->(∀(b' o:Nat) (u:
 Value),m' b' o=some u->m b' o=some u\/b'=b)->∀(am:Nat)(ba:Mem),Mem.le m' ba->Mem.reads ba am 0 [int i64 aN,int i64 aK,int i64 aL,int i64 aM]->Mem.free m' am->(∀(b' o:Nat)(u:Value),
 ba b' o=some u->m' b' o=some u\/b'=am)->∃(f:Fx),∃(R_1:RT),R_1=f 1 [agg (Array.mk [int u8 aD,int u64 aE,int u64 aF,int u64 aG,int u64 aJ,int i64 aH,int i64 aI,slice aB aA
 aC])] ba/\CX Try.prog 38 (Array.mk [agg (Array.mk [int u8 aD,int u64 aE,int u64 aF,int u64 aG,int u64 aJ,int i64 aH,int i64 aI,slice aB aA aC])]) ba [] R_1/\Zau (shT) R_1/\∀(n ab ac
 ad ae af ag:Int) (a:Option Addr) (ah c:Nat) (m':Mem),Mem.le ba m'->R_1 (agg (Array.mk [int u8 n,int u64 ab,int u64 ac,int u64 ad,int u64 ae,int i64 af,int i64 ag,slice a ah c])) m' []->∃(R_2:RT),
 R_2=f 3 [agg (Array.mk [int u8 aD,int u64 aE,int u64 aF,int u64 aG,int u64 aJ,int i64 aH,int i64 aI,slice aB aA aC])] m'/\CX Try.prog 39 (Array.mk [agg (Array.mk [int u8 aD,int u64
 aE,int u64 aF,int u64 aG,int u64 aJ,int i64 aH,int i64 aI,slice aB aA aC])]) m' [] R_2/\Zau Shape.cells R_2/\∀(cs:List Value)(bl:Mem),Mem.le m' bl->R_2 (agg (Array.mk cs)) bl []->∀
 (an ao:Nat),chk (Nat.beq (List.length cs) 260&&ZbA cs) (∀(M:Mem),Mem.le ba M->Mem.le m' M->Mem.le bl M->∀(ai:Nat),Mem.free M ai->∃(R_3:RT),True/\CX Try.prog 40 (Array.mk [agg (Array.mk cs)])
 (Mem.add M ai [int i64 aN,int i64 aK,int i64 aL,int i64 aM]) [] R_3/\Zau Shape.bool R_3/\∀(bb:Bool)(m':Mem),Mem.le (Mem.add M ai [int i64 aN,int i64 aK,int i64 aL,int i64 aM]) m'->R_3
 (bool bb) m' []->∃(J:JT),br bb (∃(R:RT),True/\CX Try.prog 41 (Array.mk [agg (Array.mk cs)]) m' [] R/\Zau Shape.slice R/\∀(bh:Option Addr)(au bc:Nat)(ap:Mem),Mem.le m' ap->R (slice bh au bc) ap []
 -> br (decide ((↑au:Int) > (0:Int))) ((↑au:Int)≠(0:Int)/\∃(a7:Nat),∃(o:Nat),bh=some (Addr.mk a7 o none)/\Zad (Int.tmod (IntKind.wrap i64 p2) (↑au:Int)) au/\∃(v:Value),∃(aj:Value),∃
 (ak:Value),∃(al:Value),Mem.reads ap a7 (o+Int.toNat (Int.tmod (IntKind.wrap i64 p2) (↑au:Int))*4) [v,aj,ak,al]/\∀(ar:Nat),Mem.free ap ar->(slice (some (Addr.mk ai 0 none)) 1 1=slice none 0 0\/1
 < 1+1)/\∃(xs:List Value),∃(ys:List Value),List.length xs=1*4/\List.length ys=1*4/\rowRd (Mem.add ap ar [v,aj,ak,al]) (some (Addr.mk ai 0 none)) xs/\rowRd (Mem.add ap ar [v,aj,ak,al]) (some
 (Addr.mk ar 0 none)) ys/\(∀(u:Value),u∈ys->Value.oneCell' u=true)/\(1+1)*32<=140737488355328/\1+1<=9223372036854775807/\∀(a':Option Addr)(c':Nat)(m':Mem),Mem.le (Mem.add ap ar [v,aj,ak,
 al]) m'->rowRd m' a' (List.append xs ys)->TokFact (Mem.add ap ar [v,aj,ak,al]) (some (Addr.mk ai 0 none)) a' (1+1) c'->Zaz (Zc2 aD aE aF aG aJ aH aI aB aA aC aN aK aL
 aM b am n ab ac ad ae af ag a ah c cs an ao ai)/\J [slice a' 2 c'] [] [] m') (Zaz (Zc2 aD aE aF aG aJ aH aI aB aA aC aN aK aL aM b am n ab ac ad ae af ag a ah c cs an ao
 ai)/\J [slice (some (Addr.mk ai 0 none)) 1 1] [] [] ap)) (Zaz (Zc2 aD aE aF aG aJ aH aI aB aA aC aN aK aL aM b am n ab ac ad ae af ag a ah c cs an ao ai)/\J [slice (some
 (Addr.mk ai 0 none)) 1 1] [] [] m')/\∀(bh:Option Addr)(au bc:Nat)(m':Mem),True->J [slice bh au bc] [] [] m'->∃(I:IT),(∃(n:Nat),I [int i64 0] [] [] m' n)/\∀(a8:Int)(m':Mem)(be:Nat),True->
 I [int i64 a8] [] [] m' be->br (decide (a8 < (↑au:Int))) (∃(a7:Nat),∃(o:Nat),bh=some (Addr.mk a7 o none)/\Zad a8 au/\∃(v:Value),∃(aj:Value),∃(ak:Value),∃(al:Value),Mem.reads m' a7 (o +
 Int.toNat a8*4) [v,aj,ak,al]/\∀(ar:Nat),chk (Value.oneCell' v&&(Value.oneCell' aj&&(Value.oneCell' ak&&(Value.oneCell' al&&true)))) (∃(R_4:RT),True/\CX Try.prog 31 (Array.mk [agg (Array.mk [int u8
 n,int u64 ab,int u64 ac,int u64 ad,int u64 ae,int i64 af,int i64 ag,slice a ah c]),agg (Array.mk [v,aj,ak,al])]) m' [] R_4/\Zau (Shape.tup [shT,Shape.int i64]) R_4/\∀(av aw ax ay az a1 a2:Int) (a3:
 Option Addr) (a4 a5:Nat) (bn:Int) (ap:Mem),Mem.le m' ap->R_4 (tuple (Array.mk [agg (Array.mk [int u8 av,int u64 aw,int u64 ax,int u64 ay,int u64 az,int i64 a1,int i64 a2,slice a3 a4 a5]),int i64 bn])) ap
 []->∀(bf:Nat),∃(R_5:RT),True/\CX Try.prog 30 (Array.mk [agg (Array.mk [int u8 n,int u64 ab,int u64 ac,int u64 ad,int u64 ae,int i64 af,int i64 ag,slice a ah c]),agg (Array.mk [v,aj,ak,al])]) ap []
 R_5/\Zau (Shape.tup [Shape.int i64,Shape.int i64]) R_5/\∀(bk bo:Int)(m':Mem),Mem.le ap m'->R_5 (tuple (Array.mk [int i64 bk,int i64 bo])) m' []->∀(bg:Nat),∃(J:JT),br bb (∃(R:RT),True/\CX
 Try.prog 42 (Array.mk [agg (Array.mk cs),agg (Array.mk [v,aj,ak,al])]) m' [] R/\Zau (Shape.tup [Shape.cells,Shape.int i64]) R/\∀(aq:List Value)(a9:Int)(aa:Mem),Mem.le m' aa->R (tuple (Array.mk [agg
 (Array.mk aq),int i64 a9])) aa []->chk (Nat.beq (List.length aq) 260&&ZbA aq) (Zaz (Zf5 aD aE aF aG aJ aH aI aB aA aC aN aK aL aM b am n ab ac ad ae af ag a ah c cs an
 ao ai v aj ak al ar av aw ax ay az a1 a2 a3 a4 a5 bf bg)/\J [int i64 a9] [aq] [] aa)) (Zaz (Zf5 aD aE aF aG aJ aH aI aB aA aC aN aK aL aM b am n ab ac ad ae af ag a ah c cs
 an ao ai v aj ak al ar av aw ax ay az a1 a2 a3 a4 a5 bf bg)/\J [int i64 2] [Zf6] [] m')/\∀(a9:Int)(aq:List Value)(m':Mem),True->J [int i64 a9] [aq] [] m'->∃(J:JT),(∃(f:Fx),br (!bn == a9)
 (∀(M:Mem),Mem.le m' M->Mem.le m' M->Mem.le m' M->Mem.le m' M->∃(m'':Mem),Mem.le m m''/\Mem.le m'' M/\R (bool false) m'' []) (br (!bo == a9) (∀(M:Mem),Mem.le m' M->Mem.le m' M->Mem.le m' M->Mem.le m'
 M->∃(m'':Mem),Mem.le m m''/\Mem.le m'' M/\R (bool false) m'' []) (∃(R_6:RT),R_6=f 11 [agg (Array.mk [int u8 av,int u64 aw,int u64 ax,int u64 ay,int u64 az,int i64 a1,int i64 a2,slice a3 a4 a5]),agg
 (Array.mk aq)] m'/\CX Try.prog 43 (Array.mk [agg (Array.mk [int u8 av,int u64 aw,int u64 ax,int u64 ay,int u64 az,int i64 a1,int i64 a2,slice a3 a4 a5]),agg (Array.mk aq)]) m' [] R_6/\Zau Shape.bool R_6/\∀
 (a6:Bool) (aa:Mem),Mem.le m' aa->R_6 (bool a6) aa []->br (!a6) (∀(M:Mem),Mem.le m' M->Mem.le aa M->Mem.le aa M->Mem.le aa M->∃(m'':Mem),Mem.le m m''/\Mem.le m'' M/\R (bool false) m'' []) (br (!a9 ==
 (0:Int)) (br (!bk == (0:Int)) (∀(M:Mem),Mem.le m' M->Mem.le aa M->Mem.le aa M->Mem.le aa M->∃(m'':Mem),Mem.le m m''/\Mem.le m'' M/\R (bool false) m'' []) (br (a9 == (0:Int)) (∃(R_7:RT),R_7=f 28
 [agg (Array.mk cs)] aa/\CX Try.prog 44 (Array.mk [agg (Array.mk cs)]) aa [] R_7/\Zau (Shape.int i64) R_7/\∀(bi:Int)(a0:Mem),Mem.le aa a0->R_7 (int i64 bi) a0 []->∃(R_8:RT),R_8=f 30 [agg (Array.mk aq)]
 a0/\CX Try.prog 44 (Array.mk [agg (Array.mk aq)]) a0 [] R_8/\Zau (Shape.int i64) R_8/\∀(bj:Int)(bd:Mem),Mem.le a0 bd->R_8 (int i64 bj) bd []->∀(M:Mem),Mem.le m' M->Mem.le aa M->Mem.le a0 M->Mem.le bd
 M->br (!bk == IntKind.wrap i64 (bi - bj)) (∃(m'':Mem),Mem.le m m''/\Mem.le m'' M/\R (bool false) m'' []) (Zaz (ZcL aD aE aF aG aJ aH aI aB aA aC aN aK aL aM b am n ab
 ac ad ae af ag a ah c cs an ao ai v aj ak al ar av aw ax ay az a1 a2 a3 a4 a5 bf bg aq)/\J [] [] [] M)) (∀(M:Mem),Mem.le m' M->Mem.le aa M->Mem.le aa M->Mem.le aa M->Zaz (ZcL aD aE aF aG
 aJ aH aI aB aA aC aN aK aL aM b am n ab ac ad ae af ag a ah c cs an ao ai v aj ak al ar av aw ax ay az a1 a2 a3 a4 a5 bf bg aq)/\J [] [] [] M))) (br (a9 == (0:Int)) (∃(R_7:RT),R_7=f 28
 [agg (Array.mk cs)] aa/\CX Try.prog 44 (Array.mk [agg (Array.mk cs)]) aa [] R_7/\Zau (Shape.int i64) R_7/\∀(bi:Int)(a0:Mem),Mem.le aa a0->R_7 (int i64 bi) a0 []->∃(R_8:RT),R_8=f 30 [agg (Array.mk aq)]
 a0/\CX Try.prog 44 (Array.mk [agg (Array.mk aq)]) a0 [] R_8/\Zau (Shape.int i64) R_8/\∀(bj:Int)(bd:Mem),Mem.le a0 bd->R_8 (int i64 bj) bd []->∀(M:Mem),Mem.le m' M->Mem.le aa M->Mem.le a0 M->Mem.le bd
 M->br (!bk == IntKind.wrap i64 (bi - bj)) (∃(m'':Mem),Mem.le m m''/\Mem.le m'' M/\R (bool false) m'' []) (Zaz (ZcL aD aE aF aG aJ aH aI aB aA aC aN aK aL aM b am n ab
 ac ad ae af ag a ah c cs an ao ai v aj ak al ar av aw ax ay az a1 a2 a3 a4 a5 bf bg aq)/\J [] [] [] M)) (∀(M:Mem),Mem.le m' M->Mem.le aa M->Mem.le aa M->Mem.le aa M->Zaz (ZcL aD aE aF aG
 aJ aH aI aB aA aC aN aK aL aM b am n ab ac ad ae af ag a ah c cs an ao ai v aj ak al ar av aw ax ay az a1 a2 a3 a4 a5 bf bg aq)/\J [] [] [] M))))))/\∀(m':Mem),True->J [] [] [] m'->∃(Y:
 Nat->Prop),∃(R:Value->Mem->List (List Value)->List Value->Prop),CXY Try.prog 45 (Array.mk [agg (Array.mk [int u8 av,int u64 aw,int u64 ax,int u64 ay,int u64 az,int i64 a1,int i64 a2,slice a3 a4 a5])])
 m' Y [] [] R/\(∀(t:Tok),t∈[]->∀(b:Nat),Tok.blk t=some b->Y b)/\(∀(a6:Nat),Y a6->(∃(t:Tok),t∈[]/\Tok.blk t=some a6)\/Mem.free m a6/\(∃(o:Nat),∃(v:Value),m' a6 o=some v)/\ai≠a6
 /\ am≠a6/\b≠a6/\True)/\(∀(v:Value)(m':Mem) (css:List (List Value)) (tvs:List Value),R v m' css tvs->Shape.fits (Shape.tup []) v=true)/\∀(aa:Mem),Mem.le (Mem.off m' Y) aa->(∀(b o:Nat) (u:
 Value),aa b o=some u->m' b o=some u\/Y b\/Mem.free m' b)->R (tuple (Array.mk [])) aa [] []->Zaz (Zc2 aD aE aF aG aJ aH aI aB aA aC aN aK aL aM b am n ab ac ad ae af
 ag a ah c cs an ao ai)/\∃(n':Nat),n' < be/\I [int i64 (IntKind.wrap i64 (a8+(1:Int)))] [] [] aa n')) (∃(R_4:RT),True/\CX Try.prog 43 (Array.mk [agg (Array.mk [int u8 n,int u64 ab,int u64 ac,int u64 ad,
 int u64 ae,int i64 af,int i64 ag,slice a ah c]),agg (Array.mk cs)]) m' [] R_4/\Zau Shape.bool R_4/\∀(b:Bool)(ap:Mem),Mem.le m' ap->R_4 (bool b) ap []->∃(m'':Mem),Mem.le m m''/\Mem.le m'' ap/\R
 (bool b) m'' []))
theorem Zkl(aD aE aF aG aJ aH aI:Int)(aB:Option Addr)(aA aC:Nat)(aN aK aL aM p2:Int)(m:Mem)(R:RT)(h:Zf7 aD aE aF aG aJ aH aI aB aA aC aN aK aL aM p2 m R):CX Try.prog 11 #[.agg #[.int .u8 aD,.int .u64 aE,.int .u64 aF,.int .u64 aG,.int .u64 aJ,.int .i64 aH,.int .i64 aI,.slice aB aA aC],.agg #[.int .i64 aN,.int .i64 aK,.int .i64 aL,.int .i64 aM],.int .u8 p2] m [] R:=
 Zaf (E:=ZmS) ZaH mix Try.func11 [.v (.agg #[.int .u8 aD,.int .u64 aE,.int .u64 aF,.int .u64 aG,.int .u64 aJ,.int .i64 aH,.int .i64 aI,.slice aB aA aC]),.v (.agg #[.int .i64 aN,.int .i64 aK,.int .i64 aL,.int .i64 aM]),.v (.int .u8 p2)] [] (by kernel_rfl) (Eq.mp (by kernel_rfl) h)
noncomputable def Zfh:Env:={ EB with
 joins:=(λi=>bif Nat.beq i 1 then some [(6,.bool)]else none)
 frzNew:=[3,4] }
def ZcY(aD aE aF aG aJ aH aI:Int)(aB:Option Addr)(aA aC:Nat)(aN aK aL aM p2:Int)(m:Mem)(R:RT):Prop:=
 ∀(b:Nat)(m':Mem),Mem.le m m'->Mem.reads m' b 0 [int u8 aD,int u64 aE,int u64 aF,int u64 aG,int u64 aJ,int i64 aH,int i64 aI,slice aB aA aC]->∀(aa:Nat)(ac:Mem),Mem.le m' ac->
 Mem.reads ac aa 0 [int i64 aN,int i64 aK,int i64 aL,int i64 aM]->∃(ae:Bool),(∃(R:RT),True/\CX Try.prog 10 (Array.mk [agg (Array.mk [int u8 aD,int u64 aE,int u64 aF,int u64 aG,int u64
 aJ,int i64 aH,int i64 aI,slice aB aA aC])]) ac [] R/\Zau Shape.bool R/\∀(af:Bool)(m':Mem),Mem.le ac m'->R (bool af) m' []->br (!af) (∃(R:RT),True/\CX Try.prog 12 (Array.mk []) m' [] R
 /\ Zau Shape.bool R/\∀(ad:Bool)(ab:Mem),Mem.le m' ab->R (bool ad) ab []->[some (Box.mk aa [int i64 aN,int i64 aK,int i64 aL,int i64 aM] 29 4 true true),some (Box.mk b [int u8 aD,int u64 aE,
 int u64 aF,int u64 aG,int u64 aJ,int i64 aH,int i64 aI,slice aB aA aC] 27 8 true true)]=[some (Box.mk aa [int i64 aN,int i64 aK,int i64 aL,int i64 aM] 29 4 true true),some (Box.mk b
 [int u8 aD,int u64 aE,int u64 aF,int u64 aG,int u64 aJ,int i64 aH,int i64 aI,slice aB aA aC] 27 8 true true)]/\[bool ad]=[bool ae]) (∃(R:RT),True/\CX Try.prog 11 (Array.mk [agg
 (Array.mk [int u8 aD,int u64 aE,int u64 aF,int u64 aG,int u64 aJ,int i64 aH,int i64 aI,slice aB aA aC]),agg (Array.mk [int i64 aN,int i64 aK,int i64 aL,int i64 aM]),int u8 p2])
 m' [] R/\Zau Shape.bool R/\∀(ad:Bool)(ab:Mem),Mem.le m' ab->R (bool ad) ab []->br ad (∃(R:RT),True/\CX Try.prog 12 (Array.mk []) ab [] R/\Zau Shape.bool R/\∀(ag:Bool)(m':Mem),Mem.le ab m'->R
 (bool ag) m' []->[some (Box.mk aa [int i64 aN,int i64 aK,int i64 aL,int i64 aM] 29 4 true true),some (Box.mk b [int u8 aD,int u64 aE,int u64 aF,int u64 aG,int u64 aJ,int i64 aH,int i64
 aI,slice aB aA aC] 27 8 true true)]=[some (Box.mk aa [int i64 aN,int i64 aK,int i64 aL,int i64 aM] 29 4 true true),some (Box.mk b [int u8 aD,int u64 aE,int u64 aF,int u64 aG,int u64
 aJ,int i64 aH,int i64 aI,slice aB aA aC] 27 8 true true)]/\[bool ag]=[bool ae]) ([some (Box.mk aa [int i64 aN,int i64 aK,int i64 aL,int i64 aM] 29 4 true true),some (Box.mk b [int u8
 aD,int u64 aE,int u64 aF,int u64 aG,int u64 aJ,int i64 aH,int i64 aI,slice aB aA aC] 27 8 true true)]=[some (Box.mk aa [int i64 aN,int i64 aK,int i64 aL,int i64 aM] 29 4 true
 true),some (Box.mk b [int u8 aD,int u64 aE,int u64 aF,int u64 aG,int u64 aJ,int i64 aH,int i64 aI,slice aB aA aC] 27 8 true true)]/\[bool false]=[bool ae])))/\∃(m'':Mem),Mem.le m
 m''/\Mem.le m'' ac/\R (bool ae) m'' []
theorem ZeD(aD aE aF aG aJ aH aI:Int)(aB:Option Addr)(aA aC:Nat)(aN aK aL aM p2:Int)(m:Mem)(R:RT)(h:ZcY aD aE aF aG aJ aH aI aB aA aC aN aK aL aM p2 m R):CX Try.prog 3 #[.agg #[.int .u8 aD,.int .u64 aE,.int .u64 aF,.int .u64 aG,.int .u64 aJ,.int .i64 aH,.int .i64 aI,.slice aB aA aC],.agg #[.int .i64 aN,.int .i64 aK,.int .i64 aL,.int .i64 aM],.int .u8 p2] m [] R:=
 Zaf (E:=Zfh) ZaH mix Try.func3 [.v (.agg #[.int .u8 aD,.int .u64 aE,.int .u64 aF,.int .u64 aG,.int .u64 aJ,.int .i64 aH,.int .i64 aI,.slice aB aA aC]),.v (.agg #[.int .i64 aN,.int .i64 aK,.int .i64 aL,.int .i64 aM]),.v (.int .u8 p2)] [] (by kernel_rfl) (Eq.mp (by kernel_rfl) h)
end Go.Proofs.Ytfgfahnakepegaa
set_option linter.unusedVariables false
set_option linter.unusedSimpArgs false
set_option linter.unusedSectionVars false
namespace Go.Proofs.Ytfgfahnakepegaa
open Go Go.Eng Go.Rx Go.Proofs Go.RowKit
set_option maxRecDepth 100000
abbrev I4:=Int×Int×Int×Int
def ZdI(q:I4):List Value:=[.int .i64 q.1,.int .i64 q.2.1,.int .i64 q.2.2.1,.int .i64 q.2.2.2]
def i4s(Q:List I4):List Value:=(Q.map ZdI).flatten
theorem ZyX(Q:List I4):(i4s Q).length=Q.length*4:=by
 induction Q with
 | nil=>rfl
 | cons c L ih=>simp[i4s,ZdI]at ih ⊢;omega
theorem ZyY{m:Mem}{a:Option Addr}{L:List I4}(h:rowRd m a (i4s L)){i:Nat}{k:I4}(hk:L[i]?=some k):∃b o,a=some ⟨b,o,none⟩/\m.reads b (o+i*4) (ZdI k):=by
 have key:∀{L:List I4} {i:Nat},L[i]?=some k->∀j v,(ZdI k)[j]?=some v->(i4s L)[i*4+j]?=some v:=by
  intro L
  induction L with
  | nil=>intro i h;simp at h
  | cons x L ih=>
   intro i h j v hv
   have hj:j < 4:=(List.getElem?_eq_some_iff.1 hv).1
   have e:i4s (x::L)=ZdI x++i4s L:=rfl
   cases i with
   | zero=>
    simp at h;subst h
    rw[e,Nat.zero_mul,Nat.zero_add,List.getElem?_append_left hj];exact hv
   | succ i=>
    rw[e,List.getElem?_append_right (by show 4<=_;omega),show(i+1)*4+j - (ZdI x).length=i*4+j from by show(i+1)*4+j - 4=_;omega]
    exact ih (by simpa using h) j v hv
 rcases h with h|⟨b,o,e,h⟩
 ·have h1:=ZyX L
  have h2:=(List.getElem?_eq_some_iff.1 hk).1
  rw[h]at h1;simp at h1;omega
 ·exact⟨b,o,e,λj v hv=>by have:=h _ v (key hk j v hv);rwa [<-Nat.add_assoc]at this⟩
structure Out (own:T)(q:I4)(e g:Int)(E:T):Prop where
 er:E.er=E
 sz:E.nodes.length<=1000
 zero:e≠0->g=0
 gain:e=0->g=own.size - E.size
def Zy4(own:T)(q:I4)(e g:Int)(E:T):Prop:=(T.rgt own=false/\e=2/\g=0/\E=T0)\/(T.rgt own=true/\((∃k∈own.cuts,IsC k q.1 q.2.1 q.2.2.1 q.2.2.2/\e=0/\g=Zfi own k/\E=(own.cutAt k 0).1)\/((∀k∈own.cuts,¬IsC k q.1 q.2.1 q.2.2.1 q.2.2.2)/\e=150/\g=0/\E=T0)))
theorem ZyZ{k k':C4}{a b c d:Int}(h:IsC k a b c d)(h':IsC k' a b c d):k=k':=by
 obtain⟨h1,h2,h3,h4⟩:=h
 obtain⟨g1,g2,g3,g4⟩:=h'
 cases k;cases k'
 simp only[C4.mk.injEq]at *
 omega
theorem ZtM{own:T}{q:I4}{e e' g g':Int}{E E':T}(h:Zy4 own q e g E)(h':Zy4 own q e' g' E'):e=e'/\g=g'/\E=E':=by
 rcases h with⟨h1,rfl,rfl,rfl⟩|⟨h1,⟨k,hk,hc,rfl,rfl,rfl⟩|⟨hn,rfl,rfl,rfl⟩⟩
 ·rcases h' with⟨_,rfl,rfl,rfl⟩|⟨h2,_⟩
  ·exact⟨rfl,rfl,rfl⟩
  ·rw[h1]at h2;cases h2
 ·rcases h' with⟨h2,_⟩|⟨_,⟨k',hk',hc',rfl,rfl,rfl⟩|⟨hn,_⟩⟩
  ·rw[h1]at h2;cases h2
  ·rw[ZyZ hc hc'];exact⟨rfl,rfl,rfl⟩
  ·exact absurd hc (hn k hk)
 ·rcases h' with⟨h2,_⟩|⟨_,⟨k',hk',hc',_⟩|⟨_,rfl,rfl,rfl⟩⟩
  ·rw[h1]at h2;cases h2
  ·exact absurd hc' (hn k' hk')
  ·exact⟨rfl,rfl,rfl⟩
theorem Zxa{own:T}{q:I4}{e g:Int}{E:T}(h:Zy4 own q e g E):Out own q e g E:=by
 rcases h with⟨h1,rfl,rfl,rfl⟩|⟨h1,⟨k,hk,hc,rfl,rfl,rfl⟩|⟨hn,rfl,rfl,rfl⟩⟩
 ·exact⟨rfl,by decide,λ_=>rfl,λh=>by cases h⟩
 ·obtain⟨hg,hz⟩:=Zex.1 h1
  have ho:=Zjx (c:=k) own 0 hg (Zd4 hk)
  have h3:=ho.sz
  refine⟨ho.er,by omega,λh=>absurd rfl h,λ_=>?_⟩
  rw[ZbZ (by omega),ZbZ (by omega)];rfl
 ·exact⟨rfl,by decide,λ_=>rfl,λh=>by cases h⟩
theorem Zvk{own:T}{q:I4}{m m':Mem}{v:Value}{css:List (List Value)}(h:Zq8 own m q.1 q.2.1 q.2.2.1 q.2.2.2 v m' css):∃(f:T)(e g:Int)(E:T),v=.tuple #[f.v,.int .i64 e]/\Rep m' f/\NewT m f/\f.er=E/\Zy4 own q e g E:=by
 unfold Zq8 at h
 split at h
 ·rename_i hr
  obtain⟨f,hv,iV,rfl,_⟩:=h
  exact⟨T0,2,0,T0,hv,iV,Zhc rfl,rfl,.inl ⟨hr,rfl,rfl,rfl⟩⟩
 ·rename_i hr
  have hr:T.rgt own=true:=by simpa using hr
  rcases h with⟨k,hk,h1,h2,h3,h4,f,hv,iV,⟨he,hn⟩,_⟩|⟨dR,f,hv,iV,rfl,_⟩
  ·exact⟨f,0,Zfi own k,_,hv,iV,hn,he,.inr ⟨hr,.inl ⟨k,hk,⟨h1,h2,h3,h4⟩,rfl,rfl,rfl⟩⟩⟩
  ·exact⟨T0,150,0,T0,hv,iV,Zhc rfl,rfl,.inr ⟨hr,.inr ⟨dR,rfl,rfl,rfl⟩⟩⟩
theorem Zxb{own:T}{q:I4}{g e:Int}(h:ZAw own q.1 q.2.1 q.2.2.1 q.2.2.2 g e):∃E,Zy4 own q e g E:=by
 rcases h with⟨hr,rfl,rfl⟩|⟨hr,k,hk,h1,h2,h3,h4,rfl,rfl⟩|⟨hr,dR,rfl,rfl⟩
 ·exact⟨T0,.inl ⟨hr,rfl,rfl,rfl⟩⟩
 ·exact⟨_,.inr ⟨hr,.inl ⟨k,hk,⟨h1,h2,h3,h4⟩,rfl,rfl,rfl⟩⟩⟩
 ·exact⟨T0,.inr ⟨hr,.inr ⟨dR,rfl,rfl,rfl⟩⟩⟩
theorem Zy0{own:T}{q:I4}{m':Mem}{v:Value}{css:List (List Value)}(hr:T.rgt own=true)(h:ZBq own q.1 q.2.1 q.2.2.1 q.2.2.2 v m' css):∃(e g:Int)(E:T)(cs:List Value),v=.tuple #[.agg cs.toArray,.int .i64 e]/\RefT m' E cs/\Zy4 own q e g E:=by
 rcases h with⟨k,hk,hc,cs,hv,hR⟩|⟨dR,cs,hv,hR⟩
 ·exact⟨0,Zfi own k,_,cs,hv,hR,.inr ⟨hr,.inl ⟨k,hk,hc,rfl,rfl,rfl⟩⟩⟩
 ·exact⟨150,0,T0,cs,hv,hR,.inr ⟨hr,.inr ⟨dR,rfl,rfl,rfl⟩⟩⟩
theorem Zpb{m:Mem}{b b' o:Nat}{v:Value}(h:m b o=some v)(hf:m.free b'):b≠b':=λe=>by
 subst e
 rw[hf o]at h;cases h
set_option maxHeartbeats 4000000 in
theorem Zsy(t:T)(q:I4)(p2:Int)(hp:0<=p2/\p2 < 256)(m:Mem)(hr:Rep m t)(hz:t.nodes.length<=250):CX Try.prog 11 #[t.v,.agg #[.int .i64 q.1,.int .i64 q.2.1,.int .i64 q.2.2.1,.int .i64 q.2.2.2],.int .u8 p2] m [] (Ret (.bool true)):=by
 apply Zkl
 unfold Zf7
 intro b m1 aO wl xp _ b1 m1' nC sK Ay _
 have pZ:=mLt aO nC
 refine⟨λi _ _=>bif Nat.beq i 1 then(Zdx λt'=>t'.er=t.er/\t'.caps)else ZtQ t,_,rfl,ZqT t m1' (hr.mono pZ) (by omega),ZaB,ZbH λown m2 aP kC dY=>?_⟩
 obtain⟨jM,jZ⟩:=dY
 refine⟨_,rfl,Zmj t m2 (hr.mono (mLt pZ aP)) (by omega),Zbf,Zhn λcs m3 aX cI b2 b3=>cI.chk1 λM dS eC fQ b4 rP=>?_⟩
 have nV:=mLt pZ dS
 have AX:own.nodes.length<=250:=by have:=ZlJ jM;rw[ZfE]at this;omega
 have p6:=kC.mono eC
 have lQ:RefT M own cs:=(cI.mono fQ).of_er jM.symm
 clear kC cI aX fQ aP eC
 have bN:=Zpa (t:=own) (by omega)
 have p7:=Mem.le_add rP (ZdI q)
 have sD:∀m':Mem,(M.add b4 (ZdI q)).le m'->m' b4 0=some (.int .i64 q.1):=λm' h=>h _ _ _ (by rw[Mem.add_same];rfl)
 have lR:∀m':Mem,(M.add b4 (ZdI q)).le m'->rowRd m' (some ⟨b4,0,none⟩) (i4s [q]):=λm' h=>(show rowRd (M.add b4 (ZdI q)) (some ⟨b4,0,none⟩) (i4s [q]) from by
  have e:i4s [q]=ZdI q:=by simp[i4s]
  rw[e];exact ZmG).mono h
 refine Zak (Zvf own cs _ (lQ.mono p7)) λm5 cU=>⟨λxs _ _ m'=>∃(Q:List I4)(a1:Option Addr)(c1:Nat),xs=[.slice a1 Q.length c1]/\Q.length<=2/\m5.le m'/\rowRd m' a1 (i4s Q),Zab (λkE=>Zag (ZnM own cs m5 (lQ.mono (mLt p7 cU)) (by omega)) ZnL ?_) (λkE=>⟨by trivial,[q],_,_,rfl,by simp,Mem.le_refl _,lR m5 cU⟩),?_⟩
 ·rintro a11 n8 c8 m6 dU ⟨ax,cx,hv,sL⟩
  simp only[Value.slice.injEq]at hv
  obtain⟨rfl,rfl,rfl⟩:=hv
  refine ZbF (λfV=>?_) (λfV=>⟨by trivial,[q],_,_,rfl,by simp,dU,lR m6 (mLt cU dU)⟩)
  have sM:0 < own.cuts.length:=by omega
  have fB:IntKind.i64.wrap p2=p2:=ZaA (by omega) (by omega)
  have qz:Int.tmod p2 (own.cuts.length:Nat)=((p2.toNat % own.cuts.length:Nat):Int):=by
   obtain⟨w,rfl⟩:∃w:Nat,p2=w:=⟨p2.toNat,by omega⟩
   rw[Int.toNat_natCast];rfl
  have aS:=Nat.mod_lt p2.toNat sM
  obtain⟨k,hk⟩:=ZaY aS
  obtain⟨b6,o6,rfl,wm⟩:=ZtH sL hk
  rw[fB,qz]
  simp only[Int.toNat_natCast]
  refine⟨by omega,b6,o6,rfl,⟨by omega,by omega⟩,_,_,_,_,wm,λb7 fR=>⟨.inr (by omega),ZdI q,ZcJ k,rfl,rfl,?_,ZmG,ZwR k,by omega,by omega,λa12 c12 m7 dA eW _=>⟨by trivial,[q,((k.a:Nat),(k.f:Nat),(k.t:Nat),(k.n:Nat))],a12,c12,rfl,by simp,mLt dU (mLt (Mem.le_add fR _) dA),?_⟩⟩⟩
  ·have:=lR (m6.add b7 (ZcJ k)) (mLt cU (mLt dU (Mem.le_add fR _)))
   have e:i4s [q]=ZdI q:=by simp[i4s]
   rwa [e]at this
  ·exact eW
 rintro a11 n8 c1 Mq _ ⟨Q,a12,c12,bB,xj,xx,sN⟩
 simp only[List.cons.injEq,Value.slice.injEq,and_true]at bB
 obtain⟨rfl,rfl,rfl⟩:=bB
 have wn:M.le Mq:=mLt p7 (mLt cU xx)
 refine⟨λxs _ _ m' p=>∃i:Nat,i<=Q.length/\xs=[.int .i64 i]/\Mq.le m'/\p=Q.length - i,⟨_,0,Nat.zero_le _,rfl,Mem.le_refl _,rfl⟩,?_⟩
 rintro z m6 p _ ⟨i,hi,bB,dU,oO⟩
 obtain rfl:z=i:=by simpa using bB
 subst oO
 have nY:=mLt wn dU
 have dD:=ZqU own own cs m6 (p6.mono nY) (lQ.mono nY) (by omega)
 rw[ZmR]at dD
 refine ZbF (λaS=>?_) (λbR=>Zak dD λm7 dA=>Zaj (mLt nV (mLt nY dA)) rfl)
 have aQ:i < Q.length:=by omega
 obtain⟨k,hk⟩:=ZaY aQ
 obtain⟨bq,oq,rfl,wo⟩:=ZyY (sN.mono dU) hk
 have hw:IntKind.i64.wrap ((i:Int)+1)=((i+1:Nat):Int):=by rw[ZaA (by omega) (by omega)];rfl
 rw[hw]
 simp only[Int.toNat_natCast]
 refine⟨bq,oq,rfl,⟨by omega,by omega⟩,_,_,_,_,wo,λb7=>Zaa rfl ⟨_,trivial,Ztx own k.1 k.2.1 k.2.2.1 k.2.2.2 m6 (p6.mono nY) jZ,Zsc,?_⟩⟩
 rintro f1 f2 f3 f4 f5 f6 f7 fa fn fc e1 m7 dA hv b8
 obtain⟨f,e1',g1,E,hv,xy,jJ,xz,jH⟩:=Zvk (q:=k) hv
 simp only[T.v,Value.tuple.injEq,Value.agg.injEq,Array.mk.injEq,List.cons.injEq,Value.int.injEq,Value.slice.injEq,true_and,and_true]at hv
 obtain⟨⟨rfl,rfl,rfl,rfl,rfl,rfl,rfl,rfl,rfl,rfl⟩,rfl⟩:=hv
 have sj:=mLt nY dA
 refine⟨_,trivial,ZvS own k.1 k.2.1 k.2.2.1 k.2.2.2 m7 (p6.mono sj) jZ,Zu3,?_⟩
 rintro g2 e2 m8 iO ⟨g2',e2',hv,Az⟩ b9
 simp only[Value.tuple.injEq,Array.mk.injEq,List.cons.injEq,Value.int.injEq,true_and,and_true]at hv
 obtain⟨rfl,rfl⟩:=hv
 obtain⟨E2,sO⟩:=Zxb (q:=k) Az
 obtain⟨rfl,rfl,rfl⟩:=ZtM jH sO
 have ho:=Zxa jH
 have tg:=mLt sj iO
 refine⟨λxs css _ m'=>∃cs1:List Value,xs=[.int .i64 e1]/\css=[cs1]/\m8.le m'/\RefT m' E cs1,Zab (λkE=>?_) (λkE=>?_),?_⟩
 ·have sr:=ZyS own cs k.1 k.2.1 k.2.2.1 k.2.2.2 m8 (lQ.mono tg) (Zex.1 kE).1 (Zex.1 kE).2
  refine Zag sr Zvh ?_
  rintro cs1 e3 m9 pX hv
  obtain⟨e3',g3,E3,cs1',hv,xA,sP⟩:=Zy0 (q:=k) kE hv
  simp only[Value.tuple.injEq,Value.agg.injEq,Array.mk.injEq,List.cons.injEq,Value.int.injEq,true_and,and_true]at hv
  obtain⟨rfl,rfl⟩:=hv
  obtain⟨rfl,rfl,rfl⟩:=ZtM jH sP
  exact xA.chk1 ⟨by trivial,cs1,rfl,rfl,pX,xA⟩
 ·have e0:Zf6=rcs 0 (0,0,0,0) 0 0 none 0 0:=ZiY 0 0 0 none 0 0
  rcases jH with⟨_,rfl,rfl,rfl⟩|⟨h,_⟩
  ·rw[e0]
   exact⟨by trivial,_,rfl,rfl,Mem.le_refl _,Zvd _⟩
  ·rw[kE]at h;cases h
 rintro e4 cs1 m9 _ ⟨cs1',bB,cK,pX,xB⟩
 obtain rfl:e4=e1:=by simpa using bB
 obtain rfl:cs1=cs1':=by simpa using cK
 have wX:=mLt tg pX
 have xC:=mLt iO pX
 have iY:f.nodes.length<=1000:=by have:=ZlJ xz;have:=ho.sz;omega
 have gU:f.same E=true:=Zsw (by rw[ho.er,xz])
 have sQ:=ZqU f E cs1 m9 (xy.mono xC) xB iY
 rw[gU]at sQ
 refine⟨λ_ _ _ m'=>m9.le m',⟨λj _ _=>bif Nat.beq j 11 then Ret (.bool true)else bif Nat.beq j 28 then Ret (.int .i64 own.size)else Ret (.int .i64 E.size),ZnB (by simp) (ZnB (by simp) ⟨_,rfl,sQ,(λv _ _ e=>by rw[e];rfl),λbb m10 pY dM=>?_⟩)⟩,?_⟩
 ·obtain rfl:bb=true:=by have dM:Value.bool bb=.bool true:=dM;simpa using dM
  refine ZnB rfl (Zab (λh0=>?_) (λh0=>?_))
  ·have h0':e4≠0:=by simpa using h0
   have hg:=ho.zero h0'
   subst hg
   exact ZnB rfl (ZnB (by simpa using h0') λM hM _ _ _=>⟨by trivial,hM⟩)
  ·have h0':e4=0:=by simpa using h0
   have hg:=ho.gain h0'
   refine ZvM (by simpa using h0') ⟨_,rfl,Zo9 own cs m10 (lQ.mono (mLt wX pY)),(λv _ _ e=>by rw[e];rfl),λn23 m11 p8 p9=>⟨_,rfl,Zo9 E cs1 m11 (xB.mono (mLt pY p8)),(λv _ _ e=>by rw[e];rfl),λn24 m12 AA qp M dS eC _ _=>?_⟩⟩
   obtain rfl:n23=own.size:=by have p9:Value.int .i64 n23=.int .i64 own.size:=p9;simpa using p9
   obtain rfl:n24=E.size:=by have qp:Value.int .i64 n24=.int .i64 E.size:=qp;simpa using qp
   have h1:=ZbZ (t:=own) (by omega)
   have h2:=ZbZ (t:=E) (by have:=ho.sz;omega)
   have h3:=ho.sz
   have AB:IntKind.i64.wrap (own.size - E.size)=own.size - E.size:=ZaA (by omega) (by omega)
   rw[AB,hg]
   exact ZnB (by simp) ⟨by trivial,dS⟩
 ·rintro M' _ wp
  have h7':=mLt xC wp
  have hK:KRep M' f:=ZyU (xy.mono h7') jJ
  have h6':=mLt dA h7'
  refine⟨YT f,_,ZqW f f (by rw[Zbv];exact List.mem_cons_self ..) (by have:=Zp1 f;omega) (λy hy=>by have:=Zsx iY y hy;omega) f.k M' hK,λx hx=>(by cases hx),λb10 xD=>?_,λv _ _ _ e=>by rw[e.1];rfl,?_⟩
  ·have jW:=ZyW jJ xD
   exact .inr ⟨ZuC (mLt nV nY) jW,hK.known xD,Zpb (sD m6 (mLt cU (mLt xx dU))) jW,Zpb ((mLt dS nY) _ _ _ (sK 0 _ rfl)) jW,Zpb ((mLt nC (mLt dS nY)) _ _ _ (wl 0 _ rfl)) jW,trivial⟩
  ·rintro m11 p8 _ ⟨_,_⟩
   exact⟨by trivial,Q.length - (i+1),by omega,i+1,aQ,rfl,mLt (Zz5 (mLt dU h6') λb hb=>ZuC dU (ZyW jJ hb)) p8,rfl⟩
theorem Zkm(t:T)(q:I4)(p2:Int)(hp:0<=p2/\p2 < 256)(m:Mem)(hr:RepW m t):CX Try.prog 3 #[t.v,.agg #[.int .i64 q.1,.int .i64 q.2.1,.int .i64 q.2.2.1,.int .i64 q.2.2.2],.int .u8 p2] m [] (Ret (.bool true)):=by
 apply ZeD
 unfold ZcY
 intro b m1 aO _ b1 m1' nC _
 have pZ:=mLt aO nC
 refine⟨true,Zak (Zss t m1' (hr.mono pZ)) λm2 aP=>Zab (λh=>Zak (ZnP m2) λm3 aX=>⟨by trivial,rfl⟩) (λh=>?_),Zaj pZ rfl⟩
 have hz:t.nodes.length<=60:=by simpa using h
 exact Zak (Zsy t q p2 hp m2 (Ztj t (by omega) (hr.mono (mLt pZ aP))) (by omega)) λm3 aX=>Zko rfl (Zak (ZnP m3) λm4 bK=>⟨by trivial,rfl⟩)
end Go.Proofs.Ytfgfahnakepegaa
set_option linter.unusedVariables false
set_option linter.unusedSimpArgs false
namespace Go.Proofs.Ytfgfahnakepegaa
open Go Go.Eng Go.Rx Go.Proofs Go.RowKit Go.ChangeShapes Go.WideShapes Go.ChangeAt
set_option maxRecDepth 100000
theorem ZqZ:Try.prog.underlying 29=some (.struct #[⟨ "Alt",3,0,false, "", "",0⟩,⟨ "From",3,1,false, "", "",8⟩,⟨ "To",3,2,false, "", "",16⟩,⟨ "Length",3,3,false, "", "",24⟩]):=by kernel_rfl
theorem Zxc{H:Type}{enc:TypeId×Value->H}{W:World}{cS:Bool}{v:Value}{d:DataW H}{ps:List MemPlace}{r:Reach}{b0:Nat}(gB:Value.okWide Try.prog W r b0 29 v)(h:DataW.Trod enc Try.prog W 0 (λ_=>true) cS 29 v d ps):
  ∃q:I4,v=.agg #[.int .i64 q.1,.int .i64 q.2.1,.int .i64 q.2.2.1,.int .i64 q.2.2.2]:=by
 obtain⟨n,h⟩:=h
 obtain⟨cs,rfl,bA⟩:=okWide_struct ZqZ gB
 obtain⟨L,rfl⟩:∃L:List Value,cs=L.toArray:=⟨cs.toList,by simp⟩
 obtain⟨xs,k,hk,_,aU,bB,hx⟩:=DataW.trod_struct ZqZ h
 have AC:Try.prog.cellsOf 29=4:=by kernel_rfl
 rw[AC]at aU
 replace aU:L.length=4:=aU
 obtain⟨c0,c1,c2,c3,rfl⟩:∃a b c d,L=[a,b,c,d]:=by
  match L,aU with
  | [a,b,c,d],_=>exact⟨a,b,c,d,rfl⟩
 obtain⟨z0,z1,z2,z3,rfl⟩:∃a b c d,xs=[a,b,c,d]:=by
  match xs,bB with
  | [a,b,c,d],_=>exact⟨a,b,c,d,rfl⟩
 have k2:Try.prog.cellsOf 3=1:=by kernel_rfl
 have g0:DataW.trod enc Try.prog W 0 (λ_=>true) cS k 3 (List.take (Try.prog.cellsOf 3) (List.drop 0 [c0,c1,c2,c3]))=some z0:=hx 0 _ rfl
 have g1:DataW.trod enc Try.prog W 0 (λ_=>true) cS k 3 (List.take (Try.prog.cellsOf 3) (List.drop 1 [c0,c1,c2,c3]))=some z1:=hx 1 _ rfl
 have g2:DataW.trod enc Try.prog W 0 (λ_=>true) cS k 3 (List.take (Try.prog.cellsOf 3) (List.drop 2 [c0,c1,c2,c3]))=some z2:=hx 2 _ rfl
 have g3:DataW.trod enc Try.prog W 0 (λ_=>true) cS k 3 (List.take (Try.prog.cellsOf 3) (List.drop 3 [c0,c1,c2,c3]))=some z3:=hx 3 _ rfl
 rw[k2]at g0 g1 g2 g3
 replace g0:DataW.trod enc Try.prog W 0 (λ_=>true) cS k 3 [c0]=some z0:=g0
 replace g1:DataW.trod enc Try.prog W 0 (λ_=>true) cS k 3 [c1]=some z1:=g1
 replace g2:DataW.trod enc Try.prog W 0 (λ_=>true) cS k 3 [c2]=some z2:=g2
 replace g3:DataW.trod enc Try.prog W 0 (λ_=>true) cS k 3 [c3]=some z3:=g3
 obtain⟨n0,q0,_,_⟩:=DataW.trod_int Try.underlying3 g0
 obtain⟨n1,q1,_,_⟩:=DataW.trod_int Try.underlying3 g1
 obtain⟨n2,q2,_,_⟩:=DataW.trod_int Try.underlying3 g2
 obtain⟨n3,q3,_,_⟩:=DataW.trod_int Try.underlying3 g3
 simp only[List.cons.injEq,and_true]at q0 q1 q2 q3
 subst q0 q1 q2 q3
 exact⟨(n0,n1,n2,n3),rfl⟩
theorem Zi7(H:Type)(enc:TypeId×Value->H)(W:World)(base:Nat)(args:Array Value)(ds gs:List (DataW H))(before:List MemPlace)
  (gB:∀(j:Nat) t v,Try.f3.params[j]?=some t->args[j]?=some v->Value.okWide Try.prog W .any base t v)
  (hW:DataW.Whole enc Try.prog Try.f3.params.toList Rows.factorMakesSpec.vars false W args.toList ds gs before):
  Calls Try.prog 3 args W λe W'=>∃v,e=.returned v/\Rows.factorMakesSpec.post enc Try.prog Try.f3 false true false false W args v W':=by
 have hW':=hW
 obtain⟨p,q,AD,hV,rfl,iY,dL⟩:=hW
 have hA:DataW.TrodAll enc Try.prog W 0 (λ_=>true) true Try.f3.params.toList args.toList ds p:=AD
 rw[Try.params3]at hA gB
 obtain⟨v0,vs0,d0,ds0,p0,q0,a0,rfl,rfl,h0,r0⟩:=trodAll_cons hA
 obtain⟨v1,vs1,d1,ds1,p1,q1,rfl,rfl,rfl,h1,r1⟩:=trodAll_cons r0
 obtain⟨v2,vs2,d2,ds2,p2,q2,rfl,rfl,rfl,h2,r2⟩:=trodAll_cons r1
 obtain⟨rfl,rfl,rfl⟩:=trodAll_nil r2
 obtain rfl:args=#[v0,v1,v2]:=by cases args;simp_all
 obtain⟨rfl,rfl⟩:=trodVars_none hV
 obtain⟨t,rfl,hr⟩:=Zu8 (gB 0 _ v0 rfl rfl) h0
 obtain⟨qq,rfl⟩:=Zxc (gB 1 _ v1 rfl rfl) h1
 obtain⟨w,rfl,rfl,rfl,hw⟩:=Go.ChangeShapes.open_int Try.underlying5 (gB 2 _ v2 rfl rfl) h2
 exact Zuq (tb:=4) ZyI (by rw[Try.params3];intro t ht;simp at ht;rcases ht with rfl|rfl|rfl <;> exact⟨by kernel_rfl,of_decide_eq_true (by kernel_rfl)⟩) hW' rfl rfl rfl rfl rfl Try.underlying4 (Zkm t qq w (ZAy hw) (Zxl W) hr)
theorem ZmT(os:Os)(started:os.Started)(H:Type)(enc:TypeId×Value->H):
  ReturnsInHanded {} Try.checked os 3 .any (Rows.factorMakesSpec.pre6 enc Try.prog Try.f3 Rows.factorMakesRow.domain false) (Rows.factorMakesSpec.post enc Try.prog Try.f3 false true false false):=by
 refine returnsInHanded_of_change (C:=Try.checked) ZzT started (by kernel_rfl) Try.func3
  (ChangeSpec.witness6 (enc:=enc) (C:=Try.checked) false ⟨#[],#[.agg #[.int .u8 0,.int .u64 0,.int .u64 0,.int .u64 0,.int .u64 0,.int .i64 0,.int .i64 0,.slice none 0 0],.agg #[.int .i64 0,.int .i64 0,.int .i64 0,.int .i64 0],.int .u8 0],[]⟩ 8 (by kernel_rfl) (by kernel_rfl) (by kernel_rfl) (by kernel_rfl)) ?_
 intro W base args ds gs before gB hW _ _
 exact Zi7 H enc W base args ds gs before gB hW
theorem fmakes_holds:Rows.FactorMakesSaid:=
 OpenClaim.holds_of_wide 3 Try.f3 rfl rfl rfl rfl rfl rfl rfl ⟨rfl,rfl,rfl,rfl,rfl⟩ rfl rfl rfl rfl rfl (by kernel_rfl) Try.func3 (by kernel_rfl)
  (of_decide_eq_true (by kernel_rfl)) (by unfold Func.isWrapper;first|(rw[if_pos (by decide +kernel)];kernel_rfl)|(rw[if_neg (by decide +kernel)];exact⟨rfl,rfl⟩))
  (λos started H enc _=>ZmT os started H enc)
#print axioms fmakes_holds
end Go.Proofs.Ytfgfahnakepegaa
