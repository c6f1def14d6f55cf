/- Part of the proof: conditions and contracts of functions of this program. No condition of its own. -/
import Derived.Test.YtfgfahnakepegaaPC15K
import Derived.Test.YtfgfahnakepegaaPVLD
import Derived.Test.YtfgfahnakepegaaPEnv
import Derived.Test.YtfgfahnakepegaaMc
import Derived.Test.YtfgfahnakepegaaPC15ZN
set_option linter.unusedVariables false
set_option linter.unusedSimpArgs false
set_option linter.unusedSectionVars false
namespace Go.Proofs.Ytfgfahnakepegaa
open Go Go.Eng Go.Rx Go.Proofs Go.RowKit
set_option maxRecDepth 100000
def aE1:T:=Zeq [Zee [97,98],Zee [97,99]]
def aE6:T:=Zeq [Zao 98,Zao 99]
def aE8:T:=Zkc [Zao 97,aE6]
def ZBX:T:=Zeq [Zee [97],Zee [97,98]]
def ZCr:T:=Zeq [Zee [97],Zee [97,98]]
def ZA3:T:=Zeq [Zee [97,98,99],Zee [97,98,100],Zee [97]]
def ZBY:T:=Zeq [Zao 99,Zao 100]
def ZBZ:T:=Zkc [Zao 97,Zao 98,ZBY]
def ZCs:T:=Zeq [ZBZ,Zao 97]
def ZCt:T:=Zeq [Zee [97,98],Zee [99],Zee [97,100]]
def ZCu:T:=Zeq [Zee [97,98],Zee [99],Zee [97,100]]
def ZCv:T:=Zeq [Zee [97,98],Zee [97,98]]
def ZCw:T:=Zkc [Zao 97,Zao 98]
def ZB0:T:=ZA7 (Zao 97)
def ZB1:T:=Zkc [ZB0,Zao 98]
def ZB2:T:=ZA7 (Zao 97)
def ZB3:T:=Zkc [ZB2,Zao 99]
def ZCx:T:=Zeq [ZB1,ZB3]
def ZB4:T:=ZA7 (Zao 97)
def ZB5:T:=Zkc [ZB4,Zao 98]
def ZB6:T:=ZA7 (Zao 97)
def ZB7:T:=Zkc [ZB6,Zao 99]
def ZCy:T:=Zeq [ZB5,ZB7]
def ZB8:T:=Zao 120
def ZB9:T:=Zeq [Zee [121,97],Zee [121,98]]
def ZCa:T:=Zao 122
def ZCz:T:=Zkc [ZB8,ZB9,ZCa]
def ZCb:T:=Zao 120
def ZCc:T:=Zao 121
def ZCd:T:=Zeq [Zao 97,Zao 98]
def ZCe:T:=Zao 122
def ZCA:T:=Zkc [ZCb,ZCc,ZCd,ZCe]
def awF:Fx:=λi _ _=>match i with
 | 1=>IsE aE1
 | 6=>IsE aE6
 | 8=>IsE aE8
 | 11=>IsE ZBX
 | 13=>IsE ZCr
 | 16=>IsE ZA3
 | 22=>IsE ZBY
 | 24=>IsE ZBZ
 | 27=>IsE ZCs
 | 30=>IsE ZCt
 | 32=>IsE ZCu
 | 35=>IsE ZCv
 | 39=>IsE ZCw
 | 42=>IsE ZB0
 | 45=>IsE ZB1
 | 47=>IsE ZB2
 | 50=>IsE ZB3
 | 52=>IsE ZCx
 | 54=>IsE ZB4
 | 57=>IsE ZB5
 | 59=>IsE ZB6
 | 62=>IsE ZB7
 | 64=>IsE ZCy
 | 66=>IsE ZB8
 | 68=>IsE ZB9
 | 69=>IsE ZCa
 | 71=>IsE ZCz
 | 72=>IsE ZCb
 | 73=>IsE ZCc
 | 77=>IsE ZCd
 | 78=>IsE ZCe
 | 80=>IsE ZCA
 | _=>IsE T0
structure Item (n w:T)(c:Nat):Prop where
 rgt:T.rgt n=true
 cuts:n.cuts.length=c
 same:((ZaM n).1.light&&(w.light&&(ZaM n).1.same w))=true
 clean:n.clean=true
theorem ZBP:Item aE1 aE8 1:=⟨by decide +kernel,by decide +kernel,by decide +kernel,by decide +kernel⟩
theorem ZAw:Item ZBX ZCr 1:=⟨by decide +kernel,by decide +kernel,by decide +kernel,by decide +kernel⟩
theorem ZAx:Item ZA3 ZCs 3:=⟨by decide +kernel,by decide +kernel,by decide +kernel,by decide +kernel⟩
theorem ZAy:Item ZCt ZCu 0:=⟨by decide +kernel,by decide +kernel,by decide +kernel,by decide +kernel⟩
theorem ZAz:Item ZCv ZCw 1:=⟨by decide +kernel,by decide +kernel,by decide +kernel,by decide +kernel⟩
theorem ZAA:Item ZCx ZCy 0:=⟨by decide +kernel,by decide +kernel,by decide +kernel,by decide +kernel⟩
theorem ZAB:Item ZCz ZCA 1:=⟨by decide +kernel,by decide +kernel,by decide +kernel,by decide +kernel⟩
def ZCK(x y:T)(c:Nat):List Value:=x.cs++(y.cs++[.int .i64 (c:Nat)])
set_option maxHeartbeats 6400000 in
theorem Zov(m:Mem):CX Try.prog 12 #[] m [] (Ret (.bool true)):=by
 apply ZkR
 unfold Zgl
 refine Zag (Zgk 97 (by omega) m) ZaW (ZgY λta ma ha ra ea ka=>?_)
 refine Zag (Zgk 98 (by omega) ma) ZaW (ZgY λtb mb hb rb eb kb=>?_)
 refine Zag (Zgk 99 (by omega) mb) ZaW (ZgY λtc mc hc rc ec kc=>?_)
 refine Zag (Zgk 100 (by omega) mc) ZaW (ZgY λtd md hd rd ed kd=>?_)
 intro b b1 b2 b3
 refine⟨awF,?_⟩
 have g0:md.le md:=Mem.le_refl _
 have ra:=ra.mono (mLt hb (mLt hc hd))
 have rb:=rb.mono (mLt hc hd)
 have rc:=rc.mono (hd)
 have rd:=rd.mono (Mem.le_refl _)
 intro b1 f1
 refine⟨_,rfl,Zef [⟨#[97,98]⟩,⟨#[97,99]⟩] _ _ _ _ (Zeg (m:=md) (b:=b1) (cs:=([⟨#[97,98]⟩,⟨#[97,99]⟩]:List ByteArray).map Value.string)) (by decide) (by decide +kernel) (by simp) rfl,ZaW,ZgY λt1 m1 h1 r1 e1 k1=>?_⟩
 have g1:md.le m1:=(mLt (Mem.le_add f1 _) h1)
 intro b6 f6
 intro V6 v6 w6 x6
 refine⟨_,rfl,ZwD [tb,tc] [Zao 98,Zao 99] _ _ V6 ((Zcj f6 (by intro x hx;simp only[List.mem_cons,List.not_mem_nil,or_false]at hx;rcases hx with rfl|rfl <;> assumption) (by simp)).mono x6) (by show[T.er tb,T.er tc]=_;rw[eb,ec]) (by decide +kernel) (by decide +kernel) (by simp),ZaW,ZgY λt6 m6 h6 r6 e6 k6=>?_⟩
 have s6:m1.le m6:=(mLt w6 h6)
 have g6:md.le m6:=mLt g1 s6
 intro b8 f8
 have q8_0:Rep m6 ta:=(ra.mono g6)
 have q8_1:Rep m6 t6:=(r6.mono (Mem.le_refl _))
 refine⟨_,rfl,ZkP [ta,t6] [Zao 97,aE6] _ _ _ (Zcj f8 (by intro x hx;simp only[List.mem_cons,List.not_mem_nil,or_false]at hx;rcases hx with rfl|rfl <;> assumption) (by simp)) (by show[T.er ta,T.er t6]=_;rw[ea,e6]) (by decide +kernel) (by decide +kernel),ZaW,ZgY λt8 m8 h8 r8 e8 k8=>?_⟩
 have s8:m6.le m8:=(mLt (Mem.le_add f8 _) h8)
 have g8:md.le m8:=mLt g6 s8
 intro b11 f11
 intro V11 v11 w11 x11
 refine⟨_,rfl,Zef [⟨#[97]⟩,⟨#[97,98]⟩] _ _ _ V11 ((Zeg (m:=md) (b:=b11) (cs:=([⟨#[97]⟩,⟨#[97,98]⟩]:List ByteArray).map Value.string)).mono x11) (by decide) (by decide +kernel) (by simp) rfl,ZaW,ZgY λt11 m11 zP r11 e11 k11=>?_⟩
 have s11:m8.le m11:=(mLt w11 zP)
 have g11:md.le m11:=mLt g8 s11
 intro b13 f13
 intro V13 v13 w13 x13
 refine⟨_,rfl,Zef [⟨#[97]⟩,⟨#[97,98]⟩] _ _ _ V13 ((Zeg (m:=md) (b:=b13) (cs:=([⟨#[97]⟩,⟨#[97,98]⟩]:List ByteArray).map Value.string)).mono x13) (by decide) (by decide +kernel) (by simp) rfl,ZaW,ZgY λt13 m13 qQ r13 e13 k13=>?_⟩
 have s13:m11.le m13:=(mLt w13 qQ)
 have g13:md.le m13:=mLt g11 s13
 intro b16 f16
 intro V16 v16 w16 x16
 refine⟨_,rfl,Zef [⟨#[97,98,99]⟩,⟨#[97,98,100]⟩,⟨#[97]⟩] _ _ _ V16 ((Zeg (m:=md) (b:=b16) (cs:=([⟨#[97,98,99]⟩,⟨#[97,98,100]⟩,⟨#[97]⟩]:List ByteArray).map Value.string)).mono x16) (by decide) (by decide +kernel) (by simp) rfl,ZaW,ZgY λt16 m16 zR r16 e16 k16=>?_⟩
 have s16:m13.le m16:=(mLt w16 zR)
 have g16:md.le m16:=mLt g13 s16
 intro b22 f22
 intro V22 v22 w22 x22
 refine⟨_,rfl,ZwD [tc,td] [Zao 99,Zao 100] _ _ V22 ((Zcj f22 (by intro x hx;simp only[List.mem_cons,List.not_mem_nil,or_false]at hx;rcases hx with rfl|rfl <;> assumption) (by simp)).mono x22) (by show[T.er tc,T.er td]=_;rw[ec,ed]) (by decide +kernel) (by decide +kernel) (by simp),ZaW,ZgY λt22 m22 zS r22 e22 k22=>?_⟩
 have s22:m16.le m22:=(mLt w22 zS)
 have g22:md.le m22:=mLt g16 s22
 intro b24 f24
 have q24_0:Rep m22 ta:=(ra.mono g22)
 have q24_1:Rep m22 tb:=(rb.mono g22)
 have q24_2:Rep m22 t22:=(r22.mono (Mem.le_refl _))
 refine⟨_,rfl,ZkP [ta,tb,t22] [Zao 97,Zao 98,ZBY] _ _ _ (Zcj f24 (by intro x hx;simp only[List.mem_cons,List.not_mem_nil,or_false]at hx;rcases hx with rfl|rfl|rfl <;> assumption) (by simp)) (by show[T.er ta,T.er tb,T.er t22]=_;rw[ea,eb,e22]) (by decide +kernel) (by decide +kernel),ZaW,ZgY λt24 m24 se r24 e24 k24=>?_⟩
 have s24:m22.le m24:=(mLt (Mem.le_add f24 _) se)
 have g24:md.le m24:=mLt g22 s24
 intro b27 f27
 have q27_0:Rep m24 t24:=(r24.mono (Mem.le_refl _))
 have q27_1:Rep m24 ta:=(ra.mono g24)
 refine⟨_,rfl,ZwD [t24,ta] [ZBZ,Zao 97] _ _ _ (Zcj f27 (by intro x hx;simp only[List.mem_cons,List.not_mem_nil,or_false]at hx;rcases hx with rfl|rfl <;> assumption) (by simp)) (by show[T.er t24,T.er ta]=_;rw[e24,ea]) (by decide +kernel) (by decide +kernel) (by simp),ZaW,ZgY λt27 m27 vZ r27 e27 k27=>?_⟩
 have s27:m24.le m27:=(mLt (Mem.le_add f27 _) vZ)
 have g27:md.le m27:=mLt g24 s27
 intro b30 f30
 intro V30 v30 w30 x30
 refine⟨_,rfl,Zef [⟨#[97,98]⟩,⟨#[99]⟩,⟨#[97,100]⟩] _ _ _ V30 ((Zeg (m:=md) (b:=b30) (cs:=([⟨#[97,98]⟩,⟨#[99]⟩,⟨#[97,100]⟩]:List ByteArray).map Value.string)).mono x30) (by decide) (by decide +kernel) (by simp) rfl,ZaW,ZgY λt30 m30 zT r30 e30 k30=>?_⟩
 have s30:m27.le m30:=(mLt w30 zT)
 have g30:md.le m30:=mLt g27 s30
 intro b32 f32
 intro V32 v32 w32 x32
 refine⟨_,rfl,Zef [⟨#[97,98]⟩,⟨#[99]⟩,⟨#[97,100]⟩] _ _ _ V32 ((Zeg (m:=md) (b:=b32) (cs:=([⟨#[97,98]⟩,⟨#[99]⟩,⟨#[97,100]⟩]:List ByteArray).map Value.string)).mono x32) (by decide) (by decide +kernel) (by simp) rfl,ZaW,ZgY λt32 m32 zU r32 e32 k32=>?_⟩
 have s32:m30.le m32:=(mLt w32 zU)
 have g32:md.le m32:=mLt g30 s32
 intro b35 f35
 intro V35 v35 w35 x35
 refine⟨_,rfl,Zef [⟨#[97,98]⟩,⟨#[97,98]⟩] _ _ _ V35 ((Zeg (m:=md) (b:=b35) (cs:=([⟨#[97,98]⟩,⟨#[97,98]⟩]:List ByteArray).map Value.string)).mono x35) (by decide) (by decide +kernel) (by simp) rfl,ZaW,ZgY λt35 m35 uU r35 e35 k35=>?_⟩
 have s35:m32.le m35:=(mLt w35 uU)
 have g35:md.le m35:=mLt g32 s35
 intro b39 f39
 intro V39 v39 w39 x39
 refine⟨_,rfl,ZkP [ta,tb] [Zao 97,Zao 98] _ _ V39 ((Zcj f39 (by intro x hx;simp only[List.mem_cons,List.not_mem_nil,or_false]at hx;rcases hx with rfl|rfl <;> assumption) (by simp)).mono x39) (by show[T.er ta,T.er tb]=_;rw[ea,eb]) (by decide +kernel) (by decide +kernel),ZaW,ZgY λt39 m39 zV r39 e39 k39=>?_⟩
 have s39:m35.le m39:=(mLt w39 zV)
 have g39:md.le m39:=mLt g35 s39
 refine⟨_,rfl,ZvV ta (Zao 97) _ (ra.mono g39) ea (by decide +kernel) (by decide +kernel),ZaW,ZgY λt42 m42 zW r42 e42 k42=>?_⟩
 have s42:m39.le m42:=zW
 have g42:md.le m42:=mLt g39 s42
 intro b45 f45
 have q45_0:Rep m42 t42:=(r42.mono (Mem.le_refl _))
 have q45_1:Rep m42 tb:=(rb.mono g42)
 refine⟨_,rfl,ZkP [t42,tb] [ZB0,Zao 98] _ _ _ (Zcj f45 (by intro x hx;simp only[List.mem_cons,List.not_mem_nil,or_false]at hx;rcases hx with rfl|rfl <;> assumption) (by simp)) (by show[T.er t42,T.er tb]=_;rw[e42,eb]) (by decide +kernel) (by decide +kernel),ZaW,ZgY λt45 m45 qq r45 e45 k45=>?_⟩
 have s45:m42.le m45:=(mLt (Mem.le_add f45 _) qq)
 have g45:md.le m45:=mLt g42 s45
 refine⟨_,rfl,ZvV ta (Zao 97) _ (ra.mono g45) ea (by decide +kernel) (by decide +kernel),ZaW,ZgY λt47 m47 mD r47 e47 k47=>?_⟩
 have s47:m45.le m47:=mD
 have g47:md.le m47:=mLt g45 s47
 intro b50 f50
 have q50_0:Rep m47 t47:=(r47.mono (Mem.le_refl _))
 have q50_1:Rep m47 tc:=(rc.mono g47)
 refine⟨_,rfl,ZkP [t47,tc] [ZB2,Zao 99] _ _ _ (Zcj f50 (by intro x hx;simp only[List.mem_cons,List.not_mem_nil,or_false]at hx;rcases hx with rfl|rfl <;> assumption) (by simp)) (by show[T.er t47,T.er tc]=_;rw[e47,ec]) (by decide +kernel) (by decide +kernel),ZaW,ZgY λt50 m50 zX r50 e50 k50=>?_⟩
 have s50:m47.le m50:=(mLt (Mem.le_add f50 _) zX)
 have g50:md.le m50:=mLt g47 s50
 intro b52 f52
 have q52_0:Rep m50 t45:=(r45.mono (mLt s47 (s50)))
 have q52_1:Rep m50 t50:=(r50.mono (Mem.le_refl _))
 refine⟨_,rfl,ZwD [t45,t50] [ZB1,ZB3] _ _ _ (Zcj f52 (by intro x hx;simp only[List.mem_cons,List.not_mem_nil,or_false]at hx;rcases hx with rfl|rfl <;> assumption) (by simp)) (by show[T.er t45,T.er t50]=_;rw[e45,e50]) (by decide +kernel) (by decide +kernel) (by simp),ZaW,ZgY λt52 m52 zY r52 e52 k52=>?_⟩
 have s52:m50.le m52:=(mLt (Mem.le_add f52 _) zY)
 have g52:md.le m52:=mLt g50 s52
 refine⟨_,rfl,ZvV ta (Zao 97) _ (ra.mono g52) ea (by decide +kernel) (by decide +kernel),ZaW,ZgY λt54 m54 zZ r54 e54 k54=>?_⟩
 have s54:m52.le m54:=zZ
 have g54:md.le m54:=mLt g52 s54
 intro b57 f57
 have q57_0:Rep m54 t54:=(r54.mono (Mem.le_refl _))
 have q57_1:Rep m54 tb:=(rb.mono g54)
 refine⟨_,rfl,ZkP [t54,tb] [ZB4,Zao 98] _ _ _ (Zcj f57 (by intro x hx;simp only[List.mem_cons,List.not_mem_nil,or_false]at hx;rcases hx with rfl|rfl <;> assumption) (by simp)) (by show[T.er t54,T.er tb]=_;rw[e54,eb]) (by decide +kernel) (by decide +kernel),ZaW,ZgY λt57 m57 xw r57 e57 k57=>?_⟩
 have s57:m54.le m57:=(mLt (Mem.le_add f57 _) xw)
 have g57:md.le m57:=mLt g54 s57
 refine⟨_,rfl,ZvV ta (Zao 97) _ (ra.mono g57) ea (by decide +kernel) (by decide +kernel),ZaW,ZgY λt59 m59 Aa r59 e59 k59=>?_⟩
 have s59:m57.le m59:=Aa
 have g59:md.le m59:=mLt g57 s59
 intro b62 f62
 have q62_0:Rep m59 t59:=(r59.mono (Mem.le_refl _))
 have q62_1:Rep m59 tc:=(rc.mono g59)
 refine⟨_,rfl,ZkP [t59,tc] [ZB6,Zao 99] _ _ _ (Zcj f62 (by intro x hx;simp only[List.mem_cons,List.not_mem_nil,or_false]at hx;rcases hx with rfl|rfl <;> assumption) (by simp)) (by show[T.er t59,T.er tc]=_;rw[e59,ec]) (by decide +kernel) (by decide +kernel),ZaW,ZgY λt62 m62 Ab r62 e62 k62=>?_⟩
 have s62:m59.le m62:=(mLt (Mem.le_add f62 _) Ab)
 have g62:md.le m62:=mLt g59 s62
 intro b64 f64
 have q64_0:Rep m62 t57:=(r57.mono (mLt s59 (s62)))
 have q64_1:Rep m62 t62:=(r62.mono (Mem.le_refl _))
 refine⟨_,rfl,ZwD [t57,t62] [ZB5,ZB7] _ _ _ (Zcj f64 (by intro x hx;simp only[List.mem_cons,List.not_mem_nil,or_false]at hx;rcases hx with rfl|rfl <;> assumption) (by simp)) (by show[T.er t57,T.er t62]=_;rw[e57,e62]) (by decide +kernel) (by decide +kernel) (by simp),ZaW,ZgY λt64 m64 Ac r64 e64 k64=>?_⟩
 have s64:m62.le m64:=(mLt (Mem.le_add f64 _) Ac)
 have g64:md.le m64:=mLt g62 s64
 refine⟨_,rfl,Zgk 120 (by omega) _,ZaW,ZgY λt66 m66 Ad r66 e66 k66=>?_⟩
 have s66:m64.le m66:=Ad
 have g66:md.le m66:=mLt g64 s66
 intro b68 f68
 intro V68 v68 w68 x68
 refine⟨_,rfl,Zef [⟨#[121,97]⟩,⟨#[121,98]⟩] _ _ _ V68 ((Zeg (m:=md) (b:=b68) (cs:=([⟨#[121,97]⟩,⟨#[121,98]⟩]:List ByteArray).map Value.string)).mono x68) (by decide) (by decide +kernel) (by simp) rfl,ZaW,ZgY λt68 m68 Ae r68 e68 k68=>?_⟩
 have s68:m66.le m68:=(mLt w68 Ae)
 have g68:md.le m68:=mLt g66 s68
 refine⟨_,rfl,Zgk 122 (by omega) _,ZaW,ZgY λt69 m69 Af r69 e69 k69=>?_⟩
 have s69:m68.le m69:=Af
 have g69:md.le m69:=mLt g68 s69
 intro b71 f71
 have q71_0:Rep m69 t66:=(r66.mono (mLt s68 (s69)))
 have q71_1:Rep m69 t68:=(r68.mono (s69))
 have q71_2:Rep m69 t69:=(r69.mono (Mem.le_refl _))
 refine⟨_,rfl,ZkP [t66,t68,t69] [ZB8,ZB9,ZCa] _ _ _ (Zcj f71 (by intro x hx;simp only[List.mem_cons,List.not_mem_nil,or_false]at hx;rcases hx with rfl|rfl|rfl <;> assumption) (by simp)) (by show[T.er t66,T.er t68,T.er t69]=_;rw[e66,e68,e69]) (by decide +kernel) (by decide +kernel),ZaW,ZgY λt71 m71 Ag r71 e71 k71=>?_⟩
 have s71:m69.le m71:=(mLt (Mem.le_add f71 _) Ag)
 have g71:md.le m71:=mLt g69 s71
 refine⟨_,rfl,Zgk 120 (by omega) _,ZaW,ZgY λt72 m72 Ah r72 e72 k72=>?_⟩
 have s72:m71.le m72:=Ah
 have g72:md.le m72:=mLt g71 s72
 refine⟨_,rfl,Zgk 121 (by omega) _,ZaW,ZgY λt73 m73 Ai r73 e73 k73=>?_⟩
 have s73:m72.le m73:=Ai
 have g73:md.le m73:=mLt g72 s73
 intro b77 f77
 intro V77 v77 w77 x77
 refine⟨_,rfl,ZwD [ta,tb] [Zao 97,Zao 98] _ _ V77 ((Zcj f77 (by intro x hx;simp only[List.mem_cons,List.not_mem_nil,or_false]at hx;rcases hx with rfl|rfl <;> assumption) (by simp)).mono x77) (by show[T.er ta,T.er tb]=_;rw[ea,eb]) (by decide +kernel) (by decide +kernel) (by simp),ZaW,ZgY λt77 m77 Aj r77 e77 k77=>?_⟩
 have s77:m73.le m77:=(mLt w77 Aj)
 have g77:md.le m77:=mLt g73 s77
 refine⟨_,rfl,Zgk 122 (by omega) _,ZaW,ZgY λt78 m78 Ak r78 e78 k78=>?_⟩
 have s78:m77.le m78:=Ak
 have g78:md.le m78:=mLt g77 s78
 intro b80 f80
 have q80_0:Rep m78 t72:=(r72.mono (mLt s73 (mLt s77 (s78))))
 have q80_1:Rep m78 t73:=(r73.mono (mLt s77 (s78)))
 have q80_2:Rep m78 t77:=(r77.mono (s78))
 have q80_3:Rep m78 t78:=(r78.mono (Mem.le_refl _))
 refine⟨_,rfl,ZkP [t72,t73,t77,t78] [ZCb,ZCc,ZCd,ZCe] _ _ _ (Zcj f80 (by intro x hx;simp only[List.mem_cons,List.not_mem_nil,or_false]at hx;rcases hx with rfl|rfl|rfl|rfl <;> assumption) (by simp)) (by show[T.er t72,T.er t73,T.er t77,T.er t78]=_;rw[e72,e73,e77,e78]) (by decide +kernel) (by decide +kernel),ZaW,ZgY λt80 m80 Al r80 e80 k80=>?_⟩
 have s80:m78.le m80:=(mLt (Mem.le_add f80 _) Al)
 have g80:md.le m80:=mLt g78 s80
 intro b90 f90 M
 intro z0 z1 z2 z3 z4 z5 z6 z7 z8 z9 z10 z11 z12 z13 z14 z15 z16 z17 z18 z19 z20 z21 z22 z23 z24 z25 z26 z27 z28 z29 z30 z31 z32 z33 z34 z35 z36 z37 z38 z39 z40 z41 z42 z43 z44 z45 z46 z47 z48 z49 z50 z51 z52 z53 z54 z55 z56
 have hM:m80.le M:=by assumption
 have Am:m.le M:=mLt ha (mLt hb (mLt hc (mLt hd (mLt g80 hM))))
 have u1:Rep M t1:=r1.mono (mLt (mLt s6 (mLt s8 (mLt s11 (mLt s13 (mLt s16 (mLt s22 (mLt s24 (mLt s27 (mLt s30 (mLt s32 (mLt s35 (mLt s39 (mLt s42 (mLt s45 (mLt s47 (mLt s50 (mLt s52 (mLt s54 (mLt s57 (mLt s59 (mLt s62 (mLt s64 (mLt s66 (mLt s68 (mLt s69 (mLt s71 (mLt s72 (mLt s73 (mLt s77 (mLt s78 (s80))))))))))))))))))))))))))))))) hM)
 have u8:Rep M t8:=r8.mono (mLt (mLt s11 (mLt s13 (mLt s16 (mLt s22 (mLt s24 (mLt s27 (mLt s30 (mLt s32 (mLt s35 (mLt s39 (mLt s42 (mLt s45 (mLt s47 (mLt s50 (mLt s52 (mLt s54 (mLt s57 (mLt s59 (mLt s62 (mLt s64 (mLt s66 (mLt s68 (mLt s69 (mLt s71 (mLt s72 (mLt s73 (mLt s77 (mLt s78 (s80))))))))))))))))))))))))))))) hM)
 have u11:Rep M t11:=r11.mono (mLt (mLt s13 (mLt s16 (mLt s22 (mLt s24 (mLt s27 (mLt s30 (mLt s32 (mLt s35 (mLt s39 (mLt s42 (mLt s45 (mLt s47 (mLt s50 (mLt s52 (mLt s54 (mLt s57 (mLt s59 (mLt s62 (mLt s64 (mLt s66 (mLt s68 (mLt s69 (mLt s71 (mLt s72 (mLt s73 (mLt s77 (mLt s78 (s80)))))))))))))))))))))))))))) hM)
 have u13:Rep M t13:=r13.mono (mLt (mLt s16 (mLt s22 (mLt s24 (mLt s27 (mLt s30 (mLt s32 (mLt s35 (mLt s39 (mLt s42 (mLt s45 (mLt s47 (mLt s50 (mLt s52 (mLt s54 (mLt s57 (mLt s59 (mLt s62 (mLt s64 (mLt s66 (mLt s68 (mLt s69 (mLt s71 (mLt s72 (mLt s73 (mLt s77 (mLt s78 (s80))))))))))))))))))))))))))) hM)
 have u16:Rep M t16:=r16.mono (mLt (mLt s22 (mLt s24 (mLt s27 (mLt s30 (mLt s32 (mLt s35 (mLt s39 (mLt s42 (mLt s45 (mLt s47 (mLt s50 (mLt s52 (mLt s54 (mLt s57 (mLt s59 (mLt s62 (mLt s64 (mLt s66 (mLt s68 (mLt s69 (mLt s71 (mLt s72 (mLt s73 (mLt s77 (mLt s78 (s80)))))))))))))))))))))))))) hM)
 have u27:Rep M t27:=r27.mono (mLt (mLt s30 (mLt s32 (mLt s35 (mLt s39 (mLt s42 (mLt s45 (mLt s47 (mLt s50 (mLt s52 (mLt s54 (mLt s57 (mLt s59 (mLt s62 (mLt s64 (mLt s66 (mLt s68 (mLt s69 (mLt s71 (mLt s72 (mLt s73 (mLt s77 (mLt s78 (s80))))))))))))))))))))))) hM)
 have u30:Rep M t30:=r30.mono (mLt (mLt s32 (mLt s35 (mLt s39 (mLt s42 (mLt s45 (mLt s47 (mLt s50 (mLt s52 (mLt s54 (mLt s57 (mLt s59 (mLt s62 (mLt s64 (mLt s66 (mLt s68 (mLt s69 (mLt s71 (mLt s72 (mLt s73 (mLt s77 (mLt s78 (s80)))))))))))))))))))))) hM)
 have u32:Rep M t32:=r32.mono (mLt (mLt s35 (mLt s39 (mLt s42 (mLt s45 (mLt s47 (mLt s50 (mLt s52 (mLt s54 (mLt s57 (mLt s59 (mLt s62 (mLt s64 (mLt s66 (mLt s68 (mLt s69 (mLt s71 (mLt s72 (mLt s73 (mLt s77 (mLt s78 (s80))))))))))))))))))))) hM)
 have u35:Rep M t35:=r35.mono (mLt (mLt s39 (mLt s42 (mLt s45 (mLt s47 (mLt s50 (mLt s52 (mLt s54 (mLt s57 (mLt s59 (mLt s62 (mLt s64 (mLt s66 (mLt s68 (mLt s69 (mLt s71 (mLt s72 (mLt s73 (mLt s77 (mLt s78 (s80)))))))))))))))))))) hM)
 have u39:Rep M t39:=r39.mono (mLt (mLt s42 (mLt s45 (mLt s47 (mLt s50 (mLt s52 (mLt s54 (mLt s57 (mLt s59 (mLt s62 (mLt s64 (mLt s66 (mLt s68 (mLt s69 (mLt s71 (mLt s72 (mLt s73 (mLt s77 (mLt s78 (s80))))))))))))))))))) hM)
 have u52:Rep M t52:=r52.mono (mLt (mLt s54 (mLt s57 (mLt s59 (mLt s62 (mLt s64 (mLt s66 (mLt s68 (mLt s69 (mLt s71 (mLt s72 (mLt s73 (mLt s77 (mLt s78 (s80)))))))))))))) hM)
 have u64:Rep M t64:=r64.mono (mLt (mLt s66 (mLt s68 (mLt s69 (mLt s71 (mLt s72 (mLt s73 (mLt s77 (mLt s78 (s80))))))))) hM)
 have u71:Rep M t71:=r71.mono (mLt (mLt s72 (mLt s73 (mLt s77 (mLt s78 (s80))))) hM)
 have u80:Rep M t80:=r80.mono (mLt (Mem.le_refl _) hM)
 refine⟨λxs css tvs m' q=>∃i:Nat,i<=7/\xs=[.int .i64 i]/\q=7 - i,⟨7,0,by omega,rfl,rfl⟩,?_⟩
 rintro z0 m91 q wg ⟨i,hi,aZ,hq⟩
 obtain rfl:z0=i:=by simpa using aZ
 refine Zab (λaS=>?_) (λbM=>?_)
 ·have aQ:i < 7:=by have:=of_decide_eq_true aS;omega
  have An:i=0\/i=1\/i=2\/i=3\/i=4\/i=5\/i=6:=by omega
  obtain⟨x,y,c,X,Y,aR,hX,hY,xD,xA,bX,kD,qT,Ao⟩:∃(x y:T)(c:Nat)(X Y:T),List.take 17 (List.drop ((i:Int).toNat*17) ([.int .u8 t1.k,.int .u64 t1.s0,.int .u64 t1.s1,.int .u64 t1.s2,.int .u64 t1.s3,.int .i64 t1.mn,.int .i64 t1.mx,.slice t1.a t1.subs.length t1.c,.int .u8 t8.k,.int .u64 t8.s0,.int .u64 t8.s1,.int .u64 t8.s2,.int .u64 t8.s3,.int .i64 t8.mn,.int .i64 t8.mx,.slice t8.a t8.subs.length t8.c,.int .i64 1,.int .u8 t11.k,.int .u64 t11.s0,.int .u64 t11.s1,.int .u64 t11.s2,.int .u64 t11.s3,.int .i64 t11.mn,.int .i64 t11.mx,.slice t11.a t11.subs.length t11.c,.int .u8 t13.k,.int .u64 t13.s0,.int .u64 t13.s1,.int .u64 t13.s2,.int .u64 t13.s3,.int .i64 t13.mn,.int .i64 t13.mx,.slice t13.a t13.subs.length t13.c,.int .i64 1,.int .u8 t16.k,.int .u64 t16.s0,.int .u64 t16.s1,.int .u64 t16.s2,.int .u64 t16.s3,.int .i64 t16.mn,.int .i64 t16.mx,.slice t16.a t16.subs.length t16.c,.int .u8 t27.k,.int .u64 t27.s0,.int .u64 t27.s1,.int .u64 t27.s2,.int .u64 t27.s3,.int .i64 t27.mn,.int .i64 t27.mx,.slice t27.a t27.subs.length t27.c,.int .i64 3,.int .u8 t30.k,.int .u64 t30.s0,.int .u64 t30.s1,.int .u64 t30.s2,.int .u64 t30.s3,.int .i64 t30.mn,.int .i64 t30.mx,.slice t30.a t30.subs.length t30.c,.int .u8 t32.k,.int .u64 t32.s0,.int .u64 t32.s1,.int .u64 t32.s2,.int .u64 t32.s3,.int .i64 t32.mn,.int .i64 t32.mx,.slice t32.a t32.subs.length t32.c,.int .i64 0,.int .u8 t35.k,.int .u64 t35.s0,.int .u64 t35.s1,.int .u64 t35.s2,.int .u64 t35.s3,.int .i64 t35.mn,.int .i64 t35.mx,.slice t35.a t35.subs.length t35.c,.int .u8 t39.k,.int .u64 t39.s0,.int .u64 t39.s1,.int .u64 t39.s2,.int .u64 t39.s3,.int .i64 t39.mn,.int .i64 t39.mx,.slice t39.a t39.subs.length t39.c,.int .i64 1,.int .u8 t52.k,.int .u64 t52.s0,.int .u64 t52.s1,.int .u64 t52.s2,.int .u64 t52.s3,.int .i64 t52.mn,.int .i64 t52.mx,.slice t52.a t52.subs.length t52.c,.int .u8 t64.k,.int .u64 t64.s0,.int .u64 t64.s1,.int .u64 t64.s2,.int .u64 t64.s3,.int .i64 t64.mn,.int .i64 t64.mx,.slice t64.a t64.subs.length t64.c,.int .i64 0,.int .u8 t71.k,.int .u64 t71.s0,.int .u64 t71.s1,.int .u64 t71.s2,.int .u64 t71.s3,.int .i64 t71.mn,.int .i64 t71.mx,.slice t71.a t71.subs.length t71.c,.int .u8 t80.k,.int .u64 t80.s0,.int .u64 t80.s1,.int .u64 t80.s2,.int .u64 t80.s3,.int .i64 t80.mn,.int .i64 t80.mx,.slice t80.a t80.subs.length t80.c,.int .i64 1]:List Value))=ZCK x y c/\x.er=X/\y.er=Y/\x.caps/\y.caps/\Rep M x/\Rep M y/\Item X Y c/\c<=20:=by
   rcases An with rfl|rfl|rfl|rfl|rfl|rfl|rfl
   ·exact⟨t1,t8,1,_,_,rfl,e1,e8,k1,k8,u1,u8,ZBP,by omega⟩
   ·exact⟨t11,t13,1,_,_,rfl,e11,e13,k11,k13,u11,u13,ZAw,by omega⟩
   ·exact⟨t16,t27,3,_,_,rfl,e16,e27,k16,k27,u16,u27,ZAx,by omega⟩
   ·exact⟨t30,t32,0,_,_,rfl,e30,e32,k30,k32,u30,u32,ZAy,by omega⟩
   ·exact⟨t35,t39,1,_,_,rfl,e35,e39,k35,k39,u35,u39,ZAz,by omega⟩
   ·exact⟨t52,t64,0,_,_,rfl,e52,e64,k52,k64,u52,u64,ZAA,by omega⟩
   ·exact⟨t71,t80,1,_,_,rfl,e71,e80,k71,k80,u71,u80,ZAB,by omega⟩
  have wh:c<=1000000:=by omega
  refine⟨⟨by omega,by omega⟩,Zaa (by rw[Nat.ble_eq];show i*17<=102;omega) ?_⟩
  intro b92
  unfold ZaK
  have sK:=bX.mono wg
  have mU:T.rgt x=true:=by rw[<-ZxO,hX];exact qT.rgt
  have AP:=ZeJ.1 mU
  have iA:x.cuts.length=c:=by rw[<-ZtS,hX];exact qT.cuts
  have dF:x.clean=true:=by rw[<-ZtE,hX];exact qT.clean
  rw[aR]
  have hF:CX Try.prog 17 #[x.v] m91 [] (Zlz 0 (λt'=>t'.er=(ZaM x).1)):=(ZvH x m91 sK xD).mono λv m' css _ h=>by rw[if_pos mU]at h;exact h
  refine Zaa rfl (Zaa rfl ⟨_,trivial,hF,(λv _ _ ⟨t,e,_⟩=>by rw[e];rfl),?_⟩)
  rintro n1 n2 n3 n4 n5 n6 n7 fa nf fc n8 m92 xE ⟨f,hv,eC,lE,mI⟩
  simp only[T.v,Value.tuple.injEq,Value.agg.injEq,Array.mk.injEq,List.cons.injEq,Value.int.injEq,Value.slice.injEq,true_and,and_true]at hv
  obtain⟨⟨rfl,rfl,rfl,rfl,rfl,rfl,rfl,rfl,rfl,rfl⟩,rfl⟩:=hv
  intro b93
  have sL:=sK.mono xE
  have hC:CX Try.prog 32 #[x.v] m92 [] (Zzh 0 x.cuts):=(Zub x m92 sL xD (by rw[iA];exact wh)).mono λv m' css _ h=>by unfold OrE at h;rw[if_neg (by rw[mU];simp)]at h;exact h
  refine Zaa rfl ⟨_,trivial,hC,ZsR,?_⟩
  rintro ca nc cc n9 m93 wi ⟨ca',cc',hv,-⟩
  simp only[Value.tuple.injEq,Array.mk.injEq,List.cons.injEq,Value.int.injEq,Value.slice.injEq,true_and,and_true]at hv
  obtain⟨⟨rfl,rfl,rfl⟩,rfl⟩:=hv
  have gR:(f.light&&(y.light&&f.same y))=true:=by
   rw[<-ZjR f,<-ZjR y,<-Zup f y,lE,hY,<-ZrD,hX]
   exact qT.same
  refine⟨false,ZrP rfl (Zaa rfl (Zai (Zy6 f y m93 (eC.mono wi) (kD.mono (mLt wg (mLt xE wi)))) λm94 Ap=>?_)),ZrP rfl ⟨by trivial,7 - (i+1),by omega,i+1,by omega,?_,rfl⟩⟩
  ·rw[gR]
   refine ZrP rfl (Zar (v:=.int .i64 (c:Nat)) rfl (Zaa rfl (ZrP ?_ (Zaa rfl (Zai (Zj3 x m94 (sL.mono (mLt wi Ap))) λm95 AQ=>⟨by trivial,?_⟩)))))
   ·rw[iA];simp[RowKit.intOf]
   ·rw[dF];rfl
  ·rw[ZaB (by omega) (by omega)];rfl
 ·have wj:=mLt Am wg
  have gain:∀(t:T)(E:T)(k:C4)(M:Mem)(g:Int),Rep M t->t.caps->t.er=E->T.rgt E=true->k∈E.cuts->Zfl E k=g->CX Try.prog 30 #[t.v,.agg #[.int .i64 (k.a:Nat),.int .i64 (k.f:Nat),.int .i64 (k.t:Nat),.int .i64 (k.n:Nat)]] M [] (Ret (.tuple #[.int .i64 g,.int .i64 0])):=by
   intro t E k M g hr hc he hg hk Aq
   refine(Zzj t _ _ _ _ M hr hc).mono ?_
   rintro v m' css _ ⟨g',e,hv,hp⟩
   have p9:T.rgt t=true:=by rw[<-ZxO,he];exact hg
   have jI:k∈t.cuts:=by rw[<-ZtS,he];exact hk
   rcases hp with⟨h,_⟩|⟨_,k',hk',h1,h2,h3,h4,rfl,rfl⟩|⟨_,h,_⟩
   ·rw[p9]at h;cases h
   ·obtain⟨ka,kf,kt,kn⟩:=k
    obtain⟨ka',kf',kt',kn'⟩:=k'
    simp only[Int.natCast_inj]at h1 h2 h3 h4
    subst h1 h2 h3 h4
    rw[hv,<-Aq,<-he,ZxP hk']
   ·exact absurd ⟨rfl,rfl,rfl,rfl⟩ (h k jI)
  have gfit:∀{x:Int} (v:Value) (m':Mem) (css:List (List Value)),Ret (.tuple #[.int .i64 x,.int .i64 0]) v m' css->Shape.fits (.tup [.int .i64,.int .i64]) v=true:=λv _ _ e=>by rw[e];rfl
  intro b101 f101
  refine Zag (Zef [⟨#[97,98]⟩,⟨#[97,99]⟩] _ _ _ _ (Zeg (m:=m91) (b:=b101) (cs:=([⟨#[97,98]⟩,⟨#[97,99]⟩]:List ByteArray).map Value.string)) (by decide) (by decide +kernel) (by simp) rfl) ZaW (ZgY λt1 m101 wk r1 e1 k1=>?_)
  refine Zag (gain t1 aE1 ⟨0,0,2,1⟩ m101 2 r1 k1 e1 (by decide +kernel) (by decide +kernel) (by decide +kernel)) gfit ?_
  rintro g1 w1 m102 wl Ar
  obtain⟨rfl,rfl⟩:g1=2/\w1=0:=by simpa[Ret]using Ar
  intro b103 f103
  refine Zag (Zef [⟨#[97]⟩,⟨#[97,98]⟩] _ _ _ _ (Zeg (m:=m102) (b:=b103) (cs:=([⟨#[97]⟩,⟨#[97,98]⟩]:List ByteArray).map Value.string)) (by decide) (by decide +kernel) (by simp) rfl) ZaW (ZgY λt2 m103 wm r2 e2 k2=>?_)
  refine Zag (gain t2 ZBX ⟨0,0,2,1⟩ m103 0 r2 k2 e2 (by decide +kernel) (by decide +kernel) (by decide +kernel)) gfit ?_
  rintro g2 w2 m104 wn As
  obtain⟨rfl,rfl⟩:g2=0/\w2=0:=by simpa[Ret]using As
  intro b105 f105
  refine Zag (Zef [⟨#[97,98,99]⟩,⟨#[97,98,100]⟩,⟨#[97]⟩] _ _ _ _ (Zeg (m:=m104) (b:=b105) (cs:=([⟨#[97,98,99]⟩,⟨#[97,98,100]⟩,⟨#[97]⟩]:List ByteArray).map Value.string)) (by decide) (by decide +kernel) (by simp) rfl) ZaW (ZgY λt3 m105 wo r3 e3 k3=>?_)
  refine Zag (gain t3 ZA3 ⟨0,0,3,1⟩ m105 0 r3 k3 e3 (by decide +kernel) (by decide +kernel) (by decide +kernel)) gfit ?_
  rintro g3 w3 m106 wp At
  obtain⟨rfl,rfl⟩:g3=0/\w3=0:=by simpa[Ret]using At
  intro b107 f107
  refine Zag (Zef [⟨#[97,98,99]⟩,⟨#[97,98,100]⟩,⟨#[97]⟩] _ _ _ _ (Zeg (m:=m106) (b:=b107) (cs:=([⟨#[97,98,99]⟩,⟨#[97,98,100]⟩,⟨#[97]⟩]:List ByteArray).map Value.string)) (by decide) (by decide +kernel) (by simp) rfl) ZaW (ZgY λt4 m107 wq r4 e4 k4=>?_)
  have kZ:T.rgt t4=true:=by rw[<-ZxO,e4];decide +kernel
  have vV:Zbb t4=Zbb ZA3:=by rw[<-ZtT t4,e4];rfl
  have dI:(Zbb ZA3).c=⟨0,0,2,2⟩/\(Zbb ZA3).g=2:=by decide +kernel
  have hB:CX Try.prog 29 #[t4.v] m107 [] (Ret (.tuple #[.agg #[.int .i64 0,.int .i64 0,.int .i64 2,.int .i64 2],.int .i64 2,.bool true,.int .i64 0])):=(Zua t4 m107 r4 k4).mono λv m' css _ h=>by
   rw[if_neg (by rw[kZ];simp),vV,dI.1,dI.2,if_neg (by omega)]at h
   exact h
  refine Zag hB (λv _ _ e=>by rw[e];rfl) ?_
  rintro x1 x2 x3 x4 g4 is w4 m108 wt Au
  obtain⟨⟨rfl,rfl,rfl,rfl⟩,rfl,rfl,rfl⟩:(x1=0/\x2=0/\x3=2/\x4=2)/\g4=2/\is=true/\w4=0:=by simpa[Ret]using Au
  intro b109
  refine⟨true,Zxp rfl (Zxp rfl (Zxp rfl (Zxp rfl ⟨_,Zxw _ _ _ _ _ _ _ _,Zxp rfl (Zxp rfl ⟨by trivial,rfl⟩)⟩))),Zah ?_ rfl⟩
  exact mLt wj (mLt (Mem.le_add f101 _) (mLt wk (mLt wl (mLt (Mem.le_add f103 _) (mLt wm (mLt wn (mLt (Mem.le_add f105 _) (mLt wo (mLt wp (mLt (Mem.le_add f107 _) (mLt wq wt)))))))))))
end Go.Proofs.Ytfgfahnakepegaa
set_option linter.unusedVariables false
set_option linter.unusedSimpArgs false
set_option linter.unusedSectionVars false
namespace Go.Proofs.Ytfgfahnakepegaa
open Go Go.Eng Go.Rx Go.Proofs Go.RowKit
set_option maxRecDepth 100000
theorem Zow{e:Int}{φ:T->Prop}:∀(v:Value)(m':Mem) (css:List (List Value)),Zlz e φ v m' css->Shape.fits (.tup [.agg [.int .u8,.int .u64,.int .u64,.int .u64,.int .u64,.int .i64,.int .i64,.slice],.int .i64]) v=true:=λv _ _ ⟨t,e,_⟩=>by rw[e];rfl
theorem Znu:∀t:T,t.same t=true
 | .node k s0 s1 s2 s3 mn mx a c l=>by
  have:=same_reflL l
  simp only[T.same,this,beq_self_eq_true,Bool.and_self]
where same_reflL:∀l:List T,Zd4 l l=true
 | []=>rfl
 | t::l=>by simp only[Zd4,Znu t,same_reflL l,Bool.and_self]
theorem Zs9{t u:T}(h:t.er=u.er):t.same u=true:=by
 rw[<-Zup,h];exact Znu _
def ZvW(t:T):Value->Mem->List (List Value)->Prop:=λv _ _=>v=.tuple #[(Zbb t).c.v,.int .i64 (Zbb t).g,.bool (decide (0 < (Zbb t).g)),.int .i64 0]
theorem ZrE{t:T}:∀(v:Value)(m':Mem) (css:List (List Value)),ZvW t v m' css->Shape.fits (.tup [.agg [.int .i64,.int .i64,.int .i64,.int .i64],.int .i64,.bool,.int .i64]) v=true:=λv _ _ h=>by rw[h];rfl
theorem ZvX(t:T)(m:Mem)(hr:Rep m t)(hk:T.rgt t=true)(hc:t.caps):CX Try.prog 29 #[t.v] m [] (ZvW t):=
 (Zua t m hr hc).mono λv m' css _ h=>by
  rw[if_neg (by rw[hk];simp)]at h
  unfold ZvW
  rw[h]
  rcases(Zmm t).or with⟨h1,h2,_⟩|⟨h1,_⟩
  ·rw[if_pos (by omega),h1,h2];rfl
  ·rw[if_neg (by omega),decide_eq_true h1]
end Go.Proofs.Ytfgfahnakepegaa
set_option linter.unusedVariables false
namespace Go.Proofs.Ytfgfahnakepegaa
open Go Go.Eng Go.Proofs Go.RowKit
open Go.Value (int slice agg bool string tuple func)
open Go.IntKind (u8 u64 i64)
set_option maxRecDepth 100000
noncomputable def ZfN:Env:={ EB with
 frzNew:=[2,3] }
def Zdq(aD aE aF aG aO aK aL aN:Int)(m:Mem)(R:RT):Prop:=
 ∀(b:Nat)(m':Mem),Mem.le m m'->Mem.reads m' b 0 [int i64 aD,int i64 aE,int i64 aF,int i64 aG]->∀(b:Nat)(m'_1:Mem),Mem.le m' m'_1->Mem.reads m'_1 b 0 [int i64 aO,int i64 aK,int i64 aL,
 int i64 aN]->∃(b:Bool),EqIs Try.prog 72 (agg (Array.mk [int i64 aD,int i64 aE,int i64 aF,int i64 aG])) (agg (Array.mk [int i64 aO,int i64 aK,int i64 aL,int i64 aN])) b/\∃(m'':Mem),
 Mem.le m m''/\Mem.le m'' m'_1/\R (bool b) m'' []
theorem Zfx(aD aE aF aG aO aK aL aN:Int)(m:Mem)(R:RT)(h:Zdq aD aE aF aG aO aK aL aN m R):CX Try.prog 94 #[.agg #[.int .i64 aD,.int .i64 aE,.int .i64 aF,.int .i64 aG],.agg #[.int .i64 aO,.int .i64 aK,.int .i64 aL,.int .i64 aN]] m [] R:=
 Zad (E:=ZfN) ZaE mix Try.func94 [.v (.agg #[.int .i64 aD,.int .i64 aE,.int .i64 aF,.int .i64 aG]),.v (.agg #[.int .i64 aO,.int .i64 aK,.int .i64 aL,.int .i64 aN])] [] (by kernel_rfl) (Eq.mp (by kernel_rfl) h)
noncomputable def Zij:Env:=EB
def Zeh(p0a:Option Addr)(p0n p0c:Nat)(p1a:Option Addr)(p1n p1c:Nat)(m:Mem)(R:RT):Prop:=
 ∃(R_1:RT),True/\CX Try.prog 93 (Array.mk [slice p0a p0n p0c,slice p1a p1n p1c,func (Fn.func 94) (Array.mk []) (Array.mk [])]) m [] R_1/\Zat Shape.bool R_1/\∀(b:Bool)(m':Mem),Mem.le m m'->R_1 (bool b)
 m' []->∃(m'':Mem),Mem.le m m''/\Mem.le m'' m'/\R (bool b) m'' []
theorem ZgZ(p0a:Option Addr)(p0n p0c:Nat)(p1a:Option Addr)(p1n p1c:Nat)(m:Mem)(R:RT)(h:Zeh p0a p0n p0c p1a p1n p1c m R):CX Try.prog 61 #[.slice p0a p0n p0c,.slice p1a p1n p1c] m [] R:=
 Zad (E:=Zij) ZaE mix Try.func61 [.v (.slice p0a p0n p0c),.v (.slice p1a p1n p1c)] [] (by kernel_rfl) (Eq.mp (by kernel_rfl) h)
noncomputable def ZaT:Env:={ EB with
 loops:=(λi=>bif Nat.beq i 4 then⟨[(17,.int .i64)],[],[],false⟩ else⟨[],[],[],false⟩) }
def Zav(p0a:Option Addr)(p0n p0c:Nat)(p1a:Option Addr)(p1n p1c p2g:Nat)(p2fi p2ca:List Value)(m:Mem)(R:RT):Prop:=
 br (!(↑p0n:Int) == (↑p1n:Int)) (∃(m'':Mem),Mem.le m m''/\Mem.le m'' m/\R (bool false) m'' []) (∃(I:IT),(∃(n:Nat),I [int i64 0] [] [] m n)/\∀(n:Int)(m':Mem)(n_1:Nat),Mem.le m m'->I [int i64
 n] [] [] m' n_1->br (decide (n < (↑p0n:Int))) (∃(b:Nat),∃(o:Nat),p0a=some (Addr.mk b o none)/\Zae n p0n/\∃(v:Value),∃(v_1:Value),∃(v_2:Value),∃(v_3:Value),Mem.reads m' b (o+Int.toNat
 n*4) [v,v_1,v_2,v_3]/\∀(b:Nat),chk (Value.oneCell' v&&(Value.oneCell' v_1&&(Value.oneCell' v_2&&(Value.oneCell' v_3&&true)))) (∃(b:Nat),∃(o:Nat),p1a=some (Addr.mk b o none)/\Zae n p1n/\
 ∃(v_4:Value),∃(v_5:Value),∃(v_6:Value),∃(v_7:Value),Mem.reads m' b (o+Int.toNat n*4) [v_4,v_5,v_6,v_7]/\∀(b:Nat),chk (Value.oneCell' v_4&&(Value.oneCell' v_5&&(Value.oneCell' v_6 &&
 (Value.oneCell' v_7&&true)))) (∃(R_1:RT),True/\CX Try.prog p2g (Array.mk (List.append (List.append p2fi [agg (Array.mk [v,v_1,v_2,v_3]),agg (Array.mk [v_4,v_5,v_6,v_7])]) p2ca)) m' [] R_1/\Zat Shape.bool
 R_1/\∀(b:Bool)(m'_1:Mem),Mem.le m' m'_1->R_1 (bool b) m'_1 []->br (!b) (∃(m'':Mem),Mem.le m m''/\Mem.le m'' m'_1/\R (bool false) m'' []) (∃(n':Nat),n' < n_1/\I [int i64 (IntKind.wrap i64 (n+(1:
 Int)))] [] [] m'_1 n')))) (∃(m'':Mem),Mem.le m m''/\Mem.le m'' m'/\R (bool true) m'' []))
theorem ZaS(p0a:Option Addr)(p0n p0c:Nat)(p1a:Option Addr)(p1n p1c p2g:Nat)(p2fi p2ca:List Value)(m:Mem)(R:RT)(h:Zav p0a p0n p0c p1a p1n p1c p2g p2fi p2ca m R):CX Try.prog 93 #[.slice p0a p0n p0c,.slice p1a p1n p1c,.func (.func p2g) p2fi.toArray p2ca.toArray] m [] R:=
 Zad (E:=ZaT) ZaE mix Try.func93 [.v (.slice p0a p0n p0c),.v (.slice p1a p1n p1c),.v (.func (.func p2g) p2fi.toArray p2ca.toArray)] [] (by kernel_rfl) (Eq.mp (by kernel_rfl) h)
noncomputable def Zjx:Env:={ EB with
 dr:=(λi=>bif Nat.beq i 1 then[⟨0,[2],[],none,[],[]⟩,⟨1,[],[],none,[0],[]⟩,⟨2,[3],[],none,[],[]⟩,⟨3,[],[],none,[0,1,2],[]⟩,⟨4,[],[],none,[0,1,2,3],[]⟩]else[])
 frzNew:=[2,3] }
def ZeM(aD aE aF aG:Int)(p1:List Value)(m:Mem)(R:RT):Prop:=
 ∀(b:Nat)(m':Mem),Mem.le m m'->Mem.reads m' b 0 [int u64 aD,int u64 aE,int u64 aF,int u64 aG]->chk (Nat.beq (List.length p1) 256) (∀(b:Nat)(m'_1:Mem),Mem.le m' m'_1->Mem.reads m'_1 b 0 p1->∃
 (f:Fx),∃(R_1:RT),R_1=f 1 [agg (Array.mk [int u64 aD,int u64 aE,int u64 aF,int u64 aG])] m'_1/\CX Try.prog 65 (Array.mk [agg (Array.mk [int u64 aD,int u64 aE,int u64 aF,int u64 aG])]) m'_1
 [] R_1/\Zat Shape.cells R_1/\∀(cs:List Value)(m':Mem),Mem.le m'_1 m'->R_1 (agg (Array.mk cs)) m' []->∃(b:Bool),EqIs Try.prog 67 (agg (Array.mk cs)) (agg (Array.mk p1)) b/\∀(M:Mem),Mem.le m'_1 M->
 Mem.le m' M->∃(m'':Mem),Mem.le m m''/\Mem.le m'' M/\R (bool b) m'' [])
theorem Zik(aD aE aF aG:Int)(p1:List Value)(m:Mem)(R:RT)(h:ZeM aD aE aF aG p1 m R):CX Try.prog 64 #[.agg #[.int .u64 aD,.int .u64 aE,.int .u64 aF,.int .u64 aG],.agg p1.toArray] m [] R:=
 Zad (E:=Zjx) ZaE mix Try.func64 [.v (.agg #[.int .u64 aD,.int .u64 aE,.int .u64 aF,.int .u64 aG]),.v (.agg p1.toArray)] [] (by kernel_rfl) (Eq.mp (by kernel_rfl) h)
noncomputable def Za0:Env:={ EB with
 loops:=(λi=>bif Nat.beq i 4 then⟨[(17,.int .i64)],[],[],false⟩ else⟨[],[],[],false⟩) }
def Zaz(p0a:Option Addr)(p0n p0c:Nat)(p1a:Option Addr)(p1n p1c p2g:Nat)(p2fi p2ca:List Value)(m:Mem)(R:RT):Prop:=
 br (!(↑p0n:Int) == (↑p1n:Int)) (∃(m'':Mem),Mem.le m m''/\Mem.le m'' m/\R (bool false) m'' []) (∃(I:IT),(∃(n:Nat),I [int i64 0] [] [] m n)/\∀(n:Int)(m':Mem)(n_1:Nat),Mem.le m m'->I [int i64
 n] [] [] m' n_1->br (decide (n < (↑p0n:Int))) (∃(b:Nat),∃(o:Nat),p0a=some (Addr.mk b o none)/\Zae n p0n/\∃(v:Value),∃(v_1:Value),∃(v_2:Value),∃(v_3:Value),Mem.reads m' b (o+Int.toNat
 n*4) [v,v_1,v_2,v_3]/\∀(b:Nat),chk (Value.oneCell' v&&(Value.oneCell' v_1&&(Value.oneCell' v_2&&(Value.oneCell' v_3&&true)))) (∃(b:Nat),∃(o:Nat),p1a=some (Addr.mk b o none)/\Zae n p1n/\
 ∃(vs:List Value),List.length vs=256/\Mem.reads m' b (o+Int.toNat n*256) vs/\∀(b:Nat),chk (Nat.beq (List.length vs) 256&&ZbC vs) (∃(R_1:RT),True/\CX Try.prog p2g (Array.mk (List.append
 (List.append p2fi [agg (Array.mk [v,v_1,v_2,v_3]),agg (Array.mk vs)]) p2ca)) m' [] R_1/\Zat Shape.bool R_1/\∀(b:Bool)(m'_1:Mem),Mem.le m' m'_1->R_1 (bool b) m'_1 []->br (!b) (∃(m'':Mem),Mem.le m m''
 /\ Mem.le m'' m'_1/\R (bool false) m'' []) (∃(n':Nat),n' < n_1/\I [int i64 (IntKind.wrap i64 (n+(1:Int)))] [] [] m'_1 n')))) (∃(m'':Mem),Mem.le m m''/\Mem.le m'' m'/\R (bool true) m'' []))
theorem ZaZ(p0a:Option Addr)(p0n p0c:Nat)(p1a:Option Addr)(p1n p1c p2g:Nat)(p2fi p2ca:List Value)(m:Mem)(R:RT)(h:Zaz p0a p0n p0c p1a p1n p1c p2g p2fi p2ca m R):CX Try.prog 62 #[.slice p0a p0n p0c,.slice p1a p1n p1c,.func (.func p2g) p2fi.toArray p2ca.toArray] m [] R:=
 Zad (E:=Za0) ZaE mix Try.func62 [.v (.slice p0a p0n p0c),.v (.slice p1a p1n p1c),.v (.func (.func p2g) p2fi.toArray p2ca.toArray)] [] (by kernel_rfl) (Eq.mp (by kernel_rfl) h)
noncomputable def Znv:Env:={ EB with
 loops:=(λi=>bif Nat.beq i 8 then⟨[(61,.int .i64)],[],[],false⟩ else⟨[],[],[],false⟩)
 joins:=(λi=>bif Nat.beq i 10 then some [(77,.bool)]else bif Nat.beq i 14 then some [(2,.bool)]else bif Nat.beq i 17 then some [(159,.bool)]else none)
 dr:=(λi=>bif Nat.beq i 1 then[⟨0,[1],[],none,[],[]⟩,⟨1,[],[],none,[0],[]⟩,⟨2,[1],[],none,[],[]⟩,⟨3,[],[],none,[0,1,2],[1]⟩,⟨4,[3],[3],none,[],[]⟩,⟨5,[4],[4],none,[],[]⟩,⟨6,[3],[3],none,[0,1,2,3,4,5],[]⟩,⟨7,[4],[4],none,[0,1,2,3,4,5,6],[]⟩]else[])
 frzNew:=[1]
 gb:=true
 thaw:=true
 lentC:=(λi=>bif Nat.beq i 161 then some []else none) }
abbrev Zgm:Int->Int->Int->Int->Int->Nat->Option Box:=λ(n aa ab ac ad:Int)(b:Nat)=>some (Box.mk b [int i64 n,int i64 aa,int i64 ab,int i64 ac,int i64 ad] 37 5 true true)
abbrev Zgn:Int->Int->Int->Int->Nat->Option Box:=λ(n aa ab ac:Int)(b:Nat)=>some (Box.mk b [int i64 n,int i64 aa,int i64 ab,int i64 ac] 29 4 false true)
abbrev Zce:Int->Int->Int->Int->Int->Int->Int->Option Addr->Nat->Nat->Nat->Option Box:=λ(n aa ab ac ad ae af:Int)(a:Option Addr)(ag c b:Nat)=>some (Box.mk b [int u8 n,int u64 aa,
 int u64 ab,int u64 ac,int u64 ad,int i64 ae,int i64 af,slice a ag c] 27 8 false true)
abbrev ZcG:List Value->Nat->Option Box:=λ(cs:List Value)(b:Nat)=>some (Box.mk b cs 70 260 false true)
abbrev Zgo:Int->Int->Int->Int->Int->Int->Int->Option Addr->Nat->Nat->Nat->Option Box:=λ(aD aE aF aG aJ aH aI:Int)(aB:Option Addr)(aA aC b:Nat)=>some (Box.mk
 b [int u8 aD,int u64 aE,int u64 aF,int u64 aG,int u64 aJ,int i64 aH,int i64 aI,slice aB aA aC] 27 8 true true)
abbrev ZbB:Int->Int->Int->Int->Int->Int->Int->Option Addr->Nat->Nat->Nat->Int->Int->Int->Int->Int->Int->Int->Option Addr->Nat->Nat->List Value->Nat->Nat->Int->Int->Int->Int->Int
 -> Int->Int->Option Addr->Nat->Nat->Int->Nat->Int->Int->Int->Int->Int->Int->Nat->Int->Int->Nat->List (Option Box):=λ(aD aE aF aG aJ aH aI:Int)(aB:Option Addr) (aA aC b:
 Nat) (n aa ab ac ad ae af:Int) (a:Option Addr) (ag c:Nat) (cs:List Value) (az a0:Nat) (ah ak al am an ao ap:Int) (bw:Option Addr) (ai aq:Nat) (aj:Int) (a5:Nat) (bh ar au av aw ax:Int) (bj:Nat)
 (bi ay:Int) (a6:Nat)=>[Zgm aj bh ax bi ay a6,Zgn ar au av aw bj,Zce ah ak al am an ao ap bw ai aq a5,Zce n aa ab ac ad ae af a ag c az,ZcG cs a0,
 Zce n aa ab ac ad ae af a ag c az,ZcG cs a0,Zgo aD aE aF aG aJ aH aI aB aA aC b]
abbrev ZkS:Int->Int->Int->Int->Nat->Option Box:=λ(n aa ab ac:Int)(b:Nat)=>some (Box.mk b [int i64 n,int i64 aa,int i64 ab,int i64 ac] 72 4 false true)
abbrev ZbS:Int->Int->Int->Int->Int->Int->Int->Option Addr->Nat->Nat->Nat->Int->Int->Int->Int->Int->Int->Int->Option Addr->Nat->Nat->List Value->Nat->Nat->Int->Int->Int->Int->Int
 -> Int->Int->Option Addr->Nat->Nat->Int->Nat->Int->Int->Int->Int->Int->Int->Nat->Int->Int->Nat->List Value->Nat->Int->Int->Int->Int->Nat->List (Option Box):=λ(aD aE aF aG aJ aH
 aI:Int) (aB:Option Addr) (aA aC b:Nat) (n aa ab ac ad ae af:Int) (a:Option Addr) (ag c:Nat) (cs:List Value) (az a0:Nat) (ah ak al am an ao ap:Int) (bw:Option Addr) (ai aq:Nat) (aj:Int)
 (a5:Nat) (bh ar au av aw ax:Int) (bj:Nat) (bi ay:Int) (a6:Nat) (a9:List Value) (a3:Nat) (bm a1 bn a2:Int) (a4:Nat)=>[ZkS bm a1 bn a2 a4,ZcG a9 a3,Zgm aj bh ax bi ay
 a6,Zgn ar au av aw bj,Zce ah ak al am an ao ap bw ai aq a5,Zce n aa ab ac ad ae af a ag c az,ZcG cs a0,Zce n aa ab ac ad ae af a ag c az,ZcG cs a0,
 Zgo aD aE aF aG aJ aH aI aB aA aC b]
def Zgp(aD aE aF aG aJ aH aI:Int)(aB:Option Addr)(aA aC:Nat)(m:Mem)(R:RT):Prop:=
 ∀(b:Nat)(m':Mem),Mem.le m m'->Mem.reads m' b 0 [int u8 aD,int u64 aE,int u64 aF,int u64 aG,int u64 aJ,int i64 aH,int i64 aI,slice aB aA aC]->Mem.free m b->(∀(b' o:Nat) (u:
 Value),m' b' o=some u->m b' o=some u\/b'=b)->∃(f:Fx),∃(R_1:RT),R_1=f 1 [agg (Array.mk [int u8 aD,int u64 aE,int u64 aF,int u64 aG,int u64 aJ,int i64 aH,int i64 aI,slice aB
 aA aC])] m'/\CX Try.prog 38 (Array.mk [agg (Array.mk [int u8 aD,int u64 aE,int u64 aF,int u64 aG,int u64 aJ,int i64 aH,int i64 aI,slice aB aA aC])]) m' [] R_1/\Zat (shT) R_1/\∀(n
 aa ab ac ad ae af:Int) (a:Option Addr) (ag c:Nat) (bl:Mem),Mem.le m' bl->R_1 (agg (Array.mk [int u8 n,int u64 aa,int u64 ab,int u64 ac,int u64 ad,int i64 ae,int i64 af,slice a ag c])) bl []->∃(R_2:
 RT),R_2=f 3 [agg (Array.mk [int u8 aD,int u64 aE,int u64 aF,int u64 aG,int u64 aJ,int i64 aH,int i64 aI,slice aB aA aC])] bl/\CX Try.prog 39 (Array.mk [agg (Array.mk [int u8 aD,int
 u64 aE,int u64 aF,int u64 aG,int u64 aJ,int i64 aH,int i64 aI,slice aB aA aC])]) bl [] R_2/\Zat Shape.cells R_2/\∀(cs:List Value)(bu:Mem),Mem.le bl bu->R_2 (agg (Array.mk cs)) bu []
 -> ∀(az a0:Nat),chk (Nat.beq (List.length cs) 260&&ZbC cs) (∀(M:Mem),Mem.le m' M->Mem.le bl M->Mem.le bu M->∃(R_3:RT),True/\CX Try.prog 17 (Array.mk [agg (Array.mk [int u8 n,int u64 aa,int u64 ab,
 int u64 ac,int u64 ad,int i64 ae,int i64 af,slice a ag c])]) M [] R_3/\Zat (Shape.tup [shT,Shape.int i64]) R_3/\∀(ah ak al am an ao ap:Int)(a7:Option Addr)(ai aq:Nat)(aj:Int)(m':Mem),Mem.le M m'
 -> R_3 (tuple (Array.mk [agg (Array.mk [int u8 ah,int u64 ak,int u64 al,int u64 am,int u64 an,int i64 ao,int i64 ap,slice a7 ai aq]),int i64 aj])) m' []->∀(a5:Nat),∃(R_4:RT),True/\CX Try.prog 28
 (Array.mk [agg (Array.mk [int u8 n,int u64 aa,int u64 ab,int u64 ac,int u64 ad,int i64 ae,int i64 af,slice a ag c])]) m' [] R_4/\Zat (Shape.tup [Shape.slice,Shape.int i64]) R_4/\∀(bx:Option Addr) (bh bz:
 Nat) (ar:Int) (bp:Mem),Mem.le m' bp->R_4 (tuple (Array.mk [slice bx bh bz,int i64 ar])) bp []->∃(R_5:RT),True/\CX Try.prog 29 (Array.mk [agg (Array.mk [int u8 n,int u64 aa,int u64 ab,int u64 ac,int u64
 ad,int i64 ae,int i64 af,slice a ag c])]) bp [] R_5/\Zat (Shape.tup [Shape.agg [Shape.int i64,Shape.int i64,Shape.int i64,Shape.int i64],Shape.int i64,Shape.bool,Shape.int i64]) R_5/\∀(au av aw ax bi:Int)
 (bj:Bool) (ay:Int) (m':Mem),Mem.le bp m'->R_5 (tuple (Array.mk [agg (Array.mk [int i64 au,int i64 av,int i64 aw,int i64 ax]),int i64 bi,bool bj,int i64 ay])) m' []->∀(a6:Nat),∃(R_6:RT),True/\CX
 Try.prog 32 (Array.mk [agg (Array.mk [int u8 n,int u64 aa,int u64 ab,int u64 ac,int u64 ad,int i64 ae,int i64 af,slice a ag c])]) m' [] R_6/\Zat (Shape.tup [Shape.slice,Shape.int i64]) R_6/\∀(ca:Option
 Addr) (bm cb:Nat) (a1:Int) (bq:Mem),Mem.le m' bq->R_6 (tuple (Array.mk [slice ca bm cb,int i64 a1])) bq []->∃(R_7:RT),True/\CX Try.prog 18 (Array.mk [agg (Array.mk [int u8 n,int u64 aa,int u64 ab,int
 u64 ac,int u64 ad,int i64 ae,int i64 af,slice a ag c])]) bq [] R_7/\Zat (Shape.tup [Shape.slice,Shape.int i64]) R_7/\∀(cc:Option Addr)(bn cd:Nat)(a2:Int)(m':Mem),Mem.le bq m'->R_7 (tuple (Array.mk
 [slice cc bn cd,int i64 a2])) m' []->∀(a3:Nat),Mem.free m' a3->∃(I:IT),(∃(n:Nat),I [int i64 0] [] [] (Mem.add m' a3 [int i64 aj,int i64 ar,int i64 ay,int i64 a1,int i64 a2]) n)/\∀(bo:Int) (m':
 Mem) (ce:Nat),True->I [int i64 bo] [] [] m' ce->br (decide (bo < (↑(5:Nat):Int))) (Zae bo 5/\Eng.Zv0 [int i64 aj,int i64 ar,int i64 ay,int i64 a1,int i64 a2] (Int.toNat bo*1) λ(v:Value)=>∃
 (a4:Bool),chk (ZaD i64 v&&decide (i64=i64)) (∃(R:RT),True/\CX Try.prog 40 (Array.mk [agg (Array.mk cs)]) m' [] R/\Zat Shape.bool R/\∀(a8:Bool)(bk:Mem),Mem.le m' bk->R (bool a8) bk []->br
 (!(RowKit.intOf v == (0:Int)) == a8) (Zau (ZbB aD aE aF aG aJ aH aI aB aA aC b n aa ab ac ad ae af a ag c cs az a0 ah ak al am an ao ap a7 ai aq aj a5 ar au av aw ax ay a6 a1 a2
 a3)/\[bool true]=[bool a4]) (chk (ZaD i64 v&&decide (i64=i64)) (br (!RowKit.intOf v == (0:Int)) (chk (ZaD i64 v&&decide (i64=i64)) (Zau (ZbB aD aE aF aG aJ aH aI aB aA
 aC b n aa ab ac ad ae af a ag c cs az a0 ah ak al am an ao ap a7 ai aq aj a5 ar au av aw ax ay a6 a1 a2 a3)/\[bool !RowKit.intOf v == (2:Int)]=[bool a4])) (Zau (ZbB aD aE aF aG aJ aH
 aI aB aA aC b n aa ab ac ad ae af a ag c cs az a0 ah ak al am an ao ap a7 ai aq aj a5 ar au av aw ax ay a6 a1 a2 a3)/\[bool false]=[bool a4]))))/\br a4 (∃(m'':Mem),Mem.le m m''/\Mem.le m'' m'/\R
 (bool false) m'' []) (Zau (ZbB aD aE aF aG aJ aH aI aB aA aC b n aa ab ac ad ae af a ag c cs az a0 ah ak al am an ao ap a7 ai aq aj a5 ar au av aw ax ay a6 a1 a2 a3)/\∃(n':Nat),
 n' < ce/\I [int i64 (IntKind.wrap i64 (bo+(1:Int)))] [] [] m' n')) (br (!aj == (0:Int)) (∃(a4:Bool),br (ah == (0:Int)) (br (IntKind.wrap i64 (IntKind.wrap i64 (IntKind.wrap i64 (IntKind.wrap i64 ((↑ai:
 Int)+(↑bh:Int))+(↑bm:Int))+(↑bn:Int))+bi) == (0:Int)) (∃(a8:Bool),EqIs Try.prog 29 (agg (Array.mk [int i64 au,int i64 av,int i64 aw,int i64 ax])) (agg (Array.mk [int i64 0,int i64 0,int i64 0,
 int i64 0])) a8/\br a8 (Zau (ZbB aD aE aF aG aJ aH aI aB aA aC b n aa ab ac ad ae af a ag c cs az a0 ah ak al am an ao ap a7 ai aq aj a5 ar au av aw ax ay a6 a1 a2 a3)/\[bool !bj]
 = [bool a4]) (Zau (ZbB aD aE aF aG aJ aH aI aB aA aC b n aa ab ac ad ae af a ag c cs az a0 ah ak al am an ao ap a7 ai aq aj a5 ar au av aw ax ay a6 a1 a2 a3)/\[bool false]=[bool
 a4])) (Zau (ZbB aD aE aF aG aJ aH aI aB aA aC b n aa ab ac ad ae af a ag c cs az a0 ah ak al am an ao ap a7 ai aq aj a5 ar au av aw ax ay a6 a1 a2 a3)/\[bool false]=[bool a4]))
 (Zau (ZbB aD aE aF aG aJ aH aI aB aA aC b n aa ab ac ad ae af a ag c cs az a0 ah ak al am an ao ap a7 ai aq aj a5 ar au av aw ax ay a6 a1 a2 a3)/\[bool false]=[bool a4])/\∃(m''
 : Mem),Mem.le m m''/\Mem.le m'' m'/\R (bool a4) m'' []) (∃(R_8:RT),True/\CX Try.prog 59 (Array.mk [agg (Array.mk cs)]) m' [] R_8/\Zat (Shape.tup [Shape.slice,Shape.cells]) R_8/\∀(cf:Option Addr) (cg ch:
 Nat) (a9:List Value) (bk:Mem),Mem.le m' bk->R_8 (tuple (Array.mk [slice cf cg ch,agg (Array.mk a9)])) bk []->∀(a4:Nat),chk (Nat.beq (List.length a9) 260&&ZbC a9) (∃(R_9:RT),True/\CX Try.prog 60
 (Array.mk [agg (Array.mk cs)]) bk [] R_9/\Zat (Shape.tup [Shape.agg [Shape.int i64,Shape.int i64,Shape.int i64,Shape.int i64],Shape.int i64]) R_9/\∀(bb bc bd be bv:Int)(m':Mem),Mem.le bk m'->R_9 (tuple
 (Array.mk [agg (Array.mk [int i64 bb,int i64 bc,int i64 bd,int i64 be]),int i64 bv])) m' []->∀(a8:Nat),∃(bg:Bool),(∃(R:RT),True/\CX Try.prog 43 (Array.mk [agg (Array.mk [int u8 ah,int u64 ak,int u64
 al,int u64 am,int u64 an,int i64 ao,int i64 ap,slice a7 ai aq]),agg (Array.mk a9)]) m' [] R/\Zat Shape.bool R/\∀(bf:Bool)(ba:Mem),Mem.le m' ba->R (bool bf) ba []->br (!bf) (Zau (ZbS aD
 aE aF aG aJ aH aI aB aA aC b n aa ab ac ad ae af a ag c cs az a0 ah ak al am an ao ap a7 ai aq aj a5 ar au av aw ax ay a6 a1 a2 a3 a9 a4 bb bc bd be a8)/\[bool true]=[bool bg]) (∃(R:RT),True
 /\ CX Try.prog 61 (Array.mk [slice bx bh bz,slice cf cg ch]) ba [] R/\Zat Shape.bool R/\∀(ci:Bool)(m':Mem),Mem.le ba m'->R (bool ci) m' []->br (!ci) (Zau (ZbS aD aE aF aG aJ aH aI
 aB aA aC b n aa ab ac ad ae af a ag c cs az a0 ah ak al am an ao ap a7 ai aq aj a5 ar au av aw ax ay a6 a1 a2 a3 a9 a4 bb bc bd be a8)/\[bool true]=[bool bg]) (∃(R:RT),True/\CX Try.prog 41 (Array.mk
 [agg (Array.mk cs)]) m' [] R/\Zat Shape.slice R/\∀(cj:Option Addr)(ck cl:Nat)(bs:Mem),Mem.le m' bs->R (slice cj ck cl) bs []->∃(R:RT),True/\CX Try.prog 61 (Array.mk [slice ca bm cb,slice cj ck cl])
 bs [] R/\Zat Shape.bool R/\∀(cm:Bool)(m':Mem),Mem.le bs m'->R (bool cm) m' []->br (!cm) (Zau (ZbS aD aE aF aG aJ aH aI aB aA aC b n aa ab ac ad ae af a ag c cs az a0 ah
 ak al am an ao ap a7 ai aq aj a5 ar au av aw ax ay a6 a1 a2 a3 a9 a4 bb bc bd be a8)/\[bool true]=[bool bg]) (∃(cn:Bool),EqIs Try.prog 72 (agg (Array.mk [int i64 au,int i64 av,int i64 aw,int i64 ax])) (agg
 (Array.mk [int i64 bb,int i64 bc,int i64 bd,int i64 be])) cn/\br (!cn) (Zau (ZbS aD aE aF aG aJ aH aI aB aA aC b n aa ab ac ad ae af a ag c cs az a0 ah ak al am an ao ap a7 ai aq
 aj a5 ar au av aw ax ay a6 a1 a2 a3 a9 a4 bb bc bd be a8)/\[bool true]=[bool bg]) (br (!bi == bv) (Zau (ZbS aD aE aF aG aJ aH aI aB aA aC b n aa ab ac ad ae af a ag c cs az a0 ah
 ak al am an ao ap a7 ai aq aj a5 ar au av aw ax ay a6 a1 a2 a3 a9 a4 bb bc bd be a8)/\[bool true]=[bool bg]) (br (!bj == decide (bv > (0:Int))) (Zau (ZbS aD aE aF aG aJ aH aI aB aA
 aC b n aa ab ac ad ae af a ag c cs az a0 ah ak al am an ao ap a7 ai aq aj a5 ar au av aw ax ay a6 a1 a2 a3 a9 a4 bb bc bd be a8)/\[bool true]=[bool bg]) (∃(R:RT),True/\CX Try.prog 63 (Array.mk [agg (Array.mk
 cs)]) m' [] R/\Zat Shape.slice R/\∀(co:Option Addr)(cp cq:Nat)(bt:Mem),Mem.le m' bt->R (slice co cp cq) bt []->∃(R:RT),True/\CX Try.prog 62 (Array.mk [slice cc bn cd,slice co cp cq,func (Fn.func
 64) (Array.mk []) (Array.mk [])]) bt [] R/\Zat Shape.bool R/\∀(cr:Bool)(m':Mem),Mem.le bt m'->R (bool cr) m' []->Zau (ZbS aD aE aF aG aJ aH aI aB aA aC b n aa ab ac ad ae
 af a ag c cs az a0 ah ak al am an ao ap a7 ai aq aj a5 ar au av aw ax ay a6 a1 a2 a3 a9 a4 bb bc bd be a8)/\[bool !cr]=[bool bg])))))))/\br bg (∃(m'':Mem),Mem.le m m''/\Mem.le m'' m'/\R (bool false) m'' []) (∃
 (Y:Nat->Prop),∃(R_10:Value->Mem->List (List Value)->List Value->Prop),CXY Try.prog 45 (Array.mk [agg (Array.mk [int u8 ah,int u64 ak,int u64 al,int u64 am,int u64 an,int i64 ao,int i64 ap,slice a7 ai
 aq])]) m' Y [] [] R_10/\(∀(t:Tok),t∈[]->∀(b:Nat),Tok.blk t=some b->Y b)/\(∀(bf:Nat),Y bf->(∃(t:Tok),t∈[]/\Tok.blk t=some bf)\/Mem.free m bf/\(∃(o:Nat),∃(v:Value),m' bf o=some v)
 /\ a3≠bf/\b≠bf/\True)/\(∀(v:Value)(m':Mem) (css:List (List Value)) (tvs:List Value),R_10 v m' css tvs->Shape.fits (Shape.tup []) v=true)/\∀(ba:Mem),Mem.le (Mem.off m' Y) ba->(∀(b o:Nat) (u:
 Value),ba b o=some u->m' b o=some u\/Y b\/Mem.free m' b)->R_10 (tuple (Array.mk [])) ba [] []->∃(R_11:RT),True/\CX Try.prog 43 (Array.mk [agg (Array.mk [int u8 n,int u64 aa,int u64 ab,int u64 ac,int
 u64 ad,int i64 ae,int i64 af,slice a ag c]),agg (Array.mk cs)]) ba [] R_11/\Zat Shape.bool R_11/\∀(b:Bool)(m':Mem),Mem.le ba m'->R_11 (bool b) m' []->∃(m'':Mem),Mem.le m m''/\Mem.le m'' m'/\R (bool
 b) m'' [])))))
theorem ZkT(aD aE aF aG aJ aH aI:Int)(aB:Option Addr)(aA aC:Nat)(m:Mem)(R:RT)(h:Zgp aD aE aF aG aJ aH aI aB aA aC m R):CX Try.prog 23 #[.agg #[.int .u8 aD,.int .u64 aE,.int .u64 aF,.int .u64 aG,.int .u64 aJ,.int .i64 aH,.int .i64 aI,.slice aB aA aC]] m [] R:=
 Zad (E:=Znv) ZaE mix Try.func23 [.v (.agg #[.int .u8 aD,.int .u64 aE,.int .u64 aF,.int .u64 aG,.int .u64 aJ,.int .i64 aH,.int .i64 aI,.slice aB aA aC])] [] (by kernel_rfl) (Eq.mp (by kernel_rfl) h)
noncomputable def Zfy:Env:={ EB with
 joins:=(λi=>bif Nat.beq i 1 then some [(2,.bool)]else none)
 frzNew:=[1] }
def Zdb(aD aE aF aG aJ aH aI:Int)(aB:Option Addr)(aA aC:Nat)(m:Mem)(R:RT):Prop:=
 ∀(b:Nat)(m':Mem),Mem.le m m'->Mem.reads m' b 0 [int u8 aD,int u64 aE,int u64 aF,int u64 aG,int u64 aJ,int i64 aH,int i64 aI,slice aB aA aC]->∃(b_1:Bool),(∃(R:RT),True/\CX
 Try.prog 10 (Array.mk [agg (Array.mk [int u8 aD,int u64 aE,int u64 aF,int u64 aG,int u64 aJ,int i64 aH,int i64 aI,slice aB aA aC])]) m' [] R/\Zat Shape.bool R/\∀(b_2:Bool) (m'_1:
 Mem),Mem.le m' m'_1->R (bool b_2) m'_1 []->br (!b_2) (∃(R:RT),True/\CX Try.prog 12 (Array.mk []) m'_1 [] R/\Zat Shape.bool R/\∀(b_3:Bool)(m':Mem),Mem.le m'_1 m'->R (bool b_3) m' []->[some (Box.mk b
 [int u8 aD,int u64 aE,int u64 aF,int u64 aG,int u64 aJ,int i64 aH,int i64 aI,slice aB aA aC] 27 8 true true)]=[some (Box.mk b [int u8 aD,int u64 aE,int u64 aF,int u64 aG,int
 u64 aJ,int i64 aH,int i64 aI,slice aB aA aC] 27 8 true true)]/\[bool b_3]=[bool b_1]) (∃(R:RT),True/\CX Try.prog 23 (Array.mk [agg (Array.mk [int u8 aD,int u64 aE,int u64 aF,int u64
 aG,int u64 aJ,int i64 aH,int i64 aI,slice aB aA aC])]) m'_1 [] R/\Zat Shape.bool R/\∀(b_3:Bool)(m':Mem),Mem.le m'_1 m'->R (bool b_3) m' []->br b_3 (∃(R:RT),True/\CX Try.prog 12
 (Array.mk []) m' [] R/\Zat Shape.bool R/\∀(b_4:Bool)(m'_2:Mem),Mem.le m' m'_2->R (bool b_4) m'_2 []->[some (Box.mk b [int u8 aD,int u64 aE,int u64 aF,int u64 aG,int u64 aJ,int i64 aH,int
 i64 aI,slice aB aA aC] 27 8 true true)]=[some (Box.mk b [int u8 aD,int u64 aE,int u64 aF,int u64 aG,int u64 aJ,int i64 aH,int i64 aI,slice aB aA aC] 27 8 true true)]/\[bool
 b_4]=[bool b_1]) ([some (Box.mk b [int u8 aD,int u64 aE,int u64 aF,int u64 aG,int u64 aJ,int i64 aH,int i64 aI,slice aB aA aC] 27 8 true true)]=[some (Box.mk b [int u8 aD,int u64
 aE,int u64 aF,int u64 aG,int u64 aJ,int i64 aH,int i64 aI,slice aB aA aC] 27 8 true true)]/\[bool false]=[bool b_1])))/\∃(m'':Mem),Mem.le m m''/\Mem.le m'' m'/\R (bool b_1) m'' []
theorem ZeQ(aD aE aF aG aJ aH aI:Int)(aB:Option Addr)(aA aC:Nat)(m:Mem)(R:RT)(h:Zdb aD aE aF aG aJ aH aI aB aA aC m R):CX Try.prog 5 #[.agg #[.int .u8 aD,.int .u64 aE,.int .u64 aF,.int .u64 aG,.int .u64 aJ,.int .i64 aH,.int .i64 aI,.slice aB aA aC]] m [] R:=
 Zad (E:=Zfy) ZaE mix Try.func5 [.v (.agg #[.int .u8 aD,.int .u64 aE,.int .u64 aF,.int .u64 aG,.int .u64 aJ,.int .i64 aH,.int .i64 aI,.slice aB aA aC])] [] (by kernel_rfl) (Eq.mp (by kernel_rfl) h)
end Go.Proofs.Ytfgfahnakepegaa
set_option linter.unusedVariables false
set_option linter.unusedSimpArgs false
set_option linter.unusedSectionVars false
namespace Go.Proofs.Ytfgfahnakepegaa
open Go Go.Eng Go.Rx Go.Proofs Go.RowKit
set_option maxRecDepth 100000
theorem ZrF(k:C4)(m:Mem):CX Try.prog 94 #[k.v,k.v] m [] (Ret (.bool true)):=by
 apply Zfx
 unfold Zdq
 intro b m1 aM _ b2 m2 aP _
 refine⟨_,ZwB _ _ _ _ _ _ _ _,Zah (mLt aM aP) ?_⟩
 simp[Ret]
theorem ZvY(L:List C4)(a1 a2:Option Addr)(c1 c2:Nat)(m:Mem)(h1:rowRd m a1 (ZaP L))(h2:rowRd m a2 (ZaP L))(hl:L.length<=1000000):
  CX Try.prog 93 #[.slice a1 L.length c1,.slice a2 L.length c2,.func (.func 94) #[] #[]] m [] (Ret (.bool true)):=by
 apply ZaS a1 L.length c1 a2 L.length c2 94 [] []
 unfold Zav
 refine ZaU (by simp) ⟨λxs _ _ m' q=>∃i:Nat,i<=L.length/\xs=[.int .i64 i]/\q=L.length - i,⟨_,0,Nat.zero_le _,rfl,rfl⟩,?_⟩
 rintro z m1 q aM ⟨i,hi,aZ,hq⟩
 obtain rfl:z=i:=by simpa using aZ
 subst hq
 refine ZbD (λaS=>?_) (λbM=>Zah aM rfl)
 have aQ:i < L.length:=by omega
 obtain⟨k,hk⟩:=Za7 aQ
 obtain⟨b,o,rfl,bA⟩:=ZpP (h1.mono aM) hk
 obtain⟨b',o',rfl,iK⟩:=ZpP (h2.mono aM) hk
 have hw:IntKind.i64.wrap ((i:Int)+1)=((i+1:Nat):Int):=by rw[ZaB (by omega) (by omega)];rfl
 rw[hw]
 simp only[Int.toNat_natCast]
 exact⟨b,o,rfl,⟨by omega,by omega⟩,_,_,_,_,bA,λb3=>Zaa rfl ⟨b',o',rfl,⟨by omega,by omega⟩,_,_,_,_,iK,λb4=>Zaa rfl (Zai (ZrF k m1) λm2 aP=>ZaU rfl ⟨L.length - (i+1),by omega,i+1,aQ,rfl,rfl⟩)⟩⟩
theorem ZlF(L:List C4)(a1 a2:Option Addr)(c1 c2:Nat)(m:Mem)(h1:rowRd m a1 (ZaP L))(h2:rowRd m a2 (ZaP L))(hl:L.length<=1000000):
  CX Try.prog 61 #[.slice a1 L.length c1,.slice a2 L.length c2] m [] (Ret (.bool true)):=by
 apply ZgZ
 unfold Zeh
 exact Zai (ZvY L a1 a2 c1 c2 m h1 h2 hl) λm1 aM=>Zah aM rfl
theorem Znw{m:Mem}{a:Option Addr}{L:List T}(h:rowRd m a (Zcb L)){i:Nat}{k:T}(hk:L[i]?=some k):∃b o,a=some ⟨b,o,none⟩/\m.reads b (o+i*4) (Zc9 k):=by
 have key:∀{L:List T} {i:Nat},L[i]?=some k->∀j v,(Zc9 k)[j]?=some v->(Zcb L)[i*4+j]?=some v:=by
  intro L
  induction L with
  | nil=>intro i h;simp at h
  | cons x L ih=>
   intro i h j v hv
   have hj:j < 4:=(List.getElem?_eq_some_iff.1 hv).1
   have e:Zcb (x::L)=Zc9 x++Zcb L:=rfl
   cases i with
   | zero=>
    simp at h;subst h
    rw[e,Nat.zero_mul,Nat.zero_add,List.getElem?_append_left hj];exact hv
   | succ i=>
    rw[e,List.getElem?_append_right (by show 4<=_;omega),show(i+1)*4+j - (Zc9 x).length=i*4+j from by show(i+1)*4+j - 4=_;omega]
    exact ih (by simpa using h) j v hv
 rcases h with h|⟨b,o,e,h⟩
 ·have h1:=ZhB L
  have h2:=(List.getElem?_eq_some_iff.1 hk).1
  rw[h]at h1;simp at h1;omega
 ·exact⟨b,o,e,λj v hv=>by have:=h _ v (key hk j v hv);rwa [<-Nat.add_assoc]at this⟩
theorem ZrG(x:T)(hq:QOk x.q)(m:Mem):CX Try.prog 64 #[.agg (Zc9 x).toArray,.agg (ZaH x.q).toArray] m [] (Ret (.bool true)):=by
 apply Zik
 unfold ZeM
 intro b m1 aM _
 refine Zaa (by rw[Zal];rfl) λb2 m2 aP _=>⟨λ_ _ _=>Ret (.agg (ZaH x.q).toArray),_,rfl,Zue x.q hq m2,λv _ _ h=>by rw[h];rfl,?_⟩
 intro cs m3 aX hv
 have hv:Value.agg (Array.mk cs)=.agg (ZaH x.q).toArray:=hv
 simp only[Value.agg.injEq,Array.mk.injEq]at hv
 subst hv
 refine⟨_,ZBF hq hq,λM dP dY=>Zah (mLt aM (mLt aP dP)) ?_⟩
 simp[Ret]
theorem ZvZ(L:List T)(a1 a2:Option Addr)(c1 c2:Nat)(m:Mem)(h1:rowRd m a1 (Zcb L))(h2:rowRd m a2 (ZhQ L))(hl:L.length<=1000000)(hq:∀x∈L,QOk x.q):
  CX Try.prog 62 #[.slice a1 L.length c1,.slice a2 L.length c2,.func (.func 64) #[] #[]] m [] (Ret (.bool true)):=by
 apply ZaZ a1 L.length c1 a2 L.length c2 64 [] []
 unfold Zaz
 refine ZaU (by simp) ⟨λxs _ _ m' q=>∃i:Nat,i<=L.length/\xs=[.int .i64 i]/\q=L.length - i,⟨_,0,Nat.zero_le _,rfl,rfl⟩,?_⟩
 rintro z m1 q aM ⟨i,hi,aZ,Av⟩
 obtain rfl:z=i:=by simpa using aZ
 subst Av
 refine ZbD (λaS=>?_) (λbM=>Zah aM rfl)
 have aQ:i < L.length:=by omega
 obtain⟨k,hk⟩:=Za7 aQ
 obtain⟨b,o,rfl,bA⟩:=Znw (h1.mono aM) hk
 obtain⟨b',o',rfl,iK⟩:=Zjr (h2.mono aM) hk
 have hw:IntKind.i64.wrap ((i:Int)+1)=((i+1:Nat):Int):=by rw[ZaB (by omega) (by omega)];rfl
 rw[hw]
 simp only[Int.toNat_natCast]
 exact⟨b,o,rfl,⟨by omega,by omega⟩,_,_,_,_,bA,λb3=>Zaa rfl ⟨b',o',rfl,⟨by omega,by omega⟩,ZaH k.q,Zal _,iK,λb4=>Zaa (by rw[Zal,ZlA];rfl) (Zai (ZrG k (hq k (List.mem_of_getElem? hk)) m1) λm2 aP=>ZaU rfl ⟨L.length - (i+1),by omega,i+1,aQ,rfl,rfl⟩)⟩⟩
theorem ZAC{M m:Mem}{Y:Nat->Prop}(h:M.le m)(hY:∀b,Y b->M.free b):M.le (m.off Y):=λb o v hv=>by
 rw[Mem.off_at λhy=>by rw[hY b hy o]at hv;cases hv]
 exact h _ _ _ hv
theorem ZxQ{m:Mem}{t:T}(h:NewT m t){b:Nat}(hb:YT t b):m.free b:=by
 obtain⟨x,hx,bS,e⟩:=hb
 rcases h x hx with h|⟨b',e',hf⟩
 ·exact absurd h bS
 ·rw[e]at e'
  cases e'
  exact hf
theorem Zta{t:T}{n:Nat}(h:t.nodes.length<=n):∀y∈t.nodes,y.subs.length<=n:=λy hy=>by
 have h1:=Zt0 t y hy
 have h2:=ZqF y
 omega
theorem ZCB{P:Nat->Prop}(h0:P 0)(h1:P 1)(h2:P 2)(h3:P 3)(h4:P 4):∀i,i < 5->P i
 | 0,_=>h0
 | 1,_=>h1
 | 2,_=>h2
 | 3,_=>h3
 | 4,_=>h4
set_option maxHeartbeats 4000000 in
theorem Ztb(t:T)(m:Mem)(hr:Rep m t)(hz:t.nodes.length<=250):CX Try.prog 23 #[t.v] m [] (Ret (.bool true)):=by
 apply ZkT
 unfold Zgp
 intro b m1 aM wu xy _
 refine⟨λi _ _=>bif Nat.beq i 1 then(ZdM λt'=>t'.er=t.er/\t'.caps)else Zuk t,_,rfl,Zry t m1 (hr.mono aM) (by omega),ZaF,ZbR λown m2 aP kJ dW=>?_⟩
 obtain⟨jS,gD⟩:=dW
 refine⟨_,rfl,ZmU t m2 (hr.mono (mLt aM aP)) (by omega),Zbk,ZgW λcs m3 aX cJ b1 b2=>cJ.chk1 λM dP dY eZ=>?_⟩
 have nB:=mLt aM dP
 have AR:own.nodes.length<=250:=by have:=Zmg jS;rw[Zfh]at this;omega
 have fO:=kJ.mono dY
 have iR:RefT M own cs:=(cJ.mono eZ).of_er jS.symm
 clear kJ cJ aX eZ aP dY
 have bO:=ZpO (t:=own) (by omega)
 have fin:∀(m':Mem),M.le m'->∃R_11:Value->Mem->List (List Value)->Prop,True/\CX Try.prog 43 #[own.v,.agg cs.toArray] m' [] R_11/\(∀(v:Value)(m':Mem) (css:List (List Value)),R_11 v m' css->Shape.fits .bool v=true)/\∀(b:Bool)(m'':Mem),m'.le m''->R_11 (.bool b) m'' []->∃m3,m.le m3/\m3.le m''/\Ret (.bool true) (.bool b) m3 []:=λm' hm'=>by
  refine⟨_,trivial,Zrz own own cs m' (fO.mono hm') (iR.mono hm') (by omega),λv _ _ e=>by rw[e];rfl,λbb m'' hm'' dI=>?_⟩
  have dI:Value.bool bb=.bool (own.same own):=dI
  rw[Znu]at dI
  exact Zah (mLt nB (mLt hm' hm'')) dI
 cases iJ:T.rgt own with
 | false=>
  have hF:=Zj5 own M fO gD
  rw[iJ]at hF
  simp only[Bool.false_eq_true,if_false]at hF
  refine⟨_,trivial,hF,Zow,?_⟩
  rintro k1 k2 k3 k4 k5 k6 k7 a8 n8 c8 e1 m4 bG ⟨t',hv,hr',rfl,_⟩ b3
  simp only[T.v,Value.tuple.injEq,Value.agg.injEq,Array.mk.injEq,List.cons.injEq,Value.int.injEq,Value.slice.injEq,true_and,and_true]at hv
  obtain⟨⟨rfl,rfl,rfl,rfl,rfl,rfl,rfl,rfl,rfl,rfl⟩,rfl⟩:=hv
  have eG:∀(L:List C4)(v:Value)(m':Mem) (css:List (List Value)),OrE own L v m' css->v=.tuple #[.slice none 0 0,.int .i64 2]:=λL v m' css h=>by unfold OrE at h;rw[if_pos iJ]at h;exact h
  refine⟨_,trivial,Zuc own m4 (fO.mono bG) gD,(λv m' css h=>by rw[eG _ _ _ _ h];rfl),?_⟩
  rintro a11 n17 c2 n18 m5 dA hv
  have hv:=eG _ _ _ _ hv
  simp only[Value.tuple.injEq,Array.mk.injEq,List.cons.injEq,Value.int.injEq,Value.slice.injEq,true_and,and_true]at hv
  obtain⟨⟨rfl,rfl,rfl⟩,rfl⟩:=hv
  have qq:=mLt bG dA
  refine⟨_,trivial,Zua own m5 (fO.mono qq) gD,(λv m' css h=>by rw[h,if_pos iJ];rfl),?_⟩
  rintro g1 g2 g3 g4 g5 bb g6 m6 eA hv b5
  rw[if_pos iJ]at hv
  simp only[C4.v,C4.zero,Value.tuple.injEq,Value.agg.injEq,Array.mk.injEq,List.cons.injEq,Value.int.injEq,Value.bool.injEq,true_and,and_true]at hv
  obtain⟨⟨rfl,rfl,rfl,rfl⟩,rfl,rfl,rfl⟩:=hv
  have oC:=mLt qq eA
  refine⟨_,trivial,Zub own m6 (fO.mono oC) gD (by omega),(λv m' css h=>by rw[eG _ _ _ _ h];rfl),?_⟩
  rintro a16 n25 c3 n26 m7 cT hv
  have hv:=eG _ _ _ _ hv
  simp only[Value.tuple.injEq,Array.mk.injEq,List.cons.injEq,Value.int.injEq,Value.slice.injEq,true_and,and_true]at hv
  obtain⟨⟨rfl,rfl,rfl⟩,rfl⟩:=hv
  have mD:=mLt oC cT
  refine⟨_,trivial,Zwv own m7 (fO.mono mD) gD,Zoj,?_⟩
  rintro a19 n27 c4 n28 m8 fA hv b6 jG
  unfold ZvI at hv
  rw[if_pos iJ]at hv
  simp only[Value.tuple.injEq,Array.mk.injEq,List.cons.injEq,Value.int.injEq,Value.slice.injEq,true_and,and_true]at hv
  obtain⟨⟨rfl,rfl,rfl⟩,rfl⟩:=hv
  have ww:=mLt mD fA
  refine⟨λxs _ _ m' q=>∃i:Nat,i<=5/\xs=[.int .i64 i]/\M.le m'/\q=5 - i,⟨_,0,by omega,rfl,mLt ww (Mem.le_add jG _),rfl⟩,?_⟩
  rintro z m9 q _ ⟨i,hi,aZ,oD,hq⟩
  obtain rfl:z=i:=by simpa using aZ
  subst hq
  refine ZbD (λaS=>?_) (λbM=>?_)
  ·have aQ:i < 5:=by omega
   have hw:IntKind.i64.wrap ((i:Int)+1)=((i+1:Nat):Int):=by rw[ZaB (by omega) (by omega)];rfl
   rw[hw]
   simp only[Int.toNat_natCast]
   refine⟨⟨by omega,by omega⟩,Zgj (v:=.int .i64 2) (ZCB (P:=λi=>([.int .i64 2,.int .i64 2,.int .i64 2,.int .i64 2,.int .i64 2]:List Value)[i*1]?=some (.int .i64 2)) rfl rfl rfl rfl rfl i aQ) ⟨false,Zaa rfl (Zai (Zrw own cs m9 (iR.mono oD)) λm10 iP=>?_),ZaU rfl ⟨by trivial,5 - (i+1),by omega,i+1,aQ,rfl,oD,rfl⟩⟩⟩
   rw[iJ]
   exact ZaU rfl (Zaa rfl (Zev rfl (Zaa rfl ⟨by trivial,rfl⟩)))
  ·refine Zev rfl ⟨true,Zev rfl (Zev rfl ⟨_,Zxw _ _ _ _ _ _ _ _,Zev rfl ⟨by trivial,rfl⟩⟩),Zah (mLt nB oD) rfl⟩
 | true=>
  obtain⟨hg,nU⟩:=ZeJ.1 iJ
  have hF:=Zj5 own M fO gD
  rw[iJ]at hF
  simp only[if_true]at hF
  refine⟨_,trivial,hF,Zow,?_⟩
  rintro k1 k2 k3 k4 k5 k6 k7 a8 n8 c8 e1 m4 bG ⟨f,hv,wx,⟨lE,iZ⟩,_⟩ b3
  simp only[T.v,Value.tuple.injEq,Value.agg.injEq,Array.mk.injEq,List.cons.injEq,Value.int.injEq,Value.slice.injEq,true_and,and_true]at hv
  obtain⟨⟨rfl,rfl,rfl,rfl,rfl,rfl,rfl,rfl,rfl,rfl⟩,rfl⟩:=hv
  have nI:∀(L:List C4)(v:Value)(m':Mem) (css:List (List Value)),OrE own L v m' css->Zzh 0 L v m' css:=λL v m' css h=>by unfold OrE at h;rw[if_neg (by rw[iJ];simp)]at h;exact h
  refine⟨_,trivial,Zuc own m4 (fO.mono bG) gD,(λv m' css h=>by obtain⟨_,_,e,_⟩:=nI _ _ _ _ h;rw[e];rfl),?_⟩
  rintro a11 n17 c2 n18 m5 dA hv
  obtain⟨ax,cx,hv,sM⟩:=nI _ _ _ _ hv
  simp only[Value.tuple.injEq,Array.mk.injEq,List.cons.injEq,Value.int.injEq,Value.slice.injEq,true_and,and_true]at hv
  obtain⟨⟨rfl,rfl,rfl⟩,rfl⟩:=hv
  have qq:=mLt bG dA
  refine⟨_,trivial,ZvX own m5 (fO.mono qq) iJ gD,ZrE,?_⟩
  rintro g1 g2 g3 g4 g5 bb g6 m6 eA hv b5
  unfold ZvW at hv
  simp only[C4.v,Value.tuple.injEq,Value.agg.injEq,Array.mk.injEq,List.cons.injEq,Value.int.injEq,Value.bool.injEq,true_and,and_true]at hv
  obtain⟨⟨rfl,rfl,rfl,rfl⟩,rfl,rfl,rfl⟩:=hv
  have oC:=mLt qq eA
  refine⟨_,trivial,Zub own m6 (fO.mono oC) gD (by omega),(λv m' css h=>by obtain⟨_,_,e,_⟩:=nI _ _ _ _ h;rw[e];rfl),?_⟩
  rintro a16 n25 c3 n26 m7 cT hv
  obtain⟨ax,cx,hv,sN⟩:=nI _ _ _ _ hv
  simp only[Value.tuple.injEq,Array.mk.injEq,List.cons.injEq,Value.int.injEq,Value.slice.injEq,true_and,and_true]at hv
  obtain⟨⟨rfl,rfl,rfl⟩,rfl⟩:=hv
  have mD:=mLt oC cT
  refine⟨_,trivial,Zwv own m7 (fO.mono mD) gD,Zoj,?_⟩
  rintro a19 n27 c4 n28 m8 fA hv b6 jG
  unfold ZvI at hv
  rw[if_neg (by rw[iJ];simp)]at hv
  obtain⟨ax,cx,hv,sO⟩:=hv
  simp only[Value.tuple.injEq,Array.mk.injEq,List.cons.injEq,Value.int.injEq,Value.slice.injEq,true_and,and_true]at hv
  obtain⟨⟨rfl,rfl,rfl⟩,rfl⟩:=hv
  have ww:=mLt mD fA
  have wy:=Mem.le_add jG [Value.int .i64 0,.int .i64 0,.int .i64 0,.int .i64 0,.int .i64 0]
  refine⟨λxs _ _ m' q=>∃i:Nat,i<=5/\xs=[.int .i64 i]/\m8.le m'/\q=5 - i,⟨_,0,by omega,rfl,wy,rfl⟩,?_⟩
  rintro z m9 q _ ⟨i,hi,aZ,qU,hq⟩
  obtain rfl:z=i:=by simpa using aZ
  subst hq
  have oD:=mLt ww qU
  refine ZbD (λaS=>?_) (λbM=>?_)
  ·have aQ:i < 5:=by omega
   have hw:IntKind.i64.wrap ((i:Int)+1)=((i+1:Nat):Int):=by rw[ZaB (by omega) (by omega)];rfl
   rw[hw]
   simp only[Int.toNat_natCast]
   refine⟨⟨by omega,by omega⟩,Zgj (v:=.int .i64 0) (ZCB (P:=λi=>([.int .i64 0,.int .i64 0,.int .i64 0,.int .i64 0,.int .i64 0]:List Value)[i*1]?=some (.int .i64 0)) rfl rfl rfl rfl rfl i aQ) ⟨false,Zaa rfl (Zai (Zrw own cs m9 (iR.mono oD)) λm10 iP=>?_),ZaU rfl ⟨by trivial,5 - (i+1),by omega,i+1,aQ,rfl,qU,rfl⟩⟩⟩
   rw[iJ]
   exact ZaU rfl (Zaa rfl (ZaU rfl ⟨by trivial,rfl⟩))
  ·refine ZaU rfl ⟨_,trivial,Zrx own cs m9 (iR.mono oD) hg nU,(λv _ _ ⟨_,_,_,e,_⟩=>by rw[e];rfl),?_⟩
   rintro a25 n31 c5 cs1 m10 iP ⟨ax,cx,cs1',hv,qr,p9⟩ b7
   simp only[Value.tuple.injEq,Value.agg.injEq,Array.mk.injEq,List.cons.injEq,Value.slice.injEq,true_and,and_true]at hv
   obtain⟨⟨rfl,rfl,rfl⟩,rfl⟩:=hv
   have pQ:=mLt oD iP
   refine p9.chk1 ⟨_,trivial,Zot own cs m10 (iR.mono pQ) hg nU,(λv _ _ e=>by rw[e];rfl),?_⟩
   rintro q1 q2 q3 q4 q5 m11 jH hv b8
   have hv:Value.tuple (Array.mk [.agg (Array.mk [.int .i64 q1,.int .i64 q2,.int .i64 q3,.int .i64 q4]),.int .i64 q5])=.tuple #[(Zbb own).c.v,.int .i64 (Zbb own).g]:=hv
   simp only[C4.v,Value.tuple.injEq,Value.agg.injEq,Array.mk.injEq,List.cons.injEq,Value.int.injEq,true_and,and_true]at hv
   obtain⟨⟨rfl,rfl,rfl,rfl⟩,rfl⟩:=hv
   have qs:=mLt pQ jH
   have h4_11:m4.le m11:=mLt dA (mLt eA (mLt cT (mLt fA (mLt qU (mLt iP jH)))))
   have kF:f.nodes.length<=120:=by
    have h1:=Zmg lE
    have h2:=ZjZ _ own (Nat.le_refl _) hg
    omega
   have uX:(ZaM own).1.er=(ZaM own).1:=by rw[<-lE,Zd8]
   have gR:=Zrz f (ZaM own).1 cs1 m11 (wx.mono h4_11) (p9.mono jH) (by omega)
   rw[Zs9 (t:=f) (u:=(ZaM own).1) (by rw[uX,lE])]at gR
   have wz:(ZaM own).2.length<=1000000:=by have:=Zn7 hg;omega
   have vu:=ZgI own
   refine⟨false,Zai gR λm12 kE=>ZaU rfl (Zai (ZlF (ZaM own).2 _ _ c2 c5 m12 (sM.mono (mLt eA (mLt cT (mLt fA (mLt qU (mLt iP (mLt jH kE))))))) (qr.mono (mLt jH kE)) wz) λm13 sP=>ZaU rfl (Zag (Zoq own cs m13 (iR.mono (mLt qs (mLt kE sP))) (by omega)) Zop ?_)),ZaU rfl ?_⟩
   ·rintro a34 n37 c6 m14 wA ⟨ax,cx,hv,qt⟩
    simp only[Value.slice.injEq]at hv
    obtain⟨rfl,rfl,rfl⟩:=hv
    have h11_14:=mLt kE (mLt sP wA)
    refine Zai (ZlF own.cuts _ _ c3 c6 m14 (sN.mono (mLt fA (mLt qU (mLt iP (mLt jH h11_14))))) qt (by omega)) λm15 sQ=>ZaU rfl ⟨true,?_,ZaU rfl (ZaU (by simp) (ZaU (by simp) (Zag (Zj6 own cs m15 (iR.mono (mLt qs (mLt h11_14 sQ)))) Ze7 ?_)))⟩
    ·have:=ZwB ((Zbb own).c.a:Nat) ((Zbb own).c.f:Nat) ((Zbb own).c.t:Nat) ((Zbb own).c.n:Nat) ((Zbb own).c.a:Nat) ((Zbb own).c.f:Nat) ((Zbb own).c.t:Nat) ((Zbb own).c.n:Nat)
     simpa using this
    ·rintro a39 n38 c7 m16 wB ⟨ax,cx,hv,qu⟩
     simp only[Value.slice.injEq]at hv
     obtain⟨rfl,rfl,rfl⟩:=hv
     exact Zai (ZvZ (Zan own) _ _ c4 c7 m16 (sO.mono (mLt qU (mLt iP (mLt jH (mLt h11_14 (mLt sQ wB)))))) qu (by omega) (Zun iR)) λm17 Aw=>⟨by trivial,rfl⟩
   ·have hK:KRep m11 f:=ZwC (wx.mono h4_11) iZ
    have vC:KRep m4 f:=ZwC wx iZ
    have h0_8:m4.le m8:=mLt dA (mLt eA (mLt cT fA))
    refine⟨YT f,_,ZrB f f (by rw[ZbH];exact List.mem_cons_self ..) (by have:=ZqF f;omega) (Zta (by omega)) f.k m11 hK,λx hx=>(by cases hx),λb10 tu=>.inr ⟨Zxg nB (ZxQ iZ tu),hK.known tu,λe=>?_,λe=>?_,trivial⟩,λv _ _ _ e=>by rw[e.1];rfl,?_⟩
    ·subst e
     obtain⟨o,v,hv⟩:=vC.known tu
     have:=h0_8 _ _ _ hv
     rw[jG o]at this;cases this
    ·subst e
     have um:=ZxQ iZ tu
     have:=dP _ _ _ (wu 0 _ rfl)
     rw[um]at this;cases this
    ·rintro m12 kE _ ⟨_,_⟩
     exact fin m12 (mLt (ZAC qs λb hb=>ZxQ iZ hb) kE)
theorem ZkU(t:T)(m:Mem)(hr:RepW m t):CX Try.prog 5 #[t.v] m [] (Ret (.bool true)):=by
 apply ZeQ
 unfold Zdb
 intro b m1 aM _
 refine⟨true,Zai (Zs5 t m1 (hr.mono aM)) λm2 aP=>Zab (λh=>Zai (Zov m2) λm3 aX=>⟨by trivial,rfl⟩) (λh=>?_),Zah aM rfl⟩
 have hz:t.nodes.length<=60:=by simpa using h
 refine Zai (Ztb t m2 (ZtW t (by omega) (hr.mono (mLt aM aP))) (by omega)) λm3 aX=>Zev rfl (Zai (Zov m3) λm4 bG=>⟨by trivial,rfl⟩)
end Go.Proofs.Ytfgfahnakepegaa
set_option linter.unusedVariables false
set_option linter.unusedSimpArgs false
namespace Go.Proofs.Ytfgfahnakepegaa
open Go Go.Eng Go.Rx Go.Proofs Go.RowKit Go.ChangeShapes Go.WideShapes Go.ChangeAt
set_option maxRecDepth 100000
theorem Zjy(H:Type)(enc:TypeId×Value->H)(W:World)(base:Nat)(args:Array Value)(ds gs:List (DataW H))(before:List MemPlace)
  (kC:∀(j:Nat) t v,Try.f5.params[j]?=some t->args[j]?=some v->Value.okWide Try.prog W .any base t v)
  (hW:DataW.Whole enc Try.prog Try.f5.params.toList Rows.factorTellsSpec.vars false W args.toList ds gs before):
  Calls Try.prog 5 args W λe W'=>∃v,e=.returned v/\Rows.factorTellsSpec.post enc Try.prog Try.f5 false true false false W args v W':=by
 have hW':=hW
 obtain⟨p,q,Ax,hV,rfl,kF,dK⟩:=hW
 have hA:DataW.TrodAll enc Try.prog W 0 (λ_=>true) true Try.f5.params.toList args.toList ds p:=Ax
 rw[Try.params5]at hA kC
 obtain⟨v0,vs0,d0,ds0,p0,q0,a0,rfl,rfl,h0,r0⟩:=trodAll_cons hA
 obtain⟨rfl,rfl,rfl⟩:=trodAll_nil r0
 obtain rfl:args=#[v0]:=by cases args;simp_all
 obtain⟨rfl,rfl⟩:=trodVars_none hV
 obtain⟨t,rfl,hr⟩:=ZvN (kC 0 _ v0 rfl rfl) h0
 exact Zu5 (tb:=4) Zzn (by rw[Try.params5];intro t ht;simp at ht;rcases ht with rfl <;> exact⟨by kernel_rfl,of_decide_eq_true (by kernel_rfl)⟩) hW' rfl rfl rfl rfl rfl Try.underlying4 (ZkU t (ZxZ W) hr)
theorem Znx(os:Os)(started:os.Started)(H:Type)(enc:TypeId×Value->H):
  ReturnsInHanded {} Try.checked os 5 .any (Rows.factorTellsSpec.pre6 enc Try.prog Try.f5 Rows.factorTellsRow.domain false) (Rows.factorTellsSpec.post enc Try.prog Try.f5 false true false false):=by
 refine returnsInHanded_of_change (C:=Try.checked) ZAp started (by kernel_rfl) Try.func5
  (ChangeSpec.witness6 (enc:=enc) (C:=Try.checked) false ⟨#[],#[.agg #[.int .u8 0,.int .u64 0,.int .u64 0,.int .u64 0,.int .u64 0,.int .i64 0,.int .i64 0,.slice none 0 0]],[]⟩ 8 (by kernel_rfl) (by kernel_rfl) (by kernel_rfl) (by kernel_rfl)) ?_
 intro W base args ds gs before kC hW _ _
 exact Zjy H enc W base args ds gs before kC hW
theorem ftells_holds:Rows.FactorTellsSaid:=
 OpenClaim.holds_of_wide 5 Try.f5 rfl rfl rfl rfl rfl rfl rfl ⟨rfl,rfl,rfl,rfl,rfl⟩ rfl rfl rfl rfl rfl (by kernel_rfl) Try.func5 (by kernel_rfl)
  (of_decide_eq_true (by kernel_rfl)) (by unfold Func.isWrapper;first|(rw[if_pos (by decide +kernel)];kernel_rfl)|(rw[if_neg (by decide +kernel)];exact⟨rfl,rfl⟩))
  (λos started H enc _=>Znx os started H enc)
#print axioms ftells_holds
end Go.Proofs.Ytfgfahnakepegaa
