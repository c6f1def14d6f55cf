/- Part of the proof: conditions and contracts of functions of this program. No condition of its own. -/
import Derived.Test.YtfgfahnakepegaaGreatPEnv
import Derived.Test.YtfgfahnakepegaaGreatPC15K
import Derived.Test.YtfgfahnakepegaaGreatMc
set_option linter.unusedVariables false
set_option linter.unusedSimpArgs false
set_option linter.unusedSectionVars false
noncomputable section
namespace Go.Proofs.YtfgfahnakepegaaGreat
open Go Go.Eng Go.Proofs Go.RowKit
open Go.Value (int slice agg bool string tuple func)
open Go.IntKind (u8 u64 i64)
set_option maxRecDepth 100000
def Zmi:Env:={ EB with
 loops:=swI nLa [(3,⟨[(109,.int .i64)],[],[],false⟩)]
 joins:=swI none [(7,some [(148,.bool)]),(14,some [(0,.bool)])]
 dr:=swI [] [(2,[⟨0,[25],[25],none,[],[]⟩,⟨1,[25],[25],none,[0],[0]⟩,⟨2,[1],[],none,[],[]⟩,⟨3,[2],[],none,[],[]⟩,⟨4,[3],[],none,[],[]⟩,⟨5,[30],[30],none,[3,4],[]⟩,⟨6,[30],[30],none,[0,1,3,4,5],[1,5]⟩,⟨7,[32],[32],none,[0,1,2,3,4,5,6],[6]⟩,⟨8,[32],[32],none,[0,1,2,3,4,5,6,7],[7]⟩,dO 9 [0,1,2,3,4,5,6,7,8],⟨10,[35],[35],none,[],[]⟩,⟨11,[35],[35],none,[0,1,2,3,4,5,6,7,8,10],[8,10]⟩,⟨12,[37],[37],none,[],[]⟩,⟨13,[37],[37],none,rg 0 9++[10,11,12],[11,12]⟩,dO 14 (rg 0 9++rg 10 4),⟨15,[40],[40],none,[],[]⟩,⟨16,[40],[40],none,rg 0 9++rg 10 4++[15],[13,15]⟩,⟨17,[1],[],none,[],[]⟩,⟨18,[2],[],none,[],[]⟩,⟨19,[3],[],none,[],[]⟩,⟨20,[4],[],none,[],[]⟩,⟨21,[46],[46],none,[19,20],[]⟩,⟨22,[46],[46],none,rg 0 9++rg 10 4++[15,16,19,20,21],[16,21]⟩,⟨23,[48],[48],none,rg 0 9++rg 10 4++rg 15 8,[22]⟩,⟨24,[48],[48],none,rg 0 9++rg 10 4++rg 15 9,[23]⟩,⟨25,[1],[],none,[],[]⟩,⟨26,[51],[51],none,rg 0 9++rg 10 4++rg 15 11,[24]⟩,⟨27,[51],[51],none,rg 0 9++rg 10 4++rg 15 12,[26]⟩,dO 28 (rg 0 9++rg 10 4++rg 15 13),⟨29,[54],[54],none,[],[]⟩,⟨30,[54],[54],none,rg 0 9++rg 10 4++rg 15 13++[29],[27,29]⟩,⟨31,[56],[56],none,[],[]⟩,⟨32,[56],[56],none,rg 0 9++rg 10 4++rg 15 13++[29,30,31],[30,31]⟩,dO 33 (rg 0 9++rg 10 4++rg 15 13++rg 29 4),⟨34,[59],[59],none,[],[]⟩,⟨35,[59],[59],none,rg 0 9++rg 10 4++rg 15 13++rg 29 4++[34],[32,34]⟩,⟨36,[1],[],none,[],[]⟩,⟨37,[2],[],none,[],[]⟩,⟨38,[63],[63],none,[36,37],[]⟩,⟨39,[63],[63],none,rg 0 9++rg 10 4++rg 15 13++rg 29 4++rg 34 5,[35,38]⟩,dO 40 (rg 0 9++rg 10 4++rg 15 13++rg 29 4++rg 34 6),⟨41,[1],[],none,[],[]⟩,⟨42,[],[],none,rg 0 9++rg 10 4++rg 15 13++rg 29 4++rg 34 6++[41],[39]⟩,⟨43,[2],[],none,[],[]⟩,⟨44,[69],[69],none,rg 0 9++rg 10 4++rg 15 13++rg 29 4++rg 34 6++[41,42,43],[42]⟩,⟨45,[69],[69],none,rg 0 9++rg 10 4++rg 15 13++rg 29 4++rg 34 6++rg 41 4,[44]⟩,⟨46,[1],[],none,[],[]⟩,⟨47,[],[],none,rg 0 9++rg 10 4++rg 15 13++rg 29 4++rg 34 6++rg 41 6,[45]⟩,⟨48,[3],[],none,[],[]⟩,⟨49,[74],[74],none,rg 0 9++rg 10 4++rg 15 13++rg 29 4++rg 34 6++rg 41 8,[47]⟩,⟨50,[74],[74],none,rg 0 9++rg 10 4++rg 15 13++rg 29 4++rg 34 6++rg 41 9,[49]⟩,⟨51,[76],[76],none,rg 0 9++rg 10 4++rg 15 13++rg 29 4++rg 34 6++rg 41 10,[50]⟩,⟨52,[76],[76],none,rg 0 9++rg 10 4++rg 15 13++rg 29 4++rg 34 6++rg 41 11,[51]⟩,⟨53,[1],[],none,[],[]⟩,⟨54,[],[],none,rg 0 9++rg 10 4++rg 15 13++rg 29 4++rg 34 6++rg 41 13,[52]⟩,⟨55,[2],[],none,[],[]⟩,⟨56,[81],[81],none,rg 0 9++rg 10 4++rg 15 13++rg 29 4++rg 34 6++rg 41 15,[54]⟩,⟨57,[81],[81],none,rg 0 9++rg 10 4++rg 15 13++rg 29 4++rg 34 6++rg 41 16,[56]⟩,⟨58,[1],[],none,[],[]⟩,⟨59,[],[],none,rg 0 9++rg 10 4++rg 15 13++rg 29 4++rg 34 6++rg 41 18,[57]⟩,⟨60,[3],[],none,[],[]⟩,⟨61,[86],[86],none,rg 0 9++rg 10 4++rg 15 13++rg 29 4++rg 34 6++rg 41 20,[59]⟩,⟨62,[86],[86],none,rg 0 9++rg 10 4++rg 15 13++rg 29 4++rg 34 6++rg 41 21,[61]⟩,⟨63,[88],[88],none,rg 0 9++rg 10 4++rg 15 13++rg 29 4++rg 34 6++rg 41 22,[62]⟩,⟨64,[88],[88],none,rg 0 9++rg 10 4++rg 15 13++rg 29 4++rg 34 6++rg 41 23,[63]⟩,dO 65 (rg 0 9++rg 10 4++rg 15 13++rg 29 4++rg 34 6++rg 41 24),⟨66,[],[],none,rg 0 9++rg 10 4++rg 15 13++rg 29 4++rg 34 6++rg 41 24,[64]⟩,⟨67,[92],[92],none,[],[]⟩,⟨68,[92],[92],none,rg 0 9++rg 10 4++rg 15 13++rg 29 4++rg 34 6++rg 41 24++[66,67],[66,67]⟩,⟨69,[],[],none,rg 0 9++rg 10 4++rg 15 13++rg 29 4++rg 34 6++rg 41 24++[66,67,68],[68]⟩,⟨70,[95],[95],none,rg 0 9++rg 10 4++rg 15 13++rg 29 4++rg 34 6++rg 41 24++rg 66 4,[69]⟩,⟨71,[95],[95],none,rg 0 9++rg 10 4++rg 15 13++rg 29 4++rg 34 6++rg 41 24++rg 66 5,[70]⟩,⟨72,[],[],none,rg 0 9++rg 10 4++rg 15 13++rg 29 4++rg 34 6++rg 41 24++rg 66 6,[71]⟩,⟨73,[],[],none,rg 0 9++rg 10 4++rg 15 13++rg 29 4++rg 34 6++rg 41 24++rg 66 7,[72]⟩,⟨74,[1],[],none,[],[]⟩,⟨75,[2],[],none,[],[]⟩,⟨76,[101],[101],none,[74,75],[]⟩,⟨77,[101],[101],none,rg 0 9++rg 10 4++rg 15 13++rg 29 4++rg 34 6++rg 41 24++rg 66 11,[73,76]⟩,⟨78,[],[],none,rg 0 9++rg 10 4++rg 15 13++rg 29 4++rg 34 6++rg 41 24++rg 66 12,[77]⟩,⟨79,[104],[104],none,rg 0 9++rg 10 4++rg 15 13++rg 29 4++rg 34 6++rg 41 24++rg 66 13,[78]⟩,⟨80,[104],[104],none,rg 0 9++rg 10 4++rg 15 13++rg 29 4++rg 34 6++rg 41 24++rg 66 14,[79]⟩,dO 81 (rg 0 9++rg 10 4++rg 15 13++rg 29 4++rg 34 6++rg 41 24++rg 66 15),⟨82,[107],[107],none,rg 0 82,[80]⟩,⟨83,[107],[],none,rg 0 83,[]⟩,dO 84 []])]
 gb:=true }
theorem ZjT  (m:Mem)(R:RT)(h:
 kN pG 5 [int u8 97] m λn fa fb fc fd fe ff a fg c m'=>lX (int u8 n) λyL=>lX (int u64 fb) λau=>lX (int u64 fd) λav=>lX (int u64 fc) λaw=>lX (int u64 fa) λax=>lX (int i64 ff) λay=>lX (int i64 fe)
 λaz=>lX (slice a fg c) λa0=>lV [yL,ax,au,aw,av,az,ay,a0] λxL=>lV [agg (.mk xL)] λa1=>kN pG 5 [int u8 98] m' λn fh fi fj fk fl fm a fn c m'=>lX (int i64 fl) λbw=>lX (int u64 fi) λbx=>lX
 (int u64 fk) λbz=>lX (int i64 fm) λca=>lX (int u8 n) λcb=>lX (int u64 fj) λcc=>lX (int u64 fh) λcd=>lX (slice a fn c) λce=>lV [cb,cd,bx,cc,bz,bw,ca,ce] λa2=>lV (yL::ax::au::aw::av
 :: az::ay::a0::a2) λac=>kN pG 5 [int u8 99] m' λn fo fp fq fr fs ft a fu c m'=>lX (int u64 fp) λde=>lX (int i64 fs) λdf=>lX (int i64 ft) λdg=>lX (int u64 fo) λdh=>lX (int u8 n) λdi=>lX (int
 u64 fq) λdj=>lX (int u64 fr) λdk=>lX (slice a fu c) λdl=>lV [di,dh,de,dj,dk,df,dg,dl] λa3=>lV (cb::cd::bx::cc::bz::bw::ca::ce::a3) λcf=>kN pG 5 [int u8 100] m' λn fv fw fx fy fz
 f0 a f1 c m'=>∀b f2 f3 f4,∃(f:Fx),∀a4,lM (m'.add a4 [string (.mk (.mk [97,98])),string (.mk (.mk [97,99]))]) λmL=>lV [int u8 n,int u64 fv,int u64 fw,int u64 fx,int u64 fy,int i64 fz,int i64 f0,slice a f1
 c] λdm=>lV (di::dh::de::dj::dk::df::dg::dl::dm) λcg=>lE [some (Box.mk f4 dm 27 8 false true),some (Box.mk f3 a3 27 8 false true),some (Box.mk f2 a2 27 8 false true),some (Box.mk b xL 27 8 false true)]
 λf5=>lE (some (Box.mk a4 [string (.mk (.mk [97,98])),string (.mk (.mk [97,99]))] 9 2 true true)) λdn=>m'.free a4->dN f 1 pG 53 [slice (some (Addr.mk a4 0 none)) 2 2] mL λn f6 f7 f8 f9 ga gb a gc c dp=>∀b,lX
 (int u64 f8) λgd=>lX (int u64 f7) λge=>lX (int i64 ga) λgf=>lX (int u8 n) λgg=>lX (int i64 gb) λgh=>lX (int u64 f6) λgi=>lX (int u64 f9) λgj=>lX (slice a gc c) λgk=>lE (some (Box.mk b cf 27
 16 true true)) λdq=>m'.free b->∀V,m'.le V->dp.le V->Mem.le (m'.add b cf) V->dN f 6 pG 7 [slice (some (Addr.mk b 0 none)) 2 2] V λn gl gm gn go gp gq a gr c a5=>∀ad,lV [yL,ax,au,aw,av,az,ay,a0,int u8 n,
 int u64 gl,int u64 gm,int u64 gn,int u64 go,int i64 gp,int i64 gq,slice a gr c] λch=>lE (some (Box.mk ad ch 27 16 true true)) λdr=>a5.free ad->dN f 8 pG 6 [slice (some (Addr.mk ad 0 none)) 2 2] (a5.add ad ch) fun
 n gs gt gu gv gw gx a gy c ds=>∀a6,lM (m'.add a6 [string (.mk (.mk [97])),string (.mk (.mk [97,98]))]) λdt=>lX (int i64 gw) λgz=>lX (int u64 gu) λg0=>lX (int u64 gv) λg1=>lX (int u64 gs) λg2=>lX (int
 u8 n) λg3=>lX (int u64 gt) λg4=>lX (int i64 gx) λg5=>lX (slice a gy c) λg6=>lE (some (Box.mk a6 [string (.mk (.mk [97])),string (.mk (.mk [97,98]))] 9 2 true true)) λdu=>m'.free a6->∀V,m'.le V->ds.le
 V->dt.le V->dN f 11 pG 53 [slice (some (Addr.mk a6 0 none)) 2 2] V λn g7 g8 g9 ha hb hc a hd c dv=>∀a7,lM (m'.add a7 [string (.mk (.mk [97])),string (.mk (.mk [97,98]))]) λdw=>lX (int u64 ha) λhe=>lX (int i64
 hc) λhf=>lX (int u8 n) λhg=>lX (int i64 hb) λhh=>lX (int u64 g9) λhi=>lX (int u64 g8) λhj=>lX (int u64 g7) λhk=>lX (slice a hd c) λhl=>lE (some (Box.mk a7 [string (.mk (.mk [97])),string (.mk
 (.mk [97,98]))] 9 2 true true)) λdx=>m'.free a7->∀V,m'.le V->dv.le V->dw.le V->dN f 13 pG 53 [slice (some (Addr.mk a7 0 none)) 2 2] V λn hm hn ho hp hq hr a hs c dy=>∀a8,lM (m'.add a8 [string (.mk (.mk [97,98,
 99])),string (.mk (.mk [97,98,100])),string (.mk (.mk [97]))]) λdz=>lX (int u64 hm) λht=>lX (int u64 ho) λhu=>lX (int i64 hq) λhv=>lX (int u8 n) λhw=>lX (int u64 hp) λhx=>lX (int u64 hn) λhy=>
 lX (int i64 hr) λhz=>lX (slice a hs c) λh0=>lE (some (Box.mk a8 [string (.mk (.mk [97,98,99])),string (.mk (.mk [97,98,100])),string (.mk (.mk [97]))] 9 3 true true)) λd0=>m'.free a8->∀V,m'.le V->dy.le V->
 dz.le V->dN f 16 pG 53 [slice (some (Addr.mk a8 0 none)) 3 3] V λn h1 h2 h3 h4 h5 h6 a h7 c d1=>∀ae,lX (int u64 h1) λh8=>lX (int u64 h4) λh9=>lX (int i64 h5) λia=>lX (int i64 h6) λib=>lX (int u64 h3)
 λic=>lX (int u8 n) λie=>lX (int u64 h2) λig=>lX (slice a h7 c) λih=>lE (some (Box.mk ae cg 27 16 true true)) λd2=>m'.free ae->∀V,m'.le V->d1.le V->Mem.le (m'.add ae cg) V->dN f 22 pG 7 [slice (some
 (Addr.mk ae 0 none)) 2 2] V λn ii ij ik il im io a ip c a9=>∀af,lV [yL,ax,au,aw,av,az,ay,a0,cb,cd,bx,cc,bz,bw,ca,ce,int u8 n,int u64 ii,int u64 ij,int u64 ik,int u64 il,int i64 im,int i64 io,slice a
 ip c] λci=>lE (some (Box.mk af ci 27 24 true true)) λyL=>a9.free af->dN f 24 pG 6 [slice (some (Addr.mk af 0 none)) 3 3] (a9.add af ci) λn iq ir it iu iv iw a ix c ba=>∀ag,lV (int u8 n::int u64 iq::int u64 ir
 :: int u64 it::int u64 iu::int i64 iv::int i64 iw::slice a ix c::xL) λxL=>lE (some (Box.mk ag xL 27 16 true true)) λd3=>ba.free ag->dN f 27 pG 7 [slice (some (Addr.mk ag 0 none)) 2 2] (ba.add ag xL) λn iy
 iz i0 i1 i2 i3 a i4 c d4=>∀bb,lM (m'.add bb [string (.mk (.mk [97,98])),string (.mk (.mk [99])),string (.mk (.mk [97,100]))]) λd5=>lX (int u64 iy) λi5=>lX (int u64 i0) λi6=>lX (int u64 iz) λi7=>lX (int
 u64 i1) λi8=>lX (int u8 n) λi9=>lX (int i64 i2) λja=>lX (int i64 i3) λjb=>lX (slice a i4 c) λjc=>lE (some (Box.mk bb [string (.mk (.mk [97,98])),string (.mk (.mk [99])),string (.mk (.mk [97,100]))] 9 3
 true true)) λd6=>m'.free bb->∀V,m'.le V->d4.le V->d5.le V->dN f 30 pG 53 [slice (some (Addr.mk bb 0 none)) 3 3] V λn jd je jf jg jh ji a jj c d7=>∀bc,lM (m'.add bc [string (.mk (.mk [97,98])),string (.mk (.mk
 [99])),string (.mk (.mk [97,100]))]) λd8=>lX (int u64 jd) λjk=>lX (int u64 je) λjl=>lX (int i64 jh) λjm=>lX (int i64 ji) λjn=>lX (int u64 jg) λjo=>lX (int u8 n) λjp=>lX (int u64 jf) λjq=>
 lX (slice a jj c) λjr=>lE (some (Box.mk bc [string (.mk (.mk [97,98])),string (.mk (.mk [99])),string (.mk (.mk [97,100]))] 9 3 true true)) λd9=>m'.free bc->∀V,m'.le V->d7.le V->d8.le V->dN f 32 pG 53 [slice
 (some (Addr.mk bc 0 none)) 3 3] V λn js jt ju jv jw jx a jy c ea=>∀bd,lM (m'.add bd [string (.mk (.mk [97,98])),string (.mk (.mk [97,98]))]) λeb=>lX (int u64 jt) λjz=>lX (int i64 jx) λj0=>lX (int u64 js)
 λj1=>lX (int u8 n) λj2=>lX (int u64 jv) λj3=>lX (int u64 ju) λj4=>lX (int i64 jw) λj5=>lX (slice a jy c) λj6=>lE (some (Box.mk bd [string (.mk (.mk [97,98])),string (.mk (.mk [97,98]))] 9 2 true
 true)) λec=>m'.free bd->∀V,m'.le V->ea.le V->eb.le V->dN f 35 pG 53 [slice (some (Addr.mk bd 0 none)) 2 2] V λn j7 j8 j9 ka kb kc a kd c ed=>∀ah,lX (int i64 kc) λke=>lX (int u64 ka) λkf=>lX (int u64 j8)
 λkg=>lX (int u64 j7) λkh=>lX (int i64 kb) λki=>lX (int u64 j9) λkj=>lX (int u8 n) λkk=>lX (slice a kd c) λkl=>lE (some (Box.mk ah ac 27 16 true true)) λee=>m'.free ah->∀V,m'.le V->ed.le V->
 Mem.le (m'.add ah ac) V->dN f 39 pG 6 [slice (some (Addr.mk ah 0 none)) 2 2] V λn km kn ko kp kq kr a ks c ef=>lX (int u64 kp) λkt=>lX (int i64 kq) λku=>lX (int u64 km) λkv=>lX (int u64 kn) λkw=>lX (int
 i64 kr) λkx=>lX (int u8 n) λky=>lX (int u64 ko) λkz=>lX (slice a ks c) λk0=>dN f 42 pG 9 a1 ef λn k1 k2 k3 k4 k5 k6 a k7 c be=>∀ai,lV (int u8 n::int u64 k1::int u64 k2::int u64 k3::int u64 k4 ::
 int i64 k5::int i64 k6::slice a k7 c::a2) λcj=>lE (some (Box.mk ai cj 27 16 true true)) λeg=>be.free ai->dN f 45 pG 6 [slice (some (Addr.mk ai 0 none)) 2 2] (be.add ai cj) λn k8 k9 la lb lc ld a lf c eh=>lX
 (int i64 lc) λlg=>lX (int u64 k9) λlh=>lX (int u64 k8) λli=>lX (int i64 ld) λlj=>lX (int u64 lb) λlk=>lX (int u8 n) λll=>lX (int u64 la) λlm=>lX (slice a lf c) λln=>dN f 47 pG 9 a1 eh λn
 lo lp lq lr ls lt a lu c bf=>∀aj,lV (int u8 n::int u64 lo::int u64 lp::int u64 lq::int u64 lr::int i64 ls::int i64 lt::slice a lu c::a3) λck=>lE (some (Box.mk aj ck 27 16 true true)) λei=>bf.free aj->
 dN f 50 pG 6 [slice (some (Addr.mk aj 0 none)) 2 2] (bf.add aj ck) λn lv lw lx ly lz l0 a l1 c bg=>∀ak,lV [ll,li,lh,lm,lk,lg,lj,ln,int u8 n,int u64 lv,int u64 lw,int u64 lx,int u64 ly,int i64 lz,int i64 l0,
 slice a l1 c] λcl=>lE (some (Box.mk ak cl 27 16 true true)) λej=>bg.free ak->dN f 52 pG 7 [slice (some (Addr.mk ak 0 none)) 2 2] (bg.add ak cl) λn l2 l3 l4 l5 l6 l7 a l8 c ek=>lX (int u64 l3) λl9=>lX (int u64
 l4) λma=>lX (int i64 l6) λmb=>lX (int u64 l2) λmc=>lX (int u64 l5) λmd=>lX (int u8 n) λmf=>lX (int i64 l7) λmg=>lX (slice a l8 c) λmh=>dN f 54 pG 9 a1 ek λn mi mj ml mm mn mo a mp c bh=>∀
 al,lV (int u8 n::int u64 mi::int u64 mj::int u64 ml::int u64 mm::int i64 mn::int i64 mo::slice a mp c::a2) λcm=>lE (some (Box.mk al cm 27 16 true true)) λel=>bh.free al->dN f 57 pG 6 [slice (some
 (Addr.mk al 0 none)) 2 2] (bh.add al cm) λn mq mr ms mt mu mv a mw c em=>lX (int u64 mq) λmx=>lX (int i64 mu) λmz=>lX (int u8 n) λna=>lX (int u64 mr) λnb=>lX (int u64 mt) λnc=>lX (int u64 ms) λnd
 => lX (int i64 mv) λne=>lX (slice a mw c) λnf=>dN f 59 pG 9 a1 em λn ng nh ni nj nk nl a nm c bi=>∀am,lV (int u8 n::int u64 ng::int u64 nh::int u64 ni::int u64 nj::int i64 nk::int i64 nl::slice a nm
 c::a3) λcn=>lE (some (Box.mk am cn 27 16 true true)) λen=>bi.free am->dN f 62 pG 6 [slice (some (Addr.mk am 0 none)) 2 2] (bi.add am cn) λn nn np nq nr ns nt a nu c bj=>∀an,lV [na,mx,nb,nd,nc,mz,ne,nf,
 int u8 n,int u64 nn,int u64 np,int u64 nq,int u64 nr,int i64 ns,int i64 nt,slice a nu c] λco=>lE (some (Box.mk an co 27 16 true true)) λeo=>bj.free an->dN f 64 pG 7 [slice (some (Addr.mk an 0 none)) 2 2] (bj.add
 an co) λn nv nw nx ny nz oa a ob c ep=>lX (int i64 nz) λoc=>lX (int u64 nv) λod=>lX (int u64 nw) λoe=>lX (int u64 nx) λog=>lX (int i64 oa) λoh=>lX (int u64 ny) λoi=>lX (int u8 n) λoj=>lX
 (slice a ob c) λok=>dN f 66 pG 5 [int u8 120] ep λn ol om oo op oq os a ot c eq=>∀bk,lM (m'.add bk [string (.mk (.mk [121,97])),string (.mk (.mk [121,98]))]) λer=>lX (int u64 om) λou=>lX (int u64 op) fun
 ov=>lX (int u64 ol) λow=>lX (int u64 oo) λox=>lX (int i64 os) λoy=>lX (int u8 n) λoz=>lX (int i64 oq) λpa=>lX (slice a ot c) λpb=>lE (some (Box.mk bk [string (.mk (.mk [121,97])),string (.mk (.mk
 [121,98]))] 9 2 true true)) λes=>m'.free bk->∀V,m'.le V->eq.le V->er.le V->dN f 68 pG 53 [slice (some (Addr.mk bk 0 none)) 2 2] V λn pc pd pe pf pg ph a pi c et=>lX (int i64 pg) λpj=>lX (int u64 pf) λpk=>
 lX (int i64 ph) λpl=>lX (int u64 pc) λpm=>lX (int u64 pd) λpn=>lX (int u8 n) λpo=>lX (int u64 pe) λpp=>lX (slice a pi c) λpq=>dN f 69 pG 5 [int u8 122] et λn pr ps pt pu pv pw a px c bl=>∀ao,lV
 [oz,ow,ou,ox,ov,pa,oy,pb,po,pm,pn,pp,pk,pj,pl,pq,int u8 n,int u64 pr,int u64 ps,int u64 pt,int u64 pu,int i64 pv,int i64 pw,slice a px c] λcp=>lE (some (Box.mk ao cp 27 24 true true)) λeu=>bl.free
 ao->dN f 71 pG 6 [slice (some (Addr.mk ao 0 none)) 3 3] (bl.add ao cp) λn py pz qa qb qc qd a qe c ev=>lX (int u64 pz) λqf=>lX (int u64 py) λqg=>lX (int i64 qd) λqh=>lX (int u64 qb) λqi=>lX (int u8 n) fun
 qj=>lX (int u64 qa) λqk=>lX (int i64 qc) λql=>lX (slice a qe c) λqm=>dN f 72 pG 5 [int u8 120] ev λn qn qo qp qq qr qs a qt c ew=>lX (int u64 qp) λqu=>lX (int u64 qq) λqv=>lX (int u64 qo) λqw=>
 lX (int i64 qr) λqx=>lX (int u8 n) λqy=>lX (int i64 qs) λqz=>lX (int u64 qn) λq0=>lX (slice a qt c) λq1=>dN f 73 pG 5 [int u8 121] ew λn q2 q3 q4 q5 q6 q7 a q8 c ex=>∀ap,lX (int u64 q2) λq9=>lX
 (int u64 q4) λra=>lX (int i64 q7) λrb=>lX (int i64 q6) λrc=>lX (int u8 n) λrd=>lX (int u64 q5) λre=>lX (int u64 q3) λrf=>lX (slice a q8 c) λrg=>lE (some (Box.mk ap ac 27 16 true true)) λey=>
 m'.free ap->∀V,m'.le V->ex.le V->Mem.le (m'.add ap ac) V->dN f 77 pG 7 [slice (some (Addr.mk ap 0 none)) 2 2] V λn rh ri rj rk rl rm a rn c ez=>lX (int u64 rj) λro=>lX (int u64 ri) λrp=>lX (int i64 rm) λrq
 => lX (int u64 rk) λrr=>lX (int i64 rl) λrs=>lX (int u64 rh) λrt=>lX (int u8 n) λru=>lX (slice a rn c) λrv=>dN f 78 pG 5 [int u8 122] ez λn rw rx ry rz r0 r1 a r2 c bm=>∀aq,lV [qy,q0,qw,qu,qv,
 qx,qz,q1,rd,q9,rf,ra,re,rc,rb,rg,ru,rt,rp,ro,rr,rs,rq,rv,int u8 n,int u64 rw,int u64 rx,int u64 ry,int u64 rz,int i64 r0,int i64 r1,slice a r2 c] λcq=>lE (some (Box.mk aq cq 27 32 true true)) λe0
 => bm.free aq->dN f 80 pG 6 [slice (some (Addr.mk aq 0 none)) 4 4] (bm.add aq cq) λn r3 r4 r5 r6 r7 r8 a r9 c cr=>∀cs,lV [gg,gi,ge,gd,gj,gf,gh,gk,g3,g2,g4,g0,g1,gz,g5,g6,int i64 1,hg,hk,hj,hi,he,hh,
 hf,hl,hw,ht,hy,hu,hx,hv,hz,h0,int i64 1,ie,h8,ig,ic,h9,ia,ib,ih,i9,i5,i7,i6,i8,ja,jb,jc,int i64 3,jp,jk,jl,jq,jo,jm,jn,jr,j2,j1,jz,j4,j3,j5,j0,j6,int i64 0,kk,kh,kg,kj,kf,ki,ke,
 kl,ky,kv,kw,kz,kt,ku,kx,k0,int i64 1,mf,mc,l9,ma,md,mb,mg,mh,oj,od,oe,og,oi,oc,oh,ok,int i64 0,qj,qg,qf,qk,qi,ql,qh,qm,int u8 n,int u64 r3,int u64 r4,int u64 r5,int u64 r6,int i64 r7,int
 i64 r8,slice a r9 c,int i64 1] λct=>lE (dn::dn::dq::dq::dr::dr::du::du::dx::dx::d0::d0::d2::d2::yL::yL::d3::d3::d6::d6::d9::d9::ec::ec::ee::ee::eg::eg::ei::ei::ej
 :: ej::el::el::en::en::eo::eo::es::es::eu::eu::ey::ey::e0::e0::some (Box.mk cs ct 99 119 true true)::f5) λcu=>cr.free cs->∀M,m'.le M->mL.le M->dp.le M->Mem.le (m'.add b cf) M->a5.le M->
 Mem.le (a5.add ad ch) M->ds.le M->dt.le M->dv.le M->dw.le M->dy.le M->dz.le M->d1.le M->Mem.le (m'.add ae cg) M->a9.le M->Mem.le (a9.add af ci) M->ba.le M->Mem.le (ba.add ag xL) M->d4.le M->d5.le M->d7.le M->d8.le
 M->ea.le M->eb.le M->ed.le M->Mem.le (m'.add ah ac) M->ef.le M->be.le M->Mem.le (be.add ai cj) M->eh.le M->bf.le M->Mem.le (bf.add aj ck) M->bg.le M->Mem.le (bg.add ak cl) M->ek.le M->bh.le M->Mem.le (bh.add al cm)
 M->em.le M->bi.le M->Mem.le (bi.add am cn) M->bj.le M->Mem.le (bj.add an co) M->ep.le M->eq.le M->er.le M->et.le M->bl.le M->Mem.le (bl.add ao cp) M->ev.le M->ew.le M->ex.le M->Mem.le (m'.add ap ac) M->ez.le M->
 bm.le M->Mem.le (bm.add aq cq) M->cr.le M->Mem.le (cr.add cs ct) M->∃I,inI I [int i64 0] [] [] M/\∀(n:Int) m' (e1:Nat),lV (List.take 17 (List.drop (Int.toNat n*17) ct)) λxL=>lE (Nat.ble 8 (xL.length)) λyL=>
 lV [agg (.mk (List.take 8 xL))] λcv=>M.le m'->I [int i64 n] [] [] m' e1->br (decide (n < (↑(7:Nat):Int))) (Zaf n 7/\chk (Nat.ble (Int.toNat n*17) (2+1+1+1+1+1+1+1+1+1+1+1+1+1+1+1+1
 + 1+1+1+1+1+1+1+1+1+1+1+1+1+1+1+1+1+1+1+1+1+1+1+1+1+1+1+1+1+1+1+1+1+1+1+1+1+1+1+1+1+1+1+1+1+1+1+1+1+1+1+1+1+1+1+1+1 +
 1+1+1+1+1+1+1+1+1+1+1+1+1+1+1+1+1+1+1+1+1+1+1+1+1+1+1)) (∀b,lE (some (Box.mk b xL 99 17 false true)::cu) λar=>chk (Nat.beq (xL.length) 17&&Zbi xL) (chk yL (∃R_1,
 True/\CX pG 19 (.mk cv) m' [] R_1/\ZbT (.tup [shT,.int i64]) R_1/\∀cw cx cy cz da db dc a bn c bo ab,lV [int u8 cw,int u64 cx,int u64 cy,int u64 cz,int u64 da,int i64 db,int i64 dc,slice a bn c] λaa=>m'.le ab->
 R_1 (tuple (.mk [agg (.mk aa),int i64 bo])) ab []->∀b,lE (some (Box.mk b aa 27 8 false true)::ar) λbp=>chk yL (∃R_2,True/\CX pG 20 (.mk cv) ab [] R_2/\ZbT (.tup [.slice,.int i64]) R_2/\∀a bq c bs m',ab.le m'->
 R_2 (tuple (.mk [slice a bq c,int i64 bs])) m' []->∃(b:Bool),lV [bool b] λbt=>br (!i64.wrap (bo+bs) == 0) (Zab bp/\[bool true]=bt) (chk (Nat.ble 16 (xL.length)) (kB pG 54 [agg (.mk aa),agg (.mk (List.take 8
 (List.drop 8 xL)))] m' λb m'=>br (!b) (Zab bp/\[bool true]=bt) (Eng.ZuZ xL 16 λv=>chk (ZaE i64 v) (br (!(↑bq:Int) == RowKit.intOf v) (Zab bp/\[bool true]=bt) (chk yL (kB pG 26 cv m' λb m'=>Zab bp
 /\ [bool !b]=bt))))))/\br b (rtM m m' R (bool false)) (Zab cu/\nxI e1 I [int i64 (i64.wrap (n+1))] [] [] m')))))) (∀b,lE (some (Box.mk b [string (.mk (.mk [97,98])),string (.mk (.mk [97,99]))] 9 2 true true)::cu)
 λxL=>m'.free b->kN pG 53 [slice (some (Addr.mk b 0 none)) 2 2] (m'.add b [string (.mk (.mk [97,98])),string (.mk (.mk [97,99]))]) λn cw cx cy cz da db a dc c m'=>∃R_1,True/\CX pG 49 (.mk [agg (.mk [int u8 n,int
 u64 cw,int u64 cx,int u64 cy,int u64 cz,int i64 da,int i64 db,slice a dc c]),agg (.mk [int i64 0,int i64 0,int i64 2,int i64 1])]) m' [] R_1/\ZbT (.tup [.int i64,.int i64]) R_1/\∀n bn ab,m'.le ab->R_1 (tuple (.mk
 [int i64 n,int i64 bn])) ab []->∀b,lE (some (Box.mk b [string (.mk (.mk [97])),string (.mk (.mk [97,98]))] 9 2 true true)::xL) λxL=>ab.free b->kN pG 53 [slice (some (Addr.mk b 0 none)) 2 2] (ab.add b [string (.mk
 (.mk [97])),string (.mk (.mk [97,98]))]) λbo bq bs sa sb sc sd a se c m'=>∃R_2,True/\CX pG 49 (.mk [agg (.mk [int u8 bo,int u64 bq,int u64 bs,int u64 sa,int u64 sb,int i64 sc,int i64 sd,slice a se c]),agg (.mk
 [int i64 0,int i64 0,int i64 2,int i64 1])]) m' [] R_2/\ZbT (.tup [.int i64,.int i64]) R_2/\∀e2 e3 bu,m'.le bu->R_2 (tuple (.mk [int i64 e2,int i64 e3])) bu []->∀b,lE (some (Box.mk b [string (.mk (.mk [97,98,99])),
 string (.mk (.mk [97,98,100])),string (.mk (.mk [97]))] 9 3 true true)::xL) λxL=>bu.free b->kN pG 53 [slice (some (Addr.mk b 0 none)) 3 3] (bu.add b [string (.mk (.mk [97,98,99])),string (.mk (.mk [97,98,100])),
 string (.mk (.mk [97]))]) λsf sg sh si sj sk sl a sm c m'=>∃R_3,True/\CX pG 49 (.mk [agg (.mk [int u8 sf,int u64 sg,int u64 sh,int u64 si,int u64 sj,int i64 sk,int i64 sl,slice a sm c]),agg (.mk [int i64 0,int i64
 0,int i64 3,int i64 1])]) m' [] R_3/\ZbT (.tup [.int i64,.int i64]) R_3/\∀e4 e5 bv,m'.le bv->R_3 (tuple (.mk [int i64 e4,int i64 e5])) bv []->∀b,lE (some (Box.mk b [string (.mk (.mk [97,98,99])),string (.mk (.mk
 [97,98,100])),string (.mk (.mk [97]))] 9 3 true true)::xL) λxL=>bv.free b->kN pG 53 [slice (some (Addr.mk b 0 none)) 3 3] (bv.add b [string (.mk (.mk [97,98,99])),string (.mk (.mk [97,98,100])),string (.mk (.mk
 [97]))]) λsn sp sq sr ss st su a sv c m'=>∃R_4,True/\CX pG 36 (.mk [agg (.mk [int u8 sn,int u64 sp,int u64 sq,int u64 sr,int u64 ss,int i64 st,int i64 su,slice a sv c])]) m' [] R_4/\ZbT (.tup [.agg [.int i64,.int
 i64,.int i64,.int i64],.int i64,.bool,.int i64]) R_4/\∀sw sx sy sz e6 (b:Bool) e7 dd,lV [int i64 sw,int i64 sx,int i64 sy,int i64 sz] λar=>m'.le dd->R_4 (tuple (.mk [agg (.mk ar),int i64 e6,bool b,int i64
 e7])) dd []->∀s0,∃(e8:Bool),lV [bool e8] λaa=>lE (some (Box.mk s0 ar 37 4 false true)::xL) λxL=>br (i64.wrap (i64.wrap (i64.wrap (bn+e3)+e5)+e7) == 0) (br (n == 2) (br (e2 == 0) (br (e4 == 0) (∃(e9:
 Bool),EqIs pG 37 (agg (.mk ar)) (agg (.mk [int i64 0,int i64 0,int i64 2,int i64 2])) e9/\br e9 (br (e6 == 2) (Zab xL/\[bool b]=aa) (Zab xL/\[bool false]=aa)) (Zab xL/\[bool false]=aa)) (Zab xL/\[bool
 false]=aa)) (Zab xL/\[bool false]=aa)) (Zab xL/\[bool false]=aa)) (Zab xL/\[bool false]=aa)/\rtM m dd R (bool e8))):CX Tryz.prog 17 #[] m [] R:=
 Zad (E:=Zmi) Zay mix Tryz.func17 [] [] (by kernel_rfl) (Eq.mp (by kernel_rfl) h)
end Go.Proofs.YtfgfahnakepegaaGreat
namespace Go.Proofs.YtfgfahnakepegaaGreat
open Go Go.Eng Go.Rx Go.Proofs Go.RowKit
set_option maxRecDepth 100000
def aE1:T:=Zd9 [ZdV [97,98],ZdV [97,99]]
def aE6:T:=Zd9 [Zam 98,Zam 99]
def aE8:T:=Zje [Zam 97,aE6]
def ZBa:T:=Zd9 [ZdV [97],ZdV [97,98]]
def ZBD:T:=Zd9 [ZdV [97],ZdV [97,98]]
def ZAd:T:=Zd9 [ZdV [97,98,99],ZdV [97,98,100],ZdV [97]]
def ZBb:T:=Zd9 [Zam 99,Zam 100]
def ZBc:T:=Zje [Zam 97,Zam 98,ZBb]
def ZBE:T:=Zd9 [ZBc,Zam 97]
def ZBF:T:=Zd9 [ZdV [97,98],ZdV [99],ZdV [97,100]]
def ZBG:T:=Zd9 [ZdV [97,98],ZdV [99],ZdV [97,100]]
def ZBH:T:=Zd9 [ZdV [97,98],ZdV [97,98]]
def ZBI:T:=Zje [Zam 97,Zam 98]
def ZBd:T:=ZAh (Zam 97)
def ZBe:T:=Zje [ZBd,Zam 98]
def ZBf:T:=ZAh (Zam 97)
def ZBg:T:=Zje [ZBf,Zam 99]
def ZBJ:T:=Zd9 [ZBe,ZBg]
def ZBh:T:=ZAh (Zam 97)
def ZBi:T:=Zje [ZBh,Zam 98]
def ZBj:T:=ZAh (Zam 97)
def ZBk:T:=Zje [ZBj,Zam 99]
def ZBK:T:=Zd9 [ZBi,ZBk]
def ZBl:T:=Zam 120
def ZBm:T:=Zd9 [ZdV [121,97],ZdV [121,98]]
def ZBn:T:=Zam 122
def ZBL:T:=Zje [ZBl,ZBm,ZBn]
def ZBo:T:=Zam 120
def ZBp:T:=Zam 121
def ZBq:T:=Zd9 [Zam 97,Zam 98]
def ZBr:T:=Zam 122
def ZBM:T:=Zje [ZBo,ZBp,ZBq,ZBr]
def awF:Fx:=λi _ _=>match i with
 | 1=>IsE aE1
 | 6=>IsE aE6
 | 8=>IsE aE8
 | 11=>IsE ZBa
 | 13=>IsE ZBD
 | 16=>IsE ZAd
 | 22=>IsE ZBb
 | 24=>IsE ZBc
 | 27=>IsE ZBE
 | 30=>IsE ZBF
 | 32=>IsE ZBG
 | 35=>IsE ZBH
 | 39=>IsE ZBI
 | 42=>IsE ZBd
 | 45=>IsE ZBe
 | 47=>IsE ZBf
 | 50=>IsE ZBg
 | 52=>IsE ZBJ
 | 54=>IsE ZBh
 | 57=>IsE ZBi
 | 59=>IsE ZBj
 | 62=>IsE ZBk
 | 64=>IsE ZBK
 | 66=>IsE ZBl
 | 68=>IsE ZBm
 | 69=>IsE ZBn
 | 71=>IsE ZBL
 | 72=>IsE ZBo
 | 73=>IsE ZBp
 | 77=>IsE ZBq
 | 78=>IsE ZBr
 | 80=>IsE ZBM
 | _=>IsE T0
structure Item (n w:T)(c:Nat):Prop where
 rgt:T.rgt n=true
 cuts:n.cuts.length=c
 same:((ZaF n).1.light&&(w.light&&(ZaF n).1.same w))=true
 clean:n.clean=true
theorem ZAX:Item aE1 aE8 1:=⟨by decide +kernel,by decide +kernel,by decide +kernel,by decide +kernel⟩
theorem ZzA:Item ZBa ZBD 1:=⟨by decide +kernel,by decide +kernel,by decide +kernel,by decide +kernel⟩
theorem ZzB:Item ZAd ZBE 3:=⟨by decide +kernel,by decide +kernel,by decide +kernel,by decide +kernel⟩
theorem ZzC:Item ZBF ZBG 0:=⟨by decide +kernel,by decide +kernel,by decide +kernel,by decide +kernel⟩
theorem ZzD:Item ZBH ZBI 1:=⟨by decide +kernel,by decide +kernel,by decide +kernel,by decide +kernel⟩
theorem ZzE:Item ZBJ ZBK 0:=⟨by decide +kernel,by decide +kernel,by decide +kernel,by decide +kernel⟩
theorem ZzF:Item ZBL ZBM 1:=⟨by decide +kernel,by decide +kernel,by decide +kernel,by decide +kernel⟩
def ZBX(x y:T)(c:Nat):List Value:=x.cs++(y.cs++[.int .i64 (c:Nat)])
set_option maxHeartbeats 6400000 in
theorem ZrU(m:Mem):CX Tryz.prog 17 #[] m [] (Ret (.bool true)):=by
 apply ZjT
 refine Zae (Zfw 97 (by omega) m) ZaP (Zgb λta ma ha ra ea ka=>?_)
 refine Zae (Zfw 98 (by omega) ma) ZaP (Zgb λtb mb hb rb eb kb=>?_)
 refine Zae (Zfw 99 (by omega) mb) ZaP (Zgb λtc mc hc rc ec kc=>?_)
 refine Zae (Zfw 100 (by omega) mc) ZaP (Zgb λtd md hd rd ed kd=>?_)
 intro b b1 b2 b3
 refine⟨awF,?_⟩
 have g0:md.le md:=Mem.le_refl _
 have ra:=ra.mono (mLt hb (mLt hc hd))
 have rb:=rb.mono (mLt hc hd)
 have rc:=rc.mono (hd)
 have rd:=rd.mono (Mem.le_refl _)
 intro b1 f1
 refine⟨_,rfl,ZdW [⟨#[97,98]⟩,⟨#[97,99]⟩] _ _ _ _ (ZdX (m:=md) (b:=b1) (cs:=([⟨#[97,98]⟩,⟨#[97,99]⟩]:List ByteArray).map Value.string)) (by decide) (by decide +kernel) (by simp) rfl,ZaP,Zgb λt1 m1 h1 r1 e1 k1=>?_⟩
 have g1:md.le m1:=(mLt (Mem.le_add f1 _) h1)
 intro b6 f6
 intro V6 v6 w6 x6
 refine⟨_,rfl,ZvD [tb,tc] [Zam 98,Zam 99] _ _ V6 ((Za7 f6 (by intro x hx;simp only[List.mem_cons,List.not_mem_nil,or_false]at hx;rcases hx with rfl|rfl <;> assumption) (by simp)).mono x6) (by show[T.er tb,T.er tc]=_;rw[eb,ec]) (by decide +kernel) (by decide +kernel) (by simp),ZaP,Zgb λt6 m6 h6 r6 e6 k6=>?_⟩
 have s6:m1.le m6:=(mLt w6 h6)
 have g6:md.le m6:=mLt g1 s6
 intro b8 f8
 have q8_0:Rep m6 ta:=(ra.mono g6)
 have q8_1:Rep m6 t6:=(r6.mono (Mem.le_refl _))
 refine⟨_,rfl,ZjS [ta,t6] [Zam 97,aE6] _ _ _ (Za7 f8 (by intro x hx;simp only[List.mem_cons,List.not_mem_nil,or_false]at hx;rcases hx with rfl|rfl <;> assumption) (by simp)) (by show[T.er ta,T.er t6]=_;rw[ea,e6]) (by decide +kernel) (by decide +kernel),ZaP,Zgb λt8 m8 h8 r8 e8 k8=>?_⟩
 have s8:m6.le m8:=(mLt (Mem.le_add f8 _) h8)
 have g8:md.le m8:=mLt g6 s8
 intro b11 f11
 intro V11 v11 w11 x11
 refine⟨_,rfl,ZdW [⟨#[97]⟩,⟨#[97,98]⟩] _ _ _ V11 ((ZdX (m:=md) (b:=b11) (cs:=([⟨#[97]⟩,⟨#[97,98]⟩]:List ByteArray).map Value.string)).mono x11) (by decide) (by decide +kernel) (by simp) rfl,ZaP,Zgb λt11 m11 u5 r11 e11 k11=>?_⟩
 have s11:m8.le m11:=(mLt w11 u5)
 have g11:md.le m11:=mLt g8 s11
 intro b13 f13
 intro V13 v13 w13 x13
 refine⟨_,rfl,ZdW [⟨#[97]⟩,⟨#[97,98]⟩] _ _ _ V13 ((ZdX (m:=md) (b:=b13) (cs:=([⟨#[97]⟩,⟨#[97,98]⟩]:List ByteArray).map Value.string)).mono x13) (by decide) (by decide +kernel) (by simp) rfl,ZaP,Zgb λt13 m13 pM r13 e13 k13=>?_⟩
 have s13:m11.le m13:=(mLt w13 pM)
 have g13:md.le m13:=mLt g11 s13
 intro b16 f16
 intro V16 v16 w16 x16
 refine⟨_,rfl,ZdW [⟨#[97,98,99]⟩,⟨#[97,98,100]⟩,⟨#[97]⟩] _ _ _ V16 ((ZdX (m:=md) (b:=b16) (cs:=([⟨#[97,98,99]⟩,⟨#[97,98,100]⟩,⟨#[97]⟩]:List ByteArray).map Value.string)).mono x16) (by decide) (by decide +kernel) (by simp) rfl,ZaP,Zgb λt16 m16 Ci r16 e16 k16=>?_⟩
 have s16:m13.le m16:=(mLt w16 Ci)
 have g16:md.le m16:=mLt g13 s16
 intro b22 f22
 intro V22 v22 w22 x22
 refine⟨_,rfl,ZvD [tc,td] [Zam 99,Zam 100] _ _ V22 ((Za7 f22 (by intro x hx;simp only[List.mem_cons,List.not_mem_nil,or_false]at hx;rcases hx with rfl|rfl <;> assumption) (by simp)).mono x22) (by show[T.er tc,T.er td]=_;rw[ec,ed]) (by decide +kernel) (by decide +kernel) (by simp),ZaP,Zgb λt22 m22 Cj r22 e22 k22=>?_⟩
 have s22:m16.le m22:=(mLt w22 Cj)
 have g22:md.le m22:=mLt g16 s22
 intro b24 f24
 have q24_0:Rep m22 ta:=(ra.mono g22)
 have q24_1:Rep m22 tb:=(rb.mono g22)
 have q24_2:Rep m22 t22:=(r22.mono (Mem.le_refl _))
 refine⟨_,rfl,ZjS [ta,tb,t22] [Zam 97,Zam 98,ZBb] _ _ _ (Za7 f24 (by intro x hx;simp only[List.mem_cons,List.not_mem_nil,or_false]at hx;rcases hx with rfl|rfl|rfl <;> assumption) (by simp)) (by show[T.er ta,T.er tb,T.er t22]=_;rw[ea,eb,e22]) (by decide +kernel) (by decide +kernel),ZaP,Zgb λt24 m24 rH r24 e24 k24=>?_⟩
 have s24:m22.le m24:=(mLt (Mem.le_add f24 _) rH)
 have g24:md.le m24:=mLt g22 s24
 intro b27 f27
 have q27_0:Rep m24 t24:=(r24.mono (Mem.le_refl _))
 have q27_1:Rep m24 ta:=(ra.mono g24)
 refine⟨_,rfl,ZvD [t24,ta] [ZBc,Zam 97] _ _ _ (Za7 f27 (by intro x hx;simp only[List.mem_cons,List.not_mem_nil,or_false]at hx;rcases hx with rfl|rfl <;> assumption) (by simp)) (by show[T.er t24,T.er ta]=_;rw[e24,ea]) (by decide +kernel) (by decide +kernel) (by simp),ZaP,Zgb λt27 m27 tp r27 e27 k27=>?_⟩
 have s27:m24.le m27:=(mLt (Mem.le_add f27 _) tp)
 have g27:md.le m27:=mLt g24 s27
 intro b30 f30
 intro V30 v30 w30 x30
 refine⟨_,rfl,ZdW [⟨#[97,98]⟩,⟨#[99]⟩,⟨#[97,100]⟩] _ _ _ V30 ((ZdX (m:=md) (b:=b30) (cs:=([⟨#[97,98]⟩,⟨#[99]⟩,⟨#[97,100]⟩]:List ByteArray).map Value.string)).mono x30) (by decide) (by decide +kernel) (by simp) rfl,ZaP,Zgb λt30 m30 Ck r30 e30 k30=>?_⟩
 have s30:m27.le m30:=(mLt w30 Ck)
 have g30:md.le m30:=mLt g27 s30
 intro b32 f32
 intro V32 v32 w32 x32
 refine⟨_,rfl,ZdW [⟨#[97,98]⟩,⟨#[99]⟩,⟨#[97,100]⟩] _ _ _ V32 ((ZdX (m:=md) (b:=b32) (cs:=([⟨#[97,98]⟩,⟨#[99]⟩,⟨#[97,100]⟩]:List ByteArray).map Value.string)).mono x32) (by decide) (by decide +kernel) (by simp) rfl,ZaP,Zgb λt32 m32 Cl r32 e32 k32=>?_⟩
 have s32:m30.le m32:=(mLt w32 Cl)
 have g32:md.le m32:=mLt g30 s32
 intro b35 f35
 intro V35 v35 w35 x35
 refine⟨_,rfl,ZdW [⟨#[97,98]⟩,⟨#[97,98]⟩] _ _ _ V35 ((ZdX (m:=md) (b:=b35) (cs:=([⟨#[97,98]⟩,⟨#[97,98]⟩]:List ByteArray).map Value.string)).mono x35) (by decide) (by decide +kernel) (by simp) rfl,ZaP,Zgb λt35 m35 xx r35 e35 k35=>?_⟩
 have s35:m32.le m35:=(mLt w35 xx)
 have g35:md.le m35:=mLt g32 s35
 intro b39 f39
 intro V39 v39 w39 x39
 refine⟨_,rfl,ZjS [ta,tb] [Zam 97,Zam 98] _ _ V39 ((Za7 f39 (by intro x hx;simp only[List.mem_cons,List.not_mem_nil,or_false]at hx;rcases hx with rfl|rfl <;> assumption) (by simp)).mono x39) (by show[T.er ta,T.er tb]=_;rw[ea,eb]) (by decide +kernel) (by decide +kernel),ZaP,Zgb λt39 m39 Cm r39 e39 k39=>?_⟩
 have s39:m35.le m39:=(mLt w39 Cm)
 have g39:md.le m39:=mLt g35 s39
 refine⟨_,rfl,ZuR ta (Zam 97) _ (ra.mono g39) ea (by decide +kernel) (by decide +kernel),ZaP,Zgb λt42 m42 Cn r42 e42 k42=>?_⟩
 have s42:m39.le m42:=Cn
 have g42:md.le m42:=mLt g39 s42
 intro b45 f45
 have q45_0:Rep m42 t42:=(r42.mono (Mem.le_refl _))
 have q45_1:Rep m42 tb:=(rb.mono g42)
 refine⟨_,rfl,ZjS [t42,tb] [ZBd,Zam 98] _ _ _ (Za7 f45 (by intro x hx;simp only[List.mem_cons,List.not_mem_nil,or_false]at hx;rcases hx with rfl|rfl <;> assumption) (by simp)) (by show[T.er t42,T.er tb]=_;rw[e42,eb]) (by decide +kernel) (by decide +kernel),ZaP,Zgb λt45 m45 rY r45 e45 k45=>?_⟩
 have s45:m42.le m45:=(mLt (Mem.le_add f45 _) rY)
 have g45:md.le m45:=mLt g42 s45
 refine⟨_,rfl,ZuR ta (Zam 97) _ (ra.mono g45) ea (by decide +kernel) (by decide +kernel),ZaP,Zgb λt47 m47 kV r47 e47 k47=>?_⟩
 have s47:m45.le m47:=kV
 have g47:md.le m47:=mLt g45 s47
 intro b50 f50
 have q50_0:Rep m47 t47:=(r47.mono (Mem.le_refl _))
 have q50_1:Rep m47 tc:=(rc.mono g47)
 refine⟨_,rfl,ZjS [t47,tc] [ZBf,Zam 99] _ _ _ (Za7 f50 (by intro x hx;simp only[List.mem_cons,List.not_mem_nil,or_false]at hx;rcases hx with rfl|rfl <;> assumption) (by simp)) (by show[T.er t47,T.er tc]=_;rw[e47,ec]) (by decide +kernel) (by decide +kernel),ZaP,Zgb λt50 m50 Co r50 e50 k50=>?_⟩
 have s50:m47.le m50:=(mLt (Mem.le_add f50 _) Co)
 have g50:md.le m50:=mLt g47 s50
 intro b52 f52
 have q52_0:Rep m50 t45:=(r45.mono (mLt s47 (s50)))
 have q52_1:Rep m50 t50:=(r50.mono (Mem.le_refl _))
 refine⟨_,rfl,ZvD [t45,t50] [ZBe,ZBg] _ _ _ (Za7 f52 (by intro x hx;simp only[List.mem_cons,List.not_mem_nil,or_false]at hx;rcases hx with rfl|rfl <;> assumption) (by simp)) (by show[T.er t45,T.er t50]=_;rw[e45,e50]) (by decide +kernel) (by decide +kernel) (by simp),ZaP,Zgb λt52 m52 Cp r52 e52 k52=>?_⟩
 have s52:m50.le m52:=(mLt (Mem.le_add f52 _) Cp)
 have g52:md.le m52:=mLt g50 s52
 refine⟨_,rfl,ZuR ta (Zam 97) _ (ra.mono g52) ea (by decide +kernel) (by decide +kernel),ZaP,Zgb λt54 m54 Cq r54 e54 k54=>?_⟩
 have s54:m52.le m54:=Cq
 have g54:md.le m54:=mLt g52 s54
 intro b57 f57
 have q57_0:Rep m54 t54:=(r54.mono (Mem.le_refl _))
 have q57_1:Rep m54 tb:=(rb.mono g54)
 refine⟨_,rfl,ZjS [t54,tb] [ZBh,Zam 98] _ _ _ (Za7 f57 (by intro x hx;simp only[List.mem_cons,List.not_mem_nil,or_false]at hx;rcases hx with rfl|rfl <;> assumption) (by simp)) (by show[T.er t54,T.er tb]=_;rw[e54,eb]) (by decide +kernel) (by decide +kernel),ZaP,Zgb λt57 m57 uZ r57 e57 k57=>?_⟩
 have s57:m54.le m57:=(mLt (Mem.le_add f57 _) uZ)
 have g57:md.le m57:=mLt g54 s57
 refine⟨_,rfl,ZuR ta (Zam 97) _ (ra.mono g57) ea (by decide +kernel) (by decide +kernel),ZaP,Zgb λt59 m59 Cr r59 e59 k59=>?_⟩
 have s59:m57.le m59:=Cr
 have g59:md.le m59:=mLt g57 s59
 intro b62 f62
 have q62_0:Rep m59 t59:=(r59.mono (Mem.le_refl _))
 have q62_1:Rep m59 tc:=(rc.mono g59)
 refine⟨_,rfl,ZjS [t59,tc] [ZBj,Zam 99] _ _ _ (Za7 f62 (by intro x hx;simp only[List.mem_cons,List.not_mem_nil,or_false]at hx;rcases hx with rfl|rfl <;> assumption) (by simp)) (by show[T.er t59,T.er tc]=_;rw[e59,ec]) (by decide +kernel) (by decide +kernel),ZaP,Zgb λt62 m62 Cs r62 e62 k62=>?_⟩
 have s62:m59.le m62:=(mLt (Mem.le_add f62 _) Cs)
 have g62:md.le m62:=mLt g59 s62
 intro b64 f64
 have q64_0:Rep m62 t57:=(r57.mono (mLt s59 (s62)))
 have q64_1:Rep m62 t62:=(r62.mono (Mem.le_refl _))
 refine⟨_,rfl,ZvD [t57,t62] [ZBi,ZBk] _ _ _ (Za7 f64 (by intro x hx;simp only[List.mem_cons,List.not_mem_nil,or_false]at hx;rcases hx with rfl|rfl <;> assumption) (by simp)) (by show[T.er t57,T.er t62]=_;rw[e57,e62]) (by decide +kernel) (by decide +kernel) (by simp),ZaP,Zgb λt64 m64 yB r64 e64 k64=>?_⟩
 have s64:m62.le m64:=(mLt (Mem.le_add f64 _) yB)
 have g64:md.le m64:=mLt g62 s64
 refine⟨_,rfl,Zfw 120 (by omega) _,ZaP,Zgb λt66 m66 Ct r66 e66 k66=>?_⟩
 have s66:m64.le m66:=Ct
 have g66:md.le m66:=mLt g64 s66
 intro b68 f68
 intro V68 v68 w68 x68
 refine⟨_,rfl,ZdW [⟨#[121,97]⟩,⟨#[121,98]⟩] _ _ _ V68 ((ZdX (m:=md) (b:=b68) (cs:=([⟨#[121,97]⟩,⟨#[121,98]⟩]:List ByteArray).map Value.string)).mono x68) (by decide) (by decide +kernel) (by simp) rfl,ZaP,Zgb λt68 m68 Cu r68 e68 k68=>?_⟩
 have s68:m66.le m68:=(mLt w68 Cu)
 have g68:md.le m68:=mLt g66 s68
 refine⟨_,rfl,Zfw 122 (by omega) _,ZaP,Zgb λt69 m69 Cv r69 e69 k69=>?_⟩
 have s69:m68.le m69:=Cv
 have g69:md.le m69:=mLt g68 s69
 intro b71 f71
 have q71_0:Rep m69 t66:=(r66.mono (mLt s68 (s69)))
 have q71_1:Rep m69 t68:=(r68.mono (s69))
 have q71_2:Rep m69 t69:=(r69.mono (Mem.le_refl _))
 refine⟨_,rfl,ZjS [t66,t68,t69] [ZBl,ZBm,ZBn] _ _ _ (Za7 f71 (by intro x hx;simp only[List.mem_cons,List.not_mem_nil,or_false]at hx;rcases hx with rfl|rfl|rfl <;> assumption) (by simp)) (by show[T.er t66,T.er t68,T.er t69]=_;rw[e66,e68,e69]) (by decide +kernel) (by decide +kernel),ZaP,Zgb λt71 m71 Cw r71 e71 k71=>?_⟩
 have s71:m69.le m71:=(mLt (Mem.le_add f71 _) Cw)
 have g71:md.le m71:=mLt g69 s71
 refine⟨_,rfl,Zfw 120 (by omega) _,ZaP,Zgb λt72 m72 Cx r72 e72 k72=>?_⟩
 have s72:m71.le m72:=Cx
 have g72:md.le m72:=mLt g71 s72
 refine⟨_,rfl,Zfw 121 (by omega) _,ZaP,Zgb λt73 m73 Cy r73 e73 k73=>?_⟩
 have s73:m72.le m73:=Cy
 have g73:md.le m73:=mLt g72 s73
 intro b77 f77
 intro V77 v77 w77 x77
 refine⟨_,rfl,ZvD [ta,tb] [Zam 97,Zam 98] _ _ V77 ((Za7 f77 (by intro x hx;simp only[List.mem_cons,List.not_mem_nil,or_false]at hx;rcases hx with rfl|rfl <;> assumption) (by simp)).mono x77) (by show[T.er ta,T.er tb]=_;rw[ea,eb]) (by decide +kernel) (by decide +kernel) (by simp),ZaP,Zgb λt77 m77 Cz r77 e77 k77=>?_⟩
 have s77:m73.le m77:=(mLt w77 Cz)
 have g77:md.le m77:=mLt g73 s77
 refine⟨_,rfl,Zfw 122 (by omega) _,ZaP,Zgb λt78 m78 CA r78 e78 k78=>?_⟩
 have s78:m77.le m78:=CA
 have g78:md.le m78:=mLt g77 s78
 intro b80 f80
 have q80_0:Rep m78 t72:=(r72.mono (mLt s73 (mLt s77 (s78))))
 have q80_1:Rep m78 t73:=(r73.mono (mLt s77 (s78)))
 have q80_2:Rep m78 t77:=(r77.mono (s78))
 have q80_3:Rep m78 t78:=(r78.mono (Mem.le_refl _))
 refine⟨_,rfl,ZjS [t72,t73,t77,t78] [ZBo,ZBp,ZBq,ZBr] _ _ _ (Za7 f80 (by intro x hx;simp only[List.mem_cons,List.not_mem_nil,or_false]at hx;rcases hx with rfl|rfl|rfl|rfl <;> assumption) (by simp)) (by show[T.er t72,T.er t73,T.er t77,T.er t78]=_;rw[e72,e73,e77,e78]) (by decide +kernel) (by decide +kernel),ZaP,Zgb λt80 m80 CB r80 e80 k80=>?_⟩
 have s80:m78.le m80:=(mLt (Mem.le_add f80 _) CB)
 have g80:md.le m80:=mLt g78 s80
 intro b90 f90 M
 intro z0 z1 z2 z3 z4 z5 z6 z7 z8 z9 z10 z11 z12 z13 z14 z15 z16 z17 z18 z19 z20 z21 z22 z23 z24 z25 z26 z27 z28 z29 z30 z31 z32 z33 z34 z35 z36 z37 z38 z39 z40 z41 z42 z43 z44 z45 z46 z47 z48 z49 z50 z51 z52 z53 z54 z55 z56
 have hM:m80.le M:=by assumption
 have CC:m.le M:=mLt ha (mLt hb (mLt hc (mLt hd (mLt g80 hM))))
 have u1:Rep M t1:=r1.mono (mLt (mLt s6 (mLt s8 (mLt s11 (mLt s13 (mLt s16 (mLt s22 (mLt s24 (mLt s27 (mLt s30 (mLt s32 (mLt s35 (mLt s39 (mLt s42 (mLt s45 (mLt s47 (mLt s50 (mLt s52 (mLt s54 (mLt s57 (mLt s59 (mLt s62 (mLt s64 (mLt s66 (mLt s68 (mLt s69 (mLt s71 (mLt s72 (mLt s73 (mLt s77 (mLt s78 (s80))))))))))))))))))))))))))))))) hM)
 have u8:Rep M t8:=r8.mono (mLt (mLt s11 (mLt s13 (mLt s16 (mLt s22 (mLt s24 (mLt s27 (mLt s30 (mLt s32 (mLt s35 (mLt s39 (mLt s42 (mLt s45 (mLt s47 (mLt s50 (mLt s52 (mLt s54 (mLt s57 (mLt s59 (mLt s62 (mLt s64 (mLt s66 (mLt s68 (mLt s69 (mLt s71 (mLt s72 (mLt s73 (mLt s77 (mLt s78 (s80))))))))))))))))))))))))))))) hM)
 have u11:Rep M t11:=r11.mono (mLt (mLt s13 (mLt s16 (mLt s22 (mLt s24 (mLt s27 (mLt s30 (mLt s32 (mLt s35 (mLt s39 (mLt s42 (mLt s45 (mLt s47 (mLt s50 (mLt s52 (mLt s54 (mLt s57 (mLt s59 (mLt s62 (mLt s64 (mLt s66 (mLt s68 (mLt s69 (mLt s71 (mLt s72 (mLt s73 (mLt s77 (mLt s78 (s80)))))))))))))))))))))))))))) hM)
 have u13:Rep M t13:=r13.mono (mLt (mLt s16 (mLt s22 (mLt s24 (mLt s27 (mLt s30 (mLt s32 (mLt s35 (mLt s39 (mLt s42 (mLt s45 (mLt s47 (mLt s50 (mLt s52 (mLt s54 (mLt s57 (mLt s59 (mLt s62 (mLt s64 (mLt s66 (mLt s68 (mLt s69 (mLt s71 (mLt s72 (mLt s73 (mLt s77 (mLt s78 (s80))))))))))))))))))))))))))) hM)
 have u16:Rep M t16:=r16.mono (mLt (mLt s22 (mLt s24 (mLt s27 (mLt s30 (mLt s32 (mLt s35 (mLt s39 (mLt s42 (mLt s45 (mLt s47 (mLt s50 (mLt s52 (mLt s54 (mLt s57 (mLt s59 (mLt s62 (mLt s64 (mLt s66 (mLt s68 (mLt s69 (mLt s71 (mLt s72 (mLt s73 (mLt s77 (mLt s78 (s80)))))))))))))))))))))))))) hM)
 have u27:Rep M t27:=r27.mono (mLt (mLt s30 (mLt s32 (mLt s35 (mLt s39 (mLt s42 (mLt s45 (mLt s47 (mLt s50 (mLt s52 (mLt s54 (mLt s57 (mLt s59 (mLt s62 (mLt s64 (mLt s66 (mLt s68 (mLt s69 (mLt s71 (mLt s72 (mLt s73 (mLt s77 (mLt s78 (s80))))))))))))))))))))))) hM)
 have u30:Rep M t30:=r30.mono (mLt (mLt s32 (mLt s35 (mLt s39 (mLt s42 (mLt s45 (mLt s47 (mLt s50 (mLt s52 (mLt s54 (mLt s57 (mLt s59 (mLt s62 (mLt s64 (mLt s66 (mLt s68 (mLt s69 (mLt s71 (mLt s72 (mLt s73 (mLt s77 (mLt s78 (s80)))))))))))))))))))))) hM)
 have u32:Rep M t32:=r32.mono (mLt (mLt s35 (mLt s39 (mLt s42 (mLt s45 (mLt s47 (mLt s50 (mLt s52 (mLt s54 (mLt s57 (mLt s59 (mLt s62 (mLt s64 (mLt s66 (mLt s68 (mLt s69 (mLt s71 (mLt s72 (mLt s73 (mLt s77 (mLt s78 (s80))))))))))))))))))))) hM)
 have u35:Rep M t35:=r35.mono (mLt (mLt s39 (mLt s42 (mLt s45 (mLt s47 (mLt s50 (mLt s52 (mLt s54 (mLt s57 (mLt s59 (mLt s62 (mLt s64 (mLt s66 (mLt s68 (mLt s69 (mLt s71 (mLt s72 (mLt s73 (mLt s77 (mLt s78 (s80)))))))))))))))))))) hM)
 have u39:Rep M t39:=r39.mono (mLt (mLt s42 (mLt s45 (mLt s47 (mLt s50 (mLt s52 (mLt s54 (mLt s57 (mLt s59 (mLt s62 (mLt s64 (mLt s66 (mLt s68 (mLt s69 (mLt s71 (mLt s72 (mLt s73 (mLt s77 (mLt s78 (s80))))))))))))))))))) hM)
 have u52:Rep M t52:=r52.mono (mLt (mLt s54 (mLt s57 (mLt s59 (mLt s62 (mLt s64 (mLt s66 (mLt s68 (mLt s69 (mLt s71 (mLt s72 (mLt s73 (mLt s77 (mLt s78 (s80)))))))))))))) hM)
 have u64:Rep M t64:=r64.mono (mLt (mLt s66 (mLt s68 (mLt s69 (mLt s71 (mLt s72 (mLt s73 (mLt s77 (mLt s78 (s80))))))))) hM)
 have u71:Rep M t71:=r71.mono (mLt (mLt s72 (mLt s73 (mLt s77 (mLt s78 (s80))))) hM)
 have u80:Rep M t80:=r80.mono (mLt (Mem.le_refl _) hM)
 refine⟨λxs css tvs m' q=>∃i:Nat,i<=7/\xs=[.int .i64 i]/\q=7 - i,⟨7,0,by omega,rfl,rfl⟩,?_⟩
 rintro z0 m91 q yC ⟨i,hi,aZ,hq⟩
 obtain rfl:z0=i:=by simpa using aZ
 refine Zac (λaS=>?_) (λbI=>?_)
 ·have aN:i < 7:=by have:=zA6 aS;omega
  have CD:i=0\/i=1\/i=2\/i=3\/i=4\/i=5\/i=6:=by omega
  obtain⟨x,y,c,X,Y,aP,hX,hY,Al,Ai,bS,jV,tj,CE⟩:∃(x y:T)(c:Nat)(X Y:T),List.take 17 (List.drop ((i:Int).toNat*17) ([.int .u8 t1.k,.int .u64 t1.s0,.int .u64 t1.s1,.int .u64 t1.s2,.int .u64 t1.s3,.int .i64 t1.mn,.int .i64 t1.mx,.slice t1.a t1.subs.length t1.c,.int .u8 t8.k,.int .u64 t8.s0,.int .u64 t8.s1,.int .u64 t8.s2,.int .u64 t8.s3,.int .i64 t8.mn,.int .i64 t8.mx,.slice t8.a t8.subs.length t8.c,.int .i64 1,.int .u8 t11.k,.int .u64 t11.s0,.int .u64 t11.s1,.int .u64 t11.s2,.int .u64 t11.s3,.int .i64 t11.mn,.int .i64 t11.mx,.slice t11.a t11.subs.length t11.c,.int .u8 t13.k,.int .u64 t13.s0,.int .u64 t13.s1,.int .u64 t13.s2,.int .u64 t13.s3,.int .i64 t13.mn,.int .i64 t13.mx,.slice t13.a t13.subs.length t13.c,.int .i64 1,.int .u8 t16.k,.int .u64 t16.s0,.int .u64 t16.s1,.int .u64 t16.s2,.int .u64 t16.s3,.int .i64 t16.mn,.int .i64 t16.mx,.slice t16.a t16.subs.length t16.c,.int .u8 t27.k,.int .u64 t27.s0,.int .u64 t27.s1,.int .u64 t27.s2,.int .u64 t27.s3,.int .i64 t27.mn,.int .i64 t27.mx,.slice t27.a t27.subs.length t27.c,.int .i64 3,.int .u8 t30.k,.int .u64 t30.s0,.int .u64 t30.s1,.int .u64 t30.s2,.int .u64 t30.s3,.int .i64 t30.mn,.int .i64 t30.mx,.slice t30.a t30.subs.length t30.c,.int .u8 t32.k,.int .u64 t32.s0,.int .u64 t32.s1,.int .u64 t32.s2,.int .u64 t32.s3,.int .i64 t32.mn,.int .i64 t32.mx,.slice t32.a t32.subs.length t32.c,.int .i64 0,.int .u8 t35.k,.int .u64 t35.s0,.int .u64 t35.s1,.int .u64 t35.s2,.int .u64 t35.s3,.int .i64 t35.mn,.int .i64 t35.mx,.slice t35.a t35.subs.length t35.c,.int .u8 t39.k,.int .u64 t39.s0,.int .u64 t39.s1,.int .u64 t39.s2,.int .u64 t39.s3,.int .i64 t39.mn,.int .i64 t39.mx,.slice t39.a t39.subs.length t39.c,.int .i64 1,.int .u8 t52.k,.int .u64 t52.s0,.int .u64 t52.s1,.int .u64 t52.s2,.int .u64 t52.s3,.int .i64 t52.mn,.int .i64 t52.mx,.slice t52.a t52.subs.length t52.c,.int .u8 t64.k,.int .u64 t64.s0,.int .u64 t64.s1,.int .u64 t64.s2,.int .u64 t64.s3,.int .i64 t64.mn,.int .i64 t64.mx,.slice t64.a t64.subs.length t64.c,.int .i64 0,.int .u8 t71.k,.int .u64 t71.s0,.int .u64 t71.s1,.int .u64 t71.s2,.int .u64 t71.s3,.int .i64 t71.mn,.int .i64 t71.mx,.slice t71.a t71.subs.length t71.c,.int .u8 t80.k,.int .u64 t80.s0,.int .u64 t80.s1,.int .u64 t80.s2,.int .u64 t80.s3,.int .i64 t80.mn,.int .i64 t80.mx,.slice t80.a t80.subs.length t80.c,.int .i64 1]:List Value))=ZBX x y c/\x.er=X/\y.er=Y/\x.caps/\y.caps/\Rep M x/\Rep M y/\Item X Y c/\c<=20:=by
   rcases CD with rfl|rfl|rfl|rfl|rfl|rfl|rfl
   ·exact⟨t1,t8,1,_,_,rfl,e1,e8,k1,k8,u1,u8,ZAX,by omega⟩
   ·exact⟨t11,t13,1,_,_,rfl,e11,e13,k11,k13,u11,u13,ZzA,by omega⟩
   ·exact⟨t16,t27,3,_,_,rfl,e16,e27,k16,k27,u16,u27,ZzB,by omega⟩
   ·exact⟨t30,t32,0,_,_,rfl,e30,e32,k30,k32,u30,u32,ZzC,by omega⟩
   ·exact⟨t35,t39,1,_,_,rfl,e35,e39,k35,k39,u35,u39,ZzD,by omega⟩
   ·exact⟨t52,t64,0,_,_,rfl,e52,e64,k52,k64,u52,u64,ZzE,by omega⟩
   ·exact⟨t71,t80,1,_,_,rfl,e71,e80,k71,k80,u71,u80,ZzF,by omega⟩
  have yD:c<=1000000:=by omega
  refine⟨⟨by omega,by omega⟩,Zaa (by rw[Nat.ble_eq];show i*17<=102;omega) ?_⟩
  intro b92
  try dsimp only[lV,lM,lX,lE]
  have u6:=bS.mono yC
  have oC:T.rgt x=true:=by rw[<-ZwO,hX];exact tj.rgt
  have Dr:=Zc8.1 oC
  have iK:x.cuts.length=c:=by rw[<-ZsH,hX];exact tj.cuts
  have dA:x.clean=true:=by rw[<-Zst,hX];exact tj.clean
  rw[aP]
  have hF:CX Tryz.prog 19 #[x.v] m91 [] (Zjg 0 (λt'=>t'.er=(ZaF x).1)):=(ZuC x m91 u6 Al).mono λv m' css _ h=>by rw[if_pos oC]at h;exact h
  refine Zaa rfl (Zaa rfl ⟨_,trivial,hF,(λv _ _ ⟨t,e,_⟩=>by rw[e];rfl),?_⟩)
  rintro n1 n2 n3 n4 n5 n6 n7 fa nf fc n8 m92 Am ⟨f,hv,eJ,me,nM⟩
  simp only[T.v,Value.tuple.injEq,Value.agg.injEq,Array.mk.injEq,List.cons.injEq,Value.int.injEq,Value.slice.injEq,true_and,and_true]at hv
  obtain⟨⟨rfl,rfl,rfl,rfl,rfl,rfl,rfl,rfl,rfl,rfl⟩,rfl⟩:=hv
  intro b93
  have u9:=u6.mono Am
  have hC:CX Tryz.prog 20 #[x.v] m92 [] (Zyj 0 x.cuts):=(Zs1 x m92 u9 Al (by rw[iK];exact yD)).mono λv m' css _ h=>by unfold OrE at h;rw[if_neg (by rw[oC];simp)]at h;exact h
  refine Zaa rfl ⟨_,trivial,hC,ZrE,?_⟩
  rintro ca nc cc n9 m93 yE ⟨ca',cc',hv,-⟩
  simp only[Value.tuple.injEq,Array.mk.injEq,List.cons.injEq,Value.int.injEq,Value.slice.injEq,true_and,and_true]at hv
  obtain⟨⟨rfl,rfl,rfl⟩,rfl⟩:=hv
  have gN:(f.light&&(y.light&&f.same y))=true:=by
   rw[<-ZiP f,<-ZiP y,<-Ztf f y,me,hY,<-Zqj,hX]
   exact tj.same
  refine⟨false,Zf0 rfl (Zaa rfl (Zai (Zx7 f y m93 (eJ.mono yE) (jV.mono (mLt yC (mLt Am yE)))) λm94 CF=>?_)),Zf0 rfl ⟨by trivial,7 - (i+1),by omega,i+1,by omega,?_,rfl⟩⟩
  ·rw[gN]
   refine Zf0 rfl (Zap (v:=.int .i64 (c:Nat)) rfl (Zaa rfl (Zf0 ?_ (Zaa rfl (Zai (Zi0 x m94 (u9.mono (mLt yE CF))) λm95 Ds=>⟨by trivial,?_⟩)))))
   ·rw[iK];simp[RowKit.intOf]
   ·rw[dA];rfl
  ·rw[Zas (by omega) (by omega)];rfl
 ·have yF:=mLt CC yC
  have gain:∀(t:T)(E:T)(k:C4)(M:Mem)(g:Int),Rep M t->t.caps->t.er=E->T.rgt E=true->k∈E.cuts->Zec E k=g->CX Tryz.prog 49 #[t.v,.agg #[.int .i64 (k.a:Nat),.int .i64 (k.f:Nat),.int .i64 (k.t:Nat),.int .i64 (k.n:Nat)]] M [] (Ret (.tuple #[.int .i64 g,.int .i64 0])):=by
   intro t E k M g hr hc he hg hk CG
   refine(Zvv t _ _ _ _ M hr hc).mono ?_
   rintro v m' css _ ⟨g',e,hv,hp⟩
   have oP:T.rgt t=true:=by rw[<-ZwO,he];exact hg
   have jW:k∈t.cuts:=by rw[<-ZsH,he];exact hk
   rcases hp with⟨h,_⟩|⟨_,k',hk',h1,h2,h3,h4,rfl,rfl⟩|⟨_,h,_⟩
   ·rw[oP]at h;cases h
   ·obtain⟨ka,kf,kt,kn⟩:=k
    obtain⟨ka',kf',kt',kn'⟩:=k'
    simp only[Int.natCast_inj]at h1 h2 h3 h4
    subst h1 h2 h3 h4
    rw[hv,<-CG,<-he,ZwP hk']
   ·exact absurd ⟨rfl,rfl,rfl,rfl⟩ (h k jW)
  have gfit:∀{x:Int} (v:Value) (m':Mem) (css:List (List Value)),Ret (.tuple #[.int .i64 x,.int .i64 0]) v m' css->Shape.fits (.tup [.int .i64,.int .i64]) v=true:=λv _ _ e=>by rw[e];rfl
  intro b101 f101
  refine Zae (ZdW [⟨#[97,98]⟩,⟨#[97,99]⟩] _ _ _ _ (ZdX (m:=m91) (b:=b101) (cs:=([⟨#[97,98]⟩,⟨#[97,99]⟩]:List ByteArray).map Value.string)) (by decide) (by decide +kernel) (by simp) rfl) ZaP (Zgb λt1 m101 yG r1 e1 k1=>?_)
  refine Zae (gain t1 aE1 ⟨0,0,2,1⟩ m101 2 r1 k1 e1 (by decide +kernel) (by decide +kernel) (by decide +kernel)) gfit ?_
  rintro g1 w1 m102 yH CH
  obtain⟨rfl,rfl⟩:g1=2/\w1=0:=by simpa[Ret]using CH
  intro b103 f103
  refine Zae (ZdW [⟨#[97]⟩,⟨#[97,98]⟩] _ _ _ _ (ZdX (m:=m102) (b:=b103) (cs:=([⟨#[97]⟩,⟨#[97,98]⟩]:List ByteArray).map Value.string)) (by decide) (by decide +kernel) (by simp) rfl) ZaP (Zgb λt2 m103 yI r2 e2 k2=>?_)
  refine Zae (gain t2 ZBa ⟨0,0,2,1⟩ m103 0 r2 k2 e2 (by decide +kernel) (by decide +kernel) (by decide +kernel)) gfit ?_
  rintro g2 w2 m104 yJ CI
  obtain⟨rfl,rfl⟩:g2=0/\w2=0:=by simpa[Ret]using CI
  intro b105 f105
  refine Zae (ZdW [⟨#[97,98,99]⟩,⟨#[97,98,100]⟩,⟨#[97]⟩] _ _ _ _ (ZdX (m:=m104) (b:=b105) (cs:=([⟨#[97,98,99]⟩,⟨#[97,98,100]⟩,⟨#[97]⟩]:List ByteArray).map Value.string)) (by decide) (by decide +kernel) (by simp) rfl) ZaP (Zgb λt3 m105 yK r3 e3 k3=>?_)
  refine Zae (gain t3 ZAd ⟨0,0,3,1⟩ m105 0 r3 k3 e3 (by decide +kernel) (by decide +kernel) (by decide +kernel)) gfit ?_
  rintro g3 w3 m106 yM vb
  obtain⟨rfl,rfl⟩:g3=0/\w3=0:=by simpa[Ret]using vb
  intro b107 f107
  refine Zae (ZdW [⟨#[97,98,99]⟩,⟨#[97,98,100]⟩,⟨#[97]⟩] _ _ _ _ (ZdX (m:=m106) (b:=b107) (cs:=([⟨#[97,98,99]⟩,⟨#[97,98,100]⟩,⟨#[97]⟩]:List ByteArray).map Value.string)) (by decide) (by decide +kernel) (by simp) rfl) ZaP (Zgb λt4 m107 yN r4 e4 k4=>?_)
  have kP:T.rgt t4=true:=by rw[<-ZwO,e4];decide +kernel
  have uW:Za1 t4=Za1 ZAd:=by rw[<-ZsI t4,e4];rfl
  have dC:(Za1 ZAd).c=⟨0,0,2,2⟩/\(Za1 ZAd).g=2:=by decide +kernel
  have hB:CX Tryz.prog 36 #[t4.v] m107 [] (Ret (.tuple #[.agg #[.int .i64 0,.int .i64 0,.int .i64 2,.int .i64 2],.int .i64 2,.bool true,.int .i64 0])):=(ZsZ t4 m107 r4 k4).mono λv m' css _ h=>by
   rw[if_neg (by rw[kP];simp),uW,dC.1,dC.2,if_neg (by omega)]at h
   exact h
  refine Zae hB (λv _ _ e=>by rw[e];rfl) ?_
  rintro x1 x2 x3 x4 g4 is w4 m108 yO CJ
  obtain⟨⟨rfl,rfl,rfl,rfl⟩,rfl,rfl,rfl⟩:(x1=0/\x2=0/\x3=2/\x4=2)/\g4=2/\is=true/\w4=0:=by simpa[Ret]using CJ
  intro b109
  refine⟨true,ZsS rfl (ZsS rfl (ZsS rfl (ZsS rfl ⟨_,Zwx _ _ _ _ _ _ _ _,ZsS rfl (ZsS rfl ⟨by trivial,rfl⟩)⟩))),Zah ?_ rfl⟩
  exact mLt yF (mLt (Mem.le_add f101 _) (mLt yG (mLt yH (mLt (Mem.le_add f103 _) (mLt yI (mLt yJ (mLt (Mem.le_add f105 _) (mLt yK (mLt yM (mLt (Mem.le_add f107 _) (mLt yN yO)))))))))))
theorem Znb{e:Int}{φ:T->Prop}:∀(v:Value)(m':Mem) (css:List (List Value)),Zjg e φ v m' css->Shape.fits (.tup [.agg [.int .u8,.int .u64,.int .u64,.int .u64,.int .u64,.int .i64,.int .i64,.slice],.int .i64]) v=true:=λv _ _ ⟨t,e,_⟩=>by rw[e];rfl
theorem Zit:∀t:T,t.same t=true
 | .node k s0 s1 s2 s3 mn mx a c l=>by
  have:=same_reflL l
  simp only[T.same,this,beq_self_eq_true,Bool.and_self]
where same_reflL:∀l:List T,ZdN l l=true
 | []=>rfl
 | t::l=>by simp only[ZdN,Zit t,same_reflL l,Bool.and_self]
theorem Znc{t u:T}(h:t.er=u.er):t.same u=true:=by
 rw[<-Ztf,h];exact Zit _
def ZuS(t:T):Value->Mem->List (List Value)->Prop:=λv _ _=>v=.tuple #[(Za1 t).c.v,.int .i64 (Za1 t).g,.bool (decide (0 < (Za1 t).g)),.int .i64 0]
theorem Zqk{t:T}:∀(v:Value)(m':Mem) (css:List (List Value)),ZuS t v m' css->Shape.fits (.tup [.agg [.int .i64,.int .i64,.int .i64,.int .i64],.int .i64,.bool,.int .i64]) v=true:=λv _ _ h=>by rw[h];rfl
theorem ZuT(t:T)(m:Mem)(hr:Rep m t)(hk:T.rgt t=true)(hc:t.caps):CX Tryz.prog 36 #[t.v] m [] (ZuS t):=
 (ZsZ t m hr hc).mono λv m' css _ h=>by
  rw[if_neg (by rw[hk];simp)]at h
  unfold ZuS
  rw[h]
  rcases(Zle t).or with⟨h1,h2,_⟩|⟨h1,_⟩
  ·rw[if_pos (by omega),h1,h2];rfl
  ·rw[if_neg (by omega),decide_eq_true h1]
end Go.Proofs.YtfgfahnakepegaaGreat
namespace Go.Proofs.YtfgfahnakepegaaGreat
open Go Go.Eng Go.Proofs Go.RowKit
open Go.Value (int slice agg bool string tuple func)
open Go.IntKind (u8 u64 i64)
set_option maxRecDepth 100000
def Zfj:Env:={ EB with
 frzNew:=[2,3] }
theorem Ze1(aD aE aF aG aR aL aM aQ:Int)(m:Mem)(R:RT)(h:
 lV [int i64 aD,int i64 aE,int i64 aF,int i64 aG] λxL=>lV [int i64 aR,int i64 aL,int i64 aM,int i64 aQ] λxL_1=>fzM m xL λb m'=>fzM m' xL_1 λb m'=>∃(b:Bool),EqIs pG 79 (agg (.mk xL))
 (agg (.mk xL_1)) b/\rtM m m' R (bool b)):CX Tryz.prog 80 #[.agg #[.int .i64 aD,.int .i64 aE,.int .i64 aF,.int .i64 aG],.agg #[.int .i64 aR,.int .i64 aL,.int .i64 aM,.int .i64 aQ]] m [] R:=
 Zad (E:=Zfj) Zay mix Tryz.func80 [.v (.agg #[.int .i64 aD,.int .i64 aE,.int .i64 aF,.int .i64 aG]),.v (.agg #[.int .i64 aR,.int .i64 aL,.int .i64 aM,.int .i64 aQ])] [] (by kernel_rfl) (Eq.mp (by kernel_rfl) h)
def Zhi:Env:=EB
theorem Zgc(p0a:Option Addr)(p0n p0c:Nat)(p1a:Option Addr)(p1n p1c:Nat)(m:Mem)(R:RT)(h:
 kB pG 79 [slice p0a p0n p0c,slice p1a p1n p1c,func (Fn.func 80) (Array.mk []) (Array.mk [])] m λb m'=>rtM m m' R (bool b)):CX Tryz.prog 42 #[.slice p0a p0n p0c,.slice p1a p1n p1c] m [] R:=
 Zad (E:=Zhi) Zay mix Tryz.func42 [.v (.slice p0a p0n p0c),.v (.slice p1a p1n p1c)] [] (by kernel_rfl) (Eq.mp (by kernel_rfl) h)
def ZaL:Env:={ EB with
 loops:=swI nLa [(4,⟨[(17,.int .i64)],[],[],false⟩)] }
theorem ZaK(p0a:Option Addr)(p0n p0c:Nat)(p1a:Option Addr)(p1n p1c p2g:Nat)(p2fi p2ca:List Value)(m:Mem)(R:RT)(h:
 br (!(↑p0n:Int) == (↑p1n:Int)) (rtM m m R (bool false)) (∃I,inI I [int i64 0] [] [] m/\∀n m' (n_1:Nat),m.le m'->I [int i64 n] [] [] m' n_1->br (decide (n < (↑p0n:Int))) (atA p0a λb o=>Zaf n p0n/\∃v v_1
 v_2 v_3:Value,m'.reads b (o+Int.toNat n*4) [v,v_1,v_2,v_3]/\∀(b:Nat),chk (v.oneCell'&&(v_1.oneCell'&&(v_2.oneCell'&&(v_3.oneCell'&&true)))) (atA p1a λb o=>Zaf n p1n/\∃v_4 v_5 v_6 v_7:Value,
 m'.reads b (o+Int.toNat n*4) [v_4,v_5,v_6,v_7]/\∀(b:Nat),chk (v_4.oneCell'&&(v_5.oneCell'&&(v_6.oneCell'&&(v_7.oneCell'&&true)))) (kB pG p2g (List.append (List.append p2fi [agg (.mk [v,v_1,v_2,v_3]),agg
 (.mk [v_4,v_5,v_6,v_7])]) p2ca) m' λb m'=>br (!b) (rtM m m' R (bool false)) (nxI n_1 I [int i64 (i64.wrap (n+1))] [] [] m')))) (rtM m m' R (bool true)))):CX Tryz.prog 79 #[.slice p0a p0n p0c,.slice p1a p1n p1c,.func (.func p2g) p2fi.toArray p2ca.toArray] m [] R:=
 Zad (E:=ZaL) Zay mix Tryz.func79 [.v (.slice p0a p0n p0c),.v (.slice p1a p1n p1c),.v (.func (.func p2g) p2fi.toArray p2ca.toArray)] [] (by kernel_rfl) (Eq.mp (by kernel_rfl) h)
def Ziu:Env:={ EB with
 dr:=swI [] [(1,[⟨0,[2],[],none,[],[]⟩,dO 1 [0],⟨2,[3],[],none,[],[]⟩,dO 3 [0,1,2],dO 4 [0,1,2,3]])]
 frzNew:=[2,3] }
theorem Zhj(aD aE aF aG:Int)(p1:List Value)(m:Mem)(R:RT)(h:
 lV [int u64 aD,int u64 aE,int u64 aF,int u64 aG] λxL=>fzM m xL λb m'=>chk (Nat.beq (p1.length) 256) (fzM m' p1 λb m'=>∃(f:Fx),∃R_1,R_1=f 1 [agg (.mk xL)] m'/\CX pG 47 (.mk [agg (.mk xL)]) m' []
 R_1/\ZbT .cells R_1/\∀(cs:List Value) m'_1,m'.le m'_1->R_1 (agg (.mk cs)) m'_1 []->∃(b:Bool),EqIs pG 64 (agg (.mk cs)) (agg (.mk p1)) b/\∀M,m'.le M->m'_1.le M->rtM m M R (bool b))):CX Tryz.prog 46 #[.agg #[.int .u64 aD,.int .u64 aE,.int .u64 aF,.int .u64 aG],.agg p1.toArray] m [] R:=
 Zad (E:=Ziu) Zay mix Tryz.func46 [.v (.agg #[.int .u64 aD,.int .u64 aE,.int .u64 aF,.int .u64 aG]),.v (.agg p1.toArray)] [] (by kernel_rfl) (Eq.mp (by kernel_rfl) h)
def ZaT:Env:={ EB with
 loops:=swI nLa [(4,⟨[(17,.int .i64)],[],[],false⟩)] }
theorem ZaS(p0a:Option Addr)(p0n p0c:Nat)(p1a:Option Addr)(p1n p1c p2g:Nat)(p2fi p2ca:List Value)(m:Mem)(R:RT)(h:
 br (!(↑p0n:Int) == (↑p1n:Int)) (rtM m m R (bool false)) (∃I,inI I [int i64 0] [] [] m/\∀n m' (n_1:Nat),m.le m'->I [int i64 n] [] [] m' n_1->br (decide (n < (↑p0n:Int))) (atA p0a λb o=>Zaf n p0n/\∃v v_1
 v_2 v_3:Value,m'.reads b (o+Int.toNat n*4) [v,v_1,v_2,v_3]/\∀(b:Nat),chk (v.oneCell'&&(v_1.oneCell'&&(v_2.oneCell'&&(v_3.oneCell'&&true)))) (atA p1a λb o=>Zaf n p1n/\∃(vs:List Value),vs.length
 = 256/\m'.reads b (o+Int.toNat n*256) vs/\∀(b:Nat),chk (Nat.beq (vs.length) 256&&Zbi vs) (kB pG p2g (List.append (List.append p2fi [agg (.mk [v,v_1,v_2,v_3]),agg (.mk vs)]) p2ca) m' λb m'=>br (!b) (rtM m m'
 R (bool false)) (nxI n_1 I [int i64 (i64.wrap (n+1))] [] [] m')))) (rtM m m' R (bool true)))):CX Tryz.prog 44 #[.slice p0a p0n p0c,.slice p1a p1n p1c,.func (.func p2g) p2fi.toArray p2ca.toArray] m [] R:=
 Zad (E:=ZaT) Zay mix Tryz.func44 [.v (.slice p0a p0n p0c),.v (.slice p1a p1n p1c),.v (.func (.func p2g) p2fi.toArray p2ca.toArray)] [] (by kernel_rfl) (Eq.mp (by kernel_rfl) h)
def Zmj:Env:={ EB with
 loops:=swI nLa [(8,⟨[(61,.int .i64)],[],[],false⟩)]
 joins:=swI none [(10,some [(77,.bool)]),(14,some [(2,.bool)]),(17,some [(159,.bool)])]
 dr:=swI [] [(1,[⟨0,[1],[],none,[],[]⟩,dO 1 [0],⟨2,[1],[],none,[],[]⟩,⟨3,[],[],none,[0,1,2],[1]⟩,⟨4,[3],[3],none,[],[]⟩,⟨5,[4],[4],none,[],[]⟩,⟨6,[3],[3],none,[0,1,2,3,4,5],[]⟩,⟨7,[4],[4],none,[0,1,2,3,4,5,6],[]⟩])]
 frzNew:=[1]
 gb:=true
 thaw:=true
 lentC:=swI none [(161,some [])] }
theorem ZjU(aD aE aF aG aJ aH aI:Int)(aB:Option Addr)(aA aC:Nat)(m:Mem)(R:RT)(h:
 lV [int u8 aD,int u64 aE,int u64 aF,int u64 aG,int u64 aJ,int i64 aH,int i64 aI,slice aB aA aC] λxL=>lV [agg (.mk xL)] λal=>fzM m xL λb m'=>lE [some (Box.mk b xL 27 8 true true)] λxL
 => m.free b->(∀(b' o:Nat)(u:Value),m' b' o=some u->m b' o=some u\/b'=b)->∃(f:Fx),dN f 1 pG 33 al m' λn bj bk bl bm bn bo a bp c af=>∃R_1,lV [int u8 n,int u64 bj,int u64 bk,int u64 bl,int u64 bm,int
 i64 bn,int i64 bo,slice a bp c] λaz=>lX (agg (.mk az)) λyL=>R_1=f 3 al af/\CX pG 34 (.mk al) af [] R_1/\ZbT .cells R_1/\∀(cs:List Value) am,lV [agg (.mk cs)] λac=>af.le am->R_1 (agg (.mk cs)) am []->∀
 bq bs,lE (some (Box.mk bq az 27 8 false true)) λa0=>lE (some (Box.mk bs cs 67 260 false true)) λa1=>lE (a0::a1::a0::a1::xL) λxL=>chk (Nat.beq (cs.length) 260&&Zbi cs) (∀M,m'.le M->af.le M->am.le M->
 ∃R_2,True/\CX pG 19 (.mk [yL]) M [] R_2/\ZbT (.tup [shT,.int i64]) R_2/\∀n bt bu bv bw bx bz a a2 c a3 m',lV [int u8 n,int u64 bt,int u64 bu,int u64 bv,int u64 bw,int i64 bx,int i64 bz,slice a a2 c] λa4=>lX
 (agg (.mk a4)) λan=>lX (int i64 a3) λa5=>M.le m'->R_2 (tuple (.mk [an,a5])) m' []->∀ca,∃R_3,lE (some (Box.mk ca a4 27 8 false true)::xL) λxL=>True/\CX pG 35 (.mk [yL]) m' [] R_3/\ZbT (.tup [.slice,.int
 i64]) R_3/\∀a ao c cb ag,lX (int i64 cb) λa6=>m'.le ag->R_3 (tuple (.mk [slice a ao c,a6])) ag []->∃R_4,True/\CX pG 36 (.mk [yL]) ag [] R_4/\ZbT (.tup [.agg [.int i64,.int i64,.int i64,.int i64],.int i64,
 .bool,.int i64]) R_4/\∀cc cd ce cf ap (aq:Bool) cg m',lV [int i64 cc,int i64 cd,int i64 ce,int i64 cf] λa7=>lX (agg (.mk a7)) λar=>lX (int i64 cg) λa8=>ag.le m'->R_4 (tuple (.mk [ar,int i64 ap,bool aq,
 a8])) m' []->∀ch,∃R_5,lE (some (Box.mk ch a7 37 4 false true)::xL) λxL=>True/\CX pG 20 (.mk [yL]) m' [] R_5/\ZbT (.tup [.slice,.int i64]) R_5/\∀a9 au ba ci ah,lX (int i64 ci) λbb=>m'.le ah->R_5 (tuple (.mk
 [slice a9 au ba,bb])) ah []->∃R_6,True/\CX pG 37 (.mk [yL]) ah [] R_6/\ZbT (.tup [.slice,.int i64]) R_6/\∀bc av bd be m',lV [a5,a6,a8,bb,int i64 be] λaw=>ah.le m'->R_6 (tuple (.mk [slice bc av bd,int i64
 be])) m' []->∀ai,lE (some (Box.mk ai aw 45 5 true true)::xL) λxL=>m'.free ai->∃I,inI I [int i64 0] [] [] (m'.add ai aw)/\∀ae (m':Mem) (bf:Nat),True->I [int i64 ae] [] [] m' bf->br (decide (ae < (↑(5:Nat):
 Int))) (Zaf ae 5/\Eng.ZuZ aw (Int.toNat ae*1) λv=>∃(b:Bool),lE (ZaE i64 v&&decide (i64=i64)) λyL=>chk yL (kB pG 38 ac m' λax m'=>br (!(RowKit.intOf v == 0) == ax) (Zab xL/\[bool true]=[bool
 b]) (chk yL (br (!RowKit.intOf v == 0) (chk yL (Zab xL/\[bool !RowKit.intOf v == 2]=[bool b])) (Zab xL/\[bool false]=[bool b]))))/\br b (rtM m m' R (bool false)) (Zab xL/\nxI bf I [int i64 (i64.wrap (ae+1))] []
 [] m')) (br (!a3 == 0) (∃(b:Bool),lV [bool b] λaa=>br (n == 0) (br (i64.wrap (i64.wrap (i64.wrap (i64.wrap ((↑a2:Int)+(↑ao:Int))+(↑au:Int))+(↑av:Int))+ap) == 0) (∃(b:Bool),EqIs pG 37 ar (agg (.mk [int
 i64 0,int i64 0,int i64 0,int i64 0])) b/\br b (Zab xL/\[bool !aq]=aa) (Zab xL/\[bool false]=aa)) (Zab xL/\[bool false]=aa)) (Zab xL/\[bool false]=aa)/\rtM m m' R (bool b)) (∃R_7,True/\CX pG 39 (.mk
 ac) m' [] R_7/\ZbT (.tup [.slice,.cells]) R_7/\∀bg n bh (cs:List Value) aj,m'.le aj->R_7 (tuple (.mk [slice bg n bh,agg (.mk cs)])) aj []->∀ax,lE (some (Box.mk ax cs 67 260 false true)::xL) λxL=>chk (Nat.beq
 (cs.length) 260&&Zbi cs) (∃R_8,True/\CX pG 40 (.mk ac) aj [] R_8/\ZbT (.tup [.agg [.int i64,.int i64,.int i64,.int i64],.int i64]) R_8/\∀cj ck cl cm ay m',lV [int i64 cj,int i64 ck,int i64 cl,int i64 cm] λaa
 => aj.le m'->R_8 (tuple (.mk [agg (.mk aa),int i64 ay])) m' []->∀cn,∃(bi:Bool),lV [bool bi] λab=>lE (some (Box.mk cn aa 79 4 false true)::xL) λxL=>(kB pG 41 [an,agg (.mk cs)] m' λb m'=>br (!b) (Zab xL
 /\ [bool true]=ab) (kB pG 42 [slice a ao c,slice bg n bh] m' λb m'=>br (!b) (Zab xL/\[bool true]=ab) (kS pG 43 ac m' λa n c m'=>kB pG 42 [slice a9 au ba,slice a n c] m' λb m'=>br (!b) (Zab xL/\[bool
 true]=ab) (∃(b:Bool),EqIs pG 79 ar (agg (.mk aa)) b/\br (!b) (Zab xL/\[bool true]=ab) (br (!ap == ay) (Zab xL/\[bool true]=ab) (br (!aq == decide (ay > 0)) (Zab xL/\[bool true]=ab) (kS pG 45 ac m' λa n
 c m'=>kB pG 44 [slice bc av bd,slice a n c,func (Fn.func 46) (Array.mk []) (Array.mk [])] m' λb m'=>Zab xL/\[bool !b]=ab)))))))/\br bi (rtM m m' R (bool false)) (∃(Y:Nat->Prop),∃(R_9:Value->Mem->List
 (List Value)->List Value->Prop),CXY pG 48 (.mk [an]) m' Y [] [] R_9/\(∀(t:Tok),t∈[]->∀(b:Nat),Tok.blk t=some b->Y b)/\(∀(ad:Nat),Y ad->(∃(t:Tok),t∈[]/\Tok.blk t=some ad)\/m.free ad/\(∃(o:Nat),
 ∃(v:Value),m' ad o=some v)/\ai≠ad/\b≠ad/\True)/\(∀(v:Value)(m':Mem) (css:List (List Value)) (tvs:List Value),R_9 v m' css tvs->Shape.fits (.tup []) v=true)/\∀(ak:Mem),Mem.le (Mem.off m' Y) ak->(∀
 (b o:Nat) (u:Value),ak b o=some u->m' b o=some u\/Y b\/m'.free b)->R_9 (tuple (.mk [])) ak [] []->kB pG 41 (yL::ac) ak λb m'=>rtM m m' R (bool b))))))):CX Tryz.prog 12 #[.agg #[.int .u8 aD,.int .u64 aE,.int .u64 aF,.int .u64 aG,.int .u64 aJ,.int .i64 aH,.int .i64 aI,.slice aB aA aC]] m [] R:=
 Zad (E:=Zmj) Zay mix Tryz.func12 [.v (.agg #[.int .u8 aD,.int .u64 aE,.int .u64 aF,.int .u64 aG,.int .u64 aJ,.int .i64 aH,.int .i64 aI,.slice aB aA aC])] [] (by kernel_rfl) (Eq.mp (by kernel_rfl) h)
end Go.Proofs.YtfgfahnakepegaaGreat
end
