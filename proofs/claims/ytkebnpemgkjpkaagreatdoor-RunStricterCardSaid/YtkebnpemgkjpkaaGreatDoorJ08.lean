import Derived.Test.YtkebnpemgkjpkaaGreatDoorJ07
import Derived.Shelf.Strconv.Itoa3
import Derived.Lib.AppendIntMem
set_option maxRecDepth 100000
set_option maxHeartbeats 20000000
set_option linter.all false
namespace Go.Proofs
def Tryz.laysM171_ren:Go.Shelf.Ren:=⟨fun|171=>52|243=>89|246=>125|283=>134|284=>135|285=>136|286=>137|129=>147|317=>146|318=>148|319=>149|320=>150|337=>162|338=>163|n=>n,fun|3=>3|9=>9|2=>2|4=>4|171=>208|0=>0|53=>209|37=>182|5=>5|173=>212|212=>222|51=>223|20=>20|213=>224|46=>226|232=>238|233=>239|n=>n,fun|17=>4|18=>6|19=>7|n=>n⟩
def Tryz.laysM171:Go.Proofs.LaysM.n171 Tryz.prog Tryz.laysM171_ren:={
 mixed:=by kernel_rfl
 f129:=Tryz.func147.trans (congrArg some (by kernel_rfl))
 f171:=Tryz.func52.trans (congrArg some (by kernel_rfl))
 f243:=Tryz.func89.trans (congrArg some (by kernel_rfl))
 f246:=Tryz.func125.trans (congrArg some (by kernel_rfl))
 f283:=Tryz.func134.trans (congrArg some (by kernel_rfl))
 f284:=Tryz.func135.trans (congrArg some (by kernel_rfl))
 f285:=Tryz.func136.trans (congrArg some (by kernel_rfl))
 f286:=Tryz.func137.trans (congrArg some (by kernel_rfl))
 f317:=Tryz.func146.trans (congrArg some (by kernel_rfl))
 f318:=Tryz.func148.trans (congrArg some (by kernel_rfl))
 f319:=Tryz.func149.trans (congrArg some (by kernel_rfl))
 f320:=Tryz.func150.trans (congrArg some (by kernel_rfl))
 f337:=Tryz.func162.trans (congrArg some (by kernel_rfl))
 f338:=Tryz.func163.trans (congrArg some (by kernel_rfl))
 t0:=Tryz.underlying0
 a0:=Tryz.isAgg0
 z0:=Tryz.sizeOf0
 v0:=Tryz.zeroValue0
 t2:=Tryz.underlying2
 a2:=Tryz.isAgg2
 z2:=Tryz.sizeOf2
 v2:=Tryz.zeroValue2
 t3:=Tryz.underlying3
 a3:=Tryz.isAgg3
 z3:=Tryz.sizeOf3
 v3:=Tryz.zeroValue3
 t4:=Tryz.underlying4
 a4:=Tryz.isAgg4
 z4:=Tryz.sizeOf4
 v4:=Tryz.zeroValue4
 t5:=Tryz.underlying5
 a5:=Tryz.isAgg5
 z5:=Tryz.sizeOf5
 v5:=Tryz.zeroValue5
 t9:=Tryz.underlying9
 a9:=Tryz.isAgg9
 z9:=Tryz.sizeOf9
 v9:=Tryz.zeroValue9
 t20:=Tryz.underlying20
 a20:=Tryz.isAgg20
 z20:=Tryz.sizeOf20
 v20:=Tryz.zeroValue20
 t37:=Tryz.underlying182
 a37:=Tryz.isAgg182
 z37:=Tryz.sizeOf182
 v37:=Tryz.zeroValue182
 t46:=Tryz.underlying226
 a46:=Tryz.isAgg226
 z46:=Tryz.sizeOf226
 v46:=Tryz.zeroValue226
 t51:=Tryz.underlying223
 a51:=Tryz.isAgg223
 z51:=Tryz.sizeOf223
 v51:=Tryz.zeroValue223
 t53:=Tryz.underlying209
 a53:=Tryz.isAgg209
 z53:=Tryz.sizeOf209
 v53:=Tryz.zeroValue209
 t171:=Tryz.underlying208
 a171:=Tryz.isAgg208
 z171:=Tryz.sizeOf208
 v171:=Tryz.zeroValue208
 t173:=Tryz.underlying212
 a173:=Tryz.isAgg212
 z173:=Tryz.sizeOf212
 v173:=Tryz.zeroValue212
 t212:=Tryz.underlying222
 a212:=Tryz.isAgg222
 z212:=Tryz.sizeOf222
 v212:=Tryz.zeroValue222
 t213:=Tryz.underlying224
 a213:=Tryz.isAgg224
 z213:=Tryz.sizeOf224
 t232:=Tryz.underlying238
 a232:=Tryz.isAgg238
 z232:=Tryz.sizeOf238
 v232:=Tryz.zeroValue238
 t233:=Tryz.underlying239
 a233:=Tryz.isAgg239
 z233:=Tryz.sizeOf239
 v233:=Tryz.zeroValue239
 g17:=by kernel_rfl
 g18:=by kernel_rfl
 g19:=by kernel_rfl
 i0:=by kernel_rfl
 i2:=by kernel_rfl
 i3:=by kernel_rfl
 i4:=by kernel_rfl
 i5:=by kernel_rfl
 i9:=by kernel_rfl
 i20:=by kernel_rfl
 i37:=by kernel_rfl
 i46:=by kernel_rfl
 i51:=by kernel_rfl
 i53:=by kernel_rfl
 i171:=by kernel_rfl
 i173:=by kernel_rfl
 i212:=by kernel_rfl
 i232:=by kernel_rfl
 i233:=by kernel_rfl
 m17:=by kernel_rfl
 m18:=by kernel_rfl
 m19:=by kernel_rfl}
open Go.RowKit Go.Sort Go.Lib in
theorem Tryz.strconv_Itoa(n:Int)(g: -9223372036854775808<=n)(h1:n<=9223372036854775807)(w:World)(m:Lib.TabIs Tryz.prog w "internal/strconv.uint64pow10" .u64 Lib.pow10Tab) :
 Calls Tryz.prog 52 #[.int .i64 n] w λe w'=>e=.returned (.string ⟨(Lib.itoa n).toArray⟩)/\∃k os,w'=grow (w.drewN k) os:=Any.strconv_Itoa Tryz.laysM171 n g h1 w m
end Go.Proofs
namespace Go.Proofs.YtkebnpemgkjpkaaGreatDoor
open Go Go.RowKit Go.Proofs.Tryz Tryz
def K8(w:kV):Prop:=Lib.TabIs Tryz.prog w "internal/strconv.uint64pow10" .u64 Lib.pow10Tab
theorem K8.below{w w':kV}(h:K8 w)(g:kW w w'):K8 w':=Lib.tabBelow_of_tabIs h w' g
def below_grow(w:kV)(k:Nat)(os:Array Obj):kW w (Sort.grow (w.drewN k) os):=by
 refine⟨rfl,rfl,rfl,?_,λi hi=>?_⟩;·simp[Sort.grow,World.drewN]
 .simp only[Sort.grow,World.drewN];exact Array.getElem?_append_left hi
def Ziv(w:kV)(n:Int)(g:-9223372036854775808<=n)(h1:n<=9223372036854775807)(ht:K8 w) :
 kC 52 #[vI n] w λe w'=>e=.returned (.string ⟨(Lib.itoa n).toArray⟩)/\kW w w':=by
 refine(Tryz.strconv_Itoa n g h1 w ht).mono ?_;rintro e w'⟨rfl,k,os,rfl⟩;exact⟨rfl,below_grow _ _ _⟩
def XJ:kB:=⟨#[117,110,100,101,102,105,110,101,100]⟩
def Aa0:kB:=⟨#[110,117,108,108]⟩
def Ab1:kB:=⟨#[116,114,117,101]⟩
def Ab2:kB:=⟨#[102,97,108,115,101]⟩
def Z9t:kB:=⟨#[102,117,110,99,116,105,111,110]⟩
def Z9y:kB:=⟨#[111,98,106,101,99,116]⟩
def LHeap.shown(H:LHeap)(v:LVal):kB:=
 if v.kind=0 then XJ else if v.kind=1 then Aa0 else if v.kind=2 then(if v.n=0 then Ab2 else Ab1)
 else if v.kind=3 then⟨(Lib.itoa v.n).toArray⟩else if v.kind=4 then v.s else if H.code v.n=0 then Z9y else Z9t
section
variable {ρ:Nat->Option Role}{w:kV}{hb ho:Nat}{L:HL}{H:LHeap}
def Zrm(h:HeapAt ρ w hb ho L H)(v:LVal)(F:-9223372036854775808<=v.n)(h1:v.n<=9223372036854775807)(ht:K8 w) :
 kC 26 #[.pointer (some ⟨hb,ho,none⟩),v.agg] w λe w'=>e=.returned (.string (H.shown v))/\kW w w':=by
 obtain⟨k,n,s⟩:=v;simp only at F h1;simp only[LVal.agg,LHeap.shown];have g:∀o,kW w (w.alloc o):=λo=>(Y2 _ _).alloc (Y0 _) _;obtain⟨HB,J,HC⟩:=ds g (λo=>Ziv (w.alloc o) n F h1 (ht.below (g o))) (λo=>Zhy (h.below (g o)) n);clear h ht g;by_cases m:k=0
 .subst m;exact UB
 by_cases k1:k=1
 .subst k1;exact UB
 by_cases p:k=2
 .subst p;by_cases hn:n=0
  .subst hn;exact UB
  .have X:(n !=0)=true:=by simp[hn]
   simp only[hn,if_false];exact UB
 by_cases u:k=3
 .subst u;go_enter func26,ntmps26
  go_wp2_with fail
  refine(J.o _).mono ?_;rintro e w1⟨rfl,I⟩;have O:=lh I;clear I;go_wp2;go_ret;exact⟨rfl,(HB.o _).trans (O.o.mono PE)⟩
 by_cases y:k=4
 .subst y;exact UB
 .have Y:(k==0)=false:=by simp[m]
  have Z:(k==1)=false:=Sa
  have q2:(k==2)=false:=by simp[p]
  have q3:(k==3)=false:=by simp[u]
  have q4:(k==4)=false:=by simp[y]
  simp only[m,k1,p,u,y,if_false];clear m k1 p u y;by_cases hc:H.code n=0
  .rw[hc]at HC;rw[Y5 hc];exact Zzv
  .have U:(H.code n !=0)=true:=by simp[hc]
   rw[Y3 hc];generalize H.code n=c at HC U;exact Zzv
end
open Go.Maps
def Zp{H:Type}{P:Program}(w:kV){ai:Array Oper}{p:List Oper}{o:Oper}{a:Act}{Q:Exit->Act->kV->Prop}
 (y:o.guard=none)(m x v:Operand)(t:TypeId)(eD:o.op=Op.insert t m x v)
 (k e:TypeId)(K:Keyed P k)(ht:P.underlying t=some (.map k e))(R:Value->Option (DataW H×List MemPlace))(b n:Nat)(D:DataW H)
 (hm:a.eval m=.map (some b))(F:w.ownsMap P k R b n D)(hn:n<maxLen)(g val:Value)(u:Lit)(hx:a.eval x=g)(hv:a.eval v=val)(I:keyOf P k g=some u)
 (d:DataW H)(ps:List MemPlace)(J:R val=some (d,ps))
 (hK:∀w',w'.ownsMap P k R b (n+1) (D.put u d)->w.grownBy w' (some b)->wpList P ai Q p (a.put o.dst undef) w') :
 wpList P ai Q (o::p) a w:=by
 refine wpList_plain y λO BY=>?_;obtain⟨w',ip,r1,r2⟩:=F.update K ht hn I J;exact Zxt
theorem dS:Keyed Tryz.prog 9:=string_keyed Yj
theorem WL(w:kV):(zeroValue 3).run Tryz.prog w=.ok (vI 0) w:=by kernel_rfl
def T7{B:Nat}{w w1 w2:kV}{b:Nat}(h:Below B w w1)(g:w1.grownBy w2 (some b))(hb:B<=b)(hs:B<=w1.heap.size):Below B w w2:=
 h.grown g hs λj m=>by cases m;exact hb
def UQ(l:List (kB×Int)):DataW Unit:=l.foldl (λD x=>D.put (.string x.1.data.toList) (.lit (.int .i64 x.2))) (.map [])
def Abf:List (kB×Int):=[(Hs,25),(V0,26),(Wc,27),(Vt,28),(U5,29),(Vn,30),(V5,31)]
def Zz(w:kV)(B:Nat)(v:Value)(l:List kB):Prop:=w.ownsRow B 9 1 v l.length (l.map Value.string)
def jf(l:List kB)(s:kB):List kB:=if Lib.containsS l s then l else l++[s]
def Zi6(l:List kB)(s:kB):(jf l s).length<=l.length+1:=by
 unfold jf;split<;>simp
theorem Zz.nil(w:kV)(B:Nat):Zz w B (.slice none 0 0) []:=World.ownsRow_nil w B _ _
def Zz.cells{w:kV}{B:Nat}{v:Value}{l:List kB}(h:Zz w B v l){b:Nat}(hb:v.ownBlock=some b){j:Nat}{s:kB}(hs:l[j]?=some s):w.cell? ⟨b,j,none⟩=some (.string s):=
 Zs h hb (by rw[Yg,hs];rfl)
def Zz.bel{w w':kV}{B:Nat}{v:Value}{l:List kB}(h:Zz w B v l)(g:kW w w'):Zz w' B v l:=
 Z3 h λk hk=>g.block k (Y9 h k hk).2
def Zz.form{w:kV}{B:Nat}{v:Value}{l:List kB}(h:Zz w B v l):(v=.slice none 0 0/\l=[])\/∃g cap,v=.slice (some ⟨g,0,none⟩) l.length cap/\l.length<=cap/\cap<=maxLen:=by
 exact Zx6
theorem zg:(Tryz.prog.info? 9).map (λi=>(i.zero,i.size,i.bytes))=some (some (.string ByteArray.empty),1,16):=by kernel_rfl
def Znj(w:kV)(s:kB) :
 kC 105 #[.slice none 0 0,.string s] w λe w'=>e=.returned (vI (-1))/\w'=w:=by
 go_enter func105,ntmps105
 go_wp2_with fail
 go_loopw [8] (λi wr=>wr=w/\i=(vI 0)) (λi _=>0)
 case atStart=>exact⟨rfl,rfl⟩
 case round=>
  obtain⟨rfl,rfl⟩:=hrel;go_wp2;go_ret;exact⟨rfl,rfl⟩
def Zf5(w:kV)(s:kB) :
 kC 67 #[.slice none 0 0,.string s] w λe w'=>e=.returned (.bool false)/\w'=w:=by
 have HC:=lh (Znj w s);go_enter func67,ntmps67
 exact Nj
def YC{w:kV}{B:Nat}{v:Value}{l:List kB}(h:Zz w B v l)(s:kB) :
 kC 67 #[v,.string s] w λe w'=>e=.returned (.bool (Lib.containsS l s))/\w'=w:=by
 rcases h.form with⟨rfl,rfl⟩|⟨g,cap,rfl,u,hm⟩;·exact Zf5 w s
 .have m:=Tryz.slices_Contains_string g 0 l.length cap l s w (Y0 _) (by unfold maxLen at hm;omega) (λj p=>by
   rw[Nat.zero_add];exact h.cells rfl (by rw[List.getD_eq_getElem?_getD,Y6 p];rfl))
  rwa[List.take_length]at m
def Zgk(w:kV)(B:Nat)(v:Value)(l:List kB)(s:kB)(h:Zz w B v l)(X:B<=w.heap.size)(hn:l.length<1099511627776) :
 kC 38 #[v,.string s] w λe w'=>∃F,e=.returned F/\Zz w' B F (jf l s)/\Below B w w'/\∀k,k<w.heap.size->v.ownBlock≠some k->w'.heap[k]?=w.heap[k]?:=by
 obtain⟨i0,hi,Y,Z,bQ⟩:=info_parts zg;have m:=YC h s;unfold jf;obtain⟨c,hc⟩:=zX (Lib.containsS l s)
 rw[<-hc]at m ⊢;have m:=lh m;clear hc;cases c
 .unfold Zz at h ⊢;have p:=lh h;obtain⟨n,y⟩:=zX l.length
  rw[<-y]at p hn;have pR:=lh y;clear h y;go_enter func38,ntmps38
  go_wp2_with fail
  refine m.o.mono ?_;rintro e w1⟨rfl,rfl⟩
  go_wp2_with (at_builtin;go_must (refine wpList_append_lies _ rfl (.tmp 9) (.tmp 11) 27 rfl B 9 i0 (.string ByteArray.empty) 1 16 underlying27 hi Y Z bQ rfl Py v n (l.map Value.string) rfl (p.o.alloc _) ⟨w1.heap.size,0,none⟩ 1 1 [.string s] rfl rfl (λj u hu=>cell_one_new w1 _ _ j u hu) PH PF PA PF PF (w1.heap.size+1) PE ?_);intro g cap w2 I J O fE;have U:=lh J;have HW:=lh I;have HT:=lh O;clear J I O fE)
  go_ret;refine⟨_,rfl,?_,?_,?_⟩
  .simp only[<-pR.o];exact HW.o
  .exact((Y2 _ _).alloc X _).grown U.o PB λj hj=>(Y9 p.o j hj).1
  .exact λk hk hv=>(U.o.block k PB (λe=>hv e.symm)).trans (Below.heap_alloc _ _ _ hk)
 .have p:=lh h;clear h;go_enter func38,ntmps38
  go_wp2_with fail
  refine m.o.mono ?_;rintro e w1⟨rfl,rfl⟩;go_wp2;go_ret;exact⟨_,rfl,p.o,Y2 _ _,λ_ _ _=>rfl⟩
def Zt1(w:kV)(B:Nat)(v:Value)(l:List kB)(s:kB)(h:Zz w B v l)(m:B<=w.heap.size)(hn:l.length<1099511627776) :
 kC 38 #[v,.string s] w λe w'=>∃g,e=.returned g/\Zz w' B g (jf l s)/\Below B w w':=
 (Zgk w B v l s h m hn).mono λe w' ⟨g,h1,p,u,_⟩=>⟨g,h1,p,u⟩
def Zcl{w:kV}{base:Nat}{c p:Int}(hb:base<=w.heap.size) :
 Zcg (w.alloc (.cells #[vI c,vI p] 142)) base (.panicked [{v:=.iface 82 (.agg #[.iface 140 (vP w.heap.size)]),recovered:=false}]) c p:=
 ⟨w.heap.size,rfl,hb,Yq w _⟩
def UW(w:kV)(rb:Nat)(ts:List Tok)(d:Nat)(c:Int)(g:Rd w rb ts d) :
 kC 95 #[vP rb,vI c] w λe w'=>Zcg w' w.heap.size e c (c9 ts).at'/\kW w w':=by
 obtain⟨tb,off,cap,h⟩:=g;have c0:=h.c0;have t3:=h.hd (j:=3) rfl;have hp:=h.pos;refine Zqf ?_;intro hm dA n hn;rw[<-hn]at c0 hp dA;have m:=h.lt;have p:=h.rlt;clear hn h;go_enter func95,ntmps95
 go_wp2;exact⟨rfl,Zcl (Y0 _),(Y2 _ _).alloc (Y0 _) _⟩
def Ty(w:kV)(rb:Nat)(ts:List Tok)(d:Nat)(s:kB)(g:Rd w rb ts d)(hs:ak s ts=false) :
 kC 128 #[vP rb,.string s] w λe w'=>Zcg w' w.heap.size e 3 (c9 ts).at'/\kW w w':=by
 have m:=lh (zi w rb ts d s g hs);have p:=lh g;clear hs g;go_enter func128,ntmps128
 go_wp2_with fail
 refine m.o.mono ?_;rintro e w1⟨rfl,hB⟩;have HF:=lh (UW w1 rb ts d 3 (p.o.below hB));have u:=lh hB;clear hB;exact tu6 u
def Mn(w:kV)(rb:Nat)(ts:List Tok)(d:Nat)(s:kB)(g:Rd w rb ts d)(hs:ak s ts=true) :
 kC 128 #[vP rb,.string s] w λe w'=>e=.returned (.tuple #[])/\Rd w' rb ts.tail d/\RFr w w' rb:=by
 have p:=lh (xH w rb ts d s g hs);clear hs g;go_enter func128,ntmps128
 go_wp2_with fail
 refine p.o.mono ?_;rintro e w1⟨rfl,g,m⟩;have u:=lh g;have y:=lh m;clear g m;go_wp2;go_end0
 exact⟨rfl,u.o,y.o⟩
def X2(w:kV)(rb:Nat)(ts:List Tok)(d:Nat)(m:Rd w rb ts d)(hk:(c9 ts).kind≠1) :
 kC 101 #[vP rb] w λe w'=>Zcg w' w.heap.size e 3 (c9 ts).at'/\kW w w':=by
 have p:=lh m;obtain⟨tb,off,cap,h⟩:=m;have c0:=h.c0;refine Zqv ?_;intro t0 t1 t2 t3;have hp:=h.pos;refine Zqf ?_;intro hm dA n hn;rw[<-hn]at c0 hp dA;have y:=h.lt;have F:=h.rlt;have I:((c9 ts).kind==1)=false:=Ra
 have g:kW w (w.alloc (.cells #[vI (c9 ts).kind,.string (c9 ts).text,vI (c9 ts).n,vI (c9 ts).at'] 139)):=(Y2 _ _).alloc (Y0 _) _;have HF:=lh (UW _ rb ts d 3 (p.o.below g));have u:=lh g;simp only[Nat.add_zero]at t0;clear hn h hk g;go_enter func101,ntmps101
 exact tu6 u
def Va(w:kV)(rb:Nat)(ts:List Tok)(d:Nat)(m:Rd w rb ts d)(hk:(c9 ts).kind=1) :
 kC 101 #[vP rb] w λe w'=>e=.returned (.string (c9 ts).text)/\Rd w' rb ts.tail d/\RFr w w' rb:=by
 obtain⟨tb,off,cap,h⟩:=m;have c0:=h.c0;refine Zqv ?_;intro t0 t1 t2 t3;have p:=h.two Px;have hm:=h.most;have u:=h.le;have z0:=h.fz 0;unfold maxLen at hm;have H:=lh (h.tail Px);obtain⟨n,hn⟩:=zX ts.length
 rw[<-hn]at c0 p u;have y:=lh hn;have F:=h.lt;have I:=h.rlt;have J:=lh hk;simp only[Nat.add_zero,hk]at t0;clear hn h hk;go_enter func101,ntmps101
 go_wp2;go_ret;have g:=H.o;rw[<-y.o]at g;refine YO ?_;intro hb;exact⟨rfl,⟨tb,off+4,cap-1,g.below (hb _)⟩,((RFr.refl w rb).set _ _).trans (RFr.below (hb _))⟩
def Zw(w:kV)(rb:Nat)(kind:Int)(text:kB)(p:Option Addr)(m c:Nat) :
 kC 63 #[vP rb,vI kind,.string text,.slice p m c] w λe w'=>e=.returned (vP w.heap.size)/\w'=w.alloc (.cells #[vI kind,.string text,vI 0,.slice p m c] 41):=by
 go_enter func63,ntmps63
 go_wp2;go_ret;exact⟨rfl,rfl⟩
def Xp(w:kV)(rb B:Nat)(ts:List Tok)(d:Nat)(p:PR)(r:Except (Int×Nat) (Tree×List Tok))(hR:Rd w rb ts d)(hd:d<1000)(hB:rb<B)(hr:x6 d ts p=some r)
 (HC:d+1<=30->p=some r->∀w1,Rd w1 rb ts (d+1)->w1.heap.size=w.heap.size->kC 66 #[vP rb] w1 (mc w1 rb B (d+1) r)) :
 kC 65 #[vP rb,.func (.func 66) #[vP rb] #[]] w (mc w rb B d r):=by
 exact tq9
def Zd6(w:kV)(rb B:Nat)(ts:List Tok)(d:Nat)(p:PR)(r:Except (Int×Nat) (Tree×List Tok))(hR:Rd w rb ts d)(hd:d<1000)(hB:rb<B)(hr:x6 d ts p=some r)
 (HC:d+1<=30->p=some r->∀w1,Rd w1 rb ts (d+1)->w1.heap.size=w.heap.size->kC 129 #[vP rb] w1 (mc w1 rb B (d+1) r)) :
 kC 65 #[vP rb,.func (.func 129) #[vP rb] #[]] w (mc w rb B d r):=by
 exact tq9
def Zei(w:kV)(rb B:Nat)(ts:List Tok)(d:Nat)(p:PR)(r:Except (Int×Nat) (Tree×List Tok))(hR:Rd w rb ts d)(hd:d<1000)(hB:rb<B)(hr:x6 d ts p=some r)
 (HC:d+1<=30->p=some r->∀w1,Rd w1 rb ts (d+1)->w1.heap.size=w.heap.size->kC 151 #[vP rb] w1 (mc w1 rb B (d+1) r)) :
 kC 65 #[vP rb,.func (.func 151) #[vP rb] #[]] w (mc w rb B d r):=by
 exact tq9
def TL{f:Nat}{g:Job}{d:Nat}{ts ts':List Tok}{t:Tree}(h:Z2 f g d ts=some (.ok (t,ts'))):ts'.length<=ts.length:=by
 have:=XK f g d ts t ts' h;have hl:g.least<=1:=by cases g<;>simp[Job.least]
 omega
def Zjc(f:Nat)(u:bH 129 cW .assign f):bH 103 cW .value (f+1):=by
 intro w rb B d ts r g hp;have hw:x6 d ts (Z2 f .assign (d+1) ts)=some r:=hp;have y:=lh (Zd6 w rb B ts d _ r g.rd (by have:=g.deep;omega) g.lt hw λhd h1 w1 m hs=>u w1 rb B (d+1) ts r ⟨m,hd,g.lt,by have:=g.le;omega,g.few⟩ h1);refine FG ?_;intro iO;clear g hp hw u;unfold cW;go_enter func103,ntmps103
 go_wp2_with fail
 refine y.o.mono ?_;rcases r with⟨c,p⟩|⟨t,ts'⟩;·exact TC
 .rintro e w2⟨a,rfl,F,m,hF⟩;obtain⟨HG,HR,HF⟩:=ds F m hF;clear F m hF y;exact VV
def Zgp(f:Nat)(F:bH 103 cW .value f):bH 102 cW .around (f+1):=by
 intro w rb B d ts r g hp;have hw:lF vV ts (λts=>Zq (Z2 f .value d ts) λx ts=>lF s5 ts λts=>ir x ts)=some r:=hp;have I:=lh g;unfold cW;rcases T8 hw with⟨hs,h1⟩|⟨hs,rfl⟩
 .have HC:=lh (Mn w rb ts d vV g.rd hs);have H1:=lh h1;clear g hp hw hs h1;go_enter func102,ntmps102
  go_wp2_with fail
  refine HC.o.mono ?_;rintro e w1⟨rfl,J,m⟩;have u:=lh (I.o.tail J m);have F1:=lh m;clear J m HC;rcases Zf H1.o with⟨⟨c,p⟩,hv,rfl⟩|⟨t,O,hv,h2⟩
  .have HV:=lh (F w1 rb B d _ _ u.o hv);exact Zwy
  .have HV:=lh (F w1 rb B d _ _ u.o hv);have hl:=TL hv;have H2:=lh h2;clear hv h2;go_wp2_with fail
   refine HV.o.mono ?_;rintro e w2⟨a,rfl,U,X,y⟩;obtain⟨Y,F2,G2⟩:=ds (u.o.next X y hl) (F1.o.trans y) (U.pre F1.o);clear U X y HV hl;rcases T8 H2.o with⟨hs,Z⟩|⟨hs,rfl⟩
   .obtain rfl:=Yc Z;have HC:=lh (Mn w2 rb O d s5 Y.o.rd hs);clear hs Z;go_wp2_with fail
    refine Zpy ?_;intro w3 bG bg R3 F3;clear bG bg;go_wp2;go_ret;exact⟨a,rfl,G2.o.rfr I.o.lt F3.o,R3.o,F2.o.trans F3.o⟩
   .have HC:=lh (Ty w2 rb O d s5 Y.o.rd hs);exact AbU
 .have HC:=lh (Ty w rb ts d vV g.rd hs);clear g hp hw hs;go_enter func102,ntmps102
  exact Wo
theorem TS{t t':Tree}{ts ts':List Tok}(h:ir t ts=some (.ok (t',ts'))):t=t'/\ts=ts':=by simpa[ir]using h
def Sg{p:PR}{k:Tree->List Tok->PR}{t:Tree}{ts:List Tok}(h:Zq p k=some (.ok (t,ts))):∃x us,p=some (.ok (x,us))/\k x us=some (.ok (t,ts)):=by
 rcases Zf h with⟨e,_,he⟩|h;·cases he
 .exact h
def ZB{s:kB}{us:List Tok}{k:List Tok->PR}{t:Tree}{ts:List Tok}(h:lF s us k=some (.ok (t,ts))):ak s us=true/\k us.tail=some (.ok (t,ts)):=by
 rcases T8 h with h|⟨_,h⟩;·exact h
 .cases h
def Zdu{us:List Tok}{k:kB->List Tok->PR}{t:Tree}{ts:List Tok}(h:B6 us k=some (.ok (t,ts))):(c9 us).kind=1/\k (c9 us).text us.tail=some (.ok (t,ts)):=by
 rcases Z3b h with h|⟨_,h⟩;·exact h
 .cases h
def Zn9{f d:Nat}{k:Int}{m:Bool}{us ts:List Tok}{t:Tree}(h:Z2 f (.decl k m) d us=some (.ok (t,ts))):t.kind=k:=by
 cases f with
 |zero=>cases h
 |succ f=>
   obtain⟨_,h⟩:=Zdu h;split at h;·cases h
   .split at h;·exact WN
    .obtain⟨rfl,_⟩:=TS h;rfl
def Zou{f d:Nat}{k:Int}{s:kB}{us ts:List Tok}{t:Tree}(h:Z2 f (.func k s) d us=some (.ok (t,ts))):t.kind=k:=by
 cases f with
 |zero=>cases h
 |succ f=>
   obtain⟨_,h⟩:=ZB h;obtain⟨x,vs,_,h⟩:=Sg h;obtain⟨_,h⟩:=ZB h;exact WN
def Zkq:∀{f d:Nat} {k:Int} {g:List Tree} {us ts:List Tok} {t:Tree},Z2 f (.stmts k g) d us=some (.ok (t,ts))->t.kind=k:=by
 intro f;induction f with
 |zero=>intro d k g us ts t h;cases h
 |succ f m=>
   intro d k g us ts t h;rw[Z2]at h;generalize(if k=1 then decide ((c9 us).kind=6)else ak Zn us)=c at h;cases c
   .obtain⟨x,vs,_,h⟩:=Sg h;exact m h
   .obtain⟨rfl,_⟩:=TS h;rfl
def Zkv{f d:Nat}{b:Bool}{us ts:List Tok}{t:Tree}(h:Z2 f (.block b) d us=some (.ok (t,ts))):t.kind=6:=by
 cases f with
 |zero=>cases h
 |succ f=>
   obtain⟨_,h⟩:=ZB h;obtain⟨x,vs,hx,h⟩:=Sg h;obtain⟨_,h⟩:=ZB h;obtain⟨h1,_⟩:=TS h;cases b;·simp at h1;rw[<-h1];rfl
   .simp at h1;rw[<-h1];exact Zkq hx
def Zrg{f d:Nat}{us ts:List Tok}{t:Tree}(h:Z2 f .try_ d us=some (.ok (t,ts))):t.kind=12:=by
 cases f with
 |zero=>cases h
 |succ f=>
   have g:∀(l:List Tree) (us:List Tok),(if ak Ir us=true then Zq (Z2 f (.block false) d us.tail) λc ts=>ir (.mk 12 ByteArray.empty 0 (l++[.mk 14 ByteArray.empty 0 [c]])) ts else if l.length=1 then xn 3 us else ir (.mk 12 ByteArray.empty 0 l) us)=some (.ok (t,ts))->t.kind=12:=by
    intro l us h;by_cases c:ak Ir us=true
    .rw[Y5 c]at h;obtain⟨x,vs,hx,h⟩:=Sg h;obtain⟨rfl,_⟩:=TS h;rfl
    .rw[Y3 c]at h;by_cases c2:l.length=1;·rw[Y5 c2]at h;cases h
     .rw[Y3 c2]at h;obtain⟨rfl,_⟩:=TS h;rfl
   rw[Z2]at h;obtain⟨x,vs,hx,h⟩:=Sg h;dsimp only at h
   by_cases c:ak V3 vs=true
   .rw[Y5 c]at h;obtain⟨_,h⟩:=ZB h;obtain⟨_,h⟩:=Zdu h;obtain⟨_,h⟩:=ZB h;obtain⟨x,vs,hx,h⟩:=Sg h;exact g _ _ h
   .rw[Y3 c]at h;exact g _ _ h
def Zon{f d:Nat}{us ts:List Tok}{t:Tree}(h:Z2 (f+1) .stmt d us=some (.ok (t,ts)))(hk:t.kind=15):t.kids≠[]:=by
 have cr:∀{n:Tree} {vs:List Tok},wP n vs=some (.ok (t,ts))->n=t:=λh=>(TS (ZB h).2).1;rw[Z2]at h;by_cases c0:ak Ku us=true
 .rw[Y5 c0]at h;have:=Zkv h;omega
 rw[Y3 c0]at h;by_cases c1:ak K5 us=true
 .rw[Y5 c1]at h;obtain⟨rfl,_⟩:=TS h;cases hk
 rw[Y3 c1]at h;by_cases c2:ak XO us=true
 .rw[Y5 c2]at h;exact Zwc
 rw[Y3 c2]at h;by_cases c3:ak WX us=true
 .rw[Y5 c3]at h;exact Zwc
 rw[Y3 c3]at h;by_cases g:ak Yz us=true
 .rw[Y5 g]at h;exact Zwc
 rw[Y3 g]at h;by_cases m:ak SF us=true
 .rw[Y5 m]at h;obtain⟨_,h⟩:=Zdu h;have:=Zou h;omega
 rw[Y3 m]at h;by_cases p:ak L2 us=true
 .rw[Y5 p]at h;obtain⟨x,vs,hx,h⟩:=Sg h;obtain⟨y,vs,hx,h⟩:=Sg h;split at h
  .obtain⟨z,vs,hx,h⟩:=Sg h;obtain⟨rfl,_⟩:=TS h;cases hk
  .obtain⟨rfl,_⟩:=TS h;cases hk
 rw[Y3 p]at h;by_cases u:ak XE us=true
 .rw[Y5 u]at h;exact Zzl
 rw[Y3 u]at h;by_cases F:ak X0 us=true
 .rw[Y5 F]at h;exact Zzl
 rw[Y3 F]at h;by_cases I:ak YA us=true
 .rw[Y5 I]at h;split at h;·have :=cr h;subst this;cases hk
  .exact Zzk
 rw[Y3 I]at h;by_cases J:ak X5 us=true
 .rw[Y5 J]at h;exact Zzk
 rw[Y3 J]at h;by_cases O:ak Xe us=true
 .rw[Y5 O]at h;have:=Zrg h;omega
 rw[Y3 O]at h;obtain⟨x,vs,hx,h⟩:=Sg h;have:=cr h;subst this;simp[Tree.kids]
theorem Td:(Tryz.prog.info? 22).map (λi=>(i.zero,i.size,i.bytes))=some (some (.pointer none),1,8):=by kernel_rfl
def leftOf(w:kV)(rb:Nat):Nat:=match w.cell? ⟨rb,0,none⟩with|some (.slice _ n _)=>n|_=>0
def Rd.left{w:kV}{rb:Nat}{ts:List Tok}{d:Nat}(h:Rd w rb ts d):leftOf w rb=ts.length:=by
 obtain⟨tb,off,cap,h⟩:=h;unfold leftOf;rw[h.c0]
def Zlb(F:Nat)(hS:∀g,g<F->bH 66 cW .stmt g) :
 bH 29 (λrb=>#[vP rb,vI 6,.string Zn]) (.stmts 6 []) F:=by
 intro w rb B d ts r y hp;obtain⟨O,HP,HQ,HS⟩:=en (Zw w rb 6 ⟨#[]⟩ none 0 0) y hp hS;refine FG ?_;intro iO;obtain⟨nb,U⟩:=zX w.heap.size
 have I:=Got.leaf (k:=6) (t:=⟨#[]⟩) (n:=0) y.le (RFr.refl w rb);have X:=y.rd.below ((Y2 _ _).alloc (Y0 _) (.cells #[vI 6,.string ⟨#[]⟩,vI 0,.slice none 0 0] 41));have Y:RFr w (w.alloc (.cells #[vI 6,.string ⟨#[]⟩,vI 0,.slice none 0 0] 41)) rb:=RFr.below ((Y2 _ _).alloc (Y0 _) _);rw[<-U]at I O;unfold Zn;clear y hp hS;simp only;go_enter func29,ntmps29
 go_wp2_with fail
 refine O.o.mono ?_;rintro e w1⟨rfl,dD⟩;rw[<-dD]at I X Y;have hst:∃(g:Nat) (aj:List Tree) (us:List Tok) (v:Value) (kids:List ATree),g<=F/\Z2 g (.stmts 6 aj) d us=some r/\Got w B w1 (.mk nb v 6 ⟨#[]⟩ 0 kids) (.mk 6 ⟨#[]⟩ 0 aj)/\Rd w1 rb us d/\RFr w w1 rb/\aj.length+us.length<=ts.length/\(∀x∈aj,x.kind=15->x.kids≠[]):=
  ⟨F,[],ts,_,[],Y0 _,HQ.o,I,X,Y,by simp,λx hx=>by cases hx⟩
 have Z:=lh hst;have th:=lh U;clear hst dD I X Y O U;go_wp2_with fail
 go_loopw [] (λwr=>∃(g:Nat) (aj:List Tree) (us:List Tok) (v:Value) (kids:List ATree),g<=F/\Z2 g (.stmts 6 aj) d us=some r/\Got w B wr (.mk nb v 6 ⟨#[]⟩ 0 kids) (.mk 6 ⟨#[]⟩ 0 aj)/\Rd wr rb us d/\RFr w wr rb/\aj.length+us.length<=ts.length/\(∀x∈aj,x.kind=15->x.kids≠[])) (λwr=>leftOf wr rb)
 case atStart=>exact Z.o
 case round=>
  obtain⟨g,aj,us,v,kids,hg,hq,hG,u,hF,hl,hx⟩:=hrel;obtain⟨G,R,FF,HX,RL⟩:=gp hG u hF hx u.left;cases g with
  |zero=>cases hq
  |succ g=>
  rw[Z2]at hq;have m:=Sl wr rb us d Zn u;by_cases hb:ak Zn us=true
  ·rw [hb] at m;rw [Y5 (by rw [Y3 Px]; exact hb)] at hq;have hr := Yc hq;have tA := lh hr.symm;have m := lh m;unfold Zn at m;clear hG u hF hq hr hb hx Z;go_wp2_with fail
   refine m.o.mono ?_;rintro e w2⟨rfl,ar⟩;refine Zyl ?_;intro ay F2 G2 R2 ac ae;have J:w2.cell? ⟨nb,3,none⟩=some v:=PC
   have nz:w2.frozen? ⟨nb,1,none⟩=false:=Qg
   have LQ:w2.cell? ⟨nb,1,none⟩=some (.string ⟨#[]⟩):=PC
   have jJ:=G2.o.tree;simp only[ATree.tree,Tree.mk.injEq,true_and]at jJ;have qd:Up aj=false->mc w rb B d r (.returned (vP nb)) w2:=λh=>by
    rw[tA.o,h];exact⟨_,rfl,G2.o,R2.o,F2.o⟩
   have pQ:=lh qd;have qe:Up aj=true->mc w rb B d r (.returned (vP nb)) (w2.setCell ⟨nb,1,none⟩ (.string Cw)):=λh=>by
    exact Zyi
   have yu:=lh qe;have jD:=lh jJ;have bO:∀a∈kids,TreeAt w2 B a:=λa ha=>G2.o.at'.kid (k:=a) ha;have lp:=lh bO;clear ar ac qd qe jJ bO m FF G R;cases kids with
   |nil=>
     exact AcE
   |cons a0 ks=>
     rcases Z4 ae with⟨_,h0⟩|⟨g0,gA,rfl,k1,k2,k3⟩;·simp at h0
     refine Xa ?_;intro p0 rQ hb0 pI lq;obtain⟨b0,v0,xx,t0,n0,l0⟩:=a0;simp only[ATree.b,ATree.v,ATree.kind,ATree.text,ATree.n,ATree.kids,ATree.ptr,List.length_cons]at hb0 pI p0 k1 J ⊢;unfold maxLen at k2;have d0:w2.cell? ⟨b0,0,none⟩=some (vI xx):=QS
     have d3:w2.cell? ⟨b0,3,none⟩=some v0:=QS
     by_cases xy:xx=15
     .subst xy;cases l0 with
      |nil=>exact absurd rfl (lq rfl)
      |cons x xs=>
      rcases Z4 pI with⟨_,h0⟩|⟨g1,Ee,rfl,j1,j2,j3⟩;·simp at h0
      have p1:=Zs pI (g:=g1) rfl (i:=0) (x:=x.ptr) rfl;have ah:=(rQ.kid (k:=x) (by simp[ATree.kids])).blkOf;obtain⟨b1,v1,xu,t1,n1,l1⟩:=x;simp only[ATree.b,ATree.v,ATree.kind,ATree.text,ATree.n,ATree.ptr,List.length_cons]at ah p1 j1 d3;unfold maxLen at j2;have e0:w2.cell? ⟨b1,0,none⟩=some (vI xu):=Q4
      have e1:w2.cell? ⟨b1,1,none⟩=some (.string t1):=Q4
      exact AcF
     .exact Zy2
  .have du:ak Zn us=false:=by simpa using hb
   rw[du]at m;rw[Y3 (by rw[Y3 Px];exact hb)]at hq;have m:=lh m;unfold Zn at m;have ch:=lh hq;clear hG u hF hq hb du hx Z;go_wp2_with fail
   refine m.o.mono ?_;rintro e w2⟨rfl,ar⟩;have F2:=FF.o.trans (RFr.below (rb:=rb) ar);have G2:=G.o.rfr HP.o.lt (RFr.below (rb:=rb) ar);have R2:=R.o.below ar;have J:w2.cell? ⟨nb,3,none⟩=some v:=PY
   obtain⟨F2,G2,R2⟩:=ds F2 G2 R2;clear ar m FF G R;go_wp2_with fail
   refine Z7 [0,2,4,6,8,10,12,14,17,19,21] [11,12,13] (λW=>vC W nb 3 v) J λ_=>?_;refine dU ?_
   iterate 8
    refine fa ?_
   refine Ze (λK hK=>?_);go_simp
   have ay:=HP.o.lt;have qf:RFr w2 w2.drew rb:=(RFr.refl w2 rb).drew;have jG:us.length<=4000:=RC
   have ss:B<=w2.drew.heap.size:=Y4 HP.o.le F2.o.size;rcases Zf ch.o with⟨⟨c,p⟩,hv,rfl⟩|⟨t,vs,hv,gP⟩
   .refine(Xp w2.drew rb B us d _ _ R2.o.drew Q3 ay hv λhd h1 w1 dz hs=>HS.o g Px w1 rb B (d+1) us _ ⟨dz,hd,ay,by omega,jG⟩ h1).mono ?_;exact Zz0
   .have dr:vs.length<us.length:=Leaves.within (XK g .stmt (d+1) us) t vs hv;have pL:t.kind=15->t.kids≠[]:=by
     exact Zyk
    have Hp:=lh pL;have nf:=lh gP;refine(Xp w2.drew rb B us d _ _ R2.o.drew Q3 ay hv λhd h1 w1 dz hs=>HS.o g Px w1 rb B (d+1) us _ ⟨dz,hd,ay,by omega,jG⟩ h1).mono ?_;rintro e w3⟨a,rfl,hA,bG,bg⟩;have iu:RFr w2 w3 rb:=qf.trans bg;have fJ:=G2.o.rfr ay iu;refine ub ?_;intro ac;have m3:w3.cell? ⟨nb,3,none⟩=some v:=PC
    refine Uo ?_;intro mz dm;refine VX ?_;intro dH;refine XZ ?_;intro aG aX gK;refine S' ?_;intro N3 A3 R3;obtain⟨F3,NE,fm⟩:=ds (F2.o.trans iu) aG aX;refine vf ?_;intro i0 hi aC bo bQ;clear hK K hA bG bg iu fJ ac dH aG pL gP hv aX J qf;refine t7 ?_;intro K hK;refine Ab5 ?_;intro gg cap w4 aS aB bS bY m4;refine uV ?_;clear hK K;intro lX
    have an:=Got.push ay HP.o.le N3.o (wA:=w2.drew) (λx hx=>(G2.o.new x hx).2) A3.o F3.o R3.o ((Y2 _ _).alloc (Y0 _) _) aB aS (bS.imp id λh=>by omega) bY;exact tr7
def ll(w:kV)(B:Nat)(v:Value)(l:List ATree):Prop:=w.ownsRow B 22 1 v l.length (l.map ATree.ptr)
theorem ll.nil(w:kV)(B:Nat):ll w B (.slice none 0 0) []:=World.ownsRow_nil w B _ _
def ll.bel{w w':kV}{B:Nat}{v:Value}{l:List ATree}(h:ll w B v l)(g:kW w w'):ll w' B v l:=
 Z3 h λk hk=>g.block k (Y9 h k hk).2
def ll.form{w:kV}{B:Nat}{v:Value}{l:List ATree}(h:ll w B v l):(v=.slice none 0 0/\l=[])\/∃g cap,v=.slice (some ⟨g,0,none⟩) l.length cap/\l.length<=cap/\cap<=maxLen:=by
 exact Zx6
theorem ll.cell{w:kV}{B:Nat}{v:Value}{l:List ATree}(h:ll w B v l){b:Nat}(hb:v.ownBlock=some b){j:Nat}{x:ATree}(hs:l[j]?=some x):w.cell? ⟨b,j,none⟩=some (vP x.b):=
 Zs h hb (by rw[Yg,hs];rfl)
def xk(a:ATree):Bool:=a.kind==5
def vG(a:ATree):Bool:=a.kind==3||a.kind==4
def Zab{p:ATree->Bool}{l:List ATree}{k:Nat}{x:ATree}(h:l[k]?=some x):(l.take (k+1)).filter p=if p x then(l.take k).filter p++[x]else(l.take k).filter p:=by
 rw[Z31 h,List.filter_append];by_cases hp:p x<;>simp[hp]
def YN(w:kV)(B0:Nat)(a:ATree)(hT:TreeAt w B0 a)(hn:a.kids.length<1099511627776) :
 kC 22 #[a.ptr] w λe w'=>∃v,e=.returned v/\ll w' w.heap.size v (a.kids.filter xk)/\kW w w':=by
 refine Zy5 ?_;intro i0 hi aC bo bQ ac ae p cp hv bU c3 aE HT HV;unfold ATree.ptr;obtain⟨n,m⟩:=zX a.kids.length
 rw[<-m]at c3 aE hn bU;have HN:=lh m;clear ac ae hv m hT;go_enter func22,ntmps22
 go_wp2_with fail
 go_loopw [3,13] (λv i wr=>∃(k:Nat) (U:Value),U=v/\k<=n/\i=(vI k)/\Hid (ll wr w.heap.size U ((a.kids.take k).filter xk))/\Hid (kW w wr)) (λ_ i _=>n-(intOf i).toNat)
 case atStart=>exact⟨0,_,rfl,Yh _,rfl,lh (ll.nil _ _),lh (Y2 _ _)⟩
 case round=>
  obtain⟨k,v,rfl,hk,rfl,HR,HB⟩:=hrel;by_cases bX:k<n
  .obtain⟨x,hx⟩:∃x,a.kids[k]? =some x:=⟨_,Y6 PU⟩
   have y:=HT.o.bel HB.o;have ae:=y.rowOf;rcases Z4 ae with⟨_,h2⟩|⟨g0,gA,gm,_⟩;·rw[<-HN.o]at h2;omega
   have hp:p=some ⟨g0,0,none⟩:=by
    exact Uu
   subst hp;refine SE ?_;intro cx;unfold ATree.ptr at cx;have X:=y.kid (Yd hx);have ck:wr.cell? ⟨x.b,0,none⟩=some (vI x.kind):=by simp[vC,World.cell?,X.blkOf]
   have Y:(a.kids.take (k+1)).filter xk=_:=Zab (p:=xk) hx;have F:=lh Y;have nD:((a.kids.take k).filter xk).length<=k:=Y4 (List.length_filter_le _ _) PB;have aZ:=HB.o.size;clear y ae gm X Y;obtain⟨I,J⟩:=zX x.kind
   rw[<-J]at ck;have Z:=lh J;clear J hx;rcases(by omega:I=5\/I≠5)with h5|h5
   .subst h5;obtain⟨L,O⟩:=zX ((a.kids.take k).filter xk)
    rw[<-O]at nD F HR;have HL:=lh O;unfold ll at HR;clear O
    go_wp2_with (at_builtin;go_must (refine wpList_append_lies _ rfl (.tmp 22) (.tmp 24) 39 rfl w.heap.size 22 i0 (.pointer none) 1 8 underlying39 hi aC bo bQ rfl Py v L.length (L.map ATree.ptr) rfl (HR.o.alloc _) ⟨wr.heap.size,0,none⟩ 1 1 [vP x.b] rfl rfl (λj u hu=>cell_one_new wr _ _ j u hu) PH PF PA PF PF (wr.heap.size+1) PE ?_);intro g cap w2 aJ aw bZ fE;have HG:=lh aw;have HW:=lh aJ;have gy:=lh bZ;clear aw aJ bZ fE)
    go_roundw
    case rel=>
     refine⟨k+1,_,rfl,by omega,by go_num,lh ?_,lh ?_⟩
     .rw[F.o,Y5 (by simp[xk,<-Z.o])];exact AaL
     .exact AcP
    case measure=>simp[intOf];omega
   .have n5:(I==5)=false:=by simpa using h5
    clear h5;go_wp2;go_roundw
    case rel=>
     refine⟨k+1,_,rfl,by omega,by go_num,lh ?_,HB⟩;rw[F.o,Y3 (by simp[xk,<-Z.o,n5])];exact HR.o
    case measure=>simp[intOf];omega
  .have aR:k=n:=by omega
   subst aR;go_wp2;go_ret;refine⟨_,rfl,?_,HB.o⟩;have:=HR.o;rwa[Ye Qm]at this
def YU(w:kV)(B0:Nat)(a:ATree)(hT:TreeAt w B0 a)(hn:a.kids.length<1099511627776) :
 kC 43 #[a.ptr] w λe w'=>∃v,e=.returned v/\ll w' w.heap.size v (a.kids.filter vG)/\kW w w':=by
 refine Zy5 ?_;intro i0 hi aC bo bQ ac ae p cp hv bU c3 aE HT HV;unfold ATree.ptr;obtain⟨n,U⟩:=zX a.kids.length
 rw[<-U]at c3 aE hn bU;have HN:=lh U;clear ac ae hv U hT;go_enter func43,ntmps43
 go_wp2_with fail
 go_loopw [3,13] (λv i wr=>∃(k:Nat) (v':Value),v'=v/\k<=n/\i=(vI k)/\Hid (ll wr w.heap.size v' ((a.kids.take k).filter vG))/\Hid (kW w wr)) (λ_ i _=>n-(intOf i).toNat)
 case atStart=>exact⟨0,_,rfl,Yh _,rfl,lh (ll.nil _ _),lh (Y2 _ _)⟩
 case round=>
  obtain⟨k,v,rfl,hk,rfl,HR,HB⟩:=hrel;by_cases bX:k<n
  .obtain⟨x,hx⟩:∃x,a.kids[k]? =some x:=⟨_,Y6 PU⟩
   have X:=HT.o.bel HB.o;have ae:=X.rowOf;rcases Z4 ae with⟨_,h2⟩|⟨g0,gA,gm,_⟩;·rw[<-HN.o]at h2;omega
   have hp:p=some ⟨g0,0,none⟩:=by
    exact Uu
   subst hp;refine SE ?_;intro cx;unfold ATree.ptr at cx;have ey:=X.kid (Yd hx);have ck:wr.cell? ⟨x.b,0,none⟩=some (vI x.kind):=by simp[vC,World.cell?,ey.blkOf]
   have sm:(a.kids.take (k+1)).filter vG=_:=Zab (p:=vG) hx;have HF:=lh sm;have nD:((a.kids.take k).filter vG).length<=k:=Y4 (List.length_filter_le _ _) PB;have aZ:=HB.o.size;clear X ae gm ey sm;obtain⟨y,Y⟩:=zX x.kind
   rw[<-Y]at ck;have kO:=lh Y;clear Y hx;rcases(by omega:y=3\/y=4\/(y≠3/\y≠4))with F|F|⟨F,h4⟩
   .subst F;obtain⟨L,m⟩:=zX ((a.kids.take k).filter vG)
    rw[<-m]at nD HF HR;have HL:=lh m;unfold ll at HR;clear m
    go_wp2_with (at_builtin;go_must (refine wpList_append_lies _ rfl (.tmp 29) (.tmp 31) 39 rfl w.heap.size 22 i0 (.pointer none) 1 8 underlying39 hi aC bo bQ rfl Py v L.length (L.map ATree.ptr) rfl (HR.o.alloc _) ⟨wr.heap.size,0,none⟩ 1 1 [vP x.b] rfl rfl (λj u hu=>cell_one_new wr _ _ j u hu) PH PF PA PF PF (wr.heap.size+1) PE ?_);intro g cap w2 I J O Z;have HG:=lh J;have HW:=lh I;have gy:=lh O;clear J I O Z)
    exact Abe
   .subst F;obtain⟨L,m⟩:=zX ((a.kids.take k).filter vG)
    rw[<-m]at nD HF HR;have HL:=lh m;unfold ll at HR;clear m
    go_wp2_with (at_builtin;go_must (refine wpList_append_lies _ rfl (.tmp 29) (.tmp 31) 39 rfl w.heap.size 22 i0 (.pointer none) 1 8 underlying39 hi aC bo bQ rfl Py v L.length (L.map ATree.ptr) rfl (HR.o.alloc _) ⟨wr.heap.size,0,none⟩ 1 1 [vP x.b] rfl rfl (λj u hu=>cell_one_new wr _ _ j u hu) PH PF PA PF PF (wr.heap.size+1) PE ?_);intro g cap w2 I J O Z;have HG:=lh J;have HW:=lh I;have gy:=lh O;clear J I O Z)
    exact Abe
   .have n3:(y==3)=false:=by simpa using F
    have n4:(y==4)=false:=Rb
    clear F h4;go_wp2;go_roundw
    case rel=>
     refine⟨k+1,_,rfl,by omega,by go_num,lh ?_,HB⟩;rw[HF.o,Y3 (by simp[vG,<-kO.o,n3,n4])];exact HR.o
    case measure=>simp[intOf];omega
  .have aR:k=n:=by omega
   subst aR;go_wp2;go_ret;refine⟨_,rfl,?_,HB.o⟩;have:=HR.o;rwa[Ye Qm]at this
def VK(a:ATree):Bool:=a.kind==5||a.kind==37
theorem TreeAt.c0{w:kV}{B:Nat}{a:ATree}(h:TreeAt w B a):w.cell? ⟨a.b,0,none⟩=some (vI a.kind):=by simp[vC,World.cell?,h.blkOf]
theorem TreeAt.c1{w:kV}{B:Nat}{a:ATree}(h:TreeAt w B a):w.cell? ⟨a.b,1,none⟩=some (.string a.text):=by simp[vC,World.cell?,h.blkOf]
theorem TreeAt.c3{w:kV}{B:Nat}{a:ATree}(h:TreeAt w B a):w.cell? ⟨a.b,3,none⟩=some a.v:=by simp[vC,World.cell?,h.blkOf]
def TreeAt.vOf{w:kV}{B:Nat}{a:ATree}(h:TreeAt w B a):∃p g,a.v=.slice p a.kids.length g/\a.kids.length<=g/\g<=maxLen:=by
 rcases Z4 h.rowOf with⟨h1,m⟩|⟨y,F,h1,m,u,_⟩;·exact⟨none,0,by rw[h1,m],by omega,by unfold maxLen;omega⟩
 .exact⟨_,_,h1,m,u⟩
def Ze4(w:kV)(B:Nat)(a:ATree)(p:TreeAt w B a) :
 kC 39 #[a.ptr] w λe w'=>e=.returned (.bool (VK a))/\w'=w:=by
 have c0:=p.c0;unfold VK ATree.ptr;obtain⟨g,u⟩:=zX a.kind
 rw[<-u]at c0 ⊢;clear u p;rcases(by omega:g=5\/g=37\/(g≠5/\g≠37))with m|m|⟨m,h4⟩
 .subst m;exact Zt9
 .subst m;exact Zt9
 .have y:(g==5)=false:=by simpa using m
  have F:(g==37)=false:=Rb
  clear m h4;rw[y,F];exact Zt9
theorem Zz.slice{w:kV}{B:Nat}{v:Value}{l:List kB}(h:Zz w B v l):∃p n c,v=.slice p n c:=by
 rcases h.form with⟨h,_⟩|⟨g,cap,h,_⟩;·exact⟨_,_,_,h⟩
 .exact⟨_,_,_,h⟩
def Ex(l:List kB)(a:ATree):Bool×List kB:=(!VK a,if a.kind==2 then jf l a.text else l)
def Zeb:∀(l T:List kB),l.Nodup->(∀x∈l,x∈T)->l.length<=T.length:=by
 intro l;induction l with
 |nil=>intro T _ _;simp
 |cons a l g=>
   intro T hd hs;obtain⟨h1,m⟩:=List.nodup_cons.1 hd;have ha:=hs a PE;have:=g (T.eraseP (λx=>decide (x=a))) m (λx hx=>(List.mem_eraseP_of_neg (by simp only[decide_eq_true_eq];exact λe=>h1 (by rw[<-e];exact hx))).2 (hs x (List.mem_cons_of_mem _ hx)));have u:=List.length_eraseP_of_mem (p:=λx=>decide (x=a)) ha PE;have y:=List.length_pos_of_mem ha;simp only[List.length_cons];omega
def Zl0{l:List kB}{s:kB}(h:l.Nodup):(jf l s).Nodup:=by
 unfold jf;by_cases hc:Lib.containsS l s=true;·rw[Y5 hc];exact h
 .rw[Y3 hc];rw[Lib.containsS_iff]at hc;rw[List.nodup_append];exact⟨h,by simp,λa ha b hb e=>hc (by simp at hb;rw[<-hb,<-e];exact ha)⟩
def Zqs{l:List kB}{s x:kB}(h:x∈jf l s):x∈l\/x=s:=by
 unfold jf at h;split at h;·exact .inl h
 .simpa using h
structure VInv(w0:kV)(c:Nat)(T:List kB)(l:List kB)(w:kV):Prop where
 cell:∃v,w.heap[c]?=some (.cells #[v] 27 (0,0))/\Zz w (c+1) v l
 bel:Below c w0 w
 nd:l.Nodup
 sub:∀s∈l,s∈T
section
variable {w0 w:kV}{c B:Nat}{T l:List kB}{a:ATree}
theorem VInv.lt(h:VInv w0 c T l w):c<w.heap.size:=by obtain⟨v,hb,_⟩:=h.cell;exact(Y1.1 hb).1
theorem VInv.tree(h:VInv w0 c T l w)(g:TreeAt w0 B a)(hc:w0.heap.size<=c):TreeAt w B a:=g.keep λk _ hk=>h.bel.block k Px
theorem VInv.drew(h:VInv w0 c T l w):VInv w0 c T l w.drew:=⟨h.cell,h.bel.drew,h.nd,h.sub⟩
def VInv.add{w1:kV}{g:Value}{s:kB}(h:VInv w0 c T l w)(hs:s∈T)(m:Below (c+1) w w1)(ht:Zz w1 (c+1) g (jf l s)):VInv w0 c T (jf l s) (w1.setCell ⟨c,0,none⟩ g):=by
 obtain⟨v,hb,_⟩:=h.cell;have u:w1.heap[c]?=some (.cells #[v] 27 (0,0)):=(m.block c Px).trans hb;refine⟨⟨g,Zj (o:=0) g u,?_⟩,?_,Zl0 h.nd,λx hx=>(Zqs hx).elim (h.sub x) (λe=>by rw[e];exact hs)⟩;·exact Z3 ht λk hk=>Y8 _ _ _ _ (by have:=(Y9 ht k hk).1;simp only;omega)
 .exact(h.bel.trans (m.mono Px)).setCell (p:=⟨c,0,none⟩) (Y0 _) _
end
def Zly(w0:kV)(c B:Nat)(T:List kB)(U:T.length<1099511627776)(hc:w0.heap.size<=c)(x:ATree)(hx:TreeAt w0 B x)(X:x.text∈T)(l:List kB)(w:kV)(hI:VInv w0 c T l w) :
 kC 37 #[x.ptr,vP c] w λe w'=>e=.returned (.bool (Ex l x).1)/\VInv w0 c T (Ex l x).2 w':=by
 have y:=hI.tree hx hc;have c0:=y.c0;have c1:=y.c1;obtain⟨Y,F,Z⟩:=ds hx hI hc;have aZ:=hI.lt;obtain⟨v,hb,m⟩:=hI.cell;have cc:w.cell? ⟨c,0,none⟩=some v:=by simp[vC,World.cell?,hb]
 have cz:w.frozen? ⟨c,0,none⟩=false:=by simp[World.frozen?,hb]
 have eJ:=lh m;have aE:=Nat.lt_of_le_of_lt (Zeb l T hI.nd hI.sub) U;have HL:=lh aE;have Iq:=lh X;clear y hx hI hc hb m aE X U;unfold Ex ATree.ptr;obtain⟨tx,m⟩:=zX x.text
 rw[<-m]at c1 Iq ⊢;clear m;obtain⟨I,bD⟩:=zX x.kind
 rw[<-bD]at c0 ⊢;clear bD;rcases(by omega:I=2\/I≠2)with p|p
 .subst p;go_enter func37,ntmps37
  go_wp2_with fail
  refine Z7 [0,2,4,6,8] [5,6] (λW=>vC W c 0 v/\vC W x.b 1 (.string tx)) ⟨cc,c1⟩ λ_=>?_;refine dU ?_
  iterate 5
   refine fa ?_
  refine Z0 ?_;have HA:=(Zt1 w.drew (c+1) v l tx eJ.o aZ HL.o)
  go_wp2_with fail
  refine HA.mono ?_;rintro e w1⟨v1,rfl,J,u⟩;obtain⟨vp,vn,vc,rfl⟩:=J.slice;have O:=F.o.drew.add Iq.o u J;have H1:=lh O;have Ef:w1.frozen? ⟨c,0,none⟩=false:=(Yn (u.block c Px)).trans cz;have iD:∃v,vC w1 c 0 v:=⟨v,(Yb (u.block c Px)).trans cc⟩
  obtain⟨v2,iD⟩:=iD;have g:=Ze4 _ B x (O.tree Y.o Z.o);unfold ATree.ptr at g;have g:=lh g;clear O HA u J;go_wp2_with fail
  refine g.o.mono ?_;rintro e w3⟨rfl,rfl⟩;go_wp2;go_ret;exact⟨rfl,H1.o⟩
 .have n2:(I==2)=false:=by simpa using p
  rw[n2];clear p;have g:=Ze4 w B x (F.o.tree Y.o Z.o);unfold ATree.ptr at g;have g:=lh g;go_enter func37,ntmps37
  go_wp2_with fail
  refine g.o.mono ?_;rintro e w3⟨rfl,rfl⟩;go_wp2;go_ret;exact⟨rfl,F.o⟩
def Zvf(u:Addr){σ:Type}(Inv:σ->kV->Prop)(g:σ->ATree->Bool×σ)(B:Nat):∀(m:Nat) (a:ATree),a.many<=m->(∀s w,Inv s w->TreeAt w B a)->
 ∀s,(∀x s',Reach g a s x s'->∀w,Inv s' w->kC 37 #[x.ptr,.pointer (some u)] w λe w'=>e=.returned (.bool (g s' x).1)/\Inv (g s' x).2 w')->
 ∀w,Inv s w->kC 11 #[a.ptr,.func (.func 37) #[] #[.pointer (some u)]] w λe w'=>e=.returned (.tuple #[])/\Inv (sp g a s) w':=by
 exact tq2
def zt(a:ATree):List kB:=pV Ex a.kids []
def Zz.base{w:kV}{B m:Nat}{v:Value}{l:List kB}(h:Zz w B v l)(y:m<=B):Zz w m v l:=by
 refine⟨h.1,?_⟩;rcases h.2 with hn|⟨g,cap,p,h1,F,u⟩;·exact .inl hn
 .exact .inr ⟨g,cap,p,h1,by omega,u⟩
def Zaj(l:List ATree):(lw l).length=Ad l:=by
 have g:∀n,∀l:List ATree,Ad l<=n->(lw l).length=Ad l:=by
  intro n;induction n with
  |zero=>
    intro l hl;cases l with
    |nil=>rfl
    |cons a l=>exfalso;obtain⟨b,v,k,t,m,p⟩:=a;simp only[Ad,ATree.many]at hl;omega
  |succ n u=>
    intro l hl;cases l with
    |nil=>rfl
    |cons a l=>
      obtain⟨b,v,k,t,m,p⟩:=a;simp only[Ad,ATree.many]at hl ⊢;have h1:=u p Px;have y:=u l Px;simp only[lw,ATree.subs,List.length_append,List.length_cons,h1,y]
 exact g _ l (Y0 _)
def Zbd(a:ATree):a.kids.length<=a.many:=by
 have g:∀l:List ATree,l.length<=Ad l:=by
  intro l;induction l with
  |nil=>simp[Ad]
  |cons x l u=>obtain⟨b,v,k,t,m,p⟩:=x;simp only[List.length_cons,Ad,ATree.many];omega
 obtain⟨b,v,k,t,m,p⟩:=a;have:=g p;simp only[ATree.kids,ATree.many];omega
def Zag{w:kV}{B:Nat}:∀{a x:ATree},TreeAt w B a->x∈a.subs->TreeAt w B x:=by
 have u:∀n,∀a x:ATree,a.many<=n->TreeAt w B a->x∈a.subs->TreeAt w B x:=by
  intro n;induction n with
  |zero=>intro a x h;exfalso;obtain⟨b,v,k,t,m,g⟩:=a;simp only[ATree.many]at h;omega
  |succ n I=>
    intro a x hn p hx;obtain⟨b,v,k,t,m,g⟩:=a;simp only[ATree.subs,List.mem_cons]at hx;rcases hx with rfl|hx;·exact p
    .have:∀l:List ATree,(∀y∈l,y∈g)->x∈lw l->TreeAt w B x:=by
      intro l;induction l with
      |nil=>intro _ h;simp[lw]at h
      |cons y l J=>
        intro hl h;simp only[lw,List.mem_append]at h;rcases h with h|h
        .have F:y∈(ATree.mk b v k t m g).kids:=hl y PE;exact I y x (by have:=XR F;omega) (p.kid F) h
        .exact J (λz O=>hl z (List.mem_cons_of_mem _ O)) h
     exact this g (λy h=>h) hx
 intro a x p hx;exact u _ a x (Y0 _) p hx
def Vj(a:ATree):List kB:=(lw a.kids).map ATree.text
def Zgn{a k x:ATree}(h:k∈a.kids)(hx:x∈k.subs):x.text∈Vj a:=by
 unfold Vj;refine List.mem_map_of_mem ?_;have g:∀l:List ATree,k∈l->x∈lw l:=by
  exact Zz5
 exact g _ h
def Zye(w:kV)(B:Nat)(a k:ATree)(g:TreeAt w B a)(hm:a.many<1099511627776)(hk:k∈a.kids)(l:List kB)(w1:kV)(hI:VInv w w.heap.size (Vj a) l w1) :
 kC 11 #[k.ptr,.func (.func 37) #[] #[vP w.heap.size]] w1 λe w'=>e=.returned (.tuple #[])/\VInv w w.heap.size (Vj a) (sp Ex k l) w':=
 Zvf ⟨w.heap.size,0,none⟩ (VInv w w.heap.size (Vj a)) Ex B k.many k (Y0 _) (λs w1 h=>h.tree (g.kid hk) (Y0 _))
  l (λx s hx w1 h=>Zly w w.heap.size B (Vj a) (by unfold Vj;rw[Ym,Zaj];obtain⟨b,v,p,t,m,u⟩:=a;simp only[ATree.many]at hm;simp only[ATree.kids];omega) (Y0 _) x (Zag (g.kid hk) hx.sub) (Zgn hk hx.sub) s w1 h) w1 hI
def Z89(w:kV)(B:Nat)(a:ATree)(hT:TreeAt w B a)(hm:a.many<1099511627776) :
 kC 19 #[a.ptr] w λe w'=>∃v,e=.returned v/\Zz w' w.heap.size v (zt a)/\kW w w'/\(zt a).length<=a.many:=by
 have Y:=lh (Zye w B a · hT hm);refine FG ?_;intro iO;have Z:=hT.blkOf;obtain⟨p,cp,hv,bU,ej⟩:=hT.vOf;refine Xr ?_;intro c3 aE;have bN:=hT.lt;have rs:(w.alloc (.cells #[.slice none 0 0] 27)).cell? ⟨a.b,3,none⟩=some (.slice p a.kids.length cp):=(Zc bN).trans c3;obtain⟨HT,HV,HM⟩:=ds hT hv hm;unfold ATree.ptr;obtain⟨n,y⟩:=zX a.kids.length
 rw[<-y]at c3 aE bU rs;have HN:=lh y;have I:VInv w w.heap.size (Vj a) [] (w.alloc (.cells #[.slice none 0 0] 27)):=
  ⟨⟨_,by rw[World.alloc];simp,Zz.nil _ _⟩,(Y2 _ _).alloc (Y0 _) _,List.nodup_nil,λ_ h=>by cases h⟩
 have HS:=lh I;clear Z hv y hT I hm;go_enter func19,ntmps19
 go_wp2_with fail
 go_loopw [13] (λi wr=>∃(k:Nat),k<=n/\i=(vI k)/\Hid (VInv w w.heap.size (Vj a) (pV Ex (a.kids.take k) []) wr)) (λi _=>n-(intOf i).toNat)
 case atStart=>exact⟨0,Yh _,rfl,lh (by simpa[pV]using HS.o)⟩
 case round=>
  obtain⟨k,hk,rfl,u⟩:=hrel;by_cases bX:k<n
  .obtain⟨x,hx⟩:∃x,a.kids[k]? =some x:=⟨_,Y6 PU⟩
   have J:=u.o.tree HT.o (Y0 _);have ae:=J.rowOf;rcases Z4 ae with⟨_,h2⟩|⟨g0,gA,gm,_⟩;·rw[<-HN.o]at h2;omega
   have hp:p=some ⟨g0,0,none⟩:=by
    exact Uu
   subst hp;refine SE ?_;intro cx;have F:=Y.o x (Yd hx) _ _ u.o;unfold ATree.ptr at cx F;have O:=lh F;have HX:=lh hx;clear J ae gm hx F;go_wp2_with fail
   refine O.o.mono ?_;rintro e w1⟨rfl,U⟩;have eC:=lh U;clear U O;go_wp2;go_roundw
   case rel=>exact⟨k+1,by omega,by go_num,lh (by rw[Z31 HX.o,Zcv];exact eC.o)⟩
   case measure=>simp[intOf];omega
  .have aR:k=n:=by omega
   subst aR;obtain⟨v,hb,X⟩:=u.o.cell;have cc:wr.cell? ⟨w.heap.size,0,none⟩=some v:=by simp[vC,World.cell?,hb]
   have eJ:=lh X;clear hb X;go_wp2;go_ret;have ao:pV Ex (a.kids.take k) []=zt a:=by rw[Ye Qm];rfl
   rw[<-ao];refine⟨_,rfl,eJ.o.base (Nat.le_succ _),u.o.bel,?_⟩;have:=Zeb _ _ u.o.nd u.o.sub;refine Y4 this ?_;unfold Vj;rw[Ym,Zaj];obtain⟨b,v,kk,t,m,ks⟩:=a;simp only[ATree.many,ATree.kids];omega
