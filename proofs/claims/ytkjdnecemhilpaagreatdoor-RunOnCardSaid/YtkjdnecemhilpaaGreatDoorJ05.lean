import Derived.Test.YtkjdnecemhilpaaGreatDoorJ04
import Derived.Shelf.Strconv.Itoa3
import Derived.Lib.AppendIntMem
import Derived.Shelf.Strings.Builder1
import Derived.Shelf.Slices.Turned
import Derived.Test.YtkjdnecemhilpaaGreatDoorRows
import Derived.Shelf.Small.Strs
set_option maxRecDepth 100000
set_option maxHeartbeats 20000000
set_option linter.all false
namespace Go.Proofs
def Tryz.laysM171_ren:Go.Shelf.Ren:=⟨fun|171=>64|243=>103|246=>127|283=>134|284=>135|285=>136|286=>137|129=>147|317=>146|318=>148|319=>149|320=>150|337=>161|338=>162|n=>n,fun|3=>3|9=>9|2=>2|4=>4|171=>211|0=>0|53=>212|37=>30|5=>5|173=>215|212=>224|51=>225|20=>20|213=>226|46=>45|232=>238|233=>239|n=>n,fun|17=>5|18=>6|19=>7|n=>n⟩
def Tryz.laysM171:Go.Proofs.LaysM.n171 Tryz.prog Tryz.laysM171_ren:={
 mixed:=by kernel_rfl
 f129:=Tryz.func147.trans (congrArg some (by kernel_rfl))
 f171:=Tryz.func64.trans (congrArg some (by kernel_rfl))
 f243:=Tryz.func103.trans (congrArg some (by kernel_rfl))
 f246:=Tryz.func127.trans (congrArg some (by kernel_rfl))
 f283:=Tryz.func134.trans (congrArg some (by kernel_rfl))
 f284:=Tryz.func135.trans (congrArg some (by kernel_rfl))
 f285:=Tryz.func136.trans (congrArg some (by kernel_rfl))
 f286:=Tryz.func137.trans (congrArg some (by kernel_rfl))
 f317:=Tryz.func146.trans (congrArg some (by kernel_rfl))
 f318:=Tryz.func148.trans (congrArg some (by kernel_rfl))
 f319:=Tryz.func149.trans (congrArg some (by kernel_rfl))
 f320:=Tryz.func150.trans (congrArg some (by kernel_rfl))
 f337:=Tryz.func161.trans (congrArg some (by kernel_rfl))
 f338:=Tryz.func162.trans (congrArg some (by kernel_rfl))
 t0:=Tryz.underlying0
 a0:=Tryz.isAgg0
 z0:=Tryz.sizeOf0
 v0:=Tryz.zeroValue0
 t2:=Tryz.underlying2
 a2:=Tryz.isAgg2
 z2:=Tryz.sizeOf2
 v2:=Tryz.zeroValue2
 t3:=Tryz.underlying3
 a3:=Tryz.isAgg3
 z3:=Tryz.sizeOf3
 v3:=Tryz.zeroValue3
 t4:=Tryz.underlying4
 a4:=Tryz.isAgg4
 z4:=Tryz.sizeOf4
 v4:=Tryz.zeroValue4
 t5:=Tryz.underlying5
 a5:=Tryz.isAgg5
 z5:=Tryz.sizeOf5
 v5:=Tryz.zeroValue5
 t9:=Tryz.underlying9
 a9:=Tryz.isAgg9
 z9:=Tryz.sizeOf9
 v9:=Tryz.zeroValue9
 t20:=Tryz.underlying20
 a20:=Tryz.isAgg20
 z20:=Tryz.sizeOf20
 v20:=Tryz.zeroValue20
 t37:=Tryz.underlying30
 a37:=Tryz.isAgg30
 z37:=Tryz.sizeOf30
 v37:=Tryz.zeroValue30
 t46:=Tryz.underlying45
 a46:=Tryz.isAgg45
 z46:=Tryz.sizeOf45
 v46:=Tryz.zeroValue45
 t51:=Tryz.underlying225
 a51:=Tryz.isAgg225
 z51:=Tryz.sizeOf225
 v51:=Tryz.zeroValue225
 t53:=Tryz.underlying212
 a53:=Tryz.isAgg212
 z53:=Tryz.sizeOf212
 v53:=Tryz.zeroValue212
 t171:=Tryz.underlying211
 a171:=Tryz.isAgg211
 z171:=Tryz.sizeOf211
 v171:=Tryz.zeroValue211
 t173:=Tryz.underlying215
 a173:=Tryz.isAgg215
 z173:=Tryz.sizeOf215
 v173:=Tryz.zeroValue215
 t212:=Tryz.underlying224
 a212:=Tryz.isAgg224
 z212:=Tryz.sizeOf224
 v212:=Tryz.zeroValue224
 t213:=Tryz.underlying226
 a213:=Tryz.isAgg226
 z213:=Tryz.sizeOf226
 t232:=Tryz.underlying238
 a232:=Tryz.isAgg238
 z232:=Tryz.sizeOf238
 v232:=Tryz.zeroValue238
 t233:=Tryz.underlying239
 a233:=Tryz.isAgg239
 z233:=Tryz.sizeOf239
 v233:=Tryz.zeroValue239
 g17:=by kernel_rfl
 g18:=by kernel_rfl
 g19:=by kernel_rfl
 i0:=by kernel_rfl
 i2:=by kernel_rfl
 i3:=by kernel_rfl
 i4:=by kernel_rfl
 i5:=by kernel_rfl
 i9:=by kernel_rfl
 i20:=by kernel_rfl
 i37:=by kernel_rfl
 i46:=by kernel_rfl
 i51:=by kernel_rfl
 i53:=by kernel_rfl
 i171:=by kernel_rfl
 i173:=by kernel_rfl
 i212:=by kernel_rfl
 i232:=by kernel_rfl
 i233:=by kernel_rfl
 m17:=by kernel_rfl
 m18:=by kernel_rfl
 m19:=by kernel_rfl}
open Go.RowKit Go.Sort Go.Lib in
theorem Tryz.strconv_Itoa(n:Int)(g: -9223372036854775808<=n)(m:n<=9223372036854775807)(w:World)(o:Lib.TabIs Tryz.prog w "internal/strconv.uint64pow10" .u64 Lib.pow10Tab) :
 Calls Tryz.prog 64 #[.int .i64 n] w λe w'=>e=.returned (.string ⟨(Lib.itoa n).toArray⟩)/\∃k os,w'=grow (w.drewN k) os:=Any.strconv_Itoa Tryz.laysM171 n g m w o
end Go.Proofs
namespace Go.Proofs.YtkjdnecemhilpaaGreatDoor
open Go Go.RowKit Go.Proofs.Tryz Tryz
def K'(w:kV):Prop:=Lib.TabIs Tryz.prog w "internal/strconv.uint64pow10" .u64 Lib.pow10Tab
theorem K'.below{w w':kV}(h:K' w)(g:kW w w'):K' w':=Lib.tabBelow_of_tabIs h w' g
def below_grow(w:kV)(k:Nat)(os:Array Obj):kW w (Sort.grow (w.drewN k) os):=by
 refine⟨rfl,rfl,rfl,?_,λi hi=>?_⟩;·simp[Sort.grow,World.drewN]
 .simp only[Sort.grow,World.drewN];exact Array.getElem?_append_left hi
def Zib(w:kV)(n:Int)(g:-9223372036854775808<=n)(m:n<=9223372036854775807)(ht:K' w) :
 kC 64 #[vI n] w λe w'=>e=.returned (.string ⟨(Lib.itoa n).toArray⟩)/\kW w w':=by
 refine(Tryz.strconv_Itoa n g m w ht).mono ?_;rintro e w'⟨rfl,k,os,rfl⟩;exact⟨rfl,below_grow _ _ _⟩
def WP:kB:=⟨#[117,110,100,101,102,105,110,101,100]⟩
def Acs:kB:=⟨#[110,117,108,108]⟩
def Abp:kB:=⟨#[116,114,117,101]⟩
def Zyu:kB:=⟨#[102,97,108,115,101]⟩
def Zat:kB:=⟨#[102,117,110,99,116,105,111,110]⟩
def Za0:kB:=⟨#[111,98,106,101,99,116]⟩
def LHeap.shown(H:LHeap)(v:LVal):kB:=
 if v.kind=0 then WP else if v.kind=1 then Acs else if v.kind=2 then(if v.n=0 then Zyu else Abp)
 else if v.kind=3 then⟨(Lib.itoa v.n).toArray⟩else if v.kind=4 then v.s else if H.code v.n=0 then Za0 else Zat
section
variable {ρ:Nat->Option Role}{w:kV}{hb ho:Nat}{L:HL}{H:LHeap}
def Zqa(h:HeapAt ρ w hb ho L H)(v:LVal)(F:-9223372036854775808<=v.n)(I:v.n<=9223372036854775807)(ht:K' w) :
 kC 29 #[.pointer (some ⟨hb,ho,none⟩),v.agg] w λe w'=>e=.returned (.string (H.shown v))/\kW w w':=by
 obtain⟨k,n,s⟩:=v;simp only at F I;simp only[LVal.agg,LHeap.shown];have g:∀o,kW w (w.alloc o):=λo=>(Y2 _ _).alloc (Y0 _) _;obtain⟨HB,O,HC⟩:=ds g (λo=>Zib (w.alloc o) n F I (ht.below (g o))) (λo=>Zhx (h.below (g o)) n);clear h ht g;by_cases m:k=0
 .subst m;exact U1
 by_cases k1:k=1
 .subst k1;exact U1
 by_cases p:k=2
 .subst p;by_cases hn:n=0
  .subst hn;exact U1
  .have Y:(n !=0)=true:=by simp[hn]
   simp only[hn,if_false];exact U1
 by_cases u:k=3
 .subst u;go_enter func29,ntmps29
  go_wp2_with fail
  refine(O.o _).mono ?_;rintro e w1⟨rfl,J⟩;have U:=lh J;clear J;go_wp2;go_ret;exact⟨rfl,(HB.o _).trans (U.o.mono Qm)⟩
 by_cases y:k=4
 .subst y;exact U1
 .have Z:(k==0)=false:=by simp[m]
  have q1:(k==1)=false:=SA
  have q2:(k==2)=false:=by simp[p]
  have q3:(k==3)=false:=by simp[u]
  have q4:(k==4)=false:=by simp[y]
  simp only[m,k1,p,u,y,if_false];clear m k1 p u y;by_cases hc:H.code n=0
  .rw[hc]at HC;rw[Y5 hc];exact Zyd
  .have X:(H.code n !=0)=true:=by simp[hc]
   rw[Y3 hc];generalize H.code n=c at HC X;exact Zyd
end
def uK(c:Int):Bool:=(decide (97<=c)&&decide (c<=122))||decide (c=95)
def mI(c:Int):Bool:=decide (48<=c)&&decide (c<=57)
def Zt(c:Int):Bool:=decide (c=32)||decide (c=10)
def wV(c:Int):Bool:=uK c||mI c
def Zc6(w:kV)(c:Int):kC 32 #[.int .u8 c] w λe w'=>e=.returned (.bool (uK c))/\w'=w:=by
 by_cases m:97<=c
 .by_cases o:c<=122
  .have e:uK c=true:=by simp[uK,m,o]
   rw[e];exact Zps
  .have e:uK c=false:=by simp[uK,m,o];omega
   have g:(c==95)=false:=Qi
   rw[e];exact Zps
 .by_cases g:c=95
  .subst g;exact Zps
  .have e:uK c=false:=by simp[uK,m,g]
   have p:(c==95)=false:=by simp[g]
   rw[e];exact Zps
def Zax(w:kV)(c:Int):kC 34 #[.int .u8 c] w λe w'=>e=.returned (.bool (mI c))/\w'=w:=by
 by_cases g:48<=c
 .by_cases m:c<=57
  .have e:mI c=true:=by simp[mI,g,m]
   exact Zrn
  .have e:mI c=false:=by simp[mI,m]
   exact Zrn
 .have e:mI c=false:=by simp[mI,g]
  exact Zrn
def Znh(w:kV)(c:Int):kC 31 #[.int .u8 c] w λe w'=>e=.returned (.bool (Zt c))/\w'=w:=by
 by_cases g:c=32
 .subst g;exact Zzn
 .have m:(c==32)=false:=by simp[g]
  have e:Zt c=(c==10):=by simp[Zt,g];rfl
  rw[e];exact Zzn
def Zpj(w:kV)(c:Int):kC 33 #[.int .u8 c] w λe w'=>e=.returned (.bool (wV c))/\w'=w:=by
 have HL:=lh (Zc6 w c);have g:=lh (Zax w c);unfold wV;cases hl:uK c
 .rw[hl]at HL;go_enter func33,ntmps33
  go_wp2_with fail
  refine HL.o.mono ?_;rintro e w1⟨rfl,rfl⟩;go_wp2_with fail
  refine g.o.mono ?_;rintro e w1⟨rfl,rfl⟩;go_wp2;go_ret;exact⟨rfl,rfl⟩
 .rw[hl]at HL;go_enter func33,ntmps33
  go_wp2_with fail
  refine HL.o.mono ?_;rintro e w1⟨rfl,rfl⟩;go_wp2;go_ret;exact⟨rfl,rfl⟩
structure ScanAt(w0 w:kV)(sb:Nat)(text:kB)(at':Nat):Prop where
 blk:w.heap[sb]?=some (.cells #[.string text,vI at'] 93 (0,0))
 os:w.os=w0.os
 tape:w.tape=w0.tape
 output:w.output=w0.output
 size:w0.heap.size<=w.heap.size
 block:∀k,k<w0.heap.size->k≠sb->w.heap[k]?=w0.heap[k]?
variable {w0 w w':kV}{sb:Nat}{text:kB}{a b:Nat}
theorem ScanAt.refl(h:w.heap[sb]?=some (.cells #[.string text,vI a] 93 (0,0))):ScanAt w w sb text a:=⟨h,rfl,rfl,rfl,Y0 _,λ_ _ _=>rfl⟩
theorem ScanAt.trans(h:ScanAt w0 w sb text a)(g:ScanAt w w' sb text b):ScanAt w0 w' sb text b:=
 ⟨g.blk,g.os.trans h.os,g.tape.trans h.tape,g.output.trans h.output,Y4 h.size g.size,λk hk hn=>(g.block k (Y7 hk h.size) hn).trans (h.block k hk hn)⟩
theorem ScanAt.drew(h:ScanAt w0 w sb text a):ScanAt w0 w.drew sb text a:=⟨h.blk,h.os,h.tape,h.output,h.size,h.block⟩
theorem ScanAt.lt(h:ScanAt w0 w sb text a):sb<w.heap.size:=(Y1.1 h.blk).1
def ScanAt.below(h:ScanAt w0 w sb text a)(g:kW w w'):ScanAt w0 w' sb text a:=
 ⟨(g.block sb h.lt).trans h.blk,g.os.trans h.os,g.tape.trans h.tape,g.output.trans h.output,Y4 h.size g.size,λk hk hn=>(g.block k (Y7 hk h.size)).trans (h.block k hk hn)⟩
theorem ScanAt.c0(h:ScanAt w0 w sb text a):w.cell? ⟨sb,0,none⟩=some (.string text):=by simp[vC,World.cell?,h.blk]
theorem ScanAt.c1(h:ScanAt w0 w sb text a):w.cell? ⟨sb,1,none⟩=some (vI a):=by simp[vC,World.cell?,h.blk]
theorem ScanAt.fz(h:ScanAt w0 w sb text a)(o:Nat):w.frozen? ⟨sb,o,none⟩=false:=by simp[World.frozen?,h.blk]
def ScanAt.set(h:ScanAt w0 w sb text a)(b:Nat):ScanAt w0 (w.setCell ⟨sb,1,none⟩ (vI b)) sb text b:=
 ⟨Zk _ h.blk,h.os,h.tape,h.output,by simpa using h.size,λk hk hn=>(Y8 _ _ _ _ hn).trans (h.block k hk hn)⟩
def Z5(text:kB)(i:Nat):Int:=((text.data.getD i 0).toNat:Int)
def Zf(p:Int->Bool)(text:kB):Nat->Nat->Nat
 |0,i=>i
 |f+1,i=>if i<text.size&&p (Z5 text i)then Zf p text f (i+1)else i
def Z53{i:Nat}(h:i<text.size):Z5 text i=((text[i]'h).toNat:Int):=by
 unfold Z5;have:i<text.data.size:=h;simp only[Array.getD,dif_pos this];rfl
def Zew{p:Int->Bool}{j:Nat}(h:j<text.size)(hp:p (Z5 text j)=true):Zf p text (text.size-j) j=Zf p text (text.size-(j+1)) (j+1):=by
 obtain⟨f,hf⟩:∃f,text.size-j=f+1:=⟨text.size-j-1,by omega⟩
 rw[hf,show text.size-(j+1)=f by omega];simp[Zf,h,hp]
def Z92{p:Int->Bool}{j:Nat}(hp:¬j<text.size\/p (Z5 text j)=false):Zf p text (text.size-j) j=j:=by
 cases hf:text.size-j with
 |zero=>rfl
 |succ f=>
   rcases hp with h|h;·omega
   .simp[Zf,h]
def Zh8{u:Value}{p:Int->Bool}(LU:(u=.func (.func 31) #[] #[]/\p=Zt)\/(u=.func (.func 33) #[] #[]/\p=wV)\/(u=.func (.func 34) #[] #[]/\p=mI))(h:w.heap[sb]?=some (.cells #[.string text,vI a] 93 (0,0)))(ha:a<=text.size)(hm:text.size<=1000000) :
 kC 30 #[vP sb,u] w λe w'=>∃b,b=Zf p text (text.size-a) a/\a<=b/\b<=text.size/\e=.returned (.string (text.extract a b))/\ScanAt w w' sb text b:=by
 rcases LU with⟨rfl,rfl⟩|⟨rfl,rfl⟩|⟨rfl,rfl⟩;have HL:=lh (λw c=>Znh w c);obtain⟨P,g⟩:=zX Zt
 rw[<-g]at HL ⊢;clear g;rotate_left
 have HL:=lh (λw c=>Zpj w c);obtain⟨P,g⟩:=zX wV
 rw[<-g]at HL ⊢;clear g;rotate_left
 have HL:=lh (λw c=>Zax w c);obtain⟨P,g⟩:=zX mI
 rw[<-g]at HL ⊢;clear g;rotate_left
 all_goals
  have J:=lh (ScanAt.refl h);have c0:=J.o.c0;have c1:=J.o.c1;clear h;go_enter func30,ntmps30
  go_wp2;go_loopw [] (λwr=>∃j:Nat,a<=j/\j<=text.size/\Zf P text (text.size-j) j=Zf P text (text.size-a) a/\ScanAt w wr sb text j) (λwr=>text.size-(intOf ((wr.cell? ⟨sb,1,none⟩).getD .nilIface)).toNat)
  case atStart=>exact⟨a,Y0 _,ha,rfl,J.o⟩
  case round=>
   obtain⟨j,X,Y,Z,hS⟩:=hrel;have y:=hS.c0;have F:=hS.c1;have m:=lh hS;have O:=lh Z;clear hS Z c0 c1;by_cases U:j<text.size
   .obtain⟨B,hB⟩:=zX (P (Z5 text j))
    have HB:=lh hB;have I:=HL.o wr.drew (Z5 text j);rw[<-hB,Z53 U]at I;have I:=lh I;clear hB;cases B
    all_goals
     go_wp2_with fail
     refine Z7 [0,2,4,6,8,10,12,14,16,18,20,22,24,26,28,30,32,34,36,38,40] [21,22] (λW=>vC W sb 0 (.string text)/\vC W sb 1 (vI j)) ⟨y,F⟩ λ_=>?_;refine dS ?_
     iterate 21
      refine dq ?_
     refine Z1 ?_;go_wp2_with fail
     refine I.o.mono ?_;rintro e w1⟨rfl,rfl⟩
    .go_wp2_with fail
     refine Z7 [0,2,4,6,8,10,12,14,16] [9,10] (λW=>vC W sb 0 (.string text)/\vC W sb 1 (vI j)) ⟨y,F⟩ λ_=>?_;refine dS ?_
     iterate 9
      refine dq ?_
     refine Z1 ?_;go_wp2;go_ret;exact⟨j,by rw[<-O.o];exact(Z92 (.inr HB.o.symm)).symm,X,Y,rfl,m.o.drew.drew⟩
    .have z1:=m.o.fz 1;go_wp2;go_roundw
     case rel=>exact⟨j+1,by omega,by omega,by rw[<-Zew U HB.o.symm];exact O.o,m.o.drew.set (j+1)⟩
     case measure=>
      have e1:(wr.setCell ⟨sb,1,none⟩ (vI ((j:Int)+1))).cell? ⟨sb,1,none⟩=some (vI ((j:Int)+1)):=(m.o.set (j+1)).c1;have e2:=m.o.c1;rw[World.cell?_drew,e1,e2];simp[intOf];omega
   .go_wp2_with fail
    refine Z7 [0,2,4,6,8,10,12,14,16,18,20,22,24,26,28,30,32,34,36,38,40] [21,22] (λW=>vC W sb 0 (.string text)/\vC W sb 1 (vI j)) ⟨y,F⟩ λ_=>?_;refine dS ?_
    iterate 21
     refine dq ?_
    refine Z1 ?_;go_wp2_with fail
    refine Z7 [0,2,4,6,8,10,12,14,16] [9,10] (λW=>vC W sb 0 (.string text)/\vC W sb 1 (vI j)) ⟨y,F⟩ λ_=>?_;refine dS ?_
    iterate 9
     refine dq ?_
    refine Z1 ?_;go_wp2;go_ret;exact⟨j,by rw[<-O.o];exact(Z92 (.inl U)).symm,X,Y,rfl,m.o.drew.drew⟩
def Zm4(h:w.heap[sb]?=some (.cells #[.string text,vI a] 93 (0,0)))(g:a<=text.size)(m:text.size<=1000000) :
 kC 30 #[vP sb,.func (.func 31) #[] #[]] w λe w'=>∃b,b=Zf Zt text (text.size-a) a/\a<=b/\b<=text.size/\e=.returned (.string (text.extract a b))/\ScanAt w w' sb text b:=Zh8 (.inl ⟨rfl,rfl⟩) h g m
def Zpw(h:w.heap[sb]?=some (.cells #[.string text,vI a] 93 (0,0)))(g:a<=text.size)(m:text.size<=1000000) :
 kC 30 #[vP sb,.func (.func 33) #[] #[]] w λe w'=>∃b,b=Zf wV text (text.size-a) a/\a<=b/\b<=text.size/\e=.returned (.string (text.extract a b))/\ScanAt w w' sb text b:=Zh8 (.inr (.inl ⟨rfl,rfl⟩)) h g m
def Zm7(h:w.heap[sb]?=some (.cells #[.string text,vI a] 93 (0,0)))(g:a<=text.size)(m:text.size<=1000000) :
 kC 30 #[vP sb,.func (.func 34) #[] #[]] w λe w'=>∃b,b=Zf mI text (text.size-a) a/\a<=b/\b<=text.size/\e=.returned (.string (text.extract a b))/\ScanAt w w' sb text b:=Zh8 (.inr (.inr ⟨rfl,rfl⟩)) h g m
theorem Tryz.sizeBuilder:(Tryz.prog.info? 157).map (·.size)=some 2:=by kernel_rfl
theorem Tryz.liesBuilder:liesAt Tryz.prog Tryz.prog.depth 157 (2/Tryz.prog.cellsOf 157) 0 157 1=true:=by kernel_rfl
def Zb6(w:kV)(b:Nat)(p:vC w b 0 (.pointer none))(g:w.shape? b=some (157,2))(u:w.frozen? ⟨b,0,none⟩=false) :
 kC 105 #[vP b] w λe w'=>e=.returned (.tuple #[])/\w'=w.setCell ⟨b,0,none⟩ (vP b):=by
 obtain⟨j,m,o⟩:=Option.map_eq_some_iff.1 Tryz.sizeBuilder;go_enter func105,ntmps105
 go_wp2;rw[Lib.run_to_unsafe w ⟨b,0,none⟩ underlying155 underlying109 m (by rw[o];decide) g (Nat.zero_lt_succ 1)];simp only[Result.andThen];rw[Oper.upon_value];go_wp2;rw[run_callFunc_extern func128 Qh Qh Qh (e:=Extern.AbiNoEscape.same) Qh];rw[Lib.run_noEscape];simp only[Result.andThen];rw[Oper.upon_value];go_wp2;rw[Lib.run_from_unsafe w ⟨b,0,none⟩ underlying109 underlying155 m g Tryz.liesBuilder];simp only[Result.andThen];rw[Oper.upon_value];go_wp2;go_end0
 exact⟨rfl,rfl⟩
def Zbn(w:kV)(b:Nat)(m:vC w b 0 (vP b)) :
 kC 105 #[vP b] w λe w'=>e=.returned (.tuple #[])/\w'=w:=by
 obtain⟨j,g,_⟩:=Option.map_eq_some_iff.1 Tryz.sizeBuilder;go_enter func105,ntmps105
 go_wp2;rw[Lib.run_neq_ptr_same w _ underlying155 g];go_wp2;go_end0
 exact⟨rfl,rfl⟩
structure BAt(B:Nat)(w:kV)(b:Nat)(p v:Value)(bs:List Value):Prop where
 blk:w.heap[b]?=some (.cells #[p,v] 157 (0,0))
 ptr:p=.pointer none\/p=(vP b)
 own:w.ownsRow B 5 1 v bs.length bs
 ne:v.ownBlock≠some b
 le:B<=b
theorem UV:(Tryz.prog.info? 5).map (λi=>(i.zero,i.size,i.bytes))=some (some (.int .u8 0),1,1):=by kernel_rfl
structure BFr(w w':kV)(b:Nat)(v v':Value):Prop where
 os:w'.os=w.os
 tape:w'.tape=w.tape
 output:w'.output=w.output
 size:w.heap.size<=w'.heap.size
 block:∀k,k<w.heap.size->k≠b->v.ownBlock≠some k->w'.heap[k]?=w.heap[k]?
 row:v'.ownBlock=v.ownBlock\/∃g,v'.ownBlock=some g/\w.heap.size<=g
def Zbk(B:Nat)(w:kV)(b:Nat)(v:Value)(m:List Value)(c:Int)(h:BAt B w b (vP b) v m)(hn:m.length<1099511627776) :
 kC 69 #[vP b,.int .u8 c] w λe w'=>e=.returned .nilIface/\∃F,BAt B w' b (vP b) F (m++[.int .u8 c])/\BFr w w' b v F:=by
 obtain⟨i0,hi,aC,bj,bJ⟩:=info_parts UV;have gR:b<w.heap.size:=(Y1.1 h.blk).1;have I:w.cell? ⟨b,0,none⟩=some (vP b):=RO
 have h1:w.cell? ⟨b,1,none⟩=some v:=RO
 have hz:w.frozen? ⟨b,1,none⟩=false:=by simp[World.frozen?,h.blk]
 obtain⟨HC,J,HB⟩:=ds (Zbn w b I) h.own h;have O:=h.ne;have Ig:=h.le;have tB:=lh O;obtain⟨n,p⟩:=zX m.length
 rw[<-p]at J hn;have pP:=lh p;clear h O p I;have U:∀o (w1:kV),(w.alloc o).grownBy w1 v.ownBlock->vC w1 b 1 v/\w1.frozen? ⟨b,1,none⟩=false:=λo w1 X=>
  ⟨(X.cell_far ⟨b,1,none⟩ Qi (λe=>tB.o e.symm)).trans ((Zb gR).trans h1),(X.frozen_far ⟨b,1,none⟩ Qi (λe=>tB.o e.symm)).trans ((TT gR).trans hz)⟩
 have HA:=lh U;clear U;go_enter func69,ntmps69
 go_wp2_with fail
 refine HC.o.mono ?_;rintro e w1⟨rfl,rfl⟩
 go_wp2_with (at_builtin;go_must (refine wpList_append_lies _ rfl (.tmp 11) (.tmp 13) 30 rfl B 5 i0 (.int .u8 0) 1 1 underlying30 hi aC bj bJ rfl Qg v n m rfl (J.o.alloc _) ⟨w1.heap.size,0,none⟩ 1 1 [.int .u8 c] rfl rfl (λj u hu=>cell_one_new w1 _ _ j u hu) Qp Qn Qj Qn Qn (w1.heap.size+1) Qm ?_);intro g cap w2 Y y Z fI;obtain⟨jE,tI⟩:=HA.o _ _ y;have HG:=lh y;have HW:=lh Y;have HT:=lh Z;clear y Y Z fI)
 go_ret;refine⟨rfl,.slice (some ⟨g,0,none⟩) (n+1) cap,?_,?_⟩;·exact AbD
 .refine⟨HG.o.os,HG.o.tape,HG.o.output,by rw[Yf];have :=HG.o.size;rw[World.size_alloc]at this;omega,λk hk nG xQ=>?_,?_⟩;·exact(Y8 _ _ _ _ nG).trans ((HG.o.block k Qi (λe=>xQ e.symm)).trans (Below.heap_alloc _ _ _ hk))
  .rcases HT.o with h|h;·exact .inl h.symm
   .exact .inr ⟨g,rfl,by omega⟩
def Z9v(B:Nat)(w:kV)(b:Nat)(v:Value)(p:List Value)(c:Int)(m:BAt B w b (.pointer none) v p)(hn:p.length<1099511627776) :
 kC 69 #[vP b,.int .u8 c] w λe w'=>e=.returned .nilIface/\∃X,BAt B w' b (vP b) X (p++[.int .u8 c])/\BFr w w' b v X:=by
 obtain⟨i0,hi,aC,bj,bJ⟩:=info_parts UV;have Y:w.cell? ⟨b,0,none⟩=some (.pointer none):=by simp[vC,World.cell?,m.blk]
 have Z:w.frozen? ⟨b,0,none⟩=false:=by simp[World.frozen?,m.blk]
 have HC:=lh (Zb6 w b Y (by simp[World.shape?,m.blk]) Z);have h:BAt B (w.setCell ⟨b,0,none⟩ (vP b)) b (vP b) v p:=
  ⟨Zk _ m.blk,.inr rfl,Z3 m.own λg F=>Y8 _ _ _ _ (λe=>m.ne (by rw[F];exact congrArg some e)),m.ne,m.le⟩
 have I:∀k,k≠b->(w.setCell ⟨b,0,none⟩ (vP b)).heap[k]?=w.heap[k]?:=λk hk=>Y8 _ _ _ _ hk;have I:=lh I;have ba:(w.setCell ⟨b,0,none⟩ (vP b)).heap.size=w.heap.size:=Yf ..;have y:=lh ba;have vj:(w.setCell ⟨b,0,none⟩ (vP b)).os=w.os/\(w.setCell ⟨b,0,none⟩ (vP b)).tape=w.tape/\(w.setCell ⟨b,0,none⟩ (vP b)).output=w.output:=⟨rfl,rfl,rfl⟩
 have J:=lh vj;clear m Y Z ba vj;obtain⟨w1,dU⟩:=zX (w.setCell ⟨b,0,none⟩ (vP b))
 rw[<-dU]at HC h I y J;have gR:b<w1.heap.size:=(Y1.1 h.blk).1;have h1:w1.cell? ⟨b,1,none⟩=some v:=RO
 have hz:w1.frozen? ⟨b,1,none⟩=false:=by simp[World.frozen?,h.blk]
 have HO:=lh h.own;have HB:=lh h;have aH:=h.ne;have Ig:=h.le;have tB:=lh aH;obtain⟨n,O⟩:=zX p.length
 rw[<-O]at HO hn;have pP:=lh O;clear h aH O dU;have gT:∀o (w2:kV),(w1.alloc o).grownBy w2 v.ownBlock->vC w2 b 1 v/\w2.frozen? ⟨b,1,none⟩=false:=λo w2 F=>
  ⟨(F.cell_far ⟨b,1,none⟩ Qi (λe=>tB.o e.symm)).trans ((Zb gR).trans h1),(F.frozen_far ⟨b,1,none⟩ Qi (λe=>tB.o e.symm)).trans ((TT gR).trans hz)⟩
 have HA:=lh gT;clear gT;go_enter func69,ntmps69
 go_wp2_with fail
 refine HC.o.mono ?_;rintro e LV⟨rfl,hw⟩;rw[hw];clear hw LV
 go_wp2_with (at_builtin;go_must (refine wpList_append_lies _ rfl (.tmp 11) (.tmp 13) 30 rfl B 5 i0 (.int .u8 0) 1 1 underlying30 hi aC bj bJ rfl Qg v n p rfl (HO.o.alloc _) ⟨w1.heap.size,0,none⟩ 1 1 [.int .u8 c] rfl rfl (λj u hu=>cell_one_new w1 _ _ j u hu) Qp Qn Qj Qn Qn (w1.heap.size+1) Qm ?_);intro g cap w2 aK U cf fI;obtain⟨jE,tI⟩:=HA.o _ _ U;have HG:=lh U;have HW:=lh aK;have HT:=lh cf;clear U aK cf fI)
 go_ret;refine⟨rfl,.slice (some ⟨g,0,none⟩) (n+1) cap,?_,?_⟩;·exact AbD
 .refine⟨HG.o.os.trans J.o.1,HG.o.tape.trans J.o.2.1,HG.o.output.trans J.o.2.2,by rw[Yf];have :=HG.o.size;rw[World.size_alloc,y.o]at this;omega,λk hk nG xQ=>?_,?_⟩;·exact(Y8 _ _ _ _ nG).trans ((HG.o.block k (by simp;have :=y.o;omega) (λe=>xQ e.symm)).trans ((Below.heap_alloc _ _ _ (by have :=y.o;omega)).trans (I.o k nG)))
  .rcases HT.o with h|h;·exact .inl h.symm
   .exact .inr ⟨g,rfl,by have:=y.o;omega⟩
end Go.Proofs.YtkjdnecemhilpaaGreatDoor
namespace Go.Proofs
open Go.Shelf
def Tryz.lays170_ren:Go.Shelf.Ren:=⟨fun|170=>67|n=>n,fun|70=>155|3=>3|0=>0|72=>157|37=>30|5=>5|n=>n,fun|n=>n⟩
def Tryz.lays170:Go.Proofs.Lays.n170 Tryz.prog Tryz.lays170_ren:={
 mixed:=by kernel_rfl
 f170:=Tryz.func67.trans (congrArg some (by kernel_rfl))
 t0:=Tryz.underlying0
 a0:=Tryz.isAgg0
 z0:=Tryz.sizeOf0
 v0:=Tryz.zeroValue0
 t3:=Tryz.underlying3
 a3:=Tryz.isAgg3
 z3:=Tryz.sizeOf3
 v3:=Tryz.zeroValue3
 t37:=Tryz.underlying30
 a37:=Tryz.isAgg30
 z37:=Tryz.sizeOf30
 v37:=Tryz.zeroValue30
 t70:=Tryz.underlying155
 a70:=Tryz.isAgg155
 z70:=Tryz.sizeOf155
 v70:=Tryz.zeroValue155
 t72:=Tryz.underlying157
 a72:=Tryz.isAgg157
 z72:=Tryz.sizeOf157
 v72:=Tryz.zeroValue157}
open Go.RowKit in
theorem Tryz.Builder_Len(B b:Nat)(g:List Value)(w:World)(h:Lib.IsBuilder 157 5 B b g w) :
 Calls Tryz.prog 67 #[.pointer (some ⟨b,0,none⟩)] w λe w'=>e=.returned (.int .i64 g.length)/\w'=w:=Any.Builder_Len Tryz.lays170 B b g w h
def Tryz.lays169_ren:Go.Shelf.Ren:=⟨fun|169=>68|n=>n,fun|70=>155|9=>9|0=>0|72=>157|37=>30|127=>195|3=>3|5=>5|n=>n,fun|n=>n⟩
def Tryz.lays169:Go.Proofs.Lays.n169 Tryz.prog Tryz.lays169_ren:={
 mixed:=by kernel_rfl
 f169:=Tryz.func68.trans (congrArg some (by kernel_rfl))
 t0:=Tryz.underlying0
 a0:=Tryz.isAgg0
 z0:=Tryz.sizeOf0
 v0:=Tryz.zeroValue0
 t3:=Tryz.underlying3
 a3:=Tryz.isAgg3
 z3:=Tryz.sizeOf3
 v3:=Tryz.zeroValue3
 t9:=Tryz.underlying9
 a9:=Tryz.isAgg9
 z9:=Tryz.sizeOf9
 v9:=Tryz.zeroValue9
 t37:=Tryz.underlying30
 a37:=Tryz.isAgg30
 z37:=Tryz.sizeOf30
 v37:=Tryz.zeroValue30
 t70:=Tryz.underlying155
 a70:=Tryz.isAgg155
 z70:=Tryz.sizeOf155
 v70:=Tryz.zeroValue155
 t72:=Tryz.underlying157
 a72:=Tryz.isAgg157
 z72:=Tryz.sizeOf157
 v72:=Tryz.zeroValue157
 t127:=Tryz.underlying195
 a127:=Tryz.isAgg195
 z127:=Tryz.sizeOf195
 v127:=Tryz.zeroValue195}
def Tryz.Builder_Extra_169:Builder.Extra Tryz.prog Tryz.lays169_ren:={
 sizeBuilder:=by kernel_rfl
 liesBuilder:=by kernel_rfl
 t5:=Tryz.underlying5
 a5:=Tryz.isAgg5
 z5:=Tryz.sizeOf5
 v5:=Tryz.zeroValue5
 infoByte:=by kernel_rfl
 cellsByte:=by kernel_rfl
 sizeByte:=by kernel_rfl
 neB5:=by decide}
open Go.RowKit in
theorem Tryz.Builder_String_any(B b:Nat)(l:List UInt8)(w:World)(h:Lib.IsBuilder 157 5 B b (Lib.byteCells l) w)(g:B<=w.heap.size) :
 Calls Tryz.prog 68 #[.pointer (some ⟨b,0,none⟩)] w λe w'=>e=.returned (.string ⟨l.toArray⟩)/\Below B w w':=Any.Builder_String_any Tryz.lays169 Tryz.Builder_Extra_169 B b l w h g
end Go.Proofs
namespace Go.Proofs.YtkjdnecemhilpaaGreatDoor
open Go Go.RowKit Go.Proofs.Tryz Tryz
def BAt.is{B:Nat}{w:kV}{b:Nat}{p v:Value}{g:List Value}(h:BAt B w b p v g):Lib.IsBuilder 157 5 B b g w:=by
 obtain⟨hb,hp,ho,hn,hl⟩:=h;rcases hp with rfl|rfl;·exact .inl ⟨hl,v,hb,ho,hn⟩
 .exact .inr ⟨hl,v,hb,ho,hn⟩
def Zuc{B:Nat}{w:kV}{b:Nat}{p v:Value}{g:List Value}(h:BAt B w b p v g) :
 kC 67 #[vP b] w λe w'=>e=.returned (vI g.length)/\w'=w:=Tryz.Builder_Len B b g w h.is
def Zju{B:Nat}{w:kV}{b:Nat}{p v:Value}(l:List UInt8)(h:BAt B w b p v (Lib.byteCells l))(g:B<=w.heap.size) :
 kC 68 #[vP b] w λe w'=>e=.returned (.string ⟨l.toArray⟩)/\Below B w w':=Tryz.Builder_String_any B b l w h.is g
def Va(c:Int):Option UInt8:=if c=110 then some 10 else if c=39 then some 39 else if c=92 then some 92 else none
def Zy (text:kB):Nat→Nat→List UInt8→List UInt8×Int×Nat
 |0,i,_=>([],3,i)
 |f+1,i,g=>
   if text.size<=i\/Z5 text i=10 then([],3,i)
   else if Z5 text i=39 then(if 500<g.length then([],4,i+1)else(g,0,i+1))
   else if Z5 text i=92 then
    (if i + 1 < text.size then
     match Va (Z5 text (i+1))with
     |some e=>Zy text f (i+2) (g++[e])
     |none=>([],3,i+1)
    else([],3,i+1))
   else Zy text f (i+1) (g++[text.data.getD i 0])
def CP(text:kB)(i:Nat):List UInt8×Int×Nat:=Zy text (text.size+1-i) i []
end Go.Proofs.YtkjdnecemhilpaaGreatDoor
namespace Go.Proofs
def Tryz.lays110_ren:Go.Shelf.Ren:=⟨fun|110=>66|109=>104|n=>n,fun|31=>37|9=>9|4=>4|3=>3|0=>0|n=>n,fun|n=>n⟩
def Tryz.lays110:Go.Proofs.Lays.n110 Tryz.prog Tryz.lays110_ren:={
 mixed:=by kernel_rfl
 f109:=Tryz.func104.trans (congrArg some (by kernel_rfl))
 f110:=Tryz.func66.trans (congrArg some (by kernel_rfl))
 t0:=Tryz.underlying0
 a0:=Tryz.isAgg0
 z0:=Tryz.sizeOf0
 v0:=Tryz.zeroValue0
 t3:=Tryz.underlying3
 a3:=Tryz.isAgg3
 z3:=Tryz.sizeOf3
 v3:=Tryz.zeroValue3
 t4:=Tryz.underlying4
 a4:=Tryz.isAgg4
 z4:=Tryz.sizeOf4
 v4:=Tryz.zeroValue4
 t9:=Tryz.underlying9
 a9:=Tryz.isAgg9
 z9:=Tryz.sizeOf9
 v9:=Tryz.zeroValue9
 t31:=Tryz.underlying37
 a31:=Tryz.isAgg37
 z31:=Tryz.sizeOf37
 v31:=Tryz.zeroValue37}
open Go.Lib in
theorem Tryz.slices_Contains_string(b off n c:Nat)(g:List ByteArray)(x:ByteArray)(w:World)(m:n<=g.length)(o:n<=9223372036854775807)(hc:∀j,j<g.length->w.cell? ⟨b,off+j,none⟩=some (.string (g.getD j ByteArray.empty))) :
 Calls Tryz.prog 66 #[.slice (some ⟨b,off,none⟩) n c,.string x] w λe w'=>e=.returned (.bool (Lib.containsS (g.take n) x))/\w'=w:=Any.slices_Contains_string Tryz.lays110 b off n c g x w m o hc
end Go.Proofs
namespace Go.Proofs.YtkjdnecemhilpaaGreatDoor
open Go Go.RowKit Go.Proofs.Tryz Tryz
def WO:List kB:=match(Rows.laid_sloppyscope_lex_wordList:DataW Unit)with
 | .agg l => l.map fun
   | .lit (.string g)=>⟨g.toArray⟩
   |_=>⟨#[]⟩
 |_=>[]
theorem Z8w:WO.length=19:=by kernel_rfl
def Uk(s:kB):Bool:=Lib.containsS WO s
def Words(w:kV):Prop:=∀j,j<19->w.cell? ⟨2,j,none⟩=some (.string (WO.getD j ByteArray.empty))
def Zjq(w:kV)(s:kB)(g:Words w) :
 kC 35 #[.string s] w λe w'=>e=.returned (.bool (Uk s))/\w'=w:=by
 have HC:=Tryz.slices_Contains_string 2 0 19 19 WO s w (by rw[Z8w];omega) Qe (λj m=>by rw[Nat.zero_add];exact g j (by rw[Z8w]at m;exact m));rw[show WO.take 19=WO by rw[<-Z8w];exact List.take_length]at HC;have HC:=lh HC;clear g;unfold Uk;generalize Lib.containsS WO s=B at HC ⊢;go_enter func35,ntmps35
 exact Lu
structure Tok where
 kind:Int
 text:kB
 n:Int
 at':Nat
def kY(text:kB)(k:Nat):Nat->Nat->Int->Int
 |0,_,n=>n
 |f+1,i,n=>if i<k then kY text k f (i+1) (10*n+(Z5 text i-48))else n
def Zp(text:kB)(j:Nat):Nat:=
 if Z5 text j=61/\Z5 text (j+1)=61/\Z5 text (j+2)=61 then 3
 else if Z5 text j=38/\Z5 text (j+1)=38 then 2
 else if Z5 text j=124/\Z5 text (j+1)=124 then 2
 else 1
def Uo(c:Int):Bool:=c==40||c==41||c==123||c==125||c==91||c==93||c==59||c==58||c==44||c==46||c==61||c==43||c==45||c==42||c==60||c==33
def j4(text:kB)(j:Nat):Except (Int×Nat) (Tok×Nat):=
 if uK (Z5 text j)then
  let k:=Zf wV text (text.size-j) j
  if Uk (text.extract j k)then .ok (⟨2,text.extract j k,0,j⟩,k)
  else if 20<k-j then .error (4,j)
  else .ok (⟨1,text.extract j k,0,j⟩,k)
 else if mI (Z5 text j)then
  let k:=Zf mI text (text.size-j) j
  if 10<k-j\/(1<k-j/\Z5 text j=48)then .error (3,j)
  else if 1000000000<kY text k (k-j) j 0 then .error (2,j)
  else .ok (⟨3,ByteArray.empty,kY text k (k-j) j 0,j⟩,k)
 else if Z5 text j=39 then
  if(CP text (j+1)).2.1=4 then .error (4,j)
  else if(CP text (j+1)).2.1≠0 then .error (3,(CP text (j+1)).2.2)
  else .ok (⟨4,⟨(CP text (j+1)).1.toArray⟩,0,j⟩,(CP text (j+1)).2.2)
 else if Zp text j=1/\Uo (Z5 text j)=false then .error (3,j)
 else .ok (⟨5,text.extract j (j+Zp text j),0,j⟩,j+Zp text j)
def sZ (text:kB):Nat→Nat→List Tok→Except (Int×Nat) (List Tok)
 |0,_,g=>.ok g
 |f+1,i,g=>
   let j:=Zf Zt text (text.size-i) i
   if text.size<=j then .ok (g++[⟨6,ByteArray.empty,0,j⟩])
   else match j4 text j with
    | .error e=>.error e
    | .ok (t,k)=>sZ text f k (g++[t])
def Vd(text:kB):Except (Int×Nat) (List Tok):=sZ text (text.size+1) 0 []
def Z4c{text:kB}{i:Nat}(h:text.size<=i):Z5 text i=0:=by
 have g:¬i<text.data.size:=by change¬i<text.size;omega
 unfold Z5 Array.getD;rw[dif_neg g];rfl
def Z5e{text:kB}{i:Nat}(h:Z5 text i≠0):i<text.size:=by
 rcases Nat.lt_or_ge i text.size with g|g;·exact g
 .exact absurd (Z4c g) h
def getD_extract(text:kB){j k i:Nat}(h:i<k-j)(hk:k<=text.size):(text.extract j k).data.getD i 0=text.data.getD (j+i) 0:=by
 have g:j+i<text.data.size:=by change _<text.size;omega
 have m:i<(text.extract j k).data.size:=by
  change i<(text.extract j k).size;rw[ByteArray.size_extract];omega
 simp only[Array.getD,dif_pos m,dif_pos g];simp[ByteArray.data_extract]
def Zi(text:kB){j k i:Nat}(h:i<k-j)(hk:k<=text.size):Z5 (text.extract j k) i=Z5 text (j+i):=by
 unfold Z5;rw[getD_extract text h hk]
def UJ(text:kB){j k:Nat}(hk:k<=text.size):(text.extract j k).size=k-j:=by
 rw[ByteArray.size_extract];omega
def Zv(p:Int->Bool)(text:kB):∀(f i:Nat),text.size-i<=f->i<=text.size->
 i<=Zf p text f i/\Zf p text f i<=text.size/\(∀m,i<=m->m<Zf p text f i->p (Z5 text m)=true)/\(Zf p text f i<text.size->p (Z5 text (Zf p text f i))=false):=by
 intro f;induction f with
 |zero=>intro i h hi;simp only[Zf];exact⟨Y0 _,hi,λm o g=>by omega,λu=>by omega⟩
 |succ f y=>
   intro i h hi;simp only[Zf];by_cases hc:i<text.size/\p (Z5 text i)=true
   .rw[Y5 (by simp[hc.1,hc.2])];obtain⟨o,g,F,I⟩:=y (i+1) Qe Qe;refine⟨by omega,g,λm O J=>?_,I⟩;by_cases e:m=i;·rw[e];exact hc.2
    .exact F m Qe J
   .rw[Y3 (by simpa using hc)];refine⟨Y0 _,hi,λm o g=>by omega,λu=>?_⟩;simpa[u]using hc
def Z3o(p:Int->Bool)(text:kB):∀(f i k:Nat),text.size-i<=f->i<=k->k<=text.size->(∀m,i<=m->m<k->p (Z5 text m)=true)->(k<text.size->p (Z5 text k)=false)->Zf p text f i=k:=by
 intro f;induction f with
 |zero=>intro i k h y g _ _;simp only[Zf];omega
 |succ f F=>
   intro i k h y g o u;simp only[Zf];by_cases e:i=k
   .subst e;rw[Y3];simp only[Bool.and_eq_true,decide_eq_true_eq,not_and,Bool.not_eq_true];exact u
   .rw[Y5 (by simp[o i (Nat.le_refl _) Qe];omega)];exact F (i+1) k Qe Qe g (λm a b=>o m Qe b) u
def Za4(p:Int->Bool)(text:kB){j k:Nat}(I:j<text.size)(hk:Zf p text (text.size-j) j=k) :
 Zf p (text.extract j k) ((text.extract j k).size-0) 0=k-j:=by
 obtain⟨u,g,o,y⟩:=Zv p text (text.size-j) j (Y0 _) Qe;rw[hk]at u g o y;have hs:=UJ text (j:=j) g;refine Z3o p _ _ _ _ Qe Qe Qe (λm _ F=>?_) (λh=>by omega);rw[Zi text F g];exact o _ Qe Qe
def Zqu(text:kB){j k:Nat}(hk:k<=text.size):∀(f i:Nat) (n:Int),j<=i->kY (text.extract j k) (k-j) f (i-j) n=kY text k f i n:=by
 intro f;induction f with
 |zero=>intro i n _;rfl
 |succ f g=>
   intro i n hi;simp only[kY];by_cases h:i<k
   .rw[Y5 Qe,Y5 h,Zi text Qe hk,show j+(i-j)=i by omega,show i-j+1=i+1-j by omega];exact g (i+1) _ Qe
   .rw[Y3 Qe,Y3 h]
def Zgf (text:kB) {j:Nat}:∀ (f i:Nat) (y p:List UInt8) (k:Nat),j≤i→Zy text f i y=(p,0,k) →
 i<k/\k<=text.size/\Z5 text (k-1)=39/\∀m,k-i<=m->Zy (text.extract j k) m (i-j) y=(p,0,k-j):=by
 intro f;induction f with
 |zero=>intro i y p k _ h;simp[Zy]at h
 |succ f U=>
   intro i y p k hj h;simp only[Zy]at h;by_cases I:text.size<=i\/Z5 text i=10;·rw[Y5 I]at h;simp at h
   rw[Y3 I]at h;simp only[not_or,Nat.not_le]at I;by_cases u:Z5 text i=39
   .rw[Y5 u]at h;by_cases o:500<y.length;·rw[Y5 o]at h;simp at h
    rw[Y3 o]at h;simp only[Prod.mk.injEq,true_and]at h;obtain⟨rfl,rfl⟩:=h;refine⟨by omega,by omega,by simpa using u,λm hf=>?_⟩;obtain⟨g,rfl⟩:∃g,m=g+1:=⟨m-1,by omega⟩
    have hb:Z5 (text.extract j (i+1)) (i-j)=Z5 text i:=by
     exact Zsw
    have hs:=UJ text (j:=j) (k:=i+1) Qe;simp only[Zy,hb,hs];rw[Y3 Qe,Y5 u,Y3 o,show i-j+1=i+1-j by omega]
   rw[Y3 u]at h;by_cases o:Z5 text i=92
   ·rw [Y5 o] at h;by_cases X : i + 1 < text.size
    ·rw [Y5 X] at h;cases he : Va (Z5 text (i + 1)) with
     |none=>rw[he]at h;simp at h
     |some e=>
       rw[he]at h;simp only at h;obtain⟨Y,F,J,O⟩:=U (i+2) _ p k Qe h;refine⟨by omega,F,J,λm hf=>?_⟩;obtain⟨g,rfl⟩:∃g,m=g+1:=⟨m-1,by omega⟩
       have hb:Z5 (text.extract j k) (i-j)=Z5 text i:=by
        exact Zsw
       have Z:Z5 (text.extract j k) (i-j+1)=Z5 text (i+1):=by
        rw[Zi text Qe Qe,show j+(i-j+1)=i+1 by omega]
       have hs:=UJ text (j:=j) (k:=k) F;simp only[Zy,hb,hs,Z];rw[Y3 Qe,Y3 u,Y5 o,Y5 Qe,he];simp only;rw[show i-j+2=i+2-j by omega];exact O g Qe
    .rw[Y3 X]at h;simp at h
   .rw[Y3 o]at h;obtain⟨Y,F,J,O⟩:=U (i+1) _ p k Qe h;refine⟨by omega,F,J,λm hf=>?_⟩;obtain⟨g,rfl⟩:∃g,m=g+1:=⟨m-1,by omega⟩
    have hb:Z5 (text.extract j k) (i-j)=Z5 text i:=by
     exact Zsw
    have hd:(text.extract j k).data.getD (i-j) 0=text.data.getD i 0:=by
     rw[getD_extract text Qe Qe,show j+(i-j)=i by omega]
    have hs:=UJ text (j:=j) (k:=k) F;simp only[Zy,hb,hs,hd];rw[Y3 Qe,Y3 u,Y3 o,show i-j+1=i+1-j by omega];exact O g Qe
def ZB{c:Int}(h:wV c=true):Zt c=false:=by
 unfold wV uK mI at h;unfold Zt;simp only[Bool.or_eq_true,Bool.and_eq_true,decide_eq_true_eq]at h;simp only[Bool.or_eq_false_iff,decide_eq_false_iff_not];omega
theorem Z7l{c:Int}(h:uK c=true):wV c=true:=by simp[wV,h]
theorem Z8o{c:Int}(h:mI c=true):wV c=true:=by simp[wV,h]
def Zqj{c:Int}(h:Uo c=true):c≠0/\Zt c=false:=by
 simp only[Uo,Bool.or_eq_true,beq_iff_eq]at h;simp only[Zt,Bool.or_eq_false_iff,decide_eq_false_iff_not];omega
theorem extract_all(b:kB)(n:Nat)(h:n=b.size):b.extract 0 n=b:=by subst h;simp
def Zgm(text:kB)(j:Nat)(h:Zp text j=1->Uo (Z5 text j)=true) :
 1 ≤ Zp text j ∧ j + Zp text j ≤ text.size ∧ (∀ m, j ≤ m → m < j + Zp text j → Zt (Z5 text m) = false) ∧ Zp (text.extract j (j + Zp text j)) 0 = Zp text j ∧
   (Zp text j=1->Z5 (text.extract j (j+Zp text j)) 0=Z5 text j)/\Z5 (text.extract j (j+Zp text j)) 0=Z5 text j:=by
 by_cases p:Z5 text j=61/\Z5 text (j+1)=61/\Z5 text (j+2)=61
 .have e:Zp text j=3:=by simp[Zp,p]
  rw[e];have hl:=Z5e (text:=text) (i:=j+2) Qe;have b0:=Zi text (j:=j) (k:=j+3) (i:=0) Qe Qe;have b1:=Zi text (j:=j) (k:=j+3) (i:=1) Qe Qe;have b2:=Zi text (j:=j) (k:=j+3) (i:=2) Qe Qe;refine⟨by omega,by omega,λm g o=>?_,?_,λ_=>by rw[b0,Nat.add_zero],by rw[b0,Nat.add_zero]⟩
  .have :m=j\/m=j+1\/m=j+2:=by omega
   rcases this with rfl|rfl|rfl<;>simp[Zt,p]
  .unfold Zp;rw[show 0+1=1 by rfl,show 0+2=2 by rfl,b0,b1,b2,Nat.add_zero,Y5 p]
 .by_cases o:Z5 text j=38/\Z5 text (j+1)=38
  .have e:Zp text j=2:=by simp[Zp,o]
   rw[e];refine Zw3 ?_;intro hl b0 b1;refine⟨by omega,by omega,λm g u=>?_,?_,λ_=>by rw[b0,Nat.add_zero],by rw[b0,Nat.add_zero]⟩
   .have :m=j\/m=j+1:=by omega
    rcases this with rfl|rfl<;>simp[Zt,o]
   .unfold Zp;rw[show 0+1=1 by rfl,show 0+2=2 by rfl,b0,b1,Nat.add_zero,Y3 Qe,Y5 o]
  .by_cases g:Z5 text j=124/\Z5 text (j+1)=124
   .have e:Zp text j=2:=by simp[Zp,g]
    rw[e];refine Zw3 ?_;intro hl b0 b1;refine⟨by omega,by omega,λm y u=>?_,?_,λ_=>by rw[b0,Nat.add_zero],by rw[b0,Nat.add_zero]⟩
    .have :m=j\/m=j+1:=by omega
     rcases this with rfl|rfl<;>simp[Zt,g]
    .unfold Zp;rw[show 0+1=1 by rfl,show 0+2=2 by rfl,b0,b1,Nat.add_zero,Y3 Qe,Y3 Qe,Y5 g]
   .have e:Zp text j=1:=by simp[Zp,p,o,g]
    have hs:=h e;rw[e];have hp:=Zqj hs;have hl:=Z5e hp.1;have b0:=Zi text (j:=j) (k:=j+1) (i:=0) Qe Qe;have b1:=Z4c (text:=text.extract j (j+1)) (i:=1) (by rw[UJ text Qe];omega);refine⟨by omega,by omega,λm y u=>?_,?_,λ_=>by rw[b0,Nat.add_zero],by rw[b0,Nat.add_zero]⟩
    .obtain rfl:m=j:=by omega
     exact hp.2
    .unfold Zp;rw[show 0+1=1 by rfl,show 0+2=2 by rfl,b1,Y3 Qe,Y3 Qe,Y3 Qe]
def Xe(text:kB){j k:Nat}{t:Tok}(Z:j<text.size)(h:j4 text j=.ok (t,k)) :
 j < k ∧ k ≤ text.size ∧ t.at' = j ∧ t.kind ≠ 6 ∧ Zt (Z5 text j) = false ∧ Zt (Z5 text (k - 1)) = false ∧
   j4 (text.extract j k) 0=.ok ({t with at':=0},k-j):=by
 unfold j4 at h;by_cases hl:uK (Z5 text j)=true
 .rw[Y5 hl]at h;simp only at h;obtain⟨K,m⟩:∃K,Zf wV text (text.size-j) j=K:=⟨_,rfl⟩
  rw[m]at h;obtain⟨s1,s2,p,s4⟩:=Zv wV text (text.size-j) j (Y0 _) Qe;have u:=Za4 wV text Z m;rw[m]at s1 s2 p s4;have y:j<K:=by
   exact Zwz
  have g:Z5 (text.extract j K) 0=Z5 text j:=RX
  have F:=ZB (p (K-1) Qe Qe);have I:(text.extract j K).extract 0 (K-j)=text.extract j K:=extract_all _ _ (UJ text s2).symm;by_cases hw:Uk (text.extract j K)=true
  .rw[Y5 hw]at h;simp only[Except.ok.injEq,Prod.mk.injEq]at h;obtain⟨rfl,rfl⟩:=h;refine⟨y,s2,rfl,by simp,ZB (Z7l hl),F,?_⟩;unfold j4;rw[g,Y5 hl];simp only[u,I];rw[Y5 hw]
  .rw[Y3 hw]at h;by_cases zh:20<K-j;·rw[Y5 zh]at h;cases h
   .rw[Y3 zh]at h;simp only[Except.ok.injEq,Prod.mk.injEq]at h;obtain⟨rfl,rfl⟩:=h;refine⟨y,s2,rfl,by simp,ZB (Z7l hl),F,?_⟩;unfold j4;rw[g,Y5 hl];simp only[u,I];rw[Y3 hw,Y3 Qe]
 rw[Y3 hl]at h;by_cases hd:mI (Z5 text j)=true
 .rw[Y5 hd]at h;simp only at h;obtain⟨K,m⟩:∃K,Zf mI text (text.size-j) j=K:=⟨_,rfl⟩
  rw[m]at h;obtain⟨s1,s2,p,s4⟩:=Zv mI text (text.size-j) j (Y0 _) Qe;have u:=Za4 mI text Z m;rw[m]at s1 s2 p s4;have y:j<K:=by
   rcases Nat.lt_or_ge j K with h'|h';·exact h'
   .have:=s4 Qe;rw[show K=j by omega,hd]at this;cases this
  have g:Z5 (text.extract j K) 0=Z5 text j:=RX
  have F:=ZB (Z8o (p (K-1) Qe Qe));have p7:=Zqu text (j:=j) s2 (K-j) j 0 (Y0 _);rw[Nat.sub_self]at p7;by_cases U:10<K-j\/(1<K-j/\Z5 text j=48);·rw[Y5 U]at h;cases h
  rw[Y3 U]at h;by_cases X:1000000000<kY text K (K-j) j 0;·rw[Y5 X]at h;cases h
  rw[Y3 X]at h;simp only[Except.ok.injEq,Prod.mk.injEq]at h;obtain⟨rfl,rfl⟩:=h;refine⟨y,s2,rfl,by simp,ZB (Z8o hd),F,?_⟩;unfold j4;rw[g,Y3 hl,Y5 hd];simp only[u];simp only[Nat.sub_zero,p7];rw[Y3 U,Y3 X]
 rw[Y3 hd]at h;by_cases hq:Z5 text j=39
 .rw[Y5 hq]at h;obtain⟨⟨bs,e,K⟩,hR⟩:∃R,R=CP text (j+1):=⟨_,rfl⟩
  rw[<-hR]at h;simp only at h;by_cases h4:e=4;·rw[Y5 h4]at h;cases h
  rw[Y3 h4]at h;by_cases J:e≠0;·rw[Y5 J]at h;cases h
  rw[Y3 J]at h;simp only[ne_eq,Decidable.not_not]at J;subst J;simp only[Except.ok.injEq,Prod.mk.injEq]at h;obtain⟨rfl,rfl⟩:=h;obtain⟨g1,o,O,Y⟩:=Zgf text (j:=j) _ _ _ _ _ Qe hR.symm;refine⟨by omega,o,rfl,by simp,by rw[hq];rfl,by rw[O];rfl,?_⟩;have g:Z5 (text.extract j K) 0=Z5 text j:=by rw[Zi text Qe o,Nat.add_zero]
  have D':CP (text.extract j K) (0+1)=(bs,0,K-j):=by
   have:=Y ((text.extract j K).size+1-(0+1)) (by rw[UJ text o];omega);rw[show j+1-j=0+1 by omega]at this;exact this
  unfold j4;rw[g,Y3 hl,Y3 hd,Y5 hq,D'];simp
 rw[Y3 hq]at h;by_cases hs:Zp text j=1/\Uo (Z5 text j)=false;·rw[Y5 hs]at h;cases h
 rw[Y3 hs]at h;simp only[Except.ok.injEq,Prod.mk.injEq]at h;obtain⟨rfl,rfl⟩:=h;obtain⟨g1,o,O,Y,g5,g6⟩:=Zgm text j (λe=>by
  cases hb:Uo (Z5 text j)with
  |true=>rfl
  |false=>exact absurd ⟨e,hb⟩ hs)
 refine⟨by omega,o,rfl,by simp,O j (Y0 _) Qe,O _ Qe Qe,?_⟩;have I:(text.extract j (j+Zp text j)).extract 0 (0+Zp text j)=text.extract j (j+Zp text j):=extract_all _ _ (by rw[UJ text o];omega);unfold j4;rw[g6,Y3 hl,Y3 hd,Y3 hq,Y,Y3 hs,I];simp
def S3(text:kB):Nat->List Tok->Prop
 |_,[]=>False
 |i,[t]=>text.size<=Zf Zt text (text.size-i) i/\t=⟨6,ByteArray.empty,0,Zf Zt text (text.size-i) i⟩
 |i,t::u::l=>∃k,Zf Zt text (text.size-i) i<text.size/\j4 text (Zf Zt text (text.size-i) i)=.ok (t,k)/\S3 text k (u::l)
def Zki(text:kB):∀(f i:Nat) (g l:List Tok),i<=text.size->text.size-i<f->sZ text f i g=.ok l->∃r,l=g++r/\S3 text i r:=by
 intro f;induction f with
 |zero=>intro i g l _ y;omega
 |succ f p=>
   intro i g l hi hf h;simp only[sZ]at h;obtain⟨s1,F,_,_⟩:=Zv Zt text (text.size-i) i (Y0 _) hi;by_cases m:text.size<=Zf Zt text (text.size-i) i
   .rw[Y5 m]at h;simp only[Except.ok.injEq]at h;exact⟨_,h.symm,m,rfl⟩
   .rw[Y3 m]at h;cases ht:j4 text (Zf Zt text (text.size-i) i)with
    |error e=>rw[ht]at h;cases h
    |ok x=>
      obtain⟨t,k⟩:=x;rw[ht]at h;simp only at h;obtain⟨c1,c2,_,_,_,_,_⟩:=Xe text Qe ht;obtain⟨r,hr,o⟩:=p k _ l c2 Qe h;refine⟨t::r,by simp[hr],?_⟩;cases r with
      |nil=>exact o.elim
      |cons u r=>exact⟨k,by omega,ht,o⟩
def Zlw(text:kB):∀(r:List Tok) (f i:Nat) (m:List Tok),i<=text.size->text.size-i<f->S3 text i r->sZ text f i m=.ok (m++r):=by
 intro r;induction r with
 |nil=>intro f i m _ _ h;exact h.elim
 |cons t r y=>
   intro f i m hi hf h;obtain⟨g,rfl⟩:∃g,f=g+1:=⟨f-1,by omega⟩
   obtain⟨s1,I,_,_⟩:=Zv Zt text (text.size-i) i (Y0 _) hi;simp only[sZ];cases r with
   |nil=>obtain⟨p,o⟩:=h;rw[Y5 p,o]
   |cons u r=>
     obtain⟨k,p,o,F⟩:=h;rw[Y3 Qe,o];simp only;obtain⟨c1,c2,_,_,_,_,_⟩:=Xe text p o;rw[y g k _ c2 Qe F];simp
def Z66{text:kB}{l:List Tok}(h:Vd text=.ok l):S3 text 0 l:=by
 obtain⟨r,hr,g⟩:=Zki text _ 0 [] l (Yh _) Qe h;rw[hr];exact g
inductive Tree
 |mk(kind:Int)(text:kB)(n:Int)(kids:List Tree)
def Tree.kind:Tree->Int| .mk k _ _ _=>k
def Tree.text:Tree->kB| .mk _ t _ _=>t
def Tree.n:Tree->Int| .mk _ _ n _=>n
def Tree.kids:Tree->List Tree| .mk _ _ _ l=>l
abbrev PR:=Option (Except (Int×Nat) (Tree×List Tok))
def al(ts:List Tok):Tok:=ts.headD ⟨6,ByteArray.empty,0,0⟩
def ad(s:kB)(ts:List Tok):Bool:=(decide ((al ts).kind=5)||decide ((al ts).kind=2))&&Zh (al ts).text s
def r'(e:Int)(ts:List Tok):PR:=some (.error (e,(al ts).at'))
def fH(t:Tree)(ts:List Tok):PR:=some (.ok (t,ts))
def iE(s:kB)(ts:List Tok)(k:List Tok->PR):PR:=if ad s ts then k ts.tail else r' 3 ts
def tK(ts:List Tok)(k:kB->List Tok->PR):PR:=if(al ts).kind=1 then k (al ts).text ts.tail else r' 3 ts
def Zn(p:PR)(k:Tree->List Tok->PR):PR:=match p with|none=>none|some (.error e)=>some (.error e)|some (.ok (t,ts))=>k t ts
def Ay:kB:=⟨#[123]⟩
def Zr:kB:=⟨#[125]⟩
def tO:kB:=⟨#[40]⟩
def tQ:kB:=⟨#[41]⟩
def Dz:kB:=⟨#[59]⟩
def tV:kB:=⟨#[44]⟩
def Xj:kB:=⟨#[58]⟩
def Yz:kB:=⟨#[46]⟩
def kv:kB:=⟨#[61]⟩
def Vk:kB:=⟨#[118,97,114]⟩
def VB:kB:=⟨#[108,101,116]⟩
def VA:kB:=⟨#[99,111,110,115,116]⟩
def IJ:kB:=⟨#[102,117,110,99,116,105,111,110]⟩
def B':kB:=⟨#[105,102]⟩
def Ub:kB:=⟨#[101,108,115,101]⟩
def Vl:kB:=⟨#[119,104,105,108,101]⟩
def Vy:kB:=⟨#[119,105,116,104]⟩
def Vs:kB:=⟨#[114,101,116,117,114,110]⟩
def Vo:kB:=⟨#[116,104,114,111,119]⟩
def Vv:kB:=⟨#[116,114,121]⟩
def IL:kB:=⟨#[99,97,116,99,104]⟩
def Zl:kB:=⟨#[102,105,110,97,108,108,121]⟩
def SJ:kB:=⟨#[33]⟩
def SX:kB:=⟨#[116,121,112,101,111,102]⟩
def Tt:kB:=⟨#[100,101,108,101,116,101]⟩
def Tj:kB:=⟨#[116,114,117,101]⟩
def TY:kB:=⟨#[102,97,108,115,101]⟩
def Um:kB:=⟨#[110,117,108,108]⟩
def UI:kB:=⟨#[117,110,100,101,102,105,110,101,100]⟩
def Ez:kB:=⟨#[124,124]⟩
def VG:kB:=⟨#[38,38]⟩
def V3:kB:=⟨#[61,61,61]⟩
def Ws:kB:=⟨#[60]⟩
def Vi:kB:=⟨#[43]⟩
def VM:kB:=⟨#[45]⟩
def WN:kB:=⟨#[42]⟩
def Xx:kB:=⟨#[117,115,101,32,115,116,114,105,99,116]⟩
def LA:kB:=⟨#[115,116,114,105,99,116]⟩
def Tx(l:List Tree):Bool:=
 match l with
 | .mk k _ _ (x::_)::_=>decide (k=15)&&decide (x.kind=18)&&Zh x.text Xx
 |_=>false
def xN(g:Nat)(ts:List Tok):Int:=
 match g with
 |0=>if ad Ez ts then 25 else 0
 |1=>if ad VG ts then 26 else 0
 |2=>if ad V3 ts then 27 else 0
 |3=>if ad Ws ts then 28 else 0
 |4=>if ad Vi ts then 29 else if ad VM ts then 30 else 0
 |5=>if ad WN ts then 31 else 0
 |_=>0
def zg(ts:List Tok):Int:=if ad SJ ts then 32 else if ad SX ts then 33 else if ad Tt ts then 34 else 0
def AJ(ts:List Tok):Int:=if ad Tj ts then 19 else if ad TY ts then 20 else if ad Um ts then 21 else if ad UI ts then 22 else 0
inductive Job
 |stmts(kind:Int)(aj:List Tree)
 |block(body:Bool)
 |func(kind:Int)(text:kB)
 |params(aj:List Tree)
 |around
 |stmt
 |decl(kind:Int)(fg:Bool)
 |try_
 |value
 |assign
 |bin(aF:Nat)
 |binLoop(aF:Nat)(x:Tree)
 |unary
 |postfix_
 |postLoop(x:Tree)
 |args(aj:List Tree)
 |primary
 |object(aj:List Tree)
def po(n:Tree)(ts:List Tok):PR:=iE Dz ts λts=>fH n ts
def qH(d:Nat)(ts:List Tok)(p:PR):PR:=if 30<d+1 then r' 4 ts else p
def Z0:Nat→Job→Nat→List Tok→PR
 |0,_,_,_=>none
 |f+1,.stmts kind g,d,ts=>
   if(if kind=1 then decide ((al ts).kind=6)else ad Zr ts)then fH (.mk kind (if Tx g then LA else ByteArray.empty) 0 g) ts
   else Zn (qH d ts (Z0 f .stmt (d+1) ts)) λx ts=>Z0 f (.stmts kind (g++[x])) d ts
 |f+1,.block body,d,ts=>
   iE Ay ts λts=>Zn (Z0 f (.stmts 6 []) d ts) λx ts=>iE Zr ts λts=>fH (if body then x else .mk 6 ByteArray.empty 0 x.kids) ts
 |f+1,.func kind text,d,ts=>
   iE tO ts λts=>Zn (Z0 f (.params []) d ts) λp ts=>iE tQ ts λts=>Zn (Z0 f (.block true) d ts) λb ts=>fH (.mk kind text 0 [p,b]) ts
 |f+1,.params g,d,ts=>
   if ad tQ ts then fH (.mk 40 ByteArray.empty 0 g) ts
   else(if 0<g.length then iE tV ts else λk=>k ts) λts=>
    if g.length=8 then r' 4 ts else tK ts λs ts=>Z0 f (.params (g++[.mk 23 s 0 []])) d ts
 |f+1,.around,d,ts=>
   iE tO ts λts=>Zn (Z0 f .value d ts) λx ts=>iE tQ ts λts=>fH x ts
 |f+1,.stmt,d,ts=>
   if ad Ay ts then Z0 f (.block false) d ts
   else if ad Dz ts then fH (.mk 16 ByteArray.empty 0 []) ts.tail
   else if ad Vk ts then Zn (Z0 f (.decl 2 false) d ts.tail) po
   else if ad VB ts then Zn (Z0 f (.decl 3 false) d ts.tail) po
   else if ad VA ts then Zn (Z0 f (.decl 4 true) d ts.tail) po
   else if ad IJ ts then tK ts.tail λs ts=>Z0 f (.func 5 s) d ts
   else if ad B' ts then
    Zn (Z0 f .around d ts.tail) λx ts=>Zn (qH d ts (Z0 f .stmt (d+1) ts)) λy ts=>
     if ad Ub ts then Zn (qH d ts.tail (Z0 f .stmt (d+1) ts.tail)) λz ts=>fH (.mk 7 ByteArray.empty 0 [x,y,z]) ts
     else fH (.mk 7 ByteArray.empty 0 [x,y]) ts
   else if ad Vl ts then
    Zn (Z0 f .around d ts.tail) λx ts=>Zn (qH d ts (Z0 f .stmt (d+1) ts)) λy ts=>fH (.mk 8 ByteArray.empty 0 [x,y]) ts
   else if ad Vy ts then
    Zn (Z0 f .around d ts.tail) λx ts=>Zn (qH d ts (Z0 f .stmt (d+1) ts)) λy ts=>fH (.mk 9 ByteArray.empty 0 [x,y]) ts
   else if ad Vs ts then
    if ad Dz ts.tail then po (.mk 10 ByteArray.empty 0 []) ts.tail
    else Zn (Z0 f .value d ts.tail) λx ts=>po (.mk 10 ByteArray.empty 0 [x]) ts
   else if ad Vo ts then Zn (Z0 f .value d ts.tail) λx ts=>po (.mk 11 ByteArray.empty 0 [x]) ts
   else if ad Vv ts then Z0 f .try_ d ts.tail
   else Zn (Z0 f .value d ts) λx ts=>po (.mk 15 ByteArray.empty 0 [x]) ts
 |f+1,.decl kind o,d,ts=>
   tK ts λs ts=>
    if o&& !ad kv ts then r' 3 ts
    else if ad kv ts then Zn (Z0 f .value d ts.tail) λx ts=>fH (.mk kind s 0 [x]) ts
    else fH (.mk kind s 0 []) ts
 |f+1,.try_,d,ts=>
   Zn (Z0 f (.block false) d ts) λb ts=>
    (fun (k : List Tree → List Tok → PR) =>
     if ad IL ts then iE tO ts.tail λts=>tK ts λs ts=>iE tQ ts λts=>Zn (Z0 f (.block false) d ts) λc ts=>k [b,.mk 13 s 0 [c]] ts
     else k [b] ts) λl ts=>
    if ad Zl ts then Zn (Z0 f (.block false) d ts.tail) λc ts=>fH (.mk 12 ByteArray.empty 0 (l++[.mk 14 ByteArray.empty 0 [c]])) ts
    else if l.length=1 then r' 3 ts else fH (.mk 12 ByteArray.empty 0 l) ts
 |f+1,.value,d,ts=>qH d ts (Z0 f .assign (d+1) ts)
 |f+1,.assign,d,ts=>
   Zn (Z0 f (.bin 0) d ts) λx ts'=>
    if ad kv ts' then
     if x.kind=23\/x.kind=36 then Zn (Z0 f .value d ts'.tail) λy ts=>fH (.mk 24 ByteArray.empty 0 [x,y]) ts
     else some (.error (1,(al ts).at'))
    else fH x ts'
 |f+1,.bin m,d,ts=>
   if 6<=m then Z0 f .unary d ts
   else Zn (Z0 f (.bin (m+1)) d ts) λx ts=>Z0 f (.binLoop m x) d ts
 |f+1,.binLoop m x,d,ts=>
   if xN m ts=0 then fH x ts
   else Zn (Z0 f (.bin (m+1)) d ts.tail) λy ts'=>Z0 f (.binLoop m (.mk (xN m ts) ByteArray.empty 0 [x,y])) d ts'
 |f+1,.unary,d,ts=>
   if zg ts=0 then Z0 f .postfix_ d ts
   else Zn (qH d ts.tail (Z0 f .unary (d+1) ts.tail)) λx ts'=>fH (.mk (zg ts) ByteArray.empty 0 [x]) ts'
 |f+1,.postfix_,d,ts=>Zn (Z0 f .primary d ts) λx ts=>Z0 f (.postLoop x) d ts
 |f+1,.postLoop x,d,ts=>
   if ad Yz ts then tK ts.tail λs ts=>Z0 f (.postLoop (.mk 36 s 0 [x])) d ts
   else if ad tO ts then Zn (Z0 f (.args [x]) d ts.tail) λn ts=>Z0 f (.postLoop n) d ts
   else fH x ts
 |f+1,.args g,d,ts=>
   if ad tQ ts then fH (.mk 35 ByteArray.empty 0 g) ts.tail
   else(if 1<g.length then iE tV ts else λk=>k ts) λts=>
    if 8<g.length then r' 4 ts else Zn (Z0 f .value d ts) λv ts=>Z0 f (.args (g++[v])) d ts
 |f+1,.primary,d,ts=>
   if(al ts).kind=1 then fH (.mk 23 (al ts).text 0 []) ts.tail
   else if(al ts).kind=3 then fH (.mk 17 ByteArray.empty (al ts).n []) ts.tail
   else if(al ts).kind=4 then fH (.mk 18 (al ts).text 0 []) ts.tail
   else if AJ ts≠0 then fH (.mk (AJ ts) ByteArray.empty 0 []) ts.tail
   else if ad tO ts then Z0 f .around d ts
   else if ad IJ ts then
    if(al ts.tail).kind=1 then Z0 f (.func 37 (al ts.tail).text) d ts.tail.tail
    else Z0 f (.func 37 ByteArray.empty) d ts.tail
   else if ad Ay ts then Z0 f (.object []) d ts.tail
   else r' 3 ts
 |f+1,.object g,d,ts=>
   if ad Zr ts then fH (.mk 38 ByteArray.empty 0 g) ts.tail
   else(if 0<g.length then iE tV ts else λk=>k ts) λts=>
    if g.length=8 then r' 4 ts
    else tK ts λs ts=>iE Xj ts λts=>Zn (Z0 f .value d ts) λv ts=>Z0 f (.object (g++[.mk 39 s 0 [v]])) d ts
mutual
def Tree.many:Tree->Nat
 | .mk _ _ _ l=>mO l+1
def mO:List Tree->Nat
 | []=>0
 |t::l=>t.many+mO l
end
def Zo{s:kB}{ts:List Tok}(h:ad s ts=true):ts.tail.length<ts.length:=by
 cases ts with
 |nil=>simp[ad,al]at h
 |cons t l=>simp
theorem Zz(ts:List Tok):ts.tail.length<=ts.length:=by cases ts<;>simp
def Z6g{ts:List Tok}(h:(al ts).kind≠6):ts.tail.length<ts.length:=by
 cases ts with
 |nil=>simp[al]at h
 |cons t l=>simp
def Leaves(n:Nat)(p:PR):Prop:=∀t ts,p=some (.ok (t,ts))->ts.length<n
theorem Leaves.fail{n:Nat}{e:Int}{ts:List Tok}:Leaves n (r' e ts):=by intro t ts' h;cases h
theorem Leaves.none{n:Nat}:Leaves n none:=by intro t ts' h;cases h
theorem Leaves.err{n:Nat}{e:Int×Nat}:Leaves n (some (.error e)):=by intro t ts' h;cases h
def Leaves.ok{n:Nat}{t:Tree}{ts:List Tok}(h:ts.length<n):Leaves n (fH t ts):=by
 refine Zok ?_;intro t' ts' h';rw[<-h'.2];exact h
def Leaves.bind{n m:Nat}{p:PR}{k:Tree->List Tok->PR}(hp:Leaves m p)(hk:∀t ts,ts.length<m->Leaves n (k t ts)):Leaves n (Zn p k):=by
 cases p with
 |none=>exact Leaves.none
 |some r=>
   cases r with
   |error e=>exact Leaves.err
   |ok x=>obtain⟨t,ts⟩:=x;exact hk t ts (hp t ts rfl)
def Leaves.want{n:Nat}{s:kB}{ts:List Tok}{k:List Tok->PR}(hk:ts.tail.length<ts.length->Leaves n (k ts.tail)):Leaves n (iE s ts k):=by
 unfold iE;by_cases h:ad s ts=true;·rw[Y5 h];exact hk (Zo h)
 .rw[Y3 h];exact Leaves.fail
def Leaves.name{n:Nat}{ts:List Tok}{k:kB->List Tok->PR}(hk:∀s,ts.tail.length<ts.length->Leaves n (k s ts.tail)):Leaves n (tK ts k):=by
 unfold tK;by_cases h:(al ts).kind=1;·exact Zrm
 .rw[Y3 h];exact Leaves.fail
def Leaves.within{n d:Nat}{ts:List Tok}{p:PR}(h:Leaves n p):Leaves n (qH d ts p):=by
 unfold qH;by_cases g:30<d+1;·rw[Y5 g];exact Leaves.fail
 .rw[Y3 g];exact h
def Leaves.ite{n:Nat}{c:Prop} [Decidable c]{p q:PR}(hp:c->Leaves n p)(hq:¬c->Leaves n q):Leaves n (if c then p else q):=by
 exact TB
def Leaves.comma{n:Nat}{c:Prop} [Decidable c]{ts:List Tok}{k:List Tok->PR}(hk:∀ts',ts'.length<=ts.length->Leaves n (k ts')):Leaves n ((if c then iE tV ts else λk=>k ts) k):=by
 by_cases h:c;·rw[Y5 h];exact Leaves.want λg=>hk _ Qe
 .rw[Y3 h];exact hk _ (Y0 _)
def Job.least:Job->Nat
 | .stmts ..=>1
 | .params ..=>1
 | .binLoop ..=>1
 | .postLoop ..=>1
 |_=>0
def Ts:∀(f:Nat) (o:Job) (d:Nat) (ts:List Tok),Leaves (ts.length+o.least) (Z0 f o d ts):=by
 intro f;induction f with
 |zero=>intro o d ts;unfold Z0;exact Leaves.none
 |succ f g=>
   intro o d ts;have m:∀{n:Nat} {o:Job} (d:Nat) (ts:List Tok),ts.length+o.least<=n->Leaves n (Z0 f o d ts):=λd ts h t ts' e=>Y7 (g _ d ts t ts' e) h;cases o with
   |stmts kind u=>
     unfold Z0;refine Leaves.ite (λ_=>Leaves.ok QT) λ_=>?_;exact Leaves.bind (Leaves.within (g .stmt _ _)) λt ts' h=>m _ _ Qo
   |block body=>
     unfold Z0;refine Leaves.want λh=>?_;refine Leaves.bind (g (.stmts 6 []) _ _) λt ts' I=>?_;refine Leaves.want λU=>Leaves.ok ?_;simp only[Job.least]at *;omega
   |func kind text=>
     unfold Z0;refine Leaves.want λh=>Leaves.bind (g (.params []) _ _) λt ts' I=>Leaves.want λh2=>Leaves.bind (g (.block true) _ _) λt ts' h3=>Leaves.ok ?_;simp only[Job.least]at *;omega
   |params u=>
     unfold Z0;refine Leaves.ite (λ_=>Leaves.ok QT) λ_=>?_;refine Leaves.comma λts' h=>Leaves.ite (λ_=>Leaves.fail) λ_=>Leaves.name λs h2=>m _ _ ?_;simp only[Job.least]at *;omega
   |around=>
     unfold Z0;refine Leaves.want λh=>Leaves.bind (g .value _ _) λt ts' I=>Leaves.want λh2=>Leaves.ok ?_;simp only[Job.least]at *;omega
   |stmt=>
     unfold Z0;have p:∀(n:Tree) (us:List Tok),us.length<=ts.length->Leaves (ts.length+Job.stmt.least) (po n us):=λn us h=>Leaves.want λh2=>Leaves.ok Qo;have J:=Zz ts;refine Leaves.ite (λh=>m _ _ QT) λ_=>?_;refine Leaves.ite (λh=>Leaves.ok QZ) λ_=>?_;refine Leaves.ite (λh=>Leaves.bind (g (.decl 2 false) _ _) λt us h2=>p _ _ Qo) λ_=>?_
     refine Leaves.ite (λh=>Leaves.bind (g (.decl 3 false) _ _) λt us h2=>p _ _ Qo) λ_=>?_;refine Leaves.ite (λh=>Leaves.bind (g (.decl 4 true) _ _) λt us h2=>p _ _ Qo) λ_=>?_;refine Leaves.ite (λh=>Leaves.name λs h2=>m _ _ Qo) λ_=>?_
     refine Leaves.ite (λh=>Leaves.bind (g .around _ _) λt us h2=>Leaves.bind (Leaves.within (g .stmt _ _)) λt vs h3=>Leaves.ite (λh4=>Leaves.bind (Leaves.within (g .stmt _ _)) λt O h5=>Leaves.ok (by have:=Zz vs;simp only[Job.least]at *;omega)) (λ_=>Leaves.ok Qo)) λ_=>?_;refine Leaves.ite (λh=>Leaves.bind (g .around _ _) λt us h2=>Leaves.bind (Leaves.within (g .stmt _ _)) λt vs h3=>Leaves.ok Qo) λ_=>?_
     refine Leaves.ite (λh=>Leaves.bind (g .around _ _) λt us h2=>Leaves.bind (Leaves.within (g .stmt _ _)) λt vs h3=>Leaves.ok Qo) λ_=>?_;refine Leaves.ite (λh=>Leaves.ite (λh1=>p _ _ J) (λ_=>Leaves.bind (g .value _ _) λt us h2=>p _ _ Qo)) λ_=>?_;refine Leaves.ite (λh=>Leaves.bind (g .value _ _) λt us h2=>p _ _ Qo) λ_=>?_;refine Leaves.ite (λh=>m _ _ Qo) λ_=>?_
     exact Leaves.bind (g .value _ _) λt us h2=>p _ _ Qo
   |decl kind X=>
     unfold Z0;refine Leaves.name λs h=>Leaves.ite (λ_=>Leaves.fail) λ_=>Leaves.ite (λh2=>Leaves.bind (g .value _ _) λt us h3=>Leaves.ok ?_) λ_=>Leaves.ok ?_;·have:=Zz ts.tail;simp only[Job.least]at *;omega
     .simp only[Job.least]at *;omega
   |try_=>
     unfold Z0;refine Leaves.bind (g (.block false) _ _) λb us h=>?_;have hk:∀(l:List Tree) (vs:List Tok),vs.length<=us.length->Leaves (ts.length+Job.try_.least) (if ad Zl vs then Zn (Z0 f (.block false) d vs.tail) λc ts=>fH (.mk 12 ByteArray.empty 0 (l++[.mk 14 ByteArray.empty 0 [c]])) ts else if l.length=1 then r' 3 vs else fH (.mk 12 ByteArray.empty 0 l) vs):=by
      intro l vs h2;have:=Zz vs;refine Leaves.ite (λ_=>Leaves.bind (g (.block false) _ _) λt O h3=>Leaves.ok ?_) λ_=>Leaves.ite (λ_=>Leaves.fail) λ_=>Leaves.ok ?_;·simp only[Job.least]at *;omega
      .simp only[Job.least]at *;omega
     refine Leaves.ite (λh1=>?_) λ_=>hk _ _ (Y0 _);refine Leaves.want λh2=>Leaves.name λs h3=>Leaves.want λh4=>Leaves.bind (g (.block false) _ _) λc vs h5=>hk _ _ ?_;have:=Zz us;simp only[Job.least]at *;omega
   |value=>unfold Z0;exact Leaves.within (m _ _ QT)
   |assign=>
     unfold Z0;refine Leaves.bind (g (.bin 0) _ _) λx us h=>Leaves.ite (λh1=>Leaves.ite (λ_=>Leaves.bind (g .value _ _) λy vs h2=>Leaves.ok ?_) λ_=>Leaves.err) λ_=>Leaves.ok ?_;·have:=Zz us;simp only[Job.least]at *;omega
     .simp only[Job.least]at *;omega
   |bin F=>
     unfold Z0;refine Leaves.ite (λ_=>m _ _ QT) λ_=>Leaves.bind (g (.bin (F+1)) _ _) λx us h=>m _ _ ?_;simp only[Job.least]at *;omega
   |binLoop F x=>
     unfold Z0;refine Leaves.ite (λ_=>Leaves.ok QT) λ_=>Leaves.bind (g (.bin (F+1)) _ _) λy us h=>m _ _ ?_;have:=Zz ts;simp only[Job.least]at *;omega
   |unary=>
     unfold Z0;refine Leaves.ite (λ_=>m _ _ QT) λ_=>Leaves.bind (Leaves.within (g .unary _ _)) λy us h=>Leaves.ok ?_;have:=Zz ts;simp only[Job.least]at *;omega
   |postfix_=>
     unfold Z0;refine Leaves.bind (g .primary _ _) λy us h=>m _ _ ?_;simp only[Job.least]at *;omega
   |postLoop x=>
     unfold Z0;have:=Zz ts;refine Leaves.ite (λ_=>Leaves.name λs h=>m _ _ Qo) λ_=>Leaves.ite (λ_=>Leaves.bind (g (.args [x]) _ _) λy us h=>m _ _ Qo) λ_=>Leaves.ok QT
   |args u=>
     unfold Z0;refine Leaves.ite (λh=>Leaves.ok QZ) λ_=>Leaves.comma λus h=>Leaves.ite (λ_=>Leaves.fail) λ_=>Leaves.bind (g .value _ _) λy vs h2=>m _ _ Qo
   |primary=>
     unfold Z0;have:=Zz ts;have:=Zz ts.tail;refine Leaves.ite (λh=>Leaves.ok QH) λ_=>?_;refine Leaves.ite (λh=>Leaves.ok QH) λ_=>?_;refine Leaves.ite (λh=>Leaves.ok QH) λ_=>?_;refine Leaves.ite (λh=>Leaves.ok ?_) λ_=>?_
     .have:ts.tail.length<ts.length:=by
       exact AaA
      simp only[Job.least]at *;omega
     refine Leaves.ite (λ_=>m _ _ QT) λ_=>?_;refine Leaves.ite (λ_=>Leaves.ite (λ_=>m _ _ Qo) λ_=>m _ _ Qo) λ_=>?_;exact Leaves.ite (λ_=>m _ _ Qo) λ_=>Leaves.fail
   |object u=>
     unfold Z0;refine Leaves.ite (λh=>Leaves.ok QZ) λ_=>Leaves.comma λus h=>Leaves.ite (λ_=>Leaves.fail) λ_=>Leaves.name λs h1=>Leaves.want λh2=>Leaves.bind (g .value _ _) λy vs h2=>m _ _ Qo
def Job.rank:Job->Nat
 | .stmts ..=>30
 | .block _=>5
 | .func ..=>1
 | .params _=>1
 | .around=>1
 | .stmt=>20
 | .decl ..=>1
 | .try_=>6
 | .value=>19
 | .assign=>18
 | .bin g=>10+(6-g)
 | .binLoop ..=>31
 | .unary=>9
 | .postfix_=>8
 | .postLoop _=>31
 | .args _=>31
 | .primary=>7
 | .object _=>31
def Z8(p:PR):Prop:=p≠none
theorem Z8.fail{e:Int}{ts:List Tok}:Z8 (r' e ts):=by simp[Z8,r']
theorem Z8.ok{t:Tree}{ts:List Tok}:Z8 (fH t ts):=by simp[Z8,fH]
def Z8.bind{p:PR}{k:Tree->List Tok->PR}{n:Nat}(hp:Z8 p)(hl:Leaves n p)(hk:∀t ts,ts.length<n->Z8 (k t ts)):Z8 (Zn p k):=by
 cases p with
 |none=>exact absurd rfl hp
 |some r=>
   cases r with
   |error e=>simp[Z8,Zn]
   |ok x=>obtain⟨t,ts⟩:=x;exact hk t ts (hl t ts rfl)
def Z8.want{s:kB}{ts:List Tok}{k:List Tok->PR}(hk:ts.tail.length<ts.length->Z8 (k ts.tail)):Z8 (iE s ts k):=by
 unfold iE;by_cases h:ad s ts=true;·rw[Y5 h];exact hk (Zo h)
 .rw[Y3 h];exact Z8.fail
def Z8.name{ts:List Tok}{k:kB->List Tok->PR}(hk:∀s,ts.tail.length<ts.length->Z8 (k s ts.tail)):Z8 (tK ts k):=by
 unfold tK;by_cases h:(al ts).kind=1;·exact Zrm
 .rw[Y3 h];exact Z8.fail
def Z8.within{d:Nat}{ts:List Tok}{p:PR}(h:Z8 p):Z8 (qH d ts p):=by
 unfold qH;by_cases g:30<d+1;·rw[Y5 g];exact Z8.fail
 .rw[Y3 g];exact h
def Z8.ite{c:Prop} [Decidable c]{p q:PR}(hp:c->Z8 p)(hq:¬c->Z8 q):Z8 (if c then p else q):=by
 exact TB
def Z8.comma{c:Prop} [Decidable c]{ts:List Tok}{k:List Tok->PR}(hk:∀ts',ts'.length<=ts.length->Z8 (k ts')):Z8 ((if c then iE tV ts else λk=>k ts) k):=by
 by_cases h:c;·rw[Y5 h];exact Z8.want λg=>hk _ Qe
 .rw[Y3 h];exact hk _ (Y0 _)
def Zaz{ts:List Tok}(h:¬zg ts=0):ts.tail.length<ts.length:=by
 unfold zg at h;by_cases g:ad SJ ts=true;·exact Zo g
 .by_cases m:ad SX ts=true;·exact Zo m
  .by_cases o:ad Tt ts=true;·exact Zo o
   .simp[g,m,o]at h
def Z7j{o:Nat}{ts:List Tok}(h:¬xN o ts=0):ts.tail.length<ts.length:=by
 have g:∀{s:kB} {x y:Int},¬(if ad s ts then x else y)=0->¬y=0\/ts.tail.length<ts.length:=by
  intro s x y h;by_cases m:ad s ts=true;·exact .inr (Zo m)
  .rw[Y3 m]at h;exact .inl h
 unfold xN at h;split at h
 all_goals first
  |exact absurd rfl h
  |(rcases g h with h|h;(exact absurd rfl h);exact h)
  |(rcases g h with h|h;(rcases g h with h|h;(exact absurd rfl h);exact h);exact h)
def Zjm:∀(f:Nat) (m:Job) (d:Nat) (ts:List Tok),40*ts.length+m.rank<f->Z8 (Z0 f m d ts):=by
 intro f;induction f with
 |zero=>intro m d ts h;omega
 |succ f ih=>
   intro m d ts hf;have L:=Ts f;have O:=Zz ts;cases m with
   |stmts kind p=>
     unfold Z0;refine Z8.ite (λ_=>Z8.ok) λ_=>Z8.bind (n:=ts.length) (Z8.within (ih _ _ _ Ql)) (Leaves.within (L .stmt _ _)) λt us h=>ih _ _ _ Ql
   |block body=>
     exact Zxw
   |func kind text=>
     unfold Z0;refine Z8.want λh=>Z8.bind (ih _ _ _ Ql) (L (.params []) _ _) λt us h=>Z8.want λh2=>Z8.bind (ih _ _ _ Qs) (L _ _ _) λt us h=>Z8.ok
   |params p=>
     unfold Z0;refine Z8.ite (λ_=>Z8.ok) λ_=>Z8.comma λus h=>Z8.ite (λ_=>Z8.fail) λ_=>Z8.name λs h2=>ih _ _ _ Ql
   |around=>
     exact Zxw
   |stmt=>
     unfold Z0;have g:∀(n:Tree) (us:List Tok),Z8 (po n us):=λn us=>Z8.want λh2=>Z8.ok;refine Z8.ite (λh=>ih _ _ _ Ql) λ_=>?_;refine Z8.ite (λh=>Z8.ok) λ_=>?_;refine Z8.ite (λh=>Z8.bind (ih _ _ _ Ql) (L _ _ _) λt us h2=>g _ _) λ_=>?_;refine Z8.ite (λh=>Z8.bind (ih _ _ _ Ql) (L _ _ _) λt us h2=>g _ _) λ_=>?_
     refine Z8.ite (λh=>Z8.bind (ih _ _ _ Ql) (L _ _ _) λt us h2=>g _ _) λ_=>?_;refine Z8.ite (λh=>Z8.name λs h2=>ih _ _ _ Ql) λ_=>?_;refine Z8.ite (λh=>?_) λ_=>?_
     .have:=Zo h;refine Z8.bind (ih _ _ _ Ql) (L .around _ _) λt us h2=>?_;refine Z8.bind (Z8.within (ih _ _ _ Qs)) (Leaves.within (L .stmt _ _)) λt vs h3=>?_;have:=Zz vs;exact Z8.ite (λI=>Z8.bind (Z8.within (ih _ _ _ Qs)) (Leaves.within (L .stmt _ _)) λt J h5=>Z8.ok) λ_=>Z8.ok
     refine Z8.ite (λh=>?_) λ_=>?_;·exact Abb
     refine Z8.ite (λh=>?_) λ_=>?_;·exact Abb
     refine Z8.ite (λh=>Z8.ite (λu=>g _ _) λ_=>Z8.bind (ih _ _ _ Ql) (L _ _ _) λt us h2=>g _ _) λ_=>?_;refine Z8.ite (λh=>Z8.bind (ih _ _ _ Ql) (L _ _ _) λt us h2=>g _ _) λ_=>?_;refine Z8.ite (λh=>ih _ _ _ Ql) λ_=>?_;exact Z8.bind (ih _ _ _ Ql) (L _ _ _) λt us h2=>g _ _
   |decl kind U=>
     unfold Z0;refine Z8.name λs h=>Z8.ite (λ_=>Z8.fail) λ_=>Z8.ite (λh2=>Z8.bind (ih _ _ _ ?_) (L _ _ _) λt us h3=>Z8.ok) λ_=>Z8.ok;have:=Zz ts.tail;simp only[Job.rank]at *;omega
   |try_=>
     unfold Z0;refine Z8.bind (ih _ _ _ Ql) (L (.block false) _ _) λb us h=>?_;have hk:∀(l:List Tree) (vs:List Tok),vs.length<=us.length->Z8 (if ad Zl vs then Zn (Z0 f (.block false) d vs.tail) λc ts=>fH (.mk 12 ByteArray.empty 0 (l++[.mk 14 ByteArray.empty 0 [c]])) ts else if l.length=1 then r' 3 vs else fH (.mk 12 ByteArray.empty 0 l) vs):=by
      intro l vs h2;have:=Zz vs;exact Z8.ite (λ_=>Z8.bind (ih _ _ _ Qs) (L _ _ _) λt J h3=>Z8.ok) λ_=>Z8.ite (λ_=>Z8.fail) λ_=>Z8.ok
     refine Z8.ite (λu=>?_) λ_=>hk _ _ (Y0 _);have:=Zz us;refine Z8.want λh2=>Z8.name λs h3=>Z8.want λI=>Z8.bind (ih _ _ _ Qs) (L (.block false) _ _) λc vs h5=>hk _ _ ?_;simp only[Job.least]at *;omega
   |value=>unfold Z0;exact Z8.within (ih _ _ _ Ql)
   |assign=>
     unfold Z0;refine Z8.bind (ih _ _ _ Ql) (L (.bin 0) _ _) λx us h=>Z8.ite (λu=>Z8.ite (λ_=>Z8.bind (ih _ _ _ ?_) (L _ _ _) λy vs h2=>Z8.ok) λ_=>by simp[Z8]) λ_=>Z8.ok;have:=Zz us;simp only[Job.rank,Job.least]at *;omega
   |bin F=>
     unfold Z0;refine Z8.ite (λh=>ih _ _ _ Ql) λh=>Z8.bind (ih _ _ _ Ql) (L (.bin (F+1)) _ _) λx us h=>ih _ _ _ Qs
   |binLoop F x=>
     unfold Z0;refine Z8.ite (λ_=>Z8.ok) λo=>Z8.bind (ih _ _ _ ?_) (L (.bin (F+1)) _ _) λy us h=>ih _ _ _ ?_;·have:=Z7j o;simp only[Job.rank]at *;omega
     .have:=Z7j o;simp only[Job.rank,Job.least]at *;omega
   |unary=>
     unfold Z0;refine Z8.ite (λ_=>ih _ _ _ Ql) λo=>Z8.bind (Z8.within (ih _ _ _ ?_)) (Leaves.within (L _ _ _)) λy us h=>Z8.ok;have:=Zaz o;simp only[Job.rank]at *;omega
   |postfix_=>
     unfold Z0;exact Z8.bind (ih _ _ _ Ql) (L .primary _ _) λy us h=>ih _ _ _ Qs
   |postLoop x=>
     unfold Z0;refine Z8.ite (λh=>Z8.name λs h2=>ih _ _ _ Ql) λ_=>Z8.ite (λh=>?_) λ_=>Z8.ok;have:=Zo h;exact Z8.bind (ih _ _ _ Ql) (L (.args [x]) _ _) λy us h=>ih _ _ _ Qs
   |args p=>
     unfold Z0;exact Z8.ite (λh=>Z8.ok) λ_=>Z8.comma λus h=>Z8.ite (λ_=>Z8.fail) λ_=>Z8.bind (ih _ _ _ Ql) (L .value _ _) λy vs h2=>ih _ _ _ Qs
   |primary=>
     unfold Z0;have:=Zz ts.tail;refine Z8.ite (λ_=>Z8.ok) λ_=>Z8.ite (λ_=>Z8.ok) λ_=>Z8.ite (λ_=>Z8.ok) λ_=>Z8.ite (λ_=>Z8.ok) λ_=>?_;refine Z8.ite (λ_=>ih _ _ _ Ql) λ_=>?_;refine Z8.ite (λ_=>Z8.ite (λ_=>ih _ _ _ Ql) λ_=>ih _ _ _ Ql) λ_=>?_;exact Z8.ite (λh=>ih _ _ _ (by have:=Zo h;simp only[Job.rank]at *;omega)) λ_=>Z8.fail
   |object p=>
     unfold Z0;exact Z8.ite (λh=>Z8.ok) λ_=>Z8.comma λus h=>Z8.ite (λ_=>Z8.fail) λ_=>Z8.name λs u=>Z8.want λh2=>Z8.bind (ih _ _ _ Ql) (L .value _ _) λy vs h2=>ih _ _ _ Qs
def Zm (text:kB):Except (Int×Int) Tree:=
 if 3000<text.size then .error (4,-1)
 else match Vd text with
  | .error (e,p)=>.error (e,p)
  | .ok ts=>match Z0 (40*ts.length+31) (.stmts 1 []) 0 ts with
    |none=>.error (0,-2)
    |some (.error (e,p))=>.error (e,p)
    |some (.ok (t,_))=>if 1500<t.many then .error (4,-1)else .ok t
end Go.Proofs.YtkjdnecemhilpaaGreatDoor
namespace Go.Proofs
def Tryz.lays137_ren:Go.Shelf.Ren:=⟨fun|137=>38|217=>71|266=>106|n=>n,fun|9=>9|5=>5|3=>3|n=>n,fun|n=>n⟩
def Tryz.lays137:Go.Proofs.Lays.n137 Tryz.prog Tryz.lays137_ren:={
 mixed:=by kernel_rfl
 f137:=Tryz.func38.trans (congrArg some (by kernel_rfl))
 f217:=Tryz.func71.trans (congrArg some (by kernel_rfl))
 f266:=Tryz.func106.trans (congrArg some (by kernel_rfl))
 t3:=Tryz.underlying3
 a3:=Tryz.isAgg3
 z3:=Tryz.sizeOf3
 v3:=Tryz.zeroValue3
 t5:=Tryz.underlying5
 a5:=Tryz.isAgg5
 z5:=Tryz.sizeOf5
 v5:=Tryz.zeroValue5
 t9:=Tryz.underlying9
 a9:=Tryz.isAgg9
 z9:=Tryz.sizeOf9
 v9:=Tryz.zeroValue9}
open Go.RowKit in
theorem Tryz.strings_IndexByte(s:ByteArray)(c:Int)(w:World) :
 Calls Tryz.prog 38 #[.string s,.int .u8 c] w λe w'=>e=.returned (.int .i64 (Lib.indexByte s.data.toList c.toNat.toUInt8))/\w'=w:=Any.strings_IndexByte Tryz.lays137 s c w
end Go.Proofs
