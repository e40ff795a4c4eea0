/- strings.Builder at this dump: copyCheck (after the shelf's own text fo -/
import Derived.Test.YtjikfacdcdiddaaGreatDoorJ04
import Derived.Lib.Builder
import Derived.Deep.DeepMust
import Derived.Shelf.Strings.Builder1
import Derived.Shelf.Slices.Turned
import Derived.Test.YtjikfacdcdiddaaGreatDoorRows
import Derived.Shelf.Small.Strs
set_option linter.unusedSimpArgs false
set_option maxRecDepth 100000
set_option maxHeartbeats 20000000
namespace Go.Proofs.YtjikfacdcdiddaaGreatDoor
open Go Go.RowKit
theorem Tryz.sizeBuilder:(Tryz.prog.info? 186).map (·.size)=some 2:=by kernel_rfl
theorem Tryz.liesBuilder:liesAt Tryz.prog Tryz.prog.depth 186 (2/Tryz.prog.cellsOf 186) 0 186 1=true:=by kernel_rfl
theorem Z9t(w:World)(b:Nat)(p:vC w b 0 (.pointer none))(g:w.shape? b=some (186,2))(u:w.frozen? ⟨b,0,none⟩=false) :
 Calls Tryz.prog 124 #[vP b] w λe w'=>e=.returned (.tuple #[])∧w'=w.setCell ⟨b,0,none⟩ (vP b):=by
 obtain⟨j,m,o⟩:=Option.map_eq_some_iff.1 Tryz.sizeBuilder;go_enter Tryz.func124,Tryz.ntmps124
 go_wp2;rw[Lib.run_to_unsafe w ⟨b,0,none⟩ Tryz.underlying183 Tryz.underlying121 m (by rw[o];decide) g (Nat.zero_lt_succ 1)];simp only[Result.andThen];rw[Oper.upon_value];go_wp2;rw[run_callFunc_extern Tryz.func136 Pb Pb Pb (e:=Extern.AbiNoEscape.same) Pb];rw[Lib.run_noEscape];simp only[Result.andThen];rw[Oper.upon_value];go_wp2;rw[Lib.run_from_unsafe w ⟨b,0,none⟩ Tryz.underlying121 Tryz.underlying183 m g Tryz.liesBuilder];simp only[Result.andThen];rw[Oper.upon_value];go_wp2;go_end0
 exact⟨rfl,rfl⟩
theorem Zaq(w:World)(b:Nat)(m:vC w b 0 (vP b)) :
 Calls Tryz.prog 124 #[vP b] w λe w'=>e=.returned (.tuple #[])∧w'=w:=by
 obtain⟨j,g,_⟩:=Option.map_eq_some_iff.1 Tryz.sizeBuilder;go_enter Tryz.func124,Tryz.ntmps124
 go_wp2;rw[Lib.run_neq_ptr_same w _ Tryz.underlying183 g];go_wp2;go_end0
 exact⟨rfl,rfl⟩
structure BAt(B:Nat)(w:World)(b:Nat)(p v:Value)(bs:List Value):Prop where
 blk:w.heap[b]?=some (.cells #[p,v] 186 (0,0))
 ptr:p=.pointer none∨p=(vP b)
 own:w.ownsRow B 5 1 v bs.length bs
 ne:v.ownBlock≠some b
 le:B<=b
theorem Tryz.infoU8:(Tryz.prog.info? 5).map (λi=>(i.zero,i.size,i.bytes))=some (some (.int .u8 0),1,1):=by kernel_rfl
structure BFr(w w':World)(b:Nat)(v v':Value):Prop where
 os:w'.os=w.os
 tape:w'.tape=w.tape
 output:w'.output=w.output
 size:w.heap.size<=w'.heap.size
 block:∀k,k<w.heap.size->k≠b->v.ownBlock≠some k->w'.heap[k]?=w.heap[k]?
 row:v'.ownBlock=v.ownBlock∨∃g,v'.ownBlock=some g∧w.heap.size<=g
theorem Zay(B:Nat)(w:World)(b:Nat)(v:Value)(m:List Value)(c:Int)(h:BAt B w b (vP b) v m)(hn:m.length<1099511627776) :
 Calls Tryz.prog 91 #[vP b,.int .u8 c] w λe w'=>e=.returned .nilIface∧∃E,BAt B w' b (vP b) E (m++[.int .u8 c])∧BFr w w' b v E:=by
 obtain⟨i0,hi,Z,bo,bT⟩:=info_parts Tryz.infoU8;have iO:b<w.heap.size:=(Y1.1 h.blk).1;have F:vC w b 0 (vP b):=QN
 have h1:vC w b 1 v:=QN
 have hz:w.frozen? ⟨b,1,none⟩=false:=by simp[World.frozen?,h.blk]
 have HC:=lh (Zaq w b F);have I:=lh h.own;have HB:=lh h;have J:=h.ne;have GS:=h.le;have tv:=lh J;obtain⟨n,p⟩:=zX m.length
 rw[<-p]at I hn;have pH:=lh p;clear h J p F;have O:∀o (w1:World),(w.alloc o).grownBy w1 v.ownBlock->vC w1 b 1 v∧w1.frozen? ⟨b,1,none⟩=false:=λo w1 U=>
  ⟨(U.cell_far ⟨b,1,none⟩ Pe (λe=>tv.o e.symm)).trans ((Zb iO).trans h1),(U.frozen_far ⟨b,1,none⟩ Pe (λe=>tv.o e.symm)).trans ((RH iO).trans hz)⟩
 have HA:=lh O;clear O;go_enter Tryz.func91,Tryz.ntmps91
 go_wp2_with fail
 refine HC.o.mono ?_;rintro e w1⟨rfl,rfl⟩
 go_wp2_with (at_builtin;go_must (refine wpList_append_lies _ rfl (.tmp 11) (.tmp 13) 184 rfl B 5 i0 (.int .u8 0) 1 1 Tryz.underlying184 hi Z bo bT rfl Pa v n m rfl (I.o.alloc _) ⟨w1.heap.size,0,none⟩ 1 1 [.int .u8 c] rfl rfl (λj u hu=>cell_one_new w1 _ _ j u hu) Pj Ph Pc Ph Ph (w1.heap.size+1) Pg ?_);intro g cap w2 X y Y fO;obtain⟨jH,tE⟩:=HA.o _ _ y;have HG:=lh y;have HW:=lh X;have HT:=lh Y;clear y X Y fO)
 go_ret;refine⟨rfl,.slice (some ⟨g,0,none⟩) (n+1) cap,?_,?_⟩;·exact Xb
 .refine⟨HG.o.os,HG.o.tape,HG.o.output,by rw[Yf];have :=HG.o.size;rw[World.size_alloc]at this;omega,λk hk nA xz=>?_,?_⟩;·exact(Y8 _ _ _ _ nA).trans ((HG.o.block k Pe (λe=>xz e.symm)).trans (Below.heap_alloc _ _ _ hk))
  .rcases HT.o with h|h;·exact .inl h.symm
   .exact .inr ⟨g,rfl,by omega⟩
theorem Z9u(B:Nat)(w:World)(b:Nat)(v:Value)(p:List Value)(c:Int)(m:BAt B w b (.pointer none) v p)(hn:p.length<1099511627776) :
 Calls Tryz.prog 91 #[vP b,.int .u8 c] w λe w'=>e=.returned .nilIface∧∃U,BAt B w' b (vP b) U (p++[.int .u8 c])∧BFr w w' b v U:=by
 obtain⟨i0,hi,aD,bo,bT⟩:=info_parts Tryz.infoU8;have X:vC w b 0 (.pointer none):=by simp[vC,World.cell?,m.blk]
 have Y:w.frozen? ⟨b,0,none⟩=false:=by simp[World.frozen?,m.blk]
 have Z:=lh (Z9t w b X (by simp[World.shape?,m.blk]) Y);have h:BAt B (w.setCell ⟨b,0,none⟩ (vP b)) b (vP b) v p:=
  ⟨Zh _ m.blk,.inr rfl,Z2 m.own λg E=>Y8 _ _ _ _ (λe=>m.ne (by rw[E];exact congrArg some e)),m.ne,m.le⟩
 have F:∀k,k≠b->(w.setCell ⟨b,0,none⟩ (vP b)).heap[k]?=w.heap[k]?:=λk hk=>Y8 _ _ _ _ hk;have F:=lh F;have be:(w.setCell ⟨b,0,none⟩ (vP b)).heap.size=w.heap.size:=Yf ..;have y:=lh be;have uV:(w.setCell ⟨b,0,none⟩ (vP b)).os=w.os∧(w.setCell ⟨b,0,none⟩ (vP b)).tape=w.tape∧(w.setCell ⟨b,0,none⟩ (vP b)).output=w.output:=⟨rfl,rfl,rfl⟩
 have I:=lh uV;clear m X Y be uV;obtain⟨w1,eh⟩:=zX (w.setCell ⟨b,0,none⟩ (vP b))
 rw[<-eh]at Z h F y I;have iO:b<w1.heap.size:=(Y1.1 h.blk).1;have h1:vC w1 b 1 v:=QN
 have hz:w1.frozen? ⟨b,1,none⟩=false:=by simp[World.frozen?,h.blk]
 have HO:=lh h.own;have HB:=lh h;have aK:=h.ne;have GS:=h.le;have tv:=lh aK;obtain⟨n,J⟩:=zX p.length
 rw[<-J]at HO hn;have pH:=lh J;clear h aK J eh;have hZ:∀o (w2:World),(w1.alloc o).grownBy w2 v.ownBlock->vC w2 b 1 v∧w2.frozen? ⟨b,1,none⟩=false:=λo w2 E=>
  ⟨(E.cell_far ⟨b,1,none⟩ Pe (λe=>tv.o e.symm)).trans ((Zb iO).trans h1),(E.frozen_far ⟨b,1,none⟩ Pe (λe=>tv.o e.symm)).trans ((RH iO).trans hz)⟩
 have HA:=lh hZ;clear hZ;go_enter Tryz.func91,Tryz.ntmps91
 go_wp2_with fail
 refine Z.o.mono ?_;rintro e K5⟨rfl,hw⟩;rw[hw];clear hw K5
 go_wp2_with (at_builtin;go_must (refine wpList_append_lies _ rfl (.tmp 11) (.tmp 13) 184 rfl B 5 i0 (.int .u8 0) 1 1 Tryz.underlying184 hi aD bo bT rfl Pa v n p rfl (HO.o.alloc _) ⟨w1.heap.size,0,none⟩ 1 1 [.int .u8 c] rfl rfl (λj u hu=>cell_one_new w1 _ _ j u hu) Pj Ph Pc Ph Ph (w1.heap.size+1) Pg ?_);intro g cap w2 aM O ch fO;obtain⟨jH,tE⟩:=HA.o _ _ O;have HG:=lh O;have HW:=lh aM;have HT:=lh ch;clear O aM ch fO)
 go_ret;refine⟨rfl,.slice (some ⟨g,0,none⟩) (n+1) cap,?_,?_⟩;·exact Xb
 .refine⟨HG.o.os.trans I.o.1,HG.o.tape.trans I.o.2.1,HG.o.output.trans I.o.2.2,by rw[Yf];have :=HG.o.size;rw[World.size_alloc,y.o]at this;omega,λk hk nA xz=>?_,?_⟩;·exact(Y8 _ _ _ _ nA).trans ((HG.o.block k (by simp;have :=y.o;omega) (λe=>xz e.symm)).trans ((Below.heap_alloc _ _ _ (by have :=y.o;omega)).trans (F.o k nA)))
  .rcases HT.o with h|h;·exact .inl h.symm
   .exact .inr ⟨g,rfl,by have:=y.o;omega⟩
end Go.Proofs.YtjikfacdcdiddaaGreatDoor
namespace Go.Proofs
open Go.Shelf
def Tryz.lays170_ren:Go.Shelf.Ren:=⟨fun|170=>89|n=>n,fun|70=>183|3=>3|0=>0|72=>186|37=>184|5=>5|n=>n,fun|n=>n⟩
theorem Tryz.lays170:Go.Proofs.Lays.n170 Tryz.prog Tryz.lays170_ren:={
 mixed:=by kernel_rfl
 f170:=Tryz.func89.trans (congrArg some (by kernel_rfl))
 t0:=Tryz.underlying0
 a0:=Tryz.isAgg0
 z0:=Tryz.sizeOf0
 v0:=Tryz.zeroValue0
 t3:=Tryz.underlying3
 a3:=Tryz.isAgg3
 z3:=Tryz.sizeOf3
 v3:=Tryz.zeroValue3
 t37:=Tryz.underlying184
 a37:=Tryz.isAgg184
 z37:=Tryz.sizeOf184
 v37:=Tryz.zeroValue184
 t70:=Tryz.underlying183
 a70:=Tryz.isAgg183
 z70:=Tryz.sizeOf183
 v70:=Tryz.zeroValue183
 t72:=Tryz.underlying186
 a72:=Tryz.isAgg186
 z72:=Tryz.sizeOf186
 v72:=Tryz.zeroValue186}
open Go.RowKit in
theorem Tryz.Builder_Len(B b:Nat)(g:List Value)(w:World)(h:Lib.IsBuilder 186 5 B b g w) :
 Calls Tryz.prog 89 #[.pointer (some ⟨b,0,none⟩)] w λe w'=>e=.returned (.int .i64 g.length)∧w'=w:=Any.Builder_Len Tryz.lays170 B b g w h
def Tryz.lays169_ren:Go.Shelf.Ren:=⟨fun|169=>90|n=>n,fun|70=>183|9=>9|0=>0|72=>186|37=>184|127=>205|3=>3|5=>5|n=>n,fun|n=>n⟩
theorem Tryz.lays169:Go.Proofs.Lays.n169 Tryz.prog Tryz.lays169_ren:={
 mixed:=by kernel_rfl
 f169:=Tryz.func90.trans (congrArg some (by kernel_rfl))
 t0:=Tryz.underlying0
 a0:=Tryz.isAgg0
 z0:=Tryz.sizeOf0
 v0:=Tryz.zeroValue0
 t3:=Tryz.underlying3
 a3:=Tryz.isAgg3
 z3:=Tryz.sizeOf3
 v3:=Tryz.zeroValue3
 t9:=Tryz.underlying9
 a9:=Tryz.isAgg9
 z9:=Tryz.sizeOf9
 v9:=Tryz.zeroValue9
 t37:=Tryz.underlying184
 a37:=Tryz.isAgg184
 z37:=Tryz.sizeOf184
 v37:=Tryz.zeroValue184
 t70:=Tryz.underlying183
 a70:=Tryz.isAgg183
 z70:=Tryz.sizeOf183
 v70:=Tryz.zeroValue183
 t72:=Tryz.underlying186
 a72:=Tryz.isAgg186
 z72:=Tryz.sizeOf186
 v72:=Tryz.zeroValue186
 t127:=Tryz.underlying205
 a127:=Tryz.isAgg205
 z127:=Tryz.sizeOf205
 v127:=Tryz.zeroValue205}
theorem Tryz.Builder_Extra_169:Builder.Extra Tryz.prog Tryz.lays169_ren:={
 sizeBuilder:=by kernel_rfl
 liesBuilder:=by kernel_rfl
 t5:=Tryz.underlying5
 a5:=Tryz.isAgg5
 z5:=Tryz.sizeOf5
 v5:=Tryz.zeroValue5
 infoByte:=by kernel_rfl
 cellsByte:=by kernel_rfl
 sizeByte:=by kernel_rfl
 neB5:=by decide}
open Go.RowKit in
theorem Tryz.Builder_String_any(B b:Nat)(l:List UInt8)(w:World)(h:Lib.IsBuilder 186 5 B b (Lib.byteCells l) w)(g:B<=w.heap.size) :
 Calls Tryz.prog 90 #[.pointer (some ⟨b,0,none⟩)] w λe w'=>e=.returned (.string ⟨l.toArray⟩)∧Below B w w':=Any.Builder_String_any Tryz.lays169 Tryz.Builder_Extra_169 B b l w h g
end Go.Proofs
namespace Go.Proofs.YtjikfacdcdiddaaGreatDoor
open Go Go.RowKit
theorem BAt.is{B:Nat}{w:World}{b:Nat}{p v:Value}{g:List Value}(h:BAt B w b p v g):Lib.IsBuilder 186 5 B b g w:=by
 obtain⟨hb,hp,ho,hn,hl⟩:=h;rcases hp with rfl|rfl;·exact .inl ⟨hl,v,hb,ho,hn⟩
 .exact .inr ⟨hl,v,hb,ho,hn⟩
theorem Zqu{B:Nat}{w:World}{b:Nat}{p v:Value}{g:List Value}(h:BAt B w b p v g) :
 Calls Tryz.prog 89 #[vP b] w λe w'=>e=.returned (vI g.length)∧w'=w:=Tryz.Builder_Len B b g w h.is
theorem Zhq{B:Nat}{w:World}{b:Nat}{p v:Value}(l:List UInt8)(h:BAt B w b p v (Lib.byteCells l))(g:B<=w.heap.size) :
 Calls Tryz.prog 90 #[vP b] w λe w'=>e=.returned (.string ⟨l.toArray⟩)∧Below B w w':=Tryz.Builder_String_any B b l w h.is g
def Tm(c:Int):Option UInt8:=if c=110 then some 10 else if c=39 then some 39 else if c=92 then some 92 else none
def tM (text:ByteArray):Nat→Nat→List UInt8→List UInt8×Int×Nat
 |0,i,_=>([],3,i)
 | f + 1, i, g =>
   if text.size<=i∨Z5 text i=10 then([],3,i)
   else if Z5 text i=39 then(if 500<g.length then([],4,i+1)else(g,0,i+1))
   else if Z5 text i=92 then
    (if i + 1 < text.size then
     match Tm (Z5 text (i+1))with
     |some e=>tM text f (i+2) (g++[e])
     |none=>([],3,i+1)
    else([],3,i+1))
   else tM text f (i+1) (g++[text.data.getD i 0])
def GF(text:ByteArray)(i:Nat):List UInt8×Int×Nat:=tM text (text.size+1-i) i []
end Go.Proofs.YtjikfacdcdiddaaGreatDoor
namespace Go.Proofs
def Tryz.lays110_ren:Go.Shelf.Ren:=⟨fun|110=>66|109=>104|n=>n,fun|31=>26|9=>9|4=>4|3=>3|0=>0|n=>n,fun|n=>n⟩
theorem Tryz.lays110:Go.Proofs.Lays.n110 Tryz.prog Tryz.lays110_ren:={
 mixed:=by kernel_rfl
 f109:=Tryz.func104.trans (congrArg some (by kernel_rfl))
 f110:=Tryz.func66.trans (congrArg some (by kernel_rfl))
 t0:=Tryz.underlying0
 a0:=Tryz.isAgg0
 z0:=Tryz.sizeOf0
 v0:=Tryz.zeroValue0
 t3:=Tryz.underlying3
 a3:=Tryz.isAgg3
 z3:=Tryz.sizeOf3
 v3:=Tryz.zeroValue3
 t4:=Tryz.underlying4
 a4:=Tryz.isAgg4
 z4:=Tryz.sizeOf4
 v4:=Tryz.zeroValue4
 t9:=Tryz.underlying9
 a9:=Tryz.isAgg9
 z9:=Tryz.sizeOf9
 v9:=Tryz.zeroValue9
 t31:=Tryz.underlying26
 a31:=Tryz.isAgg26
 z31:=Tryz.sizeOf26
 v31:=Tryz.zeroValue26}
open Go.Lib in
theorem Tryz.slices_Contains_string(b off n c:Nat)(g:List ByteArray)(x:ByteArray)(w:World)(m:n<=g.length)(o:n<=9223372036854775807)(hc:∀j,j<g.length->w.cell? ⟨b,off+j,none⟩=some (.string (g.getD j ByteArray.empty))) :
 Calls Tryz.prog 66 #[.slice (some ⟨b,off,none⟩) n c,.string x] w λe w'=>e=.returned (.bool (Lib.containsS (g.take n) x))∧w'=w:=Any.slices_Contains_string Tryz.lays110 b off n c g x w m o hc
end Go.Proofs
namespace Go.Proofs.YtjikfacdcdiddaaGreatDoor
open Go Go.RowKit
def TR:List ByteArray:=match(Rows.laid_sloppyscope_lex_wordList:DataW Unit)with
 | .agg l => l.map fun
   | .lit (.string g)=>⟨g.toArray⟩
   |_=>⟨#[]⟩
 |_=>[]
theorem Z8e:TR.length=19:=by kernel_rfl
def Sq(s:ByteArray):Bool:=Lib.containsS TR s
def Words(w:World):Prop:=∀j,j<19->w.cell? ⟨2,j,none⟩=some (.string (TR.getD j ByteArray.empty))
theorem Zh9(w:World)(s:ByteArray)(g:Words w) :
 Calls Tryz.prog 58 #[.string s] w λe w'=>e=.returned (.bool (Sq s))∧w'=w:=by
 have HC:=Tryz.slices_Contains_string 2 0 19 19 TR s w (by rw[Z8e];omega) O' (λj m=>by rw[Nat.zero_add];exact g j (by rw[Z8e]at m;exact m));rw[show TR.take 19=TR by rw[<-Z8e];exact List.take_length]at HC;have HC:=lh HC;clear g;unfold Sq;generalize Lib.containsS TR s=B at HC ⊢;go_enter Tryz.func58,Tryz.ntmps58
 exact KA
structure Tok where
 kind:Int
 text:ByteArray
 n:Int
 at':Nat
def mE(text:ByteArray)(k:Nat):Nat->Nat->Int->Int
 |0,_,n=>n
 |f+1,i,n=>if i<k then mE text k f (i+1) (10*n+(Z5 text i-48))else n
def Zs(text:ByteArray)(j:Nat):Nat:=
 if Z5 text j=61∧Z5 text (j+1)=61∧Z5 text (j+2)=61 then 3
 else if Z5 text j=38∧Z5 text (j+1)=38 then 2
 else if Z5 text j=124∧Z5 text (j+1)=124 then 2
 else 1
def SS(c:Int):Bool:=c==40||c==41||c==123||c==125||c==91||c==93||c==59||c==58||c==44||c==46||c==61||c==43||c==45||c==42||c==60||c==33
def kV(text:ByteArray)(j:Nat):Except (Int×Nat) (Tok×Nat):=
 if vT (Z5 text j)then
  let k:=Zk zb text (text.size-j) j
  if Sq (text.extract j k)then .ok (⟨2,text.extract j k,0,j⟩,k)
  else if 20<k-j then .error (4,j)
  else .ok (⟨1,text.extract j k,0,j⟩,k)
 else if oG (Z5 text j)then
  let k:=Zk oG text (text.size-j) j
  if 10<k-j∨(1<k-j∧Z5 text j=48)then .error (3,j)
  else if 1000000000<mE text k (k-j) j 0 then .error (2,j)
  else .ok (⟨3,ByteArray.empty,mE text k (k-j) j 0,j⟩,k)
 else if Z5 text j=39 then
  if(GF text (j+1)).2.1=4 then .error (4,j)
  else if(GF text (j+1)).2.1≠0 then .error (3,(GF text (j+1)).2.2)
  else .ok (⟨4,⟨(GF text (j+1)).1.toArray⟩,0,j⟩,(GF text (j+1)).2.2)
 else if Zs text j=1∧SS (Z5 text j)=false then .error (3,j)
 else .ok (⟨5,text.extract j (j+Zs text j),0,j⟩,j+Zs text j)
def vZ (text:ByteArray):Nat→Nat→List Tok→Except (Int×Nat) (List Tok)
 |0,_,g=>.ok g
 | f + 1, i, g =>
   let j:=Zk uu text (text.size-i) i
   if text.size<=j then .ok (g++[⟨6,ByteArray.empty,0,j⟩])
   else match kV text j with
    | .error e=>.error e
    | .ok (t,k)=>vZ text f k (g++[t])
def Wu(text:ByteArray):Except (Int×Nat) (List Tok):=vZ text (text.size+1) 0 []
theorem Z8a{text:ByteArray}{i:Nat}(h:text.size<=i):Z5 text i=0:=by
 have g:¬i<text.data.size:=by change¬i<text.size;omega
 unfold Z5 Array.getD;rw[dif_neg g];rfl
theorem WL{text:ByteArray}{i:Nat}(h:Z5 text i≠0):i<text.size:=by
 rcases Nat.lt_or_ge i text.size with g|g;·exact g
 .exact absurd (Z8a g) h
theorem getD_extract(text:ByteArray){j k i:Nat}(h:i<k-j)(hk:k<=text.size):(text.extract j k).data.getD i 0=text.data.getD (j+i) 0:=by
 have g:j+i<text.data.size:=by change _<text.size;omega
 have m:i<(text.extract j k).data.size:=by
  change i<(text.extract j k).size;rw[ByteArray.size_extract];omega
 simp only[Array.getD,dif_pos m,dif_pos g];simp[ByteArray.data_extract]
theorem Zi(text:ByteArray){j k i:Nat}(h:i<k-j)(hk:k<=text.size):Z5 (text.extract j k) i=Z5 text (j+i):=by
 unfold Z5;rw[getD_extract text h hk]
theorem S'(text:ByteArray){j k:Nat}(hk:k<=text.size):(text.extract j k).size=k-j:=by
 rw[ByteArray.size_extract];omega
theorem Uy(p:Int->Bool)(text:ByteArray):∀(f i:Nat),text.size-i<=f->i<=text.size->
 i<=Zk p text f i∧Zk p text f i<=text.size∧(∀m,i<=m->m<Zk p text f i->p (Z5 text m)=true)∧(Zk p text f i<text.size->p (Z5 text (Zk p text f i))=false):=by
 intro f;induction f with
 |zero=>intro i h hi;simp only[Zk];exact⟨Y0 _,hi,λm o g=>by omega,λu=>by omega⟩
 | succ f y =>
   intro i h hi;simp only[Zk];by_cases hc:i<text.size∧p (Z5 text i)=true
   .rw[Y5 (by simp[hc.1,hc.2])];obtain⟨o,g,E,F⟩:=y (i+1) O' O';refine⟨by omega,g,λm J I=>?_,F⟩;by_cases e:m=i;·rw[e];exact hc.2
    .exact E m O' I
   .rw[Y3 (by simpa using hc)];refine⟨Y0 _,hi,λm o g=>by omega,λu=>?_⟩;simpa[u]using hc
theorem Ze4(p:Int->Bool)(text:ByteArray):∀(f i k:Nat),text.size-i<=f->i<=k->k<=text.size->(∀m,i<=m->m<k->p (Z5 text m)=true)->(k<text.size->p (Z5 text k)=false)->Zk p text f i=k:=by
 intro f;induction f with
 |zero=>intro i k h y g _ _;simp only[Zk];omega
 | succ f E =>
   intro i k h y g o u;simp only[Zk];by_cases e:i=k
   .subst e;rw[Y3];simp only[Bool.and_eq_true,decide_eq_true_eq,not_and,Bool.not_eq_true];exact u
   .rw[Y5 (by simp[o i (Nat.le_refl _) O'];omega)];exact E (i+1) k O' O' g (λm a b=>o m O' b) u
theorem Za4(p:Int->Bool)(text:ByteArray){j k:Nat}(F:j<text.size)(hk:Zk p text (text.size-j) j=k) :
 Zk p (text.extract j k) ((text.extract j k).size-0) 0=k-j:=by
 obtain⟨u,g,o,y⟩:=Uy p text (text.size-j) j (Y0 _) O';rw[hk]at u g o y;have hs:=S' text (j:=j) g;refine Ze4 p _ _ _ _ O' O' O' (λm _ E=>?_) (λh=>by omega);rw[Zi text E g];exact o _ O' O'
theorem Zn0(text:ByteArray){j k:Nat}(hk:k<=text.size):∀(f i:Nat) (n:Int),j<=i->mE (text.extract j k) (k-j) f (i-j) n=mE text k f i n:=by
 intro f;induction f with
 |zero=>intro i n _;rfl
 | succ f g =>
   intro i n hi;simp only[mE];by_cases h:i<k
   .rw[Y5 O',Y5 h,Zi text O' hk,show j+(i-j)=i by omega,show i-j+1=i+1-j by omega];exact g (i+1) _ O'
   .rw[Y3 O',Y3 h]
theorem Zf5 (text:ByteArray) {j:Nat}:∀ (f i:Nat) (y p:List UInt8) (k:Nat),j≤i→tM text f i y=(p,0,k) →
 i<k∧k<=text.size∧Z5 text (k-1)=39∧∀m,k-i<=m->tM (text.extract j k) m (i-j) y=(p,0,k-j):=by
 intro f;induction f with
 |zero=>intro i y p k _ h;simp[tM]at h
 | succ f O =>
   intro i y p k Z h;simp only[tM]at h;by_cases F:text.size<=i∨Z5 text i=10;·rw[Y5 F]at h;simp at h
   rw[Y3 F]at h;simp only[not_or,Nat.not_le]at F;by_cases u:Z5 text i=39
   .rw[Y5 u]at h;by_cases o:500<y.length;·rw[Y5 o]at h;simp at h
    rw[Y3 o]at h;simp only[Prod.mk.injEq,true_and]at h;obtain⟨rfl,rfl⟩:=h;refine⟨by omega,by omega,by simpa using u,λm hf=>?_⟩;obtain⟨g,rfl⟩:∃g,m=g+1:=⟨m-1,by omega⟩
    have hb:Z5 (text.extract j (i+1)) (i-j)=Z5 text i:=by
     exact Zq1
    have hs:=S' text (j:=j) (k:=i+1) O';simp only[tM,hb,hs];rw[Y3 O',Y5 u,Y3 o,show i-j+1=i+1-j by omega]
   rw[Y3 u]at h;by_cases o:Z5 text i=92
   ·rw [Y5 o] at h;by_cases U : i + 1 < text.size
    ·rw [Y5 U] at h;cases he : Tm (Z5 text (i + 1)) with
     |none=>rw[he]at h;simp at h
     | some e =>
       rw[he]at h;simp only at h;obtain⟨X,E,I,J⟩:=O (i+2) _ p k O' h;refine⟨by omega,E,I,λm hf=>?_⟩;obtain⟨g,rfl⟩:∃g,m=g+1:=⟨m-1,by omega⟩
       have hb:Z5 (text.extract j k) (i-j)=Z5 text i:=by
        exact Zq1
       have Y:Z5 (text.extract j k) (i-j+1)=Z5 text (i+1):=by
        rw[Zi text O' O',show j+(i-j+1)=i+1 by omega]
       have hs:=S' text (j:=j) (k:=k) E;simp only[tM,hb,hs,Y];rw[Y3 O',Y3 u,Y5 o,Y5 O',he];simp only;rw[show i-j+2=i+2-j by omega];exact J g O'
    .rw[Y3 U]at h;simp at h
   .rw[Y3 o]at h;obtain⟨X,E,I,J⟩:=O (i+1) _ p k O' h;refine⟨by omega,E,I,λm hf=>?_⟩;obtain⟨g,rfl⟩:∃g,m=g+1:=⟨m-1,by omega⟩
    have hb:Z5 (text.extract j k) (i-j)=Z5 text i:=by
     exact Zq1
    have hd:(text.extract j k).data.getD (i-j) 0=text.data.getD i 0:=by
     rw[getD_extract text O' O',show j+(i-j)=i by omega]
    have hs:=S' text (j:=j) (k:=k) E;simp only[tM,hb,hs,hd];rw[Y3 O',Y3 u,Y3 o,show i-j+1=i+1-j by omega];exact J g O'
theorem XX{c:Int}(h:zb c=true):uu c=false:=by
 unfold zb vT oG at h;unfold uu;simp only[Bool.or_eq_true,Bool.and_eq_true,decide_eq_true_eq]at h;simp only[Bool.or_eq_false_iff,decide_eq_false_iff_not];omega
theorem Z7c{c:Int}(h:vT c=true):zb c=true:=by simp[zb,h]
theorem Zbg{c:Int}(h:oG c=true):zb c=true:=by simp[zb,h]
theorem Zmm{c:Int}(h:SS c=true):c≠0∧uu c=false:=by
 simp only[SS,Bool.or_eq_true,beq_iff_eq]at h;simp only[uu,Bool.or_eq_false_iff,decide_eq_false_iff_not];omega
theorem extract_all(b:ByteArray)(n:Nat)(h:n=b.size):b.extract 0 n=b:=by subst h;simp
theorem Zf0(text:ByteArray)(j:Nat)(h:Zs text j=1->SS (Z5 text j)=true) :
 1 ≤ Zs text j ∧ j + Zs text j ≤ text.size ∧ (∀ m, j ≤ m → m < j + Zs text j → uu (Z5 text m) = false) ∧ Zs (text.extract j (j + Zs text j)) 0 = Zs text j ∧
   (Zs text j=1->Z5 (text.extract j (j+Zs text j)) 0=Z5 text j)∧Z5 (text.extract j (j+Zs text j)) 0=Z5 text j:=by
 by_cases p:Z5 text j=61∧Z5 text (j+1)=61∧Z5 text (j+2)=61
 .have e:Zs text j=3:=by simp[Zs,p]
  rw[e];have hl:=WL (text:=text) (i:=j+2) O';have b0:=Zi text (j:=j) (k:=j+3) (i:=0) O' O';have b1:=Zi text (j:=j) (k:=j+3) (i:=1) O' O';have b2:=Zi text (j:=j) (k:=j+3) (i:=2) O' O';refine⟨by omega,by omega,λm g o=>?_,?_,λ_=>by rw[b0,Nat.add_zero],by rw[b0,Nat.add_zero]⟩
  .have :m=j∨m=j+1∨m=j+2:=by omega
   rcases this with rfl|rfl|rfl<;>simp[uu,p]
  .unfold Zs;rw[show 0+1=1 by rfl,show 0+2=2 by rfl,b0,b1,b2,Nat.add_zero,Y5 p]
 .by_cases o:Z5 text j=38∧Z5 text (j+1)=38
  .have e:Zs text j=2:=by simp[Zs,o]
   rw[e];refine Zvt ?_;intro hl b0 b1;refine⟨by omega,by omega,λm g u=>?_,?_,λ_=>by rw[b0,Nat.add_zero],by rw[b0,Nat.add_zero]⟩
   .have :m=j∨m=j+1:=by omega
    rcases this with rfl|rfl<;>simp[uu,o]
   .unfold Zs;rw[show 0+1=1 by rfl,show 0+2=2 by rfl,b0,b1,Nat.add_zero,Y3 O',Y5 o]
  .by_cases g:Z5 text j=124∧Z5 text (j+1)=124
   .have e:Zs text j=2:=by simp[Zs,g]
    rw[e];refine Zvt ?_;intro hl b0 b1;refine⟨by omega,by omega,λm y u=>?_,?_,λ_=>by rw[b0,Nat.add_zero],by rw[b0,Nat.add_zero]⟩
    .have :m=j∨m=j+1:=by omega
     rcases this with rfl|rfl<;>simp[uu,g]
    .unfold Zs;rw[show 0+1=1 by rfl,show 0+2=2 by rfl,b0,b1,Nat.add_zero,Y3 O',Y3 O',Y5 g]
   .have e:Zs text j=1:=by simp[Zs,p,o,g]
    have hs:=h e;rw[e];have hp:=Zmm hs;have hl:=WL hp.1;have b0:=Zi text (j:=j) (k:=j+1) (i:=0) O' O';have b1:=Z8a (text:=text.extract j (j+1)) (i:=1) (by rw[S' text O'];omega);refine⟨by omega,by omega,λm y u=>?_,?_,λ_=>by rw[b0,Nat.add_zero],by rw[b0,Nat.add_zero]⟩
    .obtain rfl:m=j:=by omega
     exact hp.2
    .unfold Zs;rw[show 0+1=1 by rfl,show 0+2=2 by rfl,b1,Y3 O',Y3 O',Y3 O']
theorem Z7h(text:ByteArray){j k:Nat}{t:Tok}(Z:j<text.size)(h:kV text j=.ok (t,k)) :
 j < k ∧ k ≤ text.size ∧ t.at' = j ∧ t.kind ≠ 6 ∧ uu (Z5 text j) = false ∧ uu (Z5 text (k - 1)) = false ∧
   kV (text.extract j k) 0=.ok ({t with at':=0},k-j):=by
 unfold kV at h;by_cases hl:vT (Z5 text j)=true
 .rw[Y5 hl]at h;simp only at h;obtain⟨K,g⟩:∃K,Zk zb text (text.size-j) j=K:=⟨_,rfl⟩
  rw[g]at h;obtain⟨s1,s2,p,s4⟩:=Uy zb text (text.size-j) j (Y0 _) O';have u:=Za4 zb text Z g;rw[g]at s1 s2 p s4;have y:j<K:=by
   exact Zvu
  have m:Z5 (text.extract j K) 0=Z5 text j:=QT
  have E:=XX (p (K-1) O' O');have F:(text.extract j K).extract 0 (K-j)=text.extract j K:=extract_all _ _ (S' text s2).symm;by_cases I:Sq (text.extract j K)=true
  .rw[Y5 I]at h;simp only[Except.ok.injEq,Prod.mk.injEq]at h;obtain⟨rfl,rfl⟩:=h;refine⟨y,s2,rfl,by simp,XX (Z7c hl),E,?_⟩;unfold kV;rw[m,Y5 hl];simp only[u,F];rw[Y5 I]
  .rw[Y3 I]at h;by_cases yT:20<K-j;·rw[Y5 yT]at h;cases h
   .rw[Y3 yT]at h;simp only[Except.ok.injEq,Prod.mk.injEq]at h;obtain⟨rfl,rfl⟩:=h;refine⟨y,s2,rfl,by simp,XX (Z7c hl),E,?_⟩;unfold kV;rw[m,Y5 hl];simp only[u,F];rw[Y3 I,Y3 O']
 rw[Y3 hl]at h;by_cases hd:oG (Z5 text j)=true
 .rw[Y5 hd]at h;simp only at h;obtain⟨K,g⟩:∃K,Zk oG text (text.size-j) j=K:=⟨_,rfl⟩
  rw[g]at h;obtain⟨s1,s2,p,s4⟩:=Uy oG text (text.size-j) j (Y0 _) O';have u:=Za4 oG text Z g;rw[g]at s1 s2 p s4;have y:j<K:=by
   rcases Nat.lt_or_ge j K with h'|h';·exact h'
   .have:=s4 O';rw[show K=j by omega,hd]at this;cases this
  have m:Z5 (text.extract j K) 0=Z5 text j:=QT
  have E:=XX (Zbg (p (K-1) O' O'));have pT:=Zn0 text (j:=j) s2 (K-j) j 0 (Y0 _);rw[Nat.sub_self]at pT;by_cases U:10<K-j∨(1<K-j∧Z5 text j=48);·rw[Y5 U]at h;cases h
  rw[Y3 U]at h;by_cases X:1000000000<mE text K (K-j) j 0;·rw[Y5 X]at h;cases h
  rw[Y3 X]at h;simp only[Except.ok.injEq,Prod.mk.injEq]at h;obtain⟨rfl,rfl⟩:=h;refine⟨y,s2,rfl,by simp,XX (Zbg hd),E,?_⟩;unfold kV;rw[m,Y3 hl,Y5 hd];simp only[u];simp only[Nat.sub_zero,pT];rw[Y3 U,Y3 X]
 rw[Y3 hd]at h;by_cases hq:Z5 text j=39
 .rw[Y5 hq]at h;obtain⟨⟨bs,e,K⟩,hR⟩:∃R,R=GF text (j+1):=⟨_,rfl⟩
  rw[<-hR]at h;simp only at h;by_cases h4:e=4;·rw[Y5 h4]at h;cases h
  rw[Y3 h4]at h;by_cases J:e≠0;·rw[Y5 J]at h;cases h
  rw[Y3 J]at h;simp only[ne_eq,Decidable.not_not]at J;subst J;simp only[Except.ok.injEq,Prod.mk.injEq]at h;obtain⟨rfl,rfl⟩:=h;obtain⟨g1,o,O,Y⟩:=Zf5 text (j:=j) _ _ _ _ _ O' hR.symm;refine⟨by omega,o,rfl,by simp,by rw[hq];rfl,by rw[O];rfl,?_⟩;have m:Z5 (text.extract j K) 0=Z5 text j:=by rw[Zi text O' o,Nat.add_zero]
  have K7:GF (text.extract j K) (0+1)=(bs,0,K-j):=by
   have:=Y ((text.extract j K).size+1-(0+1)) (by rw[S' text o];omega);rw[show j+1-j=0+1 by omega]at this;exact this
  unfold kV;rw[m,Y3 hl,Y3 hd,Y5 hq,K7];simp
 rw[Y3 hq]at h;by_cases hs:Zs text j=1∧SS (Z5 text j)=false;·rw[Y5 hs]at h;cases h
 rw[Y3 hs]at h;simp only[Except.ok.injEq,Prod.mk.injEq]at h;obtain⟨rfl,rfl⟩:=h;obtain⟨g1,o,O,Y,g5,g6⟩:=Zf0 text j (λe=>by
  cases hb:SS (Z5 text j)with
  |true=>rfl
  |false=>exact absurd ⟨e,hb⟩ hs)
 refine⟨by omega,o,rfl,by simp,O j (Y0 _) O',O _ O' O',?_⟩;have F:(text.extract j (j+Zs text j)).extract 0 (0+Zs text j)=text.extract j (j+Zs text j):=extract_all _ _ (by rw[S' text o];omega);unfold kV;rw[g6,Y3 hl,Y3 hd,Y3 hq,Y,Y3 hs,F];simp
def YN(text:ByteArray):Nat->List Tok->Prop
 |_,[]=>False
 |i,[t]=>text.size<=Zk uu text (text.size-i) i∧t=⟨6,ByteArray.empty,0,Zk uu text (text.size-i) i⟩
 |i,t::u::l=>∃k,Zk uu text (text.size-i) i<text.size∧kV text (Zk uu text (text.size-i) i)=.ok (t,k)∧YN text k (u::l)
theorem Zj1(text:ByteArray):∀(f i:Nat) (g l:List Tok),i<=text.size->text.size-i<f->vZ text f i g=.ok l->∃r,l=g++r∧YN text i r:=by
 intro f;induction f with
 |zero=>intro i g l _ y;omega
 | succ f p =>
   intro i g l hi hf h;simp only[vZ]at h;obtain⟨s1,E,_,_⟩:=Uy uu text (text.size-i) i (Y0 _) hi;by_cases m:text.size<=Zk uu text (text.size-i) i
   .rw[Y5 m]at h;simp only[Except.ok.injEq]at h;exact⟨_,h.symm,m,rfl⟩
   .rw[Y3 m]at h;cases ht:kV text (Zk uu text (text.size-i) i)with
    |error e=>rw[ht]at h;cases h
    | ok x =>
      obtain⟨t,k⟩:=x;rw[ht]at h;simp only at h;obtain⟨c1,c2,_,_,_,_,_⟩:=Z7h text O' ht;obtain⟨r,hr,o⟩:=p k _ l c2 O' h;refine⟨t::r,by simp[hr],?_⟩;cases r with
      |nil=>exact o.elim
      |cons u r=>exact⟨k,by omega,ht,o⟩
theorem Ze7{text:ByteArray}{l:List Tok}(h:Wu text=.ok l):YN text 0 l:=by
 obtain⟨r,hr,g⟩:=Zj1 text _ 0 [] l (Yh _) O' h;rw[hr];exact g
inductive Tree
 |mk(kind:Int)(text:ByteArray)(n:Int)(kids:List Tree)
def Tree.kind:Tree->Int| .mk k _ _ _=>k
def Tree.text:Tree->ByteArray| .mk _ t _ _=>t
def Tree.n:Tree->Int| .mk _ _ n _=>n
def Tree.kids:Tree->List Tree| .mk _ _ _ l=>l
abbrev PR:=Option (Except (Int×Nat) (Tree×List Tok))
def bL(ts:List Tok):Tok:=ts.headD ⟨6,ByteArray.empty,0,0⟩
def aa(s:ByteArray)(ts:List Tok):Bool:=(decide ((bL ts).kind=5)||decide ((bL ts).kind=2))&&Zg (bL ts).text s
def vg(e:Int)(ts:List Tok):PR:=some (.error (e,(bL ts).at'))
def iy(t:Tree)(ts:List Tok):PR:=some (.ok (t,ts))
def iB(s:ByteArray)(ts:List Tok)(k:List Tok->PR):PR:=if aa s ts then k ts.tail else vg 3 ts
def wc(ts:List Tok)(k:ByteArray->List Tok->PR):PR:=if(bL ts).kind=1 then k (bL ts).text ts.tail else vg 3 ts
def Zr(p:PR)(k:Tree->List Tok->PR):PR:=match p with|none=>none|some (.error e)=>some (.error e)|some (.ok (t,ts))=>k t ts
def CW:ByteArray:=⟨#[123]⟩
def Zp:ByteArray:=⟨#[125]⟩
def ub:ByteArray:=⟨#[40]⟩
def sg:ByteArray:=⟨#[41]⟩
def Ed:ByteArray:=⟨#[59]⟩
def wJ:ByteArray:=⟨#[44]⟩
def UA:ByteArray:=⟨#[58]⟩
def Vi:ByteArray:=⟨#[46]⟩
def iD:ByteArray:=⟨#[61]⟩
def Uv:ByteArray:=⟨#[118,97,114]⟩
def UN:ByteArray:=⟨#[108,101,116]⟩
def UD:ByteArray:=⟨#[99,111,110,115,116]⟩
def NR:ByteArray:=⟨#[102,117,110,99,116,105,111,110]⟩
def Ia:ByteArray:=⟨#[105,102]⟩
def Uw:ByteArray:=⟨#[101,108,115,101]⟩
def UF:ByteArray:=⟨#[119,104,105,108,101]⟩
def UC:ByteArray:=⟨#[119,105,116,104]⟩
def UL:ByteArray:=⟨#[114,101,116,117,114,110]⟩
def UM:ByteArray:=⟨#[116,104,114,111,119]⟩
def Uz:ByteArray:=⟨#[116,114,121]⟩
def TS:ByteArray:=⟨#[99,97,116,99,104]⟩
def CP:ByteArray:=⟨#[102,105,110,97,108,108,121]⟩
def Q':ByteArray:=⟨#[33]⟩
def Sa:ByteArray:=⟨#[116,121,112,101,111,102]⟩
def Su:ByteArray:=⟨#[100,101,108,101,116,101]⟩
def SA:ByteArray:=⟨#[116,114,117,101]⟩
def SQ:ByteArray:=⟨#[102,97,108,115,101]⟩
def Tn:ByteArray:=⟨#[110,117,108,108]⟩
def TL:ByteArray:=⟨#[117,110,100,101,102,105,110,101,100]⟩
def BN:ByteArray:=⟨#[124,124]⟩
def TZ:ByteArray:=⟨#[38,38]⟩
def T8:ByteArray:=⟨#[61,61,61]⟩
def TQ:ByteArray:=⟨#[60]⟩
def Tp:ByteArray:=⟨#[43]⟩
def T2:ByteArray:=⟨#[45]⟩
def T7:ByteArray:=⟨#[42]⟩
def UT:ByteArray:=⟨#[117,115,101,32,115,116,114,105,99,116]⟩
def RB:ByteArray:=⟨#[115,116,114,105,99,116]⟩
def TU(l:List Tree):Bool:=
 match l with
 | .mk k _ _ (x::_)::_=>decide (k=15)&&decide (x.kind=18)&&Zg x.text UT
 |_=>false
def wK(g:Nat)(ts:List Tok):Int:=
 match g with
 |0=>if aa BN ts then 25 else 0
 |1=>if aa TZ ts then 26 else 0
 |2=>if aa T8 ts then 27 else 0
 |3=>if aa TQ ts then 28 else 0
 |4=>if aa Tp ts then 29 else if aa T2 ts then 30 else 0
 |5=>if aa T7 ts then 31 else 0
 |_=>0
def K6(ts:List Tok):Int:=if aa Q' ts then 32 else if aa Sa ts then 33 else if aa Su ts then 34 else 0
def L1(ts:List Tok):Int:=if aa SA ts then 19 else if aa SQ ts then 20 else if aa Tn ts then 21 else if aa TL ts then 22 else 0
inductive Job
 |stmts(kind:Int)(ao:List Tree)
 |block(body:Bool)
 |func(kind:Int)(text:ByteArray)
 |params(ao:List Tree)
 |around
 |stmt
 |decl(kind:Int)(gO:Bool)
 |try_
 |value
 |assign
 |bin(aW:Nat)
 |binLoop(aW:Nat)(x:Tree)
 |unary
 |postfix_
 |postLoop(x:Tree)
 |args(ao:List Tree)
 |primary
 |object(ao:List Tree)
def tZ(n:Tree)(ts:List Tok):PR:=iB Ed ts λts=>iy n ts
def vX(d:Nat)(ts:List Tok)(p:PR):PR:=if 30<d+1 then vg 4 ts else p
def Z3:Nat→Job→Nat→List Tok→PR
 |0,_,_,_=>none
 | f + 1, .stmts kind g, d, ts =>
   if(if kind=1 then decide ((bL ts).kind=6)else aa Zp ts)then iy (.mk kind (if TU g then RB else ByteArray.empty) 0 g) ts
   else Zr (vX d ts (Z3 f .stmt (d+1) ts)) λx ts=>Z3 f (.stmts kind (g++[x])) d ts
 | f + 1, .block body, d, ts =>
   iB CW ts λts=>Zr (Z3 f (.stmts 6 []) d ts) λx ts=>iB Zp ts λts=>iy (if body then x else .mk 6 ByteArray.empty 0 x.kids) ts
 | f + 1, .func kind text, d, ts =>
   iB ub ts λts=>Zr (Z3 f (.params []) d ts) λp ts=>iB sg ts λts=>Zr (Z3 f (.block true) d ts) λb ts=>iy (.mk kind text 0 [p,b]) ts
 | f + 1, .params g, d, ts =>
   if aa sg ts then iy (.mk 40 ByteArray.empty 0 g) ts
   else(if 0<g.length then iB wJ ts else λk=>k ts) λts=>
    if g.length=8 then vg 4 ts else wc ts λs ts=>Z3 f (.params (g++[.mk 23 s 0 []])) d ts
 | f + 1, .around, d, ts =>
   iB ub ts λts=>Zr (Z3 f .value d ts) λx ts=>iB sg ts λts=>iy x ts
 | f + 1, .stmt, d, ts =>
   if aa CW ts then Z3 f (.block false) d ts
   else if aa Ed ts then iy (.mk 16 ByteArray.empty 0 []) ts.tail
   else if aa Uv ts then Zr (Z3 f (.decl 2 false) d ts.tail) tZ
   else if aa UN ts then Zr (Z3 f (.decl 3 false) d ts.tail) tZ
   else if aa UD ts then Zr (Z3 f (.decl 4 true) d ts.tail) tZ
   else if aa NR ts then wc ts.tail λs ts=>Z3 f (.func 5 s) d ts
   else if aa Ia ts then
    Zr (Z3 f .around d ts.tail) λx ts=>Zr (vX d ts (Z3 f .stmt (d+1) ts)) λy ts=>
     if aa Uw ts then Zr (vX d ts.tail (Z3 f .stmt (d+1) ts.tail)) λz ts=>iy (.mk 7 ByteArray.empty 0 [x,y,z]) ts
     else iy (.mk 7 ByteArray.empty 0 [x,y]) ts
   else if aa UF ts then
    Zr (Z3 f .around d ts.tail) λx ts=>Zr (vX d ts (Z3 f .stmt (d+1) ts)) λy ts=>iy (.mk 8 ByteArray.empty 0 [x,y]) ts
   else if aa UC ts then
    Zr (Z3 f .around d ts.tail) λx ts=>Zr (vX d ts (Z3 f .stmt (d+1) ts)) λy ts=>iy (.mk 9 ByteArray.empty 0 [x,y]) ts
   else if aa UL ts then
    if aa Ed ts.tail then tZ (.mk 10 ByteArray.empty 0 []) ts.tail
    else Zr (Z3 f .value d ts.tail) λx ts=>tZ (.mk 10 ByteArray.empty 0 [x]) ts
   else if aa UM ts then Zr (Z3 f .value d ts.tail) λx ts=>tZ (.mk 11 ByteArray.empty 0 [x]) ts
   else if aa Uz ts then Z3 f .try_ d ts.tail
   else Zr (Z3 f .value d ts) λx ts=>tZ (.mk 15 ByteArray.empty 0 [x]) ts
 | f + 1, .decl kind o, d, ts =>
   wc ts λs ts=>
    if o&& !aa iD ts then vg 3 ts
    else if aa iD ts then Zr (Z3 f .value d ts.tail) λx ts=>iy (.mk kind s 0 [x]) ts
    else iy (.mk kind s 0 []) ts
 | f + 1, .try_, d, ts =>
   Zr (Z3 f (.block false) d ts) λb ts=>
    (fun (k : List Tree → List Tok → PR) =>
     if aa TS ts then iB ub ts.tail λts=>wc ts λs ts=>iB sg ts λts=>Zr (Z3 f (.block false) d ts) λc ts=>k [b,.mk 13 s 0 [c]] ts
     else k [b] ts) λl ts=>
    if aa CP ts then Zr (Z3 f (.block false) d ts.tail) λc ts=>iy (.mk 12 ByteArray.empty 0 (l++[.mk 14 ByteArray.empty 0 [c]])) ts
    else if l.length=1 then vg 3 ts else iy (.mk 12 ByteArray.empty 0 l) ts
 |f+1,.value,d,ts=>vX d ts (Z3 f .assign (d+1) ts)
 | f + 1, .assign, d, ts =>
   Zr (Z3 f (.bin 0) d ts) λx ts'=>
    if aa iD ts' then
     if x.kind=23∨x.kind=36 then Zr (Z3 f .value d ts'.tail) λy ts=>iy (.mk 24 ByteArray.empty 0 [x,y]) ts
     else some (.error (1,(bL ts).at'))
    else iy x ts'
 | f + 1, .bin m, d, ts =>
   if 6<=m then Z3 f .unary d ts
   else Zr (Z3 f (.bin (m+1)) d ts) λx ts=>Z3 f (.binLoop m x) d ts
 | f + 1, .binLoop m x, d, ts =>
   if wK m ts=0 then iy x ts
   else Zr (Z3 f (.bin (m+1)) d ts.tail) λy ts'=>Z3 f (.binLoop m (.mk (wK m ts) ByteArray.empty 0 [x,y])) d ts'
 | f + 1, .unary, d, ts =>
   if K6 ts=0 then Z3 f .postfix_ d ts
   else Zr (vX d ts.tail (Z3 f .unary (d+1) ts.tail)) λx ts'=>iy (.mk (K6 ts) ByteArray.empty 0 [x]) ts'
 |f+1,.postfix_,d,ts=>Zr (Z3 f .primary d ts) λx ts=>Z3 f (.postLoop x) d ts
 | f + 1, .postLoop x, d, ts =>
   if aa Vi ts then wc ts.tail λs ts=>Z3 f (.postLoop (.mk 36 s 0 [x])) d ts
   else if aa ub ts then Zr (Z3 f (.args [x]) d ts.tail) λn ts=>Z3 f (.postLoop n) d ts
   else iy x ts
 | f + 1, .args g, d, ts =>
   if aa sg ts then iy (.mk 35 ByteArray.empty 0 g) ts.tail
   else(if 1<g.length then iB wJ ts else λk=>k ts) λts=>
    if 8<g.length then vg 4 ts else Zr (Z3 f .value d ts) λv ts=>Z3 f (.args (g++[v])) d ts
 | f + 1, .primary, d, ts =>
   if(bL ts).kind=1 then iy (.mk 23 (bL ts).text 0 []) ts.tail
   else if(bL ts).kind=3 then iy (.mk 17 ByteArray.empty (bL ts).n []) ts.tail
   else if(bL ts).kind=4 then iy (.mk 18 (bL ts).text 0 []) ts.tail
   else if L1 ts≠0 then iy (.mk (L1 ts) ByteArray.empty 0 []) ts.tail
   else if aa ub ts then Z3 f .around d ts
   else if aa NR ts then
    if(bL ts.tail).kind=1 then Z3 f (.func 37 (bL ts.tail).text) d ts.tail.tail
    else Z3 f (.func 37 ByteArray.empty) d ts.tail
   else if aa CW ts then Z3 f (.object []) d ts.tail
   else vg 3 ts
 | f + 1, .object g, d, ts =>
   if aa Zp ts then iy (.mk 38 ByteArray.empty 0 g) ts.tail
   else(if 0<g.length then iB wJ ts else λk=>k ts) λts=>
    if g.length=8 then vg 4 ts
    else wc ts λs ts=>iB UA ts λts=>Zr (Z3 f .value d ts) λv ts=>Z3 f (.object (g++[.mk 39 s 0 [v]])) d ts
mutual
def Tree.many:Tree->Nat
 | .mk _ _ _ l=>pS l+1
def pS:List Tree->Nat
 | []=>0
 |t::l=>t.many+pS l
end
theorem Zm{s:ByteArray}{ts:List Tok}(h:aa s ts=true):ts.tail.length<ts.length:=by
 cases ts with
 |nil=>simp[aa,bL]at h
 |cons t l=>simp
theorem Zu(ts:List Tok):ts.tail.length<=ts.length:=by cases ts<;>simp
theorem Xw{ts:List Tok}(h:(bL ts).kind≠6):ts.tail.length<ts.length:=by
 cases ts with
 |nil=>simp[bL]at h
 |cons t l=>simp
def Leaves(n:Nat)(p:PR):Prop:=∀t ts,p=some (.ok (t,ts))->ts.length<n
theorem Leaves.fail{n:Nat}{e:Int}{ts:List Tok}:Leaves n (vg e ts):=by intro t ts' h;cases h
theorem Leaves.none{n:Nat}:Leaves n none:=by intro t ts' h;cases h
theorem Leaves.err{n:Nat}{e:Int×Nat}:Leaves n (some (.error e)):=by intro t ts' h;cases h
theorem Leaves.ok{n:Nat}{t:Tree}{ts:List Tok}(h:ts.length<n):Leaves n (iy t ts):=by
 intro t' ts' g;simp only[iy,Option.some.injEq,Except.ok.injEq,Prod.mk.injEq]at g;rw[<-g.2];exact h
theorem Leaves.bind{n m:Nat}{p:PR}{k:Tree->List Tok->PR}(hp:Leaves m p)(hk:∀t ts,ts.length<m->Leaves n (k t ts)):Leaves n (Zr p k):=by
 cases p with
 |none=>exact Leaves.none
 | some r =>
   cases r with
   |error e=>exact Leaves.err
   |ok x=>obtain⟨t,ts⟩:=x;exact hk t ts (hp t ts rfl)
theorem Leaves.want{n:Nat}{s:ByteArray}{ts:List Tok}{k:List Tok->PR}(hk:ts.tail.length<ts.length->Leaves n (k ts.tail)):Leaves n (iB s ts k):=by
 unfold iB;by_cases h:aa s ts=true;·rw[Y5 h];exact hk (Zm h)
 .rw[Y3 h];exact Leaves.fail
theorem Leaves.name{n:Nat}{ts:List Tok}{k:ByteArray->List Tok->PR}(hk:∀s,ts.tail.length<ts.length->Leaves n (k s ts.tail)):Leaves n (wc ts k):=by
 unfold wc;by_cases h:(bL ts).kind=1;·rw[Y5 h];exact hk _ (Xw O')
 .rw[Y3 h];exact Leaves.fail
theorem Leaves.within{n d:Nat}{ts:List Tok}{p:PR}(h:Leaves n p):Leaves n (vX d ts p):=by
 unfold vX;by_cases g:30<d+1;·rw[Y5 g];exact Leaves.fail
 .rw[Y3 g];exact h
theorem Leaves.ite{n:Nat}{c:Prop} [Decidable c]{p q:PR}(hp:c->Leaves n p)(hq:¬c->Leaves n q):Leaves n (if c then p else q):=by
 by_cases h:c;·rw[Y5 h];exact hp h
 .rw[Y3 h];exact hq h
theorem Leaves.comma{n:Nat}{c:Prop} [Decidable c]{ts:List Tok}{k:List Tok->PR}(hk:∀ts',ts'.length<=ts.length->Leaves n (k ts')):Leaves n ((if c then iB wJ ts else λk=>k ts) k):=by
 by_cases h:c;·rw[Y5 h];exact Leaves.want λg=>hk _ O'
 .rw[Y3 h];exact hk _ (Y0 _)
def Job.least:Job->Nat
 | .stmts ..=>1
 | .params ..=>1
 | .binLoop ..=>1
 | .postLoop ..=>1
 |_=>0
theorem Ut:∀(f:Nat) (o:Job) (d:Nat) (ts:List Tok),Leaves (ts.length+o.least) (Z3 f o d ts):=by
 intro f;induction f with
 |zero=>intro o d ts;unfold Z3;exact Leaves.none
 | succ f g =>
   intro o d ts;have m:∀{n:Nat} {o:Job} (d:Nat) (ts:List Tok),ts.length+o.least<=n->Leaves n (Z3 f o d ts):=λd ts h t ts' e=>Y7 (g _ d ts t ts' e) h;cases o with
   | stmts kind u =>
     unfold Z3;refine Leaves.ite (λ_=>Leaves.ok PU) λ_=>?_;exact Leaves.bind (Leaves.within (g .stmt _ _)) λt ts' h=>m _ _ Pi
   | block body =>
     unfold Z3;refine Leaves.want λh=>?_;refine Leaves.bind (g (.stmts 6 []) _ _) λt ts' F=>?_;refine Leaves.want λO=>Leaves.ok ?_;simp only[Job.least]at *;omega
   | func kind text =>
     unfold Z3;refine Leaves.want λh=>Leaves.bind (g (.params []) _ _) λt ts' F=>Leaves.want λh2=>Leaves.bind (g (.block true) _ _) λt ts' h3=>Leaves.ok ?_;simp only[Job.least]at *;omega
   | params u =>
     unfold Z3;refine Leaves.ite (λ_=>Leaves.ok PU) λ_=>?_;refine Leaves.comma λts' h=>Leaves.ite (λ_=>Leaves.fail) λ_=>Leaves.name λs h2=>m _ _ ?_;simp only[Job.least]at *;omega
   | around =>
     unfold Z3;refine Leaves.want λh=>Leaves.bind (g .value _ _) λt ts' F=>Leaves.want λh2=>Leaves.ok ?_;simp only[Job.least]at *;omega
   | stmt =>
     unfold Z3;have p:∀(n:Tree) (us:List Tok),us.length<=ts.length->Leaves (ts.length+Job.stmt.least) (tZ n us):=λn us h=>Leaves.want λh2=>Leaves.ok Pi;have I:=Zu ts;refine Leaves.ite (λh=>m _ _ PU) λ_=>?_;refine Leaves.ite (λh=>Leaves.ok PZ) λ_=>?_;refine Leaves.ite (λh=>Leaves.bind (g (.decl 2 false) _ _) λt us h2=>p _ _ Pi) λ_=>?_
     refine Leaves.ite (λh=>Leaves.bind (g (.decl 3 false) _ _) λt us h2=>p _ _ Pi) λ_=>?_;refine Leaves.ite (λh=>Leaves.bind (g (.decl 4 true) _ _) λt us h2=>p _ _ Pi) λ_=>?_;refine Leaves.ite (λh=>Leaves.name λs h2=>m _ _ Pi) λ_=>?_
     refine Leaves.ite (λh=>Leaves.bind (g .around _ _) λt us h2=>Leaves.bind (Leaves.within (g .stmt _ _)) λt vs h3=>Leaves.ite (λh4=>Leaves.bind (Leaves.within (g .stmt _ _)) λt J h5=>Leaves.ok (by have:=Zu vs;simp only[Job.least]at *;omega)) (λ_=>Leaves.ok Pi)) λ_=>?_;refine Leaves.ite (λh=>Leaves.bind (g .around _ _) λt us h2=>Leaves.bind (Leaves.within (g .stmt _ _)) λt vs h3=>Leaves.ok Pi) λ_=>?_
     refine Leaves.ite (λh=>Leaves.bind (g .around _ _) λt us h2=>Leaves.bind (Leaves.within (g .stmt _ _)) λt vs h3=>Leaves.ok Pi) λ_=>?_;refine Leaves.ite (λh=>Leaves.ite (λh1=>p _ _ I) (λ_=>Leaves.bind (g .value _ _) λt us h2=>p _ _ Pi)) λ_=>?_;refine Leaves.ite (λh=>Leaves.bind (g .value _ _) λt us h2=>p _ _ Pi) λ_=>?_;refine Leaves.ite (λh=>m _ _ Pi) λ_=>?_
     exact Leaves.bind (g .value _ _) λt us h2=>p _ _ Pi
   | decl kind U =>
     unfold Z3;refine Leaves.name λs h=>Leaves.ite (λ_=>Leaves.fail) λ_=>Leaves.ite (λh2=>Leaves.bind (g .value _ _) λt us h3=>Leaves.ok ?_) λ_=>Leaves.ok ?_;·have:=Zu ts.tail;simp only[Job.least]at *;omega
     .simp only[Job.least]at *;omega
   | try_ =>
     unfold Z3;refine Leaves.bind (g (.block false) _ _) λb us h=>?_;have hk:∀(l:List Tree) (vs:List Tok),vs.length<=us.length->Leaves (ts.length+Job.try_.least) (if aa CP vs then Zr (Z3 f (.block false) d vs.tail) λc ts=>iy (.mk 12 ByteArray.empty 0 (l++[.mk 14 ByteArray.empty 0 [c]])) ts else if l.length=1 then vg 3 vs else iy (.mk 12 ByteArray.empty 0 l) vs):=by
      intro l vs h2;have:=Zu vs;refine Leaves.ite (λ_=>Leaves.bind (g (.block false) _ _) λt J h3=>Leaves.ok ?_) λ_=>Leaves.ite (λ_=>Leaves.fail) λ_=>Leaves.ok ?_;·simp only[Job.least]at *;omega
      .simp only[Job.least]at *;omega
     refine Leaves.ite (λh1=>?_) λ_=>hk _ _ (Y0 _);refine Leaves.want λh2=>Leaves.name λs h3=>Leaves.want λh4=>Leaves.bind (g (.block false) _ _) λc vs h5=>hk _ _ ?_;have:=Zu us;simp only[Job.least]at *;omega
   |value=>unfold Z3;exact Leaves.within (m _ _ PU)
   | assign =>
     unfold Z3;refine Leaves.bind (g (.bin 0) _ _) λx us h=>Leaves.ite (λh1=>Leaves.ite (λ_=>Leaves.bind (g .value _ _) λy vs h2=>Leaves.ok ?_) λ_=>Leaves.err) λ_=>Leaves.ok ?_;·have:=Zu us;simp only[Job.least]at *;omega
     .simp only[Job.least]at *;omega
   | bin E =>
     unfold Z3;refine Leaves.ite (λ_=>m _ _ PU) λ_=>Leaves.bind (g (.bin (E+1)) _ _) λx us h=>m _ _ ?_;simp only[Job.least]at *;omega
   | binLoop E x =>
     unfold Z3;refine Leaves.ite (λ_=>Leaves.ok PU) λ_=>Leaves.bind (g (.bin (E+1)) _ _) λy us h=>m _ _ ?_;have:=Zu ts;simp only[Job.least]at *;omega
   | unary =>
     unfold Z3;refine Leaves.ite (λ_=>m _ _ PU) λ_=>Leaves.bind (Leaves.within (g .unary _ _)) λy us h=>Leaves.ok ?_;have:=Zu ts;simp only[Job.least]at *;omega
   | postfix_ =>
     unfold Z3;refine Leaves.bind (g .primary _ _) λy us h=>m _ _ ?_;simp only[Job.least]at *;omega
   | postLoop x =>
     unfold Z3;have:=Zu ts;refine Leaves.ite (λ_=>Leaves.name λs h=>m _ _ Pi) λ_=>Leaves.ite (λ_=>Leaves.bind (g (.args [x]) _ _) λy us h=>m _ _ Pi) λ_=>Leaves.ok PU
   | args u =>
     unfold Z3;refine Leaves.ite (λh=>Leaves.ok PZ) λ_=>Leaves.comma λus h=>Leaves.ite (λ_=>Leaves.fail) λ_=>Leaves.bind (g .value _ _) λy vs h2=>m _ _ Pi
   | primary =>
     unfold Z3;have:=Zu ts;have:=Zu ts.tail;refine Leaves.ite (λh=>Leaves.ok PD) λ_=>?_;refine Leaves.ite (λh=>Leaves.ok PD) λ_=>?_;refine Leaves.ite (λh=>Leaves.ok PD) λ_=>?_;refine Leaves.ite (λh=>Leaves.ok ?_) λ_=>?_
     .have:ts.tail.length<ts.length:=by
       exact ZW
      simp only[Job.least]at *;omega
     refine Leaves.ite (λ_=>m _ _ PU) λ_=>?_;refine Leaves.ite (λ_=>Leaves.ite (λ_=>m _ _ Pi) λ_=>m _ _ Pi) λ_=>?_;exact Leaves.ite (λ_=>m _ _ Pi) λ_=>Leaves.fail
   | object u =>
     unfold Z3;refine Leaves.ite (λh=>Leaves.ok PZ) λ_=>Leaves.comma λus h=>Leaves.ite (λ_=>Leaves.fail) λ_=>Leaves.name λs h1=>Leaves.want λh2=>Leaves.bind (g .value _ _) λy vs h2=>m _ _ Pi
def Job.rank:Job->Nat
 | .stmts ..=>30
 | .block _=>5
 | .func ..=>1
 | .params _=>1
 | .around=>1
 | .stmt=>20
 | .decl ..=>1
 | .try_=>6
 | .value=>19
 | .assign=>18
 | .bin g=>10+(6-g)
 | .binLoop ..=>31
 | .unary=>9
 | .postfix_=>8
 | .postLoop _=>31
 | .args _=>31
 | .primary=>7
 | .object _=>31
def Z9(p:PR):Prop:=p≠none
theorem Z9.fail{e:Int}{ts:List Tok}:Z9 (vg e ts):=by simp[Z9,vg]
theorem Z9.ok{t:Tree}{ts:List Tok}:Z9 (iy t ts):=by simp[Z9,iy]
theorem Z9.bind{p:PR}{k:Tree->List Tok->PR}{n:Nat}(hp:Z9 p)(hl:Leaves n p)(hk:∀t ts,ts.length<n->Z9 (k t ts)):Z9 (Zr p k):=by
 cases p with
 |none=>exact absurd rfl hp
 | some r =>
   cases r with
   |error e=>simp[Z9,Zr]
   |ok x=>obtain⟨t,ts⟩:=x;exact hk t ts (hl t ts rfl)
theorem Z9.want{s:ByteArray}{ts:List Tok}{k:List Tok->PR}(hk:ts.tail.length<ts.length->Z9 (k ts.tail)):Z9 (iB s ts k):=by
 unfold iB;by_cases h:aa s ts=true;·rw[Y5 h];exact hk (Zm h)
 .rw[Y3 h];exact Z9.fail
theorem Z9.name{ts:List Tok}{k:ByteArray->List Tok->PR}(hk:∀s,ts.tail.length<ts.length->Z9 (k s ts.tail)):Z9 (wc ts k):=by
 unfold wc;by_cases h:(bL ts).kind=1;·rw[Y5 h];exact hk _ (Xw O')
 .rw[Y3 h];exact Z9.fail
theorem Z9.within{d:Nat}{ts:List Tok}{p:PR}(h:Z9 p):Z9 (vX d ts p):=by
 unfold vX;by_cases g:30<d+1;·rw[Y5 g];exact Z9.fail
 .rw[Y3 g];exact h
theorem Z9.ite{c:Prop} [Decidable c]{p q:PR}(hp:c->Z9 p)(hq:¬c->Z9 q):Z9 (if c then p else q):=by
 by_cases h:c;·rw[Y5 h];exact hp h
 .rw[Y3 h];exact hq h
theorem Z9.comma{c:Prop} [Decidable c]{ts:List Tok}{k:List Tok->PR}(hk:∀ts',ts'.length<=ts.length->Z9 (k ts')):Z9 ((if c then iB wJ ts else λk=>k ts) k):=by
 by_cases h:c;·rw[Y5 h];exact Z9.want λg=>hk _ O'
 .rw[Y3 h];exact hk _ (Y0 _)
theorem Z9b{ts:List Tok}(h:¬K6 ts=0):ts.tail.length<ts.length:=by
 unfold K6 at h;by_cases g:aa Q' ts=true;·exact Zm g
 .by_cases m:aa Sa ts=true;·exact Zm m
  .by_cases o:aa Su ts=true;·exact Zm o
   .simp[g,m,o]at h
theorem Z78{o:Nat}{ts:List Tok}(h:¬wK o ts=0):ts.tail.length<ts.length:=by
 have g:∀{s:ByteArray} {x y:Int},¬(if aa s ts then x else y)=0->¬y=0∨ts.tail.length<ts.length:=by
  intro s x y h;by_cases m:aa s ts=true;·exact .inr (Zm m)
  .rw[Y3 m]at h;exact .inl h
 unfold wK at h;split at h
 all_goals first
  |exact absurd rfl h
  |(rcases g h with h|h;(exact absurd rfl h);exact h)
  |(rcases g h with h|h;(rcases g h with h|h;(exact absurd rfl h);exact h);exact h)
theorem Zib:∀(f:Nat) (m:Job) (d:Nat) (ts:List Tok),40*ts.length+m.rank<f->Z9 (Z3 f m d ts):=by
 intro f;induction f with
 |zero=>intro m d ts h;omega
 | succ f ih =>
   intro m d ts hf;have L:=Ut f;have J:=Zu ts;cases m with
   | stmts kind p =>
     unfold Z3;refine Z9.ite (λ_=>Z9.ok) λ_=>Z9.bind (n:=ts.length) (Z9.within (ih _ _ _ Pf)) (Leaves.within (L .stmt _ _)) λt us h=>ih _ _ _ Pf
   | block body =>
     exact Zvn
   | func kind text =>
     unfold Z3;refine Z9.want λh=>Z9.bind (ih _ _ _ Pf) (L (.params []) _ _) λt us h=>Z9.want λh2=>Z9.bind (ih _ _ _ Pn) (L _ _ _) λt us h=>Z9.ok
   | params p =>
     unfold Z3;refine Z9.ite (λ_=>Z9.ok) λ_=>Z9.comma λus h=>Z9.ite (λ_=>Z9.fail) λ_=>Z9.name λs h2=>ih _ _ _ Pf
   | around =>
     exact Zvn
   | stmt =>
     unfold Z3;have g:∀(n:Tree) (us:List Tok),Z9 (tZ n us):=λn us=>Z9.want λh2=>Z9.ok;refine Z9.ite (λh=>ih _ _ _ Pf) λ_=>?_;refine Z9.ite (λh=>Z9.ok) λ_=>?_;refine Z9.ite (λh=>Z9.bind (ih _ _ _ Pf) (L _ _ _) λt us h2=>g _ _) λ_=>?_;refine Z9.ite (λh=>Z9.bind (ih _ _ _ Pf) (L _ _ _) λt us h2=>g _ _) λ_=>?_
     refine Z9.ite (λh=>Z9.bind (ih _ _ _ Pf) (L _ _ _) λt us h2=>g _ _) λ_=>?_;refine Z9.ite (λh=>Z9.name λs h2=>ih _ _ _ Pf) λ_=>?_;refine Z9.ite (λh=>?_) λ_=>?_
     .have:=Zm h;refine Z9.bind (ih _ _ _ Pf) (L .around _ _) λt us h2=>?_;refine Z9.bind (Z9.within (ih _ _ _ Pn)) (Leaves.within (L .stmt _ _)) λt vs h3=>?_;have:=Zu vs;exact Z9.ite (λF=>Z9.bind (Z9.within (ih _ _ _ Pn)) (Leaves.within (L .stmt _ _)) λt I h5=>Z9.ok) λ_=>Z9.ok
     refine Z9.ite (λh=>?_) λ_=>?_;·exact X6
     refine Z9.ite (λh=>?_) λ_=>?_;·exact X6
     refine Z9.ite (λh=>Z9.ite (λu=>g _ _) λ_=>Z9.bind (ih _ _ _ Pf) (L _ _ _) λt us h2=>g _ _) λ_=>?_;refine Z9.ite (λh=>Z9.bind (ih _ _ _ Pf) (L _ _ _) λt us h2=>g _ _) λ_=>?_;refine Z9.ite (λh=>ih _ _ _ Pf) λ_=>?_;exact Z9.bind (ih _ _ _ Pf) (L _ _ _) λt us h2=>g _ _
   | decl kind O =>
     unfold Z3;refine Z9.name λs h=>Z9.ite (λ_=>Z9.fail) λ_=>Z9.ite (λh2=>Z9.bind (ih _ _ _ ?_) (L _ _ _) λt us h3=>Z9.ok) λ_=>Z9.ok;have:=Zu ts.tail;simp only[Job.rank]at *;omega
   | try_ =>
     unfold Z3;refine Z9.bind (ih _ _ _ Pf) (L (.block false) _ _) λb us h=>?_;have hk:∀(l:List Tree) (vs:List Tok),vs.length<=us.length->Z9 (if aa CP vs then Zr (Z3 f (.block false) d vs.tail) λc ts=>iy (.mk 12 ByteArray.empty 0 (l++[.mk 14 ByteArray.empty 0 [c]])) ts else if l.length=1 then vg 3 vs else iy (.mk 12 ByteArray.empty 0 l) vs):=by
      intro l vs h2;have:=Zu vs;exact Z9.ite (λ_=>Z9.bind (ih _ _ _ Pn) (L _ _ _) λt I h3=>Z9.ok) λ_=>Z9.ite (λ_=>Z9.fail) λ_=>Z9.ok
     refine Z9.ite (λu=>?_) λ_=>hk _ _ (Y0 _);have:=Zu us;refine Z9.want λh2=>Z9.name λs h3=>Z9.want λF=>Z9.bind (ih _ _ _ Pn) (L (.block false) _ _) λc vs h5=>hk _ _ ?_;simp only[Job.least]at *;omega
   |value=>unfold Z3;exact Z9.within (ih _ _ _ Pf)
   | assign =>
     unfold Z3;refine Z9.bind (ih _ _ _ Pf) (L (.bin 0) _ _) λx us h=>Z9.ite (λu=>Z9.ite (λ_=>Z9.bind (ih _ _ _ ?_) (L _ _ _) λy vs h2=>Z9.ok) λ_=>by simp[Z9]) λ_=>Z9.ok;have:=Zu us;simp only[Job.rank,Job.least]at *;omega
   | bin E =>
     unfold Z3;refine Z9.ite (λh=>ih _ _ _ Pf) λh=>Z9.bind (ih _ _ _ Pf) (L (.bin (E+1)) _ _) λx us h=>ih _ _ _ Pn
   | binLoop E x =>
     unfold Z3;refine Z9.ite (λ_=>Z9.ok) λo=>Z9.bind (ih _ _ _ ?_) (L (.bin (E+1)) _ _) λy us h=>ih _ _ _ ?_;·have:=Z78 o;simp only[Job.rank]at *;omega
     .have:=Z78 o;simp only[Job.rank,Job.least]at *;omega
   | unary =>
     unfold Z3;refine Z9.ite (λ_=>ih _ _ _ Pf) λo=>Z9.bind (Z9.within (ih _ _ _ ?_)) (Leaves.within (L _ _ _)) λy us h=>Z9.ok;have:=Z9b o;simp only[Job.rank]at *;omega
   | postfix_ =>
     unfold Z3;exact Z9.bind (ih _ _ _ Pf) (L .primary _ _) λy us h=>ih _ _ _ Pn
   | postLoop x =>
     unfold Z3;refine Z9.ite (λh=>Z9.name λs h2=>ih _ _ _ Pf) λ_=>Z9.ite (λh=>?_) λ_=>Z9.ok;have:=Zm h;exact Z9.bind (ih _ _ _ Pf) (L (.args [x]) _ _) λy us h=>ih _ _ _ Pn
   | args p =>
     unfold Z3;exact Z9.ite (λh=>Z9.ok) λ_=>Z9.comma λus h=>Z9.ite (λ_=>Z9.fail) λ_=>Z9.bind (ih _ _ _ Pf) (L .value _ _) λy vs h2=>ih _ _ _ Pn
   | primary =>
     unfold Z3;have:=Zu ts.tail;refine Z9.ite (λ_=>Z9.ok) λ_=>Z9.ite (λ_=>Z9.ok) λ_=>Z9.ite (λ_=>Z9.ok) λ_=>Z9.ite (λ_=>Z9.ok) λ_=>?_;refine Z9.ite (λ_=>ih _ _ _ Pf) λ_=>?_;refine Z9.ite (λ_=>Z9.ite (λ_=>ih _ _ _ Pf) λ_=>ih _ _ _ Pf) λ_=>?_;exact Z9.ite (λh=>ih _ _ _ (by have:=Zm h;simp only[Job.rank]at *;omega)) λ_=>Z9.fail
   | object p =>
     unfold Z3;exact Z9.ite (λh=>Z9.ok) λ_=>Z9.comma λus h=>Z9.ite (λ_=>Z9.fail) λ_=>Z9.name λs u=>Z9.want λh2=>Z9.bind (ih _ _ _ Pf) (L .value _ _) λy vs h2=>ih _ _ _ Pn
def xG (text:ByteArray):Except (Int×Int) Tree:=
 if 3000<text.size then .error (4,-1)
 else match Wu text with
  | .error (e,p)=>.error (e,p)
  | .ok ts => match Z3 (40 * ts.length + 31) (.stmts 1 []) 0 ts with
    |none=>.error (0,-2)
    |some (.error (e,p))=>.error (e,p)
    |some (.ok (t,_))=>if 1500<t.many then .error (4,-1)else .ok t
end Go.Proofs.YtjikfacdcdiddaaGreatDoor
namespace Go.Proofs
def Tryz.lays137_ren:Go.Shelf.Ren:=⟨fun|137=>61|217=>93|266=>125|n=>n,fun|9=>9|5=>5|3=>3|n=>n,fun|n=>n⟩
theorem Tryz.lays137:Go.Proofs.Lays.n137 Tryz.prog Tryz.lays137_ren:={
 mixed:=by kernel_rfl
 f137:=Tryz.func61.trans (congrArg some (by kernel_rfl))
 f217:=Tryz.func93.trans (congrArg some (by kernel_rfl))
 f266:=Tryz.func125.trans (congrArg some (by kernel_rfl))
 t3:=Tryz.underlying3
 a3:=Tryz.isAgg3
 z3:=Tryz.sizeOf3
 v3:=Tryz.zeroValue3
 t5:=Tryz.underlying5
 a5:=Tryz.isAgg5
 z5:=Tryz.sizeOf5
 v5:=Tryz.zeroValue5
 t9:=Tryz.underlying9
 a9:=Tryz.isAgg9
 z9:=Tryz.sizeOf9
 v9:=Tryz.zeroValue9}
open Go.RowKit in
theorem Tryz.strings_IndexByte(s:ByteArray)(c:Int)(w:World) :
 Calls Tryz.prog 61 #[.string s,.int .u8 c] w λe w'=>e=.returned (.int .i64 (Lib.indexByte s.data.toList c.toNat.toUInt8))∧w'=w:=Any.strings_IndexByte Tryz.lays137 s c w
end Go.Proofs
namespace Go.Proofs.YtjikfacdcdiddaaGreatDoor
open Go Go.RowKit
theorem ScanAt.bfr{w0 w w':World}{sb b B a:Nat}{text:ByteArray}{p v g:Value}{m:List Value}(h:ScanAt w0 w sb text a)(hb:BAt B w b p v m)(hs:sb<B)(o:w0.heap.size<=B)(f:BFr w w' b v g):ScanAt w0 w' sb text a:=by
 have hr:∀k,k<B->v.ownBlock≠some k:=λk hk e=>by have:=(hb.own.lt k e).1;omega
 have u:=hb.le
 exact⟨(f.block sb h.lt O' (hr sb hs)).trans h.blk,f.os.trans h.os,f.tape.trans h.tape,f.output.trans h.output,Y4 h.size f.size,
  λk hk hn=>(f.block k (Y7 hk h.size) O' (hr k O')).trans (h.block k hk hn)⟩
theorem BAt.set{B:Nat}{w:World}{b sb:Nat}{p v:Value}{m:List Value}(h:BAt B w b p v m)(hs:sb<B)(x:Value):BAt B (w.setCell ⟨sb,1,none⟩ x) b p v m:=by
 have u:=h.le;exact⟨(Y8 _ _ _ _ Pe).trans h.blk,h.ptr,Z2 h.own λg o=>Y8 _ _ _ _ (by have:=(h.own.lt g o).1;simp;omega),h.ne,h.le⟩
theorem BAt.drew{B:Nat}{w:World}{b:Nat}{p v:Value}{g:List Value}(h:BAt B w b p v g):BAt B w.drew b p v g:=⟨h.blk,h.ptr,h.own,h.ne,h.le⟩
theorem BAt.new(w:World):BAt w.heap.size (w.alloc (.cells #[.pointer none,.slice none 0 0] 186)) w.heap.size (.pointer none) (.slice none 0 0) []:=
 ⟨heap_alloc_new w _,.inl rfl,World.ownsRow_nil _ _ _ _,by simp[Value.ownBlock],Y0 _⟩
