/- Walks of package heap that change it: slices.DeleteFunc over bindings. -/
import Derived.Test.YtjikfacdcdiddaaGreatDoorJ03
import Derived.Shelf.LaysM
import Derived.Shelf.Strconv.Itoa3
import Derived.Lib.AppendIntMem
set_option linter.unusedSimpArgs false
set_option maxRecDepth 100000
set_option maxHeartbeats 20000000
namespace Go.Proofs.YtjikfacdcdiddaaGreatDoor
open Go Go.RowKit
theorem Z77(w:World)(g:Addr)(name n s:ByteArray)(k m o:Int)(rd:Bool)(hx:w.cell? g=some (.string name))(hb:g.block<w.heap.size) :
 Calls Tryz.prog 152 #[.agg #[.string n,vI k,vI m,.string s,vI o,.bool rd],.pointer (some g)] w λe w'=>e=.returned (.bool (Zg n name))∧Below w.heap.size w w':=by
 go_enter Tryz.func152,Tryz.ntmps152
 exact Zpj
theorem Zt4(w:World)(bx:Addr)(name:ByteArray)(hx:w.cell? bx=some (.string name))(hb:bx.block<w.heap.size)(v:Value)(l:List LBind)
 (af:w.ownsRow 0 159 6 v l.length (l.flatMap LBind.cells)) :
 Calls Tryz.prog 74 #[v,.func (.func 152) #[] #[.pointer (some bx)]] w λe w'=>e=.returned (vI (tL (l.findIdx? (LBind.is name))))∧Below w.heap.size w w':=by
 have ae:=λg hg i j a x=>Md (f:=LBind.cells) (m:=6) (λ_=>rfl) af (g:=g) hg (i:=i) (j:=j) (a:=a) (x:=x);rcases Z4 af with⟨hv,hz⟩|⟨g,c,hv,o,u,hg⟩;·exact YG
 .subst hv;have hc:=ae g rfl;clear af ae;obtain⟨n,hn⟩:=zX l.length
  rw[<-hn]at o ⊢;unfold maxLen at u;have HN:=lh hn;clear hn;go_enter Tryz.func74,Tryz.ntmps74
  go_wp2;go_loopw [5,8] (λ_ i wr=>∃k:Nat,i=(vI k)∧k<=n∧(∀j a,j<k->l[j]?=some a->LBind.is name a=false)∧Below w.heap.size w wr) (λ_ i _=>n-(intOf i).toNat)
  case atStart=>exact⟨0,rfl,by omega,λj a hj=>by omega,Y2 _ _⟩
  case round=>
   obtain⟨k,rfl,hk,dM,hB⟩:=hrel;have aH:n=l.length:=HN.o;by_cases F:k<n
   .have y:k<l.length:=by omega
    have ed:l[k]?=some l[k]:=Y6 y;generalize l[k]=b at ed;obtain⟨bn,⟨bk,bm,bs⟩,mn,kn⟩:=b;refine YY ?_;intro c0 c1 c2 c3 c4 c5 mp dB;have HG:=lh ed;have HO:=lh dM;clear ed dM hc hx aH;by_cases hq:Zg bn name=true
    .go_wp2_with (go_at_call 152;refine(Z77 _ bx name bn bs bk bm mn kn mp dB).mono ?_;rintro e w1⟨rfl,aL⟩)
     exact Zqz
    .go_wp2_with (go_at_call 152;refine(Z77 _ bx name bn bs bk bm mn kn mp dB).mono ?_;rintro e w1⟨rfl,aL⟩)
     exact Yp
   .have E:k=n:=by omega
    subst E;have HO:=lh dM;exact U5
theorem Zhk{w:World}{base:Nat}{e:TypeId}{g cap n:Nat}{l:List LBind}(h:w.ownsRow base e 6 (.slice (some ⟨g,0,none⟩) n cap) n (l.flatMap LBind.cells)){k:Nat}(hk:k<l.length)(b:LBind) :
 ((((((w.setCell ⟨g,k*6,none⟩ (.string b.name)).setCell ⟨g,k*6+1,none⟩ (vI b.v.kind)).setCell ⟨g,k*6+2,none⟩ (vI b.v.n)).setCell ⟨g,k*6+3,none⟩ (.string b.v.s)).setCell ⟨g,k*6+4,none⟩ (vI b.kind)).setCell ⟨g,k*6+5,none⟩ (.bool b.ready)).ownsRow base e 6 (.slice (some ⟨g,0,none⟩) n cap) n ((l.set k b).flatMap LBind.cells):=by
 have m:=((((((((((h.stored (k * 6) (.string b.name)).1.stored (k * 6 + 1) (vI b.v.kind)).1).stored (k * 6 + 2) (vI b.v.n)).1).stored (k * 6 + 3) (.string b.v.s)).1).stored (k * 6 + 4) (vI b.kind)).1).stored (k * 6 + 5) (.bool b.ready)).1;have:(l.set k b).flatMap LBind.cells=((((((l.flatMap LBind.cells).set (k * 6) (.string b.name)).set (k * 6 + 1) (vI b.v.kind)).set (k * 6 + 2) (vI b.v.n)).set (k * 6 + 3) (.string b.v.s)).set (k * 6 + 4) (vI b.kind)).set (k * 6 + 5) (.bool b.ready):=by
  clear h m;induction l generalizing k with
  |nil=>simp at hk
  | cons c l o =>
    cases k with
    | zero =>
      simp only[List.set_cons_zero,List.flatMap_cons,Nat.zero_mul,Nat.zero_add];rfl
    | succ k =>
      simp only[List.set_cons_succ,List.flatMap_cons];have e:(k+1)*6=(LBind.cells c).length+k*6:=by simp[LBind.cells];omega
      rw[e];simp only[Nat.add_assoc];rw[List.set_append_right _ _ O',List.set_append_right _ _ O',List.set_append_right _ _ O',List.set_append_right _ _ O',List.set_append_right _ _ O',List.set_append_right _ _ O'];simp only[Nat.add_sub_cancel_left];rw[o QI]
 rw[this];exact m
theorem Wp{w0 w:World}{g o:Nat}(m:w0.grownBy w (some g))(a:Value):w0.grownBy (w.setCell ⟨g,o,none⟩ a) (some g):=
 ⟨m.os,m.tape,m.output,by rw[Yf];exact m.size,λb hb p=>(Y8 _ _ _ _ (λe=>p (by rw[e]))).trans (m.block b hb p)⟩
theorem Zeu{w0 w:World}{g:Nat}(m:w0.grownBy w (some g))(k:Nat)(a b c d e f:Value) :
 w0.grownBy ((((((w.setCell ⟨g,k,none⟩ a).setCell ⟨g,k+1,none⟩ b).setCell ⟨g,k+2,none⟩ c).setCell ⟨g,k+3,none⟩ d).setCell ⟨g,k+4,none⟩ e).setCell ⟨g,k+5,none⟩ f) (some g):=
 Wp (Wp (Wp (Wp (Wp (Wp m a) b) c) d) e) f
theorem Z6r{w0 w w':World}{row:Option Nat}(g:w0.grownBy w row)(m:Below w.heap.size w w'):w0.grownBy w' row:=
 ⟨m.os.trans g.os,m.tape.trans g.tape,m.output.trans g.output,Y4 g.size m.size,λb hb o=>(m.block b (Y7 hb g.size)).trans (g.block b hb o)⟩
theorem Zdx(w:World)(row:Option Nat):w.grownBy w row:=⟨rfl,rfl,rfl,Y0 _,λ_ _ _=>rfl⟩
theorem Z64{α:Type}{f:α->List Value}{m:Nat}(hf:∀a,(f a).length=m)(l:List α)(i:Nat):(l.take i).flatMap f=(l.flatMap f).take (i*m):=by
 induction l generalizing i with
 |nil=>simp
 | cons a l g =>
   cases i with
   |zero=>simp
   | succ i =>
     simp only[List.take_succ_cons,List.flatMap_cons];rw[g,show(i+1)*m=(f a).length+i*m by rw[hf,Nat.succ_mul];omega,List.take_length_add_append]
theorem Zdl{P:Program}{w:World}{e t:TypeId}{m:Nat}{g cap:Nat}{α:Type}{f:α->List Value}{l:List α}(hf:∀a,(f a).length=m)(J:0<m)(z:Value)(ht:P.underlying t=some (.slice e))(O:∀w,(zeroValue e).run P w=.ok z w)(y:z.cells.size=m)
 (U:∀v∈z.cells.toList,v.oneCell'=true)(h:w.ownsRow 0 e m (.slice (some ⟨g,0,none⟩) l.length cap) l.length (l.flatMap f)){i:Nat}(hi:i<l.length)(X:TypeId) :
 ∃w',(Builtin.clear_ #[t] X #[.slice (some ⟨g,i*m,none⟩) (l.length-i) (cap-i)]).run P w=.ok (.tuple #[]) w'∧w'.ownsRow 0 e m (.slice (some ⟨g,0,none⟩) i cap) i ((l.take i).flatMap f)∧w.grownBy w' (some g):=by
 rcases h.2 with⟨o,_⟩|⟨g',yE,p,o,hb,E,Y,Z,u,nr⟩;·simp at o
 simp only[Value.slice.injEq,Option.some.injEq,Addr.mk.injEq,and_true,true_and]at o;obtain⟨rfl,rfl⟩:=o;have F:(Builtin.zeroCells z.cells (l.length-i)).toList.length=(l.length-i)*m:=by rw[Array.length_toList,size_zeroCells,y]
 have nZ:l.length*m<=cap*m:=Nat.mul_le_mul_right _ Y;have Dp:(l.length-i)*m=l.length*m-i*m:=Nat.sub_mul ..;have Dq:i*m<=l.length*m:=Nat.mul_le_mul_right _ O';have hst:=run_storeCells_at P g (i*m) e (Builtin.zeroCells z.cells (l.length-i)).toList 0 p w E (by rw[F,u];omega) (by
  intro v I;simp only[Builtin.zeroCells]at I;obtain⟨k,hk,rfl⟩:=List.getElem_of_mem I;simp only[Array.getElem_toList];rcases Nat.lt_or_ge (k %z.cells.size) z.cells.size with o|o;·exact U _ (by simp[o])
  .rw[y]at o;exact absurd (Nat.mod_lt k J) O')
 have fW:∃d,l.length-i=d+1:=⟨l.length-i-1,by omega⟩
 obtain⟨d,hd⟩:=fW;refine⟨w.setRow g (p.toList.take (i*m+0)++(Builtin.zeroCells z.cells (l.length-i)).toList++p.toList.drop (i*m+0+(Builtin.zeroCells z.cells (l.length-i)).toList.length)).toArray,?_,?_,?_⟩
 .rw[hd]at hst ⊢;simp[Builtin.clear_,run_underlying ht,O,hst]
 .refine⟨by rw[U3 hf,List.length_take];congr 1;omega,.inr ⟨g,cap,_,rfl,Yh _,setRow_heap w g p _ e (0,0) E,by omega,Z,?_,?_⟩⟩
  .simp only[Nat.add_zero,List.size_toArray,List.length_append,List.length_take,List.length_drop,Array.length_toList,u];rw[<-Array.length_toList,F];omega
  .simp only[Nat.add_zero,List.append_assoc];rw[List.take_append_of_le_length (by simp only[List.length_take,Array.length_toList,u];omega),List.take_take,Nat.min_self];have e1:=Z64 hf l i;rw[e1,<-nr,List.take_take,Nat.min_eq_left Dq]
 .exact⟨rfl,rfl,rfl,by simp,λk hk aK=>setRow_other w g k _ (λe=>aK (by rw[e]))⟩
def unnamed(name:ByteArray)(l:List LBind):List LBind:=l.filter λb=>!LBind.is name b
theorem Zns(w:World):(zeroValue 159).run Tryz.prog w=.ok (.agg #[.string ⟨#[]⟩,vI 0,vI 0,.string ⟨#[]⟩,vI 0,.bool false]) w:=by kernel_rfl
theorem Z33{name:ByteArray}{l:List LBind}{j:Nat}{b:LBind}(h:l[j]?=some b):unnamed name (l.take (j+1))=unnamed name (l.take j)++(if LBind.is name b then[]else[b]):=by
 unfold unnamed;rw[List.take_add_one,h,Option.toList_some,List.filter_append];congr 1
 by_cases hb:LBind.is name b=true<;>simp[hb]
theorem Z8o{name:ByteArray}{l:List LBind}(h:∀(j:Nat) b,l[j]?=some b->LBind.is name b=false):unnamed name l=l:=by
 unfold unnamed;rw[List.filter_eq_self];intro b hb;obtain⟨j,g,rfl⟩:=List.getElem_of_mem hb;rw[h j _ (Y6 g)];rfl
theorem Zap(w:World)(y:Addr)(name:ByteArray)(hx:w.cell? y=some (.string name))(hb:y.block<w.heap.size)(v:Value)(l:List LBind)(gD:v.ownBlock≠some y.block)
 (p:w.ownsRow 0 159 6 v l.length (l.flatMap LBind.cells)) :
 Calls Tryz.prog 151 #[v,.func (.func 152) #[] #[.pointer (some y)]] w λe w'=>∃v',e=.returned v'∧w'.ownsRow 0 159 6 v' (unnamed name l).length ((unnamed name l).flatMap LBind.cells)∧w.grownBy w' v.ownBlock∧v'.ownBlock=v.ownBlock:=by
 have HI:=lh (Zt4 w y name hx hb v l p);rcases ji:l.findIdx? (LBind.is name)with _|I
 .rw[ji]at HI;have an:unnamed name l=l:=by
   have:=List.findIdx?_eq_none_iff.1 ji;exact Z8o λj b hj=>this b (Yd hj)
  rw[an];have HO:=lh p;clear p an ji hx;go_enter Tryz.func151,Tryz.ntmps151
  go_wp2_with fail
  refine HI.o.mono ?_;rintro e w1⟨rfl,o⟩;simp only[tL];have HB:=lh o;clear o;go_wp2;go_ret;exact⟨v,rfl,Z2 HO.o λg hg=>HB.o.block g (HO.o.lt g hg).2,Z6r (Zdx w v.ownBlock) HB.o,rfl⟩
 ·rw [ji] at HI;obtain ⟨nu, yG, nw⟩ := List.findIdx?_eq_some_iff_getElem.1 ji;rcases Z4 p with ⟨rfl, hz⟩ | ⟨g, c, rfl, h1, h2, hg⟩;·omega
  unfold maxLen at h2;have gU:g≠y.block:=λe=>gD (by rw[<-e];rfl);obtain⟨n,hn⟩:=zX l.length
  rw[<-hn]at h1 p HI ⊢;have KL:I<n:=O'
  have yH:unnamed name (l.take I)=l.take I:=Z8o λj b hj=>by
   have pK:j<I:=by have:=getElem?_lt hj;simp at this;omega
   rw[List.getElem?_take,Y5 pK]at hj;obtain⟨iH,rfl⟩:=List.getElem?_eq_some_iff.1 hj;simpa using nw j pK
  have yI:unnamed name (l.take (I+1))=l.take I:=by
   rw[Z33 (Y6 nu),yH,Y5 yG,List.append_nil]
  have HN:=lh hn;have HO:=lh p;have HU:=lh yI;clear p ji yG nw yH yI gD hn;have d9:((I:Int)== -1)=false:=beq_eq_false_iff_ne.2 O';go_enter Tryz.func151,Tryz.ntmps151
  go_wp2_with fail
  refine HI.o.mono ?_;rintro e w1⟨rfl,o⟩;simp only[tL];have HB:=lh o;clear o;go_wp2_with fail
  go_loopw [5,6,7] (λa b _ wr=>∃(i j:Nat) (M:List LBind),a=(vI i)∧b=(vI j)∧i<j∧j<=n∧M.length=n∧M.take i=unnamed name (l.take j)∧M.drop j=l.drop j∧wr.ownsRow 0 159 6 (.slice (some ⟨g,0,none⟩) n c) n (M.flatMap LBind.cells)∧w.grownBy wr (some g)) (λ_ b _ _=>n-(intOf b).toNat)
  case atStart=>
   refine⟨I,I+1,l,by go_num,by go_num,by omega,by omega,HN.o.symm,HU.o.symm,rfl,?_,Z6r (Zdx w _) HB.o⟩;exact Z2 HO.o λU ez=>HB.o.block U (HO.o.lt U ez).2
  case round=>
   obtain⟨i,j,M,rfl,rfl,BL,BO,hM,yJ,yK,p,u⟩:=hrel;have aH:n=l.length:=HN.o;have uT:wr.cell? y=some (.string name):=(Yb (u.block y.block hb (λe=>gU (Yc e).symm))).trans hx;have KM:y.block<wr.heap.size:=Y7 hb u.size;have cY:g<wr.heap.size:=Y7 hg u.size;by_cases aA:j<n
   .have Dr:M[j]?=l[j]?:=by
     have:=congrArg (λx:List LBind=>x[0]?) yK;simpa using this
    have lz:l[j]?=some l[j]:=Y6 O';have F:=Dr.trans lz;have Ds:M.drop (j+1)=l.drop (j+1):=by
     have:=congrArg (List.drop 1) yK;simpa using this
    generalize l[j]=b at lz F;have BP:M[i]?=some M[i]:=Y6 O';generalize M[i]=bi at BP;obtain⟨E,⟨X,Y,Z⟩,mn,kn⟩:=b;have J:=λk x j' b (dB:M[k]?=some b)=>Md (f:=LBind.cells) (m:=6) (λ_=>rfl) p (g:=g) rfl (i:=k) (j:=j') (x:=x) dB;have c0:wr.cell? ⟨g,j*6,none⟩=some (.string E):=J j (.string E) 0 _ F rfl;have c1:=J j (vI X) 1 _ F rfl;have c2:=J j (vI Y) 2 _ F rfl;have c3:=J j (.string Z) 3 _ F rfl
    have c4:=J j (vI mn) 4 _ F rfl;have c5:=J j (.bool kn) 5 _ F rfl;have sh:(wr.alloc (.cells #[.string E,vI X,vI Y,.string Z,vI mn,.bool kn] 159)).cell? y=some (.string name):=(Zb KM).trans uT;have hC:=Z77 _ y name E Z X Y mn kn sh Pe;have mG:=lh p;have nX:=lh u;have NV:=lh F;have GV:=lh lz;have GY:=lh Ds;have GZ:=lh yJ;have xy:=lh hM;have KN:=lh BP;by_cases hq:Zg E name=true
    .rw[hq]at hC;have HC:=lh hC;clear p u F lz Ds yJ hM BP yK Dr J hC sh aH;go_wp2_with fail
     refine HC.o.mono ?_;rintro e w1⟨rfl,o⟩;have av:=lh (UP o);clear o;go_wp2;go_roundw
     case rel=>
      refine⟨i,j+1,M,rfl,by go_num,by omega,by omega,xy.o,?_,GY.o,?_,Z6r nX.o av.o⟩;·rw[Z33 GV.o,GZ.o,Y5 (show LBind.is name ⟨E,⟨X,Y,Z⟩,mn,kn⟩=true from hq),List.append_nil]
      .exact Z2 mG.o λU ez=>av.o.block U (mG.o.lt U ez).2
     case measure=>simp[intOf];omega
    .have fk:Zg E name=false:=by simpa using hq
     rw[fk]at hC;have HC:=lh hC;have HR:=lh J;clear p u F lz Ds yJ hM BP yK Dr J hC sh aH;go_wp2_with fail
     refine HC.o.mono ?_;rintro e w1⟨rfl,o⟩;have q0:=Zx o 0 (.string E) rfl;have q1:=Zx o 1 (vI X) rfl;have q2:=Zx o 2 (vI Y) rfl;have q3:=Zx o 3 (.string Z) rfl;have q4:=Zx o 4 (vI mn) rfl;have q5:=Zx o 5 (.bool kn) rfl;have aL:=UP o;have O:w1.ownsRow 0 159 6 (.slice (some ⟨g,0,none⟩) n c) n (M.flatMap LBind.cells):=Z2 mG.o λU ez=>aL.block U (mG.o.lt U ez).2;have jl:=λx j'=>Md (f:=LBind.cells) (m:=6) (λ_=>rfl) O (g:=g) rfl (i:=i) (j:=j') (x:=x) KN.o
     have e0:w1.cell? ⟨g,i*6,none⟩=some (.string bi.name):=jl _ 0 rfl;have e1:=jl _ 1 rfl;have e2:=jl _ 2 rfl;have e3:=jl _ 3 rfl;have e4:=jl _ 4 rfl;have e5:=jl _ 5 rfl;have f0:=Tb O (g:=g) rfl (i*6);have f1:=Tb O (g:=g) rfl (i*6+1);have f2:=Tb O (g:=g) rfl (i*6+2);have f3:=Tb O (g:=g) rfl (i*6+3);have f4:=Tb O (g:=g) rfl (i*6+4);have f5:=Tb O (g:=g) rfl (i*6+5);have av:=lh aL;have KO:=lh O;clear o aL O jl c0 c1 c2 c3 c4 c5 uT hx;have jz:i<n:=O'
     go_wp2;go_roundw
     case rel=>
      refine⟨i+1,j+1,M.set i ⟨E,⟨X,Y,Z⟩,mn,kn⟩,by go_num,by go_num,by omega,by omega,by simp[xy.o],?_,?_,?_,?_⟩
      .rw[Z33 GV.o,Y3 (show¬LBind.is name ⟨E,⟨X,Y,Z⟩,mn,kn⟩=true from hq),<-GZ.o,List.take_add_one,List.getElem?_set_self (by rw[xy.o];omega),List.take_set_of_le (Y0 _)];rfl
      .rw[List.drop_set_of_lt O'];exact GY.o
      .exact Zhk KO.o (by rw[xy.o];omega) ⟨E,⟨X,Y,Z⟩,mn,kn⟩
      .exact Zeu (Z6r nX.o av.o) _ _ _ _ _ _ _
     case measure=>simp[intOf];omega
   .have Dt:j=n:=by omega
    subst Dt;have gF:=Zdl (P:=Tryz.prog) (f:=LBind.cells) (m:=6) (l:=M) (t:=109) (g:=g) (cap:=c) (w:=wr) (λ_=>rfl) Pa _ Tryz.underlying109 Zns rfl (by intro v hv;simp[Value.cells]at hv;rcases hv with rfl|rfl|rfl|rfl|rfl<;>rfl) (by rw[hM];exact p) (i:=i) O' 0;rw[hM]at gF;obtain⟨w2,iw,aM,oa⟩:=gF;have Du:M.take i=unnamed name l:=by rw[yJ,Ye O']
    have G7:(unnamed name l).length=i:=by rw[<-Du,List.length_take];omega
    rw[Du]at aM;have mG:=lh aM;have nX:=lh (show w.grownBy w2 (some g)from⟨oa.os.trans u.os,oa.tape.trans u.tape,oa.output.trans u.output,Y4 u.size oa.size,λb h1 h2=>(oa.block b (Y7 h1 u.size) h2).trans (u.block b h1 h2)⟩);have xy:=lh G7;clear p u yJ hM yK aM oa Du G7 aH hx uT;have NW:i<c:=O'
    go_wp2;go_ret;exact⟨_,rfl,by rw[xy.o];exact mG.o,nX.o,rfl⟩
theorem Z8y{P:Program}{w:World}{ah:Array Oper}{U:List Oper}{o:Oper}{a:Act}{Q:Exit->Act->World->Prop}(KP:o.guard=none)(s x:Operand)(t:TypeId)
 (ho:o.op=.call {callee:=.builtin .append,args:=#[s,x],argTypes:=#[t,t]})
 (e:TypeId)(i:TypeInfo)(m:Nat)(ht:P.underlying t=some (.slice e))(hi:P.info? e=some i)(yL:i.size=m)
 (g cap k:Nat){α:Type}(f:α->List Value)(l:List α)(hf:∀a,(f a).length=m)(h1:∀a,∀v∈f a,v.oneCell'=true)
 (X:w.ownsRow 0 e m (.slice (some ⟨g,0,none⟩) l.length cap) l.length (l.flatMap f))(hk:k<l.length)
 (hs:a.eval s=.slice (some ⟨g,0,none⟩) k cap)(F:Addr)(c:Nat)(hx:a.eval x=.slice (some F) (l.length-(k+1)) c)(KQ:k+1<l.length->F=⟨g,(k+1)*m,none⟩)
 (h:∀w',w'.ownsRow 0 e m (.slice (some ⟨g,0,none⟩) l.length cap) l.length ((l.take k++l.drop (k+1)++l.drop (l.length-1)).flatMap f)->w.grownBy w' (some g)->wpList P ah Q U (a.put o.dst (.slice (some ⟨g,0,none⟩) (k+(l.length-(k+1))) cap)) w') :
 wpList P ah Q (o::U) a w:=by
 refine wpList_plain KP λK hK=>?_;rcases X.2 with⟨E,_⟩|⟨g',yE,p,E,hb,Y,Z,uS,I,nr⟩;·simp at E
 simp only[Value.slice.injEq,Option.some.injEq,Addr.mk.injEq,and_true,true_and]at E;obtain⟨rfl,rfl⟩:=E;subst yL;have nZ:l.length*i.size<=cap*i.size:=Nat.mul_le_mul_right _ Z;have y:((l.drop (k+1)).flatMap f).length=(l.length-(k+1))*i.size:=by rw[U3 hf,List.length_drop]
 have KR:k*i.size+(l.length-(k+1))*i.size+i.size=l.length*i.size:=by
  rw[<-Nat.add_mul,<-Nat.succ_mul];congr 1;omega
 have hr:=run_append_room (P:=P) w t o.type e i ht hi g k cap p Y F (l.length-(k+1)) c ((l.drop (k+1)).flatMap f) y (by
  intro j u J;have hj:j<(l.length-(k+1))*i.size:=by rw[<-y];exact(List.getElem?_eq_some_iff.1 J).1
  have aA:k+1<l.length:=by
   rcases Nat.lt_or_ge (k+1) l.length with h|h;·exact h
   .rw[show l.length-(k+1)=0 by omega]at hj;omega
  rw[KQ aA];have e1:(⟨g,(k+1)*i.size,none⟩:Addr).add j=⟨g,(k+1)*i.size+j,none⟩:=by unfold Addr.add;split<;>simp_all
  rw[e1,X.cellAt ((k+1)*i.size+j) (by
   have:(k+1)*i.size+(l.length-(k+1))*i.size=l.length*i.size:=Rc
   omega)]
  have e2:(l.drop (k+1)).flatMap f=(l.flatMap f).drop ((k+1)*i.size):=by
   have:=Z64 hf l (k+1);have O:l.flatMap f=(l.take (k+1)).flatMap f++(l.drop (k+1)).flatMap f:=Qx
   rw[O,List.drop_left' QG]
  rw[e2,List.getElem?_drop]at J;exact J) (by
  intro v hv;obtain⟨a',_,ha⟩:=List.mem_flatMap.1 hv;exact h1 a' v ha) O' (by rw[y,I];omega)
 unfold Oper.wp execOp;simp only[ho,resolve,invoke,builtin,Sem.run_bind,Sem.run_pure,Result.andThen_ok,List.map_toArray,List.map_cons,List.map_nil,hs,hx,hr];refine hK _ _ (h _ ⟨?_,.inr ⟨g,cap,_,rfl,Yh _,setRow_heap w g p _ e (0,0) Y,Z,uS,?_,?_⟩⟩ ⟨rfl,rfl,rfl,by simp,λk' rZ aK=>setRow_other w g k' _ (λe=>aK (by rw[e]))⟩);·rw[U3 hf];congr 1;simp;omega
 .simp only[List.size_toArray,List.length_append,List.length_take,List.length_drop,Array.length_toList,I,y];omega
 .rw[y];have gF:p.toList.length=cap*i.size:=by rw[Array.length_toList,I]
  have d1:p.toList=l.flatMap f++p.toList.drop (l.length*i.size):=by rw[<-nr,List.take_append_drop]
  have t1:p.toList.take (k*i.size)=(l.take k).flatMap f:=by
   rw[Z64 hf,<-nr,List.take_take,Nat.min_eq_left (Nat.mul_le_mul_right _ O')]
  have t2:(p.toList.drop (k*i.size+(l.length-(k+1))*i.size)).take i.size=(l.drop (l.length-1)).flatMap f:=by
   have e3:k*i.size+(l.length-(k+1))*i.size=(l.length-1)*i.size:=Rc
   have O:l.flatMap f=(l.take (l.length-1)).flatMap f++(l.drop (l.length-1)).flatMap f:=Qx
   rw[e3,d1,O,List.append_assoc,List.drop_left' QG,List.take_left' (by rw[U3 hf,List.length_drop,show l.length-(l.length-1)=1 by omega,Nat.one_mul])]
  rw[t1];simp only[List.flatMap_append];rw[List.take_append,Ye (by simp only[List.length_append,U3 hf,List.length_take,List.length_drop];rw[Nat.min_eq_left O'];omega)];congr 1
  rw[<-t2];congr 1
  simp only[List.length_append,U3 hf,List.length_take,List.length_drop];rw[Nat.min_eq_left O'];omega
theorem Zoj(w:World):(zeroValue 103).run Tryz.prog w=.ok (.agg #[.string ⟨#[]⟩,vI 0,vI 0,.string ⟨#[]⟩,.bool false]) w:=by kernel_rfl
theorem Zhi(w:World)(g c k:Nat)(l:List LProp)(hk:k<l.length)(I:w.ownsRow 0 103 5 (.slice (some ⟨g,0,none⟩) l.length c) l.length (l.flatMap LProp.cells)) :
 Calls Tryz.prog 153 #[.slice (some ⟨g,0,none⟩) l.length c,vI k,vI (k+1)] w λe w'=>e=.returned (.slice (some ⟨g,0,none⟩) (l.length-1) c)∧w'.ownsRow 0 103 5 (.slice (some ⟨g,0,none⟩) (l.length-1) c) (l.length-1) ((l.eraseIdx k).flatMap LProp.cells)∧w.grownBy w' (some g):=by
 obtain⟨i0,hi,aD,O,bT⟩:=info_parts Tryz.infoProp;obtain⟨h1,h2⟩:l.length<=c∧c<=maxLen:=by
  rcases Z4 I with⟨p,_⟩|⟨g',c',p,h1,h2,_⟩;·cases p
  .cases p;exact⟨h1,h2⟩
 unfold maxLen at h2;obtain⟨n,hn⟩:∃n,l.length=n+1:=⟨l.length-1,by omega⟩
 have J:=I;rw[hn]at J h1 hk ⊢;simp only[Nat.add_sub_cancel];have U:=lh I;have NX:=lh J;have u:=lh hn;clear I J hn;have aK:((k:Int)==(k:Int)+1)=false:=beq_eq_false_iff_ne.2 O';have yM:k<c:=O'
 have yF:n<c:=O'
 have yN:k<=c:=O'
 have KS:k<=n:=O'
 have X:∀w1:World,w1.ownsRow 0 103 5 (.slice (some ⟨g,0,none⟩) l.length c) l.length ((l.take k++l.drop (k+1)++l.drop (l.length-1)).flatMap LProp.cells)->
  ∃w2,(Builtin.clear_ #[96] 0 #[.slice (some ⟨g,n*5,none⟩) 1 (c-n)]).run Tryz.prog w1=.ok (.tuple #[]) w2∧w2.ownsRow 0 103 5 (.slice (some ⟨g,0,none⟩) n c) n ((l.eraseIdx k).flatMap LProp.cells)∧w1.grownBy w2 (some g):=by
  intro w1 ho;have Y:(l.take k++l.drop (k+1)++l.drop (l.length-1)).length=n+1:=by have:=u.o;simp;omega
  have Dj:w1.ownsRow 0 103 5 (.slice (some ⟨g,0,none⟩) (n+1) c) (n+1) ((l.take k++l.drop (k+1)++l.drop (l.length-1)).flatMap LProp.cells):=by
   have:=u.o;rw[this]at ho ⊢;exact ho
  have:=Zdl (P:=Tryz.prog) (f:=LProp.cells) (m:=5) (l:=l.take k++l.drop (k+1)++l.drop (l.length-1)) (t:=96) (g:=g) (cap:=c) (w:=w1) (λ_=>rfl) Pa _ Tryz.underlying96 Zoj rfl (by intro v p;simp[Value.cells]at p;rcases p with rfl|rfl|rfl|rfl<;>rfl) (by rw[Y];exact Dj) (i:=n) O' 0;rw[Y,Nat.add_sub_cancel_left]at this;obtain⟨w2,e1,Z,e3⟩:=this;have Db:(l.take k++l.drop (k+1)).length=n:=by have:=u.o;simp;omega
  rw[List.take_left' Db,<-List.eraseIdx_eq_take_drop_succ]at Z;exact⟨w2,e1,Z,e3⟩
 have G8:=lh X;clear X;have bV:k+(n-k)=n:=O'
 have bO:n+1-(k+1)=n-k:=O'
 have BQ:=lh bV;have lZ:=lh bO;clear bV bO;have nu:(0:Int)<=(k:Int)+1:=O'
 rcases Nat.lt_or_ge (k+1) c with hc|hc
 .have KT:¬c=k+1:=by omega
  have KU:k+1<=c:=O'
  go_enter Tryz.func153,Tryz.ntmps153
  go_wp2_with fail
  refine Z8 [0,2,4,6,8,10] [6,7] (λ_=>True) trivial λ_=>?_;refine dW ?_
  iterate 6
   refine dV ?_
  refine Z0 ?_;refine Z8y rfl (.tmp 22) (.tmp 25) 96 rfl 103 i0 5 Tryz.underlying96 hi O g c k LProp.cells l (λ_=>rfl) ?_ U.o.drew (by rw[u.o];omega) Po ⟨g,(k+1)*5,none⟩ (c-(k+1)) ?_ (λ_=>rfl) ?_;·intro a v p;simp[LProp.cells]at p;rcases p with rfl|rfl|rfl|rfl|rfl<;>rfl
  .rw[u.o,lZ.o];rfl
  intro w1 ho y;obtain⟨w2,iw,E,F⟩:=G8.o w1 ho;have mG:=lh E;have nX:=lh F;have HG:=lh y;clear ho E y F;rw[u.o,lZ.o,BQ.o];exact ZV
 .obtain rfl:n=k:=by omega
  obtain rfl:c=n+1:=by omega
  have hI:(n:Int)<=(n:Int)+1:=O'
  go_enter Tryz.func153,Tryz.ntmps153
  go_wp2_with fail
  refine Z8 [0,2,4,6,8,10] [6,7] (λ_=>True) trivial λ_=>?_;refine dW ?_
  iterate 6
   refine dV ?_
  refine Z0 ?_;refine Z8y rfl (.tmp 22) (.tmp 25) 96 rfl 103 i0 5 Tryz.underlying96 hi O g (n+1) n LProp.cells l (λ_=>rfl) ?_ U.o.drew (by rw[u.o];omega) Po ⟨g,0,none⟩ 0 ?_ (λh=>by rw[u.o]at h;omega) ?_;·intro a v p;simp[LProp.cells]at p;rcases p with rfl|rfl|rfl|rfl|rfl<;>rfl
  .rw[u.o,Nat.sub_self];rfl
  intro w1 ho y;obtain⟨w2,iw,E,F⟩:=G8.o w1 ho;have mG:=lh E;have nX:=lh F;have HG:=lh y;clear ho E y F;rw[u.o,Nat.sub_self,Nat.add_zero];simp only[Nat.add_sub_cancel_left]at iw;exact ZV
def LHeap.cut(H:LHeap)(n:Int)(name:ByteArray):LHeap×Bool:=
 match H.object? n with
 |none=>(H,true)
 | some o =>
   match o.idx name with
   |none=>(H,true)
   | some k =>
     match o.props[k]? with
     |none=>(H,true)
     |some p=>if p.fixed then(H,false)else({H with objects:=H.objects.set n.toNat {o with props:=o.props.eraseIdx k}},true)
def LHeap.drop (H:LHeap) (n:Int) (name:ByteArray):LHeap×Bool:=
 match H.scope? n with
 |none=>(H,true)
 | some s =>
   if s.object < 0 then
    match s.idx name with
    |none=>(H,true)
    | some k =>
      match s.names[k]? with
      |none=>(H,true)
      |some b=>if b.kind=4 then(H.setNames n.toNat s (unnamed name s.names),true)else(H,false)
   else if(H.get s.object name).isSome then H.cut s.object name else(H,true)
section
variable {ρ:Nat->Option Role}{w:World}{hb ho:Nat}{L:HL}{H:LHeap}
theorem Zrk{w1 w2:World}{m k g c:Nat}{o:LObj}(h:HeapAt ρ w1 hb ho L H)(u:H.objects[m]?=some o)(hk:k<o.props.length)
 (hv:L.pv m=.slice (some ⟨g,0,none⟩) o.props.length c)
 (U:w2.ownsRow 0 103 5 (.slice (some ⟨g,0,none⟩) (o.props.length-1) c) (o.props.length-1) ((o.props.eraseIdx k).flatMap LProp.cells))(y:w1.grownBy w2 (some g)) :
 ∃ ρ' X, HeapAt ρ' (w2.setCell ⟨L.ob m, 0, none⟩ (.slice (some ⟨g, 0, none⟩) (o.props.length - 1) c)) hb ho X { H with objects := H.objects.set m { o with props := o.props.eraseIdx k } } ∧
   Fr ρ ρ' hb ho w1 (w2.setCell ⟨L.ob m,0,none⟩ (.slice (some ⟨g,0,none⟩) (o.props.length-1) c)):=by
 have E:=getElem?_lt u;obtain⟨ac,_⟩:=h.obj m o u;have F:L.ob m<w1.heap.size:=(Y1.1 ac).1;have I:g≠L.ob m:=λe=>by
  have p:=h.rpv m g E Pv;rw[e,h.rob m E]at p;cases p
 have Y:vC w1 (L.ob m) 0 (L.pv m):=Pd
 obtain⟨k1,k2,k3,Z,k5,k6,k7,k8,k9,jI⟩:=WC (.slice (some ⟨g,0,none⟩) (o.props.length-1) c) (Y2 w1.heap.size w1) y F (λe=>I (Yc e)) Y;have jk:w2.heap[L.ob m]?=some (.cells #[L.pv m,vI o.code] 98 (0,0)):=
  (y.block _ F (λe=>I (Yc e).symm)).trans ac
 have aH:(o.props.eraseIdx k).length=o.props.length-1:=by rw[List.length_eraseIdx,Y5 hk]
 refine h.setProps u (nv':=.slice (some ⟨g,0,none⟩) (o.props.length-1) c) (props':=o.props.eraseIdx k) ?_ ?_ k7 ?_ ?_ k8 k9 jI;·exact Zh _ jk
 .rw[aH];exact Z2 U λJ ez=>k5 J PG
 .intro b p h2 O;rw[hv]at O;exact Z b p h2 O
 .intro J ez;rw[hv];exact .inl ez
theorem Zob{w1 w2:World}{m:Nat}{s:LScope}{g:Value}{l:List LBind}(h:HeapAt ρ w1 hb ho L H)(o:H.scopes[m]?=some s)
 (U:w2.ownsRow 0 159 6 g l.length (l.flatMap LBind.cells))(y:w1.grownBy w2 (L.nv m).ownBlock)(E:g.ownBlock=(L.nv m).ownBlock) :
 ∃ρ' X,HeapAt ρ' (w2.setCell ⟨L.sb m,2,none⟩ g) hb ho X (H.setNames m s l)∧Fr ρ ρ' hb ho w1 (w2.setCell ⟨L.sb m,2,none⟩ g):=by
 have F:=getElem?_lt o;obtain⟨ac,_⟩:=h.scp m s o;have I:L.sb m<w1.heap.size:=(Y1.1 ac).1;have p:(L.nv m).ownBlock≠some (L.sb m):=λe=>by
  have J:=h.rnv m _ F e;rw[h.rsb m F]at J;cases J
 have Y:vC w1 (L.sb m) 2 (L.nv m):=Pd
 obtain⟨k1,k2,k3,Z,k5,k6,k7,k8,k9,jI⟩:=WC g (Y2 w1.heap.size w1) y I p Y;have jk:w2.heap[L.sb m]?=some (.cells #[vI s.outer,vI s.object,L.nv m] 111 (0,0)):=
  (y.block _ I (λe=>p e.symm)).trans ac
 refine h.setNames o (nv':=g) (names':=l) ?_ ?_ k7 ?_ ?_ k8 k9 jI;·exact Zh _ jk
 .exact Z2 U λO u=>k5 O (λe=>p (by rw[<-E,u,e]))
 .exact Z
 .intro O u;exact .inl (by rw[<-E];exact u)
theorem Zjg(h:HeapAt ρ w hb ho L H)(n:Int)(name:ByteArray) :
 Calls Tryz.prog 139 #[.pointer (some ⟨hb,ho,none⟩),vI n,.string name] w λe w'=>e=.returned (.bool (H.cut n name).2)∧
  ∃ρ' L',HeapAt ρ' w' hb ho L' (H.cut n name).1∧Fr ρ ρ' hb ho w w':=by
 have cM:=h.hbLt;rcases hob:H.object? n with _|o
 .have O:=lh (Z7p h n hob);have hd:H.cut n name=(H,true):=by simp[LHeap.cut,hob]
  rw[hd];have F:=lh h;clear h hob hd;go_enter Tryz.func139,Tryz.ntmps139
  go_wp2_with fail
  refine O.o.mono ?_;rintro e w1⟨rfl,rfl⟩;go_wp2;go_ret;exact⟨rfl,ρ,L,F.o,Fr.refl _ _ _ _⟩
 .obtain⟨m,rfl,I⟩:=LHeap.object?_some hob;have X:=getElem?_lt I;have O:=lh (Z6w h m X);have U:=lh (Zc1 h m o I name);rcases hk:o.idx name with _|k
  .have hd:H.cut m name=(H,true):=by simp[LHeap.cut,hob,hk]
   rw[hd];rw[hk]at U;have F:=lh h;clear h hob hd I hk;go_enter Tryz.func139,Tryz.ntmps139
   go_wp2_with fail
   refine O.o.mono ?_;rintro e w1⟨rfl,rfl⟩;go_wp2_with fail
   refine U.o.mono ?_;rintro e w1⟨rfl,u⟩;simp only[tL];have J:=lh u;clear u;go_wp2;go_ret;exact⟨rfl,ρ,L,F.o.below J.o,Fr.of_below cM J.o⟩
  .obtain⟨p,hp,_⟩:=LObj.idx_some hk;have ba:=getElem?_lt hp;rw[hk]at U;obtain⟨pP,iI⟩:=h.obj m o I;rcases Z4 iI with⟨hv,hz⟩|⟨g,c,hv,h2,h3,cY⟩;·omega
   unfold maxLen at h3;obtain⟨pn,⟨pk,pm,ps⟩,Y⟩:=p;have hd:H.cut m name=if Y then(H,false)else({H with objects:=H.objects.set m {o with props:=o.props.eraseIdx k}},true):=by simp[LHeap.cut,hob,hk,hp]
   rw[hd];have F:=lh h;have HM:=lh I;have HV:=lh hv;have HP:=lh hp;clear h hob hd I hk hp pP iI hv;have ap:∀w1,HeapAt ρ w1 hb ho L H->vC w1 (L.ob m) 0 (.slice (some ⟨g,0,none⟩) o.props.length c)∧w1.frozen? ⟨L.ob m,0,none⟩=false∧w1.cell? ⟨g,k*5+4,none⟩=some (.bool Y)∧w1.ownsRow 0 103 5 (.slice (some ⟨g,0,none⟩) o.props.length c) o.props.length (o.props.flatMap LProp.cells):=λw1 hh=>by
    obtain⟨ac,af⟩:=hh.obj m o HM.o;have ae:=Md (f:=LProp.cells) (m:=5) (λ_=>rfl) af (g:=g) Qk (i:=k) (j:=4) (x:=.bool Y) HP.o rfl;rw[HV.o]at af ac;exact⟨by simp[vC,World.cell?,ac],by simp[World.frozen?,ac],ae,af⟩
   have ea:=lh ap;clear ap;cases Y
   .simp only[Bool.false_eq_true,if_false];go_enter Tryz.func139,Tryz.ntmps139
    go_wp2_with fail
    refine O.o.mono ?_;rintro e w1⟨rfl,rfl⟩;go_wp2_with fail
    refine U.o.mono ?_;rintro e w1⟨rfl,u⟩;simp only[tL];have y:=F.o.below u;obtain⟨d0,z0,d1,Z⟩:=ea.o w1 y;have HD:=lh (Zhi w1 g c k o.props ba Z);have E:=lh y;have J:=lh u;clear u y Z;go_wp2_with fail
    refine HD.o.mono ?_;rintro e w2⟨rfl,aM,jh⟩;have jN:g≠L.ob m:=λe=>by
     have h1:=E.o.rpv m g X Qk;rw[e,E.o.rob m X]at h1;cases h1
    have yP:=E.o.live (L.ob m) (by rw[E.o.rob m X];simp);have d2:vC w2 (L.ob m) 0 (.slice (some ⟨g,0,none⟩) o.props.length c):=(Yb (jh.block (L.ob m) yP (λe=>jN (Yc e).symm))).trans d0;have z2:w2.frozen? ⟨L.ob m,0,none⟩=false:=(Yn (jh.block (L.ob m) yP (λe=>jN (Yc e).symm))).trans z0;have mG:=lh aM;have nX:=lh jh;clear aM jh d0 d1 z0;go_wp2;go_ret;refine⟨rfl,?_⟩;obtain⟨ρ',L',hA,hF⟩:=Zrk E.o HM.o ba HV.o mG.o nX.o
    exact⟨ρ',L',hA,(Fr.of_below cM J.o).trans hF⟩
   .simp only[if_true];go_enter Tryz.func139,Tryz.ntmps139
    go_wp2_with fail
    refine O.o.mono ?_;rintro e w1⟨rfl,rfl⟩;go_wp2_with fail
    refine U.o.mono ?_;rintro e w1⟨rfl,u⟩;simp only[tL];have y:=F.o.below u;obtain⟨d0,z0,d1,Z⟩:=ea.o w1 y;have E:=lh y;have J:=lh u;clear u y Z;go_wp2;go_ret;exact⟨rfl,ρ,L,E.o,Fr.of_below cM J.o⟩
theorem Zl8{w w1:World}{s:ByteArray}{T:TypeId}(g:Below (w.alloc (.cells #[.string s] T)).heap.size (w.alloc (.cells #[.string s] T)) w1) :
 vC w1 w.heap.size 0 (.string s)∧w.heap.size<w1.heap.size∧Below w.heap.size w w1:=
 ⟨Zx g 0 _ rfl,Z5i g,UP g⟩
theorem Zn9(h:HeapAt ρ w hb ho L H)(n:Int)(name:ByteArray) :
 Calls Tryz.prog 138 #[.pointer (some ⟨hb,ho,none⟩),vI n,.string name] w λe w'=>e=.returned (.bool (H.drop n name).2)∧
  ∃ρ' O,HeapAt ρ' w' hb ho O (H.drop n name).1∧Fr ρ ρ' hb ho w w':=by
 have cM:=h.hbLt;have u:=h.below ((Y2 _ _).alloc (Y0 _) (.cells #[.string name] 9));have E:Below w.heap.size w (w.alloc (.cells #[.string name] 9)):=(Y2 _ _).alloc (Y0 _) _;rcases hob:H.scope? n with _|s
 .have HC:=lh (T5 u n hob);have hd:H.drop n name=(H,true):=by simp[LHeap.drop,hob]
  rw[hd];have HH:=lh u;have HB:=lh E;clear h u hob hd E;go_enter Tryz.func138,Tryz.ntmps138
  exact R8
 obtain⟨m,rfl,hm⟩:=LHeap.scope?_some hob;have dj:=getElem?_lt hm;have HC:=lh (SK u m dj);have HA:=lh (Tg u (m:Int) name);have U:=has_eq (name:=name) hob;have ap:∀w1,HeapAt ρ w1 hb ho L H->vC w1 (L.sb m) 1 (vI s.object)∧vC w1 (L.sb m) 2 (L.nv m)∧w1.frozen? ⟨L.sb m,2,none⟩=false∧L.sb m<w1.heap.size∧w1.ownsRow 0 159 6 (L.nv m) s.names.length (s.names.flatMap LBind.cells):=λw1 hh=>by
  obtain⟨Y,af⟩:=hh.scp m s hm;exact⟨by simp[vC,World.cell?,Y],by simp[vC,World.cell?,Y],by simp[World.frozen?,Y],(Y1.1 Y).1,af⟩
 have HF:=lh ap;have HM:=lh hm;have dw:=E;clear ap;by_cases hq:H.has (m:Int) name=true
 ·rw [hq] at HA;rw [U] at hq;by_cases aV : s.object < 0
  .rw[Y5 aV]at hq;obtain⟨k,hk⟩:=Option.isSome_iff_exists.1 hq;obtain⟨b,hp,_⟩:=LScope.idx_some hk;have ba:=getElem?_lt hp;obtain⟨_,iI⟩:=h.scp m s hm;rcases Z4 iI with⟨hv,hz⟩|⟨g,c,hv,h2,h3,cY⟩;·omega
   have hd:H.drop m name=if b.kind=4 then(H.setNames m s (unnamed name s.names),true)else(H,false):=by simp[LHeap.drop,hob,aV,hk,hp]
   rw[hd];have Z:=lh (λw1 (hh:HeapAt ρ w1 hb ho L H)=>WP hh m s hm name);rw[hk,hv]at Z;simp only[R',Value.ownBlock,Option.map_some]at Z;refine Vy ?_;intro ae;have BC:g<w.heap.size:=cY;have HR:=lh ae;have HH:=lh u;have HV:=lh hv;have HB:=lh E;clear h u hob U hm E dw hq hk hp iI hv ae hd;by_cases I:b.kind=4
   .have Dv:(b.kind !=4)=false:=by simp[I]
    rw[Y5 I];clear I;obtain⟨bn,bv,bk,br⟩:=b;simp only at Dv;go_enter Tryz.func138,Tryz.ntmps138
    go_wp2_with fail
    refine HC.o.mono ?_;rintro e w1⟨rfl,rfl⟩;go_wp2_with fail
    refine Zpw ?_;intro w1 q0 hs d1 d2 z2 aN eW av;go_wp2_with fail
    refine(Z.o w1 eW.o).mono ?_;rintro e w2⟨rfl,y⟩;have F:=eW.o.below y;obtain⟨G9,BR,rG,yQ,mJ⟩:=HF.o w2 F;have r4:=HR.o w2 F 4 (vI bk) rfl;have mq:=(y.cell (p:=⟨w.heap.size,0,none⟩) hs).trans q0;have dZ:=Y7 hs y.size;have Dw:=Zap w2 ⟨w.heap.size,0,none⟩ name mq dZ (L.nv m) s.names (by rw[HV.o];simp only[Value.ownBlock,ne_eq,Option.some.injEq];omega) mJ;rw[HV.o]at Dw BR;have HD:=lh Dw;have X:=lh F;have aO:=lh (av.o.trans (y.mono (Nat.le_of_lt hs)))
    clear y F mJ Dw q0 d1 d2 z2 G9 mq;go_wp2_with fail
    refine HD.o.mono ?_;rintro e w3⟨v',rfl,pR,lA,Ha⟩;have jN:g≠L.sb m:=λe=>by
     have u:=X.o.rnv m g dj Qk;rw[e,X.o.rsb m dj]at u;cases u
    have d3:vC w3 (L.sb m) 2 (.slice (some ⟨g,0,none⟩) s.names.length c):=(Yb (lA.block (L.sb m) yQ (λe=>jN (Yc e).symm))).trans BR;have z3:w3.frozen? ⟨L.sb m,2,none⟩=false:=(Yn (lA.block (L.sb m) yQ (λe=>jN (Yc e).symm))).trans rG;obtain⟨g',n',c',rfl⟩:∃g' n' c',v'=.slice g' n' c':=by
     rcases Z4 pR with⟨hv,_⟩|⟨g',c',hv,_⟩;·exact⟨_,_,_,hv⟩
     .exact⟨_,_,_,hv⟩
    have KV:=lh pR;have KW:=lh lA;have KX:=lh Ha;clear pR lA Ha BR rG r4;go_wp2;go_ret;refine⟨rfl,?_⟩;obtain⟨ρ',O,hA,hF⟩:=Zob X.o HM.o KV.o (by rw[HV.o];exact KW.o) (by rw[HV.o];exact KX.o);exact⟨ρ',O,hA,(Fr.of_below cM aO.o).trans hF⟩
   .have Dv:(b.kind !=4)=true:=by simp[I]
    rw[Y3 I];clear I;obtain⟨bn,bv,bk,br⟩:=b;simp only at Dv;go_enter Tryz.func138,Tryz.ntmps138
    go_wp2_with fail
    refine HC.o.mono ?_;rintro e w1⟨rfl,rfl⟩;go_wp2_with fail
    refine Zpw ?_;intro w1 q0 hs d1 d2 z2 aN eW av;go_wp2_with fail
    refine(Z.o w1 eW.o).mono ?_;rintro e w2⟨rfl,y⟩;have F:=eW.o.below y;have r4:=HR.o w2 F 4 (vI bk) rfl;have X:=lh F;have aO:=lh (av.o.trans (y.mono (Nat.le_of_lt hs)));clear y F q0 d1 d2 z2;go_wp2;go_ret;exact⟨rfl,ρ,L,X.o,Fr.of_below cM aO.o⟩
  .rw[Y3 aV]at hq;have hd:H.drop m name=H.cut s.object name:=by simp[LHeap.drop,hob,aV,hq]
   rw[hd];have lC:=λw1 (hh:HeapAt ρ w1 hb ho L H)=>Zjg hh s.object name;generalize(H.cut s.object name).2=er at lC ⊢;have Dx:=lh lC;have HH:=lh u;have HB:=lh E;clear h u hob U hm E dw hq lC hd;go_enter Tryz.func138,Tryz.ntmps138
   go_wp2_with fail
   refine HC.o.mono ?_;rintro e w1⟨rfl,rfl⟩;go_wp2_with fail
   refine Zpw ?_;intro w1 q0 hs d1 d2 z2 aN eW av;go_wp2_with fail
   refine Z8 [0,2,4,6,8,10] [6,7] (λW=>vC W (L.sb m) 1 (vI s.object)∧vC W w.heap.size 0 (.string name)) ⟨d1,q0⟩ λ_=>?_;refine dW ?_
   iterate 6
    refine dV ?_
   refine Z0 ?_;go_wp2_with fail
   refine(Dx.o w1.drew eW.o.drew).mono ?_;rintro e w2⟨rfl,ρ',O,hA,hF⟩;have oX:=lh hA;have yD:=lh hF;clear hA hF;go_wp2;go_ret;exact⟨rfl,ρ',O,oX.o,(Fr.of_below cM av.o.drew).trans yD.o⟩
 .have J:H.has (m:Int) name=false:=by simpa using hq
  rw[J]at HA;have hd:H.drop m name=(H,true):=by
   rw[U]at J;unfold LHeap.drop;simp only[hob];split at J
   .rename_i aV;have :s.idx name=none:=by simpa using J
    rw[Y5 aV,this]
   .rename_i aV;rw[Y3 aV];simp[J]
  rw[hd];have HH:=lh u;clear h u hob U hm E dw hq J hd;go_enter Tryz.func138,Tryz.ntmps138
  go_wp2_with fail
  refine HC.o.mono ?_;rintro e w1⟨rfl,rfl⟩;go_wp2_with fail
  refine HA.o.mono ?_;rintro e w1⟨rfl,hB⟩;have av:=lh hB;clear hB;go_wp2;go_ret;exact⟨rfl,ρ,L,HH.o.below av.o,Fr.of_below cM (UP av.o)⟩
end
section
variable {ρ:Nat->Option Role}{w:World}{hb ho:Nat}{L:HL}{H:LHeap}
theorem Z86(h:HeapAt ρ w hb ho L H)(code:Int)(hn:H.objects.length<1099511627776) :
 Calls Tryz.prog 13 #[.pointer (some ⟨hb,ho,none⟩),vI code] w λe w'=>e=.returned (vI H.objects.length)∧
  ∃ρ' L',HeapAt ρ' w' hb ho L' {H with objects:=H.objects++[⟨[],code⟩]}∧Fr ρ ρ' hb ho w w':=by
 obtain⟨i0,hi,aD,bo,bT⟩:=info_parts Tryz.infoPO;have iF:=h.cellO;have r8:=h.frO;have cM:=h.hbLt;have o:=h.rowO;have y:∀g,L.vo.ownBlock=some g->g<w.heap.size:=λg m=>(o.lt g m).2;have E:∀g,L.vo.ownBlock=some g->g≠hb:=λg m e=>by have:=h.rvo g m;rw[e,h.rhp]at this;cases this
 obtain⟨vs,p⟩:=zX L.vo
 obtain⟨sb,aN⟩:=zX (x6 L.ob H.objects.length)
 obtain⟨n,F⟩:=zX H.objects.length
 rw[<-p,<-aN]at o;rw[<-p]at iF y E;rw[<-F]at hn o ⊢;have HH:=lh h;have HV:=lh p;have HS:=lh aN;have HN:=lh F;have HO:=lh o;have HL:=lh y;have HR:=lh E;clear h p aN F o y E;have J:∀O U (w1:World),((w.alloc O).alloc U).grownBy w1 vs.ownBlock->w1.cell? ⟨hb,ho,none⟩=some vs∧w1.frozen? ⟨hb,ho,none⟩=false:=λO U w1 m=>
  ⟨(m.cell_far ⟨hb, ho, none⟩ Pe (fun e => HR.o hb e.symm rfl)).trans ((Zb Pe).trans ((Zb cM).trans iF)),
   (m.frozen_far ⟨hb,ho,none⟩ Pe (λe=>HR.o hb e.symm rfl)).trans ((RH Pe).trans ((RH cM).trans r8))⟩
 have HA:=lh J;clear J;go_enter Tryz.func13,Tryz.ntmps13
 go_wp2_with (at_builtin;go_must (refine wpList_append_lies _ rfl (.tmp 9) (.tmp 13) 48 rfl 0 95 i0 (.pointer none) 1 8 Tryz.underlying48 hi aD bo bT rfl Pa vs n sb rfl ((HO.o.alloc _).alloc _) ⟨w.heap.size+1,0,none⟩ 1 1 [vP w.heap.size] rfl rfl (Ztw _ _ _ _) Pj O' Pc O' O' (w.heap.size+2) Pg ?_);intro g cap w1 X I Y Z;obtain⟨jH,tE⟩:=HA.o _ _ _ I;have HG:=lh I;have HW:=lh X;have HT:=lh Y;have uE:=lh Z;clear I X Y Z)
 go_ret;refine⟨Zcp O',?_⟩;have hA:Below w.heap.size w ((w.alloc (.cells #[.slice none 0 0,vI code] 98)).alloc (.cells #[vP w.heap.size] 95)):=((Y2 _ _).alloc (Y0 _) _).alloc Pg _;refine Zun ?_;intro aK k1 k2 k3 k4 k5 k6 k7 k8 k9 jI hv yi gU h;refine h.addObject (nb:=w.heap.size) k1 ?_ ?_ (Y0 _) k7 ?_ k2 k3 ?_ ?_ k8 k9 jI;·exact Ztm
 .exact Zur
 .intro b ai ax aX;rw[<-hv]at aX;exact k4 b ai ax aX
 .exact Zwe
 .exact Zsv
def LHeap.code(H:LHeap)(n:Int):Int:=match H.object? n with|some o=>o.code|none=>0
theorem Zgw(h:HeapAt ρ w hb ho L H)(n:Int) :
 Calls Tryz.prog 52 #[.pointer (some ⟨hb,ho,none⟩),vI n] w λe w'=>e=.returned (vI (H.code n))∧w'=w:=by
 rcases hob:H.object? n with _|o
 .have HC:=lh (Z7p h n hob);have hd:H.code n=0:=by simp[LHeap.code,hob]
  rw[hd];clear h hob hd;go_enter Tryz.func52,Tryz.ntmps52
  exact KA
 .obtain⟨m,rfl,g⟩:∃m:Nat,n=m∧H.objects[m]?=some o:=by
   unfold LHeap.object? at hob;split at hob;·cases hob
   .exact⟨n.toNat,by omega,hob⟩
  have p:=getElem?_lt g;have HC:=lh (Z6w h m p);have hd:H.code m=o.code:=by simp[LHeap.code,hob]
  rw[hd];have hc:vC w (L.ob m) 1 (vI o.code):=by have:=(h.obj m o g).1;simp[vC,World.cell?,this]
  clear h hob hd g;go_enter Tryz.func52,Tryz.ntmps52
  exact KA
def LVal.true(v:LVal):Bool:=if v.kind=0∨v.kind=1 then false else if v.kind=2∨v.kind=3 then v.n !=0 else if v.kind=4 then !Zg v.s ⟨#[]⟩else Bool.true
theorem Zci(w:World)(v:LVal) :
 Calls Tryz.prog 81 #[v.agg] w λe w'=>e=.returned (.bool v.true)∧Below w.heap.size w w':=by
 obtain⟨k,n,s⟩:=v;simp only[LVal.agg,LVal.true];by_cases g:k=0
 .subst g;exact T9
 by_cases k1:k=1
 .subst k1;exact T9
 by_cases m:k=2
 .subst m;exact T9
 by_cases o:k=3
 .subst o;exact T9
 by_cases p:k=4
 .subst p;go_enter Tryz.func81,Tryz.ntmps81
  go_wp2;go_ret;refine⟨Zoi ?_,(Y2 _ _).alloc (Y0 _) _⟩;simp;rw[<-RV,show(⟨#[]⟩:ByteArray).toList=[] by simp[ByteArray.toList_eq]];cases s.toList<;>rfl
 .have y:(k==0)=false:=by simp[g]
  have E:(k==1)=false:=Rw
  have F:(k==2)=false:=by simp[m]
  have I:(k==3)=false:=by simp[o]
  have J:(k==4)=false:=by simp[p]
  have u:(if k=0∨k=1 then false else if k=2∨k=3 then n !=0 else if k=4 then !Zg s ⟨#[]⟩else true)=true:=by simp[g,k1,m,o,p]
  rw[u];clear g k1 m o p u;go_enter Tryz.func81,Tryz.ntmps81
  go_wp2;go_ret;exact⟨rfl,(Y2 _ _).alloc (Y0 _) _⟩
end
theorem Zfb{α:Type}{f:α->List Value}{m:Nat}(hf:∀a,(f a).length=m){l:List α}{k:Nat}{a a':α}(hk:l[k]?=some a){j:Nat}(p:j<m){x:Value}(g:f a'=(f a).set j x) :
 (l.flatMap f).set (k*m+j) x=(l.set k a').flatMap f:=by
 induction l generalizing k with
 |nil=>simp at hk
 | cons b l o =>
   cases k with
   | zero =>
     simp only[List.getElem?_cons_zero,Option.some.injEq]at hk;subst hk;simp only[List.set_cons_zero,List.flatMap_cons,Nat.zero_mul,Nat.zero_add];rw[List.set_append_left _ _ (by rw[hf];omega),g]
   | succ k =>
     simp only[List.getElem?_cons_succ]at hk;simp only[List.set_cons_succ,List.flatMap_cons];have e:(k+1)*m+j=(f b).length+(k*m+j):=QM
     rw[e,List.set_append_right _ _ O',Nat.add_sub_cancel_left,o hk]
def LHeap.start (H:LHeap) (n:Int) (name:ByteArray) (v:LVal):LHeap×Int:=
 match H.scope? n with
 |none=>(H,7)
 | some s =>
   if 0<=s.object then(H,7)
   else
    match s.idx name with
    |none=>(H,7)
    | some k =>
      match s.names[k]? with
      |none=>(H,7)
      |some b=>(H.setNames n.toNat s (s.names.set k {b with v:=v,ready:=true}),0)
section
variable {ρ:Nat->Option Role}{w:World}{hb ho:Nat}{L:HL}{H:LHeap}
theorem Zk8{w1:World}{m k g c:Nat}{s:LScope}{b:LBind}{vk vn:Int}{vs:ByteArray}(h:HeapAt ρ w1 hb ho L H)(o:H.scopes[m]?=some s)(hp:s.names[k]?=some b)
 (hv:L.nv m=.slice (some ⟨g,0,none⟩) s.names.length c) :
 ∃ ρ' F, HeapAt ρ' ((((w1.setCell ⟨g, k * 6 + 1, none⟩ (vI vk)).setCell ⟨g, k * 6 + 1 + 1, none⟩ (vI vn)).setCell ⟨g, k * 6 + 1 + 2, none⟩ (.string vs)).setCell ⟨g, k * 6 + 5, none⟩ (.bool true)) hb ho F (H.setNames m s (s.names.set k { b with v := ⟨vk, vn, vs⟩, ready := true })) ∧
   Fr ρ ρ' hb ho w1 ((((w1.setCell ⟨g,k*6+1,none⟩ (vI vk)).setCell ⟨g,k*6+1+1,none⟩ (vI vn)).setCell ⟨g,k*6+1+2,none⟩ (.string vs)).setCell ⟨g,k*6+5,none⟩ (.bool true)):=by
 have p:=getElem?_lt o;have I:=getElem?_lt hp;obtain⟨J,u⟩:=h.scp m s o;have O:g≠L.sb m:=λe=>by
  have E:=h.rnv m g p Pv;rw[e,h.rsb m p]at E;cases E
 rw[hv]at u;have hst:=((Z88 (f:=LBind.cells) (m:=6) (λ_=>rfl) u hp (j:=1) O' (x:=(vI vk)) (y:=(vI vn)) (z:=.string vs) (a':={b with v:=⟨vk,vn,vs⟩}) rfl).stored (k*6+5) (.bool true)).1;rw[Zfb (f:=LBind.cells) (m:=6) (λ_=>rfl) (k:=k) (a:={b with v:=⟨vk,vn,vs⟩}) (a':={b with v:=⟨vk,vn,vs⟩,ready:=true}) (by simp[I]) O' rfl,List.set_set]at hst
 have far:∀b,b≠g->((((w1.setCell ⟨g,k*6+1,none⟩ (vI vk)).setCell ⟨g,k*6+1+1,none⟩ (vI vn)).setCell ⟨g,k*6+1+2,none⟩ (.string vs)).setCell ⟨g,k*6+5,none⟩ (.bool true)).heap[b]?=w1.heap[b]?:=λb hb=>by
  rw[Y8 _ _ _ _ hb,Y8 _ _ _ _ hb,Y8 _ _ _ _ hb,Y8 _ _ _ _ hb]
 refine h.setNames o (nv':=.slice (some ⟨g,0,none⟩) s.names.length c) (names':=s.names.set k {b with v:=⟨vk,vn,vs⟩,ready:=true}) ?_ ?_ Pg ?_ ?_ rfl rfl rfl;·rw[far _ (Ne.symm O),<-hv];exact J
 .simp only[List.length_set];exact hst
 .exact Zr7
 .intro X U;rw[hv];exact .inl U
theorem Zmh(h:HeapAt ρ w hb ho L H)(n:Int)(name:ByteArray)(v:LVal) :
 Calls Tryz.prog 79 #[.pointer (some ⟨hb,ho,none⟩),vI n,.string name,v.agg] w λe w'=>e=.returned (df (H.start n name v).2)∧
  ∃ρ' X,HeapAt ρ' w' hb ho X (H.start n name v).1∧Fr ρ ρ' hb ho w w':=by
 have cM:=h.hbLt;obtain⟨vk,vn,vs⟩:=v;simp only[LVal.agg];refine SG ?_;intro h1 cE;have q0:(w.alloc (.cells #[vI vk,vI vn,.string vs] 55)).cell? ⟨w.heap.size,0,none⟩=some (vI vk):=World.cell?_alloc_new _ _ _ 0;have q1:(w.alloc (.cells #[vI vk,vI vn,.string vs] 55)).cell? ⟨w.heap.size,1,none⟩=some (vI vn):=World.cell?_alloc_new _ _ _ 1;have q2:(w.alloc (.cells #[vI vk,vI vn,.string vs] 55)).cell? ⟨w.heap.size,2,none⟩=some (.string vs):=World.cell?_alloc_new _ _ _ 2
 have hs:w.heap.size<(w.alloc (.cells #[vI vk,vI vn,.string vs] 55)).heap.size:=Pg
 rcases hob:H.scope? n with _|s
 .have HC:=lh (T5 h1 n hob);have o:H.start n name ⟨vk,vn,vs⟩=(H,7):=by simp[LHeap.start,hob]
  rw[o];have HH:=lh h1;have HB:=lh cE;clear h h1 cE hob o q0 q1 q2;go_enter Tryz.func79,Tryz.ntmps79
  exact R8
 obtain⟨m,rfl,hm⟩:=LHeap.scope?_some hob;have dj:=getElem?_lt hm;have HC:=lh (SK h1 m dj);refine TJ ?_;intro jH;by_cases aV:0<=s.object
 .have o:H.start m name ⟨vk,vn,vs⟩=(H,7):=by simp[LHeap.start,hob,aV]
  rw[o];have HH:=lh h1;have HB:=lh cE;clear h h1 cE hob o q0 q1 q2 hm;go_enter Tryz.func79,Tryz.ntmps79
  exact R8
 have KY:s.object<0:=O'
 have E:=lh (λw1 (hh:HeapAt ρ w1 hb ho L H)=>WP hh m s hm name);rcases hk:s.idx name with _|k
 .have o:H.start m name ⟨vk,vn,vs⟩=(H,7):=by simp[LHeap.start,hob,aV,hk]
  rw[o];rw[hk]at E;simp only[R']at E;have HH:=lh h1;have HB:=lh cE;clear h h1 cE hob o q0 q1 q2 hm hk aV;go_enter Tryz.func79,Tryz.ntmps79
  go_wp2_with fail
  refine HC.o.mono ?_;rintro e w1⟨rfl,rfl⟩;go_wp2_with fail
  refine(E.o _ HH.o).mono ?_;rintro e w2⟨rfl,au⟩;have I:=lh au;clear au;go_wp2;go_ret;exact⟨rfl,ρ,L,HH.o.below I.o,Fr.of_below cM (HB.o.trans (I.o.mono (Nat.le_of_lt hs)))⟩
 obtain⟨b,hp,_⟩:=LScope.idx_some hk;have ba:=getElem?_lt hp;have o:H.start m name ⟨vk,vn,vs⟩=(H.setNames m s (s.names.set k {b with v:=⟨vk,vn,vs⟩,ready:=true}),0):=by simp[LHeap.start,hob,aV,hk,hp]
 rw[o];obtain⟨_,Z⟩:=h.scp m s hm;rcases Z4 Z with⟨hv,hz⟩|⟨g,c,hv,h2,h3,cY⟩;·omega
 obtain⟨pn,⟨pk,pm,ps⟩,uN,uQ⟩:=b;refine Vy ?_;intro ae;have bz:=λw1 (hh:HeapAt ρ w1 hb ho L H) j=>Tb (hh.scp m s hm).2 (g:=g) Pv j;have BD:g≠w.heap.size:=O'
 have O:=lh ae;have J:=lh bz;rw[hk,hv]at E;simp only[R',Value.ownBlock,Option.map_some]at E;have HH:=lh h1;have HB:=lh cE;have HM:=lh hm;have HP:=lh hp;have HV:=lh hv;clear h h1 cE hob o hm hk aV hp Z hv ae bz;go_enter Tryz.func79,Tryz.ntmps79
 go_wp2_with fail
 refine HC.o.mono ?_;rintro e w1⟨rfl,eh⟩;rw[eh]at HH jH q0 q1 q2 hs HB;clear eh;go_wp2_with fail
 refine(E.o _ HH.o).mono ?_;rintro e w2⟨rfl,au⟩;have fE:=HH.o.below au;have U:=Y7 hs au.size;refine Te ?_;intro mq jw nS;have Y:=lh fE;have I:=lh (HB.o.trans (au.mono (Nat.le_of_lt hs)));clear au fE q0 q1 q2 jH HH HB;go_wp2_with fail
 refine(E.o _ Y.o).mono ?_;rintro e y⟨rfl,F⟩;have u:=Y.o.below F;have r1:=O.o y u 1 (vI pk) rfl;have r2:=O.o y u 2 (vI pm) rfl;have r3:=O.o y u 3 (.string ps) rfl;have r5:=O.o y u 5 (.bool uQ) rfl;have z1:=J.o y u (k*6+1);have z2:=J.o y u (k*6+1+1);have z3:=J.o y u (k*6+1+2);have z5:=J.o y u (k*6+5);have z6:=J.o y u (k*6+3);have p0:=(F.cell (p:=⟨w.heap.size,0,none⟩) U).trans mq;have p1:=(F.cell (p:=⟨w.heap.size,1,none⟩) U).trans jw
 have p2:=(F.cell (p:=⟨w.heap.size,2,none⟩) U).trans nS;have KZ:=lh u;have bP:=lh (I.o.trans (F.mono (Nat.le_of_lt U)));clear F u mq jw nS Y I;go_wp2;go_ret;refine⟨rfl,?_⟩;obtain⟨ρ',X,hA,hF⟩:=Zk8 (vk:=vk) (vn:=vn) (vs:=vs) KZ.o HM.o HP.o HV.o;exact⟨ρ',X,hA,(Fr.of_below cM bP.o).trans hF⟩
end
def LHeap.empty:LHeap:=⟨[],[]⟩
theorem Fr.far{ρ ρ':Nat->Option Role}{hb ho n:Nat}{w w':World}(a:Fr ρ ρ' hb ho w w')(hn:n<=w.heap.size)(hr:∀b,b<n->ρ b=none):Below n w w'∧∀b,b<n->ρ' b=none:=
 ⟨⟨a.os,a.tape,a.output,a.size,λk hk=>a.block k O' (hr k hk)⟩,λb hb=>a.role b O' (hr b hb)⟩
structure Own(w0:World)(ρ:Nat->Option Role)(w:World)(hb:Nat)(L:HL)(H:LHeap):Prop where
 at':HeapAt ρ w hb 0 L H
 old:Below w0.heap.size w0 w
 far:∀b,b<w0.heap.size->ρ b=none
theorem Own.step{w0 w w':World}{ρ ρ':Nat->Option Role}{hb:Nat}{L g:HL}{H m:LHeap}(o:Own w0 ρ w hb L H)(h:HeapAt ρ' w' hb 0 g m)(f:Fr ρ ρ' hb 0 w w'):Own w0 ρ' w' hb g m:=by
 obtain⟨p,u⟩:=f.far o.old.size o.far;exact⟨h,o.old.trans p,u⟩
theorem Own.below{w0 w w':World}{ρ:Nat->Option Role}{hb:Nat}{L:HL}{H:LHeap}(o:Own w0 ρ w hb L H)(h:Below w.heap.size w w'):Own w0 ρ w' hb L H:=
 ⟨o.at'.below h,o.old.trans (h.mono o.old.size),o.far⟩
theorem Own.drew{w0 w:World}{ρ:Nat->Option Role}{hb:Nat}{L:HL}{H:LHeap}(o:Own w0 ρ w hb L H):Own w0 ρ w.drew hb L H:=
 ⟨o.at'.drew,o.old.drew,o.far⟩
theorem Own.grown{w0 w w':World}{ρ:Nat->Option Role}{hb:Nat}{L:HL}{H:LHeap}{r:Option Nat}(o:Own w0 ρ w hb L H)(h:w.grownBy w' r)(hr:∀b,r=some b->ρ b=none∧w0.heap.size<=b):Own w0 ρ w' hb L H:=by
 refine⟨o.at'.keep h.size λb hb=>h.block b (o.at'.live b hb) λe=>hb (hr b e.symm).1,o.old.trans ⟨h.os,h.tape,h.output,h.size,λk hk=>h.block k (Y7 hk o.old.size) λe=>?_⟩,o.far⟩;have:=(hr k e.symm).2;omega
theorem Fr.beside{ρ ρ':Nat->Option Role}{hb:Nat}{w w':World}(f:Fr ρ ρ' hb 0 w w'){b:Nat}(hr:ρ b=none)(hl:b<w.heap.size):w'.heap[b]?=w.heap[b]?∧ρ' b=none∧b<w'.heap.size:=
 ⟨f.block b hl hr,f.role b hl hr,Y7 hl f.size⟩
theorem HeapAt.fresh{ρ:Nat->Option Role}{w:World}{hb ho:Nat}{L:HL}{H:LHeap}(h:HeapAt ρ w hb ho L H){b:Nat}(hb:w.heap.size<=b):ρ b=none:=by
 cases hr:ρ b with
 |none=>rfl
 |some r=>exact absurd (h.live b Qt) O'
theorem Zju(w:World)(n:Int) :
 Calls Tryz.prog 113 #[vI n] w λe w'=>e=.returned (LVal.agg ⟨3,n,⟨#[]⟩⟩)∧Below w.heap.size w w':=by
 go_enter Tryz.func113,Tryz.ntmps113
 go_wp2;exact bodyPost_ret (v:=LVal.agg ⟨3,n,⟨#[]⟩⟩) (by simp[results,Tryz.results113,go_sem,LVal.agg]) rfl ⟨rfl,(Y2 _ _).alloc (Y0 _) _⟩
theorem Y'(w:World)(n:ByteArray) :
 Calls Tryz.prog 114 #[.string n] w λe w'=>e=.returned (LVal.agg ⟨4,0,n⟩)∧Below w.heap.size w w':=by
 go_enter Tryz.func114,Tryz.ntmps114
 go_wp2;exact bodyPost_ret (v:=LVal.agg ⟨4,0,n⟩) (by simp[results,Tryz.results114,go_sem,LVal.agg]) rfl ⟨rfl,(Y2 _ _).alloc (Y0 _) _⟩
end Go.Proofs.YtjikfacdcdiddaaGreatDoor
namespace Go.Proofs
def Tryz.laysM171_ren:Go.Shelf.Ren:=⟨fun|171=>51|243=>88|246=>123|283=>132|284=>133|285=>134|286=>135|129=>145|317=>144|318=>146|319=>147|320=>148|337=>160|338=>161|n=>n,fun|3=>3|9=>9|2=>2|4=>4|171=>208|0=>0|53=>209|37=>184|5=>5|173=>212|212=>222|51=>223|20=>20|213=>224|46=>226|232=>238|233=>239|n=>n,fun|17=>4|18=>6|19=>7|n=>n⟩
theorem Tryz.laysM171:Go.Proofs.LaysM.n171 Tryz.prog Tryz.laysM171_ren:={
 mixed:=by kernel_rfl
 f129:=Tryz.func145.trans (congrArg some (by kernel_rfl))
 f171:=Tryz.func51.trans (congrArg some (by kernel_rfl))
 f243:=Tryz.func88.trans (congrArg some (by kernel_rfl))
 f246:=Tryz.func123.trans (congrArg some (by kernel_rfl))
 f283:=Tryz.func132.trans (congrArg some (by kernel_rfl))
 f284:=Tryz.func133.trans (congrArg some (by kernel_rfl))
 f285:=Tryz.func134.trans (congrArg some (by kernel_rfl))
 f286:=Tryz.func135.trans (congrArg some (by kernel_rfl))
 f317:=Tryz.func144.trans (congrArg some (by kernel_rfl))
 f318:=Tryz.func146.trans (congrArg some (by kernel_rfl))
 f319:=Tryz.func147.trans (congrArg some (by kernel_rfl))
 f320:=Tryz.func148.trans (congrArg some (by kernel_rfl))
 f337:=Tryz.func160.trans (congrArg some (by kernel_rfl))
 f338:=Tryz.func161.trans (congrArg some (by kernel_rfl))
 t0:=Tryz.underlying0
 a0:=Tryz.isAgg0
 z0:=Tryz.sizeOf0
 v0:=Tryz.zeroValue0
 t2:=Tryz.underlying2
 a2:=Tryz.isAgg2
 z2:=Tryz.sizeOf2
 v2:=Tryz.zeroValue2
 t3:=Tryz.underlying3
 a3:=Tryz.isAgg3
 z3:=Tryz.sizeOf3
 v3:=Tryz.zeroValue3
 t4:=Tryz.underlying4
 a4:=Tryz.isAgg4
 z4:=Tryz.sizeOf4
 v4:=Tryz.zeroValue4
 t5:=Tryz.underlying5
 a5:=Tryz.isAgg5
 z5:=Tryz.sizeOf5
 v5:=Tryz.zeroValue5
 t9:=Tryz.underlying9
 a9:=Tryz.isAgg9
 z9:=Tryz.sizeOf9
 v9:=Tryz.zeroValue9
 t20:=Tryz.underlying20
 a20:=Tryz.isAgg20
 z20:=Tryz.sizeOf20
 v20:=Tryz.zeroValue20
 t37:=Tryz.underlying184
 a37:=Tryz.isAgg184
 z37:=Tryz.sizeOf184
 v37:=Tryz.zeroValue184
 t46:=Tryz.underlying226
 a46:=Tryz.isAgg226
 z46:=Tryz.sizeOf226
 v46:=Tryz.zeroValue226
 t51:=Tryz.underlying223
 a51:=Tryz.isAgg223
 z51:=Tryz.sizeOf223
 v51:=Tryz.zeroValue223
 t53:=Tryz.underlying209
 a53:=Tryz.isAgg209
 z53:=Tryz.sizeOf209
 v53:=Tryz.zeroValue209
 t171:=Tryz.underlying208
 a171:=Tryz.isAgg208
 z171:=Tryz.sizeOf208
 v171:=Tryz.zeroValue208
 t173:=Tryz.underlying212
 a173:=Tryz.isAgg212
 z173:=Tryz.sizeOf212
 v173:=Tryz.zeroValue212
 t212:=Tryz.underlying222
 a212:=Tryz.isAgg222
 z212:=Tryz.sizeOf222
 v212:=Tryz.zeroValue222
 t213:=Tryz.underlying224
 a213:=Tryz.isAgg224
 z213:=Tryz.sizeOf224
 t232:=Tryz.underlying238
 a232:=Tryz.isAgg238
 z232:=Tryz.sizeOf238
 v232:=Tryz.zeroValue238
 t233:=Tryz.underlying239
 a233:=Tryz.isAgg239
 z233:=Tryz.sizeOf239
 v233:=Tryz.zeroValue239
 g17:=by kernel_rfl
 g18:=by kernel_rfl
 g19:=by kernel_rfl
 i0:=by kernel_rfl
 i2:=by kernel_rfl
 i3:=by kernel_rfl
 i4:=by kernel_rfl
 i5:=by kernel_rfl
 i9:=by kernel_rfl
 i20:=by kernel_rfl
 i37:=by kernel_rfl
 i46:=by kernel_rfl
 i51:=by kernel_rfl
 i53:=by kernel_rfl
 i171:=by kernel_rfl
 i173:=by kernel_rfl
 i212:=by kernel_rfl
 i232:=by kernel_rfl
 i233:=by kernel_rfl
 m17:=by kernel_rfl
 m18:=by kernel_rfl
 m19:=by kernel_rfl}
open Go.RowKit Go.Sort Go.Lib in
theorem Tryz.strconv_Itoa(n:Int)(g: -9223372036854775808<=n)(m:n<=9223372036854775807)(w:World)(o:Lib.TabIs Tryz.prog w "internal/strconv.uint64pow10" .u64 Lib.pow10Tab) :
 Calls Tryz.prog 51 #[.int .i64 n] w λe w'=>e=.returned (.string ⟨(Lib.itoa n).toArray⟩)∧∃k os,w'=grow (w.drewN k) os:=Any.strconv_Itoa Tryz.laysM171 n g m w o
end Go.Proofs
namespace Go.Proofs.YtjikfacdcdiddaaGreatDoor
open Go Go.RowKit
def F9(w:World):Prop:=Lib.TabIs Tryz.prog w "internal/strconv.uint64pow10" .u64 Lib.pow10Tab
theorem F9.below{w w':World}(h:F9 w)(g:Below w.heap.size w w'):F9 w':=Lib.tabBelow_of_tabIs h w' g
theorem below_grow(w:World)(k:Nat)(os:Array Obj):Below w.heap.size w (Sort.grow (w.drewN k) os):=by
 refine⟨rfl,rfl,rfl,?_,λi hi=>?_⟩;·simp[Sort.grow,World.drewN]
 .simp only[Sort.grow,World.drewN];exact Array.getElem?_append_left hi
theorem Zgh(w:World)(n:Int)(g:-9223372036854775808<=n)(m:n<=9223372036854775807)(ht:F9 w) :
 Calls Tryz.prog 51 #[vI n] w λe w'=>e=.returned (.string ⟨(Lib.itoa n).toArray⟩)∧Below w.heap.size w w':=by
 refine(Tryz.strconv_Itoa n g m w ht).mono ?_;rintro e w'⟨rfl,k,os,rfl⟩;exact⟨rfl,below_grow _ _ _⟩
def UO:ByteArray:=⟨#[117,110,100,101,102,105,110,101,100]⟩
def Zx6:ByteArray:=⟨#[110,117,108,108]⟩
def Zww:ByteArray:=⟨#[116,114,117,101]⟩
def Zwa:ByteArray:=⟨#[102,97,108,115,101]⟩
def Za8:ByteArray:=⟨#[102,117,110,99,116,105,111,110]⟩
def Z9r:ByteArray:=⟨#[111,98,106,101,99,116]⟩
def LHeap.shown(H:LHeap)(v:LVal):ByteArray:=
 if v.kind=0 then UO else if v.kind=1 then Zx6 else if v.kind=2 then(if v.n=0 then Zwa else Zww)
 else if v.kind=3 then⟨(Lib.itoa v.n).toArray⟩else if v.kind=4 then v.s else if H.code v.n=0 then Z9r else Za8
section
variable {ρ:Nat->Option Role}{w:World}{hb ho:Nat}{L:HL}{H:LHeap}
theorem Zoz(h:HeapAt ρ w hb ho L H)(v:LVal)(E:-9223372036854775808<=v.n)(F:v.n<=9223372036854775807)(ht:F9 w) :
 Calls Tryz.prog 24 #[.pointer (some ⟨hb,ho,none⟩),v.agg] w λe w'=>e=.returned (.string (H.shown v))∧Below w.heap.size w w':=by
 obtain⟨k,n,s⟩:=v;simp only at E F;simp only[LVal.agg,LHeap.shown];have g:∀o,Below w.heap.size w (w.alloc o):=λo=>(Y2 _ _).alloc (Y0 _) _;have HB:=lh g;have J:=lh (λo=>Zgh (w.alloc o) n E F (ht.below (g o)));have HC:=lh (λo=>Zgw (h.below (g o)) n);clear h ht g;by_cases m:k=0
 .subst m;exact SL
 by_cases k1:k=1
 .subst k1;exact SL
 by_cases p:k=2
 .subst p;by_cases hn:n=0
  .subst hn;exact SL
  .have X:(n !=0)=true:=by simp[hn]
   simp only[hn,if_false];exact SL
 by_cases u:k=3
 .subst u;go_enter Tryz.func24,Tryz.ntmps24
  go_wp2_with fail
  refine(J.o _).mono ?_;rintro e w1⟨rfl,I⟩;have O:=lh I;clear I;go_wp2;go_ret;exact⟨rfl,(HB.o _).trans (O.o.mono Pg)⟩
 by_cases y:k=4
 .subst y;exact SL
 .have Y:(k==0)=false:=by simp[m]
  have Z:(k==1)=false:=Rw
  have q2:(k==2)=false:=by simp[p]
  have q3:(k==3)=false:=by simp[u]
  have q4:(k==4)=false:=by simp[y]
  simp only[m,k1,p,u,y,if_false];clear m k1 p u y;by_cases hc:H.code n=0
  .rw[hc]at HC;rw[Y5 hc];exact Zwb
  .have U:(H.code n !=0)=true:=by simp[hc]
   rw[Y3 hc];generalize H.code n=c at HC U;exact Zwb
end
def vT(c:Int):Bool:=(decide (97<=c)&&decide (c<=122))||decide (c=95)
def oG(c:Int):Bool:=decide (48<=c)&&decide (c<=57)
def uu(c:Int):Bool:=decide (c=32)||decide (c=10)
def zb(c:Int):Bool:=vT c||oG c
theorem Zbw(w:World)(c:Int):Calls Tryz.prog 55 #[.int .u8 c] w λe w'=>e=.returned (.bool (vT c))∧w'=w:=by
 by_cases m:97<=c
 .by_cases o:c<=122
  .have e:vT c=true:=by simp[vT,m,o]
   exact Zq9
  .have e:vT c=false:=by simp[vT,m,o];omega
   have g:(c==95)=false:=Pe
   exact Zq9
 .by_cases g:c=95
  .subst g;go_enter Tryz.func55,Tryz.ntmps55
   go_wp2;go_ret;exact⟨rfl,rfl⟩
  .have e:vT c=false:=by simp[vT,m,g]
   have p:(c==95)=false:=by simp[g]
   exact Zq9
theorem Z9d(w:World)(c:Int):Calls Tryz.prog 57 #[.int .u8 c] w λe w'=>e=.returned (.bool (oG c))∧w'=w:=by
 by_cases g:48<=c
 .by_cases m:c<=57
  .have e:oG c=true:=by simp[oG,g,m]
   exact Zqr
  .have e:oG c=false:=by simp[oG,m]
   exact Zqr
 .have e:oG c=false:=by simp[oG,g]
  exact Zqr
theorem Zlb(w:World)(c:Int):Calls Tryz.prog 54 #[.int .u8 c] w λe w'=>e=.returned (.bool (uu c))∧w'=w:=by
 by_cases g:c=32
 .subst g;go_enter Tryz.func54,Tryz.ntmps54
  go_wp2;go_ret;exact⟨rfl,rfl⟩
 .have m:(c==32)=false:=by simp[g]
  have e:uu c=(c==10):=by simp[uu,g];rfl
  rw[e];go_enter Tryz.func54,Tryz.ntmps54
  go_wp2;go_ret;exact⟨rfl,rfl⟩
theorem Zod(w:World)(c:Int):Calls Tryz.prog 56 #[.int .u8 c] w λe w'=>e=.returned (.bool (zb c))∧w'=w:=by
 have HL:=lh (Zbw w c);have g:=lh (Z9d w c);unfold zb;cases hl:vT c
 .rw[hl]at HL;go_enter Tryz.func56,Tryz.ntmps56
  go_wp2_with fail
  refine HL.o.mono ?_;rintro e w1⟨rfl,rfl⟩;go_wp2_with fail
  refine g.o.mono ?_;rintro e w1⟨rfl,rfl⟩;go_wp2;go_ret;exact⟨rfl,rfl⟩
 .rw[hl]at HL;go_enter Tryz.func56,Tryz.ntmps56
  go_wp2_with fail
  refine HL.o.mono ?_;rintro e w1⟨rfl,rfl⟩;go_wp2;go_ret;exact⟨rfl,rfl⟩
structure ScanAt(w0 w:World)(sb:Nat)(text:ByteArray)(at':Nat):Prop where
 blk:w.heap[sb]?=some (.cells #[.string text,vI at'] 137 (0,0))
 os:w.os=w0.os
 tape:w.tape=w0.tape
 output:w.output=w0.output
 size:w0.heap.size<=w.heap.size
 block:∀k,k<w0.heap.size->k≠sb->w.heap[k]?=w0.heap[k]?
variable {w0 w w':World}{sb:Nat}{text:ByteArray}{a b:Nat}
theorem ScanAt.refl(h:w.heap[sb]?=some (.cells #[.string text,vI a] 137 (0,0))):ScanAt w w sb text a:=⟨h,rfl,rfl,rfl,Y0 _,λ_ _ _=>rfl⟩
theorem ScanAt.trans(h:ScanAt w0 w sb text a)(g:ScanAt w w' sb text b):ScanAt w0 w' sb text b:=
 ⟨g.blk,g.os.trans h.os,g.tape.trans h.tape,g.output.trans h.output,Y4 h.size g.size,λk hk hn=>(g.block k (Y7 hk h.size) hn).trans (h.block k hk hn)⟩
theorem ScanAt.drew(h:ScanAt w0 w sb text a):ScanAt w0 w.drew sb text a:=⟨h.blk,h.os,h.tape,h.output,h.size,h.block⟩
theorem ScanAt.lt(h:ScanAt w0 w sb text a):sb<w.heap.size:=(Y1.1 h.blk).1
theorem ScanAt.below(h:ScanAt w0 w sb text a)(g:Below w.heap.size w w'):ScanAt w0 w' sb text a:=
 ⟨(g.block sb h.lt).trans h.blk,g.os.trans h.os,g.tape.trans h.tape,g.output.trans h.output,Y4 h.size g.size,λk hk hn=>(g.block k (Y7 hk h.size)).trans (h.block k hk hn)⟩
theorem ScanAt.c0(h:ScanAt w0 w sb text a):vC w sb 0 (.string text):=by simp[vC,World.cell?,h.blk]
theorem ScanAt.c1(h:ScanAt w0 w sb text a):vC w sb 1 (vI a):=by simp[vC,World.cell?,h.blk]
theorem ScanAt.fz(h:ScanAt w0 w sb text a)(o:Nat):w.frozen? ⟨sb,o,none⟩=false:=by simp[World.frozen?,h.blk]
theorem ScanAt.set(h:ScanAt w0 w sb text a)(b:Nat):ScanAt w0 (w.setCell ⟨sb,1,none⟩ (vI b)) sb text b:=
 ⟨Zh _ h.blk,h.os,h.tape,h.output,by simpa using h.size,λk hk hn=>(Y8 _ _ _ _ hn).trans (h.block k hk hn)⟩
def Z5(text:ByteArray)(i:Nat):Int:=((text.data.getD i 0).toNat:Int)
def Zk(p:Int->Bool)(text:ByteArray):Nat->Nat->Nat
 |0,i=>i
 |f+1,i=>if i<text.size&&p (Z5 text i)then Zk p text f (i+1)else i
theorem ZC{i:Nat}(h:i<text.size):Z5 text i=((text[i]'h).toNat:Int):=by
 unfold Z5;have:i<text.data.size:=h;simp only[Array.getD,dif_pos this];rfl
theorem Zd0{p:Int->Bool}{j:Nat}(h:j<text.size)(hp:p (Z5 text j)=true):Zk p text (text.size-j) j=Zk p text (text.size-(j+1)) (j+1):=by
 obtain⟨f,hf⟩:∃f,text.size-j=f+1:=⟨text.size-j-1,by omega⟩
 rw[hf,show text.size-(j+1)=f by omega];simp[Zk,h,hp]
theorem Z8q{p:Int->Bool}{j:Nat}(hp:¬j<text.size∨p (Z5 text j)=false):Zk p text (text.size-j) j=j:=by
 cases hf:text.size-j with
 |zero=>rfl
 | succ f =>
   rcases hp with h|h;·omega
   .simp[Zk,h]
theorem Zg0{u:Value}{p:Int->Bool}(K0:(u=.func (.func 54) #[] #[]∧p=uu)∨(u=.func (.func 56) #[] #[]∧p=zb)∨(u=.func (.func 57) #[] #[]∧p=oG))(h:w.heap[sb]?=some (.cells #[.string text,vI a] 137 (0,0)))(ha:a<=text.size)(hm:text.size<=1000000) :
 Calls Tryz.prog 53 #[vP sb,u] w λe w'=>∃b,b=Zk p text (text.size-a) a∧a<=b∧b<=text.size∧e=.returned (.string (text.extract a b))∧ScanAt w w' sb text b:=by
 rcases K0 with⟨rfl,rfl⟩|⟨rfl,rfl⟩|⟨rfl,rfl⟩;have HL:=lh (λw c=>Zlb w c);obtain⟨P,g⟩:=zX uu
 rw[<-g]at HL ⊢;clear g;rotate_left
 have HL:=lh (λw c=>Zod w c);obtain⟨P,g⟩:=zX zb
 rw[<-g]at HL ⊢;clear g;rotate_left
 have HL:=lh (λw c=>Z9d w c);obtain⟨P,g⟩:=zX oG
 rw[<-g]at HL ⊢;clear g;rotate_left
 all_goals
  have I:=lh (ScanAt.refl h);have c0:=I.o.c0;have c1:=I.o.c1;clear h;go_enter Tryz.func53,Tryz.ntmps53
  go_wp2;go_loopw [] (λwr=>∃j:Nat,a<=j∧j<=text.size∧Zk P text (text.size-j) j=Zk P text (text.size-a) a∧ScanAt w wr sb text j) (λwr=>text.size-(intOf ((wr.cell? ⟨sb,1,none⟩).getD .nilIface)).toNat)
  case atStart=>exact⟨a,Y0 _,ha,rfl,I.o⟩
  case round=>
   obtain⟨j,U,X,Y,hS⟩:=hrel;have y:=hS.c0;have E:=hS.c1;have m:=lh hS;have J:=lh Y;clear hS Y c0 c1;by_cases O:j<text.size
   .obtain⟨B,hB⟩:=zX (P (Z5 text j))
    have Z:=lh hB;have F:=HL.o wr.drew (Z5 text j);rw[<-hB,ZC O]at F;have F:=lh F;clear hB;cases B
    all_goals
     go_wp2_with fail
     refine Z8 [0,2,4,6,8,10,12,14,16,18,20,22,24,26,28,30,32,34,36,38,40] [21,22] (λW=>vC W sb 0 (.string text)∧vC W sb 1 (vI j)) ⟨y,E⟩ λ_=>?_;refine dW ?_
     iterate 21
      refine dV ?_
     refine Z0 ?_;go_wp2_with fail
     refine F.o.mono ?_;rintro e w1⟨rfl,rfl⟩
    .go_wp2_with fail
     refine Z8 [0,2,4,6,8,10,12,14,16] [9,10] (λW=>vC W sb 0 (.string text)∧vC W sb 1 (vI j)) ⟨y,E⟩ λ_=>?_;refine dW ?_
     iterate 9
      refine dV ?_
     refine Z0 ?_;go_wp2;go_ret;exact⟨j,by rw[<-J.o];exact(Z8q (.inr Z.o.symm)).symm,U,X,rfl,m.o.drew.drew⟩
    .have z1:=m.o.fz 1;go_wp2;go_roundw
     case rel=>exact⟨j+1,by omega,by omega,by rw[<-Zd0 O Z.o.symm];exact J.o,m.o.drew.set (j+1)⟩
     case measure=>
      have e1:(wr.setCell ⟨sb,1,none⟩ (vI ((j:Int)+1))).cell? ⟨sb,1,none⟩=some (vI ((j:Int)+1)):=(m.o.set (j+1)).c1;have e2:=m.o.c1;rw[World.cell?_drew,e1,e2];simp[intOf];omega
   .go_wp2_with fail
    refine Z8 [0,2,4,6,8,10,12,14,16,18,20,22,24,26,28,30,32,34,36,38,40] [21,22] (λW=>vC W sb 0 (.string text)∧vC W sb 1 (vI j)) ⟨y,E⟩ λ_=>?_;refine dW ?_
    iterate 21
     refine dV ?_
    refine Z0 ?_;go_wp2_with fail
    refine Z8 [0,2,4,6,8,10,12,14,16] [9,10] (λW=>vC W sb 0 (.string text)∧vC W sb 1 (vI j)) ⟨y,E⟩ λ_=>?_;refine dW ?_
    iterate 9
     refine dV ?_
    refine Z0 ?_;go_wp2;go_ret;exact⟨j,by rw[<-J.o];exact(Z8q (.inl O)).symm,U,X,rfl,m.o.drew.drew⟩
theorem Zjz(h:w.heap[sb]?=some (.cells #[.string text,vI a] 137 (0,0)))(g:a<=text.size)(m:text.size<=1000000) :
 Calls Tryz.prog 53 #[vP sb,.func (.func 54) #[] #[]] w λe w'=>∃b,b=Zk uu text (text.size-a) a∧a<=b∧b<=text.size∧e=.returned (.string (text.extract a b))∧ScanAt w w' sb text b:=Zg0 (.inl ⟨rfl,rfl⟩) h g m
theorem Zou(h:w.heap[sb]?=some (.cells #[.string text,vI a] 137 (0,0)))(g:a<=text.size)(m:text.size<=1000000) :
 Calls Tryz.prog 53 #[vP sb,.func (.func 56) #[] #[]] w λe w'=>∃b,b=Zk zb text (text.size-a) a∧a<=b∧b<=text.size∧e=.returned (.string (text.extract a b))∧ScanAt w w' sb text b:=Zg0 (.inr (.inl ⟨rfl,rfl⟩)) h g m
theorem Zlq(h:w.heap[sb]?=some (.cells #[.string text,vI a] 137 (0,0)))(g:a<=text.size)(m:text.size<=1000000) :
 Calls Tryz.prog 53 #[vP sb,.func (.func 57) #[] #[]] w λe w'=>∃b,b=Zk oG text (text.size-a) a∧a<=b∧b<=text.size∧e=.returned (.string (text.extract a b))∧ScanAt w w' sb text b:=Zg0 (.inr (.inr ⟨rfl,rfl⟩)) h g m
