import Derived.Test.YtkebnpemgkjpkaaGreatDoorJ08
import Derived.Lib.OwnKind
set_option maxRecDepth 100000
set_option maxHeartbeats 20000000
set_option linter.all false
namespace Go.Proofs.YtkebnpemgkjpkaaGreatDoor
open Go Go.RowKit Go.Proofs.Tryz Tryz
def Zi(a:ATree):Bool:=Zg a.text Cw&&(a.kind==1||a.kind==6)
def yB(l:List kB)(g:List ATree):List kB:=g.foldl (λl k=>jf l k.text) l
theorem Zcu(l:List kB)(g:List ATree)(k:ATree):yB l (g++[k])=jf (yB l g) k.text:=by simp[yB,List.foldl_append]
def Za9(l:List kB)(g:List ATree):(yB l g).length<=l.length+g.length:=by
 induction g generalizing l with
 |nil=>simp[yB]
 |cons k g m=>
   have h1:=m (jf l k.text);have p:=Zi6 l k.text;simp only[yB,List.foldl_cons,List.length_cons]at h1 ⊢;omega
def La(body:Bool)(a:ATree):List kB:=yB (yB (if body then zt a else[]) (a.kids.filter xk)) (a.kids.filter vG)
def ll.far{w w':kV}{B m:Nat}{v g:Value}{l:List ATree}{p:List kB}(h:ll w B v l)(ht:Zz w m g p)(hf:∀k,k<w.heap.size->g.ownBlock≠some k->w'.heap[k]?=w.heap[k]?):ll w' B v l:=by
 refine Z3 h λk hk=>hf k (Y9 h k hk).2 λe=>?_;exact WK
def Zkn(w:kV)(B0:Nat)(a:ATree)(O:TreeAt w B0 a)(hm:a.many<274877906944) :
 kC 109 #[a.ptr,.bool true] w λe w'=>∃v,e=.returned v/\Zz w' w.heap.size v (La true a)/\kW w w':=by
 have aX:=Zbd a;have HT:=lh O;refine Aao ?_;intro nh dA tf fj qV jy;refine WE ?_;intro hF hL P hP Q hQ;unfold La;simp only[if_true];rw[<-hP]at nh qV;rw[<-hQ]at dA jy;simp only[<-hP]at hF;simp only[<-hQ]at hL;rw[<-hP,<-hQ];clear hP hQ tf fj O;have U:=lh hF;have HL:=lh hL;clear hF hL;have u:=Z89 w B0 a HT.o Px;obtain⟨l0,X⟩:=zX (zt a)
 rw[<-X]at u ⊢;have y:=lh u;clear u X;unfold ATree.ptr at U HL y ⊢;go_enter func109,ntmps109
 go_wp2_with fail
 refine y.o.mono ?_;rintro e w1⟨v1,rfl,Y,Z,kj⟩;have za:=lh Y;have F:=lh Z;clear y Y Z;go_wp2_with fail
 refine(U.o w1 (HT.o.bel F.o)).mono ?_;rintro e w2⟨v2,rfl,cG,I⟩;obtain⟨p2,jR,rfl,dF,fQ⟩:∃p cp,v2=.slice p P.length cp/\P.length<=cp/\cp<=maxLen:=by
  exact Ach
 have uI:=lh (za.o.bel I);have aN:=zT F I;have N2:=lh cG;obtain⟨m,J⟩:=zX P.length
 have Eh:m<=9223372036854775807:=QP
 rw[<-J]at dF N2 nh ⊢;have bT:=lh J;clear cG I J za F;go_wp2_with fail
 go_loopw [5,16] (λv i wr=>∃(k:Nat) (v':Value),v'=v/\k<=m/\i=(vI k)/\Hid (Zz wr w.heap.size v' (yB l0 (P.take k)))/\Hid (ll wr w1.heap.size (.slice p2 m jR) P)/\Hid (kW w wr)) (λ_ i _=>m-(intOf i).toNat)
 case atStart=>exact⟨0,_,rfl,Yh _,rfl,uI,N2,aN⟩
 case round=>
  exact tq4
def Zh6(w:kV)(B0:Nat)(a:ATree)(J:TreeAt w B0 a)(hm:a.many<274877906944) :
 kC 109 #[a.ptr,.bool false] w λe w'=>∃v,e=.returned v/\Zz w' w.heap.size v (La false a)/\kW w w':=by
 have Z:=Zbd a;have HT:=lh J;refine Aao ?_;intro nh dA tf fj qV jy;refine WE ?_;intro hF hL P hP Q hQ;unfold La;simp only[Bool.false_eq_true,if_false];rw[<-hP]at nh qV;rw[<-hQ]at dA jy;simp only[<-hP]at hF;simp only[<-hQ]at hL;rw[<-hP,<-hQ];clear hP hQ tf fj J;have O:=lh hF;have HL:=lh hL;clear hF hL;obtain⟨l0,u⟩:∃l:List kB,l=[]:=⟨_,rfl⟩
 have kj:l0.length<=a.many:=by rw[u];exact Yh _
 have U:Hid (Zz w w.heap.size (.slice none 0 0) l0):=lh (by rw[u];exact Zz.nil _ _);rw[<-u];have y:=lh (Y2 w.heap.size w);clear u;unfold ATree.ptr at O HL ⊢;go_enter func109,ntmps109
 go_wp2_with fail
 refine(O.o w (HT.o.bel y.o)).mono ?_;rintro e w2⟨v2,rfl,cG,F⟩;obtain⟨p2,X,rfl,Y,fQ⟩:∃p cp,v2=.slice p P.length cp/\P.length<=cp/\cp<=maxLen:=by
  exact Ach
 have uI:=lh (U.o.bel F);have aN:=zT y F;have N2:=lh cG;obtain⟨m,I⟩:=zX P.length
 have Eh:m<=9223372036854775807:=QP
 rw[<-I]at Y N2 nh ⊢;have bT:=lh I;clear cG F I U y;go_wp2_with fail
 go_loopw [5,16] (λv i wr=>∃(k:Nat) (v':Value),v'=v/\k<=m/\i=(vI k)/\Hid (Zz wr w.heap.size v' (yB l0 (P.take k)))/\Hid (ll wr w.heap.size (.slice p2 m X) P)/\Hid (kW w wr)) (λ_ i _=>m-(intOf i).toNat)
 case atStart=>exact⟨0,_,rfl,Yh _,rfl,uI,N2,aN⟩
 case round=>
  exact tq4
def Zan(body:Bool)(w:kV)(g:Nat)(a:ATree)(m:TreeAt w g a)(hm:a.many<274877906944) :
 kC 109 #[a.ptr,.bool body] w λe w'=>∃v,e=.returned v/\Zz w' w.heap.size v (La body a)/\kW w w':=by
 cases body;·exact Zh6 w g a m hm
 .exact Zkn w g a m hm
def Z4c(w:kV)(B:Nat)(a:ATree)(p:TreeAt w B a) :
 kC 18 #[a.ptr] w λe w'=>e=.returned (.bool (Zi a))/\w'=w:=by
 have c0:=p.c0;have c1:=p.c1;unfold Zi ATree.ptr;obtain⟨g,y⟩:=zX a.kind
 obtain⟨tx,F⟩:=zX a.text
 rw[<-y]at c0 ⊢;rw[<-F]at c1 ⊢;clear y F p;by_cases hs:tx=Cw
 .subst hs;have J:Zg Cw Cw=true:=by simp[Zg]
  rw[J];unfold Cw at c1;rcases(by omega:g=1\/g=6\/(g≠1/\g≠6))with m|m|⟨m,h4⟩
  .subst m;exact Zrh
  .subst m;exact Zrh
  .have O:(g==1)=false:=by simpa using m
   have U:(g==6)=false:=Rb
   clear m h4;rw[O,U];exact Zrh
 .have u:Zg tx Cw=false:=by simp[Zg,hs]
  rw[u];have I:(tx.toList==Cw.toList)=false:=by rw[Ti];exact u
  have X:(tx.toList== [115,116,114,105,99,116])=false:=by
   have:Cw.toList=[115,116,114,105,99,116]:=Pz
   rwa[this]at I
  clear I;clear hs u;exact Zrh
open Go.ChangeMaps Go.MapKept
def zr(b:Nat):Value:=(vP b)
def tK(w:kV)(k:Nat):Prop:=∃c t,w.heap[k]?=some (.cells c t (0,0))
def pj(w:kV)(b:Nat)(l:List (Nat×Nat)):Prop:=
 ∃g m,w.heap[b]?=some (.map g m)/\g.toList.map (λe=>(e.key,e.val))=l.map (λx=>(zr x.1,Value.int .i64 x.2))/\Go.MapKept.Stamped g m
def Zcp(w:kV)(a b:Nat)(ha:tK w a)(hb:tK w b):(Op.equal 22 (zr a) (zr b)).run Tryz.prog w=.ok (decide (a=b)) w:=by
 obtain⟨c1,u,h1⟩:=ha;obtain⟨c2,t2,g⟩:=hb;have m:(sizeOf 41).run Tryz.prog w=.ok 4 w:=Pz
 show(Op.equalIn (9999+1) _ _ _).run Tryz.prog w=_;unfold Op.equalIn zr;simp only[Sem.run_bind,run_underlying underlying22,Result.andThen,m];by_cases h:a=b
 .subst h;simp[run_sameAddr_same]
 .have p:(⟨a,0,none⟩:Addr)≠⟨b,0,none⟩:=λe=>h (congrArg Addr.block e);rw[decide_eq_false h];simp;exact run_sameAddr_other w p h1 g
def Zq3(w:kV)(k:Nat)(hk:tK w k):∀(g:List MapEntry) (l:List (Nat×Nat)) (i:Nat),g.map (λe=>(e.key,e.val))=l.map (λx=>(zr x.1,Value.int .i64 x.2))->(∀x∈l,tK w x.1/\x.1≠k)->
 (Instr.findAsking 22 (zr k) g i).run Tryz.prog w=.ok none w:=by
 intro g;induction g with
 |nil=>intro l i _ _;rfl
 |cons e g p=>
   intro l i hl hx;cases l with
   |nil=>simp at hl
   |cons x l=>
     simp only[List.map_cons,List.cons.injEq,Prod.mk.injEq]at hl;obtain⟨⟨h1,I⟩,u⟩:=hl;have m:=hx x PE;unfold Instr.findAsking;rw[h1];simp only[Sem.run_bind,Zcp w k x.1 hk m.1,Result.andThen];rw[show decide (k=x.1)=false by simp;exact λe=>m.2 e.symm];exact p l (i+1) u λy F=>hx y (List.mem_cons_of_mem _ F)
def Zpp(w:kV)(k v:Nat)(hk:tK w k):∀(g:List MapEntry) (l:List (Nat×Nat)) (i:Nat),g.map (λe=>(e.key,e.val))=l.map (λx=>(zr x.1,Value.int .i64 x.2))->(∀x∈l,tK w x.1)->(l.map (·.1)).Nodup->(k,v)∈l->
 ∃j,(Instr.findAsking 22 (zr k) g i).run Tryz.prog w=.ok (some (j,vI v)) w:=by
 intro g;induction g with
 |nil=>intro l i hl _ _ hm;cases l;(cases hm);(simp at hl)
 |cons e g p=>
   intro l i hl hx hd hm;cases l with
   |nil=>cases hm
   |cons x l=>
     simp only[List.map_cons,List.cons.injEq,Prod.mk.injEq]at hl;obtain⟨⟨h1,u⟩,F⟩:=hl;have I:=hx x PE;rw[List.map_cons,List.nodup_cons]at hd;unfold Instr.findAsking;rw[h1];simp only[Sem.run_bind,Zcp w k x.1 hk I,Result.andThen];by_cases m:k=x.1
     .have J:x=(k,v):=by
       rcases List.mem_cons.1 hm with h|h;·exact h.symm
       .exact absurd (List.mem_map.2 ⟨(k,v),h,m⟩) hd.1
      rw[decide_eq_true m];refine⟨i,?_⟩;rw[u,J];rfl
     .rw[decide_eq_false m];refine p l (i+1) F (λy O=>hx y (List.mem_cons_of_mem _ O)) hd.2 ?_;rcases List.mem_cons.1 hm with h|h;·exact absurd (by rw[<-h]) m
      .exact h
def Zhz(k:Nat)(g:List MapEntry)(l:List (Nat×Nat))(h:g.map (λe=>(e.key,e.val))=l.map (λx=>(zr x.1,Value.int .i64 x.2))) :
 (l=[]/\Instr.findNow (.pointer 41) (zr k) g 0=some none)\/(l≠[]/\Instr.findNow (.pointer 41) (zr k) g 0=none):=by
 cases g with
 |nil=>
   cases l with
   |nil=>exact .inl ⟨rfl,rfl⟩
   |cons x l=>simp at h
 |cons e g=>
   cases l with
   |nil=>simp at h
   |cons x l=>
     simp only[List.map_cons,List.cons.injEq,Prod.mk.injEq]at h;refine .inr ⟨by simp,?_⟩;unfold Instr.findNow;rw[h.1.1];rfl
def Ziz{w:kV}{k:Nat}(hk:tK w k){g:List MapEntry}{l:List (Nat×Nat)}(h:g.map (λe=>(e.key,e.val))=l.map (λx=>(zr x.1,Value.int .i64 x.2)))(hx:∀x∈l,tK w x.1/\x.1≠k) :
 (Instr.findKey 22 (zr k) g).run Tryz.prog w=.ok none w:=by
 unfold Instr.findKey;simp only[Sem.run_bind,run_underlying underlying22,Result.andThen];rcases Zhz k g l h with⟨_,h1⟩|⟨_,h1⟩;·rw[h1];rfl
 .rw[h1];exact Zq3 w k hk g l 0 h hx
def Zr5{w:kV}{k v:Nat}(hk:tK w k){g:List MapEntry}{l:List (Nat×Nat)}(h:g.map (λe=>(e.key,e.val))=l.map (λx=>(zr x.1,Value.int .i64 x.2)))(hx:∀x∈l,tK w x.1)(hd:(l.map (·.1)).Nodup)(hm:(k,v)∈l) :
 ∃j,(Instr.findKey 22 (zr k) g).run Tryz.prog w=.ok (some (j,vI v)) w:=by
 unfold Instr.findKey;simp only[Sem.run_bind,run_underlying underlying22,Result.andThen];rcases Zhz k g l h with⟨m,h1⟩|⟨_,h1⟩;·rw[m]at hm;cases hm
 .rw[h1];exact Zpp w k v hk g l 0 h hx hd hm
def Zcd(w:kV)(e:Bool)(k:Nat):(Instr.checkKey e 10000 22 (zr k)).run Tryz.prog w=.ok () w:=by
 show(Instr.checkKey e (9999+1) _ _).run Tryz.prog w=_;unfold Instr.checkKey zr;simp only[Sem.run_bind,run_underlying underlying22,Result.andThen];rfl
def pj.update{w:kV}{b k v:Nat}{l:List (Nat×Nat)}(h:pj w b l)(hk:tK w k)(hx:∀x∈l,tK w x.1/\x.1≠k) :
 ∃w',(Instr.mapUpdate 47 (.map (some b)) (zr k) (vI v)).run Tryz.prog w=.ok () w'/\pj w' b (l++[(k,v)])/\w.grownBy w' (some b):=by
 obtain⟨m,p,hb,he,hst⟩:=h;have u:=Ziz hk he hx;refine⟨setBlock w b (.map (m.push ⟨zr k,vI v,p⟩) (p+1)),?_,⟨_,_,heap_setBlock_same hb _,?_,stamped_push hst λx F=>?_⟩,⟨rfl,rfl,rfl,by simp[setBlock],λi _ hi=>heap_setBlock_other hb _ (λe=>hi (by rw[e]))⟩⟩
 .unfold Instr.mapUpdate;simp[run_underlying underlying47,Go.MapKept.run_getObj_map hb,Zcd,u,Go.MapKept.run_setObj_map _ hb,Result.andThen,setBlock]
 .rw[Array.toList_push,Yl,Yl,he];rfl
 .have h1:(x.key,x.val)∈m.toList.map (λe=>(e.key,e.val)):=List.mem_map.2 ⟨x,F,rfl⟩;rw[he]at h1;obtain⟨y,G,e⟩:=List.mem_map.1 h1;intro g;have I:x.key=zr y.1:=(congrArg Prod.fst e).symm;rw[I]at g;unfold zr at g;simp only[Value.pointer.injEq,Option.some.injEq,Addr.mk.injEq,and_true]at g;exact(hx y G).2 g
def Z6p(w:kV){ai:Array Oper}{g:List Oper}{o:Oper}{a:Act}{Q:Exit->Act->kV->Prop}
 (p:o.guard=none)(m x y:Operand)(eD:o.op=Op.mapUpdate 47 m x y)(b k v:Nat)(l:List (Nat×Nat))
 (hm:a.eval m=.map (some b))(hx:a.eval x=zr k)(hv:a.eval y=(vI v))(h:pj w b l)(hk:tK w k)(hl:∀x∈l,tK w x.1/\x.1≠k)
 (hK:∀w',pj w' b (l++[(k,v)])->w.grownBy w' (some b)->wpList Tryz.prog ai Q g (a.put o.dst undef) w') :
 wpList Tryz.prog ai Q (o::g) a w:=by
 refine wpList_plain p λu BY=>?_;obtain⟨w',ip,r1,r2⟩:=h.update (v:=v) hk hl;exact Zxt
def pj.len{w:kV}{b:Nat}{l:List (Nat×Nat)}(h:pj w b l):∃g m,w.heap[b]?=some (.map g m)/\g.size=l.length:=by
 obtain⟨g,m,hb,he,hst⟩:=h;refine⟨g,m,hb,?_⟩;have:=congrArg List.length he;simpa using this
def Zt6(u:Addr){σ:Type}(Inv:σ->kV->Prop)(g:σ->ATree->Bool×σ)(B:Nat):∀(m:Nat) (a:ATree),a.many<=m->(∀s w,Inv s w->TreeAt w B a)->
 ∀s,(∀x s',Reach g a s x s'->∀w,Inv s' w->kC 33 #[x.ptr,.pointer (some u)] w λe w'=>e=.returned (.bool (g s' x).1)/\Inv (g s' x).2 w')->
 ∀w,Inv s w->kC 11 #[a.ptr,.func (.func 33) #[] #[.pointer (some u)]] w λe w'=>e=.returned (.tuple #[])/\Inv (sp g a s) w':=by
 exact tq2
def kR(l:List (Nat×Nat))(a:ATree):Bool×List (Nat×Nat):=(true,l++[(a.b,l.length)])
mutual
theorem Z9q:∀(a:ATree) (l:List (Nat×Nat)),(sp kR a l).map (·.1)=l.map (·.1)++a.subs.map (·.b)
 | .mk b v k t n g,l=>by
   simp only[sp,kR,if_true,ATree.subs,List.map_cons];rw[Za5 g];simp[ATree.b]
theorem Za5:∀(g:List ATree) (l:List (Nat×Nat)),(pV kR g l).map (·.1)=l.map (·.1)++(lw g).map (·.b)
 | [],l=>by simp[pV,lw]
 |a::g,l=>by
   simp only[pV,lw,List.map_append];rw[Za5 g,Z9q a,List.append_assoc]
end
def Zn0(l m:List ATree):lw (l++m)=lw l++lw m:=by
 induction l with
 |nil=>rfl
 |cons a l g=>simp only[List.cons_append,lw,g,List.append_assoc]
theorem Zup(a:ATree):a.subs=a::lw a.kids:=by cases a;rfl
def Zrn{l:List ATree}{i:Nat}{k:ATree}(h:l[i]?=some k):lw l=lw (l.take i)++(k.subs++lw (l.drop (i+1))):=by
 obtain⟨hi,hk⟩:=List.getElem?_eq_some_iff.1 h;have:l=l.take i++(k::l.drop (i+1)):=by
  rw[<-hk,List.getElem_cons_drop,List.take_append_drop]
 rw[show lw l=lw (l.take i++(k::l.drop (i+1)))from congrArg lw this,Zn0];rfl
def Zh0{a x:ATree}{s s':List (Nat×Nat)}(h:Reach kR a s x s'):(s.map (·.1)++a.subs.map (·.b)).Nodup->x.b∉s'.map (·.1):=by
 induction h with
 |self a s=>
   intro hd g;exact(List.nodup_append.1 hd).2.2 _ g _ (List.mem_map.2 ⟨a,Z8n a,rfl⟩) rfl
 | @kid a k x s s' i ok hk h m=>
   intro hd;refine m ?_;rw[Za5];simp only[kR,List.map_append,List.map_cons,List.map_nil];refine List.Nodup.sublist ?_ hd;rw[Zup a,Zrn hk];simp only[List.map_cons,List.map_append,List.append_assoc,List.cons_append,List.nil_append];refine List.Sublist.append (List.Sublist.refl _) (List.Sublist.cons_cons _ (List.Sublist.append (List.Sublist.refl _) (List.sublist_append_left _ _)))
structure NInv(w0:kV)(c mb:Nat)(l:List (Nat×Nat))(w:kV):Prop where
 cell:w.heap[c]?=some (.cells #[.map (some mb)] 47 (0,0))
 map:pj w mb l
 bel:kW w0 w
 le:w0.heap.size<=mb
 has:∀x∈l,tK w0 x.1
def tK.bel{w0 w:kV}{k:Nat}(h:tK w0 k)(g:kW w0 w):tK w k:=by
 obtain⟨c,t,h⟩:=h;exact⟨c,t,(g.block k (Y1.1 h).1).trans h⟩
theorem TreeAt.cellsOf{w:kV}{B:Nat}{a:ATree}(h:TreeAt w B a):tK w a.b:=⟨_,_,h.blkOf⟩
def Zql(w0:kV)(c mb B:Nat)(U:c≠mb)(x:ATree)(hx:TreeAt w0 B x)(l:List (Nat×Nat))(w:kV)(hI:NInv w0 c mb l w)(hf:x.b∉l.map (·.1)) :
 kC 33 #[x.ptr,vP c] w λe w'=>e=.returned (.bool (kR l x).1)/\NInv w0 c mb (kR l x).2 w':=by
 have g:=lh hI;obtain⟨p,dR,hb,u⟩:=hI.map.len;have ia:∀F,(Builtin.len_ #[47] F #[.map (some mb)]).run Tryz.prog w=.ok (vI p.size) w:=λF=>by
  simp[Builtin.len_,run_underlying underlying47,Go.MapKept.run_getObj_map hb,Result.andThen,goInt]
 have cc:w.cell? ⟨c,0,none⟩=some (.map (some mb)):=QG
 obtain⟨X,HL,Y,Z,HB⟩:=gp (hx.cellsOf.bel hI.bel) (show∀y∈l,tK w y.1/\y.1≠x.b from λy m=>⟨(hI.has y m).bel hI.bel,λe=>hf (List.mem_map.2 ⟨y,m,e⟩)⟩) hx u (Y1.1 hI.cell).1;clear hI hx hf u;unfold ATree.ptr;simp only[kR];go_enter func33,ntmps33
 go_wp2_with (at_mapUpdate;go_must (refine Z6p _ rfl _ _ _ rfl mb x.b p.size l rfl rfl rfl g.o.map X.o HL.o ?_);intro w1 I J;have HP:=lh I;have O:=lh J;clear I J)
 go_ret;refine⟨rfl,?_,?_,?_,g.o.le,?_⟩;·exact(O.o.block c HB.o (λe=>U (Yc e))).trans g.o.cell
 .rw[<-Z.o];exact HP.o
 .exact g.o.bel.grown O.o g.o.bel.size λk hk=>by cases hk;exact g.o.le
 .intro y m;rcases List.mem_append.1 m with h|h;·exact g.o.has y h
  .simp only[List.mem_singleton]at h;rw[h];exact Y.o.cellsOf
def Zgq(a:ATree):a.subs.length=a.many:=by
 obtain⟨b,v,k,t,n,g⟩:=a;simp only[ATree.subs,ATree.many,List.length_cons,Zaj]
def Zj8(w:kV)(B:Nat)(a:ATree)(g:TreeAt w B a)(hd:(a.subs.map (·.b)).Nodup) :
 kC 14 #[a.ptr] w λe w'=>∃mb,e=.returned (.map (some mb))/\pj w' mb (sp kR a [])/\kW w w'/\w.heap.size<=mb:=by
 refine FG ?_;intro iO;have F:∀w:kV,(Instr.makeMap 47 none).run Tryz.prog w=.ok (.map (some w.heap.size)) (w.alloc (.map #[] 0)):=λw=>run_makeMap _ w
 have m:=lh (λ(w1:kV) (h:NInv w (w.heap.size+1) w.heap.size [] w1)=>Zt6 ⟨w.heap.size+1,0,none⟩ (NInv w (w.heap.size+1) w.heap.size) kR B a.many a (Y0 _) (λs w1 h=>g.keep λk _ hk=>h.bel.block k hk) []
  (λx s hx w1 h=>Zql w (w.heap.size+1) w.heap.size B Px x (Zag g hx.sub) s w1 h (Zh0 hx (by simpa using hd))) w1 h)
 have u:NInv w (w.heap.size+1) w.heap.size [] ((w.alloc (.map #[] 0)).alloc (.cells #[.map (some w.heap.size)] 47)):=by
  refine⟨?_,⟨#[],0,?_,rfl,Go.MapKept.stamped_empty 0⟩,((Y2 _ _).alloc (Y0 _) _).alloc PE _,Y0 _,λ_ h=>by cases h⟩
  .have:=(Go.MapKept.heap_alloc (w.alloc (.map #[] 0)) (.cells #[.map (some w.heap.size)] 47)).1;simpa using this
  .exact((Go.MapKept.heap_alloc (w.alloc (.map #[] 0)) (.cells #[.map (some w.heap.size)] 47)).2 _ PE).trans (Go.MapKept.heap_alloc w (.map #[] 0)).1
 have y:=lh u;clear u g hd;unfold ATree.ptr at m ⊢;go_enter func14,ntmps14
 go_wp2_with fail
 refine(m.o _ y.o).mono ?_;rintro e w1⟨rfl,hI⟩;have I:w1.cell? ⟨w.heap.size+1,0,none⟩=some (.map (some w.heap.size)):=QG
 have p:=lh hI;clear hI y m;go_wp2;go_ret;exact⟨_,rfl,p.o.map,p.o.bel,p.o.le⟩
structure RS where
 ts:List Tok
 f:Option (Int×Nat)
abbrev RR:=Option (Tree×RS)
def WI(s:kB):Int:=if Zg s Hs then 25 else if Zg s V0 then 26 else if Zg s Wc then 27 else if Zg s Vt then 28 else if Zg s U5 then 29 else if Zg s Vn then 30 else if Zg s V5 then 31 else 0
def Zov(s:kB):Int:=if Zg s TP then 19 else if Zg s Un then 20 else if Zg s Vg then 21 else if Zg s Vw then 22 else 0
def WS(t:Tok):Prop:=(t.kind=2->WI t.text=0)/\(t.kind=5->Zov t.text=0)
def AcL(ts:List Tok):Prop:=∀t∈ts,WS t
structure QC where
 rb:Nat
 tb:Nat
 off:Nat
 cap:Nat
 L:List Tok
section
variable {w w':kV}{C:QC}{i:Nat}{f:Option (Int×Nat)}{σ:RS}
theorem RFr.of_set{w:kV}{rb:Nat}(o:Nat)(x:Value):RFr w (w.setCell ⟨rb,o,none⟩ x) rb:=(RFr.refl w rb).set o x
end
section
variable {w0 w w' w1 w2 wA:kV}{B rb:Nat}{v:Value}{kids:List ATree}{ts:List Tree}{a:ATree}{t:Tree}{k n:Int}{tx:kB}{b:Nat}
end
def Zdx{P:Nat->Prop}(h:∃g,P g):∃m,P m/\∀k,P k->m<=k:=by
 obtain⟨g,p⟩:=h;induction g using Nat.strongRecOn with
 |ind g u=>
   by_cases h:∃k,k<g/\P k
   .obtain⟨k,hk,hp⟩:=h;exact u k hk hp
   .exact⟨g,p,λk hk=>Nat.le_of_not_lt λhl=>h ⟨k,hl,hk⟩⟩
open Classical in
noncomputable def least(P:Nat->Prop):Nat:=if h:∃g,P g then Classical.choose (Zdx h)else 0
def Zkp:∀{f d:Nat} {k:Int} {g:List Tree} {us ts:List Tok} {t:Tree},Z2 f (.stmts k g) d us=some (.ok (t,ts))->∃tx l,t=.mk k tx 0 l:=by
 intro f;induction f with
 |zero=>intro d k g us ts t h;cases h
 |succ f m=>
   intro d k g us ts t h;rw[Z2]at h;generalize(if k=1 then decide ((c9 us).kind=6)else ak Zn us)=c at h;cases c
   .obtain⟨x,vs,_,h⟩:=Sg h;exact m h
   .obtain⟨rfl,_⟩:=TS h;exact⟨_,_,rfl⟩
def Zkz(f:Nat)(body:Bool)(hS:bH 29 (λrb=>#[vP rb,vI 6,.string Zn]) (.stmts 6 []) f) :
 bH 96 (λrb=>#[vP rb,.bool body]) (.block body) (f+1):=by
 intro w rb B d ts r m hp;have hw:lF Ku ts (λts=>Zq (Z2 f (.stmts 6 []) d ts) λx ts=>lF Zn ts λts=>ir (if body then x else .mk 6 ByteArray.empty 0 x.kids) ts)=some r:=hp;have u:=lh m;simp only;rcases T8 hw with⟨hs,h1⟩|⟨hs,rfl⟩
 .have HC:=lh (Mn w rb ts d Ku m.rd hs);have H1:=lh h1;clear m hp hw hs h1;go_enter func96,ntmps96
  go_wp2_with fail
  refine HC.o.mono ?_;rintro e w1⟨rfl,dz,U⟩;have X:=lh (u.o.tail dz U);have F1:=lh U;clear dz U HC;rcases Zf H1.o with⟨⟨c,p⟩,hv,rfl⟩|⟨t,y,hv,h2⟩
  .have HV:=hS w1 rb B d _ _ X.o hv;simp only at HV;unfold Zn at HV;have HV:=lh HV;exact Zwy
  .have HV:=hS w1 rb B d _ _ X.o hv;simp only at HV;unfold Zn at HV;have HV:=lh HV;have hl:=TL hv;obtain⟨tx,l,rfl⟩:=Zkp hv;have H2:=lh h2;clear hv h2;go_wp2_with fail
   refine HV.o.mono ?_;rintro e w2⟨a,rfl,Y,Z,ap⟩;obtain⟨b,v,k,LR,n,kids⟩:=a;have jJ:=Y.tree;simp only[ATree.tree,Tree.mk.injEq]at jJ;obtain⟨rfl,rfl,rfl,rfl⟩:=jJ;have F:=Y.pre F1.o;have F2:=F1.o.trans ap;have ac:=F.at'.blkOf;simp only[ATree.b,ATree.v,ATree.kind,ATree.text,ATree.n]at ac ⊢;have c1:w2.cell? ⟨b,1,none⟩=some (.string LR):=PC
   have z1:w2.frozen? ⟨b,1,none⟩=false:=Qg
   have g:=X.o.next Z ap hl;have J:=lh (Got.text (t':=ByteArray.empty) u.o.lt u.o.le F F2 Z);have O:Pre (w2.setCell ⟨b,1,none⟩ (.string ByteArray.empty)) rb B d y:=⟨J.o.2.2,g.deep,g.lt,by rw[Yf];exact g.le,g.few⟩
   obtain⟨g,O,F2,F⟩:=en g O F2 F;clear Y Z ap HV hl ac;rcases T8 H2.o with⟨hs,I⟩|⟨hs,rfl⟩
   .have I:=Yc I;have HR:=lh I.symm;cases body
    .have HC:=Mn _ rb y d Zn O.o.rd hs;unfold Zn at HC;have HC:=lh HC;clear hs I;go_wp2_with fail
     refine Zpy ?_;intro w3 bG bg R3 F3;clear bG bg;go_wp2;go_ret;rw[HR.o];exact⟨_,rfl,J.o.1.rfr u.o.lt F3.o,R3.o,J.o.2.1.trans F3.o⟩
    .have HC:=Mn _ rb y d Zn g.o.rd hs;unfold Zn at HC;have HC:=lh HC;clear hs I;go_wp2_with fail
     refine Zpy ?_;intro w3 bG bg R3 F3;clear bG bg;go_wp2;go_ret;rw[HR.o];exact⟨_,rfl,F.o.rfr u.o.lt F3.o,R3.o,F2.o.trans F3.o⟩
   .cases body
    .have HC:=Ty _ rb y d Zn O.o.rd hs;unfold Zn at HC;have HC:=lh HC;clear hs;go_wp2_with fail
     refine HC.o.mono ?_;rintro e w3⟨⟨b,rfl,h1,h2⟩,hB⟩;exact⟨rfl,mc.err J.o.2.1 ⟨b,rfl,h1,h2⟩ hB⟩
    .have HC:=Ty _ rb y d Zn g.o.rd hs;unfold Zn at HC;have HC:=lh HC;exact AbU
 .have HC:=lh (Ty w rb ts d Ku m.rd hs);clear m hp hw hs;go_enter func96,ntmps96
  exact Wo
def Zmy(f:Nat)(kind:Int)(y:Bool)(hV:bH 103 cW .value f) :
 bH 99 (λrb=>#[vP rb,vI kind,.bool y]) (.decl kind y) (f+1):=by
 intro w rb B d ts r F hp;have hw:B6 ts (λs ts=>if y&& !ak iA ts then xn 3 ts else if ak iA ts then Zq (Z2 f .value d ts.tail) λx ts=>ir (.mk kind s 0 [x]) ts else ir (.mk kind s 0 []) ts)=some r:=hp;have HP:=lh F;simp only;rcases Z3b hw with⟨hk,h1⟩|⟨hk,rfl⟩
 .have HC:=lh (Va w rb ts d F.rd hk);obtain⟨s,hs⟩:=zX ((c9 ts).text)
  rw[<-hs]at HC h1;have I:=lh h1;clear F hp hw hk h1 hs;go_enter func99,ntmps99
  go_wp2_with fail
  refine HC.o.mono ?_;rintro e w1⟨rfl,dz,U⟩;have P1:=HP.o.tail dz U;have X:=lh (Zw w1 rb kind s none 0 0);have Y:kW w1 (w1.alloc (.cells #[vI kind,.string s,vI 0,.slice none 0 0] 41)):=(Y2 _ _).alloc (Y0 _) _;obtain⟨nb,Z⟩:=zX w1.heap.size
  have u:=Got.leaf (k:=kind) (t:=s) (n:=0) HP.o.le U;have m:=P1.below Y;have F2:=U.trans (RFr.below (rb:=rb) Y);rw[<-Z]at u X;go_wp2_with fail
  refine X.o.mono ?_;rintro e w2⟨rfl,ci⟩;rw[<-ci]at u m F2;obtain⟨th,u,m,F2⟩:=en Z u m F2;clear dz U HC P1 X Y Z ci;obtain⟨us,jG⟩:=zX ts.tail
  rw[<-jG]at m I;have OD:=lh jG;clear jG;by_cases he:ak iA us=true
  .have h1:=I.o;rw[Y3 (by rw[he];simp),Y5 he]at h1;have g:=Sl w2 rb us d iA m.o.rd;rw[he]at g;unfold iA at g;have g:=lh g;have HE:=lh he;have H2:=lh h1;clear h1 he;have J:∀w3,kW w2 w3->Hid (Pre w3 rb B d us/\Got w B w3 (.mk nb (.slice none 0 0) kind s 0 []) (.mk kind s 0 [])/\RFr w w3 rb):=λw3 hB=>lh ⟨m.o.below hB,u.o.rfr HP.o.lt (RFr.below (rb:=rb) hB),F2.o.trans (RFr.below hB)⟩;have Ei:=lh J;clear J;cases y
   .obtain⟨PX,GX,FX⟩:=ds m.o u.o F2.o;clear Ei g;have HX:=HP.o.lt;have ay:=HP.o.lt;have HT:=xH w2 rb us d iA PX.o.rd HE.o;exact tq7
   .go_wp2_with fail
    refine g.o.mono ?_;rintro e wq⟨rfl,Is⟩;have hk:=Ei.o wq Is;obtain⟨PX,GX,FX⟩:=ds hk.o.1 hk.o.2.1 hk.o.2.2;clear Ei g Is hk m u F2;have HX:=HP.o.lt;have ay:=HP.o.lt;have HT:=xH wq rb us d iA PX.o.rd HE.o;exact tq7
  .have O:ak iA us=false:=by simpa using he
   have h1:=I.o;cases y
   .rw[Y3 PE,Y3 he]at h1;obtain rfl:=Yc h1;have HT:=zi w2 rb us d iA m.o.rd O;unfold iA at HT;have HT:=lh HT;clear h1 he O I;go_wp2_with fail
    refine HT.o.mono ?_;rintro e w3⟨rfl,hB3⟩;have R3:=lh (m.o.rd.below hB3);have G3:=lh (u.o.rfr HP.o.lt (RFr.below (rb:=rb) hB3));refine Zjm ?_;intro F3;clear hB3;go_wp2;go_ret;exact⟨_,rfl,G3.o,R3.o,F3.o⟩
   .rw[Y5 (by rw[O];rfl)]at h1;obtain rfl:=Yc h1;have g:=Sl w2 rb us d iA m.o.rd;rw[O]at g;unfold iA at g;have g:=lh g;clear h1 he O I;go_wp2_with fail
    refine g.o.mono ?_;rintro e w3⟨rfl,hB3⟩;have HF:=lh (UW w3 rb us d 3 (m.o.rd.below hB3));refine Zjm ?_;intro F3;clear hB3;go_wp2_with fail
    refine HF.o.mono ?_;rintro e w4⟨⟨b,rfl,h1,h2⟩,hB⟩;exact⟨rfl,mc.err F3.o ⟨b,rfl,h1,h2⟩ hB⟩
 .have HC:=lh (X2 w rb ts d F.rd hk);clear F hp hw hk;go_enter func99,ntmps99
  exact Wo
def Zhl(f:Nat)(It:bH 139 (λrb=>#[vP rb,vI 0]) (.bin 0) f)(hV:bH 103 cW .value f) :
 bH 129 cW .assign (f+1):=by
 intro w rb B d ts r hP hp;have hw:Zq (Z2 f (.bin 0) d ts) (λx ts'=>if ak iA ts' then(if x.kind=23\/x.kind=36 then Zq (Z2 f .value d ts'.tail) λy ts=>ir (.mk 24 ByteArray.empty 0 [x,y]) ts else some (.error (1,(c9 ts).at')))else ir x ts')=some r:=hp;have J:=lh hP;obtain⟨tb,off,cap,h⟩:=hP.rd;have c0:=h.c0;have t3:=h.hd (j:=3) rfl;have fN:=h.pos;refine Zqf ?_;intro hm dA n hn;rw[<-hn]at c0 fN dA;have H1:=lh hw;unfold cW;obtain⟨pl,lJ⟩:=zX ((c9 ts).at')
 rw[<-lJ]at t3;have mN:=lh lJ;clear hP hp hw h hn lJ;have U:=J.o.lt;rcases Zf H1.o with⟨⟨c,p⟩,g,rfl⟩|⟨t,us,g,h2⟩
 .have F:=lh (It w rb B d _ _ J.o g);clear g;go_enter func129,ntmps129
  go_wp2_with fail
  refine F.o.mono ?_;exact TC
 .have F:=lh (It w rb B d _ _ J.o g);have hl:=TL g;have H2:=lh h2;clear g h2;go_enter func129,ntmps129
  go_wp2_with fail
  refine F.o.mono ?_;rintro e w2⟨a,rfl,X,am,ap⟩;have ac:=X.at'.blkOf;have d0:w2.cell? ⟨a.b,0,none⟩=some (vI a.kind):=PC
  have zb:a.kind=t.kind:=by rw[<-X.tree];cases a;rfl
  obtain⟨zc,Y,G2,F2⟩:=en zb (J.o.next am ap hl) X ap;obtain⟨ab,bN⟩:=zX a.b
  obtain⟨Z,Ej⟩:=zX a.kind
  have cP:=G2.o.at'.lt;rw[<-bN]at d0 cP ⊢;rw[<-Ej]at d0;have sw:=lh bN;have Ek:=lh Ej;clear am ap X F hl ac zb bN Ej c0 t3;by_cases he:ak iA us=true
  .have u:=H2.o;rw[Y5 he]at u;have m:=Sl w2 rb us d iA Y.o.rd;rw[he]at m;unfold iA at m;have m:=lh m;have HE:=lh he;clear he;go_wp2_with fail
   refine m.o.mono ?_;rintro e w3⟨rfl,hB3⟩;have P3:=lh (Y.o.below hB3);have G3:=lh (G2.o.rfr U (RFr.below (rb:=rb) hB3));refine Zjm ?_;intro F3;have LS:=(hB3.cell (p:=⟨ab,0,none⟩) cP).trans d0;clear hB3 m;by_cases hk:t.kind=23\/t.kind=36
   .rw[Y5 hk]at u;have H3:=lh u;clear u;have HT:=xH w3 rb us d iA P3.o.rd HE.o;unfold iA at HT;have HT:=lh HT;have El:Z=23\/Z=36:=by rw[Ek.o,zc.o];exact hk
    clear hk;rcases El with rfl|rfl
    all_goals
     go_wp2_with fail
     refine HT.o.mono ?_;rintro e w5⟨rfl,ms,O⟩;have P5:=P3.o.tail ms O;have G5:=lh (G3.o.rfr U O);have F5:=lh (F3.o.trans O);rcases Zf H3.o with⟨⟨c,p⟩,g,rfl⟩|⟨y,vs,g,h4⟩
     .have F:=lh (hV w5 rb B d _ _ P5 g);clear g ms O;go_wp2_with fail
      refine F.o.mono ?_;rintro e I⟨⟨b,rfl,h1,h2⟩,hF⟩;exact⟨rfl,mc.pre F5.o (r:=.error (c,p)) ⟨⟨b,rfl,h1,h2⟩,hF⟩⟩
     .obtain rfl:=Yc h4;have F:=lh (hV w5 rb B d _ _ P5 g);clear g ms O h4;go_wp2_with fail
      refine F.o.mono ?_;rintro e I⟨c,rfl,hC,jC,fB⟩;have G6:=G5.o.rfr U fB;have ct:=lh (Got.two (k:=24) (t:=⟨#[]⟩) J.o.le (F5.o.trans fB) G6 (wA:=w5) (λx hx=>(G5.o.new x hx).2) F5.o.size hC);have ah:kW I (I.alloc (.cells #[vP ab,vP c.b] 22)):=(Y2 _ _).alloc (Y0 _) _
      have aA:kW I ((I.alloc (.cells #[vP ab,vP c.b] 22)).alloc (.cells #[vI 24,.string ⟨#[]⟩,vI 0,.slice (some ⟨I.heap.size,0,none⟩) 2 2] 41)):=ah.alloc PE _;have R6:=lh (jC.below aA);have F6:=lh ((F5.o.trans fB).trans (RFr.below (rb:=rb) aA));clear hC jC fB G6 F ah aA;go_wp2_with fail
      refine(Zw _ rb 24 ⟨#[]⟩ _ 2 2).mono ?_;rintro e w7⟨rfl,rfl⟩;go_wp2;go_ret;refine⟨.mk (I.heap.size+1) (.slice (some ⟨I.heap.size,0,none⟩) 2 2) 24 ⟨#[]⟩ 0 [a,c],rfl,?_,R6.o,F6.o⟩;rw[sw.o];exact ct.o
   .rw[Y3 hk]at u;obtain rfl:=Yc u;have Ck:(Z !=23)=true:=by rw[Ek.o,zc.o];simp;omega
    have OE:(Z !=36)=true:=by rw[Ek.o,zc.o];simp;omega
    clear u hk;go_wp2;refine⟨rfl,?_⟩;rw[<-mN.o];exact mc.err F3.o (Zcl (Y0 _)) ((Y2 _ _).alloc (Y0 _) _)
  .have qg:ak iA us=false:=by simpa using he
   have u:=H2.o;rw[Y3 he]at u;obtain rfl:=Yc u;have m:=Sl w2 rb us d iA Y.o.rd;rw[qg]at m;unfold iA at m;have m:=lh m;clear u he qg;go_wp2_with fail
   refine m.o.mono ?_;rintro e w3⟨rfl,hB3⟩;have R3:=lh (Y.o.rd.below hB3);have G3:=lh (G2.o.rfr U (RFr.below (rb:=rb) hB3));refine Zjm ?_;intro F3;clear hB3;go_wp2;go_ret;rw[sw.o];exact⟨a,rfl,G3.o,R3.o,F3.o⟩
def Zdr(w0 w:kV)(rb B d:Nat)(ts:List Tok)(a:ATree)(t:Tree)(r:Except (Int×Nat) (Tree×List Tok))(g:Pre w rb B d ts)(m:Got w0 B w a t)(p:RFr w0 w rb)(hr:wP t ts=some r) :
 kC 98 #[vP rb,vP a.b] w (mc w0 rb B d r):=by
 obtain⟨y,F,u⟩:=ds g m p;rcases T8 hr with⟨hs,h1⟩|⟨hs,rfl⟩
 .obtain rfl:=Yc h1;have HC:=lh (Mn w rb ts d K5 g.rd hs);clear g m p hr hs h1;go_enter func98,ntmps98
  go_wp2_with fail
  refine Zpy ?_;intro w3 bG bg R3 F3;clear bG bg HC;go_wp2;go_ret;exact⟨a,rfl,F.o.rfr y.o.lt F3.o,R3.o,u.o.trans F3.o⟩
 .have HC:=lh (Ty w rb ts d K5 g.rd hs);clear g m p hr hs;go_enter func98,ntmps98
  go_wp2_with fail
  refine HC.o.mono ?_;rintro e w3⟨⟨b,rfl,h1,I⟩,J⟩;exact⟨rfl,mc.err u.o ⟨b,rfl,h1,I⟩ J⟩
def Zm6(f d:Nat)(kind:Int)(text:kB)(p:Tree)(ts:List Tok):PR:=lF s5 ts λts=>Zq (Z2 f (.block true) d ts) λb ts=>ir (.mk kind text 0 [p,b]) ts
def Zaq{ts:List Tok}{k:kB->List Tok->PR}{g:Tree->List Tok->PR}{r:Except (Int×Nat) (Tree×List Tok)}(h:Zq (B6 ts k) g=some r):((c9 ts).kind=1/\Zq (k (c9 ts).text ts.tail) g=some r)\/((c9 ts).kind≠1/\r=.error (3,(c9 ts).at')):=by
 unfold B6 at h;by_cases hk:(c9 ts).kind=1;·rw[Y5 hk]at h;exact .inl ⟨hk,h⟩
 .rw[Y3 hk]at h;exact .inr ⟨hk,(Yc h).symm⟩
def Zav{ts:List Tok}(h:(c9 ts).kind=1):0<ts.length:=by
 cases ts with
 |nil=>simp[c9]at h
 |cons t l=>simp
def Zp4(g f d:Nat)(kind:Int)(text:kB)(m:List Tree)(us:List Tok):PR:=Zq (if m.length=8 then xn 4 us else B6 us λs ts=>Z2 g (.params (m++[.mk 23 s 0 []])) d ts) (Zm6 f d kind text)
def Zp1(F:Nat)(kind:Int)(text:kB)(hB:bH 96 (λrb=>#[vP rb,.bool true]) (.block true) F) :
 bH 100 (λrb=>#[vP rb,vI kind,.string text]) (.func kind text) (F+1):=by
 intro w rb B d ts r U hp;have hw:lF vV ts (λts=>Zq (Z2 F (.params []) d ts) (Zm6 F d kind text))=some r:=hp;have HP:=lh U;have o8:=lh hB;simp only;rcases T8 hw with⟨hs,h1⟩|⟨hs,rfl⟩
 ·have HC := lh (Mn w rb ts d vV U.rd hs);have H1 := lh h1;clear U hp hw hs h1 hB;go_enter func100, ntmps100
  go_wp2_with fail
  refine HC.o.mono ?_;rintro e w1⟨rfl,dz,cZ⟩;have P1:=lh (HP.o.tail dz cZ);have O:=lh (Zw w1 rb 40 ⟨#[]⟩ none 0 0);obtain⟨nb,dl⟩:=zX w1.heap.size
  have G0:=Got.leaf (k:=40) (t:=⟨#[]⟩) (n:=0) HP.o.le cZ;have cP:kW w1 (w1.alloc (.cells #[vI 40,.string ⟨#[]⟩,vI 0,.slice none 0 0] 41)):=(Y2 _ _).alloc (Y0 _) _;have R0:=dz.below cP;have F0:=cZ.trans (RFr.below (rb:=rb) cP);rw[<-dl]at G0 O;obtain⟨Cl,vd⟩:=zX ts.tail
  have rx:Cl.length<=ts.length:=by rw[vd];simp
  rw[<-vd]at R0 H1;clear vd;go_wp2_with fail
  refine O.o.mono ?_;rintro e w2⟨rfl,ci⟩;rw[<-ci]at G0 R0 F0;have hst:∃(g:Nat) (aj:List Tree) (us:List Tok) (v:Value) (kids:List ATree),g<=F/\Zq (Z2 g (.params aj) d us) (Zm6 F d kind text)=some r/\Got w B w2 (.mk nb v 40 ⟨#[]⟩ 0 kids) (.mk 40 ⟨#[]⟩ 0 aj)/\Rd w2 rb us d/\RFr w w2 rb/\aj.length<=8/\us.length<=ts.length:=
   ⟨F,[],Cl,_,[],Y0 _,H1.o,G0,R0,F0,by simp,rx⟩
  have ST:=lh hst;have th:=lh dl;clear hst ci G0 R0 F0 HC O dl cZ dz P1 H1 cP rx;go_wp2_with fail
  go_loopw [] (λwr=>∃(g:Nat) (aj:List Tree) (us:List Tok) (v:Value) (kids:List ATree),g<=F/\Zq (Z2 g (.params aj) d us) (Zm6 F d kind text)=some r/\Got w B wr (.mk nb v 40 ⟨#[]⟩ 0 kids) (.mk 40 ⟨#[]⟩ 0 aj)/\Rd wr rb us d/\RFr w wr rb/\aj.length<=8/\us.length<=ts.length) (λwr=>leftOf wr rb)
  case atStart=>exact ST.o
  case round=>
   obtain⟨g,aj,us,v,kids,hg,hq,hG,X,hF,hl,hu⟩:=hrel;obtain⟨G,R,FF,RL⟩:=en hG X hF X.left;cases g with
   |zero=>cases hq
   |succ g=>
   rw[Z2]at hq;have m:=Sl wr rb us d s5 X;by_cases hb:ak s5 us=true
   .rw[hb]at m;rw[Y5 hb]at hq;have hq:Zm6 F d kind text (.mk 40 ByteArray.empty 0 aj) us=some r:=hq;have m:=lh m;have HQ:=lh hq;have HI:=lh hb;unfold s5 at m;clear hG X hF hq hb ST;go_wp2_with fail
    refine m.o.mono ?_;rintro e w3⟨rfl,hB3⟩;have ay:=HP.o.lt;refine Zu3 ?_;intro F3 G3 R3 P3;have HC:=Mn w3 rb us d s5 R3 HI.o;unfold s5 at HC;obtain⟨HC,F3,G3,P3⟩:=en HC F3 G3 P3;obtain⟨_,h3⟩:ak s5 us=true/\Zq (Z2 F (.block true) d us.tail) (λb ts=>ir (.mk kind text 0 [.mk 40 ByteArray.empty 0 aj,b]) ts)=some r:=by
     rcases T8 HQ.o with h|⟨hs,_⟩;·exact h
     .rw[HI.o]at hs;cases hs
    have H3:=lh h3;clear hB3 R3 h3 FF G R m HQ;go_wp2_with fail
    refine HC.o.mono ?_;rintro e w4⟨rfl,eK,be⟩;obtain⟨P4,F4,G4⟩:=ds (P3.o.tail eK be) (F3.o.trans be) (G3.o.rfr ay be);clear eK be HC F3 G3;rcases Zf H3.o with⟨⟨c,p⟩,Y,rfl⟩|⟨t,mM,Y,h4⟩
    .have HV:=lh (o8.o w4 rb B d _ _ P4.o Y);clear Y;go_wp2_with fail
     refine HV.o.mono ?_;rintro e Z⟨⟨b,rfl,h1,h2⟩,hF⟩;exact VN
    .have HV:=lh (o8.o w4 rb B d _ _ P4.o Y);obtain rfl:=Yc h4;clear Y;go_wp2_with fail
     refine HV.o.mono ?_;rintro e Z⟨a,rfl,Iu,ms,eN⟩;obtain⟨G5,R5,F5⟩:=ds Iu ms eN;clear Iu ms eN HV;have O:=lh (Zw (Z.alloc (.cells #[vP nb,vP a.b] 22)) rb kind text (some ⟨Z.heap.size,0,none⟩) 2 2);go_wp2_with fail
     refine O.o.mono ?_;rintro e w6⟨rfl,lE⟩;have an:=Got.two (k:=kind) (t:=text) HP.o.le (F4.o.trans F5.o) (G4.o.rfr ay F5.o) (wA:=w4) (λx hx=>(G4.o.new x hx).2) F4.o.size G5.o;have ve:=((Y2 Z.heap.size Z).alloc (Y0 _) (.cells #[vP nb,vP a.b] 22))
     have jC:Rd w6 rb mM d:=by rw[lE];exact(R5.o.below ve).below ((Y2 _ _).alloc (Y0 _) _)
     have fB:RFr w w6 rb:=by rw[lE];exact((F4.o.trans F5.o).trans (RFr.below ve)).trans (RFr.below ((Y2 _ _).alloc (Y0 _) _))
     obtain⟨ct,tI,R6,F6⟩:=en an lE jC fB;clear an lE jC fB ve O;go_wp2;go_ret;refine⟨_,?pt,(by rw[tI.o];exact ct.o),R6.o,F6.o⟩;case pt=>simp[ATree.b]
   ·have du : ak s5 us = false := by simpa using hb
    rw[du]at m;rw[Y3 hb]at hq;have m:=lh m;have HQ:=lh hq;unfold s5 at m;refine Zsw ?_;intro aX fm;clear hG X hF hq hb du ST aX;go_wp2_with fail
    refine m.o.mono ?_;rintro e w3⟨rfl,hB3⟩;have ay:=HP.o.lt;refine Zu3 ?_;intro F3 G3 R3 P3;obtain⟨p,cp,rfl⟩:∃p cp,v=.slice p kids.length cp:=by
     exact Zyx
    refine Zze ?_;intro ac n3 F3 G3 P3 HU HL;clear hB3 R3 FF G R m ac hu hl;by_cases h0:aj.length=0
    .have a0:decide (0<kids.length)=false:=by have :=fm.o;simp;exact List.eq_nil_of_length_eq_zero Px
     have I:Zp4 g F d kind text aj us=some r:=Q5
     have h8:¬aj.length=8:=Px
     have PQ:=lh (show Pre w3 rb B d us/\us.length<=ts.length from⟨P3.o,HU.o⟩);have GQ:=G3;have FQ:=F3;have PL:=lh (Y0 us.length);clear HQ;have n8:((kids.length:Int)==8)=false:=by have:=fm.o;simp;omega
     have u:=I;unfold Zp4 at u;rw[Y3 h8]at u;have u:=lh u;clear I;go_wp2_with fail
     refine Z7 [0,2,4,6,8,10,12,15,17,19,21] [11,12,13] (λW=>vC W nb 3 (.slice p kids.length cp)) n3 λ_=>?_;refine dU ?_
     iterate 7
      refine fa ?_
     refine Ze (λK hK=>?_);go_simp
     have jG:us.length<=ts.length:=PQ.o.2;rcases Zaq u.o with⟨hk,h1⟩|⟨hk,rfl⟩
     .refine(Va w3.drew rb us d PQ.o.1.rd.drew hk).mono ?_;rintro e wa⟨rfl,zd,iE⟩;have lj:RFr w3 wa rb:=(RFr.refl w3 rb).drew.trans iE;refine X9 ?_;intro q8 ac m3;clear hK K;refine Ze (λK hK=>?_);go_simp
      have y:kW wa (wa.alloc (.cells #[vI 23,.string (c9 us).text,vI 0,.slice none 0 0] 41)):=(Y2 _ _).alloc (Y0 _) _;have hA:=Got.leaf (w0:=wa) (w:=wa) (rb:=rb) (B:=B) (k:=23) (t:=(c9 us).text) (n:=0) (Y4 HP.o.le (FQ.o.trans lj).size) (RFr.refl _ _);refine(Zw wa rb 23 (c9 us).text none 0 0).mono ?_;rintro e dx⟨rfl,cY⟩;rw[<-cY]at hA y;have iu:RFr w3 dx rb:=lj.trans (RFr.below y);have fJ:=q8.rfr ay (RFr.below (rb:=rb) y);have bG:=zd.below y;refine ub ?_
      intro ac;refine Zq6 ?_;intro m3;refine I2 ?_;intro mz dm dH aG;have gK:kids.length<=8:=Qu
      obtain⟨a,ha⟩:∃a:ATree,a=.mk wa.heap.size (.slice none 0 0) 23 (c9 us).text 0 []:=⟨_,rfl⟩
      rw[<-ha]at hA;have jo:vP wa.heap.size=(vP a.b):=by rw[ha];rfl
      rw[jo];clear ha jo;refine S' ?_;intro N3 A3 R3;obtain⟨jz,NE,NA,nf⟩:=en (FQ.o.trans iu) aG (λx hx=>(q8.new x hx).2) h1;refine vf ?_;intro i0 hi aC bo bQ;clear hK K hA bG iu fJ ac dH aG h1 n3 iE lj q8 zd y cY;refine t7 ?_;intro K hK;refine AcA ?_;intro gg cap w4 aS aB bS bY;refine Tz ?_;intro m4;refine uV ?_;clear hK K;intro lX;refine Zxu ?_;clear aB aS bS bY;intro ct;go_wp2;go_roundw
      case rel=>
       refine⟨g,aj++[.mk 23 (c9 us).text 0 []],us.tail,.slice (some ⟨gg,0,none⟩) (kids.length+1) cap,kids++[a],by omega,nf.o,?_,ct.o.2.2,ct.o.2.1,by have:=HL.o;simp;omega,by rw[List.length_tail];omega⟩;exact Vy
      case measure=>
       exact Xf
     .refine(X2 w3.drew rb us d PQ.o.1.rd.drew hk).mono ?_;exact Xl
    .have a0:decide (0<kids.length)=true:=by have :=fm.o;simp;omega
     have J:=HQ.o;rw[Y5 Px]at J;by_cases hc:ak x4 us=true
     .have I:Zp4 g F d kind text aj us.tail=some r:=by rw[lF,Y5 hc]at J;exact J
      have HC:=Mn w3 rb us d x4 P3.o.rd hc;unfold x4 at HC;have HC:=lh HC;clear J hc HQ;go_wp2_with fail
      refine X6 ?_;intro iQ eK be PQ GQ FQ PL ac;clear n3;refine Zuz ?_;intro n3;clear eK be HC ac F3 G3 P3;by_cases h8:aj.length=8
      .have n8:((kids.length:Int)==8)=true:=by have :=fm.o;simp;omega
       have hr:r=.error (4,(c9 us.tail).at'):=by
        unfold Zp4 at I;rw[Y5 h8]at I;exact(Yc I).symm
       subst hr;have HE:=lh (UW iQ rb us.tail d 4 PQ.o.1.rd);clear I;go_wp2_with fail
       refine HE.o.mono ?_;exact Wk
      .skip
       have n8:((kids.length:Int)==8)=false:=by have:=fm.o;simp;omega
       have u:=I;unfold Zp4 at u;rw[Y3 h8]at u;have u:=lh u;clear I;go_wp2_with fail
       refine Z7 [0,2,4,6,8,10,12,15,17,19,21] [11,12,13] (λW=>vC W nb 3 (.slice p kids.length cp)) n3 λ_=>?_;refine dU ?_
       iterate 7
        refine fa ?_
       refine Ze (λK hK=>?_);go_simp
       have jG:us.tail.length<=ts.length:=PQ.o.2;rcases Zaq u.o with⟨hk,h1⟩|⟨hk,rfl⟩
       .refine(Va iQ.drew rb us.tail d PQ.o.1.rd.drew hk).mono ?_;rintro e wa⟨rfl,zd,iE⟩;have lj:RFr iQ wa rb:=(RFr.refl iQ rb).drew.trans iE;refine X9 ?_;intro q8 ac m3;clear hK K;refine Ze (λK hK=>?_);go_simp
        have y:kW wa (wa.alloc (.cells #[vI 23,.string (c9 us.tail).text,vI 0,.slice none 0 0] 41)):=(Y2 _ _).alloc (Y0 _) _;have hA:=Got.leaf (w0:=wa) (w:=wa) (rb:=rb) (B:=B) (k:=23) (t:=(c9 us.tail).text) (n:=0) (Y4 HP.o.le (FQ.o.trans lj).size) (RFr.refl _ _);refine(Zw wa rb 23 (c9 us.tail).text none 0 0).mono ?_;rintro e dx⟨rfl,cY⟩;rw[<-cY]at hA y;have iu:RFr iQ dx rb:=lj.trans (RFr.below y);have fJ:=q8.rfr ay (RFr.below (rb:=rb) y);have bG:=zd.below y
        refine ub ?_;intro ac;refine Zq6 ?_;intro m3;refine I2 ?_;intro mz dm dH aG;have gK:kids.length<=8:=Qu
        obtain⟨a,ha⟩:∃a:ATree,a=.mk wa.heap.size (.slice none 0 0) 23 (c9 us.tail).text 0 []:=⟨_,rfl⟩
        rw[<-ha]at hA;have jo:vP wa.heap.size=(vP a.b):=by rw[ha];rfl
        rw[jo];clear ha jo;refine S' ?_;intro N3 A3 R3;obtain⟨jz,NE,NA,nf⟩:=en (FQ.o.trans iu) aG (λx hx=>(q8.new x hx).2) h1;refine vf ?_;intro i0 hi aC bo bQ;clear hK K hA bG iu fJ ac dH aG h1 n3 iE lj q8 zd y cY;refine t7 ?_;intro K hK;refine AcA ?_;intro gg cap w4 aS aB bS bY;refine Tz ?_;intro m4;refine uV ?_;clear hK K;intro lX;refine Zxu ?_;clear aB aS bS bY;intro ct;go_wp2;go_roundw
        case rel=>
         refine⟨g,aj++[.mk 23 (c9 us.tail).text 0 []],us.tail.tail,.slice (some ⟨gg,0,none⟩) (kids.length+1) cap,kids++[a],by omega,nf.o,?_,ct.o.2.2,ct.o.2.1,by have:=HL.o;simp;omega,by rw[List.length_tail];omega⟩;exact Vy
        case measure=>
         exact Xf
       .refine(X2 iQ.drew rb us.tail d PQ.o.1.rd.drew hk).mono ?_;exact Xl
     .have hr:r= .error (3,(c9 us).at'):=by rw[lF,Y3 hc]at J;exact(Yc J).symm
      subst hr;have HC:=Ty w3 rb us d x4 P3.o.rd (by simpa using hc);unfold x4 at HC;have HC:=lh HC;clear J hc HQ;exact XW
 .have HC:=lh (Ty w rb ts d vV U.rd hs);clear U hp hw hs;go_enter func100,ntmps100
  exact Wo
