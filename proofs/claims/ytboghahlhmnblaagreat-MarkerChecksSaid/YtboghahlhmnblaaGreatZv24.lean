/- Lean texts of the claim. -/
import Derived.Test.YtboghahlhmnblaaGreatZv18
import Derived.Test.YtboghahlhmnblaaGreatZv17
namespace Go.Proofs.YtboghahlhmnblaaGreat
set_option linter.all false
set_option maxRecDepth 100000
set_option maxHeartbeats 0
open Go.RowKit Go.Proofs.Tryz
variable{a p y C:Nat}{b s:World}{c:List Shp}{e:List Pt5}{f:Value}{g:Option Addr}{h:Bed4}{i A:Int}{j:List Trn}{k:TypeId}{l:List End6}{m:Shp}{n:Exit->Act->World->Prop}{o:Nat->Bool}{q:Bool}{r:Array Value}{t:Pt5}{u:List Int}{v:List LP}{z:Operand}{B:Act}{sh x:Int}{Z os:List Int}{base base':Nat}{w:World}
def Alo(a b:End6):Int:=orI [Ey a.right b.right,Ey a.put.y b.put.y,Ey a.put.x b.put.x,Ey a.put.qu b.put.qu]
theorem or4{tb:TypeId}{x u:Int}(h:Bf w a tb #[x,i,A,u]):Calls prog 149 #[.slice (some ⟨a,0,none⟩) 4 4] w λe c=>e=.returned (orI [x,i,A,u])/\w=c :=
 Adq a 4 4 [x,i,A,u] w rfl (λk v b=>by
  match k,b with
  | 0,b=>simp at b;subst b;exact h.cell 0
  | 1,b=>simp at b;subst b;exact h.cell 1
  | 2,b=>simp at b;subst b;exact h.cell 2
  | 3,b=>simp at b;subst b;exact h.cell 3)
theorem Zs(a b:End6):Calls prog 100 #[ez a,ez b] w (Bz w (Alo a b)):=by
 obtain⟨⟨c,d,f,g,h⟩,i⟩:=a;obtain⟨⟨j,k,l,m,n⟩,o⟩:=b;unfold ez;dsimp only;go_enter func100,ntmps100;go_wp2_with fail;refine Ck 32 ?_;simp only[List.take_succ_cons,List.take_zero,List.drop_succ_cons,List.drop_zero]
 repeat still_step
 still_call (Gu)
 repeat still_step
 still_call (Gu)
 repeat still_step
 still_call (Gu)
 repeat still_step
 still_call (Gu)
 refine wpStill_nil ?_
 go_wp2_with (go_at_call 149;refine(or4 (Bf.drew (Bf.new3 _ _ _ _ _))).mono ?_;rintro e p ⟨rfl,rfl⟩)
 go_ret;exact⟨rfl,Aw (Ao (Ao (Ao (aV _ _))))⟩
def ed(l:List End6)(k:Nat):End6:=l.getD k ⟨⟨0,false,0,0,0⟩,0⟩
def Es(l:List End6):Nat->End6
 | 0=>⟨⟨0,false,0,0,0⟩,0⟩
 | k+1=>if k=0\/Alo (ed l k) (Es l k)<0 then ed l k else Es l k
def EnS(w:World)(A:Option Addr)(n:Nat)(l:List End6):Prop:=l.length=n/\(n=0\/∃b,A=some ⟨b,0,none⟩/\∀k,k<n->∀i,i<6->w.cell? ⟨b,k*6+i,none⟩=(enE (ed l k))[i]?)
theorem EnS.keep(h:EnS w g a l)(f:Be w b):EnS b g a l:=by
 refine⟨h.1,?_⟩;obtain⟨_,h⟩:=h;rcases h with h|⟨e,rfl,h⟩
 .exact .inl h
 refine .inr ⟨e,rfl,λk j i d=>?_⟩;have c:=h k j i d;let⟨u,m⟩:∃u,(enE (ed l k))[i]? = some u:=⟨_,aW (by rw[Ef];exact d)⟩
 rw[m]at c ⊢;exact Aq f c
theorem OwE.ens(h:OwG 164 6 enE w a f l):∃A c,f=.slice A l.length c/\EnS w A l.length l:=by
 rcases OwG.form h with⟨rfl,rfl⟩|⟨g,b,rfl,n,o,p,q⟩
 .exact⟨none,0,rfl,rfl,.inl rfl⟩
 refine⟨_,b,rfl,rfl,.inr ⟨g,rfl,λk m i j=>?_⟩⟩;have e:=OwG.cells h (k*6+i) aK;have d:l[k]? = some (ed l k):=by unfold ed;rw[List.getD,aW m];rfl
 rw[Bu Ef l k i _ d j]at e;exact e
theorem Um(A:Option Addr)(n:Nat)(l:List End6)(hs:EnS w A n l)(hn:n<=1000000:=by omega):Calls prog 99 #[.slice A n a,.func (.func 100) #[] #[]] w (Bz w (.tuple #[ez (Es l n),.bool (decide (0<n))])):=by
 go_enter func99,ntmps99;go_wp2;go_loopw [11] (λi wr=>∃k:Nat,k<=n/\i=k/\Bf wr w 164 (enE ⟨⟨0,false,0,0,0⟩,0⟩).toArray/\Bf wr (w+1) 164 (enE (Es l k)).toArray/\Be w wr) λi _=>n-(intOf i).toNat
 case atStart=>exact⟨0,aB,rfl,(Bf.new _ _ _).alloc _,Bf.new2 _ _ _ _,(Ao (Ao (aV _ _)))⟩
 obtain⟨k,hk,rfl,c,m,H⟩:=hrel;let⟨z,o⟩:=gN (Es l k)
 have b:=Ar (show Es l (k+1)=if k=0\/Alo (ed l k) z<0 then ed l k else z by rw[Es,o]);rw[o]at m;have J:=Ar o;clear o;obtain⟨⟨r,s,t,u,x⟩,y⟩:=z;let⟨m0,m1,m2,m3,m4,m5,m6⟩:=Bf.cells6 m;have n0:=m.frozen 0;have n1:=m.frozen 1;have n2:=m.frozen 2;have n3:=m.frozen 3;have n4:=m.frozen 4;have n5:=m.frozen 5;by_cases P:k<n
 .obtain⟨-,Q⟩:=hs.keep H;rcases Q with h|⟨U,rfl,S⟩
  .omega
  let⟨M,q⟩:=gN (ed l k)
  have g:=S k P;rw[q]at g b;have T:=Ar q;clear q S;obtain⟨⟨B,C,D,E,F⟩,G⟩:=M;have R:=g 0 aK;have V:=g 1 aK;have W:=g 2 aK;have X:=g 3 aK;have Y:=g 4 aK;have Z:=g 5 aK;simp only[enE,bS,cE,bU]at R V W X Y Z;have a1:U<wr.heap.size:=Bi R;clear g;by_cases j:k=0
  .rw[if_pos (.inl j)]at b;have q0:((k:Int) == 0)=true:=by rw[j];rfl
   clear j;go_wp2_with fail;exact aE ⟨Bf.alloc (Bf.far (Bf.far (Bf.far (Bf.far (Bf.far (Bf.far c (p:=⟨w+1,0,none⟩) aL _) (p:=⟨w+1,1,none⟩) aL _) (p:=⟨w+1,2,none⟩) aL _) (p:=⟨w+1,3,none⟩) aL _) (p:=⟨w+1,4,none⟩) aL _) (p:=⟨w+1,5,none⟩) aL _) _,by rw[b.out];exact Bf.alloc (Bf.set_ (Bf.set_ (Bf.set_ (Bf.set_ (Bf.set_ (Bf.set_ m 0 _) 1 _) 2 _) 3 _) 4 _) 5 _) _,Ao (Ba (Ba (Ba (Ba (Ba (Ba H (p:=⟨w+1,0,none⟩) aL) (p:=⟨w+1,1,none⟩) aL) (p:=⟨w+1,2,none⟩) aL) (p:=⟨w+1,3,none⟩) aL) (p:=⟨w+1,4,none⟩) aL) (p:=⟨w+1,5,none⟩) aL)⟩
  have q0:((k:Int) == 0)=false:=by simpa using j
  by_cases O:Alo ⟨⟨B,C,D,E,F⟩,G⟩ ⟨⟨r,s,t,u,x⟩,y⟩<0
  .rw[if_pos (.inr O)]at b;clear j;have I:=Ar ((m.alloc (.cells (enE ⟨⟨B,C,D,E,F⟩,G⟩).toArray 164)));have L:=Ar (Bf.new wr 164 (enE ⟨⟨B,C,D,E,F⟩,G⟩).toArray)
   go_wp2_with (go_at_call 100;refine rR (Zs ⟨⟨B,C,D,E,F⟩,G⟩ ⟨⟨r,s,t,u,x⟩,y⟩) λw5 f=>?_;have d:=I.out.keep f;have N:=L.out.keep f;let⟨p0,p1,p2,p3,p4,p5,p6⟩:=Bf.cells6 d;let⟨x0,x1,x2,x3,x4,x5,x6⟩:=Bf.cells6 N;have r0:=d.frozen 0;have r1:=d.frozen 1;have r2:=d.frozen 2;have r3:=d.frozen 3;have r4:=d.frozen 4;have r5:=d.frozen 5)
   exact aE ⟨(Bf.far (Bf.far (Bf.far (Bf.far (Bf.far (Bf.far (Bf.keep (Bf.alloc c _) f) (p:=⟨w+1,0,none⟩) aL _) (p:=⟨w+1,1,none⟩) aL _) (p:=⟨w+1,2,none⟩) aL _) (p:=⟨w+1,3,none⟩) aL _) (p:=⟨w+1,4,none⟩) aL _) (p:=⟨w+1,5,none⟩) aL _),by rw[b.out];exact(Bf.set_ (Bf.set_ (Bf.set_ (Bf.set_ (Bf.set_ (Bf.set_ d 0 _) 1 _) 2 _) 3 _) 4 _) 5 _),(Ba (Ba (Ba (Ba (Ba (Ba (An (Ao H) f) (p:=⟨w+1,0,none⟩) aL) (p:=⟨w+1,1,none⟩) aL) (p:=⟨w+1,2,none⟩) aL) (p:=⟨w+1,3,none⟩) aL) (p:=⟨w+1,4,none⟩) aL) (p:=⟨w+1,5,none⟩) aL)⟩
  rw[if_neg (by simp[j];omega)] at b;clear j
  go_wp2_with (go_at_call 100;refine rR (Zs ⟨⟨B,C,D,E,F⟩,G⟩ ⟨⟨r,s,t,u,x⟩,y⟩) λw5 f=>?_)
  exact aE ⟨(c.alloc _).keep f,by rw[b.out];exact(m.alloc _).keep f,An (Ao H) f⟩
 obtain rfl:n=k:=aK
 let⟨z0,z1,z2,z3,z4,z5,z6⟩:=Bf.cells6 c;have y0:=c.frozen 0;have y1:=c.frozen 1;have y2:=c.frozen 2;have y3:=c.frozen 3;have y4:=c.frozen 4;have y5:=c.frozen 5;have e:ez (Es l n)=.agg #[r,.bool s,t,u,x,y]:=by rw[J.out];rfl
 have K:=Ar e;clear e;go_wp2_with fail;refine cB (v:=.tuple #[.agg #[r,.bool s,t,u,x,y],.bool (decide (0<n))]) (by simp[results,results99,go_sem,z0,z1,z2,z3,z4,z5]) rfl ⟨by rw[K.out],by (repeat first|exact H|refine Ba ?_ (by dsimp only;omega))⟩
section
open Go.RowKit Go.Sort
def Fk(rx d:Int)(s:Shp)(b:Bool)(c:Int)(sp:LP):Nat->LP
 | 0=>[]
 | k+1=>match Nc rx d s b c (gt sp k) with|none=>Fk rx d s b c sp k|some a=>S9 (Fk rx d s b c sp k) [a] (0,0)
def Iz(b:Bed4)(s:Shp)(a:Bool)(c:Int)(l:LP)(pls:List LP):Int×LP :=
 if (Dh b l pls).1≠0 then ((Dh b l pls).1,[]) else (0,Ez (Fk b.rx b.ry s a c (Dh b l pls).2 (Dh b l pls).2.length))
theorem Mg(rx d:Int)(s:Shp)(b:Bool)(c:Int)(sp:LP)(k:Nat):(Fk rx d s b c sp k).length<=k:=by
 induction k with
 | zero=>exact aA
 | succ k ih =>
   rw[Fk];split
   .omega
   rename_i a _;have:=S8 (Fk rx d s b c sp k) [a];simp at this;omega
theorem X9{rx:Int}{p a:Int×Int}(b:okS p)(h:Nc rx i m q A p=some a):okS a:=by
 unfold Nc at h;split at h
 .split at h
  .cases h
  split at h
  .cases h
  injection h with h;subst h;exact⟨Gi,Gi⟩
 injection h with h;subst h;exact b
theorem yk(s:∀args w,(callFunc a args).run prog w=.ok (.enter a args) w)(u:∀k o q p w,Calls prog a #[.agg #[.int .i64 k,.int .i64 o],.agg #[.int .i64 q,.int .i64 p]] w λe d=>e=.returned (.int .i64 (H6 (k,o) (q,p)))/\GrW w d)
 (v:Value) (b:Nat) (l:List (Int×Int))  (E:l.length<=1000000000000) (i:OwS w b v l) :
 Calls prog 147 #[v,.func (.func a) #[] #[]] w λe d=>e=.returned (.tuple #[])/\OwS d b v (Ez l)/\w.grownBy d v.ownBlock:=by
 rcases OwG.form i with⟨rfl,rfl⟩|⟨g,j,rfl,B,t,C,D⟩
 .refine(AnyF.slices_SortFunc_none Tryz.laysS none 0 _ w).mono ?_;rintro e d ⟨rfl,rfl⟩;exact⟨rfl,by rw[show Ez []=[] by simp[Ez]];exact i,dA _ _⟩
 have f:CmpLays prog a #[] enS 2 H6 g 0 l.toArray.size w:=by
  intro m r A z x y;exact u x.1 x.2 y.1 y.2 _
 have c:=AnyQ.slices_SortFunc_total Tryz.laysS 2 Tryz.isAgg65 Tryz.sizeOf65 enS Cm Io H6 Ano a #[] g 0 j l.toArray w s f (OwG.holdsK Cm (by omega) i) t (by rw[List.size_toArray];omega) Aij;rw[List.size_toArray]at c;refine c.mono ?_;rintro e d ⟨rfl,n,r,rfl⟩;have h:=OwG.sorted Cm (by omega) i (Ez l) (Gx l) n r;exact⟨rfl,h.1,h.2⟩
theorem Agp:∀args w,(callFunc 148 args).run prog w=.ok (.enter 148 args) w:=by
 intro args w
 kernel_rfl
theorem Ab6{B:Option Addr}(Ak:Option Addr){c1 c2 U n2:Nat}(nk ck:Nat)(b:Bed4)(s:Shp)(f:Bool)(h:Int)(l:List (Int×Int))(pls:List (List (Int×Int)))(ak:U<=9223372036854775807)(au:n2<=1000)(b2:∀t∈pls,t.length<=1000)(a7:U<=c1)(hs:SpS w g U l)(hS:Aeg w B n2 pls):Calls prog 97 #[Jw b,.agg #[.slice Ak nk ck,s.grain,.bool s.mat,s.anc.1,s.anc.2],.agg #[.bool f,h],.slice g U c1,.slice B n2 c2] w (Xh w (Iz b s f h l pls)):=by
 have d:=Qy b l pls;have F:=Ar (show Iz b s f h l pls=if (Dh b l pls).1≠0 then ((Dh b l pls).1,[]) else (0,Ez (Fk b.rx b.ry s f h (Dh b l pls).2 (Dh b l pls).2.length)) from rfl);rw[hS.1]at d;let⟨q,hq⟩:=gN (Dh b l pls)
 rw[hq]at F d;have HQ:=Ar hq;clear hq;obtain⟨q1,sp⟩:=q;obtain⟨len,K,rx,n⟩:=b;obtain⟨c,x,A,⟨u,v⟩⟩:=s;unfold Jw;dsimp only at F d ⊢;have b3:=d.1;have ba:=Ar d.2;clear d;let⟨T,D⟩:∃T,T=(((w.alloc (.cells #[len,K,rx,n] 62)).alloc (.cells #[.slice Ak nk ck,x,.bool A,u,v] 85)).alloc (.cells #[.bool f,h] 64)):=⟨_,rfl⟩
 have h0:Bf T w 62 #[len,K,rx,n]:=by rw[D];exact((Bf.new _ _ _).alloc _).alloc _
 have h1:Bf T (w+1) 85 #[.slice Ak nk ck,x,.bool A,u,v]:=by rw[D];exact(Bf.new2 _ _ _ _).alloc _
 have h2:Bf T (w+1+1) 64 #[.bool f,h]:=by rw[D];exact Bf.new3 _ _ _ _ _
 have a6:Below w w T:=by rw[D];exact(Ao (Ao (Ao (aV _ _))))
 have H0:=Ar h0;have H1:=Ar h1;have H2:=Ar h2;have r:=Ar a6;subst D;clear h0 h1 h2 a6;by_cases I:q1=0
 .subst I;rw[if_neg aL]at F;go_enter func97,ntmps97
  go_upto_region 4 with (go_at_call 144;refine aF (Qx g B c1 c2 U n2 ⟨len,K,rx,n⟩ l pls ak au b2 a7 (hs.keep r.out) (hS.keep r.out)) λE v1 H y=>?_;rw[HQ.out]at H ⊢)
  obtain⟨A1,dk,rfl,ad,X,-⟩:=OwS.sps H;let⟨N,S⟩:=gN sp.length
  rw[S]at X ad b3 F ⊢;have b9:=Ar S;have K0:=Ar (H0.out.keep y);have K1:=Ar (H1.out.keep y);have K2:=Ar (H2.out.keep y);have Z:=An r.out y;clear S H H0 H1 H2 r y;let⟨BB,Q⟩:∃BB,BB=E.heap.size:=⟨_,rfl⟩
  have M:Z9 (E.alloc (.cells #[.map none,.slice none 0 0] 220)) BB (E.alloc (.cells #[.map none,.slice none 0 0] 220)).heap.size []:=by rw[Q];exact(Z9.new E).mono aL
  have L:=Ar M;clear M;have C:E.heap.size<=BB:=aK
  go_upto_region 6 with fail;rw[<-Q];clear Q;go_loopw [31] (λi wr=>∃k:Nat,k<=N/\i=k/\Z9 wr BB wr (Fk rx n ⟨c,x,A,(u,v)⟩ f h sp k)/\Below E E wr) λi _=>N-(intOf i).toNat
  case atStart=>exact⟨0,aB,rfl,L.out,blA⟩
  clear L;obtain⟨k,hk,rfl,hg,m⟩:=hrel;by_cases R:k<N
  .obtain⟨b1,o1,rfl,dx,a8⟩:=(X.keep m).at_ R;let⟨d1,d2⟩:=a8 k R;clear a8;have b0:okS (gt sp k):=ba.out _ (List.mem_of_getElem? (G3 (by rw[b9.out];exact R)));let⟨a1,a2,a3,a4,a5⟩:=(K0.out.keep m).cells4;let⟨e1,e2,e3,e4,e5,e6⟩:=(K1.out.keep m).cells5;let⟨f1,f2,f3,f4,f5⟩:=(K2.out.keep m).pair;have J:=Ar (show Fk rx n ⟨c,x,A,(u,v)⟩ f h sp (k+1)=match Nc rx n ⟨c,x,A,(u,v)⟩ f h (gt sp k) with|none=>Fk rx n ⟨c,x,A,(u,v)⟩ f h sp k|some a=>S9 (Fk rx n ⟨c,x,A,(u,v)⟩ f h sp k) [a] (0,0) from rfl);have bt:=Mg rx n ⟨c,x,A,(u,v)⟩ f h sp k;have ds:BB<wr.heap.size:=by obtain⟨_,_,q,_⟩:=hg;exact q.lt
   cases hse:Nc rx n ⟨c,x,A,(u,v)⟩ f h (gt sp k) with
   | none =>
     rw[hse]at J;have P:=Ar hse;clear hse
     go_wp2_with (go_at_call 145;refine rR (Qt c) λO z=>?_;rw[show Nc rx n ⟨c,x,A,(u,v)⟩ f h ((gt sp k).1,(gt sp k).2)=none from P.out];dsimp only[Amc,Option.getD,Option.isSome])
     have bp:=Ao (An (Ao m) z) (o:=.cells #[.int .i64 0,.int .i64 0] 65);exact aE ⟨by rw[J.out];exact(((hg.keep blA).keep z).keep blA).mono (by have:=z.size;simp at this ⊢;omega),bp⟩
   | some a =>
     obtain⟨V,W⟩:=a;rw[hse]at J;have aw:=X9 b0 hse;have P:=Ar hse;clear hse
     go_wp2_with (first|(go_at_call 145;refine rR (Qt c) λO z=>?_;rw[show Nc rx n ⟨c,x,A,(u,v)⟩ f h ((gt sp k).1,(gt sp k).2)=some (V,W) from P.out];dsimp only[Amc,Option.getD,Option.isSome];have bs:=(hg.keep blA).keep z;have bx:=z.size;simp at bx;have ai:Z9 ((O.alloc (.cells #[V,W] 65)).alloc (.cells #[V,W] 65)) BB O (Fk rx n ⟨c,x,A,(u,v)⟩ f h sp k):=(bs.keep (Ao blA)).mono aK;have bm:=ai.av (s:=O.heap.size+1) aK aL;have bl:=Bf.new2 O (.cells #[V,W] 65) 65 #[V,W])|(go_at_call 146;refine(Ta BB O (O+1) 1 1 (Fk rx n ⟨c,x,A,(u,v)⟩ f h sp k) [(V,W)] aK bl aK (by intro p hp;simp at hp;subst hp;exact aw) ai (O+1) bm).mono ?_;rintro e w8 ⟨rfl,G,bq,e0,-,-⟩))
     have Y:Below E E w8:=(Ao (Ao (An (Ao m) z))).trans (bq.mono C);exact aE ⟨by rw[J.out];exact G,Y⟩
  obtain rfl:N=k:=aK
  have bt:=Mg rx n ⟨c,x,A,(u,v)⟩ f h sp N;obtain⟨mv,sv,q1,q2,-,q4,-⟩:=hg;let⟨a1,a2,a3,a4,a5⟩:=q1.pair
  go_wp2_with (go_at_call 147;refine rR (yk Agp (λ_ _ _ _ _=>Aa9 _ _ _ _ _) sv BB (Fk rx n ⟨c,x,A,(u,v)⟩ f h sp N) aK q2) λw8⟨bu,G⟩=>?_;have c3:=Bf.grown q1 G (by intro e;exact eH _ (q4 _ e.symm).1);let⟨m1,m2,m3,m4,m5⟩:=c3.pair)
  go_ret2
  exact⟨sv,by rw[F.out];rfl,by rw[F.out];exact OwG.lower bu (bB Z.size C),An Z (dS m G m.size λj hj=>bB C (cX (q4 j hj).1))⟩
 have qo:(q1 != 0)=true:=by simpa using I
 rw[if_pos I]at F;clear I;go_enter func97,ntmps97
 go_wp2_with (go_at_call 144;refine aF (Qx g B c1 c2 U n2 ⟨len,K,rx,n⟩ l pls ak au b2 a7 (hs.keep r.out) (hS.keep r.out)) λE v1 H y=>?_;rw[HQ.out])
 go_ret2
 exact⟨_,by rw[F.out];rfl,by rw[F.out];exact OwG.nil,An r.out y⟩
end
theorem qz{rx:Int}{sp:LP}(d:∀p∈sp,okS p):∀k,k<=sp.length->∀p∈Fk rx i m q A sp k,okS p:=by
 intro k;induction k with
 | zero=>simp[Fk]
 | succ k ih =>
   intro e;rw[Fk];split
   .exact ih aK
   rename_i a c;refine Xe (ih aK) (by intro p b;simp at b;subst b;exact X9 (d _ (List.mem_of_getElem? (G3 aK))) c)
theorem Ab7(b:Bed4)(s:Shp)(a:Bool)(c:Int)(l:LP)(pls:List LP):(Iz b s a c l pls).2.length<=2+1075840*pls.length/\∀p∈(Iz b s a c l pls).2,okS p:=by
 have h:=Qy b l pls;unfold Iz;split
 .simp
 refine⟨?_,λp d=>qz h.2 _ aA p (List.mem_mergeSort.1 d)⟩
 show (Ez _).length<=_
 rw[Gx];exact bB (Mg _ _ _ _ _ _ _) h.1
def tr(a:List Trn)(k:Nat):Trn:=a.getD k (false,0)
def Wn(b:Bed4)(S:List Shp)(c:List Pt5)(sh:Int)(t:Trn)(a:Int×Int):Bool:=Ha b S c ⟨sh,t.1,t.2,a.1,a.2⟩ == 0
def Pg(b:Bed4)(S:List Shp)(c:List Pt5)(sh:Int)(t:Trn)(a:LP):Option Nat:=(List.range a.length).find? λi=>Wn b S c sh t (gt a i)
def td(sh:Int)(t:Trn)(r:LP)(a:Int×Int):End6:=⟨⟨sh,t.1,t.2,a.1,a.2⟩,wrap64 (wrap64 (a.1+loX r r.length)+wrap64 (hiX r r.length-loX r r.length))⟩
def I0(b:Bed4)(S:List Shp)(c:List Pt5)(sh:Int)(pls:List LP)(a:List Trn):Nat->Int×List End6
 | 0=>(0,[])
 | k+1=>if (I0 b S c sh pls a k).1≠0 then I0 b S c sh pls a k
   else if (Br S ⟨sh,(tr a k).1,(tr a k).2,0,0⟩).1≠0 then ((Br S ⟨sh,(tr a k).1,(tr a k).2,0,0⟩).1,[])
   else if (Iz b (shp S sh.toNat) (tr a k).1 (tr a k).2 (Br S ⟨sh,(tr a k).1,(tr a k).2,0,0⟩).2 pls).1≠0 then ((Iz b (shp S sh.toNat) (tr a k).1 (tr a k).2 (Br S ⟨sh,(tr a k).1,(tr a k).2,0,0⟩).2 pls).1,[])
   else match Pg b S c sh (tr a k) (Iz b (shp S sh.toNat) (tr a k).1 (tr a k).2 (Br S ⟨sh,(tr a k).1,(tr a k).2,0,0⟩).2 pls).2 with
    | none=>(0,(I0 b S c sh pls a k).2)
    | some j=>(0,S9 (I0 b S c sh pls a k).2 [td sh (tr a k) (Br S ⟨sh,(tr a k).1,(tr a k).2,0,0⟩).2 (gt (Iz b (shp S sh.toNat) (tr a k).1 (tr a k).2 (Br S ⟨sh,(tr a k).1,(tr a k).2,0,0⟩).2 pls).2 j)] ⟨⟨0,false,0,0,0⟩,0⟩)
def I1:Pt5:=⟨0,false,0,0,0⟩
def J8(r:Int×List End6):Int×Pt5:=if r.1≠0 then (r.1,I1) else if r.2.length=0 then (18,I1) else (0,(Es r.2 r.2.length).put)
def Gj(b:Bed4)(S:List Shp)(a:List Pt5)(sh:Int):Int×Pt5 :=
 if (Gl b S a sh false 0).1≠0 then ((Gl b S a sh false 0).1,I1)
 else J8 (I0 b S a sh (Gl b S a sh false 0).2.2 (vp (shp S sh.toNat).grain false) (vp (shp S sh.toNat).grain false).length)
theorem Xy{pls:List LP}(b:I0 h c e sh pls j a=(x,[]))(d:x≠0):∀m,I0 h c e sh pls j (a+m)=(x,[]):=by
 intro m;induction m with
 | zero=>exact b
 | succ m ih=>rw[<-cQ,I0,if_pos (by rw[ih];exact d)];exact ih
theorem Acj{x:End6}:(S9 l [x] ⟨⟨0,false,0,0,0⟩,0⟩).length<=l.length+1:=En _ _ _ _
theorem Xx{b:Bed4}{S:List Shp}{ps:List Pt5}{pls:List LP}{ts:List Trn}(k:Nat):(I0 b S ps sh pls ts k).2.length<=k:=by
 induction k with
 | zero=>simp[I0]
 | succ k ih =>
   rw[I0];split
   .omega
   split
   .simp
   split
   .simp
   split
   .exact Nat.le_succ_of_le ih
   refine bB (Acj) aK
theorem Oo{S:List Shp}{p:Pt5}(h:(Br S p).1=0):Bg (Br S p).2 (Br S p).2.length=0:=by
 unfold Br at h ⊢;split at h
 .cases h
 rename_i c;rw[if_neg c];unfold La at h ⊢;split at h
 .rename_i b;exact absurd h b
 rename_i b;rw[if_neg b];split at h
 .rename_i a;exact absurd h a
 rename_i a;rw[if_neg a]
 show Bg (Yv _ _) (Yv _ _).length=0
 rw[Ld,E8];simpa using a
theorem zf(a:(Gl h c e sh q i).1=0):Gg h=false/\(Br c ⟨sh,q,i,0,0⟩).1=0/\(Gl h c e sh q i).2.2=(Dk c e e.length).2:=by
 unfold Gl at a ⊢;split at a
 .cases a
 rename_i f;rw[if_neg f];split at a
 .rename_i b;exact absurd a b
 rename_i b;rw[if_neg b];split at a
 .rename_i d;exact absurd a d
 rename_i d;rw[if_neg d];exact⟨by simpa using f,by simpa using b,rfl⟩
def TrS(w:World)(A:Option Addr)(n:Nat)(a:List Trn):Prop:=a.length=n/\(n=0\/∃b,A=some ⟨b,0,none⟩/\∀k,k<n->Cq w b (k*2) (.bool (tr a k).1)/\Cq w b (k*2+1) (tr a k).2)
theorem OwT.trs(h:OwG 64 2 enT w a f j):∃A c,f=.slice A j.length c/\TrS w A j.length j/\(0<j.length->∃g,A=some ⟨g,0,none⟩/\a<=g/\g<w.heap.size):=by
 rcases OwG.form h with⟨rfl,rfl⟩|⟨g,d,rfl,m,n,p,q⟩
 .exact⟨none,0,rfl,⟨rfl,.inl rfl⟩,λh=>absurd h aL⟩
 refine⟨_,d,rfl,⟨rfl,.inr ⟨g,rfl,λk o=>?_⟩⟩,λ_=>⟨g,rfl,m,n⟩⟩;have b:j[k]? = some (tr j k):=by unfold tr;rw[List.getD,aW o];rfl
 have e:=OwG.cells h (k*2) aK;have i:=OwG.cells h (k*2+1) aK;have l:=Bu Wu j k 0 _ b aK;rw[bU]at l;rw[l]at e;rw[Bu Wu j k 1 _ b aK]at i;exact⟨e,i⟩
theorem TrS.keepBlk{c n:Nat}(h:TrS w (some ⟨c,0,none⟩) n j)(g:b.heap[c]? = w.heap[c]?):TrS b (some ⟨c,0,none⟩) n j:=by
 refine⟨h.1,?_⟩;obtain⟨_,d⟩:=h;rcases d with d|⟨i,e,d⟩
 .exact .inl d
 injection e with e
 injection e with e1
 subst e1;exact .inr ⟨c,rfl,λk f=>⟨(World.cell?_of_block (w:=w) (a:=⟨c,k*2,none⟩) g).trans (d k f).1,(World.cell?_of_block (w:=w) (a:=⟨c,k*2+1,none⟩) g).trans (d k f).2⟩⟩
theorem TrS.keep(h:TrS w g a j)(d:Be w b):TrS b g a j:=by
 refine⟨h.1,?_⟩;obtain⟨_,c⟩:=h;rcases c with c|⟨f,rfl,c⟩
 .exact .inl c
 exact .inr ⟨f,rfl,λk e=>⟨Aq d (c k e).1,Aq d (c k e).2⟩⟩
theorem Aci(g:Int)(m:Bool):∀k,∀t∈Ko g m k,t.1=m/\0<=t.2/\t.2<k:=by
 intro k;induction k with
 | zero=>simp[Ko]
 | succ k ih =>
   intro t a;rw[Ko]at a;rcases bD.1 a with a|a
   .have:=ih t a;exact⟨this.1,this.2.1,aK⟩
   split at a
   .simp at a;subst a;exact⟨rfl,by show (0:Int)<=(k:Int);omega,by show (k:Int)<((k+1:Nat):Int);omega⟩
   simp at a
theorem Agk(i:a<p)(h:Bp o a=false)(b:o a=true):(List.range p).find? o=some a:=by
 have e:List.range p=List.range a++(List.range' a (p-a)):=by
  have h:=List.range'_append_1 (s:=0) (m:=a) (n:=p-a);rw[fX,fX,show p=a+(p-a) by omega,<-h];simp
 rw[e,List.find?_append]
 have c:(List.range a).find? o=none:=by
  rw[fM];intro x g d;exact(fT.1 h) x g d
 rw[c];let⟨m,f⟩:∃m,p-a=m+1:=⟨p-a-1,aK⟩
 rw[f,List.range'_succ];simp[b]
theorem su(h:Bp o a=false):(List.range a).find? o=none:=by
 rw[fM];intro x c b;exact(fT.1 h) x c b
theorem Bf.frz5(h:Bf w a k r):w.frozen? ⟨a,0,none⟩=false/\w.frozen? ⟨a,1,none⟩=false/\w.frozen? ⟨a,2,none⟩=false/\w.frozen? ⟨a,3,none⟩=false/\w.frozen? ⟨a,4,none⟩=false:=⟨h.frozen 0,h.frozen 1,h.frozen 2,h.frozen 3,h.frozen 4⟩
def Xg(w:World)(r:Int×Pt5)(e:Ending)(a:World):Prop:=e=.returned (.tuple #[L7 r.2,r.1])/\Be w a
theorem yb(h i:Option Addr)(n o l g:Nat)(b:Bed4)(S:List Shp)(d:List Pt5)(sh:Int)(w:World)(C:g<=1000)(B:ShS w h l S)(j:PuS w i g d)(F:¬(Gl b S d sh false 0).1=0):Calls prog 57 #[Jw b,.slice h l n,.slice i g o,sh] w (Xg w ((Gl b S d sh false 0).1,I1)):=by
 have q:((Gl b S d sh false 0).1 != 0)=true:=by simpa using F
 generalize G:(Gl b S d sh false 0).1=x at q ⊢;have s:=Ar G;obtain⟨len,c,rx,m⟩:=b;unfold Jw;dsimp only;have a:=Ar (show Be w ((w.alloc (.cells #[len,c,rx,m] 62)).alloc (.cells #[.int .i64 0,.bool false,.int .i64 0,.int .i64 0,.int .i64 0] 72)) from (Ao (Ao (aV _ _))));have r:=Ar (Bf.new2 w (.cells #[len,c,rx,m] 62) 72 #[.int .i64 0,.bool false,.int .i64 0,.int .i64 0,.int .i64 0]);go_in
 go_wp2_with (go_at_call 94;refine(Yk h i n o l g ⟨len,c,rx,m⟩ S d sh false 0 (B.keep a.out) (j.keep a.out)).mono ?_;rintro e P ⟨N,O,rfl,D,E,f⟩;rw[s.out];have p:=r.out.keep f;let⟨t,u,y,z,A,H⟩:=p.cells5;let⟨I,J,K,L,M⟩:=p.frz5)
 exact bR ⟨rfl,by have k:=An a.out f;(repeat first|exact k|refine Ba ?_ (by dsimp only;omega))⟩ rfl (by simp[results,results57,go_sem,t,u,y,z,A,L7,I1])
theorem Aey(A1 A2:Option Addr)(c1 c2 n1 n2:Nat)(b:Bed4)(S:List Shp)(u:List Pt5)(sh:Int)(w:World)(vq:n2<=1000)(hS:ShS w A1 n1 S)(ca:PuS w A2 n2 u)(hp:(Gl b S u sh false 0).1=0):Calls prog 57 #[Jw b,.slice A1 n1 c1,.slice A2 n2 c2,sh] w (Xg w (J8 (I0 b S u sh (Gl b S u sh false 0).2.2 (vp (shp S sh.toNat).grain false) (vp (shp S sh.toNat).grain false).length))):=by
 let⟨ow,k9,h4⟩:=zf hp;let⟨k,hk,fs,fv⟩:=Yl k9;dsimp only at hk fs fv;have T:=Hd S u u.length;rw[fv];let⟨pls,bq⟩:=gN ((Gl b S u sh false 0).2.2)
 rw[bq]at h4 ⊢;rw[<-h4,ca.1]at T;have kh:=T.1;have mx:=Ar (show ∀t∈pls,t.length<=1000 from λt ht=>bB (T.2 t ht) aK);have ix:=Ar bq;have HP:=Ar hp;clear bq h4 k9 hp T fv ow;subst hk;have p6:k<n1:=by rw[<-hS.1];exact fs
 have sd:=hS.2.1;have vc:=Ar hS.1;clear fs;obtain⟨ba,oa,rfl,ox,kl⟩:=hS.at_ p6;have ee:=Ar kl;let⟨s,hs⟩:=gN (shp S k)
 rw[hs]at ee ⊢;have my:=Ar hs;clear hs kl ox;let⟨H,bs⟩:=gN (vp s.grain false)
 rw[bs];have kr:H.length<=4:=by rw[<-bs];exact Px _ _ 4
 have mz:=Ar (show ∀t∈H,inR t.2 from λt ht=>by rw[<-bs]at ht;have:=Aci s.grain false 4 t ht;unfold inR;omega);have iy:=Ar bs;clear bs;let⟨G,gy⟩:=gN H.length
 rw[gy]at kr ⊢;have e9:=Ar gy;clear gy;obtain⟨len,c,rx,y⟩:=b;unfold Jw;dsimp only;have cj:=Ar (show Be w ((w.alloc (.cells #[len,c,rx,y] 62)).alloc (.cells #[.int .i64 0,.bool false,.int .i64 0,.int .i64 0,.int .i64 0] 72)) from (Ao (Ao (aV _ _))));have H0:=Ar ((Bf.new w 62 #[len,c,rx,y]).alloc (.cells #[.int .i64 0,.bool false,.int .i64 0,.int .i64 0,.int .i64 0] 72));have H1:=Ar (Bf.new2 w (.cells #[len,c,rx,y] 62) 72 #[.int .i64 0,.bool false,.int .i64 0,.int .i64 0,.int .i64 0]);go_enter func57,ntmps57
 go_upto_region 4 with (go_at_call 94;refine(Yk _ A2 c1 c2 n1 n2 ⟨len,c,rx,y⟩ S u (k:Int) false 0 (hS.keep cj.out) (ca.keep cj.out)).mono ?_;rintro e w1 ⟨v1,v2,rfl,p7,h2,cd⟩;rw[ix.out]at h2;rw[HP.out])
 obtain⟨Ap,cp,rfl,p0,ew,-⟩:=h2.spss;have O:=An cj.out cd;have cb:=hS.keep O;have j5:=ca.keep O;have K0:=Ar (H0.out.keep cd);have K1:=Ar (H1.out.keep cd);have kp:=ee.out.keep O;clear p7 h2 cd cj H0 H1 hS ca ee;let⟨np,k5⟩:=gN pls.length
 rw[k5]at ew p0 kh ⊢;clear k5;obtain⟨cy,gr,mt,⟨ax,ay⟩⟩:=s;obtain⟨Ak,ck,g1,g2,g3,g4,g5,g6,g7,g8,g9⟩:=kp;dsimp only at g1 g2 g4 g6 g7 g8 g9 iy;let⟨nk,k4⟩:=gN cy.length
 rw[k4]at g1 g2 g4;clear k4 g2 g3 g4 g5;let⟨BB,eo⟩:∃BB,BB=w1.heap.size:=⟨_,rfl⟩
 have fc:=Ar (xc.new w1);rw[<-eo]at fc;have oe:Cq (w1.alloc (.cells #[.map none,.slice none 0 0] 154)) ba (oa+k*5+1) gr:=Aq blA g6
 go_upto_region 6 with (go_at_call 95;refine aF (Ag7) λw2 v3 h3 cf=>?_;rw[iy.out]at h3;obtain⟨At,ct,rfl,B,ek⟩:=OwT.trs h3;rw[e9.out]at B ek ⊢)
 rw[<-eo];have j3:w1.heap.size<=BB:=aK
 have s6:BB<=w1.heap.size:=aK
 have fr:=fc.out.keep cf;have j6:Be w1 w2:=An blA cf;have l0:=cf.size;simp at l0
 let⟨sb,h8⟩:∃sb,0<G->At=some ⟨sb,0,none⟩/\AvE w2 BB sb:=by
  rcases bK G with h0|h0
  .exact⟨0,λh=>by omega⟩
  obtain⟨g,rfl,q1,q2⟩:=ek h0;exact⟨g,λ_=>⟨rfl,fr.av (by simp at q1;omega) q2⟩⟩
 have hv:=Ar (show xc w2 BB w2 (I0 ⟨len,c,rx,y⟩ S u (k:Int) pls H 0).2 from fr.mono aK);clear fc fr cf h3 ek oe l0 eo;go_loopw [46] (λi wr=>∃j:Nat,j<=G/\i=j/\Hid ((I0 ⟨len,c,rx,y⟩ S u (k:Int) pls H j).1=0)/\xc wr BB wr (I0 ⟨len,c,rx,y⟩ S u (k:Int) pls H j).2/\TrS wr At G H/\(0<G->AvE wr BB sb)/\Be w1 wr) λi _=>G-(intOf i).toNat
 case atStart=>exact⟨0,aB,rfl,Ar rfl,hv.out,B,λh=>(h8 h).2,j6⟩
 clear hv B j6;obtain⟨j,hj,rfl,hz,hg,B,Y,f⟩:=hrel;by_cases gw:j<G
 .obtain⟨rfl,-⟩:=h8 aK;have cz:=Y aK;obtain⟨-,b9⟩:=B;rcases b9 with h|⟨w0,b6,b9⟩
  .omega
  injection b6 with b6
  injection b6 with b6
  subst b6;let⟨d1,d2⟩:=b9 j gw;have B:TrS wr (some ⟨sb,0,none⟩) G H:=⟨e9.out,.inr ⟨sb,rfl,b9⟩⟩;have a:=Ar (show I0 ⟨len,c,rx,y⟩ S u (k:Int) pls H (j+1)=_ by rw[I0,if_neg (by rw[hz.out];simp)]);rw[cT,my.out]at a;have h9:inR (tr H j).2:=mz.out _ (by unfold tr;rw[List.getD,aW (by rw[e9.out];exact gw)];exact cY _);let⟨tj,kq⟩:=gN (tr H j)
  rw[kq]at d1 d2 a h9;clear kq b9;obtain⟨z,A⟩:=tj;dsimp only at d1 d2 a h9;have pn:sb<wr.heap.size:=Bi d1;have J:=λh=>Oo (S:=S) (p:=⟨(k:Int),z,A,0,0⟩) h
  have h6:=F9 S ⟨(k:Int),z,A,0,0⟩;let⟨r,hr⟩:=gN (Br S ⟨(k:Int),z,A,0,0⟩)
  rw[hr]at a J h6;have HR:=Ar hr;clear hr;obtain⟨r1,r⟩:=r;dsimp only at a J h6;by_cases ad:r1=0
  .subst ad;have fa:=J rfl;have hl:=Ar fa;have oz:=El fa;rw[if_neg aL]at a;clear J fa;let⟨d,gx⟩:=gN r.length
   rw[gx]at h6 hl oz;have ih:=Ar gx;clear gx
   go_upto_region 14 with (first|(go_at_call 17;refine aF (Cf S ⟨(k:Int),z,A,0,0⟩ (cb.keep (Ao f))) λw5 v5 cx Z=>?_;rw[HR.out]at cx ⊢;obtain⟨A5,c5,rfl,ey,N,j2⟩:=OwS.sps cx;rw[ih.out]at N ey j2 ⊢;obtain⟨gb,rfl,j9,jr⟩:=j2 aK)|(go_at_call 96;refine rR (Aec r ey N hl.out) λw6 cg=>?_))
   let⟨U,b7⟩:∃U,U=wr.heap.size:=⟨_,rfl⟩
   let⟨c4,b8⟩:∃c4,c4=w6.heap.size:=⟨_,rfl⟩
   rw[<-b7,<-b8];have n:Be wr (w6.alloc (.cells #[(loX r d),(loY r d),(wrap64 (hiX r d-loX r d)),(wrap64 (hiY r d-loY r d))] 158)):=Ao (An (An blA Z) cg);have x1:Bf (w6.alloc (.cells #[(loX r d),(loY r d),(wrap64 (hiX r d-loX r d)),(wrap64 (hiY r d-loY r d))] 158)) U 64 #[.bool z,A]:=by rw[b7];exact(((Bf.new wr _ _).keep Z).keep cg).alloc _
   have x2:Bf (w6.alloc (.cells #[(loX r d),(loY r d),(wrap64 (hiX r d-loX r d)),(wrap64 (hiY r d-loY r d))] 158)) c4 158 #[(loX r d),(loY r d),(wrap64 (hiX r d-loX r d)),(wrap64 (hiY r d-loY r d))]:=by rw[b8];exact Bf.new _ _ _
   have V:BB<wr.heap.size:=by obtain⟨_,_,q,_⟩:=hg;exact q.lt
   refine Cu (λX=>Be w1 X/\Bf X U 64 #[.bool z,A]/\Bf X c4 158 #[(loX r d),(loY r d),(wrap64 (hiX r d-loX r d)),(wrap64 (hiY r d-loY r d))]/\SpS X (some ⟨gb,0,none⟩) d r/\xc X BB X (I0 ⟨len,c,rx,y⟩ S u (k:Int) pls H j).2/\TrS X (some ⟨sb,0,none⟩) G H/\AvE X BB sb) ⟨An f n,x1,x2,(N.keep cg).keep blA,(hg.keep n).mono n.size,B.keep n,cz.keep V n⟩ ?_;clear x1 x2 n V hg B Y cz f N Z cg cx b7 b8 d1 d2 pn j9 jr;rintro X ⟨f,x1,x2,N,hg,B,Y⟩;let⟨a1,a2,a3,a4,a5⟩:=(K0.out.keep f).cells4;let⟨t1,t2,t3,t4,t5⟩:=x1.pair;have s1:=Aq f g1;have s2:=Aq f g6;have s3:=Aq f g7;have s4:=Aq f g8;have s5:=Aq f g9;have K:=Ab7 ⟨len,c,rx,y⟩ ⟨cy,gr,mt,(ax,ay)⟩ z A r pls;let⟨cw,fb⟩:=gN (Iz ⟨len,c,rx,y⟩ ⟨cy,gr,mt,(ax,ay)⟩ z A r pls)
   rw[fb]at a K;have mm:=Ar fb;clear fb;obtain⟨e1,cs⟩:=cw;dsimp only at a K;go_cut [19,17] λq5 q4 wx=>q4=e1/\OwS wx X q5 cs/\Be X wx
   case first =>
    go_region_held3 (λw'=>Cq w' w 0 len/\Cq w' w 1 c/\Cq w' w 2 rx/\Cq w' w 3 y/\Cq w' U 0 (.bool z)/\Cq w' U 1 A/\Cq w' ba (oa+k*5) (.slice Ak nk ck)/\Cq w' ba (oa+k*5+1) gr/\Cq w' ba (oa+k*5+2) (.bool mt)/\Cq w' ba (oa+k*5+3) ax/\Cq w' ba (oa+k*5+4) ay)
     (first
      | (go_keep;done)
      | exact⟨Aq l a1,Aq l a2,Aq l a3,Aq l a4,Aq l t1,Aq l t2,Aq l s1,Aq l s2,Aq l s3,Aq l s4,Aq l s5⟩)
     ((first
       | (go_at_call 97;refine aF (Ab6 Ak nk ck ⟨len,c,rx,y⟩ ⟨cy,gr,mt,(ax,ay)⟩ z A r pls aK aK mx.out ey (N.keep blD) (ew.keep (Aw f))) λw8 v8 k6 l=>?_;rw[mm.out]at k6 ⊢)))
    all_goals go_wp2
    all_goals go_meet
    all_goals exact⟨rfl,k6,An blD l⟩
   obtain⟨rfl,ho,F⟩:=hcut;clear a1 a2 a3 a4 a5 t1 t2 t3 t4 t5 s1 s2 s3 s4 s5;by_cases a8:e1=0
   .subst a8;rw[if_neg aL]at a;obtain⟨Ac,cc,rfl,oy,ev,-⟩:=OwS.sps ho;have hn:=Ar K.2;have db:=K.1;let⟨nc,cu⟩:=gN cs.length
    rw[cu]at oy ev db ⊢;have mr:=Ar cu;have kk:=ew.1;rw[kk]at db;have dx:=Ar (show Pg ⟨len,c,rx,y⟩ S u (k:Int) (z,A) cs=(List.range nc).find? λi=>Wn ⟨len,c,rx,y⟩ S u (k:Int) (z,A) (gt cs i) by unfold Pg;rw[cu]);clear cu kk K ho;have n:=An f F;have y1:=x1.keep F;have y2:=x2.keep F;have cm:=(hg.keep F).mono F.size;have bb:=B.keep F;have j4:BB<X.heap.size:=by obtain⟨_,_,q,_⟩:=hg;exact q.lt
    have bd:=Y.keep j4 F;clear x1 x2 hg B Y N f j4;let⟨wo,kz⟩:∃wo:World,wo=wc:=⟨_,rfl⟩
    rw[<-kz]at F ev n y1 y2 cm bb bd ⊢;clear kz F;have V:BB<wo.heap.size:=by obtain⟨_,_,q,_⟩:=cm;exact q.lt
    have Y1:=Ar y1;have Y2:=Ar y2;clear y1 y2;go_wp2;go_loopw [89] (λi wx=>∃m:Nat,m<=nc/\i=m/\Hid (Bp (λi=>Wn ⟨len,c,rx,y⟩ S u (k:Int) (z,A) (gt cs i)) m=false)/\Be wo wx) λi _=>nc-(intOf i).toNat
    case atStart=>exact⟨0,aB,rfl,Ar (Bp.zero _),bl0⟩
    obtain⟨m,hm,rfl,hf,o⟩:=hrel;by_cases cn:m<nc
    .obtain⟨bc,oc,rfl,s7,da⟩:=(ev.keep o).at_ cn;let⟨d1,d2⟩:=da m cn;clear da;have bp:okS (gt cs m):=hn.out _ (List.mem_of_getElem? (G3 (by rw[mr.out];exact cn)));let⟨a1,a2,a3,a4,a5⟩:=(K0.out.keep (An n o)).cells4;let⟨t1,t2,t3,t4,t5⟩:=(Y1.out.keep o).pair;let⟨C,h5⟩:=gN (gt cs m)
     rw[h5]at d1 d2 bp;have ec:=Ar h5;clear h5;obtain⟨C,Q⟩:=C;dsimp only at d1 d2;by_cases R:Ha ⟨len,c,rx,y⟩ S u ⟨(k:Int),z,A,C,Q⟩=0
     .have q9:(Ha ⟨len,c,rx,y⟩ S u ⟨(k:Int),z,A,C,Q⟩ == 0)=true:=by simpa using R
      rw[dx.out,Agk cn hf.out (show Wn ⟨len,c,rx,y⟩ S u (k:Int) (z,A) (gt cs m)=true by rw[ec.out];exact q9)] at a;dsimp only at a;rw[ec.out]at a;have j7:td (k:Int) (z,A) r (C,Q)=⟨⟨(k:Int),z,A,C,Q⟩,wrap64 (wrap64 (C+loX r d)+wrap64 (hiX r d-loX r d))⟩:=by unfold td;rw[ih.out]
      rw[j7]at a;clear j7 R
      go_upto_region 22 with (go_at_call 59;refine rR (Sq ⟨len,c,rx,y⟩ S u ⟨(k:Int),z,A,C,Q⟩ (cb.keep (Ao (Ao (An n o)))) (j5.keep (Ao (Ao (An n o))))) λw9 a7=>?_)
      have I:Be wo w9:=An (Ao (Ao o)) a7;let⟨z1,z2,z3,z4,z5⟩:=(Y2.out.keep I).cells4;let⟨m1,m2,m3,m4,m5⟩:=(((Bf.new wr 65 #[C,Q]).alloc (.cells #[(k:Int),.bool z,A,C,Q] 72)).keep a7).pair;let⟨o1,o2,o3,o4,o5,o6⟩:=((Bf.new2 wr (.cells #[C,Q] 65) 72 #[(k:Int),.bool z,A,C,Q]).keep a7).cells5;have bm:Be w9 (w9.alloc (.cells #[(k:Int),.bool z,A,C,Q,(wrap64 (wrap64 (C+loX r d)+wrap64 (hiX r d-loX r d)))] 164)):=blA;have og:BB<w9.heap.size:=aZ V I.size;have p3:=Ar (((cm.keep I).mono I.size).keep bm);have ov:=Ar ((bd.keep V I).keep og bm);have oq:=Ar ((bb.keep I).keep bm);have ou:=Ar (Bf.new w9 164 #[(k:Int),.bool z,A,C,Q,(wrap64 (wrap64 (C+loX r d)+wrap64 (hiX r d-loX r d)))]);have p5:(I0 ⟨len,c,rx,y⟩ S u (k:Int) pls H j).2.length<=1000000000000:=bB (Xx j) aK;have mf:=Ar (An n (An I bm))
      have ds:∀x∈[(⟨⟨(k:Int),z,A,C,Q⟩,wrap64 (wrap64 (C+loX r d)+wrap64 (hiX r d-loX r d))⟩:End6)],okE x:=by
       intro x hx;simp at hx;subst hx;exact⟨by show inR (k:Int);unfold inR;omega,h9,bp.1,bp.2,Gi⟩
      have im:=Ar ds;clear bm a7 o I ds
      go_wp2_with (go_at_call 98;refine rR (Ack BB w9 w9 1 1 (I0 ⟨len,c,rx,y⟩ S u (k:Int) pls H j).2 [⟨⟨(k:Int),z,A,C,Q⟩,wrap64 (wrap64 (C+loX r d)+wrap64 (hiX r d-loX r d))⟩] rfl aK p5 ou.out aA im.out p3.out sb ov.out) λw8⟨p2,l,vr,p4,pq⟩=>?_)
      exact aE ⟨Ar (by rw[a.out]),by rw[a.out];exact p2,oq.out.keepBlk p4,λ_=>pq,mf.out.trans (l.mono j3)⟩
     have q9:(Ha ⟨len,c,rx,y⟩ S u ⟨(k:Int),z,A,C,Q⟩ == 0)=false:=by simpa using R
     have j8:=Bp.succ hf.out (show Wn ⟨len,c,rx,y⟩ S u (k:Int) (z,A) (gt cs m)=false by rw[ec.out];exact q9);have mo:=Ar j8;clear j8 R
     go_wp2_with (go_at_call 59;refine rR (Sq ⟨len,c,rx,y⟩ S u ⟨(k:Int),z,A,C,Q⟩ (cb.keep (Ao (Ao (An n o)))) (j5.keep (Ao (Ao (An n o))))) λw9 a7=>?_)
     exact aE ⟨mo,An (Ao (Ao o)) a7⟩
    obtain rfl:nc=m:=aK
    rw[dx.out,su hf.out]at a;dsimp only at a;go_wp2_with fail;exact aE ⟨Ar (by rw[a.out]),by rw[a.out];exact(cm.keep o).mono o.size,bb.keep o,λ_=>bd.keep V o,An n o⟩
   have qo:(e1 != 0)=true:=by simpa using a8
   rw[if_pos a8]at a;have E:=Xy a.out a8 (G-(j+1));rw[show j+1+(G-(j+1))=G by omega]at E;have HF:=Ar (show J8 (I0 ⟨len,c,rx,y⟩ S u (k:Int) pls H G)=(e1,I1) by rw[E];unfold J8;rw[if_pos a8]);clear E a8;have k1:=K1.out.keep (An f F);let⟨a1,a2,a3,a4,a5,a6⟩:=k1.cells5;let⟨f1,f2,f3,f4,f5⟩:=k1.frz5;go_wp2_with fail;exact cB (v:=.tuple #[L7 I1,e1]) (by simp[results,results57,go_sem,a1,a2,a3,a4,a5,L7,I1]) rfl ⟨by rw[HF.out],by have P:=An O (An f F);(repeat first|exact P|refine Ba ?_ (by dsimp only;omega))⟩
  have qo:(r1 != 0)=true:=by simpa using ad
  rw[if_pos ad]at a;have E:=Xy a.out ad (G-(j+1));rw[show j+1+(G-(j+1))=G by omega]at E;have HF:=Ar (show J8 (I0 ⟨len,c,rx,y⟩ S u (k:Int) pls H G)=(r1,I1) by rw[E];unfold J8;rw[if_pos ad]);clear E ad J
  go_wp2_with (go_at_call 17;refine aF (Cf S ⟨(k:Int),z,A,0,0⟩ (cb.keep (Ao f))) λw5 v5 cx Z=>?_;rw[HR.out];have k1:=K1.out.keep (An (Ao f) Z);let⟨a1,a2,a3,a4,a5,a6⟩:=k1.cells5;let⟨f1,f2,f3,f4,f5⟩:=k1.frz5)
  exact cB (v:=.tuple #[L7 I1,r1]) (by simp[results,results57,go_sem,a1,a2,a3,a4,a5,L7,I1]) rfl ⟨by rw[HF.out],by have P:=An O (An (Ao f) Z);(repeat first|exact P|refine Ba ?_ (by dsimp only;omega))⟩
 obtain rfl:G=j:=aK
 obtain⟨mv,sv,k1,k2,-,-,-⟩:=hg;obtain⟨A7,c7,rfl,W⟩:=OwE.ens k2;have k0:=Xx (b:=⟨len,c,rx,y⟩) (S:=S) (ps:=u) (sh:=(k:Int)) (pls:=pls) (ts:=H) G;let⟨L,hL⟩:=gN ((I0 ⟨len,c,rx,y⟩ S u (k:Int) pls H G).2)
 have HF:=Ar (show J8 (I0 ⟨len,c,rx,y⟩ S u (k:Int) pls H G)=if L.length=0 then (18,I1) else (0,(Es L L.length).put) by unfold J8;rw[if_neg (by rw[hz.out];simp),hL]);rw[hL]at k1 W k0;clear hL k2 h8 B Y gw;let⟨n7,k3⟩:=gN L.length
 rw[k3]at k1 W k0 HF;clear k3;let⟨b1,b2,b3,b4,b5⟩:=k1.pair;let⟨le,gf⟩:=gN (Es L n7)
 rw[gf]at HF;have hy:=Ar gf;clear gf;obtain⟨⟨e1,e2,e3,e4,e5⟩,e6⟩:=le;dsimp only at HF;have K2:=Ar (K1.out.keep f);by_cases h7:n7=0
 .rw[if_pos h7]at HF;have q7:decide (0<n7)=false:=by simp[h7]
  clear h7
  go_upto_region 26 with (go_at_call 99;refine rR (Um A7 n7 L W) λw8 l=>?_;rw[hy.out];unfold ez;dsimp only)
  let⟨M,D⟩:∃M,M=w8.heap.size:=⟨_,rfl⟩
  rw[<-D];refine Cu (λX=>Be w X/\Bf X M 164 #[e1,.bool e2,e3,e4,e5,e6]/\Bf X (w+1) 72 #[.int .i64 0,.bool false,.int .i64 0,.int .i64 0,.int .i64 0]) ⟨Ao (An O (An f l)),by rw[D];exact Bf.new _ _ _,(K2.out.keep l).alloc _⟩ ?_;clear D l b1 b2 b3 b4 b5 W k1 f;rintro X ⟨bl,kX,bu⟩;let⟨a1,a2,a3,a4,a5,a6⟩:=bu.cells5;let⟨f1,f2,f3,f4,f5⟩:=bu.frz5;let⟨n5,n9,na,nd,nf,ng,nh⟩:=kX.cells6;have e8:=Ar bl;clear bl;go_wp2_with fail;exact cB (v:=.tuple #[L7 I1,.int .i64 18]) (by simp[results,results57,go_sem,a1,a2,a3,a4,a5,L7,I1]) rfl ⟨by rw[HF.out],by have P:=e8.out;(repeat first|exact P|refine Ba ?_ (by dsimp only;omega))⟩
 rw[if_neg h7]at HF;have q7:decide (0<n7)=true:=aO
 clear h7
 go_upto_region 26 with (go_at_call 99;refine rR (Um A7 n7 L W) λw8 l=>?_;rw[hy.out];unfold ez;dsimp only)
 let⟨M,D⟩:∃M,M=w8.heap.size:=⟨_,rfl⟩
 rw[<-D];refine Cu (λX=>Be w X/\Bf X M 164 #[e1,.bool e2,e3,e4,e5,e6]/\Bf X (w+1) 72 #[.int .i64 0,.bool false,.int .i64 0,.int .i64 0,.int .i64 0]) ⟨Ao (An O (An f l)),by rw[D];exact Bf.new _ _ _,(K2.out.keep l).alloc _⟩ ?_;clear D l b1 b2 b3 b4 b5 W k1 f;rintro X ⟨bl,kX,bu⟩;let⟨a1,a2,a3,a4,a5,a6⟩:=bu.cells5;let⟨f1,f2,f3,f4,f5⟩:=bu.frz5;let⟨n5,n9,na,nd,nf,ng,nh⟩:=kX.cells6;have e8:=Ar bl;clear bl;go_wp2_with fail;exact cB (v:=.tuple #[L7 ⟨e1,e2,e3,e4,e5⟩,.int .i64 0]) (by simp[results,results57,go_sem,a1,a2,a3,a4,a5,L7,I1]) rfl ⟨by rw[HF.out],by have P:=e8.out;(repeat first|exact P|refine Ba ?_ (by dsimp only;omega))⟩
theorem Xw{f:Option Addr}(b:Bed4)(S:List Shp)(e:List Pt5)(sh:Int)(i:ShS w g y S)(c:PuS w f C e)(d:C<=1000:=by omega):Calls prog 57 #[Jw b,.slice g y a,.slice f C p,sh] w (Xg w (Gj b S e sh)):=by
 unfold Gj;by_cases h:(Gl b S e sh false 0).1=0
 .rw[if_neg (by simp[h])];exact Aey g f a p y C b S e sh w d i c h
 rw[if_pos h];exact yb g f a p y C b S e sh w d i c h
theorem OwP.pus(h:OwG 72 5 enP w a f e):∃A c,f=.slice A e.length c/\PuS w A e.length e:=by
 rcases OwG.form h with⟨rfl,rfl⟩|⟨g,d,rfl,q,r,s,t⟩
 .exact⟨none,0,rfl,rfl,.inl rfl⟩
 refine⟨_,d,rfl,rfl,.inr ⟨g,0,rfl,λk p=>?_⟩⟩;have b:e[k]? = some (pt e k):=by unfold pt;rw[List.getD,aW p];rfl
 have i:=OwG.cells h (k*5) aK;have j:=OwG.cells h (k*5+1) aK;have l:=OwG.cells h (k*5+2) aK;have m:=OwG.cells h (k*5+3) aK;have n:=OwG.cells h (k*5+4) aK;have o:=Bu Kl e k 0 _ b aK;rw[bU]at o;rw[o]at i;rw[Bu Kl e k 1 _ b aK]at j;rw[Bu Kl e k 2 _ b aK]at l;rw[Bu Kl e k 3 _ b aK]at m;rw[Bu Kl e k 4 _ b aK]at n;rw[dB];exact⟨i,j,l,m,n⟩
def Cp(b:Bed4)(S:List Shp)(a:List Int):Nat->Int×List Pt5
 | 0=>(0,[])
 | k+1=>if (Cp b S a k).1≠0 then Cp b S a k
   else if (Gj b S (Cp b S a k).2 (gi a k)).1≠0 then ((Gj b S (Cp b S a k).2 (gi a k)).1,[])
   else (0,(Cp b S a k).2++[(Gj b S (Cp b S a k).2 (gi a k)).2])
def Jz(b:Bed4)(S:List Shp)(a:List Int):Int×List Pt5:=if 60<a.length then (5,[]) else Cp b S a a.length
theorem ll(b:Cp h c u a=(x,[]))(d:x≠0):∀m,Cp h c u (a+m)=(x,[]):=by
 intro m;induction m with
 | zero=>exact b
 | succ m ih=>rw[<-cQ,Cp,if_pos (by rw[ih];exact d)];exact ih
theorem lj{b:Bed4}{S:List Shp}(k:Nat):(Cp b S os k).2.length<=k:=by
 induction k with
 | zero=>simp[Cp]
 | succ k ih =>
   rw[Cp];split
   .omega
   split
   .simp
   simp;omega
theorem Aj4:(prog.info? 72).map (λi=>(i.zero,i.size,i.bytes))=some (some (.agg #[.int .i64 0,.bool false,.int .i64 0,.int .i64 0,.int .i64 0]),5,40):=aN
def Aeh(w:World)(r:Int×List Pt5)(e:Ending)(a:World):Prop:=∃v,e=.returned (.tuple #[v,r.1])/\OwG 72 5 enP a w v r.2/\Be w a
theorem Ae8(K L:Option Addr)(V W R h:Nat)(b:Bed4)(S:List Shp)(f:List Int)(w:World)(Y:h<=9223372036854775807)(O:ShS w K R S)(D:InS w L h f):Calls prog 32 #[Jw b,.slice K R V,.slice L h W] w (Aeh w (Jz b S f)):=by
 have t:=Ar (Bf.new w 62 #[b.len,b.wid,b.rx,b.ry]);have d:=Ar (show Be w (w.alloc (.cells #[b.len,b.wid,b.rx,b.ry] 62)) from (Ao (aV _ _)));obtain⟨len,c,rx,j⟩:=b;unfold Jw;dsimp only at t d ⊢;have C:=D.1;by_cases y:60<h
 .have o:=Ar (show Jz ⟨len,c,rx,j⟩ S f=(5,[]) by unfold Jz;rw[C,if_pos y]);clear C;go_enter func32,ntmps32;go_wp2_with fail;exact bR ⟨_,by rw[o.out],by rw[o.out];exact OwG.nil,d.out⟩ rfl (by simp[results,results32,go_sem])
 have o:=Ar (show Jz ⟨len,c,rx,j⟩ S f=Cp ⟨len,c,rx,j⟩ S f h by unfold Jz;rw[C,if_neg y]);clear C;go_enter func32,ntmps32;go_wp2_with fail;refine Cu (λX=>Be w X/\Bf X w 62 #[len,c,rx,j]) ⟨d.out,t.out⟩ ?_;clear d t;rintro X ⟨d,t⟩;have z:=O.keep d;have E:=D.keep d;have U:=Ar t;clear O D t;go_loopw [8,18] (λv i wr=>∃k:Nat,k<=h/\i=k/\Hid ((Cp ⟨len,c,rx,j⟩ S f k).1=0)/\OwG 72 5 enP wr X v (Cp ⟨len,c,rx,j⟩ S f k).2/\Be X wr) λ_ i _=>h-(intOf i).toNat
 case atStart=>exact⟨0,aB,rfl,Ar rfl,OwG.nil,bl0⟩
 obtain⟨k,hk,rfl,Q,u,n⟩:=hrel;by_cases G:k<h
 .obtain⟨ba,oa,rfl,d1⟩:=(E.keep n).at_ G;have a:=Ar (show Cp ⟨len,c,rx,j⟩ S f (k+1)=_ by rw[Cp,if_neg (by rw[Q.out];simp)]);have A:=lj (b:=⟨len,c,rx,j⟩) (S:=S) (os:=f) k;let⟨s,B⟩:=gN ((Cp ⟨len,c,rx,j⟩ S f k).2)
  rw[B]at a A u;clear B;obtain⟨Ap,cp,rfl,p⟩:=OwP.pus u;let⟨r,I⟩:=gN (Gj ⟨len,c,rx,j⟩ S s (gi f k))
  rw[I]at a;have N:=Ar I;clear I;let⟨np,q⟩:=gN s.length
  rw[q]at p A u ⊢;have x:=Ar q;clear q;let⟨a1,a2,a3,a4,a5⟩:=(U.out.keep n).cells4;obtain⟨J,⟨Z,p2,p3,p4,p5⟩⟩:=r;dsimp only at a;by_cases m:J=0
  .subst m;rw[if_neg aL]at a
   go_wp2_with (first|(go_at_call 57;refine rR (Xw ⟨len,c,rx,j⟩ S s (gi f k) (z.keep n) p) λT g=>?_;rw[N.out];unfold L7;dsimp only)|(at_builtin;refine Co 68 rfl enP X 72 (.agg #[.int .i64 0,.bool false,.int .i64 0,.int .i64 0,.int .i64 0]) 5 40 underlying68 Aj4 Kl tg s (((u.keep g).alloc _).alloc _) (T+1) 1 ⟨Z,p2,p3,p4,p5⟩ 72 (Bf.new2 _ _ _ _) (hlen:=by rw[x.out];unfold maxLen;omega) (hbytes:=by rw[x.out];omega) (Ao (Ao (An n g))).size ?_;intro v' w2 H F P))
   exact aE ⟨Ar (by rw[a.out]),by rw[a.out];exact H,Bk (Ao (Ao (An n g))) (((u.keep g).alloc _).alloc _) F⟩
  have qo:(J != 0)=true:=by simpa using m
  rw[if_pos m]at a;have l:=ll a.out m (h-(k+1));rw[show k+1+(h-(k+1))=h by omega]at l;have M:=Ar l;clear l m
  go_wp2_with (go_at_call 57;refine rR (Xw ⟨len,c,rx,j⟩ S s (gi f k) (z.keep n) p) λT g=>?_;rw[N.out];unfold L7;dsimp only)
  exact bR ⟨_,by rw[o.out,M.out],by rw[o.out,M.out];exact OwG.nil,An d (Ao (An n g))⟩ rfl (by simp[results,results32,go_sem])
 obtain rfl:h=k:=aK
 go_wp2_with fail;exact bR ⟨_,by rw[o.out,Q.out],by rw[o.out];exact u.lower d.size,An d n⟩ rfl (by simp[results,results32,go_sem])
def Sr(f:Bool)(l:LP)(e:Int):Nat->Int
 | 0=>e
 | k+1=>if (f&&decide (k=0))=true\/Sr f l e k<(gt l k).1 then (gt l k).1 else Sr f l e k
def J4(S:List Shp)(a:List Pt5):Nat->Int×Int
 | 0=>(0,0)
 | k+1=>if (J4 S a k).1≠0 then J4 S a k
   else if (Br S (pt a k)).1≠0 then ((Br S (pt a k)).1,0)
   else (0,Sr (decide (k=0)) (Br S (pt a k)).2 (J4 S a k).2 (Br S (pt a k)).2.length)
def Vn(S:List Shp)(a:List Pt5):Int×Int:=J4 S a a.length
theorem s8(h:J4 c e a=(x,0))(b:x≠0):∀m,J4 c e (a+m)=(x,0):=by
 intro m;induction m with
 | zero=>exact h
 | succ m ih=>rw[<-cQ,J4,if_pos (by rw[ih];exact b)];exact ih
theorem gj(T U:Option Addr)(c1 c2 n1 d:Nat)(S:List Shp)(l:List Pt5)(b2:d<=1000000)(hS:ShS w T n1 S)(B:PuS w U d l):Calls prog 33 #[.slice T n1 c1,.slice U d c2] w (Bz w (.tuple #[(Vn S l).2,(Vn S l).1])):=by
 have W:=Ar (show Vn S l=J4 S l d by unfold Vn;rw[B.1]);go_in;go_wp2;go_loopw [6,15] (λv i wr=>∃k:Nat,k<=d/\i=k/\Hid ((J4 S l k).1=0)/\v=(J4 S l k).2/\Be w wr) λ_ i _=>d-(intOf i).toNat
 case atStart=>exact⟨0,aB,rfl,Ar rfl,rfl,bl0⟩
 obtain⟨k,hk,rfl,hz,rfl,A⟩:=hrel;by_cases Q:k<d
 .obtain⟨-,n⟩:=B.keep A;rcases n with h|⟨ba,oa,rfl,n⟩
  .omega
  let⟨X,Y,Z,d4,d5⟩:=n k Q;clear n;have b:=Ar (show J4 S l (k+1)=_ by rw[J4,if_neg (by rw[hz.out];simp)]);generalize hp:pt l k=p at X Y Z d4 d5 b;clear hp;obtain⟨H,I,J,K,L⟩:=p;dsimp only at X Y Z d4 d5;have u:=F9 S ⟨H,I,J,K,L⟩;generalize hr:Br S ⟨H,I,J,K,L⟩=r at b u;have V:=Ar hr;clear hr;obtain⟨R,r⟩:=r;dsimp only at b u;generalize P:(J4 S l k).2=x at b ⊢;clear P;by_cases g:R=0
  .subst g;rw[if_neg aL]at b;generalize F:r.length=G at b u;have M:=Ar F;clear F
   go_upto_region 8 with (go_at_call 17;refine aF (Cf S ⟨H,I,J,K,L⟩ (hS.keep (Ao A))) λw5 v5 q o=>?_;rw[V.out]at q ⊢;obtain⟨A5,c5,rfl,O,C,-⟩:=OwS.sps q;rw[M.out]at C O ⊢)
   have D:=An (Ao A) o;clear o q;go_wp2;go_loopw [6,31] (λv i wr=>∃j:Nat,j<=G/\i=j/\v=(Sr (decide (k=0)) r x j)/\Be w5 wr) λ_ i _=>G-(intOf i).toNat
   case atStart=>exact⟨0,aB,rfl,rfl,bl0⟩
   obtain⟨j,hj,rfl,rfl,c⟩:=hrel;by_cases E:j<G
   .obtain⟨bc,oc,rfl,a8,t⟩:=(C.keep c).at_ E;let⟨x1,x2⟩:=t j E;clear t;have a:Sr (decide (k=0)) r x (j+1)=if (decide (k=0)&&decide (j=0))=true\/Sr (decide (k=0)) r x j<(gt r j).1 then (gt r j).1 else Sr (decide (k=0)) r x j:=rfl
    by_cases s:k=0
    .have q0:((k:Int) == 0)=true:=by simp[s]
     by_cases y:j=0
     .have q1:((j:Int) == 0)=true:=by simp[y]
      rw[if_pos (by simp[s,y])] at a;have m:=Ar a;clear a s y;go_wp2;exact aE ⟨by rw[m.out],Ao c⟩
     have q1:((j:Int) == 0)=false:=aO
     by_cases z:Sr (decide (k=0)) r x j<(gt r j).1
     .rw[if_pos (.inr z)]at a;have m:=Ar a;clear a s y;go_wp2;exact aE ⟨by rw[m.out],Ao c⟩
     rw[if_neg (by simp[y];omega)] at a;have m:=Ar a;have N:=Int.not_lt.1 z;clear a s y;go_wp2;exact aE ⟨by rw[m.out],Ao c⟩
    have q0:((k:Int) == 0)=false:=aO
    by_cases z:Sr (decide (k=0)) r x j<(gt r j).1
    .rw[if_pos (.inr z)]at a;have m:=Ar a;clear a s;go_wp2;exact aE ⟨by rw[m.out],Ao c⟩
    rw[if_neg (by simp[s]at z ⊢;omega)] at a;have m:=Ar a;have N:=Int.not_lt.1 z;clear a s;go_wp2;exact aE ⟨by rw[m.out],Ao c⟩
   obtain rfl:G=j:=aK
   go_wp2;exact aE ⟨Ar (by rw[b.out]),by rw[b.out],An D c⟩
  have qo:(R != 0)=true:=by simpa using g
  rw[if_pos g]at b;have f:=s8 b.out g (d-(k+1));rw[show k+1+(d-(k+1))=d by omega]at f;have HF:=Ar f;clear f g
  go_wp2_with (go_at_call 17;refine aF (Cf S ⟨H,I,J,K,L⟩ (hS.keep (Ao A))) λw5 v5 q o=>?_;rw[V.out])
  exact cB (v:=.tuple #[.int .i64 0,R]) (by simp[results,results33,go_sem]) rfl ⟨by rw[W.out,HF.out],An (Ao A) o⟩
 obtain rfl:d=k:=aK
 go_wp2;exact cB (v:=.tuple #[(J4 S l d).2,.int .i64 0]) (by simp[results,results33,go_sem]) rfl ⟨by rw[W.out,hz.out],A⟩
theorem p9{a:Type}[DecidableEq a]{L b:List a}{d:a}:∀{k:Nat},k<=b.length->∀{x:a},x∈Bo L b d k->x∈L\/x∈b:=by
 intro k;induction k with
 | zero=>intro _ x h;exact .inl h
 | succ k ih =>
   intro c x h;rw[Bo]at h;split at h
   .exact ih aK h
   rcases bD.1 h with h|h
   .exact ih aK h
   simp at h;right;rw[h,aW aK];exact cY _
theorem Aah{a:Type}[DecidableEq a]{L b:List a}{d x:a}(h:x∈S9 L b d):x∈L\/x∈b:=p9 aA h
theorem gh(h:(List.range a).find? o=some p):p<a/\o p=true/\∀i,i<p->o i=false:=by
 let⟨b,c,d⟩:=List.find?_range_eq_some.1 h;exact⟨by simpa using c,b,λi e=>by simpa using d i e⟩
theorem Wi:∀{n:Nat},0<n->n<=l.length->Es l n∈l:=by
 intro n;induction n with
 | zero=>intro h;omega
 | succ k ih =>
   intro _ a;rw[Es];split
   .unfold ed;rw[List.getD,aW aK];exact cY _
   rename_i h;exact ih aK aK
theorem qs{pls:List LP}:∀{k:Nat} {b:End6},b∈(I0 h c e sh pls j k).2->Ha h c e b.put=0/\b.put.sh=sh:=by
 intro k;induction k with
 | zero=>intro b a;simp[I0]at a
 | succ k ih =>
   intro b a;rw[I0]at a;split at a
   .exact ih a
   split at a
   .simp at a
   split at a
   .simp at a
   split at a
   .exact ih a
   rename_i f d;rcases Aah a with a|a
   .exact ih a
   obtain rfl:=fQ.1 a;exact⟨by simpa[Wn,td] using (gh d).2.1,rfl⟩
theorem js(a:Gj h c e sh=(0,t)):Ha h c e t=0/\t.sh=sh:=by
 unfold Gj J8 at a
 repeat' split at a
 all_goals injection a with h1 h2
 all_goals first|contradiction|(subst h2;exact qs (Wi aK aA))
theorem sk(a:Ha h c e t=0):Gg h=false/\(Br c t).1=0/\so h c e t (shp c t.sh.toNat) (Br c t).2=0:=by
 unfold Ha at a;split at a
 .cases a
 rename_i d;split at a
 .rename_i b;exact absurd a b
 rename_i b;exact⟨by simpa using d,by simpa using b,a⟩
theorem yz:∀{k:Nat},(Cp h c u k).1=0->(Cp h c u k).2.length=k /\
 ∀i,i<k->(Cp h c u i)=(0,(Cp h c u k).2.take i)/\Gj h c ((Cp h c u k).2.take i) (gi u i)=(0,pt (Cp h c u k).2 i):=by
 intro k;induction k with
 | zero=>intro _;exact⟨rfl,λi o=>absurd o (by omega)⟩
 | succ k ih =>
   intro a;rw[Cp]at a;split at a
   .rename_i e;exact absurd a e
   rename_i e;have b:(Cp h c u k).1=0:=by simpa using e
   split at a
   .rename_i f;exact absurd a f
   rename_i f;have l:(Gj h c (Cp h c u k).2 (gi u k)).1=0:=by simpa using f
   let⟨d,n⟩:=ih b;have s:Cp h c u (k+1)=(0,(Cp h c u k).2++[(Gj h c (Cp h c u k).2 (gi u k)).2]):=by rw[Cp,if_neg e,if_neg f]
   have r:((Cp h c u k).2++[(Gj h c (Cp h c u k).2 (gi u k)).2]).length=k+1:=by rw[bA,d];rfl
   rw[s];refine⟨r,λi o=>?_⟩;by_cases m:i<k
   .obtain⟨p,q⟩:=n i m
    have g:(((Cp h c u k).2++[(Gj h c (Cp h c u k).2 (gi u k)).2]).take i)=(Cp h c u k).2.take i:=by
     rw[List.take_append_of_le_length (by omega)]
    have j:pt ((Cp h c u k).2++[(Gj h c (Cp h c u k).2 (gi u k)).2]) i=pt (Cp h c u k).2 i:=by
     unfold pt;rw[List.getD,List.getD,cF (by omega)]
    rw[g,j];exact⟨p,q⟩
   obtain rfl:i=k:=by omega
   have g:(((Cp h c u i).2++[(Gj h c (Cp h c u i).2 (gi u i)).2]).take i)=(Cp h c u i).2:=by
    rw[List.take_append_of_le_length (by omega),cW (by omega)]
   have j:pt ((Cp h c u i).2++[(Gj h c (Cp h c u i).2 (gi u i)).2]) i=(Gj h c (Cp h c u i).2 (gi u i)).2:=by
    unfold pt;rw[List.getD,cI (by omega),d,Nat.sub_self];rfl
   dsimp only;rw[g,j];refine⟨Prod.ext b rfl,Prod.ext l rfl⟩
theorem lh{b:Bed4}{S:List Shp}(h:(Jz b S os).1=0):os.length<=60/\Jz b S os=Cp b S os os.length/\(Jz b S os).2.length=os.length /\
 ∀i,i<os.length->Ha b S ((Jz b S os).2.take i) (pt (Jz b S os).2 i)=0/\(pt (Jz b S os).2 i).sh=gi os i:=by
 unfold Jz at h ⊢;split at h
 .cases h
 rename_i a;rw[if_neg a];let⟨c,d⟩:=yz h;exact⟨by omega,rfl,c,λi e=>js (d i e).2⟩
theorem Aba:∀{k:Nat},(∀i,i<k->(Br c (pt e i)).1=0)->(J4 c e k).1=0:=by
 intro k;induction k with
 | zero=>intro _;rfl
 | succ k ih =>
   intro h;have a:=ih λi b=>h i aK
   rw[J4,if_neg (by rw[a];simp),if_neg (by rw[h k aK];simp)]
theorem az{b:Bed4}{S:List Shp}(h:(Jz b S os).1=0):(Vn S (Jz b S os).2).1=0:=by
 let⟨_,_,a,c⟩:=lh h;unfold Vn;rw[a];exact Aba λi d=>(sk (c i d).1).2.1
structure PlcP where
 ga:Int
 us:Int
 cp:Int
 fl:Bool
 qu:Int
 x:Int
 y:Int
structure MkP where
 len:Int
 wid:Int
 rx:Int
 ry:Int
 sz:List Int
 pl:List PlcP
def plc(l:List PlcP)(k:Nat):PlcP:=l.getD k ⟨0,0,0,false,0,0,0⟩
def Qh(i:Nat)(a:Bool)(k:Nat):PlcP:=⟨0,(i:Int),(k:Int),a&&decide (k % 2=1),0,0,0⟩
def Fi(U:List UseP):Nat->List PlcP
 | 0=>[]
 | i+1=>Fi U i++(List.range (use U i).ct.toNat).map (Qh i (use U i).pr)
def Kq(s:StyleP):List PlcP:=if Bv s≠0 then [] else Fi s.us s.us.length
def Cg(s:StyleP)(u:Int):PieceP:=pce s.pc (use s.us u.toNat).pc.toNat
def Ii(s:StyleP)(z u:Int):List EdgeP×Int :=
 if Bv s≠0 then ([],Bv s) else if z<0\/(s.sz.length:Int)<=z\/u<0\/(s.us.length:Int)<=u then ([],3)
 else Ch (Cg s u) (gi s.mu z.toNat)
def J5(s:StyleP)(z u:Int):LP×Int:=if (Ii s z u).2≠0 then ([],(Ii s z u).2) else Ff (Ii s z u).1 (Cg s u).wd
def Rn(s:StyleP)(z u:Int):(Int×Int)×Int:=if (Ii s z u).2≠0 then ((0,0),(Ii s z u).2) else (gt (edg (Ii s z u).1 0).ln 0,0)
def Xm:Shp:=⟨[],0,false,(0,0)⟩
def Fq(s:StyleP)(z:Int)(c:PlcP):Shp×Int :=
 if (J5 s z c.us).2≠0 then (Xm,(J5 s z c.us).2) else if (Rn s z c.us).2≠0 then (Xm,(Rn s z c.us).2)
 else (⟨if c.fl then F6 true 0 (J5 s z c.us).1 else (J5 s z c.us).1,(Cg s c.us).gr,(Cg s c.us).mt,if c.fl then Cd true 0 (Rn s z c.us).1 else (Rn s z c.us).1⟩,0)
def Ts(c:PlcP)(j:Int):PlcP:=⟨j,c.us,c.cp,c.fl,c.qu,c.x,c.y⟩
def Hi(s:StyleP)(z j:Int)(C:List PlcP)(a:Int×List Shp×List PlcP):Nat->Int×List Shp×List PlcP
 | 0=>a
 | k+1=>if (Hi s z j C a k).1≠0 then Hi s z j C a k else if (Fq s z (plc C k)).2≠0 then ((Fq s z (plc C k)).2,[],[])
   else (0,(Hi s z j C a k).2.1++[(Fq s z (plc C k)).1],(Hi s z j C a k).2.2++[Ts (plc C k) j])
def Hc(s:StyleP)(Z:List Int)(C:List PlcP):Nat->Int×List Shp×List PlcP
 | 0=>(0,[],[])
 | j+1=>if (Hc s Z C j).1≠0 then Hc s Z C j else Hi s (gi Z j) j C (Hc s Z C j) C.length
def Bc(s:StyleP)(Z:List Int):Int×List Shp×List PlcP :=
 if Bv s≠0 then (Bv s,[],[]) else if Z.length<1\/6<Z.length then (3,[],[])
 else if Bp (λi=>decide (gi Z i<0) || decide ((s.sz.length:Int)<=gi Z i)) Z.length then (3,[],[])
 else if 60<(Kq s).length*Z.length then (5,[],[]) else Hc s Z (Kq s) Z.length
def Vh(l:LP):Int:=max (Qi l) (-(Qi l))
def Kk(f:Int->Int->Int)(l:List Int):Nat->List Int
 | 0=>l
 | j+1=>if f (gi l (j+1)) (gi l j)<0 then Kk f ((l.set (j+1) (gi l j)).set j (gi l (j+1))) j else l
def Jb(f:Int->Int->Int)(l:List Int):Nat->List Int
 | 0=>l
 | i+1=>Kk f (Jb f l i) i
def Ov(S:List Shp)(i k:Int):Int:=Vh (shp S k.toNat).poly-Vh (shp S i.toNat).poly
def No(S:List Shp):List Int:=Jb (Ov S) ((List.range S.length).map λi:Nat=>(i:Int)) S.length
def Alm(c:PlcP)(p:Pt5):PlcP:=⟨c.ga,c.us,c.cp,c.fl,p.qu,p.x,p.y⟩
def Hv(C:List PlcP)(P:List Pt5):Nat->List PlcP
 | 0=>C
 | k+1=>(Hv C P k).set (pt P k).sh.toNat (Alm (plc (Hv C P k) (pt P k).sh.toNat) (pt P k))
def Qa:MkP:=⟨0,0,0,0,[],[]⟩
def Hg(s:StyleP)(b:Bed4)(Z:List Int):Int×MkP :=
 if (Bc s Z).1≠0 then ((Bc s Z).1,Qa)
 else if (Jz b (Bc s Z).2.1 (No (Bc s Z).2.1)).1≠0 then ((Jz b (Bc s Z).2.1 (No (Bc s Z).2.1)).1,Qa)
 else if (Vn (Bc s Z).2.1 (Jz b (Bc s Z).2.1 (No (Bc s Z).2.1)).2).1≠0 then ((Vn (Bc s Z).2.1 (Jz b (Bc s Z).2.1 (No (Bc s Z).2.1)).2).1,Qa)
 else (0,⟨(Vn (Bc s Z).2.1 (Jz b (Bc s Z).2.1 (No (Bc s Z).2.1)).2).2,b.wid,b.rx,b.ry,Z,Hv (Bc s Z).2.2 (Jz b (Bc s Z).2.1 (No (Bc s Z).2.1)).2 (Jz b (Bc s Z).2.1 (No (Bc s Z).2.1)).2.length⟩)
def Ahm(c p:PlcP):Bool:=decide (c.ga=p.ga)&&decide (c.us=p.us)&&decide (c.cp=p.cp)
def Sf(C:List PlcP)(p:PlcP):Nat->Int
 | 0 => -1
 | k+1=>if Ahm (plc C k) p then (k:Int) else Sf C p k
def gbo(l:List Bool)(k:Nat):Bool:=l.getD k false
def Hh(C P:List PlcP):Nat->Int×List Bool×List Pt5
 | 0=>(0,List.replicate C.length false,[])
 | k+1=>if (Hh C P k).1≠0 then Hh C P k
   else if Sf C (plc P k) C.length<0 then (3,[],[])
   else if gbo (Hh C P k).2.1 (Sf C (plc P k) C.length).toNat then (7,[],[])
   else (0,(Hh C P k).2.1.set (Sf C (plc P k) C.length).toNat true,(Hh C P k).2.2++[⟨Sf C (plc P k) C.length,false,(plc P k).qu,(plc P k).x,(plc P k).y⟩])
def Zt(b:Bed4)(S:List Shp)(a:List Pt5):Int:=if 60<a.length then 5 else Fh (λi=>Ha b S (a.take i) (pt a i)) a.length
def uz(m:MkP):Bed4:=⟨m.len,m.wid,m.rx,m.ry⟩
def Akz(C:List PlcP)(S:List Shp)(m:MkP)(r:Int×List Bool×List Pt5):Int×List Shp×List Pt5 :=
 if r.1≠0 then (r.1,[],[]) else if Bp (λi=>!gbo r.2.1 i) C.length then (20,[],[])
 else if Bp (λi=>(plc m.pl i).fl != (plc C (pt r.2.2 i).sh.toNat).fl) m.pl.length then (12,[],[])
 else if Zt (uz m) S r.2.2≠0 then (Zt (uz m) S r.2.2,[],[]) else (0,S,r.2.2)
def J6(s:StyleP)(m:MkP):Int×List Shp×List Pt5 :=
 if (Bc s m.sz).1≠0 then ((Bc s m.sz).1,[],[]) else Akz (Bc s m.sz).2.2 (Bc s m.sz).2.1 m (Hh (Bc s m.sz).2.2 m.pl m.pl.length)
def Ig(S:List Shp)(a:List Pt5):Nat->Int×List LP
 | 0=>(0,[])
 | k+1=>if (Ig S a k).1≠0 then Ig S a k else if (Br S (pt a k)).1≠0 then ((Br S (pt a k)).1,[]) else (0,(Ig S a k).2++[(Br S (pt a k)).2])
def J1(s:StyleP)(m:MkP):Int×List LP:=if (J6 s m).1≠0 then ((J6 s m).1,[]) else Ig (J6 s m).2.1 (J6 s m).2.2 (J6 s m).2.2.length
def I4(l:List LP):Nat->Int
 | 0=>0
 | k+1=>I4 l k+Vh (lt_ l k)
def xo(s:StyleP)(m:MkP):Int×Int:=if (J1 s m).1≠0 then (0,(J1 s m).1) else (I4 (J1 s m).2 (J1 s m).2.length,0)
def Ayb(S:List Shp)(p q:Pt5):Prop:=Gm (Br S p).2 (Br S q).2=(false,0)
theorem gd{S:List Shp}{r:LP}{ps:List Pt5}:∀k,J3 S r ps k=0↔∀j,j<k->(Br S (pt ps j)).1=0/\Gm (Br S (pt ps j)).2 r=(false,0)
 | 0=>by simp[J3]
 | k+1=>by
   have ih:=gd (S:=S) (r:=r) (ps:=ps) k;rw[J3];constructor
   .intro h;split at h
    .rename_i g;exact absurd h g
    rename_i b;split at h
    .rename_i g;exact absurd h g
    rename_i c;split at h
    .rename_i g;exact absurd h g
    rename_i d;split at h
    .cases h
    rename_i e;intro j f;rcases bG j k with a|a
    .exact(ih.1 (by simpa using b)) j a
    obtain rfl:j=k:=by omega
    exact⟨by simpa using c,Prod.ext (by simpa using e) (by simpa using d)⟩
   intro h;rw[if_neg (by rw[ih.2 λj f=>h j (by omega)];simp),if_neg (by rw[(h k (by omega)).1];simp),(h k (by omega)).2];simp
theorem As6:Ha h c e t=0↔Ha h c [] t=0/\∀j,j<e.length->(Br c (pt e j)).1=0/\Ayb c (pt e j) t:=by
 unfold Ha Ayb;by_cases d:Gg h=true
 .simp[d]
 rw[if_neg d,if_neg d];by_cases b:(Br c t).1≠0
 .rw[if_pos b,if_pos b];exact⟨λa=>absurd a b,λa=>a.1⟩
 rw[if_neg b,if_neg b];unfold so;by_cases f:Acf (shp c t.sh.toNat).grain false t.fl t.qu=false
 .simp[f]
 rw[if_neg f,if_neg f];by_cases g:Bp (λi=>Ou h (gt (Br c t).2 i)) (Br c t).2.length=true
 .simp[g]
 rw[if_neg g,if_neg g];by_cases k:((shp c t.sh.toNat).mat&&!Aaj h.rx h.ry (shp c t.sh.toNat).anc t)=true
 .simp[k]
 rw[if_neg k,if_neg k,gd];exact⟨λa=>⟨rfl,a⟩,λa=>a.2⟩
theorem Afd(h:p<a):pt (e.take a) p=pt e p:=by
 unfold pt;simp[List.getD,h]
theorem Art(h:a<e.length):pt e a=e[a]:=by
 unfold pt;rw[List.getD,aW h];rfl
theorem Ax4:Zt h c e=0↔e.length<=60/\(∀p∈e,Ha h c [] p=0)/\e.Pairwise (Ayb c):=by
 unfold Zt;by_cases d:60<e.length
 .rw[if_pos d];exact⟨λl=>by omega,λl=>by omega⟩
 rw[if_neg d,Ph];have o:∀i,i<e.length->(e.take i).length=i:=λi f=>by rw[bC];omega
 constructor
 .intro l;refine⟨aK,λp q=>?_,?_⟩
  .obtain⟨i,f,rfl⟩:=List.mem_iff_getElem.1 q;have:=(As6.1 (l i f)).1
   rwa [Art f] at this
  rw[List.pairwise_iff_getElem];intro i j f a g;have:=(As6.1 (l j a)).2 i (by rw[o j a];exact g);rw[Afd g,Art f,Art a]at this;exact this.2
 rintro⟨_,m,n⟩ k hk;rw[As6,Art hk];refine⟨m _ (cY hk),λj a=>?_⟩;rw[o k hk]at a;have b:j<e.length:=aK
 rw[Afd a,Art b];refine⟨(sk (m _ (cY b))).2.1,?_⟩;rw[List.pairwise_iff_getElem]at n;exact n j k b hk a
def kI(C:List PlcP)(p:PlcP):Int:=Sf C p C.length
def Al9(C:List PlcP)(p:PlcP):Pt5:=⟨kI C p,false,p.qu,p.x,p.y⟩
theorem Wk(C:List PlcP)(p:PlcP):∀n,Sf C p n<n
 | 0=>by simp[Sf]
 | n+1=>by
   rw[Sf];have:=Wk C p n;split<;>omega
theorem nu{P:List PlcP}(h:a<P.length):plc P a=P[a]:=by
 unfold plc;rw[List.getD,aW h];rfl
theorem Agh{l:List Bool}(h:a<l.length):gbo (l.set a true) p=if a=p then true else gbo l p:=by
 unfold gbo;rw[List.getD,List.getD,fU];by_cases e:a=p
 .subst e;simp[h]
 simp[e]
theorem Xu{P:List PlcP}(h:a<P.length:=by omega):P.take (a+1)=P.take a++[plc P a]:=by
 rw[cG h,nu h]
theorem S5{C P:List PlcP}:∀k,k<=P.length->(Hh C P k).1=0->(∀p∈P.take k,0<=kI C p)/\((P.take k).map (kI C)).Nodup/\(Hh C P k).2.2=(P.take k).map (Al9 C)/\(Hh C P k).2.1.length=C.length/\∀t:Nat,(gbo (Hh C P k).2.1 t=true↔(t:Int)∈(P.take k).map (kI C))
 | 0,_,_=>by
   refine⟨by simp,by simp,by simp[Hh],by simp[Hh],λt=>?_⟩;unfold Hh gbo;simp[List.getD,fA];split<;>simp
 | k+1,hk,h=>by
   have ih:=S5 (C:=C) (P:=P) k (by omega);rw[Hh]at h ⊢;split at h
   .rename_i g;exact absurd h g
   rename_i i;let⟨s,u,v,m,n⟩:=ih (by simpa using i);rw[if_neg i];split at h
   .cases h
   rename_i o;rw[if_neg o];split at h
   .cases h
   rename_i j;rw[if_neg j,Xu];have f:(Sf C (plc P k) C.length).toNat<(Hh C P k).2.1.length:=by rw[m];have:=Wk C (plc P k) C.length;omega
   have d:¬kI C (plc P k)∈(P.take k).map (kI C):=by
    intro r
    have:=(n (Sf C (plc P k) C.length).toNat).2 (by
     have e:(((Sf C (plc P k) C.length).toNat:Nat):Int)=kI C (plc P k):=by unfold kI;omega
     rw[e];exact r)
    exact j this
   refine⟨λp c=>?_,?_,?_,?_,λt=>?_⟩
   .rcases bD.1 c with c|c
    .exact s p c
    simp at c;subst c;unfold kI;omega
   .rw[List.map_append,List.nodup_append];exact⟨u,by simp,λa q b l e=>by simp at l;subst l;exact d (e ▸ q)⟩
   .rw[v,List.map_append];rfl
   .rw[cD];exact m
   dsimp only;rw[Agh f,List.map_append,bD];by_cases e:(Sf C (plc P k) C.length).toNat=t
   .rw[if_pos e];have:(t:Int)=kI C (plc P k):=by unfold kI;omega
    simp[this]
   rw[if_neg e,n t];have:¬(t:Int)=kI C (plc P k):=by unfold kI;omega
   simp[this]
theorem Aub{C P:List PlcP}:∀k,k<=P.length->(∀p∈P.take k,0<=kI C p)->((P.take k).map (kI C)).Nodup->(Hh C P k).1=0
 | 0,_,_,_=>rfl
 | k+1,hk,h1,h2=>by
   rw[Xu]at h1 h2;rw[List.map_append,List.nodup_append]at h2;have b:=Aub (C:=C) (P:=P) k (by omega) (λp f=>h1 p (List.mem_append_left _ f)) h2.1;let⟨_,_,_,h,g⟩:=S5 k (by omega) b;have a:=h1 (plc P k) (by simp);rw[Hh,if_neg (by rw[b];simp),if_neg (by unfold kI at a;omega)];rw[if_neg];intro d;have c:=(g _).1 d;have e:(((Sf C (plc P k) C.length).toNat:Nat):Int)=kI C (plc P k):=by unfold kI at *;omega
   rw[e]at c;exact h2.2.2 _ c _ (by simp) rfl
def Ay0(C:List PlcP)(S:List Shp)(b:Bed4)(P:List PlcP):Prop :=
 (∀p∈P,0<=kI C p)/\(P.map (kI C)).Nodup/\(∀t,t<C.length->(t:Int)∈P.map (kI C))/\(∀p∈P,p.fl=(plc C (kI C p).toNat).fl)/\Zt b S (P.map (Al9 C))=0
theorem Aw7{C:List PlcP}{m:MkP}:(Akz C c m (Hh C m.pl m.pl.length)).1=0↔Ay0 C c (uz m) m.pl:=by
 unfold Akz Ay0;have l:m.pl.take m.pl.length=m.pl:=dR;constructor
 .intro h;split at h
  .rename_i g;exact absurd h g
  rename_i v;obtain⟨s,u,b,F,j⟩:=S5 m.pl.length aA (by simpa using v);rw[l]at s u b j;split at h
  .cases h
  rename_i w;split at h
  .cases h
  rename_i o;split at h
  .rename_i g;exact absurd h g
  rename_i q;rw[b]at o q;refine⟨s,u,λt E=>?_,λp D=>?_,by simpa using q⟩
  .rw[<-j];cases hg:gbo (Hh C m.pl m.pl.length).2.1 t with
   | true=>rfl
   | false=>exact absurd (Bp.yes (f:=λi=>!gbo (Hh C m.pl m.pl.length).2.1 i) E (by rw[hg];rfl)) w
  obtain⟨i,a,rfl⟩:=List.mem_iff_getElem.1 D;apply bT;intro n;refine o (Bp.yes (k:=i) a ?_);have e:pt (m.pl.map (Al9 C)) i=Al9 C m.pl[i]:=by rw[Art (by simpa using a)];simp
  rw[e,nu a];simpa[Al9] using n
 rintro⟨x,y,z,A,B⟩;have r:=Aub (C:=C) (P:=m.pl) m.pl.length aA (by rw[l];exact x) (by rw[l];exact y);obtain⟨_,_,b,F,j⟩:=S5 m.pl.length aA r;rw[l]at b j;rw[if_neg (by rw[r];simp),if_neg,if_neg,if_neg]
 .rw[b,B];simp
 .intro h;obtain⟨i,a,d⟩:=Bp.iff.1 h;rw[b]at d;have e:pt (m.pl.map (Al9 C)) i=Al9 C m.pl[i]:=by rw[Art (by simpa using a)];simp
  rw[e,nu a]at d;have:=A _ (cY a);simp[Al9,this]at d
 intro h;obtain⟨i,a,d⟩:=Bp.iff.1 h;have:=(j i).2 (z i a);simp[this]at d
def kt(c:PlcP):Int×Int×Int:=(c.ga,c.us,c.cp)
theorem Y8{c p:PlcP}:Ahm c p=true↔kt c=kt p:=by
 unfold Ahm kt;simp[and_assoc]
theorem q8(C:List PlcP)(p:PlcP):∀n,(Sf C p n = -1/\∀t,t<n->Ahm (plc C t) p=false)\/∃k:Nat,Sf C p n=k/\k<n/\Ahm (plc C k) p=true
 | 0=>.inl ⟨rfl,λt d=>by omega⟩
 | n+1=>by
   rw[Sf];by_cases h:Ahm (plc C n) p=true
   .rw[if_pos h];exact .inr ⟨n,rfl,by omega,h⟩
   rw[if_neg h];rcases q8 C p n with⟨a,b⟩|⟨k,a,b,c⟩
   .refine .inl ⟨a,λt d=>?_⟩;rcases bG t n with g|g
    .exact b t g
    obtain rfl:t=n:=by omega
    simpa using h
   exact .inr ⟨k,a,by omega,c⟩
theorem Ayz{C:List PlcP}(j:(C.map kt).Nodup){p:PlcP}(d:a<C.length)(f:kt p=kt (plc C a)):kI C p=a:=by
 unfold kI;rcases q8 C p C.length with⟨_,b⟩|⟨k,h,b,i⟩
 .have:=b a d;rw[Y8.2 f.symm]at this;cases this
 rw[h];have e:=Y8.1 i;rw[f,nu b,nu d]at e;have c:=List.pairwise_iff_getElem.1 j;rcases fV k a with g|g|g
 .exact absurd (by rw[List.getElem_map,List.getElem_map];exact e) (c k a (by simpa using b) (by simpa using d) g)
 .omega
 exact absurd (by rw[List.getElem_map,List.getElem_map];exact e.symm) (c a k (by simpa using d) (by simpa using b) g)
theorem Rg(U:List UseP):∀i,((Fi U i).map kt).Nodup/\∀c∈Fi U i,0<=c.us/\c.us<i
 | 0=>by simp[Fi]
 | i+1=>by
   let⟨j,h⟩:=Rg U i;rw[Fi];refine⟨?_,λc f=>?_⟩
   .rw[List.map_append,List.nodup_append];refine⟨j,?_,λa l b m e=>?_⟩
    .rw[List.map_map];refine List.Pairwise.map _ ?_ List.nodup_range;intro a b g e;have:=eB (λz=>z.2.2) e;simp[kt,Qh]at this;exact g (by omega)
    subst e;obtain⟨c,f,rfl⟩:=List.mem_map.1 l;let⟨d,n,e⟩:=List.mem_map.1 m;obtain⟨k,_,rfl⟩:=List.mem_map.1 n;have:=eB (λz=>z.2.1) e;simp[kt,Qh]at this;have:=(h c f).2;omega
   rcases bD.1 f with f|f
   .have:=h c f;omega
   obtain⟨k,_,rfl⟩:=List.mem_map.1 f;unfold Qh;dsimp only;omega
theorem Av4(s:StyleP):((Kq s).map kt).Nodup:=by
 unfold Kq;split
 .simp
 exact(Rg _ _).1
def Sn(C:List PlcP):Nat->List PlcP
 | 0=>[]
 | j+1=>Sn C j++C.map (Ts · (j:Int))
theorem Aup(U:List UseP):∀i,∀c∈Fi U i,c.ga=0
 | 0=>by simp[Fi]
 | i+1=>by
   rw[Fi];intro c a;rcases bD.1 a with a|a
   .exact Aup U i c a
   obtain⟨k,_,rfl⟩:=List.mem_map.1 a;rfl
theorem Ax3(s:StyleP):∀c∈Kq s,c.ga=0:=by
 unfold Kq;split
 .simp
 exact Aup _ _
theorem Ast{C:List PlcP}(q:(C.map kt).Nodup)(g:∀c∈C,c.ga=0):∀j,((Sn C j).map kt).Nodup/\∀c∈Sn C j,c.ga<j
 | 0=>by simp[Sn]
 | j+1=>by
   let⟨r,p⟩:=Ast q g j;rw[Sn];refine⟨?_,λc f=>?_⟩
   .rw[List.map_append,List.nodup_append];refine⟨r,?_,λa i b m e=>?_⟩
    .rw[List.map_map];have h:C.Pairwise λa b=>kt a≠kt b:=List.pairwise_map.1 q
     refine List.pairwise_map.2 (List.Pairwise.imp_of_mem ?_ h);intro a b i m l e;refine l ?_;have n:=eB (λz=>z.2.1) e;have o:=eB (λz=>z.2.2) e;simp[kt,Ts]at n o;unfold kt;rw[g a i,g b m,n,o]
    subst e;obtain⟨c,f,rfl⟩:=List.mem_map.1 i;let⟨d,s,e⟩:=List.mem_map.1 m;obtain⟨k,_,rfl⟩:=List.mem_map.1 s;have:=eB (λz=>z.1) e;simp[kt,Ts]at this;have:=p c f;omega
   rcases bD.1 f with f|f
   .have:=p c f;omega
   obtain⟨k,_,rfl⟩:=List.mem_map.1 f;unfold Ts;dsimp only;omega
theorem V5{s:StyleP}{z j:Int}{C:List PlcP}{a:Int×List Shp×List PlcP}:∀k,k<=C.length->(Hi s z j C a k).1=0 ->
 a.1=0/\(∀c∈C.take k,(Fq s z c).2=0)/\Hi s z j C a k=(0,a.2.1++(C.take k).map λc=>(Fq s z c).1,a.2.2++(C.take k).map (Ts · j))
 | 0,_,h=>by
   refine⟨h,by simp,?_⟩;simp[Hi];exact Prod.ext h rfl
 | k+1,hk,h=>by
   rw[Hi]at h ⊢;split at h
   .rename_i g;exact absurd h g
   rename_i d;let⟨f,i,l⟩:=V5 (s:=s) (z:=z) (j:=j) (C:=C) (a:=a) k (by omega) (by simpa using d);split at h
   .rename_i g;exact absurd h g
   rename_i e;rw[if_neg d,if_neg e,l,Xu];refine⟨f,λc b=>?_,by simp⟩;rcases bD.1 b with b|b
   .exact i c b
   simp at b;subst b;simpa using e
def ie(s:StyleP)(Z:List Int)(C:List PlcP):Nat->List Shp
 | 0=>[]
 | j+1=>ie s Z C j++C.map (λc=>(Fq s (gi Z j) c).1)
theorem Vy{s:StyleP}{Z:List Int}{C:List PlcP}:∀j,(Hc s Z C j).1=0->Hc s Z C j=(0,ie s Z C j,Sn C j)/\∀i,i<j->∀c∈C,(Fq s (gi Z i) c).2=0
 | 0,_=>⟨rfl,λi l=>by omega⟩
 | j+1,h=>by
   rw[Hc]at h ⊢;split at h
   .rename_i g;exact absurd h g
   rename_i a;let⟨f,k⟩:=Vy (s:=s) (Z:=Z) (C:=C) j (by simpa using a);let⟨_,b,d⟩:=V5 C.length aA h;rw[dR]at b d;rw[if_neg a,d,f];refine⟨rfl,λi l c e=>?_⟩;rcases bG i j with g|g
   .exact k i g c e
   obtain rfl:i=j:=by omega
   exact b c e
theorem Pf(C:List PlcP):∀j,(Sn C j).length=j*C.length
 | 0=>by simp[Sn]
 | j+1=>by rw[Sn,bA,Pf C j,List.length_map,cN];omega
theorem Lp(s:StyleP)(Z:List Int)(C:List PlcP):∀j,(ie s Z C j).length=j*C.length
 | 0=>by simp[ie]
 | j+1=>by rw[ie,bA,Lp s Z C j,List.length_map,cN];omega
theorem Kz{s:StyleP}(h:(Bc s Z).1=0):Bc s Z=(0,ie s Z (Kq s) Z.length,Sn (Kq s) Z.length)/\Bv s=0/\1<=Z.length/\Z.length<=6 /\
 (∀i,i<Z.length->0<=gi Z i/\gi Z i<s.sz.length)/\(Kq s).length*Z.length<=60/\∀i,i<Z.length->∀c∈Kq s,(Fq s (gi Z i) c).2=0:=by
 unfold Bc at h ⊢;split at h
 .rename_i g;exact absurd h g
 rename_i a;split at h
 .cases h
 rename_i d;split at h
 .cases h
 rename_i b;split at h
 .cases h
 rename_i e;rw[if_neg a,if_neg d,if_neg b,if_neg e];let⟨j,k⟩:=Vy _ h;refine⟨j,by simpa using a,by omega,by omega,λi l=>?_,by omega,k⟩;cases hb:(decide (gi Z i<0) || decide ((s.sz.length:Int)<=gi Z i)) with
 | true=>exact absurd (Bp.yes (f:=λi=>decide (gi Z i<0) || decide ((s.sz.length:Int)<=gi Z i)) l hb) b
 | false=>simp at hb;omega
theorem Atu{s:StyleP}(h:(Bc s Z).1=0):((Bc s Z).2.2.map kt).Nodup:=by
 rw[(Kz h).1];exact(Ast (Av4 s) (Ax3 s) _).1
theorem Q9{C:List PlcP}{P:List Pt5}:∀k,(Hv C P k).length=C.length/\∀i,i<C.length->kt (plc (Hv C P k) i)=kt (plc C i)/\(plc (Hv C P k) i).fl=(plc C i).fl
 | 0=>⟨rfl,λ_ _=>⟨rfl,rfl⟩⟩
 | k+1=>by
   let⟨c,a⟩:=Q9 (C:=C) (P:=P) k;rw[Hv];refine⟨by rw[cD,c],λi b=>?_⟩
   have e:plc ((Hv C P k).set (pt P k).sh.toNat (Alm (plc (Hv C P k) (pt P k).sh.toNat) (pt P k))) i=if (pt P k).sh.toNat=i then Alm (plc (Hv C P k) (pt P k).sh.toNat) (pt P k) else plc (Hv C P k) i:=by
    unfold plc;rw[List.getD,List.getD,fU];by_cases g:(pt P k).sh.toNat=i
    .rw[if_pos g,if_pos g,if_pos (by omega)];rfl
    rw[if_neg g,if_neg g];rfl
   rw[e];by_cases g:(pt P k).sh.toNat=i
   .rw[if_pos g,g];exact a i b
   rw[if_neg g];exact a i b
def xi(c:PlcP):List Value:=[c.ga,c.us,c.cp,.bool c.fl,c.qu,c.x,c.y]
theorem Zi(c:PlcP):(xi c).length=7:=rfl
theorem Abg(c:PlcP):∀u∈xi c,u.oneCell'=true:=by
 intro u a;simp[xi]at a;rcases a with rfl|rfl|rfl|rfl|rfl|rfl|rfl<;>rfl
theorem Aj3:(prog.info? 67).map (λi=>(i.zero,i.size,i.bytes))=some (some (.agg #[.int .i64 0,.int .i64 0,.int .i64 0,.bool false,.int .i64 0,.int .i64 0,.int .i64 0]),7,56):=aN
def Tb(w:World)(a:Nat)(v:Value)(l:List PlcP):Prop:=OwG 67 7 xi w a v l
def Ak6(w:World)(b o:Nat)(c:PlcP):Prop:=Cq w b o c.ga/\Cq w b (o+1) c.us/\Cq w b (o+2) c.cp/\Cq w b (o+3) (.bool c.fl)/\Cq w b (o+4) c.qu/\Cq w b (o+5) c.x/\Cq w b (o+6) c.y
def PlS(w:World)(A:Option Addr)(n:Nat)(l:List PlcP):Prop:=l.length=n/\(n=0\/∃b a,A=some ⟨b,a,none⟩/\∀k,k<n->Ak6 w b (a+k*7) (plc l k))
theorem Ak6.keep{c:PlcP}(h:Ak6 w a p c)(d:Be w b):Ak6 b a p c:=⟨Aq d h.1,Aq d h.2.1,Aq d h.2.2.1,Aq d h.2.2.2.1,Aq d h.2.2.2.2.1,Aq d h.2.2.2.2.2.1,Aq d h.2.2.2.2.2.2⟩
theorem PlS.keep{l:List PlcP}(h:PlS w g a l)(f:Be w b):PlS b g a l:=by
 refine⟨h.1,?_⟩;rcases h.2 with c|⟨e,d,rfl,c⟩
 .exact .inl c
 exact .inr ⟨e,d,rfl,λk i=>(c k i).keep f⟩
theorem PlS.at_{l:List PlcP}(h:PlS w g a l){k:Nat}(e:k<a):∃b c,g=some ⟨b,c,none⟩/\∀k,k<a->Ak6 w b (c+k*7) (plc l k):=by
 rcases h.2 with d|⟨b,c,rfl,d⟩
 .omega
 exact⟨b,c,rfl,d⟩
theorem zl{l:List PlcP}(h:a<l.length):l[a]? = some (plc l a):=by
 unfold plc;rw[List.getD,aW h];rfl
theorem Tb.cells{l:List PlcP}(h:Tb w a (.slice (some ⟨p,0,none⟩) C y) l)(e:l.length=C){k:Nat}(d:k<C):Ak6 w p (k*7) (plc l k):=by
 subst e
 have c:∀j,j<7->w.cell? ⟨p,k*7+j,none⟩=(xi (plc l k))[j]? := λj b=>by
  rw[OwG.cells h (k*7+j) aK,Bu Zi l k j _ (zl d) b]
 exact⟨(c 0 aK).trans rfl,(c 1 aK).trans rfl,(c 2 aK).trans rfl,(c 3 aK).trans rfl,(c 4 aK).trans rfl,(c 5 aK).trans rfl,(c 6 aK).trans rfl⟩
theorem Tb.pls{l:List PlcP}(h:Tb w a f l):∃A c,f=.slice A l.length c/\l.length<=c/\c<=9223372036854775807/\PlS w A l.length l:=by
 rcases OwG.form h with⟨rfl,rfl⟩|⟨g,b,rfl,j,m,e,d⟩
 .exact⟨none,0,rfl,aA,aK,rfl,.inl rfl⟩
 exact⟨_,b,rfl,e,by unfold maxLen at d;exact d,rfl,.inr ⟨g,0,rfl,λk i=>by rw[dB];exact Tb.cells h rfl i⟩⟩
theorem Eu{j:Array Oper}{b:List Oper}{o:Oper}{x:Operand}
 (u:o.op=.call { callee:=.builtin .append,args:=#[z,x],argTypes:=#[32,32] })
 (a:Nat)  (l:List PlcP)  (i:Tb w a f l)
 (m c:Nat) (p:PlcP) (tb:TypeId)  (g:Bf w m tb #[p.ga,p.us,p.cp,.bool p.fl,p.qu,p.x,p.y])
 (r:l.length<=1000000) (d:a<=w.heap.size)
 (h:∀k q,Tb q a k (l++[p])->w.grownBy q f.ownBlock->(k.ownBlock=f.ownBlock\/k.ownBlock=some w)->wpList prog j n b (B.put o.dst k) q)  (e:o.guard=none:=by rfl) (s:B.eval z=f:=by rfl) (t:B.eval x=.slice (some ⟨m,0,none⟩) 1 c:=by rfl) :
 wpList prog j n (o::b) B w :=
 Co (hgd:=e) (s:=z) (x:=x) 32 u xi a 67 (.agg #[.int .i64 0,.int .i64 0,.int .i64 0,.bool false,.int .i64 0,.int .i64 0,.int .i64 0]) 7 56 underlying32 Aj3 Zi Abg (v:=f) l (hs:=s) i m c p tb (hx:=t) g d h
structure ShX where
 A:Option Addr
 n:Nat
 c:Nat
 gr:Int
 mt:Bool
 ax:Int
 ay:Int
def Abf(x:ShX):List Value:=[.slice x.A x.n x.c,x.gr,.bool x.mt,x.ax,x.ay]
theorem Zh(x:ShX):(Abf x).length=5:=rfl
theorem Abe{x:ShX}:∀u∈Abf x,u.oneCell'=true:=by
 intro u a;simp[Abf]at a;rcases a with rfl|rfl|rfl|rfl|rfl<;>rfl
theorem Aj0:(prog.info? 85).map (λi=>(i.zero,i.size,i.bytes))=some (some (.agg #[.slice none 0 0,.int .i64 0,.bool false,.int .i64 0,.int .i64 0]),5,56):=aN
def ShV(w:World)(a:Nat)(x:ShX)(s:Shp):Prop:=x.gr=s.grain/\x.mt=s.mat/\x.ax=s.anc.1/\x.ay=s.anc.2/\ElS w a (.slice x.A x.n x.c) s.poly/\x.c<=9223372036854775807
theorem ShV.keep{x:ShX}(h:ShV w base x m)(a:Be w b):ShV b base x m:=⟨h.1,h.2.1,h.2.2.1,h.2.2.2.1,h.2.2.2.2.1.keep a,h.2.2.2.2.2⟩
def Vj(w:World)(a:Nat)(v:Value)(S:List Shp):Prop :=
 ∃b:List ShX,OwG 85 5 Abf w a v b/\b.length=S.length/\∀(i:Nat) (x:ShX),b[i]? = some x->ShV w a x (shp S i)
theorem Vj.nil:Vj w a (.slice none 0 0) []:=⟨[],OwG.nil,rfl,aL⟩
theorem Vj.keep(h:Vj w base f c)(a:Be w b):Vj b base f c:=by
 obtain⟨k,d,e,g⟩:=h;exact⟨k,d.keep a,e,λi x j=>(g i x j).keep a⟩
theorem Vj.lower(h:Vj w a f c)(e:base'<=a):Vj w base' f c:=by
 obtain⟨k,g,j,b⟩:=h;exact⟨k,g.lower e,j,λi x d=>⟨(b i x d).1,(b i x d).2.1,(b i x d).2.2.1,(b i x d).2.2.2.1,(b i x d).2.2.2.2.1.lower e,(b i x d).2.2.2.2.2⟩⟩
theorem Vj.own(h:Vj w a f c):∃b:List ShX,OwG 85 5 Abf w a f b:=by
 obtain⟨b,d,-⟩:=h;exact⟨b,d⟩
theorem Vj.shs(h:Vj w a f c)(O:c.length<=1000000):∃A b,f=.slice A c.length b/\c.length<=b/\b<=9223372036854775807/\ShS w A c.length c:=by
 obtain⟨m,v,d,F⟩:=h;rcases OwG.form v with⟨rfl,rfl⟩|⟨g,e,rfl,L,M,E,t⟩
 .have:c=[]:=bL (by rw[<-d];rfl);subst this;exact⟨none,0,rfl,aA,aK,rfl,aL,.inl rfl⟩
 refine⟨_,e,by rw[<-d],by rw[<-d];exact E,by unfold maxLen at t;exact t,rfl,aK,.inr ⟨g,0,rfl,λk H=>?_⟩⟩;have l:k<m.length:=by rw[d];exact H
 let⟨x,y⟩:∃u,m[k]? = some u:=⟨_,aW l⟩
 have b:∀j,j<5->w.cell? ⟨g,k*5+j,none⟩=(Abf x)[j]? := λj G=>by
  rw[OwG.cells v (k*5+j) aK,Bu Zh m k j _ y G]
 obtain⟨n,o,p,q,⟨A,K,r,B,C,D,-⟩,s⟩:=F k x y;obtain⟨z,Q,i,N,P,I,J⟩:=x;dsimp only at n o p q r s;injection r with q1 q2 q3
 subst q1 q2 q3;rw[dB];exact⟨z,i,(b 0 aK).trans rfl,B,s,C,D,(b 1 aK).trans (by rw[<-n];rfl),(b 2 aK).trans (by rw[<-o];rfl),(b 3 aK).trans (by rw[<-p];rfl),(b 4 aK).trans (by rw[<-q];rfl)⟩
theorem OwG.apart{q r:Type}{n:TypeId}{v:q->List Value}{e:r->List Value}{o:Value}{l:List q}{B:List r}(h:OwG k a v w y f l)(z:OwG n p e w C o B)(i:k≠n):f.ownBlock=none\/f.ownBlock≠o.ownBlock:=by
 rcases h.2 with⟨d,_⟩|⟨g,s,t,d,_,A,_⟩
 .left;rw[d];rfl
 right;rcases z.2 with⟨c,_⟩|⟨x,j,m,c,_,b,_⟩
 .rw[d,c];simp[Value.ownBlock]
 rw[d,c];intro u;have:g=x:=by simpa[Value.ownBlock] using u
 subst this;rw[A]at b;injection b with b
 injection b with _ ht
 exact i ht
theorem OwG.neB{g:Type}{t:TypeId}{m:g->List Value}{l:List g}(h:OwG k a m w p f l)(o:Bf w y t r)(e:t≠k):some y≠f.ownBlock:=by
 intro c;rcases h.2 with⟨d,_⟩|⟨n,i,j,d,_,q,_⟩
 .rw[d]at c;simp[Value.ownBlock]at c
 rw[d]at c;have:y=n:=by simpa[Value.ownBlock] using c
 subst this;have b:w.heap[y]? = some (.cells r t (0,0)):=o;rw[q]at b;injection b with b
 injection b with _ ht
 exact e ht.symm
theorem Vj.grown{t:Type}{l:t->List Value}{s:Value}{K:List t}(h:Vj w a f c)(o:OwG k p l w y s K)(n:85≠k)(e:65≠k)(r:w.grownBy b s.ownBlock):Vj b a f c:=by
 obtain⟨L,q,F,G⟩:=h;refine⟨L,OwG.kept q r (OwG.apart q o n),F,λi x I=>?_⟩;let⟨z,A,B,C,D,E⟩:=G i x I;refine⟨z,A,B,C,D.grown r ?_,E⟩;intro J M N _ H j;rcases o.2 with⟨m,_⟩|⟨g,u,v,m,_,d,_⟩
 .rw[m]at j;simp[Value.ownBlock]at j
 rw[m]at j;have:J=g:=by simpa[Value.ownBlock] using j
 subst this;rw[H]at d;injection d with d
 injection d with _ ht
 exact e ht
theorem Ae1(h:a<c.length):shp (c++[m]) a=shp c a:=by
 unfold shp;rw[List.getD,List.getD,cF h]
theorem yp:shp (c++[m]) c.length=m:=by
 unfold shp;simp[List.getD]
theorem Mq{I:Array Oper}{d:List Oper}{o:Oper}{a:Act}(T:o.guard=none){x:Operand}
 (ho:o.op=.call { callee:=.builtin .append,args:=#[z,x],argTypes:=#[56,56] })
 (b:Nat)  (S:List Shp) (hs:a.eval z=f) (E:Vj w b f S)
 (J c:Nat) (A:Option Addr) (H v:Nat) (C:Int) (G:Bool) (s u:Int) (sh:Shp) (tb:TypeId) (hx:a.eval x=.slice (some ⟨J,0,none⟩) 1 c) (D:Bf w J tb #[.slice A H v,C,.bool G,s,u]) (hu:ShV w b ⟨A,H,v,C,G,s,u⟩ sh)
  (e:b<=w.heap.size)
 (h:∀N p,Vj p b N (S++[sh])->w.grownBy p f.ownBlock->(∀k,f.ownBlock=some k->b<=k)->wpList prog I n d (a.put o.dst N) p)  (Z:S.length<=1000000:=by omega) :
 wpList prog I n (o::d) a w:=by
 let⟨i,hi,V,W,X⟩:=dW Aj0;obtain⟨r,R,K,h3⟩:=E
 have F:∀k O Q,b<=k->w.heap[k]? = some (.cells O 65 Q)->some k≠f.ownBlock:=by
  intro k O Q _ M Y;rcases R.2 with⟨rfl,_⟩|⟨g,a6,a7,rfl,_,L,_⟩
  .cases Y
  have:k=g:=by simpa[Value.ownBlock] using Y
  subst this;rw[L]at M;injection M with M
  injection M with _ ht
  exact absurd ht (by decide)
 refine eX (P:=prog) w T z x 56 ho b 85 i (.agg #[.slice none 0 0,.int .i64 0,.bool false,.int .i64 0,.int .i64 0]) 5 56 underlying56 hi V W X rfl (by omega) f r.length (r.flatMap Abf) hs R ⟨J,0,none⟩ 1 c (Abf ⟨A,H,v,C,G,s,u⟩) hx (by rw[Zh]) ?_ (Abe) (by rw[K];unfold maxLen;omega) (by rw[K];omega) e ?_
 .intro j y hj;exact eI (w:=w) (B:=J) (cs:=(Abf ⟨A,H,v,C,G,s,u⟩).toArray) (t:=tb) (fr:=(0,0)) D j y (by simpa using hj)
 intro N p U L _ ad;refine h N p ⟨r++[⟨A,H,v,C,G,s,u⟩],?_,by simp[K],λj y l=>?_⟩ L λk hk=>(R.lt k hk).1
 .unfold OwG;rw[bA,dH];simpa using U
 have kp:∀{x:ShX} {z:Shp},ShV w b x z->ShV p b x z:=λm=>⟨m.1,m.2.1,m.2.2.1,m.2.2.2.1,m.2.2.2.2.1.grown L F,m.2.2.2.2.2⟩
 rcases bG j r.length with q|q
 .rw[cF q]at l;rw[Ae1 (by omega)];exact kp (h3 j y l)
 rcases bG j (r.length+1) with q2|q2
 .obtain rfl:j=r.length:=by omega
  rw[cI aA,Nat.sub_self]at l;simp at l;subst l;rw[K,yp];exact kp hu
 rw[bI (by simp;omega)]at l;cases l
end Go.Proofs.YtboghahlhmnblaaGreat
