/- Lean texts of the claim. -/
import Derived.Test.YtlogblbfbihleaaGreatZr21
namespace Go.Proofs.YtlogblbfbihleaaGreat
set_option linter.all false
set_option maxRecDepth 100000
set_option maxHeartbeats 0
open Go.RowKit
variable{a:Nat}{b:LP}
theorem Adp{E:List EdgeP} {n k:Nat} (f:E.length=n) (c:¬16<n) (d:¬n<2) (e:k<n) (b:Fh (Hk E) k=0) (a:Hk E k≠0):C7 E=Hk E k:=by
 unfold C7;rw[f,if_neg c,if_neg d,Mk e b a,if_pos a]
theorem oo{E:List EdgeP} {n:Nat} (d:E.length=n) (b:¬16<n) (c:¬n<2) (a:Fh (Hk E) n=0):C7 E=if Bp (J2 E) n then 11 else Bg (Bj E) (Bj E).length:=by
 unfold C7;rw[d,if_neg b,if_neg c,if_neg (by rw[a];simp)]
theorem Gs(A:Option Addr) (F n:Nat) (E:List EdgeP) (w:World) (e6:n<=F) (hn:n<=9223372036854775807) (hE:EdS w A n E) :
 Calls Tryz.prog 99 #[.slice A n F] w (Bz w (C7 E)):=by
 have d:=hE.1;by_cases h1:16<n
 .have z:=Ar (show C7 E=5 by unfold C7;rw[d,if_pos h1]);clear d;go_in;go_wp2;go_ret;exact⟨by rw[z.out];rfl,bl0⟩
 by_cases h2:n<2
 .have z:=Ar (show C7 E=11 by unfold C7;rw[d,if_neg h1,if_pos h2]);clear d;go_in;go_wp2;go_ret;exact⟨by rw[z.out];rfl,bl0⟩
 have HA:=Ar λk hk J h3=>Adp (E:=E) (n:=n) (k:=k) d h1 h2 hk J h3;have HZ:=Ar λJ=>oo (E:=E) (n:=n) d h1 h2 J;have a1:=Ar d;clear d;have hf:=Ea;go_in;go_upto_region 6 with fail;go_loopw [3,4,6,7,19] (λ_ _ _ _ i wr=>∃k:Nat,k<=n/\i=.int .i64 k/\Hid (Fh (Hk E) k=0)/\Be w wr) λ_ _ _ _ i _=>n-(intOf i).toNat
 case atStart=>exact⟨0,Nat.zero_le _,rfl,Ar rfl,bl0⟩
 obtain⟨k,hk,rfl,W,v⟩:=hrel;by_cases h:k<n
 .have ck:=hE.keep v;obtain⟨b,da,rfl,N⟩:=ck.at_ h;let⟨c0,Al,cl,S,q1,q2,I⟩:=N k h;have r:=Ar (show Hk E k=if Cy (edg E k).nm=false then 1 else if Bp (λj=>Gq (edg E j).nm (edg E k).nm) k then 7 else plW (edg E k).ln (edg E k).ln.length from rfl);have HK:=Ar (HA.out k h W.out);let⟨l,hl⟩:=gN ((edg E k).ln)
  let⟨y,b7⟩:=gN ((edg E k).nm)
  rw[hl]at S q1 I r;rw[b7]at c0 r;generalize hm:l.length=m at S q1 I r;have HC:=Ar N;clear N hl hm b7;have B1:(k:Int)<(n:Int):=by omega
  cases hnb:Cy y with
  | false =>
    have z:=Ar (show C7 E=1 by
     have e:Hk E k=1:=by rw[r.out,hnb];rfl
     rw[<-e];exact HK.out (by rw[e];decide))
    have HN:=Ar hnb;clear hnb;go_upto_region 8 with fail;refine Bq λX L U=>?_
    have p0:Cq X wr.heap.size 0 (.string y):=(U.cell 0).trans rfl
    go_wp2_with (go_at_call 146;refine rR (Uf y _) λw1 G=>?_;rw[HN.out])
    go_ret;exact⟨by rw[z.out];rfl,An (An v L) G⟩
  | true =>
    have Z:=Ar (show Hk E k=if Bp (λj=>Gq (edg E j).nm y) k then 7 else plW l m by rw[r.out,hnb];rfl);have HN:=Ar hnb;clear hnb r;go_upto_region 8 with fail;refine Bq λX L U=>?_
    have p0:Cq X wr.heap.size 0 (.string y):=(U.cell 0).trans rfl;have S1:(0:Int)<=(k:Int):=by omega
    have S2:(k:Int)<=(F:Int):=by omega
    go_upto_region 11 with (go_at_call 146;refine rR (Uf y _) λw1 G=>?_;rw[HN.out])
    have H:=An L G;have ai:=U.keep G;have ch:=I.keep H;clear p0 S1 S2;go_loopw [6,32] (λ_ i wx=>∃j:Nat,j<=k/\i=.int .i64 j/\Hid (Bp (λj=>Gq (edg E j).nm y) j=false)/\Be w1 wx) λ_ i _=>k-(intOf i).toNat
    case atStart=>exact⟨0,Nat.zero_le _,rfl,Ar (Bp.zero _),bl0⟩
    obtain⟨j,hj,rfl,b9,o⟩:=hrel;by_cases au:j<k
    .obtain⟨d0,Aj,cj,T,-,-,-⟩:=HC.out j (by omega);have B:=An H o;have e0:=Aq B d0;have e1:=Aq B T;have f0:=Aq o ((ai.cell 0).trans rfl:_=some (Value.string y));let⟨x,hx⟩:=gN ((edg E j).nm)
     have HX:=Ar hx;rw[hx]at e0;clear d0 T hx;have S3:(j:Int)<(k:Int):=by omega
     go_upto_region 13 with fail;refine Bq λY a cn=>?_
     have g0:Cq Y wr.heap.size 0 (.string x):=(cn.cell 0).trans rfl;have g1:=Aq a f0;let⟨R,M⟩:=gN (x.toList == y.toList)
     have HS:Hid (Gq (edg E j).nm y=R):=Ar (by rw[HX.out];exact M);cases R with
     | true =>
       have z:=Ar (show C7 E=7 by
        have e:Hk E k=7:=by rw[Z.out,if_pos (Bp.yes (f:=λj=>Gq (edg E j).nm y) au HS.out)]
        rw[<-e];exact HK.out (by rw[e];decide))
       go_wp2;go_ret;exact⟨by rw[z.out];rfl,An (An (An v H) o) a⟩
     | false =>
       have HP:=Bp.succ (f:=λj=>Gq (edg E j).nm y) b9.out HS.out;go_wp2;exact⟨⟨j+1,by omega,by go_num,Ar HP,An o a⟩,by simp[intOf];omega⟩
    obtain rfl:k=j:=by omega
    have D:=Ar (show Hk E k=plW l m by rw[Z.out,b9.out];rfl);have f1:=Aq o ((ai.cell 1).trans rfl:_=some (Value.slice Al m cl));have ad:=ch.keep o;have B:=An v (An H o);let⟨pe,Q⟩:=gN (plW l m)
    have a7:=Ar Q;rw[Q]at D;clear Q au;by_cases J:pe=0
    .subst J;have ca:=Ar (show Fh (Hk E) (k+1)=0 by rw[Ga W.out,D.out])
     go_wp2_with (go_at_call 147;refine rR (Ih Al cl m l _ (by omega) ad) λw3 u=>?_;rw[a7.out])
     exact⟨⟨k+1,by omega,by go_num,ca,An B u⟩,by simp[intOf];omega⟩
    have z:=Ar (show C7 E=pe by rw[<-D.out];exact HK.out (by rw[D.out];exact J));have h6:(pe != 0)=true:=by simpa using J
    clear J
    go_wp2_with (go_at_call 147;refine rR (Ih Al cl m l _ (by omega) ad) λw3 u=>?_;rw[a7.out])
    go_ret;exact⟨by rw[z.out];rfl,An B u⟩
 obtain rfl:n=k:=by omega
 have HO:=Ar (HZ.out W.out)
 have t:=Ar (λi (O:i<n)=>by
  have g:=Ph.1 W.out i O;unfold Hk at g;split at g
  .cases g
  split at g
  .cases g
  exact Er g:∀i,i<n->2<=(edg E i).ln.length/\(edg E i).ln.length<=40)
 clear HZ HA;go_upto_region 21 with fail;obtain⟨wa,rfl⟩:∃wa:World,wa=wr:=⟨_,rfl⟩
 go_loopw [8,9,10,51] (λ_ _ _ i wx=>∃k:Nat,k<=n/\i=.int .i64 k/\Hid (Bp (J2 E) k=false)/\Be w wx) λ_ _ _ i _=>n-(intOf i).toNat
 case atStart=>exact⟨0,Nat.zero_le _,rfl,Ar (Bp.zero _),v⟩
 clear v W;obtain⟨k,hk,rfl,hp,v⟩:=hrel;by_cases h:k<n
 .obtain⟨b,da,rfl,N⟩:=(hE.keep v).at_ h;have b3:(k+1) % n<n:=Nat.mod_lt _ (by omega);have m1:=(Q6 ((k:Int)+1) (k+1) n rfl (by omega)).2;let⟨c0,A1,cc,S,q1,q2,I⟩:=N k h;let⟨d0,A2,cd,T,r1,r2,r3⟩:=N ((k+1) % n) b3;have c:=Ar (show J2 E k=!eqS (gt (edg E k).ln ((edg E k).ln.length-1)) (gt (edg E ((k+1) % n)).ln 0) by unfold J2;rw[a1.out]);obtain⟨g1,-⟩:=t.out k h;obtain⟨g2,-⟩:=t.out _ b3;let⟨l1,aw⟩:=gN ((edg E k).ln)
  let⟨l2,b0⟩:=gN ((edg E ((k+1) % n)).ln)
  rw[aw]at S q1 I g1 c;rw[b0]at T r1 r3 g2 c;let⟨C,b4⟩:=gN l1.length
  let⟨n2,b6⟩:=gN l2.length
  rw[b4]at S q1 I g1 c;rw[b6]at T r1 r3 g2;obtain⟨b1,o1,rfl,-,-⟩:=I.at_ (show 0<C by omega);obtain⟨b2,o2,rfl,-,-⟩:=r3.at_ (show 0<n2 by omega);let⟨x1,x2⟩:=I.cells (show C-1<C by omega);let⟨y1,y2⟩:=r3.cells (show 0<n2 by omega);let⟨s1,bd⟩:=gN ((edg E k).nm)
  let⟨s2,bl⟩:=gN ((edg E ((k+1) % n)).nm)
  rw[bd]at c0;rw[bl]at d0;let⟨q,b5⟩:∃m,C=m+1:=⟨C-1,by omega⟩
  rw[show C-1=q by omega]at x1 x2 c;have h8:(C:Int)-1=(q:Int):=by omega
  have h9:q<C:=by omega
  clear b5;let⟨⟨px,py⟩,ba⟩:∃p,gt l1 q=p:=⟨_,rfl⟩
  let⟨⟨qx,qy⟩,bc⟩:∃p,gt l2 0=p:=⟨_,rfl⟩
  rw[ba]at x1 x2 c;rw[bc]at y1 y2 c;have hd:b<wr.heap.size:=Bi c0;clear N aw b0 b4 b6 bd bl ba bc I r3;go_upto_region 24 with fail;refine Eo λY a U hQ=>?_
  have p1:Cq Y wr.heap.size 1 (.slice (some ⟨b1,o1,none⟩) C cc):=(U.cell 1).trans rfl;have p2:Cq Y (wr.heap.size+1) 1 (.slice (some ⟨b2,o2,none⟩) n2 cd):=(hQ.cell 1).trans rfl;have X1:=Aq a x1;have X2:=Aq a x2;have Y1:=Aq a y1;have Y2:=Aq a y2;clear x1 x2 y1 y2 c0 S d0 T;have W1:IntKind.i64.wrap ((C:Int)-1)=(q:Int):=by rw[IntKind.wrap_i64];omega
  have B1:(0:Int)<=(q:Int):=by omega
  have B2:(q:Int)<(C:Int):=by omega
  have B3:(0:Int)<(n2:Int):=by omega
  have y0:o2+0*2=o2:=by omega
  rw[y0]at Y1 Y2;go_quiet (fail);clear W1 B1 B2 B3 y0;generalize M:(!eqS (px,py) (qx,qy))=R at c ⊢;clear M;cases R with
  | false =>
    have HP:=Bp.succ (f:=J2 E) hp.out c.out;go_wp2;exact⟨⟨k+1,by omega,by go_num,Ar HP,Bd (An v a) _⟩,by simp[intOf];omega⟩
  | true =>
    have z:=Ar (show C7 E=11 by rw[HO.out,if_pos (Bp.yes (f:=J2 E) h c.out)]);go_wp2;go_ret;exact⟨by rw[z.out];rfl,Bd (An v a) _⟩
 obtain rfl:n=k:=by omega
 have K:=Ar (show C7 E=Bg (Bj E) (Bj E).length by rw[HO.out,hp.out];rfl)
 have a6:=Ar (show (Bj E).length<=n*40 by
  have:=Kt (E:=E) (n:=n) (λi O=>⟨by have:=(t.out i O).1;omega,(t.out i O).2⟩) (Nat.le_refl n);unfold Bj;rw[a1.out];exact this)
 generalize hV:Bj E=V at K a6;have c9:=Ar hV;clear hV
 go_wp2_with (first
  | (go_at_call 57;have W:=u;refine rR (Dc A3 c3 nv V _ (by omega) ar ak) λw4 cu=>?_)
  | (go_at_call 148;refine(Uc _ F n E _ (by omega) (hE.keep v) λi O=>⟨by have:=(t.out i O).1;omega,(t.out i O).2⟩).mono ?_;rintro e w3 ⟨v3,rfl,P,u⟩;rw[c9.out]at P;obtain⟨A3,c3,rfl,ar,ak,-⟩:=P.sps;have cw:=a6.out;let⟨nv,b8⟩:=gN V.length;rw[b8]at ar ak cw P K ⊢;clear b8))
 go_ret;exact⟨by rw[K.out];rfl,An (An v u) cu⟩
theorem L5(a b d c e f:Int) (w:World) :
 Calls Tryz.prog 227 #[.agg #[a,b],.agg #[d,c],.agg #[e,f]] w (Bz w (Bs (a,b) (d,c) (e,f))):=by
 go_in;go_wp2;go_ret;exact⟨rfl,Ao (Ao blA _) _⟩
theorem Tw(x:Int) (w:World):Calls Tryz.prog 228 #[x] w (Bz w (Ey x 0)):=by
 go_enter Tryz.func228,Tryz.ntmps228;go_wp2;all_goals go_ret
 all_goals exact⟨Bm (by unfold Ey;(repeat split)<;>omega),bl0⟩
theorem Ew(a b d c f g:Int) (w:World) :
 Calls Tryz.prog 174 #[.agg #[a,b],.agg #[d,c],.agg #[f,g]] w (Bz w (.bool (onW (a,b) (d,c) (f,g)))):=by
 go_enter Tryz.func174,Tryz.ntmps174
 go_wp2_with (go_at_call 227;refine rR (L5 _ _ _ _ _ _ _) λk h=>?_;let⟨i,j⟩:=Ag2 h)
 all_goals go_ret
 all_goals refine⟨Bn ?_,An (Ao (Ao blA _) _) (by assumption)⟩
 all_goals clear h i j
 all_goals (rw[Bool.eq_iff_iff];simp[onW];try omega)
theorem Ic(a b:Int) (w:World) :
 Calls Tryz.prog 75 #[.agg #[a,b],.int .i64 1048576] w (Bz w (.bool (!Cc 1048576 (a,b)))):=by
 go_enter Tryz.func75,Tryz.ntmps75;go_wp2;all_goals go_ret
 all_goals exact⟨Bn (by rw[Bool.eq_iff_iff];simp[Cc]<;>omega),blA⟩
theorem Tx(a b d c g h i j:Int) (w:World) :
 Calls Tryz.prog 175 #[.agg #[a,b],.agg #[d,c],.agg #[g,h],.agg #[i,j]] w (Bz w (.bool (Hs (a,b) (d,c) (g,h) (i,j)))):=by
 by_cases f:(onW (a,b) (d,c) (g,h) || onW (a,b) (d,c) (i,j) || onW (g,h) (i,j) (a,b) || onW (g,h) (i,j) (d,c))=true
 .have q:=Ar (show Hs (a,b) (d,c) (g,h) (i,j)=true by unfold Hs;rw[f];rfl);go_enter Tryz.func175,Tryz.ntmps175
  go_wp2_with (go_at_call 174;refine rR (Ew _ _ _ _ _ _ _) λp m=>?_;(first|(have l:=Cls.call l m)|(have l:Cls w [(⟨w.heap.size,0,none⟩,.int .i64 a),(⟨w.heap.size,1,none⟩,.int .i64 b),(⟨w.heap.size+1,0,none⟩,.int .i64 d),(⟨w.heap.size+1,1,none⟩,.int .i64 c),(⟨w.heap.size+1+1,0,none⟩,.int .i64 g),(⟨w.heap.size+1+1,1,none⟩,.int .i64 h),(⟨w.heap.size+1+1+1,0,none⟩,.int .i64 i),(⟨w.heap.size+1+1+1,1,none⟩,.int .i64 j)] p:=Cls.call ⟨(Ao (Ao (Ao (Ao (Below.refl _ _) _) _) _) _),by simp only[List.mem_cons,List.not_mem_nil,forall_eq_or_imp,or_false,forall_eq];go_simp⟩ m));clear m;have o:=l.2;simp only[List.mem_cons,List.not_mem_nil,forall_eq_or_imp,or_false,forall_eq]at o)
  all_goals first|(go_ret;exact⟨Bn q.out.symm,l.1⟩)|(exfalso;simp_all;done)
 have r:onW (a,b) (d,c) (g,h)=false:=by simp at f;simp[f]
 have s:onW (a,b) (d,c) (i,j)=false:=by simp at f;simp[f]
 have t:onW (g,h) (i,j) (a,b)=false:=by simp at f;simp[f]
 have u:onW (g,h) (i,j) (d,c)=false:=by simp at f;simp[f]
 have q:=Ar (show Hs (a,b) (d,c) (g,h) (i,j)=(I8 (a,b) (d,c) (g,h) (i,j)&&I8 (g,h) (i,j) (a,b) (d,c)) by unfold Hs;rw[r,s,t,u];rfl);have v:=Ar r;have x:=Ar s;have y:=Ar t;have z:=Ar u;clear r s t u f;cases hp:I8 (a,b) (d,c) (g,h) (i,j) with
 | true =>
   have A:decide (IntKind.i64.wrap (Ey (Bs (a,b) (d,c) (g,h)) 0*Ey (Bs (a,b) (d,c) (i,j)) 0)<0)=true:=hp;rw[hp,Bool.true_and]at q;clear hp;go_enter Tryz.func175,Tryz.ntmps175
   go_wp2_with (go_at_call 174;refine rR (Ew _ _ _ _ _ _ _) λp m=>?_;(first|(have l:=Cls.call l m)|(have l:Cls w [(⟨w.heap.size,0,none⟩,.int .i64 a),(⟨w.heap.size,1,none⟩,.int .i64 b),(⟨w.heap.size+1,0,none⟩,.int .i64 d),(⟨w.heap.size+1,1,none⟩,.int .i64 c),(⟨w.heap.size+1+1,0,none⟩,.int .i64 g),(⟨w.heap.size+1+1,1,none⟩,.int .i64 h),(⟨w.heap.size+1+1+1,0,none⟩,.int .i64 i),(⟨w.heap.size+1+1+1,1,none⟩,.int .i64 j)] p:=Cls.call ⟨(Ao (Ao (Ao (Ao (Below.refl _ _) _) _) _) _),by simp only[List.mem_cons,List.not_mem_nil,forall_eq_or_imp,or_false,forall_eq];go_simp⟩ m));clear m;have o:=l.2;simp only[List.mem_cons,List.not_mem_nil,forall_eq_or_imp,or_false,forall_eq]at o;(first|rw[v.out]|rw[x.out]|rw[y.out]|rw[z.out]))
   refine Bh w [(⟨w.heap.size,0,none⟩,.int .i64 a),(⟨w.heap.size,1,none⟩,.int .i64 b),(⟨w.heap.size+1,0,none⟩,.int .i64 d),(⟨w.heap.size+1,1,none⟩,.int .i64 c),(⟨w.heap.size+1+1,0,none⟩,.int .i64 g),(⟨w.heap.size+1+1,1,none⟩,.int .i64 h),(⟨w.heap.size+1+1+1,0,none⟩,.int .i64 i),(⟨w.heap.size+1+1+1,1,none⟩,.int .i64 j)] (by kernel_rfl) (by kernel_rfl) l ?_
   repeat
    first
    | go_big_quiet_skip
    | go_big_quiet_want
      apply Exists.intro;refine And.intro ?_ ?_
      .intro p n;have o:=n.2;simp only[List.mem_cons,List.not_mem_nil,forall_eq_or_imp,or_false,forall_eq]at o
       go_simp
       first|rfl|exact Bw n (L5 _ _ _ _ _ _ _)|exact Bw n (Tw _ _)
      go_simp
      go_big_quiet_on
   refine wpQuiet_nil ?_;intro p k;have m:=k.1;clear k l;go_wp2;go_ret;exact⟨Bn q.out.symm,m⟩
 | false =>
   have A:decide (IntKind.i64.wrap (Ey (Bs (a,b) (d,c) (g,h)) 0*Ey (Bs (a,b) (d,c) (i,j)) 0)<0)=false:=hp;rw[hp,Bool.false_and]at q;clear hp;go_enter Tryz.func175,Tryz.ntmps175
   go_wp2_with (go_at_call 174;refine rR (Ew _ _ _ _ _ _ _) λp m=>?_;(first|(have l:=Cls.call l m)|(have l:Cls w [(⟨w.heap.size,0,none⟩,.int .i64 a),(⟨w.heap.size,1,none⟩,.int .i64 b),(⟨w.heap.size+1,0,none⟩,.int .i64 d),(⟨w.heap.size+1,1,none⟩,.int .i64 c),(⟨w.heap.size+1+1,0,none⟩,.int .i64 g),(⟨w.heap.size+1+1,1,none⟩,.int .i64 h),(⟨w.heap.size+1+1+1,0,none⟩,.int .i64 i),(⟨w.heap.size+1+1+1,1,none⟩,.int .i64 j)] p:=Cls.call ⟨(Ao (Ao (Ao (Ao (Below.refl _ _) _) _) _) _),by simp only[List.mem_cons,List.not_mem_nil,forall_eq_or_imp,or_false,forall_eq];go_simp⟩ m));clear m;have o:=l.2;simp only[List.mem_cons,List.not_mem_nil,forall_eq_or_imp,or_false,forall_eq]at o;(first|rw[v.out]|rw[x.out]|rw[y.out]|rw[z.out]))
   refine Bh w [(⟨w.heap.size,0,none⟩,.int .i64 a),(⟨w.heap.size,1,none⟩,.int .i64 b),(⟨w.heap.size+1,0,none⟩,.int .i64 d),(⟨w.heap.size+1,1,none⟩,.int .i64 c),(⟨w.heap.size+1+1,0,none⟩,.int .i64 g),(⟨w.heap.size+1+1,1,none⟩,.int .i64 h),(⟨w.heap.size+1+1+1,0,none⟩,.int .i64 i),(⟨w.heap.size+1+1+1,1,none⟩,.int .i64 j)] (by kernel_rfl) (by kernel_rfl) l ?_
   repeat
    first
    | go_big_quiet_skip
    | go_big_quiet_want
      apply Exists.intro;refine And.intro ?_ ?_
      .intro p n;have o:=n.2;simp only[List.mem_cons,List.not_mem_nil,forall_eq_or_imp,or_false,forall_eq]at o
       go_simp
       first|rfl|exact Bw n (L5 _ _ _ _ _ _ _)|exact Bw n (Tw _ _)
      go_simp
      go_big_quiet_on
   refine wpQuiet_nil ?_;intro p k;have m:=k.1;clear k l;go_wp2;go_ret;exact⟨Bn q.out.symm,m⟩
theorem Bf.two{w:World}  {t:TypeId} {u v:Value} (h:Bf w a t #[u,v]):Cq w a 0 u/\Cq w a 1 v/\w.frozen? ⟨a,0,none⟩=false/\w.frozen? ⟨a,1,none⟩=false/\a<w.heap.size :=
 ⟨(h.cell 0).trans rfl,(h.cell 1).trans rfl,h.frozen 0,h.frozen 1,h.lt⟩
theorem Yc{k:Nat} (c:k<a) (h:Lz b a k=false):bh b a=false:=Ix.no c h
theorem Ai2{k j:Nat} (e:j<a) (f:k+2<=j) (c:¬(j+1) % a=k) (h:Hs (gt b k) (gt b ((k+1) % a)) (gt b j) (gt b ((j+1) % a))=true):Lz b a k=false:=by
 have d:Pc b a k j=false:=by unfold Pc;rw[h];simp[c];omega
 unfold Lz;rw[Ix.no e d,Bool.and_false]
theorem Of(b o I n:Nat) (l:LP) (w:World) (hl:n<=1000) (h3:3<=n) (a1:n<=I) (P:SpS w (some ⟨b,o,none⟩) n l) :
 Calls Tryz.prog 121 #[.slice (some ⟨b,o,none⟩) n I] w (Bz w (.bool (bh l n))):=by
 go_enter Tryz.func121,Tryz.ntmps121;go_wp2_with fail;go_loopw [4] (λi wr=>∃k:Nat,k<=n/\i=.int .i64 k/\Hid (Ix (Lz l n) k=true)/\Be w wr) λi _=>n-(intOf i).toNat
 case atStart=>exact⟨0,Nat.zero_le _,rfl,Ix.zero _,bl0⟩
 obtain⟨k,hk,rfl,hp,a⟩:=hrel;by_cases t:k<n
 .obtain⟨J,R⟩:=(P.keep a).cells t;have V:(k+1) % n<n:=Nat.mod_lt _ (by omega);have W:(k+2) % n<n:=Nat.mod_lt _ (by omega);let⟨B,G⟩:=(P.keep a).cells V;have m1:=Q6 ((k:Int)+1) (k+1) n rfl (by omega);have E:IntKind.i64.wrap ((k:Int)+1)=(k:Int)+1:=Dx k 1 (by omega);have q3:¬n=0:=by omega
  go_wp2_with fail;have D:b<wr.heap.size:=Bi J;go_cut [5,6] from 11 to 77 (λs5 s6 Z=>∃g m:Nat,s5=.pointer (some ⟨g,0,none⟩)/\s6=.pointer (some ⟨m,0,none⟩)/\Bf Z g 60 #[(gt l k).1,(gt l k).2]/\Bf Z m 60 #[(gt l ((k+1) % n)).1,(gt l ((k+1) % n)).2]/\Be w Z)
  case first =>
   go_region;all_goals go_wp2_with fail
   all_goals go_meet
   .exact⟨wr.heap.size,wr.heap.size+1,rfl,rfl,((Bf.new _ _ _).alloc _).drew,(Bf.new2 _ _ _ _).drew,Aw (Ao (Ao a _) _)⟩
   exact⟨wr.heap.size+1,wr.heap.size,rfl,rfl,(Bf.new2 _ _ _ _).drew,((Bf.new _ _ _).alloc _).drew,Aw (Ao (Ao a _) _)⟩
  clear J R B G m1 E D a;obtain⟨g,m,rfl,rfl,q,r,a⟩:=hcut;let⟨B,G⟩:=(P.keep a).cells W;have D:b<wc.heap.size:=Bi B;have S:=Q6 ((k:Int)+2) (k+2) n rfl (by omega);have E:IntKind.i64.wrap ((k:Int)+2)=(k:Int)+2:=Dx k 2 (by omega);go_upto_region 7 with fail;have M:=Ao a (.cells #[(gt l ((k+2) % n)).1,(gt l ((k+2) % n)).2] 60);refine Cu (λX=>Be w X/\Bf X g 60 #[(gt l k).1,(gt l k).2]/\Bf X m 60 #[(gt l ((k+1) % n)).1,(gt l ((k+1) % n)).2]/\Bf X wc.heap.size 60 #[(gt l ((k+2) % n)).1,(gt l ((k+2) % n)).2]) ⟨M,q.alloc _,r.alloc _,Bf.new _ _ _⟩ ?_;clear M q r a B G D E S;rintro X ⟨a,q,r,C⟩;let⟨z,L⟩:=gN wc.heap.size
  rw[L]at C ⊢;clear L;let⟨c1,c2,c3,c4,c5⟩:=q.two;let⟨d1,d2,d3,d4,d5⟩:=r.two;let⟨f1,f2,f3,f4,f5⟩:=C.two;have N:=Ea;have y:=a;have Q:Hid ((eqS (gt l k) (gt l ((k+1) % n)) || onW (gt l k) (gt l ((k+1) % n)) (gt l ((k+2) % n)) || onW (gt l ((k+1) % n)) (gt l ((k+2) % n)) (gt l k))=true->Lz l n k=false):=Ar λh=>by unfold Lz;rw[h];rfl
  cases hv1:eqS ((gt l k).1,(gt l k).2) ((gt l ((k+1) % n)).1,(gt l ((k+1) % n)).2)
  .cases hv2:onW ((gt l k).1,(gt l k).2) ((gt l ((k+1) % n)).1,(gt l ((k+1) % n)).2) ((gt l ((k+2) % n)).1,(gt l ((k+2) % n)).2)
   .cases hv3:onW ((gt l ((k+1) % n)).1,(gt l ((k+1) % n)).2) ((gt l ((k+2) % n)).1,(gt l ((k+2) % n)).2) ((gt l k).1,(gt l k).2)
    .have HG:=Ar (show Ix (Pc l n k) n=true->Lz l n k=true from λh=>by
      unfold Lz;rw[show eqS (gt l k) (gt l ((k+1) % n))=false from hv1,show onW (gt l k) (gt l ((k+1) % n)) (gt l ((k+2) % n))=false from hv2,show onW (gt l ((k+1) % n)) (gt l ((k+2) % n)) (gt l k)=false from hv3,h];rfl)
     have A:=Ar hv2;have F:=Ar hv3;clear hv2 hv3
     go_wp2_with (go_at_call 174;refine rR (Ew _ _ _ _ _ _ _) λp a=>?_;(first|(have c:=Cls.call c a)|(have c:Cls w [(⟨g,0,none⟩,.int .i64 (gt l k).1),(⟨g,1,none⟩,.int .i64 (gt l k).2),(⟨m,0,none⟩,.int .i64 (gt l ((k+1) % n)).1),(⟨m,1,none⟩,.int .i64 (gt l ((k+1) % n)).2),(⟨z,0,none⟩,.int .i64 (gt l ((k+2) % n)).1),(⟨z,1,none⟩,.int .i64 (gt l ((k+2) % n)).2)] p:=Cls.call ⟨y,by simp only[List.mem_cons,List.not_mem_nil,forall_eq_or_imp,or_false,forall_eq];go_simp⟩ a));clear a;have f:=c.2;simp only[List.mem_cons,List.not_mem_nil,forall_eq_or_imp,or_false,forall_eq]at f;(first|rw[A.out]|rw[F.out]))
     have K:Cls w [(⟨g,0,none⟩,.int .i64 (gt l k).1),(⟨g,1,none⟩,.int .i64 (gt l k).2),(⟨m,0,none⟩,.int .i64 (gt l ((k+1) % n)).1),(⟨m,1,none⟩,.int .i64 (gt l ((k+1) % n)).2)] p:=⟨c.1,λx f=>c.2 x (by simp only[List.mem_cons,List.not_mem_nil,or_false]at f ⊢;rcases f with h|h|h|h<;>simp[h])⟩;clear c f c1 c2 c3 c4 c5 d1 d2 d3 d4 d5 f1 f2 f3 f4 f5 a y q r C N Q A F hv1;go_loopw [8] (λi wr=>∃j:Nat,k+2<=j/\j<=n+2/\i=.int .i64 j/\Hid (Ix (Pc l n k) j=true)/\Cls w [(⟨g,0,none⟩,.int .i64 (gt l k).1),(⟨g,1,none⟩,.int .i64 (gt l k).2),(⟨m,0,none⟩,.int .i64 (gt l ((k+1) % n)).1),(⟨m,1,none⟩,.int .i64 (gt l ((k+1) % n)).2)] wr) λi _=>n+2-(intOf i).toNat
     case atStart=>exact⟨k+2,by omega,by omega,by go_num,Ix.start λi hi=>by unfold Pc;simp[hi],K⟩
     clear K;obtain⟨j,U,bd,rfl,hq,c⟩:=hrel;have f:=c.2;simp only[List.mem_cons,List.not_mem_nil,forall_eq_or_imp,or_false,forall_eq]at f;by_cases O:j<n
     .have Y:(j+1) % n<n:=Nat.mod_lt _ (by omega);have q4:IntKind.i64.wrap ((j:Int)+1)=(j:Int)+1:=Dx j 1 (by omega);have S:=Q6 ((j:Int)+1) (j+1) n rfl (by omega);have q3:¬n=0:=by omega
      let⟨J,R⟩:=(P.keep c.1).cells O;let⟨B,G⟩:=(P.keep c.1).cells Y;by_cases s:(j+1) % n=k
      .have E:(((j:Int)+1) % (n:Int) != (k:Int))=false:=by
        rw[show ((j:Int)+1) % (n:Int)=(((j+1) % n:Nat):Int) from Abi j n,s];simp
       have T:=Ar s;clear s;go_wp2_with fail;refine Bh w [(⟨g,0,none⟩,.int .i64 (gt l k).1),(⟨g,1,none⟩,.int .i64 (gt l k).2),(⟨m,0,none⟩,.int .i64 (gt l ((k+1) % n)).1),(⟨m,1,none⟩,.int .i64 (gt l ((k+1) % n)).2),(⟨b,o+j*2,none⟩,.int .i64 (gt l j).1),(⟨b,o+j*2+1,none⟩,.int .i64 (gt l j).2),(⟨b,o+(j+1) % n*2,none⟩,.int .i64 (gt l ((j+1) % n)).1),(⟨b,o+(j+1) % n*2+1,none⟩,.int .i64 (gt l ((j+1) % n)).2)] (by kernel_rfl) (by kernel_rfl) ⟨c.1,by simp only[List.mem_cons,List.not_mem_nil,forall_eq_or_imp,or_false,forall_eq];go_simp⟩ ?_
       repeat
        first
        | go_big_quiet_skip
        | go_big_quiet_want
          apply Exists.intro;refine And.intro ?_ ?_
          .intro p u;have f:=u.2;simp only[List.mem_cons,List.not_mem_nil,forall_eq_or_imp,or_false,forall_eq]at f
           go_simp
           first|rfl|exact Bw u (Tx _ _ _ _ _ _ _ _ _)
          go_simp
          go_big_quiet_on
       refine wpQuiet_nil ?_;intro p d;clear E S q4 J R B G;have v:Cls w [(⟨g,0,none⟩,.int .i64 (gt l k).1),(⟨g,1,none⟩,.int .i64 (gt l k).2),(⟨m,0,none⟩,.int .i64 (gt l ((k+1) % n)).1),(⟨m,1,none⟩,.int .i64 (gt l ((k+1) % n)).2)] p:=⟨d.1,λx f=>d.2 x (by simp only[List.mem_cons,List.not_mem_nil,or_false]at f ⊢;rcases f with h|h|h|h<;>simp[h])⟩;clear d c f;go_wp2_with fail;exact⟨⟨j+1,by omega,by omega,by go_num,Ix.succ hq.out (by unfold Pc;simp[T.out]),v⟩,by simp[intOf];omega⟩
      have E:(((j:Int)+1) % (n:Int) != (k:Int))=true:=by
       rw[show ((j:Int)+1) % (n:Int)=(((j+1) % n:Nat):Int) from Abi j n,bne_iff_ne];omega
      have T:=Ar s;clear s;go_wp2_with fail;refine Bh w [(⟨g,0,none⟩,.int .i64 (gt l k).1),(⟨g,1,none⟩,.int .i64 (gt l k).2),(⟨m,0,none⟩,.int .i64 (gt l ((k+1) % n)).1),(⟨m,1,none⟩,.int .i64 (gt l ((k+1) % n)).2),(⟨b,o+j*2,none⟩,.int .i64 (gt l j).1),(⟨b,o+j*2+1,none⟩,.int .i64 (gt l j).2),(⟨b,o+(j+1) % n*2,none⟩,.int .i64 (gt l ((j+1) % n)).1),(⟨b,o+(j+1) % n*2+1,none⟩,.int .i64 (gt l ((j+1) % n)).2)] (by kernel_rfl) (by kernel_rfl) ⟨c.1,by simp only[List.mem_cons,List.not_mem_nil,forall_eq_or_imp,or_false,forall_eq];go_simp⟩ ?_
      repeat
       first
       | go_big_quiet_skip
       | go_big_quiet_want
         apply Exists.intro;refine And.intro ?_ ?_
         .intro p u;have f:=u.2;simp only[List.mem_cons,List.not_mem_nil,forall_eq_or_imp,or_false,forall_eq]at f
          go_simp
          first|rfl|exact Bw u (Tx _ _ _ _ _ _ _ _ _)
         go_simp
         go_big_quiet_on
      refine wpQuiet_nil ?_;intro p d;clear E S q4 J R B G;have v:Cls w [(⟨g,0,none⟩,.int .i64 (gt l k).1),(⟨g,1,none⟩,.int .i64 (gt l k).2),(⟨m,0,none⟩,.int .i64 (gt l ((k+1) % n)).1),(⟨m,1,none⟩,.int .i64 (gt l ((k+1) % n)).2)] p:=⟨d.1,λx f=>d.2 x (by simp only[List.mem_cons,List.not_mem_nil,or_false]at f ⊢;rcases f with h|h|h|h<;>simp[h])⟩;clear d c f;go_wp2_with fail
      .go_ret;exact⟨Bn (Yc t (Ai2 O U T.out ‹_›)).symm,v.1⟩
      go_roundw
      case rel=>exact⟨j+1,by omega,by omega,by go_num,Za hq.out (by simpa using ‹_›),v⟩
      case measure=>simp[intOf];omega
     go_wp2_with fail
     exact⟨⟨k+1,by omega,by go_num,Ix.succ hp.out (HG.out (Ix.mono hq.out (by omega))),c.1⟩,by simp[intOf];omega⟩
    have H:=Ar (Yc t (Q.out (by rw[show onW (gt l ((k+1) % n)) (gt l ((k+2) % n)) (gt l k)=true from hv3];simp)));have A:=Ar hv2;have F:=Ar hv3;clear hv2 hv3
    go_wp2_with (go_at_call 174;refine rR (Ew _ _ _ _ _ _ _) λp a=>?_;(first|(have c:=Cls.call c a)|(have c:Cls w [(⟨g,0,none⟩,.int .i64 (gt l k).1),(⟨g,1,none⟩,.int .i64 (gt l k).2),(⟨m,0,none⟩,.int .i64 (gt l ((k+1) % n)).1),(⟨m,1,none⟩,.int .i64 (gt l ((k+1) % n)).2),(⟨z,0,none⟩,.int .i64 (gt l ((k+2) % n)).1),(⟨z,1,none⟩,.int .i64 (gt l ((k+2) % n)).2)] p:=Cls.call ⟨y,by simp only[List.mem_cons,List.not_mem_nil,forall_eq_or_imp,or_false,forall_eq];go_simp⟩ a));clear a;have f:=c.2;simp only[List.mem_cons,List.not_mem_nil,forall_eq_or_imp,or_false,forall_eq]at f;(first|rw[A.out]|rw[F.out]))
    go_ret;exact⟨Bn H.out.symm,c.1⟩
   have H:=Ar (Yc t (Q.out (by rw[show onW (gt l k) (gt l ((k+1) % n)) (gt l ((k+2) % n))=true from hv2];simp)));have A:=Ar hv2;have F:=A;clear hv2
   go_wp2_with (go_at_call 174;refine rR (Ew _ _ _ _ _ _ _) λp a=>?_;(first|(have c:=Cls.call c a)|(have c:Cls w [(⟨g,0,none⟩,.int .i64 (gt l k).1),(⟨g,1,none⟩,.int .i64 (gt l k).2),(⟨m,0,none⟩,.int .i64 (gt l ((k+1) % n)).1),(⟨m,1,none⟩,.int .i64 (gt l ((k+1) % n)).2),(⟨z,0,none⟩,.int .i64 (gt l ((k+2) % n)).1),(⟨z,1,none⟩,.int .i64 (gt l ((k+2) % n)).2)] p:=Cls.call ⟨y,by simp only[List.mem_cons,List.not_mem_nil,forall_eq_or_imp,or_false,forall_eq];go_simp⟩ a));clear a;have f:=c.2;simp only[List.mem_cons,List.not_mem_nil,forall_eq_or_imp,or_false,forall_eq]at f;(first|rw[A.out]|rw[F.out]))
   go_ret;exact⟨Bn H.out.symm,c.1⟩
  have H:=Ar (Yc t (Q.out (by rw[show eqS (gt l k) (gt l ((k+1) % n))=true from hv1];simp)))
  go_wp2_with fail;go_ret;exact⟨Bn H.out.symm,a⟩
 obtain rfl:n=k:=by omega
 go_wp2_with fail;go_ret;exact⟨Bn hp.out.symm,a⟩
theorem Wg(d:b.length=a) (h:Bp (λi=>Cc 1048576 (gt b i)) a=false):∀q∈b,Du 1048576 q:=by
 intro q hq;obtain⟨i,c,rfl⟩:=Adu hq;apply Oy;cases ho:Cc 1048576 (gt b i) with
 | false=>rfl
 | true=>rw[Bp.yes (by omega) ho]at h;cases h
theorem Hr(A:Option Addr) (j n:Nat) (l:LP) (w:World) (C:n<=9223372036854775807) (c:n<=j) (f:SpS w A n l) :
 Calls Tryz.prog 76 #[.slice A n j] w (Bz w (Bg l n)):=by
 by_cases u:40<n
 .go_in;go_wp2;go_ret;exact⟨Bm (Ir u).symm,bl0⟩
 by_cases v:n<3
 .go_in;go_wp2;go_ret;exact⟨Bm (Jf v).symm,bl0⟩
 obtain⟨b,x,rfl,-,-⟩:=f.at_ (k:=0) (by omega);have p:=Ar u;have q:=Ar v;go_in;go_wp2;go_loopw [3] (λi wr=>∃k:Nat,k<=n/\i=.int .i64 k/\Hid (Bp (λi=>Cc 1048576 (gt l i)) k=false)/\Be w wr) λi _=>n-(intOf i).toNat
 case atStart=>exact⟨0,Nat.zero_le _,rfl,Ar (Bp.zero _),bl0⟩
 obtain⟨k,B,rfl,o,d⟩:=hrel;by_cases m:k<n
 .obtain⟨y,z⟩:=(f.keep d).cells m;cases ho:Cc 1048576 ((gt l k).1,(gt l k).2) with
  | false =>
    have g:=Ar ho;clear ho
    go_wp2_with (go_at_call 75;refine rR (Ic _ _ _) λs a=>?_;rw[g.out])
    exact⟨⟨k+1,by omega,by go_num,Ar (Bp.succ o.out g.out),An d a⟩,by simp[intOf];omega⟩
  | true =>
    have g:=Ar ho;clear ho
    go_wp2_with (go_at_call 75;refine rR (Ic _ _ _) λs a=>?_;rw[g.out])
    go_ret;exact⟨Bm (Rh p.out q.out (Bp.yes m g.out)).symm,An d a⟩
 obtain rfl:n=k:=by omega
 have r:bh l n=C8 l n:=by
  have:=lq (Wg f.1 o.out) (by rw[f.1];omega)
  rwa [f.1] at this
 have t:=Ar r;cases hv:C8 l n with
 | false =>
   have h:=Ar hv;clear hv r
   go_wp2_with (go_at_call 121;refine rR (Of _ _ _ _ l _ (by omega) (by omega) c (f.keep d)) λs a=>?_;rw[t.out,h.out])
   go_ret;exact⟨Bm (Ri p.out q.out o.out h.out).symm,An d a⟩
 | true =>
   have h:=Ar hv;clear hv r
   go_wp2_with (go_at_call 121;refine rR (Of _ _ _ _ l _ (by omega) (by omega) c (f.keep d)) λs a=>?_;rw[t.out,h.out])
   go_ret;exact⟨Bm (U9 p.out q.out o.out h.out).symm,An d a⟩
theorem Aes(s u v:Int):wrap64 (wrap64 (s+wrap64 u)-wrap64 v)=wrap64 (s+wrap64 (wrap64 u-wrap64 v)):=by
 unfold wrap64;omega
theorem bf(b g d n:Nat) (l:LP) (w:World) (L:n<=1000000) (J:0<n) (u:n<=d) (v:SpS w (some ⟨b,g,none⟩) n l) :
 Calls Tryz.prog 176 #[.slice (some ⟨b,g,none⟩) n d] w (Bz w (F4 l n n)):=by
 go_enter Tryz.func176,Tryz.ntmps176;go_wp2_with fail;go_loopw [3,4] (λs i wr=>∃k:Nat,k<=n/\i=.int .i64 k/\s=.int .i64 (F4 l n k)/\Be w wr) λ_ i _=>n-(intOf i).toNat
 case atStart=>exact⟨0,Nat.zero_le _,rfl,rfl,bl0⟩
 obtain⟨k,K,rfl,rfl,a⟩:=hrel;by_cases o:k<n
 .obtain⟨t,C⟩:=(v.keep a).cells o;have p:(k+1) % n<n:=Nat.mod_lt _ (by omega);let⟨D,E⟩:=(v.keep a).cells p;have F:=Q6 ((k:Int)+1) (k+1) n rfl (by omega);have G:IntKind.i64.wrap ((k:Int)+1)=(k:Int)+1:=Dx k 1 (by omega);have M:¬n=0:=by omega
  let⟨r,c⟩:=gN (F4 l n k)
  rw[c];have x:=Ar c;clear c;go_wp2_with fail;have m:b<wr.heap.size:=Bi t;go_cut [5,6] from 7 to 37 (λH I q=>∃h j:Nat,H=.pointer (some ⟨h,0,none⟩)/\I=.pointer (some ⟨j,0,none⟩)/\Bf q h 60 #[(gt l k).1,(gt l k).2]/\Bf q j 60 #[(gt l ((k+1) % n)).1,(gt l ((k+1) % n)).2]/\Be w q)
  case first =>
   go_region;all_goals go_wp2_with fail
   all_goals go_meet
   .exact⟨wr.heap.size,wr.heap.size+1,rfl,rfl,((Bf.new _ _ _).alloc _).drew,(Bf.new2 _ _ _ _).drew,Aw (Ao (Ao a _) _)⟩
   exact⟨wr.heap.size+1,wr.heap.size,rfl,rfl,(Bf.new2 _ _ _ _).drew,((Bf.new _ _ _).alloc _).drew,Aw (Ao (Ao a _) _)⟩
  clear t C D E F G m a;obtain⟨h,j,rfl,rfl,e,f,a⟩:=hcut;have y:=(e.cell 0).trans rfl;have z:=(e.cell 1).trans rfl;have A:=(f.cell 0).trans rfl;have B:=(f.cell 1).trans rfl;simp only[List.getElem?_toArray,List.getElem?_cons_zero,List.getElem?_cons_succ]at y z A B;go_wp2_with fail;go_roundw
  case rel=>exact⟨k+1,by omega,by go_num,by rw[F4,x.out,Aes],a⟩
  case measure=>simp[intOf];omega
 obtain rfl:n=k:=by omega
 go_wp2_with fail;go_ret;exact⟨rfl,a⟩
theorem Yq(A:Option Addr) (c n i:Nat) (E:List EdgeP) (a:ByteArray) (w:World) (C:n<=1000) (z:i<=n) (t:EdS w A n E) :
 Calls Tryz.prog 158 #[.slice A n c,(i:Int),.string a] w λe v=>e=.returned (.bool (Bp (λj=>Gq (edg E j).nm a) i))/\w=v:=by
 go_in;go_upto_region 2 with fail;go_loopw [7] (λj wr=>∃k:Nat,k<=i/\j=.int .i64 k/\Hid (Bp (λj=>Gq (edg E j).nm a) k=false)/\w=wr) λj _=>i-(intOf j).toNat
 case atStart=>exact⟨0,Nat.zero_le _,rfl,Bp.zero _,rfl⟩
 obtain⟨k,B,rfl,p,rfl⟩:=hrel;by_cases d:k<i
 .have x:(k:Int)<(i:Int):=by omega
  have y:(k:Int)<(n:Int):=by omega
  obtain⟨b,u,rfl,l⟩:=t.at_ (show k<n by omega);obtain⟨c0,-⟩:=l k (by omega);generalize o:(edg E k).nm=m at c0;have g:=Ar o;let⟨q,hq⟩:=gN (m.toList == a.toList)
  have h:=Ar (show Gq m a=q from hq);clear o l;cases q with
  | true =>
    have r:=Ar (Bp.yes (f:=λj=>Gq (edg E j).nm a) d (by rw[g.out,h.out]));go_wp2;go_ret;exact⟨by rw[r.out];rfl,rfl⟩
  | false =>
    have s:=Bp.succ (f:=λj=>Gq (edg E j).nm a) p.out (by rw[g.out,h.out]);go_wp2;exact⟨⟨k+1,by omega,by go_num,s,trivial⟩,by simp[intOf];omega⟩
 obtain rfl:i=k:=by omega
 go_wp2;go_ret;exact⟨by rw[p.out];rfl,rfl⟩
theorem Ado(A:Option Addr) (f n:Nat) (E:List EdgeP) (w:World) (W:n<=16) (B:EdS w A n E) (g:∀k,k<n->1<=(edg E k).ln.length/\(edg E k).ln.length<=40) :
 Calls Tryz.prog 122 #[.slice A n f] w (Vi w (Bj E)):=by
 have L:=Ar (show Bj E=Cn E n by unfold Bj;rw[B.1]);have J:=Ar g;have K:=Ar λk (o:k<=n)=>Kt g o;clear g;go_in;go_upto_region 3 with fail;go_loopw [3,4,5] (λv i _ wr=>∃k:Nat,k<=n/\i=.int .i64 k/\OwS wr w.heap.size v (Cn E k)/\Be w wr) λ_ i _ _=>n-(intOf i).toNat
 case atStart=>exact⟨0,Nat.zero_le _,rfl,OwG.nil,bl0⟩
 obtain⟨k,o,rfl,p,d⟩:=hrel;by_cases a:k<n
 .have S:(k:Int)<(n:Int):=by omega
  obtain⟨b,O,rfl,D⟩:=(B.keep d).at_ a;obtain⟨-,R,x,u,I,X,e⟩:=D k a;have c:=Ar (show Cn E (k+1)=Cn E k++ux (edg E k).ln from rfl);let⟨y,z⟩:=J.out k a;have F:=K.out k o;generalize N:(edg E k).ln=l at u I e y z c;let⟨r,s⟩:=gN l.length
  let⟨m,G⟩:=gN (r-1)
  have t:=Ar (show ux l=l.take m by unfold ux;rw[s,G]);rw[s]at u I e y z;rw[t.out]at c;obtain⟨M,P,rfl,-,-⟩:=e.at_ (show 0<r by omega);have Q:=e.take (show m<=r by omega);have V:IntKind.i64.wrap ((r:Int)-1)=(m:Int):=by rw[IntKind.wrap_i64];omega
  have T:(0:Int)<(r:Int):=by omega
  have U:(m:Int)<=(x:Int):=by omega
  have H:m<=40:=by omega
  clear D N G s t
  go_wp2_with (at_builtin;refine Et rfl _ _ rfl w.heap.size _ (Cn E k) rfl p (some ⟨M,P,none⟩) m x (l.take m) rfl Q (λh=>by cases h) (by omega) d.size ?_;intro Y Z q j C)
  exact⟨⟨k+1,by omega,by go_num,by rw[c.out];exact q,Bk d p j⟩,by simp[intOf];omega⟩
 obtain rfl:n=k:=by omega
 go_wp2;go_ret;exact⟨_,rfl,by rw[L.out];exact p,d⟩
def Ng (w:World) (r:LP×Int) (e:Ending) (a:World):Prop:=∃v,e=.returned (.tuple #[v,r.2])/\OwS a w.heap.size v r.1/\Be w a
def L9 (E:List EdgeP):LP×Int:=if C7 E≠0 then ([],C7 E) else (Bj E,0)
theorem K9(A:Option Addr) (b n:Nat) (E:List EdgeP) (w:World) (d:n<=b) (p:n<=9223372036854775807) (j:EdS w A n E) :
 Calls Tryz.prog 104 #[.slice A n b] w (Ng w (L9 E)):=by
 have f:=j.1;by_cases h:C7 E=0
 .have t:=Ar h;obtain⟨v,x,r,-⟩:=D5 h;have g:=Ar (λi (m:i<n)=>Er (r i (by omega)).2);have q:n<=16:=by omega
  rw[show L9 E=(Bj E,0) by unfold L9;rw[if_neg (by simpa using h)]];clear h v x r f;go_in
  go_wp2_with (first
   | (go_at_call 148;have z:=a;refine(Uc _ b n E _ (by omega) (j.keep a) λi m=>⟨by have:=(g.out i m).1;omega,(g.out i m).2⟩).mono ?_;rintro e C ⟨B,rfl,o,l⟩)
   | (go_at_call 99;refine rR (Gs A b n E _ d p j) λy a=>?_;rw[t.out]))
  go_ret2
  exact⟨_,rfl,OwG.lower o a.size,An a l⟩
 let⟨c,k⟩:=gN (C7 E)
 rw[show L9 E=([],C7 E) by unfold L9;rw[if_pos h],k];rw[k]at h;have u:(c != 0)=true:=by simpa using h
 have s:=Ar k;clear k h f;go_in
 go_wp2_with (go_at_call 99;refine rR (Gs A b n E _ d p j) λy a=>?_;rw[s.out])
 go_ret2
 exact⟨_,rfl,OwG.nil,a⟩
theorem G9(A:Option Addr) (a n:Nat) (l:LP) (w:World) (j:n<=9223372036854775807) (c:n<=a) (h:SpS w A n l) :
 Calls Tryz.prog 109 #[.slice A n a] w (Bz w (orW l)):=by
 have f:=Ar (show orW l=Ey (if Bg l n=0 then F4 l n n else 0) 0 by unfold orW Qi;rw[h.1]);generalize g:(if Bg l n=0 then F4 l n n else 0)=r at f;have i:=Ar g;clear g;go_in
 go_wp2_with (first
  | (go_at_call 134;have k:=b;refine rR (Kn r 0 _) λo d=>?_)
  | (go_at_call 51;refine rR (Vg A a n l _ j c h) λm b=>?_;rw[i.out]))
 go_ret;exact⟨by rw[f.out];rfl,An b d⟩
theorem Z3(A:Option Addr) (u n:Nat) (E:List EdgeP) (G:Option Addr) (s c2:Nat) (a:List Int) (w:World) (hn:n<=16) (C:n<=s) (M:EdS w A n E) (hW:InS w G s a) (y:∀k,k<n->1<=(edg E k).ln.length/\(edg E k).ln.length<=40) :
 Calls Tryz.prog 105 #[.slice A n u,.slice G s c2] w (Alq w (Hl E a)):=by
 have HV:=Ar (show Hl E a=Ek E a n by unfold Hl;rw[M.1]);have H2:=Ar y
 have HL:=Ar (λk (P:k<=n)=>show (Ek E a k).length<=k*40 by
  rw[Gt];exact Lt λi hi=>(y i (by omega)).2)
 have HS:=Ar λk=>show Ek E a (k+1)=Ek E a k++List.replicate ((edg E k).ln.length-1) (gi a k) from rfl;clear y;go_in;go_upto_region 3 with fail;go_loopw [5,6,7,10] (λv _ _ i wr=>∃k:Nat,k<=n/\i=.int .i64 k/\OwI wr w.heap.size v (Ek E a k)/\Be w wr) λ_ _ _ i _=>n-(intOf i).toNat
 case atStart=>exact⟨0,Nat.zero_le _,rfl,OwG.nil,bl0⟩
 obtain⟨k,P,rfl,b,e⟩:=hrel;by_cases d:k<n
 .obtain⟨b0,b5,rfl,O⟩:=(M.keep e).at_ d;let⟨J,X,cl,K,q1,q2,q3⟩:=O k d;obtain⟨b1,T,rfl,S⟩:=hW.at_ (Nat.lt_of_lt_of_le d C);have H:=Ar (H2.out k d);have c:=Ar (HS.out k);let⟨r,Q⟩:=gN ((edg E k).ln.length)
  let⟨m,B⟩:∃m,r=m+1:=⟨r-1,by have:=H.out;omega⟩
  have R:m<=40:=by have:=H.out;omega
  rw[Q]at K q1 c;rw[show r-1=m by omega]at c;have W1:IntKind.i64.wrap ((r:Int)-1)=(m:Int):=by rw[IntKind.wrap_i64];omega
  clear B;generalize D:(edg E k).nm=nm at J;generalize hx:gi a k=x at S c;have t:=Ar (HL.out k P);clear O D hx q3 Q;have B1:(k:Int)<(n:Int):=by omega
  have Z:(k:Int)<(s:Int):=by omega
  let⟨U,p⟩:∃U,U=u5:=⟨_,rfl⟩
  rw[<-p]at b ⊢;clear p;go_upto_region 5 with fail;refine Bq λY l hP=>?_
  have p1:Cq Y wr.heap.size 1 (.slice X r cl):=(hP.cell 1).trans rfl;have o:=OwG.keep b l;have g:=An e l;clear J K b;go_upto_region 6 with fail;clear p1 W1;go_loopw [5,19] (λv i W=>∃j:Nat,j<=m/\i=.int .i64 j/\OwI W w.heap.size v (Ek E a k++List.replicate j x)/\Be w W) λ_ i _=>m-(intOf i).toNat
  case atStart=>exact⟨0,Nat.zero_le _,rfl,by rw[List.replicate_zero,List.append_nil];exact o,g⟩
  clear o g;obtain⟨j,hj,rfl,b,e⟩:=hrel;have b3:=Aq e S;by_cases b2:j<m
  .have f:(Ek E a k++List.replicate j x).length+1<=1000000:=by
    rw[List.length_append,List.length_replicate];have:=t.out;omega
   have I:=Ar (show Ek E a k++List.replicate (j+1) x=(Ek E a k++List.replicate j x)++[x] by rw[List.append_assoc,List.replicate_succ']);generalize hL:Ek E a k++List.replicate j x=L at f b I;clear hL;have B2:(j:Int)<(m:Int):=by omega
   let⟨V,q⟩:∃V,V=u5:=⟨_,rfl⟩
   rw[<-q]at b ⊢;clear q
   go_wp2_with (at_builtin;refine Kb rfl _ _ rfl w.heap.size _ L rfl (OwG.alloc b _) _ 1 1 [x] rfl (InS.new _ _ _) (λh=>by cases h) (by simpa using f) (Ao e _).size ?_;intro v7 w7 F z N)
   exact⟨⟨j+1,by omega,by go_num,by rw[I.out];exact F,Bk (Ao e _) (OwG.alloc b _) z⟩,by simp[intOf];omega⟩
  obtain rfl:m=j:=by omega
  go_wp2;exact⟨⟨k+1,by omega,by go_num,by rw[c.out];exact b,e⟩,by simp[intOf];omega⟩
 obtain rfl:n=k:=by omega
 go_wp2;go_ret;exact⟨_,rfl,by rw[HV.out];exact b,e⟩
theorem Ie(A:Option Addr) (q n:Nat) (E:List EdgeP) (w:World) (cw:n<=q) (hn:n<=9223372036854775807) (hE:EdS w A n E) :
 Calls Tryz.prog 112 #[.slice A n q] w (Bz w (C7 E)):=by
 have h:=hE.1;by_cases h1:16<n
 .have x:=Ar (show C7 E=5 by unfold C7;rw[h,if_pos h1]);clear h;go_enter Tryz.func112,Tryz.ntmps112;go_wp2_with fail;go_ret;exact⟨by rw[x.out];rfl,bl0⟩
 by_cases h2:n<2
 .have x:=Ar (show C7 E=11 by unfold C7;rw[h,if_neg h1,if_pos h2]);clear h;go_enter Tryz.func112,Tryz.ntmps112;go_wp2_with fail;go_ret;exact⟨by rw[x.out];rfl,bl0⟩
 have HA:=Ar λk hk C h3=>Adp (E:=E) (n:=n) (k:=k) h h1 h2 hk C h3;have HZ:=Ar λC=>oo (E:=E) (n:=n) h h1 h2 C;have P:=Ar h;clear h;have ec:=Ea;go_enter Tryz.func112,Tryz.ntmps112;go_upto_region 6 with fail;go_loopw [3,4] (λi _ wr=>∃k:Nat,k<=n/\i=.int .i64 k/\Hid (Fh (Hk E) k=0)/\Be w wr) λi _ _=>n-(intOf i).toNat
 case atStart=>exact⟨0,Nat.zero_le _,rfl,Ar rfl,bl0⟩
 obtain⟨k,hk,rfl,N,t⟩:=hrel;by_cases o:k<n
 .have y:=hE.keep t;obtain⟨b,c7,rfl,M⟩:=y.at_ o;let⟨c0,Al,cl,L,q1,q2,v⟩:=M k o;have c:=Ar (show Hk E k=if Cy (edg E k).nm=false then 1 else if Bp (λj=>Gq (edg E j).nm (edg E k).nm) k then 7 else plW (edg E k).ln (edg E k).ln.length from rfl);have HK:=Ar (HA.out k o N.out);let⟨l,hl⟩:=gN ((edg E k).ln)
  let⟨z,ad⟩:=gN ((edg E k).nm)
  rw[hl]at L q1 v c;rw[ad]at c0 c;let⟨m,Z⟩:=gN l.length
  rw[Z]at L q1 v c;have B1:(k:Int)<(n:Int):=by omega
  have a7:n<=16:=by omega
  let⟨nb,H⟩:=gN (Cy z)
  let⟨tw,K⟩:=gN (Bp (λj=>Gq (edg E j).nm z) k)
  let⟨O,J⟩:=gN (plW l m)
  rw[H,K,J]at c;have HN:=Ar H;have HT:=Ar K;have B:=Ar J;clear M hl Z ad H K J;cases nb with
  | false =>
    have x:=Ar (show C7 E=1 from (HK.out (by rw[c.out];simp)).trans c.out)
    go_wp2_with (first|(go_at_call 159;refine rR (Q8 Al cl m l _ (by omega) v) λw3 a=>?_;rw[B.out])|(go_at_call 158;refine(Yq _ q n k E z _ (by omega) (by omega) y).mono ?_;rintro e w2 ⟨rfl,rfl⟩;rw[HT.out])|(go_at_call 66;refine(Dp z _).mono ?_;rintro e w1 ⟨rfl,rfl⟩;rw[HN.out]))
    go_ret;exact⟨by rw[x.out];rfl,t⟩
  | true =>
    cases tw with
    | true =>
      have x:=Ar (show C7 E=7 from (HK.out (by rw[c.out];simp)).trans c.out)
      go_wp2_with (first|(go_at_call 159;refine rR (Q8 Al cl m l _ (by omega) v) λw3 a=>?_;rw[B.out])|(go_at_call 158;refine(Yq _ q n k E z _ (by omega) (by omega) y).mono ?_;rintro e w2 ⟨rfl,rfl⟩;rw[HT.out])|(go_at_call 66;refine(Dp z _).mono ?_;rintro e w1 ⟨rfl,rfl⟩;rw[HN.out]))
      go_ret;exact⟨by rw[x.out];rfl,t⟩
    | false =>
      have D:=Ar (show Hk E k=O by rw[c.out];rfl);by_cases C:O=0
      .subst C;have bp:=Ar (show Fh (Hk E) (k+1)=0 by rw[Ga N.out,D.out])
       go_wp2_with (first|(go_at_call 159;refine rR (Q8 Al cl m l _ (by omega) v) λw3 a=>?_;rw[B.out])|(go_at_call 158;refine(Yq _ q n k E z _ (by omega) (by omega) y).mono ?_;rintro e w2 ⟨rfl,rfl⟩;rw[HT.out])|(go_at_call 66;refine(Dp z _).mono ?_;rintro e w1 ⟨rfl,rfl⟩;rw[HN.out]))
       exact⟨⟨k+1,by omega,by go_num,bp,An t a⟩,by simp[intOf];omega⟩
      have x:=Ar (show C7 E=O by rw[<-D.out];exact HK.out (by rw[D.out];exact C));have e8:(O != 0)=true:=by simpa using C
      clear C
      go_wp2_with (first|(go_at_call 159;refine rR (Q8 Al cl m l _ (by omega) v) λw3 a=>?_;rw[B.out])|(go_at_call 158;refine(Yq _ q n k E z _ (by omega) (by omega) y).mono ?_;rintro e w2 ⟨rfl,rfl⟩;rw[HT.out])|(go_at_call 66;refine(Dp z _).mono ?_;rintro e w1 ⟨rfl,rfl⟩;rw[HN.out]))
      go_ret;exact⟨by rw[x.out];rfl,An t a⟩
 obtain rfl:n=k:=by omega
 have HO:=Ar (HZ.out N.out)
 have r:=Ar (λi (G:i<n)=>by
  have g:=Ph.1 N.out i G;unfold Hk at g;split at g
  .cases g
  split at g
  .cases g
  exact Er g:∀i,i<n->2<=(edg E i).ln.length/\(edg E i).ln.length<=40)
 clear HZ HA;have a7:n<=16:=by omega
 go_upto_region 16 with fail;obtain⟨wa,rfl⟩:∃wa:World,wa=wr:=⟨_,rfl⟩
 go_loopw [5,6,7] (λi _ _ wx=>∃k:Nat,k<=n/\i=.int .i64 k/\Hid (Bp (J2 E) k=false)/\Be w wx) λi _ _ _=>n-(intOf i).toNat
 case atStart=>exact⟨0,Nat.zero_le _,rfl,Ar (Bp.zero _),t⟩
 clear t N;obtain⟨k,hk,rfl,hp,t⟩:=hrel;by_cases o:k<n
 .obtain⟨b,c7,rfl,M⟩:=(hE.keep t).at_ o;let⟨j,hj⟩:=gN ((k+1) % n)
  have a1:j<n:=by rw[<-hj];exact Nat.mod_lt _ (by omega)
  have T2:((k:Int)+1) % (n:Int)=(j:Int):=by rw[<-hj,Int.natCast_emod];rfl
  have T1:Int.tmod ((k:Int)+1) (n:Int)=(j:Int):=by rw[Int.tmod_eq_emod_of_nonneg (by omega)];exact T2
  obtain⟨-,A1,e6,L,q1,q2,v⟩:=M k o;obtain⟨-,A2,e7,d1,r1,r2,r3⟩:=M j a1;have d:=Ar (show J2 E k=!eqS (gt (edg E k).ln ((edg E k).ln.length-1)) (gt (edg E j).ln 0) by unfold J2;rw[P.out,hj]);obtain⟨g1,-⟩:=r.out k o;obtain⟨g2,-⟩:=r.out _ a1;let⟨l1,W⟩:=gN ((edg E k).ln)
  let⟨l2,X⟩:=gN ((edg E j).ln)
  rw[W]at L q1 v g1 d;rw[X]at d1 r1 r3 g2 d;let⟨n1,a6⟩:=gN l1.length
  let⟨n2,a8⟩:=gN l2.length
  rw[a6]at L q1 v g1 d;rw[a8]at d1 r1 r3 g2;obtain⟨b1,o1,rfl,-,-⟩:=v.at_ (show 0<n1 by omega);obtain⟨b2,o2,rfl,-,-⟩:=r3.at_ (show 0<n2 by omega);let⟨m,Z⟩:=gN (n1-1)
  rw[Z]at d;let⟨x1,x2⟩:=v.cells (show m<n1 by omega);let⟨y1,y2⟩:=r3.cells (show 0<n2 by omega);let⟨⟨px,py⟩,ak⟩:∃p,gt l1 m=p:=⟨_,rfl⟩
  let⟨⟨qx,qy⟩,ar⟩:∃p,gt l2 0=p:=⟨_,rfl⟩
  rw[ak]at x1 x2 d;rw[ar]at y1 y2 d;have B1:(k:Int)<(n:Int):=by omega
  have B2:(j:Int)<(n:Int):=by omega
  have B3:¬((n:Int)=0):=by omega
  have B4:(m:Int)<(n1:Int):=by omega
  have B5:(0:Int)<(n2:Int):=by omega
  have W1:IntKind.i64.wrap ((n1:Int)-1)=(m:Int):=by rw[IntKind.wrap_i64];omega
  have W2:IntKind.i64.wrap ((k:Int)+1)=(k:Int)+1:=by rw[IntKind.wrap_i64];omega
  have W3:IntKind.i64.wrap (j:Int)=(j:Int):=by rw[IntKind.wrap_i64];omega
  have Aca:((n:Int) == 0)=false:=by simpa using B3
  rw[Nat.zero_mul,Nat.add_zero]at y1 y2;let⟨bb,T⟩:=gN (!eqS (px,py) (qx,qy))
  rw[T]at d;clear M W X a6 a8 ak ar v r3 hj Z;go_upto_region 18 with fail;go_quiet (fail);have S:=Bd t nq;have u:=Bd (Below.refl wr.heap.size wr) nq;let⟨Y,hY⟩:=gN (wr.drewN nq)
  go_upto_region 19 with fail;rw[hY]at S u ⊢;have X1:=Aq u x1;have X2:=Aq u x2;have Y1:=Aq u y1;have Y2:=Aq u y2;clear hY x1 x2 y1 y2 L d1 t u;go_quiet (fail);have a:=Bd S nq;clear B1 B2 B3 B4 B5 W1 W2 W3 T T1 T2 Aca;cases bb with
  | false =>
    have HP:=Bp.succ (f:=J2 E) hp.out d.out;go_wp2_with fail;exact⟨⟨k+1,by omega,by go_num,Ar HP,a⟩,by simp[intOf];omega⟩
  | true =>
    have x:=Ar (show C7 E=11 by rw[HO.out,if_pos (Bp.yes (f:=J2 E) o d.out)])
    go_wp2_with fail;go_ret;exact⟨by rw[x.out];rfl,a⟩
 obtain rfl:n=k:=by omega
 have F:=Ar (show C7 E=Bg (Bj E) (Bj E).length by rw[HO.out,hp.out];rfl)
 have Q:=Ar (show (Bj E).length<=n*40 by
  have:=Kt (E:=E) (n:=n) (λi G=>⟨by have:=(r.out i G).1;omega,(r.out i G).2⟩) (Nat.le_refl n);unfold Bj;rw[P.out];exact this)
 let⟨V,hV⟩:=gN (Bj E)
 rw[hV]at F Q;have bm:=Ar hV;clear hV
 go_wp2_with (first
  | (go_at_call 76;have N:=a;refine rR (Hr A3 c3 nv V _ (by omega) U R) λw4 bw=>?_)
  | (go_at_call 122;refine(Ado _ q n E _ (by omega) (hE.keep t) λi G=>⟨by have:=(r.out i G).1;omega,(r.out i G).2⟩).mono ?_;rintro e w3 ⟨v3,rfl,I,a⟩;rw[bm.out]at I;obtain⟨A3,c3,rfl,U,R,-⟩:=I.sps;have c4:=Q.out;let⟨nv,ai⟩:=gN V.length;rw[ai]at U R c4 I F ⊢;clear ai))
 go_ret;exact⟨by rw[F.out];rfl,An (An t a) bw⟩
theorem Adj(A:Option Addr) (a n:Nat) (E:List EdgeP) (w:World) (c:n<=a) (j:n<=9223372036854775807) (f:EdS w A n E) :
 Calls Tryz.prog 77 #[.slice A n a] w (Ng w (if C7 E=0 then (Bj E,0) else ([],C7 E))):=by
 by_cases d:C7 E=0
 .rw[if_pos d];obtain⟨r,l,i,-,-⟩:=D5 d;rw[f.1]at l i;have o:=Ar d;have m:=Ar (λk (p:k<n)=>by have:=Er (i k p).2;exact⟨by omega,this.2⟩:∀k,k<n->1<=(edg E k).ln.length/\(edg E k).ln.length<=40);clear d r i;go_in
  go_wp2_with (first
   | (go_at_call 122;refine(Ado A a n E _ l (f.keep b) m.out).mono ?_;rintro e u ⟨t,rfl,h,g⟩)
   | (go_at_call 112;refine rR (Ie A a n E _ c j f) λs b=>?_;rw[o.out]))
  go_ret2
  exact⟨_,rfl,OwG.lower h b.size,An b g⟩
 rw[if_neg d];have q:(C7 E != 0)=true:=by simpa using d
 clear d;go_in
 go_wp2_with (go_at_call 112;refine rR (Ie A a n E _ c j f) λs b=>?_)
 go_ret2
 exact⟨_,rfl,OwG.nil,b⟩
theorem Ah6 {f:Nat} (p:f=160\/f=164) (a b:Int) (w:World) (s : -1152921504606846976<=a) (t:a<=1152921504606846976) (u:0<b) (n:b<=1152921504606846976):Calls Tryz.prog f #[a,b] w λe r=>e=.returned (.int .i64 (F8 a b))/\w=r:=by
 rcases p with rfl|rfl
 all_goals
  have d:∀c:Int,0<=c->0<=(c+b) / (2*b)/\(c+b) / (2*b)<=c+b/\Int.tdiv (c+b) (2*b)=(c+b) / (2*b):=λc v=>⟨Int.ediv_nonneg (by omega) (by omega),Int.ediv_le_self (a:=c+b) (2*b) (by omega),Int.tdiv_eq_ediv_of_nonneg (by omega)⟩
  have o:¬2*b=0:=by omega
  by_cases h:a<0
  .have g:=Ar (show F8 a b = -((-2*a+b) / (2*b)) by unfold F8;rw[if_pos h,show 2 * -a = -2*a by omega]);let⟨j,k,i⟩:=d (-2*a) (by omega);clear d;let⟨q,hq⟩:=gN ((-2*a+b) / (2*b))
   rw[hq]at j i k g;have l:IntKind.i64.wrap (Int.tdiv (-2*a+b) (2*b))=q:=by rw[i,IntKind.wrap_i64];omega
   have m:IntKind.i64.wrap q=q:=by rw[IntKind.wrap_i64];omega
   clear hq;go_in
   go_wp2_with fail;go_ret;exact⟨by rw[g.out];rfl,rfl⟩
  have g:=Ar (show F8 a b=(2*a+b) / (2*b) by unfold F8;rw[if_neg h]);let⟨j,k,i⟩:=d (2*a) (by omega);clear d;let⟨q,hq⟩:=gN ((2*a+b) / (2*b))
  rw[hq]at j i k g;have l:IntKind.i64.wrap (Int.tdiv (2*a+b) (2*b))=q:=by rw[i,IntKind.wrap_i64];omega
  have m:IntKind.i64.wrap q=q:=by rw[IntKind.wrap_i64];omega
  clear hq;go_in
  go_wp2_with fail;go_ret;exact⟨by rw[g.out];rfl,rfl⟩
def Ad5:=@Ah6 160 (.inl rfl)
def Ac9:=@Ah6 164 (.inr rfl)
theorem Jc (n b:Int) (w:World) (a:0<=b) (c:b<=4611686018427387904):Calls Tryz.prog 111 #[n,b] w (Bz w (.bool (wI n b))):=by
 go_in;go_wp2;all_goals go_ret
 all_goals exact⟨Bn (by simp[wI]<;>omega),bl0⟩
theorem Al0(n:Nat) (w:World) (p:n<17592186044416):Calls Tryz.prog 163 #[(n:Int)] w λe y=>e=.returned (.int .i64 (Ca n:Int))/\w=y:=by
 have d:=Ar (Jn (n:=n) (by omega));go_enter Tryz.func163,Tryz.ntmps163;go_wp2_with fail;go_loopw [3,4,5] (λo u _ wr=>∃r s:Nat,r<=s/\s<=4194304/\o=.int .i64 (r:Int)/\u=.int .i64 (s:Int)/\Hid (r*r<=n/\n<(s+1)*(s+1))/\w=wr) λo u _ _=>(intOf u-intOf o).toNat
 case atStart=>exact⟨0,4194304,by omega,by omega,rfl,rfl,Ar ⟨by omega,by omega⟩,rfl⟩
 obtain⟨r,s,v,x,rfl,rfl,a,rfl⟩:=hrel;by_cases h:r=s
 .subst h;have i:=Ar (Og a.out.1 a.out.2 d.out.1 d.out.2);clear a d p;go_wp2_with fail;go_ret;exact⟨by rw[<-i.out];rfl,rfl⟩
 let⟨m,l⟩:=gN ((r+s+1) / 2)
 have b:r<m/\m<=s:=by omega
 have j:Int.tdiv ((r:Int)+s+1) 2=(m:Int):=by rw[Int.tdiv_eq_ediv_of_nonneg (by omega)];omega
 have z:IntKind.i64.wrap (Int.tdiv ((r:Int)+s+1) 2)=(m:Int):=by rw[j,IntKind.wrap_i64];omega
 let⟨q,hq⟩:=gN (m*m)
 have t:q<=17592186044416:=by
  rw[<-hq];exact Nat.mul_le_mul (show m<=4194304 by omega) (show m<=4194304 by omega)
 have A:(m:Int)*(m:Int)=(q:Int):=by rw[<-Int.natCast_mul,hq]
 have g:=Ar hq;clear hq l;obtain⟨b,f⟩:=b;by_cases k:q<=n
 .have c:=Ar (show m*m<=n/\n<(s+1)*(s+1) from ⟨by rw[g.out];exact k,a.out.2⟩)
  go_wp2_with fail;exact⟨⟨m,s,f,x,rfl,rfl,c,trivial⟩,by simp[intOf];omega⟩
 have c:=Ar (show r*r<=n/\n<(m-1+1)*(m-1+1) from ⟨a.out.1,by rw[Nat.sub_add_cancel (by omega),g.out];omega⟩)
 go_wp2_with fail;exact⟨⟨r,m-1,by omega,by omega,rfl,by go_num,c,trivial⟩,by simp[intOf];omega⟩
end Go.Proofs.YtlogblbfbihleaaGreat
