/- Lean texts of the claim. -/
import Derived.Test.YtlogblbfbihleaaGreatZr31
namespace Go.Proofs.YtlogblbfbihleaaGreat
set_option linter.all false
set_option maxRecDepth 100000
set_option maxHeartbeats 0
open Go.RowKit
variable{a:Nat}{b:StyleP}{e:List PlcP}{f:World}{g i:Int}{h:Value}{j:ShX}{k:Shp}
def wi (w:World) (l:List PlcP) (e:Ending) (a:World):Prop:=∃v,e=.returned v/\Tb a w.heap.size v l/\Be w a
theorem Kw(h:Bv b=0):b.mu.length=b.sz.length/\b.us.length<=12/\b.sz.length<=12/\∀i,i<b.us.length->0<=(use b.us i).pc/\(use b.us i).pc<b.pc.length/\1<=(use b.us i).ct/\(use b.us i).ct<=4:=by
 unfold Bv at h;split at h
 .rename_i g;exact absurd h g
 rename_i c;split at h
 .rename_i g;exact absurd h g
 split at h
 .cases h
 rename_i d;have a:C6 b=0:=by simpa using c
 unfold C6 at a;split at a
 .cases a
 split at a
 .cases a
 split at a
 .cases a
 rename_i k;split at a
 .cases a
 split at a
 .cases a
 rename_i l;refine⟨Classical.byContradiction λe=>k (Or.inl e),by omega,by omega,λi j=>?_⟩;cases hu:Ni b i with
 | true=>exact absurd (Bp.yes (f:=Ni b) j hu) d
 | false=>unfold Ni at hu;simp at hu;omega
theorem Lk {U:List UseP} {n:Nat} (h:∀i,i<n->(use U i).ct<=4):∀k,k<=n->(Fi U k).length<=4*k
 | 0,_=>by simp[Fi]
 | k+1,hk=>by
   have:=Lk h k (by omega);have:=h k (by omega);rw[Fi,List.length_append,List.length_map,List.length_range];omega
theorem pd(j:Nat):((j:Int) % 2 == 1)=decide (j % 2=1):=by
 cases h:decide (j % 2=1) with
 | true=>simp at h;rw[beq_iff_eq];omega
 | false=>simp at h;rw[beq_eq_false_iff_ne];omega
theorem Ana(vs:Array Value) (s:StyleP) (w:World) (a7:SmS s) (hv:StV w vs s) (h:Bv s=0):Calls Tryz.prog 16 #[.agg vs] w (wi w (Fi s.us s.us.length)):=by
 have HC:=Ar h;obtain⟨-,k1,-,k2⟩:=Kw h;have HU:=Ar k2;have HL:=Ar (Lk (U:=s.us) (n:=s.us.length) λi hi=>(k2 i hi).2.2.2);clear h k2;have N:=hv;obtain⟨A1,c1,A2,c2,A3,c3,A4,c4,A5,c5,A6,c6,rfl,⟨v1,v2,v3⟩,⟨v4,v5,v6⟩,⟨v7,v8,v9⟩,⟨ad,bx,O⟩,⟨c7,c9,ai⟩,ca,cb⟩:=hv;go_enter Tryz.func16,Tryz.ntmps16;go_upto_region 1 with fail;refine Bq λX p Q=>?_
 let⟨p0,p1,p2,p3,p4,p5,p6⟩:=st7 Q;have u:=N.keep p;have g:=O.keep p;let⟨n,hn⟩:=gN s.us.length
 rw[hn]at p4 g Q HU HL k1 ad u ⊢;have HN:=Ar hn;clear hn N v3 v6 v9 O ai;have E:=Q
 go_upto_region 5 with (go_at_call 15;refine rR (Fs _ s _ a7 u) λA o=>?_;rw[HC.out];let⟨x0,x1,x2,x3,x4,x5,x6⟩:=st7 (E.keep o))
 have vU:=g.keep o;have H:=An p o;clear x0 x1 x2 x3 x4 x5 x6 p0 p1 p2 p3 p4 p5 p6 Q E u g p o;go_loopw [3,4,5,14] (λv _ _ i wr=>∃k:Nat,k<=n/\i=.int .i64 k/\Tb wr A.heap.size v (Fi s.us k)/\Be A wr) λ_ _ _ i _=>n-(intOf i).toNat
 case atStart=>exact⟨0,Nat.zero_le _,rfl,OwG.nil,bl0⟩
 obtain⟨k,hk,rfl,c,l⟩:=hrel;by_cases I:k<n
 .obtain⟨b0,bl,rfl,V,W,Z⟩:=(vU.keep l).at_ I;let⟨u1,u2,u3,u4⟩:=HU.out k I;have C:=Ar (show Fi s.us (k+1)=Fi s.us k++(List.range (use s.us k).ct.toNat).map (Qh k (use s.us k).pr) from rfl);have a:=HL.out k hk;let⟨L,hL⟩:=gN (Fi s.us k)
  let⟨⟨pc,ct,f⟩,K⟩:∃x,use s.us k=x:=⟨_,rfl⟩
  rw[K]at V W Z u1 u2 u3 u4 C;rw[hL]at c C a;dsimp only at V W Z u1 u2 u3 u4 C;obtain⟨m,rfl⟩:∃m:Nat,ct=m:=⟨ct.toNat,by omega⟩
  rw[Int.toNat_natCast]at C;have S:=Ar a;clear K hL a;have B1:(k:Int)<(n:Int):=by omega
  go_upto_region 7 with fail;refine Bq λY y q=>?_
  have q1:Cq Y wr.heap.size 1 (m:Int):=(q.cell 1).trans rfl;have J:=OwG.keep c y;have G:=An l y;let⟨P,D⟩:=gN wr.heap.size
  rw[D]at q q1 ⊢;clear V W Z c l y D;go_upto_region 8 with fail;clear q1;go_loopw [3,6,7,21] (λv _ _ i wx=>∃j:Nat,j<=m/\i=.int .i64 j/\Tb wx A.heap.size v (L++(List.range j).map (Qh k f))/\Bf wx P 52 #[pc,(m:Int),.bool f]/\Be A wx) λ_ _ _ i _=>m-(intOf i).toNat
  case atStart=>exact⟨0,Nat.zero_le _,rfl,by rw[List.range_zero,List.map_nil,List.append_nil];exact J,q,G⟩
  clear J G q;obtain⟨j,hj,rfl,c,q,l⟩:=hrel;by_cases bb:j<m
  .have T:=Ar (show L++(List.range (j+1)).map (Qh k f)=(L++(List.range j).map (Qh k f))++[Qh k f j] by rw[List.range_succ,List.map_append,List.append_assoc];rfl)
   have a:(L++(List.range j).map (Qh k f)).length<=1000000:=by
    rw[List.length_append,List.length_map,List.length_range];have:=S.out;omega
   let⟨M,hM⟩:=gN (L++(List.range j).map (Qh k f))
   rw[hM]at c T a;clear hM;have q2:Cq wr P 2 (.bool f):=(q.cell 2).trans rfl;have B2:(j:Int)<(m:Int):=by omega
   have a6:=pd j;have t:=Ar (show Qh k f j=⟨0,(k:Int),(j:Int),f&&decide (j % 2=1),0,0,0⟩ from rfl);let⟨R,r⟩:=gN (decide (j % 2=1))
   rw[r]at a6 t;clear r;cases f with
   | true =>
     have b:=Bf.alloc q (.cells #[.int .i64 0,(k:Int),(j:Int),.bool R,.int .i64 0,.int .i64 0,.int .i64 0] 62)
     go_wp2_with (at_builtin;refine Eu rfl _ _ rfl A.heap.size _ M rfl (OwG.alloc c _) wr.heap.size 1 ⟨0,(k:Int),(j:Int),R,0,0,0⟩ 62 rfl (Bf.new _ _ _) a (Ao l _).size ?_;intro v7 w7 z d F)
     exact⟨⟨j+1,by omega,by go_num,by rw[T.out,t.out];exact z,(d.block P b.lt (OwG.neB (OwG.alloc c _) b (by decide))).trans b,Bk (Ao l _) (OwG.alloc c _) d⟩,by simp[intOf];omega⟩
   | false =>
     have b:=Bf.alloc q (.cells #[.int .i64 0,(k:Int),(j:Int),.bool false,.int .i64 0,.int .i64 0,.int .i64 0] 62)
     go_wp2_with (at_builtin;refine Eu rfl _ _ rfl A.heap.size _ M rfl (OwG.alloc c _) wr.heap.size 1 ⟨0,(k:Int),(j:Int),false,0,0,0⟩ 62 rfl (Bf.new _ _ _) a (Ao l _).size ?_;intro v7 w7 z d F)
     exact⟨⟨j+1,by omega,by go_num,by rw[T.out,t.out];exact z,(d.block P b.lt (OwG.neB (OwG.alloc c _) b (by decide))).trans b,Bk (Ao l _) (OwG.alloc c _) d⟩,by simp[intOf];omega⟩
  obtain rfl:m=j:=by omega
  go_wp2_with fail;exact⟨⟨k+1,by omega,by go_num,by rw[C.out];exact c,l⟩,by simp[intOf];omega⟩
 obtain rfl:n=k:=by omega
 go_wp2_with fail;go_ret;exact⟨_,rfl,by rw[HN.out];exact OwG.lower c H.size,An H l⟩
theorem Aig {f:Nat} (o:f=16\/f=19) (l:Array Value) (s:StyleP) (w:World) (i:SmS s) (k:StV w l s) (h:Bv s≠0):Calls Tryz.prog f #[.agg l] w (wi w []):=by
 rcases o with rfl|rfl
 have b:=@Fs
 rotate_left 1
 have b:=@N8
 rotate_left 1
 all_goals
  let⟨c,g⟩:=gN (Bv s)
  rw[g]at h;have m:=Ar g;have p:(c != 0)=true:=by simpa using h
  clear g h;have j:=k;obtain⟨A,G,B,H,C,I,D,J,E,K,F,L,rfl,⟨T,U,V⟩,⟨W,Y,Z⟩,⟨v7,v8,v9⟩,⟨q,r,t⟩,⟨u,v,x⟩,y,z⟩:=k;go_in;go_upto_region 1 with fail;refine Bq λX a n=>?_
  let⟨M,N,O,P,Q,R,S⟩:=st7 n
  go_wp2_with ((first|go_at_call 15|go_at_call 18);refine rR (b _ s _ i (j.keep a)) λw1 d=>?_;rw[m.out])
  go_ret;exact⟨_,rfl,OwG.nil,An a d⟩
def Anb:=@Aig 16 (.inl rfl)
def Ail:=@Aig 19 (.inr rfl)
theorem Aik(vs:Array Value) (s:StyleP) (w:World) (T:SmS s) (hv:StV w vs s) (h:Bv s=0):Calls Tryz.prog 19 #[.agg vs] w (wi w (Fi s.us s.us.length)):=by
 have HC:=Ar h;obtain⟨-,k1,-,V⟩:=Kw h;have HU:=Ar V;have HL:=Ar (Lk (U:=s.us) (n:=s.us.length) λi hi=>(V i hi).2.2.2);clear h V;have I:=hv;obtain⟨A1,c1,A2,c2,A3,c3,O,c4,A5,c5,A6,c6,rfl,⟨v1,v2,v3⟩,⟨v4,v5,v6⟩,⟨v7,v8,v9⟩,⟨Z,bq,J⟩,⟨bs,bt,a1⟩,bu,bw⟩:=hv;go_enter Tryz.func19,Tryz.ntmps19;go_upto_region 1 with fail;refine Bq λX o K=>?_
 let⟨p0,p1,p2,p3,N,p5,p6⟩:=st7 K;have u:=I.keep o;have g:=J.keep o;let⟨n,R⟩:=gN s.us.length
 rw[R]at N g K HU HL k1 Z u ⊢;have HN:=Ar R;clear R I v3 v6 v9 J a1
 go_upto_region 5 with (go_at_call 18;refine rR (N8 _ s _ T u) λB l=>?_;rw[HC.out])
 have vU:=g.keep l;have E:=K.keep l;have G:=An o l;clear p0 p1 p2 p3 N p5 p6 K u g o l;go_loopw [3,4,5] (λv i _ wr=>∃k:Nat,k<=n/\i=.int .i64 k/\Tb wr B.heap.size v (Fi s.us k)/\Be B wr) λ_ i _ _=>n-(intOf i).toNat
 case atStart=>exact⟨0,Nat.zero_le _,rfl,OwG.nil,bl0⟩
 obtain⟨k,hk,rfl,f,d⟩:=hrel;have N:Cq wr w.heap.size 4 (.slice O n c4):=((E.keep d).cell 4).trans rfl;by_cases z:k<n
 .obtain⟨b0,c,rfl,C⟩:∃b c,O=some ⟨b,c,none⟩/\∀W,Be B W->Cq W w.heap.size 4 (.slice O n c4)/\Cq W b (c+k*3+1) (use s.us k).ct/\Cq W b (c+k*3+2) (.bool (use s.us k).pr):=by
   obtain⟨b,c,e,-⟩:=vU.at_ z;refine⟨b,c,e,λW hW=>⟨((E.keep hW).cell 4).trans rfl,?_⟩⟩;obtain⟨b',b1,e',-,q⟩:=(vU.keep hW).at_ z;rw[e]at e';cases e'
   exact q
  obtain⟨-,-,u3,u4⟩:=HU.out k z;have D:=Ar (show Fi s.us (k+1)=Fi s.us k++(List.range (use s.us k).ct.toNat).map (Qh k (use s.us k).pr) from rfl);have a:=HL.out k hk;let⟨L,hL⟩:=gN (Fi s.us k)
  let⟨⟨pc,ct,p⟩,H⟩:∃x,use s.us k=x:=⟨_,rfl⟩
  rw[H]at C u3 u4 D;rw[hL]at f D a;dsimp only at C u3 u4 D;obtain⟨m,rfl⟩:∃m:Nat,ct=m:=⟨ct.toNat,by omega⟩
  rw[Int.toNat_natCast]at D;have P:=Ar a;have C:=Ar C;clear H hL a;have B1:(k:Int)<(n:Int):=by omega
  go_upto_region 8 with fail;clear N;go_loopw [3,5] (λv i wx=>∃j:Nat,j<=m/\i=.int .i64 j/\Tb wx B.heap.size v (L++(List.range j).map (Qh k p))/\Be B wx) λ_ i _=>m-(intOf i).toNat
  case atStart=>exact⟨0,Nat.zero_le _,rfl,by rw[List.range_zero,List.map_nil,List.append_nil];exact f,d⟩
  clear f d;obtain⟨j,hj,rfl,f,d⟩:=hrel;let⟨q4,q1,q2⟩:=C.out _ d;by_cases b8:j<m
  .have Q:=Ar (show L++(List.range (j+1)).map (Qh k p)=(L++(List.range j).map (Qh k p))++[Qh k p j] by rw[List.range_succ,List.map_append,List.append_assoc];rfl)
   have a:(L++(List.range j).map (Qh k p)).length<=1000000:=by
    rw[List.length_append,List.length_map,List.length_range];have:=P.out;omega
   let⟨M,hM⟩:=gN (L++(List.range j).map (Qh k p))
   rw[hM]at f Q a;clear hM;have B2:(j:Int)<(m:Int):=by omega
   have S:=pd j;have t:=Ar (show Qh k p j=⟨0,(k:Int),(j:Int),p&&decide (j % 2=1),0,0,0⟩ from rfl);let⟨Y,r⟩:=gN (decide (j % 2=1))
   rw[r]at S t;clear r;cases p with
   | true =>
     go_wp2_with (at_builtin;refine Eu rfl _ _ rfl B.heap.size _ M rfl (OwG.alloc f _) wr.heap.size 1 ⟨0,(k:Int),(j:Int),Y,0,0,0⟩ 62 rfl (Bf.new _ _ _) a (Ao d _).size ?_;intro v7 w7 A y F)
     exact⟨⟨j+1,by omega,by go_num,by rw[Q.out,t.out];exact A,Bk (Ao d _) (OwG.alloc f _) y⟩,by simp[intOf];omega⟩
   | false =>
     go_wp2_with (at_builtin;refine Eu rfl _ _ rfl B.heap.size _ M rfl (OwG.alloc f _) wr.heap.size 1 ⟨0,(k:Int),(j:Int),false,0,0,0⟩ 62 rfl (Bf.new _ _ _) a (Ao d _).size ?_;intro v7 w7 A y F)
     exact⟨⟨j+1,by omega,by go_num,by rw[Q.out,t.out];exact A,Bk (Ao d _) (OwG.alloc f _) y⟩,by simp[intOf];omega⟩
  obtain rfl:m=j:=by omega
  go_wp2_with fail;exact⟨⟨k+1,by omega,by go_num,by rw[D.out];exact f,d⟩,by simp[intOf];omega⟩
 obtain rfl:n=k:=by omega
 go_wp2_with fail;go_ret;exact⟨_,rfl,by rw[HN.out];exact OwG.lower f G.size,An G d⟩
theorem Aev(b:Array Value) (s:StyleP) (w:World) (a:SmS s) (c:StV w b s):Calls Tryz.prog 19 #[.agg b] w (wi w (Kq s)):=by
 unfold Kq;by_cases h:Bv s=0
 .rw[if_neg (by rw[h];simp)];exact Aik b s w a c h
 rw[if_pos h];exact Ail b s w a c h
theorem gl(b:Array Value) (s:StyleP) (w:World) (a:SmS s) (c:StV w b s):Calls Tryz.prog 16 #[.agg b] w (wi w (Kq s)):=by
 unfold Kq;by_cases h:Bv s=0
 .rw[if_neg (by rw[h];simp)];exact Ana b s w a c h
 rw[if_pos h];exact Anb b s w a c h
theorem kf(w:World):Calls Tryz.prog 23 #[] w (Bz w (.agg #[.bool true,.int .i64 0])):=by
 go_in;go_upto_region 1 with fail;refine Bq λX a b=>?_
 obtain⟨g,h,e,f,-⟩:=b.pair;go_wp2;obtain⟨c,d,-,-,-⟩:=((b.set_ 0 (.bool true)).set_ 1 (.int .i64 0)).pair;exact bR ⟨rfl,Ba (Ba a (p:=⟨w.heap.size,0,none⟩) (Nat.le_refl _) _) (p:=⟨w.heap.size,1,none⟩) (Nat.le_refl _) _⟩ rfl (by simp[results,Tryz.results23,go_sem,c,d])
def plV (c:PlcP):Array Value:=#[c.ga,c.us,c.cp,.bool c.fl,c.qu,c.x,c.y]
def Acn (w:World) (r:Shp×Int) (e:Ending) (g:World):Prop:=∃A n c d f a b,e=.returned (.tuple #[.agg #[.slice A n c,.int .i64 d,.bool f,.int .i64 a,.int .i64 b],r.2])/\(r.2=0->ShV g w.heap.size ⟨A,n,c,d,f,a,b⟩ r.1)/\Be w g
theorem Zk{w:World}   {l:LP} (d:OwS w a h l):∃A c,h=.slice A l.length c/\c<=9223372036854775807/\l.length<=c/\SpS w A l.length l/\ElS w a (.slice A l.length c) l:=by
 rcases OwG.form d with⟨rfl,rfl⟩|⟨g,p,rfl,q,t,u,k⟩
 .exact⟨none,0,rfl,(by omega),Nat.le_refl _,⟨rfl,.inl rfl⟩,none,0,rfl,Nat.le_refl _,⟨rfl,.inl rfl⟩,(λ_=>rfl),(λo d=>by cases d)⟩
 let⟨A,c,e,m,n,v⟩:=OwS.sps d;injection e with e1 e2 e3
 subst e1 e3;refine⟨_,_,rfl,(by unfold maxLen at k;exact k),m,n,_,_,rfl,m,n,(λd=>by cases d),λo i=>?_⟩;injection i with i
 subst i;refine⟨q,?_⟩;rcases d.2 with⟨b,_⟩|⟨s,j,f,b,_,r,_⟩
 .cases b
 injection b with b
 injection b with b
 injection b with b
 subst b;exact⟨f,(0,0),r⟩
theorem sh5{w:World}  {t:TypeId} {b c d e:Value} (H:Bf w a t #[h,b,c,d,e]):Cq w a 0 h/\Cq w a 1 b/\Cq w a 2 c/\Cq w a 3 d/\Cq w a 4 e :=
 ⟨(H.cell 0).trans rfl,(H.cell 1).trans rfl,(H.cell 2).trans rfl,(H.cell 3).trans rfl,(H.cell 4).trans rfl⟩
theorem Aol(k:Array Value) (s:StyleP) (z:Int) (c:PlcP) (w:World) (g:SmS s) (j:StV w k s) (h:(J5 s z c.us).2≠0) :
 Calls Tryz.prog 17 #[.agg k,z,.agg (plV c)] w (Acn w (Xm,(J5 s z c.us).2)):=by
 let⟨e,f⟩:=gN (J5 s z c.us)
 rw[f]at h ⊢;have m:=Ar f;obtain⟨l,x⟩:=e;dsimp only at h ⊢;have r:(x != 0)=true:=by simpa using h
 have n:=Ar h;clear f h;obtain⟨L,R,M,S,N,T,O,U,P,V,Q,W,rfl,⟨C,v2,v3⟩,⟨v4,v5,v6⟩,⟨v7,v8,v9⟩,⟨D,E,F⟩,⟨G,H,I⟩,J,K⟩:=id j;obtain⟨ga,B,Y,fl,qu,Z,cy⟩:=c;dsimp only at *
 unfold plV;go_enter Tryz.func17,Tryz.ntmps17;go_upto_region 1 with fail;refine Jy λX d p o q=>?_
 let⟨p0,p1,p2,p3,p4,p5,p6⟩:=st7 p;let⟨k0,k1,k2,k3,k4,k5,k6⟩:=st7 o;have i:=j.keep d
 go_upto_region 3 with (go_at_call 38;refine(tz _ s z B _ g i).mono ?_;rintro e w1 ⟨C,rfl,-,b⟩;rw[m.out];have a:=q.keep b;let⟨q0,q1,q2,q3,q4⟩:=sh5 a;have g0:=a.frozen 0;have g1:=a.frozen 1;have g2:=a.frozen 2;have g3:=a.frozen 3;have g4:=a.frozen 4)
 go_wp2_with fail;let⟨t,u,s2,y,A⟩:=sh5 (((((a.set_ 0 (.slice none 0 0)).set_ 1 (.int .i64 0)).set_ 2 (.bool false)).set_ 3 (.int .i64 0)).set_ 4 (.int .i64 0));exact bR ⟨none,0,0,0,false,0,0,rfl,λh=>absurd h n.out,raw5 (An d b) (by omega) 0 _ _ _ _ _⟩ rfl (by simp[results,Tryz.results17,go_sem,t,u,s2,y,A])
theorem Aef(h:(J5 b g i).2=0):(Rn b g i).2=0/\(Ii b g i).2=0:=by
 unfold J5 at h;split at h
 .rename_i a;exact absurd h a
 rename_i a;unfold Rn;rw[if_neg a];exact⟨rfl,by simpa using a⟩
theorem Agw(h:(J5 b g i).2=0):Bg (J5 b g i).1 (J5 b g i).1.length=0:=by
 unfold J5 at h ⊢;split at h
 .rename_i a;exact absurd h a
 rename_i a;rw[if_neg a];unfold Ff at h ⊢;split at h
 .rename_i a;exact absurd h a
 rename_i d;split at h
 .cases h
 rename_i e;split at h
 .rename_i a;exact absurd h a
 rename_i c;split at h
 .cases h
 rename_i f;rw[if_neg d,if_neg e,if_neg c,if_neg f];simpa using c
theorem tu(h:(J5 b g i).2=0):(J5 b g i).1.length<=1000000:=by
 have:=(El (Agw h)).2;omega
theorem Aok(vs:Array Value) (s:StyleP) (z:Int) (c:PlcP) (w:World) (L:SmS s) (hv:StV w vs s) (h:(J5 s z c.us).2=0) :
 Calls Tryz.prog 17 #[.agg vs,z,.agg (plV c)] w (Acn w (Fq s z c)):=by
 let⟨m,h3⟩:=Aef h
 have HS:=Ar (show Fq s z c=(⟨if c.fl then F6 true 0 (J5 s z c.us).1 else (J5 s z c.us).1,(Cg s c.us).gr,(Cg s c.us).mt,if c.fl then Cd true 0 (Rn s z c.us).1 else (Rn s z c.us).1⟩,0) by
  unfold Fq;rw[if_neg (by rw[h];simp),if_neg (by rw[m];simp)])
 have b5:=Ar (tu h);have HO:=Ar (Ry (s:=s) (z:=z) (u:=c.us) (E:=(Ii s z c.us).1) (Prod.ext rfl h3));let⟨e,he⟩:=gN (J5 s z c.us)
 let⟨b,q⟩:=gN (Rn s z c.us)
 rw[he]at h HS b5;rw[q]at m HS;have HE:=Ar he;have HB:=Ar q;obtain⟨l,x⟩:=e;obtain⟨⟨bx,bY⟩,y⟩:=b;dsimp only at h m;subst h m;clear he q h3;obtain⟨A1,c1,A2,c2,A3,c3,A4,c4,A5,c5,A6,c6,rfl,⟨v1,v2,v3⟩,⟨v4,v5,v6⟩,⟨v7,v8,v9⟩,⟨gx,n1,M⟩,⟨n2,n5,gy⟩,n9,na⟩:=id hv;obtain⟨ga,us,cp,fl,qu,cx,cy⟩:=c;dsimp only at *
 unfold plV;go_enter Tryz.func17,Tryz.ntmps17;go_upto_region 1 with fail;refine Jy λX K hP hK hR=>?_
 let⟨p0,p1,p2,p3,p4,p5,p6⟩:=st7 hP;let⟨k0,k1,k2,k3,k4,k5,k6⟩:=st7 hK;have ad:=hv.keep K
 go_upto_region 4 with (go_at_call 38;refine(tz _ s z us _ L ad).mono ?_;rintro e w1 ⟨v1,rfl,a8,C⟩;rw[HE.out]at a8 ⊢;let⟨k0,k1,k2,k3,k4,k5,k6⟩:=st7 (hK.keep C);let⟨p0,p1,p2,p3,p4,p5,p6⟩:=st7 (hP.keep C))
 go_upto_region 7 with (go_at_call 39;refine rR (ic _ s z us _ L (ad.keep C)) λw2 J=>?_;rw[HB.out])
 refine Bq λY a hA=>?_
 have c7:=b5.out;obtain⟨Ap,cp,rfl,ec,ek,a1,T⟩:=Zk a8;let⟨np,a7⟩:=gN l.length
 rw[a7]at ek a1 T c7 ⊢;have cz:=Ar a7;have g:=An C J;have U:=hK.keep g;have bq:=hP.keep g;have W:=hR.keep g;have e8:=An K g;have bu:=(a1.keep J).keep a;have bl:=(T.keep J).keep a;have bp:=U.keep a;have cc:X.heap.size<=w2.heap.size:=g.size;have e6:w.heap.size<=X.heap.size:=K.size;have bt:w.heap.size+1+1<w2.heap.size:=W.lt;have l3:w.heap.size+1+1<X.heap.size:=hR.lt;let⟨k0,k1,k2,k3,k4,k5,k6⟩:=st7 bp;let⟨BA,S⟩:=gN w2.heap.size
 replace a:Below w2.heap.size w2 Y:=a;rw[S]at hA a bt cc ⊢;let⟨PL,V⟩:=gN (if fl=true then F6 true 0 l else l)
 let⟨⟨ax,ay⟩,a6⟩:∃p,(if fl=true then Cd true 0 (bx,bY) else (bx,bY))=p:=⟨_,rfl⟩
 rw[V,a6]at HS;have cw:=Ar S;have b6:=Ar V;have b2:=Ar a6;clear a1 T a8 K hK hP hR C J a7 S V a6 ad
 go_upto_if 39 with fail
 go_cut [8,11] from 37 to 64 λv8 _ wx=>∃A' n' c',v8=.slice A' n' c'/\n'=PL.length/\c'<=9223372036854775807/\ElS wx X.heap.size (.slice A' n' c') PL/\Bf wx BA 60 #[ax,ay]/\Below BA w2 wx
 case first =>
  cases fl with
  | false =>
    have h1:=b6.out;have m:=b2.out;simp only[Bool.false_eq_true,if_false]at h1 m;subst h1;injection m with m h3
    subst m h3;go_wp2_with fail;go_meet;exact⟨Ap,np,cp,rfl,cz.out.symm,ec,bl,hA,a⟩
  | true =>
    have h1:=b6.out;have m:=b2.out;simp only[if_true]at h1 m;subst h1;have da:=Ar (show (Cd true 0 (bx,bY)).1=ax by rw[m]);have db:=Ar (show (Cd true 0 (bx,bY)).2=ay by rw[m]);clear m;go_upto_region 9 with fail;refine Bq λZ F hM=>?_
    let⟨BM,e0⟩:=gN Y.heap.size
    have t:=hA.keep F;have e5:=bu.keep F;have O:BA<=Z.heap.size:=Nat.le_of_lt t.lt;rw[e0]at hM ⊢;have l4:BM≠BA:=by have:=hA.lt;omega
    obtain⟨z0,z1,-,-,-⟩:=t.pair;obtain⟨m0,m1,-,-,-⟩:=hM.pair;have d:=Aw (Below.refl Z.heap.size Z)
    go_region_law ((first
     | (go_simp;go_at_call 41;(with_reducible refine(G8 true 0 bx bY _).mono ?_);rintro e w6 ⟨rfl,bw⟩;rw[da.out,db.out];replace d:=An d bw;obtain⟨y0,y1,f0,f1,-⟩:=(t.keep d).pair)
     | (go_simp;go_at_call 40;(with_reducible refine(Ti true 0 Ap cp np l _ c7 (e5.keep d)).mono ?_);rintro e w5 ⟨v5,rfl,eo,e7⟩;replace d:=An d e7;obtain⟨y0,y1,-,-,-⟩:=(t.keep d).pair;obtain⟨m0,m1,-,-,-⟩:=(hM.keep d).pair)))
    all_goals go_wp2_with fail
    all_goals go_meet
    all_goals obtain⟨A5,c5,rfl,q1,q2,q3,q4⟩:=Zk (OwG.keep eo bw)
    all_goals refine⟨A5,_,c5,rfl,rfl,q1,(q4.keepAbove λk cs fr hk _=>?_).lower (Nat.le_trans cc O),((t.keep d).set_ 0 _).set_ 1 _,Below.setCell (Below.setCell ((a.trans (F.mono (Nat.le_of_lt hA.lt))).trans (d.mono O)) (Nat.le_refl _) _) (Nat.le_refl _) _⟩
    all_goals have j:k≠BA:=by have h1:=t.lt;have m:Z.heap.size<=k:=hk;omega
    all_goals exact(Dv _ _ _ _ j).trans (Dv _ _ _ _ j)
 obtain⟨A8,n8,c8,rfl,-,e9,bd,bc,A⟩:=hcut;rw[<-cw.out]at A;have I:=bq.keep A;have bm:=U.keep A;have bs:=W.keep A;have D:=An e8 A;have ai:=v9.keep D;have G:=M.keep D;obtain⟨o1,-,-,o4,o5,-⟩:=HO.out;obtain⟨u,rfl⟩:∃u:Nat,us=u:=⟨us.toNat,by omega⟩
 have hu:u<s.us.length:=by omega
 have cd:=(Rr o1).2 u hu;have y3:=L.pc;have y4:=L.us;have H:=Ar cd;clear cd o1 o4 o5 k0 k1 k2 k3 k4 k5 k6 bq U W hA bp bu bl a v3 v6 v9 M gy;let⟨n3,c9⟩:=gN s.pc.length
 let⟨n4,ca⟩:=gN s.us.length
 rw[c9]at ai H v7 y3 I;rw[ca]at G gx y4 hu I;clear c9 ca;obtain⟨b4,o4,rfl,e4,-,-⟩:=G.at_ hu;let⟨i,hi⟩:∃i:Nat,(use s.us u).pc=i:=⟨(use s.us u).pc.toNat,by have:=H.out;omega⟩
 have eg:i<n3:=by have:=H.out.2.1;rw[hi]at this;omega
 have b7:=Ar (show Cg s u=pce s.pc i by unfold Cg;rw[show ((u:Int)).toNat=u by omega,hi];rfl);rw[hi]at e4;obtain⟨N,R,rfl,ng,Q,P⟩:=ai.at_ eg;let⟨f,cb⟩:=gN (pce s.pc i)
 rw[cb]at Q b7;rw[b7.out]at HS;obtain⟨E1,d1,E2,d2,E3,d3,E4,d4,rfl,-⟩:=Q;have x0:=P 0 _ rfl;rw[Nat.add_zero]at x0;have x1:=P 1 _ rfl;have x2:=P 2 _ rfl;have x3:=P 3 _ rfl;have x4:=P 4 _ rfl;have x5:=P 5 _ rfl;have x6:=P 6 _ rfl;have B2:(u:Int)<(n4:Int):=by omega
 have B4:(i:Int)<(n3:Int):=by omega
 have KF:∀r,Be wc r->(Cq r w.heap.size 3 (.slice (some ⟨N,R,none⟩) n3 c3)/\Cq r w.heap.size 4 (.slice (some ⟨b4,o4,none⟩) n4 c4)/\Cq r (w.heap.size+1) 1 (u:Int)/\Cq r b4 (o4+u*3) (i:Int)/\Cq r N (R+i*7) (.string f.nm)/\Cq r N (R+i*7+1) (.slice E1 f.ed.length d1)/\Cq r N (R+i*7+2) f.gr/\Cq r N (R+i*7+3) (.slice E2 f.nt.length d2)/\Cq r N (R+i*7+4) (.slice E3 f.cr.length d3)/\Cq r N (R+i*7+5) (.slice E4 f.wd.length d4)/\Cq r N (R+i*7+6) (.bool f.mt)):=λr q=>by
  obtain⟨-,-,-,j3,j4,-,-⟩:=st7 (I.keep q);exact⟨j3,j4,(st7 (bm.keep q)).2.1,Aq q e4,Aq q x0,Aq q x1,Aq q x2,Aq q x3,Aq q x4,Aq q x5,Aq q x6⟩
 have d:=Aw (Below.refl wc.heap.size wc);clear P cb hi e4 x0 x1 x2 x3 x4 x5 x6 ai G H;go_upto_region 10 with fail;go_cut [12] λM wx=>M=.pointer (some ⟨wc.heap.size,0,none⟩)/\Be wc wx/\Bf wx wc.heap.size 48 #[.string f.nm,.slice E1 f.ed.length d1,f.gr,.slice E2 f.nt.length d2,.slice E3 f.cr.length d3,.slice E4 f.wd.length d4,.bool f.mt]
 case first =>
  go_region_held3 (sB KF)
   (first
    | with_reducible exact KF _ d
    | with_reducible exact KF _ (Aw blA))
   (fail)
  all_goals go_wp2_with fail
  all_goals go_meet
  all_goals exact⟨rfl,Aw blA,Bf.drew (Bf.new _ _ _)⟩
 obtain⟨rfl,a,hQ⟩:=hcut;have o:=bs.keep a;have dy:=bc.keep a;obtain⟨y0,y1,-,-,-⟩:=dy.pair;obtain⟨-,-,q2,-,-,-,q6⟩:=pc7 hQ;let⟨r0,r1,r2,r3,r4⟩:=sh5 o;have f0:=o.frozen 0;have f1:=o.frozen 1;have f2:=o.frozen 2;have f3:=o.frozen 3;have f4:=o.frozen 4;have F:=An D a;have e1:=bd.keep a;clear KF d I bm bs bc A a bd;go_wp2_with fail;let⟨s0,s1,s2,s3,s4⟩:=sh5 (((((o.set_ 0 (.slice A8 n8 c8)).set_ 1 (.int .i64 f.gr)).set_ 2 (.bool f.mt)).set_ 3 (.int .i64 ax)).set_ 4 (.int .i64 ay));refine bodyPost_ret (v:=.tuple #[.agg #[.slice A8 n8 c8,f.gr,.bool f.mt,ax,ay],.int .i64 0]) (by simp[results,Tryz.results17,go_sem,s0,s1,s2,s3,s4]) rfl ⟨A8,n8,c8,f.gr,f.mt,ax,ay,by rw[HS.out],λ_=>?_,raw5 F (by omega) 0 _ _ _ _ _⟩;rw[HS.out];refine⟨rfl,rfl,rfl,rfl,(e1.keepAbove λk cs fr hk _=>?_).lower e6,e9⟩;have j:k≠w.heap.size+1+1:=by omega
 exact(Dv _ _ _ _ j).trans ((Dv _ _ _ _ j).trans ((Dv _ _ _ _ j).trans ((Dv _ _ _ _ j).trans (Dv _ _ _ _ j))))
theorem Vw(b:Array Value) (s:StyleP) (z:Int) (c:PlcP) (w:World) (a:SmS s) (d:StV w b s) :
 Calls Tryz.prog 17 #[.agg b,z,.agg (plV c)] w (Acn w (Fq s z c)):=by
 by_cases h:(J5 s z c.us).2=0
 .exact Aok b s z c w a d h
 rw[show Fq s z c=(Xm,(J5 s z c.us).2) by unfold Fq;rw[if_pos h]];exact Aol b s z c w a d h
theorem gd {S:List Shp} {r:LP} {ps:List Pt5}:∀k,J3 S r ps k=0↔∀j,j<k->(Br S (pt ps j)).1=0/\Gm (Br S (pt ps j)).2 r=(false,0)
 | 0=>by simp[J3]
 | k+1=>by
   have ih:=gd (S:=S) (r:=r) (ps:=ps) k;rw[J3];constructor
   .intro h;split at h
    .rename_i g;exact absurd h g
    rename_i b;split at h
    .rename_i g;exact absurd h g
    rename_i c;split at h
    .rename_i g;exact absurd h g
    rename_i d;split at h
    .cases h
    rename_i e;intro j f;rcases Nat.lt_or_ge j k with a|a
    .exact(ih.1 (by simpa using b)) j a
    obtain rfl:j=k:=by omega
    exact⟨by simpa using c,Prod.ext (by simpa using e) (by simpa using d)⟩
   intro h;rw[if_neg (by rw[ih.2 λj f=>h j (by omega)];simp),if_neg (by rw[(h k (by omega)).1];simp),(h k (by omega)).2];simp
theorem Afd{b:List Pt5} {j:Nat} (h:j<a):pt (b.take a) j=pt b j:=by
 unfold pt;simp[List.getD,h]
def kI (C:List PlcP) (p:PlcP):Int:=Sf C p C.length
def Al9 (C:List PlcP) (p:PlcP):Pt5:=⟨kI C p,false,p.qu,p.x,p.y⟩
theorem Wk (C:List PlcP) (p:PlcP):∀n,Sf C p n<n
 | 0=>by simp[Sf]
 | n+1=>by
   rw[Sf];have:=Wk C p n;split<;>omega
theorem nu(h:a<e.length):plc e a=e[a]:=by
 unfold plc;rw[List.getD,List.getElem?_eq_getElem h];rfl
theorem Agh{l:List Bool} {t:Nat} (h:a<l.length):gbo (l.set a true) t=if a=t then true else gbo l t:=by
 unfold gbo;rw[List.getD,List.getD,List.getElem?_set];by_cases e:a=t
 .subst e;simp[h]
 simp[e]
theorem Xu(h:a<e.length):e.take (a+1)=e.take a++[plc e a]:=by
 rw[List.take_succ_eq_append_getElem h,nu h]
theorem S5 {C P:List PlcP}:∀k,k<=P.length->(Hh C P k).1=0->(∀p∈P.take k,0<=kI C p)/\((P.take k).map (kI C)).Nodup/\(Hh C P k).2.2=(P.take k).map (Al9 C)/\(Hh C P k).2.1.length=C.length/\∀t:Nat,(gbo (Hh C P k).2.1 t=true↔(t:Int)∈(P.take k).map (kI C))
 | 0,_,_=>by
   refine⟨by simp,by simp,by simp[Hh],by simp[Hh],λt=>?_⟩;unfold Hh gbo;simp[List.getD,List.getElem?_replicate];split<;>simp
 | k+1,hk,h=>by
   have ih:=S5 (C:=C) (P:=P) k (by omega);rw[Hh]at h ⊢;split at h
   .rename_i g;exact absurd h g
   rename_i i;let⟨s,u,v,m,n⟩:=ih (by simpa using i);rw[if_neg i];split at h
   .cases h
   rename_i o;rw[if_neg o];split at h
   .cases h
   rename_i j;rw[if_neg j,Xu (by omega)];have f:(Sf C (plc P k) C.length).toNat<(Hh C P k).2.1.length:=by rw[m];have:=Wk C (plc P k) C.length;omega
   have d:¬kI C (plc P k)∈(P.take k).map (kI C):=by
    intro r
    have:=(n (Sf C (plc P k) C.length).toNat).2 (by
     have e:(((Sf C (plc P k) C.length).toNat:Nat):Int)=kI C (plc P k):=by unfold kI;omega
     rw[e];exact r)
    exact j this
   refine⟨λp c=>?_,?_,?_,?_,λt=>?_⟩
   .rcases List.mem_append.1 c with c|c
    .exact s p c
    simp at c;subst c;unfold kI;omega
   .rw[List.map_append,List.nodup_append];exact⟨u,by simp,λa q b l e=>by simp at l;subst l;exact d (e ▸ q)⟩
   .rw[v,List.map_append];rfl
   .rw[List.length_set];exact m
   dsimp only;rw[Agh f,List.map_append,List.mem_append];by_cases e:(Sf C (plc P k) C.length).toNat=t
   .rw[if_pos e];have:(t:Int)=kI C (plc P k):=by unfold kI;omega
    simp[this]
   rw[if_neg e,n t];have:¬(t:Int)=kI C (plc P k):=by unfold kI;omega
   simp[this]
def kt (c:PlcP):Int×Int×Int:=(c.ga,c.us,c.cp)
theorem Y8{c p:PlcP}:Ahm c p=true↔kt c=kt p:=by
 unfold Ahm kt;simp[and_assoc]
theorem q8 (C:List PlcP) (p:PlcP):∀n,(Sf C p n = -1/\∀t,t<n->Ahm (plc C t) p=false)\/∃k:Nat,Sf C p n=k/\k<n/\Ahm (plc C k) p=true
 | 0=>.inl ⟨rfl,λt ht=>by omega⟩
 | n+1=>by
   rw[Sf];by_cases h:Ahm (plc C n) p=true
   .rw[if_pos h];exact .inr ⟨n,rfl,by omega,h⟩
   rw[if_neg h];rcases q8 C p n with⟨a,b⟩|⟨k,a,b,c⟩
   .refine .inl ⟨a,λt ht=>?_⟩;rcases Nat.lt_or_ge t n with g|g
    .exact b t g
    obtain rfl:t=n:=by omega
    simpa using h
   exact .inr ⟨k,a,by omega,c⟩
theorem Rg (U:List UseP):∀i,((Fi U i).map kt).Nodup/\∀c∈Fi U i,0<=c.us/\c.us<i
 | 0=>by simp[Fi]
 | i+1=>by
   let⟨j,h⟩:=Rg U i;rw[Fi];refine⟨?_,λc f=>?_⟩
   .rw[List.map_append,List.nodup_append];refine⟨j,?_,λa l b m e=>?_⟩
    .rw[List.map_map];refine List.Pairwise.map _ ?_ List.nodup_range;intro a b g e;have:=congrArg (λz=>z.2.2) e;simp[kt,Qh]at this;exact g (by omega)
    subst e;obtain⟨c,f,rfl⟩:=List.mem_map.1 l;let⟨d,n,e⟩:=List.mem_map.1 m;obtain⟨k,_,rfl⟩:=List.mem_map.1 n;have:=congrArg (λz=>z.2.1) e;simp[kt,Qh]at this;have:=(h c f).2;omega
   rcases List.mem_append.1 f with f|f
   .have:=h c f;omega
   obtain⟨k,_,rfl⟩:=List.mem_map.1 f;unfold Qh;dsimp only;omega
def Sn (C:List PlcP):Nat->List PlcP
 | 0=>[]
 | j+1=>Sn C j++C.map (Ts · (j:Int))
theorem V5 {s:StyleP} {z j:Int} {C:List PlcP} {a:Int×List Shp×List PlcP}:∀k,k<=C.length->(Hi s z j C a k).1=0 ->
 a.1=0/\(∀c∈C.take k,(Fq s z c).2=0)/\Hi s z j C a k=(0,a.2.1++(C.take k).map λc=>(Fq s z c).1,a.2.2++(C.take k).map (Ts · j))
 | 0,_,h=>by
   refine⟨h,by simp,?_⟩;simp[Hi];exact Prod.ext h rfl
 | k+1,hk,h=>by
   rw[Hi]at h ⊢;split at h
   .rename_i g;exact absurd h g
   rename_i d;let⟨f,i,l⟩:=V5 (s:=s) (z:=z) (j:=j) (C:=C) (a:=a) k (by omega) (by simpa using d);split at h
   .rename_i g;exact absurd h g
   rename_i e;rw[if_neg d,if_neg e,l,Xu (by omega)];refine⟨f,λc b=>?_,by simp⟩;rcases List.mem_append.1 b with b|b
   .exact i c b
   simp at b;subst b;simpa using e
def ie (s:StyleP) (Z:List Int) (C:List PlcP):Nat->List Shp
 | 0=>[]
 | j+1=>ie s Z C j++C.map (λc=>(Fq s (gi Z j) c).1)
theorem Vy {s:StyleP} {Z:List Int} {C:List PlcP}:∀j,(Hc s Z C j).1=0->Hc s Z C j=(0,ie s Z C j,Sn C j)/\∀i,i<j->∀c∈C,(Fq s (gi Z i) c).2=0
 | 0,_=>⟨rfl,λi l=>by omega⟩
 | j+1,h=>by
   rw[Hc]at h ⊢;split at h
   .rename_i g;exact absurd h g
   rename_i a;let⟨f,k⟩:=Vy (s:=s) (Z:=Z) (C:=C) j (by simpa using a);let⟨_,b,d⟩:=V5 C.length (Nat.le_refl _) h;rw[List.take_length]at b d;rw[if_neg a,d,f];refine⟨rfl,λi l c e=>?_⟩;rcases Nat.lt_or_ge i j with g|g
   .exact k i g c e
   obtain rfl:i=j:=by omega
   exact b c e
theorem Pf (C:List PlcP):∀j,(Sn C j).length=j*C.length
 | 0=>by simp[Sn]
 | j+1=>by rw[Sn,List.length_append,Pf C j,List.length_map,Nat.add_mul];omega
theorem Lp (s:StyleP) (Z:List Int) (C:List PlcP):∀j,(ie s Z C j).length=j*C.length
 | 0=>by simp[ie]
 | j+1=>by rw[ie,List.length_append,Lp s Z C j,List.length_map,Nat.add_mul];omega
theorem Kz{s:StyleP} {Z:List Int} (h:(Bc s Z).1=0):Bc s Z=(0,ie s Z (Kq s) Z.length,Sn (Kq s) Z.length)/\Bv s=0/\1<=Z.length/\Z.length<=6 /\
 (∀i,i<Z.length->0<=gi Z i/\gi Z i<s.sz.length)/\(Kq s).length*Z.length<=60/\∀i,i<Z.length->∀c∈Kq s,(Fq s (gi Z i) c).2=0:=by
 unfold Bc at h ⊢;split at h
 .rename_i g;exact absurd h g
 rename_i a;split at h
 .cases h
 rename_i d;split at h
 .cases h
 rename_i b;split at h
 .cases h
 rename_i e;rw[if_neg a,if_neg d,if_neg b,if_neg e];let⟨j,k⟩:=Vy _ h;refine⟨j,by simpa using a,by omega,by omega,λi l=>?_,by omega,k⟩;cases hb:(decide (gi Z i<0) || decide ((s.sz.length:Int)<=gi Z i)) with
 | true=>exact absurd (Bp.yes (f:=λi=>decide (gi Z i<0) || decide ((s.sz.length:Int)<=gi Z i)) l hb) b
 | false=>simp at hb;omega
theorem Q9 {C:List PlcP} {P:List Pt5}:∀k,(Hv C P k).length=C.length/\∀i,i<C.length->kt (plc (Hv C P k) i)=kt (plc C i)/\(plc (Hv C P k) i).fl=(plc C i).fl
 | 0=>⟨rfl,λ_ _=>⟨rfl,rfl⟩⟩
 | k+1=>by
   let⟨c,a⟩:=Q9 (C:=C) (P:=P) k;rw[Hv];refine⟨by rw[List.length_set,c],λi b=>?_⟩
   have e:plc ((Hv C P k).set (pt P k).sh.toNat (Alm (plc (Hv C P k) (pt P k).sh.toNat) (pt P k))) i=if (pt P k).sh.toNat=i then Alm (plc (Hv C P k) (pt P k).sh.toNat) (pt P k) else plc (Hv C P k) i:=by
    unfold plc;rw[List.getD,List.getD,List.getElem?_set];by_cases g:(pt P k).sh.toNat=i
    .rw[if_pos g,if_pos g,if_pos (by omega)];rfl
    rw[if_neg g,if_neg g];rfl
   rw[e];by_cases g:(pt P k).sh.toNat=i
   .rw[if_pos g,g];exact a i b
   rw[if_neg g];exact a i b
def ig (w:World) (r:Int×List Shp×List PlcP) (e:Ending) (a:World):Prop:=∃b c,e=.returned (.tuple #[b,c,r.1])/\Vj a w.heap.size b r.2.1/\Tb a w.heap.size c r.2.2/\Be w a
theorem ig.none_{w:World} {x:Int} (a:Be w f):ig w (x,[],[]) (.returned (.tuple #[.slice none 0 0,.slice none 0 0,x])) f:=⟨_,_,rfl,Vj.nil,OwG.nil,a⟩
theorem X8{c:Int×List Shp×List PlcP}  {x:Int} (h:Hi b g i e c a=(x,[],[])) (d:x≠0):∀m,Hi b g i e c (a+m)=(x,[],[]):=by
 intro m;induction m with
 | zero=>exact h
 | succ m ih=>rw[<-Nat.add_assoc,Hi,if_pos (by rw[ih];exact d)];exact ih
theorem X6{Z:List Int}   {x:Int} (h:Hc b Z e a=(x,[],[])) (c:x≠0):∀m,Hc b Z e (a+m)=(x,[],[]):=by
 intro m;induction m with
 | zero=>exact h
 | succ m ih=>rw[<-Nat.add_assoc,Hc,if_pos (by rw[ih];exact c)];exact ih
theorem mw(h:a<e.length):plc e a∈e:=by rw[nu h];exact List.getElem_mem h
theorem Zo(a:SmS b) (h:Bv b=0):(Kq b).length<=16:=by
 obtain⟨-,e,-,d⟩:=Kw h;have:=Lk (U:=b.us) (n:=b.us.length) (λi c=>(d i c).2.2.2) b.us.length (Nat.le_refl _);have:=a.us;unfold Kq;rw[if_neg (by rw[h];simp)];omega
theorem X7{s:StyleP} {Z:List Int} {z:Int} {C:List PlcP} {j k n:Nat} (d:j<=6) (f:C.length<=16) (e:k<=C.length) (a:(Hc s Z C j).1=0) (h:(Hi s z n C (Hc s Z C j) k).1=0) :
 (Hi s z n C (Hc s Z C j) k).2.1.length<=1000/\(Hi s z n C (Hc s Z C j) k).2.2.length<=1000:=by
 let⟨_,_,c⟩:=V5 k e h;have b:=(Vy (s:=s) (Z:=Z) (C:=C) j a).1;rw[c,b];have g:=Lp s Z C j;have i:=Pf C j;have l:j*C.length<=6*16:=Nat.mul_le_mul d f;simp only[List.length_append,List.length_map,List.length_take];omega
theorem ShV.lower{w:World} {base':Nat} {x:ShX}  (h:ShV w a x k) (b:base'<=a):ShV w base' x k:=⟨h.1,h.2.1,h.2.2.1,h.2.2.2.1,h.2.2.2.2.1.lower b,h.2.2.2.2.2⟩
theorem ShV.store{w:World} {B o:Nat}  {x:ShX} {s:Shp} (b:ShV w a x s) (e:B<a):ShV (w.setCell ⟨B,o,none⟩ h) a x s :=
 ⟨b.1,b.2.1,b.2.2.1,b.2.2.2.1,b.2.2.2.2.1.keepAbove λk c d f _=>Dv _ _ _ _ (by omega),b.2.2.2.2.2⟩
theorem Aoi(vs:Array Value) (s:StyleP) (A:Option Addr) (n c:Nat) (Z:List Int) (w:World) (hn:n<=c) (od:c<=9223372036854775807) (hZ:InS w A n Z) (T:SmS s) (hv:StV w vs s) (h:Bv s=0) :
 Calls Tryz.prog 6 #[.agg vs,.slice A n c] w (ig w (Bc s Z)):=by
 have HC:=Ar h;have eo:=hZ.1
 have HS:=Ar (show Bc s Z=if n<1\/6<n then (3,[],[]) else if Bp (λi=>decide (gi Z i<0) || decide ((s.sz.length:Int)<=gi Z i)) n then (3,[],[]) else if 60<(Kq s).length*n then (5,[],[]) else Hc s Z (Kq s) n by
  unfold Bc;rw[if_neg (by rw[h];simp),eo])
 have y1:=T.sz;have ar:=Zo T h;clear h eo;obtain⟨A1,c1,A2,c2,A3,c3,A4,c4,A5,c5,A6,c6,rfl,⟨v1,v2,v3⟩,⟨v4,v5,v6⟩,⟨v7,v8,v9⟩,⟨pe,pj,lk⟩,⟨pk,pn,lo⟩,pq,ps⟩:=id hv;go_enter Tryz.func6,Tryz.ntmps6;go_upto_region 1 with fail;refine Bq λX bt hP=>?_
 let⟨p0,p1,p2,p3,p4,p5,p6⟩:=st7 hP;have c9:=hv.keep bt;have hy:=hP
 go_upto_region 4 with (go_at_call 15;refine rR (Fs _ s _ T c9) λw1 ai=>?_;rw[HC.out])
 have ad:=hP.keep ai;have bx:=c9.keep ai;have u:=An bt ai;have bp:=hZ.keep u;clear p0 p1 p2 p3 p4 p5 p6 hP hy c9 bt ai;by_cases h1:n<1
 .have l:=Ar (show Bc s Z=(3,[],[]) by rw[HS.out,if_pos (.inl h1)]);obtain rfl:n=0:=by omega
  go_wp2_with fail
  go_ret3
  rw[l.out];exact ig.none_ u
 by_cases h6:6<n
 .have l:=Ar (show Bc s Z=(3,[],[]) by rw[HS.out,if_pos (.inr h6)]);have B1:((n:Int)<1)=False:=by simp;omega
  have B2:((6:Int)<(n:Int))=True:=by simp;omega
  go_wp2_with fail
  go_ret3
  rw[l.out];exact ig.none_ u
 have D:=Ar (show Bc s Z=if Bp (λi=>decide (gi Z i<0) || decide ((s.sz.length:Int)<=gi Z i)) n then (3,[],[]) else if 60<(Kq s).length*n then (5,[],[]) else Hc s Z (Kq s) n by rw[HS.out,if_neg (by omega)]);have B1:((n:Int)<1)=False:=by simp;omega
 have B2:((6:Int)<(n:Int))=False:=by simp;omega
 have j5:n<=6:=by omega
 let⟨ns,e7⟩:=gN s.sz.length
 rw[e7]at ad D y1 bx;have cn:=Ar bx;clear HS e7 bx h1 h6 v1 v3 v6 v9 lk lo;go_upto_region 7 with fail;clear B1 B2;go_loopw [9,34] (λ_ i wx=>∃k:Nat,k<=n/\i=.int .i64 k/\Hid (Bp (λi=>decide (gi Z i<0) || decide ((ns:Int)<=gi Z i)) k=false)/\Be w1 wx) λ_ i _=>n-(intOf i).toNat
 case atStart=>exact⟨0,Nat.zero_le _,rfl,Ar rfl,bl0⟩
 obtain⟨k,hk,rfl,hA,b⟩:=hrel;by_cases e6:k<n
 .obtain⟨b0,o0,rfl,e0⟩:=(bp.keep b).at_ e6;obtain⟨-,p1,-,-,-,-,-⟩:=st7 (ad.keep b);have HY:=Ar λ(h:(decide (gi Z k<0) || decide ((ns:Int)<=gi Z k))=false)=>Bp.succ (f:=λi=>decide (gi Z i<0) || decide ((ns:Int)<=gi Z i)) hA.out h;have HN:=Ar λ(h:(decide (gi Z k<0) || decide ((ns:Int)<=gi Z k))=true)=>Bp.yes (f:=λi=>decide (gi Z i<0) || decide ((ns:Int)<=gi Z i)) e6 h;let⟨z,hz⟩:=gN (gi Z k)
  rw[hz]at e0 HY HN;clear hz;have B3:(k:Int)<(n:Int):=by omega
  by_cases o:z<0
  .have l:=Ar (show Bc s Z=(3,[],[]) by rw[D.out,if_pos (HN.out (by simp[o]))])
   go_wp2_with fail
   go_ret3
   rw[l.out];exact ig.none_ (An u b)
  obtain⟨z,rfl⟩:∃q:Nat,z=q:=⟨z.toNat,by omega⟩
  by_cases ou:(ns:Int)<=(z:Int)
  .have l:=Ar (show Bc s Z=(3,[],[]) by rw[D.out,if_pos (HN.out (by simp;omega))])
   go_wp2_with fail
   go_ret3
   rw[l.out];exact ig.none_ (An u b)
  have hd:=Ar (HY.out (by simp;omega))
  go_wp2_with fail;exact⟨⟨k+1,by omega,by go_num,hd,b⟩,by simp[intOf];omega⟩
 obtain rfl:n=k:=by omega
 have t:=Ar (show Bc s Z=if 60<(Kq s).length*n then (5,[],[]) else Hc s Z (Kq s) n by rw[D.out,if_neg (by rw[hA.out];simp)]);have bm:=ad.keep b;have c7:=cn.out.keep b;have dx:=bp.keep b;have e1:=An u b;let⟨C,hC⟩:=gN (Kq s)
 rw[hC]at t ar;have h9:=Ar hC;clear hC D hA ad cn bp b;let⟨p0,p1,p2,p3,p4,p5,p6⟩:=st7 bm
 go_upto_region 13 with (go_at_call 16;refine(gl _ s _ T c7).mono ?_;rintro e w3 ⟨vc,rfl,bw,I⟩;rw[h9.out]at bw)
 obtain⟨Ac,cc,rfl,j3,og,dk⟩:=Tb.pls bw;have ih:=bm.keep I;have k9:=c7.keep I;have iy:=dx.keep I;have K:=An e1 I;have cj:=Ar (λj k (h1:j<=n) (h2:k<=C.length) h3 h4=>X7 (s:=s) (Z:=Z) (z:=gi Z j) (C:=C) (j:=j) (k:=k) (n:=j) (by omega) ar h2 h3 h4);let⟨m,hm⟩:=gN C.length
 rw[hm]at j3 dk t ar cj ⊢;have HM:=Ar hm;let⟨q,hq⟩:=gN (m*n)
 have np:q<=16*6:=by rw[<-hq];exact Nat.mul_le_mul ar j5
 have W1:IntKind.i64.wrap ((m:Int)*(n:Int))=(q:Int):=by
  rw[show (m:Int)*(n:Int)=(q:Int) by rw[<-hq];exact(Int.natCast_mul m n).symm,IntKind.wrap_i64];omega
 rw[hq]at t;clear bm c7 dx I p0 p1 p2 p3 p4 p5 p6 bw hm hq e1;by_cases bd:60<q
 .have l:=Ar (show Bc s Z=(5,[],[]) by rw[t.out,if_pos bd]);have B3:((60:Int)<(q:Int))=True:=by simp;omega
  go_wp2_with fail
  go_ret3
  rw[l.out];exact ig.none_ K
 have ck:=Ar (show Bc s Z=Hc s Z C n by rw[t.out,if_neg bd]);have B3:((60:Int)<(q:Int))=False:=by simp;omega
 clear t bd;go_upto_region 18 with fail;clear B3 W1;go_loopw [11,12,13,14,16,17,18,58] (λv1 v2 _ _ _ _ _ i wx=>∃j:Nat,j<=n/\i=.int .i64 j/\Hid ((Hc s Z C j).1=0)/\Vj wx w3.heap.size v1 (Hc s Z C j).2.1/\Tb wx w3.heap.size v2 (Hc s Z C j).2.2/\Be w3 wx) λ_ _ _ _ _ _ _ i _=>n-(intOf i).toNat
 case atStart=>exact⟨0,Nat.zero_le _,rfl,Ar rfl,Vj.nil,OwG.nil,bl0⟩
 obtain⟨j,hj,rfl,o,g,d,b⟩:=hrel;by_cases j2:j<n
 .obtain⟨b0,o0,rfl,e0⟩:=(iy.keep b).at_ j2;have HU:=Ar (show Hc s Z C (j+1)=Hi s (gi Z j) j C (Hc s Z C j) m by rw[Hc,if_neg (by rw[o.out];simp),HM.out]);have bb:=Ar (λk (h2:k<=m) h4=>cj.out j k hj h2 o.out h4)
  have h8:=Ar (λ(x:Int) (h:Hc s Z C (j+1)=(x,[],[])) (hx:x≠0)=>show Bc s Z=(x,[],[]) by
   rw[ck.out];have:=X6 h hx (n-(j+1));rwa [show j+1+(n-(j+1))=n by omega] at this)
  let⟨a,ha⟩:=gN (Hc s Z C j)
  let⟨z,hz⟩:=gN (gi Z j)
  rw[ha]at g d o HU bb;rw[hz]at e0 HU bb;clear ha hz;have B4:(j:Int)<(n:Int):=by omega
  obtain⟨wa,rfl⟩:∃wa:World,wa=wr:=⟨_,rfl⟩
  go_upto_region 21 with fail;go_loopw [11,12,16,17,18,65] (λv1 v2 _ _ _ i wx=>∃k:Nat,k<=m/\i=.int .i64 k/\Hid ((Hi s z j C a k).1=0)/\Vj wx w3.heap.size v1 (Hi s z j C a k).2.1/\Tb wx w3.heap.size v2 (Hi s z j C a k).2.2/\Be w3 wx) λ_ _ _ _ _ i _=>m-(intOf i).toNat
  case atStart=>exact⟨0,Nat.zero_le _,rfl,Ar o.out,g,d,b⟩
  clear g d b e0;obtain⟨k,hk,rfl,cd,g,d,b⟩:=hrel;by_cases e4:k<m
  .obtain⟨b1,o1,rfl,e2⟩:=(dk.keep b).at_ e4;let⟨l0,l1,l2,l3,l4,l5,l6⟩:=e2 k e4;have HI:=Ar (show Hi s z j C a (k+1)=if (Fq s z (plc C k)).2≠0 then ((Fq s z (plc C k)).2,[],[]) else (0,(Hi s z j C a k).2.1++[(Fq s z (plc C k)).1],(Hi s z j C a k).2.2++[Ts (plc C k) j]) by rw[Hi,if_neg (by rw[cd.out];simp)]);have b6:=bb.out k hk cd.out;have h7:=Ar (λ(x:Int) (h:Hi s z j C a (k+1)=(x,[],[])) (hx:x≠0)=>h8.out x (by rw[HU.out];have:=X8 h hx (m-(k+1));rwa [show k+1+(m-(k+1))=m by omega] at this) hx);let⟨S,hS⟩:=gN ((Hi s z j C a k).2.1)
   let⟨Q,hQ⟩:=gN ((Hi s z j C a k).2.2)
   rw[hS]at g HI b6;rw[hQ]at d HI b6;let⟨⟨ga,us,cp,fl,qu,cx,cy⟩,ec⟩:∃c,plc C k=c:=⟨_,rfl⟩
   rw[ec]at l0 l1 l2 l3 l4 l5 l6 HI;dsimp only at l0 l1 l2 l3 l4 l5 l6;have bc:=Ar λ(W:World) (h:StV W #[.string s.nm,.slice A1 ns c1,.slice A2 s.mu.length c2,.slice A3 s.pc.length c3,.slice A4 s.us.length c4,.slice A5 s.se.length c5,.slice A6 s.no c6] s)=>show Calls Tryz.prog 17 #[.agg #[.string s.nm,.slice A1 ns c1,.slice A2 s.mu.length c2,.slice A3 s.pc.length c3,.slice A4 s.us.length c4,.slice A5 s.se.length c5,.slice A6 s.no c6],z,.agg #[ga,us,cp,.bool fl,qu,cx,cy]] W (Acn W (Fq s z ⟨ga,us,cp,fl,qu,cx,cy⟩)) from Vw _ s z ⟨ga,us,cp,fl,qu,cx,cy⟩ W T h;let⟨⟨sh,er⟩,eg⟩:∃r,Fq s z ⟨ga,us,cp,fl,qu,cx,cy⟩=r:=⟨_,rfl⟩
   rw[eg]at HI bc;clear e2 hS hQ ec eg;have B5:(k:Int)<(m:Int):=by omega
   go_upto_region 23 with fail;refine Bq λY L hK=>?_
   let⟨BP,cv⟩:=gN wr.heap.size
   rw[cv]at hK ⊢;let⟨k0,k1,k2,k3,k4,k5,k6⟩:=st7 hK;let⟨p0,p1,p2,p3,p4,p5,p6⟩:=st7 ((ih.keep b).keep L);have ca:=(k9.keep b).keep L;have cw:=hK.lt;clear l0 l1 l2 l3 l4 l5 l6;by_cases M:er=0
   .subst M;have ba:=Ar (show Hi s z j C a (k+1)=(0,S++[sh],Q++[Ts ⟨ga,us,cp,fl,qu,cx,cy⟩ j]) by rw[HI.out,if_neg (by simp)])
    go_upto_region 26 with (go_at_call 17;refine(bc.out _ ca).mono ?_;rintro e w5 ⟨y,n5,G,H,a7,E,F,rfl,a1,J⟩)
    have a6:=a1 trivial
    try dsimp only at a6
    refine Bq λV bs hT=>?_
    have cz:Y.heap.size<=w5.heap.size:=J.size;let⟨BS,hr⟩:=gN w5.heap.size
    rw[hr]at hT cz ⊢;have a8:=(hK.keep J).keep bs;have fK:=a8.frozen 0;have kk:=(st7 a8).1;clear k0 k1 k2 k3 k4 k5 k6 p0 p1 p2 p3 p4 p5 p6;go_upto_region 27 with fail;refine Cj (λU=>Be wr U/\Bf U BP 62 #[(j:Int),us,cp,.bool fl,qu,cx,cy]/\Bf U BS 72 #[.slice y n5 G,H,.bool a7,E,F]/\ShV U Y.heap.size ⟨y,n5,G,H,a7,E,F⟩ sh) ⟨Ba (An L (An J bs)) (p:=⟨BP,0,none⟩) (Nat.le_of_eq cv) _,a8.set_ 0 _,hT.far (p:=⟨BP,0,none⟩) (by show BS≠BP;omega) _,(a6.keep bs).store cw⟩ ?_;rintro U ⟨bq,dc,ds,j9⟩;let⟨t0,t1,t2,t3,t4⟩:=sh5 ds;have ix:w3.heap.size<=Y.heap.size:=Nat.le_trans b.size L.size;have v:=Ao (Below.refl U.heap.size U) (.cells #[.slice y n5 G,H,.bool a7,E,F] 72);have P:=(Vj.keep g bq).keep v;have ee:=(j9.lower ix).keep v;have bl:=dc.keep v;have O:=OwG.keep (OwG.keep d bq) v;have ak:=An (An b bq) v;let⟨pz,cb⟩:=P.own;clear hK a8 fK kk hT a1 a6 ca
    go_upto_region 28 with (at_builtin;refine Mq rfl _ _ rfl w3.heap.size _ S rfl P U.heap.size 1 y n5 G H a7 E F sh 72 rfl (Bf.new _ _ _) ee (by omega) ak.size ?_;intro v7 w7 j6 bu e5)
    clear t0 t1 t2 t3 t4;have db:=bl.grown bu (OwG.neB cb bl (by decide));have e8:=OwG.kept O bu (OwG.apart O cb (by decide));have j0:=Below.grown ak bu ak.size e5;let⟨k0,k1,k2,k3,k4,k5,k6⟩:=st7 db;have R:=Ao (Below.refl w7.heap.size w7) (.cells #[(j:Int),us,cp,.bool fl,qu,cx,cy] 62);have N:=OwG.keep e8 R;have j7:=Vj.keep j6 R;have dy:=An j0 R;clear bl O ak P cb v db dc ds
    go_upto_region 29 with (at_builtin;refine Eu rfl _ _ rfl w3.heap.size _ Q rfl N w7.heap.size 1 ⟨(j:Int),us,cp,fl,qu,cx,cy⟩ 62 rfl (Bf.new _ _ _) (by omega) dy.size ?_;intro v9 w9 j8 e3 nj)
    have e9:=Vj.grown j7 N (by decide) (by decide) e3;have j1:=Bk dy N e3;go_wp2_with fail;exact⟨⟨k+1,by omega,by go_num,Ar (by rw[ba.out]),by rw[ba.out];exact e9,by rw[ba.out];exact j8,j1⟩,by simp[intOf];omega⟩
   have oq:(er != 0)=true:=by simpa using M
   have l:=Ar (h7.out er (by rw[HI.out,if_pos M]) M);clear M
   go_wp2_with (go_at_call 17;refine(bc.out _ ca).mono ?_;rintro e w5 ⟨y,n5,G,H,a7,E,F,rfl,a1,J⟩)
   go_ret3
   rw[l.out];exact ig.none_ (Ao (An K (An b (An L J))) _)
  obtain rfl:m=k:=by omega
  go_wp2_with fail;exact⟨⟨j+1,by omega,by go_num,Ar (by rw[HU.out];exact cd.out),by rw[HU.out];exact g,by rw[HU.out];exact d,b⟩,by simp[intOf];omega⟩
 obtain rfl:n=j:=by omega
 go_wp2_with fail
 go_ret3
 have l:=Ar (show Bc s Z=Hc s Z C n from ck.out);exact⟨_,_,by rw[l.out,o.out];rfl,by rw[l.out];exact g.lower K.size,by rw[l.out];exact OwG.lower d K.size,An K b⟩
end Go.Proofs.YtlogblbfbihleaaGreat
