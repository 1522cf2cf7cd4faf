/- Lean texts of the claim. -/
import Derived.Test.YtlogblbfbihleaaGreatZr29
namespace Go.Proofs.YtlogblbfbihleaaGreat
set_option linter.all false
set_option maxRecDepth 100000
set_option maxHeartbeats 0
open Go.RowKit
variable{a h:Nat}{b:List Int}{e:LP}{f:List EdgeP}{g:World}{i:Int×Int}{j:Int}
theorem Tr(h:(Ed f b).2=0):C7 f=0/\b.length=f.length/\Bp (wdB b) b.length=false/\Ed f b=(Ec f b,0):=by
 unfold Ed at h ⊢;split at h
 .rename_i g;exact absurd h g
 rename_i a;split at h
 .cases h
 rename_i c;split at h
 .cases h
 rename_i d;rw[if_neg a,if_neg c,if_neg d];exact⟨by simpa using a,by simpa using c,by simpa using d,rfl⟩
theorem Ade{sg:Int}  {i:Nat} (k:Bg e a=0) (p:e.length=a) (t : -1<=sg) (u:sg<=1) (o:∀i,0<=gi b i/\gi b i<=500) (l:i<a) :
 -500<=(shP e sg b i).1/\(shP e sg b i).1<=500 /\ -500<=(shP e sg b i).2/\(shP e sg b i).2<=500:=by
 obtain⟨q,n,c,-⟩:=Je k;have m:(i+1) % a<a:=Nat.mod_lt _ (by omega)
 have f:i≠(i+1) % a:=by
  intro j;rcases Nat.lt_or_ge (i+1) a with g|g
  .rw[Nat.mod_eq_of_lt g]at j;omega
  rw[show i+1=a by omega,Nat.mod_self]at j;omega
 let⟨r,s⟩:=o i
 have d : -500<=sg*gi b i/\sg*gi b i<=500:=by
  rcases(show sg = -1\/sg=0\/sg=1 by omega) with h|h|h<;>rw[h]<;>omega
 obtain⟨-,-,-,-,u5,u6,u7,u8⟩:=ks d.1 d.2 (c i l) (c _ m) (um k l m f);unfold shP;rw[p];exact⟨u5,u6,u7,u8⟩
theorem Oe{sg:Int}   (d:e.length=a) (c:h<a):gt ((List.range e.length).map (shP e sg b)) h=shP e sg b h:=by
 unfold gt;rw[List.getD,List.getElem?_map,List.getElem?_range (by omega)];rfl
theorem ky{d:LP}   (j:Bg e a=0) (l:e.length=a) (g:∀h,0<=gi b h/\gi b h<=500)
 (i : -500<=(gt d h).1/\(gt d h).1<=500 /\ -500<=(gt d h).2/\(gt d h).2<=500) (k:h<a):(Vl e d b h).ok:=by
 obtain⟨n,f,c,-⟩:=Je j;have m:(h+1) % a<a:=Nat.mod_lt _ (by omega);let⟨o,p,q,r⟩:=c h k;let⟨s,t,u,v⟩:=c _ m;let⟨w,x⟩:=g h;obtain⟨y,s2,z,A⟩:=i;unfold Vl Seg.ok Pz;rw[l];dsimp only;refine⟨?_,?_,?_,?_,?_⟩<;>omega
theorem raw5{w:World}  (c:Below a g w)  (b:a<=h) (o:Nat) (u0 u1 u2 u3 u4:Value):Below a g (((((w.setCell ⟨h,o,none⟩ u0).setCell ⟨h,o+1,none⟩ u1).setCell ⟨h,o+2,none⟩ u2).setCell ⟨h,o+3,none⟩ u3).setCell ⟨h,o+4,none⟩ u4) :=
 Below.setCell (Below.setCell (Below.setCell (Below.setCell (Below.setCell c b _) b _) b _) b _) b _
theorem Bf.raw5{w:World}  {t:TypeId} {c:Array Value} (d:Bf w a t c)  (b:a≠h) (o:Nat) (u0 u1 u2 u3 u4:Value):Bf (((((w.setCell ⟨h,o,none⟩ u0).setCell ⟨h,o+1,none⟩ u1).setCell ⟨h,o+2,none⟩ u2).setCell ⟨h,o+3,none⟩ u3).setCell ⟨h,o+4,none⟩ u4) a t c :=
 ((((d.far (p:=⟨h,o,none⟩) b _).far (p:=⟨h,o+1,none⟩) b _).far (p:=⟨h,o+2,none⟩) b _).far (p:=⟨h,o+3,none⟩) b _).far (p:=⟨h,o+4,none⟩) b _
theorem Kr(c:1<=a) (b:a-1=h) (d:a<=1000000000):IntKind.i64.wrap ((a:Int)-1)=(h:Int):=by rw[IntKind.wrap_i64];omega
theorem Aaw(b:a<h):gt (e.take h) a=gt e a:=by
 unfold gt;simp[List.getD,List.getElem?_take,b]
theorem Th{l:LP}  (c:1<a) (d:a-1=h) (b:eqS (gt l h) (gt l 0)=true):I5 l a=I5 l h:=by
 obtain⟨k,rfl⟩:∃k,a=k+1:=⟨a-1,by omega⟩
 obtain rfl:k=h:=by omega
 rw[I5,if_pos ⟨by omega,b⟩]
theorem Xs{l:LP} {m:Nat} (h:¬1<m\/eqS (gt l (m-1)) (gt l 0)=false):I5 l m=m:=by
 cases m with
 | zero=>rfl
 | succ k =>
   rw[I5,if_neg];rintro⟨b,a⟩;rcases h with h|h
   .omega
   rw[Nat.add_sub_cancel]at h;rw[a]at h;cases h
theorem SpS.blk{w:World}   (f:SpS w (some ⟨a,0,none⟩) h e) (l:g.heap[a]? = w.heap[a]?):SpS g (some ⟨a,0,none⟩) h e:=by
 refine⟨f.1,?_⟩;rcases f.2 with c|⟨b,m,d,c⟩
 .exact .inl c
 injection d with d
 injection d with e1 e2
 subst e1 e2;have i:∀o,g.cell? ⟨a,o,none⟩=w.cell? ⟨a,o,none⟩:=λo=>by unfold World.cell?;rw[l]
 exact .inr ⟨a,0,rfl,λk j=>⟨(i _).trans (c k j).1,(i _).trans (c k j).2⟩⟩
theorem T6(p:Int×Int):Om [] p=[p]:=rfl
theorem Qw(b:e.length=a+1) (h:eqS (gt e a) i=true):Om e i=e:=by
 unfold Om;rw[if_neg (by omega),show e.length-1=a by omega,if_pos h]
theorem T7(b:e.length=a+1) (h:eqS (gt e a) i=false):Om e i=e++[i]:=by
 unfold Om;rw[if_neg (by omega),show e.length-1=a by omega,if_neg (by rw[h];simp)]
theorem Aqn(A:Option Addr) (a n:Nat) (E:List EdgeP) (f:Option Addr) (j k:Nat) (d:List Int) (w:World) (b:n<=a) (p:n<=9223372036854775807) (m:EdS w A n E) (o:InS w f j d) (h:(Ed E d).2≠0) :
 Calls Tryz.prog 65 #[.slice A n a,.slice f j k] w (Ng w ([],(Ed E d).2)):=by
 let⟨r,i⟩:=gN (Ed E d)
 have l:=Ar i;rw[i]at h ⊢;obtain⟨z,c⟩:=r;dsimp only at h ⊢;have q:(c != 0)=true:=by simpa using h
 clear i h;go_enter Tryz.func65,Tryz.ntmps65
 go_wp2_with (go_at_call 103;refine(Rm A a n E f j k d _ b p m o).mono ?_;rintro e t ⟨s,rfl,-,g⟩;rw[l.out])
 go_ret2
 exact⟨_,rfl,OwG.nil,g⟩
theorem Aqm(A:Option Addr) (c6 n:Nat) (E:List EdgeP) (A2:Option Addr) (c2:Nat) (H:List Int) (w:World) (gy:n<=c6) (hE:EdS w A n E) (hW:InS w A2 n H) (h:(Ed E H).2=0) :
 Calls Tryz.prog 65 #[.slice A n c6,.slice A2 n c2] w (Ng w (Ff E H)):=by
 let⟨o0,o1,o2,o3⟩:=Tr h;let⟨q1,q2,q3,q4,q5⟩:=D5 o0;have hn:n<=16:=by rw[<-hE.1];exact q2
 have HA:=Ar (show Ff E H=if Bp (λi=>!wS (gt (Dy E H) i) 1048576) (Dy E H).length then ([],3) else if Bg (Dy E H) (Dy E H).length≠0 then ([],Bg (Dy E H) (Dy E H).length) else if orW (Dy E H)≠orW (Bj E) then ([],11) else (Dy E H,0) by
  unfold Ff;rw[if_neg (by rw[h];simp)])
 have b2:ze E H=K7 (Bj E) (Ec E H) (Hl E H) (Bj E).length:=rfl;have ds:=Ar (show Dy E H=(ze E H).take (I5 (ze E H) (ze E H).length) from rfl);have n2:=Ar (show L9 E=(Bj E,0) by unfold L9;rw[if_neg (by rw[o0];simp)]);have r3:=Ar (show ∀k,k<n->1<=(edg E k).ln.length/\(edg E k).ln.length<=40 from λk hk=>by have:=Er (q3 k (by rw[hE.1];exact hk)).2;omega);have c7:(Hl E H).length=(Bj E).length:=Gt _;have e7:∀i,0<=gi (Hl E H) i/\gi (Hl E H) i<=500:=Agg (Wv λk hk=>Aen o2 k (by have:=hW.1;have:=hE.1;omega))
 have kp:=ot (Bj E)
 have bm:∀i,i<(Bj E).length -> -500<=(gt (Ec E H) i).1/\(gt (Ec E H) i).1<=500 /\ -500<=(gt (Ec E H) i).2/\(gt (Ec E H) i).2<=500:=λi T=>by
  unfold Ec;rw[Oe rfl T];exact Ade q5 rfl kp.1 kp.2 e7 T
 have ca:(Ec E H).length=(Bj E).length:=by unfold Ec;rw[List.length_map,List.length_range]
 let⟨P,hP⟩:=gN (ze E H)
 rw[hP]at b2 ds;let⟨V,hV⟩:=gN (Bj E)
 let⟨D,hD⟩:=gN (Hl E H)
 let⟨SH,hS⟩:=gN (Ec E H)
 let⟨s,fc⟩:=gN V.length
 have n5:=Ar o3;rw[hS]at n5 bm ca b2;rw[hV]at n2 HA b2 c7 bm ca q5;rw[hD]at c7 e7 b2;rw[fc]at c7 bm ca b2 q5;have qs:=Ar hD;have r0:=Ar ca;have qv:=Ar c7;have h5:=Ar fc;have fv:=Ar λi (T:i<s)=>ky q5 fc e7 (bm i T) T;obtain⟨Aj,xx,nk,-⟩:=Je q5;have h4:=Ar nk;have r6:=Ar bm;have r4:=Ar b2;let⟨Z,S,hZ⟩:=qb s (by omega);let⟨R,hR⟩:=gN (Ff E H)
 let⟨G,hG⟩:=gN (Dy E H)
 rw[hG]at ds;rw[hR,hG]at HA;rw[hR];clear h o0 o1 o2 o3 q1 q2 q3 q4 q5 kp hP hV hD hS fc c7 e7 bm ca nk hR hG b2;go_enter Tryz.func65,Tryz.ntmps65
 go_upto_region 4 with (go_at_call 103;refine(Rm A c6 n E A2 n c2 H _ gy (by omega) hE hW).mono ?_;rintro e w1 ⟨v1,rfl,k4,e9⟩;rw[n5.out]at k4 ⊢)
 obtain⟨As,cs,rfl,ev,hr,-⟩:=k4.sps;rw[r0.out]at ev hr ⊢;have hf:=hE.keep e9;have nz:=hW.keep e9;clear k4
 go_upto_region 7 with (go_at_call 104;refine(K9 A c6 n E _ gy (by omega) hf).mono ?_;rintro e w2 ⟨v2,rfl,k5,Q⟩;rw[n2.out]at k5 ⊢)
 obtain⟨Av,cv,rfl,tf,hs,-⟩:=k5.sps;rw[h5.out]at tf hs ⊢;clear k5
 go_upto_region 11 with (go_at_call 105;refine(Z3 A c6 n E A2 n c2 H _ (by omega) (by omega) (hf.keep Q) (nz.keep Q) λk hk=>r3.out k hk).mono ?_;rintro e w3 ⟨v3,rfl,k6,ec⟩;rw[qs.out]at k6;obtain⟨Ad,cd,rfl,ta,hh,-⟩:=k6.ins;rw[qv.out]at ta hh ⊢)
 let⟨K,h9⟩:∃B,B=w3.heap.size:=⟨_,rfl⟩
 have hy:=hZ w3;have gx:=Ao (Below.refl w3.heap.size w3) (.cells Z 192);rw[<-h9]at hy ⊢;have qq:=Ar h9;have gw:=hr.keep (An Q ec);have cb:=hs.keep ec;have o5:=An e9 (An Q ec);clear k6 S hZ h9 hs hr hE hf hW nz e9 Q ec;go_loopw [12,13,48] (λ_ _ i wr=>∃(k:Nat) (z:List Seg),k<=s/\i=.int .i64 k/\z.length=s/\Hid (∀p,p<k->gsg z p=Vl V SH D p)/\Ahc wr K (.slice (some ⟨K,0,none⟩) s s) z/\Be w3 wr) λ_ _ i _=>s-(intOf i).toNat
 case atStart=>exact⟨0,_,Nat.zero_le _,rfl,List.length_replicate,Ar λp hp=>absurd hp (Nat.not_lt_zero _),hy,gx⟩
 clear hy gx;obtain⟨k,z,hk,rfl,hz,hp,ho,y⟩:=hrel;by_cases F:k<s
 .have S:(k+1) % s<s:=Nat.mod_lt _ (by omega);let⟨j1,j2,j3,j4⟩:=h4.out k F;let⟨j5,j6,j7,j8⟩:=h4.out _ S;let⟨j9,p4,p5,p6⟩:=r6.out k F;have mf:=Q6 ((k:Int)+1) (k+1) s rfl (by omega);obtain⟨bv,ov,rfl,-,hc⟩:=cb.at_ F;let⟨e1,e2⟩:=hc k F;let⟨e3,e4⟩:=hc _ S;obtain⟨bd,od,rfl,e5⟩:=hh.at_ F;obtain⟨bs,os,rfl,-,ev⟩:=(gw.keep y).at_ F;let⟨s1,s2⟩:=ev k F;have c5:=Ar (show Vl V SH D k=⟨(gt V k).1+(gt SH k).1,(gt V k).2+(gt SH k).2,(gt V ((k+1) % s)).1+(gt SH k).1,(gt V ((k+1) % s)).2+(gt SH k).2,gi D k⟩ by unfold Vl;rw[h5.out]);let⟨p,oy⟩:=gN (gt V k)
  let⟨q,p1⟩:=gN (gt V ((k+1) % s))
  let⟨r,p2⟩:=gN (gt SH k)
  let⟨dk,o9⟩:=gN (gi D k)
  rw[oy]at j1 j2 j3 j4 e1 e2 c5;rw[p1]at j5 j6 j7 j8 e3 e4 c5;rw[p2]at j9 p4 p5 p6 s1 s2 c5;rw[o9]at e5 c5;clear oy p1 p2 o9 hc ev;obtain⟨px,py⟩:=p;obtain⟨qx,qy⟩:=q;obtain⟨rx,ry⟩:=r;dsimp only at *
  have tq:∀w2:World,Calls Tryz.prog 106 #[.agg #[px,py],.agg #[rx,ry]] w2 (Bz w2 (.agg #[(px+rx:Int),(py+ry:Int)])):=λw2=>Sz px py rx ry w2 (by omega) (by omega) (by omega) (by omega)
  have ts:∀w2:World,Calls Tryz.prog 106 #[.agg #[qx,qy],.agg #[rx,ry]] w2 (Bz w2 (.agg #[(qx+rx:Int),(qy+ry:Int)])):=λw2=>Sz qx qy rx ry w2 (by omega) (by omega) (by omega) (by omega)
  have B1:(k:Int)<(s:Int):=by omega
  clear j1 j2 j3 j4 j5 j6 j7 j8 j9 p4 p5 p6;go_upto_region 13 with fail;refine Bq λY t hV=>?_
  have I:=OwG.keep ho t;have O:=An y t;let⟨g,hg⟩:=gN wr.heap.size
  have ou:g≠K:=by
   rw[<-hg];intro e;have:=(OwG.lt ho K rfl).2;omega
  have gf:w3.heap.size<=K:=by rw[qq.out];omega
  rw[hg]at hV ⊢;let⟨J,ad⟩:=gN ((k+1) % s)
  rw[ad]at e3 e4 S;have T1:Int.tmod ((k:Int)+1) (s:Int)=(J:Int):=by rw[<-ad,mf.1];rfl
  have T2:((k:Int)+1) % (s:Int)=(J:Int):=by rw[<-ad];rfl
  have W4:IntKind.i64.wrap (J:Int)=(J:Int):=by rw[IntKind.wrap_i64];omega
  have W5:IntKind.i64.wrap (Int.tmod ((k:Int)+1) (s:Int))=(J:Int):=by rw[T1];exact W4
  have B2:(0:Int)<=(J:Int):=by omega
  have B3:(J:Int)<(s:Int):=by omega
  have B4:¬(s:Int)=0:=by omega
  have B5:¬s=0:=by omega
  clear ad
  have KF:∀u,Be w3 u->Bf u g 60 #[rx,ry]->(Cq u bv (ov+k*2) px/\Cq u bv (ov+k*2+1) py/\Cq u bv (ov+J*2) qx/\Cq u bv (ov+J*2+1) qy/\Cq u g 0 rx/\Cq u g 1 ry/\Cq u bd (od+k) dk):=λu y hB =>
   ⟨Aq y e1,Aq y e2,Aq y e3,Aq y e4,(Vs hB).1,(Vs hB).2,Aq y e5⟩
  have C:=Aw (Below.refl Y.heap.size Y);have W1:IntKind.i64.wrap ((k:Int)+1)=(k:Int)+1:=by rw[IntKind.wrap_i64];omega
  have tv:=Aca (n:=s) (by omega);clear e1 e2 e3 e4 e5 s1 s2 mf S ho y t hg
  go_region_held3 (λu=>Cq u bv (ov+k*2) px/\Cq u bv (ov+k*2+1) py/\Cq u bv (ov+J*2) qx/\Cq u bv (ov+J*2+1) qy/\Cq u g 0 rx/\Cq u g 1 ry/\Cq u bd (od+k) dk)
   (first
    | with_reducible exact KF _ (An O C) (hV.keep C)
    | with_reducible exact KF _ (raw5 (An O C) gf _ _ _ _ _ _) ((hV.keep C).raw5 ou _ _ _ _ _ _))
   ((first
     | (go_at_call 106;have Af:=W;(with_reducible refine(ts _).mono ?_);rintro e w5 ⟨rfl,ih⟩;replace C:=An C ih;let⟨y0,y1,y2,y3,y4,yf⟩:=Ahc.cells (OwG.keep I C) hz F;have f0:=yf 0;have f1:=yf 1;have f2:=yf 2;have f3:=yf 3;have f4:=yf 4;rw[Nat.add_zero]at f0)
     | (go_at_call 106;(with_reducible refine(tq _).mono ?_);rintro e w4 ⟨rfl,W⟩;replace C:=An C W)))
  all_goals go_wp2_with fail
  all_goals refine⟨⟨k+1,z.set k (Vl V SH D k),by omega,by go_num,by rw[List.length_set];exact hz,Ar λp h=>?_,?_,raw5 (An O C) gf _ _ _ _ _ _⟩,by simp[intOf];omega⟩
  all_goals first
   | (rw[c5.out];exact Ahc.store (OwG.keep I C) hz k ⟨px+rx,py+ry,qx+rx,qy+ry,dk⟩)
   | (rw[Agf (by rw[hz];exact F)]
      by_cases h2:k=p
      .rw[if_pos h2,h2]
      rw[if_neg h2];exact hp.out p (by omega))
 obtain rfl:s=k:=by omega
 have HZ:=Ar hp.out;have cc:=cb.keep y;have b7:=An o5 y;have bp:=ho;have Ah:=Ea;clear gw hh o5 cb ho y hp;let⟨wa,kz⟩:∃wa:World,wa=wr:=⟨_,rfl⟩
 rw[<-kz]at cc b7 bp ⊢;clear kz;go_upto_region 17 with fail;go_loopw [14,15,16,18,79] (λv _ _ _ i wx=>∃k:Nat,k<=s/\i=.int .i64 k/\OwS wx wa.heap.size v (K7 V SH D k)/\Be wa wx) λ_ _ _ _ i _=>s-(intOf i).toNat
 case atStart=>exact⟨0,Nat.zero_le _,rfl,OwG.nil,bl0⟩
 obtain⟨k,hk,rfl,au,W⟩:=hrel;by_cases F:k<s
 .obtain⟨q,hq⟩:∃q,k+s-1=q:=⟨_,rfl⟩
  have S:q % s<s:=Nat.mod_lt _ (by omega);have mf:=Q6 (q:Int) q s rfl (by omega);have tv:=Aca (n:=s) (by omega);obtain⟨bv,ov,rfl,-,hc⟩:=(cc.keep W).at_ F;let⟨e1,e2⟩:=hc k F;have cu:=OwG.keep bp W;obtain⟨s0,s1,s2,s3,s4,-⟩:=Ahc.cells cu hz S;obtain⟨t0,t1,t2,t3,t4,-⟩:=Ahc.cells cu hz F;have j1:=h4.out k F;have ha:=fv.out _ S;have iy:=fv.out k F;rw[HZ.out _ S]at s0 s1 s2 s3 s4;rw[HZ.out k F]at t0 t1 t2 t3 t4
  have HP:=Ar (show K7 V SH D (k+1)=Cw (K7 V SH D k) (C9 (gt V k) (Vl V SH D (q % s)) (Vl V SH D k)) (C9 (gt V k) (Vl V SH D (q % s)) (Vl V SH D k)).length by
   rw[K7];unfold Wy;rw[h5.out,hq])
  let⟨v,hv⟩:=gN (gt V k)
  let⟨a,o4⟩:=gN (Vl V SH D (q % s))
  let⟨b,a8⟩:=gN (Vl V SH D k)
  rw[hv]at e1 e2 j1 HP;rw[o4]at s0 s1 s2 s3 s4 ha HP;rw[a8]at t0 t1 t2 t3 t4 iy HP;obtain⟨j1,j2,j3,j4⟩:=j1;have bc:=Ar (λw2:World=>Xf v a b w2 (by unfold Pz;omega) (by unfold Pz;omega) ha iy);have o6:=Ip v a b;let⟨c,o7⟩:=gN (C9 v a b)
  rw[o7]at bc o6 HP;have ox:=T8 V SH D k;let⟨L,hL⟩:=gN (K7 V SH D k)
  rw[hL]at HP ox au;let⟨m,hm⟩:=gN c.length
  rw[hm]at HP o6;have HM:=Ar hm;clear hc hv o4 a8 o7 hL hm ha iy j1 j2 j3 j4;obtain⟨vx,vy⟩:=v;obtain⟨ax,ay,nc,nd,aw⟩:=a;obtain⟨bx,bY,ng,nf,bw⟩:=b;dsimp only at e1 e2 s0 s1 s2 s3 s4 t0 t1 t2 t3 t4 bc;unfold Alf at bc;dsimp only at bc;have B1:(k:Int)<(s:Int):=by omega
  have W1:IntKind.i64.wrap ((k:Int)+(s:Int))=(k:Int)+(s:Int):=by rw[IntKind.wrap_i64];omega
  let⟨J,ad⟩:=gN (q % s)
  rw[ad]at s0 s1 s2 s3 s4 S;have T1:Int.tmod (q:Int) (s:Int)=(J:Int):=by rw[<-ad,mf.1];rfl
  have T2:(q:Int) % (s:Int)=(J:Int):=by rw[<-ad];rfl
  have W4:IntKind.i64.wrap (J:Int)=(J:Int):=by rw[IntKind.wrap_i64];omega
  have W5:IntKind.i64.wrap (Int.tmod (q:Int) (s:Int))=(J:Int):=by rw[T1];exact W4
  have B2:(0:Int)<=(J:Int):=by omega
  have B3:(J:Int)<(s:Int):=by omega
  have B4:¬(s:Int)=0:=by omega
  have B5:¬s=0:=by omega
  clear ad mf;have W2:IntKind.i64.wrap ((k:Int)+(s:Int)-1)=(q:Int):=by rw[IntKind.wrap_i64];omega
  let⟨pv,p0⟩:∃pv,pv=u14:=⟨_,rfl⟩
  rw[<-p0]at au ⊢;clear p0;go_upto_region 19 with fail;refine Bq λY t hV=>?_
  let⟨B6,ni⟩:=gN wr.heap.size
  have I:=OwG.keep au t;have O:=An W t;have p3:∀x,pv.ownBlock=some x->x<Y.heap.size:=λx hx=>(OwG.lt I x hx).2
  rw[ni]at hV ⊢
  have KF:∀u,Be Y u->(Cq u B6 0 vx/\Cq u B6 1 vy/\Cq u K (J*5) ax/\Cq u K (J*5+1) ay/\Cq u K (J*5+2) nc/\Cq u K (J*5+3) nd/\Cq u K (J*5+4) aw/\Cq u K (k*5) bx/\Cq u K (k*5+1) bY/\Cq u K (k*5+2) ng/\Cq u K (k*5+3) nf/\Cq u K (k*5+4) bw):=λu y =>
   ⟨Aq y (Vs hV).1,Aq y (Vs hV).2,Aq y (Aq t s0),Aq y (Aq t s1),Aq y (Aq t s2),Aq y (Aq t s3),Aq y (Aq t s4),Aq y (Aq t t0),Aq y (Aq t t1),Aq y (Aq t t2),Aq y (Aq t t3),Aq y (Aq t t4)⟩
  have C:=Aw (Below.refl Y.heap.size Y);clear e1 e2 s0 s1 s2 s3 s4 t0 t1 t2 t3 t4 au W t hV ni cu
  go_region_held3 (λu=>Cq u B6 0 vx/\Cq u B6 1 vy/\Cq u K (J*5) ax/\Cq u K (J*5+1) ay/\Cq u K (J*5+2) nc/\Cq u K (J*5+3) nd/\Cq u K (J*5+4) aw/\Cq u K (k*5) bx/\Cq u K (k*5+1) bY/\Cq u K (k*5+2) ng/\Cq u K (k*5+3) nf/\Cq u K (k*5+4) bw)
   (with_reducible exact KF _ C)
   ((go_at_call 107;(with_reducible refine(bc.out _).mono ?_);rintro e w5 ⟨gc,rfl,oq,U,ih⟩;rw[HM.out]at U ⊢;replace C:=An C ih))
  clear KF;have k9:=OwG.keep I C;have ek:=An O C
  have a6:m=0\/gc<w5.heap.size:=by
   rcases Nat.eq_zero_or_pos m with h|h
   .exact .inl h
   obtain⟨b,Ay,e,F,-⟩:=U.at_ h;injection e with e
   injection e with e
   subst e;exact .inr F
  have ar:pv.ownBlock≠some gc:=λh=>by
   have h1:=p3 gc h;have h2:Y.heap.size<=gc:=oq;omega
  have kz:=ek.size;have qw:=Ar ox;clear p3 oq I O C bc;let⟨wb,cx⟩:∃wb:World,wb=w5:=⟨_,rfl⟩
  rw[<-cx]at U k9 ek a6 ⊢;clear cx;go_upto_region 20 with fail;go_loopw [14,18,100] (λv _ i wx=>∃j:Nat,j<=m/\i=.int .i64 j/\OwS wx wa.heap.size v (Cw L c j)/\SpS wx (some ⟨gc,0,none⟩) m c/\(m=0\/gc<wx.heap.size)/\v.ownBlock≠some gc/\Be wa wx) λ_ _ i _=>m-(intOf i).toNat
  case atStart=>exact⟨0,Nat.zero_le _,rfl,k9,U,a6,ar,ek⟩
  clear U k9 ek a6 ar;obtain⟨j,hj,rfl,ho,U,a6,ar,y⟩:=hrel;by_cases b4:j<m
  .obtain⟨b8,o8,e8,xe,cj⟩:=U.at_ b4;injection e8 with e8
   injection e8 with e81 e82
   subst e81 e82;let⟨x1,x2⟩:=cj j b4;rw[Nat.zero_add]at x1 x2;have HQ:=Ar (show Cw L c (j+1)=Om (Cw L c j) (gt c j) from rfl);have ss:=L8 L c j;let⟨M,hM⟩:=gN (Cw L c j)
   rw[hM]at HQ ss ho;let⟨⟨px,py⟩,hp⟩:∃p,gt c j=p:=⟨_,rfl⟩
   rw[hp]at x1 x2 HQ;clear hM hp cj;have nr:M.length<=1000000:=by have:=qw.out;omega
   obtain⟨Ap,cp,rfl,k0,-,bl⟩:=OwG.form2 ho;have B2:(j:Int)<(m:Int):=by omega
   have nx:=U;go_upto_region 22 with fail;refine Bq λY t hV=>?_
   let⟨v1,v2⟩:=Vs hV;have I:=OwG.keep ho t;have hl:=U.keep t;have O:=An y t;have ey:m=0\/gc<Y.heap.size:=a6.imp id λh=>Nat.lt_of_lt_of_le h t.size
   have oe:gc<Y.heap.size:=by
    rcases ey with h|h
    .omega
    exact h
   have fa:=Ar λ(nq:Nat) (o:Obj)=>show gc<((Y.drewN nq).alloc o).heap.size from Nat.lt_of_lt_of_le oe (Ao (Bd bl0 _) _).size;let⟨B8,nj⟩:=gN wr.heap.size
   rw[nj]at hV v1 v2 ⊢;clear x1 x2 ho U y t a6 nj nx;rcases Nat.eq_zero_or_pos M.length with h0|h0
   .obtain rfl:M=[]:=List.eq_nil_of_length_eq_zero h0;clear h0;go_quiet (fail)
    go_wp2_with (at_builtin;refine Dl rfl _ _ rfl wa.heap.size _ [] rfl ((OwG.keep I (Bd bl0 _)).alloc _) Y.heap.size 1 (px,py) 60 rfl (Bf.new _ _ _) nr (Ao (Bd O _) _).size ?_;intro v' w2 k3 b3 cf)
    have ch:=Bk (Ao (Bd O _) _) ((OwG.keep I (Bd bl0 _)).alloc _) b3;refine⟨⟨j+1,by omega,by go_num,by rw[HQ.out,T6];exact k3,?_,?_,?_,ch⟩,by simp[intOf];omega⟩
    .exact(hl.keep (Ao (Bd bl0 _) _)).blk (b3.block gc (fa.out _ _) (Ne.symm ar))
    .exact ey.imp id λh=>Nat.lt_of_lt_of_le h (Nat.le_trans (Ao (Bd bl0 _) _).size b3.size)
    rcases cf with h|h
    .rw[h];exact ar
    rw[h];intro e;injection e with e;exact absurd e (Nat.ne_of_gt (fa.out _ _))
   obtain⟨g,rfl,ob,oc⟩:=bl h0;let⟨i,T⟩:∃i,M.length=i+1:=⟨M.length-1,by omega⟩
   obtain⟨d1,d2,-,-⟩:=OwS.cells I rfl (show i<M.length by omega);have a7:=Ar λ(h:eqS (gt M i) (px,py)=true)=>Qw T h;have b5:=Ar λ(h:eqS (gt M i) (px,py)=false)=>T7 T h;let⟨n8,k2⟩:=gN M.length
   rw[k2]at T k0 h0 I nr ⊢;have r1:=Ar k2;let⟨⟨lx,ly⟩,ck⟩:∃q,gt M i=q:=⟨_,rfl⟩
   rw[ck]at d1 d2 a7 b5;dsimp only at d1 d2;have W3:IntKind.i64.wrap ((n8:Int)-1)=(i:Int):=by rw[IntKind.wrap_i64];omega
   have Al:=Aca h0;have Am:¬n8=0:=by omega
   have B9:(i:Int)<(n8:Int):=by omega
   clear ck k2 T;cases hd:eqS (lx,ly) (px,py) with
   | true =>
     have h7:=a7.out hd;clear a7 b5;go_quiet (fail)
     go_wp2_with fail;exact⟨⟨j+1,by omega,by go_num,by rw[HQ.out,h7];exact OwG.keep I (Bd bl0 _),hl.keep (Bd bl0 _),ey,ar,Bd O _⟩,by simp[intOf];omega⟩
   | false =>
     have h7:=b5.out hd;clear a7 b5;go_quiet (fail)
     go_wp2_with (at_builtin;refine Dl rfl _ _ rfl wa.heap.size _ M rfl ((OwG.keep I (Bd bl0 _)).alloc _) Y.heap.size 1 (px,py) 60 rfl (Bf.new _ _ _) (by have:=r1.out;omega) (Ao (Bd O _) _).size ?_;intro v' w2 k3 b3 cf)
     have ch:=Bk (Ao (Bd O _) _) ((OwG.keep I (Bd bl0 _)).alloc _) b3;refine⟨⟨j+1,by omega,by go_num,by rw[HQ.out,h7];exact k3,?_,?_,?_,ch⟩,by simp[intOf];omega⟩
     .exact(hl.keep (Ao (Bd bl0 _) _)).blk (b3.block gc (fa.out _ _) (Ne.symm ar))
     .exact ey.imp id λh=>Nat.lt_of_lt_of_le h (Nat.le_trans (Ao (Bd bl0 _) _).size b3.size)
     rcases cf with h|h
     .rw[h];exact ar
     rw[h];intro e;injection e with e;exact absurd e (Nat.ne_of_gt (fa.out _ _))
  obtain rfl:m=j:=by omega
  go_wp2_with fail;exact⟨⟨k+1,by omega,by go_num,by rw[HP.out];exact ho,y⟩,by simp[intOf];omega⟩
 obtain rfl:s=k:=by omega
 have ns:=T8 V SH D s;rw[<-r4.out]at au ns;let⟨np,fb⟩:=gN P.length
 rw[fb]at ns ds;have r2:=Ar fb;have r8:Hid (P.take np=P):=Ar (by rw[<-fb];exact List.take_length);let⟨wb,cx⟩:∃wb:World,wb=wr:=⟨_,rfl⟩
 rw[<-cx]at au W ⊢;clear cx fb hz bp;go_upto_region 26 with fail;go_loopw [14] (λv wx=>∃m:Nat,m<=np/\Hid (I5 P m=I5 P np)/\OwS wx wa.heap.size v (P.take m)/\Be wa wx) λv _=>Ahl v
 case atStart=>exact⟨np,Nat.le_refl _,Ar rfl,by rw[r8.out];exact au,W⟩
 clear au W;obtain⟨m,hm,hT,ho,y⟩:=hrel;have k1:(P.take m).length=m:=by rw[List.length_take,r2.out];omega
 obtain⟨Ap,cp,rfl,k0,Ag,bl⟩:=OwG.form2 ho;have dc:=Ar k1;rw[k1]at ho k0 bl ⊢;have n9:=Ar λi (h1:1<m) (T:m-1=i) h2=>Th (l:=P) h1 T h2;have na:=Ar λh=>Xs (l:=P) (m:=m) h;let⟨i,T⟩:=gN (m-1)
 let⟨bb,a8⟩:=gN (decide (1<m)&&eqS (gt P i) (gt P 0))
 have db:=Ar a8;have HI:=Ar T;clear k1;go_upto_region 26 with fail;go_cut [137] λv wx=>v=.bool bb/\Be wr wx
 case first =>
  by_cases h1:1<m
  .obtain⟨g,rfl,ob,oc⟩:=bl (by omega);obtain⟨d1,d2,-,-⟩:=OwS.cells ho dc.out (show i<m by omega);obtain⟨d3,d4,-,-⟩:=OwS.cells ho dc.out (show 0<m by omega);rw[Aaw (show i<m by omega)]at d1 d2;rw[Aaw (show 0<m by omega)]at d3 d4;rw[Nat.zero_mul]at d3 d4;have eo:eqS (gt P i) (gt P 0)=bb:=by rw[<-a8];simp[h1]
   let⟨⟨lx,ly⟩,ck⟩:∃q,gt P i=q:=⟨_,rfl⟩
   let⟨⟨fx,fy⟩,oa⟩:∃q,gt P 0=q:=⟨_,rfl⟩
   rw[ck]at d1 d2 eo;rw[oa]at d3 d4 eo;dsimp only at d1 d2 d3 d4;have W3:=Kr (Nat.le_of_lt h1) T (Nat.le_trans hm (by omega));have B9:(i:Int)<(m:Int):=by omega
   have zy:(0:Int)<(m:Int):=by omega
   have qo:((2:Int)<=(m:Int))=True:=by simp;omega
   clear ck oa T a8 h1;go_quiet (fail)
   go_wp2_with fail;go_meet;exact⟨rfl,Bd bl0 _⟩
  have eo:bb=false:=by rw[<-a8];simp[h1]
  have qo:((2:Int)<=(m:Int))=False:=by simp;omega
  clear T a8 h1;subst eo;go_quiet (fail)
  go_wp2_with fail;go_meet;exact⟨rfl,Bd bl0 _⟩
 obtain⟨rfl,ix⟩:=hcut;have cn:=OwG.keep ho ix;have eg:=An y ix;clear ho y ix a8;cases hbv:bb with
 | true =>
   rw[hbv]at db;have Q:=db.out;simp only[Bool.and_eq_true,decide_eq_true_eq]at Q;obtain⟨h1,h2⟩:=Q;obtain⟨g,rfl,ob,oc⟩:=bl (by omega);have W3:=Kr (Nat.le_of_lt h1) T (Nat.le_trans hm (by omega));have r7:=Ar ((n9.out i h1 T h2).symm.trans hT.out);have i1:(0:Int)<=(i:Int):=by omega
   have i2:(i:Int)<=(cp:Int):=by omega
   have i3:(i:Int)<=(m:Int):=by omega
   have bp:=OwS.take cn dc.out (show i<=m by omega);rw[List.take_take,Nat.min_eq_left (show i<=m by omega)]at bp;have Ai:i<m:=by omega
   clear hbv h2 T h1;go_wp2_with fail;exact⟨⟨i,by omega,r7,bp,eg⟩,by simp[Ahl];omega⟩
 | false =>
   rw[hbv]at db
   have ny:I5 P m=m:=na.out (by
    have Q:=db.out;rw[Bool.and_eq_false_iff]at Q;rcases Q with h|h
    .left;simpa using h
    right;rw[T];exact h)
   rw[ny]at hT;have HG:=Ar (show G=P.take m by rw[ds.out,<-hT.out]);clear hbv ny T n9 na;rw[<-HG.out]at cn;have c3:=Ar (show G.length=m by rw[HG.out];exact dc.out);obtain⟨A',c',e',-,c9,-⟩:=OwS.sps cn;rw[c3.out]at c9 e';injection e' with e1 e2 e3
   subst e1 e3;clear e2;have xf:m<=80:=by omega
   have Ac:=c9;clear bl;go_upto_region 29 with fail;go_loopw [20,145] (λ_ i wx=>∃j:Nat,j<=m/\i=.int .i64 j/\Hid (Bp (λi=>!wS (gt G i) 1048576) j=false)/\Be wc wx) λ_ i _=>m-(intOf i).toNat
   case atStart=>exact⟨0,Nat.zero_le _,rfl,Ar rfl,bl0⟩
   obtain⟨j,hj,rfl,hA,y⟩:=hrel;by_cases b4:j<m
   .obtain⟨b8,o8,rfl,-,cj⟩:=(c9.keep y).at_ b4;let⟨x1,x2⟩:=cj j b4;have HY:=Ar (λ(h:wS (gt G j) 1048576=true)=>Bp.succ (f:=λi=>!wS (gt G i) 1048576) hA.out (by rw[h];rfl));have HN:=Ar (λ(h:wS (gt G j) 1048576=false)=>Bp.yes (f:=λi=>!wS (gt G i) 1048576) b4 (by rw[h];rfl));let⟨⟨px,py⟩,hp⟩:∃p,gt G j=p:=⟨_,rfl⟩
    rw[hp]at x1 x2 HY HN;dsimp only at x1 x2;clear hp cj;have B8:(j:Int)<(m:Int):=by omega
    cases hw:wS (px,py) 1048576 with
    | true =>
      have rn:=Ar (HY.out hw)
      go_wp2_with (go_at_call 108;refine rR (Is px py 1048576 _ (by omega) (by omega)) λw8 N=>?_;rw[hw])
      exact⟨⟨j+1,by omega,by go_num,rn,An (Ao y _) N⟩,by simp[intOf];omega⟩
    | false =>
      have r5:=Ar (show R=([],3) by rw[HA.out,if_pos (by rw[c3.out];exact HN.out hw)])
      go_wp2_with (go_at_call 108;refine rR (Is px py 1048576 _ (by omega) (by omega)) λw8 N=>?_;rw[hw])
      go_ret2
      rw[r5.out];exact⟨_,rfl,OwG.nil,An b7 (An eg (An (Ao y _) N))⟩
   obtain rfl:m=j:=by omega
   have da:=Ar (show R=if Bg G m≠0 then ([],Bg G m) else if orW G≠orW V then ([],11) else (G,0) by rw[HA.out,c3.out,if_neg (by rw[hA.out];simp)]);have ak:=c9.keep y;have gg:=cc.keep (An eg y);have ow:=OwG.keep cn y;have im:=An b7 (An eg y);let⟨cg,j0⟩:=gN (Bg G m)
   let⟨og,kk⟩:=gN (orW G)
   let⟨ov,kl⟩:=gN (orW V)
   rw[j0,kk,kl]at da;have h3:=Ar j0;have n0:=Ar kk;have n1:=Ar kl;clear j0 kk kl hj b4 hA c9 cn y;by_cases er:cg=0
   .subst er;by_cases fr:og=ov
    .subst fr;have c4:=Ar (show R=(G,0) by rw[da.out,if_neg (by simp),if_neg (by simp)])
     go_wp2_with (first
      | (go_at_call 109;have hX:=N;refine rR (G9 Av cv s V _ (by omega) (by omega) (gg.keep (An X N))) λw9 ee=>?_;rw[n1.out])
      | (go_at_call 109;refine(G9 Ap cp m G _ (by omega) (by omega) (ak.keep X)).mono ?_;rintro e w8 ⟨rfl,N⟩;rw[n0.out])
      | (go_at_call 57;refine rR (Dc Ap cp m G _ (by omega) (by omega) ak) λw7 X=>?_;rw[h3.out]))
     go_ret2
     rw[c4.out];exact⟨_,rfl,(OwG.keep ow (An (An X N) ee)).lower b7.size,An im (An (An X N) ee)⟩
    have xn:(og != ov)=true:=by simpa using fr
    have c4:=Ar (show R=([],11) by rw[da.out,if_neg (by simp),if_pos fr]);clear fr
    go_wp2_with (first
     | (go_at_call 109;have hX:=N;refine rR (G9 Av cv s V _ (by omega) (by omega) (gg.keep (An X N))) λw9 ee=>?_;rw[n1.out])
     | (go_at_call 109;refine(G9 Ap cp m G _ (by omega) (by omega) (ak.keep X)).mono ?_;rintro e w8 ⟨rfl,N⟩;rw[n0.out])
     | (go_at_call 57;refine rR (Dc Ap cp m G _ (by omega) (by omega) ak) λw7 X=>?_;rw[h3.out]))
    go_ret2
    rw[c4.out];exact⟨_,rfl,OwG.nil,An im (An (An X N) ee)⟩
   have xa:(cg != 0)=true:=by simpa using er
   have c4:=Ar (show R=([],cg) by rw[da.out,if_pos er]);clear er
   go_wp2_with (go_at_call 57;refine rR (Dc Ap cp m G _ (by omega) (by omega) ak) λw7 X=>?_;rw[h3.out])
   go_ret2
   rw[c4.out];exact⟨_,rfl,OwG.nil,An im X⟩
theorem vn(A:Option Addr) (a n:Nat) (E:List EdgeP) (d:Option Addr) (f g:Nat) (c:List Int) (w:World) (b:n<=a) (k:n<=9223372036854775807) (i:EdS w A n E) (j:InS w d f c) :
 Calls Tryz.prog 65 #[.slice A n a,.slice d f g] w (Ng w (Ff E c)):=by
 by_cases h:(Ed E c).2=0
 .have e:=(Tr h).2.1;rw[i.1,j.1]at e;subst e;exact Aqm A a f E d g c w b i j h
 rw[show Ff E c=([],(Ed E c).2) by unfold Ff;rw[if_pos h]];exact Aqn A a n E d f g c w b k i j h
theorem de(l:LP):∀k,0<k->0<(Cw [] l k).length:=by
 intro k a;induction k with
 | zero=>omega
 | succ k ih =>
   rw[Cw];unfold Om;split
   .simp
   split
   .omega
   simp
def Wf (l:LP):LP:=(Cw [] l l.length).take (I5 (Cw [] l l.length) (Cw [] l l.length).length)
theorem Al1(A:Option Addr) (bd n:Nat) (l:LP) (w:World) (hn:n<=1000000) (hs:SpS w A n l):Calls Tryz.prog 74 #[.slice A n bd] w (Vi w (Wf l)):=by
 have HL:=Ar hs.1;have HQ:=Ar λk=>show Cw [] l (k+1)=Om (Cw [] l k) (gt l k) from rfl;have b8:=Ar λk=>de l k;have b7:=Ar λk=>L8 [] l k;have HO:=Ar (show Wf l=(Cw [] l n).take (I5 (Cw [] l n) (Cw [] l n).length) by unfold Wf;rw[hs.1]);have ch:=Ea;go_enter Tryz.func74,Tryz.ntmps74;go_upto_region 3 with fail;go_loopw [3,4] (λv i wr=>∃k:Nat,k<=n/\i=.int .i64 k/\OwS wr w.heap.size v (Cw [] l k)/\Be w wr) λ_ i _=>n-(intOf i).toNat
 case atStart=>exact⟨0,Nat.zero_le _,rfl,OwG.nil,bl0⟩
 obtain⟨k,hk,rfl,d,r⟩:=hrel;have C:=b8.out k;have B:=b7.out k;have y:=HQ.out k;let⟨M,hM⟩:=gN (Cw [] l k)
 rw[hM]at d C B y;have U:=Ar hM;clear hM;by_cases ad:k<n
 .obtain⟨b,ck,rfl,cg,hc⟩:=(hs.keep r).at_ ad;let⟨e,D⟩:=hc k ad;let⟨⟨E,F⟩,hp⟩:∃q,gt l k=q:=⟨_,rfl⟩
  rw[hp]at e D y;dsimp only at e D;have H:=Ar y;have B1:(k:Int)<(n:Int):=by omega
  have B0:(0:Int)<=(k:Int):=by omega
  clear hc hp y;have bp:M.length<=1000000:=by simp at B;omega
  rcases Nat.eq_zero_or_pos k with h0|h0
  .subst h0;obtain rfl:M=[]:=U.out.symm;simp only[Nat.zero_mul,Nat.add_zero]at e D;go_upto_region 5 with fail;go_quiet (fail)
   go_wp2_with (at_builtin;refine Dl rfl _ _ rfl w.heap.size _ [] rfl ((OwG.keep d (Bd bl0 _)).alloc _) wr.heap.size 1 (E,F) 60 rfl (Bf.new _ _ _) (by simp) (Ao (Bd r _) _).size ?_;intro v' w2 P L Z)
   exact⟨⟨0+1,by omega,by go_num,by rw[H.out,T6];exact P,Bk (Ao (Bd r _) _) ((OwG.keep d (Bd bl0 _)).alloc _) L⟩,by simp[intOf];omega⟩
  have X:=C h0;obtain⟨Ap,cp,rfl,K,bs,o⟩:=OwG.form2 d;obtain⟨g,rfl,a7,a8⟩:=o X;let⟨i,f⟩:∃i,M.length=i+1:=⟨M.length-1,by omega⟩
  obtain⟨S,T,-,-⟩:=OwS.cells d rfl (show i<M.length by omega);have c:=Ar λ(h:eqS (gt M i) (E,F)=true)=>Qw f h;have j:=Ar λ(h:eqS (gt M i) (E,F)=false)=>T7 f h;let⟨n8,O⟩:=gN M.length
  rw[O]at f K d bp ⊢;have b5:=Ar O;let⟨⟨lx,ly⟩,t⟩:∃q,gt M i=q:=⟨_,rfl⟩
  rw[t]at S T c j;dsimp only at S T;have W3:IntKind.i64.wrap ((n8:Int)-1)=(i:Int):=by rw[IntKind.wrap_i64];omega
  have B9:(i:Int)<(n8:Int):=by omega
  have B8:¬(k:Int)=0:=by omega
  have B7:¬k=0:=by omega
  have ec:eqS (E,F) (lx,ly)=eqS (lx,ly) (E,F):=by unfold eqS;dsimp only;rw[Bool.beq_comm (a:=E),Bool.beq_comm (a:=F)]
  clear t O f C o X;cases hd:eqS (lx,ly) (E,F) with
  | true =>
    have I:=c.out hd;rw[hd]at ec;clear c j;go_upto_region 5 with fail;go_quiet (fail)
    go_wp2_with fail;exact⟨⟨k+1,by omega,by go_num,by rw[H.out,I];exact OwG.keep d (Bd bl0 _),Bd r _⟩,by simp[intOf];omega⟩
  | false =>
    have I:=j.out hd;rw[hd]at ec;clear c j;go_upto_region 5 with fail;go_quiet (fail)
    go_wp2_with (at_builtin;refine Dl rfl _ _ rfl w.heap.size _ M rfl ((OwG.keep d (Bd bl0 _)).alloc _) wr.heap.size 1 (E,F) 60 rfl (Bf.new _ _ _) (by have:=b5.out;omega) (Ao (Bd r _) _).size ?_;intro v' w2 P L Z)
    exact⟨⟨k+1,by omega,by go_num,by rw[H.out,I];exact P,Bk (Ao (Bd r _) _) ((OwG.keep d (Bd bl0 _)).alloc _) L⟩,by simp[intOf];omega⟩
 obtain rfl:n=k:=by omega
 let⟨R,u⟩:=gN M.length
 have b9:=Ar (show Wf l=M.take (I5 M R) by rw[HO.out,U.out,u]);have bc:Hid (M.take R=M):=Ar (by rw[<-u];exact List.take_length);have b6:=Ar u;rw[u]at B;simp only[List.length_nil,Nat.zero_add]at B;let⟨wb,ak⟩:∃wb:World,wb=wr:=⟨_,rfl⟩
 rw[<-ak]at d r ⊢;clear ak u C;go_upto_region 7 with fail;go_loopw [3] (λv wx=>∃m:Nat,m<=R/\Hid (I5 M m=I5 M R)/\OwS wx w.heap.size v (M.take m)/\Be w wx) λv _=>Ahl v
 case atStart=>exact⟨R,Nat.le_refl _,Ar rfl,by rw[bc.out];exact d,r⟩
 clear d r;obtain⟨m,hm,hT,d,r⟩:=hrel;have N:(M.take m).length=m:=by rw[List.length_take,b6.out];omega
 obtain⟨Ap,cp,rfl,K,bs,o⟩:=OwG.form2 d;have G:=Ar N;rw[N]at d K o ⊢;have V:=Ar λi (e:1<m) (f:m-1=i) D=>Th (l:=M) e f D;have W:=Ar λh=>Xs (l:=M) (m:=m) h;let⟨i,f⟩:=gN (m-1)
 let⟨bb,p⟩:=gN (decide (1<m)&&eqS (gt M i) (gt M 0))
 have x:=Ar p;clear N;go_upto_region 7 with fail;go_cut [47] λv wx=>v=.bool bb/\Be wr wx
 case first =>
  by_cases e:1<m
  .obtain⟨g,rfl,a7,a8⟩:=o (by omega);obtain⟨S,T,-,-⟩:=OwS.cells d G.out (show i<m by omega);obtain⟨d3,d4,-,-⟩:=OwS.cells d G.out (show 0<m by omega);rw[Aaw (show i<m by omega)]at S T;rw[Aaw (show 0<m by omega)]at d3 d4;rw[Nat.zero_mul]at d3 d4;have z:eqS (gt M i) (gt M 0)=bb:=by rw[<-p];simp[e]
   let⟨⟨lx,ly⟩,t⟩:∃q,gt M i=q:=⟨_,rfl⟩
   let⟨⟨fx,fy⟩,a6⟩:∃q,gt M 0=q:=⟨_,rfl⟩
   rw[t]at S T z;rw[a6]at d3 d4 z;dsimp only at S T d3 d4;have W3:=Kr (Nat.le_of_lt e) f (Nat.le_trans hm (by omega));have B9:(i:Int)<(m:Int):=by omega
   have ca:(0:Int)<(m:Int):=by omega
   have b3:((1:Int)<(m:Int))=True:=by simp;omega
   have b4:((2:Int)<=(m:Int))=True:=by simp;omega
   clear t a6 f p e;go_quiet (fail)
   go_wp2_with fail;go_meet;exact⟨rfl,Bd bl0 _⟩
  have z:bb=false:=by rw[<-p];simp[e]
  have b3:((1:Int)<(m:Int))=False:=by simp;omega
  have b4:((2:Int)<=(m:Int))=False:=by simp;omega
  clear f p e;subst z;go_quiet (fail)
  go_wp2_with fail;go_meet;exact⟨rfl,Bd bl0 _⟩
 obtain⟨rfl,J⟩:=hcut;have Q:=OwG.keep d J;have a1:=An r J;clear d r J p;cases hbv:bb with
 | true =>
   rw[hbv]at x;have s:=x.out;simp only[Bool.and_eq_true,decide_eq_true_eq]at s;obtain⟨e,D⟩:=s;obtain⟨g,rfl,a7,a8⟩:=o (by omega);have W3:=Kr (Nat.le_of_lt e) f (Nat.le_trans hm (by omega));have ba:=Ar ((V.out i e f D).symm.trans hT.out);have i1:(0:Int)<=(i:Int):=by omega
   have i2:(i:Int)<=(cp:Int):=by omega
   have i3:(i:Int)<=(m:Int):=by omega
   have ai:=OwS.take Q G.out (show i<=m by omega);rw[List.take_take,Nat.min_eq_left (show i<=m by omega)]at ai;have cj:i<m:=by omega
   clear hbv D f e;go_wp2_with fail;exact⟨⟨i,by omega,ba,ai,a1⟩,by simp[Ahl];omega⟩
 | false =>
   rw[hbv]at x
   have Y:I5 M m=m:=W.out (by
    have s:=x.out;rw[Bool.and_eq_false_iff]at s;rcases s with h|h
    .left;simpa using h
    right;rw[f];exact h)
   rw[Y]at hT;have HG:=Ar (show Wf l=M.take m by rw[b9.out,<-hT.out]);clear hbv Y f V W;rw[<-HG.out]at Q;go_wp2_with fail;go_ret;exact⟨_,rfl,Q,a1⟩
theorem Ajd(b:plW e a=0) (d:h+1<a):gt e h≠gt e (h+1):=by
 unfold plW at b;split at b
 .cases b
 split at b
 .cases b
 split at b
 .cases b
 split at b
 .cases b
 rename_i g;intro c;exact g (Bp.yes (f:=λi=>eqS (gt e i) (gt e (i+1))) (show h<a-1 by omega) ((Ge _ _).2 c))
def Abd (r:SgR):List Value:=[.int .i64 r.a.1,.int .i64 r.a.2,.int .i64 r.b.1,.int .i64 r.b.2,.int .i64 r.w,.int .i64 r.s.1,.int .i64 r.s.2]
theorem Zg(c:SgR):(Abd c).length=7:=rfl
theorem Abc(c:SgR):∀u∈Abd c,u.oneCell'=true:=by
 intro u a;simp[Abd]at a;rcases a with rfl|rfl|rfl|rfl|rfl|rfl|rfl<;>rfl
theorem Ajz:(Tryz.prog.info? 136).map (λi=>(i.zero,i.size,i.bytes))=some (some (.agg #[.int .i64 0,.int .i64 0,.int .i64 0,.int .i64 0,.int .i64 0,.int .i64 0,.int .i64 0]),7,56):=by kernel_rfl
def Aej (w:World) (a:Nat) (v:Value) (l:List SgR):Prop:=OwG 136 7 Abd w a v l
theorem ae{w:World} {E:Array Oper} {o:Oper} {a:Act} {K:Act->World->Prop} {Q:Exit->Act->World->Prop} {Z:Prop} (r:o.guard=none) (s x:Operand)
 (N:o.op=.call { callee:=.builtin .append,args:=#[s,x],argTypes:=#[131,131] })
 (b:Nat) (v:Value) (l:List SgR) (O:a.eval s=v) (m:Aej w b v l)
 (n c:Nat) (p:SgR) (G:TypeId) (R:a.eval x=.slice (some ⟨n,0,none⟩) 1 c) (k:Bf w n G (Abd p).toArray)
 (F:l.length<=1000000) (e:b<=w.heap.size) (H:Nat) (I:w.heap.size=H)
 (h:∀g d f,Aej f b (.slice (some ⟨g,0,none⟩) (l.length+1) d) (l++[p])->w.grownBy f v.ownBlock->(v.ownBlock=some g\/g=H)->g<f.heap.size->K (a.put o.dst (.slice (some ⟨g,0,none⟩) (l.length+1) d)) f) :
 if Region.wanted o (yielded E a.tmps)=true then Oper.wp Tryz.prog o a w K Q else Z:=by
 let⟨i,L,A,C,D⟩:=info_parts Ajz;refine step_append_lies (P:=Tryz.prog) w r s x 131 N b 136 i (.agg #[.int .i64 0,.int .i64 0,.int .i64 0,.int .i64 0,.int .i64 0,.int .i64 0,.int .i64 0]) 7 56 Tryz.underlying131 L A C D rfl (by omega) v l.length (l.flatMap Abd) O m ⟨n,0,none⟩ 1 c (Abd p) R (by rw[Zg]) ?_ (Abc p) (by omega) (by unfold maxLen;omega) (by omega) e H I ?_
 .intro j u M;exact World.news_of_block (w:=w) (B:=n) (cs:=(Abd p).toArray) (t:=G) (fr:=(0,0)) k j u (by simpa using M)
 intro g d f z J q y;refine h g d f ?_ J q y;unfold Aej OwG;rw[List.length_append,List.flatMap_append];simpa using z
def K6 (E:List EdgeP) (a:List Int):List SgR×Int:=if C7 E≠0 then ([],C7 E) else if a.length≠E.length then ([],1) else if Bp (wdB a) a.length then ([],3) else (Nb E a (Kp (Bj E)) E.length,0)
def Ani (w:World) (r:List SgR×Int) (e:Ending) (a:World):Prop:=∃v,e=.returned (.tuple #[v,r.2])/\Aej a w.heap.size v r.1/\Be w a
theorem Aio(A:Option Addr) (y n:Nat) (E:List EdgeP) (A2:Option Addr) (g c2:Nat) (a:List Int) (w:World) (x:n<=y) (hn:n<=9223372036854775807) (kk:g<=9223372036854775807) (Z:EdS w A n E) (hW:InS w A2 g a) :
 Calls Tryz.prog 72 #[.slice A n y,.slice A2 g c2] w (Ani w (K6 E a)):=by
 have M:=Ar (show K6 E a=if C7 E≠0 then ([],C7 E) else if g≠n then ([],1) else if Bp (wdB a) g then ([],3) else (Nb E a (Kp (Bj E)) n,0) by unfold K6;rw[Z.1,hW.1]);let⟨R,hR⟩:=gN (K6 E a)
 rw[hR]at M ⊢;have db:=Ar Z.1;let⟨eo,D⟩:=gN (C7 E)
 have a8:=Ar D;rw[D]at M;clear hR;go_enter Tryz.func72,Tryz.ntmps72;by_cases h0:eo=0
 .subst h0;have o:=D5 D;have dk:=Ar D;clear D;by_cases K:g=n
  .subst K;replace M:=Ar (show R=if Bp (wdB a) g then ([],3) else (Nb E a (Kp (Bj E)) g,0) by rw[M.out,if_neg (by simp),if_neg (by simp)]);have ix:g<=16:=by rw[<-Z.1];exact o.2.1
   have bq:=Ar (λk (hk:k<g)=>(o.2.2.1 k (by rw[db.out];exact hk)).2);clear o
   go_upto_region 7 with (go_at_call 112;refine rR (Ie A y g E _ x hn Z) λw1 p=>?_;rw[a8.out])
   have ar:=Z.keep p;have b2:=hW.keep p;go_loopw [7] (λi wr=>∃k:Nat,k<=g/\i=.int .i64 k/\Hid (Bp (wdB a) k=false)/\w1=wr) λi _=>g-(intOf i).toNat
   case atStart=>exact⟨0,Nat.zero_le _,rfl,Ar (Bp.zero _),rfl⟩
   obtain⟨k,hk,rfl,hz,rfl⟩:=hrel;by_cases t:k<g
   .obtain⟨b,H,rfl,hc⟩:=b2.at_ t;have B1:(k:Int)<(g:Int):=by omega
    have B0:(0:Int)<=(k:Int):=by omega
    let⟨z,b8⟩:=gN (gi a k)
    have HW:=Ar (show wdB a k=(decide (z<0) || decide (500<z)) by unfold wdB;rw[b8]);rw[b8]at hc;clear b8;by_cases h0:z<0
    .have J:=Ar (show R=([],3) by rw[M.out,if_pos (Bp.yes (f:=wdB a) t (by rw[HW.out];simp;omega))])
     go_wp2_with fail
     go_ret2
     rw[J.out];exact⟨_,rfl,OwG.nil,p⟩
    by_cases h5:500<z
    .have J:=Ar (show R=([],3) by rw[M.out,if_pos (Bp.yes (f:=wdB a) t (by rw[HW.out];simp;omega))])
     go_wp2_with fail
     go_ret2
     rw[J.out];exact⟨_,rfl,OwG.nil,p⟩
    have dx:=Bp.succ (f:=wdB a) hz.out (by rw[HW.out];simp;omega)
    go_wp2_with fail;exact⟨⟨k+1,by omega,by go_num,Ar dx,trivial⟩,by simp[intOf];omega⟩
   obtain rfl:g=k:=by omega
   have J:=Ar (show R=(Nb E a (Kp (Bj E)) g,0) by rw[M.out,if_neg (by rw[hz.out];simp)])
   have e5:=Ar (λk (hk:k<g)=>show 0<=gi a k/\gi a k<=500 from by
    have h:wdB a k=false:=Bool.eq_false_iff.2 λe=>absurd (Bp.yes (f:=wdB a) hk e) (by rw[hz.out];simp)
    unfold wdB at h;simp at h;omega)
   have b6:Kp (Bj E)=1\/Kp (Bj E) = -1:=by unfold Kp;split<;>simp
   let⟨V,hV⟩:=gN (Bj E)
   rw[hV]at J b6;have ds:=Ar (show (if C7 E=0 then (Bj E,0) else ([],C7 E))=(V,(0:Int)) by rw[dk.out,if_pos rfl,hV]);let⟨sg,b7⟩:=gN (Kp V)
   have dy:=Ar b7;rw[b7]at J b6;clear hV b7 hz M
   go_upto_region 12 with (go_at_call 77;refine(Adj A y g E _ x hn ar).mono ?_;rintro e w2 ⟨v2,rfl,X,S⟩;rw[ds.out]at X ⊢)
   obtain⟨Av,cv,rfl,b4,aw,-⟩:=X.sps;let⟨nv,cb⟩:=gN V.length
   rw[cb]at b4 aw ⊢
   have a6:nv<=9223372036854775807:=by
    obtain⟨A',c',e',-,q',-⟩:=OwG.form2 X;injection e' with e1 e2 e3
    unfold maxLen at q';omega
   clear X cb
   go_upto_region 15 with (go_at_call 78;refine rR (Oc Av cv nv V _ a6 b4 aw) λY T=>?_;rw[dy.out])
   have ee:=ar.keep (An S T);have ev:=b2.keep (An S T);have bx:=An p (An S T);clear aw Z ar hW b2 p S T b4 a6;go_loopw [11,12,13,14,15] (λv i _ _ _ wr=>∃k:Nat,k<=g/\i=.int .i64 k/\Aej wr Y.heap.size v (Nb E a sg k)/\Be Y wr) λ_ i _ _ _ _=>g-(intOf i).toNat
   case atStart=>exact⟨0,Nat.zero_le _,rfl,OwG.nil,bl0⟩
   obtain⟨k,hk,rfl,F,C⟩:=hrel;by_cases t:k<g
   .obtain⟨b1,o1,rfl,c4⟩:=ee.at_ t;obtain⟨-,Al,cl,e6,g1,g2,g3⟩:=c4 k t;have hs:b1<Y.heap.size:=Bi e6;have G:=bq.out k t;obtain⟨bw,ow,rfl,e7⟩:=ev.at_ t;have ch:=e5.out k t;have B:=Ar (show Nb E a sg (k+1)=Nb E a sg k++(List.range ((edg E k).ln.length-1)).map (sgR E a sg k) from rfl);have Q:=Ar λj=>show sgR E a sg k j=sgV sg (gt (edg E k).ln j) (gt (edg E k).ln (j+1)) (gi a k) from rfl;let⟨l,hl⟩:=gN ((edg E k).ln)
    rw[hl]at e6 g1 g3 G B Q;let⟨c,c5⟩:=gN (gi a k)
    rw[c5]at e7 ch Q;let⟨f,hf⟩:=gN (sgR E a sg k)
    rw[hf]at B Q;let⟨I,ca⟩:=gN l.length
    rw[ca]at e6 g1 g3 G B;have iy:=Er G;have bp:=Ar λj (hj:j<I)=>(Lb G hj).1;have dc:=Ar λj (hj:j+1<I)=>Ajd G hj;have hx:bw<Y.heap.size:=Bi e7;let⟨L0,au⟩:=gN (Nb E a sg k)
    have hd:L0.length<=16*40:=by
     rw[<-au,K5];have:=Lt (E:=E) (k:=k) (λi hi=>(Er (bq.out i (by omega))).2);omega
    rw[au]at F B;have B1:(k:Int)<(g:Int):=by omega
    have B0:(0:Int)<=(k:Int):=by omega
    let⟨wa,cg⟩:∃wa:World,wa=wr:=⟨_,rfl⟩
    rw[<-cg]at F C ⊢;clear cg hl c5 hf ca au c4 G;go_upto_region 18 with fail;go_loopw [11,13,14,15] (λv i _ _ wr=>∃j:Nat,j+1<=I/\i=.int .i64 j/\Aej wr Y.heap.size v (L0++(List.range j).map f)/\Be Y wr) λ_ i _ _ _=>I-(intOf i).toNat
    case atStart=>exact⟨0,by omega,rfl,by simpa using F,C⟩
    clear F C;obtain⟨j,hj,rfl,F,C⟩:=hrel;have x6:=Aq C e6;have W1:IntKind.i64.wrap ((j:Int)+1)=(j:Int)+1:=by rw[IntKind.wrap_i64];omega
    by_cases b5:j+1<I
    .have C1:(j:Int)+1<(I:Int):=by omega
     obtain⟨b0,H,rfl,fa,hc⟩:=g3.at_ (show j<I by omega);let⟨h1,K⟩:=hc j (by omega);let⟨h3,h4⟩:=hc (j+1) b5;have hv:b0<Y.heap.size:=fa;have i1:=bp.out j (by omega);have i2:=bp.out (j+1) b5;have i3:=dc.out j b5;have u:=Q.out j;let⟨⟨px,py⟩,hp⟩:∃q,gt l j=q:=⟨_,rfl⟩
     let⟨⟨qx,qy⟩,hq⟩:∃q,gt l (j+1)=q:=⟨_,rfl⟩
     rw[hp]at h1 K i1 i3 u;rw[hq]at h3 h4 i2 i3 u;dsimp only at h1 K h3 h4;replace h1:=Aq C h1;replace K:=Aq C K;replace h3:=Aq C h3;replace h4:=Aq C h4;have x7:=Aq C e7;have bm:=Ar (show L0++(List.range (j+1)).map f=(L0++(List.range j).map f)++[sgV sg (px,py) (qx,qy) c] by rw[List.range_succ,List.map_append,<-u,List.append_assoc];rfl);have e0:=Ar λw2:World=>Ain (px,py) (qx,qy) c sg w2 i1 i2 i3 ch b6;have a1:(L0++(List.range j).map f).length<=1000000:=by rw[List.length_append,List.length_map,List.length_range];omega
     let⟨LL,bu⟩:=gN (L0++(List.range j).map f)
     rw[bu]at F bm a1;have C2:(j:Int)<(I:Int):=by omega
     have C3:(0:Int)<=(j:Int)+1:=by omega
     have C4:(0:Int)<=(j:Int):=by omega
     clear hc hp hq u bu i1 i2 i3;go_upto_region 20 with fail;have d:=Aw (Below.refl wr.heap.size wr);have KF:=Ar λr (h:Be wr r)=>show Cq r b1 (o1+k*2+1) (.slice (some ⟨b0,H,none⟩) I cl)/\Cq r b0 (H+j*2) px/\Cq r b0 (H+j*2+1) py/\Cq r b0 (H+(j+1)*2) qx/\Cq r b0 (H+(j+1)*2+1) qy from ⟨Aq h x6,Aq h h1,Aq h K,Aq h h3,Aq h h4⟩;go_cut [14,15] λva vb wx=>∃N gb,va=.pointer (some ⟨N,0,none⟩)/\vb=.pointer (some ⟨gb,0,none⟩)/\Bf wx N 60 #[px,py]/\Bf wx gb 60 #[qx,qy]/\wr.heap.size<=N/\wr.heap.size<=gb/\Be wr wx
     case first =>
      clear x6 h1 K h3 h4
      go_region_held3 (sB KF.out)
       (first
        | with_reducible exact KF.out _ d
        | with_reducible exact KF.out _ (Aw blA)
        | with_reducible exact KF.out _ (Aw (Ao blA _)))
       (fail)
      all_goals go_wp2_with fail
      all_goals go_meet
      all_goals first
       | exact⟨_,_,rfl,rfl,Bf.drew ((Bf.new _ _ _).alloc _),Bf.drew (Bf.new2 _ _ _ _),Nat.le_refl _,Nat.le_succ _,Aw (Ao blA _)⟩
       | exact⟨_,_,rfl,rfl,Bf.drew (Bf.new2 _ _ _ _),Bf.drew ((Bf.new _ _ _).alloc _),Nat.le_succ _,Nat.le_refl _,Aw (Ao blA _)⟩
     obtain⟨N,gb,rfl,rfl,O,P,sa,sb,b3⟩:=hcut;let⟨sv,cf⟩:∃sv,sv=u11:=⟨_,rfl⟩
     rw[<-cf]at F ⊢;have cc:Aej wc Y.heap.size sv LL:=OwG.keep F b3;have U:=An C b3;have f7:=Aq b3 x7;have cj:some N≠sv.ownBlock:=λe=>by have:=(OwG.lt F _ e.symm).2;omega
     have ck:some gb≠sv.ownBlock:=λe=>by have:=(OwG.lt F _ e.symm).2;omega
     have fv:some bw≠sv.ownBlock:=λe=>by have:=(OwG.lt F _ e.symm).1;omega
     have kl:=U.size;have HB:=Ar λr (h:Be wc r)=>show Cq r N 0 px/\Cq r N 1 py/\Cq r gb 0 qx/\Cq r gb 1 qy/\Cq r bw (ow+k) c from ⟨(Fe (O.keep h)).1,(Fe (O.keep h)).2,(Fe (P.keep h)).1,(Fe (P.keep h)).2,Aq h f7⟩
     have HG:=Ar (λ(W r:World) (h:Be wc W) (hg:W.grownBy r sv.ownBlock)=>show Cq r N 0 px/\Cq r N 1 py/\Cq r gb 0 qx/\Cq r gb 1 qy/\Cq r bw (ow+k) c from
      ⟨(Fe ((O.keep h).grown hg cj)).1,(Fe ((O.keep h).grown hg cj)).2,(Fe ((P.keep h).grown hg ck)).1,(Fe ((P.keep h).grown hg ck)).2,(hg.cell_far _ (by have:=h.size;simp;omega) fv).trans (Aq h f7)⟩)
     have cd:=Ar λq hq=>(OwG.lt cc q hq).1;clear cf x6 x7 h1 K h3 h4 KF d C1 C3;go_upto_region 21 with fail;have d:=Aw (Below.refl wc.heap.size wc)
     go_region_held3 (sB HB.out)
      (first
       | with_reducible exact HB.out _ d
       | with_reducible exact HB.out _ (Ao d _)
       | with_reducible exact HG.out _ _ (Ao d _) c7)
      ((first
        | (refine ae rfl _ _ rfl Y.heap.size sv LL rfl (OwG.keep cc (Ao d _)) w8.heap.size 1 (sgV sg (px,py) (qx,qy) c) 136 rfl (Bf.new _ _ _) a1 (Ao (An U d) _).size (w8.heap.size+1) (by simp) ?_;intro g9 h8 w9 fc c7 hr im)
        | (go_at_call 116;(with_reducible refine(e0.out _).mono ?_);rintro e w8 ⟨rfl,ey⟩;replace d:=An d ey)))
     all_goals clear W1
     all_goals go_wp2_with fail
     exact⟨⟨j+1,by omega,by go_num,by rw[bm.out];exact fc,Below.grown (Ao (An U d) _) c7 (Ao (An U d) _).size cd.out⟩,by simp[intOf];omega⟩
    have k9:j+1=I:=by omega
    have C1:¬(j:Int)+1<(I:Int):=by omega
    have eg:I-1=j:=by omega
    rw[eg]at B;go_wp2_with fail;exact⟨⟨k+1,by omega,by go_num,by rw[B.out];exact F,C⟩,by simp[intOf];omega⟩
   obtain rfl:g=k:=by omega
   go_wp2_with fail
   go_ret2
   rw[J.out];exact⟨_,rfl,OwG.lower F bx.size,An bx C⟩
  have J:=Ar (show R=([],1) by rw[M.out,if_neg (by simp),if_pos K]);have fb:((g:Int) != (n:Int))=true:=by rw[bne_iff_ne];omega
  clear K
  go_wp2_with (go_at_call 112;refine rR (Ie A y n E _ x hn Z) λw1 p=>?_;rw[a8.out])
  go_ret2
  rw[J.out];exact⟨_,rfl,OwG.nil,p⟩
 have J:=Ar (show R=([],eo) by rw[M.out,if_pos h0]);have fb:(eo != 0)=true:=by simpa using h0
 clear h0 D
 go_wp2_with (go_at_call 112;refine rR (Ie A y n E _ x hn Z) λw1 p=>?_;rw[a8.out])
 go_ret2
 rw[J.out];exact⟨_,rfl,OwG.nil,p⟩
theorem Afk(h:Bg e e.length=0):orW e=Kp e:=by
 have a:Qi e≠0:=by unfold Qi;rw[if_pos h];exact Ag3 h
 unfold orW Kp Ey;rcases Int.lt_trichotomy (Qi e) 0 with g|g|g
 .rw[if_pos g,if_pos g]
 .exact absurd g a
 rw[if_neg (by omega),if_pos g,if_neg (by omega)]
def ib (S:List SgR) (n:Nat):Nat->LP
 | 0=>[]
 | i+1=>ib S n i++C9 (gsr S i).a (Fj (gsr S ((i+n-1) % n))) (Fj (gsr S i))
theorem Tt(h:C7 f=0)  (ht:a<(Bj f).length) :
 (gsr (Nb f b (Kp (Bj f)) f.length) a).a=gt (Bj f) a/\Fj (gsr (Nb f b (Kp (Bj f)) f.length) a)=Vl (Bj f) (Ec f b) (Hl f b) a:=by
 have d:=(D5 h).2.2.2.2;obtain⟨l,k,c,-⟩:=Je d;have j:(a+1) % (Bj f).length<(Bj f).length:=Nat.mod_lt _ (by omega)
 have i:a≠(a+1) % (Bj f).length:=by
  intro e;rcases Nat.lt_or_ge (a+1) (Bj f).length with g|g
  .rw[Nat.mod_eq_of_lt g]at e;omega
  rw[show a+1=(Bj f).length by omega,Nat.mod_self]at e;omega
 obtain⟨-,m,-⟩:=Nl (c a ht) (c _ j) (um d ht j i);have e:=Al4 (E:=f) (wd:=b) (sg:=Kp (Bj f)) h (by unfold Kp;split<;>simp) ht (by omega);rw[e];refine⟨rfl,?_⟩;unfold Fj Vl Ec;rw[Oe rfl ht,Afk d]
theorem Aky(h:C7 f=0):∀k,k<=(Bj f).length->ib (Nb f b (Kp (Bj f)) f.length) (Bj f).length k=ia (Bj f) (Ec f b) (Hl f b) k:=by
 intro k;induction k with
 | zero=>intro _;rfl
 | succ k ih =>
   intro a;rw[ib,ia,ih (by omega),(Tt h (show k<(Bj f).length by omega)).1,(Tt h (show k<(Bj f).length by omega)).2,(Tt h (Nat.mod_lt _ (by omega))).2];rfl
theorem Afa{E:List EdgeP} {wd:List Int} (h:C7 E=0):Wf (ib (Nb E wd (Kp (Bj E)) E.length) (Bj E).length (Bj E).length)=Dy E wd:=by
 rw[Aky h _ (Nat.le_refl _)];unfold Dy ze Wf;rw[mc]
end Go.Proofs.YtlogblbfbihleaaGreat
