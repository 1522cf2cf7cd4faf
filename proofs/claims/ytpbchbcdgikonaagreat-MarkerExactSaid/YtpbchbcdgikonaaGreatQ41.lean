/- Lean texts of the claim. -/
import Derived.Test.YtpbchbcdgikonaaGreatQ40
namespace Go.Proofs.YtpbchbcdgikonaaGreat
set_option linter.unusedVariables false
set_option linter.unusedSimpArgs false
set_option maxRecDepth 100000
set_option maxHeartbeats 4000000
open Go.RowKit
theorem Ss {E:List EdgeP} {wd:List Int} (h:(Et E wd).2=0):Fp E=0/\wd.length=E.length/\Bq (wdB wd) wd.length=false/\Et E wd=(Es E wd,0):=by
 unfold Et at h ⊢;split at h
 ·rename_i g;exact absurd h g
 ·rename_i g1
  split at h
  ·cases h
  ·rename_i g2
   split at h
   ·cases h
   ·rename_i g3
    rw[if_neg g1,if_neg g2,if_neg g3];exact⟨by simpa using g1,by simpa using g2,by simpa using g3,rfl⟩
theorem Af4 {V:List (Int×Int)} {sg:Int} {D:List Int} {n i:Nat} (hc:Bf V n=0) (hl:V.length=n) (h1 : -1<=sg) (h2:sg<=1) (hD:∀i,0<=gi D i/\gi D i<=500) (hi:i<n) :
 -500<=(shP V sg D i).1/\(shP V sg D i).1<=500 /\ -500<=(shP V sg D i).2/\(shP V sg D i).2<=500:=by
 obtain⟨hv3,hv40,HIN,-⟩:=L7 hc;have hm:(i+1) % n<n:=Nat.mod_lt _ (by omega)
 have hne:i≠(i+1) % n:=by
  intro e;rcases Nat.lt_or_ge (i+1) n with g|g
  ·rw[Nat.mod_eq_of_lt g] at e;omega
  ·rw[show i+1=n by omega,Nat.mod_self] at e;omega
 obtain⟨d1,d2⟩:=hD i
 have hcb : -500<=sg*gi D i/\sg*gi D i<=500:=by
  rcases(show sg = -1\/sg=0\/sg=1 by omega) with h|h|h<;>rw[h]<;>omega
 obtain⟨-,-,-,-,u5,u6,u7,u8⟩:=iw hcb.1 hcb.2 (HIN i hi) (HIN _ hm) (Yx hc hi hm hne);unfold shP;rw[hl];exact⟨u5,u6,u7,u8⟩
theorem iv {V:List (Int×Int)} {sg:Int} {D:List Int} {n i:Nat} (hl:V.length=n) (hi:i<n):gt ((List.range V.length).map (shP V sg D)) i=shP V sg D i:=by
 unfold gt;rw[List.getD,List.getElem?_map,List.getElem?_range (by omega)];rfl
theorem Acq {V SH:List (Int×Int)} {D:List Int} {n i:Nat} (hc:Bf V n=0) (hl:V.length=n) (hD:∀i,0<=gi D i/\gi D i<=500)
 (hS : -500<=(gt SH i).1/\(gt SH i).1<=500 /\ -500<=(gt SH i).2/\(gt SH i).2<=500) (hi:i<n):(Xg V SH D i).ok:=by
 obtain⟨hv3,hv40,HIN,-⟩:=L7 hc;have hm:(i+1) % n<n:=Nat.mod_lt _ (by omega)
 obtain⟨a1,a2,a3,a4⟩:=HIN i hi;obtain⟨b1,b2,b3,b4⟩:=HIN _ hm;obtain⟨d1,d2⟩:=hD i;obtain⟨s1,s2,s3,s4⟩:=hS;unfold Xg Seg.ok Ts;rw[hl];dsimp only;refine⟨?_,?_,?_,?_,?_⟩<;>omega
theorem raw5 {a w:World} {b:Nat} (h:Below b a w) {g:Nat} (hg:b<=g) (o:Nat) (u0 u1 u2 u3 u4:Value):Below b a (((((w.setCell ⟨g,o,none⟩ u0).setCell ⟨g,o+1,none⟩ u1).setCell ⟨g,o+2,none⟩ u2).setCell ⟨g,o+3,none⟩ u3).setCell ⟨g,o+4,none⟩ u4) :=
 Below.setCell (Below.setCell (Below.setCell (Below.setCell (Below.setCell h hg _) hg _) hg _) hg _) hg _
theorem Bb.raw5 {w:World} {k:Nat} {t:TypeId} {cs:Array Value} (h:Bb w k t cs) {g:Nat} (hne:k≠g) (o:Nat) (u0 u1 u2 u3 u4:Value):Bb (((((w.setCell ⟨g,o,none⟩ u0).setCell ⟨g,o+1,none⟩ u1).setCell ⟨g,o+2,none⟩ u2).setCell ⟨g,o+3,none⟩ u3).setCell ⟨g,o+4,none⟩ u4) k t cs :=
 ((((h.far (p:=⟨g,o,none⟩) hne _).far (p:=⟨g,o+1,none⟩) hne _).far (p:=⟨g,o+2,none⟩) hne _).far (p:=⟨g,o+3,none⟩) hne _).far (p:=⟨g,o+4,none⟩) hne _
theorem R8 {m i:Nat} (h1:1<=m) (h:m-1=i) (hm:m<=1000000000):IntKind.i64.wrap ((m:Int)-1)=(i:Int):=by rw[IntKind.wrap_i64];omega
theorem Ahg {l:List (Int×Int)} {i m:Nat} (h:i<m):gt (l.take m) i=gt l i:=by
 unfold gt;simp[List.getD,List.getElem?_take,h]
theorem fk {l:List (Int×Int)} {m i:Nat} (h1:1<m) (hi:m-1=i) (h2:eqS (gt l i) (gt l 0)=true):Nd l m=Nd l i:=by
 obtain⟨k,rfl⟩:∃k,m=k+1:=⟨m-1,by omega⟩
 obtain rfl:k=i:=by omega
 rw[Nd,if_pos ⟨by omega,h2⟩]
theorem ue {l:List (Int×Int)} {m:Nat} (h:¬1<m\/eqS (gt l (m-1)) (gt l 0)=false):Nd l m=m:=by
 cases m with
 | zero=>rfl
 | succ k =>
   rw[Nd,if_neg];rintro⟨h1,h2⟩;rcases h with h|h
   ·omega
   ·rw[Nat.add_sub_cancel] at h
    rw[h2] at h;cases h
theorem SpS.blk {w w':World} {sb n:Nat} {l:List (Int×Int)} (h:SpS w (some ⟨sb,0,none⟩) n l) (hb:w'.heap[sb]? = w.heap[sb]?):SpS w' (some ⟨sb,0,none⟩) n l:=by
 refine⟨h.1,?_⟩;rcases h.2 with h2|⟨b,off,e,h2⟩
 ·exact .inl h2
 ·injection e with e
  injection e with e1 e2
  subst e1 e2;have hc:∀o,w'.cell? ⟨sb,o,none⟩=w.cell? ⟨sb,o,none⟩:=fun o=>by unfold World.cell?;rw[hb]
  exact .inr ⟨sb,0,rfl,fun k hk=>by rw[hc,hc];exact h2 k hk⟩
theorem jm (p:Int×Int):Qt [] p=[p]:=rfl
theorem Z2 {l:List (Int×Int)} {i:Nat} {p:Int×Int} (hl:l.length=i+1) (h:eqS (gt l i) p=true):Qt l p=l:=by
 unfold Qt;rw[if_neg (by omega),show l.length-1=i by omega,if_pos h]
theorem jn {l:List (Int×Int)} {i:Nat} {p:Int×Int} (hl:l.length=i+1) (h:eqS (gt l i) p=false):Qt l p=l++[p]:=by
 unfold Qt;rw[if_neg (by omega),show l.length-1=i by omega,if_neg (by rw[h];simp)]
theorem Ame (A:Option Addr) (cap n:Nat) (E:List EdgeP) (A2:Option Addr) (n2 c2:Nat) (wd:List Int) (w:World) (hcap:n<=cap) (hn:n<=9223372036854775807) (hE:EdS w A n E) (hW:InS w A2 n2 wd) (h:(Et E wd).2≠0) :
 Calls Tryz.prog 29 #[.slice A n cap,.slice A2 n2 c2] w (Rz w ([],(Et E wd).2)):=by
 obtain⟨r,hr⟩:∃r,Et E wd=r:=⟨_,rfl⟩
 have HR:=Lib.hid hr;rw[hr] at h ⊢;obtain⟨z,c⟩:=r;dsimp only at h ⊢;have hne:(c != 0)=true:=by simpa using h
 clear hr h;go_enter Tryz.func29,Tryz.ntmps29
 go_wp2_with (go_at_call 49;refine(Qh A cap n E A2 n2 c2 wd _ hcap hn hE hW).mono ?_;rintro e w1 ⟨v1,rfl,-,hb1⟩;rw[HR.out])
 go_ret2
 exact⟨_,rfl,OwG.nil,hb1⟩
theorem Amd (A:Option Addr) (cap n:Nat) (E:List EdgeP) (A2:Option Addr) (c2:Nat) (wd:List Int) (w:World) (hcap:n<=cap) (hE:EdS w A n E) (hW:InS w A2 n wd) (h:(Et E wd).2=0) :
 Calls Tryz.prog 29 #[.slice A n cap,.slice A2 n c2] w (Rz w (I5 E wd)):=by
 obtain⟨o0,o1,o2,o3⟩:=Ss h;obtain⟨q1,q2,q3,q4,q5⟩:=Is o0;have hn:n<=16:=by rw[<-hE.1];exact q2
 have HA:=Lib.hid (show I5 E wd=if Bq (fun i=>!wS (gt (H9 E wd) i) 1048576) (H9 E wd).length then ([],3) else if Bf (H9 E wd) (H9 E wd).length≠0 then ([],Bf (H9 E wd) (H9 E wd).length) else if orW (H9 E wd)≠orW (Ck E) then ([],11) else (H9 E wd,0) by
  unfold I5;rw[if_neg (by rw[h];simp)])
 have HPT:Abe E wd=Mm (Ck E) (Es E wd) (Kr E wd) (Ck E).length:=rfl;have HRG:=Lib.hid (show H9 E wd=(Abe E wd).take (Nd (Abe E wd) (Abe E wd).length) from rfl)
 have HPO:=Lib.hid (show Ll E=(Ck E,0) by unfold Ll;rw[if_neg (by rw[o0];simp)])
 have HPL:=Lib.hid (show ∀k,k<n->1<=(edg E k).ln.length/\(edg E k).ln.length<=40 from fun k hk=>by have:=Iq (q3 k (by rw[hE.1];exact hk)).2;omega)
 have hEA:(Kr E wd).length=(Ck E).length:=Ly _;have hWI:∀i,0<=gi (Kr E wd) i/\gi (Kr E wd) i<=500:=Ahj (pg (fun k hk=>Afw o2 k (by have:=hW.1;have:=hE.1;omega)))
 have hsg:=Abi (Ck E)
 have hSH:∀i,i<(Ck E).length -> -500<=(gt (Es E wd) i).1/\(gt (Es E wd) i).1<=500 /\ -500<=(gt (Es E wd) i).2/\(gt (Es E wd) i).2<=500:=fun i hi=>by
  unfold Es;rw[iv rfl hi];exact Af4 q5 rfl hsg.1 hsg.2 hWI hi
 have hSL:(Es E wd).length=(Ck E).length:=by unfold Es;rw[List.length_map,List.length_range]
 obtain⟨P,hP⟩:∃P,Abe E wd=P:=⟨_,rfl⟩
 rw[hP] at HPT HRG;obtain⟨V,hV⟩:∃V,Ck E=V:=⟨_,rfl⟩
 obtain⟨D,hD⟩:∃D,Kr E wd=D:=⟨_,rfl⟩
 obtain⟨SH,hS⟩:∃D,Es E wd=D:=⟨_,rfl⟩
 obtain⟨nv,hnv⟩:∃nv,V.length=nv:=⟨_,rfl⟩
 have HSW:=Lib.hid o3;rw[hS] at HSW hSH hSL HPT;rw[hV] at HPO HA HPT hEA hSH hSL q5;rw[hD] at hEA hWI HPT;rw[hnv] at hEA hSH hSL HPT q5;have HDD:=Lib.hid hD;have HLS:=Lib.hid hSL;have HLD:=Lib.hid hEA;have HLV:=Lib.hid hnv;have HSEG:=Lib.hid (fun i (hi:i<nv)=>Acq q5 hnv hWI (hSH i hi) hi)
 obtain⟨hv3,hv40,hIN,-⟩:=L7 q5;have HIN:=Lib.hid hIN;have HSH:=Lib.hid hSH;have HPV:=Lib.hid HPT;obtain⟨Z,hmk,hZ⟩:=kr nv (by omega)
 obtain⟨R,hR⟩:∃R,I5 E wd=R:=⟨_,rfl⟩
 obtain⟨G,hG⟩:∃G,H9 E wd=G:=⟨_,rfl⟩
 rw[hG] at HRG;rw[hR,hG] at HA;rw[hR];clear h o0 o1 o2 o3 q1 q2 q3 q4 q5 hsg hP hV hD hS hnv hEA hWI hSH hSL hIN hR hG HPT;go_enter Tryz.func29,Tryz.ntmps29
 go_upto_region 4 with (go_at_call 49;refine(Qh A cap n E A2 n c2 wd _ hcap (by omega) hE hW).mono ?_;rintro e w1 ⟨v1,rfl,ho1,hb1⟩;rw[HSW.out] at ho1 ⊢)
 obtain⟨As,cs,rfl,hcs,hSs,-⟩:=ho1.sps;rw[HLS.out] at hcs hSs ⊢;have hE1:=hE.keep hb1;have hW1:=hW.keep hb1;clear ho1
 go_upto_region 7 with (go_at_call 50;refine(Kg A cap n E _ hcap (by omega) hE1).mono ?_;rintro e w2 ⟨v2,rfl,ho2,hb2⟩;rw[HPO.out] at ho2 ⊢)
 obtain⟨Av,cv,rfl,hcv,hSv,-⟩:=ho2.sps;rw[HLV.out] at hcv hSv ⊢;clear ho2
 go_upto_region 11 with (go_at_call 51;refine(Y9 A cap n E A2 n c2 wd _ (by omega) (by omega) (hE1.keep hb2) (hW1.keep hb2) (fun k hk=>HPL.out k hk)).mono ?_;rintro e w3 ⟨v3,rfl,ho3,hb3⟩;rw[HDD.out] at ho3;obtain⟨Ad,cd,rfl,hcd,hId,-⟩:=ho3.ins;rw[HLD.out] at hcd hId ⊢)
 obtain⟨BZ,hBZ⟩:∃B,B=w3.heap.size:=⟨_,rfl⟩
 have hZ3:=hZ w3;have hb30:=An (Below.refl w3.heap.size w3) (.cells Z 130);rw[<-hBZ] at hZ3 ⊢;have HBZ:=Lib.hid hBZ;have hSs3:=hSs.keep (Ao hb2 hb3);have hSv3:=hSv.keep hb3;have hbW:=Ao hb1 (Ao hb2 hb3);clear ho3 hmk hZ hBZ hSv hSs hE hE1 hW hW1 hb1 hb2 hb3;go_loopw [12,13,48] (fun _ _ i wr=>∃(k:Nat) (z:List Seg),k<=nv/\i=.int .i64 k/\z.length=nv/\Hid (∀p,p<k->gsg z p=Xg V SH D p)/\Ae6 wr BZ (.slice (some ⟨BZ,0,none⟩) nv nv) z/\Below w3.heap.size w3 wr) (fun _ _ i _=>nv-(intOf i).toNat)
 case atStart=>exact⟨0,_,Nat.zero_le _,rfl,List.length_replicate,Lib.hid (fun p hp=>absurd hp (Nat.not_lt_zero _)),hZ3,hb30⟩
 case round =>
  clear hZ3 hb30;obtain⟨k,z,hk,rfl,hz,hp,ho,hb⟩:=hrel;by_cases hlt:k<nv
  ·have hmk:(k+1) % nv<nv:=Nat.mod_lt _ (by omega)
   obtain⟨j1,j2,j3,j4⟩:=HIN.out k hlt;obtain⟨j5,j6,j7,j8⟩:=HIN.out _ hmk;obtain⟨j9,j10,j11,j12⟩:=HSH.out k hlt;have mf:=X4 ((k:Int)+1) (k+1) nv rfl (by omega)
   obtain⟨bv,ov,rfl,-,hc⟩:=hSv3.at_ hlt;obtain⟨e1,e2⟩:=hc k hlt;obtain⟨e3,e4⟩:=hc _ hmk;obtain⟨bd,od,rfl,e5⟩:=hId.at_ hlt;obtain⟨bs,os,rfl,-,hcs⟩:=(hSs3.keep hb).at_ hlt;obtain⟨s1,s2⟩:=hcs k hlt;have HSG:=Lib.hid (show Xg V SH D k=⟨(gt V k).1+(gt SH k).1,(gt V k).2+(gt SH k).2,(gt V ((k+1) % nv)).1+(gt SH k).1,(gt V ((k+1) % nv)).2+(gt SH k).2,gi D k⟩ by unfold Xg;rw[HLV.out])
   obtain⟨p,hpp⟩:∃p,gt V k=p:=⟨_,rfl⟩
   obtain⟨q,hqq⟩:∃q,gt V ((k+1) % nv)=q:=⟨_,rfl⟩
   obtain⟨r,hrr⟩:∃q,gt SH k=q:=⟨_,rfl⟩
   obtain⟨dk,hdk⟩:∃d,gi D k=d:=⟨_,rfl⟩
   rw[hpp] at j1 j2 j3 j4 e1 e2 HSG;rw[hqq] at j5 j6 j7 j8 e3 e4 HSG;rw[hrr] at j9 j10 j11 j12 s1 s2 HSG;rw[hdk] at e5 HSG;clear hpp hqq hrr hdk hc hcs;obtain⟨px,py⟩:=p;obtain⟨qx,qy⟩:=q;obtain⟨rx,ry⟩:=r;dsimp only at *
   have hs1:∀w2:World,Calls Tryz.prog 52 #[.agg #[.int .i64 px,.int .i64 py],.agg #[.int .i64 rx,.int .i64 ry]] w2 fun e w'=>e=.returned (.agg #[.int .i64 (px+rx),.int .i64 (py+ry)])/\Below w2.heap.size w2 w':=fun w2=>Rs px py rx ry w2 (by omega) (by omega) (by omega) (by omega)
   have hs2:∀w2:World,Calls Tryz.prog 52 #[.agg #[.int .i64 qx,.int .i64 qy],.agg #[.int .i64 rx,.int .i64 ry]] w2 fun e w'=>e=.returned (.agg #[.int .i64 (qx+rx),.int .i64 (qy+ry)])/\Below w2.heap.size w2 w':=fun w2=>Rs qx qy rx ry w2 (by omega) (by omega) (by omega) (by omega)
   have B1:(k:Int)<(nv:Int):=by omega
   clear j1 j2 j3 j4 j5 j6 j7 j8 j9 j10 j11 j12;go_upto_region 13 with fail;refine Ar (fun Y=>Below wr.heap.size wr Y/\Bb Y wr.heap.size 49 #[.int .i64 rx,.int .i64 ry]) ⟨An (Below.refl _ _) _,Bb.new _ _ _⟩ ?_
   rintro Y ⟨hbY,hV⟩;have hoY:=OwG.keep ho hbY;have hbE:=Ao hb hbY;obtain⟨g,hg⟩:∃g,wr.heap.size=g:=⟨_,rfl⟩
   have hgne:g≠BZ:=by
    rw[<-hg];intro e;have:=(OwG.lt ho BZ rfl).2;omega
   have hBZ3:w3.heap.size<=BZ:=by rw[HBZ.out];omega
   rw[hg] at hV ⊢;obtain⟨rm,hrm⟩:∃r,(k+1) % nv=r:=⟨_,rfl⟩
   rw[hrm] at e3 e4 hmk;have T1:Int.tmod ((k:Int)+1) (nv:Int)=(rm:Int):=by rw[<-hrm,mf.1];rfl
   have T2:((k:Int)+1) % (nv:Int)=(rm:Int):=by rw[<-hrm];rfl
   have W4:IntKind.i64.wrap (rm:Int)=(rm:Int):=by rw[IntKind.wrap_i64];omega
   have W5:IntKind.i64.wrap (Int.tmod ((k:Int)+1) (nv:Int))=(rm:Int):=by rw[T1];exact W4
   have B2:(0:Int)<=(rm:Int):=by omega
   have B3:(rm:Int)<(nv:Int):=by omega
   have B4:¬(nv:Int)=0:=by omega
   have B5:¬nv=0:=by omega
   clear hrm
   have KF:∀W',Below w3.heap.size w3 W'->Bb W' g 49 #[.int .i64 rx,.int .i64 ry]->(W'.cell? ⟨bv,ov+k*2,none⟩=some (.int .i64 px)/\W'.cell? ⟨bv,ov+k*2+1,none⟩=some (.int .i64 py)/\W'.cell? ⟨bv,ov+rm*2,none⟩=some (.int .i64 qx)/\W'.cell? ⟨bv,ov+rm*2+1,none⟩=some (.int .i64 qy)/\W'.cell? ⟨g,0,none⟩=some (.int .i64 rx)/\W'.cell? ⟨g,1,none⟩=some (.int .i64 ry)/\W'.cell? ⟨bd,od+k,none⟩=some (.int .i64 dk)):=fun W' hb hB =>
    ⟨Aq hb e1,Aq hb e2,Aq hb e3,Aq hb e4,(fh hB).1,(fh hB).2,Aq hb e5⟩
   have hbD:=Aw (Below.refl Y.heap.size Y);have W1:IntKind.i64.wrap ((k:Int)+1)=(k:Int)+1:=by rw[IntKind.wrap_i64];omega
   have hz0:=Ah8 (n:=nv) (by omega)
   clear e1 e2 e3 e4 e5 s1 s2 mf hmk ho hb hbY hg
   go_region_held3 (fun W'=>W'.cell? ⟨bv,ov+k*2,none⟩=some (.int .i64 px)/\W'.cell? ⟨bv,ov+k*2+1,none⟩=some (.int .i64 py)/\W'.cell? ⟨bv,ov+rm*2,none⟩=some (.int .i64 qx)/\W'.cell? ⟨bv,ov+rm*2+1,none⟩=some (.int .i64 qy)/\W'.cell? ⟨g,0,none⟩=some (.int .i64 rx)/\W'.cell? ⟨g,1,none⟩=some (.int .i64 ry)/\W'.cell? ⟨bd,od+k,none⟩=some (.int .i64 dk))
    (first
     | with_reducible exact KF _ (Ao hbE hbD) (hV.keep hbD)
     | with_reducible exact KF _ (raw5 (Ao hbE hbD) hBZ3 _ _ _ _ _ _) ((hV.keep hbD).raw5 hgne _ _ _ _ _ _))
    ((first
      | (go_at_call 52;have hX1:=hb4;(with_reducible refine(hs2 _).mono ?_);rintro e w5 ⟨rfl,hb5⟩;replace hbD:=Ao hbD hb5;obtain⟨y0,y1,y2,y3,y4,yf⟩:=Ae6.cells (OwG.keep hoY hbD) hz hlt;have f0:=yf 0;have f1:=yf 1;have f2:=yf 2;have f3:=yf 3;have f4:=yf 4;rw[Nat.add_zero] at f0)
      | (go_at_call 52;(with_reducible refine(hs1 _).mono ?_);rintro e w4 ⟨rfl,hb4⟩;replace hbD:=Ao hbD hb4)))
   all_goals go_wp2_with fail
   all_goals refine⟨⟨k+1,z.set k (Xg V SH D k),by omega,by go_num,by rw[List.length_set];exact hz,Lib.hid (fun p h=>?_),?_,raw5 (Ao hbE hbD) hBZ3 _ _ _ _ _ _⟩,by simp[intOf];omega⟩
   all_goals first
    | (rw[HSG.out];exact Ae6.store (OwG.keep hoY hbD) hz k ⟨px+rx,py+ry,qx+rx,qy+ry,dk⟩)
    | (rw[Adz (by rw[hz];exact hlt)]
       by_cases h2:k=p
       ·rw[if_pos h2,h2]
       ·rw[if_neg h2];exact hp.out p (by omega))
  ·obtain rfl:nv=k:=by omega
   have HZ:=Lib.hid hp.out;have hSv4:=hSv3.keep hb;have hbW4:=Ao hbW hb;have hor:=ho;have heq:=Gw;clear hSs3 hId hbW hSv3 ho hb hp;obtain⟨wa,hwa⟩:∃wa:World,wa=wr:=⟨_,rfl⟩
   rw[<-hwa] at hSv4 hbW4 hor ⊢;clear hwa;go_upto_region 17 with fail;go_loopw [14,15,16,18,79] (fun v _ _ _ i wx=>∃k:Nat,k<=nv/\i=.int .i64 k/\OwS wx wa.heap.size v (Mm V SH D k)/\Below wa.heap.size wa wx) (fun _ _ _ _ i _=>nv-(intOf i).toNat)
   case atStart=>exact⟨0,Nat.zero_le _,rfl,OwG.nil,Below.refl _ _⟩
   case round =>
    obtain⟨k,hk,rfl,ho4,hb4⟩:=hrel;by_cases hlt:k<nv
    ·obtain⟨q,hq⟩:∃q,k+nv-1=q:=⟨_,rfl⟩
     have hmk:q % nv<nv:=Nat.mod_lt _ (by omega)
     have mf:=X4 (q:Int) q nv rfl (by omega)
     have hz0:=Ah8 (n:=nv) (by omega)
     obtain⟨bv,ov,rfl,-,hc⟩:=(hSv4.keep hb4).at_ hlt;obtain⟨e1,e2⟩:=hc k hlt;have hor4:=OwG.keep hor hb4;obtain⟨s0,s1,s2,s3,s4,-⟩:=Ae6.cells hor4 hz hmk;obtain⟨t0,t1,t2,t3,t4,-⟩:=Ae6.cells hor4 hz hlt;have j1:=HIN.out k hlt;have ha:=HSEG.out _ hmk;have hbk:=HSEG.out k hlt;rw[HZ.out _ hmk] at s0 s1 s2 s3 s4;rw[HZ.out k hlt] at t0 t1 t2 t3 t4
     have HP:=Lib.hid (show Mm V SH D (k+1)=Io (Mm V SH D k) (Ds (gt V k) (Xg V SH D (q % nv)) (Xg V SH D k)) (Ds (gt V k) (Xg V SH D (q % nv)) (Xg V SH D k)).length by
      rw[Mm];unfold dn;rw[HLV.out,hq])
     obtain⟨v,hv⟩:∃v,gt V k=v:=⟨_,rfl⟩
     obtain⟨a,haa⟩:∃v,Xg V SH D (q % nv)=v:=⟨_,rfl⟩
     obtain⟨b,hbb⟩:∃v,Xg V SH D k=v:=⟨_,rfl⟩
     rw[hv] at e1 e2 j1 HP;rw[haa] at s0 s1 s2 s3 s4 ha HP;rw[hbb] at t0 t1 t2 t3 t4 hbk HP;obtain⟨j1,j2,j3,j4⟩:=j1;have HCR:=Lib.hid (fun w2:World=>Wi v a b w2 (by unfold Ts;omega) (by unfold Ts;omega) ha hbk)
     have hc2:=Oh v a b;obtain⟨c,hcc⟩:∃c,Ds v a b=c:=⟨_,rfl⟩
     rw[hcc] at HCR hc2 HP;have hpl:=S4 V SH D k;obtain⟨L,hL⟩:∃L,Mm V SH D k=L:=⟨_,rfl⟩
     rw[hL] at HP hpl ho4;obtain⟨m,hm⟩:∃m,c.length=m:=⟨_,rfl⟩
     rw[hm] at HP hc2;have HM:=Lib.hid hm;clear hc hv haa hbb hcc hL hm ha hbk j1 j2 j3 j4;obtain⟨vx,vy⟩:=v;obtain⟨ax,ay,ax',ay',aw⟩:=a;obtain⟨bx,bY,bx',bY',bw⟩:=b;dsimp only at e1 e2 s0 s1 s2 s3 s4 t0 t1 t2 t3 t4 HCR;unfold vk at HCR;dsimp only at HCR;have B1:(k:Int)<(nv:Int):=by omega
     have W1:IntKind.i64.wrap ((k:Int)+(nv:Int))=(k:Int)+(nv:Int):=by rw[IntKind.wrap_i64];omega
     obtain⟨rm,hrm⟩:∃r,q % nv=r:=⟨_,rfl⟩
     rw[hrm] at s0 s1 s2 s3 s4 hmk;have T1:Int.tmod (q:Int) (nv:Int)=(rm:Int):=by rw[<-hrm,mf.1];rfl
     have T2:(q:Int) % (nv:Int)=(rm:Int):=by rw[<-hrm];rfl
     have W4:IntKind.i64.wrap (rm:Int)=(rm:Int):=by rw[IntKind.wrap_i64];omega
     have W5:IntKind.i64.wrap (Int.tmod (q:Int) (nv:Int))=(rm:Int):=by rw[T1];exact W4
     have B2:(0:Int)<=(rm:Int):=by omega
     have B3:(rm:Int)<(nv:Int):=by omega
     have B4:¬(nv:Int)=0:=by omega
     have B5:¬nv=0:=by omega
     clear hrm mf;have W2:IntKind.i64.wrap ((k:Int)+(nv:Int)-1)=(q:Int):=by rw[IntKind.wrap_i64];omega
     obtain⟨pv,hpv⟩:∃pv,pv=u14:=⟨_,rfl⟩
     rw[<-hpv] at ho4 ⊢;clear hpv;go_upto_region 19 with fail;refine Ar (fun Y=>Below wr.heap.size wr Y/\Bb Y wr.heap.size 49 #[.int .i64 vx,.int .i64 vy]) ⟨An (Below.refl _ _) _,Bb.new _ _ _⟩ ?_
     rintro Y ⟨hbY,hV⟩;obtain⟨B6,hB6⟩:∃B,wr.heap.size=B:=⟨_,rfl⟩
     have hoY:=OwG.keep ho4 hbY;have hbE:=Ao hb4 hbY;have hvB:∀x,pv.ownBlock=some x->x<Y.heap.size:=fun x hx=>(OwG.lt hoY x hx).2
     rw[hB6] at hV ⊢
     have KF:∀W',Below Y.heap.size Y W'->(W'.cell? ⟨B6,0,none⟩=some (.int .i64 vx)/\W'.cell? ⟨B6,1,none⟩=some (.int .i64 vy)/\W'.cell? ⟨BZ,rm*5,none⟩=some (.int .i64 ax)/\W'.cell? ⟨BZ,rm*5+1,none⟩=some (.int .i64 ay)/\W'.cell? ⟨BZ,rm*5+2,none⟩=some (.int .i64 ax')/\W'.cell? ⟨BZ,rm*5+3,none⟩=some (.int .i64 ay')/\W'.cell? ⟨BZ,rm*5+4,none⟩=some (.int .i64 aw)/\W'.cell? ⟨BZ,k*5,none⟩=some (.int .i64 bx)/\W'.cell? ⟨BZ,k*5+1,none⟩=some (.int .i64 bY)/\W'.cell? ⟨BZ,k*5+2,none⟩=some (.int .i64 bx')/\W'.cell? ⟨BZ,k*5+3,none⟩=some (.int .i64 bY')/\W'.cell? ⟨BZ,k*5+4,none⟩=some (.int .i64 bw)):=fun W' hb =>
      ⟨Aq hb (fh hV).1,Aq hb (fh hV).2,Aq hb (Aq hbY s0),Aq hb (Aq hbY s1),Aq hb (Aq hbY s2),Aq hb (Aq hbY s3),Aq hb (Aq hbY s4),Aq hb (Aq hbY t0),Aq hb (Aq hbY t1),Aq hb (Aq hbY t2),Aq hb (Aq hbY t3),Aq hb (Aq hbY t4)⟩
     have hbD:=Aw (Below.refl Y.heap.size Y);clear e1 e2 s0 s1 s2 s3 s4 t0 t1 t2 t3 t4 ho4 hb4 hbY hV hB6 hor4
     go_region_held3 (fun W'=>W'.cell? ⟨B6,0,none⟩=some (.int .i64 vx)/\W'.cell? ⟨B6,1,none⟩=some (.int .i64 vy)/\W'.cell? ⟨BZ,rm*5,none⟩=some (.int .i64 ax)/\W'.cell? ⟨BZ,rm*5+1,none⟩=some (.int .i64 ay)/\W'.cell? ⟨BZ,rm*5+2,none⟩=some (.int .i64 ax')/\W'.cell? ⟨BZ,rm*5+3,none⟩=some (.int .i64 ay')/\W'.cell? ⟨BZ,rm*5+4,none⟩=some (.int .i64 aw)/\W'.cell? ⟨BZ,k*5,none⟩=some (.int .i64 bx)/\W'.cell? ⟨BZ,k*5+1,none⟩=some (.int .i64 bY)/\W'.cell? ⟨BZ,k*5+2,none⟩=some (.int .i64 bx')/\W'.cell? ⟨BZ,k*5+3,none⟩=some (.int .i64 bY')/\W'.cell? ⟨BZ,k*5+4,none⟩=some (.int .i64 bw))
      (with_reducible exact KF _ hbD)
      ((go_at_call 53;(with_reducible refine(HCR.out _).mono ?_);rintro e w5 ⟨gc,rfl,hgc,hSc,hb5⟩;rw[HM.out] at hSc ⊢;replace hbD:=Ao hbD hb5))
     clear KF;have hoW:=OwG.keep hoY hbD;have hbF:=Ao hbE hbD
     have hgcl:m=0\/gc<w5.heap.size:=by
      rcases Nat.eq_zero_or_pos m with h|h
      ·exact .inl h
      ·obtain⟨b,off,e,hlt,-⟩:=hSc.at_ h
       injection e with e
       injection e with e
       subst e;exact .inr hlt
     have hne:pv.ownBlock≠some gc:=fun h=>by
      have h1:=hvB gc h;have h2:Y.heap.size<=gc:=hgc;omega
     have hwa:=hbF.size;have HLN:=Lib.hid hpl;clear hvB hgc hoY hbE hbD HCR;obtain⟨wb,hwb⟩:∃wb:World,wb=w5:=⟨_,rfl⟩
     rw[<-hwb] at hSc hoW hbF hgcl ⊢;clear hwb;go_upto_region 20 with fail;go_loopw [14,18,100] (fun v _ i wx=>∃j:Nat,j<=m/\i=.int .i64 j/\OwS wx wa.heap.size v (Io L c j)/\SpS wx (some ⟨gc,0,none⟩) m c/\(m=0\/gc<wx.heap.size)/\v.ownBlock≠some gc/\Below wa.heap.size wa wx) (fun _ _ i _=>m-(intOf i).toNat)
     case atStart=>exact⟨0,Nat.zero_le _,rfl,hoW,hSc,hgcl,hne,hbF⟩
     case round =>
      clear hSc hoW hbF hgcl hne;obtain⟨j,hj,rfl,ho,hSc,hgcl,hne,hb⟩:=hrel;by_cases hjm:j<m
      ·obtain⟨b8,o8,e8,hlt8,hc8⟩:=hSc.at_ hjm
       injection e8 with e8
       injection e8 with e81 e82
       subst e81 e82;obtain⟨x1,x2⟩:=hc8 j hjm;rw[Nat.zero_add] at x1 x2;have HQ:=Lib.hid (show Io L c (j+1)=Qt (Io L c j) (gt c j) from rfl)
       have hML:=Pm L c j;obtain⟨M,hM⟩:∃M,Io L c j=M:=⟨_,rfl⟩
       rw[hM] at HQ hML ho;obtain⟨⟨px,py⟩,hp⟩:∃p,gt c j=p:=⟨_,rfl⟩
       rw[hp] at x1 x2 HQ;clear hM hp hc8;have hMM:M.length<=1000000:=by have:=HLN.out;omega
       obtain⟨Ap,cp,rfl,hcp,-,hAp⟩:=OwG.form2 ho;have B2:(j:Int)<(m:Int):=by omega
       have hSpk:=hSc;go_upto_region 22 with fail;refine Ar (fun Y=>Below wr.heap.size wr Y/\Bb Y wr.heap.size 49 #[.int .i64 px,.int .i64 py]) ⟨An (Below.refl _ _) _,Bb.new _ _ _⟩ ?_
       rintro Y ⟨hbY,hV⟩;obtain⟨v1,v2⟩:=fh hV;have hoY:=OwG.keep ho hbY;have hSY:=hSc.keep hbY;have hbE:=Ao hb hbY;have hgY:m=0\/gc<Y.heap.size:=hgcl.imp id fun h=>Nat.lt_of_lt_of_le h hbY.size
       have hgY2:gc<Y.heap.size:=by
        rcases hgY with h|h
        ·omega
        ·exact h
       have hgZ:=Lib.hid (fun (nq:Nat) (o:Obj)=>show gc<((Y.drewN nq).alloc o).heap.size from Nat.lt_of_lt_of_le hgY2 (An (Bg (Below.refl _ _) _) _).size)
       obtain⟨B8,hB8⟩:∃B,wr.heap.size=B:=⟨_,rfl⟩
       rw[hB8] at hV v1 v2 ⊢;clear x1 x2 ho hSc hb hbY hgcl hB8 hSpk;rcases Nat.eq_zero_or_pos M.length with h0|h0
       ·obtain rfl:M=[]:=List.eq_nil_of_length_eq_zero h0
        clear h0
        go_quiet (fail)
        go_wp2_with (at_builtin;refine Ec rfl _ _ rfl wa.heap.size _ [] rfl ((OwG.keep hoY (Bg (Below.refl _ _) _)).alloc _) Y.heap.size 1 (px,py) 49 rfl (Bb.new _ _ _) hMM (An (Bg hbE _) _).size ?_;intro v' w2 ho' hg' hat')
        have hbW2:=Bm (An (Bg hbE _) _) ((OwG.keep hoY (Bg (Below.refl _ _) _)).alloc _) hg';refine⟨⟨j+1,by omega,by go_num,by rw[HQ.out,jm];exact ho',?_,?_,?_,hbW2⟩,by simp[intOf];omega⟩
        ·exact(hSY.keep (An (Bg (Below.refl _ _) _) _)).blk (hg'.block gc (hgZ.out _ _) (Ne.symm hne))
        ·exact hgY.imp id fun h=>Nat.lt_of_lt_of_le h (Nat.le_trans (An (Bg (Below.refl _ _) _) _).size hg'.size)
        ·rcases hat' with h|h
         ·rw[h];exact hne
         ·rw[h];intro e;injection e with e;exact absurd e (Nat.ne_of_gt (hgZ.out _ _))
       ·obtain⟨g,rfl,hg1,hg2⟩:=hAp h0
        obtain⟨i,hi⟩:∃i,M.length=i+1:=⟨M.length-1,by omega⟩
        obtain⟨d1,d2,-,-⟩:=OwS.cells hoY rfl (show i<M.length by omega)
        have HSAME:=Lib.hid (fun (h:eqS (gt M i) (px,py)=true)=>Z2 hi h)
        have HNEW:=Lib.hid (fun (h:eqS (gt M i) (px,py)=false)=>jn hi h)
        obtain⟨n8,hn8⟩:∃n,M.length=n:=⟨_,rfl⟩
        rw[hn8] at hi hcp h0 hoY hMM ⊢;have HN8:=Lib.hid hn8;obtain⟨⟨lx,ly⟩,hll⟩:∃q,gt M i=q:=⟨_,rfl⟩
        rw[hll] at d1 d2 HSAME HNEW;dsimp only at d1 d2;have W3:IntKind.i64.wrap ((n8:Int)-1)=(i:Int):=by rw[IntKind.wrap_i64];omega
        have hz8:=Ah8 h0;have hz9:¬n8=0:=by omega
        have B9:(i:Int)<(n8:Int):=by omega
        clear hll hn8 hi;cases hd:eqS (lx,ly) (px,py) with
        | true =>
          have HS2:=HSAME.out hd;clear HSAME HNEW
          go_quiet (fail)
          go_wp2_with fail;exact⟨⟨j+1,by omega,by go_num,by rw[HQ.out,HS2];exact OwG.keep hoY (Bg (Below.refl _ _) _),hSY.keep (Bg (Below.refl _ _) _),hgY,hne,Bg hbE _⟩,by simp[intOf];omega⟩
        | false =>
          have HS2:=HNEW.out hd;clear HSAME HNEW
          go_quiet (fail)
          go_wp2_with (at_builtin;refine Ec rfl _ _ rfl wa.heap.size _ M rfl ((OwG.keep hoY (Bg (Below.refl _ _) _)).alloc _) Y.heap.size 1 (px,py) 49 rfl (Bb.new _ _ _) (by have:=HN8.out;omega) (An (Bg hbE _) _).size ?_;intro v' w2 ho' hg' hat')
          have hbW2:=Bm (An (Bg hbE _) _) ((OwG.keep hoY (Bg (Below.refl _ _) _)).alloc _) hg';refine⟨⟨j+1,by omega,by go_num,by rw[HQ.out,HS2];exact ho',?_,?_,?_,hbW2⟩,by simp[intOf];omega⟩
          ·exact(hSY.keep (An (Bg (Below.refl _ _) _) _)).blk (hg'.block gc (hgZ.out _ _) (Ne.symm hne))
          ·exact hgY.imp id fun h=>Nat.lt_of_lt_of_le h (Nat.le_trans (An (Bg (Below.refl _ _) _) _).size hg'.size)
          ·rcases hat' with h|h
           ·rw[h];exact hne
           ·rw[h];intro e;injection e with e;exact absurd e (Nat.ne_of_gt (hgZ.out _ _))
      ·obtain rfl:m=j:=by omega
       go_wp2_with fail;exact⟨⟨k+1,by omega,by go_num,by rw[HP.out];exact ho,hb⟩,by simp[intOf];omega⟩
    ·obtain rfl:nv=k:=by omega
     have hPl:=S4 V SH D nv;rw[<-HPV.out] at ho4 hPl;obtain⟨np,hnp⟩:∃np,P.length=np:=⟨_,rfl⟩
     rw[hnp] at hPl HRG;have HNP:=Lib.hid hnp;have HTK:Hid (P.take np=P):=Lib.hid (by rw[<-hnp];exact List.take_length)
     obtain⟨wb,hwb⟩:∃wb:World,wb=wr:=⟨_,rfl⟩
     rw[<-hwb] at ho4 hb4 ⊢;clear hwb hnp hz hor;go_upto_region 26 with fail;go_loopw [14] (fun v wx=>∃m:Nat,m<=np/\Hid (Nd P m=Nd P np)/\OwS wx wa.heap.size v (P.take m)/\Below wa.heap.size wa wx) (fun v _=>Ait v)
     case atStart=>exact⟨np,Nat.le_refl _,Lib.hid rfl,by rw[HTK.out];exact ho4,hb4⟩
     case round =>
      clear ho4 hb4;obtain⟨m,hm,hT,ho,hb⟩:=hrel;have hml:(P.take m).length=m:=by rw[List.length_take,HNP.out];omega
      obtain⟨Ap,cp,rfl,hcp,hcx,hAp⟩:=OwG.form2 ho;have HML:=Lib.hid hml;rw[hml] at ho hcp hAp ⊢;have HTA:=Lib.hid (fun i (h1:1<m) (hi:m-1=i) h2=>fk (l:=P) h1 hi h2)
      have HTN:=Lib.hid (fun h=>ue (l:=P) (m:=m) h)
      obtain⟨i,hi⟩:∃i,m-1=i:=⟨_,rfl⟩
      obtain⟨bb,hbb⟩:∃b,(decide (1<m)&&eqS (gt P i) (gt P 0))=b:=⟨_,rfl⟩
      have HBB:=Lib.hid hbb;have HI:=Lib.hid hi;clear hml;go_upto_region 26 with fail;go_cut [137] (fun v wx=>v=.bool bb/\Below wr.heap.size wr wx)
      case first =>
       by_cases h1:1<m
       ·obtain⟨g,rfl,hg1,hg2⟩:=hAp (by omega)
        obtain⟨d1,d2,-,-⟩:=OwS.cells ho HML.out (show i<m by omega)
        obtain⟨d3,d4,-,-⟩:=OwS.cells ho HML.out (show 0<m by omega)
        rw[Ahg (show i<m by omega)] at d1 d2
        rw[Ahg (show 0<m by omega)] at d3 d4
        rw[Nat.zero_mul] at d3 d4;have hbe:eqS (gt P i) (gt P 0)=bb:=by rw[<-hbb];simp[h1]
        obtain⟨⟨lx,ly⟩,hll⟩:∃q,gt P i=q:=⟨_,rfl⟩
        obtain⟨⟨fx,fy⟩,hff⟩:∃q,gt P 0=q:=⟨_,rfl⟩
        rw[hll] at d1 d2 hbe;rw[hff] at d3 d4 hbe;dsimp only at d1 d2 d3 d4;have W3:=R8 (Nat.le_of_lt h1) hi (Nat.le_trans hm (by omega))
        have B9:(i:Int)<(m:Int):=by omega
        have B10:(0:Int)<(m:Int):=by omega
        have B11:((2:Int)<=(m:Int))=True:=by simp;omega
        clear hll hff hi hbb h1
        go_quiet (fail)
        go_wp2_with fail;go_meet;exact⟨rfl,Bg (Below.refl _ _) _⟩
       ·have hbe:bb=false:=by rw[<-hbb];simp[h1]
        have B11:((2:Int)<=(m:Int))=False:=by simp;omega
        clear hi hbb h1;subst hbe
        go_quiet (fail)
        go_wp2_with fail;go_meet;exact⟨rfl,Bg (Below.refl _ _) _⟩
      case rest =>
       obtain⟨rfl,hbc⟩:=hcut;have hoc:=OwG.keep ho hbc;have hbC:=Ao hb hbc;clear ho hb hbc hbb;cases hbv:bb with
       | true =>
         rw[hbv] at HBB;have hb2:=HBB.out;simp only[Bool.and_eq_true,decide_eq_true_eq] at hb2;obtain⟨h1,h2⟩:=hb2;obtain⟨g,rfl,hg1,hg2⟩:=hAp (by omega)
         have W3:=R8 (Nat.le_of_lt h1) hi (Nat.le_trans hm (by omega))
         have HT2:=Lib.hid ((HTA.out i h1 hi h2).symm.trans hT.out);have i1:(0:Int)<=(i:Int):=by omega
         have i2:(i:Int)<=(cp:Int):=by omega
         have i3:(i:Int)<=(m:Int):=by omega
         have hor:=OwS.take hoc HML.out (show i<=m by omega)
         rw[List.take_take,Nat.min_eq_left (show i<=m by omega)] at hor
         have him:i<m:=by omega
         clear hbv h2 hi h1;go_wp2_with fail;exact⟨⟨i,by omega,HT2,hor,hbC⟩,by simp[Ait];omega⟩
       | false =>
         rw[hbv] at HBB
         have hTm:Nd P m=m:=HTN.out (by
          have hb2:=HBB.out;rw[Bool.and_eq_false_iff] at hb2;rcases hb2 with h|h
          ·left;simpa using h
          ·right;rw[hi];exact h)
         rw[hTm] at hT;have HG:=Lib.hid (show G=P.take m by rw[HRG.out,<-hT.out])
         clear hbv hTm hi HTA HTN;rw[<-HG.out] at hoc;have HML2:=Lib.hid (show G.length=m by rw[HG.out];exact HML.out)
         obtain⟨A',c',e',-,hSG,-⟩:=OwS.sps hoc;rw[HML2.out] at hSG e';injection e' with e1 e2 e3
         subst e1 e3;clear e2;have hm80:m<=80:=by omega
         have hGs:=hSG;clear hAp;go_upto_region 29 with fail;go_loopw [20,145] (fun _ i wx=>∃j:Nat,j<=m/\i=.int .i64 j/\Hid (Bq (fun i=>!wS (gt G i) 1048576) j=false)/\Below wc.heap.size wc wx) (fun _ i _=>m-(intOf i).toNat)
         case atStart=>exact⟨0,Nat.zero_le _,rfl,Lib.hid rfl,Below.refl _ _⟩
         case round =>
          obtain⟨j,hj,rfl,hA,hb⟩:=hrel;by_cases hjm:j<m
          ·obtain⟨b8,o8,rfl,-,hc8⟩:=(hSG.keep hb).at_ hjm
           obtain⟨x1,x2⟩:=hc8 j hjm;have HY:=Lib.hid (fun (h:wS (gt G j) 1048576=true)=>Bq.succ (f:=fun i=>!wS (gt G i) 1048576) hA.out (by rw[h];rfl))
           have HN:=Lib.hid (fun (h:wS (gt G j) 1048576=false)=>Bq.yes (f:=fun i=>!wS (gt G i) 1048576) hjm (by rw[h];rfl))
           obtain⟨⟨px,py⟩,hp⟩:∃p,gt G j=p:=⟨_,rfl⟩
           rw[hp] at x1 x2 HY HN;dsimp only at x1 x2;clear hp hc8;have B8:(j:Int)<(m:Int):=by omega
           cases hw:wS (px,py) 1048576 with
           | true =>
             have HY2:=Lib.hid (HY.out hw)
             go_wp2_with (go_at_call 54;refine(Ht px py 1048576 _ (by omega) (by omega)).mono ?_;rintro e w8 ⟨rfl,hb8⟩;rw[hw])
             exact⟨⟨j+1,by omega,by go_num,HY2,Ao (An hb _) hb8⟩,by simp[intOf];omega⟩
           | false =>
             have HR3:=Lib.hid (show R=([],3) by rw[HA.out,if_pos (by rw[HML2.out];exact HN.out hw)])
             go_wp2_with (go_at_call 54;refine(Ht px py 1048576 _ (by omega) (by omega)).mono ?_;rintro e w8 ⟨rfl,hb8⟩;rw[hw])
             go_ret2
             rw[HR3.out];exact⟨_,rfl,OwG.nil,Ao hbW4 (Ao hbC (Ao (An hb _) hb8))⟩
          ·obtain rfl:m=j:=by omega
           have HA2:=Lib.hid (show R=if Bf G m≠0 then ([],Bf G m) else if orW G≠orW V then ([],11) else (G,0) by rw[HA.out,HML2.out,if_neg (by rw[hA.out];simp)])
           have hSGr:=hSG.keep hb;have hSVr:=hSv4.keep (Ao hbC hb);have hocr:=OwG.keep hoc hb;have hbR:=Ao hbW4 (Ao hbC hb);obtain⟨cg,hcg⟩:∃c,Bf G m=c:=⟨_,rfl⟩
           obtain⟨og,hog⟩:∃c,orW G=c:=⟨_,rfl⟩
           obtain⟨ov,hov⟩:∃c,orW V=c:=⟨_,rfl⟩
           rw[hcg,hog,hov] at HA2;have HCG:=Lib.hid hcg;have HOG:=Lib.hid hog;have HOV:=Lib.hid hov;clear hcg hog hov hj hjm hA hSG hoc hb;by_cases hc0:cg=0
           ·subst hc0
            by_cases hoo:og=ov
            ·subst hoo
             have HR4:=Lib.hid (show R=(G,0) by rw[HA2.out,if_neg (by simp),if_neg (by simp)])
             go_wp2_with (first
              | (go_at_call 55;have hX:=hb8;refine(Gp Av cv nv V _ (by omega) (by omega) (hSVr.keep (Ao hb7 hb8))).mono ?_;rintro e w9 ⟨rfl,hb9⟩;rw[HOV.out])
              | (go_at_call 55;refine(Gp Ap cp m G _ (by omega) (by omega) (hSGr.keep hb7)).mono ?_;rintro e w8 ⟨rfl,hb8⟩;rw[HOG.out])
              | (go_at_call 33;refine(Cz Ap cp m G _ (by omega) (by omega) hSGr).mono ?_;rintro e w7 ⟨rfl,hb7⟩;rw[HCG.out]))
             go_ret2
             rw[HR4.out];exact⟨_,rfl,(OwG.keep hocr (Ao (Ao hb7 hb8) hb9)).lower hbW4.size,Ao hbR (Ao (Ao hb7 hb8) hb9)⟩
            ·have hoo':(og != ov)=true:=by simpa using hoo
             have HR4:=Lib.hid (show R=([],11) by rw[HA2.out,if_neg (by simp),if_pos hoo])
             clear hoo
             go_wp2_with (first
              | (go_at_call 55;have hX:=hb8;refine(Gp Av cv nv V _ (by omega) (by omega) (hSVr.keep (Ao hb7 hb8))).mono ?_;rintro e w9 ⟨rfl,hb9⟩;rw[HOV.out])
              | (go_at_call 55;refine(Gp Ap cp m G _ (by omega) (by omega) (hSGr.keep hb7)).mono ?_;rintro e w8 ⟨rfl,hb8⟩;rw[HOG.out])
              | (go_at_call 33;refine(Cz Ap cp m G _ (by omega) (by omega) hSGr).mono ?_;rintro e w7 ⟨rfl,hb7⟩;rw[HCG.out]))
             go_ret2
             rw[HR4.out];exact⟨_,rfl,OwG.nil,Ao hbR (Ao (Ao hb7 hb8) hb9)⟩
           ·have hc0':(cg != 0)=true:=by simpa using hc0
            have HR4:=Lib.hid (show R=([],cg) by rw[HA2.out,if_pos hc0])
            clear hc0
            go_wp2_with (go_at_call 33;refine(Cz Ap cp m G _ (by omega) (by omega) hSGr).mono ?_;rintro e w7 ⟨rfl,hb7⟩;rw[HCG.out])
            go_ret2
            rw[HR4.out];exact⟨_,rfl,OwG.nil,Ao hbR hb7⟩
theorem r9 (A:Option Addr) (cap n:Nat) (E:List EdgeP) (A2:Option Addr) (n2 c2:Nat) (wd:List Int) (w:World) (hcap:n<=cap) (hn:n<=9223372036854775807) (hE:EdS w A n E) (hW:InS w A2 n2 wd) :
 Calls Tryz.prog 29 #[.slice A n cap,.slice A2 n2 c2] w (Rz w (I5 E wd)):=by
 by_cases h:(Et E wd).2=0
 ·have e:=(Ss h).2.1
  rw[hE.1,hW.1] at e;subst e;exact Amd A cap n2 E A2 c2 wd w hcap hE hW h
 ·rw[show I5 E wd=([],(Et E wd).2) by unfold I5;rw[if_pos h]]
  exact Ame A cap n E A2 n2 c2 wd w hcap hn hE hW h
end Go.Proofs.YtpbchbcdgikonaaGreat
