/- Lean texts of the claim. -/
import Derived.Test.YtpbchbcdgikonaaGreatQ25
namespace Go.Proofs.YtpbchbcdgikonaaGreat
set_option linter.unusedVariables false
set_option linter.unusedSimpArgs false
set_option maxRecDepth 100000
set_option maxHeartbeats 4000000
open Go.RowKit
theorem pc7 {w:World} {g:Nat} {t:TypeId} {a b c d e f h:Value} (H:Bb w g t #[a,b,c,d,e,f,h]):w.cell? ⟨g,0,none⟩=some a/\w.cell? ⟨g,1,none⟩=some b/\w.cell? ⟨g,2,none⟩=some c/\w.cell? ⟨g,3,none⟩=some d/\w.cell? ⟨g,4,none⟩=some e/\w.cell? ⟨g,5,none⟩=some f/\w.cell? ⟨g,6,none⟩=some h :=
 ⟨(H.cell 0).trans rfl,(H.cell 1).trans rfl,(H.cell 2).trans rfl,(H.cell 3).trans rfl,(H.cell 4).trans rfl,(H.cell 5).trans rfl,(H.cell 6).trans rfl⟩
theorem Ls (p:PieceP) (m:Int):∀k,(Ix p m k).length=k
 | 0=>rfl
 | k+1=>by rw[Ix,List.length_append,Ls p m k];rfl
theorem Ai4 {n b:Int} (h:wI n b=true) : -b<=n/\n<=b:=by unfold wI at h;simpa using h
theorem zj {cr:List (Int×Int)} {m:Int} {k:Nat} (h0:0<cr.length) (hm1 : -100<=m) (hm2:m<=100) (hsh:∀i,i<cr.length -> -1000<=(gt cr i).1/\(gt cr i).1<=1000 /\ -1000<=(gt cr i).2/\(gt cr i).2<=1000):Aiu (Kv cr m k):=by
 obtain⟨i1,i2,i3,i4⟩:=hsh _ (Nat.mod_lt k h0);have m1:=Xx hm1 hm2 i1 i2;have m2:=Xx hm1 hm2 i3 i4;exact⟨m1.1,m1.2,m2.1,m2.2⟩
theorem Alm (vs:Array Value) (p:PieceP) (m:Int) (w:World) (hv:PcV w vs p) (h:wI m 100=false):Calls Tryz.prog 48 #[.agg vs,.int .i64 m] w (tg w ([],3)):=by
 have HW:=Lib.hid h;clear h;obtain⟨A1,c1,A2,c2,A3,c3,A4,c4,rfl,⟨v1,v2,v3⟩,⟨v4,v5,v6⟩,⟨v7,v8,v9⟩,⟨v10,v11,v12⟩⟩:=hv;go_enter Tryz.func48,Tryz.ntmps48;go_upto_region 1 with fail;refine Ar (fun X=>Below w.heap.size w X/\Bb X w.heap.size 64 #[.string p.nm,.slice A1 p.ed.length c1,.int .i64 p.gr,.slice A2 p.nt.length c2,.slice A3 p.cr.length c3,.slice A4 p.wd.length c4,.bool p.mt]) ⟨An (Below.refl _ _) _,Bb.new _ _ _⟩ ?_
 rintro X ⟨hbX,hP⟩;obtain⟨p0,p1,p2,p3,p4,p5,p6⟩:=pc7 hP
 go_wp2_with (go_at_call 70;refine(Dr m 100 _ (by omega) (by omega)).mono ?_;rintro e w1 ⟨rfl,hb1⟩;rw[HW.out])
 go_ret2
 exact tg.none_ (Ao hbX hb1)
theorem All (vs:Array Value) (p:PieceP) (m:Int) (w:World) (hv:PcV w vs p) (h:wI m 100=true) (hl:p.cr.length≠p.ed.length):Calls Tryz.prog 48 #[.agg vs,.int .i64 m] w (tg w ([],1)):=by
 have HW:=Lib.hid h;have hne:((p.cr.length:Int) != (p.ed.length:Int))=true:=by rw[bne_iff_ne];omega
 clear h hl;obtain⟨A1,c1,A2,c2,A3,c3,A4,c4,rfl,⟨v1,v2,v3⟩,⟨v4,v5,v6⟩,⟨v7,v8,v9⟩,⟨v10,v11,v12⟩⟩:=hv;go_enter Tryz.func48,Tryz.ntmps48;go_upto_region 1 with fail;refine Ar (fun X=>Below w.heap.size w X/\Bb X w.heap.size 64 #[.string p.nm,.slice A1 p.ed.length c1,.int .i64 p.gr,.slice A2 p.nt.length c2,.slice A3 p.cr.length c3,.slice A4 p.wd.length c4,.bool p.mt]) ⟨An (Below.refl _ _) _,Bb.new _ _ _⟩ ?_
 rintro X ⟨hbX,hP⟩;obtain⟨p0,p1,p2,p3,p4,p5,p6⟩:=pc7 hP;obtain⟨n1,hn1⟩:∃n,p.ed.length=n:=⟨_,rfl⟩
 obtain⟨n3,hn3⟩:∃n,p.cr.length=n:=⟨_,rfl⟩
 rw[hn1] at p1 hne;rw[hn3] at p4 hne;clear hn1 hn3
 go_wp2_with (go_at_call 70;refine(Dr m 100 _ (by omega) (by omega)).mono ?_;rintro e w1 ⟨rfl,hb1⟩;rw[HW.out];have q1:=Aq hb1 p1;have q4:=Aq hb1 p4)
 all_goals go_ret2
 all_goals exact tg.none_ (Ao hbX hb1)
theorem Ai3 {q:Int×Int} (h:wS q 1000=true) : -1000<=q.1/\q.1<=1000 /\ -1000<=q.2/\q.2<=1000:=by
 unfold wS wI at h;simp at h;omega
theorem V5 {w:World} {g:Nat} {t:TypeId} {a b:Value} (h:Bb w g t #[a,b]):w.cell? ⟨g,0,none⟩=some a/\w.cell? ⟨g,1,none⟩=some b:=⟨(h.cell 0).trans rfl,(h.cell 1).trans rfl⟩
theorem Alk (vs:Array Value) (p:PieceP) (m:Int) (w:World) (hv:PcV w vs p) (h:wI m 100=true) (hl:p.cr.length=p.ed.length):Calls Tryz.prog 48 #[.agg vs,.int .i64 m] w (tg w (Cn p m)):=by
 have HG:=Lib.hid (show Cn p m=if Bq (fun i=>!wS (gt p.cr i) 1000) p.cr.length then ([],3) else if Fp p.ed≠0 then ([],Fp p.ed) else if Fp (G0 p m)≠0 then ([],Fp (G0 p m)) else (G0 p m,0) by
  unfold Cn;rw[if_neg (by rw[h];simp),if_neg (by simpa using hl)])
 obtain⟨hm1,hm2⟩:=Ai4 h;have HW:=Lib.hid h;have HLL:=Lib.hid hl;clear h hl;obtain⟨A1,c1,A2,c2,A3,c3,A4,c4,rfl,⟨v1,v2,v3⟩,⟨v4,v5,v6⟩,⟨v7,v8,v9⟩,⟨v10,v11,v12⟩⟩:=hv;go_enter Tryz.func48,Tryz.ntmps48;go_upto_region 1 with fail;refine Ar (fun X=>Below w.heap.size w X/\Bb X w.heap.size 64 #[.string p.nm,.slice A1 p.ed.length c1,.int .i64 p.gr,.slice A2 p.nt.length c2,.slice A3 p.cr.length c3,.slice A4 p.wd.length c4,.bool p.mt]) ⟨An (Below.refl _ _) _,Bb.new _ _ _⟩ ?_
 rintro X ⟨hbX,hP⟩;obtain⟨p0,p1,p2,p3,p4,p5,p6⟩:=pc7 hP;have hl:=HLL.out;obtain⟨n1,hn1⟩:∃n,p.ed.length=n:=⟨_,rfl⟩
 rw[hl] at p4 v7 v9 HG;rw[hn1] at p1 p4 v1 v3 v7 v9 HG hP;rw[hl,hn1] at hP;have HCL:=Lib.hid (show p.cr.length=n1 by rw[hl,hn1])
 have HEL:=Lib.hid hn1;clear hl hn1;obtain⟨cr,hcr⟩:∃l,p.cr=l:=⟨_,rfl⟩
 rw[hcr] at v9 HG HCL;have HCR:=Lib.hid hcr;clear hcr;have hP0:=hP;have v9X:=v9.keep hbX;have v3X:=v3.keep hbX
 go_upto_region 6 with (go_at_call 70;refine(Dr m 100 _ (by omega) (by omega)).mono ?_;rintro e w1 ⟨rfl,hb1⟩;rw[HW.out];obtain⟨q0,q1,q2,q3,q4,q5,q6⟩:=pc7 (hP0.keep hb1))
 go_loopw [7,27] (fun _ i wr=>∃k:Nat,k<=n1/\i=.int .i64 k/\Hid (Bq (fun i=>!wS (gt cr i) 1000) k=false)/\Below X.heap.size X wr) (fun _ i _=>n1-(intOf i).toNat)
 case atStart=>exact⟨0,Nat.zero_le _,rfl,Lib.hid (Bq.zero _),hb1⟩
 case round =>
  clear q0 q1 q2 q3 q4 q5 q6 p0 p1 p2 p3 p4 p5 p6;obtain⟨k,hk,rfl,hz,hb⟩:=hrel;by_cases hlt:k<n1
  ·obtain⟨b0,off,rfl,hbl,hc⟩:=(v9X.keep hb).at_ hlt
   obtain⟨e1,e2⟩:=hc k hlt;have HS:=Lib.hid (show wS (gt cr k) 1000=(wI (gt cr k).1 1000&&wI (gt cr k).2 1000) from rfl)
   obtain⟨x,hx⟩:∃x,(gt cr k).1=x:=⟨_,rfl⟩
   obtain⟨y,hy⟩:∃x,(gt cr k).2=x:=⟨_,rfl⟩
   rw[hx] at e1 HS;rw[hy] at e2 HS;clear hc hx hy;have HR:=Lib.hid (fun (hf:wS (gt cr k) 1000=false)=>show Cn p m=([],3) by rw[HG.out,if_pos (Bq.yes (f:=fun i=>!wS (gt cr i) 1000) hlt (by rw[hf];rfl))])
   obtain⟨bx,hbx⟩:∃b,wI x 1000=b:=⟨_,rfl⟩
   obtain⟨bY,hbY⟩:∃b,wI y 1000=b:=⟨_,rfl⟩
   rw[hbx,hbY] at HS;have HX:=Lib.hid hbx;have HY:=Lib.hid hbY;clear hbx hbY;cases bx with
   | false =>
     have HF:=Lib.hid (HR.out HS.out)
     go_wp2_with (go_at_call 70;refine(Dr x 1000 _ (by omega) (by omega)).mono ?_;rintro e w2 ⟨rfl,hb2⟩;rw[HX.out])
     go_ret2
     rw[HF.out];exact tg.none_ (Ao hbX (Ao (An hb _) hb2))
   | true =>
     cases bY with
     | false =>
       have HF:=Lib.hid (HR.out HS.out);go_upto_region 8 with fail;refine Ar (fun Y=>Below wr.heap.size wr Y/\Bb Y wr.heap.size 49 #[.int .i64 x,.int .i64 y]) ⟨An (Below.refl _ _) _,Bb.new _ _ _⟩ ?_
       rintro Y ⟨hbY,hV⟩;obtain⟨z0,z1⟩:=V5 hV
       go_wp2_with (first
        | (go_at_call 70;have hz:=hb2;refine(Dr y 1000 _ (by omega) (by omega)).mono ?_;rintro e w3 ⟨rfl,hb3⟩;rw[HY.out])
        | (go_at_call 70;refine(Dr x 1000 _ (by omega) (by omega)).mono ?_;rintro e w2 ⟨rfl,hb2⟩;rw[HX.out];have z1':=Aq hb2 z1))
       go_ret2
       rw[HF.out];exact tg.none_ (Ao hbX (Ao (Ao (Ao hb hbY) hb2) hb3))
     | true =>
       have HP:=Bq.succ (f:=fun i=>!wS (gt cr i) 1000) hz.out (by rw[HS.out];rfl)
       go_upto_region 8 with fail;refine Ar (fun Y=>Below wr.heap.size wr Y/\Bb Y wr.heap.size 49 #[.int .i64 x,.int .i64 y]) ⟨An (Below.refl _ _) _,Bb.new _ _ _⟩ ?_
       rintro Y ⟨hbY,hV⟩;obtain⟨z0,z1⟩:=V5 hV
       go_wp2_with (first
        | (go_at_call 70;have hz:=hb2;refine(Dr y 1000 _ (by omega) (by omega)).mono ?_;rintro e w3 ⟨rfl,hb3⟩;rw[HY.out])
        | (go_at_call 70;refine(Dr x 1000 _ (by omega) (by omega)).mono ?_;rintro e w2 ⟨rfl,hb2⟩;rw[HX.out];have z1':=Aq hb2 z1))
       exact⟨⟨k+1,by omega,by go_num,Lib.hid HP,Ao (Ao (Ao hb hbY) hb2) hb3⟩,by simp[intOf];omega⟩
  ·obtain rfl:n1=k:=by omega
   have HG2:=Lib.hid (show Cn p m=if Fp p.ed≠0 then ([],Fp p.ed) else if Fp (G0 p m)≠0 then ([],Fp (G0 p m)) else (G0 p m,0) by rw[HG.out,if_neg (by rw[hz.out];simp)])
   have HSH:=Lib.hid (show ∀i,i<n1 -> -1000<=(gt cr i).1/\(gt cr i).1<=1000 /\ -1000<=(gt cr i).2/\(gt cr i).2<=1000 from fun i hi=>by
    cases hw:wS (gt cr i) 1000 with
    | true=>exact Ai3 hw
    | false=>exact absurd (Bq.yes (f:=fun i=>!wS (gt cr i) 1000) hi (by rw[hw];rfl)) (by rw[hz.out];simp))
   clear HG hz;obtain⟨q0,q1,q2,q3,q4,q5,q6⟩:=pc7 (hP0.keep hb);obtain⟨eo,heo⟩:∃e,Fp p.ed=e:=⟨_,rfl⟩
   have HEO:=Lib.hid heo;rw[heo] at HG2;clear heo;by_cases h0:eo=0
   ·subst h0
    have HG3:=Lib.hid (show Cn p m=if Fp (G0 p m)≠0 then ([],Fp (G0 p m)) else (G0 p m,0) by rw[HG2.out,if_neg (by simp)])
    have HOK:=Lib.hid (Is HEO.out)
    have hn16:n1<=16/\2<=n1:=by
     have:=HOK.out;rw[HEL.out] at this;omega
    clear HG2
    go_upto_region 17 with (go_at_call 71;refine(F4 A1 c1 n1 p.ed _ v1 (by omega) (v3X.keep hb)).mono ?_;rintro e w3 ⟨rfl,hb3⟩;rw[HEO.out];obtain⟨t0,t1,t2,t3,t4,t5,t6⟩:=pc7 ((hP0.keep hb).keep hb3))
    clear q0 q1 q2 q3 q4 q5 q6;have hbW:=Ao hb hb3;have v9W:=v9X.keep hbW;have v3W:=v3X.keep hbW;have hCo:∀(k:Nat) (w2:World),k<=1000->Below w3.heap.size w3 w2->Calls Tryz.prog 72 #[.agg #[.slice A3 n1 c3,.int .i64 m],.int .i64 (k:Int)] w2 fun e w'=>e=.returned (.agg #[.int .i64 (Kv cr m k).1,.int .i64 (Kv cr m k).2])/\Below w2.heap.size w2 w':=fun k w2 hk hb2=>mc A3 c3 n1 k cr m w2 (v9W.keep hb2) (by omega) (by omega) hk hm1 hm2 HSH.out
    have HC17:=Lib.hid (show ∀k,Aiu (Kv cr m k) from fun k=>zj (by rw[HCL.out];omega) hm1 hm2 (by rw[HCL.out];exact HSH.out))
    have HLN:=Lib.hid (show ∀k,k<n1->plW (edg p.ed k).ln (edg p.ed k).ln.length=0 from fun k hk=>(HOK.out.2.2.1 k (by rw[HEL.out];exact hk)).2)
    have HGT:=Lib.hid (show ∀k,Ix p m (k+1)=Ix p m k++[⟨(edg p.ed k).nm,Kk (edg p.ed k).ln (Kv cr m k) (Kv cr m (k+1))⟩] from fun k=>by rw[Ix,HCR.out])
    have HGL:=Lib.hid (Ls p m);have hbXW:=Ao hbX hbW;clear hm1 hm2 HSH HCL hb hb3 v9X v3X v9 v3 v6 v12 v4 v5 v10 v11;go_loopw [10,11,12,56] (fun v _ _ i wr=>∃k:Nat,k<=n1/\i=.int .i64 k/\OwE wr w3.heap.size v (Ix p m k)/\Below w3.heap.size w3 wr) (fun _ _ _ i _=>n1-(intOf i).toNat)
    case atStart=>exact⟨0,Nat.zero_le _,rfl,OwE.nil,Below.refl _ _⟩
    case round =>
     clear t0 t1 t2 t3 t4 t5 t6;obtain⟨k,hk,rfl,ho,hb⟩:=hrel;by_cases hlt:k<n1
     ·obtain⟨b0,off,rfl,hc⟩:=(v3W.keep hb).at_ hlt
      obtain⟨e1,Al,cl,e2,g1,g2,g3⟩:=hc k hlt;have hpl:=HLN.out k hlt;have hst:=HGT.out k;have hlen:=HGL.out k;obtain⟨l,hl⟩:∃l,(edg p.ed k).ln=l:=⟨_,rfl⟩
      obtain⟨nm,hnm⟩:∃s,(edg p.ed k).nm=s:=⟨_,rfl⟩
      rw[hl] at e2 g1 g3 hpl hst;rw[hnm] at e1 hst;obtain⟨nl,hnl⟩:∃n,l.length=n:=⟨_,rfl⟩
      rw[hnl] at e2 g1 g3 hpl;have c17:=HC17.out k;have d17:=HC17.out (k+1);obtain⟨⟨cx,cy⟩,hcc⟩:∃q,Kv cr m k=q:=⟨_,rfl⟩
      obtain⟨⟨dx,dy⟩,hdd⟩:∃q,Kv cr m (k+1)=q:=⟨_,rfl⟩
      have hC1:=fun w2 h2=>hCo k w2 (by omega) h2
      have hC2:=fun w2 h2=>hCo (k+1) w2 (by omega) h2
      rw[hcc] at hC1 hst c17;rw[hdd] at hC2 hst d17;have HM:=Lib.hid hst;have hMv:∀w2:World,Below wr.heap.size wr w2->Calls Tryz.prog 73 #[.slice Al nl cl,.agg #[.int .i64 cx,.int .i64 cy],.agg #[.int .i64 dx,.int .i64 dy]] w2 (Zk w2 (Kk l (cx,cy) (dx,dy))):=fun w2 hb2=>dc Al cl nl l (cx,cy) (dx,dy) w2 (g3.keep hb2) hpl c17 d17
      obtain⟨L2,hL2⟩:∃L,Kk l (cx,cy) (dx,dy)=L:=⟨_,rfl⟩
      rw[hL2] at hMv HM;dsimp only at hC1 hC2;rw[show ((k+1:Nat):Int)=(k:Int)+1 by omega] at hC2
      have W1:IntKind.i64.wrap ((k:Int)+1)=(k:Int)+1:=by rw[IntKind.wrap_i64];omega
      obtain⟨E0,hE0⟩:∃E,Ix p m k=E:=⟨_,rfl⟩
      rw[hE0] at ho hlen HM;have hle0:E0.length<=1000:=by omega
      have HLEN:=Lib.hid hlen;clear hlen;obtain⟨sv,hsv⟩:∃sv,sv=u10:=⟨_,rfl⟩
      rw[<-hsv] at ho ⊢;clear hsv hc hl hnm hnl hcc hdd hst hL2 hE0 c17 d17 hpl hCo;go_upto_region 19 with fail;refine Ar (fun Y=>Below wr.heap.size wr Y/\Bb Y wr.heap.size 101 #[.string nm,.slice Al nl cl]) ⟨An (Below.refl _ _) _,Bb.new _ _ _⟩ ?_
      rintro Y ⟨hbY,hV⟩;have hO':=ho.keep hbY;have hbD:=Aw (Below.refl Y.heap.size Y);have hbY3:=Ao hb hbY;have hsz:=hb.size;have hsz2:=hbY.size;have hltV:=hV.lt;have hneV:some wr.heap.size≠sv.ownBlock:=fun e=>by obtain⟨xs,h1,-⟩:=ho;have:=(OwG.lt h1 _ e.symm).2;omega
      go_region_held3 (fun w'=>w'.cell? ⟨wr.heap.size,0,none⟩=some (.string nm)/\w'.cell? ⟨wr.heap.size,1,none⟩=some (.slice Al nl cl))
       (first
        | with_reducible exact V5 (hV.keep hbD)
        | with_reducible exact V5 (hV.keep (An hbD _))
        | with_reducible exact V5 ((hV.keep (An hbD _)).grown hg9 hneV))
       ((first
         | (refine gn rfl _ _ rfl w3.heap.size sv E0 rfl (OwE.keep hO' (An hbD _)) w8.heap.size 1 nm A8 L2.length c8 L2 101 rfl (Bb.new _ _ _) ((hel8.keep (An (Below.refl _ _) _)).lower hlow8) hc8 (by omega) (An (Ao hbY3 hbD) _).size (w8.heap.size+1) (by simp) ?_;intro g9 cap9 w9 ho9 hg9 hat9 hlt9 how9)
         | (go_at_call 73;refine(hMv _ (Ao hbY hbD)).mono ?_;rintro e w8 ⟨v8,rfl,ho8,hb8⟩;obtain⟨A8,c8,rfl,-⟩:=OwG.form2 ho8;have hel8:=OwS.els ho8;have hlow8:=Nat.le_trans hbY3.size hbD.size;have hc8:c8<=9223372036854775807:=(by obtain⟨A',c',e',-,q',-⟩:=OwG.form2 ho8;injection e' with e1 e2 e3;rw[e3];unfold maxLen at q';exact q');replace hbD:=Ao hbD hb8)
         | (go_at_call 72;(with_reducible refine(hC2 _ (Ao hbY3 hbD)).mono ?_);rintro e w7 ⟨rfl,hb7⟩;replace hbD:=Ao hbD hb7)
         | (go_at_call 72;(with_reducible refine(hC1 _ (Ao hbY3 hbD)).mono ?_);rintro e w6 ⟨rfl,hb6⟩;replace hbD:=Ao hbD hb6)))
      all_goals clear W1
      all_goals go_wp2_with fail
      exact⟨⟨k+1,by omega,by go_num,by rw[HM.out];exact ho9,Below.grown (An (Ao hbY3 hbD) _) hg9 (An (Ao hbY3 hbD) _).size (fun q hq=>(how9 q hq).1)⟩,by simp[intOf];omega⟩
     ·obtain rfl:n1=k:=by omega
      have HGE:=Lib.hid (show G0 p m=Ix p m n1 by unfold G0;rw[HEL.out])
      have hgl:=HGL.out n1;obtain⟨E,hE⟩:∃E,Ix p m n1=E:=⟨_,rfl⟩
      rw[hE] at ho HGE hgl;rw[HGE.out] at HG3;obtain⟨A5,c5,rfl,i1,i2,i3⟩:=ho.eds;have HO:=Lib.hid ho;rw[hgl] at i1 i3 ⊢;have HGL5:=Lib.hid hgl;obtain⟨eo,heo⟩:∃e,Fp E=e:=⟨_,rfl⟩
      have HEO5:=Lib.hid heo;rw[heo] at HG3;have hbF:=Ao hbXW hb;clear hE heo hgl ho HOK HEO;by_cases h5:eo=0
      ·subst h5
       have HR:=Lib.hid (show Cn p m=(E,0) by rw[HG3.out,if_neg (by simp)])
       go_wp2_with (go_at_call 71;refine(F4 A5 c5 n1 E _ i1 (by omega) i3).mono ?_;rintro e w5 ⟨rfl,hb5⟩;rw[HEO5.out])
       go_ret2
       rw[HR.out];refine⟨A5,c5,?_,?_,i2,?_,Ao hbF hb5⟩
       ·rw[show ((E,(0:Int)).1).length=n1 from HGL5.out];rfl
       ·refine⟨by rw[show ((E,(0:Int)).1).length=n1 from HGL5.out];exact i1,(HO.out.keep hb5).lower hbXW.size⟩
       ·rw[show ((E,(0:Int)).1).length=n1 from HGL5.out];exact i3.keep hb5
      ·have HR:=Lib.hid (show Cn p m=([],eo) by rw[HG3.out,if_pos h5])
       have h5':(eo != 0)=true:=by simpa using h5
       clear h5
       go_wp2_with (go_at_call 71;refine(F4 A5 c5 n1 E _ i1 (by omega) i3).mono ?_;rintro e w5 ⟨rfl,hb5⟩;rw[HEO5.out])
       go_ret2
       rw[HR.out];exact tg.none_ (Ao hbF hb5)
   ·have HR:=Lib.hid (show Cn p m=([],eo) by rw[HG2.out,if_pos h0])
    have h0':(eo != 0)=true:=by simpa using h0
    clear h0 HG2
    go_wp2_with (go_at_call 71;refine(F4 A1 c1 n1 p.ed _ v1 (by omega) (v3X.keep hb)).mono ?_;rintro e w3 ⟨rfl,hb3⟩;rw[HEO.out])
    go_ret2
    rw[HR.out];exact tg.none_ (Ao hbX (Ao hb hb3))
theorem Cc (vs:Array Value) (p:PieceP) (m:Int) (w:World) (hv:PcV w vs p):Calls Tryz.prog 48 #[.agg vs,.int .i64 m] w (tg w (Cn p m)):=by
 cases h:wI m 100 with
 | false =>
   have:Cn p m=([],3):=by unfold Cn;rw[if_pos h]
   rw[this];exact Alm vs p m w hv h
 | true =>
   by_cases hl:p.cr.length=p.ed.length
   ·exact Alk vs p m w hv h hl
   ·have:Cn p m=([],1):=by unfold Cn;rw[if_neg (by rw[h];simp),if_pos hl]
    rw[this];exact All vs p m w hv h hl
end Go.Proofs.YtpbchbcdgikonaaGreat
