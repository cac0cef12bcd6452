import Derived.Test.YtbcmiijollpgeaaGreatWI
set_option maxHeartbeats 32000000
set_option maxRecDepth 100000
set_option linter.unusedVariables false
set_option linter.unusedSimpArgs false
namespace Go.Proofs.YtbcmiijollpgeaaGreat.D
open Go Go.Z Go.Proofs
section
variable {w w' w0 w1 w2 : World} {pm : Nat} {vm v : Value} {M M' : List MK}
theorem IsK.put (h:IsK w pm vm M) (hC:Chg w w1 No) (hU:Upd w1 w' pm 121 [v]) (hF:FM w.heap.size w1 v M'.length (encK M')):IsK w' pm v M'∧Chg w w' (· =pm)∧(∀k,v.ownBlock=some k→w.heap.size≤k):=by
 have hR:OneT w1 121 (fun k=>k=pm):=fun k hk=>⟨_,hk▸(h.blk.no hC)⟩
 exact ⟨⟨hU.blk,hF.1.typ hU.chg hR (by decide)⟩,(hC.mono (fun _ _ h=>h.elim)).trans hU.chg (fun k _ hk=>hk),hF.2⟩
def MPost (w:World) (pm:Nat) (M':List MK) (x:Value) (e:Ending) (w':World):Prop:=e= .returned x∧ ∃v,IsK w' pm v M'∧Chg w w' (· =pm)∧(∀k,v.ownBlock=some k→w.heap.size≤k)
theorem mkWall_calls (h:IsK w pm vm M) (hl:M.length≤1000000):Calls Tryz.prog 128 [.pointer (some ⟨pm,0,none⟩)].toArray w (MPost w pm (M++ [MK.wall]) (.tuple #[])):=by
 obtain ⟨A,c,hv0,hc⟩:=h.form
 have hb:=h.blk
 rw [hv0] at hb
 refine zCz 14 Tryz.func128 ?_
 refine zR (zP rfl ?_)
 refine z_bs0 (want_L rfl) (by decide) (fun w1 b1 hN1=> ?_)
 have hC1:Chg w w1 No:=hN1.chg
 have hF1:FM w.heap.size w1 (.slice (some ⟨b1,0,none⟩) 0 0) 0 []:=⟨Own.empty hN1,fun k hk=>by simp only [Value.ownBlock,Option.some.injEq] at hk;have:=hN1.at_;omega⟩
 have hb1:=hb.no hC1
 have hr:=h.row.rd.no hC1
 rw [hv0] at hr
 refine zz ?_
 refine z_appendO (by rfl) (by decide) (want_L rfl) (by decide) rfl rfl hF1.1 hr (by omega) (by omega) (fun v2 w2 hO2 hX2 hr2=> ?_)
 have hC2:Chg w w2 No:=hF1.ch hC1 hX2
 have hF2:=hF1.grow hC1.size hO2 hr2
 obtain ⟨A2,c2,hv2,_⟩:=hF2.1.rd.form
 subst hv2
 refine z_buildE #[.int .i64 (-1),.string ⟨#[]⟩,.slice none 0 0] (want_L rfl) (by decide) rfl (by kernel_rfl) ?_
 refine zB1 rfl (fun w3 b3 hN3=> ?_)
 have hC3:=hC2.no hN3.chg
 have hF3:=hF2.no hN3.chg
 have hr3:RdS w3 173 3 (.slice (some ⟨b3,0,none⟩) 1 1) 1 (encK [MK.wall]):=RdS.new hN3 rfl (encK_one _)
 refine z_appendO (by rfl) (by decide) (want_L rfl) (by decide) rfl rfl hF3.1 hr3 (by omega) (by omega) (fun v4 w4 hO4 hX4 hr4=> ?_)
 have hC4:Chg w w4 No:=hF3.ch hC3 hX4
 have hF4:=hF3.grow hC3.size hO4 hr4
 obtain ⟨A4,c4,hv4,_⟩:=hF4.1.rd.form
 subst hv4
 have hb4:=hb.no hC4
 rw [List.nil_append,←encK_app] at hF4
 have hF5:FM w.heap.size w4 (.slice A4 (0+M.length+1) c4) (M++ [MK.wall]).length (encK (M++ [MK.wall])):=by rw [show (M++ [MK.wall]).length=0+M.length+1 by simp];exact hF4
 refine zP rfl (zfa rfl ?_)
 refine z_store (want_L rfl) rfl rfl rfl (by assumption) (by first|exact Nat.le_refl _|simp [Value.cells]) (by simp [Value.cells,Value.oneCell']) (fun w5 hU5=> ?_)
 refine zN ?_
 exact zk_ret0 (.inl rfl) rfl ⟨rfl,_,h.put hC4 hU5 hF5⟩
theorem wall_max (k:Nat):((k - 1:Nat):Int)=if (0:Int)>(k:Int) - 1 then 0 else (k:Int) - 1:=by split<;>omega
theorem mkClear_calls (h:IsK w pm vm M) (hl:M.length≤1000000):Calls Tryz.prog 151 [.pointer (some ⟨pm,0,none⟩)].toArray w (MPost w pm (M.take (wallK M M.length - 1)) (.tuple #[])):=by
 obtain ⟨A,c,hv0,hc⟩:=h.form
 have hb:=h.blk
 have hK:=h.row
 rw [hv0] at hb hK
 have hle:=wallK_le M M.length
 obtain ⟨k,hk⟩: ∃k,k=wallK M M.length:=⟨_,rfl⟩
 rw [←hk] at hle
 rw [←hk]
 have fin: ∀{u:World} {v:Value} {m:Nat},FM w.heap.size u v m ([]++(encK M).take ((k - 1)*3))→m=0+(k - 1)→FM w.heap.size u v (M.take (k - 1)).length (encK (M.take (k - 1))):=fun {u v m} hF hm=>by
  rw [List.nil_append,encK_take] at hF
  rw [show (M.take (k - 1)).length=m by rw [List.length_take];omega]
  exact hF
 refine zCz 16 Tryz.func151 ?_
 refine zc_draw [14] (fun w'=>Chg w w' No∧Blk w' pm 121 [.slice A M.length c]) (.take 0 (.take 2 (.take 3 (.take 4 (.take 5 (.take 6 (.all2 1 (.all1 7 (.take 8 (.take 9 (.take 10 (.all1 11 (.plain 12 (.take 13 (.last 14)))))))) 7 (.take 8 (.take 9 (.take 10 (.all1 1 (.all1 11 (.plain 12 (.take 13 (.last 14))))))))))))))) (by rfl) (by kernel_rfl) (by kernel_rfl) (fun w1 hC1 _=>⟨?_,?_⟩)
 ·exact ⟨hC1,hb.no hC1⟩
 refine zz ?_
 refine zs_two ?_ ?_
 ·refine zo_bs0 rfl (want_L rfl) (by decide) (fun w2 ca hMw2=> ?_)
  have hCw2:Chg w w2 No:=hC1.no hMw2.chg
  refine ⟨⟨hCw2,hb.no hCw2⟩,?_⟩
  have hF:FM w.heap.size w2 (.slice (some ⟨ca,0,none⟩) 0 0) 0 []:=⟨Own.empty hMw2,fun k hk=>by simp only [Value.ownBlock,Option.some.injEq] at hk;have:=hMw2.at_;have:=hC1.size;omega⟩
  refine zs_call rfl (want_L rfl) rfl (by decide) rfl (mkWall0_calls (h.no hCw2) hl) ?_
  rintro _ w3 ⟨rfl,hw3⟩
  obtain rfl:=hw3.symm
  rw [←hk]
  refine ⟨_,rfl,⟨hCw2,hb.no hCw2⟩,?_⟩
  refine zz ?_
  refine zRd rfl rfl (fun _ hS=>r_max rfl rfl (wall_max k)) ?_
  refine zRd rfl rfl (fun _ hS=>r_cutTo (k:=k - 1) hK.flat rfl rfl (by omega)) ?_
  refine zs_appendO rfl (by rfl) (by decide) (want_L rfl) (by decide) rfl rfl hF.1 ((hK.take (k - 1) (by omega)).rd.no hCw2) (by omega) (by omega) (fun vw3 w3 hOw3 hXw3 hrw3=> ?_)
  have hCw3:Chg w w3 No:=hF.ch hCw2 hXw3
  refine ⟨⟨hCw3,hb.no hCw3⟩,?_⟩
  have hF:=hF.grow hCw2.size hOw3 hrw3
  obtain ⟨Aw3,cw3,hvw3,_⟩:=hF.1.rd.form
  subst hvw3
  have hb3:=hb.no hCw3
  refine zz ?_
  refine zs_storeL rfl (want_L rfl) rfl rfl rfl (by assumption) (by first|exact Nat.le_refl _|simp [Value.cells]) (by simp [Value.cells,Value.oneCell']) (fun w5 hU5=> ?_)
  exact zk_ret0 (.inl rfl) rfl ⟨rfl,_,h.put hCw3 hU5 (fin hF rfl)⟩
 ·refine zo_call rfl (want_L rfl) rfl (by decide) rfl (mkWall0_calls (h.no hC1) hl) ?_
  rintro _ w3 ⟨rfl,hw3⟩
  obtain rfl:=hw3.symm
  rw [←hk]
  refine ⟨_,rfl,⟨hC1,hb.no hC1⟩,?_⟩
  refine zz ?_
  refine zRd rfl rfl (fun _ hS=>r_max rfl rfl (wall_max k)) ?_
  refine zRd rfl rfl (fun _ hS=>r_cutTo (k:=k - 1) hK.flat rfl rfl (by omega)) ?_
  refine zs_bs0 rfl (want_L rfl) (by decide) (fun w2 ca hMw2=> ?_)
  have hCw2:Chg w w2 No:=hC1.no hMw2.chg
  refine ⟨⟨hCw2,hb.no hCw2⟩,?_⟩
  have hF:FM w.heap.size w2 (.slice (some ⟨ca,0,none⟩) 0 0) 0 []:=⟨Own.empty hMw2,fun k hk=>by simp only [Value.ownBlock,Option.some.injEq] at hk;have:=hMw2.at_;have:=hC1.size;omega⟩
  refine zs_appendO rfl (by rfl) (by decide) (want_L rfl) (by decide) rfl rfl hF.1 ((hK.take (k - 1) (by omega)).rd.no hCw2) (by omega) (by omega) (fun vw3 w3 hOw3 hXw3 hrw3=> ?_)
  have hCw3:Chg w w3 No:=hF.ch hCw2 hXw3
  refine ⟨⟨hCw3,hb.no hCw3⟩,?_⟩
  have hF:=hF.grow hCw2.size hOw3 hrw3
  obtain ⟨Aw3,cw3,hvw3,_⟩:=hF.1.rd.form
  subst hvw3
  have hb3:=hb.no hCw3
  refine zz ?_
  refine zs_storeL rfl (want_L rfl) rfl rfl rfl (by assumption) (by first|exact Nat.le_refl _|simp [Value.cells]) (by simp [Value.cells,Value.oneCell']) (fun w5 hU5=> ?_)
  exact zk_ret0 (.inl rfl) rfl ⟨rfl,_,h.put hCw3 hU5 (fin hF rfl)⟩
theorem mkDrop_calls (h:IsK w pm vm M) (hl:M.length≤1000000) (i:Nat) (hi:i<M.length):Calls Tryz.prog 184 [.pointer (some ⟨pm,0,none⟩),.int .i64 (i:Nat)].toArray w (MPost w pm (M.take i++M.drop (i+1)) (.bool true)):=by
 obtain ⟨A,c,hv0,hc⟩:=h.form
 have hb:=h.blk
 have hK:=h.row
 rw [hv0] at hb hK
 refine zCz 28 Tryz.func184 ?_
 refine zz ?_
 refine zCp rfl (mkIs_calls h i hi hl) ?_
 refine zz ?_
 refine zc_draw [19] (fun w'=>Chg w w' No∧Blk w' pm 121 [.slice A M.length c]) (.take 0 (.take 2 (.take 3 (.take 4 (.take 5 (.take 6 (.take 7 (.take 9 (.take 10 (.take 11 (.take 12 (.take 13 (.take 14 (.take 15 (.all1 1 (.all1 8 (.all1 16 (.plain 17 (.take 18 (.last 19)))))))))))))))))))) (by rfl) (by kernel_rfl) (by kernel_rfl) (fun w1 hC1 _=>⟨?_,?_⟩)
 ·exact ⟨hC1,hb.no hC1⟩
 refine zz ?_
 refine zRd rfl rfl (fun _ hS=>r_cutTo (k:=i) hK.flat rfl rfl (by omega)) ?_
 refine zz ?_
 refine zRd rfl rfl (fun _ hS=>r_cutFrom (k:=i+1) rfl (by show some _=_;simp) (by omega) (by omega)) ?_
 refine zs_bs0 rfl (want_L rfl) (by decide) (fun w2 ca hMw2=> ?_)
 have hCw2:Chg w w2 No:=hC1.no hMw2.chg
 refine ⟨⟨hCw2,hb.no hCw2⟩,?_⟩
 have hF:FM w.heap.size w2 (.slice (some ⟨ca,0,none⟩) 0 0) 0 []:=⟨Own.empty hMw2,fun k hk=>by simp only [Value.ownBlock,Option.some.injEq] at hk;have:=hMw2.at_;have:=hC1.size;omega⟩
 refine zs_appendO rfl (by rfl) (by decide) (want_L rfl) (by decide) rfl rfl hF.1 ((hK.take i (by omega)).rd.no hCw2) (by omega) (by omega) (fun vw3 w3 hOw3 hXw3 hrw3=> ?_)
 have hCw3:Chg w w3 No:=hF.ch hCw2 hXw3
 refine ⟨⟨hCw3,hb.no hCw3⟩,?_⟩
 have hF:=hF.grow hCw2.size hOw3 hrw3
 obtain ⟨Aw3,cw3,hvw3,_⟩:=hF.1.rd.form
 subst hvw3
 refine zs_appendO rfl (by rfl) (by decide) (want_L rfl) (by decide) rfl rfl hF.1 ((RdS.cut hK.rd (k:=i+1) (by omega)).no hCw3) (by omega) (by omega) (fun vw4 w4 hOw4 hXw4 hrw4=> ?_)
 have hCw4:Chg w w4 No:=hF.ch hCw3 hXw4
 refine ⟨⟨hCw4,hb.no hCw4⟩,?_⟩
 have hF:=hF.grow hCw3.size hOw4 hrw4
 obtain ⟨Aw4,cw4,hvw4,_⟩:=hF.1.rd.form
 subst hvw4
 have hb3:=hb.no hCw4
 have hF5:FM w.heap.size w4 (.slice Aw4 (0+i+(M.length - (i+1))) cw4) (M.take i++M.drop (i+1)).length (encK (M.take i++M.drop (i+1))):=by
  rw [List.nil_append,encK_take,encK_drop,←encK_app] at hF
  rw [show (M.take i++M.drop (i+1)).length=0+i+(M.length - (i+1)) by rw [List.length_append,List.length_take,List.length_drop];omega]
  exact hF
 refine zz ?_
 refine zs_storeL rfl (want_L rfl) rfl rfl rfl (by assumption) (by first|exact Nat.le_refl _|simp [Value.cells]) (by simp [Value.cells,Value.oneCell']) (fun w5 hU5=> ?_)
 refine zz ?_
 exact zk_ret1 (.inr rfl) rfl rfl ⟨rfl,_,h.put hCw4 hU5 hF5⟩
end
section
variable {w w' w0 w1 w2 : World} {pm : Nat} {vm v : Value} {M M' : List MK}
def findM (M:List MK) (nm:List UInt8) (wl:Nat):Nat→Int
 |0=> -1
 |k+1=>if k<wl then -1 else if (M.getD k mk0).nm=nm then (k:Int) else findM M nm wl k
theorem mkFind_calls (h:IsK w pm vm M) (hl:M.length≤1000000) (nm:List UInt8):Calls Tryz.prog 183 [.pointer (some ⟨pm,0,none⟩),.string (bs nm)].toArray w fun e w'=>e= .returned (.int .i64 (findM M nm (wallK M M.length) M.length))∧w'=w:=by
 obtain ⟨A,c,hv0,hc⟩:=h.form
 have hb:=h.blk
 rw [hv0] at hb
 obtain ⟨wl,hwl⟩: ∃wl,wl=wallK M M.length:=⟨_,rfl⟩
 rw [←hwl]
 refine zCz 29 Tryz.func183 ?_
 refine zz ?_
 refine zc_loopW (ι:=Nat) (fun k u=> [(0,.pointer (some ⟨pm,0,none⟩)),(1,.string (bs nm)),(5,.int .i64 ((k:Nat) - 1:Int))]) (fun k u=>k≤M.length∧findM M nm wl k=findM M nm wl M.length∧u=w) (fun k u=>k) M.length ⟨Nat.le_refl _,rfl,rfl⟩ ?_ ?_
 ·exact ⟨rfl,rfl,get_int rfl (by omega),trivial⟩
 rintro k u ⟨hk,hf,hu⟩
 obtain rfl:=hu.symm
 refine zz ?_
 refine zCp rfl (mkWall0_calls h hl) ?_
 rw [←hwl]
 cases k with
 |zero=>
  refine zz ?_
  exact zk_ret1 (.inr rfl) rfl rfl ⟨by rw [←hf];rfl,rfl⟩
 |succ k=>
  have e:findM M nm wl (k+1)=if k<wl then -1 else if (M.getD k mk0).nm=nm then (k:Int) else findM M nm wl k:=rfl
  by_cases hkw:k<wl
  ·refine zz ?_
   exact zk_ret1 (.inr rfl) rfl rfl ⟨by rw [←hf,e,if_pos hkw],rfl⟩
  rw [e,if_neg hkw] at hf
  obtain ⟨b,o,c',hv,e1,e2,e3⟩:=h.at_ k (by omega)
  rw [hv0] at hv
  cases hv
  obtain ⟨x,hx⟩: ∃x,x=(M.getD k mk0).nm:=⟨_,rfl⟩
  rw [←hx] at e2 hf
  refine zz ?_
  refine zL1 rfl (cell_at e2 (by omega)) (zP rfl ?_)
  refine zEq rfl rfl (fun hq=> ?_) (fun hq=> ?_)
  ·refine zz ?_
   rw [if_pos hq] at hf
   refine zk_ret1 (.inr rfl) rfl rfl ⟨?_,rfl⟩
   rw [←hf]
   simp
  ·refine zz ?_
   rw [if_neg hq] at hf
   exact zk_loopW k ⟨by omega,hf,rfl⟩ (by omega) ⟨rfl,rfl,get_int rfl (by omega),trivial⟩
theorem mkOf_calls (h:IsK w pm vm M) (hl:M.length≤1000000) (n:Int) (hn: ∃i,i<M.length∧(M.getD i mk0).n=n):Calls Tryz.prog 182 [.pointer (some ⟨pm,0,none⟩),.int .i64 n].toArray w fun e w'=>(∃j:Nat,e= .returned (.int .i64 (j:Nat)))∧w'=w:=by
 obtain ⟨A,c,hv0,hc⟩:=h.form
 have hb:=h.blk
 rw [hv0] at hb
 obtain ⟨i,hi,hin⟩:=hn
 refine zCz 26 Tryz.func182 ?_
 refine zz ?_
 refine zc_loopW (ι:=Nat) (fun k u=> [(0,.pointer (some ⟨pm,0,none⟩)),(1,.int .i64 n),(5,.int .i64 (k:Nat))]) (fun k u=>k≤i∧u=w) (fun k u=>i - k) 0 ⟨Nat.zero_le _,rfl⟩ ?_ ?_
 ·exact ⟨rfl,rfl,rfl,trivial⟩
 rintro k u ⟨hk,hu⟩
 obtain rfl:=hu.symm
 obtain ⟨b,o,c',hv,e1,e2,e3⟩:=h.at_ k (by omega)
 rw [hv0] at hv
 cases hv
 obtain ⟨x,hx⟩: ∃x,x=(M.getD k mk0).n:=⟨_,rfl⟩
 rw [←hx] at e1
 refine zz ?_
 by_cases hq:x=n
 ·refine zz ?_
  exact zk_ret1 (.inr rfl) rfl rfl ⟨⟨_,rfl⟩,rfl⟩
 ·have hki:k≠i:=fun he=>by subst he;exact hq (hx.trans hin)
  refine zz ?_
  exact zk_loopW (k+1) ⟨by omega,rfl⟩ (by omega) ⟨rfl,rfl,get_int rfl (by simp),trivial⟩
theorem mkPush_calls (h:IsK w pm vm M) (hl:M.length≤1000000) (x:MK) (hno: ∀j,wallK M M.length≤j→j<M.length→(M.getD j mk0).nm≠x.nm):Calls Tryz.prog 198 [.pointer (some ⟨pm,0,none⟩),.agg #[.int .i64 x.n,.string (bs x.nm),.slice x.A x.l x.c]].toArray w (MPost w pm (M++ [x]) (.tuple #[])):=by
 obtain ⟨A,c,hv0,hc⟩:=h.form
 obtain ⟨xn,xnm,xA,xl,xc⟩:=x
 dsimp only at hno ⊢
 obtain ⟨wl,hwl⟩: ∃wl,wl=wallK M M.length:=⟨_,rfl⟩
 rw [←hwl] at hno
 refine zCz 63 Tryz.func198 ?_
 refine zS (zR ?_)
 refine zBx rfl (fun w1 b1 hN1=> ?_)
 have hb3:Blk w1 b1 173 [.int .i64 xn,.string (bs xnm),.slice xA xl xc]:=hN1.blk
 have h1:=h.no hN1.chg
 have hb:=h1.blk
 have hK:=h1.row
 rw [hv0] at hb hK
 refine zz ?_
 refine zc_loopW (ι:=Nat) (fun k u=> [(0,.pointer (some ⟨pm,0,none⟩)),(3,.pointer (some ⟨b1,0,none⟩)),(5,.int .i64 0),(6,.int .i64 ((k:Nat) - 1:Int))]) (fun k u=>k≤M.length∧Chg w1 u No) (fun k u=>k) M.length ⟨Nat.le_refl _,Chg.refl _ _⟩ ?_ ?_
 ·exact ⟨rfl,rfl,rfl,get_int rfl (by omega),trivial⟩
 rintro k u ⟨hk,hu⟩
 have h2:=h1.no hu
 have hb2:=hb.no hu
 have hb32:=hb3.no hu
 refine zz ?_
 refine zCl rfl (mkWall0_calls h2 hl) ?_
 rintro _ u' ⟨rfl,hu'⟩
 obtain rfl:=hu'.symm
 refine ⟨_,rfl,?_⟩
 rw [←hwl]
 by_cases hkw:(k:Int) - 1≥wl
 ·obtain ⟨k,rfl⟩: ∃j,k=j+1:=⟨k - 1,by omega⟩
  obtain ⟨b,o,c',hv,e1,e2,e3⟩:=h2.at_ k (by omega)
  rw [hv0] at hv
  cases hv
  have hne:=hno k (by omega) (by omega)
  obtain ⟨y,hy⟩: ∃y,y=(M.getD k mk0).nm:=⟨_,rfl⟩
  rw [←hy] at e2 hne
  refine zz ?_
  refine zc_draw [] (fun w'=>Chg u w' No∧Blk w' pm 121 [.slice (some ⟨b,o,none⟩) M.length c]∧Blk w' b1 173 [.int .i64 xn,.string (bs xnm),.slice xA xl xc]) (.take 0 (.take 1 (.take 2 (.take 3 (.take 4 (.take 5 (.take 6 (.take 7 (.take 8 (.take 9 (.take 10 (.take 11 (.take 12 (.take 13 (.take 14 (.take 15 (.take 16 (.take 17 (.take 18 (.take 19 (.take 20 (.take 21 (.all1 22 (.take 23 (.fin))))))))))))))))))))))))) (by rfl) (by kernel_rfl) (by kernel_rfl) (fun u2 hC2 _=>⟨?_,?_⟩)
  ·exact ⟨hC2,hb2.no hC2,hb32.no hC2⟩
  refine zz ?_
  refine zRd rfl rfl (fun _ hS=>r_load1 rfl (cell_at (cell_no hS.1 e2) (by omega))) ?_
  refine zz ?_
  refine zRd rfl rfl (fun _ hS=>r_eqL (q:=false) rfl rfl (iff_of_false Bool.false_ne_true hne)) ?_
  refine zz ?_
  exact zk_loopW k ⟨by omega,hu.no hC2⟩ (by omega) ⟨rfl,rfl,rfl,get_int rfl (by omega),trivial⟩
 ·refine zz ?_
  have hKr:=hK.rd.no hu
  have hsz:w.heap.size≤u.heap.size:=(hN1.chg.no hu).size
  refine zc_draw [12] (fun w'=>Chg u w' No∧Blk w' pm 121 [.slice A M.length c]∧Blk w' b1 173 [.int .i64 xn,.string (bs xnm),.slice xA xl xc]) (.take 0 (.take 2 (.take 3 (.take 4 (.take 5 (.take 7 (.all2 1 (.all2 6 (.all1 8 (.all1 9 (.plain 10 (.take 11 (.last 12))))) 8 (.all1 6 (.all1 9 (.plain 10 (.take 11 (.last 12)))))) 8 (.all1 1 (.all1 6 (.all1 9 (.plain 10 (.take 11 (.last 12))))))))))))) (by rfl) (by kernel_rfl) (by kernel_rfl) (fun w5 hC5 _=>⟨?_,?_⟩)
  ·exact ⟨hC5,hb2.no hC5,hb32.no hC5⟩
  have fin: ∀{u':World} {v:Value},FM u.heap.size u' v (0+M.length+1) (([]++encK M)++encK [(⟨xn,xnm,xA,xl,xc⟩:MK)])→FM u.heap.size u' v (M++ [(⟨xn,xnm,xA,xl,xc⟩:MK)]).length (encK (M++ [(⟨xn,xnm,xA,xl,xc⟩:MK)])):=fun {u' v} hF=>by
   rw [List.nil_append,←encK_app] at hF
   rw [show (M++ [(⟨xn,xnm,xA,xl,xc⟩:MK)]).length=0+M.length+1 by simp]
   exact hF
  have done: ∀{u' u'':World} {v:Value},Chg u u' No→Upd u' u'' pm 121 [v]→FM u.heap.size u' v (0+M.length+1) (([]++encK M)++encK [(⟨xn,xnm,xA,xl,xc⟩:MK)])→MPost w pm (M++ [(⟨xn,xnm,xA,xl,xc⟩:MK)]) (.tuple #[]) (.returned (.tuple #[])) u'':=fun {u' u'' v} hC hU hF=>by
   obtain ⟨g1,g2,g3⟩:=h2.put hC hU (fin hF)
   exact ⟨rfl,_,g1,((hN1.chg.no hu).mono (fun _ _ h=>h.elim)).trans g2 (fun k _ hk=>hk),fun k hk=>by have:=g3 k hk;omega⟩
  refine zz ?_
  refine zs_two ?_ ?_
  ·refine zo_bs0 rfl (want_L rfl) (by decide) (fun w2 ca hMw2=> ?_)
   have hCw2:Chg u w2 No:=hC5.no hMw2.chg
   refine ⟨⟨hCw2,hb2.no hCw2,hb32.no hCw2⟩,?_⟩
   have hF:FM u.heap.size w2 (.slice (some ⟨ca,0,none⟩) 0 0) 0 []:=⟨Own.empty hMw2,fun k hk=>by simp only [Value.ownBlock,Option.some.injEq] at hk;have:=hMw2.at_;have:=hC5.size;omega⟩
   refine zs_two ?_ ?_
   ·refine zo_appendO rfl (by rfl) (by decide) (want_L rfl) (by decide) rfl rfl hF.1 (hKr.no hCw2) (by omega) (by omega) (fun vw3 w3 hOw3 hXw3 hrw3=> ?_)
    have hCw3:Chg u w3 No:=hF.ch hCw2 hXw3
    refine ⟨⟨hCw3,hb2.no hCw3,hb32.no hCw3⟩,?_⟩
    have hF:=hF.grow hCw2.size hOw3 hrw3
    obtain ⟨Aw3,cw3,hvw3,_⟩:=hF.1.rd.form
    subst hvw3
    refine zs_bs1 rfl (want_L rfl) (by decide) rfl (by rfl) (by rfl) (by decide) (by decide) (fun w4 cb hMw4=> ?_)
    have hCw4:Chg u w4 No:=hCw3.no hMw4.chg
    refine ⟨⟨hCw4,hb2.no hCw4,hb32.no hCw4⟩,?_⟩
    have hr1:RdS w4 173 3 (.slice (some ⟨cb,0,none⟩) 1 1) 1 (encK [(⟨xn,xnm,xA,xl,xc⟩:MK)]):=RdS.new hMw4 rfl (encK_one _)
    have hF:=hF.no hMw4.chg
    refine zs_appendO rfl (by rfl) (by decide) (want_L rfl) (by decide) rfl rfl hF.1 hr1 (by omega) (by omega) (fun vw5 w5 hOw5 hXw5 hrw5=> ?_)
    have hCw5:Chg u w5 No:=hF.ch hCw4 hXw5
    refine ⟨⟨hCw5,hb2.no hCw5,hb32.no hCw5⟩,?_⟩
    have hF:=hF.grow hCw4.size hOw5 hrw5
    obtain ⟨Aw5,cw5,hvw5,_⟩:=hF.1.rd.form
    subst hvw5
    have hb6:=hb2.no hCw5
    refine zz ?_
    refine zs_storeL rfl (want_L rfl) rfl rfl rfl (by assumption) (by first|exact Nat.le_refl _|simp [Value.cells]) (by simp [Value.cells,Value.oneCell']) (fun w7 hU7=> ?_)
    exact zk_ret0 (.inl rfl) rfl (done hCw5 hU7 hF)
   ·refine zo_bs1 rfl (want_L rfl) (by decide) rfl (by rfl) (by rfl) (by decide) (by decide) (fun w4 cb hMw4=> ?_)
    have hCw4:Chg u w4 No:=hCw2.no hMw4.chg
    refine ⟨⟨hCw4,hb2.no hCw4,hb32.no hCw4⟩,?_⟩
    have hr1:RdS w4 173 3 (.slice (some ⟨cb,0,none⟩) 1 1) 1 (encK [(⟨xn,xnm,xA,xl,xc⟩:MK)]):=RdS.new hMw4 rfl (encK_one _)
    have hF:=hF.no hMw4.chg
    refine zs_appendO rfl (by rfl) (by decide) (want_L rfl) (by decide) rfl rfl hF.1 (hKr.no hCw4) (by omega) (by omega) (fun vw3 w3 hOw3 hXw3 hrw3=> ?_)
    have hCw3:Chg u w3 No:=hF.ch hCw4 hXw3
    refine ⟨⟨hCw3,hb2.no hCw3,hb32.no hCw3⟩,?_⟩
    have hr1:=hF.rd hXw3 hr1 (fun k hk he=>by simp only [Value.ownBlock,Option.some.injEq] at hk he;have:=hMw4.at_;have:=hMw2.at_;have:=hMw2.size;omega)
    have hF:=hF.grow hCw4.size hOw3 hrw3
    obtain ⟨Aw3,cw3,hvw3,_⟩:=hF.1.rd.form
    subst hvw3
    refine zs_appendO rfl (by rfl) (by decide) (want_L rfl) (by decide) rfl rfl hF.1 hr1 (by omega) (by omega) (fun vw5 w5 hOw5 hXw5 hrw5=> ?_)
    have hCw5:Chg u w5 No:=hF.ch hCw3 hXw5
    refine ⟨⟨hCw5,hb2.no hCw5,hb32.no hCw5⟩,?_⟩
    have hF:=hF.grow hCw3.size hOw5 hrw5
    obtain ⟨Aw5,cw5,hvw5,_⟩:=hF.1.rd.form
    subst hvw5
    have hb6:=hb2.no hCw5
    refine zz ?_
    refine zs_storeL rfl (want_L rfl) rfl rfl rfl (by assumption) (by first|exact Nat.le_refl _|simp [Value.cells]) (by simp [Value.cells,Value.oneCell']) (fun w7 hU7=> ?_)
    exact zk_ret0 (.inl rfl) rfl (done hCw5 hU7 hF)
  ·refine zo_bs1 rfl (want_L rfl) (by decide) rfl (by rfl) (by rfl) (by decide) (by decide) (fun w4 cb hMw4=> ?_)
   have hCw4:Chg u w4 No:=hC5.no hMw4.chg
   refine ⟨⟨hCw4,hb2.no hCw4,hb32.no hCw4⟩,?_⟩
   have hr1:RdS w4 173 3 (.slice (some ⟨cb,0,none⟩) 1 1) 1 (encK [(⟨xn,xnm,xA,xl,xc⟩:MK)]):=RdS.new hMw4 rfl (encK_one _)
   refine zs_bs0 rfl (want_L rfl) (by decide) (fun w2 ca hMw2=> ?_)
   have hCw2:Chg u w2 No:=hCw4.no hMw2.chg
   refine ⟨⟨hCw2,hb2.no hCw2,hb32.no hCw2⟩,?_⟩
   have hF:FM u.heap.size w2 (.slice (some ⟨ca,0,none⟩) 0 0) 0 []:=⟨Own.empty hMw2,fun k hk=>by simp only [Value.ownBlock,Option.some.injEq] at hk;have:=hMw2.at_;have:=hCw4.size;omega⟩
   have hr1:=hr1.no hMw2.chg
   refine zs_appendO rfl (by rfl) (by decide) (want_L rfl) (by decide) rfl rfl hF.1 (hKr.no hCw2) (by omega) (by omega) (fun vw3 w3 hOw3 hXw3 hrw3=> ?_)
   have hCw3:Chg u w3 No:=hF.ch hCw2 hXw3
   refine ⟨⟨hCw3,hb2.no hCw3,hb32.no hCw3⟩,?_⟩
   have hr1:=hF.rd hXw3 hr1 (fun k hk he=>by simp only [Value.ownBlock,Option.some.injEq] at hk he;have:=hMw4.at_;have:=hMw2.at_;have:=hMw4.size;omega)
   have hF:=hF.grow hCw2.size hOw3 hrw3
   obtain ⟨Aw3,cw3,hvw3,_⟩:=hF.1.rd.form
   subst hvw3
   refine zs_appendO rfl (by rfl) (by decide) (want_L rfl) (by decide) rfl rfl hF.1 hr1 (by omega) (by omega) (fun vw5 w5 hOw5 hXw5 hrw5=> ?_)
   have hCw5:Chg u w5 No:=hF.ch hCw3 hXw5
   refine ⟨⟨hCw5,hb2.no hCw5,hb32.no hCw5⟩,?_⟩
   have hF:=hF.grow hCw3.size hOw5 hrw5
   obtain ⟨Aw5,cw5,hvw5,_⟩:=hF.1.rd.form
   subst hvw5
   have hb6:=hb2.no hCw5
   refine zz ?_
   refine zs_storeL rfl (want_L rfl) rfl rfl rfl (by assumption) (by first|exact Nat.le_refl _|simp [Value.cells]) (by simp [Value.cells,Value.oneCell']) (fun w7 hU7=> ?_)
   exact zk_ret0 (.inl rfl) rfl (done hCw5 hU7 hF)
end
end Go.Proofs.YtbcmiijollpgeaaGreat.D
namespace Go.Proofs.YtbcmiijollpgeaaGreat.B
open Go Go.Z Go.Proofs
def wFormat:List UInt8:= [97,32,98,32,98,105,103,32,99,111,100,101,32,101,109,32,102,111,110,116,32,105,32,110,111,98,114,32,115,32,115,109,97,108,108,32,115,116,114,105,107,101,32,115,116,114,111,110,103,32,116,116,32,117]
def wSpecial:List UInt8:= [97,100,100,114,101,115,115,32,97,112,112,108,101,116,32,97,114,101,97,32,97,114,116,105,99,108,101,32,97,115,105,100,101,32,98,97,115,101,32,98,97,115,101,102,111,110,116,32,98,103,115,111,117,110,100,32,98,108,111,99,107,113,117,111,116,101,32,98,111,100,121,32,98,114,32,98,117,116,116,111,110,32,99,97,112,116,105,111,110,32,99,101,110,116,101,114,32,99,111,108,32,99,111,108,103,114,111,117,112,32,100,100,32,100,101,116,97,105,108,115,32,100,105,97,108,111,103,32,100,105,114,32,100,105,118,32,100,108,32,100,116,32,101,109,98,101,100,32,102,105,101,108,100,115,101,116,32,102,105,103,99,97,112,116,105,111,110,32,102,105,103,117,114,101,32,102,111,111,116,101,114,32,102,111,114,109,32,102,114,97,109,101,32,102,114,97,109,101,115,101,116,32,104,49,32,104,50,32,104,51,32,104,52,32,104,53,32,104,54,32,104,101,97,100,32,104,101,97,100,101,114,32,104,103,114,111,117,112,32,104,114,32,104,116,109,108,32,105,102,114,97,109,101,32,105,109,103,32,105,110,112,117,116,32,107,101,121,103,101,110,32,108,105,32,108,105,110,107,32,108,105,115,116,105,110,103,32,109,97,105,110,32,109,97,114,113,117,101,101,32,109,101,110,117,32,109,101,116,97,32,110,97,118,32,110,111,101,109,98,101,100,32,110,111,102,114,97,109,101,115,32,110,111,115,99,114,105,112,116,32,111,98,106,101,99,116,32,111,108,32,112,32,112,97,114,97,109,32,112,108,97,105,110,116,101,120,116,32,112,114,101,32,115,99,114,105,112,116,32,115,101,97,114,99,104,32,115,101,99,116,105,111,110,32,115,101,108,101,99,116,32,115,111,117,114,99,101,32,115,116,121,108,101,32,115,117,109,109,97,114,121,32,116,97,98,108,101,32,116,98,111,100,121,32,116,100,32,116,101,109,112,108,97,116,101,32,116,101,120,116,97,114,101,97,32,116,102,111,111,116,32,116,104,32,116,104,101,97,100,32,116,105,116,108,101,32,116,114,32,116,114,97,99,107,32,117,108,32,119,98,114,32,120,109,112]
def wImply:List UInt8:= [100,100,32,100,116,32,108,105,32,111,112,116,103,114,111,117,112,32,111,112,116,105,111,110,32,112,32,114,98,32,114,112,32,114,116,32,114,116,99]
def wHeads:List UInt8:= [104,49,32,104,50,32,104,51,32,104,52,32,104,53,32,104,54]
def wBlocks:List UInt8:= [97,100,100,114,101,115,115,32,97,114,116,105,99,108,101,32,97,115,105,100,101,32,98,108,111,99,107,113,117,111,116,101,32,99,101,110,116,101,114,32,100,101,116,97,105,108,115,32,100,105,97,108,111,103,32,100,105,114,32,100,105,118,32,100,108,32,102,105,101,108,100,115,101,116,32,102,105,103,99,97,112,116,105,111,110,32,102,105,103,117,114,101,32,102,111,111,116,101,114,32,102,111,114,109,32,104,101,97,100,101,114,32,104,103,114,111,117,112,32,109,97,105,110,32,109,101,110,117,32,110,97,118,32,111,108,32,112,32,115,101,97,114,99,104,32,115,101,99,116,105,111,110,32,115,117,109,109,97,114,121,32,117,108]
abbrev wd (s:List UInt8):List (List UInt8):=T.wordsN [] s
def setW:Nat→List UInt8
 |2=>wFormat
 |3=>wSpecial
 |4=>wImply
 |5=>wHeads
 |6=>wBlocks
 |_=> []
theorem wordsN_few: ∀(l cur:List UInt8),(T.wordsN cur l).length≤l.length+1
 | [],cur=>by unfold T.wordsN;split<;>simp
 |c::r,cur=>by
  have h1:=wordsN_few r []
  have h2:=wordsN_few r (cur++ [c])
  unfold T.wordsN
  repeat' split
  all_goals simp only [List.length_cons]
  all_goals omega
theorem in_calls {w:World} (nm ws:List UInt8) (hw:ws.length≤1000):Calls Tryz.prog 117 [.string (bs nm),.string (bs ws)].toArray w fun e w'=>e= .returned (.bool (decide (nm∈wd ws)))∧Chg w w' No:=by
 refine zCz 9 Tryz.func117 ?_
 refine zz ?_
 refine zCl rfl (T.wordsR_calls (l:=ws) (by omega)) ?_
 rintro _ w1 ⟨v,rfl,hO,hC⟩
 refine ⟨_,rfl,?_⟩
 have hlen:(wd ws).length≤100000:=by have:(wd ws).length≤_:=wordsN_few ws [];omega
 refine zP rfl ?_
 refine zCp rfl (T.inR_calls (wd ws) nm hO.rd hlen) ?_
 refine zz ?_
 exact zk_ret1 (.inr rfl) rfl rfl ⟨rfl,hC⟩
theorem start1_calls {w:World} (nm tx ws:List UInt8) {A:Option Addr} {m c:Nat} (hw:ws.length≤1000):Calls Tryz.prog 86 [T.tokV 1 nm (.slice A m c) tx,.string (bs ws)].toArray w fun e w'=>e= .returned (.bool (decide (nm∈wd ws)))∧Chg w w' No:=by
 unfold T.tokV
 refine zCz 14 Tryz.func86 ?_
 refine zS (zR ?_)
 refine zBx rfl (fun w1 b hN=> ?_)
 have hb:Blk w1 b 66 [.int .i64 1,.string (bs nm),.slice A m c,.bool false,.string (bs tx)]:=hN.blk
 refine zz ?_
 refine zCr rfl (in_calls nm ws hw) fun w2 hC=> ?_
 refine zz ?_
 exact zk_ret1 (.inr rfl) rfl rfl ⟨rfl,hN.chg.no hC⟩
theorem start0_calls {w:World} (k:Int) (nm tx ws:List UInt8) {A:Option Addr} {m c:Nat} (hk:k≠1) (hw:ws.length≤1000):Calls Tryz.prog 86 [T.tokV k nm (.slice A m c) tx,.string (bs ws)].toArray w fun e w'=>e= .returned (.bool false)∧Chg w w' No:=by
 unfold T.tokV
 refine zCz 14 Tryz.func86 ?_
 refine zS (zR ?_)
 refine zBx rfl (fun w1 b hN=> ?_)
 have hb:Blk w1 b 66 [.int .i64 k,.string (bs nm),.slice A m c,.bool false,.string (bs tx)]:=hN.blk
 refine zz ?_
 exact zk_ret1 (.inr rfl) rfl rfl ⟨rfl,hN.chg⟩
theorem end1_calls {w:World} (nm tx ws:List UInt8) {A:Option Addr} {m c:Nat} (hw:ws.length≤1000):Calls Tryz.prog 119 [T.tokV 2 nm (.slice A m c) tx,.string (bs ws)].toArray w fun e w'=>e= .returned (.bool (decide (nm∈wd ws)))∧Chg w w' No:=by
 unfold T.tokV
 refine zCz 14 Tryz.func119 ?_
 refine zS (zR ?_)
 refine zBx rfl (fun w1 b hN=> ?_)
 have hb:Blk w1 b 66 [.int .i64 2,.string (bs nm),.slice A m c,.bool false,.string (bs tx)]:=hN.blk
 refine zz ?_
 refine zCr rfl (in_calls nm ws hw) fun w2 hC=> ?_
 refine zz ?_
 exact zk_ret1 (.inr rfl) rfl rfl ⟨rfl,hN.chg.no hC⟩
theorem end0_calls {w:World} (k:Int) (nm tx ws:List UInt8) {A:Option Addr} {m c:Nat} (hk:k≠2) (hw:ws.length≤1000):Calls Tryz.prog 119 [T.tokV k nm (.slice A m c) tx,.string (bs ws)].toArray w fun e w'=>e= .returned (.bool false)∧Chg w w' No:=by
 unfold T.tokV
 refine zCz 14 Tryz.func119 ?_
 refine zS (zR ?_)
 refine zBx rfl (fun w1 b hN=> ?_)
 have hb:Blk w1 b 66 [.int .i64 k,.string (bs nm),.slice A m c,.bool false,.string (bs tx)]:=hN.blk
 refine zz ?_
 exact zk_ret1 (.inr rfl) rfl rfl ⟨rfl,hN.chg⟩
theorem words_calls {w:World} (k:Nat) (h2:2≤k) (h6:k≤6):Calls Tryz.prog 175 [.int .i64 (k:Nat)].toArray w fun e w'=>e= .returned (.string (bs (setW k)))∧w'=w:=by
 obtain rfl|rfl|rfl|rfl|rfl:k=2∨k=3∨k=4∨k=5∨k=6:=by omega
 ·refine zCz 22 Tryz.func175 ?_
  refine zz ?_
  exact zk_ret1 (.inr rfl) rfl rfl ⟨by kernel_rfl,rfl⟩
 ·refine zCz 22 Tryz.func175 ?_
  refine zz ?_
  exact zk_ret1 (.inr rfl) rfl rfl ⟨by kernel_rfl,rfl⟩
 ·refine zCz 22 Tryz.func175 ?_
  refine zz ?_
  exact zk_ret1 (.inr rfl) rfl rfl ⟨by kernel_rfl,rfl⟩
 ·refine zCz 22 Tryz.func175 ?_
  refine zz ?_
  exact zk_ret1 (.inr rfl) rfl rfl ⟨by kernel_rfl,rfl⟩
 ·refine zCz 22 Tryz.func175 ?_
  refine zz ?_
  exact zk_ret1 (.inr rfl) rfl rfl ⟨by kernel_rfl,rfl⟩
theorem set_calls {w:World} (k:Nat) (h2:2≤k) (h6:k≤6):Calls Tryz.prog 147 [.int .i64 (k:Nat)].toArray w fun e w'=>(∃A c,e= .returned (.slice A (wd (setW k)).length c)∧RdS w' 9 1 (.slice A (wd (setW k)).length c) (wd (setW k)).length (T.cellsS (wd (setW k))))∧Chg w w' No:=by
 have hl:(setW k).length≤1000:=by
  obtain rfl|rfl|rfl|rfl|rfl:k=2∨k=3∨k=4∨k=5∨k=6:=by omega
  all_goals decide+kernel
 refine zCz 6 Tryz.func147 ?_
 refine zz ?_
 refine zCp rfl (words_calls k h2 h6) ?_
 refine zCl rfl (T.wordsR_calls (l:=setW k) (by omega)) ?_
 rintro _ w1 ⟨v,rfl,hO,hC⟩
 refine ⟨_,rfl,?_⟩
 obtain ⟨A,c,rfl,_⟩:=RdS.form hO.rd
 refine zz ?_
 exact zk_ret1 (.inr rfl) rfl rfl ⟨⟨A,c,rfl,hO.rd⟩,hC⟩
theorem has_calls {w:World} (k:Nat) (nm:List UInt8) (h2:2≤k) (h6:k≤6):Calls Tryz.prog 118 [.int .i64 (k:Nat),.string (bs nm)].toArray w fun e w'=>e= .returned (.bool (decide (nm∈wd (setW k))))∧Chg w w' No:=by
 have hl:(wd (setW k)).length≤100000:=by
  obtain rfl|rfl|rfl|rfl|rfl:k=2∨k=3∨k=4∨k=5∨k=6:=by omega
  all_goals decide+kernel
 refine zCz 9 Tryz.func118 ?_
 refine zz ?_
 refine zCl rfl (set_calls k h2 h6) ?_
 rintro _ w1 ⟨⟨A,c,rfl,hO⟩,hC⟩
 refine ⟨_,rfl,?_⟩
 refine zP rfl ?_
 refine zCp rfl (T.inR_calls (wd (setW k)) nm hO hl) ?_
 refine zz ?_
 exact zk_ret1 (.inr rfl) rfl rfl ⟨rfl,hC⟩
end Go.Proofs.YtbcmiijollpgeaaGreat.B
namespace Go.Z
open Go
theorem z_cutTo {P:Program} {n:Nat} {e:Env} {w:World} {Q:Exit→Act→World→Prop} {ops:Array Oper} {rest:List Oper} {d:Tmp} {ty:TypeId} {pos:String} {aft:Array Edge} {g:Option (Nat×Bool)} {B:Option Addr} {m c s j k:Nat} {z:Value} {x:Operand} {hi:Option Operand} {t el:TypeId} [hu:Und P t (.slice el)] [hz:Inf P el s j z]
  (hw:Want ops e g) (hdn:d<n) (hB:Flat B) (hx:ev e x=some (.slice B m c)) (hh:optI hi e m=some (k:Int)) (hc:k≤c) (h:ZL P n ops rest ((d,.slice B k c)::e) w Q):ZL P n ops (⟨some d,.slice t x none hi none,ty,pos,aft,g⟩::rest) e w Q:=
 zl_run hw rfl hdn (r_cutTo hB hx hh hc) h
end Go.Z
namespace Go.Proofs.YtbcmiijollpgeaaGreat.D
open Go Go.Z Go.Proofs
section
variable {w w' w0 w1 w2 : World} {t : Nat} {r r' r1 : TP} {N N' : List ND} {L L' : List Nat} {S : Nat → Prop} {ns : List (List UInt8)}
theorem rsPlace2_calls (h:IsT w t r N L) (hl:L.length≤1000000) (j:Nat) (hj:j<L.length) (hd: ∀k,k<j→L.getD k 0≠L.getD j 0):Calls Tryz.prog 115 [.pointer (some ⟨t,0,none⟩),.int .i64 (L.getD j 0:Nat)].toArray w fun e w'=>e= .returned (.int .i64 (j:Nat))∧w'=w:=by
 have hb:=h.blk
 obtain ⟨A,c,hv,hc⟩:=h.row.rd.form
 rw [hv] at hb
 refine zCz 25 Tryz.func115 ?_
 refine zz ?_
 refine zc_loopW (ι:=Nat) (fun k u=> [(0,.pointer (some ⟨t,0,none⟩)),(1,.int .i64 (L.getD j 0:Nat)),(5,.int .i64 (k:Nat))]) (fun k u=>k≤j∧u=w) (fun k u=>j - k) 0 ⟨Nat.zero_le _,rfl⟩ ?_ ?_
 ·exact ⟨rfl,rfl,rfl,trivial⟩
 rintro k u ⟨hk,hu⟩
 obtain rfl:=hu.symm
 obtain ⟨b,o,c',hv',_,hcc⟩:=RdS.some h.row.rd (by omega)
 rw [hv] at hv'
 cases hv'
 have hcell:=hcc k _ (intC_get L k (by omega))
 by_cases hlt:k<j
 ·have hne:=hd k hlt
  refine zz ?_
  refine zL1 rfl (cell_at hcell (by omega)) (zz ?_)
  refine zk_loopW (k+1) ⟨by omega,rfl⟩ (by omega) ⟨rfl,rfl,get_int rfl (by simp),trivial⟩
 ·obtain rfl:k=j:=by omega
  refine zz ?_
  refine zL1 rfl (cell_at hcell (by omega)) (zz ?_)
  exact zk_ret1 (.inr rfl) rfl rfl ⟨rfl,rfl⟩
theorem intC_take (L:List Nat) (k:Nat):(intC L).take (k*1)=intC (L.take k):=by unfold intC;rw [Nat.mul_one,List.map_take]
theorem intC_drop (L:List Nat) (k:Nat):(intC L).drop (k*1)=intC (L.drop k):=by unfold intC;rw [Nat.mul_one,List.map_drop]
theorem rsDrop_calls (h:IsT w t r N L) (hl:L.length≤1000000) (j:Nat) (hj:j<L.length) (h1:1≤j) (hd: ∀k,k<j→L.getD k 0≠L.getD j 0):
  Calls Tryz.prog 81 [.pointer (some ⟨t,0,none⟩),.int .i64 (L.getD j 0:Nat)].toArray w fun e w'=>e= .returned (.bool true)∧ ∃v,IsT w' t {r with vrow:=v} N (L.take j++L.drop (j+1))∧WrT w w' t r {r with vrow:=v}:=by
 obtain ⟨Ar,cr,hv,hc⟩:=h.row.rd.form
 have hb:=h.blk
 have hK:=h.row
 rw [hv] at hb hK
 refine zCz 30 Tryz.func81 ?_
 refine zz ?_
 refine zCp rfl (rsPlace2_calls h hl j hj hd) ?_
 refine zz ?_
 refine zc_draw [19] (fun w'=>Chg w w' No∧Blk w' t 74 [.pointer (some ⟨r.pd,0,none⟩),.pointer (some ⟨r.pm,0,none⟩),.slice Ar L.length cr,.bool false]) (.take 0 (.take 2 (.take 3 (.take 4 (.take 5 (.take 6 (.take 7 (.take 9 (.take 10 (.take 11 (.take 12 (.take 13 (.take 14 (.take 15 (.all1 1 (.all1 8 (.all1 16 (.plain 17 (.take 18 (.last 19)))))))))))))))))))) (by rfl) (by kernel_rfl) (by kernel_rfl) (fun w1 hC1 _=>⟨?_,?_⟩)
 ·exact ⟨hC1,hb.no hC1⟩
 refine zz ?_
 refine zRd rfl rfl (fun _ hS=>r_cutTo (k:=j) hK.flat rfl rfl (by omega)) ?_
 refine zz ?_
 refine zRd rfl rfl (fun _ hS=>r_cutFrom (k:=j+1) rfl (by show some _=_;simp) (by omega) (by omega)) ?_
 refine zs_bs0 rfl (want_L rfl) (by decide) (fun w2 ca hMw2=> ?_)
 have hCw2:Chg w w2 No:=hC1.no hMw2.chg
 refine ⟨⟨hCw2,hb.no hCw2⟩,?_⟩
 have hF:FO w.heap.size w2 (.slice (some ⟨ca,0,none⟩) 0 0) 0 []:=⟨Own.empty hMw2,fun k hk=>by simp only [Value.ownBlock,Option.some.injEq] at hk;have:=hMw2.at_;have:=hC1.size;omega⟩
 refine zs_appendO rfl (by rfl) (by decide) (want_L rfl) (by decide) rfl rfl hF.1 ((hK.take j (by omega)).rd.no hCw2) (by omega) (by omega) (fun vw3 w3 hOw3 hXw3 hrw3=> ?_)
 have hCw3:Chg w w3 No:=hF.ch hCw2 hXw3
 refine ⟨⟨hCw3,hb.no hCw3⟩,?_⟩
 have hF:=hF.grow hCw2.size hOw3 hrw3
 obtain ⟨Aw3,cw3,hvw3,_⟩:=hF.1.rd.form
 subst hvw3
 refine zs_appendO rfl (by rfl) (by decide) (want_L rfl) (by decide) rfl rfl hF.1 ((RdS.cut hK.rd (k:=j+1) (by omega)).no hCw3) (by omega) (by omega) (fun vw4 w4 hOw4 hXw4 hrw4=> ?_)
 have hCw4:Chg w w4 No:=hF.ch hCw3 hXw4
 refine ⟨⟨hCw4,hb.no hCw4⟩,?_⟩
 have hF:=hF.grow hCw3.size hOw4 hrw4
 obtain ⟨Aw4,cw4,hvw4,_⟩:=hF.1.rd.form
 subst hvw4
 have hb3:=hb.no hCw4
 have hO:Own w4 3 1 (.slice Aw4 (0+j+(L.length - (j+1))) cw4) (L.take j++L.drop (j+1)).length (intC (L.take j++L.drop (j+1))):=by
  have e:=hF.1
  rw [List.nil_append,intC_take,intC_drop,←intC_app] at e
  rw [show (L.take j++L.drop (j+1)).length=0+j+(L.length - (j+1)) by rw [List.length_append,List.length_take,List.length_drop];omega]
  exact e
 refine zz ?_
 refine zs_storeL rfl (want_L rfl) rfl rfl rfl (by assumption) (by first|exact Nat.le_refl _|simp [Value.cells]) (by simp [Value.cells,Value.oneCell']) (fun w5 hU5=> ?_)
 refine zz ?_
 exact zk_ret1 (.inr rfl) rfl rfl ⟨rfl,_,(h.no hCw4).rowW hU5 hO hF.2 hCw4 h⟩
theorem nodup_lt {L:List Nat} (h:L.Nodup) {k j:Nat} (hk:k<j) (hj:j<L.length):L.getD k 0≠L.getD j 0:=fun he=>by
 have:=(List.getD_inj (by omega) hj h).1 he
 omega
theorem rsPop_calls (h:IsT w t r N L) (hl:L.length≤1000000) (hL:2≤L.length) (hnd:L.Nodup):
  Calls Tryz.prog 49 [.pointer (some ⟨t,0,none⟩)].toArray w fun e w'=>e= .returned (.bool true)∧ ∃v,IsT w' t {r with vrow:=v} N (L.take (L.length - 1))∧WrT w w' t r {r with vrow:=v}:=by
 have hb:=h.blk
 refine zCz 7 Tryz.func49 ?_
 refine zz ?_
 refine zCr rfl (rsTop_calls h (by omega) hl) fun w1 hC1=> ?_
 refine zCl rfl (rsDrop_calls (h.no hC1) hl (L.length - 1) (by omega) (by omega) (fun k hk=>nodup_lt hnd hk (by omega))) ?_
 rintro _ w2 ⟨rfl,v,h2,hW2⟩
 refine ⟨_,rfl,?_⟩
 rw [List.drop_of_length_le (by omega),List.append_nil] at h2
 refine zz ?_
 exact zk_ret1 (.inr rfl) rfl rfl ⟨rfl,v,h2,(WrT.of_no hC1 _ _).trans hW2⟩
theorem rsPopTo_calls (h:IsT w t r N L) (hR:RowN N L ns) (hL:0<L.length) (hLl:L.length≤1000000) {v:Value} {l:List (List UInt8)} (hN:RdS w 9 1 v l.length (T.cellsS l)) (hl:l.length≤100000) (j:Nat) (hj:j<L.length) (hlast:lastI l ns L.length=(j:Nat)):
  Calls Tryz.prog 130 [.pointer (some ⟨t,0,none⟩),v].toArray w fun e w'=>e= .returned (.bool true)∧ ∃v,IsT w' t {r with vrow:=v} N (L.take j)∧WrT w w' t r {r with vrow:=v}:=by
 obtain ⟨A,c,rfl,hc0⟩:=hN.form
 refine zCz 22 Tryz.func130 ?_
 refine zz ?_
 refine zCr rfl (rsLast_calls h hR hL hLl hN hl) fun w1 hC1=> ?_
 rw [hlast]
 have h1:=h.no hC1
 obtain ⟨Ar,cr,hv,hc⟩:=h1.row.rd.form
 have hb:=h1.blk
 have hK:=h1.row
 rw [hv] at hb hK
 refine zz ?_
 refine z_bs0 (want_L rfl) (by decide) (fun w2 ca hMw2=> ?_)
 have hCw2:Chg w1 w2 No:=hMw2.chg
 have hF:FO w1.heap.size w2 (.slice (some ⟨ca,0,none⟩) 0 0) 0 []:=⟨Own.empty hMw2,fun k hk=>by simp only [Value.ownBlock,Option.some.injEq] at hk;have:=hMw2.at_;omega⟩
 have hb2:=hb.no hCw2
 refine zz ?_
 refine z_cutTo (k:=j) (want_L rfl) (by decide) hK.flat rfl rfl (by omega) ?_
 refine z_appendO (by rfl) (by decide) (want_L rfl) (by decide) rfl rfl hF.1 ((hK.take j (by omega)).rd.no hCw2) (by omega) (by omega) (fun vw3 w3 hOw3 hXw3 hrw3=> ?_)
 have hCw3:Chg w1 w3 No:=hF.ch hCw2 hXw3
 have hF:=hF.grow hCw2.size hOw3 hrw3
 obtain ⟨Aw3,cw3,hvw3,_⟩:=hF.1.rd.form
 subst hvw3
 have hb3:=hb.no hCw3
 have hO:Own w3 3 1 (.slice Aw3 (0+j) cw3) (L.take j).length (intC (L.take j)):=by
  have e:=hF.1
  rw [List.nil_append,intC_take] at e
  rw [show (L.take j).length=0+j by rw [List.length_take];omega]
  exact e
 refine zP rfl (zfa rfl ?_)
 refine z_store (want_L rfl) rfl rfl rfl (by assumption) (by first|exact Nat.le_refl _|simp [Value.cells]) (by simp [Value.cells,Value.oneCell']) (fun w5 hU5=> ?_)
 refine zz ?_
 obtain ⟨g1,g2⟩:=(h1.no hCw3).rowW hU5 hO hF.2 hCw3 h1
 exact zk_ret1 (.inr rfl) rfl rfl ⟨rfl,_,g1,(WrT.of_no hC1 _ _).trans g2⟩
end
structure FE where
 nm:List UInt8
 al:List T.At
 done:NT
def FE.ft (f:FE):FT:=⟨elemH f.nm f.al,f.done⟩
structure SQ where
 r:TP
 vm:Value
 M:List MK
def ftS (t:Nat) (q:SQ) (k:Nat):Prop:=footT t q.r k∨k=q.r.pm∨q.vm.ownBlock=some k
structure IsS (w:World) (t:Nat) (q:SQ) (N:List ND) (R:List Nat) (fr:List FE):Prop where
 site:IsT w t q.r N R.reverse
 mar:IsK w q.r.pm q.vm q.M
 wf:WF N
 zf:ZF N [] R (fr.map FE.ft) N.length
 big: ∀i,(N.getD i n0).text.length≤1000000000
structure WrS (w w':World) (t:Nat) (q q':SQ):Prop where
 chg:Chg w w' (ftS t q)
 ft: ∀k,ftS t q' k→ftS t q k∨w.heap.size≤k
def Keep (l:List Nat) (w w':World):Prop:=w.heap.size≤w'.heap.size∧ ∀b ty cs,Blk w b ty cs→ty∉l→Blk w' b ty cs
def sT:List Nat:= [106,80,3,22,74,121,173]
def bT:List Nat:= [106,80,3,22,74,121,173,64]
section
variable {w w' w0 w1 w2 : World} {t : Nat} {q q' q1 : SQ} {N N' : List ND} {R R' : List Nat} {fr fr' : List FE} {l : List Nat}
theorem RdS.keep {ty sz m:Nat} {v:Value} {cs:List Value} (h:RdS w ty sz v m cs) (hk:Keep l w w') (hn:ty∉l):RdS w' ty sz v m cs:=by
 obtain ⟨h1,h2,A,c,h3,h4,h5⟩:=h
 refine ⟨h1,h2,A,c,h3,h4,fun hm=> ?_⟩
 obtain ⟨b,o,cells,h6,h7,h8⟩:=h5 hm
 exact ⟨b,o,cells,h6,hk.2 _ _ _ h7 hn,h8⟩
theorem AttrS.keepB {v:Value} {al:List At} (h:AttrS w v al) (hk:Keep bT w w'):AttrS w' v al:=RdS.keep h hk (by decide)
theorem IsS.noT (h:IsS w t q N R fr) {b ty:Nat} {cs:List Value} (hb:Blk w b ty cs) (hn:ty∉sT): ¬ftS t q b:=by
 simp only [sT,List.mem_cons,List.not_mem_nil,or_false,not_or] at hn
 obtain ⟨h1,h2,h3,h4,h5,h6,h7⟩:=hn
 rintro (hk|hk|hk)
 ·exact h.site.noT hb h1 h2 h3 h4 h5 hk
 ·exact hb.ne h.mar.blk h6 hk
 ·exact h.mar.row.ne hk hb (Ne.symm h7) rfl
theorem WrS.keep (h:IsS w t q N R fr) (hW:WrS w w' t q q'):Keep sT w w':=⟨hW.chg.size,fun b ty cs hb hn=>hb.chg hW.chg (h.noT hb hn)⟩
theorem IsS.no (h:IsS w t q N R fr) (hc:Chg w w' No):IsS w' t q N R fr:=⟨h.site.no hc,h.mar.no hc,h.wf,h.zf,h.big⟩
theorem WrS.of_no (hc:Chg w w' No) (t:Nat) (q:SQ):WrS w w' t q q:=⟨hc.mono (fun _ _ h=>h.elim),fun _ h=> .inl h⟩
theorem WrS.trans (h:WrS w w1 t q q1) (k:WrS w1 w2 t q1 q'):WrS w w2 t q q':=by
 refine ⟨h.chg.trans k.chg (fun i hi hf=> ?_),fun i hf=> ?_⟩
 ·rcases h.ft i hf with h1|h1
  ·exact h1
  ·omega
 ·rcases k.ft i hf with h1|h1
  ·exact h.ft i h1
  ·exact .inr (Nat.le_trans h.chg.size h1)
theorem IsS.siteW (h:IsS w t q N R fr) {r':TP} (hS:IsT w' t r' N' R'.reverse) (hW:WrT w w' t q.r r') (hpm:r'.pm=q.r.pm) (hwf:WF N') (hzf:ZF N' [] R' (fr'.map FE.ft) N'.length) (hbig: ∀i,(N'.getD i n0).text.length≤1000000000):
  IsS w' t {q with r:=r'} N' R' fr'∧WrS w w' t q {q with r:=r'}:=by
 have hk: ∀{b ty:Nat} {cs:List Value},Blk w b ty cs→ty=121∨ty=173→ ¬footT t q.r b:=fun hb he=>by
  rcases he with rfl|rfl
  ·exact h.site.noT hb (by decide) (by decide) (by decide) (by decide) (by decide)
  ·exact h.site.noT hb (by decide) (by decide) (by decide) (by decide) (by decide)
 refine ⟨⟨hS,?_,hwf,hzf,hbig⟩,⟨hW.chg.mono (fun k _ hk=> .inl hk),?_⟩⟩
 ·refine ⟨?_,h.mar.row.chg hW.chg fun k hk2 hf=>by obtain ⟨cs,hb⟩:=h.mar.row.blk hk2;exact hk hb (.inr rfl) hf⟩
  show Blk w' r'.pm 121 [q.vm]
  rw [hpm]
  exact h.mar.blk.chg hW.chg (hk h.mar.blk (.inl rfl))
 ·rintro k (hk|hk|hk)
  ·exact (hW.ft k hk).imp (fun h=> .inl h) id
  ·exact .inl (.inr (.inl (hk.trans hpm)))
  ·exact .inl (.inr (.inr hk))
theorem IsS.mkW (h:IsS w t q N R fr) {v:Value} {M':List MK} (hK:IsK w' q.r.pm v M') (hC:Chg w w' (· =q.r.pm)) (hn: ∀k,v.ownBlock=some k→w.heap.size≤k):
  IsS w' t {q with vm:=v,M:=M'} N R fr∧WrS w w' t q {q with vm:=v,M:=M'}:=by
 refine ⟨⟨h.site.chg hC (fun k hk he=> ?_) (fun b cells hb he=> ?_),hK,h.wf,h.zf,h.big⟩,⟨hC.mono (fun k _ hk=> .inr (.inl hk)),?_⟩⟩
 ·exact h.site.noT (ty:=121) (cs:= [q.vm]) (he▸h.mar.blk) (by decide) (by decide) (by decide) (by decide) (by decide) hk
 ·exact absurd (hb.inj (he▸h.mar.blk)).1 (by decide)
 ·rintro k (hk|hk|hk)
  ·exact .inl (.inl hk)
  ·exact .inl (.inr (.inl hk))
  ·exact .inr (hn k hk)
theorem rev_getD (R:List Nat) (i:Nat) (h:i<R.length):R.reverse.getD i 0=R.getD (R.length - 1 - i) 0:=by
 rw [List.getD_eq_getElem?_getD,List.getD_eq_getElem?_getD,List.getElem?_reverse h]
theorem rev_getN (R:List (List UInt8)) (i:Nat) (h:i<R.length):R.reverse.getD i []=R.getD (R.length - 1 - i) []:=by
 rw [List.getD_eq_getElem?_getD,List.getD_eq_getElem?_getD,List.getElem?_reverse h]
def nmsF (fr:List FE):List (List UInt8):=(fr.map FE.nm).reverse
theorem IsS.len (h:IsS w t q N R fr):R.length=fr.length∧R.length≤N.length:=by
 have:=h.zf.len
 rw [List.length_map] at this
 exact this
theorem IsS.rowN (h:IsS w t q N R fr):RowN N R.reverse (nmsF fr):=by
 have hl:=h.len.1
 refine ⟨by simp [nmsF,hl],fun i hi=> ?_,fun i h0 hi=> ?_,fun i hi=> ?_⟩
 ·rw [List.length_reverse] at hi
  rw [rev_getD _ _ hi]
  exact h.zf.lt _ (getD_mem (by omega))
 ·rw [List.length_reverse] at hi
  rw [rev_getD _ _ hi]
  exact h.zf.pos _ (by omega)
 ·rw [List.length_reverse] at hi
  rw [rev_getD _ _ hi]
  obtain ⟨f,h1,h2⟩:=h.zf.hdAt (R.length - 1 - i) (by omega)
  rw [List.getElem?_map] at h1
  cases h3:fr[R.length - 1 - i]? with
  |none=>rw [h3] at h1;cases h1
  |some g=>
   rw [h3] at h1
   cases h1
   refine ⟨g.al,h2.trans ?_⟩
   have:(nmsF fr).getD i []=g.nm:=by
    unfold nmsF
    rw [rev_getN _ _ (by rw [List.length_map];omega),List.length_map,List.getD_eq_getElem?_getD,List.getElem?_map,←hl,h3];rfl
   rw [this];rfl
theorem IsS.pos (h:IsS w t q N R fr) (hf:fr≠ []):0<R.reverse.length:=by
 rw [List.length_reverse,h.len.1];exact List.length_pos_iff.mpr hf
def lastF (l:List (List UInt8)):List FE→Int
 | []=> -1
 | [_]=> -1
 |f::g::fr=>if f.nm∈l then ((fr.length+1:Nat):Int) else lastF l (g::fr)
def lastN (l:List (List UInt8)):List FE→List UInt8
 | []=> []
 | [_]=> []
 |f::g::fr=>if f.nm∈l then f.nm else lastN l (g::fr)
theorem lastI_app (l ns:List (List UInt8)) (x:List UInt8): ∀k,k≤ns.length→lastI l (ns++ [x]) k=lastI l ns k
 |0,_=>rfl
 |k+1,h=>by
  have e:(ns++ [x]).getD k []=ns.getD k []:=by
   rw [List.getD_eq_getElem?_getD,List.getD_eq_getElem?_getD,List.getElem?_append_left (by omega)]
  unfold lastI
  rw [e,lastI_app l ns x k (by omega)]
theorem nmsF_cons (f:FE) (fr:List FE):nmsF (f::fr)=nmsF fr++ [f.nm]:=by simp [nmsF]
theorem nmsF_len (fr:List FE):(nmsF fr).length=fr.length:=by simp [nmsF]
theorem nmsF_top (f:FE) (fr:List FE):(nmsF (f::fr)).getD fr.length []=f.nm:=by
 rw [nmsF_cons,List.getD_eq_getElem?_getD,List.getElem?_append_right (by rw [nmsF_len];exact Nat.le_refl _),nmsF_len,Nat.sub_self];rfl
theorem lastI_eq (l:List (List UInt8)): ∀fr:List FE,lastI l (nmsF fr) fr.length=lastF l fr
 | []=>rfl
 | [f]=>rfl
 |f::g::fr=>by
  have ih:=lastI_eq l (g::fr)
  show (if (g::fr).length=0 then -1 else if (nmsF (f::g::fr)).getD (g::fr).length []∈l then (((g::fr).length:Nat):Int) else lastI l (nmsF (f::g::fr)) (g::fr).length)=_
  rw [if_neg (by simp),nmsF_top,nmsF_cons,lastI_app l _ _ _ (by rw [nmsF_len];exact Nat.le_refl _),ih]
  rfl
theorem lastF_cases (l:List (List UInt8)): ∀fr:List FE,(lastF l fr= -1∧lastN l fr= [])∨ ∃j:Nat,lastF l fr=(j:Nat)∧0<j∧j<fr.length∧(nmsF fr).getD j []=lastN l fr∧lastN l fr∈l
 | []=> .inl ⟨rfl,rfl⟩
 | [f]=> .inl ⟨rfl,rfl⟩
 |f::g::fr=>by
  unfold lastF lastN
  by_cases hm:f.nm∈l
  ·rw [if_pos hm,if_pos hm]
   exact .inr ⟨fr.length+1,rfl,by omega,by simp,nmsF_top f (g::fr),hm⟩
  ·rw [if_neg hm,if_neg hm]
   rcases lastF_cases l (g::fr) with h|⟨j,h1,h2,h3,h4,h5⟩
   ·exact .inl h
   ·refine .inr ⟨j,h1,h2,by simp only [List.length_cons] at h3 ⊢;omega,?_,h5⟩
    rw [nmsF_cons,List.getD_eq_getElem?_getD,List.getElem?_append_left (by rw [nmsF_len];exact h3),←List.getD_eq_getElem?_getD]
    exact h4
end
def SPost (w:World) (t:Nat) (q:SQ) (R:List Nat) (fr:List FE) (M:List MK) (n:Nat) (x:Value) (e:Ending) (w':World):Prop:=e= .returned x∧ ∃q' N',IsS w' t q' N' R fr∧WrS w w' t q q'∧q'.M=M∧N'.length≤n
section
variable {w w' w0 w1 w2 : World} {t : Nat} {q q' q1 : SQ} {N N' : List ND} {n : Nat} {R R' : List Nat} {f g : FE} {fr fr' : List FE} {l : List Nat}
theorem rev_top (n:Nat) (R:List Nat):(n::R).reverse.getD ((n::R).reverse.length - 1) 0=n:=by
 rw [rev_getD _ _ (by simp),List.length_reverse,Nat.sub_self];rfl
theorem sTop_calls (h:IsS w t q N (n::R) fr) (hl:fr.length≤1000):Calls Tryz.prog 46 [.pointer (some ⟨t,0,none⟩)].toArray w fun e w'=>e= .returned (.int .i64 (n:Nat))∧Chg w w' No:=by
 have h1:=h.len.1
 refine (rsTop_calls h.site (by simp) (by rw [List.length_reverse];omega)).mono fun e w' hh=> ?_
 rw [rev_top] at hh
 exact hh
theorem sAdd_calls (h:IsS w t q N (n::R) (f::fr)) (hf:fr.length≤998) (hl:N.length≤2000000) (nm:List UInt8) (al:List T.At) {va:Value} (ha:AttrS w va (encT al)) (hal:al.length≤1000000):
  Calls Tryz.prog 88 [.pointer (some ⟨t,0,none⟩),.int .i64 1,.string (bs nm),va].toArray w (SPost w t q (N.length::n::R) (⟨nm,al,.nil⟩::f::fr) q.M (N.length+1) (.int .i64 N.length)):=by
 have hb:=h.site.blk
 have hlen:=h.len.1
 have hnN:n<N.length:=h.zf.lt n (by simp)
 have hp:=h.wf.pos
 obtain ⟨A0,c0,hv0,_⟩:=ha.form
 obtain ⟨x,hx⟩: ∃x:ND,x=⟨1,1,bs nm,encT al,[], -1,[]⟩:=⟨_,rfl⟩
 have hWF:WF (N++ [x]):=h.wf.add (by rw [hx]) (by rw [hx])
 have hxn:(N++ [x]).getD n n0=N.getD n n0:=by rw [getD_add,if_neg (by omega)]
 have hxl:(N++ [x]).getD N.length n0=x:=by rw [getD_add,if_pos rfl]
 have hkind:(N.getD n n0).kind=1:=congrArg Hd.kind h.zf.1
 have hna: ¬Anc (N++ [x]) n N.length:=fun ha=>by
  have:=Anc.fresh hWF (n:=n) (top:=N.length) (by simp;omega) (by rw [hxl,hx]) ha
  omega
 have hput:PutOk (N++ [x]) (N.length:Nat) (n:Nat) (-1):=by
  refine ⟨⟨by omega,by simp;omega⟩,⟨by omega,by simp;omega⟩,?_,by omega,?_,hna,?_⟩
  ·show ((N++ [x]).getD n n0).kind=1
   rw [hxn];exact hkind
  ·show ((N++ [x]).getD N.length n0).up<0
   rw [hxl,hx];show (-1:Int)<0;omega
  ·unfold placeN;rw [if_pos rfl];rfl
 have hzf:=h.zf.opens x (by rw [hx])
 subst hv0
 refine zCz 27 Tryz.func88 ?_
 refine zz ?_
 refine zCl rfl (rElem'_calls h.site.doc (by omega) 1 (bs nm) ha (by rw [encT_len];omega)) ?_
 rintro _ w1 ⟨rfl,vn',vu',vr',ms',ks',hI,hWr⟩
 rw [←hx] at hI
 refine ⟨_,rfl,?_⟩
 obtain ⟨h1,hW1⟩:=h.site.docW hI hWr
 refine zz ?_
 refine zCr rfl (rsTop_calls h1 (by simp) (by rw [List.length_reverse];simp only [List.length_cons] at hlen ⊢;omega)) fun w2 hC2=> ?_
 rw [rev_top]
 have h2:=h1.no hC2
 refine zCl rfl (rsLay_calls h2 hWF (by simp;omega) _ _) ?_
 rintro _ w3 ⟨rfl,r3,p3,N3,hv3,hR3,h3,hW3⟩
 refine ⟨_,rfl,?_⟩
 obtain ⟨_,e3⟩:=hR3.1 hput
 have epl:(placeN (ndOf (N++ [x]) (n:Nat)).kids (-1)).getD 0=(N.getD n n0).kids.length:=by
  show (placeN ((N++ [x]).getD n n0).kids (-1)).getD 0=_
  rw [hxn];unfold placeN;rw [if_pos rfl];rfl
 rw [epl] at e3
 have e4:N3=layN (N++ [x]) N.length n (N.getD n n0).kids.length:=e3
 have hN3l:N3.length=N.length+1:=by rw [e4,layN_len];simp
 rw [←e4] at hzf
 have hwf3:WF N3:=by
  rw [e4]
  exact hWF.lay _ (by simp) (by simp;omega) (by rw [hxl,hx]) hna (by omega)
 have hg:N3.getD N.length n0={x with up:=(n:Int)}:=by
  rw [e4,layN_get (by simp) (by simp;omega),if_pos rfl,hxl]
 have hkn:(nodeOf N3 (N.length:Nat)).kind=1:=by
  have:nodeOf N3 (N.length:Nat)=N3.getD N.length n0:=if_pos ⟨by omega,by omega⟩
  rw [this,hg,hx]
 have hfresh: ∀k,k<(n::R).reverse.length→(n::R).reverse.getD k 0≠N.length:=fun k hk he=>by
  have:=h.zf.lt ((n::R).reverse.getD k 0) (List.mem_reverse.mp (getD_mem hk))
  omega
 refine zz ?_
 refine zCl rfl (rsPush_calls h3 (by rw [List.length_reverse];simp only [List.length_cons] at hlen ⊢;omega) (by simp) N.length hkn hfresh) ?_
 rintro _ w4 ⟨rfl,v4,h4,hW4⟩
 refine ⟨_,rfl,?_⟩
 have hbig: ∀i,(N3.getD i n0).text.length≤1000000000:=fun i=>by
  rw [e4,layN_get (by simp) (by simp;omega),hxl,hxn,getD_add]
  by_cases hi1:i=N.length
  ·rw [if_pos hi1,hx];exact Nat.zero_le _
  rw [if_neg hi1,if_neg hi1]
  split
  ·exact h.big n
  ·exact h.big i
 have hWT:WrT w w4 t q.r {r3 with vrow:=v4}:=((hW1.trans (WrT.of_no hC2 _ _)).trans hW3).trans hW4
 have hrow:(n::R).reverse++ [N.length]=(N.length::n::R).reverse:=by simp
 rw [hrow] at h4
 have hzf3:ZF N3 [] (N.length::n::R) ((⟨nm,al,.nil⟩::f::fr:List FE).map FE.ft) N3.length:=by
  rw [hN3l]
  have:hdOf x=elemH nm al:=by rw [hx];rfl
  rw [this] at hzf
  exact hzf
 obtain ⟨g1,g2⟩:=h.siteW (R':=N.length::n::R) (fr':=⟨nm,al,.nil⟩::f::fr) h4 hWT hv3.1 hwf3 hzf3 hbig
 refine zz ?_
 exact zk_ret1 (.inr rfl) rfl rfl ⟨rfl,_,N3,g1,g2,rfl,by omega⟩
end
end Go.Proofs.YtbcmiijollpgeaaGreat.D
namespace Go.Z
open Go
theorem r_field {P:Program} {n:Nat} {e:Env} {w:World} {d:Tmp} {ty:TypeId} {pos:String} {aft:Array Edge} {g:Option (Nat×Bool)} {s f:Nat} {x:Operand} {v u:Value} (hx:ev e x=some v) (hf:(Instr.field s v f).run P w= .ok u w):Rd P n e w ⟨some d,.field s x f,ty,pos,aft,g⟩ u:=
 fun a ha=>by simp [execOp,ha.ev hx,hf]
end Go.Z
namespace Go.Proofs.YtbcmiijollpgeaaGreat.D
open Go Go.Z Go.Proofs
theorem fld72 (w:World) (c0 c1 c2 c3 c4 c5 c6:Value):(Instr.field 80 (.agg #[c0,c1,c2,c3,c4,c5,c6]) 2).run Tryz.prog w= .ok c2 w:=by kernel_rfl
def FE.add (f:FE) (x:Hd) (k:NT):FE:={f with done:=f.done.snoc x k}
def FE.shut (g f:FE):FE:=g.add (elemH f.nm f.al) f.done
def FE.txt (f:FE) (s:List UInt8):FE:=f.add (hdOf (textN s)) .nil
section
variable {w w' w0 w1 w2 : World} {t : Nat} {q q' q1 : SQ} {N N' : List ND} {n m : Nat} {R R' : List Nat} {f g : FE} {fr fr' : List FE} {l : List Nat}
theorem sType_calls (h:IsS w t q N (n::R) (f::fr)) (hf:fr.length≤998) (hl:N.length≤2000000) (s:List UInt8) (hs:s≠ []) (hsl:s.length≤10000000) (hlast: ∀x,f.done.lastH=some x→x.kind≠2):
  Calls Tryz.prog 48 [.pointer (some ⟨t,0,none⟩),.string (bs s)].toArray w (SPost w t q (n::R) (f.txt s::fr) q.M (N.length+1) (.tuple #[])):=by
 have hb:=h.site.blk
 have hlen:=h.len.1
 have hnN:n<N.length:=h.zf.lt n (by simp)
 have hp:=h.wf.pos
 have hkind:(N.getD n n0).kind=1:=congrArg Hd.kind h.zf.1
 have hok:WriteOk N (n:Nat) (-1):=⟨⟨by omega,by omega⟩,hkind,by unfold placeN;rw [if_pos rfl];rfl⟩
 have hzf:=h.zf.text s hs hlast
 have hlk:=h.zf.lastK hlast
 refine zCz 21 Tryz.func48 ?_
 refine zz ?_
 refine zCr rfl (sTop_calls h (by simp only [List.length_cons];omega)) fun w1 hC1=> ?_
 have h1:=h.no hC1
 refine zCp rfl (rsSpot_calls h1.site _) ?_
 have hb1:=hb.no hC1
 refine zz ?_
 refine zCl rfl (rWrite_calls h1.site.doc h.wf (by omega) s hsl h.big _ _) ?_
 rintro _ w2 ⟨qb,vn',vu',vr',ms',ks',N2,rfl,hI,hWr,hR2⟩
 refine ⟨_,rfl,?_⟩
 obtain ⟨h2,hW2⟩:=h1.site.docW hI hWr
 obtain ⟨_,e2⟩:=hR2.1 hok
 have epl:(placeN (ndOf N (n:Nat)).kids (-1)).getD 0=(N.getD n n0).kids.length:=by unfold placeN;rw [if_pos rfl];rfl
 rw [epl] at e2
 have e3:N2=writeN N s n (N.getD n n0).kids.length:=e2
 rw [←e3] at hzf
 have hwf:=hR2.wf h.wf
 have hbig: ∀i,(N2.getD i n0).text.length≤1000000000:=fun i=>by
  rw [e3]
  unfold writeN
  have a1:(N++ [textN s]).getD N.length n0=textN s:=by rw [getD_add,if_pos rfl]
  have a2:(N++ [textN s]).getD n n0=N.getD n n0:=by rw [getD_add,if_neg (by omega)]
  rw [if_neg hs,if_neg hlk,layN_get (by simp) (by simp;omega),a1,a2,getD_add]
  by_cases hi1:i=N.length
  ·rw [if_pos hi1];show s.length≤_;omega
  rw [if_neg hi1,if_neg hi1]
  split
  ·exact h.big n
  ·exact h.big i
 obtain ⟨g1,g2⟩:=h1.siteW (R':=n::R) (fr':=f.txt s::fr) h2 hW2 rfl hwf.1 hzf hbig
 refine zN ?_
 exact zk_ret0 (.inl rfl) rfl ⟨rfl,_,N2,g1,(WrS.of_no hC1 _ _).trans g2,rfl,hwf.2⟩
theorem rev_pop (n m:Nat) (R:List Nat):(n::m::R).reverse.take ((n::m::R).reverse.length - 1)=(m::R).reverse:=by
 rw [List.reverse_cons,List.length_append,List.length_singleton,Nat.add_sub_cancel,List.take_left]
theorem IsS.pop (h:IsS w t q N (n::m::R) (f::g::fr)) {v:Value} (h1:IsT w' t {q.r with vrow:=v} N (m::R).reverse) (hW:WrT w w' t q.r {q.r with vrow:=v}) {x:Value}:SPost w t q (m::R) (g.shut f::fr) q.M N.length x (.returned x) w':=by
 obtain ⟨g1,g2⟩:=h.siteW (R':=m::R) (fr':=g.shut f::fr) h1 hW rfl h.wf h.zf.close h.big
 exact ⟨rfl,_,N,g1,g2,rfl,Nat.le_refl _⟩
theorem sPop_calls (h:IsS w t q N (n::m::R) (f::g::fr)) (hf:fr.length≤998):Calls Tryz.prog 49 [.pointer (some ⟨t,0,none⟩)].toArray w (SPost w t q (m::R) (g.shut f::fr) q.M N.length (.bool true)):=by
 have hlen:=h.len.1
 refine (rsPop_calls h.site (by rw [List.length_reverse,hlen];simp only [List.length_cons];omega) (by simp) (((List.reverse_perm _).nodup_iff).2 h.zf.nodup)).mono fun e w' hh=> ?_
 obtain ⟨rfl,v,h1,hW⟩:=hh
 rw [rev_pop] at h1
 exact h.pop h1 hW
theorem lastF_top {l:List (List UInt8)} (hm:f.nm∈l):lastF l (f::g::fr)=((fr.length+1:Nat):Int):=by unfold lastF;rw [if_pos hm]
theorem IsS.lastI_calls (h:IsS w t q N R fr) (hf:fr.length≤1000) (hne:fr≠ []) {v:Value} {l:List (List UInt8)} (hN:RdS w 9 1 v l.length (T.cellsS l)) (hl:l.length≤100000):
  Calls Tryz.prog 90 [.pointer (some ⟨t,0,none⟩),v].toArray w fun x w'=>x= .returned (.int .i64 (lastF l fr))∧Chg w w' No:=by
 refine (rsLast_calls h.site h.rowN (h.pos hne) (by rw [List.length_reverse,h.len.1];omega) hN hl).mono fun e w' hh=> ?_
 rw [List.length_reverse,h.len.1,lastI_eq] at hh
 exact hh
theorem sPopTo_calls (h:IsS w t q N (n::m::R) (f::g::fr)) (hf:fr.length≤998) {v:Value} {l:List (List UInt8)} (hN:RdS w 9 1 v l.length (T.cellsS l)) (hl:l.length≤100000) (hm:f.nm∈l):
  Calls Tryz.prog 130 [.pointer (some ⟨t,0,none⟩),v].toArray w (SPost w t q (m::R) (g.shut f::fr) q.M N.length (.bool true)):=by
 have hlen:=h.len.1
 have hll:(n::m::R).reverse.length=fr.length+2:=by rw [List.length_reverse,hlen];simp only [List.length_cons]
 refine (rsPopTo_calls h.site h.rowN (h.pos (by simp)) (by omega) hN hl (fr.length+1) (by omega) ?_).mono fun e w' hh=> ?_
 ·have:=lastI_eq l (f::g::fr)
  rw [lastF_top hm] at this
  rw [hll]
  exact this
 ·obtain ⟨rfl,v,h1,hW⟩:=hh
  have e:=rev_pop n m R
  rw [hll] at e
  rw [show fr.length+1=fr.length+2 - 1 by omega,e] at h1
  exact h.pop h1 hW
theorem sHas_calls (h:IsS w t q N R (f::fr)) (hf:fr.length≤998) {v:Value} {l:List (List UInt8)} (hN:RdS w 9 1 v l.length (T.cellsS l)) (hl:l.length≤100000) (sc:Int) (hsc:sc=1∨sc=2∨sc=3∨sc=4):
  Calls Tryz.prog 123 [.pointer (some ⟨t,0,none⟩),.int .i64 sc,v].toArray w fun x w'=>(∃y,x= .returned (.bool y)∧(fr≠ []→f.nm∈l→y=true)∧([]∉l→(∀g∈f::fr,g.nm∉l)→y=false))∧Chg w w' No:=by
 have hlen:=h.len.1
 simp only [List.length_cons] at hlen
 refine (rsHas2_calls h.site h.rowN (h.pos (by simp)) (by rw [List.length_reverse];omega) hN hl sc hsc).mono fun e w' hh=> ?_
 obtain ⟨⟨y,h1,h2,h3⟩,h4⟩:=hh
 refine ⟨⟨y,h1,fun hne hm=> ?_,fun h0 hno=> ?_⟩,h4⟩
 ·have:=List.length_pos_iff.mpr hne
  refine h2 (by rw [List.length_reverse];omega) ?_
  rw [List.length_reverse,hlen,Nat.add_sub_cancel,nmsF_top]
  exact hm
 ·refine h3 fun i=> ?_
  by_cases hi:i<(nmsF (f::fr)).length
  ·have:=getD_mem (d:= []) hi
   unfold nmsF at this
   rw [List.mem_reverse,List.mem_map] at this
   obtain ⟨g,hg,he⟩:=this
   unfold nmsF
   rw [←he]
   exact hno g hg
  ·rw [List.getD_eq_getElem?_getD,List.getElem?_eq_none (by omega)]
   exact h0
theorem sImply_calls (h:IsS w t q N (n::m::R) (f::g::fr)) (hf:fr.length≤998) (but:List UInt8) (hm:f.nm∈B.wd (B.setW 4)→f.nm=but):
  Calls Tryz.prog 150 [.pointer (some ⟨t,0,none⟩),.string (bs but)].toArray w fun x w'=>x= .returned (.tuple #[])∧Chg w w' No:=by
 have hb:=h.site.blk
 have hf1:(f::g::fr).length≤1000:=by simp only [List.length_cons];omega
 have hnN:n<N.length:=h.zf.lt n (by simp)
 have hpos:0<n:=by have:=h.zf.pos 0 (by simp);simpa using this
 have hd:hdOf (N.getD n n0)=elemH f.nm f.al:=h.zf.1
 have hx:nodeOf N (n:Nat)=N.getD n n0:=if_pos ⟨by omega,by omega⟩
 have k3:(nodeOf N (n:Nat)).name=bs f.nm:=by rw [hx];exact congrArg Hd.name hd
 have hwl:(B.wd (B.setW 4)).length≤100000:=by decide+kernel
 refine zCz 23 Tryz.func150 ?_
 refine zB ?_
 refine zc_loopW (ι:=Nat) (fun k u=> [(0,.pointer (some ⟨t,0,none⟩)),(1,.string (bs but))]) (fun k u=>u=w) (fun k u=>0) 0 rfl ⟨rfl,rfl,trivial⟩ ?_
 rintro k u hu
 obtain rfl:=hu.symm
 refine zS (zS ?_)
 refine zc_draw [] (fun w'=>Chg w w' No∧Blk w' t 74 [.pointer (some ⟨q.r.pd,0,none⟩),.pointer (some ⟨q.r.pm,0,none⟩),q.r.vrow,.bool false]) (.take 0 (.take 1 (.all1 2 (.all1 3 (.all1 4 (.take 5 (.take 6 (.take 7 (.take 8 (.take 9 (.take 10 (.take 14 (.all1 11 (.all1 12 (.take 13 (.take 15 (.take 16 (.fin)))))))))))))))))) (by rfl) (by kernel_rfl) (by kernel_rfl) (fun w1 hC1 _=>⟨?_,?_⟩)
 ·exact ⟨hC1,hb.no hC1⟩
 refine ztP rfl rfl (ztP rfl rfl ?_)
 refine zs_call rfl (want_L rfl) rfl (by decide) rfl (sTop_calls (h.no hC1) hf1) ?_
 rintro _ w2 ⟨rfl,hC2⟩
 have hC2:=hC1.no hC2
 refine ⟨_,rfl,⟨hC2,hb.no hC2⟩,?_⟩
 refine zs_call rfl (want_L rfl) rfl (by decide) rfl (B.set_calls 4 (by decide) (by decide)) ?_
 rintro _ w3 ⟨⟨A,c,rfl,hO⟩,hC3⟩
 have hC3:=hC2.no hC3
 refine ⟨_,rfl,⟨hC3,hb.no hC3⟩,?_⟩
 refine zs_call rfl (want_L rfl) rfl (by decide) rfl (rsIs2_calls (h.no hC3).site hO hwl n hnN f.nm f.al hd) ?_
 rintro _ w4 ⟨rfl,hC4⟩
 have hC4:=hC3.no hC4
 refine ⟨_,rfl,⟨hC4,hb.no hC4⟩,?_⟩
 by_cases hi:f.nm∈B.wd (B.setW 4)
 ·rw [decide_eq_true (⟨by omega,hi⟩:n≠0∧f.nm∈B.wd (B.setW 4))]
  have hbut:=hm hi
  refine zz ?_
  refine zs_call rfl (want_L rfl) rfl (by decide) rfl (sTop_calls (h.no hC4) hf1) ?_
  rintro _ w5 ⟨rfl,hC5⟩
  have hC5:=hC4.no hC5
  refine ⟨_,rfl,⟨hC5,hb.no hC5⟩,?_⟩
  refine zs_call rfl (want_L rfl) rfl (by decide) rfl (rNode_calls (h.no hC5).site.doc (n:Nat)) ?_
  rintro _ w6 ⟨va,rfl,hA6,hC6⟩
  have hC6:=hC5.no hC6
  refine ⟨_,rfl,⟨hC6,hb.no hC6⟩,?_⟩
  rw [k3,hbut]
  refine zRd rfl rfl (fun _ hS=>r_field rfl (fld72 _ _ _ _ _ _ _ _)) ?_
  refine zRd rfl rfl (fun _ hS=>r_neS0 rfl rfl rfl) ?_
  refine zz ?_
  exact zk_ret0 (.inl rfl) rfl ⟨rfl,hC6⟩
 ·rw [decide_eq_false (fun hh:n≠0∧f.nm∈B.wd (B.setW 4)=>hi hh.2)]
  refine zz ?_
  exact zk_ret0 (.inl rfl) rfl ⟨rfl,hC4⟩
end
section
variable {w w' w0 w1 w2 : World} {t : Nat} {q q' q1 : SQ} {N N' : List ND} {n m : Nat} {R R' : List Nat} {f g : FE} {fr fr' : List FE} {l : List Nat}
theorem sPlace_calls (h:IsS w t q N (n::R) (f::fr)) (hf:fr.length≤998):Calls Tryz.prog 115 [.pointer (some ⟨t,0,none⟩),.int .i64 (n:Nat)].toArray w fun e w'=>e= .returned (.int .i64 (fr.length:Nat))∧w'=w:=by
 have hlen:=h.len.1
 simp only [List.length_cons] at hlen
 have hll:(n::R).reverse.length=fr.length+1:=by rw [List.length_reverse];simp only [List.length_cons];omega
 have hnd:(n::R).reverse.Nodup:=((List.reverse_perm _).nodup_iff).2 h.zf.nodup
 have:=rsPlace2_calls h.site (by omega) fr.length (by omega) (fun k hk=>nodup_lt hnd hk (by omega))
 have e:=rev_top n R
 rw [hll,Nat.add_sub_cancel] at e
 rw [e] at this
 exact this
theorem sPlaceR_calls (h:IsS w t q N R (f::fr)) (hf:fr.length≤998) (n:Nat) (hn:n∈R):Calls Tryz.prog 115 [.pointer (some ⟨t,0,none⟩),.int .i64 (n:Nat)].toArray w fun e w'=>(∃j:Nat,e= .returned (.int .i64 (j:Nat)))∧w'=w:=by
 have hlen:=h.len.1
 simp only [List.length_cons] at hlen
 have hnd:R.reverse.Nodup:=((List.reverse_perm _).nodup_iff).2 h.zf.nodup
 obtain ⟨j,hj,hje⟩:=List.getElem_of_mem (List.mem_reverse.mpr hn)
 have e:R.reverse.getD j 0=n:=by rw [List.getD_eq_getElem?_getD,List.getElem?_eq_getElem hj];exact hje
 have:=rsPlace2_calls h.site (by rw [List.length_reverse];omega) j hj (fun k hk=>nodup_lt hnd hk hj)
 rw [e] at this
 exact this.mono fun e w' hh=>⟨⟨j,hh.1⟩,hh.2⟩
theorem walled_calls (h:IsS w t q N (n::R) (f::fr)) (hf:fr.length≤998):Calls Tryz.prog 185 [.pointer (some ⟨t,0,none⟩),.int .i64 (n:Nat)].toArray w fun e w'=>e= .returned (.bool false)∧w'=w:=by
 have hb:=h.site.blk
 have hlen:=h.len.1
 simp only [List.length_cons] at hlen
 obtain ⟨A,c,hv,hc⟩:=h.site.row.rd.form
 have hll:(n::R).reverse.length=fr.length+1:=by rw [List.length_reverse];simp only [List.length_cons];omega
 rw [hll] at hv hc
 rw [hv] at hb
 refine zCz 37 Tryz.func185 ?_
 refine zz ?_
 refine zCp rfl (sPlace_calls h hf) ?_
 refine zz ?_
 refine zc_loopW (ι:=Nat) (fun k u=> [(0,.pointer (some ⟨t,0,none⟩)),(5,.int .i64 ((fr.length:Nat)+1:Int))]) (fun k u=>u=w) (fun k u=>0) 0 rfl ⟨rfl,rfl,trivial⟩ ?_
 rintro k u hu
 obtain rfl:=hu.symm
 refine zz ?_
 exact zk_ret1 (.inr rfl) rfl rfl ⟨rfl,rfl⟩
theorem block_calls (h:IsS w t q N (n::R) (f::fr)) (hf:fr.length≤998):Calls Tryz.prog 186 [.pointer (some ⟨t,0,none⟩),.int .i64 (n:Nat)].toArray w fun e w'=>e= .returned (.int .i64 (-1))∧w'=w:=by
 have hb:=h.site.blk
 have hlen:=h.len.1
 simp only [List.length_cons] at hlen
 obtain ⟨A,c,hv,hc⟩:=h.site.row.rd.form
 have hll:(n::R).reverse.length=fr.length+1:=by rw [List.length_reverse];simp only [List.length_cons];omega
 rw [hll] at hv hc
 rw [hv] at hb
 refine zCz 42 Tryz.func186 ?_
 refine zz ?_
 refine zCp rfl (sPlace_calls h hf) ?_
 refine zz ?_
 refine zc_loopW (ι:=Nat) (fun k u=> [(0,.pointer (some ⟨t,0,none⟩)),(5,.int .i64 (fr.length:Nat)),(6,.int .i64 ((fr.length:Nat)+1:Int))]) (fun k u=>u=w) (fun k u=>0) 0 rfl ⟨rfl,rfl,rfl,trivial⟩ ?_
 rintro k u hu
 obtain rfl:=hu.symm
 refine zz ?_
 exact zk_ret1 (.inr rfl) rfl rfl ⟨rfl,rfl⟩
theorem findM_top {M:List MK} {nm:List UInt8} {wl k:Nat} (h1:wl≤k) (h2:(M.getD k mk0).nm=nm):findM M nm wl (k+1)=(k:Int):=by
 unfold findM
 rw [if_neg (by omega),if_pos h2]
theorem wallK_top {M:List MK} {k:Nat} (h: ¬(M.getD k mk0).n<0):wallK M (k+1)≤k:=by
 unfold wallK
 rw [if_neg h]
 exact wallK_le M k
theorem close_calls (h:IsS w t q N (n::m::R) (f::g::fr)) (hf:fr.length≤997) (M0:List MK) (x:MK) (hM:q.M=M0++ [x]) (hx:x.n=(n:Nat)) (hnm:x.nm=f.nm) (hMl:M0.length≤100000):
  Calls Tryz.prog 162 [.pointer (some ⟨t,0,none⟩),.string (bs f.nm)].toArray w (SPost w t q (m::R) (g.shut f::fr) M0 N.length (.bool true)):=by
 have hlen:=h.len.1
 simp only [List.length_cons] at hlen
 have hf1:(f::g::fr).length≤1000:=by simp only [List.length_cons];omega
 have hf2:(g::fr).length≤998:=by simp only [List.length_cons];omega
 have hb:=h.site.blk
 have hnN:n<N.length:=h.zf.lt n (by simp)
 have hpos:0<n:=by have:=h.zf.pos 0 (by simp);simpa using this
 have hd:hdOf (N.getD n n0)=elemH f.nm f.al:=h.zf.1
 have hll:(n::m::R).reverse.length=fr.length+2:=by rw [List.length_reverse];simp only [List.length_cons];omega
 have hMlen:q.M.length=M0.length+1:=by rw [hM];simp
 have hMx:q.M.getD M0.length mk0=x:=by rw [hM,List.getD_eq_getElem?_getD,List.getElem?_append_right (Nat.le_refl _),Nat.sub_self];rfl
 have hcut:q.M.take M0.length++q.M.drop (M0.length+1)=M0:=by
  rw [hM,List.take_left,List.drop_of_length_le (by simp),List.append_nil]
 have hfind:findM q.M f.nm (wallK q.M q.M.length) q.M.length=(M0.length:Int):=by
  rw [hMlen]
  exact findM_top (wallK_top (by rw [hMx,hx];omega)) (by rw [hMx,hnm])
 have hin: ∃i,i<q.M.length∧(q.M.getD i mk0).n=((n:Nat):Int):=⟨M0.length,by omega,by rw [hMx,hx]⟩
 obtain ⟨Ar,cr,hvr,hcr⟩:=h.site.row.rd.form
 rw [hll] at hvr hcr
 have hK:=h.site.row
 rw [hll,hvr] at hK
 rw [hvr] at hb
 have hpop:(n::m::R).reverse.take (fr.length+1)=(m::R).reverse:=by
  have:=rev_pop n m R
  rw [hll] at this
  exact this
 refine zCz 96 Tryz.func162 ?_
 refine zz ?_
 refine zc_draw [] (fun w'=>Chg w w' No∧Blk w' t 74 [.pointer (some ⟨q.r.pd,0,none⟩),.pointer (some ⟨q.r.pm,0,none⟩),.slice Ar (fr.length+2) cr,.bool false]) (.take 0 (.take 1 (.take 3 (.all2 2 (.all1 4 (.all1 5 (.take 6 (.take 7 (.take 8 (.take 9 (.take 10 (.take 11 (.all1 12 (.all1 13 (.take 14 (.take 15 (.fin))))))))))))) 4 (.all1 2 (.all1 5 (.take 6 (.take 7 (.take 8 (.take 9 (.take 10 (.take 11 (.all1 12 (.all1 13 (.take 14 (.take 15 (.fin))))))))))))))))) (by rfl) (by kernel_rfl) (by kernel_rfl) (fun w1 hC1 _=>⟨?_,?_⟩)
 ·exact ⟨hC1,hb.no hC1⟩
 have key: ∀{u:World} {v:Value},Chg w u No→RdS u 9 1 v 1 (T.cellsS [f.nm])→Calls Tryz.prog 111 [.pointer (some ⟨t,0,none⟩),.int .i64 (n:Nat),v].toArray u fun x w'=>x= .returned (.bool true)∧Chg u w' No:=fun {u v} hC hR=>by
  refine (rsIs2_calls (h.no hC).site (l:= [f.nm]) hR (by simp) n hnN f.nm f.al hd).mono fun e w' hh=> ?_
  rw [decide_eq_true (⟨by omega,by simp⟩:n≠0∧f.nm∈ [f.nm])] at hh
  exact hh
 -- BODY (printed by g9gen.py)
 refine ztP rfl rfl (ztP rfl rfl (ztP rfl rfl ?_))
 refine zs_two ?_ ?_
 ·refine zo_call rfl (want_L rfl) rfl (by decide) rfl (sTop_calls (h.no hC1) hf1) ?_
  rintro _ w2 ⟨rfl,hC2⟩
  have hC2:=hC1.no hC2
  refine ⟨_,rfl,⟨hC2,hb.no hC2⟩,?_⟩
  refine zs_bs1 rfl (want_L rfl) (by decide) rfl (by rfl) (by rfl) (by decide) (by decide) (fun w3 cb hM3=> ?_)
  have hC3:=hC2.no hM3.chg
  have hr:RdS w3 9 1 (.slice (some ⟨cb,0,none⟩) 1 1) 1 (T.cellsS [f.nm]):=RdS.new hM3 rfl (T.cellsS_one _)
  refine ⟨⟨hC3,hb.no hC3⟩,?_⟩
  refine zs_call rfl (want_L rfl) rfl (by decide) rfl (key hC3 hr) ?_
  rintro _ w4 ⟨rfl,hC4⟩
  have hC4:=hC3.no hC4
  refine ⟨_,rfl,⟨hC4,hb.no hC4⟩,?_⟩
  refine zz ?_
  refine zs_call rfl (want_L rfl) rfl (by decide) rfl (sTop_calls (h.no hC4) hf1) ?_
  rintro _ w5 ⟨rfl,hC5⟩
  have hC5:=hC4.no hC5
  refine ⟨_,rfl,⟨hC5,hb.no hC5⟩,?_⟩
  refine zs_call rfl (want_L rfl) rfl (by decide) rfl (mkOf_calls (h.no hC5).mar (by omega) (n:Nat) hin) ?_
  rintro _ u ⟨⟨j,rfl⟩,hu⟩
  obtain rfl:=hu.symm
  refine ⟨_,rfl,⟨hC5,hb.no hC5⟩,?_⟩
  refine zz ?_
  refine zc_loopW (ι:=Nat) (fun k u=> [(0,.pointer (some ⟨t,0,none⟩)),(1,.string (bs f.nm)),(5,.int .i64 0)]) (fun k u=>Chg w u No) (fun k u=>0) 0 hC5 ⟨rfl,rfl,rfl,trivial⟩ ?_
  rintro k w6 hC6
  have hb6:=hb.no hC6
  refine zz ?_
  refine zCp rfl (mkFind_calls (h.no hC6).mar (by omega) f.nm) ?_
  rw [hfind]
  refine zz ?_
  refine zCr rfl (mkAt_calls (h.no hC6).mar M0.length (by omega) (by omega)) fun w7 hC7=> ?_
  rw [hMx,hx]
  have hC7:=hC6.no hC7
  have hb7:=hb.no hC7
  refine zP rfl (zP rfl (zP rfl ?_))
  refine zAl (fun w8 b8 hN8=> ?_)
  have hb8:Blk w8 b8 173 [.int .i64 0,.string ⟨#[]⟩,.slice none 0 0]:=hN8.blk
  have hge8:=hN8.ge hC7
  refine z_store (want_L rfl) rfl rfl rfl (by assumption) (by first|exact Nat.le_refl _|simp [Value.cells]) (by simp [Value.cells,Value.oneCell']) (fun w9 hU9=> ?_)
  have hC9:Chg w w9 No:=(hC7.no hN8.chg).upd hU9 hge8
  have hb9:=hb.no hC9
  have hb89:Blk w9 b8 173 [.int .i64 (n:Nat),.string (bs x.nm),.slice x.A x.l x.c]:=hU9.blk
  refine zz ?_
  refine zCp rfl (sPlace_calls (h.no hC9) hf2) ?_
  refine zz ?_
  refine zCp rfl (walled_calls (h.no hC9) hf2) ?_
  refine zz ?_
  refine zCp rfl (block_calls (h.no hC9) hf2) ?_
  refine zz ?_
  refine zc_draw [13] (fun w'=>Chg w w' No∧Blk w' t 74 [.pointer (some ⟨q.r.pd,0,none⟩),.pointer (some ⟨q.r.pm,0,none⟩),.slice Ar (fr.length+2) cr,.bool false]) (.take 0 (.take 2 (.take 3 (.take 4 (.take 5 (.take 6 (.take 7 (.all2 1 (.all1 8 (.take 9 (.all1 10 (.plain 11 (.take 12 (.last 13)))))) 8 (.take 9 (.all1 1 (.all1 10 (.plain 11 (.take 12 (.last 13)))))))))))))) (by rfl) (by kernel_rfl) (by kernel_rfl) (fun wa hCa _=>⟨?_,?_⟩)
  ·exact ⟨hC9.no hCa,hb9.no hCa⟩
  have hCa:Chg w wa No:=hC9.no hCa
  refine zz ?_
  refine zs_two ?_ ?_
  ·refine zo_bs0 rfl (want_L rfl) (by decide) (fun wb ca hMb=> ?_)
   have hCc:Chg w wb No:=hCa.no hMb.chg
   refine ⟨⟨hCc,hb.no hCc⟩,?_⟩
   have hF:FO w.heap.size wb (.slice (some ⟨ca,0,none⟩) 0 0) 0 []:=⟨Own.empty hMb,fun k hk=>by simp only [Value.ownBlock,Option.some.injEq] at hk;have:=hMb.at_;have:=hCa.size;omega⟩
   refine zs_call rfl (want_L rfl) rfl (by decide) rfl (sPlace_calls (h.no hCc) hf2) ?_
   rintro _ u ⟨rfl,hu⟩
   obtain rfl:=hu.symm
   refine ⟨_,rfl,⟨hCc,hb.no hCc⟩,?_⟩
   refine zRd rfl rfl (fun _ hS=>r_cutTo (k:=fr.length+1) hK.flat rfl (by show some _=_;simp) (by omega)) ?_
   refine zs_appendO rfl (by rfl) (by decide) (want_L rfl) (by decide) rfl rfl hF.1 ((hK.take (fr.length+1) (by omega)).rd.no hCc) (by omega) (by omega) (fun vwd wd hOd hXd hrd=> ?_)
   have hCd:Chg w wd No:=hF.ch hCc hXd
   refine ⟨⟨hCd,hb.no hCd⟩,?_⟩
   have hF:=hF.grow hCc.size hOd hrd
   obtain ⟨Ad,cd,hvd,_⟩:=hF.1.rd.form
   subst hvd
   have hbd:=hb.no hCd
   have hO:Own wd 3 1 (.slice Ad (0+(fr.length+1)) cd) (m::R).reverse.length (intC (m::R).reverse):=by
    have e:=hF.1
    rw [List.nil_append,intC_take,hpop] at e
    rw [show (m::R).reverse.length=0+(fr.length+1) by rw [List.length_reverse];simp only [List.length_cons];omega]
    exact e
   refine zz ?_
   refine zs_storeL rfl (want_L rfl) rfl rfl rfl (by assumption) (by first|exact Nat.le_refl _|simp [Value.cells]) (by simp [Value.cells,Value.oneCell']) (fun we hUe=> ?_)
   obtain ⟨g1,g2⟩:=(h.no hCd).site.rowW hUe hO hF.2 hCd h.site
   have g3:IsS we t {q with r:={q.r with vrow:= .slice Ad (0+(fr.length+1)) cd}} N (m::R) (g.shut f::fr)∧WrS w we t q {q with r:={q.r with vrow:= .slice Ad (0+(fr.length+1)) cd}}:=h.siteW g1 g2 rfl h.wf h.zf.close h.big
   obtain ⟨g3,g4⟩:=g3
   have hbe:=g3.site.blk
   refine zz ?_
   refine zCl rfl (mkDrop_calls g3.mar (by show q.M.length≤_;omega) M0.length (by show _<q.M.length;omega)) ?_
   rintro _ wf ⟨rfl,vf,g5,g6,g7⟩
   refine ⟨_,rfl,?_⟩
   have g5:IsK wf q.r.pm vf M0:=by rw [←hcut];exact g5
   obtain ⟨g8,g9⟩:=g3.mkW g5 g6 g7
   refine zz ?_
   exact zk_ret1 (.inr rfl) rfl rfl ⟨rfl,_,N,g8,g4.trans g9,rfl,Nat.le_refl _⟩
  ·refine zo_call rfl (want_L rfl) rfl (by decide) rfl (sPlace_calls (h.no hCa) hf2) ?_
   rintro _ u ⟨rfl,hu⟩
   obtain rfl:=hu.symm
   refine ⟨_,rfl,⟨hCa,hb.no hCa⟩,?_⟩
   refine zRd rfl rfl (fun _ hS=>r_cutTo (k:=fr.length+1) hK.flat rfl (by show some _=_;simp) (by omega)) ?_
   refine zs_bs0 rfl (want_L rfl) (by decide) (fun wb ca hMb=> ?_)
   have hCc:Chg w wb No:=hCa.no hMb.chg
   refine ⟨⟨hCc,hb.no hCc⟩,?_⟩
   have hF:FO w.heap.size wb (.slice (some ⟨ca,0,none⟩) 0 0) 0 []:=⟨Own.empty hMb,fun k hk=>by simp only [Value.ownBlock,Option.some.injEq] at hk;have:=hMb.at_;have:=hCa.size;omega⟩
   refine zs_appendO rfl (by rfl) (by decide) (want_L rfl) (by decide) rfl rfl hF.1 ((hK.take (fr.length+1) (by omega)).rd.no hCc) (by omega) (by omega) (fun vwd wd hOd hXd hrd=> ?_)
   have hCd:Chg w wd No:=hF.ch hCc hXd
   refine ⟨⟨hCd,hb.no hCd⟩,?_⟩
   have hF:=hF.grow hCc.size hOd hrd
   obtain ⟨Ad,cd,hvd,_⟩:=hF.1.rd.form
   subst hvd
   have hbd:=hb.no hCd
   have hO:Own wd 3 1 (.slice Ad (0+(fr.length+1)) cd) (m::R).reverse.length (intC (m::R).reverse):=by
    have e:=hF.1
    rw [List.nil_append,intC_take,hpop] at e
    rw [show (m::R).reverse.length=0+(fr.length+1) by rw [List.length_reverse];simp only [List.length_cons];omega]
    exact e
   refine zz ?_
   refine zs_storeL rfl (want_L rfl) rfl rfl rfl (by assumption) (by first|exact Nat.le_refl _|simp [Value.cells]) (by simp [Value.cells,Value.oneCell']) (fun we hUe=> ?_)
   obtain ⟨g1,g2⟩:=(h.no hCd).site.rowW hUe hO hF.2 hCd h.site
   have g3:IsS we t {q with r:={q.r with vrow:= .slice Ad (0+(fr.length+1)) cd}} N (m::R) (g.shut f::fr)∧WrS w we t q {q with r:={q.r with vrow:= .slice Ad (0+(fr.length+1)) cd}}:=h.siteW g1 g2 rfl h.wf h.zf.close h.big
   obtain ⟨g3,g4⟩:=g3
   have hbe:=g3.site.blk
   refine zz ?_
   refine zCl rfl (mkDrop_calls g3.mar (by show q.M.length≤_;omega) M0.length (by show _<q.M.length;omega)) ?_
   rintro _ wf ⟨rfl,vf,g5,g6,g7⟩
   refine ⟨_,rfl,?_⟩
   have g5:IsK wf q.r.pm vf M0:=by rw [←hcut];exact g5
   obtain ⟨g8,g9⟩:=g3.mkW g5 g6 g7
   refine zz ?_
   exact zk_ret1 (.inr rfl) rfl rfl ⟨rfl,_,N,g8,g4.trans g9,rfl,Nat.le_refl _⟩
 ·refine zo_bs1 rfl (want_L rfl) (by decide) rfl (by rfl) (by rfl) (by decide) (by decide) (fun w2 cb hM3=> ?_)
  have hC2:=hC1.no hM3.chg
  have hr:RdS w2 9 1 (.slice (some ⟨cb,0,none⟩) 1 1) 1 (T.cellsS [f.nm]):=RdS.new hM3 rfl (T.cellsS_one _)
  refine ⟨⟨hC2,hb.no hC2⟩,?_⟩
  refine zs_call rfl (want_L rfl) rfl (by decide) rfl (sTop_calls (h.no hC2) hf1) ?_
  rintro _ w3 ⟨rfl,hC3⟩
  have hr:=hr.no hC3
  have hC3:=hC2.no hC3
  refine ⟨_,rfl,⟨hC3,hb.no hC3⟩,?_⟩
  refine zs_call rfl (want_L rfl) rfl (by decide) rfl (key hC3 hr) ?_
  rintro _ w4 ⟨rfl,hC4⟩
  have hC4:=hC3.no hC4
  refine ⟨_,rfl,⟨hC4,hb.no hC4⟩,?_⟩
  refine zz ?_
  refine zs_call rfl (want_L rfl) rfl (by decide) rfl (sTop_calls (h.no hC4) hf1) ?_
  rintro _ w5 ⟨rfl,hC5⟩
  have hC5:=hC4.no hC5
  refine ⟨_,rfl,⟨hC5,hb.no hC5⟩,?_⟩
  refine zs_call rfl (want_L rfl) rfl (by decide) rfl (mkOf_calls (h.no hC5).mar (by omega) (n:Nat) hin) ?_
  rintro _ u ⟨⟨j,rfl⟩,hu⟩
  obtain rfl:=hu.symm
  refine ⟨_,rfl,⟨hC5,hb.no hC5⟩,?_⟩
  refine zz ?_
  refine zc_loopW (ι:=Nat) (fun k u=> [(0,.pointer (some ⟨t,0,none⟩)),(1,.string (bs f.nm)),(5,.int .i64 0)]) (fun k u=>Chg w u No) (fun k u=>0) 0 hC5 ⟨rfl,rfl,rfl,trivial⟩ ?_
  rintro k w6 hC6
  have hb6:=hb.no hC6
  refine zz ?_
  refine zCp rfl (mkFind_calls (h.no hC6).mar (by omega) f.nm) ?_
  rw [hfind]
  refine zz ?_
  refine zCr rfl (mkAt_calls (h.no hC6).mar M0.length (by omega) (by omega)) fun w7 hC7=> ?_
  rw [hMx,hx]
  have hC7:=hC6.no hC7
  have hb7:=hb.no hC7
  refine zP rfl (zP rfl (zP rfl ?_))
  refine zAl (fun w8 b8 hN8=> ?_)
  have hb8:Blk w8 b8 173 [.int .i64 0,.string ⟨#[]⟩,.slice none 0 0]:=hN8.blk
  have hge8:=hN8.ge hC7
  refine z_store (want_L rfl) rfl rfl rfl (by assumption) (by first|exact Nat.le_refl _|simp [Value.cells]) (by simp [Value.cells,Value.oneCell']) (fun w9 hU9=> ?_)
  have hC9:Chg w w9 No:=(hC7.no hN8.chg).upd hU9 hge8
  have hb9:=hb.no hC9
  have hb89:Blk w9 b8 173 [.int .i64 (n:Nat),.string (bs x.nm),.slice x.A x.l x.c]:=hU9.blk
  refine zz ?_
  refine zCp rfl (sPlace_calls (h.no hC9) hf2) ?_
  refine zz ?_
  refine zCp rfl (walled_calls (h.no hC9) hf2) ?_
  refine zz ?_
  refine zCp rfl (block_calls (h.no hC9) hf2) ?_
  refine zz ?_
  refine zc_draw [13] (fun w'=>Chg w w' No∧Blk w' t 74 [.pointer (some ⟨q.r.pd,0,none⟩),.pointer (some ⟨q.r.pm,0,none⟩),.slice Ar (fr.length+2) cr,.bool false]) (.take 0 (.take 2 (.take 3 (.take 4 (.take 5 (.take 6 (.take 7 (.all2 1 (.all1 8 (.take 9 (.all1 10 (.plain 11 (.take 12 (.last 13)))))) 8 (.take 9 (.all1 1 (.all1 10 (.plain 11 (.take 12 (.last 13)))))))))))))) (by rfl) (by kernel_rfl) (by kernel_rfl) (fun wa hCa _=>⟨?_,?_⟩)
  ·exact ⟨hC9.no hCa,hb9.no hCa⟩
  have hCa:Chg w wa No:=hC9.no hCa
  refine zz ?_
  refine zs_two ?_ ?_
  ·refine zo_bs0 rfl (want_L rfl) (by decide) (fun wb ca hMb=> ?_)
   have hCc:Chg w wb No:=hCa.no hMb.chg
   refine ⟨⟨hCc,hb.no hCc⟩,?_⟩
   have hF:FO w.heap.size wb (.slice (some ⟨ca,0,none⟩) 0 0) 0 []:=⟨Own.empty hMb,fun k hk=>by simp only [Value.ownBlock,Option.some.injEq] at hk;have:=hMb.at_;have:=hCa.size;omega⟩
   refine zs_call rfl (want_L rfl) rfl (by decide) rfl (sPlace_calls (h.no hCc) hf2) ?_
   rintro _ u ⟨rfl,hu⟩
   obtain rfl:=hu.symm
   refine ⟨_,rfl,⟨hCc,hb.no hCc⟩,?_⟩
   refine zRd rfl rfl (fun _ hS=>r_cutTo (k:=fr.length+1) hK.flat rfl (by show some _=_;simp) (by omega)) ?_
   refine zs_appendO rfl (by rfl) (by decide) (want_L rfl) (by decide) rfl rfl hF.1 ((hK.take (fr.length+1) (by omega)).rd.no hCc) (by omega) (by omega) (fun vwd wd hOd hXd hrd=> ?_)
   have hCd:Chg w wd No:=hF.ch hCc hXd
   refine ⟨⟨hCd,hb.no hCd⟩,?_⟩
   have hF:=hF.grow hCc.size hOd hrd
   obtain ⟨Ad,cd,hvd,_⟩:=hF.1.rd.form
   subst hvd
   have hbd:=hb.no hCd
   have hO:Own wd 3 1 (.slice Ad (0+(fr.length+1)) cd) (m::R).reverse.length (intC (m::R).reverse):=by
    have e:=hF.1
    rw [List.nil_append,intC_take,hpop] at e
    rw [show (m::R).reverse.length=0+(fr.length+1) by rw [List.length_reverse];simp only [List.length_cons];omega]
    exact e
   refine zz ?_
   refine zs_storeL rfl (want_L rfl) rfl rfl rfl (by assumption) (by first|exact Nat.le_refl _|simp [Value.cells]) (by simp [Value.cells,Value.oneCell']) (fun we hUe=> ?_)
   obtain ⟨g1,g2⟩:=(h.no hCd).site.rowW hUe hO hF.2 hCd h.site
   have g3:IsS we t {q with r:={q.r with vrow:= .slice Ad (0+(fr.length+1)) cd}} N (m::R) (g.shut f::fr)∧WrS w we t q {q with r:={q.r with vrow:= .slice Ad (0+(fr.length+1)) cd}}:=h.siteW g1 g2 rfl h.wf h.zf.close h.big
   obtain ⟨g3,g4⟩:=g3
   have hbe:=g3.site.blk
   refine zz ?_
   refine zCl rfl (mkDrop_calls g3.mar (by show q.M.length≤_;omega) M0.length (by show _<q.M.length;omega)) ?_
   rintro _ wf ⟨rfl,vf,g5,g6,g7⟩
   refine ⟨_,rfl,?_⟩
   have g5:IsK wf q.r.pm vf M0:=by rw [←hcut];exact g5
   obtain ⟨g8,g9⟩:=g3.mkW g5 g6 g7
   refine zz ?_
   exact zk_ret1 (.inr rfl) rfl rfl ⟨rfl,_,N,g8,g4.trans g9,rfl,Nat.le_refl _⟩
  ·refine zo_call rfl (want_L rfl) rfl (by decide) rfl (sPlace_calls (h.no hCa) hf2) ?_
   rintro _ u ⟨rfl,hu⟩
   obtain rfl:=hu.symm
   refine ⟨_,rfl,⟨hCa,hb.no hCa⟩,?_⟩
   refine zRd rfl rfl (fun _ hS=>r_cutTo (k:=fr.length+1) hK.flat rfl (by show some _=_;simp) (by omega)) ?_
   refine zs_bs0 rfl (want_L rfl) (by decide) (fun wb ca hMb=> ?_)
   have hCc:Chg w wb No:=hCa.no hMb.chg
   refine ⟨⟨hCc,hb.no hCc⟩,?_⟩
   have hF:FO w.heap.size wb (.slice (some ⟨ca,0,none⟩) 0 0) 0 []:=⟨Own.empty hMb,fun k hk=>by simp only [Value.ownBlock,Option.some.injEq] at hk;have:=hMb.at_;have:=hCa.size;omega⟩
   refine zs_appendO rfl (by rfl) (by decide) (want_L rfl) (by decide) rfl rfl hF.1 ((hK.take (fr.length+1) (by omega)).rd.no hCc) (by omega) (by omega) (fun vwd wd hOd hXd hrd=> ?_)
   have hCd:Chg w wd No:=hF.ch hCc hXd
   refine ⟨⟨hCd,hb.no hCd⟩,?_⟩
   have hF:=hF.grow hCc.size hOd hrd
   obtain ⟨Ad,cd,hvd,_⟩:=hF.1.rd.form
   subst hvd
   have hbd:=hb.no hCd
   have hO:Own wd 3 1 (.slice Ad (0+(fr.length+1)) cd) (m::R).reverse.length (intC (m::R).reverse):=by
    have e:=hF.1
    rw [List.nil_append,intC_take,hpop] at e
    rw [show (m::R).reverse.length=0+(fr.length+1) by rw [List.length_reverse];simp only [List.length_cons];omega]
    exact e
   refine zz ?_
   refine zs_storeL rfl (want_L rfl) rfl rfl rfl (by assumption) (by first|exact Nat.le_refl _|simp [Value.cells]) (by simp [Value.cells,Value.oneCell']) (fun we hUe=> ?_)
   obtain ⟨g1,g2⟩:=(h.no hCd).site.rowW hUe hO hF.2 hCd h.site
   have g3:IsS we t {q with r:={q.r with vrow:= .slice Ad (0+(fr.length+1)) cd}} N (m::R) (g.shut f::fr)∧WrS w we t q {q with r:={q.r with vrow:= .slice Ad (0+(fr.length+1)) cd}}:=h.siteW g1 g2 rfl h.wf h.zf.close h.big
   obtain ⟨g3,g4⟩:=g3
   have hbe:=g3.site.blk
   refine zz ?_
   refine zCl rfl (mkDrop_calls g3.mar (by show q.M.length≤_;omega) M0.length (by show _<q.M.length;omega)) ?_
   rintro _ wf ⟨rfl,vf,g5,g6,g7⟩
   refine ⟨_,rfl,?_⟩
   have g5:IsK wf q.r.pm vf M0:=by rw [←hcut];exact g5
   obtain ⟨g8,g9⟩:=g3.mkW g5 g6 g7
   refine zz ?_
   exact zk_ret1 (.inr rfl) rfl rfl ⟨rfl,_,N,g8,g4.trans g9,rfl,Nat.le_refl _⟩
 -- END
end
end Go.Proofs.YtbcmiijollpgeaaGreat.D
